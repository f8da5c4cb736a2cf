-- this session's own text: written by wip/tools/ownprint.py over the kit's print
import Derived.Test.YtblnnbaeiggmoaaAFnSplitx0
import Derived.Test.YtblnnbaeiggmoaaAFnSplitx1
import Derived.Test.YtblnnbaeiggmoaaAFnSplitx3
import Derived.Test.YtblnnbaeiggmoaaAFnSplitx5
import Derived.Test.YtblnnbaeiggmoaaAFnSplitx7
import Derived.Test.YtblnnbaeiggmoaaAFnSplitx8
namespace Go.Proofs.Ytblnnbaeiggmoaa.AFnSplit
open Go.RowKit Go.Proofs.YtblnnbaeiggmoaaW.PrintWords Go.Proofs.YtblnnbaeiggmoaaW.PrintLast Go.Proofs.YtblnnbaeiggmoaaW.PrintMore
attribute [local go_sem] max2_int min2_int max_two min_two max_three min_three max_four min_four   -- for this text's walks alone
set_option linter.unusedVariables false
set_option linter.unusedSimpArgs false

/-! ### impl_limb_split: function 37, by hand -/
/-- Both parts of a rope; none where Go would panic. -/
def spl : Limb → Int → Option (Limb × Limb)
 | .nil, _ => some (.nil, .nil)
 | .node l r s n d, at_ =>
  if at_ = 0 then some (.nil, .node l r s n d)
  else if at_ = n then some (.node l r s n d, .nil)
  else if l.isNil = true then (if 0 ≤ at_ ∧ at_ ≤ (s.size : Int) then some (lf (s.extract 0 at_.toNat), lf (s.extract at_.toNat s.size)) else none)
  else if at_ ≤ l.size then (spl l at_).bind fun p => some (p.1, fk p.2 r)
  else (spl r (wrap64 (at_ - l.size))).bind fun p => some (fk l p.1, p.2)
def SpAt (w : World) (ok : Nat → Prop) (p : Limb × Limb) (e : Ending) (w' : World) : Prop := ∃ A B, e = .returned (.tuple #[.pointer A, .pointer B]) ∧ LmAt w' ok p.1 A ∧ LmAt w' ok p.2 B ∧ Below w.heap.size w w'
set_option maxHeartbeats 4000000 in
set_option maxRecDepth 100000 in
theorem split_any (t : Limb) : ∀ (A : Option Addr) (at_ : Int) (ok : Nat → Prop) (w : World) (p : Limb × Limb), LmAt w ok t A → (∀ k, w.heap.size ≤ k → ok k) → spl t at_ = some p →
  Calls Try.prog 37 #[.pointer A, .int .i64 at_] w (SpAt w ok p) := by
 induction t with
 | nil =>
  intro A at_ ok w p hA hok h
  obtain rfl : A = none := hA
  obtain rfl := sI h
  clear h hok
  go_enter Try.func37, Try.ntmps37
  go_wp2
  go_ret2
  exact ⟨none, none, rfl, rfl, rfl, Below.refl _ _⟩
 | node l r s n d ihl ihr =>
  intro A at_ ok w p hA hok h
  have HA := aM hA
  have HK := aM hok
  obtain ⟨b, L, R, rfl, hb, hc, hl, hr⟩ := hA
  have HC := aM hc
  have HL := aM hl
  have HR := aM hr
  have c0 : w.cell? ⟨b, 0, none⟩ = some (.pointer L) := (bC hc 0).trans rfl
  have c1 : w.cell? ⟨b, 1, none⟩ = some (.pointer R) := (bC hc 1).trans rfl
  have c2 : w.cell? ⟨b, 2, none⟩ = some (.string s) := (bC hc 2).trans rfl
  have c3 : w.cell? ⟨b, 3, none⟩ = some (.int .i64 n) := (bC hc 3).trans rfl
  unfold spl at h
  by_cases h0 : at_ = 0
  ·rw [if_pos h0] at h
   obtain rfl := sI h
   have q0 : (at_ == 0) = true := qT h0
   clear h h0 hok hb hc hl hr ihl ihr
   go_enter Try.func37, Try.ntmps37
   go_wp2
   go_ret2
   exact ⟨none, _, rfl, rfl, HA.out, Below.refl _ _⟩
  rw [if_neg h0] at h
  have q0 : (at_ == 0) = false := qF h0
  by_cases h1 : at_ = n
  ·rw [if_pos h1] at h
   obtain rfl := sI h
   have q1 : (at_ == n) = true := qT h1
   clear h h0 h1 hok hb hc hl hr ihl ihr
   go_enter Try.func37, Try.ntmps37
   go_wp2
   go_ret2
   exact ⟨_, none, rfl, HA.out, rfl, Below.refl _ _⟩
  rw [if_neg h1] at h
  have q1 : (at_ == n) = false := qF h1
  cases l with
  | nil =>
   obtain rfl : L = none := hl
   rw [if_pos (show Limb.nil.isNil = true from rfl)] at h
   split at h
   case isFalse => cases h
   case isTrue hat =>
   obtain rfl := sI h
   obtain ⟨a0, a1⟩ := hat
   have z0 : (0 ≤ at_) = True := eq_true a0
   have z1 : (at_ ≤ (s.size : Int)) = True := eq_true a1
   clear h h0 h1 hok hb hc hr ihl ihr a0 a1
   go_enter Try.func37, Try.ntmps37
   go_wp2
   go_region_held3 (fun w' => w'.cell? ⟨b, 2, none⟩ = some (.string s)) (first | go_keep | exact HS1.out | exact HS2.out) (first | (go_at_call_of 41 (Value.string (s.extract 0 at_.toNat)); refine (leaf_any _ _).mono ?_; rintro e w1 ⟨P1, rfl, hl, hb⟩; have HL1 := aM hl; have HB1 := aM hb; have hc1 := af (ar HC.out) hb; have HS1 : Aside0 (w1.cell? ⟨b, 2, none⟩ = some (.string s)) := ⟨(bC hc1 2).trans rfl⟩; clear hc1 hl hb) | (go_at_call 41; refine (leaf_any _ _).mono ?_; rintro e w2 ⟨P2, rfl, hl, hb⟩; have HL2 := aM hl; have HB2 := aM hb; have hc1 := af (af (ar HC.out) HB1.out) hb; have HS2 : Aside0 (w2.cell? ⟨b, 2, none⟩ = some (.string s)) := ⟨(bC hc1 2).trans rfl⟩; clear hc1 hl hb))
   go_wp2
   go_ret2
   exact ⟨P1, P2, rfl, (HL1.out.below HB2.out).mono HK.out, HL2.out.mono (fun k hk => HK.out k (by have h1 := HB1.out.size; simp at h1 hk; omega)), aA (aA (below_drew (Below.refl _ _)) HB1.out) HB2.out⟩
  | node l1 l2 l3 l4 l5 =>
   have hl2 := hl
   obtain ⟨bl, L2, R2, rfl, -, hcl, -, -⟩ := hl2
   have HCL := aM hcl
   have d3 : w.cell? ⟨bl, 3, none⟩ = some (.int .i64 l4) := (bC hcl 3).trans rfl
   rw [if_neg (show ¬ Limb.isNil (.node l1 l2 l3 l4 l5) = true by simp [Limb.isNil])] at h
   have hsz : Limb.size (.node l1 l2 l3 l4 l5) = l4 := rfl
   rw [hsz] at h
   clear hsz
   generalize (Limb.node l1 l2 l3 l4 l5) = l at *
   by_cases hle : at_ ≤ l4
   ·rw [if_pos hle] at h
    obtain ⟨⟨x, y⟩, h2, h3⟩ := oB h
    obtain rfl := sI h3
    have HI := aM (ihl (some ⟨bl, 0, none⟩) at_ ok w (x, y) hl hok h2)
    clear h h0 h1 hok hb hc hl hr ihl ihr h2 h3 hcl
    go_enter Try.func37, Try.ntmps37
    go_wp2_with (first | (go_at_call 37; refine HI.out.mono ?_; rintro e w1 ⟨P1, P2, rfl, hl, hr, hb⟩; have HL1 := aM hl; have je := aM hr; have HB1 := aM hb; have HRR := aM (HR.out.below hb); have gm := aM (af HC.out hb); have e1 : w1.cell? ⟨b, 1, none⟩ = some (.pointer R) := (bC gm.out 1).trans rfl; clear hl hr hb) | (go_at_call 40; refine (fork_any _ _ P2 R ok _ je.out HRR.out ?g1).mono ?_; (case g1 => exact fun k hk => HK.out k (by have h1 := HB1.out.size; omega)); rintro e w2 ⟨P3, rfl, hl, hb⟩; have HL2 := aM hl; have HB2 := aM hb; clear hl hb))
    go_ret2
    exact ⟨P1, P3, rfl, HL1.out.below HB2.out, HL2.out, aA HB1.out HB2.out⟩
   ·rw [if_neg hle] at h
    obtain ⟨⟨x, y⟩, h2, h3⟩ := oB h
    obtain rfl := sI h3
    obtain ⟨j, hj⟩ : ∃ j, wrap64 (at_ - l4) = j := ⟨_, rfl⟩
    rw [hj] at h2
    have hjw : IntKind.i64.wrap (at_ - l4) = j := (i64_w _).trans hj
    have HI : Aside0 (∀ w', LmAt w' ok r R → (∀ k, w'.heap.size ≤ k → ok k) → Calls Try.prog 37 #[.pointer R, .int .i64 j] w' (SpAt w' ok (x, y))) := ⟨fun w' ha hb => ihr R j ok w' (x, y) ha hb h2⟩
    clear h h0 h1 hok hb hc hr ihl ihr h2 h3 hcl hj hl
    go_enter Try.func37, Try.ntmps37
    go_wp2
    go_region_held3 (fun w' => w'.cell? ⟨b, 0, none⟩ = some (.pointer (some ⟨bl, 0, none⟩)) ∧ w'.cell? ⟨b, 1, none⟩ = some (.pointer R) ∧ w'.cell? ⟨bl, 3, none⟩ = some (.int .i64 l4)) (first | go_keep | exact HS1.out) (first | (go_at_call 37; refine (HI.out _ ?g1 ?g2).mono ?_; (case g1 => first | exact HR.out.drew | exact HR.out.drewN _ | exact HR.out); (case g2 => exact HK.out); rintro e w1 ⟨P1, P2, rfl, hl, hr, hb⟩; have HL1 := aM hl; have je := aM hr; have HB1 := aM hb; have HLL := aM (HL.out.drew.below hb); have gm := aM (af (ar HC.out) hb); have HS1 : Aside0 (w1.cell? ⟨b, 0, none⟩ = some (.pointer (some ⟨bl, 0, none⟩)) ∧ w1.cell? ⟨b, 1, none⟩ = some (.pointer R) ∧ w1.cell? ⟨bl, 3, none⟩ = some (.int .i64 l4)) := ⟨⟨(bC gm.out 0).trans rfl, (bC gm.out 1).trans rfl, (bC (af (ar HCL.out) hb) 3).trans rfl⟩⟩; clear hl hr hb))
    go_wp2_with (first | (go_at_call 40; refine (fork_any _ _ (some ⟨bl, 0, none⟩) P1 ok _ HLL.out HL1.out ?g1).mono ?_; (case g1 => exact fun k hk => HK.out k (by have h1 := HB1.out.size; simp at h1; omega)); rintro e w2 ⟨P3, rfl, hl, hb⟩; have HL2 := aM hl; have HB2 := aM hb; clear hl hb))
    go_ret2
    exact ⟨P3, P2, rfl, HL2.out, je.out.below HB2.out, aA (aA (below_drew (Below.refl _ _)) HB1.out) HB2.out⟩

/-! ### impl_chunks: function 39 -/
def impl_chunks.l0 : Nat → ByteArray → List ByteArray → Option (List ByteArray)
 | 0, _, _ => none
 | k + 1, x0, x3 => if (x0.size : Int) > 8 then (if 0 ≤ 8 then (if 8 ≤ (x0.size : Int) then (if x3.length < 8796093022208 then (impl_chunks.l0 k (x0.extract 8 x0.size) (x3 ++ [x0.extract 0 8])) else (none)) else (none)) else (none)) else (if x0.toList = ([] : List UInt8) then (some x3) else (if x3.length < 8796093022208 then (some (x3 ++ [x0])) else (none)))
def impl_chunks.f (k : Nat) (a0 : ByteArray) : Option (List ByteArray) := impl_chunks.l0 k a0 ([] : List ByteArray)
theorem impl_chunks.mono_l : ∀ k, (∀ y0 y1, LeO (impl_chunks.l0 k y0 y1) (impl_chunks.l0 (k + 1) y0 y1))
 | 0 => fun _ _ r h => by simp [impl_chunks.l0] at h
 | k + 1 => by
  have ih0 := impl_chunks.mono_l k
  ·intro y0 y1
   unfold impl_chunks.l0
   repeat' first
   | (with_reducible exact ih0 _ _)
   | (with_reducible exact LeO.refl _)
   | (with_reducible exact LeO.none _)
   | (with_reducible refine LeO.ite ?_ ?_)
   | (with_reducible refine LeO.bind ?_ (fun _ => ?_))
theorem impl_chunks.mono : ∀ a0 k, LeO (impl_chunks.f k a0) (impl_chunks.f (k + 1) a0) := by
 intro a0 k
 have ih0 := impl_chunks.mono_l k
 unfold impl_chunks.f
 repeat' first
   | (with_reducible exact ih0 _ _)
   | (with_reducible exact LeO.refl _)
   | (with_reducible exact LeO.none _)
   | (with_reducible refine LeO.ite ?_ ?_)
   | (with_reducible refine LeO.bind ?_ (fun _ => ?_))
set_option maxHeartbeats 8000000 in
set_option maxRecDepth 100000 in
theorem impl_chunks.calls (k : Nat) (a0 : ByteArray) (r : List ByteArray) (w : World) (h : impl_chunks.f k a0 = some r) :
  Calls Try.prog 39 #[.string a0] w fun e w' => ∃ v0_ : Value, e = .returned (v0_) ∧ Kd.R Kd.string 9 w' w.heap.size (fun _ => True) v0_ r ∧ Below w.heap.size w w' := by
 have HB := aM (Below.refl w.heap.size w)
 have H : (impl_chunks.l0 k a0 ([] : List ByteArray)) = some r := h
 clear h
 have H' := aM H
 clear H
 go_enter Try.func39, Try.ntmps39
 go_wp2
 go_loopg [0, 3] k (fun kq v0 v3 w' => ∃ (x0_1 : ByteArray) (x3_1 : List ByteArray), v0 = .string x0_1 ∧ Aside0 (impl_chunks.l0 kq x0_1 x3_1 = some r) ∧ Aside0 (kq ≤ k) ∧ Aside0 (Kd.R Kd.string 9 w' w.heap.size (fun _ => True) v3 x3_1) ∧ Aside0 (Below w.heap.size w w'))
 case atStart => exact ⟨(a0), (([] : List ByteArray)), z2, H', ⟨Nat.le_refl _⟩, ⟨y12⟩, ⟨y5⟩⟩
 case round =>
  clear H'
  obtain ⟨x0_1, x3_1, rfl, HA, HK1, du, HB⟩ := hrel
  cases gk with
  | zero => exact absurd HA.out (by simp [impl_chunks.l0])
  | succ k1 =>
   have H := HA.out
   clear HA
   simp only [impl_chunks.l0] at H
   by_cases c2 : (x0_1.size : Int) > 8
   ·rw [if_pos c2] at H
    have c2b0 : decide (8 < (x0_1.size : Int)) = true := dT c2
    have c2b1 : decide (8 < x0_1.size) = true := dT (by omega)
    clear c2
    by_cases c3 : 0 ≤ 8
    ·rw [if_pos c3] at H
     have c3b0 := eq_true c3
     have c3b1 : decide (0 ≤ 8) = true := dT c3
     clear c3
     by_cases c4 : 8 ≤ (x0_1.size : Int)
     ·rw [if_pos c4] at H
      have c4b0 := eq_true c4
      have c4b1 : decide (8 ≤ (x0_1.size : Int)) = true := dT c4
      clear c4
      by_cases c5 : x3_1.length < 8796093022208
      ·rw [if_pos c5] at H
       have LMc5 := aM c5
       clear c5
       obtain ⟨y187, hy187⟩ : ∃ y_ : List ByteArray, y_ = (x3_1 ++ [x0_1.extract 0 8]) := ⟨_, rfl⟩
       replace H : (impl_chunks.l0 k1 (x0_1.extract 8 x0_1.size) y187) = some r := by first | (rw [hy187]; with_reducible exact H) | (have H2_ := (Option.bind_some _ _).symm.trans H; rw [hy187]; with_reducible exact H2_) | (have H2_ := (Option.bind_some _ _).symm.trans H; with_reducible exact H2_) | with_reducible exact H | (rw [hy187]; exact H) | exact H
       have Ny187 := aM hy187
       clear hy187
       have c6b0 := eq_true (oD z3 : 8 ≤ (x0_1.size : Int))
       have H' := aM H
       clear H
       go_wp2_with (first | ((with_reducible refine gate_builtin (b := .append) (xs := #[.tmp 7, .tmp 10]) rfl ?_); at_builtin; refine aX Kd.string (w0 := w) w.heap.size rfl (.tmp 7) (.tmp 10) 60 9 (.string ⟨#[]⟩) 16 rfl Try.underlying60 info9 rfl z0 (by omega) u3 x3_1 (x0_1.extract 0 8) [.string (x0_1.extract 0 8)] (fun _ => True) (fun _ => False) rfl rfl ?aP (fun _ hk => hk.elim) ?aF ?aO ?aB ?aS ?aL ?_; (case aP => exact rfl); (case aB => exact z32); (case aF => exact (fun _ _ => trivial)); (case aO => exact z4); (case aS => exact (aC z32)); (case aL => have := LMc5.out; omega); intro v188 w7 ho hb hg hat; rw [← Ny187.out] at ho; replace HB := aM (hb); have HO189 := aM (ho); clear du; clear ho hb hg hat))
       go_roundg k1
       case measure => have := HK1.out; omega
       case rel => exact ⟨(x0_1.extract 8 x0_1.size), (y187), z2, H', ⟨y0⟩, ⟨kR_ HO189.out⟩, ⟨y5⟩⟩
      ·rw [if_neg c5] at H
       exact absurd H (by simp)
     ·rw [if_neg c4] at H
      exact absurd H (by simp)
    ·exact absurd z0 c3
   ·rw [if_neg c2] at H
    have c2b0 : decide (8 < (x0_1.size : Int)) = false := dF c2
    have c2b1 : decide (8 < x0_1.size) = false := dF (by omega)
    clear c2
    by_cases c8 : x0_1.toList = ([] : List UInt8)
    ·rw [if_pos c8] at H
     have c8b0 : (x0_1.toList == ([] : List UInt8)) = true := qT c8
     have c8b1 : (x0_1.toList != ([] : List UInt8)) = false := nF c8
     clear c8
     obtain rfl := sI H
     go_wp2
     all_goals (try (exfalso; rename_i h_; rw [c8b0] at h_; cases h_; done))
     go_ret
     exact ⟨_, y4, y6, y5⟩
    ·rw [if_neg c8] at H
     have c8b0 : (x0_1.toList == ([] : List UInt8)) = false := qF c8
     have c8b1 : (x0_1.toList != ([] : List UInt8)) = true := nT c8
     by_cases c9 : x3_1.length < 8796093022208
     ·rw [if_pos c9] at H
      have LMc9 := aM c9
      clear c9
      obtain ⟨y190, hy190⟩ : ∃ y_ : List ByteArray, y_ = (x3_1 ++ [x0_1]) := ⟨_, rfl⟩
      replace H : (some y190) = some r := by first | (rw [hy190]; with_reducible exact H) | (have H2_ := (Option.bind_some _ _).symm.trans H; rw [hy190]; with_reducible exact H2_) | (have H2_ := (Option.bind_some _ _).symm.trans H; with_reducible exact H2_) | with_reducible exact H | (rw [hy190]; exact H) | exact H
      have Ny190 := aM hy190
      clear hy190
      obtain rfl := sI H
      go_wp2_with (first | ((with_reducible refine gate_builtin (b := .append) (xs := #[.tmp 16, .tmp 18]) rfl ?_); at_builtin; refine aX Kd.string (w0 := w) w.heap.size rfl (.tmp 16) (.tmp 18) 60 9 (.string ⟨#[]⟩) 16 rfl Try.underlying60 info9 rfl z0 (by omega) u3 x3_1 x0_1 [.string x0_1] (fun _ => True) (fun _ => False) rfl rfl ?aP (fun _ hk => hk.elim) ?aF ?aO ?aB ?aS ?aL ?_; (case aP => exact rfl); (case aB => exact z32); (case aF => exact (fun _ _ => trivial)); (case aO => exact z4); (case aS => exact (aC z32)); (case aL => have := LMc9.out; omega); intro v191 w10 ho hb hg hat; rw [← Ny190.out] at ho; replace HB := aM (hb); have HO192 := aM (ho); clear du; clear ho hb hg hat))
      all_goals (try (exfalso; rename_i h_; rw [c8b0] at h_; cases h_; done))
      go_ret
      exact ⟨_, y4, by (with_reducible repeat (first | apply ae | apply ac | apply aa)); exact HO192.out, y5⟩
     ·rw [if_neg c9] at H
      exact absurd H (by simp)

/-! ### impl_limb_boughs: function 64, by hand -/
/-- The boughs of a tree, behind others. -/
def bgs : Limb → List S101 → List S101
 | .nil, out => out
 | .node l r s n d, out => if l.isNil = true then out ++ [⟨-1, -1, s, n, 0⟩] else bgs r (bgs l out) ++ [⟨((bgs l out).length : Int) - 1, ((bgs r (bgs l out)).length : Int) - 1, ⟨#[]⟩, n, d⟩]
theorem bgs_length (t : Limb) : ∀ out, (bgs t out).length = out.length + cnt t := by
 induction t with
 | nil => intro out; rfl
 | node l r s n d ihl ihr =>
  intro out
  unfold bgs cnt
  split
  ·simp
  ·rw [a5, ihr, ihl]; simp; omega
def BgAt (w0 w : World) (v : Value) (xs : List S101) (e : Ending) (w' : World) : Prop := ∃ v', e = .returned v' ∧ Kd.R k101 101 w' w0.heap.size (fun _ => True) v' xs ∧ Below w0.heap.size w0 w' ∧ RowTo w w' v v'
set_option maxHeartbeats 4000000 in
theorem boughs_any (t : Limb) : ∀ (A : Option Addr) (ok : Nat → Prop) (w0 w : World) (v : Value) (xs : List S101), LmAt w ok t A → Kd.R k101 101 w w0.heap.size (fun _ => True) v xs → Below w0.heap.size w0 w → xs.length + cnt t ≤ 100000000 →
  Calls Try.prog 64 #[.pointer A, v] w (BgAt w0 w v (bgs t xs)) := by
 induction t with
 | nil =>
  intro A ok w0 w v xs hA hv hB hn
  obtain rfl : A = none := hA
  have HV := aM hv
  have HB := aM hB
  obtain ⟨Av, cv, rfl, -, -⟩ := Kd.R_reads hv
  have HX : Aside0 (bgs .nil xs = xs) := ⟨rfl⟩
  rw [HX.out]
  clear hv hB hn HX
  go_enter Try.func64, Try.ntmps64
  go_wp2
  go_ret
  exact ⟨_, rfl, HV.out, HB.out, RowTo.refl _ _⟩
 | node l r s n d ihl ihr =>
  intro A ok w0 w v xs hA hv hB hn
  have HA := aM hA
  have HV := aM hv
  have HB := aM hB
  obtain ⟨b, L, R, rfl, hb, hc, hl, hr⟩ := hA
  have HC := aM hc
  have c0 : w.cell? ⟨b, 0, none⟩ = some (.pointer L) := (bC hc 0).trans rfl
  have HL := aM hl
  have HR := aM hr
  obtain ⟨Av, cv, rfl, -, -⟩ := Kd.R_reads hv
  cases l with
  | nil =>
   obtain rfl : L = none := hl
   have c2 : w.cell? ⟨b, 2, none⟩ = some (.string s) := (bC hc 2).trans rfl
   have c3 : w.cell? ⟨b, 3, none⟩ = some (.int .i64 n) := (bC hc 3).trans rfl
   have HN1 : Aside0 (xs.length + 1 ≤ 100000000) := ⟨hn⟩
   have HX : Aside0 (bgs (.node .nil r s n d) xs = xs ++ [⟨-1, -1, s, n, 0⟩]) := ⟨rfl⟩
   rw [HX.out]
   clear hr hb hc hv hB hn ihl ihr HX
   go_enter Try.func64, Try.ntmps64
   go_wp2
   go_region_law (refine Kd.R_append_step k101 (w0 := w0) (W := w.drew) w0.heap.size ?hw (.tmp 16) (.tmp 26) 28 101 (.agg #[(.int .i64 0), (.int .i64 0), (.string ⟨#[]⟩), (.int .i64 0), (.int .i64 0)]) 48 ?ho Try.underlying28 info101 rfl z0 z0 (.slice Av xs.length cv) xs (⟨-1, -1, s, n, 0⟩ : S101) [.int .i64 (-1), .int .i64 (-1), .string s, .int .i64 n, .int .i64 0] (fun _ => True) (fun _ => False) ?hs ?hx ?aP (fun _ h => h.elim) (fun _ _ => trivial) ?aO ?aB ?aS ?aL ?_; (case aL => have := HN1.out; omega); (case hw => rfl); (case ho => rfl); (case hs => rfl); (case hx => rfl); (case aP => exact k101_mkM _ _ _ _); (case aB => exact below_drew HB.out); (case aO => exact aa HV.out); (case aS => exact HB.out.size); intro v1 w1 ho hb hg hat; obtain ⟨A1, c1, eo, -, -⟩ := Kd.R_reads ho; rw [a5, a6] at eo; subst eo; have HO := aM ho; have HB1 := aM hb; have HT : Aside0 (RowTo w w1 (.slice Av xs.length cv) (.slice A1 (xs.length + 1) c1)) := ⟨⟨Kept.of_grown hg (Kept.refl w _) (fun k hk => .inl hk.symm), hat⟩⟩; clear ho hb hg hat)
   all_goals
    go_wp2
    go_ret
    exact ⟨_, rfl, HO.out, HB1.out, HT.out⟩
  | node l' r' s' n' d' =>
   have hl2 := hl
   obtain ⟨bl, L2, R2, rfl, -⟩ := hl2
   have c1 : w.cell? ⟨b, 1, none⟩ = some (.pointer R) := (bC hc 1).trans rfl
   have HN1 : Aside0 (xs.length + cnt (.node l' r' s' n' d') + cnt r + 1 ≤ 100000000) := ⟨by have : cnt (.node (.node l' r' s' n' d') r s n d) = cnt (.node l' r' s' n' d') + cnt r + 1 := rfl; rw [this] at hn; omega⟩
   have HX : Aside0 (bgs (.node (.node l' r' s' n' d') r s n d) xs = bgs r (bgs (.node l' r' s' n' d') xs) ++ [⟨((bgs (.node l' r' s' n' d') xs).length : Int) - 1, ((bgs r (bgs (.node l' r' s' n' d') xs)).length : Int) - 1, ⟨#[]⟩, n, d⟩]) := ⟨rfl⟩
   rw [HX.out]
   clear hr hb hc hv hB hn hl HX
   generalize (Limb.node l' r' s' n' d') = l at *
   obtain ⟨o1, ho1⟩ : ∃ o, bgs l xs = o := ⟨_, rfl⟩
   have HZ1 : Aside0 (bgs l xs = o1) := ⟨ho1⟩
   obtain ⟨o2, ho2⟩ : ∃ o, bgs r o1 = o := ⟨_, rfl⟩
   have HZ2 : Aside0 (bgs r o1 = o2) := ⟨ho2⟩
   have HE1 : Aside0 (o1.length = xs.length + cnt l) := ⟨by rw [← ho1, bgs_length]⟩
   have HE2 : Aside0 (o2.length = o1.length + cnt r) := ⟨by rw [← ho2, bgs_length]⟩
   rw [ho1, ho2]
   clear ho1 ho2
   go_enter Try.func64, Try.ntmps64
   go_wp2_with (first | (go_at_call_of 64 (Value.pointer (some ⟨bl, 0, none⟩)); refine (ihl (some ⟨bl, 0, none⟩) ok w0 _ _ xs HL.out HV.out HB.out ?g4).mono ?_; (case g4 => have := HN1.out; omega); rintro e w1 ⟨v1, rfl, ho, hb, ht⟩; rw [HZ1.out] at ho; obtain ⟨A1, k1, eo, -, -⟩ := Kd.R_reads ho; subst eo; have HV1 := aM ho; have HB1 := aM hb; have HT1 := aM ht; have gm := aM (blk_kept (W := w) HC.out HT1.out.1 (fun e => Kd.R_ne HV.out HC.out z0 e)); have d1 : w1.cell? ⟨b, 1, none⟩ = some (.pointer R) := (bC gm.out 1).trans rfl; have je := aM (HR.out.rowTo HV.out z0 HT1.out); clear ho hb ht) | (go_at_call_of 64 (Value.pointer R); refine (ihr R ok w0 _ _ o1 je.out HV1.out HB1.out ?g4).mono ?_; (case g4 => have := HN1.out; have := HE1.out; omega); rintro e w2 ⟨v2, rfl, ho, hb, ht⟩; rw [HZ2.out] at ho; obtain ⟨A2, k2, eo, -, -⟩ := Kd.R_reads ho; subst eo; have HV2 := aM ho; have HB2 := aM hb; have HT2 := aM ht; have r7 := aM (blk_kept (W := w1) gm.out HT2.out.1 (fun e => Kd.R_ne HV1.out gm.out z0 e)); have d3 : w2.cell? ⟨b, 3, none⟩ = some (.int .i64 n) := (bC r7.out 3).trans rfl; have d4 : w2.cell? ⟨b, 4, none⟩ = some (.int .i64 d) := (bC r7.out 4).trans rfl; clear ho hb ht))
   have HW1 : Aside0 (wrap64 ((o1.length : Int) - 1) = (o1.length : Int) - 1) := ⟨by have := HN1.out; have := HE1.out; unfold wrap64; omega⟩
   have HW2 : Aside0 (wrap64 ((o2.length : Int) - 1) = (o2.length : Int) - 1) := ⟨by have := HN1.out; have := HE1.out; have := HE2.out; unfold wrap64; omega⟩
   rw [HW1.out]
   clear c0 c1 d1 ihl ihr
   go_region_law (refine Kd.R_append_step k101 (w0 := w0) (W := w2.drew) w0.heap.size ?hw (.tmp 43) (.tmp 57) 28 101 (.agg #[(.int .i64 0), (.int .i64 0), (.string ⟨#[]⟩), (.int .i64 0), (.int .i64 0)]) 48 ?ho Try.underlying28 info101 rfl z0 z0 (.slice A2 o2.length k2) o2 (⟨(o1.length : Int) - 1, IntKind.i64.wrap ((o2.length : Int) - 1), ⟨#[]⟩, n, d⟩ : S101) [.int .i64 ((o1.length : Int) - 1), .int .i64 (IntKind.i64.wrap ((o2.length : Int) - 1)), .string ⟨#[]⟩, .int .i64 n, .int .i64 d] (fun _ => True) (fun _ => False) ?hs ?hx ?aP (fun _ h => h.elim) (fun _ _ => trivial) ?aO ?aB ?aS ?aL ?_; (case aL => have := HN1.out; have := HE1.out; have := HE2.out; omega); (case hw => rfl); (case ho => rfl); (case hs => rfl); (case hx => rfl); (case aP => exact k101_mkM _ _ _ _); (case aB => exact below_drew HB2.out); (case aO => exact aa HV2.out); (case aS => exact HB2.out.size); intro v3 w3 ho hb hg hat; obtain ⟨A3, k3, eo, -, -⟩ := Kd.R_reads ho; rw [a5, a6] at eo; subst eo; have HO := aM ho; have HB3 := aM hb; have HT3 : Aside0 (RowTo w2 w3 (.slice A2 o2.length k2) (.slice A3 (o2.length + 1) k3)) := ⟨⟨Kept.of_grown hg (Kept.refl w2 _) (fun k hk => .inl hk.symm), hat⟩⟩; clear ho hb hg hat)
   all_goals
    go_wp2
    go_ret
    refine ⟨_, rfl, ?_, HB3.out, (HT1.out.trans HT2.out).trans HT3.out⟩
    have := HO.out
    rw [i64_w, HW2.out] at this
    exact this

/-! ### impl_limb_rope: function 42, by hand -/
def ropeF (t : Limb) : Option (List S101 × Bool) :=
 if cnt t ≤ 10000000 then (if 200 < cnt t then some ([], false) else (if t.isNil = true then some (bgs t [], true) else (if 300 < t.size then some ([], false) else some (bgs t [], true)))) else none
set_option maxHeartbeats 4000000 in
theorem rope_any (t : Limb) (A : Option Addr) (ok : Nat → Prop) (w : World) (r1 : List S101) (r2 : Bool) (hA : LmAt w ok t A) (h : ropeF t = some (r1, r2)) :
  Calls Try.prog 42 #[.pointer A] w fun e w' => ∃ v0_ : Value, e = .returned (.tuple #[.agg #[v0_], .bool r2]) ∧ Kd.R k101 101 w' w.heap.size (fun _ => True) v0_ r1 ∧ Below w.heap.size w w' := by
 unfold ropeF at h
 split at h
 case isFalse => cases h
 case isTrue hc =>
 have HN : Aside0 (([] : List S101).length + cnt t ≤ 100000000) := ⟨by show 0 + _ ≤ _; omega⟩
 have HA := aM hA
 have HV : Aside0 (Kd.R k101 101 w w.heap.size (fun _ => True) (.slice none 0 0) ([] : List S101)) := ⟨Kd.R_nil _ _ _ _ _⟩
 obtain ⟨B, hB⟩ : ∃ B, bgs t [] = B := ⟨_, rfl⟩
 have HZ : Aside0 (bgs t [] = B) := ⟨hB⟩
 have hl : B.length = cnt t := by rw [← hB, bgs_length]; simp
 rw [hB] at h
 rw [← hl] at h
 clear hB hc hl
 by_cases hq : 200 < B.length
 ·rw [if_pos hq] at h
  obtain ⟨rfl, rfl⟩ := Prod.mk.inj (sI h)
  have q1 : decide ((200 : Int) < (B.length : Int)) = true := dT (by omega)
  clear h hA hq
  go_enter Try.func42, Try.ntmps42
  go_wp2_with (first | (go_at_call 64; refine (boughs_any _ _ ok w _ _ [] (HA.out.alloc _) (ae HV.out _) (bA (Below.refl _ _) _) HN.out).mono ?_; rintro e w1 ⟨v1, rfl, ho, hb, ht⟩; rw [HZ.out] at ho; obtain ⟨A1, k1, eo, -, -⟩ := Kd.R_reads ho; subst eo; have HV1 := aM ho; have HB1 := aM hb; have HT1 := aM ht; have gm := aM (blk_kept (W := w.alloc (.cells #[.slice none 0 0] 30)) (blk_new _ _) HT1.out.1 (by simp [Value.ownBlock])); have e0 : ∀ o, (w1.alloc o).cell? ⟨w.heap.size, 0, none⟩ = some (.slice none 0 0) := fun o => (bC (av gm.out o) 0).trans rfl; have e1 : ∀ o, (w1.alloc o).frozen? ⟨w.heap.size, 0, none⟩ = false := fun o => bF (av gm.out o) 0;  clear ho hb ht))
  refine aU (aV rfl _ _ w.heap.size 30 #[.slice none 0 0] (0, 0) _ rfl (by refine ax (cs := #[.slice none 0 0]) (av gm.out _) 0 _ rfl) Try.underlying30 rfl z1) rfl ?_
  exact ⟨_, rfl, Kd.R_nil _ _ _ _ _, az (bA HB1.out _) (Nat.le_refl _)⟩
 ·rw [if_neg hq] at h
  have q1 : decide ((200 : Int) < (B.length : Int)) = false := dF (by omega)
  clear hq
  cases t with
  | nil =>
   obtain rfl : A = none := hA
   obtain ⟨rfl, rfl⟩ := Prod.mk.inj (sI h)
   clear h
   go_enter Try.func42, Try.ntmps42
   go_wp2_with (first | (go_at_call 64; refine (boughs_any _ _ ok w _ _ [] (HA.out.alloc _) (ae HV.out _) (bA (Below.refl _ _) _) HN.out).mono ?_; rintro e w1 ⟨v1, rfl, ho, hb, ht⟩; rw [HZ.out] at ho; obtain ⟨A1, k1, eo, -, -⟩ := Kd.R_reads ho; subst eo; have HV1 := aM ho; have HB1 := aM hb; have HT1 := aM ht; have gm := aM (blk_kept (W := w.alloc (.cells #[.slice none 0 0] 30)) (blk_new _ _) HT1.out.1 (by simp [Value.ownBlock])); have e0 : ∀ o, (w1.alloc o).cell? ⟨w.heap.size, 0, none⟩ = some (.slice none 0 0) := fun o => (bC (av gm.out o) 0).trans rfl; have e1 : ∀ o, (w1.alloc o).frozen? ⟨w.heap.size, 0, none⟩ = false := fun o => bF (av gm.out o) 0;  clear ho hb ht))
   refine aU (aV rfl _ _ w.heap.size 30 #[.slice A1 B.length k1] (0, 0) _ rfl (by refine ax (cs := #[.slice none 0 0]) (av gm.out _) 0 _ rfl) Try.underlying30 rfl z1) rfl ?_
   exact ⟨_, rfl, Kd.R_set (ae HV1.out _) (av gm.out _) z0 0 _, az (bA HB1.out _) (Nat.le_refl _)⟩
  | node l r s n d =>
   obtain ⟨b, L, R, rfl, hb, hc, -, -⟩ := hA
   have HD := aM hc
   clear hb hc
   have h' : (if 300 < n then some ([], false) else some (B, true)) = some (r1, r2) := h
   clear h
   by_cases hn : 300 < n
   ·rw [if_pos hn] at h'
    obtain ⟨rfl, rfl⟩ := Prod.mk.inj (sI h')
    have q2 : decide (300 < n) = true := dT hn
    clear h' hn
    go_enter Try.func42, Try.ntmps42
    go_wp2_with (first | (go_at_call 64; refine (boughs_any _ _ ok w _ _ [] (HA.out.alloc _) (ae HV.out _) (bA (Below.refl _ _) _) HN.out).mono ?_; rintro e w1 ⟨v1, rfl, ho, hb, ht⟩; rw [HZ.out] at ho; obtain ⟨A1, k1, eo, -, -⟩ := Kd.R_reads ho; subst eo; have HV1 := aM ho; have HB1 := aM hb; have HT1 := aM ht; have gm := aM (blk_kept (W := w.alloc (.cells #[.slice none 0 0] 30)) (blk_new _ _) HT1.out.1 (by simp [Value.ownBlock])); have e0 : ∀ o, (w1.alloc o).cell? ⟨w.heap.size, 0, none⟩ = some (.slice none 0 0) := fun o => (bC (av gm.out o) 0).trans rfl; have e1 : ∀ o, (w1.alloc o).frozen? ⟨w.heap.size, 0, none⟩ = false := fun o => bF (av gm.out o) 0; have HA1 := aM ((HA.out.alloc (.cells #[.slice none 0 0] 30)).rowTo (ae HV.out _) z0 HT1.out); have HD1 := aM (blk_kept (W := w.alloc (.cells #[.slice none 0 0] 30)) (av HD.out _) HT1.out.1 (by simp [Value.ownBlock])); have d3 : ∀ o, (w1.alloc o).cell? ⟨b, 3, none⟩ = some (.int .i64 n) := fun o => (bC (av HD1.out o) 3).trans rfl; clear ho hb ht))
    refine aU (aV rfl _ _ w.heap.size 30 #[.slice none 0 0] (0, 0) _ rfl (by refine ax (cs := #[.slice none 0 0]) (av gm.out _) 0 _ rfl) Try.underlying30 rfl z1) rfl ?_
    exact ⟨_, rfl, Kd.R_nil _ _ _ _ _, az (bA HB1.out _) (Nat.le_refl _)⟩
   ·rw [if_neg hn] at h'
    obtain ⟨rfl, rfl⟩ := Prod.mk.inj (sI h')
    have q2 : decide (300 < n) = false := dF hn
    clear h' hn
    go_enter Try.func42, Try.ntmps42
    go_wp2_with (first | (go_at_call 64; refine (boughs_any _ _ ok w _ _ [] (HA.out.alloc _) (ae HV.out _) (bA (Below.refl _ _) _) HN.out).mono ?_; rintro e w1 ⟨v1, rfl, ho, hb, ht⟩; rw [HZ.out] at ho; obtain ⟨A1, k1, eo, -, -⟩ := Kd.R_reads ho; subst eo; have HV1 := aM ho; have HB1 := aM hb; have HT1 := aM ht; have gm := aM (blk_kept (W := w.alloc (.cells #[.slice none 0 0] 30)) (blk_new _ _) HT1.out.1 (by simp [Value.ownBlock])); have e0 : ∀ o, (w1.alloc o).cell? ⟨w.heap.size, 0, none⟩ = some (.slice none 0 0) := fun o => (bC (av gm.out o) 0).trans rfl; have e1 : ∀ o, (w1.alloc o).frozen? ⟨w.heap.size, 0, none⟩ = false := fun o => bF (av gm.out o) 0; have HA1 := aM ((HA.out.alloc (.cells #[.slice none 0 0] 30)).rowTo (ae HV.out _) z0 HT1.out); have HD1 := aM (blk_kept (W := w.alloc (.cells #[.slice none 0 0] 30)) (av HD.out _) HT1.out.1 (by simp [Value.ownBlock])); have d3 : ∀ o, (w1.alloc o).cell? ⟨b, 3, none⟩ = some (.int .i64 n) := fun o => (bC (av HD1.out o) 3).trans rfl; clear ho hb ht))
    refine aU (aV rfl _ _ w.heap.size 30 #[.slice A1 B.length k1] (0, 0) _ rfl (by refine ax (cs := #[.slice none 0 0]) (av gm.out _) 0 _ rfl) Try.underlying30 rfl z1) rfl ?_
    exact ⟨_, rfl, Kd.R_set (ae HV1.out _) (av gm.out _) z0 0 _, az (bA HB1.out _) (Nat.le_refl _)⟩

/-! ### impl_EditRope: function 10, by hand -/
def iL (k : Nat) : List S59 → Limb → List ByteArray → Option (List ByteArray)
 | [], _, acc => some acc
 | p :: ps, x, acc => (spl x (wrap64 (p.f0 + (p.f2.size : Int)))).bind fun q =>
   if 0 < p.f0 then (if acc.length + (pcs q.1).length ≤ 100000000 then ((impl_chunks.f k p.f1).bind fun cs => if (acc ++ pcs q.1).length + cs.length ≤ 100000000 then iL k ps q.2 ((acc ++ pcs q.1) ++ cs) else none) else none)
   else ((impl_chunks.f k p.f1).bind fun cs => if acc.length + cs.length ≤ 100000000 then iL k ps q.2 (acc ++ cs) else none)
theorem iL_mono (k : Nat) : ∀ (ps : List S59) (x : Limb) (acc : List ByteArray), LeO (iL k ps x acc) (iL (k + 1) ps x acc)
 | [], _, _ => LeO.refl _
 | p :: ps, x, acc => LeO.bind (LeO.refl _) (fun _ => LeO.ite (LeO.ite (LeO.bind (impl_chunks.mono _ _) (fun _ => LeO.ite (iL_mono k ps _ _) (LeO.none _))) (LeO.none _)) (LeO.bind (impl_chunks.mono _ _) (fun _ => LeO.ite (iL_mono k ps _ _) (LeO.none _))))
theorem iL_at (k : Nat) (l1 : List S59) (x : Limb) (acc : List ByteArray) (i : Nat) (h : i < l1.length) : iL k (l1.drop i) x acc = (spl x (wrap64 ((rd_T59 l1 (i : Int)).f0 + ((rd_T59 l1 (i : Int)).f2.size : Int)))).bind fun q =>
   if 0 < (rd_T59 l1 (i : Int)).f0 then (if acc.length + (pcs q.1).length ≤ 100000000 then ((impl_chunks.f k (rd_T59 l1 (i : Int)).f1).bind fun cs => if (acc ++ pcs q.1).length + cs.length ≤ 100000000 then iL k (l1.drop (i + 1)) q.2 ((acc ++ pcs q.1) ++ cs) else none) else none)
   else ((impl_chunks.f k (rd_T59 l1 (i : Int)).f1).bind fun cs => if acc.length + cs.length ≤ 100000000 then iL k (l1.drop (i + 1)) q.2 (acc ++ cs) else none) := by
 rw [List.drop_eq_getElem_cons h]
 unfold rd_T59
 rw [aZ, List.getD_eq_getElem?_getD, aY h]
 rfl
def iF (ss : List ByteArray) : Limb := ss.foldl (fun o s => fk o (lf s)) .nil
theorem iF_at (ss : List ByteArray) (j : Nat) (h : j < ss.length) : iF (ss.take (j + 1)) = fk (iF (ss.take j)) (lf (rdOf ByteArray.empty ss (j : Int))) := by
 unfold iF rdOf
 rw [List.take_succ_eq_append_getElem h, List.foldl_append, aZ, List.getD_eq_getElem?_getD, aY h]
 rfl
def impl_EditRope.f (k : Nat) (l0_0 : List S101) (l1 : List S59) : Option (List S101 × Bool) := (opnF k l0_0).bind fun p => if p.2 = true then (if (pcs p.1).length ≤ 100000000 ∧ (tx (pcs p.1)).size ≤ 1000000000 then ((impl_ApplyOp.f k l1 (tx (pcs p.1))).bind fun ao => if ao.2 = true then
   (if l1.length ≤ 100000000 then ((iL k l1 p.1 []).bind fun acc => if acc.length ≤ 100000000 then ropeF (iF acc) else none) else none) else some ([], false)) else none) else some ([], false)
theorem impl_EditRope.mono : ∀ a0 a1 k, LeO (impl_EditRope.f k a0 a1) (impl_EditRope.f (k + 1) a0 a1) := fun a0 a1 k => (LeO.bind (opnF_mono _ _) (fun _ => LeO.ite (LeO.ite (LeO.bind (impl_ApplyOp.mono _ _ _) (fun _ => LeO.ite (LeO.ite (LeO.bind (iL_mono k _ _ _) (fun _ => LeO.refl _)) (LeO.none _)) (LeO.refl _))) (LeO.none _)) (LeO.refl _)))
/-- A block of another type than the row that has been written. -/
theorem blk_rowTo {α : Type} {d : Kd α} {e base b g : Nat} {ok' : Nat → Prop} {w w' : World} {v v' : Value} {xs : List α} {cs : Array Value} (h : w.heap[g]? = some (.cells cs b (0, 0))) (hr : d.R e w base ok' v xs) (he : b ≠ e) (hk : RowTo w w' v v') : w'.heap[g]? = some (.cells cs b (0, 0)) :=
 (hk.1.2 g (ay h) (fun hs => by
  obtain ⟨inner, ho⟩ := Kd.R_own hr
  obtain ⟨c', hc'⟩ := own_typed ho g hs.symm
  rw [h] at hc'
  injection hc' with hc'
  injection hc' with _ hc'
  exact he hc')).trans h
/-- What stands through the whole call. -/
def EiF (w W : World) : Prop := Below w.heap.size w W ∧ W.heap[w.heap.size + 1]? = some (.cells #[.slice none 0 0] 30 (0, 0))
theorem EiF.below {w W W' : World} (h : EiF w W) (hb : Below W.heap.size W W') : EiF w W' := ⟨aA h.1 hb, af h.2 hb⟩
theorem EiF.alloc {w W : World} (h : EiF w W) (o : Obj) : EiF w (W.alloc o) := h.below (bA (Below.refl _ _) _)
theorem EiF.drewN {w W : World} (h : EiF w W) (n : Nat) : EiF w (W.drewN n) := h.below (pD (Below.refl _ _) _)
theorem EiF.drew {w W : World} (h : EiF w W) : EiF w W.drew := h.below (below_drew (Below.refl _ _))
theorem EiF.rowTo {w W W' : World} {ok' : Nat → Prop} {base : Nat} {v v' : Value} {xs : List ByteArray} (h : EiF w W) (hr : Kd.string.R 9 W base ok' v xs) (hk : RowTo W W' v v') (hb : Below w.heap.size w W') : EiF w W' := ⟨hb, blk_rowTo h.2 hr z0 hk⟩
set_option maxHeartbeats 8000000 in
set_option maxRecDepth 100000 in
theorem impl_EditRope.calls (k : Nat) (cL : Option Addr) (cM : Nat) (l0_0 : List S101) (A1 : Option Addr) (c1 : Nat) (l1 : List S59) (r1 : List S101) (r2 : Bool) (w : World) (hr0_0 : Kd.C k101 w cL l0_0.length l0_0) (hc0_0 : l0_0.length ≤ cM) (hr1 : Kd.C k59 w A1 l1.length l1) (hc1 : l1.length ≤ c1) (h : impl_EditRope.f k l0_0 l1 = some (r1, r2)) :
  Calls Try.prog 10 #[.agg #[.slice cL l0_0.length cM], .slice A1 l1.length c1] w fun e w' => ∃ v0_ : Value, e = .returned (.tuple #[.agg #[v0_], .bool r2]) ∧ Kd.R k101 101 w' w.heap.size (fun _ => True) v0_ r1 ∧ Below w.heap.size w w' := by
 obtain ⟨⟨t, b⟩, h1, h⟩ := oB h
 have HO := aM (fun (w' : World) (hC : Kd.C k101 w' cL l0_0.length l0_0) => open_any k l0_0 cL cM t b w' hC hc0_0 h1)
 obtain ⟨W2, hW2⟩ : ∃ W2, (w.alloc (.cells #[.slice cL l0_0.length cM] 30)).alloc (.cells #[.slice none 0 0] 30) = W2 := ⟨_, rfl⟩
 have HWB : Below w.heap.size w W2 := by rw [← hW2]; exact bA (bA (Below.refl _ _) _) _
 have HF : Aside0 (EiF w W2) := ⟨HWB, by rw [← hW2]; have := blk_new (w.alloc (.cells #[.slice cL l0_0.length cM] 30)) (.cells #[.slice none 0 0] 30); simpa using this⟩
 have en := aM (aG hr0_0 HWB)
 have HWE := aM hW2
 have gm := aM hr1
 have HL1 := aM hc1
 have hu59 := Try.underlying59
 clear HWB hr0_0 hc0_0 hr1 hc1 h1 hW2
 cases b with
 | false =>
  rw [if_neg (by simp)] at h
  obtain ⟨rfl, rfl⟩ := Prod.mk.inj (sI h)
  clear h
  go_enter Try.func10, Try.ntmps10
  go_wp2_with (first | (go_at_call 35; (try rw [HWE.out]); refine (HO.out _ en.out).mono ?_; rintro e w1 ⟨P0, rfl, hl, hb⟩; have HL := aM (hl.mono (ok' := fun _ => True) (fun _ _ => trivial)); have nf_ := aM (EiF.below z36 hb); clear HF ; have HF := nf_; clear nf_; (try clear cB fB); have cB : w1.cell? ⟨w.heap.size + 1, 0, none⟩ = some (.slice none 0 0) := (bC HF.out.2 0).trans rfl; have fB := bF HF.out.2 0; clear hl hb))
  refine aU (aV rfl _ _ (w.heap.size + 1) 30 #[.slice none 0 0] (0, 0) _ rfl (by exact ax (cs := #[.slice none 0 0]) HF.out.2 0 _ rfl) Try.underlying30 rfl z1) rfl ?_
  exact ⟨_, rfl, Kd.R_nil _ _ _ _ _, az HF.out.1 (by omega)⟩
 | true =>
 rw [if_pos rfl] at h
 by_cases hn : (pcs t).length ≤ 100000000 ∧ (tx (pcs t)).size ≤ 1000000000
 case neg => rw [if_neg hn] at h; cases h
 rw [if_pos hn] at h
 have HN := aM hn
 clear hn
 obtain ⟨⟨ao1, ao2⟩, ha, h⟩ := oB h
 have HA := aM ha
 clear ha
 cases ao2 with
 | false =>
  rw [if_neg (by simp)] at h
  obtain ⟨rfl, rfl⟩ := Prod.mk.inj (sI h)
  clear h
  go_enter Try.func10, Try.ntmps10
  go_wp2_with (first | (go_at_call 35; (try rw [HWE.out]); refine (HO.out _ en.out).mono ?_; rintro e w1 ⟨P0, rfl, hl, hb⟩; have HL := aM (hl.mono (ok' := fun _ => True) (fun _ _ => trivial)); have nf_ := aM (EiF.below z36 hb); clear HF ; have HF := nf_; clear nf_; (try clear cB fB); have cB : w1.cell? ⟨w.heap.size + 1, 0, none⟩ = some (.slice none 0 0) := (bC HF.out.2 0).trans rfl; have fB := bF HF.out.2 0; clear hl hb) | (go_at_call 36; refine (textOf_any t P0 _ _ HL.out HN.out.1 HN.out.2).mono ?_; rintro e w2 ⟨rfl, hb⟩; have nf_ := aM (EiF.below z36 hb); have nHL_ := aM (LmAt.below (by repeat (first | exact HL.out | (with_reducible refine LmAt.alloc ?_ _) | (with_reducible refine LmAt.drewN ?_ _) | (with_reducible refine LmAt.drew ?_))) hb); clear HF HL; have HF := nf_; clear nf_; have HL := nHL_; clear nHL_; (try clear cB fB); have cB : w2.cell? ⟨w.heap.size + 1, 0, none⟩ = some (.slice none 0 0) := (bC HF.out.2 0).trans rfl; have fB := bF HF.out.2 0; clear hb) | (go_at_call 21; refine (impl_ApplyOp.calls k _ _ l1 _ ao1 false _ (by exact aG gm.out HF.out.1) HL1.out HA.out).mono ?_; rintro e w3 ⟨rfl, hb⟩; have nf_ := aM (EiF.below z36 hb); have nHL_ := aM (LmAt.below (by repeat (first | exact HL.out | (with_reducible refine LmAt.alloc ?_ _) | (with_reducible refine LmAt.drewN ?_ _) | (with_reducible refine LmAt.drew ?_))) hb); clear HF HL; have HF := nf_; clear nf_; have HL := nHL_; clear nHL_; (try clear cB fB); have cB : w3.cell? ⟨w.heap.size + 1, 0, none⟩ = some (.slice none 0 0) := (bC HF.out.2 0).trans rfl; have fB := bF HF.out.2 0; clear hb))
  refine aU (aV rfl _ _ (w.heap.size + 1) 30 #[.slice none 0 0] (0, 0) _ rfl (by exact ax (cs := #[.slice none 0 0]) HF.out.2 0 _ rfl) Try.underlying30 rfl z1) rfl ?_
  exact ⟨_, rfl, Kd.R_nil _ _ _ _ _, az HF.out.1 (by omega)⟩
 | true =>
 rw [if_pos rfl] at h
 by_cases hl1 : l1.length ≤ 100000000
 case neg => rw [if_neg hl1] at h; cases h
 rw [if_pos hl1] at h
 have HLL := aM hl1
 clear hl1
 obtain ⟨res, he, h⟩ := oB h
 by_cases hl2 : res.length ≤ 100000000
 case neg => rw [if_neg hl2] at h; cases h
 rw [if_pos hl2] at h
 have HLR := aM hl2
 have HE := aM he
 have HR := aM h
 clear hl2 he h
 go_enter Try.func10, Try.ntmps10
 go_upto_region 8 with (first | (go_at_call 35; (try rw [HWE.out]); refine (HO.out _ en.out).mono ?_; rintro e w1 ⟨P0, rfl, hl, hb⟩; have HL := aM (hl.mono (ok' := fun _ => True) (fun _ _ => trivial)); have nf_ := aM (EiF.below z36 hb); clear HF ; have HF := nf_; clear nf_; (try clear cB fB); have cB : w1.cell? ⟨w.heap.size + 1, 0, none⟩ = some (.slice none 0 0) := (bC HF.out.2 0).trans rfl; have fB := bF HF.out.2 0; clear hl hb) | (go_at_call 36; refine (textOf_any t P0 _ _ HL.out HN.out.1 HN.out.2).mono ?_; rintro e w2 ⟨rfl, hb⟩; have nf_ := aM (EiF.below z36 hb); have nHL_ := aM (LmAt.below (by repeat (first | exact HL.out | (with_reducible refine LmAt.alloc ?_ _) | (with_reducible refine LmAt.drewN ?_ _) | (with_reducible refine LmAt.drew ?_))) hb); clear HF HL; have HF := nf_; clear nf_; have HL := nHL_; clear nHL_; (try clear cB fB); have cB : w2.cell? ⟨w.heap.size + 1, 0, none⟩ = some (.slice none 0 0) := (bC HF.out.2 0).trans rfl; have fB := bF HF.out.2 0; clear hb) | (go_at_call 21; refine (impl_ApplyOp.calls k _ _ l1 _ ao1 true _ (by exact aG gm.out HF.out.1) HL1.out HA.out).mono ?_; rintro e w3 ⟨rfl, hb⟩; have nf_ := aM (EiF.below z36 hb); have nHL_ := aM (LmAt.below (by repeat (first | exact HL.out | (with_reducible refine LmAt.alloc ?_ _) | (with_reducible refine LmAt.drewN ?_ _) | (with_reducible refine LmAt.drew ?_))) hb); clear HF HL; have HF := nf_; clear nf_; have HL := nHL_; clear nHL_; (try clear cB fB); have cB : w3.cell? ⟨w.heap.size + 1, 0, none⟩ = some (.slice none 0 0) := (bC HF.out.2 0).trans rfl; have fB := bF HF.out.2 0; clear hb))
 clear cB fB HWE HO en HN HA
 go_wp2
 go_loopg [6, 10, 37] l1.length (fun d v6 v10 v37 w' => ∃ (i : Nat) (x : Limb) (A6 : Option Addr) (acc : List ByteArray) (i5 : Option Addr) (fo : Nat), v37 = .int .i64 (i : Nat) ∧ i + d = l1.length ∧ v6 = .pointer A6 ∧ v10 = .slice i5 acc.length fo ∧ Aside0 (LmAt w' (fun _ => True) x A6) ∧ Aside0 (Kd.R Kd.string 9 w' w.heap.size (fun _ => True) (.slice i5 acc.length fo) acc) ∧ Aside0 (iL k (l1.drop i) x acc = some res) ∧ Aside0 (EiF w w'))
 case atStart => exact ⟨0, t, P0, [], none, 0, rfl, Nat.zero_add _, rfl, rfl, ⟨by repeat (first | exact HL.out | (with_reducible refine LmAt.alloc ?_ _) | (with_reducible refine LmAt.drewN ?_ _) | (with_reducible refine LmAt.drew ?_))⟩, ⟨Kd.R_nil _ _ _ _ _⟩, ⟨by rw [List.drop_zero]; exact HE.out⟩, ⟨y16⟩⟩
 case round =>
  clear HF HE HL
  obtain ⟨i, x, A6, acc, i5, fo, rfl, hid, rfl, rfl, HX, HV, HE, HF⟩ := hrel
  have hmx1 := HLL.out
  cases gk with
  | zero =>
   have d0 : decide (i < l1.length) = false := dF (by omega)
   have he := HE.out
   rw [List.drop_of_length_le (by omega)] at he
   obtain rfl := sI he
   clear he HE hid hmx1 HX
   have CV := aM (ai HV.out).2.2
   clear HV
   have hmr := HLR.out
   have HMR := aM hmr
   clear hmr
   go_wp2
   go_loopg [14, 66] acc.length (fun d v14 v66 w' => ∃ (j : Nat) (iP : Option Addr), v66 = .int .i64 (j : Nat) ∧ j + d = acc.length ∧ v14 = .pointer iP ∧ Aside0 (LmAt w' (fun _ => True) (iF (acc.take j)) iP) ∧ Aside0 (EiF w w') ∧ Aside0 (Kd.C Kd.string w' i5 acc.length acc))
   case atStart => exact ⟨0, none, rfl, Nat.zero_add _, rfl, ⟨by rw [List.take_zero]; rfl⟩, ⟨y16⟩, ⟨by repeat (first | exact CV.out | (with_reducible refine aH ?_ _) | (with_reducible refine aI ?_ _) | (with_reducible refine aJ ?_))⟩⟩
   case round =>
    clear HF CV
    obtain ⟨j, iP, rfl, hjd, rfl, HX, HF, CV⟩ := hrel
    have hmr := HMR.out
    cases gk with
    | zero =>
     have d9 : decide (j < acc.length) = false := dF (by omega)
     have HRF : Aside0 (ropeF (iF (acc.take j)) = some (r1, r2)) := ⟨by rw [List.take_of_length_le (by omega)]; exact HR.out⟩
     clear hjd hmr HR
     go_wp2_with (first | (go_at_call 42; refine (rope_any _ iP (fun _ => True) _ r1 r2 (by repeat (first | exact HX.out | (with_reducible refine LmAt.alloc ?_ _) | (with_reducible refine LmAt.drewN ?_ _) | (with_reducible refine LmAt.drew ?_))) HRF.out).mono ?_; rintro e w4 ⟨v4, rfl, ho, hb⟩; obtain ⟨A4, c4, eo, -, -⟩ := Kd.R_reads ho; subst eo; have HSZ := aM HF.out.1.size; have gG := aM ho; have nf_ := aM (EiF.below z36 hb); clear HF ; have HF := nf_; clear nf_; (try clear cB fB); have cB : w4.cell? ⟨w.heap.size + 1, 0, none⟩ = some (.slice none 0 0) := (bC HF.out.2 0).trans rfl; have fB := bF HF.out.2 0; clear ho hb))
     refine aU (aV rfl _ _ (w.heap.size + 1) 30 #[.slice A4 r1.length c4] (0, 0) _ rfl (by exact ax (cs := #[.slice none 0 0]) HF.out.2 0 _ rfl) Try.underlying30 rfl z1) rfl ?_
     exact ⟨_, rfl, Kd.R_set (aW gG.out HSZ.out) HF.out.2 z0 0 _, az HF.out.1 (by omega)⟩
    | succ gk0 =>
     have d9 : decide (j < acc.length) = true := dT (by omega)
     have hlt : j < acc.length := by omega
     have hlt' : (j : Int) < (acc.length : Int) := by omega
     have hj2 : (j : Int) + 1 ≤ 100000000 := by omega
     have HJD := aM hjd
     have r5 := aM hj2
     have HIF := aM (iF_at acc j hlt)
     obtain ⟨ads, es_, hs0⟩ := Kd.at_string CV.out (j : Int) (by omega) (by omega)
     simp only [aZ] at hs0
     cases es_
     clear hjd hmr hj2
     go_wp2_with (first | (go_at_call 41; refine (leaf_any _ _).mono ?_; rintro e w5 ⟨B5, rfl, hl, hb⟩; have HLf := aM (hl.mono (ok' := fun _ => True) (fun _ _ => trivial)); have nf_ := aM (EiF.below z36 hb); have nHX_ := aM (LmAt.below (by repeat (first | exact HX.out | (with_reducible refine LmAt.alloc ?_ _) | (with_reducible refine LmAt.drewN ?_ _) | (with_reducible refine LmAt.drew ?_))) hb); have nCV_ := aM (aG (by repeat (first | exact CV.out | (with_reducible refine aH ?_ _) | (with_reducible refine aI ?_ _) | (with_reducible refine aJ ?_))) hb); clear HF HX CV; have HF := nf_; clear nf_; have HX := nHX_; clear nHX_; have CV := nCV_; clear nCV_; clear hl hb) | (go_at_call 40; refine (fork_any _ _ iP B5 (fun _ => True) _ (by repeat (first | exact HX.out | (with_reducible refine LmAt.alloc ?_ _) | (with_reducible refine LmAt.drewN ?_ _) | (with_reducible refine LmAt.drew ?_))) (by repeat (first | exact HLf.out | (with_reducible refine LmAt.alloc ?_ _) | (with_reducible refine LmAt.drewN ?_ _) | (with_reducible refine LmAt.drew ?_))) (fun _ _ => trivial)).mono ?_; rintro e w6 ⟨C6, rfl, hl, hb⟩; have HX2 := aM hl; have nf_ := aM (EiF.below z36 hb); have nCV_ := aM (aG (by repeat (first | exact CV.out | (with_reducible refine aH ?_ _) | (with_reducible refine aI ?_ _) | (with_reducible refine aJ ?_))) hb); clear HF CV; have HF := nf_; clear nf_; have CV := nCV_; clear nCV_; clear HX HLf hl hb))
     have hj2 := r5.out
     go_roundg gk0
     case measure => have := HJD.out; omega
     case rel => exact ⟨j + 1, _, (by rw [show wrap64 ((j : Int) + 1) = ((j + 1 : Nat) : Int) from by unfold wrap64; omega]), by have := HJD.out; omega, rfl, ⟨by rw [HIF.out]; repeat (first | exact HX2.out | (with_reducible refine LmAt.alloc ?_ _) | (with_reducible refine LmAt.drewN ?_ _) | (with_reducible refine LmAt.drew ?_))⟩, ⟨y16⟩, ⟨by repeat (first | exact CV.out | (with_reducible refine aH ?_ _) | (with_reducible refine aI ?_ _) | (with_reducible refine aJ ?_))⟩⟩
  | succ gk0 =>
   have d0 : decide (i < l1.length) = true := dT (by omega)
   have hlt : i < l1.length := by omega
   have hlt' : (i : Int) < (l1.length : Int) := by omega
   have hi2 : (i : Int) + 1 ≤ 100000000 := by omega
   clear hmx1
   have HID := aM hid
   have HI2 := aM hi2
   have he := HE.out
   rw [iL_at k l1 x acc i (by omega)] at he
   obtain ⟨ad, e_, hx0, hx1, hx2⟩ := at_T59 (aG gm.out HF.out.1) (i : Int) (by omega) (by omega)
   simp only [aZ] at hx0 hx1 hx2
   cases e_
   clear hid hi2
   go_upto_region 11 with (fail)
   clear d0 hlt hlt'
   obtain ⟨wc, hwc⟩ : ∃ y, wr.alloc (.cells #[.int .i64 ((rd_T59 l1 (i : Int)).f0), .string ((rd_T59 l1 (i : Int)).f1), .string ((rd_T59 l1 (i : Int)).f2)] 59) = y := ⟨_, rfl⟩
   rw [hwc]
   have hb : Below wr.heap.size wr wc := by rw [← hwc]; exact bA (Below.refl _ _) _
   have BX : Aside0 (wc.heap[wr.heap.size]? = some (.cells #[.int .i64 ((rd_T59 l1 (i : Int)).f0), .string ((rd_T59 l1 (i : Int)).f1), .string ((rd_T59 l1 (i : Int)).f2)] 59 (0, 0))) := ⟨by rw [← hwc]; exact blk_new _ _⟩
   have nf_ := aM (EiF.below z36 hb); have nHX_ := aM (LmAt.below (by repeat (first | exact HX.out | (with_reducible refine LmAt.alloc ?_ _) | (with_reducible refine LmAt.drewN ?_ _) | (with_reducible refine LmAt.drew ?_))) hb); have nHV_ := aM (ag z38 hb); clear HF HX HV; have HF := nf_; clear nf_; have HX := nHX_; clear nHX_; have HV := nHV_; clear nHV_
   obtain ⟨gx, hgx⟩ : ∃ g, wr.heap.size = g := ⟨_, rfl⟩
   rw [hgx] at BX ⊢
   clear hb hwc hgx hx0 hx1 hx2
   have hcx_0 : wc.cell? ⟨gx, 0, none⟩ = some (.int .i64 ((rd_T59 l1 (i : Int)).f0)) := (bC BX.out 0).trans rfl; have hfx_0 := bF BX.out 0; have hcx_1 : wc.cell? ⟨gx, 1, none⟩ = some (.string ((rd_T59 l1 (i : Int)).f1)) := (bC BX.out 1).trans rfl; have hfx_1 := bF BX.out 1; have hcx_2 : wc.cell? ⟨gx, 2, none⟩ = some (.string ((rd_T59 l1 (i : Int)).f2)) := (bC BX.out 2).trans rfl; have hfx_2 := bF BX.out 2
   obtain ⟨⟨q1, q2⟩, hs, he⟩ := oB he
   obtain ⟨sm, hsm⟩ : ∃ m : Int, wrap64 ((rd_T59 l1 (i : Int)).f0 + ((rd_T59 l1 (i : Int)).f2.size : Int)) = m := ⟨_, rfl⟩
   have hsmw : IntKind.i64.wrap ((rd_T59 l1 (i : Int)).f0 + ((rd_T59 l1 (i : Int)).f2.size : Int)) = sm := (i64_w _).trans hsm
   rw [hsm] at hs
   have HS := aM hs
   clear hs hsm HE
   by_cases hk0 : 0 < (rd_T59 l1 (i : Int)).f0
   ·have s1 : decide (0 < (rd_T59 l1 (i : Int)).f0) = true := dT hk0
    rw [if_pos hk0] at he
    by_cases hm_ : acc.length + (pcs q1).length ≤ 100000000
    case neg => rw [if_neg hm_] at he; cases he
    rw [if_pos hm_] at he
    have HM := aM hm_
    clear hm_ hk0
    obtain ⟨cs, hcs, he⟩ := oB he
    have HCS := aM hcs
    obtain ⟨acc2, hac⟩ : ∃ y, acc ++ pcs q1 = y := ⟨_, rfl⟩
    rw [hac] at he
    have HAC := aM hac
    by_cases hm_ : acc2.length + cs.length ≤ 100000000
    case neg => rw [if_neg hm_] at he; cases he
    rw [if_pos hm_] at he
    have HM2 := aM hm_
    have HE2 := aM he
    clear hm_ he hcs hac
    go_upto_region 15 with (first | (go_at_call 37; refine (split_any x A6 sm (fun _ => True) _ (q1, q2) (by repeat (first | exact HX.out | (with_reducible refine LmAt.alloc ?_ _) | (with_reducible refine LmAt.drewN ?_ _) | (with_reducible refine LmAt.drew ?_))) (fun _ _ => trivial) HS.out).mono ?_; rintro e w7 ⟨Aa, Ab, rfl, hla, hlb, hb⟩; have HQ1 := aM hla; have HQ2 := aM hlb; have nf_ := aM (EiF.below z36 hb); have nHV_ := aM (ag z38 hb); have nx_ := aM (af (by repeat (first | exact BX.out | (with_reducible refine av ?_ _) | (with_reducible refine au ?_ _) | (with_reducible refine ar ?_))) hb); (try clear hcx_0 hcx_1 hcx_2 hfx_0 hfx_1 hfx_2); clear HF HV BX; have HF := nf_; clear nf_; have HV := nHV_; clear nHV_; have BX := nx_; clear nx_; obtain ⟨hcx_0, hcx_1, hcx_2, hfx_0, hfx_1, hfx_2⟩ := cc3 BX.out; clear HX hla hlb hb) | (go_at_call 38; refine (pieces_any q1 Aa (fun _ => True) w _ (.slice i5 acc.length fo) acc (by repeat (first | exact HQ1.out | (with_reducible refine LmAt.alloc ?_ _) | (with_reducible refine LmAt.drewN ?_ _) | (with_reducible refine LmAt.drew ?_))) z38 (by exact HF.out.1) HM.out).mono ?_; rintro e w8 ⟨v8, rfl, ho, hb, ht⟩; rw [HAC.out] at ho; obtain ⟨A8, c8, eo⟩ := Kd.R_slice ho; subst eo; have nf_ := aM (EiF.rowTo z36 z38 ht hb); have nHQ2_ := aM (LmAt.rowTo (by repeat (first | exact HQ2.out | (with_reducible refine LmAt.alloc ?_ _) | (with_reducible refine LmAt.drewN ?_ _) | (with_reducible refine LmAt.drew ?_))) z38 z0 ht); have nx_ := aM (blk_rowTo (by repeat (first | exact BX.out | (with_reducible refine av ?_ _) | (with_reducible refine au ?_ _) | (with_reducible refine ar ?_))) z38 z0 ht); (try clear hcx_0 hcx_1 hcx_2 hfx_0 hfx_1 hfx_2); clear HF HQ2 BX; have HF := nf_; clear nf_; have HQ2 := nHQ2_; clear nHQ2_; have BX := nx_; clear nx_; obtain ⟨hcx_0, hcx_1, hcx_2, hfx_0, hfx_1, hfx_2⟩ := cc3 BX.out; clear HV HQ1 HS HM; have HV := aM ho; clear ho hb ht))
    go_wp2_with (first | (go_at_call 39; refine (impl_chunks.calls k _ cs _ HCS.out).mono ?_; rintro e w9 ⟨v9, rfl, ho, hb⟩; obtain ⟨As, ca_, eo⟩ := Kd.R_slice ho; subst eo; have CS := aM (ai ho).2.2; have nf_ := aM (EiF.below z36 hb); have nHQ2_ := aM (LmAt.below (by repeat (first | exact HQ2.out | (with_reducible refine LmAt.alloc ?_ _) | (with_reducible refine LmAt.drewN ?_ _) | (with_reducible refine LmAt.drew ?_))) hb); have nHV_ := aM (ag z38 hb); have nx_ := aM (af (by repeat (first | exact BX.out | (with_reducible refine av ?_ _) | (with_reducible refine au ?_ _) | (with_reducible refine ar ?_))) hb); (try clear hcx_0 hcx_1 hcx_2 hfx_0 hfx_1 hfx_2); clear HF HQ2 HV BX; have HF := nf_; clear nf_; have HQ2 := nHQ2_; clear nHQ2_; have HV := nHV_; clear nHV_; have BX := nx_; clear nx_; obtain ⟨hcx_0, hcx_1, hcx_2, hfx_0, hfx_1, hfx_2⟩ := cc3 BX.out; clear ho hb HCS) | ((with_reducible refine gate_builtin (b := .append) (xs := #[.tmp 58, .tmp 61]) rfl ?_); at_builtin; refine Kd.R_append_rows Kd.string (w0 := w) w.heap.size rfl (.tmp 58) (.tmp 61) 60 9 (.string ⟨#[]⟩) 16 rfl Try.underlying60 info9 rfl z0 (by omega) (.slice A8 acc2.length c8) (acc2) cs _ _ _ (fun _ => True) (fun _ => False) rfl rfl ?aO ?aR (fun _ _ h => h) (fun _ h => h.elim) (fun _ _ => trivial) ?aB ?aS ?aL ?_; (case aR => repeat (first | exact CS.out | (with_reducible refine aH ?_ _) | (with_reducible refine aI ?_ _) | (with_reducible refine aJ ?_))); (case aB => exact HF.out.1); (case aO => repeat (first | exact HV.out | (with_reducible refine ae ?_ _) | (with_reducible refine ac ?_ _) | (with_reducible refine aa ?_))); (case aS => exact HF.out.1.size); (case aL => have := HM2.out; omega); intro v2 w2 ho hb hg hat; obtain ⟨A2, c2, eo⟩ := Kd.R_slice ho; rw [a5] at eo; subst eo; have ht : RowTo _ w2 (.slice A8 acc2.length c8) (.slice A2 _ c2) := ⟨Kept.of_grown hg (Kept.refl _ _) (fun k hk => .inl hk.symm), hat⟩; have nf_ := aM (EiF.rowTo z36 z38 ht hb); have nHQ2_ := aM (LmAt.rowTo (by repeat (first | exact HQ2.out | (with_reducible refine LmAt.alloc ?_ _) | (with_reducible refine LmAt.drewN ?_ _) | (with_reducible refine LmAt.drew ?_))) z38 z0 ht); clear HF HQ2; have HF := nf_; clear nf_; have HQ2 := nHQ2_; clear nHQ2_; clear HV CS HM2; have HV := aM ho; clear ho hb hg hat ht))
    have hi2 := HI2.out
    go_roundg gk0
    case measure => have := HID.out; omega
    case rel => exact ⟨i + 1, q2, _, _, _, _, (by rw [show wrap64 ((i : Int) + 1) = ((i + 1 : Nat) : Int) from by unfold wrap64; omega]), by have := HID.out; omega, rfl, (by rw [a5]), ⟨by repeat (first | exact HQ2.out | (with_reducible refine LmAt.alloc ?_ _) | (with_reducible refine LmAt.drewN ?_ _) | (with_reducible refine LmAt.drew ?_))⟩, ⟨by rw [a5]; repeat (first | exact HV.out | (with_reducible refine ae ?_ _) | (with_reducible refine ac ?_ _) | (with_reducible refine aa ?_))⟩, HE2, ⟨y16⟩⟩
   ·have s1 : decide (0 < (rd_T59 l1 (i : Int)).f0) = false := dF hk0
    rw [if_neg hk0] at he
    clear hk0
    obtain ⟨cs, hcs, he⟩ := oB he
    have HCS := aM hcs
    by_cases hm_ : acc.length + cs.length ≤ 100000000
    case neg => rw [if_neg hm_] at he; cases he
    rw [if_pos hm_] at he
    have HM2 := aM hm_
    have HE2 := aM he
    clear hm_ he hcs
    go_upto_region 15 with (first | (go_at_call 37; refine (split_any x A6 sm (fun _ => True) _ (q1, q2) (by repeat (first | exact HX.out | (with_reducible refine LmAt.alloc ?_ _) | (with_reducible refine LmAt.drewN ?_ _) | (with_reducible refine LmAt.drew ?_))) (fun _ _ => trivial) HS.out).mono ?_; rintro e w7 ⟨Aa, Ab, rfl, hla, hlb, hb⟩; have HQ1 := aM hla; have HQ2 := aM hlb; have nf_ := aM (EiF.below z36 hb); have nHV_ := aM (ag z38 hb); have nx_ := aM (af (by repeat (first | exact BX.out | (with_reducible refine av ?_ _) | (with_reducible refine au ?_ _) | (with_reducible refine ar ?_))) hb); (try clear hcx_0 hcx_1 hcx_2 hfx_0 hfx_1 hfx_2); clear HF HV BX; have HF := nf_; clear nf_; have HV := nHV_; clear nHV_; have BX := nx_; clear nx_; obtain ⟨hcx_0, hcx_1, hcx_2, hfx_0, hfx_1, hfx_2⟩ := cc3 BX.out; clear HX hla hlb hb))
    go_wp2_with (first | (go_at_call 39; refine (impl_chunks.calls k _ cs _ HCS.out).mono ?_; rintro e w9 ⟨v9, rfl, ho, hb⟩; obtain ⟨As, ca_, eo⟩ := Kd.R_slice ho; subst eo; have CS := aM (ai ho).2.2; have nf_ := aM (EiF.below z36 hb); have nHQ2_ := aM (LmAt.below (by repeat (first | exact HQ2.out | (with_reducible refine LmAt.alloc ?_ _) | (with_reducible refine LmAt.drewN ?_ _) | (with_reducible refine LmAt.drew ?_))) hb); have nHV_ := aM (ag z38 hb); have nx_ := aM (af (by repeat (first | exact BX.out | (with_reducible refine av ?_ _) | (with_reducible refine au ?_ _) | (with_reducible refine ar ?_))) hb); (try clear hcx_0 hcx_1 hcx_2 hfx_0 hfx_1 hfx_2); clear HF HQ2 HV BX; have HF := nf_; clear nf_; have HQ2 := nHQ2_; clear nHQ2_; have HV := nHV_; clear nHV_; have BX := nx_; clear nx_; obtain ⟨hcx_0, hcx_1, hcx_2, hfx_0, hfx_1, hfx_2⟩ := cc3 BX.out; clear ho hb HCS) | ((with_reducible refine gate_builtin (b := .append) (xs := #[.tmp 58, .tmp 61]) rfl ?_); at_builtin; refine Kd.R_append_rows Kd.string (w0 := w) w.heap.size rfl (.tmp 58) (.tmp 61) 60 9 (.string ⟨#[]⟩) 16 rfl Try.underlying60 info9 rfl z0 (by omega) (.slice i5 acc.length fo) (acc) cs _ _ _ (fun _ => True) (fun _ => False) rfl rfl ?aO ?aR (fun _ _ h => h) (fun _ h => h.elim) (fun _ _ => trivial) ?aB ?aS ?aL ?_; (case aR => repeat (first | exact CS.out | (with_reducible refine aH ?_ _) | (with_reducible refine aI ?_ _) | (with_reducible refine aJ ?_))); (case aB => exact HF.out.1); (case aO => repeat (first | exact HV.out | (with_reducible refine ae ?_ _) | (with_reducible refine ac ?_ _) | (with_reducible refine aa ?_))); (case aS => exact HF.out.1.size); (case aL => have := HM2.out; omega); intro v2 w2 ho hb hg hat; obtain ⟨A2, c2, eo⟩ := Kd.R_slice ho; rw [a5] at eo; subst eo; have ht : RowTo _ w2 (.slice i5 acc.length fo) (.slice A2 _ c2) := ⟨Kept.of_grown hg (Kept.refl _ _) (fun k hk => .inl hk.symm), hat⟩; have nf_ := aM (EiF.rowTo z36 z38 ht hb); have nHQ2_ := aM (LmAt.rowTo (by repeat (first | exact HQ2.out | (with_reducible refine LmAt.alloc ?_ _) | (with_reducible refine LmAt.drewN ?_ _) | (with_reducible refine LmAt.drew ?_))) z38 z0 ht); clear HF HQ2; have HF := nf_; clear nf_; have HQ2 := nHQ2_; clear nHQ2_; clear HV CS HM2; have HV := aM ho; clear ho hb hg hat ht))
    have hi2 := HI2.out
    go_roundg gk0
    case measure => have := HID.out; omega
    case rel => exact ⟨i + 1, q2, _, _, _, _, (by rw [show wrap64 ((i : Int) + 1) = ((i + 1 : Nat) : Int) from by unfold wrap64; omega]), by have := HID.out; omega, rfl, (by rw [a5]), ⟨by repeat (first | exact HQ2.out | (with_reducible refine LmAt.alloc ?_ _) | (with_reducible refine LmAt.drewN ?_ _) | (with_reducible refine LmAt.drew ?_))⟩, ⟨by rw [a5]; repeat (first | exact HV.out | (with_reducible refine ae ?_ _) | (with_reducible refine ac ?_ _) | (with_reducible refine aa ?_))⟩, HE2, ⟨y16⟩⟩

/-! ### spec_SplitRope: function 18, by hand -/
def spec_SplitRope.f (k : Nat) (l0_0 : List (S101)) (a1 : Int) : Option ((List (S101)) × (List (S101)) × Bool) := (spec_GoodRope.f k l0_0).bind fun m0 => (if m0 = true then ((spec_l12Size.f l0_0).bind fun kK => ((spec_l1In.f a1 0 kK).bind fun mZ => (if mZ = true then ((spec_l12Split.f k l0_0 a1).bind fun gx => ((some (([] : List (S101)) : List (S101))).bind fun y259 => (if y259.length + gx.1.length < 2932031007402 then ((some (([] : List (S101)) : List (S101))).bind fun y266 => (if y266.length + gx.2.length < 2932031007402 then (some ((y259 ++ gx.1), (y266 ++ gx.2), true)) else (none))) else (none)))) else (some (([] : List (S101)), ([] : List (S101)), false))))) else (some (([] : List (S101)), ([] : List (S101)), false)))
theorem spec_SplitRope.mono : ∀ a0 a1 k, LeO (spec_SplitRope.f k a0 a1) (spec_SplitRope.f (k + 1) a0 a1) := by
 intro a0 a1 k
 unfold spec_SplitRope.f
 repeat' first
   | (with_reducible exact spec_GoodRope.mono _ _)
   | (with_reducible exact spec_l12Split.mono _ _ _)
   | (with_reducible exact LeO.refl _)
   | (with_reducible exact LeO.none _)
   | (with_reducible refine LeO.ite ?_ ?_)
   | (with_reducible refine LeO.bind ?_ (fun _ => ?_))
/-- What stands through the whole call. -/
def SrF (A0 : Option Addr) (c0 : Nat) (l0 : List S101) (w W : World) : Prop := Below w.heap.size w W ∧ W.heap[w.heap.size]? = some (.cells #[.slice A0 l0.length c0] 30 (0, 0)) ∧ W.heap[w.heap.size + 1]? = some (.cells #[.slice none 0 0] 30 (0, 0)) ∧ W.heap[w.heap.size + 1 + 1]? = some (.cells #[.slice none 0 0] 30 (0, 0)) ∧ Kd.C k101 W A0 l0.length l0
section
variable {A0 : Option Addr} {c0 : Nat} {l0 : List S101} {w W W' : World}
theorem SrF.below (h : SrF A0 c0 l0 w W) (hb : Below W.heap.size W W') : SrF A0 c0 l0 w W' := ⟨aA h.1 hb, af h.2.1 hb, af h.2.2.1 hb, af h.2.2.2.1 hb, aG h.2.2.2.2 hb⟩
theorem SrF.alloc (h : SrF A0 c0 l0 w W) (o : Obj) : SrF A0 c0 l0 w (W.alloc o) := h.below (bA (Below.refl _ _) _)
theorem SrF.drewN (h : SrF A0 c0 l0 w W) (n : Nat) : SrF A0 c0 l0 w (W.drewN n) := h.below (pD (Below.refl _ _) _)
theorem SrF.drew (h : SrF A0 c0 l0 w W) : SrF A0 c0 l0 w W.drew := h.below (below_drew (Below.refl _ _))
end
set_option maxHeartbeats 8000000 in
set_option maxRecDepth 100000 in
theorem spec_SplitRope.calls (k : Nat) (cL : Option Addr) (cM : Nat) (l0_0 : List S101) (a1 : Int) (r1 : List S101) (r2 : List S101) (r3 : Bool) (w : World) (hr0_0 : Kd.C k101 w cL l0_0.length l0_0) (hc0_0 : l0_0.length ≤ cM) (h : spec_SplitRope.f k l0_0 a1 = some (r1, r2, r3)) :
  Calls Try.prog 18 #[.agg #[.slice cL l0_0.length cM], .int .i64 a1] w fun e w' => ∃ v0_ v1_ : Value, e = .returned (.tuple #[.agg #[v0_], .agg #[v1_], .bool r3]) ∧ Kd.R k101 101 w' w.heap.size (fun k_ => some k_ ≠ (v1_ : Value).ownBlock) v0_ r1 ∧ Kd.R k101 101 w' w.heap.size (fun k_ => some k_ ≠ (v0_ : Value).ownBlock) v1_ r2 ∧ Below w.heap.size w w' := by
 obtain ⟨W2, hW2⟩ : ∃ W2, ((w.alloc (.cells #[.slice cL l0_0.length cM] 30)).alloc (.cells #[.slice none 0 0] 30)).alloc (.cells #[.slice none 0 0] 30) = W2 := ⟨_, rfl⟩
 have HWB : Below w.heap.size w W2 := by rw [← hW2]; exact bA (bA (bA (Below.refl _ _) _) _) _
 have HF : Aside0 (SrF cL cM l0_0 w W2) := ⟨HWB, by rw [← hW2]; have := av (av (blk_new w (.cells #[.slice cL l0_0.length cM] 30)) (.cells #[.slice none 0 0] 30)) (.cells #[.slice none 0 0] 30); simpa using this, by rw [← hW2]; have := av (blk_new (w.alloc (.cells #[.slice cL l0_0.length cM] 30)) (.cells #[.slice none 0 0] 30)) (.cells #[.slice none 0 0] 30); simpa using this, by rw [← hW2]; have := blk_new ((w.alloc (.cells #[.slice cL l0_0.length cM] 30)).alloc (.cells #[.slice none 0 0] 30)) (.cells #[.slice none 0 0] 30); simpa using this, aG hr0_0 HWB⟩
 have HWE := aM hW2
 have en := aM hc0_0
 obtain ⟨gg, hg, h⟩ := oB h
 have HG := aM hg
 clear HWB hr0_0 hc0_0 hg hW2
 cases gg with
 | false =>
  rw [if_neg (by simp)] at h
  obtain ⟨rfl, h3⟩ := Prod.mk.inj (sI h)
  obtain ⟨rfl, rfl⟩ := Prod.mk.inj h3
  clear h h3
  go_enter Try.func18, Try.ntmps18
  go_wp2_with (first | (go_at_call 24; (try rw [HWE.out]); refine (spec_GoodRope.calls k _ _ l0_0 _ _ z39 en.out HG.out).mono ?_; rintro e w1 ⟨rfl, hb⟩; replace HF := aM (SrF.below z37 hb); (try clear cA jV jU f1_ f2_); have cA : w1.cell? ⟨w.heap.size, 0, none⟩ = some (.slice cL l0_0.length cM) := (bC HF.out.2.1 0).trans rfl; have jV : w1.cell? ⟨w.heap.size + 1, 0, none⟩ = some (.slice none 0 0) := (bC HF.out.2.2.1 0).trans rfl; have jU : w1.cell? ⟨w.heap.size + 1 + 1, 0, none⟩ = some (.slice none 0 0) := (bC HF.out.2.2.2.1 0).trans rfl; have f1_ := bF HF.out.2.2.1 0; have f2_ := bF HF.out.2.2.2.1 0; clear hb))
  refine aU (results_list (rs := [.cell 4 30, .cell 5 30, .tmp 6]) rfl (by simp) (.cell (w.heap.size + 1) 30 #[.slice none 0 0] (0, 0) _ rfl (by exact aw (ax (cs := #[.slice none 0 0]) HF.out.2.2.1 0 _ rfl) (by simp) _) Try.underlying30 rfl z1 (.cell (w.heap.size + 1 + 1) 30 #[.slice none 0 0] (0, 0) _ rfl (by exact ax (cs := #[.slice none 0 0]) (aw HF.out.2.2.2.1 (by simp) _) 0 _ rfl) Try.underlying30 rfl z1 (.tmp .nil)))) rfl ?_
  exact ⟨_, _, rfl, Kd.R_nil _ _ _ _ _, Kd.R_nil _ _ _ _ _, az (az HF.out.1 (by omega)) (by omega)⟩
 | true =>
 rw [if_pos rfl] at h
 obtain ⟨sz, hz, h⟩ := oB h
 obtain ⟨inn, hn, h⟩ := oB h
 have HZ := aM hz
 have HN := aM hn
 clear hz hn
 cases inn with
 | false =>
  rw [if_neg (by simp)] at h
  obtain ⟨rfl, h3⟩ := Prod.mk.inj (sI h)
  obtain ⟨rfl, rfl⟩ := Prod.mk.inj h3
  clear h h3
  go_enter Try.func18, Try.ntmps18
  go_wp2_with (first | (go_at_call 24; (try rw [HWE.out]); refine (spec_GoodRope.calls k _ _ l0_0 _ _ z39 en.out HG.out).mono ?_; rintro e w1 ⟨rfl, hb⟩; replace HF := aM (SrF.below z37 hb); (try clear cA jV jU f1_ f2_); have cA : w1.cell? ⟨w.heap.size, 0, none⟩ = some (.slice cL l0_0.length cM) := (bC HF.out.2.1 0).trans rfl; have jV : w1.cell? ⟨w.heap.size + 1, 0, none⟩ = some (.slice none 0 0) := (bC HF.out.2.2.1 0).trans rfl; have jU : w1.cell? ⟨w.heap.size + 1 + 1, 0, none⟩ = some (.slice none 0 0) := (bC HF.out.2.2.2.1 0).trans rfl; have f1_ := bF HF.out.2.2.1 0; have f2_ := bF HF.out.2.2.2.1 0; clear hb) | (go_at_call 50; refine (spec_l12Size.calls _ _ l0_0 _ _ z39 en.out HZ.out).mono ?_; rintro e w2 ⟨rfl, hb⟩; replace hb := hb.below; replace HF := aM (SrF.below z37 hb); (try clear cA jV jU f1_ f2_); have cA : w2.cell? ⟨w.heap.size, 0, none⟩ = some (.slice cL l0_0.length cM) := (bC HF.out.2.1 0).trans rfl; have jV : w2.cell? ⟨w.heap.size + 1, 0, none⟩ = some (.slice none 0 0) := (bC HF.out.2.2.1 0).trans rfl; have jU : w2.cell? ⟨w.heap.size + 1 + 1, 0, none⟩ = some (.slice none 0 0) := (bC HF.out.2.2.2.1 0).trans rfl; have f1_ := bF HF.out.2.2.1 0; have f2_ := bF HF.out.2.2.2.1 0; clear hb) | (go_at_call 49; refine (spec_l1In.calls _ _ _ _ _ HN.out).mono ?_; rintro e w3 ⟨rfl, hb⟩; replace hb := hb.below; replace HF := aM (SrF.below z37 hb); (try clear cA jV jU f1_ f2_); have cA : w3.cell? ⟨w.heap.size, 0, none⟩ = some (.slice cL l0_0.length cM) := (bC HF.out.2.1 0).trans rfl; have jV : w3.cell? ⟨w.heap.size + 1, 0, none⟩ = some (.slice none 0 0) := (bC HF.out.2.2.1 0).trans rfl; have jU : w3.cell? ⟨w.heap.size + 1 + 1, 0, none⟩ = some (.slice none 0 0) := (bC HF.out.2.2.2.1 0).trans rfl; have f1_ := bF HF.out.2.2.1 0; have f2_ := bF HF.out.2.2.2.1 0; clear hb))
  refine aU (results_list (rs := [.cell 4 30, .cell 5 30, .tmp 6]) rfl (by simp) (.cell (w.heap.size + 1) 30 #[.slice none 0 0] (0, 0) _ rfl (by exact aw (ax (cs := #[.slice none 0 0]) HF.out.2.2.1 0 _ rfl) (by simp) _) Try.underlying30 rfl z1 (.cell (w.heap.size + 1 + 1) 30 #[.slice none 0 0] (0, 0) _ rfl (by exact ax (cs := #[.slice none 0 0]) (aw HF.out.2.2.2.1 (by simp) _) 0 _ rfl) Try.underlying30 rfl z1 (.tmp .nil)))) rfl ?_
  exact ⟨_, _, rfl, Kd.R_nil _ _ _ _ _, Kd.R_nil _ _ _ _ _, az (az HF.out.1 (by omega)) (by omega)⟩
 | true =>
 rw [if_pos rfl] at h
 obtain ⟨⟨x, y⟩, hs, h⟩ := oB h
 rw [Option.bind_some] at h
 have HS := aM hs
 clear hs
 split at h
 case isFalse => cases h
 case isTrue hx =>
 rw [Option.bind_some] at h
 split at h
 case isFalse => cases h
 case isTrue hy =>
 have LX : Aside0 (([] : List S101).length + x.length < 2932031007402) := ⟨hx⟩
 have LY : Aside0 (([] : List S101).length + y.length < 2932031007402) := ⟨hy⟩
 rw [List.nil_append, List.nil_append] at h
 obtain ⟨rfl, h3⟩ := Prod.mk.inj (sI h)
 obtain ⟨rfl, rfl⟩ := Prod.mk.inj h3
 clear h h3 hx hy
 go_enter Try.func18, Try.ntmps18
 go_upto_region 4 with (first | (go_at_call 24; (try rw [HWE.out]); refine (spec_GoodRope.calls k _ _ l0_0 _ _ z39 en.out HG.out).mono ?_; rintro e w1 ⟨rfl, hb⟩; replace HF := aM (SrF.below z37 hb); (try clear cA jV jU f1_ f2_); have cA : w1.cell? ⟨w.heap.size, 0, none⟩ = some (.slice cL l0_0.length cM) := (bC HF.out.2.1 0).trans rfl; have jV : w1.cell? ⟨w.heap.size + 1, 0, none⟩ = some (.slice none 0 0) := (bC HF.out.2.2.1 0).trans rfl; have jU : w1.cell? ⟨w.heap.size + 1 + 1, 0, none⟩ = some (.slice none 0 0) := (bC HF.out.2.2.2.1 0).trans rfl; have f1_ := bF HF.out.2.2.1 0; have f2_ := bF HF.out.2.2.2.1 0; clear hb) | (go_at_call 50; refine (spec_l12Size.calls _ _ l0_0 _ _ z39 en.out HZ.out).mono ?_; rintro e w2 ⟨rfl, hb⟩; replace hb := hb.below; replace HF := aM (SrF.below z37 hb); (try clear cA jV jU f1_ f2_); have cA : w2.cell? ⟨w.heap.size, 0, none⟩ = some (.slice cL l0_0.length cM) := (bC HF.out.2.1 0).trans rfl; have jV : w2.cell? ⟨w.heap.size + 1, 0, none⟩ = some (.slice none 0 0) := (bC HF.out.2.2.1 0).trans rfl; have jU : w2.cell? ⟨w.heap.size + 1 + 1, 0, none⟩ = some (.slice none 0 0) := (bC HF.out.2.2.2.1 0).trans rfl; have f1_ := bF HF.out.2.2.1 0; have f2_ := bF HF.out.2.2.2.1 0; clear hb) | (go_at_call 49; refine (spec_l1In.calls _ _ _ _ _ HN.out).mono ?_; rintro e w3 ⟨rfl, hb⟩; replace hb := hb.below; replace HF := aM (SrF.below z37 hb); (try clear cA jV jU f1_ f2_); have cA : w3.cell? ⟨w.heap.size, 0, none⟩ = some (.slice cL l0_0.length cM) := (bC HF.out.2.1 0).trans rfl; have jV : w3.cell? ⟨w.heap.size + 1, 0, none⟩ = some (.slice none 0 0) := (bC HF.out.2.2.1 0).trans rfl; have jU : w3.cell? ⟨w.heap.size + 1 + 1, 0, none⟩ = some (.slice none 0 0) := (bC HF.out.2.2.2.1 0).trans rfl; have f1_ := bF HF.out.2.2.1 0; have f2_ := bF HF.out.2.2.2.1 0; clear hb) | (go_at_call 31; refine (split_rd k l0_0 cL cM a1 x y _ z39 en.out HS.out).mono ?_; rintro e w4 ⟨A5, c5, A6, c6, rfl, hc5, hl5, hc6, hl6, hb⟩; have jH := aM hc5; have mm := aM hc6; replace HF := aM (SrF.below z37 hb); (try clear cA jV jU f1_ f2_); have cA : w4.cell? ⟨w.heap.size, 0, none⟩ = some (.slice cL l0_0.length cM) := (bC HF.out.2.1 0).trans rfl; have jV : w4.cell? ⟨w.heap.size + 1, 0, none⟩ = some (.slice none 0 0) := (bC HF.out.2.2.1 0).trans rfl; have jU : w4.cell? ⟨w.heap.size + 1 + 1, 0, none⟩ = some (.slice none 0 0) := (bC HF.out.2.2.2.1 0).trans rfl; have f1_ := bF HF.out.2.2.1 0; have f2_ := bF HF.out.2.2.2.1 0; clear hc5 hl5 hc6 hl6 hb))
 have HG0 := HF
 go_upto_region 5 with (first | ((with_reducible refine aN (N := 31) rfl ?_); refine Kd.R_lit k101 (w0 := w4) w4.heap.size 101 ?hg (N := 31) ?hd (xs := ([] : List (S101))) (inner := []) (ok := fun _ => True) (okp := fun _ => True) ?hr ?hp (fun _ hk => hk) trivial (Below.refl _ _) (Nat.le_refl _) (by simp) ?_; (case hd => rfl); (case hg => rfl); (case hr => first | (go_simp; done) | (go_simp; rfl)); (case hp => exact (Reps.none _ _)); intro v1 w5 ho1 hb hg_ hnew_; obtain ⟨A3, c3, eo⟩ := Kd.R_slice ho1; subst eo; have HV1 := aM ho1; have HB1 : Aside0 (Below w4.heap.size w4 w5) := ⟨hb⟩; have HC5n := aM (aG jH.out hb); replace HF := aM (SrF.below z37 hb); (try clear cA jV jU f1_ f2_); have cA : w5.cell? ⟨w.heap.size, 0, none⟩ = some (.slice cL l0_0.length cM) := (bC HF.out.2.1 0).trans rfl; have jV : w5.cell? ⟨w.heap.size + 1, 0, none⟩ = some (.slice none 0 0) := (bC HF.out.2.2.1 0).trans rfl; have jU : w5.cell? ⟨w.heap.size + 1 + 1, 0, none⟩ = some (.slice none 0 0) := (bC HF.out.2.2.2.1 0).trans rfl; have f1_ := bF HF.out.2.2.1 0; have f2_ := bF HF.out.2.2.2.1 0; clear ho1 hb hg_ hnew_) | ((with_reducible refine gate_builtin (b := .append) (xs := #[.tmp 31, .tmp 32]) rfl ?_); at_builtin; refine Kd.R_append_rows k101 (w0 := w4) w4.heap.size rfl (.tmp 31) (.tmp 32) 28 101 (.agg #[(.int .i64 0), (.int .i64 0), (.string ⟨#[]⟩), (.int .i64 0), (.int .i64 0)]) 48 rfl Try.underlying28 info101 rfl z0 (by omega) (.slice A3 0 c3) [] x _ _ _ (fun _ => True) (fun _ => False) rfl rfl ?aO ?aR (fun _ _ h => h) (fun _ h => h.elim) (fun _ _ => trivial) ?aB ?aS ?aL ?_; (case aR => repeat (first | exact HC5n.out | (with_reducible refine aH ?_ _) | (with_reducible refine aI ?_ _) | (with_reducible refine aJ ?_))); (case aB => exact (by repeat (first | (with_reducible first | exact HB1.out | apply bA | apply pD | apply bD) | exact HB1.out))); (case aO => exact (kR_ HV1.out)); (case aS => exact (aC (by repeat (first | (with_reducible first | exact HB1.out | apply bA | apply pD | apply bD) | exact HB1.out)))); (case aL => have := LX.out; simp only [List.length_nil] at *; omega); intro v5 w6 ho hb5 hg hat; rw [List.nil_append] at ho; obtain ⟨A7, c7, eo⟩ := Kd.R_slice ho; subst eo; have HV2 := aM ho; have HBA := aM hb5; replace HF := aM (SrF.below HG0.out hb5); (try clear cA jV jU f1_ f2_); have cA : w6.cell? ⟨w.heap.size, 0, none⟩ = some (.slice cL l0_0.length cM) := (bC HF.out.2.1 0).trans rfl; have jV : w6.cell? ⟨w.heap.size + 1, 0, none⟩ = some (.slice none 0 0) := (bC HF.out.2.2.1 0).trans rfl; have jU : w6.cell? ⟨w.heap.size + 1 + 1, 0, none⟩ = some (.slice none 0 0) := (bC HF.out.2.2.2.1 0).trans rfl; have f1_ := bF HF.out.2.2.1 0; have f2_ := bF HF.out.2.2.2.1 0; clear ho hb5 hg hat))
 obtain ⟨wc, hwc⟩ : ∃ x_, w6.alloc (.cells #[.slice A7 x.length c7] 30) = x_ := ⟨_, rfl⟩
 rw [hwc]
 have hb : Below w6.heap.size w6 wc := by rw [← hwc]; exact bA (Below.refl _ _) _
 have BX : Aside0 (wc.heap[w6.heap.size]? = some (.cells #[.slice A7 x.length c7] 30 (0, 0))) := ⟨by rw [← hwc]; exact blk_new _ _⟩
 have nf_ := aM (SrF.below z37 hb); clear HF; have HF := nf_; clear nf_; (try clear cA jV jU f1_ f2_); have cA : wc.cell? ⟨w.heap.size, 0, none⟩ = some (.slice cL l0_0.length cM) := (bC HF.out.2.1 0).trans rfl; have jV : wc.cell? ⟨w.heap.size + 1, 0, none⟩ = some (.slice none 0 0) := (bC HF.out.2.2.1 0).trans rfl; have jU : wc.cell? ⟨w.heap.size + 1 + 1, 0, none⟩ = some (.slice none 0 0) := (bC HF.out.2.2.2.1 0).trans rfl; have f1_ := bF HF.out.2.2.1 0; have f2_ := bF HF.out.2.2.2.1 0
 have HV3 := aM (ag HV2.out hb)
 have rD := aM (aG (aG mm.out HBA.out) hb)
 have HSZ := aM HG0.out.1.size
 have HGX := aM (ay HG0.out.2.2.2.1)
 have HGY : Aside0 (w4.heap.size ≤ w6.heap.size) := ⟨HBA.out.size⟩
 clear hb hwc HV2 HV1 HB1 jH mm HBA HG HZ HN HS HWE
 have HG1 := HF
 go_upto_region 6 with (first | ((with_reducible refine aN (N := 35) rfl ?_); refine Kd.R_lit k101 (w0 := wc) wc.heap.size 101 ?hg (N := 35) ?hd (xs := ([] : List (S101))) (inner := []) (ok := fun _ => True) (okp := fun _ => True) ?hr ?hp (fun _ hk => hk) trivial (Below.refl _ _) (Nat.le_refl _) (by simp) ?_; (case hd => rfl); (case hg => rfl); (case hr => first | (go_simp; done) | (go_simp; rfl)); (case hp => exact (Reps.none _ _)); intro v1 w7 ho1 hb hg_ hnew_; obtain ⟨A9, c9, eo⟩ := Kd.R_slice ho1; subst eo; have HY1 := aM ho1; have HB2 : Aside0 (Below wc.heap.size wc w7) := ⟨hb⟩; have HC7n := aM (aG rD.out hb); replace HF := aM (SrF.below z37 hb); (try clear cA jV jU f1_ f2_); have cA : w7.cell? ⟨w.heap.size, 0, none⟩ = some (.slice cL l0_0.length cM) := (bC HF.out.2.1 0).trans rfl; have jV : w7.cell? ⟨w.heap.size + 1, 0, none⟩ = some (.slice none 0 0) := (bC HF.out.2.2.1 0).trans rfl; have jU : w7.cell? ⟨w.heap.size + 1 + 1, 0, none⟩ = some (.slice none 0 0) := (bC HF.out.2.2.2.1 0).trans rfl; have f1_ := bF HF.out.2.2.1 0; have f2_ := bF HF.out.2.2.2.1 0; clear ho1 hb hg_ hnew_) | ((with_reducible refine gate_builtin (b := .append) (xs := #[.tmp 35, .tmp 36]) rfl ?_); at_builtin; refine Kd.R_append_rows k101 (w0 := wc) wc.heap.size rfl (.tmp 35) (.tmp 36) 28 101 (.agg #[(.int .i64 0), (.int .i64 0), (.string ⟨#[]⟩), (.int .i64 0), (.int .i64 0)]) 48 rfl Try.underlying28 info101 rfl z0 (by omega) (.slice A9 0 c9) [] y _ _ _ (fun _ => True) (fun _ => False) rfl rfl ?aO ?aR (fun _ _ h => h) (fun _ h => h.elim) (fun _ _ => trivial) ?aB ?aS ?aL ?_; (case aR => repeat (first | exact HC7n.out | (with_reducible refine aH ?_ _) | (with_reducible refine aI ?_ _) | (with_reducible refine aJ ?_))); (case aB => exact (by repeat (first | (with_reducible first | exact HB2.out | apply bA | apply pD | apply bD) | exact HB2.out))); (case aO => exact (kR_ HY1.out)); (case aS => exact (aC (by repeat (first | (with_reducible first | exact HB2.out | apply bA | apply pD | apply bD) | exact HB2.out)))); (case aL => have := LY.out; simp only [List.length_nil] at *; omega); intro v5 w8 ho hb5 hg hat; rw [List.nil_append] at ho; obtain ⟨A8, c8, eo⟩ := Kd.R_slice ho; subst eo; have HY2 := aM ho; have HBY := aM hb5; replace HF := aM (SrF.below HG1.out hb5); (try clear cA jV jU f1_ f2_); have cA : w8.cell? ⟨w.heap.size, 0, none⟩ = some (.slice cL l0_0.length cM) := (bC HF.out.2.1 0).trans rfl; have jV : w8.cell? ⟨w.heap.size + 1, 0, none⟩ = some (.slice none 0 0) := (bC HF.out.2.2.1 0).trans rfl; have jU : w8.cell? ⟨w.heap.size + 1 + 1, 0, none⟩ = some (.slice none 0 0) := (bC HF.out.2.2.2.1 0).trans rfl; have f1_ := bF HF.out.2.2.1 0; have f2_ := bF HF.out.2.2.2.1 0; clear ho hb5 hg hat))
 obtain ⟨wd, hwc⟩ : ∃ x_, w8.alloc (.cells #[.slice A8 y.length c8] 30) = x_ := ⟨_, rfl⟩
 rw [hwc]
 have hb : Below w8.heap.size w8 wd := by rw [← hwc]; exact bA (Below.refl _ _) _
 have BY : Aside0 (wd.heap[w8.heap.size]? = some (.cells #[.slice A8 y.length c8] 30 (0, 0))) := ⟨by rw [← hwc]; exact blk_new _ _⟩
 have nf_ := aM (SrF.below z37 hb); clear HF; have HF := nf_; clear nf_; (try clear cA jV jU f1_ f2_); have cA : wd.cell? ⟨w.heap.size, 0, none⟩ = some (.slice cL l0_0.length cM) := (bC HF.out.2.1 0).trans rfl; have jV : wd.cell? ⟨w.heap.size + 1, 0, none⟩ = some (.slice none 0 0) := (bC HF.out.2.2.1 0).trans rfl; have jU : wd.cell? ⟨w.heap.size + 1 + 1, 0, none⟩ = some (.slice none 0 0) := (bC HF.out.2.2.2.1 0).trans rfl; have f1_ := bF HF.out.2.2.1 0; have f2_ := bF HF.out.2.2.2.1 0
 have HY3 := aM (ag HY2.out hb)
 have k0 := Kd.R_elder HV3.out HY2.out HBY.out
 have k1 := Kd.R_newR HY2.out HV3.out
 have K0 := aM (ag k0 hb)
 have K1 := aM (ag k1 hb)
 have BX2 := aM (af (af BX.out HBY.out) hb)
 have hgy := ay (af BX.out HBY.out)
 obtain ⟨gx, hgx⟩ : ∃ g, w6.heap.size = g := ⟨_, rfl⟩
 obtain ⟨gy, hgy2⟩ : ∃ g, w8.heap.size = g := ⟨_, rfl⟩
 have hsx : w.heap.size + 1 + 1 < gx := by have := HGX.out; have := HGY.out; omega
 have hsy : gx < gy := by omega
 have hsc : w.heap.size ≤ wc.heap.size := HG1.out.1.size
 rw [hgx] at BX2 ⊢
 rw [hgy2] at BY ⊢
 clear hb hwc hgx hgy2 hgy HY2 HY1 rD HB2 HBY HV3 HY3 k0 k1 BX
 have d1 : wd.cell? ⟨gx, 0, none⟩ = some (.slice A7 x.length c7) := (bC BX2.out 0).trans rfl
 have d2 : wd.cell? ⟨gy, 0, none⟩ = some (.slice A8 y.length c8) := (bC BY.out 0).trans rfl
 have u1 : ¬ w.heap.size + 1 = gx := by omega
 have u2 : ¬ gx = w.heap.size + 1 := by omega
 have u3 : ¬ w.heap.size + 1 + 1 = gx := by omega
 have u4 : ¬ gx = w.heap.size + 1 + 1 := by omega
 have u5 : ¬ w.heap.size + 1 = gy := by omega
 have u6 : ¬ gy = w.heap.size + 1 := by omega
 have u7 : ¬ w.heap.size + 1 + 1 = gy := by omega
 have u8 : ¬ gy = w.heap.size + 1 + 1 := by omega
 have HQ := aM (And.intro hsx (And.intro hsy hsc))
 clear hsx hsy hsc
 go_region
 go_wp2
 refine aU (results_list (rs := [.cell 4 30, .cell 5 30, .tmp 6]) rfl (by simp) (.cell (w.heap.size + 1) 30 #[.slice A7 x.length c7] (0, 0) _ rfl (by exact ar (aw (ax (cs := #[.slice none 0 0]) HF.out.2.2.1 0 _ rfl) (by simp) _)) Try.underlying30 rfl z1 (.cell (w.heap.size + 1 + 1) 30 #[.slice A8 y.length c8] (0, 0) _ rfl (by exact ar (ax (cs := #[.slice none 0 0]) (aw HF.out.2.2.2.1 (by simp) _) 0 _ rfl)) Try.underlying30 rfl z1 (.tmp .nil)))) rfl ?_
 have s0 := aa (Kd.R_set (Kd.R_set (aW K0.out HSZ.out) HF.out.2.2.1 z0 0 (.slice A7 x.length c7)) (aw (p := ⟨w.heap.size + 1, 0, none⟩) HF.out.2.2.2.1 (by simp) (.slice A7 x.length c7)) z0 0 (.slice A8 y.length c8))
 have s1 := aa (Kd.R_set (Kd.R_set (aW K1.out (base' := w.heap.size) HQ.out.2.2) HF.out.2.2.1 z0 0 (.slice A7 x.length c7)) (aw (p := ⟨w.heap.size + 1, 0, none⟩) HF.out.2.2.2.1 (by simp) (.slice A7 x.length c7)) z0 0 (.slice A8 y.length c8))
 exact ⟨_, _, rfl, ah s0 (fun _ hk => hk.2), ah s1 (fun _ hk => hk.2), below_drew (az (az HF.out.1 (by omega)) (by omega))⟩

end Go.Proofs.Ytblnnbaeiggmoaa.AFnSplit
