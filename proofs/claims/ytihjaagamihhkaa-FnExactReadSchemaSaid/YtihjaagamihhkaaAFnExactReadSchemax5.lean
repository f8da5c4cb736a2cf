-- this session's own text: written by wip/tools/ownprint.py over the kit's print
import Derived.Laws.Externs
import Derived.Lib.Bytealg
import Derived.Deep.RegionLaw
import Derived.Outline
import Derived.Deep.DeepCutAuto
import Derived.Deep.CutBlock
import Derived.BigRegion
import Derived.Test.YtihjaagamihhkaaAFnExactReadSchemax0
import Derived.Test.YtihjaagamihhkaaAFnExactReadSchemax1
namespace Go.Proofs.Ytihjaagamihhkaa.AFnExactReadSchema
open Go.RowKit Go.Proofs.YtihjaagamihhkaaW.PrintWords Go.Proofs.YtihjaagamihhkaaW.PrintLast Go.Proofs.YtihjaagamihhkaaW.PrintMore
attribute [local go_sem] max2_int min2_int max_two min_two max_three min_three max_four min_four   -- for this text's walks alone
set_option linter.unusedVariables false
set_option linter.unusedSimpArgs false

/-- A state of type 62 at block g of W; what its slices lead to came in by w0. -/
def IsS62 (w0 W : World) (g : Nat) (f0 : ByteArray) (f1 : Int) : Prop := W.heap[g]? = some (.cells #[.string f0, .int .i64 f1] 62 (0, 0)) ∧ w0.heap.size ≤ g
theorem IsS62.grown {w0 W : World} {g : Nat} {f0 : ByteArray} {f1 : Int} {W1 : World} {row : Option Nat} (h : IsS62 w0 W g f0 f1) (hw : W.grownBy W1 row) (hne : some g ≠ row) : IsS62 w0 W1 g f0 f1 := by
 obtain ⟨hb, hg⟩ := h
 exact ⟨blk_grown hb hw hne, hg⟩
theorem IsS62.own_neN {w0 W : World} {g : Nat} {f0 : ByteArray} {f1 : Int} {α : Type} {d : Kd α} {e : Nat} {base : Nat} {ok : Nat → Prop} {v : Value} {xs : List α} (h : IsS62 w0 W g f0 f1) (ho : Kd.N d e W base ok v xs) (ht : e ≠ 62) : some g ≠ v.ownBlock := by
 obtain ⟨hb, hg⟩ := h
 exact Kd.N_ne ho hb ht
theorem IsS62.fresh {w0 W : World} {g : Nat} {f0 : ByteArray} {f1 : Int} (h : IsS62 w0 W g f0 f1) : ∀ k, W.heap.size ≤ k → k ≠ g := by
 obtain ⟨hb, hg⟩ := h
 exact Kd.freshB hb
theorem IsS62.kept {w0 W : World} {g : Nat} {f0 : ByteArray} {f1 : Int} {W1 : World} {S : Nat → Prop} (h : IsS62 w0 W g f0 f1) (hk : Kept W W1 S) (hne : ¬ S g) : IsS62 w0 W1 g f0 f1 := by
 obtain ⟨hb, hg⟩ := h
 exact ⟨blk_kept hb hk hne, hg⟩
theorem IsS62.below {w0 W : World} {g : Nat} {f0 : ByteArray} {f1 : Int} {W1 : World} (h : IsS62 w0 W g f0 f1) (hw : Below W.heap.size W W1) : IsS62 w0 W1 g f0 f1 := h.grown (grown_of_below hw none) (by simp)
theorem IsS62.alloc {w0 W : World} {g : Nat} {f0 : ByteArray} {f1 : Int} (h : IsS62 w0 W g f0 f1) (o : Obj) : IsS62 w0 (W.alloc o) g f0 f1 := h.below (bA (Below.refl _ _) o)
theorem IsS62.drewN {w0 W : World} {g : Nat} {f0 : ByteArray} {f1 : Int} (h : IsS62 w0 W g f0 f1) (m : Nat) : IsS62 w0 (W.drewN m) g f0 f1 := h
theorem IsS62.drew {w0 W : World} {g : Nat} {f0 : ByteArray} {f1 : Int} (h : IsS62 w0 W g f0 f1) : IsS62 w0 W.drew g f0 f1 := h
theorem IsS62.at_ {w0 W : World} {g : Nat} {f0 : ByteArray} {f1 : Int} {w' : World} {m : Nat} (hq : W.drewN m = w') (h : IsS62 w0 W g f0 f1) : IsS62 w0 w' g f0 f1 := by subst hq; exact IsS62.drewN h m
theorem IsS62.apart {w0 W : World} {g : Nat} {f0 : ByteArray} {f1 : Int} {α : Type} {d : Kd α} {e : Nat} {base : Nat} {ok : Nat → Prop} {v : Value} {xs : List α} (h : IsS62 w0 W g f0 f1) (ho : d.R e W base ok v xs) (ht : ∀ q, q ∈ e :: d.E → q ≠ 62) : d.R e W base (fun k => ok k ∧ k ≠ g) v xs := by
 obtain ⟨hb, hg⟩ := h
 exact Kd.R_types ho hb ht
theorem IsS62.own_ne {w0 W : World} {g : Nat} {f0 : ByteArray} {f1 : Int} {α : Type} {d : Kd α} {e : Nat} {base : Nat} {ok : Nat → Prop} {v : Value} {xs : List α} (h : IsS62 w0 W g f0 f1) (ho : d.R e W base ok v xs) (ht : e ≠ 62) : some g ≠ v.ownBlock := by
 obtain ⟨hb, hg⟩ := h
 exact Kd.R_ne ho hb ht
theorem IsS62.apartQ {w0 W : World} {g : Nat} {f0 : ByteArray} {f1 : Int} {α : Type} {d : Kd α} {e : Nat} {base : Nat} {ok : Nat → Prop} {v : Value} {xs : List α} (h : IsS62 w0 W g f0 f1) (ho : d.Q e W base ok v xs) (ht : ∀ q, q ∈ e :: d.E → q ≠ 62) : d.Q e W base (fun k => ok k ∧ k ≠ g) v xs := by
 obtain ⟨hb, hg⟩ := h
 exact Kd.Q_types ho hb ht
theorem IsS62.own_neQ {w0 W : World} {g : Nat} {f0 : ByteArray} {f1 : Int} {α : Type} {d : Kd α} {e : Nat} {base : Nat} {ok : Nat → Prop} {v : Value} {xs : List α} (h : IsS62 w0 W g f0 f1) (ho : d.Q e W base ok v xs) (ht : e ≠ 62) : some g ≠ v.ownBlock := by
 obtain ⟨hb, hg⟩ := h
 exact Kd.Q_ne ho hb ht
theorem IsS62.apartS {w0 W : World} {g : Nat} {f0 : ByteArray} {f1 : Int} {α : Type} {d : Kd α} {e : Nat} {base : Nat} {ok : Nat → Prop} {v : Value} {xs : List α} (h : IsS62 w0 W g f0 f1) (ho : d.S e W base ok v xs) (ht : ∀ q, q ∈ e :: d.E → q ≠ 62) : d.S e W base (fun k => ok k ∧ k ≠ g) v xs := by
 obtain ⟨hb, hg⟩ := h
 exact Kd.S_types ho hb ht
theorem IsS62.own_neS {w0 W : World} {g : Nat} {f0 : ByteArray} {f1 : Int} {α : Type} {d : Kd α} {e : Nat} {base : Nat} {ok : Nat → Prop} {v : Value} {xs : List α} (h : IsS62 w0 W g f0 f1) (ho : d.S e W base ok v xs) (ht : e ≠ 62) : some g ≠ v.ownBlock := by
 obtain ⟨hb, hg⟩ := h
 exact Kd.S_ne ho hb ht
theorem IsS62.lt {w0 W : World} {g : Nat} {f0 : ByteArray} {f1 : Int} (h : IsS62 w0 W g f0 f1) : g < W.heap.size := by
 obtain ⟨hb, hg⟩ := h
 exact blk_lt hb
theorem IsS62.ge {w0 W : World} {g : Nat} {f0 : ByteArray} {f1 : Int} (h : IsS62 w0 W g f0 f1) : w0.heap.size ≤ g := by
 obtain ⟨hb, hg⟩ := h
 exact hg
theorem IsS62.ne_blk {w0 W : World} {g : Nat} {f0 : ByteArray} {f1 : Int} {a : Nat} {cs : Array Value} {t : TypeId} {fr : Nat × Nat} (h : IsS62 w0 W g f0 f1) (hb2 : W.heap[a]? = some (.cells cs t fr)) (ht : t ≠ 62) : g ≠ a := by
 obtain ⟨hb, hg⟩ := h
 rintro rfl
 rw [hb] at hb2
 injection hb2 with hb2
 injection hb2 with _ ht2
 exact ht ht2.symm
theorem IsS62.far {w0 W : World} {g : Nat} {f0 : ByteArray} {f1 : Int} {p : Addr} (h : IsS62 w0 W g f0 f1) (hne : g ≠ p.block) (u : Value) : IsS62 w0 (W.setCell p u) g f0 f1 := by
 obtain ⟨hb, hg⟩ := h
 exact ⟨blk_far hb hne u, hg⟩
theorem cellS62_0 {W : World} {g : Nat} {f0 : ByteArray} {f1 : Int} (h : W.heap[g]? = some (.cells #[.string f0, .int .i64 f1] 62 (0, 0))) : W.cell? ⟨g, 0, none⟩ = some (.string f0) := (bC h 0).trans rfl
theorem IsS62.set_0 {w0 W : World} {g : Nat} {f0 : ByteArray} {f1 : Int} (h : IsS62 w0 W g f0 f1) (x : ByteArray) : IsS62 w0 (W.setCell ⟨g, 0, none⟩ (.string x)) g x f1 := by
 obtain ⟨hb, hg⟩ := h
 exact ⟨by simpa using blk_set hb 0 (.string x), hg⟩
theorem cellS62_1 {W : World} {g : Nat} {f0 : ByteArray} {f1 : Int} (h : W.heap[g]? = some (.cells #[.string f0, .int .i64 f1] 62 (0, 0))) : W.cell? ⟨g, 1, none⟩ = some (.int .i64 f1) := (bC h 1).trans rfl
theorem IsS62.set_1 {w0 W : World} {g : Nat} {f0 : ByteArray} {f1 : Int} (h : IsS62 w0 W g f0 f1) (x : Int) : IsS62 w0 (W.setCell ⟨g, 1, none⟩ (.int .i64 x)) g f0 x := by
 obtain ⟨hb, hg⟩ := h
 exact ⟨by simpa using blk_set hb 1 (.int .i64 x), hg⟩
theorem IsS62.new (w0 W : World) (f0 : ByteArray) (f1 : Int) (hB : Below w0.heap.size w0 W) : IsS62 w0 (W.alloc (.cells #[.string f0, .int .i64 f1] 62)) W.heap.size f0 f1 := ⟨by simpa using heap_alloc_new W _, hB.size⟩

/-! ### impl_scanner_next: function 39 -/
def impl_scanner_next.f (s0_0 : ByteArray) (s0_1 : Int) : Option (Int × ByteArray × Int) := if s0_0.toList = ([] : List UInt8) then (some (0, s0_0, s0_1)) else (if 0 < (s0_0.size : Int) then (some (bt s0_0 0, s0_0, s0_1)) else (none))
set_option maxHeartbeats 8000000 in
set_option maxRecDepth 100000 in
theorem impl_scanner_next.calls (g : Nat) (s0_0 : ByteArray) (s0_1 : Int) (r1 : Int) (r2 : ByteArray) (r3 : Int) (w0 w : World) (hI : IsS62 w0 w g s0_0 s0_1) (hB : Below w0.heap.size w0 w) (h : impl_scanner_next.f s0_0 s0_1 = some (r1, r2, r3)) :
  Calls Try.prog 39 #[.pointer (some ⟨g, 0, none⟩)] w fun e w' => e = .returned (.int .u8 r1) ∧ IsS62 w0 w' g r2 r3 ∧ Below w0.heap.size w0 w' ∧ KeepBut w w' g none := by
 have HI0 := aM hI
 have HK := aM (KeepBut.refl w g none)
 have HL := aM hB.size
 clear hI
 have HW0 := aM hB.size
 have HB := aM hB
 clear hB
 have H : (if s0_0.toList = ([] : List UInt8) then (some (0, s0_0, s0_1)) else (if 0 < (s0_0.size : Int) then (some (bt s0_0 0, s0_0, s0_1)) else (none))) = some (r1, r2, r3) := h
 clear h
 by_cases c2 : s0_0.toList = ([] : List UInt8)
 ·rw [if_pos c2] at H
  have c2b0 : (s0_0.toList == ([] : List UInt8)) = true := qT c2
  have c2b1 : (s0_0.toList != ([] : List UInt8)) = false := nF c2
  clear c2
  simp only [Option.some.injEq, Prod.mk.injEq] at H
  obtain ⟨rfl, rfl, rfl⟩ := H
  obtain ⟨HGz3, hgz3⟩ := HI0.out
  have hcz3_0 := cellS62_0 HGz3
  have hcz3_1 := cellS62_1 HGz3
  have hfz3_0 := bF HGz3 0
  have hfz3_1 := bF HGz3 1
  clear HGz3 hgz3
  go_enter Try.func39, Try.ntmps39
  go_wp2
  all_goals (try (exfalso; rename_i h_; rw [c2b0] at h_; cases h_; done))
  go_ret
  exact ⟨y2, by (try simp only [Int.add_zero]); repeat (first | (with_reducible first | exact HI0.out | apply IsS62.alloc | apply IsS62.drewN | apply IsS62.drew | apply IsS62.set_0 | apply IsS62.set_1) | exact HI0.out), by repeat (first | (with_reducible first | exact HB.out | apply bA | apply pD | apply bD | refine ak ?_ (IsS62.ge HI0.out)) | exact HB.out), y11⟩
 ·rw [if_neg c2] at H
  have c2b0 : (s0_0.toList == ([] : List UInt8)) = false := qF c2
  have c2b1 : (s0_0.toList != ([] : List UInt8)) = true := nT c2
  by_cases c4 : 0 < (s0_0.size : Int)
  ·rw [if_pos c4] at H
   have c4b0 : decide (0 < (s0_0.size : Int)) = true := dT c4
   have c4b1 : decide (0 < s0_0.size) = true := dT (by omega)
   clear c4
   simp only [Option.some.injEq, Prod.mk.injEq] at H
   obtain ⟨rfl, rfl, rfl⟩ := H
   obtain ⟨HGz6, hgz6⟩ := HI0.out
   have hcz6_0 := cellS62_0 HGz6
   have hcz6_1 := cellS62_1 HGz6
   have hfz6_0 := bF HGz6 0
   have hfz6_1 := bF HGz6 1
   clear HGz6 hgz6
   have p5 : 0 ≤ (0 : Int) := (by omega)
   have q5 : 0 < s0_0.size := (by have : (0 : Int) < (s0_0.size : Int) := oD z2; omega)
   have hx5 : ∀ h : 0 < s0_0.size, ((s0_0[0]'h).toNat : Int) = bt s0_0 0 := bt_at s0_0 0
   clear p5
   have qi5 : (0 < (s0_0.size : Int)) = True := eq_true (oD z2)
   replace q5 := eq_true q5
   go_enter Try.func39, Try.ntmps39
   go_wp2
   all_goals (try (exfalso; rename_i h_; rw [c2b0] at h_; cases h_; done))
   go_ret
   exact ⟨y2, by (try simp only [Int.add_zero]); repeat (first | (with_reducible first | exact HI0.out | apply IsS62.alloc | apply IsS62.drewN | apply IsS62.drew | apply IsS62.set_0 | apply IsS62.set_1) | exact HI0.out), by repeat (first | (with_reducible first | exact HB.out | apply bA | apply pD | apply bD | refine ak ?_ (IsS62.ge HI0.out)) | exact HB.out), y11⟩
  ·rw [if_neg c4] at H
   exact absurd H (by simp)

-- NOT PRINTED: function 47 (bytealg_IndexByteString)

-- NOT PRINTED: function 40 (stringslite_IndexByte)

-- NOT PRINTED: function 46 (strings_IndexByte)

-- NOT PRINTED: function 50 (impl_isSymbol)

-- NOT PRINTED: function 45 (impl_scanner_atom)

-- NOT PRINTED: function 38 (impl_scanner_row)

-- NOT PRINTED: function 34 (impl_scanner_parted)

-- NOT PRINTED: function 30 (impl_readExpr)

/-! ### ex_Ib.txt, by hand -/
theorem ib40 (s : ByteArray) (c : Int) (w : World) : Calls Try.prog 40 #[.string s, .int .u8 c] w fun e w' => e = .returned (.int .i64 (Lib.indexByte s.data.toList c.toNat.toUInt8)) ∧ Drawn0 w w' := by
 go_enter Try.func40, Try.ntmps40
 go_wp2
 rw [run_callFunc_extern Try.func47 z0 z0 z0 (e := Extern.BytealgIndexByte.indexByte) z0, Lib.run_indexByteString]
 simp only [Result.andThen]
 rw [Oper.upon_value]
 go_wp2
 go_ret
 exact ⟨rfl, Drawn0.refl w⟩

/-! ### impl_GoodExpr: function 22, by hand -/
theorem ib46 (s : ByteArray) (c : Int) (w : World) : Calls Try.prog 46 #[.string s, .int .u8 c] w fun e w' => e = .returned (.int .i64 (Lib.indexByte s.data.toList c.toNat.toUInt8)) ∧ Drawn0 w w' := by
 go_enter Try.func46, Try.ntmps46
 go_wp2_with (first | (go_at_call 40; refine (ib40 s c _).mono ?_; rintro e w1 ⟨rfl, ⟨nd, rfl⟩⟩))
 go_ret
 exact ⟨rfl, by first | exact ⟨⟨_, rfl⟩⟩ | exact Drawn0.refl _⟩
set_option maxRecDepth 100000 in
theorem sym_ix (c : Int) (h0 : 0 ≤ c) (h1 : c ≤ 255) : decide (0 ≤ Lib.indexByte (⟨#[65, 66, 67, 68, 69, 70, 116]⟩ : ByteArray).data.toList c.toNat.toUInt8) = symB c := by
 have h : ∀ n : Nat, n < 256 → decide (0 ≤ Lib.indexByte [65, 66, 67, 68, 69, 70, 116] n.toUInt8) = symB (n : Int) := by decide
 have e := h c.toNat (by omega)
 rw [Int.toNat_of_nonneg h0] at e
 exact e
set_option maxRecDepth 100000 in
theorem suf_ix (c : Int) (h0 : 0 ≤ c) (h1 : c ≤ 255) : decide (0 ≤ Lib.indexByte (⟨#[42, 63, 43]⟩ : ByteArray).data.toList c.toNat.toUInt8) = sufB c := by
 have h : ∀ n : Nat, n < 256 → decide (0 ≤ Lib.indexByte [42, 63, 43] n.toUInt8) = sufB (n : Int) := by decide
 have e := h c.toNat (by omega)
 rw [Int.toNat_of_nonneg h0] at e
 exact e
theorem sym50 (c : Int) (h0 : 0 ≤ c) (h1 : c ≤ 255) (w : World) : Calls Try.prog 50 #[.int .u8 c] w fun e w' => e = .returned (.bool (symB c)) ∧ Drawn0 w w' := by
 have HS := aM (sym_ix c h0 h1)
 clear h0 h1
 go_enter Try.func50, Try.ntmps50
 go_wp2_with (first | (go_at_call 46; refine (ib46 _ c _).mono ?_; rintro e w1 ⟨rfl, ⟨nd, rfl⟩⟩))
 go_ret
 exact ⟨by rw [← HS.out]; rfl, by first | exact ⟨⟨_, rfl⟩⟩ | exact Drawn0.refl _⟩
theorem next_iN {s : ByteArray} (n : Int) : impl_scanner_next.f s n = some (iN s, s, n) := by
 unfold impl_scanner_next.f iN
 by_cases h : s.toList = []
 ·rw [if_pos h, if_pos h]
 ·rw [if_neg h, if_neg h, if_pos]
  by_cases c : s.size = 0
  ·exfalso
   apply h
   have : s = ⟨#[]⟩ := by
    exact congrArg ByteArray.mk (Array.eq_empty_of_size_eq_zero c)
   rw [this]
   unfold ByteArray.toList ByteArray.toList.loop
   rw [if_neg (by decide)]
   rfl
  ·omega
theorem iN_bd (s : ByteArray) : 0 ≤ iN s ∧ iN s ≤ 255 := by
 unfold iN
 split
 ·omega
 ·exact bt_range s 0
theorem next_any (g : Nat) (s : ByteArray) (n : Int) (w0 w : World) (hI : IsS62 w0 w g s n) (hB : Below w0.heap.size w0 w) :
  Calls Try.prog 39 #[.pointer (some ⟨g, 0, none⟩)] w fun e w' => e = .returned (.int .u8 (iN s)) ∧ IsS62 w0 w' g s n ∧ Below w0.heap.size w0 w' ∧ KeepBut w w' g none :=
 impl_scanner_next.calls g s n _ _ _ w0 w hI hB (next_iN n)
def AtP (w0 w : World) (g : Nat) (o : Bool × ByteArray × Int) (e : Ending) (w' : World) : Prop := ∃ A : Option Addr, e = .returned (.pointer A) ∧ A.isSome = o.1 ∧ IsS62 w0 w' g o.2.1 o.2.2 ∧ Below w0.heap.size w0 w' ∧ KeepBut w w' g none
def AtC (f : Nat) (g : Nat) (s : ByteArray) (n : Int) (o : Bool × ByteArray × Int) : Prop := ∀ w0 w : World, IsS62 w0 w g s n → Below w0.heap.size w0 w → Calls Try.prog f #[.pointer (some ⟨g, 0, none⟩)] w (AtP w0 w g o)
theorem aD {w : World} {g : Nat} {s : ByteArray} {n : Int} (h : w.heap[g]? = some (.cells #[.string s, .int .i64 n] 62 (0, 0))) : w.cell? ⟨g, 0, none⟩ = some (.string s) := (bC h 0).trans rfl
theorem aI {w : World} {g : Nat} {s : ByteArray} {n : Int} (h : w.heap[g]? = some (.cells #[.string s, .int .i64 n] 62 (0, 0))) : w.cell? ⟨g, 1, none⟩ = some (.int .i64 n) := (bC h 1).trans rfl
theorem iN_pos {s : ByteArray} (h : iN s ≠ 0) : 1 ≤ (s.size : Int) := by
 have : s.size ≠ 0 := by
  intro c
  apply h
  unfold iN
  rw [if_pos]
  have : s = ⟨#[]⟩ := by
   exact congrArg ByteArray.mk (Array.eq_empty_of_size_eq_zero c)
  rw [this]
  unfold ByteArray.toList ByteArray.toList.loop
  rw [if_neg (by decide)]
  rfl
 omega
set_option maxHeartbeats 1000000 in
theorem atom_sym (g : Nat) (s : ByteArray) (n : Int) (h : symB (iN s) = true) : AtC 45 g s n (true, s.extract 1 s.size, n) := by
 intro w0 w hI hB
 have HI0 := aM hI
 have HK := aM (KeepBut.refl w g none)
 have HB := aM hB
 have HN := aM (iN_bd s)
 have p1 := iN_pos (s := s) (by intro c; rw [c] at h; exact absurd h (by decide))
 obtain ⟨c, hc⟩ : ∃ c, iN s = c := ⟨_, rfl⟩
 have HC := aM hc
 rw [hc] at h
 have q1 : ((1 : Int) ≤ (s.size : Int)) = True := eq_true p1
 clear hI hB hc p1
 go_enter Try.func45, Try.ntmps45
 go_wp2_with (first | (go_at_call 39; refine (next_any g s n w0 _ (by first | exact HI0.out | exact HI0.out.drewN _) (by first | exact HB.out | exact pD HB.out _)).mono ?_; rintro e w1 ⟨rfl, hi, hb, hk⟩; rw [HC.out]; have HI1 := aM hi; have HB1 := aM hb; have HK1 := aM (KeepBut.trans HK.out hk (.inl rfl)); have x0 := aD hi.1; have x1 := aI hi.1; have f0 := bF hi.1 0; have f1 := bF hi.1 1; clear hi hb hk) | (go_at_call 50; refine (sym50 c (by have := HN.out; rw [HC.out] at this; omega) (by have := HN.out; rw [HC.out] at this; omega) _).mono ?_; rintro e w2 ⟨rfl, ⟨nd, rfl⟩⟩; rw [h]))
 repeat (go_quiet (fail); try go_wp2)
 go_ret
 exact ⟨_, rfl, rfl, y14, y10, by repeat (first | (with_reducible first | exact HK1.out | apply keep_alloc | apply keep_drewN | apply keep_drew | apply KeepBut.set_) | exact HK1.out)⟩
set_option maxHeartbeats 1000000 in
theorem atom_46 (g : Nat) (s : ByteArray) (n : Int) (h : iN s = 46) : AtC 45 g s n (true, s.extract 1 s.size, n) := by
 intro w0 w hI hB
 have HI0 := aM hI
 have HK0 := aM (KeepBut.refl w g none)
 have HB0 := aM hB
 clear hI hB
 have HC := aM h
 have hs : symB 46 = false := rfl
 have q1 : ((1 : Int) ≤ (s.size : Int)) = True := eq_true (iN_pos (s := s) (by rw [h]; decide))
 clear h
 go_enter Try.func45, Try.ntmps45
 go_wp2_with (first | (go_at_call 39; refine (next_any g s n w0 _ z17 z11).mono ?_; rintro e w1 ⟨rfl, hi, hb, hk⟩; rw [HC.out]; have HI1 := aM hi; have HB1 := aM hb; have HK1 := aM (KeepBut.trans z8 hk (.inl rfl)); have x1 := aD hi.1; have y1 := aI hi.1; have f1 := bF hi.1 0; have g1 := bF hi.1 1; clear hi hb hk) | (go_at_call 50; refine (sym50 _ (by decide) (by decide) _).mono ?_; rintro e w2 ⟨rfl, ⟨nd, rfl⟩⟩; rw [hs]))
 repeat (go_quiet (fail); try go_wp2)
 go_ret
 exact ⟨_, rfl, rfl, y14, y10, y12⟩
set_option maxHeartbeats 1000000 in
theorem atom_45 (g : Nat) (s : ByteArray) (n : Int) (h : iN s = 45) : AtC 45 g s n (true, s.extract 1 s.size, n) := by
 intro w0 w hI hB
 have HI0 := aM hI
 have HK0 := aM (KeepBut.refl w g none)
 have HB0 := aM hB
 clear hI hB
 have HC := aM h
 have hs : symB 45 = false := rfl
 have q1 : ((1 : Int) ≤ (s.size : Int)) = True := eq_true (iN_pos (s := s) (by rw [h]; decide))
 clear h
 go_enter Try.func45, Try.ntmps45
 go_wp2_with (first | (go_at_call 39; refine (next_any g s n w0 _ z17 z11).mono ?_; rintro e w1 ⟨rfl, hi, hb, hk⟩; rw [HC.out]; have HI1 := aM hi; have HB1 := aM hb; have HK1 := aM (KeepBut.trans z8 hk (.inl rfl)); have x1 := aD hi.1; have y1 := aI hi.1; have f1 := bF hi.1 0; have g1 := bF hi.1 1; clear hi hb hk) | (go_at_call 50; refine (sym50 _ (by decide) (by decide) _).mono ?_; rintro e w2 ⟨rfl, ⟨nd, rfl⟩⟩; rw [hs]))
 repeat (go_quiet (fail); try go_wp2)
 go_ret
 exact ⟨_, rfl, rfl, y14, y10, y12⟩
set_option maxHeartbeats 1000000 in
theorem atom_33 (g : Nat) (s : ByteArray) (n : Int) (h : iN s = 33) : AtC 45 g s n (true, s.extract 1 s.size, n) := by
 intro w0 w hI hB
 have HI0 := aM hI
 have HK0 := aM (KeepBut.refl w g none)
 have HB0 := aM hB
 clear hI hB
 have HC := aM h
 have hs : symB 33 = false := rfl
 have q1 : ((1 : Int) ≤ (s.size : Int)) = True := eq_true (iN_pos (s := s) (by rw [h]; decide))
 clear h
 go_enter Try.func45, Try.ntmps45
 go_wp2_with (first | (go_at_call 39; refine (next_any g s n w0 _ z17 z11).mono ?_; rintro e w1 ⟨rfl, hi, hb, hk⟩; rw [HC.out]; have HI1 := aM hi; have HB1 := aM hb; have HK1 := aM (KeepBut.trans z8 hk (.inl rfl)); have x1 := aD hi.1; have y1 := aI hi.1; have f1 := bF hi.1 0; have g1 := bF hi.1 1; clear hi hb hk) | (go_at_call 50; refine (sym50 _ (by decide) (by decide) _).mono ?_; rintro e w2 ⟨rfl, ⟨nd, rfl⟩⟩; rw [hs]))
 repeat (go_quiet (fail); try go_wp2)
 go_ret
 exact ⟨_, rfl, rfl, y14, y10, y12⟩
set_option maxHeartbeats 1000000 in
theorem atom_no (g : Nat) (s : ByteArray) (n : Int) (h : symB (iN s) = false) (h1 : iN s ≠ 46) (h2 : iN s ≠ 45) (h3 : iN s ≠ 33) (h4 : iN s ≠ 40) : AtC 45 g s n (false, s, n) := by
 intro w0 w hI hB
 have HI0 := aM hI
 have HK0 := aM (KeepBut.refl w g none)
 have HB0 := aM hB
 clear hI hB
 have HN := aM (iN_bd s)
 obtain ⟨c, hc⟩ : ∃ c, iN s = c := ⟨_, rfl⟩
 have HC := aM hc
 rw [hc] at h h1 h2 h3 h4
 have hs := h
 have e1 : (c == 46) = false := qF h1
 have e2 : (c == 45) = false := qF h2
 have e3 : (c == 33) = false := qF h3
 have e4 : (c == 40) = false := qF h4
 have e5 : (c != 40) = true := nT h4
 clear h h1 h2 h3 h4 hc
 go_enter Try.func45, Try.ntmps45
 go_wp2_with (first | (go_at_call 39; refine (next_any g s n w0 _ z17 z11).mono ?_; rintro e w1 ⟨rfl, hi, hb, hk⟩; rw [HC.out]; have HI1 := aM hi; have HB1 := aM hb; have HK1 := aM (KeepBut.trans z8 hk (.inl rfl)); have x1 := aD hi.1; have y1 := aI hi.1; have f1 := bF hi.1 0; have g1 := bF hi.1 1; clear hi hb hk) | (go_at_call 50; refine (sym50 _ (by have := HN.out; rw [HC.out] at this; exact this.1) (by have := HN.out; rw [HC.out] at this; exact this.2) _).mono ?_; rintro e w2 ⟨rfl, ⟨nd, rfl⟩⟩; rw [hs]))
 repeat (go_quiet (fail); try go_wp2)
 go_ret
 exact ⟨none, rfl, rfl, y14, y10, y12⟩
set_option maxHeartbeats 1000000 in
theorem atom_deep (g : Nat) (s : ByteArray) (h : iN s = 40) : AtC 45 g s 19 (false, s, 19) := by
 intro w0 w hI hB
 have HI0 := aM hI
 have HK0 := aM (KeepBut.refl w g none)
 have HB0 := aM hB
 clear hI hB
 have HC := aM h
 have hs : symB 40 = false := rfl
 clear h
 go_enter Try.func45, Try.ntmps45
 go_wp2_with (first | (go_at_call 39; refine (next_any g s 19 w0 _ z17 z11).mono ?_; rintro e w1 ⟨rfl, hi, hb, hk⟩; rw [HC.out]; have HI1 := aM hi; have HB1 := aM hb; have HK1 := aM (KeepBut.trans z8 hk (.inl rfl)); have x1 := aD hi.1; have y1 := aI hi.1; have f1 := bF hi.1 0; have g1 := bF hi.1 1; clear hi hb hk) | (go_at_call 50; refine (sym50 _ (by decide) (by decide) _).mono ?_; rintro e w2 ⟨rfl, ⟨nd, rfl⟩⟩; rw [hs]))
 repeat (go_quiet (fail); try go_wp2)
 go_ret
 exact ⟨none, rfl, rfl, y14, y10, y12⟩
set_option maxHeartbeats 2000000 in
theorem atom_br0 (g : Nat) (s : ByteArray) (n : Int) (r : ByteArray) (m : Int) (h : iN s = 40) (hn : n ≠ 19) (hP : AtC 34 g (s.extract 1 s.size) (wrap64 (n + 1)) (false, r, m)) : AtC 45 g s n (false, r, m) := by
 intro w0 w hI hB
 have HI0 := aM hI
 have HK0 := aM (KeepBut.refl w g none)
 have HB0 := aM hB
 clear hI hB
 have HC := aM h
 have HP := aM hP
 have hs : symB 40 = false := rfl
 have e1 : (n == 19) = false := qF hn
 have q1 : ((1 : Int) ≤ (s.size : Int)) = True := eq_true (iN_pos (s := s) (by rw [h]; decide))
 clear h hn hP
 go_enter Try.func45, Try.ntmps45
 go_wp2_with (first | (go_at_call 39; refine (next_any g s n w0 _ z17 z11).mono ?_; rintro e w1 ⟨rfl, hi, hb, hk⟩; rw [HC.out]; have HI1 := aM hi; have HB1 := aM hb; have HK1 := aM (KeepBut.trans z8 hk (.inl rfl)); have x1 := aD hi.1; have y1 := aI hi.1; have f1 := bF hi.1 0; have g1 := bF hi.1 1; clear hi hb hk) | (go_at_call 50; refine (sym50 _ (by decide) (by decide) _).mono ?_; rintro e w2 ⟨rfl, ⟨nd, rfl⟩⟩; rw [hs]) | (go_at_call 34; refine (HP.out w0 _ z18 z12).mono ?_; rintro e w3 ⟨A, rfl, ha, hi, hb, hk⟩; obtain rfl : A = none := (by cases A with | none => rfl | some a => cases ha); have HI3 := aM hi; have HB3 := aM hb; have HK3 := aM (KeepBut.trans (by repeat (first | (with_reducible first | exact HK1.out | apply KeepBut.set_ | apply keep_drewN | apply keep_drew | apply keep_alloc) | exact HK1.out)) hk (.inl rfl)); have x3 := aD hi.1; have y3 := aI hi.1; have f3 := bF hi.1 0; have g3 := bF hi.1 1; clear hi hb hk ha))
 repeat (go_quiet (first | (go_at_call 39; refine (next_any g s n w0 _ z17 z11).mono ?_; rintro e w1 ⟨rfl, hi, hb, hk⟩; rw [HC.out]; have HI1 := aM hi; have HB1 := aM hb; have HK1 := aM (KeepBut.trans z8 hk (.inl rfl)); have x1 := aD hi.1; have y1 := aI hi.1; have f1 := bF hi.1 0; have g1 := bF hi.1 1; clear hi hb hk) | (go_at_call 50; refine (sym50 _ (by decide) (by decide) _).mono ?_; rintro e w2 ⟨rfl, ⟨nd, rfl⟩⟩; rw [hs]) | (go_at_call 34; refine (HP.out w0 _ z18 z12).mono ?_; rintro e w3 ⟨A, rfl, ha, hi, hb, hk⟩; obtain rfl : A = none := (by cases A with | none => rfl | some a => cases ha); have HI3 := aM hi; have HB3 := aM hb; have HK3 := aM (KeepBut.trans (by repeat (first | (with_reducible first | exact HK1.out | apply KeepBut.set_ | apply keep_drewN | apply keep_drew | apply keep_alloc) | exact HK1.out)) hk (.inl rfl)); have x3 := aD hi.1; have y3 := aI hi.1; have f3 := bF hi.1 0; have g3 := bF hi.1 1; clear hi hb hk ha)); try go_wp2_with (first | (go_at_call 39; refine (next_any g s n w0 _ z17 z11).mono ?_; rintro e w1 ⟨rfl, hi, hb, hk⟩; rw [HC.out]; have HI1 := aM hi; have HB1 := aM hb; have HK1 := aM (KeepBut.trans z8 hk (.inl rfl)); have x1 := aD hi.1; have y1 := aI hi.1; have f1 := bF hi.1 0; have g1 := bF hi.1 1; clear hi hb hk) | (go_at_call 50; refine (sym50 _ (by decide) (by decide) _).mono ?_; rintro e w2 ⟨rfl, ⟨nd, rfl⟩⟩; rw [hs]) | (go_at_call 34; refine (HP.out w0 _ z18 z12).mono ?_; rintro e w3 ⟨A, rfl, ha, hi, hb, hk⟩; obtain rfl : A = none := (by cases A with | none => rfl | some a => cases ha); have HI3 := aM hi; have HB3 := aM hb; have HK3 := aM (KeepBut.trans (by repeat (first | (with_reducible first | exact HK1.out | apply KeepBut.set_ | apply keep_drewN | apply keep_drew | apply keep_alloc) | exact HK1.out)) hk (.inl rfl)); have x3 := aD hi.1; have y3 := aI hi.1; have f3 := bF hi.1 0; have g3 := bF hi.1 1; clear hi hb hk ha)))
 go_ret
 exact ⟨none, rfl, rfl, by (try simp only [Int.add_zero]); repeat (first | (with_reducible first | exact HI3.out | apply IsS62.alloc | apply IsS62.drewN | apply IsS62.drew | apply IsS62.set_0 | apply IsS62.set_1) | exact HI3.out), by repeat (first | (with_reducible first | exact HB3.out | apply bA | apply pD | apply bD | refine ak ?_ (IsS62.ge HI3.out)) | exact HB3.out), by repeat (first | (with_reducible first | exact HK3.out | apply KeepBut.set_ | apply keep_drewN | apply keep_drew | apply keep_alloc) | exact HK3.out)⟩
set_option maxHeartbeats 2000000 in
theorem atom_br1 (g : Nat) (s : ByteArray) (n : Int) (r : ByteArray) (m : Int) (h : iN s = 40) (hn : n ≠ 19) (hP : AtC 34 g (s.extract 1 s.size) (wrap64 (n + 1)) (true, r, m)) (h2 : iN r ≠ 41) : AtC 45 g s n (false, r, m) := by
 intro w0 w hI hB
 have HI0 := aM hI
 have HK0 := aM (KeepBut.refl w g none)
 have HB0 := aM hB
 clear hI hB
 have HC := aM h
 have HP := aM hP
 have hs : symB 40 = false := rfl
 have e1 : (n == 19) = false := qF hn
 have q1 : ((1 : Int) ≤ (s.size : Int)) = True := eq_true (iN_pos (s := s) (by rw [h]; decide))
 obtain ⟨c2, hc2⟩ : ∃ c, iN r = c := ⟨_, rfl⟩
 have bT := aM hc2
 rw [hc2] at h2
 have e2 : (c2 == 41) = false := qF h2
 have e3 : (c2 != 41) = true := nT h2
 clear hc2 h2
 clear h hn hP
 go_enter Try.func45, Try.ntmps45
 go_wp2_with (first | (go_at_call 39; refine (next_any g r m w0 _ (by (try simp only [Int.add_zero]); repeat (first | (with_reducible first | exact HI3.out | apply IsS62.alloc | apply IsS62.drewN | apply IsS62.drew | apply IsS62.set_0 | apply IsS62.set_1) | exact HI3.out)) (by repeat (first | (with_reducible first | exact HB3.out | apply bA | apply pD | apply bD | refine ak ?_ (IsS62.ge HI3.out)) | exact HB3.out))).mono ?_; rintro e w4 ⟨rfl, hi, hb, hk⟩; rw [bT.out]; have HI4 := aM hi; have HB4 := aM hb; have HK4 := aM (KeepBut.trans (by repeat (first | (with_reducible first | exact HK3.out | apply KeepBut.set_ | apply keep_drewN | apply keep_drew | apply keep_alloc) | exact HK3.out)) hk (.inl rfl)); have x4 := aD hi.1; have y4 := aI hi.1; have f4 := bF hi.1 0; have g4 := bF hi.1 1; clear hi hb hk) | (go_at_call 39; refine (next_any g s n w0 _ z17 z11).mono ?_; rintro e w1 ⟨rfl, hi, hb, hk⟩; rw [HC.out]; have HI1 := aM hi; have HB1 := aM hb; have HK1 := aM (KeepBut.trans z8 hk (.inl rfl)); have x1 := aD hi.1; have y1 := aI hi.1; have f1 := bF hi.1 0; have g1 := bF hi.1 1; clear hi hb hk) | (go_at_call 50; refine (sym50 _ (by decide) (by decide) _).mono ?_; rintro e w2 ⟨rfl, ⟨nd, rfl⟩⟩; rw [hs]) | (go_at_call 34; refine (HP.out w0 _ z18 z12).mono ?_; rintro e w3 ⟨A, rfl, ha, hi, hb, hk⟩; obtain ⟨ad, rfl⟩ : ∃ ad, A = some ad := (by cases A with | none => cases ha | some a => exact ⟨a, rfl⟩); have HI3 := aM hi; have HB3 := aM hb; have HK3 := aM (KeepBut.trans (by repeat (first | (with_reducible first | exact HK1.out | apply KeepBut.set_ | apply keep_drewN | apply keep_drew | apply keep_alloc) | exact HK1.out)) hk (.inl rfl)); have x3 := aD hi.1; have y3 := aI hi.1; have f3 := bF hi.1 0; have g3 := bF hi.1 1; clear hi hb hk ha))
 repeat (go_quiet (first | (go_at_call 39; refine (next_any g r m w0 _ (by (try simp only [Int.add_zero]); repeat (first | (with_reducible first | exact HI3.out | apply IsS62.alloc | apply IsS62.drewN | apply IsS62.drew | apply IsS62.set_0 | apply IsS62.set_1) | exact HI3.out)) (by repeat (first | (with_reducible first | exact HB3.out | apply bA | apply pD | apply bD | refine ak ?_ (IsS62.ge HI3.out)) | exact HB3.out))).mono ?_; rintro e w4 ⟨rfl, hi, hb, hk⟩; rw [bT.out]; have HI4 := aM hi; have HB4 := aM hb; have HK4 := aM (KeepBut.trans (by repeat (first | (with_reducible first | exact HK3.out | apply KeepBut.set_ | apply keep_drewN | apply keep_drew | apply keep_alloc) | exact HK3.out)) hk (.inl rfl)); have x4 := aD hi.1; have y4 := aI hi.1; have f4 := bF hi.1 0; have g4 := bF hi.1 1; clear hi hb hk) | (go_at_call 39; refine (next_any g s n w0 _ z17 z11).mono ?_; rintro e w1 ⟨rfl, hi, hb, hk⟩; rw [HC.out]; have HI1 := aM hi; have HB1 := aM hb; have HK1 := aM (KeepBut.trans z8 hk (.inl rfl)); have x1 := aD hi.1; have y1 := aI hi.1; have f1 := bF hi.1 0; have g1 := bF hi.1 1; clear hi hb hk) | (go_at_call 50; refine (sym50 _ (by decide) (by decide) _).mono ?_; rintro e w2 ⟨rfl, ⟨nd, rfl⟩⟩; rw [hs]) | (go_at_call 34; refine (HP.out w0 _ z18 z12).mono ?_; rintro e w3 ⟨A, rfl, ha, hi, hb, hk⟩; obtain ⟨ad, rfl⟩ : ∃ ad, A = some ad := (by cases A with | none => cases ha | some a => exact ⟨a, rfl⟩); have HI3 := aM hi; have HB3 := aM hb; have HK3 := aM (KeepBut.trans (by repeat (first | (with_reducible first | exact HK1.out | apply KeepBut.set_ | apply keep_drewN | apply keep_drew | apply keep_alloc) | exact HK1.out)) hk (.inl rfl)); have x3 := aD hi.1; have y3 := aI hi.1; have f3 := bF hi.1 0; have g3 := bF hi.1 1; clear hi hb hk ha)); try go_wp2_with (first | (go_at_call 39; refine (next_any g r m w0 _ (by (try simp only [Int.add_zero]); repeat (first | (with_reducible first | exact HI3.out | apply IsS62.alloc | apply IsS62.drewN | apply IsS62.drew | apply IsS62.set_0 | apply IsS62.set_1) | exact HI3.out)) (by repeat (first | (with_reducible first | exact HB3.out | apply bA | apply pD | apply bD | refine ak ?_ (IsS62.ge HI3.out)) | exact HB3.out))).mono ?_; rintro e w4 ⟨rfl, hi, hb, hk⟩; rw [bT.out]; have HI4 := aM hi; have HB4 := aM hb; have HK4 := aM (KeepBut.trans (by repeat (first | (with_reducible first | exact HK3.out | apply KeepBut.set_ | apply keep_drewN | apply keep_drew | apply keep_alloc) | exact HK3.out)) hk (.inl rfl)); have x4 := aD hi.1; have y4 := aI hi.1; have f4 := bF hi.1 0; have g4 := bF hi.1 1; clear hi hb hk) | (go_at_call 39; refine (next_any g s n w0 _ z17 z11).mono ?_; rintro e w1 ⟨rfl, hi, hb, hk⟩; rw [HC.out]; have HI1 := aM hi; have HB1 := aM hb; have HK1 := aM (KeepBut.trans z8 hk (.inl rfl)); have x1 := aD hi.1; have y1 := aI hi.1; have f1 := bF hi.1 0; have g1 := bF hi.1 1; clear hi hb hk) | (go_at_call 50; refine (sym50 _ (by decide) (by decide) _).mono ?_; rintro e w2 ⟨rfl, ⟨nd, rfl⟩⟩; rw [hs]) | (go_at_call 34; refine (HP.out w0 _ z18 z12).mono ?_; rintro e w3 ⟨A, rfl, ha, hi, hb, hk⟩; obtain ⟨ad, rfl⟩ : ∃ ad, A = some ad := (by cases A with | none => cases ha | some a => exact ⟨a, rfl⟩); have HI3 := aM hi; have HB3 := aM hb; have HK3 := aM (KeepBut.trans (by repeat (first | (with_reducible first | exact HK1.out | apply KeepBut.set_ | apply keep_drewN | apply keep_drew | apply keep_alloc) | exact HK1.out)) hk (.inl rfl)); have x3 := aD hi.1; have y3 := aI hi.1; have f3 := bF hi.1 0; have g3 := bF hi.1 1; clear hi hb hk ha)))
 go_ret
 exact ⟨none, rfl, rfl, by (try simp only [Int.add_zero]); repeat (first | (with_reducible first | exact HI4.out | apply IsS62.alloc | apply IsS62.drewN | apply IsS62.drew | apply IsS62.set_0 | apply IsS62.set_1) | exact HI4.out), by repeat (first | (with_reducible first | exact HB4.out | apply bA | apply pD | apply bD | refine ak ?_ (IsS62.ge HI4.out)) | exact HB4.out), by repeat (first | (with_reducible first | exact HK4.out | apply KeepBut.set_ | apply keep_drewN | apply keep_drew | apply keep_alloc) | exact HK4.out)⟩
set_option maxHeartbeats 2000000 in
theorem atom_br2 (g : Nat) (s : ByteArray) (n : Int) (r : ByteArray) (m : Int) (h : iN s = 40) (hn : n ≠ 19) (hP : AtC 34 g (s.extract 1 s.size) (wrap64 (n + 1)) (true, r, m)) (h2 : iN r = 41) : AtC 45 g s n (true, r.extract 1 r.size, wrap64 (m - 1)) := by
 intro w0 w hI hB
 have HI0 := aM hI
 have HK0 := aM (KeepBut.refl w g none)
 have HB0 := aM hB
 clear hI hB
 have HC := aM h
 have HP := aM hP
 have hs : symB 40 = false := rfl
 have e1 : (n == 19) = false := qF hn
 have q1 : ((1 : Int) ≤ (s.size : Int)) = True := eq_true (iN_pos (s := s) (by rw [h]; decide))
 have bT := aM h2
 have q2 : ((1 : Int) ≤ (r.size : Int)) = True := eq_true (iN_pos (s := r) (by rw [h2]; decide))
 clear h2
 clear h hn hP
 go_enter Try.func45, Try.ntmps45
 go_wp2_with (first | (go_at_call 39; refine (next_any g r m w0 _ (by (try simp only [Int.add_zero]); repeat (first | (with_reducible first | exact HI3.out | apply IsS62.alloc | apply IsS62.drewN | apply IsS62.drew | apply IsS62.set_0 | apply IsS62.set_1) | exact HI3.out)) (by repeat (first | (with_reducible first | exact HB3.out | apply bA | apply pD | apply bD | refine ak ?_ (IsS62.ge HI3.out)) | exact HB3.out))).mono ?_; rintro e w4 ⟨rfl, hi, hb, hk⟩; rw [bT.out]; have HI4 := aM hi; have HB4 := aM hb; have HK4 := aM (KeepBut.trans (by repeat (first | (with_reducible first | exact HK3.out | apply KeepBut.set_ | apply keep_drewN | apply keep_drew | apply keep_alloc) | exact HK3.out)) hk (.inl rfl)); have x4 := aD hi.1; have y4 := aI hi.1; have f4 := bF hi.1 0; have g4 := bF hi.1 1; clear hi hb hk) | (go_at_call 39; refine (next_any g s n w0 _ z17 z11).mono ?_; rintro e w1 ⟨rfl, hi, hb, hk⟩; rw [HC.out]; have HI1 := aM hi; have HB1 := aM hb; have HK1 := aM (KeepBut.trans z8 hk (.inl rfl)); have x1 := aD hi.1; have y1 := aI hi.1; have f1 := bF hi.1 0; have g1 := bF hi.1 1; clear hi hb hk) | (go_at_call 50; refine (sym50 _ (by decide) (by decide) _).mono ?_; rintro e w2 ⟨rfl, ⟨nd, rfl⟩⟩; rw [hs]) | (go_at_call 34; refine (HP.out w0 _ z18 z12).mono ?_; rintro e w3 ⟨A, rfl, ha, hi, hb, hk⟩; obtain ⟨ad, rfl⟩ : ∃ ad, A = some ad := (by cases A with | none => cases ha | some a => exact ⟨a, rfl⟩); have HI3 := aM hi; have HB3 := aM hb; have HK3 := aM (KeepBut.trans (by repeat (first | (with_reducible first | exact HK1.out | apply KeepBut.set_ | apply keep_drewN | apply keep_drew | apply keep_alloc) | exact HK1.out)) hk (.inl rfl)); have x3 := aD hi.1; have y3 := aI hi.1; have f3 := bF hi.1 0; have g3 := bF hi.1 1; clear hi hb hk ha))
 repeat (go_quiet (first | (go_at_call 39; refine (next_any g r m w0 _ (by (try simp only [Int.add_zero]); repeat (first | (with_reducible first | exact HI3.out | apply IsS62.alloc | apply IsS62.drewN | apply IsS62.drew | apply IsS62.set_0 | apply IsS62.set_1) | exact HI3.out)) (by repeat (first | (with_reducible first | exact HB3.out | apply bA | apply pD | apply bD | refine ak ?_ (IsS62.ge HI3.out)) | exact HB3.out))).mono ?_; rintro e w4 ⟨rfl, hi, hb, hk⟩; rw [bT.out]; have HI4 := aM hi; have HB4 := aM hb; have HK4 := aM (KeepBut.trans (by repeat (first | (with_reducible first | exact HK3.out | apply KeepBut.set_ | apply keep_drewN | apply keep_drew | apply keep_alloc) | exact HK3.out)) hk (.inl rfl)); have x4 := aD hi.1; have y4 := aI hi.1; have f4 := bF hi.1 0; have g4 := bF hi.1 1; clear hi hb hk) | (go_at_call 39; refine (next_any g s n w0 _ z17 z11).mono ?_; rintro e w1 ⟨rfl, hi, hb, hk⟩; rw [HC.out]; have HI1 := aM hi; have HB1 := aM hb; have HK1 := aM (KeepBut.trans z8 hk (.inl rfl)); have x1 := aD hi.1; have y1 := aI hi.1; have f1 := bF hi.1 0; have g1 := bF hi.1 1; clear hi hb hk) | (go_at_call 50; refine (sym50 _ (by decide) (by decide) _).mono ?_; rintro e w2 ⟨rfl, ⟨nd, rfl⟩⟩; rw [hs]) | (go_at_call 34; refine (HP.out w0 _ z18 z12).mono ?_; rintro e w3 ⟨A, rfl, ha, hi, hb, hk⟩; obtain ⟨ad, rfl⟩ : ∃ ad, A = some ad := (by cases A with | none => cases ha | some a => exact ⟨a, rfl⟩); have HI3 := aM hi; have HB3 := aM hb; have HK3 := aM (KeepBut.trans (by repeat (first | (with_reducible first | exact HK1.out | apply KeepBut.set_ | apply keep_drewN | apply keep_drew | apply keep_alloc) | exact HK1.out)) hk (.inl rfl)); have x3 := aD hi.1; have y3 := aI hi.1; have f3 := bF hi.1 0; have g3 := bF hi.1 1; clear hi hb hk ha)); try go_wp2_with (first | (go_at_call 39; refine (next_any g r m w0 _ (by (try simp only [Int.add_zero]); repeat (first | (with_reducible first | exact HI3.out | apply IsS62.alloc | apply IsS62.drewN | apply IsS62.drew | apply IsS62.set_0 | apply IsS62.set_1) | exact HI3.out)) (by repeat (first | (with_reducible first | exact HB3.out | apply bA | apply pD | apply bD | refine ak ?_ (IsS62.ge HI3.out)) | exact HB3.out))).mono ?_; rintro e w4 ⟨rfl, hi, hb, hk⟩; rw [bT.out]; have HI4 := aM hi; have HB4 := aM hb; have HK4 := aM (KeepBut.trans (by repeat (first | (with_reducible first | exact HK3.out | apply KeepBut.set_ | apply keep_drewN | apply keep_drew | apply keep_alloc) | exact HK3.out)) hk (.inl rfl)); have x4 := aD hi.1; have y4 := aI hi.1; have f4 := bF hi.1 0; have g4 := bF hi.1 1; clear hi hb hk) | (go_at_call 39; refine (next_any g s n w0 _ z17 z11).mono ?_; rintro e w1 ⟨rfl, hi, hb, hk⟩; rw [HC.out]; have HI1 := aM hi; have HB1 := aM hb; have HK1 := aM (KeepBut.trans z8 hk (.inl rfl)); have x1 := aD hi.1; have y1 := aI hi.1; have f1 := bF hi.1 0; have g1 := bF hi.1 1; clear hi hb hk) | (go_at_call 50; refine (sym50 _ (by decide) (by decide) _).mono ?_; rintro e w2 ⟨rfl, ⟨nd, rfl⟩⟩; rw [hs]) | (go_at_call 34; refine (HP.out w0 _ z18 z12).mono ?_; rintro e w3 ⟨A, rfl, ha, hi, hb, hk⟩; obtain ⟨ad, rfl⟩ : ∃ ad, A = some ad := (by cases A with | none => cases ha | some a => exact ⟨a, rfl⟩); have HI3 := aM hi; have HB3 := aM hb; have HK3 := aM (KeepBut.trans (by repeat (first | (with_reducible first | exact HK1.out | apply KeepBut.set_ | apply keep_drewN | apply keep_drew | apply keep_alloc) | exact HK1.out)) hk (.inl rfl)); have x3 := aD hi.1; have y3 := aI hi.1; have f3 := bF hi.1 0; have g3 := bF hi.1 1; clear hi hb hk ha)))
 go_ret
 exact ⟨_, rfl, rfl, by (try simp only [Int.add_zero]); repeat (first | (with_reducible first | exact HI4.out | apply IsS62.alloc | apply IsS62.drewN | apply IsS62.drew | apply IsS62.set_0 | apply IsS62.set_1) | exact HI4.out), by repeat (first | (with_reducible first | exact HB4.out | apply bA | apply pD | apply bD | refine ak ?_ (IsS62.ge HI4.out)) | exact HB4.out), by repeat (first | (with_reducible first | exact HK4.out | apply KeepBut.set_ | apply keep_drewN | apply keep_drew | apply keep_alloc) | exact HK4.out)⟩
def kX : Kd Unit where
 sz := 1
 E := []
 K := fun w x cs => ∃ A : Option Addr, cs = [.pointer A]
 M := fun w base ok x cs => ∃ A : Option Addr, cs = [.pointer A]
 K_len := by rintro w x cs ⟨A, rfl⟩; rfl
 K_one := by rintro w x cs ⟨A, rfl⟩ u hu; rw [List.mem_singleton.1 hu]; rfl
 K_below := by rintro w w1 x cs hb ⟨A, rfl⟩; exact ⟨A, rfl⟩
 K_of_M := by rintro w base ok x cs ⟨A, rfl⟩; exact ⟨A, rfl⟩
 M_mono := by rintro w base ok ok' x cs hok ⟨A, rfl⟩; exact ⟨A, rfl⟩
 M_bound := by rintro w base ok x cs ⟨A, rfl⟩; exact ⟨A, rfl⟩
 M_move := by rintro w w1 base ok x cs hm ⟨A, rfl⟩; exact ⟨A, rfl⟩
 M_lower := by rintro w base base' ok x cs hb ⟨A, rfl⟩; exact ⟨A, rfl⟩
theorem inf51h : (Try.prog.info? 51).map (fun i => (i.zero, i.size, i.bytes)) = some (some (.pointer none), 1, 8) := by kernel_rfl
theorem iRow_bad {o : Bool × ByteArray × Int} {s : ByteArray} {n : Int} {m : Nat} (h : iRow 0 s n m = some o) : False := by simp [iRow] at h
theorem iRow_stop {o : Bool × ByteArray × Int} {k : Nat} {s : ByteArray} {n : Int} {m : Nat} (h : iRow (k + 1) s n m = some o) (hc : ¬ (iN s ≠ 0 ∧ iN s ≠ 124 ∧ iN s ≠ 41)) : o = (decide (m ≠ 0), s, n) := by
 simp only [iRow] at h
 rw [if_neg hc] at h
 exact (sI h).symm
theorem iRow_go {o : Bool × ByteArray × Int} {k : Nat} {s : ByteArray} {n : Int} {m : Nat} (h : iRow (k + 1) s n m = some o) (hc : iN s ≠ 0 ∧ iN s ≠ 124 ∧ iN s ≠ 41) : ∃ q, iAtom k s n = some q ∧ (q.1 = false → o = q) ∧ (q.1 = true → ∃ r, iSuf k q.2.1 = some r ∧ m < 1000000000000 ∧ iRow k r q.2.2 (m + 1) = some o) := by
 simp only [iRow] at h
 rw [if_pos hc] at h
 obtain ⟨q, h1, h2⟩ := oB h
 refine ⟨q, h1, fun e => ?_, fun e => ?_⟩
 ·rw [if_pos e] at h2
  exact (sI h2).symm
 ·rw [if_neg (by rw [e]; simp)] at h2
  obtain ⟨r, h3, h4⟩ := oB h2
  by_cases hm : m < 1000000000000
  ·rw [if_pos hm] at h4
   exact ⟨r, h3, hm, h4⟩
  ·rw [if_neg hm] at h4
   cases h4
theorem iSuf_bad {r s : ByteArray} (h : iSuf 0 s = some r) : False := by simp [iSuf] at h
theorem iSuf_go {r s : ByteArray} {k : Nat} (h : iSuf (k + 1) s = some r) (hc : sufB (iN s) = true) : iSuf k (s.extract 1 s.size) = some r := by
 simp only [iSuf] at h
 rw [if_pos hc] at h
 exact h
theorem iSuf_stop {r s : ByteArray} {k : Nat} (h : iSuf (k + 1) s = some r) (hc : sufB (iN s) = false) : r = s := by
 simp only [iSuf] at h
 rw [if_neg (by rw [hc]; simp)] at h
 exact (sI h).symm
theorem ib46s (c : Int) (h0 : 0 ≤ c) (h1 : c ≤ 255) (w : World) : Calls Try.prog 46 #[.string ⟨#[42, 63, 43]⟩, .int .u8 c] w fun e w' => ∃ z : Int, e = .returned (.int .i64 z) ∧ decide (0 ≤ z) = sufB c ∧ Drawn0 w w' :=
 (ib46 _ c w).mono (fun e w' h => ⟨_, h.1, suf_ix c h0 h1, h.2⟩)
theorem suf_nz {c : Int} (h : sufB c = true) : c ≠ 0 := by rintro rfl; exact absurd h (by decide)
/-- The row behind an append. -/
theorem rw_app {w0 w W w1 : World} {g : Nat} {s : ByteArray} {n : Int} {v : Value} {m : Nat} (hR : Kd.R kX 51 W w0.heap.size (fun k => w.heap.size ≤ k ∧ k ≠ g) v (rU m)) (hI : IsS62 w0 W g s n) (hK : KeepBut w W g none) (hg : W.grownBy w1 v.ownBlock) : IsS62 w0 w1 g s n ∧ KeepBut w w1 g none := by
 refine ⟨hI.grown hg (hI.own_ne hR (by decide)), hK.trans (KeepBut.of_grown hg g) ?_⟩
 cases e : v.ownBlock with
 | none => exact .inl rfl
 | some b => exact .inr ⟨b, rfl, (hR.1 b e).1⟩
def RwR (w0 w : World) (g : Nat) (o : Bool × ByteArray × Int) (k d : Nat) (v3 v4 : Value) (w' : World) : Prop := d ≤ k ∧ ∃ s n m, v4 = .int .u8 (iN s) ∧ iRow d s n m = some o ∧ Kd.R kX 51 w' w0.heap.size (fun k => w.heap.size ≤ k ∧ k ≠ g) v3 (rU m) ∧ IsS62 w0 w' g s n ∧ Below w0.heap.size w0 w' ∧ KeepBut w w' g none
def SfR (w0 w1 : World) (g : Nat) (r : ByteArray) (n : Int) (d : Nat) (v5 v6 : Value) (w' : World) : Prop := ∃ s, v6 = .int .u8 (iN s) ∧ (∃ ad : Addr, v5 = .pointer (some ad)) ∧ iSuf d s = some r ∧ IsS62 w0 w' g s n ∧ Below w0.heap.size w0 w' ∧ KeepBut w1 w' g none
set_option maxHeartbeats 4000000 in
set_option maxRecDepth 100000 in
theorem row_any (k : Nat) (ih : ∀ j, j < k → ∀ g s n o, iAtom j s n = some o → AtC 45 g s n o) (g : Nat) (s : ByteArray) (n : Int) (o : Bool × ByteArray × Int) (h : iRow k s n 0 = some o) : AtC 38 g s n o := by
 intro w0 w hI hB
 have HI0 := aM hI
 have HK0 := aM (KeepBut.refl w g none)
 have HB0 := aM hB
 have HH := aM h
 have HG : Aside0 (∀ x, w.heap.size ≤ x → x ≠ g) := ⟨hI.fresh⟩
 clear hI hB h
 go_enter Try.func38, Try.ntmps38
 go_wp2_with (first | (go_at_call 39; refine (next_any g s n w0 _ z17 z11).mono ?_; rintro e w1 ⟨rfl, hi, hb, hk⟩; have HI1 := aM hi; have HB1 := aM hb; have HK1 := aM (KeepBut.trans z8 hk (.inl rfl)); clear hi hb hk))
 go_loopg [3, 4] k (fun d v3 v4 w' => RwR w0 w g o k d v3 v4 w')
 case atStart => exact ⟨Nat.le_refl _, s, n, 0, rfl, HH.out, Kd.R_nil _ _ _ _ _, y14, y10, y12⟩
 case round =>
  clear HI0 HB0 HK0 HI1 HB1 HK1 HH
  obtain ⟨hd, s, n, m, rfl, hr, hx, hi, hb, hk⟩ := hrel
  have HR := aM hr
  have HX := aM hx
  have HI := aM hi
  have HB := aM hb
  have HK := aM hk
  clear hr hx hi hb hk
  cases gk with
  | zero => exact (iRow_bad HR.out).elim
  | succ G =>
   by_cases hc : iN s = 0
   ·by_cases hm : m = 0
    ·obtain rfl := iRow_stop HR.out (by rw [hc]; decide)
     rw [hc]
     subst hm
     have hl0 : (((rU 0).length : Int) == 0) = true := rfl
     obtain ⟨Av, cv, rfl, -, -⟩ := Kd.R_reads HX.out
     clear hc ih hd
     go_wp2
     repeat (go_quiet (fail); try go_wp2)
     go_ret
     exact ⟨none, rfl, rfl, y13, y9, y11⟩
    ·obtain rfl := iRow_stop HR.out (by rw [hc]; decide)
     rw [hc]
     have hl0 : (((rU m).length : Int) == 0) = false := qF (by rw [rU_len]; omega)
     obtain ⟨Av, cv, rfl, -, -⟩ := Kd.R_reads HX.out
     have HM : Aside0 (decide (m ≠ 0) = true) := ⟨dT hm⟩
     clear hc hm ih hd
     go_wp2
     repeat (go_quiet (fail); try go_wp2)
     go_ret
     exact ⟨_, rfl, by show true = decide (m ≠ 0); rw [HM.out], y13, y9, y11⟩
   have hn0 := hc
   clear hc
   by_cases hc : iN s = 124
   ·by_cases hm : m = 0
    ·obtain rfl := iRow_stop HR.out (by rw [hc]; decide)
     rw [hc]
     subst hm
     have hl0 : (((rU 0).length : Int) == 0) = true := rfl
     obtain ⟨Av, cv, rfl, -, -⟩ := Kd.R_reads HX.out
     clear hc ih hd
     go_wp2
     repeat (go_quiet (fail); try go_wp2)
     go_ret
     exact ⟨none, rfl, rfl, y13, y9, y11⟩
    ·obtain rfl := iRow_stop HR.out (by rw [hc]; decide)
     rw [hc]
     have hl0 : (((rU m).length : Int) == 0) = false := qF (by rw [rU_len]; omega)
     obtain ⟨Av, cv, rfl, -, -⟩ := Kd.R_reads HX.out
     have HM : Aside0 (decide (m ≠ 0) = true) := ⟨dT hm⟩
     clear hc hm ih hd
     go_wp2
     repeat (go_quiet (fail); try go_wp2)
     go_ret
     exact ⟨_, rfl, by show true = decide (m ≠ 0); rw [HM.out], y13, y9, y11⟩
   have hn124 := hc
   clear hc
   by_cases hc : iN s = 41
   ·by_cases hm : m = 0
    ·obtain rfl := iRow_stop HR.out (by rw [hc]; decide)
     rw [hc]
     subst hm
     have hl0 : (((rU 0).length : Int) == 0) = true := rfl
     obtain ⟨Av, cv, rfl, -, -⟩ := Kd.R_reads HX.out
     clear hc ih hd
     go_wp2
     repeat (go_quiet (fail); try go_wp2)
     go_ret
     exact ⟨none, rfl, rfl, y13, y9, y11⟩
    ·obtain rfl := iRow_stop HR.out (by rw [hc]; decide)
     rw [hc]
     have hl0 : (((rU m).length : Int) == 0) = false := qF (by rw [rU_len]; omega)
     obtain ⟨Av, cv, rfl, -, -⟩ := Kd.R_reads HX.out
     have HM : Aside0 (decide (m ≠ 0) = true) := ⟨dT hm⟩
     clear hc hm ih hd
     go_wp2
     repeat (go_quiet (fail); try go_wp2)
     go_ret
     exact ⟨_, rfl, by show true = decide (m ≠ 0); rw [HM.out], y13, y9, y11⟩
   have hn41 := hc
   clear hc
   obtain ⟨q, hq, hq1, hq2⟩ := iRow_go HR.out ⟨hn0, hn124, hn41⟩
   have HA := aM (ih G (by omega) g s n q hq)
   obtain ⟨c, hc⟩ : ∃ c, iN s = c := ⟨_, rfl⟩
   have HC := aM hc
   rw [hc] at hn0 hn124 hn41 ⊢
   have d0 : (c != 0) = true := nT hn0
   have d1 : (c != 124) = true := nT hn124
   have d2 : (c != 41) = true := nT hn41
   have HD := aM hd
   clear hc hn0 hn124 hn41 hq ih hd
   cases hqe : q.1 with
   | false =>
    obtain rfl := hq1 hqe
    have HQ := aM hqe
    clear hqe hq1 hq2
    go_wp2_with (first | (go_at_call 45; refine (HA.out w0 _ z16 z10).mono ?_; rintro e w2 ⟨A, rfl, ha, hi, hb, hk⟩; (obtain rfl : A = none := (by have e := HQ.out; rw [e] at ha; cases A with | none => rfl | some a => cases ha)); have HI2 := aM hi; have HB2 := aM hb; have HK2 := aM (KeepBut.trans (by repeat (first | (with_reducible first | exact HK.out | apply KeepBut.set_ | apply keep_drewN | apply keep_drew | apply keep_alloc) | exact HK.out)) hk (.inl rfl)); have HX2 := aM (Kd.R_keep (ok := fun k => w.heap.size ≤ k ∧ k ≠ g) (by repeat (first | (with_reducible first | exact HX.out | apply ac | apply ab | apply aa) | exact HX.out)) hk (fun _ h => h.2)); clear hi hb hk ha))
    repeat (go_quiet (fail); try go_wp2)
    go_ret
    exact ⟨none, rfl, HQ.out.symm, by (try simp only [Int.add_zero]); repeat (first | (with_reducible first | exact HI2.out | apply IsS62.alloc | apply IsS62.drewN | apply IsS62.drew | apply IsS62.set_0 | apply IsS62.set_1) | exact HI2.out), by repeat (first | (with_reducible first | exact HB2.out | apply bA | apply pD | apply bD | refine ak ?_ (IsS62.ge HI2.out)) | exact HB2.out), by repeat (first | (with_reducible first | exact HK2.out | apply KeepBut.set_ | apply keep_drewN | apply keep_drew | apply keep_alloc) | exact HK2.out)⟩
   | true =>
    obtain ⟨r, hr1, hm, hr2⟩ := hq2 hqe
    have HQ := aM hqe
    have dp := aM hr1
    have cI := aM hr2
    have HM := aM hm
    clear hqe hq1 hq2 hr1 hr2 hm HR
    go_wp2_with (first | (go_at_call 39; refine (next_any g q.2.1 q.2.2 w0 _ (by (try simp only [Int.add_zero]); repeat (first | (with_reducible first | exact HI2.out | apply IsS62.alloc | apply IsS62.drewN | apply IsS62.drew | apply IsS62.set_0 | apply IsS62.set_1) | exact HI2.out)) (by repeat (first | (with_reducible first | exact HB2.out | apply bA | apply pD | apply bD | refine ak ?_ (IsS62.ge HI2.out)) | exact HB2.out))).mono ?_; rintro e w3 ⟨rfl, hi, hb, hk⟩; have HI3 := aM hi; have HB3 := aM hb; have HK3 := aM (KeepBut.trans (by repeat (first | (with_reducible first | exact HK2.out | apply KeepBut.set_ | apply keep_drewN | apply keep_drew | apply keep_alloc) | exact HK2.out)) hk (.inl rfl)); have HX3 := aM (Kd.R_keep (ok := fun k => w.heap.size ≤ k ∧ k ≠ g) HX2.out hk (fun _ h => h.2)); clear hi hb hk) | (go_at_call 45; refine (HA.out w0 _ z16 z10).mono ?_; rintro e w2 ⟨A, rfl, ha, hi, hb, hk⟩; (obtain ⟨ad, rfl⟩ : ∃ ad, A = some ad := (by have e := HQ.out; rw [e] at ha; cases A with | none => cases ha | some a => exact ⟨a, rfl⟩)); have HI2 := aM hi; have HB2 := aM hb; have HK2 := aM (KeepBut.trans (by repeat (first | (with_reducible first | exact HK.out | apply KeepBut.set_ | apply keep_drewN | apply keep_drew | apply keep_alloc) | exact HK.out)) hk (.inl rfl)); have HX2 := aM (Kd.R_keep (ok := fun k => w.heap.size ≤ k ∧ k ≠ g) (by repeat (first | (with_reducible first | exact HX.out | apply ac | apply ab | apply aa) | exact HX.out)) hk (fun _ h => h.2)); clear hi hb hk ha))
    go_loopg [5, 6] G (fun d v5 v6 w' => SfR w0 w3 g r q.2.2 d v5 v6 w')
    case atStart => exact ⟨q.2.1, rfl, ⟨_, rfl⟩, dp.out, by (try simp only [Int.add_zero]); repeat (first | (with_reducible first | exact HI3.out | apply IsS62.alloc | apply IsS62.drewN | apply IsS62.drew | apply IsS62.set_0 | apply IsS62.set_1) | exact HI3.out), by repeat (first | (with_reducible first | exact HB3.out | apply bA | apply pD | apply bD | refine ak ?_ (IsS62.ge HI3.out)) | exact HB3.out), by repeat (first | (with_reducible first | exact KeepBut.refl _ _ _ | apply keep_drewN | apply keep_drew) | exact KeepBut.refl _ _ _)⟩
    case round =>
     obtain ⟨s4, rfl, ⟨a5, rfl⟩, hs, hi, hb, hk⟩ := hrel
     have HS := aM hs
     have HI5 := aM hi
     have HB5 := aM hb
     have HK5 := aM (KeepBut.trans (by repeat (first | (with_reducible first | exact HK3.out | apply KeepBut.set_ | apply keep_drewN | apply keep_drew | apply keep_alloc) | exact HK3.out)) hk (.inl rfl))
     have HX5 := aM (Kd.R_keep (ok := fun k => w.heap.size ≤ k ∧ k ≠ g) (by repeat (first | (with_reducible first | exact HX3.out | apply ac | apply ab | apply aa) | exact HX3.out)) hk (fun _ h => h.2))
     have HK35 := aM hk
     have x5 := aD hi.1
     have y5 := aI hi.1
     have f5 := bF hi.1 0
     have HN := aM (iN_bd s4)
     clear hs hi hb hk HI HB HK HX HI2 HB2 HK2 HX2 HI3 HB3 HX3 HK3 HA dp
     cases gk with
     | zero => exact (iSuf_bad HS.out).elim
     | succ J =>
      obtain ⟨c4, hc4⟩ : ∃ c, iN s4 = c := ⟨_, rfl⟩
      have cf := aM hc4
      cases hsf : sufB c4 with
      | true =>
       have HS2 := aM (iSuf_go HS.out (by rw [hc4]; exact hsf))
       have HF := aM hsf
       have q1 : ((1 : Int) ≤ (s4.size : Int)) = True := eq_true (iN_pos (s := s4) (by rw [hc4]; exact suf_nz hsf))
       have d4 : (c4 != 0) = true := nT (suf_nz hsf)
       rw [hc4]
       clear hc4 hsf HS
       go_wp2_with (first | (go_at_call 39; refine (next_any g (s4.extract 1 s4.size) q.2.2 w0 _ z19 z13).mono ?_; rintro e w6 ⟨rfl, hi, hb, hk⟩; have HI6 := aM hi; have HB6 := aM hb; have HK6 := aM (KeepBut.trans (by repeat (first | (with_reducible first | exact HK9.out | apply KeepBut.set_ | apply keep_drewN | apply keep_drew | apply keep_alloc) | exact HK9.out)) hk (.inl rfl)); clear hi hb hk) | (go_at_call 46; refine (ib46s c4 (by have := HN.out; rw [cf.out] at this; exact this.1) (by have := HN.out; rw [cf.out] at this; exact this.2) _).mono ?_; rintro e w4 ⟨z, rfl, hz, ⟨nd, rfl⟩⟩; rw [HF.out] at hz) | ((with_reducible refine ar (N := 40) rfl ?_); refine au ?hg (N := 40) ?hd (cs := ?cs) (t := 68) ?hr ?_; (case hd => rfl); (case hg => rfl); (case hr => first | (go_simp; done) | (go_simp; rfl)); intro gb hgb w9 hbox hb; have HI9 := aM (IsS62.below z20 hb); have HB9 := aM (al z14 hb); have HK9 := aM (KeepBut.trans (by repeat (first | (with_reducible first | exact HK35.out | apply KeepBut.set_ | apply keep_drewN | apply keep_drew | apply keep_alloc) | exact HK35.out)) (KeepBut.of_below hb g none) (.inl rfl)); have x9 := aD HI9.out.1; have f9 := bF HI9.out.1 0; clear hgb hbox hb))
       repeat (go_quiet (first | (go_at_call 39; refine (next_any g (s4.extract 1 s4.size) q.2.2 w0 _ z19 z13).mono ?_; rintro e w6 ⟨rfl, hi, hb, hk⟩; have HI6 := aM hi; have HB6 := aM hb; have HK6 := aM (KeepBut.trans (by repeat (first | (with_reducible first | exact HK9.out | apply KeepBut.set_ | apply keep_drewN | apply keep_drew | apply keep_alloc) | exact HK9.out)) hk (.inl rfl)); clear hi hb hk) | (go_at_call 46; refine (ib46s c4 (by have := HN.out; rw [cf.out] at this; exact this.1) (by have := HN.out; rw [cf.out] at this; exact this.2) _).mono ?_; rintro e w4 ⟨z, rfl, hz, ⟨nd, rfl⟩⟩; rw [HF.out] at hz) | ((with_reducible refine ar (N := 40) rfl ?_); refine au ?hg (N := 40) ?hd (cs := ?cs) (t := 68) ?hr ?_; (case hd => rfl); (case hg => rfl); (case hr => first | (go_simp; done) | (go_simp; rfl)); intro gb hgb w9 hbox hb; have HI9 := aM (IsS62.below z20 hb); have HB9 := aM (al z14 hb); have HK9 := aM (KeepBut.trans (by repeat (first | (with_reducible first | exact HK35.out | apply KeepBut.set_ | apply keep_drewN | apply keep_drew | apply keep_alloc) | exact HK35.out)) (KeepBut.of_below hb g none) (.inl rfl)); have x9 := aD HI9.out.1; have f9 := bF HI9.out.1 0; clear hgb hbox hb)); try go_wp2_with (first | (go_at_call 39; refine (next_any g (s4.extract 1 s4.size) q.2.2 w0 _ z19 z13).mono ?_; rintro e w6 ⟨rfl, hi, hb, hk⟩; have HI6 := aM hi; have HB6 := aM hb; have HK6 := aM (KeepBut.trans (by repeat (first | (with_reducible first | exact HK9.out | apply KeepBut.set_ | apply keep_drewN | apply keep_drew | apply keep_alloc) | exact HK9.out)) hk (.inl rfl)); clear hi hb hk) | (go_at_call 46; refine (ib46s c4 (by have := HN.out; rw [cf.out] at this; exact this.1) (by have := HN.out; rw [cf.out] at this; exact this.2) _).mono ?_; rintro e w4 ⟨z, rfl, hz, ⟨nd, rfl⟩⟩; rw [HF.out] at hz) | ((with_reducible refine ar (N := 40) rfl ?_); refine au ?hg (N := 40) ?hd (cs := ?cs) (t := 68) ?hr ?_; (case hd => rfl); (case hg => rfl); (case hr => first | (go_simp; done) | (go_simp; rfl)); intro gb hgb w9 hbox hb; have HI9 := aM (IsS62.below z20 hb); have HB9 := aM (al z14 hb); have HK9 := aM (KeepBut.trans (by repeat (first | (with_reducible first | exact HK35.out | apply KeepBut.set_ | apply keep_drewN | apply keep_drew | apply keep_alloc) | exact HK35.out)) (KeepBut.of_below hb g none) (.inl rfl)); have x9 := aD HI9.out.1; have f9 := bF HI9.out.1 0; clear hgb hbox hb)))
       go_roundg J
       case measure => omega
       case rel =>
        exact ⟨_, rfl, ⟨_, rfl⟩, HS2.out, by (try simp only [Int.add_zero]); repeat (first | (with_reducible first | exact HI6.out | apply IsS62.alloc | apply IsS62.drewN | apply IsS62.drew | apply IsS62.set_0 | apply IsS62.set_1) | exact HI6.out), by repeat (first | (with_reducible first | exact HB6.out | apply bA | apply pD | apply bD | refine ak ?_ (IsS62.ge HI6.out)) | exact HB6.out), by repeat (first | (with_reducible first | exact HK6.out | apply KeepBut.set_ | apply keep_drewN | apply keep_drew | apply keep_alloc) | exact HK6.out)⟩
      | false =>
       obtain rfl := iSuf_stop HS.out (by rw [hc4]; exact hsf)
       have HF := aM hsf
       rw [hc4]
       clear hc4 HS
       have hG2 : Aside0 (∀ W : World, w.heap.size ≤ W.heap.size → ∀ k, W.heap.size ≤ k → w.heap.size ≤ k ∧ k ≠ g) := ⟨fun W h k hk => ⟨Nat.le_trans h hk, HG.out k (Nat.le_trans h hk)⟩⟩
       obtain ⟨Av, cv, rfl, -, -⟩ := Kd.R_reads HX5.out
       by_cases hz : c4 = 0
       ·subst hz
        clear hsf
        go_wp2_with (first | ((with_reducible refine gate_builtin (b := .append) (xs := #[.tmp 49, .tmp 51]) rfl ?_); at_builtin; refine Kd.R_append kX (w0 := w0) w0.heap.size rfl (.tmp 49) (.tmp 51) 66 51 (.pointer none) 8 rfl Try.underlying66 inf51h rfl (by decide) (by omega) (.slice Av (rU m).length cv) (rU m) () [.pointer (some a5)] (fun k => w.heap.size ≤ k ∧ k ≠ g) (fun _ => False) rfl (by first | (go_simp; done) | (go_simp; rfl)) ?aP (fun _ hk => hk.elim) ?aF ?aO ?aB ?aS ?aL ?_; (case aP => exact ⟨_, rfl⟩); (case aF => exact hG2.out _ (by have := HK5.out.1; (try simp at this ⊢); omega)); (case aO => exact z3); (case aB => exact z14); (case aS => have := HB5.out.size; (try simp at this ⊢); omega); (case aL => have := HM.out; rw [rU_len]; omega); intro v1 w7 ho hb hg hat; rw [rU_snoc] at ho; have HX7 := aM ho; have HB7 := aM hb; have hh := rw_app (v := .slice Av (rU m).length cv) (m := m) (w0 := w0) (w := w) (g := g) (s := r) (n := q.2.2) z3 z20 (by repeat (first | (with_reducible first | exact HK5.out | apply KeepBut.set_ | apply keep_drewN | apply keep_drew | apply keep_alloc) | exact HK5.out)) hg; have HI7 := aM hh.1; have HK7 := aM hh.2; clear ho hb hg hat hh) | (go_at_call 39; refine (next_any g r q.2.2 w0 _ z21 z15).mono ?_; rintro e w8 ⟨rfl, hi, hb, hk⟩; have HI8 := aM hi; have HB8 := aM hb; have HK8 := aM (KeepBut.trans z9 hk (.inl rfl)); have HX8 := aM (Kd.R_keep (ok := fun k => w.heap.size ≤ k ∧ k ≠ g) z4 hk (fun _ h => h.2)); clear hi hb hk))
        repeat (go_quiet (first | ((with_reducible refine gate_builtin (b := .append) (xs := #[.tmp 49, .tmp 51]) rfl ?_); at_builtin; refine Kd.R_append kX (w0 := w0) w0.heap.size rfl (.tmp 49) (.tmp 51) 66 51 (.pointer none) 8 rfl Try.underlying66 inf51h rfl (by decide) (by omega) (.slice Av (rU m).length cv) (rU m) () [.pointer (some a5)] (fun k => w.heap.size ≤ k ∧ k ≠ g) (fun _ => False) rfl (by first | (go_simp; done) | (go_simp; rfl)) ?aP (fun _ hk => hk.elim) ?aF ?aO ?aB ?aS ?aL ?_; (case aP => exact ⟨_, rfl⟩); (case aF => exact hG2.out _ (by have := HK5.out.1; (try simp at this ⊢); omega)); (case aO => exact z3); (case aB => exact z14); (case aS => have := HB5.out.size; (try simp at this ⊢); omega); (case aL => have := HM.out; rw [rU_len]; omega); intro v1 w7 ho hb hg hat; rw [rU_snoc] at ho; have HX7 := aM ho; have HB7 := aM hb; have hh := rw_app (v := .slice Av (rU m).length cv) (m := m) (w0 := w0) (w := w) (g := g) (s := r) (n := q.2.2) z3 z20 (by repeat (first | (with_reducible first | exact HK5.out | apply KeepBut.set_ | apply keep_drewN | apply keep_drew | apply keep_alloc) | exact HK5.out)) hg; have HI7 := aM hh.1; have HK7 := aM hh.2; clear ho hb hg hat hh) | (go_at_call 39; refine (next_any g r q.2.2 w0 _ z21 z15).mono ?_; rintro e w8 ⟨rfl, hi, hb, hk⟩; have HI8 := aM hi; have HB8 := aM hb; have HK8 := aM (KeepBut.trans z9 hk (.inl rfl)); have HX8 := aM (Kd.R_keep (ok := fun k => w.heap.size ≤ k ∧ k ≠ g) z4 hk (fun _ h => h.2)); clear hi hb hk)); try go_wp2_with (first | ((with_reducible refine gate_builtin (b := .append) (xs := #[.tmp 49, .tmp 51]) rfl ?_); at_builtin; refine Kd.R_append kX (w0 := w0) w0.heap.size rfl (.tmp 49) (.tmp 51) 66 51 (.pointer none) 8 rfl Try.underlying66 inf51h rfl (by decide) (by omega) (.slice Av (rU m).length cv) (rU m) () [.pointer (some a5)] (fun k => w.heap.size ≤ k ∧ k ≠ g) (fun _ => False) rfl (by first | (go_simp; done) | (go_simp; rfl)) ?aP (fun _ hk => hk.elim) ?aF ?aO ?aB ?aS ?aL ?_; (case aP => exact ⟨_, rfl⟩); (case aF => exact hG2.out _ (by have := HK5.out.1; (try simp at this ⊢); omega)); (case aO => exact z3); (case aB => exact z14); (case aS => have := HB5.out.size; (try simp at this ⊢); omega); (case aL => have := HM.out; rw [rU_len]; omega); intro v1 w7 ho hb hg hat; rw [rU_snoc] at ho; have HX7 := aM ho; have HB7 := aM hb; have hh := rw_app (v := .slice Av (rU m).length cv) (m := m) (w0 := w0) (w := w) (g := g) (s := r) (n := q.2.2) z3 z20 (by repeat (first | (with_reducible first | exact HK5.out | apply KeepBut.set_ | apply keep_drewN | apply keep_drew | apply keep_alloc) | exact HK5.out)) hg; have HI7 := aM hh.1; have HK7 := aM hh.2; clear ho hb hg hat hh) | (go_at_call 39; refine (next_any g r q.2.2 w0 _ z21 z15).mono ?_; rintro e w8 ⟨rfl, hi, hb, hk⟩; have HI8 := aM hi; have HB8 := aM hb; have HK8 := aM (KeepBut.trans z9 hk (.inl rfl)); have HX8 := aM (Kd.R_keep (ok := fun k => w.heap.size ≤ k ∧ k ≠ g) z4 hk (fun _ h => h.2)); clear hi hb hk)))
        go_roundg G
        case measure => omega
        case rel =>
         exact ⟨by have := HD.out; omega, _, _, m + 1, rfl, cI.out, by repeat (first | (with_reducible first | exact HX8.out | apply ac | apply ab | apply aa) | exact HX8.out), y15, by repeat (first | (with_reducible first | exact HB8.out | apply bA | apply pD | apply bD | refine ak ?_ (IsS62.ge HI8.out)) | exact HB8.out), by repeat (first | (with_reducible first | exact HK8.out | apply KeepBut.set_ | apply keep_drewN | apply keep_drew | apply keep_alloc) | exact HK8.out)⟩
       ·have d4 : (c4 != 0) = true := nT hz
        clear hz hsf
        go_wp2_with (first | (go_at_call 46; refine (ib46s c4 (by have := HN.out; rw [cf.out] at this; exact this.1) (by have := HN.out; rw [cf.out] at this; exact this.2) _).mono ?_; rintro e w4 ⟨z, rfl, hz, ⟨nd, rfl⟩⟩; rw [HF.out] at hz) | ((with_reducible refine gate_builtin (b := .append) (xs := #[.tmp 49, .tmp 51]) rfl ?_); at_builtin; refine Kd.R_append kX (w0 := w0) w0.heap.size rfl (.tmp 49) (.tmp 51) 66 51 (.pointer none) 8 rfl Try.underlying66 inf51h rfl (by decide) (by omega) (.slice Av (rU m).length cv) (rU m) () [.pointer (some a5)] (fun k => w.heap.size ≤ k ∧ k ≠ g) (fun _ => False) rfl (by first | (go_simp; done) | (go_simp; rfl)) ?aP (fun _ hk => hk.elim) ?aF ?aO ?aB ?aS ?aL ?_; (case aP => exact ⟨_, rfl⟩); (case aF => exact hG2.out _ (by have := HK5.out.1; (try simp at this ⊢); omega)); (case aO => exact z3); (case aB => exact z14); (case aS => have := HB5.out.size; (try simp at this ⊢); omega); (case aL => have := HM.out; rw [rU_len]; omega); intro v1 w7 ho hb hg hat; rw [rU_snoc] at ho; have HX7 := aM ho; have HB7 := aM hb; have hh := rw_app (v := .slice Av (rU m).length cv) (m := m) (w0 := w0) (w := w) (g := g) (s := r) (n := q.2.2) z3 z20 (by repeat (first | (with_reducible first | exact HK5.out | apply KeepBut.set_ | apply keep_drewN | apply keep_drew | apply keep_alloc) | exact HK5.out)) hg; have HI7 := aM hh.1; have HK7 := aM hh.2; clear ho hb hg hat hh) | (go_at_call 39; refine (next_any g r q.2.2 w0 _ z21 z15).mono ?_; rintro e w8 ⟨rfl, hi, hb, hk⟩; have HI8 := aM hi; have HB8 := aM hb; have HK8 := aM (KeepBut.trans z9 hk (.inl rfl)); have HX8 := aM (Kd.R_keep (ok := fun k => w.heap.size ≤ k ∧ k ≠ g) z4 hk (fun _ h => h.2)); clear hi hb hk))
        repeat (go_quiet (first | (go_at_call 46; refine (ib46s c4 (by have := HN.out; rw [cf.out] at this; exact this.1) (by have := HN.out; rw [cf.out] at this; exact this.2) _).mono ?_; rintro e w4 ⟨z, rfl, hz, ⟨nd, rfl⟩⟩; rw [HF.out] at hz) | ((with_reducible refine gate_builtin (b := .append) (xs := #[.tmp 49, .tmp 51]) rfl ?_); at_builtin; refine Kd.R_append kX (w0 := w0) w0.heap.size rfl (.tmp 49) (.tmp 51) 66 51 (.pointer none) 8 rfl Try.underlying66 inf51h rfl (by decide) (by omega) (.slice Av (rU m).length cv) (rU m) () [.pointer (some a5)] (fun k => w.heap.size ≤ k ∧ k ≠ g) (fun _ => False) rfl (by first | (go_simp; done) | (go_simp; rfl)) ?aP (fun _ hk => hk.elim) ?aF ?aO ?aB ?aS ?aL ?_; (case aP => exact ⟨_, rfl⟩); (case aF => exact hG2.out _ (by have := HK5.out.1; (try simp at this ⊢); omega)); (case aO => exact z3); (case aB => exact z14); (case aS => have := HB5.out.size; (try simp at this ⊢); omega); (case aL => have := HM.out; rw [rU_len]; omega); intro v1 w7 ho hb hg hat; rw [rU_snoc] at ho; have HX7 := aM ho; have HB7 := aM hb; have hh := rw_app (v := .slice Av (rU m).length cv) (m := m) (w0 := w0) (w := w) (g := g) (s := r) (n := q.2.2) z3 z20 (by repeat (first | (with_reducible first | exact HK5.out | apply KeepBut.set_ | apply keep_drewN | apply keep_drew | apply keep_alloc) | exact HK5.out)) hg; have HI7 := aM hh.1; have HK7 := aM hh.2; clear ho hb hg hat hh) | (go_at_call 39; refine (next_any g r q.2.2 w0 _ z21 z15).mono ?_; rintro e w8 ⟨rfl, hi, hb, hk⟩; have HI8 := aM hi; have HB8 := aM hb; have HK8 := aM (KeepBut.trans z9 hk (.inl rfl)); have HX8 := aM (Kd.R_keep (ok := fun k => w.heap.size ≤ k ∧ k ≠ g) z4 hk (fun _ h => h.2)); clear hi hb hk)); try go_wp2_with (first | (go_at_call 46; refine (ib46s c4 (by have := HN.out; rw [cf.out] at this; exact this.1) (by have := HN.out; rw [cf.out] at this; exact this.2) _).mono ?_; rintro e w4 ⟨z, rfl, hz, ⟨nd, rfl⟩⟩; rw [HF.out] at hz) | ((with_reducible refine gate_builtin (b := .append) (xs := #[.tmp 49, .tmp 51]) rfl ?_); at_builtin; refine Kd.R_append kX (w0 := w0) w0.heap.size rfl (.tmp 49) (.tmp 51) 66 51 (.pointer none) 8 rfl Try.underlying66 inf51h rfl (by decide) (by omega) (.slice Av (rU m).length cv) (rU m) () [.pointer (some a5)] (fun k => w.heap.size ≤ k ∧ k ≠ g) (fun _ => False) rfl (by first | (go_simp; done) | (go_simp; rfl)) ?aP (fun _ hk => hk.elim) ?aF ?aO ?aB ?aS ?aL ?_; (case aP => exact ⟨_, rfl⟩); (case aF => exact hG2.out _ (by have := HK5.out.1; (try simp at this ⊢); omega)); (case aO => exact z3); (case aB => exact z14); (case aS => have := HB5.out.size; (try simp at this ⊢); omega); (case aL => have := HM.out; rw [rU_len]; omega); intro v1 w7 ho hb hg hat; rw [rU_snoc] at ho; have HX7 := aM ho; have HB7 := aM hb; have hh := rw_app (v := .slice Av (rU m).length cv) (m := m) (w0 := w0) (w := w) (g := g) (s := r) (n := q.2.2) z3 z20 (by repeat (first | (with_reducible first | exact HK5.out | apply KeepBut.set_ | apply keep_drewN | apply keep_drew | apply keep_alloc) | exact HK5.out)) hg; have HI7 := aM hh.1; have HK7 := aM hh.2; clear ho hb hg hat hh) | (go_at_call 39; refine (next_any g r q.2.2 w0 _ z21 z15).mono ?_; rintro e w8 ⟨rfl, hi, hb, hk⟩; have HI8 := aM hi; have HB8 := aM hb; have HK8 := aM (KeepBut.trans z9 hk (.inl rfl)); have HX8 := aM (Kd.R_keep (ok := fun k => w.heap.size ≤ k ∧ k ≠ g) z4 hk (fun _ h => h.2)); clear hi hb hk)))
        go_roundg G
        case measure => omega
        case rel =>
         exact ⟨by have := HD.out; omega, _, _, m + 1, rfl, cI.out, by repeat (first | (with_reducible first | exact HX8.out | apply ac | apply ab | apply aa) | exact HX8.out), y15, by repeat (first | (with_reducible first | exact HB8.out | apply bA | apply pD | apply bD | refine ak ?_ (IsS62.ge HI8.out)) | exact HB8.out), by repeat (first | (with_reducible first | exact HK8.out | apply KeepBut.set_ | apply keep_drewN | apply keep_drew | apply keep_alloc) | exact HK8.out)⟩
theorem iPar_bad {o : Bool × ByteArray × Int} {s : ByteArray} {n : Int} {m : Nat} (h : iParted 0 s n m = some o) : False := by simp [iParted] at h
theorem iPar_go {o : Bool × ByteArray × Int} {k : Nat} {s : ByteArray} {n : Int} {m : Nat} (h : iParted (k + 1) s n m = some o) : ∃ q, iRow k s n 0 = some q ∧ (q.1 = false → o = q) ∧ (q.1 = true → m < 1000000000000 ∧ (iN q.2.1 ≠ 124 → o = q) ∧ (iN q.2.1 = 124 → iParted k (q.2.1.extract 1 q.2.1.size) q.2.2 (m + 1) = some o)) := by
 simp only [iParted] at h
 obtain ⟨q, h1, h2⟩ := oB h
 refine ⟨q, h1, fun e => ?_, fun e => ?_⟩
 ·rw [if_pos e] at h2
  exact (sI h2).symm
 ·rw [if_neg (by rw [e]; simp)] at h2
  by_cases hm : m < 1000000000000
  ·rw [if_pos hm] at h2
   refine ⟨hm, fun c => ?_, fun c => ?_⟩
   ·rw [if_neg c] at h2
    exact (sI h2).symm
   ·rw [if_pos c] at h2
    exact h2
  ·rw [if_neg hm] at h2
   cases h2
def PaR (w0 w : World) (g : Nat) (o : Bool × ByteArray × Int) (k d : Nat) (v3 : Value) (w' : World) : Prop := d ≤ k ∧ ∃ s n m, iParted d s n m = some o ∧ Kd.R kX 51 w' w0.heap.size (fun k => w.heap.size ≤ k ∧ k ≠ g) v3 (rU m) ∧ IsS62 w0 w' g s n ∧ Below w0.heap.size w0 w' ∧ KeepBut w w' g none
set_option maxHeartbeats 4000000 in
set_option maxRecDepth 100000 in
theorem parted_any (k : Nat) (ih : ∀ j, j < k → ∀ g s n o, iRow j s n 0 = some o → AtC 38 g s n o) (g : Nat) (s : ByteArray) (n : Int) (o : Bool × ByteArray × Int) (h : iParted k s n 0 = some o) : AtC 34 g s n o := by
 intro w0 w hI hB
 have HI0 := aM hI
 have HK0 := aM (KeepBut.refl w g none)
 have HB0 := aM hB
 have HH := aM h
 have HG : Aside0 (∀ x, w.heap.size ≤ x → x ≠ g) := ⟨hI.fresh⟩
 clear hI hB h
 go_enter Try.func34, Try.ntmps34
 go_wp2
 go_loopg [3] k (fun d v3 w' => PaR w0 w g o k d v3 w')
 case atStart => exact ⟨Nat.le_refl _, s, n, 0, HH.out, Kd.R_nil _ _ _ _ _, by (try simp only [Int.add_zero]); repeat (first | (with_reducible first | exact HI0.out | apply IsS62.alloc | apply IsS62.drewN | apply IsS62.drew | apply IsS62.set_0 | apply IsS62.set_1) | exact HI0.out), by repeat (first | (with_reducible first | exact HB0.out | apply bA | apply pD | apply bD | refine ak ?_ (IsS62.ge HI0.out)) | exact HB0.out), by repeat (first | (with_reducible first | exact HK0.out | apply KeepBut.set_ | apply keep_drewN | apply keep_drew | apply keep_alloc) | exact HK0.out)⟩
 case round =>
  clear HI0 HB0 HK0 HH
  obtain ⟨hd, s, n, m, hr, hx, hi, hb, hk⟩ := hrel
  have HX := aM hx
  have HI := aM hi
  have HB := aM hb
  have HK := aM hk
  have HD := aM hd
  clear hx hi hb hk
  cases gk with
  | zero => exact (iPar_bad hr).elim
  | succ G =>
   obtain ⟨q, hq, hq1, hq2⟩ := iPar_go hr
   have HA := aM (ih G (by omega) g s n q hq)
   clear hr hq ih hd
   have hG2 : Aside0 (∀ W : World, w.heap.size ≤ W.heap.size → ∀ k, W.heap.size ≤ k → w.heap.size ≤ k ∧ k ≠ g) := ⟨fun W h k hk => ⟨Nat.le_trans h hk, HG.out k (Nat.le_trans h hk)⟩⟩
   obtain ⟨Av, cv, rfl, -, -⟩ := Kd.R_reads HX.out
   cases hqe : q.1 with
   | false =>
    obtain rfl := hq1 hqe
    have HQ := aM hqe
    clear hqe hq1 hq2
    go_wp2_with (first | (go_at_call 38; refine (HA.out w0 _ z16 z10).mono ?_; rintro e w2 ⟨A, rfl, ha, hi, hb, hk⟩; (obtain rfl : A = none := (by have e := HQ.out; rw [e] at ha; cases A with | none => rfl | some a => cases ha)); have HI2 := aM hi; have HB2 := aM hb; have HK2 := aM (KeepBut.trans (by repeat (first | (with_reducible first | exact HK.out | apply KeepBut.set_ | apply keep_drewN | apply keep_drew | apply keep_alloc) | exact HK.out)) hk (.inl rfl)); have HX2 := aM (Kd.R_keep (ok := fun k => w.heap.size ≤ k ∧ k ≠ g) (by repeat (first | (with_reducible first | exact HX.out | apply ac | apply ab | apply aa) | exact HX.out)) hk (fun _ h => h.2)); clear hi hb hk ha))
    repeat (go_quiet (fail); try go_wp2)
    go_ret
    exact ⟨none, rfl, HQ.out.symm, by (try simp only [Int.add_zero]); repeat (first | (with_reducible first | exact HI2.out | apply IsS62.alloc | apply IsS62.drewN | apply IsS62.drew | apply IsS62.set_0 | apply IsS62.set_1) | exact HI2.out), by repeat (first | (with_reducible first | exact HB2.out | apply bA | apply pD | apply bD | refine ak ?_ (IsS62.ge HI2.out)) | exact HB2.out), by repeat (first | (with_reducible first | exact HK2.out | apply KeepBut.set_ | apply keep_drewN | apply keep_drew | apply keep_alloc) | exact HK2.out)⟩
   | true =>
    obtain ⟨hm, h1, h2⟩ := hq2 hqe
    have HQ := aM hqe
    have HM := aM hm
    obtain ⟨c, hc⟩ : ∃ c, iN q.2.1 = c := ⟨_, rfl⟩
    have HC := aM hc
    by_cases c1 : c = 124
    ·subst c1
     have cI := aM (h2 hc)
     have q1 : ((1 : Int) ≤ (q.2.1.size : Int)) = True := eq_true (iN_pos (s := q.2.1) (by rw [hc]; decide))
     clear hqe hq1 hq2 hm h1 h2 hc
     go_wp2_with (first | ((with_reducible refine gate_builtin (b := .append) (xs := #[.tmp 9, .tmp 11]) rfl ?_); at_builtin; refine Kd.R_append kX (w0 := w0) w0.heap.size rfl (.tmp 9) (.tmp 11) 66 51 (.pointer none) 8 rfl Try.underlying66 inf51h rfl (by decide) (by omega) (.slice Av (rU m).length cv) (rU m) () [.pointer (some ad)] (fun k => w.heap.size ≤ k ∧ k ≠ g) (fun _ => False) rfl (by first | (go_simp; done) | (go_simp; rfl)) ?aP (fun _ hk => hk.elim) ?aF ?aO ?aB ?aS ?aL ?_; (case aP => exact ⟨_, rfl⟩); (case aF => exact hG2.out _ (by have := HK2.out.1; (try simp at this ⊢); omega)); (case aO => exact z5); (case aB => exact (by repeat (first | (with_reducible first | exact HB2.out | apply bA | apply pD | apply bD | refine ak ?_ (IsS62.ge HI2.out)) | exact HB2.out))); (case aS => have := HB2.out.size; (try simp at this ⊢); omega); (case aL => have := HM.out; rw [rU_len]; omega); intro v1 w7 ho hb hg hat; rw [rU_snoc] at ho; obtain ⟨A1, k1, eo, -, -⟩ := Kd.R_reads ho; subst eo; have HX7 := aM ho; have HB7 := aM hb; have hh := rw_app (v := .slice Av (rU m).length cv) (m := m) (w0 := w0) (w := w) (g := g) (s := q.2.1) (n := q.2.2) z5 (by (try simp only [Int.add_zero]); repeat (first | (with_reducible first | exact HI2.out | apply IsS62.alloc | apply IsS62.drewN | apply IsS62.drew | apply IsS62.set_0 | apply IsS62.set_1) | exact HI2.out)) (by repeat (first | (with_reducible first | exact HK2.out | apply KeepBut.set_ | apply keep_drewN | apply keep_drew | apply keep_alloc) | exact HK2.out)) hg; have HI7 := aM hh.1; have HK7 := aM hh.2; clear ho hb hg hat hh) | (go_at_call 39; refine (next_any g q.2.1 q.2.2 w0 _ z21 z15).mono ?_; rintro e w8 ⟨rfl, hi, hb, hk⟩; rw [HC.out]; have HI8 := aM hi; have HB8 := aM hb; have HK8 := aM (KeepBut.trans z9 hk (.inl rfl)); have HX8 := aM (Kd.R_keep (ok := fun k => w.heap.size ≤ k ∧ k ≠ g) z4 hk (fun _ h => h.2)); have x8 := aD hi.1; have f8 := bF hi.1 0; clear hi hb hk) | (go_at_call 38; refine (HA.out w0 _ z16 z10).mono ?_; rintro e w2 ⟨A, rfl, ha, hi, hb, hk⟩; (obtain ⟨ad, rfl⟩ : ∃ ad, A = some ad := (by have e := HQ.out; rw [e] at ha; cases A with | none => cases ha | some a => exact ⟨a, rfl⟩)); have HI2 := aM hi; have HB2 := aM hb; have HK2 := aM (KeepBut.trans (by repeat (first | (with_reducible first | exact HK.out | apply KeepBut.set_ | apply keep_drewN | apply keep_drew | apply keep_alloc) | exact HK.out)) hk (.inl rfl)); have HX2 := aM (Kd.R_keep (ok := fun k => w.heap.size ≤ k ∧ k ≠ g) (by repeat (first | (with_reducible first | exact HX.out | apply ac | apply ab | apply aa) | exact HX.out)) hk (fun _ h => h.2)); clear hi hb hk ha))
     repeat (go_quiet (first | ((with_reducible refine gate_builtin (b := .append) (xs := #[.tmp 9, .tmp 11]) rfl ?_); at_builtin; refine Kd.R_append kX (w0 := w0) w0.heap.size rfl (.tmp 9) (.tmp 11) 66 51 (.pointer none) 8 rfl Try.underlying66 inf51h rfl (by decide) (by omega) (.slice Av (rU m).length cv) (rU m) () [.pointer (some ad)] (fun k => w.heap.size ≤ k ∧ k ≠ g) (fun _ => False) rfl (by first | (go_simp; done) | (go_simp; rfl)) ?aP (fun _ hk => hk.elim) ?aF ?aO ?aB ?aS ?aL ?_; (case aP => exact ⟨_, rfl⟩); (case aF => exact hG2.out _ (by have := HK2.out.1; (try simp at this ⊢); omega)); (case aO => exact z5); (case aB => exact (by repeat (first | (with_reducible first | exact HB2.out | apply bA | apply pD | apply bD | refine ak ?_ (IsS62.ge HI2.out)) | exact HB2.out))); (case aS => have := HB2.out.size; (try simp at this ⊢); omega); (case aL => have := HM.out; rw [rU_len]; omega); intro v1 w7 ho hb hg hat; rw [rU_snoc] at ho; obtain ⟨A1, k1, eo, -, -⟩ := Kd.R_reads ho; subst eo; have HX7 := aM ho; have HB7 := aM hb; have hh := rw_app (v := .slice Av (rU m).length cv) (m := m) (w0 := w0) (w := w) (g := g) (s := q.2.1) (n := q.2.2) z5 (by (try simp only [Int.add_zero]); repeat (first | (with_reducible first | exact HI2.out | apply IsS62.alloc | apply IsS62.drewN | apply IsS62.drew | apply IsS62.set_0 | apply IsS62.set_1) | exact HI2.out)) (by repeat (first | (with_reducible first | exact HK2.out | apply KeepBut.set_ | apply keep_drewN | apply keep_drew | apply keep_alloc) | exact HK2.out)) hg; have HI7 := aM hh.1; have HK7 := aM hh.2; clear ho hb hg hat hh) | (go_at_call 39; refine (next_any g q.2.1 q.2.2 w0 _ z21 z15).mono ?_; rintro e w8 ⟨rfl, hi, hb, hk⟩; rw [HC.out]; have HI8 := aM hi; have HB8 := aM hb; have HK8 := aM (KeepBut.trans z9 hk (.inl rfl)); have HX8 := aM (Kd.R_keep (ok := fun k => w.heap.size ≤ k ∧ k ≠ g) z4 hk (fun _ h => h.2)); have x8 := aD hi.1; have f8 := bF hi.1 0; clear hi hb hk) | (go_at_call 38; refine (HA.out w0 _ z16 z10).mono ?_; rintro e w2 ⟨A, rfl, ha, hi, hb, hk⟩; (obtain ⟨ad, rfl⟩ : ∃ ad, A = some ad := (by have e := HQ.out; rw [e] at ha; cases A with | none => cases ha | some a => exact ⟨a, rfl⟩)); have HI2 := aM hi; have HB2 := aM hb; have HK2 := aM (KeepBut.trans (by repeat (first | (with_reducible first | exact HK.out | apply KeepBut.set_ | apply keep_drewN | apply keep_drew | apply keep_alloc) | exact HK.out)) hk (.inl rfl)); have HX2 := aM (Kd.R_keep (ok := fun k => w.heap.size ≤ k ∧ k ≠ g) (by repeat (first | (with_reducible first | exact HX.out | apply ac | apply ab | apply aa) | exact HX.out)) hk (fun _ h => h.2)); clear hi hb hk ha)); try go_wp2_with (first | ((with_reducible refine gate_builtin (b := .append) (xs := #[.tmp 9, .tmp 11]) rfl ?_); at_builtin; refine Kd.R_append kX (w0 := w0) w0.heap.size rfl (.tmp 9) (.tmp 11) 66 51 (.pointer none) 8 rfl Try.underlying66 inf51h rfl (by decide) (by omega) (.slice Av (rU m).length cv) (rU m) () [.pointer (some ad)] (fun k => w.heap.size ≤ k ∧ k ≠ g) (fun _ => False) rfl (by first | (go_simp; done) | (go_simp; rfl)) ?aP (fun _ hk => hk.elim) ?aF ?aO ?aB ?aS ?aL ?_; (case aP => exact ⟨_, rfl⟩); (case aF => exact hG2.out _ (by have := HK2.out.1; (try simp at this ⊢); omega)); (case aO => exact z5); (case aB => exact (by repeat (first | (with_reducible first | exact HB2.out | apply bA | apply pD | apply bD | refine ak ?_ (IsS62.ge HI2.out)) | exact HB2.out))); (case aS => have := HB2.out.size; (try simp at this ⊢); omega); (case aL => have := HM.out; rw [rU_len]; omega); intro v1 w7 ho hb hg hat; rw [rU_snoc] at ho; obtain ⟨A1, k1, eo, -, -⟩ := Kd.R_reads ho; subst eo; have HX7 := aM ho; have HB7 := aM hb; have hh := rw_app (v := .slice Av (rU m).length cv) (m := m) (w0 := w0) (w := w) (g := g) (s := q.2.1) (n := q.2.2) z5 (by (try simp only [Int.add_zero]); repeat (first | (with_reducible first | exact HI2.out | apply IsS62.alloc | apply IsS62.drewN | apply IsS62.drew | apply IsS62.set_0 | apply IsS62.set_1) | exact HI2.out)) (by repeat (first | (with_reducible first | exact HK2.out | apply KeepBut.set_ | apply keep_drewN | apply keep_drew | apply keep_alloc) | exact HK2.out)) hg; have HI7 := aM hh.1; have HK7 := aM hh.2; clear ho hb hg hat hh) | (go_at_call 39; refine (next_any g q.2.1 q.2.2 w0 _ z21 z15).mono ?_; rintro e w8 ⟨rfl, hi, hb, hk⟩; rw [HC.out]; have HI8 := aM hi; have HB8 := aM hb; have HK8 := aM (KeepBut.trans z9 hk (.inl rfl)); have HX8 := aM (Kd.R_keep (ok := fun k => w.heap.size ≤ k ∧ k ≠ g) z4 hk (fun _ h => h.2)); have x8 := aD hi.1; have f8 := bF hi.1 0; clear hi hb hk) | (go_at_call 38; refine (HA.out w0 _ z16 z10).mono ?_; rintro e w2 ⟨A, rfl, ha, hi, hb, hk⟩; (obtain ⟨ad, rfl⟩ : ∃ ad, A = some ad := (by have e := HQ.out; rw [e] at ha; cases A with | none => cases ha | some a => exact ⟨a, rfl⟩)); have HI2 := aM hi; have HB2 := aM hb; have HK2 := aM (KeepBut.trans (by repeat (first | (with_reducible first | exact HK.out | apply KeepBut.set_ | apply keep_drewN | apply keep_drew | apply keep_alloc) | exact HK.out)) hk (.inl rfl)); have HX2 := aM (Kd.R_keep (ok := fun k => w.heap.size ≤ k ∧ k ≠ g) (by repeat (first | (with_reducible first | exact HX.out | apply ac | apply ab | apply aa) | exact HX.out)) hk (fun _ h => h.2)); clear hi hb hk ha)))
     go_roundg G
     case measure => omega
     case rel =>
      exact ⟨by have := HD.out; omega, _, _, m + 1, cI.out, by repeat (first | (with_reducible first | exact HX8.out | apply ac | apply ab | apply aa) | exact HX8.out | (refine Kd.R_set ?_ HI8.out.1 (by decide) _ _)), y15, by repeat (first | (with_reducible first | exact HB8.out | apply bA | apply pD | apply bD | refine ak ?_ (IsS62.ge HI8.out)) | exact HB8.out), by repeat (first | (with_reducible first | exact HK8.out | apply KeepBut.set_ | apply keep_drewN | apply keep_drew | apply keep_alloc) | exact HK8.out)⟩
    ·have d1 : (c != 124) = true := nT c1
     have hoq := h1 (by rw [hc]; exact c1)
     rw [hoq]
     clear hqe hq1 hq2 hm h1 h2 hc c1 hoq
     go_wp2_with (first | ((with_reducible refine gate_builtin (b := .append) (xs := #[.tmp 9, .tmp 11]) rfl ?_); at_builtin; refine Kd.R_append kX (w0 := w0) w0.heap.size rfl (.tmp 9) (.tmp 11) 66 51 (.pointer none) 8 rfl Try.underlying66 inf51h rfl (by decide) (by omega) (.slice Av (rU m).length cv) (rU m) () [.pointer (some ad)] (fun k => w.heap.size ≤ k ∧ k ≠ g) (fun _ => False) rfl (by first | (go_simp; done) | (go_simp; rfl)) ?aP (fun _ hk => hk.elim) ?aF ?aO ?aB ?aS ?aL ?_; (case aP => exact ⟨_, rfl⟩); (case aF => exact hG2.out _ (by have := HK2.out.1; (try simp at this ⊢); omega)); (case aO => exact z5); (case aB => exact (by repeat (first | (with_reducible first | exact HB2.out | apply bA | apply pD | apply bD | refine ak ?_ (IsS62.ge HI2.out)) | exact HB2.out))); (case aS => have := HB2.out.size; (try simp at this ⊢); omega); (case aL => have := HM.out; rw [rU_len]; omega); intro v1 w7 ho hb hg hat; rw [rU_snoc] at ho; obtain ⟨A1, k1, eo, -, -⟩ := Kd.R_reads ho; subst eo; have HX7 := aM ho; have HB7 := aM hb; have hh := rw_app (v := .slice Av (rU m).length cv) (m := m) (w0 := w0) (w := w) (g := g) (s := q.2.1) (n := q.2.2) z5 (by (try simp only [Int.add_zero]); repeat (first | (with_reducible first | exact HI2.out | apply IsS62.alloc | apply IsS62.drewN | apply IsS62.drew | apply IsS62.set_0 | apply IsS62.set_1) | exact HI2.out)) (by repeat (first | (with_reducible first | exact HK2.out | apply KeepBut.set_ | apply keep_drewN | apply keep_drew | apply keep_alloc) | exact HK2.out)) hg; have HI7 := aM hh.1; have HK7 := aM hh.2; clear ho hb hg hat hh) | (go_at_call 39; refine (next_any g q.2.1 q.2.2 w0 _ z21 z15).mono ?_; rintro e w8 ⟨rfl, hi, hb, hk⟩; rw [HC.out]; have HI8 := aM hi; have HB8 := aM hb; have HK8 := aM (KeepBut.trans z9 hk (.inl rfl)); have HX8 := aM (Kd.R_keep (ok := fun k => w.heap.size ≤ k ∧ k ≠ g) z4 hk (fun _ h => h.2)); have x8 := aD hi.1; have f8 := bF hi.1 0; clear hi hb hk) | (go_at_call 38; refine (HA.out w0 _ z16 z10).mono ?_; rintro e w2 ⟨A, rfl, ha, hi, hb, hk⟩; (obtain ⟨ad, rfl⟩ : ∃ ad, A = some ad := (by have e := HQ.out; rw [e] at ha; cases A with | none => cases ha | some a => exact ⟨a, rfl⟩)); have HI2 := aM hi; have HB2 := aM hb; have HK2 := aM (KeepBut.trans (by repeat (first | (with_reducible first | exact HK.out | apply KeepBut.set_ | apply keep_drewN | apply keep_drew | apply keep_alloc) | exact HK.out)) hk (.inl rfl)); have HX2 := aM (Kd.R_keep (ok := fun k => w.heap.size ≤ k ∧ k ≠ g) (by repeat (first | (with_reducible first | exact HX.out | apply ac | apply ab | apply aa) | exact HX.out)) hk (fun _ h => h.2)); clear hi hb hk ha))
     repeat (go_quiet (first | ((with_reducible refine gate_builtin (b := .append) (xs := #[.tmp 9, .tmp 11]) rfl ?_); at_builtin; refine Kd.R_append kX (w0 := w0) w0.heap.size rfl (.tmp 9) (.tmp 11) 66 51 (.pointer none) 8 rfl Try.underlying66 inf51h rfl (by decide) (by omega) (.slice Av (rU m).length cv) (rU m) () [.pointer (some ad)] (fun k => w.heap.size ≤ k ∧ k ≠ g) (fun _ => False) rfl (by first | (go_simp; done) | (go_simp; rfl)) ?aP (fun _ hk => hk.elim) ?aF ?aO ?aB ?aS ?aL ?_; (case aP => exact ⟨_, rfl⟩); (case aF => exact hG2.out _ (by have := HK2.out.1; (try simp at this ⊢); omega)); (case aO => exact z5); (case aB => exact (by repeat (first | (with_reducible first | exact HB2.out | apply bA | apply pD | apply bD | refine ak ?_ (IsS62.ge HI2.out)) | exact HB2.out))); (case aS => have := HB2.out.size; (try simp at this ⊢); omega); (case aL => have := HM.out; rw [rU_len]; omega); intro v1 w7 ho hb hg hat; rw [rU_snoc] at ho; obtain ⟨A1, k1, eo, -, -⟩ := Kd.R_reads ho; subst eo; have HX7 := aM ho; have HB7 := aM hb; have hh := rw_app (v := .slice Av (rU m).length cv) (m := m) (w0 := w0) (w := w) (g := g) (s := q.2.1) (n := q.2.2) z5 (by (try simp only [Int.add_zero]); repeat (first | (with_reducible first | exact HI2.out | apply IsS62.alloc | apply IsS62.drewN | apply IsS62.drew | apply IsS62.set_0 | apply IsS62.set_1) | exact HI2.out)) (by repeat (first | (with_reducible first | exact HK2.out | apply KeepBut.set_ | apply keep_drewN | apply keep_drew | apply keep_alloc) | exact HK2.out)) hg; have HI7 := aM hh.1; have HK7 := aM hh.2; clear ho hb hg hat hh) | (go_at_call 39; refine (next_any g q.2.1 q.2.2 w0 _ z21 z15).mono ?_; rintro e w8 ⟨rfl, hi, hb, hk⟩; rw [HC.out]; have HI8 := aM hi; have HB8 := aM hb; have HK8 := aM (KeepBut.trans z9 hk (.inl rfl)); have HX8 := aM (Kd.R_keep (ok := fun k => w.heap.size ≤ k ∧ k ≠ g) z4 hk (fun _ h => h.2)); have x8 := aD hi.1; have f8 := bF hi.1 0; clear hi hb hk) | (go_at_call 38; refine (HA.out w0 _ z16 z10).mono ?_; rintro e w2 ⟨A, rfl, ha, hi, hb, hk⟩; (obtain ⟨ad, rfl⟩ : ∃ ad, A = some ad := (by have e := HQ.out; rw [e] at ha; cases A with | none => cases ha | some a => exact ⟨a, rfl⟩)); have HI2 := aM hi; have HB2 := aM hb; have HK2 := aM (KeepBut.trans (by repeat (first | (with_reducible first | exact HK.out | apply KeepBut.set_ | apply keep_drewN | apply keep_drew | apply keep_alloc) | exact HK.out)) hk (.inl rfl)); have HX2 := aM (Kd.R_keep (ok := fun k => w.heap.size ≤ k ∧ k ≠ g) (by repeat (first | (with_reducible first | exact HX.out | apply ac | apply ab | apply aa) | exact HX.out)) hk (fun _ h => h.2)); clear hi hb hk ha)); try go_wp2_with (first | ((with_reducible refine gate_builtin (b := .append) (xs := #[.tmp 9, .tmp 11]) rfl ?_); at_builtin; refine Kd.R_append kX (w0 := w0) w0.heap.size rfl (.tmp 9) (.tmp 11) 66 51 (.pointer none) 8 rfl Try.underlying66 inf51h rfl (by decide) (by omega) (.slice Av (rU m).length cv) (rU m) () [.pointer (some ad)] (fun k => w.heap.size ≤ k ∧ k ≠ g) (fun _ => False) rfl (by first | (go_simp; done) | (go_simp; rfl)) ?aP (fun _ hk => hk.elim) ?aF ?aO ?aB ?aS ?aL ?_; (case aP => exact ⟨_, rfl⟩); (case aF => exact hG2.out _ (by have := HK2.out.1; (try simp at this ⊢); omega)); (case aO => exact z5); (case aB => exact (by repeat (first | (with_reducible first | exact HB2.out | apply bA | apply pD | apply bD | refine ak ?_ (IsS62.ge HI2.out)) | exact HB2.out))); (case aS => have := HB2.out.size; (try simp at this ⊢); omega); (case aL => have := HM.out; rw [rU_len]; omega); intro v1 w7 ho hb hg hat; rw [rU_snoc] at ho; obtain ⟨A1, k1, eo, -, -⟩ := Kd.R_reads ho; subst eo; have HX7 := aM ho; have HB7 := aM hb; have hh := rw_app (v := .slice Av (rU m).length cv) (m := m) (w0 := w0) (w := w) (g := g) (s := q.2.1) (n := q.2.2) z5 (by (try simp only [Int.add_zero]); repeat (first | (with_reducible first | exact HI2.out | apply IsS62.alloc | apply IsS62.drewN | apply IsS62.drew | apply IsS62.set_0 | apply IsS62.set_1) | exact HI2.out)) (by repeat (first | (with_reducible first | exact HK2.out | apply KeepBut.set_ | apply keep_drewN | apply keep_drew | apply keep_alloc) | exact HK2.out)) hg; have HI7 := aM hh.1; have HK7 := aM hh.2; clear ho hb hg hat hh) | (go_at_call 39; refine (next_any g q.2.1 q.2.2 w0 _ z21 z15).mono ?_; rintro e w8 ⟨rfl, hi, hb, hk⟩; rw [HC.out]; have HI8 := aM hi; have HB8 := aM hb; have HK8 := aM (KeepBut.trans z9 hk (.inl rfl)); have HX8 := aM (Kd.R_keep (ok := fun k => w.heap.size ≤ k ∧ k ≠ g) z4 hk (fun _ h => h.2)); have x8 := aD hi.1; have f8 := bF hi.1 0; clear hi hb hk) | (go_at_call 38; refine (HA.out w0 _ z16 z10).mono ?_; rintro e w2 ⟨A, rfl, ha, hi, hb, hk⟩; (obtain ⟨ad, rfl⟩ : ∃ ad, A = some ad := (by have e := HQ.out; rw [e] at ha; cases A with | none => cases ha | some a => exact ⟨a, rfl⟩)); have HI2 := aM hi; have HB2 := aM hb; have HK2 := aM (KeepBut.trans (by repeat (first | (with_reducible first | exact HK.out | apply KeepBut.set_ | apply keep_drewN | apply keep_drew | apply keep_alloc) | exact HK.out)) hk (.inl rfl)); have HX2 := aM (Kd.R_keep (ok := fun k => w.heap.size ≤ k ∧ k ≠ g) (by repeat (first | (with_reducible first | exact HX.out | apply ac | apply ab | apply aa) | exact HX.out)) hk (fun _ h => h.2)); clear hi hb hk ha)))
     go_ret
     exact ⟨_, rfl, HQ.out.symm, y15, by repeat (first | (with_reducible first | exact HB8.out | apply bA | apply pD | apply bD | refine ak ?_ (IsS62.ge HI8.out)) | exact HB8.out), by repeat (first | (with_reducible first | exact HK8.out | apply KeepBut.set_ | apply keep_drewN | apply keep_drew | apply keep_alloc) | exact HK8.out)⟩
theorem all_any : ∀ k : Nat, (∀ j, j ≤ k → ∀ g s n o, iAtom j s n = some o → AtC 45 g s n o) ∧ (∀ j, j ≤ k → ∀ g s n o, iParted j s n 0 = some o → AtC 34 g s n o) := by
 intro k
 induction k with
 | zero =>
  refine ⟨fun j hj g s n o h => ?_, fun j hj g s n o h => ?_⟩
  ·obtain rfl : j = 0 := by omega
   simp [iAtom] at h
  ·obtain rfl : j = 0 := by omega
   exact (iPar_bad h).elim
 | succ k ih =>
  have hA : ∀ j, j ≤ k + 1 → ∀ g s n o, iAtom j s n = some o → AtC 45 g s n o := by
   intro j hj g s n o h
   cases j with
   | zero => simp [iAtom] at h
   | succ j =>
    simp only [iAtom] at h
    by_cases c1 : symB (iN s) = true
    ·rw [c1, Bool.true_or, if_pos rfl] at h
     obtain rfl := sI h
     exact atom_sym g s n c1
    ·have c1f : symB (iN s) = false := by simpa using c1
     by_cases c2 : iN s = 46
     ·rw [if_pos (by rw [c2]; decide)] at h
      obtain rfl := sI h
      exact atom_46 g s n c2
     by_cases c3 : iN s = 45
     ·rw [if_pos (by rw [c3]; decide)] at h
      obtain rfl := sI h
      exact atom_45 g s n c3
     by_cases c4 : iN s = 33
     ·rw [if_pos (by rw [c4]; decide)] at h
      obtain rfl := sI h
      exact atom_33 g s n c4
     rw [if_neg (by rw [c1f, dF c2, dF c3, dF c4]; simp)] at h
     by_cases c5 : iN s = 40
     ·rw [if_neg (fun q => q c5)] at h
      by_cases c6 : n = 19
      ·rw [if_pos c6] at h
       obtain rfl := sI h
       rw [c6]
       exact atom_deep g s c5
      ·rw [if_neg c6] at h
       obtain ⟨⟨b, r, m⟩, h1, h2⟩ := oB h
       have hP := ih.2 j (by omega) g _ _ _ h1
       cases b with
       | false =>
        rw [if_pos rfl] at h2
        obtain rfl := sI h2
        exact atom_br0 g s n r m c5 c6 hP
       | true =>
        rw [if_neg (by simp)] at h2
        by_cases c7 : iN r = 41
        ·rw [if_neg (fun q => q c7)] at h2
         obtain rfl := sI h2
         exact atom_br2 g s n r m c5 c6 hP c7
        ·rw [if_pos c7] at h2
         obtain rfl := sI h2
         exact atom_br1 g s n r m c5 c6 hP c7
     ·rw [if_pos c5] at h
      obtain rfl := sI h
      exact atom_no g s n c1f c2 c3 c4 c5
  refine ⟨hA, fun j hj g s n o h => ?_⟩
  exact parted_any j (fun i hi g s n o h => row_any i (fun a ha => hA a (by omega)) g s n o h) g s n o h
theorem parted_calls (k : Nat) (g : Nat) (s : ByteArray) (n : Int) (o : Bool × ByteArray × Int) (h : iParted k s n 0 = some o) : AtC 34 g s n o := (all_any k).2 k (Nat.le_refl _) g s n o h
theorem mono_all : ∀ k : Nat, (∀ s n, LeO (iAtom k s n) (iAtom (k + 1) s n)) ∧ (∀ s n m, LeO (iRow k s n m) (iRow (k + 1) s n m)) ∧ (∀ s n m, LeO (iParted k s n m) (iParted (k + 1) s n m)) ∧ (∀ s, LeO (iSuf k s) (iSuf (k + 1) s))
 | 0 => ⟨fun _ _ r h => by simp [iAtom] at h, fun _ _ _ r h => by simp [iRow] at h, fun _ _ _ r h => by simp [iParted] at h, fun _ r h => by simp [iSuf] at h⟩
 | k + 1 => by
  obtain ⟨h1, h2, h3, h4⟩ := mono_all k
  refine ⟨fun s n => ?_, fun s n m => ?_, fun s n m => ?_, fun s => ?_⟩
  ·unfold iAtom
   exact LeO.ite (LeO.refl _) (LeO.ite (LeO.refl _) (LeO.ite (LeO.refl _) (LeO.bind (h3 _ _ _) (fun _ => LeO.refl _))))
  ·unfold iRow
   exact LeO.ite (LeO.bind (h1 _ _) (fun o => LeO.ite (LeO.refl _) (LeO.bind (h4 _) (fun r => LeO.ite (h2 _ _ _) (LeO.refl _))))) (LeO.refl _)
  ·unfold iParted
   exact LeO.bind (h2 _ _ _) (fun o => LeO.ite (LeO.refl _) (LeO.ite (LeO.ite (h3 _ _ _) (LeO.refl _)) (LeO.refl _)))
  ·unfold iSuf
   exact LeO.ite (h4 _) (LeO.refl _)
def impl_GoodExpr.f (k : Nat) (a0 : ByteArray) : Option Bool := if (a0.size : Int) < 1 then some false else (if (a0.size : Int) > 60 then some false else (iParted k a0 0 0).bind fun o => some (o.1 && decide (o.2.1.toList = [])))
theorem impl_GoodExpr.mono : ∀ a0 k, LeO (impl_GoodExpr.f k a0) (impl_GoodExpr.f (k + 1) a0) := by
 intro a0 k
 unfold impl_GoodExpr.f
 exact LeO.ite (LeO.refl _) (LeO.ite (LeO.refl _) (LeO.bind ((mono_all k).2.2.1 _ _ _) (fun _ => LeO.refl _)))
def RdE (w : World) (b : Bool) (e : Ending) (w' : World) : Prop := (∃ A : Option Addr, e = .returned (.tuple #[.pointer A, .bool b])) ∧ Below w.heap.size w w'
set_option maxHeartbeats 1000000 in
theorem readE_lo (s : ByteArray) (w : World) (h : (s.size : Int) < 1) : Calls Try.prog 30 #[.string s] w (RdE w false) := by
 have e1 : decide ((s.size : Int) < 1) = true := dT h
 clear h
 go_enter Try.func30, Try.ntmps30
 go_wp2
 repeat (go_quiet (fail); try go_wp2)
 go_ret2
 exact ⟨⟨none, rfl⟩, Below.refl _ _⟩
set_option maxHeartbeats 1000000 in
theorem readE_hi (s : ByteArray) (w : World) (h1 : ¬ (s.size : Int) < 1) (h2 : (s.size : Int) > 60) : Calls Try.prog 30 #[.string s] w (RdE w false) := by
 have e1 : decide ((s.size : Int) < 1) = false := dF h1
 have e2 : decide ((60 : Int) < (s.size : Int)) = true := dT h2
 clear h1 h2
 go_enter Try.func30, Try.ntmps30
 go_wp2
 repeat (go_quiet (fail); try go_wp2)
 go_ret2
 exact ⟨⟨none, rfl⟩, Below.refl _ _⟩
set_option maxHeartbeats 2000000 in
theorem readE_nil (s : ByteArray) (w : World) (h1 : ¬ (s.size : Int) < 1) (h2 : ¬ (s.size : Int) > 60) (r : ByteArray) (n : Int) (hP : AtC 34 w.heap.size s 0 (false, r, n)) : Calls Try.prog 30 #[.string s] w (RdE w (false && decide (r.toList = []))) := by
 have e1 : decide ((s.size : Int) < 1) = false := dF h1
 have e2 : decide ((60 : Int) < (s.size : Int)) = false := dF h2
 have HP := aM hP
 clear h1 h2 hP
 go_enter Try.func30, Try.ntmps30
 go_wp2_with (first | ((with_reducible refine ar (N := 16) rfl ?_); refine au ?hg (N := 16) ?hd (cs := #[.string s, .int .i64 0]) (t := 62) ?hr ?_; (case hd => rfl); (case hg => rfl); (case hr => first | (go_simp; done) | (go_simp; rfl)); intro gb hgb w9 hbox hb; obtain rfl : gb = w.heap.size := hgb; have HI9 : Aside0 (IsS62 w w9 w.heap.size s 0) := ⟨hbox, Nat.le_refl _⟩; have HB9 : Aside0 (Below w.heap.size w w9) := ⟨hb⟩; clear hbox hb) | (go_at_call 34; refine (HP.out w _ z19 z13).mono ?_; rintro e w3 ⟨A, rfl, ha, hi, hb, hk⟩; have HA := aM ha; have HI3 := aM hi; have HB3 := aM hb; have x3 := aD hi.1; have f3 := bF hi.1 0; obtain rfl : A = none := (by cases A with | none => rfl | some a => cases ha); clear hi hb hk))
 repeat (go_quiet (first | (go_at_call 34; refine (HP.out w _ z19 z13).mono ?_; rintro e w3 ⟨A, rfl, ha, hi, hb, hk⟩; have HA := aM ha; have HI3 := aM hi; have HB3 := aM hb; have x3 := aD hi.1; have f3 := bF hi.1 0; obtain rfl : A = none := (by cases A with | none => rfl | some a => cases ha); clear hi hb hk)); try go_wp2_with (first | (go_at_call 34; refine (HP.out w _ z19 z13).mono ?_; rintro e w3 ⟨A, rfl, ha, hi, hb, hk⟩; have HA := aM ha; have HI3 := aM hi; have HB3 := aM hb; have x3 := aD hi.1; have f3 := bF hi.1 0; obtain rfl : A = none := (by cases A with | none => rfl | some a => cases ha); clear hi hb hk)))
 go_ret2
 exact ⟨⟨none, rfl⟩, by first | exact HB3.out | exact pD HB3.out _⟩
set_option maxHeartbeats 2000000 in
theorem readE_ok (s : ByteArray) (w : World) (h1 : ¬ (s.size : Int) < 1) (h2 : ¬ (s.size : Int) > 60) (r : ByteArray) (n : Int) (hP : AtC 34 w.heap.size s 0 (true, r, n)) : Calls Try.prog 30 #[.string s] w (RdE w (true && decide (r.toList = []))) := by
 have e1 : decide ((s.size : Int) < 1) = false := dF h1
 have e2 : decide ((60 : Int) < (s.size : Int)) = false := dF h2
 have HP := aM hP
 have e3 : r.toList.isEmpty = decide (r.toList = []) := by cases r.toList <;> simp
 clear h1 h2 hP
 go_enter Try.func30, Try.ntmps30
 go_wp2_with (first | ((with_reducible refine ar (N := 16) rfl ?_); refine au ?hg (N := 16) ?hd (cs := #[.string s, .int .i64 0]) (t := 62) ?hr ?_; (case hd => rfl); (case hg => rfl); (case hr => first | (go_simp; done) | (go_simp; rfl)); intro gb hgb w9 hbox hb; obtain rfl : gb = w.heap.size := hgb; have HI9 : Aside0 (IsS62 w w9 w.heap.size s 0) := ⟨hbox, Nat.le_refl _⟩; have HB9 : Aside0 (Below w.heap.size w w9) := ⟨hb⟩; clear hbox hb) | (go_at_call 34; refine (HP.out w _ z19 z13).mono ?_; rintro e w3 ⟨A, rfl, ha, hi, hb, hk⟩; have HA := aM ha; have HI3 := aM hi; have HB3 := aM hb; have x3 := aD hi.1; have f3 := bF hi.1 0; obtain ⟨ad, rfl⟩ : ∃ ad, A = some ad := (by cases A with | none => cases ha | some a => exact ⟨a, rfl⟩); clear hi hb hk))
 repeat (go_quiet (first | (go_at_call 34; refine (HP.out w _ z19 z13).mono ?_; rintro e w3 ⟨A, rfl, ha, hi, hb, hk⟩; have HA := aM ha; have HI3 := aM hi; have HB3 := aM hb; have x3 := aD hi.1; have f3 := bF hi.1 0; obtain ⟨ad, rfl⟩ : ∃ ad, A = some ad := (by cases A with | none => cases ha | some a => exact ⟨a, rfl⟩); clear hi hb hk)); try go_wp2_with (first | (go_at_call 34; refine (HP.out w _ z19 z13).mono ?_; rintro e w3 ⟨A, rfl, ha, hi, hb, hk⟩; have HA := aM ha; have HI3 := aM hi; have HB3 := aM hb; have x3 := aD hi.1; have f3 := bF hi.1 0; obtain ⟨ad, rfl⟩ : ∃ ad, A = some ad := (by cases A with | none => cases ha | some a => exact ⟨a, rfl⟩); clear hi hb hk)))
 go_ret2
 exact ⟨⟨some ad, rfl⟩, by first | exact HB3.out | exact pD HB3.out _⟩
theorem readE_any (k : Nat) (s : ByteArray) (b : Bool) (w : World) (h : impl_GoodExpr.f k s = some b) : Calls Try.prog 30 #[.string s] w (RdE w b) := by
 unfold impl_GoodExpr.f at h
 by_cases c1 : (s.size : Int) < 1
 ·rw [if_pos c1] at h
  obtain rfl := sI h
  exact readE_lo s w c1
 rw [if_neg c1] at h
 by_cases c2 : (s.size : Int) > 60
 ·rw [if_pos c2] at h
  obtain rfl := sI h
  exact readE_hi s w c1 c2
 rw [if_neg c2] at h
 obtain ⟨⟨ok, r, n⟩, h1, h2⟩ := oB h
 obtain rfl := sI h2
 have hP := parted_calls k w.heap.size s 0 _ h1
 cases ok with
 | false => exact readE_nil s w c1 c2 r n hP
 | true => exact readE_ok s w c1 c2 r n hP
theorem impl_GoodExpr.calls (k : Nat) (a0 : ByteArray) (r : Bool) (w : World) (h : impl_GoodExpr.f k a0 = some r) :
  Calls Try.prog 22 #[.string a0] w fun e w' => e = .returned (.bool r) ∧ Below w.heap.size w w' := by
 have HH := aM h
 clear h
 go_enter Try.func22, Try.ntmps22
 go_wp2_with (first | (go_at_call 30; refine (readE_any k a0 r _ HH.out).mono ?_; rintro e w3 ⟨⟨A, rfl⟩, hb⟩; have HB := aM hb; clear hb))
 go_ret
 exact ⟨rfl, HB.out⟩

end Go.Proofs.Ytihjaagamihhkaa.AFnExactReadSchema
