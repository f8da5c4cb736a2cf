/- SideOf of the program answers as the reference's, for all texts. -/
import Derived.Test.YtnpnhdkchnfdlaaPFnExactSideOfx2
set_option linter.unusedVariables false
set_option linter.unusedSimpArgs false
namespace Go.Proofs.Ytnpnhdkchnfdlaa.Pure
open Go.RowKit Go.Proofs.Ytnpnhdkchnfdlaa.PFnExactSideOf Go.Proofs.YtnpnhdkchnfdlaaW.PrintWords Go.Proofs.YtnpnhdkchnfdlaaW.PrintLast Go.Proofs.YtnpnhdkchnfdlaaW.PrintMore

theorem w64 {i : Int} (h0 : -4611686018427387904 ≤ i) (h : i ≤ 4611686018427387904) : wrap64 i = i := by
  unfold wrap64; omega

def nmB (c : Int) : Bool := decide (65 ≤ c) && decide (c ≤ 70)
def plB (c : Int) : Bool := (decide (97 ≤ c) && decide (c ≤ 122)) || ((decide (48 ≤ c) && decide (c ≤ 57)) || (decide (c = 32) || (decide (c = 46) || decide (c = 44))))
def okB (c : Int) : Bool := nmB c || (plB c || decide (c = 47))
def okN (s : ByteArray) : Nat → Nat → Bool
  | 0, _ => true
  | d + 1, i => okB (bt s i) && okN s d (i + 1)
def textB (s : ByteArray) : Bool := okN s s.size 0 && decide (s.size ≤ 300)

theorem textB_size {s : ByteArray} (h : textB s = true) : s.size ≤ 300 := by
  unfold textB at h; simp at h; exact h.2

theorem impl_isName_eq (c : Int) : impl_isName.f c = some (nmB c) := by
  unfold impl_isName.f nmB
  by_cases h1 : c ≥ 65 <;> simp [h1] <;> omega
theorem impl_isPlain_eq (c : Int) : impl_isPlain.f c = some (plB c) := by
  unfold impl_isPlain.f plB
  by_cases h1 : 97 ≤ c <;> by_cases h2 : c ≤ 122 <;> by_cases h3 : 48 ≤ c <;> by_cases h4 : c ≤ 57 <;> by_cases h5 : c = 32 <;> by_cases h6 : c = 46 <;> simp [h1, h2, h3, h4, h5, h6] <;> rfl
theorem impl_GoodText_l (s : ByteArray) (hs : s.size ≤ 140737488351232) : ∀ (d i : Nat), i + d = s.size →
    ∃ K, ∀ k, K ≤ k → impl_GoodText.l0 k s (s.size : Int) (i : Int) = some (okN s d i && decide (s.size ≤ 300)) := by
  intro d
  induction d with
  | zero =>
    intro i hi
    refine ⟨1, fun k hk => ?_⟩
    obtain ⟨k, rfl⟩ : ∃ m, k = m + 1 := ⟨k - 1, by omega⟩
    simp only [impl_GoodText.l0]
    rw [if_neg (by omega)]
    simp [okN]
    omega
  | succ d ih =>
    intro i hi
    obtain ⟨K, hK⟩ := ih (i + 1) (by omega)
    refine ⟨K + 1, fun k hk => ?_⟩
    obtain ⟨k, rfl⟩ : ∃ m, k = m + 1 := ⟨k - 1, by omega⟩
    have hr := hK k (by omega)
    simp only [impl_GoodText.l0]
    rw [if_pos (by omega), if_pos (by omega), if_pos (by omega), impl_isName_eq, Option.bind_some, impl_isPlain_eq, Option.bind_some, w64 (by omega) (by omega)]
    have hc : ((i : Int) + 1) = ((i + 1 : Nat) : Int) := by omega
    rw [hc, hr]
    show _ = some ((okB (bt s i) && okN s d (i + 1)) && _)
    unfold okB
    cases nmB (bt s i) <;> cases plB (bt s i) <;> by_cases h : bt s i = 47 <;> simp [h]
theorem impl_GoodText_ev (s : ByteArray) (hs : s.size ≤ 140737488351232) : ∃ K, ∀ k, K ≤ k → impl_GoodText.f k s = some (textB s) := by
  obtain ⟨K, hK⟩ := impl_GoodText_l s hs s.size 0 (by omega)
  exact ⟨K, fun k hk => by unfold impl_GoodText.f; exact hK k hk⟩

theorem spec_l1Open_eq (c : Int) : spec_l1Open.f c = some (nmB c) := by
  unfold spec_l1Open.f nmB
  by_cases h1 : c ≥ 65 <;> simp [h1] <;> omega
theorem spec_l1Plain_eq (c : Int) : spec_l1Plain.f c = some (plB c) := by
  unfold spec_l1Plain.f plB
  by_cases h1 : 97 ≤ c <;> by_cases h2 : c ≤ 122 <;> by_cases h3 : 48 ≤ c <;> by_cases h4 : c ≤ 57 <;> by_cases h5 : c = 32 <;> by_cases h6 : c = 46 <;> simp [h1, h2, h3, h4, h5, h6] <;> rfl
theorem spec_l1Text_l (s : ByteArray) (hs : s.size ≤ 140737488351232) : ∀ (d i : Nat), i + d = s.size →
    ∃ K, ∀ k, K ≤ k → spec_l1Text.l0 k s (i : Int) = some (okN s d i) := by
  intro d
  induction d with
  | zero =>
    intro i hi
    refine ⟨1, fun k hk => ?_⟩
    obtain ⟨k, rfl⟩ : ∃ m, k = m + 1 := ⟨k - 1, by omega⟩
    simp only [spec_l1Text.l0]
    rw [if_neg (by omega)]
    simp [okN]
  | succ d ih =>
    intro i hi
    obtain ⟨K, hK⟩ := ih (i + 1) (by omega)
    refine ⟨K + 1, fun k hk => ?_⟩
    obtain ⟨k, rfl⟩ : ∃ m, k = m + 1 := ⟨k - 1, by omega⟩
    have hr := hK k (by omega)
    simp only [spec_l1Text.l0]
    rw [if_pos (by omega), if_pos (by omega), spec_l1Open_eq, Option.bind_some, spec_l1Plain_eq, Option.bind_some, w64 (by omega) (by omega)]
    have hc : ((i : Int) + 1) = ((i + 1 : Nat) : Int) := by omega
    rw [hc, hr]
    show _ = some (okB (bt s i) && okN s d (i + 1))
    unfold okB
    cases nmB (bt s i) <;> cases plB (bt s i) <;> by_cases h : bt s i = 47 <;> simp [h]
theorem spec_GoodText_ev (s : ByteArray) (hs : s.size ≤ 140737488351232) : ∃ K, ∀ k, K ≤ k → spec_GoodText.f k s = some (textB s) := by
  obtain ⟨K, hK⟩ := spec_l1Text_l s hs s.size 0 (by omega)
  refine ⟨K, fun k hk => ?_⟩
  have h := hK k hk
  unfold spec_GoodText.f spec_l1Text.f
  simp only [Int.cast_ofNat_Int] at h
  rw [h, Option.bind_some]
  unfold textB
  cases okN s s.size 0 <;> simp <;> omega

theorem impl_areTexts_ev (a b : ByteArray) (ha : a.size ≤ 140737488351232) (hb : b.size ≤ 140737488351232) : ∃ K, ∀ k, K ≤ k → impl_areTexts.f k a b = some (textB a && textB b) := by
  obtain ⟨K, hK⟩ := impl_GoodText_ev a ha
  obtain ⟨K', hK'⟩ := impl_GoodText_ev b hb
  refine ⟨max K K', fun k hk => ?_⟩
  have h1 := hK k (by omega)
  have h2 := hK' k (by omega)
  unfold impl_areTexts.f
  rw [h1, Option.bind_some, h2, Option.bind_some]
  cases textB a <;> simp
theorem spec_l9Texts_ev (a b : ByteArray) (ha : a.size ≤ 140737488351232) (hb : b.size ≤ 140737488351232) : ∃ K, ∀ k, K ≤ k → spec_l9Texts.f k a b = some (textB a && textB b) := by
  obtain ⟨K, hK⟩ := spec_GoodText_ev a ha
  obtain ⟨K', hK'⟩ := spec_GoodText_ev b hb
  refine ⟨max K K', fun k hk => ?_⟩
  have h1 := hK k (by omega)
  have h2 := hK' k (by omega)
  unfold spec_l9Texts.f
  rw [h1, Option.bind_some, h2, Option.bind_some]
  cases textB a <;> simp

theorem FnExactSideOf : laws_FnExactSideOf.Pure := by
  intro a0 a1 a2 ha0 ha1 ha2
  obtain ⟨K1, h1⟩ := impl_areTexts_ev a1 a2 ha1 ha2
  obtain ⟨K2, h2⟩ := spec_l9Texts_ev a1 a2 ha1 ha2
  obtain ⟨K3, h3⟩ := impl_GoodText_ev a0 ha0
  obtain ⟨K4, h4⟩ := spec_GoodText_ev a0 ha0
  refine ⟨max (max K1 K2) (max K3 K4) + 1, ?_⟩
  have e1 := h1 (max (max K1 K2) (max K3 K4) + 1) (by omega)
  have e2 := h2 (max (max K1 K2) (max K3 K4) + 1) (by omega)
  have e3 := h3 (max (max K1 K2) (max K3 K4) + 1) (by omega)
  have e4 := h4 (max (max K1 K2) (max K3 K4) + 1) (by omega)
  generalize max (max K1 K2) (max K3 K4) = k at *
  unfold laws_FnExactSideOf.f spec_SideOf.f impl_SideOf.f
  rw [e1, e2, e3, e4]
  simp only [Option.bind_some, spec_SideOf.j0, impl_SideOf.j0]
  cases textB a0 <;> cases textB a1 && textB a2 <;> simp only [Bool.not_true, Bool.not_false, if_true, if_false, Bool.false_eq_true]
  all_goals repeat' (first | rfl | split)

end Go.Proofs.Ytnpnhdkchnfdlaa.Pure
