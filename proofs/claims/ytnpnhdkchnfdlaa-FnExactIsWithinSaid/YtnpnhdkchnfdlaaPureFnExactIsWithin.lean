/- IsWithin of the program answers as the reference's, for all texts. -/
import Derived.Test.YtnpnhdkchnfdlaaPFnExactIsWithinx2
set_option linter.unusedVariables false
set_option linter.unusedSimpArgs false
namespace Go.Proofs.Ytnpnhdkchnfdlaa.Pure
open Go.RowKit Go.Proofs.Ytnpnhdkchnfdlaa.PFnExactIsWithin Go.Proofs.YtnpnhdkchnfdlaaW.PrintWords Go.Proofs.YtnpnhdkchnfdlaaW.PrintLast Go.Proofs.YtnpnhdkchnfdlaaW.PrintMore

theorem w64 {i : Int} (h0 : -4611686018427387904 ≤ i) (h : i ≤ 4611686018427387904) : wrap64 i = i := by
  unfold wrap64; omega

def nmB (c : Int) : Bool := decide (65 ≤ c) && decide (c ≤ 70)
def plB (c : Int) : Bool := (decide (97 ≤ c) && decide (c ≤ 122)) || ((decide (48 ≤ c) && decide (c ≤ 57)) || (decide (c = 32) || (decide (c = 46) || decide (c = 44))))
def okB (c : Int) : Bool := nmB c || (plB c || decide (c = 47))
def okN (s : ByteArray) : Nat → Nat → Bool
  | 0, _ => true
  | d + 1, i => okB (bt s i) && okN s d (i + 1)
def textB (s : ByteArray) : Bool := okN s s.size 0 && decide (s.size ≤ 300)

theorem textB_size {s : ByteArray} (h : textB s = true) : s.size ≤ 300 := by
  unfold textB at h; simp at h; exact h.2

theorem impl_isName_eq (c : Int) : impl_isName.f c = some (nmB c) := by
  unfold impl_isName.f nmB
  by_cases h1 : c ≥ 65 <;> simp [h1] <;> omega
theorem impl_isPlain_eq (c : Int) : impl_isPlain.f c = some (plB c) := by
  unfold impl_isPlain.f plB
  by_cases h1 : 97 ≤ c <;> by_cases h2 : c ≤ 122 <;> by_cases h3 : 48 ≤ c <;> by_cases h4 : c ≤ 57 <;> by_cases h5 : c = 32 <;> by_cases h6 : c = 46 <;> simp [h1, h2, h3, h4, h5, h6] <;> rfl
theorem impl_GoodText_l (s : ByteArray) (hs : s.size ≤ 140737488351232) : ∀ (d i : Nat), i + d = s.size →
    ∃ K, ∀ k, K ≤ k → impl_GoodText.l0 k s (s.size : Int) (i : Int) = some (okN s d i && decide (s.size ≤ 300)) := by
  intro d
  induction d with
  | zero =>
    intro i hi
    refine ⟨1, fun k hk => ?_⟩
    obtain ⟨k, rfl⟩ : ∃ m, k = m + 1 := ⟨k - 1, by omega⟩
    simp only [impl_GoodText.l0]
    rw [if_neg (by omega)]
    simp [okN]
    omega
  | succ d ih =>
    intro i hi
    obtain ⟨K, hK⟩ := ih (i + 1) (by omega)
    refine ⟨K + 1, fun k hk => ?_⟩
    obtain ⟨k, rfl⟩ : ∃ m, k = m + 1 := ⟨k - 1, by omega⟩
    have hr := hK k (by omega)
    simp only [impl_GoodText.l0]
    rw [if_pos (by omega), if_pos (by omega), if_pos (by omega), impl_isName_eq, Option.bind_some, impl_isPlain_eq, Option.bind_some, w64 (by omega) (by omega)]
    have hc : ((i : Int) + 1) = ((i + 1 : Nat) : Int) := by omega
    rw [hc, hr]
    show _ = some ((okB (bt s i) && okN s d (i + 1)) && _)
    unfold okB
    cases nmB (bt s i) <;> cases plB (bt s i) <;> by_cases h : bt s i = 47 <;> simp [h]
theorem impl_GoodText_ev (s : ByteArray) (hs : s.size ≤ 140737488351232) : ∃ K, ∀ k, K ≤ k → impl_GoodText.f k s = some (textB s) := by
  obtain ⟨K, hK⟩ := impl_GoodText_l s hs s.size 0 (by omega)
  exact ⟨K, fun k hk => by unfold impl_GoodText.f; exact hK k hk⟩

theorem spec_l1Open_eq (c : Int) : spec_l1Open.f c = some (nmB c) := by
  unfold spec_l1Open.f nmB
  by_cases h1 : c ≥ 65 <;> simp [h1] <;> omega
theorem spec_l1Plain_eq (c : Int) : spec_l1Plain.f c = some (plB c) := by
  unfold spec_l1Plain.f plB
  by_cases h1 : 97 ≤ c <;> by_cases h2 : c ≤ 122 <;> by_cases h3 : 48 ≤ c <;> by_cases h4 : c ≤ 57 <;> by_cases h5 : c = 32 <;> by_cases h6 : c = 46 <;> simp [h1, h2, h3, h4, h5, h6] <;> rfl
theorem spec_l1Text_l (s : ByteArray) (hs : s.size ≤ 140737488351232) : ∀ (d i : Nat), i + d = s.size →
    ∃ K, ∀ k, K ≤ k → spec_l1Text.l0 k s (i : Int) = some (okN s d i) := by
  intro d
  induction d with
  | zero =>
    intro i hi
    refine ⟨1, fun k hk => ?_⟩
    obtain ⟨k, rfl⟩ : ∃ m, k = m + 1 := ⟨k - 1, by omega⟩
    simp only [spec_l1Text.l0]
    rw [if_neg (by omega)]
    simp [okN]
  | succ d ih =>
    intro i hi
    obtain ⟨K, hK⟩ := ih (i + 1) (by omega)
    refine ⟨K + 1, fun k hk => ?_⟩
    obtain ⟨k, rfl⟩ : ∃ m, k = m + 1 := ⟨k - 1, by omega⟩
    have hr := hK k (by omega)
    simp only [spec_l1Text.l0]
    rw [if_pos (by omega), if_pos (by omega), spec_l1Open_eq, Option.bind_some, spec_l1Plain_eq, Option.bind_some, w64 (by omega) (by omega)]
    have hc : ((i : Int) + 1) = ((i + 1 : Nat) : Int) := by omega
    rw [hc, hr]
    show _ = some (okB (bt s i) && okN s d (i + 1))
    unfold okB
    cases nmB (bt s i) <;> cases plB (bt s i) <;> by_cases h : bt s i = 47 <;> simp [h]
theorem spec_GoodText_ev (s : ByteArray) (hs : s.size ≤ 140737488351232) : ∃ K, ∀ k, K ≤ k → spec_GoodText.f k s = some (textB s) := by
  obtain ⟨K, hK⟩ := spec_l1Text_l s hs s.size 0 (by omega)
  refine ⟨K, fun k hk => ?_⟩
  have h := hK k hk
  unfold spec_GoodText.f spec_l1Text.f
  simp only [Int.cast_ofNat_Int] at h
  rw [h, Option.bind_some]
  unfold textB
  cases okN s s.size 0 <;> simp <;> omega

theorem impl_areTexts_ev (a b : ByteArray) (ha : a.size ≤ 140737488351232) (hb : b.size ≤ 140737488351232) : ∃ K, ∀ k, K ≤ k → impl_areTexts.f k a b = some (textB a && textB b) := by
  obtain ⟨K, hK⟩ := impl_GoodText_ev a ha
  obtain ⟨K', hK'⟩ := impl_GoodText_ev b hb
  refine ⟨max K K', fun k hk => ?_⟩
  have h1 := hK k (by omega)
  have h2 := hK' k (by omega)
  unfold impl_areTexts.f
  rw [h1, Option.bind_some, h2, Option.bind_some]
  cases textB a <;> simp
theorem spec_l9Texts_ev (a b : ByteArray) (ha : a.size ≤ 140737488351232) (hb : b.size ≤ 140737488351232) : ∃ K, ∀ k, K ≤ k → spec_l9Texts.f k a b = some (textB a && textB b) := by
  obtain ⟨K, hK⟩ := spec_GoodText_ev a ha
  obtain ⟨K', hK'⟩ := spec_GoodText_ev b hb
  refine ⟨max K K', fun k hk => ?_⟩
  have h1 := hK k (by omega)
  have h2 := hK' k (by omega)
  unfold spec_l9Texts.f
  rw [h1, Option.bind_some, h2, Option.bind_some]
  cases textB a <;> simp

def withN (a b : ByteArray) : Nat → Nat → Nat → Bool
  | 0, i, _ => decide (i = a.size)
  | d + 1, i, j => if i < a.size then (if bt a i = bt b j then withN a b d (i + 1) (j + 1) else withN a b d i (j + 1)) else decide (i = a.size)
theorem impl_IsWithin_l (a b : ByteArray) (ha : a.size ≤ 140737488351232) (hb : b.size ≤ 140737488351232) : ∀ (d i j : Nat), j + d = b.size → i ≤ a.size →
    ∃ K, ∀ k, K ≤ k → impl_IsWithin.l0 k a b (i : Int) (j : Int) = some (withN a b d i j, true) := by
  intro d
  induction d with
  | zero =>
    intro i j hj hi
    refine ⟨2, fun k hk => ?_⟩
    obtain ⟨k, rfl⟩ : ∃ m, k = m + 2 := ⟨k - 2, by omega⟩
    simp only [impl_IsWithin.l0]
    rw [if_neg (by omega)]
    simp only [impl_IsWithin.j1]
    simp [withN]
    rw [Bool.eq_iff_iff]; simp; omega
  | succ d ih =>
    intro i j hj hi
    by_cases hlt : i < a.size
    · obtain ⟨K, hK⟩ := ih (i + 1) (j + 1) (by omega) (by omega)
      obtain ⟨K', hK'⟩ := ih i (j + 1) (by omega) (by omega)
      refine ⟨max K K' + 2, fun k hk => ?_⟩
      obtain ⟨k, rfl⟩ : ∃ m, k = m + 2 := ⟨k - 2, by omega⟩
      simp only [impl_IsWithin.l0]
      rw [if_pos (by omega)]
      simp only [impl_IsWithin.j1]
      rw [if_pos (by simp; omega), if_pos (by omega), if_pos (by omega), if_pos (by omega), if_pos (by omega), w64 (by omega) (by omega), w64 (by omega) (by omega)]
      have h1 := hK k (by omega)
      have h2 := hK' k (by omega)
      simp only [Int.natCast_add, Int.cast_ofNat_Int] at h1 h2
      rw [h1, h2]
      by_cases h : bt a i = bt b j <;> simp [withN, hlt, h]
    · refine ⟨2, fun k hk => ?_⟩
      obtain ⟨k, rfl⟩ : ∃ m, k = m + 2 := ⟨k - 2, by omega⟩
      simp only [impl_IsWithin.l0]
      rw [if_pos (by omega)]
      simp only [impl_IsWithin.j1]
      rw [if_neg (by simp; omega)]
      simp [withN, hlt]
      rw [Bool.eq_iff_iff]; simp; omega
theorem spec_l9Within_l (a b : ByteArray) (ha : a.size ≤ 140737488351232) (hb : b.size ≤ 140737488351232) : ∀ (d i j : Nat), j + d = b.size → i ≤ a.size →
    ∃ K, ∀ k, K ≤ k → spec_l9Within.l0 k a b (i : Int) (j : Int) = some (withN a b d i j) := by
  intro d
  induction d with
  | zero =>
    intro i j hj hi
    refine ⟨2, fun k hk => ?_⟩
    obtain ⟨k, rfl⟩ : ∃ m, k = m + 2 := ⟨k - 2, by omega⟩
    simp only [spec_l9Within.l0]
    rw [if_neg (by omega)]
    simp only [spec_l9Within.j1]
    simp [withN]
    rw [Bool.eq_iff_iff]; simp; omega
  | succ d ih =>
    intro i j hj hi
    by_cases hlt : i < a.size
    · obtain ⟨K, hK⟩ := ih (i + 1) (j + 1) (by omega) (by omega)
      obtain ⟨K', hK'⟩ := ih i (j + 1) (by omega) (by omega)
      refine ⟨max K K' + 2, fun k hk => ?_⟩
      obtain ⟨k, rfl⟩ : ∃ m, k = m + 2 := ⟨k - 2, by omega⟩
      simp only [spec_l9Within.l0]
      rw [if_pos (by omega)]
      simp only [spec_l9Within.j1]
      rw [if_pos (by simp; omega), if_pos (by omega), if_pos (by omega), if_pos (by omega), if_pos (by omega), w64 (by omega) (by omega), w64 (by omega) (by omega)]
      have h1 := hK k (by omega)
      have h2 := hK' k (by omega)
      simp only [Int.natCast_add, Int.cast_ofNat_Int] at h1 h2
      rw [h1, h2]
      by_cases h : bt a i = bt b j
      · simp [withN, hlt, h]
      · have h' : ¬ bt b j = bt a i := fun e => h e.symm
        simp [withN, hlt, h, h']
    · refine ⟨2, fun k hk => ?_⟩
      obtain ⟨k, rfl⟩ : ∃ m, k = m + 2 := ⟨k - 2, by omega⟩
      simp only [spec_l9Within.l0]
      rw [if_pos (by omega)]
      simp only [spec_l9Within.j1]
      rw [if_neg (by simp; omega)]
      simp [withN, hlt]
      rw [Bool.eq_iff_iff]; simp; omega
theorem FnExactIsWithin : laws_FnExactIsWithin.Pure := by
  intro a b ha hb
  obtain ⟨K1, h1⟩ := impl_IsWithin_l a b ha hb b.size 0 0 (by omega) (by omega)
  obtain ⟨K2, h2⟩ := spec_l9Within_l a b ha hb b.size 0 0 (by omega) (by omega)
  obtain ⟨K3, h3⟩ := impl_areTexts_ev a b ha hb
  obtain ⟨K4, h4⟩ := spec_l9Texts_ev a b ha hb
  refine ⟨max (max K1 K2) (max K3 K4), ?_⟩
  have e1 := h1 (max (max K1 K2) (max K3 K4)) (by omega)
  have e2 := h2 (max (max K1 K2) (max K3 K4)) (by omega)
  have e3 := h3 (max (max K1 K2) (max K3 K4)) (by omega)
  have e4 := h4 (max (max K1 K2) (max K3 K4)) (by omega)
  generalize max (max K1 K2) (max K3 K4) = k at *
  simp only [Int.cast_ofNat_Int] at e1 e2
  unfold laws_FnExactIsWithin.f spec_IsWithin.f impl_IsWithin.f spec_l9Within.f
  rw [e3, e4]
  simp only [Option.bind_some]
  cases textB a && textB b <;> simp [e1, e2]

end Go.Proofs.Ytnpnhdkchnfdlaa.Pure
