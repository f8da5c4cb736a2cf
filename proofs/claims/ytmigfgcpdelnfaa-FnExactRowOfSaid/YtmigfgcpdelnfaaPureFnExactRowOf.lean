/- RowOf of the program answers as the reference's, for all texts and places. -/
import Derived.Test.YtmigfgcpdelnfaaAFnExactRowOfx4
set_option linter.unusedVariables false
set_option linter.unusedSimpArgs false
namespace Go.Proofs.Ytmigfgcpdelnfaa.Pure
open Go.RowKit Go.Proofs.Ytmigfgcpdelnfaa.AFnExactRowOf Go.Proofs.YtmigfgcpdelnfaaW.PrintWords Go.Proofs.YtmigfgcpdelnfaaW.PrintLast Go.Proofs.YtmigfgcpdelnfaaW.PrintMore

theorem w64 {i : Int} (h0 : -4611686018427387904 ≤ i) (h : i ≤ 4611686018427387904) : wrap64 i = i := by
  unfold wrap64; omega

def nmB (c : Int) : Bool := decide (65 ≤ c) && decide (c ≤ 70)
def plB (c : Int) : Bool := (decide (97 ≤ c) && decide (c ≤ 122)) || ((decide (48 ≤ c) && decide (c ≤ 57)) || (decide (c = 32) || (decide (c = 46) || decide (c = 44))))
def okB (c : Int) : Bool := nmB c || (plB c || decide (c = 47))
def okN (s : ByteArray) : Nat → Nat → Bool
  | 0, _ => true
  | d + 1, i => okB (bt s i) && okN s d (i + 1)
def textB (s : ByteArray) : Bool := okN s s.size 0 && decide (s.size ≤ 300)

theorem textB_size {s : ByteArray} (h : textB s = true) : s.size ≤ 300 := by
  unfold textB at h; simp at h; exact h.2

theorem impl_isName_eq (c : Int) : impl_isName.f c = some (nmB c) := by
  unfold impl_isName.f nmB
  by_cases h1 : c ≥ 65 <;> simp [h1] <;> omega
theorem impl_isPlain_eq (c : Int) : impl_isPlain.f c = some (plB c) := by
  unfold impl_isPlain.f plB
  by_cases h1 : 97 ≤ c <;> by_cases h2 : c ≤ 122 <;> by_cases h3 : 48 ≤ c <;> by_cases h4 : c ≤ 57 <;> by_cases h5 : c = 32 <;> by_cases h6 : c = 46 <;> simp [h1, h2, h3, h4, h5, h6] <;> rfl
theorem impl_GoodText_l (s : ByteArray) (hs : s.size ≤ 140737488351232) : ∀ (d i : Nat), i + d = s.size →
    ∃ K, ∀ k, K ≤ k → impl_GoodText.l0 k s (s.size : Int) (i : Int) = some (okN s d i && decide (s.size ≤ 300)) := by
  intro d
  induction d with
  | zero =>
    intro i hi
    refine ⟨1, fun k hk => ?_⟩
    obtain ⟨k, rfl⟩ : ∃ m, k = m + 1 := ⟨k - 1, by omega⟩
    simp only [impl_GoodText.l0]
    rw [if_neg (by omega)]
    simp [okN]
    omega
  | succ d ih =>
    intro i hi
    obtain ⟨K, hK⟩ := ih (i + 1) (by omega)
    refine ⟨K + 1, fun k hk => ?_⟩
    obtain ⟨k, rfl⟩ : ∃ m, k = m + 1 := ⟨k - 1, by omega⟩
    have hr := hK k (by omega)
    simp only [impl_GoodText.l0]
    rw [if_pos (by omega), if_pos (by omega), if_pos (by omega), impl_isName_eq, Option.bind_some, impl_isPlain_eq, Option.bind_some, w64 (by omega) (by omega)]
    have hc : ((i : Int) + 1) = ((i + 1 : Nat) : Int) := by omega
    rw [hc, hr]
    show _ = some ((okB (bt s i) && okN s d (i + 1)) && _)
    unfold okB
    cases nmB (bt s i) <;> cases plB (bt s i) <;> by_cases h : bt s i = 47 <;> simp [h]
theorem impl_GoodText_ev (s : ByteArray) (hs : s.size ≤ 140737488351232) : ∃ K, ∀ k, K ≤ k → impl_GoodText.f k s = some (textB s) := by
  obtain ⟨K, hK⟩ := impl_GoodText_l s hs s.size 0 (by omega)
  exact ⟨K, fun k hk => by unfold impl_GoodText.f; exact hK k hk⟩

theorem spec_l1Open_eq (c : Int) : spec_l1Open.f c = some (nmB c) := by
  unfold spec_l1Open.f nmB
  by_cases h1 : c ≥ 65 <;> simp [h1] <;> omega
theorem spec_l1Plain_eq (c : Int) : spec_l1Plain.f c = some (plB c) := by
  unfold spec_l1Plain.f plB
  by_cases h1 : 97 ≤ c <;> by_cases h2 : c ≤ 122 <;> by_cases h3 : 48 ≤ c <;> by_cases h4 : c ≤ 57 <;> by_cases h5 : c = 32 <;> by_cases h6 : c = 46 <;> simp [h1, h2, h3, h4, h5, h6] <;> rfl
theorem spec_l1Text_l (s : ByteArray) (hs : s.size ≤ 140737488351232) : ∀ (d i : Nat), i + d = s.size →
    ∃ K, ∀ k, K ≤ k → spec_l1Text.l0 k s (i : Int) = some (okN s d i) := by
  intro d
  induction d with
  | zero =>
    intro i hi
    refine ⟨1, fun k hk => ?_⟩
    obtain ⟨k, rfl⟩ : ∃ m, k = m + 1 := ⟨k - 1, by omega⟩
    simp only [spec_l1Text.l0]
    rw [if_neg (by omega)]
    simp [okN]
  | succ d ih =>
    intro i hi
    obtain ⟨K, hK⟩ := ih (i + 1) (by omega)
    refine ⟨K + 1, fun k hk => ?_⟩
    obtain ⟨k, rfl⟩ : ∃ m, k = m + 1 := ⟨k - 1, by omega⟩
    have hr := hK k (by omega)
    simp only [spec_l1Text.l0]
    rw [if_pos (by omega), if_pos (by omega), spec_l1Open_eq, Option.bind_some, spec_l1Plain_eq, Option.bind_some, w64 (by omega) (by omega)]
    have hc : ((i : Int) + 1) = ((i + 1 : Nat) : Int) := by omega
    rw [hc, hr]
    show _ = some (okB (bt s i) && okN s d (i + 1))
    unfold okB
    cases nmB (bt s i) <;> cases plB (bt s i) <;> by_cases h : bt s i = 47 <;> simp [h]
theorem spec_GoodText_ev (s : ByteArray) (hs : s.size ≤ 140737488351232) : ∃ K, ∀ k, K ≤ k → spec_GoodText.f k s = some (textB s) := by
  obtain ⟨K, hK⟩ := spec_l1Text_l s hs s.size 0 (by omega)
  refine ⟨K, fun k hk => ?_⟩
  have h := hK k hk
  unfold spec_GoodText.f spec_l1Text.f
  simp only [Int.cast_ofNat_Int] at h
  rw [h, Option.bind_some]
  unfold textB
  cases okN s s.size 0 <;> simp <;> omega

theorem toList_data (s : ByteArray) : s.toList = s.data.toList := by
  have h : ∀ (n i : Nat) (r : List UInt8), s.size - i = n → ByteArray.toList.loop s i r = r.reverse ++ s.data.toList.drop i := by
    intro n
    induction n with
    | zero =>
      intro i r h
      unfold ByteArray.toList.loop
      rw [if_neg (by omega), List.drop_of_length_le (by rw [Array.length_toList]; show s.size ≤ i; omega)]; simp
    | succ n ih =>
      intro i r h
      have hi : i < s.size := by omega
      unfold ByteArray.toList.loop
      have e2 : s.data.toList.drop i = s.data.toList[i]'(by rw [Array.length_toList]; exact hi) :: s.data.toList.drop (i + 1) := List.drop_eq_getElem_cons (by rw [Array.length_toList]; exact hi)
      have e : s.get! i = s.data.toList[i]'(by rw [Array.length_toList]; exact hi) := by
        show s.data[i]! = _
        rw [getElem!_pos s.data i hi]; simp
      rw [if_pos hi, ih (i + 1) _ (by omega), e2, e, List.reverse_cons, List.append_assoc]; rfl
  unfold ByteArray.toList
  rw [h s.size 0 [] (by omega)]; simp
theorem bt_data (s : ByteArray) (i : Nat) (h : i < s.size) : bt s (i : Int) = ((s.data.toList[i]'(by rw [Array.length_toList]; exact h)).toNat : Int) := by
  unfold bt
  rw [dif_pos (by omega)]
  simp [ByteArray.getElem_eq_getElem_data]
theorem toList_eq_iff (a b : ByteArray) : a.toList = b.toList ↔ a.size = b.size ∧ ∀ j : Nat, j < a.size → bt a (j : Int) = bt b (j : Int) := by
  rw [toList_data, toList_data]
  constructor
  · intro h
    have hl : a.size = b.size := by
      have := congrArg List.length h
      rw [Array.length_toList, Array.length_toList] at this; exact this
    refine ⟨hl, fun j hj => ?_⟩
    rw [bt_data a j hj, bt_data b j (by omega)]
    simp only [h]
  · intro ⟨hl, h⟩
    apply List.ext_getElem
    · rw [Array.length_toList, Array.length_toList]; exact hl
    · intro j h1 h2
      rw [Array.length_toList] at h1 h2
      have := h j h1
      rw [bt_data a j h1, bt_data b j h2] at this
      have h3 : (a.data.toList[j]'(by rw [Array.length_toList]; exact h1)).toNat = (b.data.toList[j]'(by rw [Array.length_toList]; exact h2)).toNat := by omega
      exact UInt8.toNat_inj.mp h3
theorem bt_extract (s : ByteArray) (i j n : Nat) (hj : j ≤ s.size) (hn : i + n < j) : bt (s.extract i j) (n : Int) = bt s ((i + n : Nat) : Int) := by
  have h1 : n < (s.extract i j).size := by rw [ByteArray.size_extract]; omega
  unfold bt
  rw [dif_pos (by simpa using h1), dif_pos (by omega)]
  simp only [Int.toNat_natCast, ByteArray.getElem_extract]

theorem ba_of_toList {a b : ByteArray} (h : a.toList = b.toList) : a = b := by
  rw [toList_data, toList_data] at h
  apply ByteArray.ext
  exact Array.toList_inj.mp h

/-! documents: how deep a place lies, and which beginning belongs to which end -/
def dst (c : Int) : Int := if nmB c = true then 1 else if c = 47 then -1 else 0
def dp (s : ByteArray) : Nat → Int
  | 0 => 0
  | i + 1 => dp s i + dst (bt s (i : Int))
def Mate (s : ByteArray) (a b : Nat) : Prop := a < b ∧ b < s.size ∧ nmB (bt s (a : Int)) = true ∧ bt s (b : Int) = 47 ∧ dp s (b + 1) = dp s a ∧ ∀ j, a < j → j ≤ b → dp s a < dp s j
def Bal (s : ByteArray) : Prop := (∀ j, j ≤ s.size → 0 ≤ dp s j ∧ dp s j ≤ 12) ∧ dp s s.size = 0
theorem nmB_47 : nmB 47 = false := rfl
theorem dp_open {s : ByteArray} {i : Nat} (h : nmB (bt s (i : Int)) = true) : dp s (i + 1) = dp s i + 1 := by
  show dp s i + dst _ = _
  unfold dst; rw [if_pos h]
theorem dp_close {s : ByteArray} {i : Nat} (h : bt s (i : Int) = 47) : dp s (i + 1) = dp s i - 1 := by
  show dp s i + dst _ = _
  unfold dst; rw [h, nmB_47, if_neg (by simp), if_pos rfl]; rfl
theorem dp_else {s : ByteArray} {i : Nat} (h : nmB (bt s (i : Int)) = false) (h2 : bt s (i : Int) ≠ 47) : dp s (i + 1) = dp s i := by
  show dp s i + dst _ = _
  unfold dst; rw [h, if_neg (by simp), if_neg h2]; omega
theorem dp_step (s : ByteArray) (i : Nat) : dp s (i + 1) ≤ dp s i + 1 ∧ dp s i - 1 ≤ dp s (i + 1) := by
  show dp s i + dst _ ≤ _ ∧ _ ≤ dp s i + dst _
  unfold dst
  split
  · omega
  · split <;> omega
theorem Mate.right {s : ByteArray} {a b b' : Nat} (h : Mate s a b) (h' : Mate s a b') : b = b' := by
  obtain ⟨h1, _, _, _, h2, h3⟩ := h
  obtain ⟨k1, _, _, _, k2, k3⟩ := h'
  by_cases e : b = b'
  · exact e
  · exfalso
    by_cases l : b < b'
    · have := k3 (b + 1) (by omega) (by omega); omega
    · have := h3 (b' + 1) (by omega) (by omega); omega
theorem Mate.left {s : ByteArray} {a a' b : Nat} (h : Mate s a b) (h' : Mate s a' b) : a = a' := by
  obtain ⟨h1, _, _, _, h2, h3⟩ := h
  obtain ⟨k1, _, _, _, k2, k3⟩ := h'
  by_cases e : a = a'
  · exact e
  · exfalso
    by_cases l : a < a'
    · have := h3 a' (by omega) (by omega); omega
    · have := k3 a (by omega) (by omega); omega
theorem mate_ex_ {s : ByteArray} (hb : Bal s) {a : Nat} (ho : nmB (bt s (a : Int)) = true) (ha : a < s.size) : ∀ (d i : Nat), i + d = s.size → a < i → (∀ j, a < j → j ≤ i → dp s a < dp s j) → ∃ b, Mate s a b := by
  intro d
  induction d with
  | zero =>
    intro i hi hai h
    obtain rfl : i = s.size := by omega
    have h1 := h s.size hai (Nat.le_refl _)
    have h2 := (hb.1 a (by omega)).1
    have h3 := hb.2
    omega
  | succ d ih =>
    intro i hi hai h
    have hs := dp_step s i
    have hi0 := h i hai (Nat.le_refl _)
    by_cases e : dp s (i + 1) = dp s a
    · refine ⟨i, hai, by omega, ho, ?_, e, h⟩
      cases hn : nmB (bt s (i : Int)) with
      | true => have := dp_open hn; omega
      | false =>
        by_cases h47 : bt s (i : Int) = 47
        · exact h47
        · have := dp_else hn h47; omega
    · exact ih (i + 1) (by omega) (by omega) (fun j h1 h2 => by
        by_cases ej : j = i + 1
        · subst ej; omega
        · exact h j h1 (by omega))
theorem mate_ex {s : ByteArray} (hb : Bal s) {a : Nat} (ho : nmB (bt s (a : Int)) = true) (ha : a < s.size) : ∃ b, Mate s a b :=
  mate_ex_ hb ho ha (s.size - (a + 1)) (a + 1) (by omega) (by omega) (fun j h1 h2 => by
    obtain rfl : j = a + 1 := by omega
    have := dp_open ho; omega)
theorem mate_exl_ {s : ByteArray} (hb : Bal s) {b : Nat} (hc : bt s (b : Int) = 47) (hbs : b < s.size) : ∀ (d i : Nat), i = d → i ≤ b → (∀ j, i < j → j ≤ b → dp s (b + 1) < dp s j) → dp s (b + 1) < dp s i ∨ (dp s i = dp s (b + 1) ∧ i < b) → ∃ a, Mate s a b := by
  intro d
  induction d with
  | zero =>
    intro i hi hib h hh
    subst hi
    have h0 := (hb.1 (b + 1) (by omega)).1
    rcases hh with hh | ⟨hh, hlt⟩
    · exfalso
      have : dp s 0 = 0 := rfl
      omega
    · have h1 := h 1 (by omega) (by omega)
      have hs := dp_step s 0
      refine ⟨0, hlt, hbs, ?_, hc, hh.symm, fun j h2 h3 => by rw [hh]; exact h j h2 h3⟩
      cases hn : nmB (bt s ((0 : Nat) : Int)) with
      | true => rfl
      | false =>
        by_cases h47 : bt s ((0 : Nat) : Int) = 47
        · have := dp_close h47; simp only [Nat.zero_add] at this; omega
        · have := dp_else hn h47; simp only [Nat.zero_add] at this; omega
  | succ d ih =>
    intro i hi hib h hh
    subst hi
    rcases hh with hh | ⟨hh, hlt⟩
    · have hs := dp_step s d
      refine ih d rfl (by omega) (fun j h1 h2 => ?_) ?_
      · by_cases ej : j = d + 1
        · subst ej; exact hh
        · exact h j (by omega) h2
      · by_cases e : dp s d = dp s (b + 1)
        · exact .inr ⟨e, by omega⟩
        · exact .inl (by omega)
    · have h1 := h (d + 1 + 1) (by omega) (by omega)
      have hs := dp_step s (d + 1)
      refine ⟨d + 1, hlt, hbs, ?_, hc, hh.symm, fun j h2 h3 => by rw [hh]; exact h j h2 h3⟩
      cases hn : nmB (bt s ((d + 1 : Nat) : Int)) with
      | true => rfl
      | false =>
        by_cases h47 : bt s ((d + 1 : Nat) : Int) = 47
        · have := dp_close h47; omega
        · have := dp_else hn h47; omega
theorem mate_exl {s : ByteArray} (hb : Bal s) {b : Nat} (hc : bt s (b : Int) = 47) (hbs : b < s.size) : ∃ a, Mate s a b :=
  mate_exl_ hb hc hbs b b rfl (Nat.le_refl _) (fun j h1 h2 => by omega) (.inl (by have := dp_close hc; omega))
/-- A part of a text that lies between two places of one depth, and not below it, is balanced. -/
theorem dp_extract (s : ByteArray) (a b : Nat) (hb : b ≤ s.size) : ∀ i, a + i ≤ b → dp (s.extract a b) i = dp s (a + i) - dp s a := by
  intro i
  induction i with
  | zero => intro h; show 0 = _; simp
  | succ i ih =>
    intro h
    have e := bt_extract s a b i hb (by omega)
    show dp (s.extract a b) i + dst (bt (s.extract a b) (i : Int)) = (dp s (a + i) + dst (bt s ((a + i : Nat) : Int))) - dp s a
    rw [ih (by omega), e]
    omega
theorem bal_extract {s : ByteArray} {a b : Nat} (hab : a ≤ b) (hb : b ≤ s.size) (he : dp s b = dp s a) (h : ∀ j, a ≤ j → j ≤ b → dp s a ≤ dp s j ∧ dp s j ≤ dp s a + 12) : Bal (s.extract a b) := by
  have hz : (s.extract a b).size = b - a := by rw [ByteArray.size_extract]; omega
  constructor
  · intro j hj
    rw [hz] at hj
    rw [dp_extract s a b hb j (by omega)]
    have := h (a + j) (by omega) (by omega)
    omega
  · rw [hz, dp_extract s a b hb (b - a) (by omega), show a + (b - a) = b by omega]
    omega
theorem bal_inner {s : ByteArray} (hb : Bal s) {a b : Nat} (hm : Mate s a b) : Bal (s.extract (a + 1) b) := by
  obtain ⟨h1, h2, h3, h4, h5, h6⟩ := hm
  have e1 := dp_open h3
  have e2 := dp_close h4
  refine bal_extract (by omega) (by omega) (by omega) (fun j g1 g2 => ?_)
  have := h6 j (by omega) g2
  have := hb.1 j (by omega)
  have := hb.1 a (by omega)
  omega
theorem okN_at {s : ByteArray} : ∀ (d i : Nat), okN s d i = true → ∀ j, i ≤ j → j < i + d → okB (bt s (j : Int)) = true := by
  intro d
  induction d with
  | zero => intro i h j h1 h2; omega
  | succ d ih =>
    intro i h j h1 h2
    unfold okN at h
    rw [Bool.and_eq_true] at h
    by_cases e : j = i
    · subst e; exact h.1
    · exact ih (i + 1) h.2 j (by omega) (by omega)
theorem okN_of {s : ByteArray} : ∀ (d i : Nat), (∀ j, i ≤ j → j < i + d → okB (bt s (j : Int)) = true) → okN s d i = true := by
  intro d
  induction d with
  | zero => intro i h; rfl
  | succ d ih =>
    intro i h
    unfold okN
    rw [Bool.and_eq_true]
    exact ⟨h i (by omega) (by omega), ih (i + 1) (fun j h1 h2 => h j (by omega) (by omega))⟩
theorem textB_at {s : ByteArray} (h : textB s = true) (j : Nat) (hj : j < s.size) : okB (bt s (j : Int)) = true := by
  unfold textB at h
  rw [Bool.and_eq_true] at h
  exact okN_at s.size 0 h.1 j (by omega) (by omega)
theorem textB_of {s : ByteArray} (h : ∀ j, j < s.size → okB (bt s (j : Int)) = true) (hs : s.size ≤ 300) : textB s = true := by
  unfold textB
  rw [Bool.and_eq_true]
  exact ⟨okN_of s.size 0 (fun j _ hj => h j (by omega)), by simpa using hs⟩
theorem textB_extract {s : ByteArray} (h : textB s = true) (a b : Nat) (hb : b ≤ s.size) : textB (s.extract a b) = true := by
  have hz := textB_size h
  have hz2 : (s.extract a b).size = b - a := by rw [ByteArray.size_extract]; omega
  refine textB_of (fun j hj => ?_) (by omega)
  rw [bt_extract s a b j hb (by omega)]
  exact textB_at h _ (by omega)

/-! what 'matches' reckons -/
theorem nmH_nmB (c : Int) : nmH c = nmB c := by
  unfold nmH; rw [impl_isName_eq]; rfl
structure Inv (s : ByteArray) (i : Nat) (st : List Int) (m : List (Int × Int)) : Prop where
  len : (st.length : Int) = dp s i
  stk : ∀ t, t < st.length → ∃ p : Nat, rd st (t : Int) = (p : Int) ∧ p < i ∧ nmB (bt s (p : Int)) = true ∧ dp s p = (t : Int) ∧ ∀ j, p < j → j ≤ i → (t : Int) < dp s j
  bd : ∀ j, j ≤ i → 0 ≤ dp s j ∧ dp s j ≤ 12
  lks : ∀ a b : Int, lk m a = some b ↔ ∃ p q : Nat, Mate s p q ∧ q < i ∧ ((a = (p : Int) ∧ b = (q : Int)) ∨ (a = (q : Int) ∧ b = (p : Int)))
theorem rd_app_left (xs ys : List Int) (t : Nat) (h : t < xs.length) : rd (xs ++ ys) (t : Int) = rd xs (t : Int) := by
  unfold rd
  rw [Int.toNat_natCast, List.getD_eq_getElem?_getD, List.getD_eq_getElem?_getD, List.getElem?_append_left h]
theorem rd_app_one (xs : List Int) (x : Int) : rd (xs ++ [x]) (xs.length : Int) = x := by
  unfold rd
  rw [Int.toNat_natCast, List.getD_eq_getElem?_getD, List.getElem?_append_right (Nat.le_refl _)]
  simp
theorem rd_take (xs : List Int) (n t : Nat) (h : t < n) : rd (xs.take n) (t : Int) = rd xs (t : Int) := by
  unfold rd
  rw [Int.toNat_natCast, List.getD_eq_getElem?_getD, List.getD_eq_getElem?_getD, List.getElem?_take_of_lt h]
theorem Inv.start (s : ByteArray) : Inv s 0 [] [] := by
  refine ⟨rfl, fun t h => by simp at h, fun j h => ?_, fun a b => ⟨fun h => (by cases h), fun ⟨p, q, _, h, _⟩ => (by omega)⟩⟩
  obtain rfl : j = 0 := by omega
  show 0 ≤ (0 : Int) ∧ (0 : Int) ≤ 12
  omega
theorem Inv.bd_next {s : ByteArray} {i : Nat} {st : List Int} {m : List (Int × Int)} (h : Inv s i st m) (h0 : 0 ≤ dp s (i + 1)) (h1 : dp s (i + 1) ≤ 12) : ∀ j, j ≤ i + 1 → 0 ≤ dp s j ∧ dp s j ≤ 12 := by
  intro j hj
  by_cases e : j = i + 1
  · subst e; exact ⟨h0, h1⟩
  · exact h.bd j (by omega)
theorem Inv.lks_next {s : ByteArray} {i : Nat} {st : List Int} {m : List (Int × Int)} (h : Inv s i st m) (hn : bt s (i : Int) ≠ 47) : ∀ a b : Int, lk m a = some b ↔ ∃ p q : Nat, Mate s p q ∧ q < i + 1 ∧ ((a = (p : Int) ∧ b = (q : Int)) ∨ (a = (q : Int) ∧ b = (p : Int))) := by
  intro a b
  rw [h.lks a b]
  constructor
  · rintro ⟨p, q, h1, h2, h3⟩; exact ⟨p, q, h1, by omega, h3⟩
  · rintro ⟨p, q, h1, h2, h3⟩
    refine ⟨p, q, h1, ?_, h3⟩
    have h4 := h1.2.2.2.1
    by_cases e : q = i
    · subst e; exact absurd h4 hn
    · omega
theorem Inv.opens {s : ByteArray} {i : Nat} {st : List Int} {m : List (Int × Int)} (h : Inv s i st m) (ho : nmB (bt s (i : Int)) = true) (hl : st.length + 1 ≤ 12) : Inv s (i + 1) (st ++ [(i : Int)]) m := by
  have e := dp_open ho
  have hlen := h.len
  have h47 : bt s (i : Int) ≠ 47 := fun x => by rw [x, nmB_47] at ho; cases ho
  refine ⟨?_, ?_, h.bd_next (by omega) (by omega), h.lks_next h47⟩
  · rw [List.length_append, List.length_singleton]; omega
  · intro t ht
    rw [List.length_append, List.length_singleton] at ht
    by_cases et : t = st.length
    · subst et
      refine ⟨i, rd_app_one st _, by omega, ho, by omega, fun j h1 h2 => ?_⟩
      obtain rfl : j = i + 1 := by omega
      omega
    · obtain ⟨p, h1, h2, h3, h4, h5⟩ := h.stk t (by omega)
      refine ⟨p, by rw [rd_app_left st _ t (by omega)]; exact h1, by omega, h3, h4, fun j g1 g2 => ?_⟩
      by_cases ej : j = i + 1
      · subst ej; omega
      · exact h5 j g1 (by omega)
theorem Inv.plain {s : ByteArray} {i : Nat} {st : List Int} {m : List (Int × Int)} (h : Inv s i st m) (hn : nmB (bt s (i : Int)) = false) (h47 : bt s (i : Int) ≠ 47) : Inv s (i + 1) st m := by
  have e := dp_else hn h47
  have hlen := h.len
  have hb := h.bd i (Nat.le_refl _)
  refine ⟨by omega, ?_, h.bd_next (by omega) (by omega), h.lks_next h47⟩
  intro t ht
  obtain ⟨p, h1, h2, h3, h4, h5⟩ := h.stk t ht
  refine ⟨p, h1, by omega, h3, h4, fun j g1 g2 => ?_⟩
  by_cases ej : j = i + 1
  · subst ej; omega
  · exact h5 j g1 (by omega)
theorem lk_cons2 (m : List (Int × Int)) (p i a : Int) : lk ((p, i) :: (i, p) :: m) a = if p = a then some i else if i = a then some p else lk m a := rfl
theorem Inv.closes {s : ByteArray} {i : Nat} {st : List Int} {m : List (Int × Int)} (h : Inv s i st m) (hi : i < s.size) (h47 : bt s (i : Int) = 47) (hl : st.length ≠ 0) :
    Inv s (i + 1) (st.take (st.length - 1)) ((rd st ((st.length : Int) - 1), (i : Int)) :: ((i : Int), rd st ((st.length : Int) - 1)) :: m) := by
  have e := dp_close h47
  have hlen := h.len
  obtain ⟨p, h1, h2, h3, h4, h5⟩ := h.stk (st.length - 1) (by omega)
  have hc : (((st.length - 1 : Nat)) : Int) = (st.length : Int) - 1 := by omega
  rw [hc] at h1 h4 h5
  rw [h1]
  have hb := h.bd i (Nat.le_refl _)
  have hM : Mate s p i := ⟨h2, hi, h3, h47, by omega, fun j g1 g2 => by have := h5 j g1 g2; omega⟩
  refine ⟨?_, ?_, h.bd_next (by omega) (by omega), ?_⟩
  · rw [List.length_take]; omega
  · intro t ht
    rw [List.length_take] at ht
    obtain ⟨p', k1, k2, k3, k4, k5⟩ := h.stk t (by omega)
    refine ⟨p', by rw [rd_take st _ t (by omega)]; exact k1, by omega, k3, k4, fun j g1 g2 => ?_⟩
    by_cases ej : j = i + 1
    · subst ej; omega
    · exact k5 j g1 (by omega)
  · intro a b
    rw [lk_cons2]
    constructor
    · intro hh
      by_cases ea : (p : Int) = a
      · rw [if_pos ea] at hh
        obtain rfl := Option.some.inj hh
        exact ⟨p, i, hM, by omega, .inl ⟨ea.symm, rfl⟩⟩
      · rw [if_neg ea] at hh
        by_cases eb : (i : Int) = a
        · rw [if_pos eb] at hh
          obtain rfl := Option.some.inj hh
          exact ⟨p, i, hM, by omega, .inr ⟨eb.symm, rfl⟩⟩
        · rw [if_neg eb] at hh
          obtain ⟨p', q', g1, g2, g3⟩ := (h.lks a b).1 hh
          exact ⟨p', q', g1, by omega, g3⟩
    · rintro ⟨p', q', g1, g2, g3⟩
      by_cases eq : q' = i
      · subst eq
        obtain rfl := g1.left hM
        rcases g3 with ⟨rfl, rfl⟩ | ⟨rfl, rfl⟩
        · rw [if_pos rfl]
        · rw [if_neg (by omega), if_pos rfl]
      · have hold := (h.lks a b).2 ⟨p', q', g1, by omega, g3⟩
        have g4 := g1.1
        have gp : bt s (p' : Int) ≠ 47 := fun x => by have := g1.2.2.1; rw [x, nmB_47] at this; cases this
        have gq := g1.2.2.2.1
        rcases g3 with ⟨rfl, rfl⟩ | ⟨rfl, rfl⟩
        · rw [if_neg (fun x => by
            have : p = p' := by omega
            subst this
            exact eq (g1.right hM)), if_neg (by omega)]
          exact hold
        · rw [if_neg (fun x => by
            have : p = q' := by omega
            subst this
            rw [gq, nmB_47] at h3; cases h3), if_neg (by omega)]
          exact hold
theorem mtc_spec (s : ByteArray) : ∀ (d i : Nat) (st : List Int) (m : List (Int × Int)), i + d = s.size → Inv s i st m →
    ((mtc s d i st m).2 = true ↔ Bal s) ∧ ((mtc s d i st m).2 = true → ∀ a b : Int, lk (mtc s d i st m).1 a = some b ↔ ∃ p q : Nat, Mate s p q ∧ ((a = (p : Int) ∧ b = (q : Int)) ∨ (a = (q : Int) ∧ b = (p : Int)))) := by
  intro d
  induction d with
  | zero =>
    intro i st m hi h
    obtain rfl : i = s.size := by omega
    have hlen := h.len
    refine ⟨?_, fun _ a b => ?_⟩
    · show decide (st.length = 0) = true ↔ _
      rw [decide_eq_true_iff]
      exact ⟨fun e => ⟨h.bd, by omega⟩, fun e => by have := e.2; omega⟩
    · show lk m a = some b ↔ _
      rw [h.lks a b]
      exact ⟨fun ⟨p, q, h1, _, h3⟩ => ⟨p, q, h1, h3⟩, fun ⟨p, q, h1, h3⟩ => ⟨p, q, h1, h1.2.1, h3⟩⟩
  | succ d ih =>
    intro i st m hi h
    have hlen := h.len
    unfold mtc
    rw [nmH_nmB]
    cases ho : nmB (bt s (i : Int)) with
    | true =>
      rw [if_pos rfl]
      have e := dp_open ho
      by_cases hl : 12 < st.length + 1
      · rw [if_pos hl]
        exact ⟨⟨fun x => (by cases x), fun x => (by have := x.1 (i + 1) (by omega); omega)⟩, fun x => (by cases x)⟩
      · rw [if_neg hl]
        exact ih (i + 1) _ _ (by omega) (h.opens ho (by omega))
    | false =>
      rw [if_neg (by simp)]
      by_cases h47 : bt s (i : Int) = 47
      · rw [if_pos h47]
        have e := dp_close h47
        by_cases hl : st.length = 0
        · rw [if_pos hl]
          exact ⟨⟨fun x => (by cases x), fun x => (by have := x.1 (i + 1) (by omega); omega)⟩, fun x => (by cases x)⟩
        · rw [if_neg hl]
          exact ih (i + 1) _ _ (by omega) (h.closes (by omega) h47 hl)
      · rw [if_neg h47]
        exact ih (i + 1) _ _ (by omega) (h.plain ho h47)
def balB (s : ByteArray) : Bool := (mtc s s.size 0 [] []).2
def docB (s : ByteArray) : Bool := textB s && balB s
theorem balB_iff (s : ByteArray) : balB s = true ↔ Bal s := (mtc_spec s s.size 0 [] [] (by omega) (Inv.start s)).1
theorem mtc_lk {s : ByteArray} (h : balB s = true) (a b : Int) : lk (mtc s s.size 0 [] []).1 a = some b ↔ ∃ p q : Nat, Mate s p q ∧ ((a = (p : Int) ∧ b = (q : Int)) ∨ (a = (q : Int) ∧ b = (p : Int))) :=
  (mtc_spec s s.size 0 [] [] (by omega) (Inv.start s)).2 h a b
theorem docB_iff (s : ByteArray) : docB s = true ↔ textB s = true ∧ Bal s := by
  unfold docB; rw [Bool.and_eq_true, balB_iff]
theorem impl_matches_ev (s : ByteArray) (hs : s.size ≤ 140737488351232) : ∃ K, ∀ k, K ≤ k → impl_matches.f k s = some (if textB s = true then mtc s s.size 0 [] [] else ([], false)) := by
  obtain ⟨K, hK⟩ := impl_GoodText_ev s hs
  refine ⟨K, fun k hk => ?_⟩
  unfold impl_matches.f
  rw [hK k hk, Option.bind_some]
  cases ht : textB s with
  | false => simp
  | true => have := textB_size ht; rw [if_pos rfl, if_pos rfl, if_pos this]
theorem impl_GoodDoc_ev (s : ByteArray) (hs : s.size ≤ 140737488351232) : ∃ K, ∀ k, K ≤ k → impl_GoodDoc.f k s = some (docB s) := by
  obtain ⟨K, hK⟩ := impl_matches_ev s hs
  refine ⟨K, fun k hk => ?_⟩
  unfold impl_GoodDoc.f docB
  rw [hK k hk, Option.bind_some]
  cases textB s <;> rfl
theorem impl_MatchOf_no (s : ByteArray) (hs : s.size ≤ 140737488351232) (a : Int) (hw : (Lit.int .i64 a).wf = true) (h : docB s = false) : ∃ K, ∀ k, K ≤ k → impl_MatchOf.f k s a = some (0, false) := by
  obtain ⟨K, hK⟩ := impl_matches_ev s hs
  refine ⟨K, fun k hk => ?_⟩
  unfold impl_MatchOf.f
  rw [hK k hk, if_pos hw, Option.bind_some]
  unfold docB at h
  cases ht : textB s with
  | false => simp
  | true =>
    rw [ht, Bool.true_and] at h
    unfold balB at h
    rw [if_pos rfl, h]
    simp
theorem impl_MatchOf_yes (s : ByteArray) (hs : s.size ≤ 140737488351232) (a : Int) (hw : (Lit.int .i64 a).wf = true) (h : docB s = true) : ∃ o : Option Int, (∀ b, o = some b ↔ ∃ p q : Nat, Mate s p q ∧ ((a = (p : Int) ∧ b = (q : Int)) ∨ (a = (q : Int) ∧ b = (p : Int)))) ∧ ∃ K, ∀ k, K ≤ k → impl_MatchOf.f k s a = some (o.getD 0, o.isSome) := by
  obtain ⟨K, hK⟩ := impl_matches_ev s hs
  unfold docB at h
  rw [Bool.and_eq_true] at h
  refine ⟨lk (mtc s s.size 0 [] []).1 a, fun b => mtc_lk h.2 a b, K, fun k hk => ?_⟩
  have h2 := h.2
  unfold balB at h2
  unfold impl_MatchOf.f
  rw [hK k hk, if_pos hw, Option.bind_some, h.1, if_pos rfl, h2, if_pos rfl]

/-! the reference's documents -/
theorem natS (i : Nat) : ((i : Int) + 1) = ((i + 1 : Nat) : Int) := by omega
theorem balanced_l (s : ByteArray) (hs : s.size ≤ 140737488351232) : ∀ (d i : Nat), i + d = s.size → (∀ j, j ≤ i → 0 ≤ dp s j ∧ dp s j ≤ 12) →
    ∃ B : Bool, (B = true ↔ Bal s) ∧ ∃ K, ∀ k, K ≤ k → spec_l1Balanced.l0 k s (dp s i) (i : Int) = some B := by
  intro d
  induction d with
  | zero =>
    intro i hi hb
    obtain rfl : i = s.size := by omega
    refine ⟨(dp s s.size == 0), ?_, 1, fun k hk => ?_⟩
    · rw [beq_iff_eq]; exact ⟨fun e => ⟨hb, e⟩, fun e => e.2⟩
    · obtain ⟨k, rfl⟩ : ∃ m, k = m + 1 := ⟨k - 1, by omega⟩
      simp only [spec_l1Balanced.l0]
      rw [if_neg (by omega)]
  | succ d ih =>
    intro i hi hb
    have hbi := hb i (Nat.le_refl _)
    have hst := dp_step s i
    by_cases hin : 0 ≤ dp s (i + 1) ∧ dp s (i + 1) ≤ 12
    · obtain ⟨B, hB, K, hK⟩ := ih (i + 1) (by omega) (fun j hj => by
        by_cases e : j = i + 1
        · subst e; exact hin
        · exact hb j (by omega))
      refine ⟨B, hB, K + 2, fun k hk => ?_⟩
      obtain ⟨k, rfl⟩ : ∃ m, k = m + 2 := ⟨k - 2, by omega⟩
      have hr := hK k (by omega)
      simp only [spec_l1Balanced.l0]
      rw [if_pos (by omega), if_pos (by omega), spec_l1Open_eq, Option.bind_some]
      cases ho : nmB (bt s (i : Int)) with
      | true =>
        have e := dp_open ho
        have h47 : bt s (i : Int) ≠ 47 := fun x => by rw [x, nmB_47] at ho; cases ho
        rw [if_pos rfl]
        simp only [spec_l1Balanced.j1]
        rw [if_pos (by omega), if_pos (by omega), if_neg h47, w64 (by omega) (by omega), if_neg (by omega), if_neg (by omega), w64 (by omega) (by omega), ← e, natS]
        exact hr
      | false =>
        rw [if_neg (by simp)]
        simp only [spec_l1Balanced.j1]
        by_cases h47 : bt s (i : Int) = 47
        · have e := dp_close h47
          rw [if_pos (by omega), if_pos (by omega), if_pos h47, w64 (by omega) (by omega), if_neg (by omega), if_neg (by omega), w64 (by omega) (by omega), ← e, natS]
          exact hr
        · have e := dp_else ho h47
          rw [if_pos (by omega), if_pos (by omega), if_neg h47, if_neg (by omega), if_neg (by omega), w64 (by omega) (by omega), ← e, natS]
          exact hr
    · refine ⟨false, ⟨fun x => (by cases x), fun x => absurd (x.1 (i + 1) (by omega)) hin⟩, 2, fun k hk => ?_⟩
      obtain ⟨k, rfl⟩ : ∃ m, k = m + 2 := ⟨k - 2, by omega⟩
      simp only [spec_l1Balanced.l0]
      rw [if_pos (by omega), if_pos (by omega), spec_l1Open_eq, Option.bind_some]
      cases ho : nmB (bt s (i : Int)) with
      | true =>
        have e := dp_open ho
        have h47 : bt s (i : Int) ≠ 47 := fun x => by rw [x, nmB_47] at ho; cases ho
        rw [if_pos rfl]
        simp only [spec_l1Balanced.j1]
        rw [if_pos (by omega), if_pos (by omega), if_neg h47, w64 (by omega) (by omega), if_neg (by omega), if_pos (by omega)]
      | false =>
        rw [if_neg (by simp)]
        simp only [spec_l1Balanced.j1]
        by_cases h47 : bt s (i : Int) = 47
        · have e := dp_close h47
          rw [if_pos (by omega), if_pos (by omega), if_pos h47, w64 (by omega) (by omega), if_pos (by omega)]
        · have e := dp_else ho h47
          omega
theorem spec_l1Balanced_ev (s : ByteArray) (hs : s.size ≤ 140737488351232) : ∃ K, ∀ k, K ≤ k → spec_l1Balanced.f k s = some (balB s) := by
  obtain ⟨B, hB, K, hK⟩ := balanced_l s hs s.size 0 (by omega) (fun j hj => by
    obtain rfl : j = 0 := by omega
    show 0 ≤ (0 : Int) ∧ (0 : Int) ≤ 12
    omega)
  have e : B = balB s := by rw [Bool.eq_iff_iff, hB, balB_iff]
  subst e
  exact ⟨K, fun k hk => by unfold spec_l1Balanced.f; exact hK k hk⟩
theorem spec_GoodDoc_ev (s : ByteArray) (hs : s.size ≤ 140737488351232) : ∃ K, ∀ k, K ≤ k → spec_GoodDoc.f k s = some (docB s) := by
  obtain ⟨K, hK⟩ := spec_GoodText_ev s hs
  obtain ⟨K', hK'⟩ := spec_l1Balanced_ev s hs
  refine ⟨max K K', fun k hk => ?_⟩
  unfold spec_GoodDoc.f docB
  rw [hK k (by omega), hK' k (by omega), Option.bind_some]
  cases textB s <;> simp
theorem spec_match_fwd {s : ByteArray} (hs : s.size ≤ 140737488351232) {a b : Nat} (hm : Mate s a b) (hbal : Bal s) : ∀ (d i : Nat), i + d = b → a < i →
    ∃ K, ∀ k, K ≤ k → spec_l1Match.l0 k s 1 (dp s i - dp s a) (i : Int) = some (b : Int) := by
  obtain ⟨hab, hbs, ho, hc, he, hin⟩ := hm
  have hA := hbal.1 a (by omega)
  intro d
  induction d with
  | zero =>
    intro i hi hai
    obtain rfl : i = b := by omega
    refine ⟨3, fun k hk => ?_⟩
    obtain ⟨k, rfl⟩ : ∃ m, k = m + 3 := ⟨k - 3, by omega⟩
    have e := dp_close hc
    have hI := hbal.1 i (by omega)
    simp only [spec_l1Match.l0]
    rw [if_pos (by omega)]
    simp only [spec_l1Match.j2]
    rw [if_pos (by simp; omega), if_pos (by omega), if_pos (by omega), spec_l1Open_eq, Option.bind_some, hc, nmB_47, if_neg (by simp)]
    simp only [spec_l1Match.j3]
    rw [if_pos (by omega), if_pos (by omega), if_pos hc, w64 (by omega) (by omega), if_pos (by omega)]
  | succ d ih =>
    intro i hi hai
    obtain ⟨K, hK⟩ := ih (i + 1) (by omega) (by omega)
    refine ⟨K + 3, fun k hk => ?_⟩
    obtain ⟨k, rfl⟩ : ∃ m, k = m + 3 := ⟨k - 3, by omega⟩
    have hr := hK k (by omega)
    have hI := hbal.1 i (by omega)
    have hI1 := hbal.1 (i + 1) (by omega)
    have hJ := hin (i + 1) (by omega) (by omega)
    simp only [spec_l1Match.l0]
    rw [if_pos (by omega)]
    simp only [spec_l1Match.j2]
    rw [if_pos (by simp; omega), if_pos (by omega), if_pos (by omega), spec_l1Open_eq, Option.bind_some]
    cases hn : nmB (bt s (i : Int)) with
    | true =>
      have e := dp_open hn
      have h47 : bt s (i : Int) ≠ 47 := fun x => by rw [x, nmB_47] at hn; cases hn
      rw [if_pos rfl]
      simp only [spec_l1Match.j3]
      rw [if_pos (by omega), if_pos (by omega), if_neg h47, w64 (by omega) (by omega), if_neg (by omega), w64 (by omega) (by omega), natS, show dp s i - dp s a + 1 = dp s (i + 1) - dp s a by omega]
      exact hr
    | false =>
      rw [if_neg (by simp)]
      simp only [spec_l1Match.j3]
      by_cases h47 : bt s (i : Int) = 47
      · have e := dp_close h47
        rw [if_pos (by omega), if_pos (by omega), if_pos h47, w64 (by omega) (by omega), if_neg (by omega), w64 (by omega) (by omega), natS, show dp s i - dp s a - 1 = dp s (i + 1) - dp s a by omega]
        exact hr
      · have e := dp_else hn h47
        rw [if_pos (by omega), if_pos (by omega), if_neg h47, if_neg (by omega), w64 (by omega) (by omega), natS, ← e]
        exact hr
theorem spec_l1Match_open {s : ByteArray} (hs : s.size ≤ 140737488351232) {a b : Nat} (hm : Mate s a b) (hbal : Bal s) : ∃ K, ∀ k, K ≤ k → spec_l1Match.f k s (a : Int) = some (b : Int) := by
  obtain ⟨K, hK⟩ := spec_match_fwd hs hm hbal (b - (a + 1)) (a + 1) (by have := hm.1; omega) (by omega)
  obtain ⟨hab, hbs, ho, hc, he, hin⟩ := hm
  have e := dp_open ho
  have h47 : bt s (a : Int) ≠ 47 := fun x => by rw [x, nmB_47] at ho; cases ho
  refine ⟨K + 4, fun k hk => ?_⟩
  obtain ⟨k, rfl⟩ : ∃ m, k = m + 4 := ⟨k - 4, by omega⟩
  have hr := hK k (by omega)
  unfold spec_l1Match.f
  rw [if_pos (by omega), if_pos (by omega), if_neg h47]
  simp only [spec_l1Match.j0, spec_l1Match.l0]
  rw [if_pos (by omega)]
  simp only [spec_l1Match.j2]
  rw [if_pos (by simp; omega), if_pos (by omega), if_pos (by omega), spec_l1Open_eq, Option.bind_some, ho, if_pos rfl]
  simp only [spec_l1Match.j3]
  rw [if_pos (by omega), if_pos (by omega), if_neg h47, w64 (by omega) (by omega), if_neg (by omega), w64 (by omega) (by omega), natS, show (0 : Int) + 1 = dp s (a + 1) - dp s a by omega]
  exact hr

/-! the row of a text that is balanced: both programs tell the same -/
theorem impl_beginsAt_no (s : ByteArray) (hs : s.size ≤ 140737488351232) (a : Int) (hw : (Lit.int .i64 a).wf = true) (h : ¬ (docB s = true ∧ ∃ i : Nat, a = (i : Int) ∧ i < s.size ∧ nmB (bt s (i : Int)) = true)) : ∃ K, ∀ k, K ≤ k → impl_beginsAt.f k s a = some (0, false) := by
  cases hd : docB s with
  | false =>
    obtain ⟨K, hK⟩ := impl_MatchOf_no s hs a hw hd
    refine ⟨K, fun k hk => ?_⟩
    unfold impl_beginsAt.f
    rw [hK k hk]; simp
  | true =>
    obtain ⟨o, ho, K, hK⟩ := impl_MatchOf_yes s hs a hw hd
    refine ⟨K, fun k hk => ?_⟩
    unfold impl_beginsAt.f
    rw [hK k hk]
    cases o with
    | none => simp
    | some b =>
      obtain ⟨p, q, h1, h2⟩ := (ho b).1 rfl
      have := h1.1
      rcases h2 with ⟨rfl, rfl⟩ | ⟨rfl, rfl⟩
      · exact absurd ⟨hd, p, rfl, by have := h1.2.1; omega, h1.2.2.1⟩ h
      · simp; omega
theorem impl_beginsAt_yes (s : ByteArray) (hs : s.size ≤ 140737488351232) (hd : docB s = true) {a b : Nat} (hm : Mate s a b) : ∃ K, ∀ k, K ≤ k → impl_beginsAt.f k s (a : Int) = some ((b : Int), true) := by
  have hw : (Lit.int .i64 (a : Int)).wf = true := WalkArith.wf_i64 (by have := hm.1; have := hm.2.1; omega)
  obtain ⟨o, ho, K, hK⟩ := impl_MatchOf_yes s hs (a : Int) hw hd
  obtain rfl : o = some (b : Int) := (ho b).2 ⟨a, b, hm, .inl ⟨rfl, rfl⟩⟩
  refine ⟨K, fun k hk => ?_⟩
  unfold impl_beginsAt.f
  rw [hK k hk]
  have := hm.1
  simp; omega

theorem strOf_app (xs ys : List Int) : strOfNums (xs ++ ys) = strOfNums xs ++ strOfNums ys := by
  apply ByteArray.ext; simp [strOfNums, ByteArray.data_append]
theorem strOf_116 : strOfNums [116] = (⟨#[116]⟩ : ByteArray) := rfl
theorem strOf_one (u : ByteArray) (i : Nat) (hi : i < u.size) : strOfNums [bt u (i : Int)] = u.extract i (i + 1) := by
  apply ba_of_toList
  rw [toList_eq_iff]
  constructor
  · rw [strOfNums_size, ByteArray.size_extract]; simp; omega
  · intro j hj
    rw [strOfNums_size] at hj
    obtain rfl : j = 0 := by simpa using hj
    rw [bt_extract u i (i + 1) 0 (by omega) (by omega)]
    have hr := bt_range u (i : Int)
    have hs1 : (strOfNums [bt u (i : Int)]).size = 1 := strOfNums_size _
    have hb : bt u (i : Int) = ((u[i]'hi).toNat : Int) := by unfold bt; rw [dif_pos (by omega)]; simp
    rw [bt_data _ 0 (by rw [hs1]; omega), Nat.add_zero]
    simp only [strOfNums_data, List.map_cons, List.getElem_cons_zero]
    rw [hb]
    simp
theorem rowIn_skip {u : ByteArray} (hu : u.size ≤ 140737488351232) (hbal : Bal u) {a b : Nat} (hm : Mate u a b) (B : ByteArray) (r : ByteArray) (hK : ∃ K, ∀ k, K ≤ k → impl_rowIn.l0 k u B ((b + 1 : Nat) : Int) = some r) : ∀ (d i : Nat), i + d = b → a ≤ i →
    ∃ K, ∀ k, K ≤ k → impl_rowIn.l1 k u B (i : Int) (dp u i - dp u a) = some r := by
  obtain ⟨K0, hK0⟩ := hK
  obtain ⟨hab, hbs, ho, hc, he, hin⟩ := hm
  have hA := hbal.1 a (by omega)
  intro d
  induction d with
  | zero =>
    intro i hi hai
    obtain rfl : i = b := by omega
    have e := dp_close hc
    have hI := hbal.1 i (by omega)
    refine ⟨K0 + 1, fun k hk => ?_⟩
    obtain ⟨k, rfl⟩ : ∃ m, k = m + 1 := ⟨k - 1, by omega⟩
    simp only [impl_rowIn.l1]
    rw [if_pos (by omega), if_pos (by omega), impl_isName_eq, Option.bind_some, hc, nmB_47, if_neg (by simp), if_pos rfl, w64 (by omega) (by omega), if_pos (by omega), w64 (by omega) (by omega), natS]
    exact hK0 k (by omega)
  | succ d ih =>
    intro i hi hai
    obtain ⟨K, hK⟩ := ih (i + 1) (by omega) (by omega)
    refine ⟨K + 1, fun k hk => ?_⟩
    obtain ⟨k, rfl⟩ : ∃ m, k = m + 1 := ⟨k - 1, by omega⟩
    have hr := hK k (by omega)
    have hI := hbal.1 i (by omega)
    have hI1 := hbal.1 (i + 1) (by omega)
    have hJ := hin (i + 1) (by omega) (by omega)
    simp only [impl_rowIn.l1]
    rw [if_pos (by omega), if_pos (by omega), impl_isName_eq, Option.bind_some]
    cases hn : nmB (bt u (i : Int)) with
    | true =>
      have e := dp_open hn
      rw [if_pos rfl, w64 (by omega) (by omega), if_neg (by omega), w64 (by omega) (by omega), natS, show dp u i - dp u a + 1 = dp u (i + 1) - dp u a by omega]
      exact hr
    | false =>
      rw [if_neg (by simp)]
      by_cases h47 : bt u (i : Int) = 47
      · have e := dp_close h47
        rw [if_pos h47, w64 (by omega) (by omega), if_neg (by omega), w64 (by omega) (by omega), natS, show dp u i - dp u a - 1 = dp u (i + 1) - dp u a by omega]
        exact hr
      · have e := dp_else hn h47
        rw [if_neg h47, if_neg (by omega), w64 (by omega) (by omega), natS, ← e]
        exact hr
theorem nm_116 {c : Int} (h : nmB c = true) : c ≠ 116 ∧ plB c = false ∧ c ≠ 47 := by
  unfold nmB at h
  simp at h
  refine ⟨by omega, ?_, by omega⟩
  unfold plB
  simp
  omega
theorem row_l {u : ByteArray} (hu : u.size ≤ 300) (hbal : Bal u) (hok : textB u = true) : ∀ (n i : Nat) (L : List Int), u.size - i ≤ n → i ≤ u.size → dp u i = 0 → L.length ≤ i → (L = [] ↔ i = 0) → (0 < i → (rd L ((L.length : Int) - 1) = 116 ↔ plB (bt u ((i - 1 : Nat) : Int)) = true)) →
    ∃ r K, ∀ k, K ≤ k → spec_l7Row.l0 k u L (i : Int) = some r ∧ impl_rowIn.l0 k u (strOfNums L) (i : Int) = some r := by
  intro n
  induction n with
  | zero =>
    intro i L hn hi hd hl h0 hp
    obtain rfl : i = u.size := by omega
    refine ⟨strOfNums L, 1, fun k hk => ?_⟩
    obtain ⟨k, rfl⟩ : ∃ m, k = m + 1 := ⟨k - 1, by omega⟩
    constructor
    · simp only [spec_l7Row.l0]; rw [if_neg (by omega)]
    · simp only [impl_rowIn.l0]; rw [if_neg (by omega)]
  | succ n ih =>
    intro i L hn hi hd hl h0 hp
    by_cases he : i = u.size
    · subst he
      refine ⟨strOfNums L, 1, fun k hk => ?_⟩
      obtain ⟨k, rfl⟩ : ∃ m, k = m + 1 := ⟨k - 1, by omega⟩
      constructor
      · simp only [spec_l7Row.l0]; rw [if_neg (by omega)]
      · simp only [impl_rowIn.l0]; rw [if_neg (by omega)]
    · have hsz : (strOfNums L).size = L.length := strOfNums_size L
      have hlt : i < u.size := by omega
      cases hn1 : nmB (bt u (i : Int)) with
      | true =>
        obtain ⟨b, hm⟩ := mate_ex hbal hn1 hlt
        have hb1 := hm.1
        have hb2 := hm.2.1
        have hb3 := hm.2.2.2.2.1
        obtain ⟨r, K, hK⟩ := ih (b + 1) (L ++ [bt u (i : Int)]) (by omega) (by omega) (by omega) (by rw [List.length_append, List.length_singleton]; omega) ⟨fun x => (by simp at x), fun x => (by omega)⟩ (fun _ => by
          rw [show (((L ++ [bt u (i : Int)]).length : Int) - 1) = (L.length : Int) by rw [List.length_append, List.length_singleton]; omega, rd_app_one, Nat.add_sub_cancel, hm.2.2.2.1]
          exact ⟨fun x => absurd x (nm_116 hn1).1, fun x => (by cases x)⟩)
        rw [strOf_app, strOf_one u i hlt] at hK
        obtain ⟨K2, hK2⟩ := spec_l1Match_open (by omega) hm hbal
        obtain ⟨K3, hK3⟩ := rowIn_skip (by omega) hbal hm _ r ⟨K, fun k hk => (hK k hk).2⟩ (b - i) i (by omega) (Nat.le_refl _)
        rw [show dp u i - dp u i = 0 by omega] at hK3
        have hex : (u.extract i (i + 1)).size = 1 := by rw [ByteArray.size_extract]; omega
        refine ⟨r, max K (max K2 K3) + 1, fun k hk => ?_⟩
        obtain ⟨k, rfl⟩ : ∃ m, k = m + 1 := ⟨k - 1, by omega⟩
        constructor
        · simp only [spec_l7Row.l0]
          rw [if_pos (by omega), if_pos (by omega), spec_l1Open_eq, Option.bind_some, hn1, if_pos rfl, if_pos (by omega), hK2 k (by omega), Option.bind_some, w64 (by omega) (by omega), natS]
          exact (hK k (by omega)).1
        · simp only [impl_rowIn.l0]
          rw [w64 (i := (i : Int) + 1) (by omega) (by omega), natS]
          simp only [Int.toNat_natCast]
          rw [if_pos (by omega), if_pos (by omega), impl_isName_eq, Option.bind_some, hn1, if_pos rfl, if_pos (by omega), if_pos (by omega), hex, if_pos (by omega)]
          exact hK3 k (by omega)
      | false =>
        have h47 : bt u (i : Int) ≠ 47 := fun x => by
          have e := dp_close x
          have := hbal.1 (i + 1) (by omega)
          omega
        have hpl : plB (bt u (i : Int)) = true := by
          have := textB_at hok i hlt
          unfold okB at this
          rw [hn1] at this
          simpa [h47] using this
        have e := dp_else hn1 h47
        by_cases hi0 : i = 0
        · obtain rfl := h0.2 hi0
          subst hi0
          obtain ⟨r, K, hK⟩ := ih 1 [116] (by omega) (by omega) (by simp only [Nat.zero_add] at e; omega) (by simp) ⟨fun x => (by cases x), fun x => (by cases x)⟩ (fun _ => ⟨fun _ => hpl, fun _ => rfl⟩)
          refine ⟨r, K + 1, fun k hk => ?_⟩
          obtain ⟨k, rfl⟩ : ∃ m, k = m + 1 := ⟨k - 1, by omega⟩
          constructor
          · simp only [spec_l7Row.l0]
            rw [if_pos (by omega), if_pos (by omega), spec_l1Open_eq, Option.bind_some, hn1, if_neg (by simp), if_pos (by rfl), if_pos (by simp), w64 (by omega) (by omega)]
            exact (hK k (by omega)).1
          · simp only [impl_rowIn.l0]
            rw [if_pos (by omega), if_pos (by omega), impl_isName_eq, Option.bind_some, hn1, if_neg (by simp), if_pos (by rfl), if_pos (by rw [hsz]; simp), w64 (i := ((0 : Nat) : Int) + 1) (by omega) (by omega)]
            exact (hK k (by omega)).2
        · have hL : L ≠ [] := fun x => hi0 (h0.1 x)
          have hLl : 0 < L.length := List.length_pos_iff.2 hL
          have hp' := hp (by omega)
          have hc1 : ((i : Int) - 1) = ((i - 1 : Nat) : Int) := by omega
          by_cases h116 : rd L ((L.length : Int) - 1) = 116
          · have hpp := hp'.1 h116
            obtain ⟨r, K, hK⟩ := ih (i + 1) L (by omega) (by omega) (by omega) (by omega) ⟨fun x => absurd x hL, fun x => (by omega)⟩ (fun _ => by rw [Nat.add_sub_cancel]; exact ⟨fun _ => hpl, fun _ => h116⟩)
            refine ⟨r, K + 1, fun k hk => ?_⟩
            obtain ⟨k, rfl⟩ : ∃ m, k = m + 1 := ⟨k - 1, by omega⟩
            constructor
            · simp only [spec_l7Row.l0]
              rw [w64 (i := (L.length : Int) - 1) (by omega) (by omega), w64 (i := (i : Int) + 1) (by omega) (by omega), natS, if_pos (by omega), if_pos (by omega), spec_l1Open_eq, Option.bind_some, hn1, if_neg (by simp), if_neg (by omega), if_pos (by omega), if_pos (by omega), if_pos h116]
              exact (hK k (by omega)).1
            · simp only [impl_rowIn.l0]
              rw [w64 (i := (i : Int) - 1) (by omega) (by omega), w64 (i := (i : Int) + 1) (by omega) (by omega), natS, if_pos (by omega), if_pos (by omega), impl_isName_eq, Option.bind_some, hn1, if_neg (by simp), if_neg (by omega), hc1, if_pos (by omega), if_pos (by omega), impl_isPlain_eq, Option.bind_some, hpp, if_pos rfl]
              exact (hK k (by omega)).2
          · have hpp : plB (bt u ((i - 1 : Nat) : Int)) = false := by
              cases hx : plB (bt u ((i - 1 : Nat) : Int)) with
              | false => rfl
              | true => exact absurd (hp'.2 hx) h116
            obtain ⟨r, K, hK⟩ := ih (i + 1) (L ++ [116]) (by omega) (by omega) (by omega) (by rw [List.length_append, List.length_singleton]; omega) ⟨fun x => (by simp at x), fun x => (by omega)⟩ (fun _ => by
              rw [show (((L ++ [(116 : Int)]).length : Int) - 1) = (L.length : Int) by rw [List.length_append, List.length_singleton]; omega, rd_app_one, Nat.add_sub_cancel]
              exact ⟨fun _ => hpl, fun _ => rfl⟩)
            rw [strOf_app, strOf_116] at hK
            refine ⟨r, K + 1, fun k hk => ?_⟩
            obtain ⟨k, rfl⟩ : ∃ m, k = m + 1 := ⟨k - 1, by omega⟩
            constructor
            · simp only [spec_l7Row.l0]
              rw [w64 (i := (L.length : Int) - 1) (by omega) (by omega), w64 (i := (i : Int) + 1) (by omega) (by omega), natS, if_pos (by omega), if_pos (by omega), spec_l1Open_eq, Option.bind_some, hn1, if_neg (by simp), if_neg (by omega), if_pos (by omega), if_pos (by omega), if_neg h116, if_pos (by omega)]
              exact (hK k (by omega)).1
            · simp only [impl_rowIn.l0]
              rw [w64 (i := (i : Int) - 1) (by omega) (by omega), w64 (i := (i : Int) + 1) (by omega) (by omega), natS, if_pos (by omega), if_pos (by omega), impl_isName_eq, Option.bind_some, hn1, if_neg (by simp), if_neg (by omega), hc1, if_pos (by omega), if_pos (by omega), impl_isPlain_eq, Option.bind_some, hpp, if_neg (by simp), if_pos (by rw [hsz]; omega)]
              exact (hK k (by omega)).2
theorem row_ev {u : ByteArray} (hbal : Bal u) (hok : textB u = true) : ∃ r K, ∀ k, K ≤ k → spec_l7Row.f k u = some r ∧ impl_rowIn.f k u = some r := by
  obtain ⟨r, K, hK⟩ := row_l (textB_size hok) hbal hok u.size 0 [] (by omega) (by omega) rfl (by simp) ⟨fun _ => rfl, fun _ => rfl⟩ (fun h => by omega)
  exact ⟨r, K, hK⟩

theorem FnExactRowOf : laws_FnExactRowOf.Pure := by
  intro s a hs hw
  have main : ∃ r K, ∀ k, K ≤ k → spec_RowOf.f k s a = some r ∧ impl_RowOf.f k s a = some r := by
    obtain ⟨K1, h1⟩ := spec_GoodDoc_ev s hs
    obtain ⟨K2, h2⟩ := impl_GoodDoc_ev s hs
    by_cases hd : docB s = true
    · obtain ⟨ht, hbal⟩ := (docB_iff s).1 hd
      have hz := textB_size ht
      by_cases ha : a = -1
      · subst ha
        obtain ⟨r, K3, h3⟩ := row_ev hbal ht
        refine ⟨(r, true), max K1 (max K2 K3) + 1, fun k hk => ?_⟩
        obtain ⟨k, rfl⟩ : ∃ m, k = m + 1 := ⟨k - 1, by omega⟩
        constructor
        · unfold spec_RowOf.f
          rw [h1 (k + 1) (by omega), hd, Option.bind_some, if_pos rfl, if_neg (by omega), if_neg (by omega), if_neg (by omega)]
          simp only [spec_RowOf.j0]
          rw [if_neg (by simp), if_pos trivial, (h3 k (by omega)).1]; rfl
        · unfold impl_RowOf.f
          rw [if_pos rfl, h2 (k + 1) (by omega), hd, Option.bind_some]
          simp only [impl_RowOf.j0]
          rw [if_pos trivial, (h3 k (by omega)).2]; rfl
      · by_cases hin : ∃ i : Nat, a = (i : Int) ∧ i < s.size ∧ nmB (bt s (i : Int)) = true
        · obtain ⟨i, rfl, hi, hn⟩ := hin
          obtain ⟨b, hm⟩ := mate_ex hbal hn hi
          have hb1 := hm.1
          have hb2 := hm.2.1
          obtain ⟨r, K3, h3⟩ := row_ev (bal_inner hbal hm) (textB_extract ht (i + 1) b (by omega))
          obtain ⟨K4, h4⟩ := spec_l1Match_open hs hm hbal
          obtain ⟨K5, h5⟩ := impl_beginsAt_yes s hs hd hm
          refine ⟨(r, true), max K1 (max K2 (max K3 (max K4 K5))) + 1, fun k hk => ?_⟩
          obtain ⟨k, rfl⟩ : ∃ m, k = m + 1 := ⟨k - 1, by omega⟩
          constructor
          · unfold spec_RowOf.f
            rw [h1 (k + 1) (by omega), hd, Option.bind_some, if_pos rfl, if_neg (by omega), if_neg (by omega), if_pos (by omega), if_pos (by omega), if_pos (by omega), spec_l1Open_eq, Option.bind_some, hn]
            simp only [spec_RowOf.j0, Bool.not_true]
            rw [if_neg (by simp), if_neg (by omega), h4 k (by omega), Option.bind_some, w64 (by omega) (by omega), natS, if_pos (by omega), if_pos (by omega), if_pos (by omega)]
            simp only [Int.toNat_natCast]
            rw [(h3 k (by omega)).1]; rfl
          · unfold impl_RowOf.f
            rw [if_neg (by omega)]
            simp only [impl_RowOf.j0]
            rw [if_neg (by simp)]
            unfold impl_InnerOf.f
            rw [h5 k (by omega), Option.bind_some]
            simp only [if_true]
            rw [w64 (by omega) (by omega), natS, if_pos (by omega), if_pos (by omega), if_pos (by omega)]
            simp only [Int.toNat_natCast, Option.bind_some, if_true]
            rw [(h3 k (by omega)).2]; rfl
        · obtain ⟨K5, h5⟩ := impl_beginsAt_no s hs a hw (fun x => hin x.2)
          refine ⟨((⟨#[]⟩ : ByteArray), false), max K1 K5 + 1, fun k hk => ?_⟩
          obtain ⟨k, rfl⟩ : ∃ m, k = m + 1 := ⟨k - 1, by omega⟩
          constructor
          · unfold spec_RowOf.f
            rw [h1 (k + 1) (by omega), hd, Option.bind_some, if_pos rfl]
            by_cases c1 : a < -1
            · rw [if_pos c1]; simp only [spec_RowOf.j0, if_true]
            · rw [if_neg c1]
              by_cases c2 : a ≥ (s.size : Int)
              · rw [if_pos c2]; simp only [spec_RowOf.j0, if_true]
              · obtain ⟨i, rfl⟩ := Int.eq_ofNat_of_zero_le (by omega : 0 ≤ a)
                have hn : nmB (bt s (i : Int)) = false := by
                  cases hx : nmB (bt s (i : Int)) with
                  | false => rfl
                  | true => exact absurd ⟨i, rfl, by omega, hx⟩ hin
                rw [if_neg c2, if_pos (by omega), if_pos (by omega), if_pos (by omega), spec_l1Open_eq, Option.bind_some, hn]
                simp only [spec_RowOf.j0, Bool.not_false, if_true]
          · unfold impl_RowOf.f
            rw [if_neg ha]
            simp only [impl_RowOf.j0]
            rw [if_neg (by simp)]
            unfold impl_InnerOf.f
            rw [h5 k (by omega)]; simp
    · obtain ⟨K5, h5⟩ := impl_beginsAt_no s hs a hw (fun x => hd x.1)
      have hd' : docB s = false := by simpa using hd
      refine ⟨((⟨#[]⟩ : ByteArray), false), max K1 (max K2 K5) + 1, fun k hk => ?_⟩
      obtain ⟨k, rfl⟩ : ∃ m, k = m + 1 := ⟨k - 1, by omega⟩
      constructor
      · unfold spec_RowOf.f
        rw [h1 (k + 1) (by omega), hd', Option.bind_some, if_neg (by simp)]
        simp only [spec_RowOf.j0, if_true]
      · have e : impl_RowOf.j0 (k + 1) s a false = some ((⟨#[]⟩ : ByteArray), false) := by
          simp only [impl_RowOf.j0]
          rw [if_neg (by simp)]
          unfold impl_InnerOf.f
          rw [h5 k (by omega)]; simp
        unfold impl_RowOf.f
        rw [h2 (k + 1) (by omega), hd', Option.bind_some, e]; simp
  obtain ⟨r, K, hK⟩ := main
  refine ⟨K, ?_⟩
  unfold laws_FnExactRowOf.f
  rw [(hK K (Nat.le_refl _)).1, (hK K (Nat.le_refl _)).2]
  simp

end Go.Proofs.Ytmigfgcpdelnfaa.Pure
