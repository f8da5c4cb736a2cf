/- RopeOf of the program answers as the reference, for all texts, in memory of its own. -/
import Derived.Test.YtmkenlejdaphnaaAFnExactRopeOfx6
set_option linter.unusedVariables false
set_option linter.unusedSimpArgs false
namespace Go.Proofs.Ytmkenlejdaphnaa.Pure
open Go.RowKit Go.Proofs.Ytmkenlejdaphnaa.AFnExactRopeOf Go.Proofs.YtmkenlejdaphnaaW.PrintWords Go.Proofs.YtmkenlejdaphnaaW.PrintLast Go.Proofs.YtmkenlejdaphnaaW.PrintMore

theorem w64 {i : Int} (h0 : -4611686018427387904 ≤ i) (h : i ≤ 4611686018427387904) : wrap64 i = i := by
  unfold wrap64; omega

def nmB (c : Int) : Bool := decide (65 ≤ c) && decide (c ≤ 70)
def plB (c : Int) : Bool := (decide (97 ≤ c) && decide (c ≤ 122)) || ((decide (48 ≤ c) && decide (c ≤ 57)) || (decide (c = 32) || (decide (c = 46) || decide (c = 44))))
def okB (c : Int) : Bool := nmB c || (plB c || decide (c = 47))
def okN (s : ByteArray) : Nat → Nat → Bool
  | 0, _ => true
  | d + 1, i => okB (bt s i) && okN s d (i + 1)
def textB (s : ByteArray) : Bool := okN s s.size 0 && decide (s.size ≤ 300)

theorem textB_size {s : ByteArray} (h : textB s = true) : s.size ≤ 300 := by
  unfold textB at h; simp at h; exact h.2

theorem impl_isName_eq (c : Int) : impl_isName.f c = some (nmB c) := by
  unfold impl_isName.f nmB
  by_cases h1 : c ≥ 65 <;> simp [h1] <;> omega
theorem impl_isPlain_eq (c : Int) : impl_isPlain.f c = some (plB c) := by
  unfold impl_isPlain.f plB
  by_cases h1 : 97 ≤ c <;> by_cases h2 : c ≤ 122 <;> by_cases h3 : 48 ≤ c <;> by_cases h4 : c ≤ 57 <;> by_cases h5 : c = 32 <;> by_cases h6 : c = 46 <;> simp [h1, h2, h3, h4, h5, h6] <;> rfl
theorem impl_GoodText_l (s : ByteArray) (hs : s.size ≤ 140737488351232) : ∀ (d i : Nat), i + d = s.size →
    ∃ K, ∀ k, K ≤ k → impl_GoodText.l0 k s (s.size : Int) (i : Int) = some (okN s d i && decide (s.size ≤ 300)) := by
  intro d
  induction d with
  | zero =>
    intro i hi
    refine ⟨1, fun k hk => ?_⟩
    obtain ⟨k, rfl⟩ : ∃ m, k = m + 1 := ⟨k - 1, by omega⟩
    simp only [impl_GoodText.l0]
    rw [if_neg (by omega)]
    simp [okN]
    omega
  | succ d ih =>
    intro i hi
    obtain ⟨K, hK⟩ := ih (i + 1) (by omega)
    refine ⟨K + 1, fun k hk => ?_⟩
    obtain ⟨k, rfl⟩ : ∃ m, k = m + 1 := ⟨k - 1, by omega⟩
    have hr := hK k (by omega)
    simp only [impl_GoodText.l0]
    rw [if_pos (by omega), if_pos (by omega), if_pos (by omega), impl_isName_eq, Option.bind_some, impl_isPlain_eq, Option.bind_some, w64 (by omega) (by omega)]
    have hc : ((i : Int) + 1) = ((i + 1 : Nat) : Int) := by omega
    rw [hc, hr]
    show _ = some ((okB (bt s i) && okN s d (i + 1)) && _)
    unfold okB
    cases nmB (bt s i) <;> cases plB (bt s i) <;> by_cases h : bt s i = 47 <;> simp [h]
theorem impl_GoodText_ev (s : ByteArray) (hs : s.size ≤ 140737488351232) : ∃ K, ∀ k, K ≤ k → impl_GoodText.f k s = some (textB s) := by
  obtain ⟨K, hK⟩ := impl_GoodText_l s hs s.size 0 (by omega)
  exact ⟨K, fun k hk => by unfold impl_GoodText.f; exact hK k hk⟩

theorem spec_l1Open_eq (c : Int) : spec_l1Open.f c = some (nmB c) := by
  unfold spec_l1Open.f nmB
  by_cases h1 : c ≥ 65 <;> simp [h1] <;> omega
theorem spec_l1Plain_eq (c : Int) : spec_l1Plain.f c = some (plB c) := by
  unfold spec_l1Plain.f plB
  by_cases h1 : 97 ≤ c <;> by_cases h2 : c ≤ 122 <;> by_cases h3 : 48 ≤ c <;> by_cases h4 : c ≤ 57 <;> by_cases h5 : c = 32 <;> by_cases h6 : c = 46 <;> simp [h1, h2, h3, h4, h5, h6] <;> rfl
theorem spec_l1Text_l (s : ByteArray) (hs : s.size ≤ 140737488351232) : ∀ (d i : Nat), i + d = s.size →
    ∃ K, ∀ k, K ≤ k → spec_l1Text.l0 k s (i : Int) = some (okN s d i) := by
  intro d
  induction d with
  | zero =>
    intro i hi
    refine ⟨1, fun k hk => ?_⟩
    obtain ⟨k, rfl⟩ : ∃ m, k = m + 1 := ⟨k - 1, by omega⟩
    simp only [spec_l1Text.l0]
    rw [if_neg (by omega)]
    simp [okN]
  | succ d ih =>
    intro i hi
    obtain ⟨K, hK⟩ := ih (i + 1) (by omega)
    refine ⟨K + 1, fun k hk => ?_⟩
    obtain ⟨k, rfl⟩ : ∃ m, k = m + 1 := ⟨k - 1, by omega⟩
    have hr := hK k (by omega)
    simp only [spec_l1Text.l0]
    rw [if_pos (by omega), if_pos (by omega), spec_l1Open_eq, Option.bind_some, spec_l1Plain_eq, Option.bind_some, w64 (by omega) (by omega)]
    have hc : ((i : Int) + 1) = ((i + 1 : Nat) : Int) := by omega
    rw [hc, hr]
    show _ = some (okB (bt s i) && okN s d (i + 1))
    unfold okB
    cases nmB (bt s i) <;> cases plB (bt s i) <;> by_cases h : bt s i = 47 <;> simp [h]
theorem spec_l1Text_ev (s : ByteArray) (hs : s.size ≤ 140737488351232) : ∃ K, ∀ k, K ≤ k → spec_l1Text.f k s = some (okN s s.size 0) := by
  obtain ⟨K, hK⟩ := spec_l1Text_l s hs s.size 0 (by omega)
  refine ⟨K, fun k hk => ?_⟩
  have h := hK k hk
  unfold spec_l1Text.f
  simp only [Int.cast_ofNat_Int] at h
  exact h

theorem toList_data (s : ByteArray) : s.toList = s.data.toList := by
  have h : ∀ (n i : Nat) (r : List UInt8), s.size - i = n → ByteArray.toList.loop s i r = r.reverse ++ s.data.toList.drop i := by
    intro n
    induction n with
    | zero =>
      intro i r h
      unfold ByteArray.toList.loop
      rw [if_neg (by omega), List.drop_of_length_le (by rw [Array.length_toList]; show s.size ≤ i; omega)]; simp
    | succ n ih =>
      intro i r h
      have hi : i < s.size := by omega
      unfold ByteArray.toList.loop
      have e2 : s.data.toList.drop i = s.data.toList[i]'(by rw [Array.length_toList]; exact hi) :: s.data.toList.drop (i + 1) := List.drop_eq_getElem_cons (by rw [Array.length_toList]; exact hi)
      have e : s.get! i = s.data.toList[i]'(by rw [Array.length_toList]; exact hi) := by
        show s.data[i]! = _
        rw [getElem!_pos s.data i hi]; simp
      rw [if_pos hi, ih (i + 1) _ (by omega), e2, e, List.reverse_cons, List.append_assoc]; rfl
  unfold ByteArray.toList
  rw [h s.size 0 [] (by omega)]; simp
theorem bt_data (s : ByteArray) (i : Nat) (h : i < s.size) : bt s (i : Int) = ((s.data.toList[i]'(by rw [Array.length_toList]; exact h)).toNat : Int) := by
  unfold bt
  rw [dif_pos (by omega)]
  simp [ByteArray.getElem_eq_getElem_data]
theorem toList_eq_iff (a b : ByteArray) : a.toList = b.toList ↔ a.size = b.size ∧ ∀ j : Nat, j < a.size → bt a (j : Int) = bt b (j : Int) := by
  rw [toList_data, toList_data]
  constructor
  · intro h
    have hl : a.size = b.size := by
      have := congrArg List.length h
      rw [Array.length_toList, Array.length_toList] at this; exact this
    refine ⟨hl, fun j hj => ?_⟩
    rw [bt_data a j hj, bt_data b j (by omega)]
    simp only [h]
  · intro ⟨hl, h⟩
    apply List.ext_getElem
    · rw [Array.length_toList, Array.length_toList]; exact hl
    · intro j h1 h2
      rw [Array.length_toList] at h1 h2
      have := h j h1
      rw [bt_data a j h1, bt_data b j h2] at this
      have h3 : (a.data.toList[j]'(by rw [Array.length_toList]; exact h1)).toNat = (b.data.toList[j]'(by rw [Array.length_toList]; exact h2)).toNat := by omega
      exact UInt8.toNat_inj.mp h3
theorem bt_extract (s : ByteArray) (i j n : Nat) (hj : j ≤ s.size) (hn : i + n < j) : bt (s.extract i j) (n : Int) = bt s ((i + n : Nat) : Int) := by
  have h1 : n < (s.extract i j).size := by rw [ByteArray.size_extract]; omega
  unfold bt
  rw [dif_pos (by simpa using h1), dif_pos (by omega)]
  simp only [Int.toNat_natCast, ByteArray.getElem_extract]

/-! texts: every byte of a good one -/
theorem okN_iff (b : ByteArray) : ∀ (d i : Nat), okN b d i = true ↔ ∀ j : Nat, i ≤ j → j < i + d → okB (bt b (j : Int)) = true
  | 0, i => by simp [okN]; intro j h1 h2; omega
  | d + 1, i => by
    simp only [okN, Bool.and_eq_true, okN_iff b d (i + 1)]
    constructor
    · intro ⟨h1, h2⟩ j hj hj2
      by_cases e : j = i
      · subst e; exact h1
      · exact h2 j (by omega) (by omega)
    · intro h
      exact ⟨h i (Nat.le_refl _) (by omega), fun j h1 h2 => h j (by omega) (by omega)⟩
theorem okN_sub {s : ByteArray} (h : okN s s.size 0 = true) (a b : Nat) (hb : b ≤ s.size) : okN (s.extract a b) (s.extract a b).size 0 = true := by
  rw [okN_iff] at h ⊢
  intro j h1 h2
  have hs : (s.extract a b).size = b - a := by rw [ByteArray.size_extract]; omega
  rw [bt_extract s a b j hb (by omega)]
  exact h (a + j) (by omega) (by omega)

/-! ropes: what a row of boughs stands for -/
theorem tl_nil {s : ByteArray} : s.toList = [] ↔ s.size = 0 := by
  rw [toList_data]
  exact List.length_eq_zero_iff.symm
def leafB (b : S58) : Bool := !(b.f2.toList == []) && (decide (b.f2.size ≤ 8) && (okN b.f2 b.f2.size 0 && (decide (b.f3 = (b.f2.size : Int)) && decide (b.f4 = 0))))
/-- A bough at a place: where its own begin, and its tree. -/
def vt (l : List S58) : Nat → Nat → Option (Nat × Limb)
  | 0, _ => none
  | d + 1, k =>
    if (rd_T58 l (k : Int)).f0 = -1 ∧ (rd_T58 l (k : Int)).f1 = -1 then (if leafB (rd_T58 l (k : Int)) = true then some (k, .node .nil .nil (rd_T58 l (k : Int)).f2 (rd_T58 l (k : Int)).f3 0) else none)
    else (if (rd_T58 l (k : Int)).f2.toList = [] ∧ (rd_T58 l (k : Int)).f1 = (k : Int) - 1 ∧ 2 ≤ k then
      (vt l d (k - 1)).bind fun p => if 1 ≤ p.1 ∧ (rd_T58 l (k : Int)).f0 = (p.1 : Int) - 1 then
        (vt l d (p.1 - 1)).bind fun q => if (rd_T58 l (k : Int)).f3 = q.2.size + p.2.size ∧ (rd_T58 l (k : Int)).f4 = 1 + max q.2.deep p.2.deep then some (q.1, .node q.2 p.2 ⟨#[]⟩ (rd_T58 l (k : Int)).f3 (rd_T58 l (k : Int)).f4) else none
      else none
    else none)
theorem vt_le (l : List S58) : ∀ d k p, vt l d k = some p → p.1 ≤ k := by
  intro d
  induction d with
  | zero => intro k p h; cases h
  | succ d ih =>
    intro k p h
    unfold vt at h
    split at h
    · split at h
      · obtain rfl := Option.some.inj h; exact Nat.le_refl _
      · cases h
    · split at h
      · obtain ⟨p1, h1, h⟩ := Option.bind_eq_some_iff.mp h
        split at h
        · obtain ⟨q, h2, h⟩ := Option.bind_eq_some_iff.mp h
          split at h
          · obtain rfl := Option.some.inj h
            have := ih _ _ h1
            have := ih _ _ h2
            show q.1 ≤ k
            omega
          · cases h
        · cases h
      · cases h
theorem vt_fuel (l : List S58) : ∀ k d, k + 1 ≤ d → vt l d k = vt l (k + 1) k := by
  intro k
  induction k using Nat.strongRecOn with
  | ind k ih =>
    intro d hd
    obtain ⟨d, rfl⟩ : ∃ m, d = m + 1 := ⟨d - 1, by omega⟩
    conv => lhs; unfold vt
    conv => rhs; unfold vt
    by_cases h0 : (rd_T58 l (k : Int)).f0 = -1 ∧ (rd_T58 l (k : Int)).f1 = -1
    · rw [if_pos h0, if_pos h0]
    · rw [if_neg h0, if_neg h0]
      by_cases h1 : (rd_T58 l (k : Int)).f2.toList = [] ∧ (rd_T58 l (k : Int)).f1 = (k : Int) - 1 ∧ 2 ≤ k
      · rw [if_pos h1, if_pos h1, ih (k - 1) (by omega) d (by omega), ih (k - 1) (by omega) k (by omega)]
        cases hv : vt l (k - 1 + 1) (k - 1) with
        | none => rfl
        | some p =>
          have hle := vt_le l _ _ _ hv
          rw [Option.bind_some, Option.bind_some]
          by_cases h2 : 1 ≤ p.1 ∧ (rd_T58 l (k : Int)).f0 = (p.1 : Int) - 1
          · rw [if_pos h2, if_pos h2, ih (p.1 - 1) (by omega) d (by omega), ih (p.1 - 1) (by omega) k (by omega)]
          · rw [if_neg h2, if_neg h2]
      · rw [if_neg h1, if_neg h1]
def V (l : List S58) (k : Nat) : Option (Nat × Limb) := vt l (k + 1) k
theorem V_leaf (l : List S58) (k : Nat) (h : (rd_T58 l (k : Int)).f0 = -1 ∧ (rd_T58 l (k : Int)).f1 = -1) : V l k = if leafB (rd_T58 l (k : Int)) = true then some (k, .node .nil .nil (rd_T58 l (k : Int)).f2 (rd_T58 l (k : Int)).f3 0) else none := by
  unfold V vt
  rw [if_pos h]
theorem V_fork (l : List S58) (k : Nat) (h : ¬ ((rd_T58 l (k : Int)).f0 = -1 ∧ (rd_T58 l (k : Int)).f1 = -1)) : V l k = if (rd_T58 l (k : Int)).f2.toList = [] ∧ (rd_T58 l (k : Int)).f1 = (k : Int) - 1 ∧ 2 ≤ k then
      (V l (k - 1)).bind fun p => if 1 ≤ p.1 ∧ (rd_T58 l (k : Int)).f0 = (p.1 : Int) - 1 then
        (V l (p.1 - 1)).bind fun q => if (rd_T58 l (k : Int)).f3 = q.2.size + p.2.size ∧ (rd_T58 l (k : Int)).f4 = 1 + max q.2.deep p.2.deep then some (q.1, .node q.2 p.2 ⟨#[]⟩ (rd_T58 l (k : Int)).f3 (rd_T58 l (k : Int)).f4) else none
      else none
    else none := by
  conv => lhs; unfold V vt
  rw [if_neg h]
  by_cases h1 : (rd_T58 l (k : Int)).f2.toList = [] ∧ (rd_T58 l (k : Int)).f1 = (k : Int) - 1 ∧ 2 ≤ k
  · rw [if_pos h1, if_pos h1, vt_fuel l (k - 1) k (by omega)]
    show (V l (k - 1)).bind _ = _
    cases hv : V l (k - 1) with
    | none => rfl
    | some p =>
      have hle := vt_le l _ _ _ hv
      rw [Option.bind_some, Option.bind_some]
      by_cases h2 : 1 ≤ p.1 ∧ (rd_T58 l (k : Int)).f0 = (p.1 : Int) - 1
      · rw [if_pos h2, if_pos h2, vt_fuel l (p.1 - 1) k (by omega)]
        rfl
      · rw [if_neg h2, if_neg h2]
  · rw [if_neg h1, if_neg h1]
/-- A tree as a rope has it. -/
def Gt : Limb → Prop
  | .nil => False
  | .node l r s n d => (l = .nil ∧ r = .nil ∧ 1 ≤ s.size ∧ s.size ≤ 8 ∧ okN s s.size 0 = true ∧ n = (s.size : Int) ∧ d = 0) ∨ (Gt l ∧ Gt r ∧ s = ⟨#[]⟩ ∧ n = l.size + r.size ∧ d = 1 + max l.deep r.deep)
theorem Gt_nil {t : Limb} (h : Gt t) : t.isNil = false := by
  cases t with
  | nil => exact h.elim
  | node l r s n d => rfl
theorem Gt_bd : ∀ {t : Limb}, Gt t → 1 ≤ cnt t ∧ 1 ≤ t.size ∧ t.size ≤ 8 * (cnt t : Int) ∧ 0 ≤ t.deep ∧ t.deep < (cnt t : Int)
  | .node l r s n d, h => by
    rcases h with ⟨rfl, rfl, h1, h2, -, rfl, rfl⟩ | ⟨hl, hr, -, rfl, rfl⟩
    · show 1 ≤ 1 ∧ 1 ≤ (s.size : Int) ∧ (s.size : Int) ≤ 8 * ((1 : Nat) : Int) ∧ (0 : Int) ≤ 0 ∧ (0 : Int) < ((1 : Nat) : Int)
      omega
    · have a := Gt_bd hl
      have b := Gt_bd hr
      have e : cnt (.node l r s (l.size + r.size) (1 + max l.deep r.deep)) = cnt l + cnt r + 1 := by
        show (if l.isNil = true then 1 else cnt l + cnt r + 1) = _
        rw [Gt_nil hl, if_neg (by simp)]
      rw [e]
      show 1 ≤ _ ∧ 1 ≤ l.size + r.size ∧ l.size + r.size ≤ _ ∧ 0 ≤ 1 + max l.deep r.deep ∧ 1 + max l.deep r.deep < _
      omega
theorem size_pos_of {s : ByteArray} (h : ¬ s.toList = []) : 1 ≤ s.size := by
  rcases Nat.eq_zero_or_pos s.size with e | e
  · exact absurd (by rw [toList_data]; exact List.eq_nil_of_length_eq_zero (show s.data.toList.length = 0 from e)) h
  · exact e
theorem V_spec (l : List S58) : ∀ k p, V l k = some p → p.1 ≤ k ∧ Gt p.2 ∧ cnt p.2 + p.1 = k + 1 ∧ p.2.size = (rd_T58 l (k : Int)).f3 ∧ p.2.deep = (rd_T58 l (k : Int)).f4 ∧ ∀ j, p.1 ≤ j → j ≤ k → (V l j).isSome = true := by
  intro k
  induction k using Nat.strongRecOn with
  | ind k ih =>
    intro p h
    have h00 := h
    by_cases h0 : (rd_T58 l (k : Int)).f0 = -1 ∧ (rd_T58 l (k : Int)).f1 = -1
    · rw [V_leaf l k h0] at h
      split at h
      · rename_i hl
        obtain rfl := Option.some.inj h
        unfold leafB at hl
        simp only [Bool.and_eq_true, Bool.not_eq_true', beq_eq_false_iff_ne, decide_eq_true_eq] at hl
        obtain ⟨l1, l2, l3, l4, l5⟩ := hl
        exact ⟨Nat.le_refl _, .inl ⟨rfl, rfl, size_pos_of l1, l2, l3, l4, rfl⟩, by show 1 + k = k + 1; omega, rfl, l5.symm, fun j a b => by { have a' : k ≤ j := a; have e : j = k := (by omega); rw [e, h00]; rfl }⟩
      · cases h
    · rw [V_fork l k h0] at h
      split at h
      · rename_i h1
        obtain ⟨p1, e1, h⟩ := Option.bind_eq_some_iff.mp h
        split at h
        · rename_i h2
          obtain ⟨q, e2, h⟩ := Option.bind_eq_some_iff.mp h
          split at h
          · rename_i h3
            obtain rfl := Option.some.inj h
            have i1 := ih (k - 1) (by omega) p1 e1
            have i2 := ih (p1.1 - 1) (by omega) q e2
            refine ⟨by show q.1 ≤ k; omega, .inr ⟨i2.2.1, i1.2.1, rfl, h3.1, h3.2⟩, ?_, rfl, rfl, fun j a b => ?_⟩
            · have e : cnt (.node q.2 p1.2 ⟨#[]⟩ (rd_T58 l (k : Int)).f3 (rd_T58 l (k : Int)).f4) = cnt q.2 + cnt p1.2 + 1 := by
                show (if q.2.isNil = true then 1 else cnt q.2 + cnt p1.2 + 1) = _
                rw [Gt_nil i2.2.1, if_neg (by simp)]
              show cnt _ + q.1 = k + 1
              rw [e]
              omega
            · have a' : q.1 ≤ j := a
              by_cases c1 : j ≤ p1.1 - 1
              · exact i2.2.2.2.2.2 j a' c1
              · by_cases c2 : j ≤ k - 1
                · exact i1.2.2.2.2.2 j (by omega) c2
                · have e : j = k := by omega
                  rw [e, h00]; rfl
          · cases h
        · cases h
      · cases h

/-! ropes: two trees joined -/
theorem fk_good {a b : Limb} (ha : Gt a) (hb : Gt b) (h : cnt a + cnt b ≤ 1000) : fk a b = .node a b ⟨#[]⟩ (a.size + b.size) (1 + max a.deep b.deep) := by
  have p := Gt_bd ha
  have q := Gt_bd hb
  cases a with
  | nil => exact ha.elim
  | node l r s n d =>
    cases b with
    | nil => exact hb.elim
    | node l' r' s' n' d' =>
      have e1 : (Limb.node l r s n d).size = n := rfl
      have e2 : (Limb.node l' r' s' n' d').size = n' := rfl
      have e3 : (Limb.node l r s n d).deep = d := rfl
      have e4 : (Limb.node l' r' s' n' d').deep = d' := rfl
      show Limb.node _ _ _ (wrap64 (n + n')) (wrap64 (1 + max d d')) = Limb.node _ _ _ (n + n') (1 + max d d')
      rw [w64 (i := n + n') (by omega) (by omega), w64 (i := 1 + max d d') (by omega) (by omega)]

/-! ropes: sameness -/
theorem rdT58 (l : List S58) (j : Nat) (h : j < l.length) : rd_T58 l (j : Int) = l[j] := by
  unfold rd_T58
  rw [Int.toNat_natCast, List.getD_eq_getElem?_getD, List.getElem?_eq_getElem h]; rfl
theorem eqBough_self (b : S58) : laws_eqBough.f b.f0 b.f1 b.f2 b.f3 b.f4 b.f0 b.f1 b.f2 b.f3 b.f4 = some true := by
  unfold laws_eqBough.f
  simp
theorem eqBoughS_l (l : List S58) (hl : l.length ≤ 1048576) : ∀ (d i : Nat), i + d = l.length → ∀ k, d < k → laws_eqBoughS.l0 k l l (i : Int) = some true := by
  intro d
  induction d with
  | zero =>
    intro i hi k hk
    obtain ⟨k, rfl⟩ : ∃ m, k = m + 1 := ⟨k - 1, by omega⟩
    simp only [laws_eqBoughS.l0]
    rw [if_neg (by omega)]
  | succ d ih =>
    intro i hi k hk
    obtain ⟨k, rfl⟩ : ∃ m, k = m + 1 := ⟨k - 1, by omega⟩
    have e2 : wrap64 ((i : Int) + 1) = ((i + 1 : Nat) : Int) := by rw [w64 (by omega) (by omega)]; omega
    simp only [laws_eqBoughS.l0]
    rw [if_pos (by omega), if_pos (by omega), if_pos (by omega), eqBough_self, Option.bind_some, if_pos rfl, e2]
    exact ih (i + 1) (by omega) k (by omega)
theorem eqRope_self (l : List S58) (hl : l.length ≤ 1048576) (k : Nat) (hk : l.length < k) : laws_eqRope.f k l l = some true := by
  unfold laws_eqRope.f laws_eqBoughS.f
  rw [if_pos rfl, show (0 : Int) = ((0 : Nat) : Int) from rfl, eqBoughS_l l hl l.length 0 (by omega) k hk, Option.bind_some, if_pos rfl]

/-! ropes: what a tree writes -/
def bo : Limb → List S58 → List S58
  | .nil, out => out
  | .node l r s n d, out => if l.isNil = true then out ++ [⟨-1, -1, s, n, 0⟩] else bo r (bo l out) ++ [⟨((bo l out).length : Int) - 1, ((bo r (bo l out)).length : Int) - 1, ⟨#[]⟩, n, d⟩]
/-- No tree, or a good one. -/
def GtN (t : Limb) : Prop := t = .nil ∨ Gt t
theorem bo_length (t : Limb) : ∀ out, (bo t out).length = out.length + cnt t := by
  induction t with
  | nil => intro out; rfl
  | node l r s n d ihl ihr =>
    intro out
    unfold bo cnt
    split
    · simp
    · simp only [List.length_append, ihr, ihl, List.length_singleton]; omega

/-! ropes: the boughs of a tree from a place on -/
def br : Limb → Nat → List S58
  | .nil, _ => []
  | .node l r s n d, o => if l.isNil = true then [⟨-1, -1, s, n, 0⟩] else br l o ++ br r (o + cnt l) ++ [⟨((o + cnt l : Nat) : Int) - 1, ((o + cnt l + cnt r : Nat) : Int) - 1, ⟨#[]⟩, n, d⟩]
theorem cnt_fork {l r : Limb} {s : ByteArray} {n d : Int} (h : l.isNil = false) : cnt (.node l r s n d) = cnt l + cnt r + 1 := by
  show (if l.isNil = true then 1 else cnt l + cnt r + 1) = _
  rw [h, if_neg (by simp)]
theorem br_fork {l r : Limb} {s : ByteArray} {n d : Int} (h : l.isNil = false) (o : Nat) : br (.node l r s n d) o = br l o ++ br r (o + cnt l) ++ [⟨((o + cnt l : Nat) : Int) - 1, ((o + cnt l + cnt r : Nat) : Int) - 1, ⟨#[]⟩, n, d⟩] := by
  show (if l.isNil = true then _ else _) = _
  rw [h, if_neg (by simp)]
theorem bo_br (t : Limb) : ∀ out, bo t out = out ++ br t out.length := by
  induction t with
  | nil => intro out; show out = out ++ []; rw [List.append_nil]
  | node l r s n d ihl ihr =>
    intro out
    have e1 := bo_length l out
    have e2 := bo_length r (bo l out)
    unfold bo br
    split
    · rfl
    · rw [e2, e1, ihr, e1, ihl]
      simp only [List.append_assoc]
theorem bo_nil (t : Limb) : bo t [] = br t 0 := by rw [bo_br]; rfl
theorem br_length (t : Limb) (o : Nat) : (br t o).length = cnt t := by
  have h := bo_length t (List.replicate o z58)
  rw [bo_br, List.length_append, List.length_replicate] at h
  omega
def sh (n : Int) (x : S58) : S58 := if x.f0 ≥ 0 then ⟨x.f0 + n, x.f1 + n, x.f2, x.f3, x.f4⟩ else x
theorem br_sh : ∀ {t : Limb}, Gt t → ∀ (o n : Nat), br t (o + n) = (br t o).map (sh (n : Int))
  | .node l r s m d, h, o, n => by
    rcases h with ⟨rfl, rfl, h1, h2, -, rfl, rfl⟩ | ⟨hl, hr, -, rfl, rfl⟩
    · rfl
    · have a := Gt_bd hl
      unfold br
      rw [Gt_nil hl, if_neg (by simp), if_neg (by simp), List.map_append, List.map_append, ← br_sh hl, ← br_sh hr, show o + n + cnt l = o + cnt l + n from by omega, List.map_singleton]
      have e : sh (n : Int) (⟨((o + cnt l : Nat) : Int) - 1, ((o + cnt l + cnt r : Nat) : Int) - 1, ⟨#[]⟩, l.size + r.size, 1 + max l.deep r.deep⟩ : S58) = ⟨((o + cnt l + n : Nat) : Int) - 1, ((o + cnt l + n + cnt r : Nat) : Int) - 1, ⟨#[]⟩, l.size + r.size, 1 + max l.deep r.deep⟩ := by
        unfold sh
        rw [if_pos (by show ((o + cnt l : Nat) : Int) - 1 ≥ 0; omega)]
        show (⟨((o + cnt l : Nat) : Int) - 1 + n, ((o + cnt l + cnt r : Nat) : Int) - 1 + n, _, _, _⟩ : S58) = _
        rw [show ((o + cnt l : Nat) : Int) - 1 + n = ((o + cnt l + n : Nat) : Int) - 1 from by omega, show ((o + cnt l + cnt r : Nat) : Int) - 1 + n = ((o + cnt l + n + cnt r : Nat) : Int) - 1 from by omega]
      rw [e]
theorem br_mem : ∀ {t : Limb}, Gt t → ∀ (o : Nat) (b : S58), b ∈ br t o → -1 ≤ b.f0 ∧ b.f0 < ((o + cnt t : Nat) : Int) ∧ -1 ≤ b.f1 ∧ b.f1 < ((o + cnt t : Nat) : Int) ∧ b.f2.size ≤ 8
  | .node l r s m d, h, o, b, hb => by
    rcases h with ⟨rfl, rfl, h1, h2, -, rfl, rfl⟩ | ⟨hl, hr, -, rfl, rfl⟩
    · have hb' : b ∈ [(⟨-1, -1, s, (s.size : Int), 0⟩ : S58)] := hb
      rw [List.mem_singleton.1 hb']
      refine ⟨Int.le_refl _, ?_, Int.le_refl _, ?_, h2⟩
      · show (-1 : Int) < _; omega
      · show (-1 : Int) < _; omega
    · have a1 := Gt_bd hl
      have a2 := Gt_bd hr
      unfold br at hb
      unfold cnt
      rw [Gt_nil hl, if_neg (by simp)] at hb ⊢
      rcases List.mem_append.1 hb with hb | hb
      · rcases List.mem_append.1 hb with hb | hb
        · have := br_mem hl o b hb; omega
        · have := br_mem hr _ b hb; omega
      · rw [List.mem_singleton.1 hb]
        refine ⟨?_, ?_, ?_, ?_, Nat.zero_le _⟩
        · show (-1 : Int) ≤ ((o + cnt l : Nat) : Int) - 1; omega
        · show ((o + cnt l : Nat) : Int) - 1 < _; omega
        · show (-1 : Int) ≤ ((o + cnt l + cnt r : Nat) : Int) - 1; omega
        · show ((o + cnt l + cnt r : Nat) : Int) - 1 < _; omega
theorem br_last {t : Limb} (h : Gt t) (o : Nat) : ∃ xs x, br t o = xs ++ [x] ∧ x.f3 = t.size ∧ x.f4 = t.deep := by
  cases t with
  | nil => exact h.elim
  | node l r s m d =>
    rcases h with ⟨rfl, rfl, h1, h2, -, rfl, rfl⟩ | ⟨hl, hr, -, rfl, rfl⟩
    · exact ⟨[], _, rfl, rfl, rfl⟩
    · unfold br
      rw [Gt_nil hl, if_neg (by simp)]
      exact ⟨_, _, rfl, rfl, rfl⟩
theorem rd_last (xs : List S58) (x : S58) (n : Nat) (h : n = xs.length) (ys : List S58) : rd_T58 (xs ++ ([x] ++ ys)) (n : Int) = x := by
  subst h
  rw [rdT58 _ _ (by simp)]
  simp
theorem rd_root {t : Limb} (h : Gt t) (n : Nat) (hn : n + 1 = cnt t) : (rd_T58 (br t 0) (n : Int)).f3 = t.size ∧ (rd_T58 (br t 0) (n : Int)).f4 = t.deep := by
  obtain ⟨xs, x, e, e3, e4⟩ := br_last h 0
  have hl := br_length t 0
  rw [e, List.length_append, List.length_singleton] at hl
  have := rd_last xs x n (by omega) []
  rw [List.append_nil] at this
  rw [e, this]
  exact ⟨e3, e4⟩

/-! ropes: two joined -/
theorem Join_l (a b : Limb) (ha : Gt a) (hb : Gt b) (hc : cnt a + cnt b ≤ 100000) : ∀ (d i : Nat) (x : List S58), i + d = cnt b → x.length = cnt a + i → ∀ k, d < k → spec_l12Join.l0 k (br a 0) (br b 0) x (br b 0) ((br b 0).length : Int) (i : Int) = some (x ++ ((br b 0).drop i).map (sh (cnt a : Int)) ++ [(⟨((cnt a : Nat) : Int) - 1, ((cnt a + cnt b : Nat) : Int) - 1, ⟨#[]⟩, a.size + b.size, 1 + max a.deep b.deep⟩ : S58)]) := by
  have pa := Gt_bd ha
  have pb := Gt_bd hb
  have la := br_length a 0
  have lb := br_length b 0
  intro d
  induction d with
  | zero =>
    intro i x hi hx k hk
    obtain ⟨k, rfl⟩ : ∃ m, k = m + 1 := ⟨k - 1, by omega⟩
    simp only [spec_l12Join.l0]
    have ea : Aside0 (wrap64 (((br a 0).length : Int) - 1) = ((cnt a - 1 : Nat) : Int)) := ⟨by rw [la, w64 (by omega) (by omega)]; omega⟩
    have eb : Aside0 (wrap64 (((br b 0).length : Int) - 1) = ((cnt b - 1 : Nat) : Int)) := ⟨by rw [lb, w64 (by omega) (by omega)]; omega⟩
    have ra := rd_root ha (cnt a - 1) (by omega)
    have rb := rd_root hb (cnt b - 1) (by omega)
    rw [if_neg (by omega), ea.out, eb.out, if_pos (by omega), if_pos (by omega), if_pos (by omega), if_pos (by omega), ra.1, ra.2, rb.1, rb.2, w64 (i := a.size + b.size) (by omega) (by omega), w64 (i := b.deep + 1) (by omega) (by omega), w64 (i := a.deep + 1) (by omega) (by omega), w64 (i := (x.length : Int) - 1) (by omega) (by omega), show i = (br b 0).length from by omega, List.drop_length, List.map_nil, List.append_nil, hx, show ((cnt a - 1 : Nat) : Int) = (cnt a : Int) - 1 from by omega]
    rw [show ((cnt a + i : Nat) : Int) - 1 = ((cnt a + cnt b : Nat) : Int) - 1 from by omega]
    by_cases c : b.deep > a.deep
    · rw [if_pos c, if_pos (by omega), show b.deep + 1 = 1 + max a.deep b.deep from by omega]
    · rw [if_neg c, if_pos (by omega), show a.deep + 1 = 1 + max a.deep b.deep from by omega]
  | succ d ih =>
    intro i x hi hx k hk
    obtain ⟨k, rfl⟩ : ∃ m, k = m + 1 := ⟨k - 1, by omega⟩
    have e2 : Aside0 (wrap64 ((i : Int) + 1) = ((i + 1 : Nat) : Int)) := ⟨by rw [w64 (by omega) (by omega)]; omega⟩
    have hil : i < (br b 0).length := by omega
    have hm := br_mem hb 0 (rd_T58 (br b 0) (i : Int)) (by rw [rdT58 _ _ hil]; exact List.getElem_mem hil)
    have hd : (br b 0).drop i = rd_T58 (br b 0) (i : Int) :: (br b 0).drop (i + 1) := by rw [List.drop_eq_getElem_cons hil, rdT58 _ i hil]
    simp only [spec_l12Join.l0]
    rw [if_pos (by omega), if_pos (by omega), if_pos (by omega), e2.out, hd, List.map_cons]
    generalize rd_T58 (br b 0) (i : Int) = y at hm ⊢
    by_cases c : y.f0 ≥ 0
    · rw [if_pos c, if_pos (by omega), w64 (by omega) (by omega), w64 (by omega) (by omega), ih (i + 1) _ (by omega) (by rw [List.length_append, List.length_singleton]; omega) k (by omega), la]
      have e : sh (cnt a : Int) y = ⟨y.f0 + (cnt a : Int), y.f1 + (cnt a : Int), y.f2, y.f3, y.f4⟩ := by
        unfold sh
        rw [if_pos c]
      rw [e]
      simp only [List.append_assoc, List.singleton_append, List.cons_append, List.nil_append]
    · rw [if_neg c, if_pos (by omega), ih (i + 1) _ (by omega) (by rw [List.length_append, List.length_singleton]; omega) k (by omega)]
      have e : sh (cnt a : Int) y = y := by
        unfold sh
        rw [if_neg c]
      rw [e]
      simp only [List.append_assoc, List.singleton_append, List.cons_append, List.nil_append]
theorem fk_nil (a : Limb) : fk a .nil = a := by cases a <;> rfl
theorem fk_GtN {a b : Limb} (ha : GtN a) (hb : GtN b) (h : cnt a + cnt b ≤ 1000) : GtN (fk a b) ∧ (fk a b).size = a.size + b.size ∧ (Gt a → Gt b → cnt (fk a b) = cnt a + cnt b + 1) := by
  rcases ha with rfl | ha
  · exact ⟨hb, by show b.size = 0 + b.size; omega, fun h => h.elim⟩
  · rcases hb with rfl | hb
    · rw [fk_nil]
      exact ⟨.inr ha, by show a.size = a.size + 0; omega, fun _ h => h.elim⟩
    · rw [fk_good ha hb h]
      exact ⟨.inr (.inr ⟨ha, hb, rfl, rfl, rfl⟩), rfl, fun _ _ => cnt_fork (Gt_nil ha)⟩
theorem join_ev (a b : Limb) (ha : GtN a) (hb : GtN b) (hc : cnt a + cnt b ≤ 1000) (k : Nat) (hk : cnt b < k) : spec_l12Join.f k (br a 0) (br b 0) = some (br (fk a b) 0) := by
  have la := br_length a 0
  have lb := br_length b 0
  unfold spec_l12Join.f
  rcases ha with rfl | ha
  · rw [if_pos (show ((br .nil 0).length : Int) = 0 from rfl)]; rfl
  · have pa := Gt_bd ha
    rw [if_neg (by omega)]
    rcases hb with rfl | hb
    · rw [if_pos (show ((br .nil 0).length : Int) = 0 from rfl), fk_nil]
    · have pb := Gt_bd hb
      rw [if_neg (by omega), Option.bind_some, if_pos (by rw [List.length_nil]; omega), List.nil_append, show (0 : Int) = ((0 : Nat) : Int) from rfl, Join_l a b ha hb (by omega) (cnt b) 0 _ (by omega) (by omega) k hk, List.drop_zero, fk_good ha hb hc, br_fork (Gt_nil ha), ← br_sh hb]
      simp only [Nat.zero_add]

/-! ropes: sizes of pieces -/
def psz : List ByteArray → Nat
  | [] => 0
  | p :: ps => p.size + psz ps
theorem psz_app (a b : List ByteArray) : psz (a ++ b) = psz a + psz b := by
  induction a with
  | nil => show _ = 0 + _; rw [Nat.zero_add]; rfl
  | cons x a ih => show x.size + psz (a ++ b) = x.size + psz a + psz b; omega

/-! ropes: one piece -/
def gp (s : ByteArray) : Prop := 1 ≤ s.size ∧ s.size ≤ 8 ∧ okN s s.size 0 = true
theorem lf_good {s : ByteArray} (h : gp s) : Gt (lf s) ∧ cnt (lf s) = 1 ∧ (lf s).size = (s.size : Int) ∧ br (lf s) 0 = [⟨-1, -1, s, (s.size : Int), 0⟩] := by
  have e : lf s = .node .nil .nil s (s.size : Int) 0 := by
    unfold lf
    rw [if_neg (fun c => by rw [tl_nil] at c; have := h.1; omega)]
  rw [e]
  exact ⟨.inl ⟨rfl, rfl, h.1, h.2.1, h.2.2, rfl, rfl⟩, rfl, rfl, rfl⟩

/-! ropes: pieces joined evenly -/
theorem pszR_cons (p : ByteArray) (ps : List ByteArray) : psz (p :: ps) = p.size + psz ps := rfl
theorem bal_ok : ∀ (d : Nat) (ps : List ByteArray), ps.length ≤ d → ps.length ≤ 400 → (∀ p ∈ ps, gp p) → GtN (bal d ps) ∧ (ps ≠ [] → Gt (bal d ps)) ∧ cnt (bal d ps) = 2 * ps.length - 1 ∧ (bal d ps).size = (psz ps : Int) := by
  intro d
  induction d with
  | zero =>
    intro ps hd hl hg
    have e : ps = [] := List.length_eq_zero_iff.1 (by omega)
    subst e
    exact ⟨.inl rfl, fun h => absurd rfl h, rfl, rfl⟩
  | succ d ih =>
    intro ps hd hl hg
    have hB : bal (d + 1) ps = if ps.length = 0 then .nil else (if ps.length = 1 then lf (rdOf ByteArray.empty ps 0) else fk (bal d (ps.take ((ps.length + 1) / 2))) (bal d (ps.drop ((ps.length + 1) / 2)))) := rfl
    rw [hB]
    by_cases h0 : ps.length = 0
    · have e : ps = [] := List.length_eq_zero_iff.1 h0
      subst e
      exact ⟨.inl rfl, fun h => absurd rfl h, rfl, rfl⟩
    · rw [if_neg h0]
      by_cases h1 : ps.length = 1
      · rw [if_pos h1]
        obtain ⟨p, e⟩ := List.length_eq_one_iff.1 h1
        subst e
        obtain ⟨a, b, c, _⟩ := lf_good (hg p (List.mem_singleton.2 rfl))
        exact ⟨.inr a, fun _ => a, b, c⟩
      · rw [if_neg h1]
        have lt : (ps.take ((ps.length + 1) / 2)).length = (ps.length + 1) / 2 := by rw [List.length_take]; omega
        have ld : (ps.drop ((ps.length + 1) / 2)).length = ps.length - (ps.length + 1) / 2 := by rw [List.length_drop]
        obtain ⟨a1, a2, a3, a4⟩ := ih (ps.take ((ps.length + 1) / 2)) (by omega) (by omega) (fun p hp => hg p (List.mem_of_mem_take hp))
        obtain ⟨b1, b2, b3, b4⟩ := ih (ps.drop ((ps.length + 1) / 2)) (by omega) (by omega) (fun p hp => hg p (List.mem_of_mem_drop hp))
        have ga := a2 (fun e => by rw [e] at lt; have : (0 : Nat) = _ := lt; omega)
        have gb := b2 (fun e => by rw [e] at ld; have : (0 : Nat) = _ := ld; omega)
        obtain ⟨c1, c2, c3⟩ := fk_GtN a1 b1 (by omega)
        have c4 := c3 ga gb
        refine ⟨c1, fun _ => ?_, by omega, ?_⟩
        · rw [fk_good ga gb (by omega)]
          exact .inr ⟨ga, gb, rfl, rfl, rfl⟩
        · rw [c2, a4, b4]
          have := psz_app (ps.take ((ps.length + 1) / 2)) (ps.drop ((ps.length + 1) / 2))
          rw [List.take_append_drop] at this
          omega
theorem Build_ev : ∀ (d : Nat) (ps : List ByteArray), ps.length ≤ d → ps.length ≤ 400 → (∀ p ∈ ps, gp p) → ∃ K, ∀ k, K ≤ k → spec_l12Build.f k ps = some (br (bal d ps) 0) := by
  intro d
  induction d with
  | zero =>
    intro ps hd hl hg
    have e : ps = [] := List.length_eq_zero_iff.1 (by omega)
    subst e
    refine ⟨1, fun k hk => ?_⟩
    obtain ⟨k, rfl⟩ : ∃ m, k = m + 1 := ⟨k - 1, by omega⟩
    simp only [spec_l12Build.f]
    rfl
  | succ d ih =>
    intro ps hd hl hg
    have hB : bal (d + 1) ps = if ps.length = 0 then .nil else (if ps.length = 1 then lf (rdOf ByteArray.empty ps 0) else fk (bal d (ps.take ((ps.length + 1) / 2))) (bal d (ps.drop ((ps.length + 1) / 2)))) := rfl
    rw [hB]
    by_cases h0 : ps.length = 0
    · refine ⟨1, fun k hk => ?_⟩
      obtain ⟨k, rfl⟩ : ∃ m, k = m + 1 := ⟨k - 1, by omega⟩
      simp only [spec_l12Build.f]
      rw [if_pos (by omega), if_pos h0]
      rfl
    · rw [if_neg h0]
      by_cases h1 : ps.length = 1
      · rw [if_pos h1]
        obtain ⟨p, e⟩ := List.length_eq_one_iff.1 h1
        refine ⟨1, fun k hk => ?_⟩
        obtain ⟨k, rfl⟩ : ∃ m, k = m + 1 := ⟨k - 1, by omega⟩
        simp only [spec_l12Build.f]
        rw [if_neg (by omega), if_pos (by omega), if_pos (by omega)]
        unfold spec_l12Piece.f
        rw [Option.bind_some]
        subst e
        rw [(lf_good (hg p (List.mem_singleton.2 rfl)) : Gt (lf (rdOf ByteArray.empty [p] 0)) ∧ _).2.2.2]
      · rw [if_neg h1]
        have lt : (ps.take ((ps.length + 1) / 2)).length = (ps.length + 1) / 2 := by rw [List.length_take]; omega
        have ld : (ps.drop ((ps.length + 1) / 2)).length = ps.length - (ps.length + 1) / 2 := by rw [List.length_drop]
        have ga := fun p hp => hg p (List.mem_of_mem_take (i := (ps.length + 1) / 2) hp)
        have gb := fun p hp => hg p (List.mem_of_mem_drop (i := (ps.length + 1) / 2) hp)
        obtain ⟨K1, hK1⟩ := ih _ (by omega) (by omega) ga
        obtain ⟨K2, hK2⟩ := ih _ (by omega) (by omega) gb
        obtain ⟨a1, -, a3, -⟩ := bal_ok d _ (by omega) (by omega) ga
        obtain ⟨b1, -, b3, -⟩ := bal_ok d _ (by omega) (by omega) gb
        refine ⟨K1 + K2 + 1002, fun k hk => ?_⟩
        obtain ⟨k, rfl⟩ : ∃ m, k = m + 1 := ⟨k - 1, by omega⟩
        have e1 : Aside0 (wrap64 (Int.tdiv (wrap64 ((ps.length : Int) + 1)) 2) = (((ps.length + 1) / 2 : Nat) : Int)) := ⟨by
          rw [w64 (i := (ps.length : Int) + 1) (by omega) (by omega), Int.tdiv_eq_ediv_of_nonneg (by omega), w64 (by omega) (by omega)]; omega⟩
        simp only [spec_l12Build.f]
        rw [if_neg (by omega), if_neg (by omega), e1.out, if_pos (by omega), if_pos (by omega), Int.toNat_natCast, hK1 k (by omega), Option.bind_some, hK2 k (by omega), Option.bind_some, join_ev _ _ a1 b1 (by omega) k (by omega), Option.bind_some]

/-! ropes: a tree written out -/
theorem bgs_bo (t : Limb) : ∀ out, bgs t out = bo t out := by
  induction t with
  | nil => intro out; rfl
  | node l r s n d ihl ihr =>
    intro out
    unfold bgs bo
    rw [ihr, ihl]
theorem ropeF_ev {t : Limb} (h : GtN t) (hc : cnt t ≤ 10000) (hz : 0 ≤ t.size) : ropeF t = some (if cnt t ≤ 200 ∧ t.size ≤ 300 then (br t 0, true) else ([], false)) := by
  unfold ropeF
  rw [if_pos (by omega), bgs_bo, bo_nil]
  by_cases c1 : cnt t ≤ 200
  · rw [if_neg (by omega)]
    rcases h with rfl | h
    · rw [if_pos (show Limb.nil.isNil = true from rfl), if_pos ⟨c1, by show (0 : Int) ≤ 300; omega⟩]
    · rw [Gt_nil h, if_neg (by simp)]
      by_cases c2 : t.size ≤ 300
      · rw [if_neg (by omega), if_pos ⟨c1, c2⟩]
      · rw [if_pos (by omega), if_neg (fun h => c2 h.2)]
  · rw [if_pos (by omega), if_neg (fun h => c1 h.1)]

/-! ropes: a text cut into pieces -/
theorem Cut_l : ∀ (n : Nat) (s : ByteArray) (x : List ByteArray), s.size ≤ n → okN s s.size 0 = true → x.length + s.size ≤ 1000000 → ∃ ps, (∀ k, n < k → spec_l12Cut.l0 k s x = some (x ++ ps) ∧ impl_chunks.l0 k s x = some (x ++ ps)) ∧ (∀ p ∈ ps, gp p) ∧ 8 * ps.length ≤ s.size + 7 ∧ psz ps = s.size := by
  intro n
  induction n with
  | zero =>
    intro s x hn ho hx
    have e : s.toList = [] := tl_nil.2 (by omega)
    refine ⟨[], fun k hk => ?_, fun p hp => (by cases hp), by show 8 * 0 ≤ _; omega, by show 0 = s.size; omega⟩
    obtain ⟨k, rfl⟩ : ∃ m, k = m + 1 := ⟨k - 1, by omega⟩
    rw [List.append_nil]
    constructor
    · simp only [spec_l12Cut.l0]
      rw [if_neg (by omega), if_pos e]
    · simp only [impl_chunks.l0]
      rw [if_neg (by omega), if_pos e]
  | succ n ih =>
    intro s x hn ho hx
    by_cases h8 : (s.size : Int) > 8
    · have e1 : (s.extract 8 s.size).size = s.size - 8 := by rw [ByteArray.size_extract]; omega
      have e2 : (s.extract 0 8).size = 8 := by rw [ByteArray.size_extract]; omega
      obtain ⟨ps, h1, h2, h3, h4⟩ := ih (s.extract 8 s.size) (x ++ [s.extract 0 8]) (by omega) (okN_sub ho 8 s.size (Nat.le_refl _)) (by rw [List.length_append, List.length_singleton]; omega)
      refine ⟨s.extract 0 8 :: ps, fun k hk => ?_, fun p hp => ?_, by rw [List.length_cons]; omega, by rw [pszR_cons]; omega⟩
      · obtain ⟨k, rfl⟩ : ∃ m, k = m + 1 := ⟨k - 1, by omega⟩
        have h := h1 k (by omega)
        rw [List.append_assoc] at h
        constructor
        · simp only [spec_l12Cut.l0]
          rw [if_pos h8, if_pos (by omega), if_pos (by omega), if_pos (by omega), h.1]
          rfl
        · simp only [impl_chunks.l0]
          rw [if_pos h8, if_pos (by omega), if_pos (by omega), if_pos (by omega), h.2]
          rfl
      · rcases List.mem_cons.1 hp with rfl | hp
        · exact ⟨by omega, by omega, okN_sub ho 0 8 (by omega)⟩
        · exact h2 p hp
    · by_cases h0 : s.toList = []
      · have hz := tl_nil.1 h0
        refine ⟨[], fun k hk => ?_, fun p hp => (by cases hp), by show 8 * 0 ≤ _; omega, by show 0 = s.size; omega⟩
        obtain ⟨k, rfl⟩ : ∃ m, k = m + 1 := ⟨k - 1, by omega⟩
        rw [List.append_nil]
        constructor
        · simp only [spec_l12Cut.l0]
          rw [if_neg h8, if_pos h0]
        · simp only [impl_chunks.l0]
          rw [if_neg h8, if_pos h0]
      · have hz : s.size ≠ 0 := fun c => h0 (tl_nil.2 c)
        refine ⟨[s], fun k hk => ?_, fun p hp => ?_, by show 8 * 1 ≤ _; omega, by show s.size + 0 = s.size; omega⟩
        · obtain ⟨k, rfl⟩ : ∃ m, k = m + 1 := ⟨k - 1, by omega⟩
          constructor
          · simp only [spec_l12Cut.l0]
            rw [if_neg h8, if_neg h0, if_pos (by omega)]
          · simp only [impl_chunks.l0]
            rw [if_neg h8, if_neg h0, if_pos (by omega)]
        · rw [List.mem_singleton.1 hp]
          exact ⟨by omega, by omega, ho⟩
theorem Cut_ev (s : ByteArray) (hs : s.size ≤ 100000) (ho : okN s s.size 0 = true) : ∃ ps, (∀ k, s.size < k → spec_l12Cut.f k s = some ps ∧ impl_chunks.f k s = some ps) ∧ (∀ p ∈ ps, gp p) ∧ 8 * ps.length ≤ s.size + 7 ∧ psz ps = s.size := by
  obtain ⟨ps, h1, h2, h3, h4⟩ := Cut_l s.size s [] (Nat.le_refl _) ho (by rw [List.length_nil]; omega)
  refine ⟨ps, fun k hk => ?_, h2, h3, h4⟩
  have h := h1 k hk
  rw [List.nil_append] at h
  exact h

/-! ropes: marks: what is written is read there again -/
def mT (n : Nat) : ByteArray := (laws_markText.f 100 (n : Int)).getD ⟨#[]⟩
theorem markText_l : ∀ (d n : Nat) (x : ByteArray), n < 10 ^ d → n ≤ 1000000000 → x.size + d ≤ 1000 → ∃ t, ∀ k, d < k → laws_markText.l0 k (n : Int) x = some t := by
  intro d
  induction d with
  | zero =>
    intro n x hn hnb hx
    have : n = 0 := by simpa using hn
    subst this
    refine ⟨(⟨#[109]⟩ : ByteArray) ++ x, fun k hk => ?_⟩
    obtain ⟨k, rfl⟩ : ∃ m, k = m + 1 := ⟨k - 1, by omega⟩
    simp only [laws_markText.l0]
    rw [if_neg (by omega), if_pos (by omega)]
  | succ d ih =>
    intro n x hn hnb hx
    by_cases h0 : n = 0
    · subst h0
      refine ⟨(⟨#[109]⟩ : ByteArray) ++ x, fun k hk => ?_⟩
      obtain ⟨k, rfl⟩ : ∃ m, k = m + 1 := ⟨k - 1, by omega⟩
      simp only [laws_markText.l0]
      rw [if_neg (by omega), if_pos (by omega)]
    · have hsz : ∀ c : Int, (strOfNums [c]).size = 1 := fun c => rfl
      obtain ⟨t, ht⟩ := ih (n / 10) (strOfNums [wrap64 (48 + Int.tmod (n : Int) 10) % 256] ++ x) (by rw [Nat.pow_succ] at hn; omega) (by omega) (by rw [ByteArray.size_append, hsz]; omega)
      refine ⟨t, fun k hk => ?_⟩
      obtain ⟨k, rfl⟩ : ∃ m, k = m + 1 := ⟨k - 1, by omega⟩
      simp only [laws_markText.l0]
      have hd : Int.tdiv (n : Int) 10 = ((n / 10 : Nat) : Int) := by rw [Int.tdiv_eq_ediv_of_nonneg (by omega)]; omega
      rw [if_pos (by omega), Option.bind_some, if_pos (by rw [hsz]; omega), hd]
      rw [w64 (by omega) (by omega)]
      exact ht k (by omega)
theorem mT_ev (n : Nat) (hn : n ≤ 1000000000) (k : Nat) (hk : 100 ≤ k) : laws_markText.f k (n : Int) = some (mT n) := by
  by_cases h0 : n = 0
  · subst h0
    unfold mT laws_markText.f
    rfl
  · obtain ⟨t, ht⟩ := markText_l 10 n ⟨#[]⟩ (by omega) (by omega) (by show 0 + 10 ≤ 1000; omega)
    have e : ∀ k, 100 ≤ k → laws_markText.f k (n : Int) = some t := by
      intro k hk
      unfold laws_markText.f
      rw [if_neg (by omega)]
      exact ht k (by omega)
    unfold mT
    rw [e k hk, e 100 (Nat.le_refl _)]
    rfl
def mkB (s i : Nat) : S58 := ⟨((s + 5 * i : Nat) : Int), ((s + 1 + 5 * i : Nat) : Int), mT (s + 2 + 5 * i), ((s + 3 + 5 * i : Nat) : Int), ((s + 4 + 5 * i : Nat) : Int)⟩
theorem rdB_set {t : List S58} {i : Nat} {v : S58} (h : i < t.length) (j : Nat) : rd_T58 (t.set i v) (j : Int) = if j = i then v else rd_T58 t (j : Int) := by
  unfold rd_T58
  simp only [Int.toNat_natCast, List.getD_eq_getElem?_getD]
  by_cases e : j = i
  · subst e; simp [h]
  · rw [List.getElem?_set_ne (by omega)]; simp [e]
theorem markBoughS_l (s m : Nat) (hs : s ≤ 100000000) (hm : m ≤ 10000000) : ∀ (d i : Nat) (x : List S58), i + d = m → x.length = m → (∀ j, j < i → rd_T58 x (j : Int) = mkB s j) → ∀ k, 200 + d ≤ k → laws_markBoughS.l0 k x ((s + 5 * i : Nat) : Int) (i : Int) = some (((s + 5 * m : Nat) : Int), (List.range m).map (mkB s)) := by
  intro d
  induction d with
  | zero =>
    intro i x hi hl hx k hk
    obtain ⟨k, rfl⟩ : ∃ m, k = m + 1 := ⟨k - 1, by omega⟩
    simp only [laws_markBoughS.l0]
    have hi' : i = m := by omega
    subst hi'
    rw [if_neg (by omega)]
    have : x = (List.range i).map (mkB s) := by
      apply List.ext_getElem
      · simp [hl]
      · intro j h1 h2
        simp only [List.getElem_map, List.getElem_range]
        rw [← hx j (by omega)]
        unfold rd_T58
        simp [List.getD, h1]
    rw [this]
  | succ d ih =>
    intro i x hi hl hx k hk
    obtain ⟨k, rfl⟩ : ∃ m, k = m + 1 := ⟨k - 1, by omega⟩
    have c1 : Aside0 (wrap64 (((s + 5 * i : Nat) : Int) + 1) = ((s + 1 + 5 * i : Nat) : Int)) := ⟨by rw [w64 (by omega) (by omega)]; omega⟩
    have c2 : Aside0 (wrap64 (((s + 1 + 5 * i : Nat) : Int) + 1) = ((s + 2 + 5 * i : Nat) : Int)) := ⟨by rw [w64 (by omega) (by omega)]; omega⟩
    have c3 : Aside0 (wrap64 (((s + 2 + 5 * i : Nat) : Int) + 1) = ((s + 3 + 5 * i : Nat) : Int)) := ⟨by rw [w64 (by omega) (by omega)]; omega⟩
    have c4 : Aside0 (wrap64 (((s + 3 + 5 * i : Nat) : Int) + 1) = ((s + 4 + 5 * i : Nat) : Int)) := ⟨by rw [w64 (by omega) (by omega)]; omega⟩
    have c5 : Aside0 (wrap64 (((s + 4 + 5 * i : Nat) : Int) + 1) = ((s + 5 * (i + 1) : Nat) : Int)) := ⟨by rw [w64 (by omega) (by omega)]; omega⟩
    have c6 : Aside0 (wrap64 ((i : Int) + 1) = ((i + 1 : Nat) : Int)) := ⟨by rw [w64 (by omega) (by omega)]; omega⟩
    simp only [laws_markBoughS.l0]
    rw [if_pos (by omega), if_pos (by omega)]
    simp only [Option.bind_some, c1.out, c2.out, c3.out, c4.out, c5.out, c6.out, Int.toNat_natCast]
    rw [mT_ev _ (by omega) k (by omega)]
    simp only [Option.bind_some]
    have hlt : i < x.length := by omega
    simp only [rdB_set hlt, if_true, List.set_set]
    refine ih (i + 1) _ (by omega) (by simp [hl]) (fun j hj => ?_) k (by omega)
    rw [rdB_set hlt]
    by_cases e : j = i
    · rw [if_pos e, e]; rfl
    · rw [if_neg e]; exact hx j (by omega)
theorem markRope_ev (l : List S58) (s : Nat) (hs : s ≤ 100000000) (hm : l.length ≤ 10000000) (k : Nat) (hk : 200 + l.length ≤ k) : laws_markRope.f k l (s : Int) = some (((s + 5 * l.length : Nat) : Int), (List.range l.length).map (mkB s)) := by
  have h := markBoughS_l s l.length hs hm l.length 0 l (by omega) rfl (fun j hj => by omega) k hk
  unfold laws_markRope.f laws_markBoughS.f
  rw [show s + 5 * 0 = s from rfl, show ((0 : Nat) : Int) = 0 from rfl] at h
  rw [h]
  rfl

/-! ropes: what is held there -/
theorem heldBoughS_l (s m : Nat) (hs : s ≤ 100000000) (hm : m ≤ 10000000) : ∀ (d i : Nat), i + d = m → ∀ k, 200 + d ≤ k → laws_heldBoughS.l0 k ((List.range m).map (mkB s)) ((s + 5 * i : Nat) : Int) (i : Int) = some ((s + 5 * m : Nat) : Int) := by
  intro d
  induction d with
  | zero =>
    intro i hi k hk
    obtain ⟨k, rfl⟩ : ∃ m, k = m + 1 := ⟨k - 1, by omega⟩
    simp only [laws_heldBoughS.l0]
    have hi' : i = m := by omega
    subst hi'
    rw [if_neg (by simp)]
  | succ d ih =>
    intro i hi k hk
    obtain ⟨k, rfl⟩ : ∃ m, k = m + 1 := ⟨k - 1, by omega⟩
    have c1 : Aside0 (wrap64 (((s + 5 * i : Nat) : Int) + 1) = ((s + 1 + 5 * i : Nat) : Int)) := ⟨by rw [w64 (by omega) (by omega)]; omega⟩
    have c2 : Aside0 (wrap64 (((s + 1 + 5 * i : Nat) : Int) + 1) = ((s + 2 + 5 * i : Nat) : Int)) := ⟨by rw [w64 (by omega) (by omega)]; omega⟩
    have c3 : Aside0 (wrap64 (((s + 2 + 5 * i : Nat) : Int) + 1) = ((s + 3 + 5 * i : Nat) : Int)) := ⟨by rw [w64 (by omega) (by omega)]; omega⟩
    have c4 : Aside0 (wrap64 (((s + 3 + 5 * i : Nat) : Int) + 1) = ((s + 4 + 5 * i : Nat) : Int)) := ⟨by rw [w64 (by omega) (by omega)]; omega⟩
    have c5 : Aside0 (wrap64 (((s + 4 + 5 * i : Nat) : Int) + 1) = ((s + 5 * (i + 1) : Nat) : Int)) := ⟨by rw [w64 (by omega) (by omega)]; omega⟩
    have c6 : Aside0 (wrap64 ((i : Int) + 1) = ((i + 1 : Nat) : Int)) := ⟨by rw [w64 (by omega) (by omega)]; omega⟩
    have hr : rd_T58 ((List.range m).map (mkB s)) (i : Int) = mkB s i := by
      unfold rd_T58
      simp [List.getD, (by omega : i < m)]
    simp only [laws_heldBoughS.l0]
    rw [if_pos (by simp; omega), if_pos (by omega), hr]
    simp only [mkB, if_true, c1.out, c2.out, c3.out, c4.out, c5.out, c6.out]
    rw [mT_ev _ (by omega) k (by omega)]
    simp only [Option.bind_some, if_true]
    exact ih (i + 1) (by omega) k (by omega)
theorem heldRope_ev (m s : Nat) (hs : s ≤ 100000000) (hm : m ≤ 10000000) (k : Nat) (hk : 200 + m ≤ k) : laws_heldRope.f k ((List.range m).map (mkB s)) (s : Int) = some ((s + 5 * m : Nat) : Int) := by
  have h := heldBoughS_l s m hs hm m 0 (by omega) k hk
  unfold laws_heldRope.f laws_heldBoughS.f
  rw [show s + 5 * 0 = s from rfl, show ((0 : Nat) : Int) = 0 from rfl] at h
  rw [h, Option.bind_some, if_neg (by omega)]

theorem spec_GoodText_evR (s : ByteArray) (hs : s.size ≤ 140737488351232) : ∃ K, ∀ k, K ≤ k → spec_GoodText.f k s = some (textB s) := by
  obtain ⟨K, hK⟩ := spec_l1Text_ev s hs
  refine ⟨K, fun k hk => ?_⟩
  unfold spec_GoodText.f textB
  rw [hK k hk, Option.bind_some]
  cases okN s s.size 0
  · rfl
  · rw [if_pos rfl, Bool.true_and]
    congr 1
    exact decide_eq_decide.2 (by omega)
theorem RopeOf_ev (s : ByteArray) (hs : s.size ≤ 1048576) : ∃ r K, r.1.length ≤ 200 ∧ ∀ m, K ≤ m → spec_RopeOf.f m s = some r ∧ impl_RopeOf.f m s = some r := by
  obtain ⟨K1, h1⟩ := spec_GoodText_evR s (by omega)
  obtain ⟨K2, h2⟩ := impl_GoodText_ev s (by omega)
  cases hg : textB s with
  | false =>
    refine ⟨([], false), K1 + K2, Nat.zero_le _, fun m hm => ⟨?_, ?_⟩⟩
    · unfold spec_RopeOf.f
      rw [h1 _ (by omega), hg, Option.bind_some, if_neg (by simp)]
    · unfold impl_RopeOf.f
      rw [h2 _ (by omega), hg, Option.bind_some, if_neg (by simp)]
  | true =>
    have hz := textB_size hg
    have ho : okN s s.size 0 = true := by
      unfold textB at hg
      rw [Bool.and_eq_true] at hg
      exact hg.1
    obtain ⟨ps, h3, h4, h5, h6⟩ := Cut_ev s (by omega) ho
    obtain ⟨K3, h7⟩ := Build_ev ps.length ps (Nat.le_refl _) (by omega) h4
    obtain ⟨c1, -, c3, c4⟩ := bal_ok ps.length ps (Nat.le_refl _) (by omega) h4
    refine ⟨(br (bal ps.length ps) 0, true), K1 + K2 + K3 + s.size + 1, by show (br _ 0).length ≤ 200; rw [br_length]; omega, fun m hm => ⟨?_, ?_⟩⟩
    · unfold spec_RopeOf.f
      rw [h1 _ (by omega), hg, Option.bind_some, if_pos rfl, (h3 m (by omega)).1, Option.bind_some, h7 m (by omega), Option.bind_some]
    · unfold impl_RopeOf.f
      rw [h2 _ (by omega), hg, Option.bind_some, if_pos rfl, (h3 m (by omega)).2, Option.bind_some, if_pos (by omega), ropeF_ev c1 (by omega) (by omega), if_pos ⟨by omega, by omega⟩]
theorem FnExactRopeOf : laws_FnExactRopeOf.Pure := by
  intro s hs
  by_cases hr : (s.size : Int) > 1048576
  · refine ⟨0, ?_⟩
    unfold laws_FnExactRopeOf.f
    rw [if_pos hr]
  · obtain ⟨q, K, hq, hK⟩ := RopeOf_ev s (by omega)
    refine ⟨K + 2000, ?_⟩
    unfold laws_FnExactRopeOf.f
    rw [if_neg hr, (hK _ (by omega)).1, Option.bind_some, (hK _ (by omega)).2, Option.bind_some, eqRope_self _ (by omega) _ (by omega), Option.bind_some, if_pos rfl, bne_self_eq_false]
    simp only [laws_FnExactRopeOf.j0]
    rw [if_neg (by simp), show (1 : Int) = ((1 : Nat) : Int) from rfl, markRope_ev _ 1 (by omega) (by omega) _ (by omega), Option.bind_some, heldRope_ev _ 1 (by omega) (by omega) _ (by omega), Option.bind_some, if_neg (by omega), if_pos rfl, (hK _ (by omega)).2, Option.bind_some, eqRope_self _ (by omega) _ (by omega), Option.bind_some, if_pos rfl, bne_self_eq_false]
    simp only [laws_FnExactRopeOf.j1]
    rw [if_neg (by simp), show (1 : Int) = ((1 : Nat) : Int) from rfl, heldRope_ev _ 1 (by omega) (by omega) _ (by omega), Option.bind_some, if_neg (by omega), if_pos rfl]

end Go.Proofs.Ytmkenlejdaphnaa.Pure
