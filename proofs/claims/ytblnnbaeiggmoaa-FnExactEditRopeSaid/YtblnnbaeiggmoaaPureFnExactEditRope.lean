/- EditRope of the program answers as the reference, for all rows of boughs and all changes, in memory of its own. -/
import Derived.Test.YtblnnbaeiggmoaaAFnExactEditRopex14
set_option linter.unusedVariables false
set_option linter.unusedSimpArgs false
namespace Go.Proofs.Ytblnnbaeiggmoaa.Pure
open Go.RowKit Go.Proofs.Ytblnnbaeiggmoaa.AFnExactEditRope Go.Proofs.YtblnnbaeiggmoaaW.PrintWords Go.Proofs.YtblnnbaeiggmoaaW.PrintLast Go.Proofs.YtblnnbaeiggmoaaW.PrintMore

theorem w64 {i : Int} (h0 : -4611686018427387904 ≤ i) (h : i ≤ 4611686018427387904) : wrap64 i = i := by
  unfold wrap64; omega

def nmB (c : Int) : Bool := decide (65 ≤ c) && decide (c ≤ 70)
def plB (c : Int) : Bool := (decide (97 ≤ c) && decide (c ≤ 122)) || ((decide (48 ≤ c) && decide (c ≤ 57)) || (decide (c = 32) || (decide (c = 46) || decide (c = 44))))
def okB (c : Int) : Bool := nmB c || (plB c || decide (c = 47))
def okN (s : ByteArray) : Nat → Nat → Bool
  | 0, _ => true
  | d + 1, i => okB (bt s i) && okN s d (i + 1)
def textB (s : ByteArray) : Bool := okN s s.size 0 && decide (s.size ≤ 300)

theorem textB_size {s : ByteArray} (h : textB s = true) : s.size ≤ 300 := by
  unfold textB at h; simp at h; exact h.2

theorem impl_isName_eq (c : Int) : impl_isName.f c = some (nmB c) := by
  unfold impl_isName.f nmB
  by_cases h1 : c ≥ 65 <;> simp [h1] <;> omega
theorem impl_isPlain_eq (c : Int) : impl_isPlain.f c = some (plB c) := by
  unfold impl_isPlain.f plB
  by_cases h1 : 97 ≤ c <;> by_cases h2 : c ≤ 122 <;> by_cases h3 : 48 ≤ c <;> by_cases h4 : c ≤ 57 <;> by_cases h5 : c = 32 <;> by_cases h6 : c = 46 <;> simp [h1, h2, h3, h4, h5, h6] <;> rfl
theorem impl_GoodText_l (s : ByteArray) (hs : s.size ≤ 140737488351232) : ∀ (d i : Nat), i + d = s.size →
    ∃ K, ∀ k, K ≤ k → impl_GoodText.l0 k s (s.size : Int) (i : Int) = some (okN s d i && decide (s.size ≤ 300)) := by
  intro d
  induction d with
  | zero =>
    intro i hi
    refine ⟨1, fun k hk => ?_⟩
    obtain ⟨k, rfl⟩ : ∃ m, k = m + 1 := ⟨k - 1, by omega⟩
    simp only [impl_GoodText.l0]
    rw [if_neg (by omega)]
    simp [okN]
    omega
  | succ d ih =>
    intro i hi
    obtain ⟨K, hK⟩ := ih (i + 1) (by omega)
    refine ⟨K + 1, fun k hk => ?_⟩
    obtain ⟨k, rfl⟩ : ∃ m, k = m + 1 := ⟨k - 1, by omega⟩
    have hr := hK k (by omega)
    simp only [impl_GoodText.l0]
    rw [if_pos (by omega), if_pos (by omega), if_pos (by omega), impl_isName_eq, Option.bind_some, impl_isPlain_eq, Option.bind_some, w64 (by omega) (by omega)]
    have hc : ((i : Int) + 1) = ((i + 1 : Nat) : Int) := by omega
    rw [hc, hr]
    show _ = some ((okB (bt s i) && okN s d (i + 1)) && _)
    unfold okB
    cases nmB (bt s i) <;> cases plB (bt s i) <;> by_cases h : bt s i = 47 <;> simp [h]
theorem impl_GoodText_ev (s : ByteArray) (hs : s.size ≤ 140737488351232) : ∃ K, ∀ k, K ≤ k → impl_GoodText.f k s = some (textB s) := by
  obtain ⟨K, hK⟩ := impl_GoodText_l s hs s.size 0 (by omega)
  exact ⟨K, fun k hk => by unfold impl_GoodText.f; exact hK k hk⟩

theorem spec_l1Open_eq (c : Int) : spec_l1Open.f c = some (nmB c) := by
  unfold spec_l1Open.f nmB
  by_cases h1 : c ≥ 65 <;> simp [h1] <;> omega
theorem spec_l1Plain_eq (c : Int) : spec_l1Plain.f c = some (plB c) := by
  unfold spec_l1Plain.f plB
  by_cases h1 : 97 ≤ c <;> by_cases h2 : c ≤ 122 <;> by_cases h3 : 48 ≤ c <;> by_cases h4 : c ≤ 57 <;> by_cases h5 : c = 32 <;> by_cases h6 : c = 46 <;> simp [h1, h2, h3, h4, h5, h6] <;> rfl
theorem spec_l1Text_l (s : ByteArray) (hs : s.size ≤ 140737488351232) : ∀ (d i : Nat), i + d = s.size →
    ∃ K, ∀ k, K ≤ k → spec_l1Text.l0 k s (i : Int) = some (okN s d i) := by
  intro d
  induction d with
  | zero =>
    intro i hi
    refine ⟨1, fun k hk => ?_⟩
    obtain ⟨k, rfl⟩ : ∃ m, k = m + 1 := ⟨k - 1, by omega⟩
    simp only [spec_l1Text.l0]
    rw [if_neg (by omega)]
    simp [okN]
  | succ d ih =>
    intro i hi
    obtain ⟨K, hK⟩ := ih (i + 1) (by omega)
    refine ⟨K + 1, fun k hk => ?_⟩
    obtain ⟨k, rfl⟩ : ∃ m, k = m + 1 := ⟨k - 1, by omega⟩
    have hr := hK k (by omega)
    simp only [spec_l1Text.l0]
    rw [if_pos (by omega), if_pos (by omega), spec_l1Open_eq, Option.bind_some, spec_l1Plain_eq, Option.bind_some, w64 (by omega) (by omega)]
    have hc : ((i : Int) + 1) = ((i + 1 : Nat) : Int) := by omega
    rw [hc, hr]
    show _ = some (okB (bt s i) && okN s d (i + 1))
    unfold okB
    cases nmB (bt s i) <;> cases plB (bt s i) <;> by_cases h : bt s i = 47 <;> simp [h]
theorem spec_l1Text_ev (s : ByteArray) (hs : s.size ≤ 140737488351232) : ∃ K, ∀ k, K ≤ k → spec_l1Text.f k s = some (okN s s.size 0) := by
  obtain ⟨K, hK⟩ := spec_l1Text_l s hs s.size 0 (by omega)
  refine ⟨K, fun k hk => ?_⟩
  have h := hK k hk
  unfold spec_l1Text.f
  simp only [Int.cast_ofNat_Int] at h
  exact h

theorem spec_GoodText_ev (s : ByteArray) (hs : s.size ≤ 140737488351232) : ∃ K, ∀ k, K ≤ k → spec_GoodText.f k s = some (textB s) := by
  obtain ⟨K, h⟩ := spec_l1Text_ev s hs
  refine ⟨K, fun k hk => ?_⟩
  unfold spec_GoodText.f
  rw [h k hk, Option.bind_some]
  unfold textB
  cases okN s s.size 0 <;> simp <;> omega

theorem toList_data (s : ByteArray) : s.toList = s.data.toList := by
  have h : ∀ (n i : Nat) (r : List UInt8), s.size - i = n → ByteArray.toList.loop s i r = r.reverse ++ s.data.toList.drop i := by
    intro n
    induction n with
    | zero =>
      intro i r h
      unfold ByteArray.toList.loop
      rw [if_neg (by omega), List.drop_of_length_le (by rw [Array.length_toList]; show s.size ≤ i; omega)]; simp
    | succ n ih =>
      intro i r h
      have hi : i < s.size := by omega
      unfold ByteArray.toList.loop
      have e2 : s.data.toList.drop i = s.data.toList[i]'(by rw [Array.length_toList]; exact hi) :: s.data.toList.drop (i + 1) := List.drop_eq_getElem_cons (by rw [Array.length_toList]; exact hi)
      have e : s.get! i = s.data.toList[i]'(by rw [Array.length_toList]; exact hi) := by
        show s.data[i]! = _
        rw [getElem!_pos s.data i hi]; simp
      rw [if_pos hi, ih (i + 1) _ (by omega), e2, e, List.reverse_cons, List.append_assoc]; rfl
  unfold ByteArray.toList
  rw [h s.size 0 [] (by omega)]; simp
theorem bt_data (s : ByteArray) (i : Nat) (h : i < s.size) : bt s (i : Int) = ((s.data.toList[i]'(by rw [Array.length_toList]; exact h)).toNat : Int) := by
  unfold bt
  rw [dif_pos (by omega)]
  simp [ByteArray.getElem_eq_getElem_data]
theorem toList_eq_iff (a b : ByteArray) : a.toList = b.toList ↔ a.size = b.size ∧ ∀ j : Nat, j < a.size → bt a (j : Int) = bt b (j : Int) := by
  rw [toList_data, toList_data]
  constructor
  · intro h
    have hl : a.size = b.size := by
      have := congrArg List.length h
      rw [Array.length_toList, Array.length_toList] at this; exact this
    refine ⟨hl, fun j hj => ?_⟩
    rw [bt_data a j hj, bt_data b j (by omega)]
    simp only [h]
  · intro ⟨hl, h⟩
    apply List.ext_getElem
    · rw [Array.length_toList, Array.length_toList]; exact hl
    · intro j h1 h2
      rw [Array.length_toList] at h1 h2
      have := h j h1
      rw [bt_data a j h1, bt_data b j h2] at this
      have h3 : (a.data.toList[j]'(by rw [Array.length_toList]; exact h1)).toNat = (b.data.toList[j]'(by rw [Array.length_toList]; exact h2)).toNat := by omega
      exact UInt8.toNat_inj.mp h3
theorem bt_extract (s : ByteArray) (i j n : Nat) (hj : j ≤ s.size) (hn : i + n < j) : bt (s.extract i j) (n : Int) = bt s ((i + n : Nat) : Int) := by
  have h1 : n < (s.extract i j).size := by rw [ByteArray.size_extract]; omega
  unfold bt
  rw [dif_pos (by simpa using h1), dif_pos (by omega)]
  simp only [Int.toNat_natCast, ByteArray.getElem_extract]

def allB (b : ByteArray) : Prop := ∀ j : Nat, j < b.size → okB (bt b (j : Int)) = true
theorem okN_iff (b : ByteArray) : ∀ (d i : Nat), okN b d i = true ↔ ∀ j : Nat, i ≤ j → j < i + d → okB (bt b (j : Int)) = true
  | 0, i => by simp [okN]; intro j h1 h2; omega
  | d + 1, i => by
    simp only [okN, Bool.and_eq_true, okN_iff b d (i + 1)]
    constructor
    · intro ⟨h1, h2⟩ j hj hj2
      by_cases e : j = i
      · subst e; exact h1
      · exact h2 j (by omega) (by omega)
    · intro h
      exact ⟨h i (Nat.le_refl _) (by omega), fun j h1 h2 => h j (by omega) (by omega)⟩
theorem textB_iff (b : ByteArray) : textB b = true ↔ allB b ∧ b.size ≤ 300 := by
  unfold textB allB
  rw [Bool.and_eq_true, okN_iff, decide_eq_true_eq]
  constructor
  · intro ⟨h1, h2⟩; exact ⟨fun j hj => h1 j (Nat.zero_le _) (by omega), h2⟩
  · intro ⟨h1, h2⟩; exact ⟨fun j _ hj => h1 j (by omega), h2⟩
theorem allB_data (b : ByteArray) : allB b ↔ ∀ x ∈ b.data.toList, okB (x.toNat : Int) = true := by
  unfold allB
  constructor
  · intro h x hx
    obtain ⟨j, hj, rfl⟩ := List.mem_iff_getElem.mp hx
    have hj' : j < b.size := by rw [Array.length_toList] at hj; exact hj
    have := h j hj'
    rw [bt_data b j hj'] at this
    exact this
  · intro h j hj
    rw [bt_data b j hj]
    exact h _ (List.getElem_mem _)
theorem allB_append {a b : ByteArray} (ha : allB a) (hb : allB b) : allB (a ++ b) := by
  rw [allB_data] at ha hb ⊢
  intro x hx
  rw [ByteArray.data_append, Array.toList_append] at hx
  rcases List.mem_append.mp hx with h | h
  · exact ha x h
  · exact hb x h
theorem allB_extract {a : ByteArray} (ha : allB a) (i j : Nat) : allB (a.extract i j) := by
  rw [allB_data] at ha ⊢
  intro x hx
  rw [ByteArray.data_extract, Array.toList_extract] at hx
  exact ha x (List.mem_of_mem_drop (List.mem_of_mem_take (by simpa [List.extract] using hx)))

theorem okN_all {s : ByteArray} : okN s s.size 0 = true ↔ allB s := by
  rw [okN_iff]
  exact ⟨fun h j hj => h j (Nat.zero_le _) (by omega), fun h j _ hj => h j (by omega)⟩
theorem okN_sub {s : ByteArray} (h : okN s s.size 0 = true) (a b : Nat) (hb : b ≤ s.size) : okN (s.extract a b) (s.extract a b).size 0 = true :=
  okN_all.2 (allB_extract (okN_all.1 h) a b)

/-! ropes: what a row of boughs stands for -/
theorem tl_nil {s : ByteArray} : s.toList = [] ↔ s.size = 0 := by
  rw [toList_data]
  exact List.length_eq_zero_iff.symm
def leafB (b : S101) : Bool := !(b.f2.toList == []) && (decide (b.f2.size ≤ 8) && (okN b.f2 b.f2.size 0 && (decide (b.f3 = (b.f2.size : Int)) && decide (b.f4 = 0))))
/-- A bough at a place: where its own begin, and its tree. -/
def vt (l : List S101) : Nat → Nat → Option (Nat × Limb)
  | 0, _ => none
  | d + 1, k =>
    if (rd_T101 l (k : Int)).f0 = -1 ∧ (rd_T101 l (k : Int)).f1 = -1 then (if leafB (rd_T101 l (k : Int)) = true then some (k, .node .nil .nil (rd_T101 l (k : Int)).f2 (rd_T101 l (k : Int)).f3 0) else none)
    else (if (rd_T101 l (k : Int)).f2.toList = [] ∧ (rd_T101 l (k : Int)).f1 = (k : Int) - 1 ∧ 2 ≤ k then
      (vt l d (k - 1)).bind fun p => if 1 ≤ p.1 ∧ (rd_T101 l (k : Int)).f0 = (p.1 : Int) - 1 then
        (vt l d (p.1 - 1)).bind fun q => if (rd_T101 l (k : Int)).f3 = q.2.size + p.2.size ∧ (rd_T101 l (k : Int)).f4 = 1 + max q.2.deep p.2.deep then some (q.1, .node q.2 p.2 ⟨#[]⟩ (rd_T101 l (k : Int)).f3 (rd_T101 l (k : Int)).f4) else none
      else none
    else none)
theorem vt_le (l : List S101) : ∀ d k p, vt l d k = some p → p.1 ≤ k := by
  intro d
  induction d with
  | zero => intro k p h; cases h
  | succ d ih =>
    intro k p h
    unfold vt at h
    split at h
    · split at h
      · obtain rfl := Option.some.inj h; exact Nat.le_refl _
      · cases h
    · split at h
      · obtain ⟨p1, h1, h⟩ := Option.bind_eq_some_iff.mp h
        split at h
        · obtain ⟨q, h2, h⟩ := Option.bind_eq_some_iff.mp h
          split at h
          · obtain rfl := Option.some.inj h
            have := ih _ _ h1
            have := ih _ _ h2
            show q.1 ≤ k
            omega
          · cases h
        · cases h
      · cases h
theorem vt_fuel (l : List S101) : ∀ k d, k + 1 ≤ d → vt l d k = vt l (k + 1) k := by
  intro k
  induction k using Nat.strongRecOn with
  | ind k ih =>
    intro d hd
    obtain ⟨d, rfl⟩ : ∃ m, d = m + 1 := ⟨d - 1, by omega⟩
    conv => lhs; unfold vt
    conv => rhs; unfold vt
    by_cases h0 : (rd_T101 l (k : Int)).f0 = -1 ∧ (rd_T101 l (k : Int)).f1 = -1
    · rw [if_pos h0, if_pos h0]
    · rw [if_neg h0, if_neg h0]
      by_cases h1 : (rd_T101 l (k : Int)).f2.toList = [] ∧ (rd_T101 l (k : Int)).f1 = (k : Int) - 1 ∧ 2 ≤ k
      · rw [if_pos h1, if_pos h1, ih (k - 1) (by omega) d (by omega), ih (k - 1) (by omega) k (by omega)]
        cases hv : vt l (k - 1 + 1) (k - 1) with
        | none => rfl
        | some p =>
          have hle := vt_le l _ _ _ hv
          rw [Option.bind_some, Option.bind_some]
          by_cases h2 : 1 ≤ p.1 ∧ (rd_T101 l (k : Int)).f0 = (p.1 : Int) - 1
          · rw [if_pos h2, if_pos h2, ih (p.1 - 1) (by omega) d (by omega), ih (p.1 - 1) (by omega) k (by omega)]
          · rw [if_neg h2, if_neg h2]
      · rw [if_neg h1, if_neg h1]
def V (l : List S101) (k : Nat) : Option (Nat × Limb) := vt l (k + 1) k
theorem V_leaf (l : List S101) (k : Nat) (h : (rd_T101 l (k : Int)).f0 = -1 ∧ (rd_T101 l (k : Int)).f1 = -1) : V l k = if leafB (rd_T101 l (k : Int)) = true then some (k, .node .nil .nil (rd_T101 l (k : Int)).f2 (rd_T101 l (k : Int)).f3 0) else none := by
  unfold V vt
  rw [if_pos h]
theorem V_fork (l : List S101) (k : Nat) (h : ¬ ((rd_T101 l (k : Int)).f0 = -1 ∧ (rd_T101 l (k : Int)).f1 = -1)) : V l k = if (rd_T101 l (k : Int)).f2.toList = [] ∧ (rd_T101 l (k : Int)).f1 = (k : Int) - 1 ∧ 2 ≤ k then
      (V l (k - 1)).bind fun p => if 1 ≤ p.1 ∧ (rd_T101 l (k : Int)).f0 = (p.1 : Int) - 1 then
        (V l (p.1 - 1)).bind fun q => if (rd_T101 l (k : Int)).f3 = q.2.size + p.2.size ∧ (rd_T101 l (k : Int)).f4 = 1 + max q.2.deep p.2.deep then some (q.1, .node q.2 p.2 ⟨#[]⟩ (rd_T101 l (k : Int)).f3 (rd_T101 l (k : Int)).f4) else none
      else none
    else none := by
  conv => lhs; unfold V vt
  rw [if_neg h]
  by_cases h1 : (rd_T101 l (k : Int)).f2.toList = [] ∧ (rd_T101 l (k : Int)).f1 = (k : Int) - 1 ∧ 2 ≤ k
  · rw [if_pos h1, if_pos h1, vt_fuel l (k - 1) k (by omega)]
    show (V l (k - 1)).bind _ = _
    cases hv : V l (k - 1) with
    | none => rfl
    | some p =>
      have hle := vt_le l _ _ _ hv
      rw [Option.bind_some, Option.bind_some]
      by_cases h2 : 1 ≤ p.1 ∧ (rd_T101 l (k : Int)).f0 = (p.1 : Int) - 1
      · rw [if_pos h2, if_pos h2, vt_fuel l (p.1 - 1) k (by omega)]
        rfl
      · rw [if_neg h2, if_neg h2]
  · rw [if_neg h1, if_neg h1]
/-- A tree as a rope has it. -/
def Gt : Limb → Prop
  | .nil => False
  | .node l r s n d => (l = .nil ∧ r = .nil ∧ 1 ≤ s.size ∧ s.size ≤ 8 ∧ okN s s.size 0 = true ∧ n = (s.size : Int) ∧ d = 0) ∨ (Gt l ∧ Gt r ∧ s = ⟨#[]⟩ ∧ n = l.size + r.size ∧ d = 1 + max l.deep r.deep)
theorem Gt_nil {t : Limb} (h : Gt t) : t.isNil = false := by
  cases t with
  | nil => exact h.elim
  | node l r s n d => rfl
theorem Gt_bd : ∀ {t : Limb}, Gt t → 1 ≤ cnt t ∧ 1 ≤ t.size ∧ t.size ≤ 8 * (cnt t : Int) ∧ 0 ≤ t.deep ∧ t.deep < (cnt t : Int)
  | .node l r s n d, h => by
    rcases h with ⟨rfl, rfl, h1, h2, -, rfl, rfl⟩ | ⟨hl, hr, -, rfl, rfl⟩
    · show 1 ≤ 1 ∧ 1 ≤ (s.size : Int) ∧ (s.size : Int) ≤ 8 * ((1 : Nat) : Int) ∧ (0 : Int) ≤ 0 ∧ (0 : Int) < ((1 : Nat) : Int)
      omega
    · have a := Gt_bd hl
      have b := Gt_bd hr
      have e : cnt (.node l r s (l.size + r.size) (1 + max l.deep r.deep)) = cnt l + cnt r + 1 := by
        show (if l.isNil = true then 1 else cnt l + cnt r + 1) = _
        rw [Gt_nil hl, if_neg (by simp)]
      rw [e]
      show 1 ≤ _ ∧ 1 ≤ l.size + r.size ∧ l.size + r.size ≤ _ ∧ 0 ≤ 1 + max l.deep r.deep ∧ 1 + max l.deep r.deep < _
      omega
theorem size_pos_of {s : ByteArray} (h : ¬ s.toList = []) : 1 ≤ s.size := by
  rcases Nat.eq_zero_or_pos s.size with e | e
  · exact absurd (by rw [toList_data]; exact List.eq_nil_of_length_eq_zero (show s.data.toList.length = 0 from e)) h
  · exact e
theorem V_spec (l : List S101) : ∀ k p, V l k = some p → p.1 ≤ k ∧ Gt p.2 ∧ cnt p.2 + p.1 = k + 1 ∧ p.2.size = (rd_T101 l (k : Int)).f3 ∧ p.2.deep = (rd_T101 l (k : Int)).f4 ∧ ∀ j, p.1 ≤ j → j ≤ k → (V l j).isSome = true := by
  intro k
  induction k using Nat.strongRecOn with
  | ind k ih =>
    intro p h
    have h00 := h
    by_cases h0 : (rd_T101 l (k : Int)).f0 = -1 ∧ (rd_T101 l (k : Int)).f1 = -1
    · rw [V_leaf l k h0] at h
      split at h
      · rename_i hl
        obtain rfl := Option.some.inj h
        unfold leafB at hl
        simp only [Bool.and_eq_true, Bool.not_eq_true', beq_eq_false_iff_ne, decide_eq_true_eq] at hl
        obtain ⟨l1, l2, l3, l4, l5⟩ := hl
        exact ⟨Nat.le_refl _, .inl ⟨rfl, rfl, size_pos_of l1, l2, l3, l4, rfl⟩, by show 1 + k = k + 1; omega, rfl, l5.symm, fun j a b => by { have a' : k ≤ j := a; have e : j = k := (by omega); rw [e, h00]; rfl }⟩
      · cases h
    · rw [V_fork l k h0] at h
      split at h
      · rename_i h1
        obtain ⟨p1, e1, h⟩ := Option.bind_eq_some_iff.mp h
        split at h
        · rename_i h2
          obtain ⟨q, e2, h⟩ := Option.bind_eq_some_iff.mp h
          split at h
          · rename_i h3
            obtain rfl := Option.some.inj h
            have i1 := ih (k - 1) (by omega) p1 e1
            have i2 := ih (p1.1 - 1) (by omega) q e2
            refine ⟨by show q.1 ≤ k; omega, .inr ⟨i2.2.1, i1.2.1, rfl, h3.1, h3.2⟩, ?_, rfl, rfl, fun j a b => ?_⟩
            · have e : cnt (.node q.2 p1.2 ⟨#[]⟩ (rd_T101 l (k : Int)).f3 (rd_T101 l (k : Int)).f4) = cnt q.2 + cnt p1.2 + 1 := by
                show (if q.2.isNil = true then 1 else cnt q.2 + cnt p1.2 + 1) = _
                rw [Gt_nil i2.2.1, if_neg (by simp)]
              show cnt _ + q.1 = k + 1
              rw [e]
              omega
            · have a' : q.1 ≤ j := a
              by_cases c1 : j ≤ p1.1 - 1
              · exact i2.2.2.2.2.2 j a' c1
              · by_cases c2 : j ≤ k - 1
                · exact i1.2.2.2.2.2 j (by omega) c2
                · have e : j = k := by omega
                  rw [e, h00]; rfl
          · cases h
        · cases h
      · cases h

/-! ropes: the reference's walk back to a bough's first, and the opener -/
def vr (l : List S101) (k : Nat) : Int := match V l k with
  | none => -1
  | some p => (p.1 : Int)
theorem vr_none {l : List S101} {k : Nat} (h : V l k = none) : vr l k = -1 := by unfold vr; rw [h]
theorem vr_some {l : List S101} {k : Nat} {p : Nat × Limb} (h : V l k = some p) : vr l k = (p.1 : Int) := by unfold vr; rw [h]
theorem First_ev (l : List S101) (hn : l.length ≤ 200) (hS : ∀ k : Int, (rd_T101 l k).f2.size ≤ 1048576) : ∀ k : Nat, k < l.length → ∃ K, ∀ m, K ≤ m → spec_l12First.f m l (k : Int) = some (vr l k) := by
  intro k
  induction k using Nat.strongRecOn with
  | ind k ih =>
    intro hk
    have hE : ∀ m, spec_l12First.f (m + 1) l (k : Int) = spec_l12First.j0 m l (k : Int) (decide ((rd_T101 l (k : Int)).f0 = -1 ∧ (rd_T101 l (k : Int)).f1 = -1)) (rd_T101 l (k : Int)).f0 (rd_T101 l (k : Int)).f1 (rd_T101 l (k : Int)).f2 (rd_T101 l (k : Int)).f3 (rd_T101 l (k : Int)).f4 := by
      intro m
      simp only [spec_l12First.f]
      rw [if_pos (by omega), if_pos (by omega)]
      by_cases h : (rd_T101 l (k : Int)).f0 = -1
      · rw [if_pos h]
        by_cases h' : (rd_T101 l (k : Int)).f1 = -1
        · rw [decide_eq_true ⟨h, h'⟩, h']; rfl
        · rw [decide_eq_false (fun x => h' x.2), beq_false_of_ne h']
      · rw [if_neg h]
        simp [h]
    generalize hb : rd_T101 l (k : Int) = b at hE
    have hs := hS k
    rw [hb] at hs
    by_cases h0 : b.f0 = -1 ∧ b.f1 = -1
    · obtain ⟨K, hK⟩ := spec_l1Text_ev b.f2 (by omega)
      refine ⟨K + 2, fun m hm => ?_⟩
      obtain ⟨m, rfl⟩ : ∃ j, m = j + 2 := ⟨m - 2, by omega⟩
      rw [hE, decide_eq_true h0]
      simp only [spec_l12First.j0, if_true]
      have hv := V_leaf l k (by rw [hb]; exact h0)
      rw [hb] at hv
      unfold spec_l1In.f
      rw [hK m (by omega)]
      have hlb : leafB b = true ↔ (1 ≤ b.f2.size ∧ b.f2.size ≤ 8 ∧ okN b.f2 b.f2.size 0 = true ∧ b.f3 = (b.f2.size : Int) ∧ b.f4 = 0) := by
        unfold leafB
        simp only [Bool.and_eq_true, Bool.not_eq_true', beq_eq_false_iff_ne, decide_eq_true_eq, ne_eq, tl_nil]
        constructor
        · rintro ⟨a, b, c, d, e⟩; exact ⟨by omega, b, c, d, e⟩
        · rintro ⟨a, b, c, d, e⟩; exact ⟨by omega, b, c, d, e⟩
      by_cases hl : leafB b = true
      · rw [if_pos hl] at hv
        obtain ⟨a1, a2, a3, a4, a5⟩ := hlb.1 hl
        rw [vr_some hv, if_pos (by omega), decide_eq_true (by omega), Option.bind_some, if_pos rfl, Option.bind_some, if_pos a3, if_pos a4, if_pos a5]
      · rw [if_neg hl] at hv
        rw [vr_none hv]
        by_cases a1 : 1 ≤ b.f2.size
        · rw [if_pos (by omega), Option.bind_some]
          by_cases a2 : b.f2.size ≤ 8
          · rw [decide_eq_true (by omega), if_pos rfl, Option.bind_some]
            by_cases a3 : okN b.f2 b.f2.size 0 = true
            · rw [if_pos a3]
              by_cases a4 : b.f3 = (b.f2.size : Int)
              · rw [if_pos a4]
                by_cases a5 : b.f4 = 0
                · exact absurd (hlb.2 ⟨a1, a2, a3, a4, a5⟩) hl
                · rw [if_neg a5]
              · rw [if_neg a4]
            · rw [if_neg a3]
          · rw [decide_eq_false (by omega), if_neg (by simp)]
        · rw [if_neg (by omega), Option.bind_some, if_neg (by simp)]
    · have hv := V_fork l k (by rw [hb]; exact h0)
      rw [hb] at hv
      have e1 : wrap64 ((k : Int) - 1) = (k : Int) - 1 := w64 (by omega) (by omega)
      by_cases h1 : b.f2.toList = [] ∧ b.f1 = (k : Int) - 1 ∧ 2 ≤ k
      · obtain ⟨h11, h12, h13⟩ := h1
        rw [if_pos ⟨h11, h12, h13⟩] at hv
        obtain ⟨K1, hK1⟩ := ih (k - 1) (by omega) (by omega)
        have e2 : (k : Int) - 1 = ((k - 1 : Nat) : Int) := by omega
        have hF : ∀ m, K1 ≤ m → spec_l12First.f (m + 3) l (k : Int) = (if vr l (k - 1) < 1 then spec_l12First.j2 m l true b.f0 b.f1 b.f2 b.f3 b.f4 else spec_l12First.j2 m l (b.f0 != wrap64 (vr l (k - 1) - 1)) b.f0 b.f1 b.f2 b.f3 b.f4) := by
          intro m hm
          rw [hE, decide_eq_false h0]
          simp only [spec_l12First.j0]
          rw [if_neg (by simp), if_pos h11, e1, if_pos h12]
          simp only [spec_l12First.j1]
          rw [if_neg (by rw [decide_eq_true_eq]; omega), e1, e2, hK1 m hm, Option.bind_some]
        cases hp : V l (k - 1) with
        | none =>
          rw [hp, Option.bind_none] at hv
          refine ⟨K1 + 4, fun m hm => ?_⟩
          obtain ⟨m, rfl⟩ : ∃ j, m = j + 4 := ⟨m - 4, by omega⟩
          rw [show m + 4 = (m + 1) + 3 from rfl, hF (m + 1) (by omega), vr_none hp, if_pos (by omega), vr_none hv]
          simp only [spec_l12First.j2, if_true]
        | some p =>
          rw [hp, Option.bind_some] at hv
          obtain ⟨p1, p2, p3, p4, p5, -⟩ := V_spec l _ _ hp
          rw [vr_some hp] at hF
          have e3 : wrap64 ((p.1 : Int) - 1) = (p.1 : Int) - 1 := w64 (by omega) (by omega)
          rw [e3] at hF
          by_cases h2 : 1 ≤ p.1 ∧ b.f0 = (p.1 : Int) - 1
          · obtain ⟨h21, h22⟩ := h2
            rw [if_pos ⟨h21, h22⟩] at hv
            obtain ⟨K2, hK2⟩ := ih (p.1 - 1) (by omega) (by omega)
            have e4 : (p.1 : Int) - 1 = ((p.1 - 1 : Nat) : Int) := by omega
            have hG : ∀ m, K1 + K2 ≤ m → spec_l12First.f (m + 4) l (k : Int) = (if (rd_T101 l ((k - 1 : Nat) : Int)).f4 > (rd_T101 l ((p.1 - 1 : Nat) : Int)).f4 then (if b.f3 = wrap64 ((rd_T101 l ((p.1 - 1 : Nat) : Int)).f3 + (rd_T101 l ((k - 1 : Nat) : Int)).f3) then (if b.f4 = wrap64 ((rd_T101 l ((k - 1 : Nat) : Int)).f4 + 1) then some (vr l (p.1 - 1)) else some (-1)) else some (-1)) else (if b.f3 = wrap64 ((rd_T101 l ((p.1 - 1 : Nat) : Int)).f3 + (rd_T101 l ((k - 1 : Nat) : Int)).f3) then (if b.f4 = wrap64 ((rd_T101 l ((p.1 - 1 : Nat) : Int)).f4 + 1) then some (vr l (p.1 - 1)) else some (-1)) else some (-1))) := by
              intro m hm
              rw [show m + 4 = (m + 1) + 3 from rfl, hF (m + 1) (by omega), if_neg (by omega), h22, h12, e4, e2]
              simp only [spec_l12First.j2]
              rw [if_neg (by simp), if_pos (by omega), if_pos (by omega), if_pos (by omega), if_pos (by omega), hK2 m (by omega)]
              simp only [Option.bind_some]
            cases hq : V l (p.1 - 1) with
            | none =>
              rw [hq, Option.bind_none] at hv
              refine ⟨K1 + K2 + 4, fun m hm => ?_⟩
              obtain ⟨m, rfl⟩ : ∃ j, m = j + 4 := ⟨m - 4, by omega⟩
              rw [hG m (by omega), vr_none hq, vr_none hv]
              simp only [ite_self]
            | some q =>
              rw [hq, Option.bind_some] at hv
              obtain ⟨q1, q2, q3, q4, q5, -⟩ := V_spec l _ _ hq
              have bp := Gt_bd p2
              have bq := Gt_bd q2
              rw [← p4, ← p5, ← q4, ← q5] at hG
              rw [w64 (i := q.2.size + p.2.size) (by omega) (by omega), w64 (i := p.2.deep + 1) (by omega) (by omega), w64 (i := q.2.deep + 1) (by omega) (by omega)] at hG
              refine ⟨K1 + K2 + 4, fun m hm => ?_⟩
              obtain ⟨m, rfl⟩ : ∃ j, m = j + 4 := ⟨m - 4, by omega⟩
              rw [hG m (by omega), vr_some hq]
              by_cases h3 : b.f3 = q.2.size + p.2.size
              · rw [if_pos h3, if_pos h3]
                by_cases h4 : b.f4 = 1 + max q.2.deep p.2.deep
                · rw [if_pos ⟨h3, h4⟩] at hv
                  rw [vr_some hv]
                  by_cases h5 : p.2.deep > q.2.deep
                  · rw [if_pos h5, if_pos (by omega)]
                  · rw [if_neg h5, if_pos (by omega)]
                · rw [if_neg (fun h => h4 h.2)] at hv
                  rw [vr_none hv]
                  by_cases h5 : p.2.deep > q.2.deep
                  · rw [if_pos h5, if_neg (by omega)]
                  · rw [if_neg h5, if_neg (by omega)]
              · rw [if_neg (fun h => h3 h.1)] at hv
                rw [if_neg h3, if_neg h3, vr_none hv, ite_self]
          · rw [if_neg h2] at hv
            refine ⟨K1 + 4, fun m hm => ?_⟩
            obtain ⟨m, rfl⟩ : ∃ j, m = j + 4 := ⟨m - 4, by omega⟩
            rw [show m + 4 = (m + 1) + 3 from rfl, hF (m + 1) (by omega), vr_none hv]
            by_cases h3 : (p.1 : Int) < 1
            · rw [if_pos h3]
              simp only [spec_l12First.j2, if_true]
            · rw [if_neg h3]
              have : (b.f0 != (p.1 : Int) - 1) = true := by
                rw [bne_iff_ne]
                intro h
                exact h2 ⟨by omega, h⟩
              rw [this]
              simp only [spec_l12First.j2, if_true]
      · rw [if_neg h1] at hv
        refine ⟨4, fun m hm => ?_⟩
        obtain ⟨m, rfl⟩ : ∃ j, m = j + 4 := ⟨m - 4, by omega⟩
        rw [hE, decide_eq_false h0, vr_none hv]
        simp only [spec_l12First.j0]
        rw [if_neg (by simp), e1]
        by_cases h11 : b.f2.toList = []
        · rw [if_pos h11]
          by_cases h12 : b.f1 = (k : Int) - 1
          · rw [if_pos h12, decide_eq_true (by have : ¬ 2 ≤ k := fun h => h1 ⟨h11, h12, h⟩; omega)]
            simp only [spec_l12First.j1, if_true]
          · rw [if_neg h12]
            simp only [spec_l12First.j1, if_true]
        · rw [if_neg h11]
          simp only [spec_l12First.j1, if_true]

/-! ropes: two trees joined -/
theorem fk_good {a b : Limb} (ha : Gt a) (hb : Gt b) (h : cnt a + cnt b ≤ 1000) : fk a b = .node a b ⟨#[]⟩ (a.size + b.size) (1 + max a.deep b.deep) := by
  have p := Gt_bd ha
  have q := Gt_bd hb
  cases a with
  | nil => exact ha.elim
  | node l r s n d =>
    cases b with
    | nil => exact hb.elim
    | node l' r' s' n' d' =>
      have e1 : (Limb.node l r s n d).size = n := rfl
      have e2 : (Limb.node l' r' s' n' d').size = n' := rfl
      have e3 : (Limb.node l r s n d).deep = d := rfl
      have e4 : (Limb.node l' r' s' n' d').deep = d' := rfl
      show Limb.node _ _ _ (wrap64 (n + n')) (wrap64 (1 + max d d')) = Limb.node _ _ _ (n + n') (1 + max d d')
      rw [w64 (i := n + n') (by omega) (by omega), w64 (i := 1 + max d d') (by omega) (by omega)]

/-! ropes: the opener -/
def RowsOf (l : List S101) (n : Nat) (ts : List Limb) (fs : List Int) : Prop := ts.length = n ∧ fs.length = n ∧ ∀ j, j < n → ∃ p, V l j = some p ∧ ts.getD j .nil = p.2 ∧ fs.getD j 0 = (p.1 : Int)
theorem RowsOf.snoc {l : List S101} {n : Nat} {ts : List Limb} {fs : List Int} (h : RowsOf l n ts fs) {t : Limb} {f : Int} {p : Nat × Limb} (hv : V l n = some p) (ht : t = p.2) (hf : f = (p.1 : Int)) : RowsOf l (n + 1) (ts ++ [t]) (fs ++ [f]) := by
  obtain ⟨h1, h2, h3⟩ := h
  refine ⟨by simp [h1], by simp [h2], fun j hj => ?_⟩
  by_cases e : j = n
  · refine ⟨p, by rw [e, hv], ?_, ?_⟩
    · rw [e, List.getD_eq_getElem?_getD, ← h1, List.getElem?_concat_length, ht]; rfl
    · rw [e, List.getD_eq_getElem?_getD, ← h2, List.getElem?_concat_length, hf]; rfl
  · obtain ⟨p', a, b, c⟩ := h3 j (by omega)
    refine ⟨p', a, ?_, ?_⟩
    · rw [← b, List.getD_eq_getElem?_getD, List.getD_eq_getElem?_getD, List.getElem?_append_left (by omega)]
    · rw [← c, List.getD_eq_getElem?_getD, List.getD_eq_getElem?_getD, List.getElem?_append_left (by omega)]
theorem opl_ev (l : List S101) (hn : l.length ≤ 200) (hS : ∀ k : Int, (rd_T101 l k).f2.size ≤ 1048576) : ∀ d i ts fs, i + d = l.length → RowsOf l i ts fs →
    ∃ K o, (∀ m, K ≤ m → opl m (l.drop i) ts fs = some o) ∧ (o = none → ∃ j, j < l.length ∧ V l j = none) ∧ (∀ x, o = some x → RowsOf l l.length x.1 x.2) := by
  intro d
  induction d with
  | zero =>
    intro i ts fs hi hr
    have e : i = l.length := by omega
    subst e
    refine ⟨0, some (ts, fs), fun m _ => ?_, fun h => (by cases h), fun x hx => ?_⟩
    · rw [List.drop_length]; rfl
    · obtain rfl := Option.some.inj hx; exact hr
  | succ d ih =>
    intro i ts fs hi hr
    have hil : i < l.length := by omega
    have hd : l.drop i = rd_T101 l (i : Int) :: l.drop (i + 1) := by
      rw [List.drop_eq_getElem_cons hil]
      congr 1
      unfold rd_T101
      rw [Int.toNat_natCast, List.getD_eq_getElem?_getD, List.getElem?_eq_getElem hil]; rfl
    have hs := hS (i : Int)
    obtain ⟨r1, r2, r3⟩ := hr
    have bad : ∀ K, V l i = none → (∀ m, K ≤ m → opl m (l.drop i) ts fs = some none) → ∃ K o, (∀ m, K ≤ m → opl m (l.drop i) ts fs = some o) ∧ (o = none → ∃ j, j < l.length ∧ V l j = none) ∧ (∀ x, o = some x → RowsOf l l.length x.1 x.2) := fun K hv hK => ⟨K, none, hK, fun _ => ⟨i, hil, hv⟩, fun x hx => by cases hx⟩
    have good : ∀ K t f p, V l i = some p → t = p.2 → f = (p.1 : Int) → (∀ m, K ≤ m → opl m (l.drop i) ts fs = opl m (l.drop (i + 1)) (ts ++ [t]) (fs ++ [f])) → ∃ K o, (∀ m, K ≤ m → opl m (l.drop i) ts fs = some o) ∧ (o = none → ∃ j, j < l.length ∧ V l j = none) ∧ (∀ x, o = some x → RowsOf l l.length x.1 x.2) := by
      intro K t f p hv ht hf hK
      obtain ⟨K', o, h1, h2, h3⟩ := ih (i + 1) (ts ++ [t]) (fs ++ [f]) (by omega) (RowsOf.snoc ⟨r1, r2, r3⟩ hv ht hf)
      exact ⟨K + K', o, fun m hm => by rw [hK m (by omega), h1 m (by omega)], h2, h3⟩
    rw [hd] at bad good ⊢
    have hv0 := V_leaf l i
    have hv1 := V_fork l i
    generalize rd_T101 l (i : Int) = b at hs bad good hv0 hv1 ⊢
    by_cases h0 : b.f0 = -1 ∧ b.f1 = -1
    · have hv := hv0 h0
      have hop : ∀ m, opl m (b :: l.drop (i + 1)) ts fs = (if b.f2.toList = [] then some none else (if 8 < (b.f2.size : Int) then some none else (impl_GoodText.f m b.f2).bind fun g => (if g = false then some none else (if b.f3 ≠ (b.f2.size : Int) then some none else (if b.f4 ≠ 0 then some none else opl m (l.drop (i + 1)) (ts ++ [lf b.f2]) (fs ++ [(ts.length : Int)])))))) := fun m => by
        conv => lhs; unfold opl
        rw [if_pos h0]
      have hlb : ∀ q : Prop, q → ¬ q → leafB b = true → False := fun q a b _ => b a
      by_cases a1 : b.f2.toList = []
      · refine bad 0 ?_ fun m _ => by rw [hop, if_pos a1]
        rw [hv, if_neg]
        unfold leafB; rw [a1]; simp
      · by_cases a2 : 8 < (b.f2.size : Int)
        · refine bad 0 ?_ fun m _ => by rw [hop, if_neg a1, if_pos a2]
          rw [hv, if_neg]
          unfold leafB; rw [decide_eq_false (p := b.f2.size ≤ 8) (by omega)]; simp
        · obtain ⟨K, hK⟩ := impl_GoodText_ev b.f2 (by omega)
          have hK' : ∀ m, K ≤ m → impl_GoodText.f m b.f2 = some (okN b.f2 b.f2.size 0) := fun m hm => by
            rw [hK m hm]
            unfold textB
            rw [decide_eq_true (p := b.f2.size ≤ 300) (by omega), Bool.and_true]
          cases a3 : okN b.f2 b.f2.size 0 with
          | false =>
            refine bad K ?_ fun m hm => by rw [hop, if_neg a1, if_neg a2, hK' m hm, a3, Option.bind_some, if_pos rfl]
            rw [hv, if_neg]
            unfold leafB; rw [a3]; simp
          | true =>
            by_cases a4 : b.f3 = (b.f2.size : Int)
            · by_cases a5 : b.f4 = 0
              · have hl : leafB b = true := by
                  unfold leafB
                  rw [a3, decide_eq_true a4, decide_eq_true a5, decide_eq_true (p := b.f2.size ≤ 8) (by omega)]
                  simp [a1]
                rw [if_pos hl] at hv
                refine good K (lf b.f2) (ts.length : Int) _ hv ?_ (by rw [r1]) fun m hm => by rw [hop, if_neg a1, if_neg a2, hK' m hm, a3, Option.bind_some, if_neg (by simp), if_neg (fun h => h a4), if_neg (fun h => h a5)]
                unfold lf
                rw [if_neg a1, a4]
              · refine bad K ?_ fun m hm => by rw [hop, if_neg a1, if_neg a2, hK' m hm, a3, Option.bind_some, if_neg (by simp), if_neg (fun h => h a4), if_pos a5]
                rw [hv, if_neg]
                unfold leafB; rw [decide_eq_false a5]; simp
            · refine bad K ?_ fun m hm => by rw [hop, if_neg a1, if_neg a2, hK' m hm, a3, Option.bind_some, if_neg (by simp), if_pos a4]
              rw [hv, if_neg]
              unfold leafB; rw [decide_eq_false a4]; simp
    · have hv := hv1 h0
      have hop : ∀ m, opl m (b :: l.drop (i + 1)) ts fs = (if b.f1 ≠ (ts.length : Int) - 1 then some none else (if b.f1 < 0 then some none else (if b.f0 < 0 then some none else
   (if b.f0 ≠ fs.getD (ts.length - 1) 0 - 1 then some none else (if b.f2.toList ≠ [] then some none else
    (if b.f0.toNat < ts.length ∧ (fk (ts.getD b.f0.toNat .nil) (ts.getD (ts.length - 1) .nil)).isNil = false then
     (if b.f3 ≠ (fk (ts.getD b.f0.toNat .nil) (ts.getD (ts.length - 1) .nil)).size then some none else
      (if b.f4 ≠ (fk (ts.getD b.f0.toNat .nil) (ts.getD (ts.length - 1) .nil)).deep then some none else
       opl m (l.drop (i + 1)) (ts ++ [fk (ts.getD b.f0.toNat .nil) (ts.getD (ts.length - 1) .nil)]) (fs ++ [fs.getD b.f0.toNat 0])))
     else none)))))) := fun m => by
        conv => lhs; unfold opl
        rw [if_neg h0]
      rw [r1] at hop
      by_cases a1 : b.f1 = (i : Int) - 1
      · by_cases a2 : b.f1 < 0
        · refine bad 0 ?_ fun m _ => by rw [hop, if_neg (fun h => h a1), if_pos a2]
          rw [hv, if_neg (fun h => by have := h.2.1; have := h.2.2; omega)]
        · by_cases a3 : b.f0 < 0
          · refine bad 0 ?_ fun m _ => by rw [hop, if_neg (fun h => h a1), if_neg a2, if_pos a3]
            rw [hv]
            split
            · cases hp : V l (i - 1) with
              | none => rfl
              | some p => rw [Option.bind_some, if_neg (fun h => by have := h.1; have := h.2; omega)]
            · rfl
          · obtain ⟨p, p1, p2, p3⟩ := r3 (i - 1) (by omega)
            have sp := V_spec l _ _ p1
            rw [p2, p3] at hop
            rw [p1, Option.bind_some] at hv
            by_cases a4 : b.f0 = (p.1 : Int) - 1
            · by_cases a5 : b.f2.toList = []
              · have e0 : b.f0.toNat = p.1 - 1 := by omega
                obtain ⟨q, q1, q2, q3⟩ := r3 (p.1 - 1) (by omega)
                have sq := V_spec l _ _ q1
                rw [e0, q2, q3, fk_good sq.2.1 sp.2.1 (by omega)] at hop
                rw [if_pos ⟨a5, a1, by omega⟩, if_pos ⟨by omega, a4⟩, q1, Option.bind_some] at hv
                have hop' : ∀ m, opl m (b :: l.drop (i + 1)) ts fs = (if b.f3 ≠ q.2.size + p.2.size then some none else (if b.f4 ≠ 1 + max q.2.deep p.2.deep then some none else opl m (l.drop (i + 1)) (ts ++ [.node q.2 p.2 ⟨#[]⟩ (q.2.size + p.2.size) (1 + max q.2.deep p.2.deep)]) (fs ++ [(q.1 : Int)]))) := fun m => by
                  rw [hop, if_neg (fun h => h a1), if_neg a2, if_neg a3, if_neg (fun h => h a4), if_neg (fun h => h a5), if_pos ⟨by omega, rfl⟩]
                  rfl
                by_cases a6 : b.f3 = q.2.size + p.2.size
                · by_cases a7 : b.f4 = 1 + max q.2.deep p.2.deep
                  · rw [if_pos ⟨a6, a7⟩] at hv
                    exact good 0 (.node q.2 p.2 ⟨#[]⟩ (q.2.size + p.2.size) (1 + max q.2.deep p.2.deep)) (q.1 : Int) _ hv (by rw [← a6, ← a7]) rfl fun m _ => by rw [hop', if_neg (fun h => h a6), if_neg (fun h => h a7)]
                  · refine bad 0 ?_ fun m _ => by rw [hop', if_neg (fun h => h a6), if_pos a7]
                    rw [hv, if_neg (fun h => a7 h.2)]
                · refine bad 0 ?_ fun m _ => by rw [hop', if_pos a6]
                  rw [hv, if_neg (fun h => a6 h.1)]
              · refine bad 0 ?_ fun m _ => by rw [hop, if_neg (fun h => h a1), if_neg a2, if_neg a3, if_neg (fun h => h a4), if_pos a5]
                rw [hv, if_neg (fun h => a5 h.1)]
            · refine bad 0 ?_ fun m _ => by rw [hop, if_neg (fun h => h a1), if_neg a2, if_neg a3, if_pos a4]
              rw [hv]
              split
              · rw [if_neg (fun h => a4 h.2)]
              · rfl
      · refine bad 0 ?_ fun m _ => by rw [hop, if_pos a1]
        rw [hv, if_neg (fun h => a1 h.2.1)]
/-- Whether a row of boughs is a good rope. -/
def goodR (l : List S101) : Bool := decide (l.length = 0) || (decide (l.length ≤ 200) && (decide (vr l (l.length - 1) = 0) && decide ((rd_T101 l ((l.length - 1 : Nat) : Int)).f3 ≤ 300)))
def treeR (l : List S101) : Limb := match V l (l.length - 1) with
  | none => .nil
  | some p => p.2
theorem opnF_ev (l : List S101) (hS : ∀ k : Int, (rd_T101 l k).f2.size ≤ 1048576) : ∃ K t, (∀ m, K ≤ m → opnF m l = some (t, goodR l)) ∧ (goodR l = true → l ≠ [] → V l (l.length - 1) = some (0, t)) ∧ (goodR l = true → l = [] → t = .nil) := by
  by_cases h1 : 200 < l.length
  · have hg : goodR l = false := by
      unfold goodR
      rw [decide_eq_false (p := l.length = 0) (by omega), decide_eq_false (p := l.length ≤ 200) (by omega)]
      rfl
    refine ⟨0, .nil, fun m _ => ?_, fun h => (by rw [hg] at h; cases h), fun _ _ => rfl⟩
    unfold opnF
    rw [if_pos h1, hg]
  · by_cases h2 : l.length = 0
    · have hg : goodR l = true := by
        unfold goodR
        rw [decide_eq_true h2]
        rfl
      refine ⟨0, .nil, fun m _ => ?_, fun _ h => absurd (List.length_eq_zero_iff.1 h2) h, fun _ _ => rfl⟩
      unfold opnF
      rw [if_neg h1, if_pos h2, hg]
    · obtain ⟨K, o, ho, hn, hs⟩ := opl_ev l (by omega) hS l.length 0 [] [] (by omega) ⟨rfl, rfl, fun j hj => by omega⟩
      have hG : goodR l = (decide (vr l (l.length - 1) = 0) && decide ((rd_T101 l ((l.length - 1 : Nat) : Int)).f3 ≤ 300)) := by
        unfold goodR
        rw [decide_eq_false h2, decide_eq_true (p := l.length ≤ 200) (by omega), Bool.false_or, Bool.true_and]
      have hF : ∀ m, opnF m l = (opl m l [] []).bind fun o => match o with
          | none => some (.nil, false)
          | some (ts, fs) => if (ts.getD (l.length - 1) .nil).isNil = false then some (ts.getD (l.length - 1) .nil, decide (fs.getD (l.length - 1) 0 = 0) && decide ((ts.getD (l.length - 1) .nil).size ≤ 300)) else none := fun m => by
        conv => lhs; unfold opnF
        rw [if_neg h1, if_neg h2]
        refine congrArg _ (funext fun o => ?_)
        rcases o with _ | ⟨ts, fs⟩ <;> rfl
      have hne : l ≠ [] := fun h => h2 (by rw [h]; rfl)
      rw [List.drop_zero] at ho
      cases o with
      | none =>
        obtain ⟨j, hj, hv⟩ := hn rfl
        have hg : goodR l = false := by
          rw [hG]
          have : vr l (l.length - 1) ≠ 0 := by
            intro h
            cases hp : V l (l.length - 1) with
            | none => rw [vr_none hp] at h; omega
            | some p =>
              rw [vr_some hp] at h
              have := (V_spec l _ _ hp).2.2.2.2.2 j (by omega) (by omega)
              rw [hv] at this
              cases this
          rw [decide_eq_false this]; rfl
        refine ⟨K, .nil, fun m hm => ?_, fun h => (by rw [hg] at h; cases h), fun _ _ => rfl⟩
        rw [hF, ho m hm, hg]
        rfl
      | some x =>
        obtain ⟨ts, fs⟩ := x
        obtain ⟨r1, r2, r3⟩ := hs _ rfl
        obtain ⟨p, p1, p2, p3⟩ := r3 (l.length - 1) (by omega)
        have sp := V_spec l _ _ p1
        have hg : goodR l = (decide ((p.1 : Int) = 0) && decide (p.2.size ≤ 300)) := by
          rw [hG, vr_some p1, ← sp.2.2.2.1]
        refine ⟨K, p.2, fun m hm => ?_, fun h _ => ?_, fun _ h => absurd h hne⟩
        · rw [hF, ho m hm]
          show (if (ts.getD (l.length - 1) .nil).isNil = false then _ else none) = _
          have p2' : ts.getD (l.length - 1) .nil = p.2 := p2
          have p3' : fs.getD (l.length - 1) 0 = (p.1 : Int) := p3
          rw [p2', p3', if_pos (Gt_nil sp.2.1), hg]
        · rw [hg] at h
          simp only [Bool.and_eq_true, decide_eq_true_eq] at h
          rw [p1]
          have : p.1 = 0 := by omega
          rw [← this]

/-! ropes: sameness -/
theorem rdTB (l : List S101) (j : Nat) (h : j < l.length) : rd_T101 l (j : Int) = l[j] := by
  unfold rd_T101
  rw [Int.toNat_natCast, List.getD_eq_getElem?_getD, List.getElem?_eq_getElem h]; rfl
theorem eqBough_self (b : S101) : laws_eqBough.f b.f0 b.f1 b.f2 b.f3 b.f4 b.f0 b.f1 b.f2 b.f3 b.f4 = some true := by
  unfold laws_eqBough.f
  simp
theorem eqBoughS_l (l : List S101) (hl : l.length ≤ 1048576) : ∀ (d i : Nat), i + d = l.length → ∀ k, d < k → laws_eqBoughS.l0 k l l (i : Int) = some true := by
  intro d
  induction d with
  | zero =>
    intro i hi k hk
    obtain ⟨k, rfl⟩ : ∃ m, k = m + 1 := ⟨k - 1, by omega⟩
    simp only [laws_eqBoughS.l0]
    rw [if_neg (by omega)]
  | succ d ih =>
    intro i hi k hk
    obtain ⟨k, rfl⟩ : ∃ m, k = m + 1 := ⟨k - 1, by omega⟩
    have e2 : wrap64 ((i : Int) + 1) = ((i + 1 : Nat) : Int) := by rw [w64 (by omega) (by omega)]; omega
    simp only [laws_eqBoughS.l0]
    rw [if_pos (by omega), if_pos (by omega), if_pos (by omega), eqBough_self, Option.bind_some, if_pos rfl, e2]
    exact ih (i + 1) (by omega) k (by omega)
theorem eqRope_self (l : List S101) (hl : l.length ≤ 1048576) (k : Nat) (hk : l.length < k) : laws_eqRope.f k l l = some true := by
  unfold laws_eqRope.f laws_eqBoughS.f
  rw [if_pos rfl, show (0 : Int) = ((0 : Nat) : Int) from rfl, eqBoughS_l l hl l.length 0 (by omega) k hk, Option.bind_some, if_pos rfl]

/-! ropes: sizes, copies, sameness -/
def cv (b : S100) : S101 := ⟨b.f0, b.f1, b.f2, b.f3, b.f4⟩
theorem rdTL (l : List S100) (j : Nat) (h : j < l.length) : rd_T100 l (j : Int) = l[j] := by
  unfold rd_T100
  rw [Int.toNat_natCast, List.getD_eq_getElem?_getD, List.getElem?_eq_getElem h]; rfl
theorem szBoughS_l (l : List S100) (hl : l.length ≤ 1048576) (hG : ∀ x ∈ l, x.f2.size ≤ 140737488351232) : ∀ (d i : Nat) (a : Int), i + d = l.length → 0 ≤ a → a ≤ 1048576 → ∃ r, (∀ k, d < k → laws_szBoughS.l0 k l a (i : Int) = some r) ∧ r ≤ a ∧ (0 ≤ r → ∀ j (hj : j < l.length), i ≤ j → l[j].f2.size ≤ 1048576) := by
  intro d
  induction d with
  | zero =>
    intro i a hi h0 h1
    refine ⟨a, fun k hk => ?_, Int.le_refl _, fun _ j hj hij => by omega⟩
    obtain ⟨k, rfl⟩ : ∃ m, k = m + 1 := ⟨k - 1, by omega⟩
    simp only [laws_szBoughS.l0]
    rw [if_neg (by omega)]
  | succ d ih =>
    intro i a hi h0 h1
    have hil : i < l.length := by omega
    have hz := hG _ (List.getElem_mem hil)
    have e1 : wrap64 (a - (l[i].f2.size : Int)) = a - (l[i].f2.size : Int) := w64 (by omega) (by omega)
    have e2 : wrap64 ((i : Int) + 1) = ((i + 1 : Nat) : Int) := by rw [w64 (by omega) (by omega)]; omega
    have hS : ∀ k, laws_szBoughS.l0 (k + 1) l a (i : Int) = (if a - (l[i].f2.size : Int) < 0 then some (-1) else laws_szBoughS.l0 k l (a - (l[i].f2.size : Int)) ((i + 1 : Nat) : Int)) := fun k => by
      simp only [laws_szBoughS.l0]
      rw [if_pos (by omega), if_pos (by omega), rdTL l i hil]
      unfold laws_szBough.f
      rw [e1, e2]
      by_cases h : a - (l[i].f2.size : Int) < 0
      · rw [if_pos h, if_pos h, Option.bind_some, if_pos (by omega)]
      · rw [if_neg h, if_neg h, Option.bind_some, if_neg h]
    by_cases h : a - (l[i].f2.size : Int) < 0
    · refine ⟨-1, fun k hk => ?_, by omega, fun h => by omega⟩
      obtain ⟨k, rfl⟩ : ∃ m, k = m + 1 := ⟨k - 1, by omega⟩
      rw [hS, if_pos h]
    · obtain ⟨r, h2, h3, h4⟩ := ih (i + 1) (a - (l[i].f2.size : Int)) (by omega) (by omega) (by omega)
      refine ⟨r, fun k hk => ?_, by omega, fun h5 j hj hij => ?_⟩
      · obtain ⟨k, rfl⟩ : ∃ m, k = m + 1 := ⟨k - 1, by omega⟩
        rw [hS, if_neg h, h2 k (by omega)]
      · by_cases e : j = i
        · subst e; omega
        · exact h4 h5 j hj (by omega)
theorem szRope_ev (l : List S100) (hn : l.length ≤ 4000000000000) (hG : ∀ x ∈ l, x.f2.size ≤ 140737488351232) (c : Int) (hc0 : 0 ≤ c) (hc : c ≤ 1048576) : ∃ r, (∀ k, l.length < k → laws_szRope.f k l c = some r) ∧ (0 ≤ r → l.length ≤ 1048576 ∧ r ≤ c ∧ ∀ x ∈ l, x.f2.size ≤ 1048576) := by
  have e1 : wrap64 (c - (l.length : Int)) = c - (l.length : Int) := w64 (by omega) (by omega)
  by_cases h : c - (l.length : Int) < 0
  · refine ⟨-1, fun k _ => ?_, fun h => by omega⟩
    unfold laws_szRope.f laws_szBoughS.f
    rw [e1, if_pos h, Option.bind_some, if_pos (by omega)]
  · obtain ⟨r, h2, h3, h4⟩ := szBoughS_l l (by omega) hG l.length 0 (c - (l.length : Int)) (by omega) (by omega) (by omega)
    have h2' : ∀ k, l.length < k → laws_szBoughS.f k l c = some r := fun k hk => by
      unfold laws_szBoughS.f
      rw [e1, if_neg h]
      exact h2 k hk
    by_cases hr : r < 0
    · refine ⟨-1, fun k hk => ?_, fun h => by omega⟩
      unfold laws_szRope.f
      rw [h2' k hk, Option.bind_some, if_pos hr]
    · refine ⟨r, fun k hk => ?_, fun h => ⟨by omega, by omega, fun x hx => ?_⟩⟩
      · unfold laws_szRope.f
        rw [h2' k hk, Option.bind_some, if_neg hr]
      · obtain ⟨j, hj, rfl⟩ := List.getElem_of_mem hx
        exact h4 h j hj (Nat.zero_le _)
theorem toBoughS_l (l : List S100) (hl : l.length ≤ 1048576) : ∀ (d i : Nat) (x : List S101), i + d = l.length → x.length = l.length → (∀ j (hj : j < l.length) (hj' : j < x.length), j < i → x[j] = cv l[j]) → ∀ k, d < k → laws_toBoughS.l0 k l x (i : Int) = some (l.map cv) := by
  intro d
  induction d with
  | zero =>
    intro i x hi hx hp k hk
    obtain ⟨k, rfl⟩ : ∃ m, k = m + 1 := ⟨k - 1, by omega⟩
    simp only [laws_toBoughS.l0]
    rw [if_neg (by omega)]
    congr 1
    refine List.ext_getElem (by simp [hx]) fun j h1 h2 => ?_
    rw [List.getElem_map]
    exact hp j (by omega) h1 (by omega)
  | succ d ih =>
    intro i x hi hx hp k hk
    obtain ⟨k, rfl⟩ : ∃ m, k = m + 1 := ⟨k - 1, by omega⟩
    have hil : i < l.length := by omega
    simp only [laws_toBoughS.l0]
    rw [if_pos (by omega), if_pos (by omega)]
    unfold laws_toBough.f
    have e2 : wrap64 ((i : Int) + 1) = ((i + 1 : Nat) : Int) := by rw [w64 (by omega) (by omega)]; omega
    rw [Option.bind_some, if_pos (by omega), e2, Int.toNat_natCast]
    refine ih (i + 1) _ (by omega) (by rw [List.length_set]; exact hx) (fun j hj hj' hji => ?_) k (by omega)
    rw [List.getElem_set]
    split
    · rename_i e
      subst e
      rw [rdTL l i hil]
      rfl
    · exact hp j hj (by rw [List.length_set] at hj'; exact hj') (by omega)
theorem toRope_ev (l : List S100) (hl : l.length ≤ 1048576) (k : Nat) (hk : l.length < k) : laws_toRope.f k l = some (l.map cv) := by
  unfold laws_toRope.f laws_toBoughS.f
  rw [if_pos (by omega), Int.toNat_natCast, if_pos (by omega), show (0 : Int) = ((0 : Nat) : Int) from rfl, toBoughS_l l hl l.length 0 _ (by omega) (by simp) (fun j _ _ h => by omega) k hk, Option.bind_some]
theorem cv_sz {l : List S100} (h : ∀ x ∈ l, x.f2.size ≤ 1048576) (k : Int) : (rd_T101 (l.map cv) k).f2.size ≤ 1048576 := by
  unfold rd_T101
  rw [List.getD_eq_getElem?_getD]
  cases hx : (l.map cv)[k.toNat]? with
  | none => exact Nat.zero_le _
  | some x =>
    obtain ⟨y, hy, rfl⟩ := List.mem_map.1 (List.mem_of_getElem? hx)
    exact h y hy

/-! ropes: whether one is good -/
theorem spec_GoodRope_ev (l : List S101) (hS : ∀ k : Int, (rd_T101 l k).f2.size ≤ 1048576) (hl : l.length ≤ 1048576) : ∃ K, ∀ k, K ≤ k → spec_GoodRope.f k l = some (goodR l) := by
  by_cases h0 : l.length = 0
  · refine ⟨0, fun k _ => ?_⟩
    unfold spec_GoodRope.f goodR
    rw [if_pos (by omega), decide_eq_true h0]; rfl
  · by_cases h1 : l.length ≤ 200
    · obtain ⟨K, hK⟩ := First_ev l h1 hS (l.length - 1) (by omega)
      refine ⟨K, fun k hk => ?_⟩
      have e1 : wrap64 ((l.length : Int) - 1) = ((l.length - 1 : Nat) : Int) := by rw [w64 (by omega) (by omega)]; omega
      unfold spec_GoodRope.f goodR
      rw [if_neg (by omega), if_pos (by omega), e1, hK k hk, Option.bind_some, decide_eq_false h0, decide_eq_true h1, Bool.false_or, Bool.true_and]
      by_cases h2 : vr l (l.length - 1) = 0
      · rw [if_pos h2, if_pos (by omega), if_pos (by omega), decide_eq_true h2, Bool.true_and]
      · rw [if_neg h2, decide_eq_false h2, Bool.false_and]
    · refine ⟨0, fun k _ => ?_⟩
      unfold spec_GoodRope.f goodR
      rw [if_neg (by omega), if_neg (by omega), decide_eq_false h0, decide_eq_false h1]; rfl

/-! ropes: what a place that stands for a tree looks like -/
theorem V_inv {l : List S101} {k : Nat} {p : Nat × Limb} (h : V l k = some p) :
    ((rd_T101 l (k : Int)).f0 = -1 ∧ (rd_T101 l (k : Int)).f1 = -1 ∧ leafB (rd_T101 l (k : Int)) = true ∧ (rd_T101 l (k : Int)).f4 = 0 ∧ p = (k, .node .nil .nil (rd_T101 l (k : Int)).f2 (rd_T101 l (k : Int)).f3 0) ∧ (rd_T101 l (k : Int)).f3 = ((rd_T101 l (k : Int)).f2.size : Int)) ∨
    (∃ p1 q, V l (k - 1) = some p1 ∧ V l (p1.1 - 1) = some q ∧ 2 ≤ k ∧ 1 ≤ p1.1 ∧ p1.1 ≤ k - 1 ∧ (rd_T101 l (k : Int)).f0 = ((p1.1 - 1 : Nat) : Int) ∧ (rd_T101 l (k : Int)).f1 = ((k - 1 : Nat) : Int) ∧ (rd_T101 l (k : Int)).f2 = ⟨#[]⟩ ∧ p = (q.1, .node q.2 p1.2 ⟨#[]⟩ (rd_T101 l (k : Int)).f3 (rd_T101 l (k : Int)).f4) ∧ (rd_T101 l (k : Int)).f3 = q.2.size + p1.2.size ∧ (rd_T101 l (k : Int)).f4 = 1 + max q.2.deep p1.2.deep) := by
  by_cases h0 : (rd_T101 l (k : Int)).f0 = -1 ∧ (rd_T101 l (k : Int)).f1 = -1
  · rw [V_leaf l k h0] at h
    split at h
    · rename_i hl
      have hl' := hl
      unfold leafB at hl
      simp only [Bool.and_eq_true, decide_eq_true_eq] at hl
      exact .inl ⟨h0.1, h0.2, hl', hl.2.2.2.2, (Option.some.inj h).symm, hl.2.2.2.1⟩
    · cases h
  · rw [V_fork l k h0] at h
    split at h
    · rename_i h1
      obtain ⟨p1, e1, h⟩ := Option.bind_eq_some_iff.mp h
      split at h
      · rename_i h2
        obtain ⟨q, e2, h⟩ := Option.bind_eq_some_iff.mp h
        split at h
        · rename_i h3
          have sp := V_spec l _ _ e1
          refine .inr ⟨p1, q, e1, e2, h1.2.2, h2.1, sp.1, by rw [h2.2]; omega, by rw [h1.2.1]; omega, ?_, (Option.some.inj h).symm, h3.1, h3.2⟩
          have := h1.1
          rw [tl_nil] at this
          generalize (rd_T101 l (k : Int)).f2 = s at this
          cases s with
          | mk d =>
            have e : d = #[] := Array.eq_empty_of_size_eq_zero this
            rw [e]
        · cases h
      · cases h
    · cases h

theorem goodR_size {l : List S101} {t : Limb} (h : goodR l = true) (h0 : l ≠ []) (hv : V l (l.length - 1) = some (0, t)) : l.length ≤ 200 ∧ t.size ≤ 300 ∧ (rd_T101 l ((l.length - 1 : Nat) : Int)).f3 = t.size ∧ 1 ≤ t.size ∧ cnt t = l.length := by
  have hl : l.length ≠ 0 := fun e => h0 (List.length_eq_zero_iff.1 e)
  unfold goodR at h
  rw [decide_eq_false hl, Bool.false_or] at h
  simp only [Bool.and_eq_true, decide_eq_true_eq] at h
  have sp := V_spec l _ _ hv
  have bp := Gt_bd sp.2.1
  refine ⟨h.1, ?_, sp.2.2.2.1.symm, bp.2.1, ?_⟩
  · rw [sp.2.2.2.1]; exact h.2.2
  · have := sp.2.2.1
    have e : cnt t + 0 = l.length - 1 + 1 := this
    omega

/-! ropes: what a tree writes -/
def bo : Limb → List S101 → List S101
  | .nil, out => out
  | .node l r s n d, out => if l.isNil = true then out ++ [⟨-1, -1, s, n, 0⟩] else bo r (bo l out) ++ [⟨((bo l out).length : Int) - 1, ((bo r (bo l out)).length : Int) - 1, ⟨#[]⟩, n, d⟩]
/-- No tree, or a good one. -/
def GtN (t : Limb) : Prop := t = .nil ∨ Gt t
theorem bo_length (t : Limb) : ∀ out, (bo t out).length = out.length + cnt t := by
  induction t with
  | nil => intro out; rfl
  | node l r s n d ihl ihr =>
    intro out
    unfold bo cnt
    split
    · simp
    · simp only [List.length_append, ihr, ihl, List.length_singleton]; omega

/-! ropes: a good rope is what its tree writes -/
theorem bo_V {l : List S101} : ∀ (k : Nat) (p : Nat × Limb), k < l.length → V l k = some p → bo p.2 (l.take p.1) = l.take (k + 1) := by
  intro k
  induction k using Nat.strongRecOn with
  | ind k ih =>
    intro p hk hv
    rw [List.take_succ_eq_append_getElem hk, ← rdTB l k hk]
    rcases V_inv hv with ⟨f0, f1, hl, f4, rfl, f3⟩ | ⟨p1, q, v1, v2, k2, p0, pk, f0, f1, f2, rfl, f3, f4⟩
    · generalize rd_T101 l (k : Int) = b at f0 f1 f4 f3 ⊢
      obtain ⟨b0, b1, b2, b3, b4⟩ := b
      subst f0 f1 f4
      rfl
    · have e1 := ih (p1.1 - 1) (by omega) q (by omega) v2
      have e2 := ih (k - 1) (by omega) p1 (by omega) v1
      rw [show p1.1 - 1 + 1 = p1.1 from by omega] at e1
      rw [show k - 1 + 1 = k from by omega] at e2
      show bo (.node q.2 p1.2 ⟨#[]⟩ _ _) (l.take q.1) = _
      unfold bo
      rw [Gt_nil (V_spec l _ _ v2).2.1, if_neg (by simp), e1, e2, List.length_take, List.length_take, Nat.min_eq_left (by omega), Nat.min_eq_left (by omega)]
      generalize rd_T101 l (k : Int) = b at f0 f1 f2 ⊢
      obtain ⟨b0, b1, b2, b3, b4⟩ := b
      have f0' : b0 = ((p1.1 - 1 : Nat) : Int) := f0
      have f1' : b1 = ((k - 1 : Nat) : Int) := f1
      have f2' : b2 = ⟨#[]⟩ := f2
      subst f0' f1' f2'
      rw [show ((p1.1 : Nat) : Int) - 1 = ((p1.1 - 1 : Nat) : Int) from by omega, show ((k : Nat) : Int) - 1 = ((k - 1 : Nat) : Int) from by omega]
theorem good_bo {l : List S101} {t : Limb} (h : goodR l = true) (hv : l ≠ [] → V l (l.length - 1) = some (0, t)) (hn : l = [] → t = .nil) : l = bo t [] ∧ GtN t ∧ l.length ≤ 200 ∧ cnt t = l.length ∧ t.size ≤ 300 ∧ 0 ≤ t.size := by
  by_cases h0 : l = []
  · have ht := hn h0
    subst h0 ht
    exact ⟨rfl, .inl rfl, by simp, rfl, by show (0 : Int) ≤ 300; omega, by show (0 : Int) ≤ 0; omega⟩
  · have h1 : l.length ≠ 0 := fun e => h0 (List.length_eq_zero_iff.1 e)
    obtain ⟨g1, g2, g3, g4, g5⟩ := goodR_size h h0 (hv h0)
    have e := bo_V (l.length - 1) (0, t) (by omega) (hv h0)
    rw [show l.length - 1 + 1 = l.length from by omega, List.take_length] at e
    exact ⟨e.symm, .inr (V_spec l _ _ (hv h0)).2.1, g1, g5, g2, by omega⟩
theorem open_ev (l : List S101) (hS : ∀ k : Int, (rd_T101 l k).f2.size ≤ 1048576) : ∃ K t, (∀ m, K ≤ m → opnF m l = some (t, goodR l)) ∧ (goodR l = true → l = bo t [] ∧ GtN t ∧ l.length ≤ 200 ∧ cnt t = l.length ∧ t.size ≤ 300 ∧ 0 ≤ t.size) := by
  obtain ⟨K, t, h, h1, h2⟩ := opnF_ev l hS
  exact ⟨K, t, h, fun hg => good_bo hg (h1 hg) (h2 hg)⟩

/-! ropes: the boughs of a tree from a place on -/
def br : Limb → Nat → List S101
  | .nil, _ => []
  | .node l r s n d, o => if l.isNil = true then [⟨-1, -1, s, n, 0⟩] else br l o ++ br r (o + cnt l) ++ [⟨((o + cnt l : Nat) : Int) - 1, ((o + cnt l + cnt r : Nat) : Int) - 1, ⟨#[]⟩, n, d⟩]
theorem cnt_fork {l r : Limb} {s : ByteArray} {n d : Int} (h : l.isNil = false) : cnt (.node l r s n d) = cnt l + cnt r + 1 := by
  show (if l.isNil = true then 1 else cnt l + cnt r + 1) = _
  rw [h, if_neg (by simp)]
theorem br_fork {l r : Limb} {s : ByteArray} {n d : Int} (h : l.isNil = false) (o : Nat) : br (.node l r s n d) o = br l o ++ br r (o + cnt l) ++ [⟨((o + cnt l : Nat) : Int) - 1, ((o + cnt l + cnt r : Nat) : Int) - 1, ⟨#[]⟩, n, d⟩] := by
  show (if l.isNil = true then _ else _) = _
  rw [h, if_neg (by simp)]
theorem bo_br (t : Limb) : ∀ out, bo t out = out ++ br t out.length := by
  induction t with
  | nil => intro out; show out = out ++ []; rw [List.append_nil]
  | node l r s n d ihl ihr =>
    intro out
    have e1 := bo_length l out
    have e2 := bo_length r (bo l out)
    unfold bo br
    split
    · rfl
    · rw [e2, e1, ihr, e1, ihl]
      simp only [List.append_assoc]
theorem bo_nil (t : Limb) : bo t [] = br t 0 := by rw [bo_br]; rfl
theorem br_length (t : Limb) (o : Nat) : (br t o).length = cnt t := by
  have h := bo_length t (List.replicate o z101)
  rw [bo_br, List.length_append, List.length_replicate] at h
  omega
def sh (n : Int) (x : S101) : S101 := if x.f0 ≥ 0 then ⟨x.f0 + n, x.f1 + n, x.f2, x.f3, x.f4⟩ else x
theorem br_sh : ∀ {t : Limb}, Gt t → ∀ (o n : Nat), br t (o + n) = (br t o).map (sh (n : Int))
  | .node l r s m d, h, o, n => by
    rcases h with ⟨rfl, rfl, h1, h2, -, rfl, rfl⟩ | ⟨hl, hr, -, rfl, rfl⟩
    · rfl
    · have a := Gt_bd hl
      unfold br
      rw [Gt_nil hl, if_neg (by simp), if_neg (by simp), List.map_append, List.map_append, ← br_sh hl, ← br_sh hr, show o + n + cnt l = o + cnt l + n from by omega, List.map_singleton]
      have e : sh (n : Int) (⟨((o + cnt l : Nat) : Int) - 1, ((o + cnt l + cnt r : Nat) : Int) - 1, ⟨#[]⟩, l.size + r.size, 1 + max l.deep r.deep⟩ : S101) = ⟨((o + cnt l + n : Nat) : Int) - 1, ((o + cnt l + n + cnt r : Nat) : Int) - 1, ⟨#[]⟩, l.size + r.size, 1 + max l.deep r.deep⟩ := by
        unfold sh
        rw [if_pos (by show ((o + cnt l : Nat) : Int) - 1 ≥ 0; omega)]
        show (⟨((o + cnt l : Nat) : Int) - 1 + n, ((o + cnt l + cnt r : Nat) : Int) - 1 + n, _, _, _⟩ : S101) = _
        rw [show ((o + cnt l : Nat) : Int) - 1 + n = ((o + cnt l + n : Nat) : Int) - 1 from by omega, show ((o + cnt l + cnt r : Nat) : Int) - 1 + n = ((o + cnt l + n + cnt r : Nat) : Int) - 1 from by omega]
      rw [e]
theorem br_mem : ∀ {t : Limb}, Gt t → ∀ (o : Nat) (b : S101), b ∈ br t o → -1 ≤ b.f0 ∧ b.f0 < ((o + cnt t : Nat) : Int) ∧ -1 ≤ b.f1 ∧ b.f1 < ((o + cnt t : Nat) : Int) ∧ b.f2.size ≤ 8
  | .node l r s m d, h, o, b, hb => by
    rcases h with ⟨rfl, rfl, h1, h2, -, rfl, rfl⟩ | ⟨hl, hr, -, rfl, rfl⟩
    · have hb' : b ∈ [(⟨-1, -1, s, (s.size : Int), 0⟩ : S101)] := hb
      rw [List.mem_singleton.1 hb']
      refine ⟨Int.le_refl _, ?_, Int.le_refl _, ?_, h2⟩
      · show (-1 : Int) < _; omega
      · show (-1 : Int) < _; omega
    · have a1 := Gt_bd hl
      have a2 := Gt_bd hr
      unfold br at hb
      unfold cnt
      rw [Gt_nil hl, if_neg (by simp)] at hb ⊢
      rcases List.mem_append.1 hb with hb | hb
      · rcases List.mem_append.1 hb with hb | hb
        · have := br_mem hl o b hb; omega
        · have := br_mem hr _ b hb; omega
      · rw [List.mem_singleton.1 hb]
        refine ⟨?_, ?_, ?_, ?_, Nat.zero_le _⟩
        · show (-1 : Int) ≤ ((o + cnt l : Nat) : Int) - 1; omega
        · show ((o + cnt l : Nat) : Int) - 1 < _; omega
        · show (-1 : Int) ≤ ((o + cnt l + cnt r : Nat) : Int) - 1; omega
        · show ((o + cnt l + cnt r : Nat) : Int) - 1 < _; omega
theorem br_last {t : Limb} (h : Gt t) (o : Nat) : ∃ xs x, br t o = xs ++ [x] ∧ x.f3 = t.size ∧ x.f4 = t.deep := by
  cases t with
  | nil => exact h.elim
  | node l r s m d =>
    rcases h with ⟨rfl, rfl, h1, h2, -, rfl, rfl⟩ | ⟨hl, hr, -, rfl, rfl⟩
    · exact ⟨[], _, rfl, rfl, rfl⟩
    · unfold br
      rw [Gt_nil hl, if_neg (by simp)]
      exact ⟨_, _, rfl, rfl, rfl⟩
theorem rd_last (xs : List S101) (x : S101) (n : Nat) (h : n = xs.length) (ys : List S101) : rd_T101 (xs ++ ([x] ++ ys)) (n : Int) = x := by
  subst h
  rw [rdTB _ _ (by simp)]
  simp
theorem rd_root {t : Limb} (h : Gt t) (n : Nat) (hn : n + 1 = cnt t) : (rd_T101 (br t 0) (n : Int)).f3 = t.size ∧ (rd_T101 (br t 0) (n : Int)).f4 = t.deep := by
  obtain ⟨xs, x, e, e3, e4⟩ := br_last h 0
  have hl := br_length t 0
  rw [e, List.length_append, List.length_singleton] at hl
  have := rd_last xs x n (by omega) []
  rw [List.append_nil] at this
  rw [e, this]
  exact ⟨e3, e4⟩

/-! ropes: a tree's boughs are a good rope -/
theorem V_br : ∀ {t : Limb}, Gt t → ∀ (A B : List S101), V (A ++ (br t A.length ++ B)) (A.length + cnt t - 1) = some (A.length, t)
  | .node l r s m d, h, A, B => by
    rcases h with ⟨rfl, rfl, h1, h2, h3, rfl, rfl⟩ | ⟨hl, hr, rfl, rfl, rfl⟩
    · have e := rd_last A (⟨-1, -1, s, (s.size : Int), 0⟩ : S101) (A.length + 1 - 1) rfl B
      show V (A ++ ([(⟨-1, -1, s, (s.size : Int), 0⟩ : S101)] ++ B)) (A.length + 1 - 1) = _
      rw [V_leaf _ _ (by rw [e]; exact ⟨rfl, rfl⟩), e, if_pos]
      · rfl
      · show (!(s.toList == []) && (decide (s.size ≤ 8) && (okN s s.size 0 && (decide ((s.size : Int) = (s.size : Int)) && decide ((0 : Int) = 0))))) = true
        have : ¬ s.toList = [] := fun h => by rw [tl_nil] at h; omega
        rw [h3, decide_eq_true h2]
        simp [this]
    · have a1 := Gt_bd hl
      have a2 := Gt_bd hr
      rw [br_fork (Gt_nil hl), cnt_fork (Gt_nil hl)]
      have v1 := V_br hl A (br r (A.length + cnt l) ++ [(⟨((A.length + cnt l : Nat) : Int) - 1, ((A.length + cnt l + cnt r : Nat) : Int) - 1, ⟨#[]⟩, l.size + r.size, 1 + max l.deep r.deep⟩ : S101)] ++ B)
      have v2 := V_br hr (A ++ br l A.length) ([(⟨((A.length + cnt l : Nat) : Int) - 1, ((A.length + cnt l + cnt r : Nat) : Int) - 1, ⟨#[]⟩, l.size + r.size, 1 + max l.deep r.deep⟩ : S101)] ++ B)
      have e := rd_last (A ++ br l A.length ++ br r (A.length + cnt l)) (⟨((A.length + cnt l : Nat) : Int) - 1, ((A.length + cnt l + cnt r : Nat) : Int) - 1, ⟨#[]⟩, l.size + r.size, 1 + max l.deep r.deep⟩ : S101) (A.length + (cnt l + cnt r + 1) - 1) (by rw [List.length_append, List.length_append, br_length, br_length]; omega) B
      simp only [List.append_assoc] at v1 v2 e ⊢
      rw [List.length_append, br_length] at v2
      generalize A ++ (br l A.length ++ (br r (A.length + cnt l) ++ ([(⟨((A.length + cnt l : Nat) : Int) - 1, ((A.length + cnt l + cnt r : Nat) : Int) - 1, ⟨#[]⟩, l.size + r.size, 1 + max l.deep r.deep⟩ : S101)] ++ B))) = M at v1 v2 e ⊢
      rw [V_fork M _ (by rw [e]; intro h; have h' : ((A.length + cnt l : Nat) : Int) - 1 = -1 := h.1; omega), e]
      rw [if_pos ⟨tl_nil.2 rfl, by show ((A.length + cnt l + cnt r : Nat) : Int) - 1 = _; omega, by omega⟩, show A.length + (cnt l + cnt r + 1) - 1 - 1 = A.length + cnt l + cnt r - 1 from by omega, v2, Option.bind_some]
      rw [if_pos ⟨by show 1 ≤ A.length + cnt l; omega, rfl⟩]
      show (V M (A.length + cnt l - 1)).bind _ = _
      rw [v1, Option.bind_some, if_pos ⟨rfl, rfl⟩]
theorem V_bo {t : Limb} (h : Gt t) : V (br t 0) (cnt t - 1) = some (0, t) := by
  have := V_br h [] []
  rw [List.append_nil, List.nil_append] at this
  show V (br t ([] : List S101).length) _ = _
  rw [show cnt t - 1 = ([] : List S101).length + cnt t - 1 from by simp]
  exact this
theorem goodR_br {t : Limb} (h : GtN t) : goodR (br t 0) = (decide (cnt t ≤ 200) && decide (t.size ≤ 300)) := by
  rcases h with rfl | h
  · rfl
  · have a := Gt_bd h
    unfold goodR
    rw [br_length, vr_some (V_bo h), (rd_root h (cnt t - 1) (by omega)).1, decide_eq_false (p := cnt t = 0) (by omega), decide_eq_true (p := (((0, t) : Nat × Limb).1 : Int) = 0) rfl]
    simp
theorem br_szN {t : Limb} (h : GtN t) (k : Int) : (rd_T101 (br t 0) k).f2.size ≤ 1048576 := by
  unfold rd_T101
  rw [List.getD_eq_getElem?_getD]
  cases hx : (br t 0)[k.toNat]? with
  | none => exact Nat.zero_le _
  | some x =>
    rcases h with rfl | h
    · cases hx
    · have := (br_mem h 0 x (List.mem_of_getElem? hx)).2.2.2.2
      show x.f2.size ≤ _
      omega

/-! ropes: two joined -/
theorem Join_l (a b : Limb) (ha : Gt a) (hb : Gt b) (hc : cnt a + cnt b ≤ 100000) : ∀ (d i : Nat) (x : List S101), i + d = cnt b → x.length = cnt a + i → ∀ k, d < k → spec_l12Join.l0 k (br a 0) (br b 0) x (br b 0) ((br b 0).length : Int) (i : Int) = some (x ++ ((br b 0).drop i).map (sh (cnt a : Int)) ++ [(⟨((cnt a : Nat) : Int) - 1, ((cnt a + cnt b : Nat) : Int) - 1, ⟨#[]⟩, a.size + b.size, 1 + max a.deep b.deep⟩ : S101)]) := by
  have pa := Gt_bd ha
  have pb := Gt_bd hb
  have la := br_length a 0
  have lb := br_length b 0
  intro d
  induction d with
  | zero =>
    intro i x hi hx k hk
    obtain ⟨k, rfl⟩ : ∃ m, k = m + 1 := ⟨k - 1, by omega⟩
    simp only [spec_l12Join.l0]
    have ea : Aside0 (wrap64 (((br a 0).length : Int) - 1) = ((cnt a - 1 : Nat) : Int)) := ⟨by rw [la, w64 (by omega) (by omega)]; omega⟩
    have eb : Aside0 (wrap64 (((br b 0).length : Int) - 1) = ((cnt b - 1 : Nat) : Int)) := ⟨by rw [lb, w64 (by omega) (by omega)]; omega⟩
    have ra := rd_root ha (cnt a - 1) (by omega)
    have rb := rd_root hb (cnt b - 1) (by omega)
    rw [if_neg (by omega), ea.out, eb.out, if_pos (by omega), if_pos (by omega), if_pos (by omega), if_pos (by omega), ra.1, ra.2, rb.1, rb.2, w64 (i := a.size + b.size) (by omega) (by omega), w64 (i := b.deep + 1) (by omega) (by omega), w64 (i := a.deep + 1) (by omega) (by omega), w64 (i := (x.length : Int) - 1) (by omega) (by omega), show i = (br b 0).length from by omega, List.drop_length, List.map_nil, List.append_nil, hx, show ((cnt a - 1 : Nat) : Int) = (cnt a : Int) - 1 from by omega]
    rw [show ((cnt a + i : Nat) : Int) - 1 = ((cnt a + cnt b : Nat) : Int) - 1 from by omega]
    by_cases c : b.deep > a.deep
    · rw [if_pos c, if_pos (by omega), show b.deep + 1 = 1 + max a.deep b.deep from by omega]
    · rw [if_neg c, if_pos (by omega), show a.deep + 1 = 1 + max a.deep b.deep from by omega]
  | succ d ih =>
    intro i x hi hx k hk
    obtain ⟨k, rfl⟩ : ∃ m, k = m + 1 := ⟨k - 1, by omega⟩
    have e2 : Aside0 (wrap64 ((i : Int) + 1) = ((i + 1 : Nat) : Int)) := ⟨by rw [w64 (by omega) (by omega)]; omega⟩
    have hil : i < (br b 0).length := by omega
    have hm := br_mem hb 0 (rd_T101 (br b 0) (i : Int)) (by rw [rdTB _ _ hil]; exact List.getElem_mem hil)
    have hd : (br b 0).drop i = rd_T101 (br b 0) (i : Int) :: (br b 0).drop (i + 1) := by rw [List.drop_eq_getElem_cons hil, rdTB _ i hil]
    simp only [spec_l12Join.l0]
    rw [if_pos (by omega), if_pos (by omega), if_pos (by omega), e2.out, hd, List.map_cons]
    generalize rd_T101 (br b 0) (i : Int) = y at hm ⊢
    by_cases c : y.f0 ≥ 0
    · rw [if_pos c, if_pos (by omega), w64 (by omega) (by omega), w64 (by omega) (by omega), ih (i + 1) _ (by omega) (by rw [List.length_append, List.length_singleton]; omega) k (by omega), la]
      have e : sh (cnt a : Int) y = ⟨y.f0 + (cnt a : Int), y.f1 + (cnt a : Int), y.f2, y.f3, y.f4⟩ := by
        unfold sh
        rw [if_pos c]
      rw [e]
      simp only [List.append_assoc, List.singleton_append, List.cons_append, List.nil_append]
    · rw [if_neg c, if_pos (by omega), ih (i + 1) _ (by omega) (by rw [List.length_append, List.length_singleton]; omega) k (by omega)]
      have e : sh (cnt a : Int) y = y := by
        unfold sh
        rw [if_neg c]
      rw [e]
      simp only [List.append_assoc, List.singleton_append, List.cons_append, List.nil_append]
theorem fk_nil (a : Limb) : fk a .nil = a := by cases a <;> rfl
theorem fk_GtN {a b : Limb} (ha : GtN a) (hb : GtN b) (h : cnt a + cnt b ≤ 1000) : GtN (fk a b) ∧ (fk a b).size = a.size + b.size ∧ (Gt a → Gt b → cnt (fk a b) = cnt a + cnt b + 1) := by
  rcases ha with rfl | ha
  · exact ⟨hb, by show b.size = 0 + b.size; omega, fun h => h.elim⟩
  · rcases hb with rfl | hb
    · rw [fk_nil]
      exact ⟨.inr ha, by show a.size = a.size + 0; omega, fun _ h => h.elim⟩
    · rw [fk_good ha hb h]
      exact ⟨.inr (.inr ⟨ha, hb, rfl, rfl, rfl⟩), rfl, fun _ _ => cnt_fork (Gt_nil ha)⟩
theorem join_ev (a b : Limb) (ha : GtN a) (hb : GtN b) (hc : cnt a + cnt b ≤ 1000) (k : Nat) (hk : cnt b < k) : spec_l12Join.f k (br a 0) (br b 0) = some (br (fk a b) 0) := by
  have la := br_length a 0
  have lb := br_length b 0
  unfold spec_l12Join.f
  rcases ha with rfl | ha
  · rw [if_pos (show ((br .nil 0).length : Int) = 0 from rfl)]; rfl
  · have pa := Gt_bd ha
    rw [if_neg (by omega)]
    rcases hb with rfl | hb
    · rw [if_pos (show ((br .nil 0).length : Int) = 0 from rfl), fk_nil]
    · have pb := Gt_bd hb
      rw [if_neg (by omega), Option.bind_some, if_pos (by rw [List.length_nil]; omega), List.nil_append, show (0 : Int) = ((0 : Nat) : Int) from rfl, Join_l a b ha hb (by omega) (cnt b) 0 _ (by omega) (by omega) k hk, List.drop_zero, fk_good ha hb hc, br_fork (Gt_nil ha), ← br_sh hb]
      simp only [Nat.zero_add]

/-! ropes: sizes of pieces -/
def psz : List ByteArray → Nat
  | [] => 0
  | p :: ps => p.size + psz ps
theorem psz_app (a b : List ByteArray) : psz (a ++ b) = psz a + psz b := by
  induction a with
  | nil => show _ = 0 + _; rw [Nat.zero_add]; rfl
  | cons x a ih => show x.size + psz (a ++ b) = x.size + psz a + psz b; omega

/-! ropes: pieces and texts -/
def pcR (l : List S101) : List ByteArray := (l.filter fun b => decide (b.f0 < 0)).map (fun b => b.f2)
theorem pcR_app (a b : List S101) : pcR (a ++ b) = pcR a ++ pcR b := by unfold pcR; rw [List.filter_append, List.map_append]
theorem pcR_bo : ∀ {t : Limb}, Gt t → ∀ out, pcR (bo t out) = pcR out ++ pcs t
  | .node l r s n d, h, out => by
    rcases h with ⟨rfl, rfl, h1, h2, -, rfl, rfl⟩ | ⟨hl, hr, -, rfl, rfl⟩
    · show pcR (out ++ [_]) = _
      rw [pcR_app]
      rfl
    · unfold bo pcs
      rw [Gt_nil hl, if_neg (by simp), if_neg (by simp), pcR_app, pcR_bo hr, pcR_bo hl]
      have b := Gt_bd hl
      have : pcR [(⟨((bo l out).length : Int) - 1, ((bo r (bo l out)).length : Int) - 1, ⟨#[]⟩, l.size + r.size, 1 + max l.deep r.deep⟩ : S101)] = [] := by
        unfold pcR
        rw [List.filter_cons_of_neg, List.filter_nil, List.map_nil]
        rw [decide_eq_true_eq]
        show ¬ ((bo l out).length : Int) - 1 < 0
        rw [bo_length]
        omega
      rw [this, List.append_nil, List.append_assoc]
theorem pcR_good {t : Limb} (h : GtN t) : pcR (bo t []) = pcs t := by
  rcases h with rfl | h
  · rfl
  · rw [pcR_bo h]; rfl
theorem pcs_bd : ∀ {t : Limb}, Gt t → (psz (pcs t) : Int) = t.size ∧ (pcs t).length ≤ cnt t ∧ ∀ p ∈ pcs t, 1 ≤ p.size ∧ p.size ≤ 8
  | .node l r s n d, h => by
    rcases h with ⟨rfl, rfl, h1, h2, -, rfl, rfl⟩ | ⟨hl, hr, -, rfl, rfl⟩
    · refine ⟨rfl, Nat.le_refl _, fun p hp => ?_⟩
      have hp' : p ∈ [s] := hp
      rw [List.mem_singleton.1 hp']
      exact ⟨h1, h2⟩
    · have a := pcs_bd hl
      have b := pcs_bd hr
      unfold pcs
      unfold cnt
      rw [Gt_nil hl, if_neg (by simp), if_neg (by simp), psz_app, List.length_append]
      refine ⟨?_, by omega, fun p hp => ?_⟩
      · show _ = l.size + r.size
        omega
      · rcases List.mem_append.1 hp with hp | hp
        · exact a.2.2 p hp
        · exact b.2.2 p hp
theorem pcs_bdN {t : Limb} (h : GtN t) : (psz (pcs t) : Int) = t.size ∧ (pcs t).length ≤ cnt t := by
  rcases h with rfl | h
  · exact ⟨rfl, Nat.le_refl _⟩
  · exact ⟨(pcs_bd h).1, (pcs_bd h).2.1⟩
theorem drop_rdB (l : List S101) (i : Nat) (h : i < l.length) : l.drop i = rd_T101 l (i : Int) :: l.drop (i + 1) := by
  rw [List.drop_eq_getElem_cons h, rdTB l i h]
theorem Pieces_l (l : List S101) (hl : l.length ≤ 1048576) : ∀ (d i : Nat) (x : List ByteArray), i + d = l.length → x.length ≤ i → ∀ k, d < k → spec_l12Pieces.l0 k x l (l.length : Int) (i : Int) = some (x ++ pcR (l.drop i)) := by
  intro d
  induction d with
  | zero =>
    intro i x hi hx k hk
    obtain ⟨k, rfl⟩ : ∃ m, k = m + 1 := ⟨k - 1, by omega⟩
    simp only [spec_l12Pieces.l0]
    rw [if_neg (by omega), show i = l.length from by omega, List.drop_length]
    show _ = some (x ++ [])
    rw [List.append_nil]
  | succ d ih =>
    intro i x hi hx k hk
    obtain ⟨k, rfl⟩ : ∃ m, k = m + 1 := ⟨k - 1, by omega⟩
    have e2 : wrap64 ((i : Int) + 1) = ((i + 1 : Nat) : Int) := by rw [w64 (by omega) (by omega)]; omega
    simp only [spec_l12Pieces.l0]
    rw [if_pos (by omega), if_pos (by omega), if_pos (by omega), e2, drop_rdB l i (by omega)]
    have hP : ∀ b : S101, pcR (b :: l.drop (i + 1)) = if b.f0 < 0 then b.f2 :: pcR (l.drop (i + 1)) else pcR (l.drop (i + 1)) := fun b => by
      unfold pcR
      by_cases c : b.f0 < 0
      · rw [if_pos c, List.filter_cons_of_pos (by rw [decide_eq_true c]), List.map_cons]
      · rw [if_neg c, List.filter_cons_of_neg (by rw [decide_eq_true_eq]; exact c)]
    rw [hP]
    by_cases c : (rd_T101 l (i : Int)).f0 < 0
    · rw [if_pos c, if_pos c, if_pos (by omega), ih (i + 1) _ (by omega) (by rw [List.length_append, List.length_singleton]; omega) k (by omega), List.append_assoc]
      rfl
    · rw [if_neg c, if_neg c, ih (i + 1) _ (by omega) (by omega) k (by omega)]
theorem Pieces_ev (l : List S101) (hl : l.length ≤ 1048576) (k : Nat) (hk : l.length < k) : spec_l12Pieces.f k l = some (pcR l) := by
  unfold spec_l12Pieces.f
  rw [show (0 : Int) = ((0 : Nat) : Int) from rfl, Pieces_l l hl l.length 0 [] (by omega) (Nat.le_refl _) k hk]
  rfl

/-! ropes: the text -/
theorem Text_l (ps : List ByteArray) (hl : ps.length ≤ 1048576) : ∀ (d i : Nat) (x : ByteArray), i + d = ps.length → x.size + psz (ps.drop i) ≤ 1000000 → ∀ k, d < k → spec_l12Text.l0 k x ps (ps.length : Int) (i : Int) = some ((ps.drop i).foldl (fun a p => a ++ p) x) := by
  intro d
  induction d with
  | zero =>
    intro i x hi hx k hk
    obtain ⟨k, rfl⟩ : ∃ m, k = m + 1 := ⟨k - 1, by omega⟩
    simp only [spec_l12Text.l0]
    rw [if_neg (by omega), show i = ps.length from by omega, List.drop_length]
    rfl
  | succ d ih =>
    intro i x hi hx k hk
    obtain ⟨k, rfl⟩ : ∃ m, k = m + 1 := ⟨k - 1, by omega⟩
    have e2 : wrap64 ((i : Int) + 1) = ((i + 1 : Nat) : Int) := by rw [w64 (by omega) (by omega)]; omega
    have hil : i < ps.length := by omega
    have hd : ps.drop i = rdOf ByteArray.empty ps (i : Int) :: ps.drop (i + 1) := by
      rw [List.drop_eq_getElem_cons hil]
      congr 1
      unfold rdOf
      rw [Int.toNat_natCast, List.getD_eq_getElem?_getD, List.getElem?_eq_getElem hil]; rfl
    rw [hd] at hx ⊢
    have hx' : x.size + ((rdOf ByteArray.empty ps (i : Int)).size + psz (ps.drop (i + 1))) ≤ 1000000 := hx
    simp only [spec_l12Text.l0]
    rw [if_pos (by omega), if_pos (by omega), if_pos (by omega), e2, if_pos (by omega), ih (i + 1) _ (by omega) (by rw [ByteArray.size_append]; omega) k (by omega)]
    rfl
theorem Text_ev (l : List S101) (hl : l.length ≤ 1048576) (hz : psz (pcR l) ≤ 1000000) (hn : (pcR l).length ≤ 1048576) (k : Nat) (hk : l.length < k) (hk' : (pcR l).length < k) : spec_l12Text.f k l = some ((pcR l).foldl (fun a p => a ++ p) ⟨#[]⟩) := by
  unfold spec_l12Text.f
  rw [Pieces_ev l hl k hk, Option.bind_some, show (0 : Int) = ((0 : Nat) : Int) from rfl, Text_l (pcR l) hn (pcR l).length 0 _ (by omega) (by show 0 + _ ≤ _; rw [List.drop_zero]; omega) k hk', List.drop_zero]
theorem tx_size (ps : List ByteArray) : ∀ a : ByteArray, (ps.foldl (fun a p => a ++ p) a).size = a.size + psz ps := by
  induction ps with
  | nil => intro a; rfl
  | cons p ps ih =>
    intro a
    show (List.foldl _ (a ++ p) ps).size = a.size + (p.size + psz ps)
    rw [ih, ByteArray.size_append]; omega

/-! ropes: one piece -/
def gp (s : ByteArray) : Prop := 1 ≤ s.size ∧ s.size ≤ 8 ∧ okN s s.size 0 = true
theorem lf_good {s : ByteArray} (h : gp s) : Gt (lf s) ∧ cnt (lf s) = 1 ∧ (lf s).size = (s.size : Int) ∧ br (lf s) 0 = [⟨-1, -1, s, (s.size : Int), 0⟩] := by
  have e : lf s = .node .nil .nil s (s.size : Int) 0 := by
    unfold lf
    rw [if_neg (fun c => by rw [tl_nil] at c; have := h.1; omega)]
  rw [e]
  exact ⟨.inl ⟨rfl, rfl, h.1, h.2.1, h.2.2, rfl, rfl⟩, rfl, rfl, rfl⟩

/-! ropes: the pieces of a good rope are good -/
theorem pcs_gp : ∀ {t : Limb}, Gt t → cnt t + 1 = 2 * (pcs t).length ∧ ∀ p ∈ pcs t, gp p
  | .node l r s n d, h => by
    rcases h with ⟨rfl, rfl, h1, h2, h3, rfl, rfl⟩ | ⟨hl, hr, -, rfl, rfl⟩
    · refine ⟨rfl, fun p hp => ?_⟩
      have hp' : p ∈ [s] := hp
      rw [List.mem_singleton.1 hp']
      exact ⟨h1, h2, h3⟩
    · have a := pcs_gp hl
      have b := pcs_gp hr
      unfold pcs
      rw [cnt_fork (Gt_nil hl), Gt_nil hl, if_neg (by simp), List.length_append]
      refine ⟨by omega, fun p hp => ?_⟩
      rcases List.mem_append.1 hp with hp | hp
      · exact a.2 p hp
      · exact b.2 p hp

theorem pszR_cons (p : ByteArray) (ps : List ByteArray) : psz (p :: ps) = p.size + psz ps := rfl

/-! ropes: a tree written out -/
theorem bgs_bo (t : Limb) : ∀ out, bgs t out = bo t out := by
  induction t with
  | nil => intro out; rfl
  | node l r s n d ihl ihr =>
    intro out
    unfold bgs bo
    rw [ihr, ihl]
theorem ropeF_ev {t : Limb} (h : GtN t) (hc : cnt t ≤ 10000) (hz : 0 ≤ t.size) : ropeF t = some (if cnt t ≤ 200 ∧ t.size ≤ 300 then (br t 0, true) else ([], false)) := by
  unfold ropeF
  rw [if_pos (by omega), bgs_bo, bo_nil]
  by_cases c1 : cnt t ≤ 200
  · rw [if_neg (by omega)]
    rcases h with rfl | h
    · rw [if_pos (show Limb.nil.isNil = true from rfl), if_pos ⟨c1, by show (0 : Int) ≤ 300; omega⟩]
    · rw [Gt_nil h, if_neg (by simp)]
      by_cases c2 : t.size ≤ 300
      · rw [if_neg (by omega), if_pos ⟨c1, c2⟩]
      · rw [if_pos (by omega), if_neg (fun h => c2 h.2)]
  · rw [if_pos (by omega), if_neg (fun h => c1 h.1)]

/-! ropes: marks: what is written is read there again -/
def mT (n : Nat) : ByteArray := (laws_markText.f 100 (n : Int)).getD ⟨#[]⟩
theorem markText_l : ∀ (d n : Nat) (x : ByteArray), n < 10 ^ d → n ≤ 1000000000 → x.size + d ≤ 1000 → ∃ t, ∀ k, d < k → laws_markText.l0 k (n : Int) x = some t := by
  intro d
  induction d with
  | zero =>
    intro n x hn hnb hx
    have : n = 0 := by simpa using hn
    subst this
    refine ⟨(⟨#[109]⟩ : ByteArray) ++ x, fun k hk => ?_⟩
    obtain ⟨k, rfl⟩ : ∃ m, k = m + 1 := ⟨k - 1, by omega⟩
    simp only [laws_markText.l0]
    rw [if_neg (by omega), if_pos (by omega)]
  | succ d ih =>
    intro n x hn hnb hx
    by_cases h0 : n = 0
    · subst h0
      refine ⟨(⟨#[109]⟩ : ByteArray) ++ x, fun k hk => ?_⟩
      obtain ⟨k, rfl⟩ : ∃ m, k = m + 1 := ⟨k - 1, by omega⟩
      simp only [laws_markText.l0]
      rw [if_neg (by omega), if_pos (by omega)]
    · have hsz : ∀ c : Int, (strOfNums [c]).size = 1 := fun c => rfl
      obtain ⟨t, ht⟩ := ih (n / 10) (strOfNums [wrap64 (48 + Int.tmod (n : Int) 10) % 256] ++ x) (by rw [Nat.pow_succ] at hn; omega) (by omega) (by rw [ByteArray.size_append, hsz]; omega)
      refine ⟨t, fun k hk => ?_⟩
      obtain ⟨k, rfl⟩ : ∃ m, k = m + 1 := ⟨k - 1, by omega⟩
      simp only [laws_markText.l0]
      have hd : Int.tdiv (n : Int) 10 = ((n / 10 : Nat) : Int) := by rw [Int.tdiv_eq_ediv_of_nonneg (by omega)]; omega
      rw [if_pos (by omega), Option.bind_some, if_pos (by rw [hsz]; omega), hd]
      rw [w64 (by omega) (by omega)]
      exact ht k (by omega)
theorem mT_ev (n : Nat) (hn : n ≤ 1000000000) (k : Nat) (hk : 100 ≤ k) : laws_markText.f k (n : Int) = some (mT n) := by
  by_cases h0 : n = 0
  · subst h0
    unfold mT laws_markText.f
    rfl
  · obtain ⟨t, ht⟩ := markText_l 10 n ⟨#[]⟩ (by omega) (by omega) (by show 0 + 10 ≤ 1000; omega)
    have e : ∀ k, 100 ≤ k → laws_markText.f k (n : Int) = some t := by
      intro k hk
      unfold laws_markText.f
      rw [if_neg (by omega)]
      exact ht k (by omega)
    unfold mT
    rw [e k hk, e 100 (Nat.le_refl _)]
    rfl
def mkB (s i : Nat) : S101 := ⟨((s + 5 * i : Nat) : Int), ((s + 1 + 5 * i : Nat) : Int), mT (s + 2 + 5 * i), ((s + 3 + 5 * i : Nat) : Int), ((s + 4 + 5 * i : Nat) : Int)⟩
theorem rdB_set {t : List S101} {i : Nat} {v : S101} (h : i < t.length) (j : Nat) : rd_T101 (t.set i v) (j : Int) = if j = i then v else rd_T101 t (j : Int) := by
  unfold rd_T101
  simp only [Int.toNat_natCast, List.getD_eq_getElem?_getD]
  by_cases e : j = i
  · subst e; simp [h]
  · rw [List.getElem?_set_ne (by omega)]; simp [e]
theorem markBoughS_l (s m : Nat) (hs : s ≤ 100000000) (hm : m ≤ 10000000) : ∀ (d i : Nat) (x : List S101), i + d = m → x.length = m → (∀ j, j < i → rd_T101 x (j : Int) = mkB s j) → ∀ k, 200 + d ≤ k → laws_markBoughS.l0 k x ((s + 5 * i : Nat) : Int) (i : Int) = some (((s + 5 * m : Nat) : Int), (List.range m).map (mkB s)) := by
  intro d
  induction d with
  | zero =>
    intro i x hi hl hx k hk
    obtain ⟨k, rfl⟩ : ∃ m, k = m + 1 := ⟨k - 1, by omega⟩
    simp only [laws_markBoughS.l0]
    have hi' : i = m := by omega
    subst hi'
    rw [if_neg (by omega)]
    have : x = (List.range i).map (mkB s) := by
      apply List.ext_getElem
      · simp [hl]
      · intro j h1 h2
        simp only [List.getElem_map, List.getElem_range]
        rw [← hx j (by omega)]
        unfold rd_T101
        simp [List.getD, h1]
    rw [this]
  | succ d ih =>
    intro i x hi hl hx k hk
    obtain ⟨k, rfl⟩ : ∃ m, k = m + 1 := ⟨k - 1, by omega⟩
    have c1 : Aside0 (wrap64 (((s + 5 * i : Nat) : Int) + 1) = ((s + 1 + 5 * i : Nat) : Int)) := ⟨by rw [w64 (by omega) (by omega)]; omega⟩
    have c2 : Aside0 (wrap64 (((s + 1 + 5 * i : Nat) : Int) + 1) = ((s + 2 + 5 * i : Nat) : Int)) := ⟨by rw [w64 (by omega) (by omega)]; omega⟩
    have c3 : Aside0 (wrap64 (((s + 2 + 5 * i : Nat) : Int) + 1) = ((s + 3 + 5 * i : Nat) : Int)) := ⟨by rw [w64 (by omega) (by omega)]; omega⟩
    have c4 : Aside0 (wrap64 (((s + 3 + 5 * i : Nat) : Int) + 1) = ((s + 4 + 5 * i : Nat) : Int)) := ⟨by rw [w64 (by omega) (by omega)]; omega⟩
    have c5 : Aside0 (wrap64 (((s + 4 + 5 * i : Nat) : Int) + 1) = ((s + 5 * (i + 1) : Nat) : Int)) := ⟨by rw [w64 (by omega) (by omega)]; omega⟩
    have c6 : Aside0 (wrap64 ((i : Int) + 1) = ((i + 1 : Nat) : Int)) := ⟨by rw [w64 (by omega) (by omega)]; omega⟩
    simp only [laws_markBoughS.l0]
    rw [if_pos (by omega), if_pos (by omega)]
    simp only [Option.bind_some, c1.out, c2.out, c3.out, c4.out, c5.out, c6.out, Int.toNat_natCast]
    rw [mT_ev _ (by omega) k (by omega)]
    simp only [Option.bind_some]
    have hlt : i < x.length := by omega
    simp only [rdB_set hlt, if_true, List.set_set]
    refine ih (i + 1) _ (by omega) (by simp [hl]) (fun j hj => ?_) k (by omega)
    rw [rdB_set hlt]
    by_cases e : j = i
    · rw [if_pos e, e]; rfl
    · rw [if_neg e]; exact hx j (by omega)
theorem markRope_ev (l : List S101) (s : Nat) (hs : s ≤ 100000000) (hm : l.length ≤ 10000000) (k : Nat) (hk : 200 + l.length ≤ k) : laws_markRope.f k l (s : Int) = some (((s + 5 * l.length : Nat) : Int), (List.range l.length).map (mkB s)) := by
  have h := markBoughS_l s l.length hs hm l.length 0 l (by omega) rfl (fun j hj => by omega) k hk
  unfold laws_markRope.f laws_markBoughS.f
  rw [show s + 5 * 0 = s from rfl, show ((0 : Nat) : Int) = 0 from rfl] at h
  rw [h]
  rfl

/-! ropes: what is held there -/
theorem heldBoughS_l (s m : Nat) (hs : s ≤ 100000000) (hm : m ≤ 10000000) : ∀ (d i : Nat), i + d = m → ∀ k, 200 + d ≤ k → laws_heldBoughS.l0 k ((List.range m).map (mkB s)) ((s + 5 * i : Nat) : Int) (i : Int) = some ((s + 5 * m : Nat) : Int) := by
  intro d
  induction d with
  | zero =>
    intro i hi k hk
    obtain ⟨k, rfl⟩ : ∃ m, k = m + 1 := ⟨k - 1, by omega⟩
    simp only [laws_heldBoughS.l0]
    have hi' : i = m := by omega
    subst hi'
    rw [if_neg (by simp)]
  | succ d ih =>
    intro i hi k hk
    obtain ⟨k, rfl⟩ : ∃ m, k = m + 1 := ⟨k - 1, by omega⟩
    have c1 : Aside0 (wrap64 (((s + 5 * i : Nat) : Int) + 1) = ((s + 1 + 5 * i : Nat) : Int)) := ⟨by rw [w64 (by omega) (by omega)]; omega⟩
    have c2 : Aside0 (wrap64 (((s + 1 + 5 * i : Nat) : Int) + 1) = ((s + 2 + 5 * i : Nat) : Int)) := ⟨by rw [w64 (by omega) (by omega)]; omega⟩
    have c3 : Aside0 (wrap64 (((s + 2 + 5 * i : Nat) : Int) + 1) = ((s + 3 + 5 * i : Nat) : Int)) := ⟨by rw [w64 (by omega) (by omega)]; omega⟩
    have c4 : Aside0 (wrap64 (((s + 3 + 5 * i : Nat) : Int) + 1) = ((s + 4 + 5 * i : Nat) : Int)) := ⟨by rw [w64 (by omega) (by omega)]; omega⟩
    have c5 : Aside0 (wrap64 (((s + 4 + 5 * i : Nat) : Int) + 1) = ((s + 5 * (i + 1) : Nat) : Int)) := ⟨by rw [w64 (by omega) (by omega)]; omega⟩
    have c6 : Aside0 (wrap64 ((i : Int) + 1) = ((i + 1 : Nat) : Int)) := ⟨by rw [w64 (by omega) (by omega)]; omega⟩
    have hr : rd_T101 ((List.range m).map (mkB s)) (i : Int) = mkB s i := by
      unfold rd_T101
      simp [List.getD, (by omega : i < m)]
    simp only [laws_heldBoughS.l0]
    rw [if_pos (by simp; omega), if_pos (by omega), hr]
    simp only [mkB, if_true, c1.out, c2.out, c3.out, c4.out, c5.out, c6.out]
    rw [mT_ev _ (by omega) k (by omega)]
    simp only [Option.bind_some, if_true]
    exact ih (i + 1) (by omega) k (by omega)
theorem heldRope_ev (m s : Nat) (hs : s ≤ 100000000) (hm : m ≤ 10000000) (k : Nat) (hk : 200 + m ≤ k) : laws_heldRope.f k ((List.range m).map (mkB s)) (s : Int) = some ((s + 5 * m : Nat) : Int) := by
  have h := heldBoughS_l s m hs hm m 0 (by omega) k hk
  unfold laws_heldRope.f laws_heldBoughS.f
  rw [show s + 5 * 0 = s from rfl, show ((0 : Nat) : Int) = 0 from rfl] at h
  rw [h, Option.bind_some, if_neg (by omega)]

/-! ropes: one cut in two -/
def ush (n : Int) (x : S101) : S101 := if x.f0 ≥ 0 then ⟨x.f0 - n, x.f1 - n, x.f2, x.f3, x.f4⟩ else x
theorem ush_sh (n : Nat) (x : S101) : ush (n : Int) (sh (n : Int) x) = x := by
  obtain ⟨a, b, c, d, e⟩ := x
  unfold sh
  by_cases h : a ≥ 0
  · rw [if_pos h]
    unfold ush
    rw [if_pos (by show a + (n : Int) ≥ 0; omega)]
    show (⟨a + (n : Int) - n, b + (n : Int) - n, c, d, e⟩ : S101) = _
    rw [show a + (n : Int) - n = a from by omega, show b + (n : Int) - n = b from by omega]
  · rw [if_neg h]
    unfold ush
    rw [if_neg h]
theorem ush_br {t : Limb} (h : Gt t) (n : Nat) : (br t n).map (ush (n : Int)) = br t 0 := by
  have := br_sh h 0 n
  rw [Nat.zero_add] at this
  rw [this, List.map_map]
  have e : (ush (n : Int)) ∘ (sh (n : Int)) = id := funext fun x => ush_sh n x
  rw [e, List.map_id]
theorem Part_l (n : Int) (hn0 : 0 ≤ n) (hn : n ≤ 100000) (M : List S101) (hM : M.length ≤ 100000) (hm : ∀ b ∈ M, -1 ≤ b.f0 ∧ b.f0 ≤ 100000 ∧ -1 ≤ b.f1 ∧ b.f1 ≤ 100000) : ∀ (d i : Nat) (x : List S101), i + d = M.length → x.length ≤ i → ∀ k, d < k → spec_l12Part.l0 k n x M (M.length : Int) (i : Int) = some (x ++ (M.drop i).map (ush n)) := by
  intro d
  induction d with
  | zero =>
    intro i x hi hx k hk
    obtain ⟨k, rfl⟩ : ∃ m, k = m + 1 := ⟨k - 1, by omega⟩
    simp only [spec_l12Part.l0]
    rw [if_neg (by omega), show i = M.length from by omega, List.drop_length, List.map_nil, List.append_nil]
  | succ d ih =>
    intro i x hi hx k hk
    obtain ⟨k, rfl⟩ : ∃ m, k = m + 1 := ⟨k - 1, by omega⟩
    have e2 : Aside0 (wrap64 ((i : Int) + 1) = ((i + 1 : Nat) : Int)) := ⟨by rw [w64 (by omega) (by omega)]; omega⟩
    have hil : i < M.length := by omega
    have hb := hm (rd_T101 M (i : Int)) (by rw [rdTB _ _ hil]; exact List.getElem_mem hil)
    have hd : M.drop i = rd_T101 M (i : Int) :: M.drop (i + 1) := by rw [List.drop_eq_getElem_cons hil, rdTB _ i hil]
    simp only [spec_l12Part.l0]
    rw [if_pos (by omega), if_pos (by omega), if_pos (by omega), e2.out, hd, List.map_cons]
    generalize rd_T101 M (i : Int) = y at hb ⊢
    by_cases c : y.f0 ≥ 0
    · rw [if_pos c, if_pos (by omega), w64 (by omega) (by omega), w64 (by omega) (by omega), ih (i + 1) _ (by omega) (by rw [List.length_append, List.length_singleton]; omega) k (by omega), List.append_assoc]
      have e : ush n y = ⟨y.f0 - n, y.f1 - n, y.f2, y.f3, y.f4⟩ := by
        unfold ush
        rw [if_pos c]
      rw [e]
      rfl
    · rw [if_neg c, if_pos (by omega), ih (i + 1) _ (by omega) (by rw [List.length_append, List.length_singleton]; omega) k (by omega), List.append_assoc]
      have e : ush n y = y := by
        unfold ush
        rw [if_neg c]
      rw [e]
      rfl
theorem Part_ev {t : Limb} (h : Gt t) (A B : List S101) (hL : (A ++ (br t A.length ++ B)).length ≤ 200) (hS : ∀ k : Int, (rd_T101 (A ++ (br t A.length ++ B)) k).f2.size ≤ 1048576) (i : Int) (hi : i = ((A.length + cnt t - 1 : Nat) : Int)) : ∃ K, ∀ k, K ≤ k → spec_l12Part.f k (A ++ (br t A.length ++ B)) i = some (br t 0) := by
  have p := Gt_bd h
  have hv := V_br h A B
  have hl := br_length t A.length
  have hlen : (A ++ (br t A.length ++ B)).length = A.length + (cnt t + B.length) := by rw [List.length_append, List.length_append, hl]
  obtain ⟨K, hK⟩ := First_ev _ hL hS (A.length + cnt t - 1) (by omega)
  rw [vr_some hv] at hK
  refine ⟨K + 1000, fun k hk => ?_⟩
  subst hi
  have e1 : Aside0 (wrap64 (((A.length + cnt t - 1 : Nat) : Int) + 1) = ((A.length + cnt t : Nat) : Int)) := ⟨by rw [w64 (by omega) (by omega)]; omega⟩
  unfold spec_l12Part.f
  rw [hK k (by omega), Option.bind_some, e1.out]
  show (if 0 ≤ (A.length : Int) then _ else none) = _
  rw [if_pos (by omega), if_pos (by show (A.length : Int) ≤ _; omega), if_pos (by omega), Option.bind_some]
  have e2 : ((A ++ (br t A.length ++ B)).take (A.length + cnt t)).drop A.length = br t A.length := by
    rw [List.take_append, List.drop_append, show A.length + cnt t - A.length = cnt t from by omega, List.take_of_length_le (l := A) (by omega), List.drop_length, List.nil_append, Nat.sub_self, List.drop_zero, ← hl, List.take_left]
  simp only [Int.toNat_natCast]
  rw [e2, show (0 : Int) = ((0 : Nat) : Int) from rfl, Part_l (A.length : Int) (by omega) (by omega) (br t A.length) (by omega) (fun b hb => by have := br_mem h A.length b hb; omega) (cnt t) 0 [] (by omega) (Nat.zero_le _) k (by omega), List.drop_zero, List.nil_append, ush_br h]
theorem Size_ev {t : Limb} (h : Gt t) (hc : cnt t ≤ 10000) : spec_l12Size.f (br t 0) = some t.size := by
  have p := Gt_bd h
  have hl := br_length t 0
  have e1 : Aside0 (wrap64 (((br t 0).length : Int) - 1) = ((cnt t - 1 : Nat) : Int)) := ⟨by rw [hl, w64 (by omega) (by omega)]; omega⟩
  unfold spec_l12Size.f
  rw [if_neg (by omega), e1.out, if_pos (by omega), if_pos (by omega), (rd_root h (cnt t - 1) (by omega)).1]
theorem Split_ev : ∀ {t : Limb}, Gt t → cnt t ≤ 200 → ∀ a : Int, 0 ≤ a → a ≤ t.size → ∃ x y, spl t a = some (x, y) ∧ GtN x ∧ GtN y ∧ cnt x ≤ cnt t ∧ cnt y ≤ cnt t ∧ x.size = a ∧ y.size = t.size - a ∧ ∃ K, ∀ k, K ≤ k → spec_l12Split.f k (br t 0) a = some (br x 0, br y 0)
  | .node l r s n d, h, hc, a, h0, h1 => by
    have hp := Gt_bd h
    have hz := Size_ev h (by omega)
    have hle := br_length (.node l r s n d) 0
    have e1 : Aside0 (wrap64 (((br (.node l r s n d) 0).length : Int) - 1) = ((cnt (.node l r s n d) - 1 : Nat) : Int)) := ⟨by rw [hle, w64 (by omega) (by omega)]; omega⟩
    have hsp : spl (.node l r s n d) a = (if a = 0 then some (.nil, .node l r s n d) else if a = n then some (.node l r s n d, .nil) else if l.isNil = true then (if 0 ≤ a ∧ a ≤ (s.size : Int) then some (lf (s.extract 0 a.toNat), lf (s.extract a.toNat s.size)) else none) else if a ≤ l.size then (spl l a).bind fun p => some (p.1, fk p.2 r) else (spl r (wrap64 (a - l.size))).bind fun p => some (fk l p.1, p.2)) := rfl
    rw [hsp]
    by_cases a0 : a = 0
    · refine ⟨.nil, .node l r s n d, by rw [if_pos a0], .inl rfl, .inr h, Nat.zero_le _, Nat.le_refl _, a0.symm, by rw [a0]; exact (Int.sub_zero _).symm, 1, fun k hk => ?_⟩
      obtain ⟨k, rfl⟩ : ∃ m, k = m + 1 := ⟨k - 1, by omega⟩
      simp only [spec_l12Split.f]
      rw [if_pos a0]
      rfl
    · rw [if_neg a0]
      have h1' : a ≤ n := h1
      by_cases an : a = n
      · refine ⟨.node l r s n d, .nil, by rw [if_pos an], .inr h, .inl rfl, Nat.le_refl _, Nat.zero_le _, an.symm, by show (0 : Int) = n - a; omega, 1, fun k hk => ?_⟩
        obtain ⟨k, rfl⟩ : ∃ m, k = m + 1 := ⟨k - 1, by omega⟩
        simp only [spec_l12Split.f]
        rw [if_neg a0, hz, Option.bind_some, if_pos (show a = Limb.size (.node l r s n d) from an)]
        rfl
      · rw [if_neg an]
        have hS : ∀ k, spec_l12Split.f (k + 1) (br (.node l r s n d) 0) a = (if ((rd_T101 (br (.node l r s n d) 0) ((cnt (.node l r s n d) - 1 : Nat) : Int)).f0) < 0 then (if 0 ≤ a then (if a ≤ (((rd_T101 (br (.node l r s n d) 0) ((cnt (.node l r s n d) - 1 : Nat) : Int)).f2).size : Int) then ((spec_l12Piece.f (((rd_T101 (br (.node l r s n d) 0) ((cnt (.node l r s n d) - 1 : Nat) : Int)).f2).extract 0 (a : Int).toNat)).bind fun t216 => ((spec_l12Piece.f (((rd_T101 (br (.node l r s n d) 0) ((cnt (.node l r s n d) - 1 : Nat) : Int)).f2).extract (a : Int).toNat ((rd_T101 (br (.node l r s n d) 0) ((cnt (.node l r s n d) - 1 : Nat) : Int)).f2).size)).bind fun t219 => (some (t216, t219)))) else (none)) else (none)) else ((spec_l12Part.f k (br (.node l r s n d) 0) ((rd_T101 (br (.node l r s n d) 0) ((cnt (.node l r s n d) - 1 : Nat) : Int)).f0)).bind fun t222 => ((spec_l12Part.f k (br (.node l r s n d) 0) ((rd_T101 (br (.node l r s n d) 0) ((cnt (.node l r s n d) - 1 : Nat) : Int)).f1)).bind fun t225 => ((spec_l12Size.f t222).bind fun t228 => (if a < t228 then ((spec_l12Split.f k t222 a).bind fun bt229 => ((spec_l12Join.f k bt229.2 t225).bind fun t235 => (some (bt229.1, t235)))) else ((spec_l12Split.f k t225 (wrap64 (a - t228))).bind fun bt238 => ((spec_l12Join.f k t222 bt238.1).bind fun t244 => (some (t244, bt238.2))))))))) := fun k => by
          simp only [spec_l12Split.f]
          rw [if_neg a0, hz, Option.bind_some, if_neg (show ¬ a = Limb.size (.node l r s n d) from an), e1.out, if_pos (by omega), if_pos (by omega)]
        rcases h with ⟨rfl, rfl, b1, b2, b3, rfl, rfl⟩ | ⟨hl, hr, rfl, rfl, rfl⟩
        · rw [if_pos (show Limb.nil.isNil = true from rfl), if_pos ⟨h0, h1'⟩]
          have ht : a.toNat ≤ s.size := by omega
          have z1 : (s.extract 0 a.toNat).size = a.toNat := by rw [ByteArray.size_extract]; omega
          have z2 : (s.extract a.toNat s.size).size = s.size - a.toNat := by rw [ByteArray.size_extract]; omega
          obtain ⟨c1, c2, c3, c4⟩ := lf_good (s := s.extract 0 a.toNat) ⟨by omega, by omega, okN_sub b3 0 a.toNat ht⟩
          obtain ⟨d1, d2, d3, d4⟩ := lf_good (s := s.extract a.toNat s.size) ⟨by omega, by omega, okN_sub b3 a.toNat s.size (Nat.le_refl _)⟩
          refine ⟨_, _, rfl, .inr c1, .inr d1, by rw [c2]; exact Nat.le_refl _, by rw [d2]; exact Nat.le_refl _, by rw [c3]; omega, by rw [d3]; show _ = (s.size : Int) - a; omega, 1, fun k hk => ?_⟩
          obtain ⟨k, rfl⟩ : ∃ m, k = m + 1 := ⟨k - 1, by omega⟩
          have er : rd_T101 (br (.node .nil .nil s (s.size : Int) 0) 0) ((cnt (.node .nil .nil s (s.size : Int) 0) - 1 : Nat) : Int) = ⟨-1, -1, s, (s.size : Int), 0⟩ := rfl
          rw [hS, er, if_pos (by show (-1 : Int) < 0; omega), if_pos h0, if_pos h1', c4, d4]
          unfold spec_l12Piece.f
          rfl
        · have q1 := Gt_bd hl
          have q2 := Gt_bd hr
          have hcn := cnt_fork (r := r) (s := ⟨#[]⟩) (n := l.size + r.size) (d := 1 + max l.deep r.deep) (Gt_nil hl)
          have hbr := br_fork (r := r) (s := ⟨#[]⟩) (n := l.size + r.size) (d := 1 + max l.deep r.deep) (Gt_nil hl) 0
          rw [Nat.zero_add] at hbr
          have szN : ∀ k : Int, (rd_T101 (br (.node l r ⟨#[]⟩ (l.size + r.size) (1 + max l.deep r.deep)) 0) k).f2.size ≤ 1048576 := br_szN (.inr (.inr ⟨hl, hr, rfl, rfl, rfl⟩))
          have er : rd_T101 (br (.node l r ⟨#[]⟩ (l.size + r.size) (1 + max l.deep r.deep)) 0) ((cnt (.node l r ⟨#[]⟩ (l.size + r.size) (1 + max l.deep r.deep)) - 1 : Nat) : Int) = ⟨((cnt l : Nat) : Int) - 1, ((cnt l + cnt r : Nat) : Int) - 1, ⟨#[]⟩, l.size + r.size, 1 + max l.deep r.deep⟩ := by
            have := rd_last (br l 0 ++ br r (cnt l)) (⟨((cnt l : Nat) : Int) - 1, ((cnt l + cnt r : Nat) : Int) - 1, ⟨#[]⟩, l.size + r.size, 1 + max l.deep r.deep⟩ : S101) (cnt l + cnt r) (by rw [List.length_append, br_length, br_length]) []
            rw [List.append_nil] at this
            rw [hcn, hbr]
            exact this
          have hA : ∃ K, ∀ k, K ≤ k → spec_l12Part.f k (br (.node l r ⟨#[]⟩ (l.size + r.size) (1 + max l.deep r.deep)) 0) (((cnt l : Nat) : Int) - 1) = some (br l 0) := by
            have := Part_ev hl [] (br r (cnt l) ++ [⟨((cnt l : Nat) : Int) - 1, ((cnt l + cnt r : Nat) : Int) - 1, ⟨#[]⟩, l.size + r.size, 1 + max l.deep r.deep⟩])
            simp only [List.nil_append, List.length_nil, ← List.append_assoc] at this
            rw [← hbr] at this
            exact this (by omega) szN _ (by omega)
          have hB : ∃ K, ∀ k, K ≤ k → spec_l12Part.f k (br (.node l r ⟨#[]⟩ (l.size + r.size) (1 + max l.deep r.deep)) 0) (((cnt l + cnt r : Nat) : Int) - 1) = some (br r 0) := by
            have := Part_ev hr (br l 0) [⟨((cnt l : Nat) : Int) - 1, ((cnt l + cnt r : Nat) : Int) - 1, ⟨#[]⟩, l.size + r.size, 1 + max l.deep r.deep⟩]
            rw [br_length, ← List.append_assoc, ← hbr] at this
            exact this (by omega) szN _ (by omega)
          obtain ⟨KA, hA⟩ := hA
          obtain ⟨KB, hB⟩ := hB
          have hS' : ∀ k, KA + KB ≤ k → spec_l12Split.f (k + 1) (br (.node l r ⟨#[]⟩ (l.size + r.size) (1 + max l.deep r.deep)) 0) a = (if a < l.size then ((spec_l12Split.f k (br l 0) a).bind fun bt229 => ((spec_l12Join.f k bt229.2 (br r 0)).bind fun t235 => (some (bt229.1, t235)))) else ((spec_l12Split.f k (br r 0) (wrap64 (a - l.size))).bind fun bt238 => ((spec_l12Join.f k (br l 0) bt238.1).bind fun t244 => (some (t244, bt238.2))))) := fun k hk => by
            rw [hS, er, if_neg (by show ¬ ((cnt l : Nat) : Int) - 1 < 0; omega)]
            show ((spec_l12Part.f k _ (((cnt l : Nat) : Int) - 1)).bind fun t222 => ((spec_l12Part.f k _ (((cnt l + cnt r : Nat) : Int) - 1)).bind fun t225 => _)) = _
            rw [hA k (by omega), Option.bind_some, hB k (by omega), Option.bind_some, Size_ev hl (by omega), Option.bind_some]
          have hnl : ¬ l.isNil = true := by rw [Gt_nil hl]; simp
          rw [if_neg hnl, hcn]
          by_cases al : a < l.size
          · obtain ⟨x, y, s1, s2, s3, s4, s5, s6, s7, K, s8⟩ := Split_ev hl (by omega) a h0 (by omega)
            obtain ⟨f1, f2, f3⟩ := fk_GtN s3 (.inr hr) (by omega)
            have fc : cnt (fk y r) ≤ cnt l + cnt r + 1 := by
              rcases s3 with rfl | s3
              · show cnt r ≤ _; omega
              · rw [f3 s3 hr]; omega
            refine ⟨x, fk y r, by rw [if_pos (by omega), s1]; rfl, s2, f1, by omega, fc, s6, by rw [f2, s7]; show _ = l.size + r.size - a; omega, KA + KB + K + 1000, fun k hk => ?_⟩
            obtain ⟨k, rfl⟩ : ∃ m, k = m + 1 := ⟨k - 1, by omega⟩
            rw [hS' k (by omega), if_pos al, s8 k (by omega), Option.bind_some, join_ev y r s3 (.inr hr) (by omega) k (by omega), Option.bind_some]
          · have e2 : wrap64 (a - l.size) = a - l.size := w64 (by omega) (by omega)
            by_cases ae : a = l.size
            · have hs2 : spl l a = some (l, .nil) := by
                cases l with
                | nil => exact hl.elim
                | node l1 l2 s' n' d' =>
                  have ae' : a = n' := ae
                  show (if a = 0 then _ else if a = n' then some _ else _) = _
                  rw [if_neg a0, if_pos ae']
              refine ⟨l, r, by rw [if_pos (by omega), hs2]; rfl, .inr hl, .inr hr, by omega, by omega, ae.symm, by show r.size = l.size + r.size - a; omega, KA + KB + 1000, fun k hk => ?_⟩
              obtain ⟨k, rfl⟩ : ∃ m, k = m + 2 := ⟨k - 2, by omega⟩
              rw [hS' (k + 1) (by omega), if_neg al, e2, show a - l.size = 0 from by omega]
              have : spec_l12Split.f (k + 1) (br r 0) 0 = some ([], br r 0) := by
                simp only [spec_l12Split.f, if_true]
              rw [this, Option.bind_some]
              show ((spec_l12Join.f (k + 1) (br l 0) (br .nil 0)).bind fun t244 => some (t244, br r 0)) = _
              rw [join_ev l .nil (.inr hl) (.inl rfl) (by show cnt l + 0 ≤ 1000; omega) (k + 1) (by show 0 < k + 1; omega), Option.bind_some, fk_nil]
            · obtain ⟨x, y, s1, s2, s3, s4, s5, s6, s7, K, s8⟩ := Split_ev hr (by omega) (a - l.size) (by omega) (by omega)
              obtain ⟨f1, f2, f3⟩ := fk_GtN (.inr hl) s2 (by omega)
              have fc : cnt (fk l x) ≤ cnt l + cnt r + 1 := by
                rcases s2 with rfl | s2
                · rw [fk_nil]; omega
                · rw [f3 hl s2]; omega
              refine ⟨fk l x, y, by rw [if_neg (by omega), e2, s1]; rfl, f1, s3, fc, by omega, by rw [f2, s6]; omega, by rw [s7]; show _ = l.size + r.size - a; omega, KA + KB + K + 1000, fun k hk => ?_⟩
              obtain ⟨k, rfl⟩ : ∃ m, k = m + 1 := ⟨k - 1, by omega⟩
              rw [hS' k (by omega), if_neg al, e2, s8 k (by omega), Option.bind_some, join_ev l x (.inr hl) s2 (by omega) k (by omega), Option.bind_some]

/-! ropes: a text cut into pieces -/
theorem Cut_l : ∀ (n : Nat) (s : ByteArray) (x : List ByteArray), s.size ≤ n → okN s s.size 0 = true → x.length + s.size ≤ 1000000 → ∃ ps, (∀ k, n < k → spec_l12Cut.l0 k s x = some (x ++ ps) ∧ impl_chunks.l0 k s x = some (x ++ ps)) ∧ (∀ p ∈ ps, gp p) ∧ 8 * ps.length ≤ s.size + 7 ∧ psz ps = s.size := by
  intro n
  induction n with
  | zero =>
    intro s x hn ho hx
    have e : s.toList = [] := tl_nil.2 (by omega)
    refine ⟨[], fun k hk => ?_, fun p hp => (by cases hp), by show 8 * 0 ≤ _; omega, by show 0 = s.size; omega⟩
    obtain ⟨k, rfl⟩ : ∃ m, k = m + 1 := ⟨k - 1, by omega⟩
    rw [List.append_nil]
    constructor
    · simp only [spec_l12Cut.l0]
      rw [if_neg (by omega), if_pos e]
    · simp only [impl_chunks.l0]
      rw [if_neg (by omega), if_pos e]
  | succ n ih =>
    intro s x hn ho hx
    by_cases h8 : (s.size : Int) > 8
    · have e1 : (s.extract 8 s.size).size = s.size - 8 := by rw [ByteArray.size_extract]; omega
      have e2 : (s.extract 0 8).size = 8 := by rw [ByteArray.size_extract]; omega
      obtain ⟨ps, h1, h2, h3, h4⟩ := ih (s.extract 8 s.size) (x ++ [s.extract 0 8]) (by omega) (okN_sub ho 8 s.size (Nat.le_refl _)) (by rw [List.length_append, List.length_singleton]; omega)
      refine ⟨s.extract 0 8 :: ps, fun k hk => ?_, fun p hp => ?_, by rw [List.length_cons]; omega, by rw [pszR_cons]; omega⟩
      · obtain ⟨k, rfl⟩ : ∃ m, k = m + 1 := ⟨k - 1, by omega⟩
        have h := h1 k (by omega)
        rw [List.append_assoc] at h
        constructor
        · simp only [spec_l12Cut.l0]
          rw [if_pos h8, if_pos (by omega), if_pos (by omega), if_pos (by omega), h.1]
          rfl
        · simp only [impl_chunks.l0]
          rw [if_pos h8, if_pos (by omega), if_pos (by omega), if_pos (by omega), h.2]
          rfl
      · rcases List.mem_cons.1 hp with rfl | hp
        · exact ⟨by omega, by omega, okN_sub ho 0 8 (by omega)⟩
        · exact h2 p hp
    · by_cases h0 : s.toList = []
      · have hz := tl_nil.1 h0
        refine ⟨[], fun k hk => ?_, fun p hp => (by cases hp), by show 8 * 0 ≤ _; omega, by show 0 = s.size; omega⟩
        obtain ⟨k, rfl⟩ : ∃ m, k = m + 1 := ⟨k - 1, by omega⟩
        rw [List.append_nil]
        constructor
        · simp only [spec_l12Cut.l0]
          rw [if_neg h8, if_pos h0]
        · simp only [impl_chunks.l0]
          rw [if_neg h8, if_pos h0]
      · have hz : s.size ≠ 0 := fun c => h0 (tl_nil.2 c)
        refine ⟨[s], fun k hk => ?_, fun p hp => ?_, by show 8 * 1 ≤ _; omega, by show s.size + 0 = s.size; omega⟩
        · obtain ⟨k, rfl⟩ : ∃ m, k = m + 1 := ⟨k - 1, by omega⟩
          constructor
          · simp only [spec_l12Cut.l0]
            rw [if_neg h8, if_neg h0, if_pos (by omega)]
          · simp only [impl_chunks.l0]
            rw [if_neg h8, if_neg h0, if_pos (by omega)]
        · rw [List.mem_singleton.1 hp]
          exact ⟨by omega, by omega, ho⟩
theorem Cut_ev (s : ByteArray) (hs : s.size ≤ 100000) (ho : okN s s.size 0 = true) : ∃ ps, (∀ k, s.size < k → spec_l12Cut.f k s = some ps ∧ impl_chunks.f k s = some ps) ∧ (∀ p ∈ ps, gp p) ∧ 8 * ps.length ≤ s.size + 7 ∧ psz ps = s.size := by
  obtain ⟨ps, h1, h2, h3, h4⟩ := Cut_l s.size s [] (Nat.le_refl _) ho (by rw [List.length_nil]; omega)
  refine ⟨ps, fun k hk => ?_, h2, h3, h4⟩
  have h := h1 k hk
  rw [List.nil_append] at h
  exact h

/-! parts and changes -/
def small (x : S59) : Prop := x.f1.size ≤ 140737488351232 ∧ x.f2.size ≤ 140737488351232
def smallL (l : List S59) : Prop := l.length ≤ 3518437208780 ∧ ∀ x ∈ l, small x
theorem small_z : small z59 := ⟨by decide, by decide⟩
theorem small_rd {l : List S59} (h : smallL l) (i : Int) : small (rd_T59 l i) := by
  unfold rd_T59
  rw [List.getD_eq_getElem?_getD]
  cases e : l[i.toNat]? with
  | none => exact small_z
  | some x => exact h.2 x (List.mem_of_getElem? e)
def partB (a : Int) (b c : ByteArray) : Bool :=
  if a = 0 then (if b.toList = [] then (if c.toList = [] then false else textB c) else (if c.toList = [] then textB b else false))
  else (decide (1 ≤ a) && decide (a ≤ 300)) && (if b.toList = [] then c.toList == [] else false)
def pN (l : List S59) : Nat → Nat → Bool
  | 0, _ => true
  | d + 1, i => partB (rd_T59 l (i : Int)).f0 (rd_T59 l (i : Int)).f1 (rd_T59 l (i : Int)).f2 && pN l d (i + 1)
def sizesB (r : Int × Int) : Bool := if r.1 ≤ 300 then decide (r.2 ≤ 300) else false

theorem spec_l3Part_ev (a : Int) (b c : ByteArray) (hb : b.size ≤ 140737488351232) (hc : c.size ≤ 140737488351232) : ∃ K, ∀ k, K ≤ k → spec_l3Part.f k a b c = some (partB a b c) := by
  obtain ⟨K1, h1⟩ := spec_GoodText_ev b hb
  obtain ⟨K2, h2⟩ := spec_GoodText_ev c hc
  refine ⟨K1 + K2, fun k hk => ?_⟩
  unfold spec_l3Part.f partB spec_l1In.f
  rw [h1 k (by omega), h2 k (by omega)]
  by_cases e0 : a = 0
  · simp only [if_pos e0, Option.bind_some]
    by_cases e1 : b.toList = [] <;> by_cases e2 : c.toList = [] <;> simp [e1, e2]
  · simp only [if_neg e0]
    by_cases e1 : a ≥ 1
    · by_cases e2 : a ≤ 300
      · simp only [if_pos e1, Option.bind_some, decide_eq_true e2, if_pos, decide_eq_true e1, Bool.and_self, Bool.true_and]
        by_cases e3 : b.toList = [] <;> simp [e3]
      · simp [e1, e2]
    · simp only [if_neg e1, Option.bind_some]
      simp
      intro h
      omega
theorem spec_sizes_l (l : List S59) (hl : l.length ≤ 3518437208780) : ∀ (d i : Nat), i + d = l.length → ∀ a b : Int, ∃ r K, ∀ k, K ≤ k → spec_l3Sizes.l0 k a b l (l.length : Int) (i : Int) = some r := by
  intro d
  induction d with
  | zero =>
    intro i hi a b
    refine ⟨(a, b), 1, fun k hk => ?_⟩
    obtain ⟨k, rfl⟩ : ∃ m, k = m + 1 := ⟨k - 1, by omega⟩
    simp only [spec_l3Sizes.l0]
    rw [if_neg (by omega)]
  | succ d ih =>
    intro i hi a b
    obtain ⟨r, K, hK⟩ := ih (i + 1) (by omega) (wrap64 (a + (wrap64 (((rd_T59 l (i : Int)).f0) + (((rd_T59 l (i : Int)).f2).size : Int))))) (wrap64 (b + (wrap64 (((rd_T59 l (i : Int)).f0) + (((rd_T59 l (i : Int)).f1).size : Int)))))
    refine ⟨r, K + 1, fun k hk => ?_⟩
    obtain ⟨k, rfl⟩ : ∃ m, k = m + 1 := ⟨k - 1, by omega⟩
    have hr := hK k (by omega)
    simp only [spec_l3Sizes.l0]
    rw [if_pos (by omega), if_pos (by omega), if_pos (by omega), w64 (i := (i : Int) + 1) (by omega) (by omega)]
    exact hr
theorem spec_sizes_ev (l : List S59) (hl : l.length ≤ 3518437208780) : ∃ r K, ∀ k, K ≤ k → spec_l3Sizes.f k l = some r :=
  spec_sizes_l l hl l.length 0 (by omega) 0 0
theorem spec_GoodOp_l (l : List S59) (hl : smallL l) (r : Int × Int) (K0 : Nat) (h0 : ∀ k, K0 ≤ k → spec_l3Sizes.f k l = some r) : ∀ (d i : Nat), i + d = l.length → ∃ K, ∀ k, K ≤ k → spec_GoodOp.l0 k l l (l.length : Int) (i : Int) = some (pN l d i && sizesB r) := by
  have hl1 := hl.1
  intro d
  induction d with
  | zero =>
    intro i hi
    refine ⟨K0 + 1, fun k hk => ?_⟩
    obtain ⟨k, rfl⟩ : ∃ m, k = m + 1 := ⟨k - 1, by omega⟩
    simp only [spec_GoodOp.l0]
    rw [if_neg (by omega), h0 k (by omega), Option.bind_some]
    unfold sizesB pN
    by_cases e : r.1 ≤ 300 <;> simp [e]
  | succ d ih =>
    intro i hi
    obtain ⟨K, hK⟩ := ih (i + 1) (by omega)
    have hs := small_rd hl (i : Int)
    obtain ⟨K1, h1⟩ := spec_l3Part_ev (rd_T59 l (i : Int)).f0 _ _ hs.1 hs.2
    refine ⟨K + K1 + 1, fun k hk => ?_⟩
    obtain ⟨k, rfl⟩ : ∃ m, k = m + 1 := ⟨k - 1, by omega⟩
    have hr := hK k (by omega)
    simp only [spec_GoodOp.l0]
    rw [if_pos (by omega), if_pos (by omega), if_pos (by omega), h1 k (by omega), Option.bind_some, w64 (by omega) (by omega)]
    have hc : ((i : Int) + 1) = ((i + 1 : Nat) : Int) := by omega
    rw [hc, hr]
    rw [show pN l (d + 1) i = (partB (rd_T59 l (i : Int)).f0 (rd_T59 l (i : Int)).f1 (rd_T59 l (i : Int)).f2 && pN l d (i + 1)) from rfl]
    cases partB (rd_T59 l (i : Int)).f0 (rd_T59 l (i : Int)).f1 (rd_T59 l (i : Int)).f2 <;> simp
def goodB (l : List S59) (r : Int × Int) : Bool := decide (l.length ≤ 60) && (pN l l.length 0 && sizesB r)
theorem spec_GoodOp_ev (l : List S59) (hl : smallL l) (r : Int × Int) (K0 : Nat) (h0 : ∀ k, K0 ≤ k → spec_l3Sizes.f k l = some r) : ∃ K, ∀ k, K ≤ k → spec_GoodOp.f k l = some (goodB l r) := by
  obtain ⟨K, hK⟩ := spec_GoodOp_l l hl r K0 h0 l.length 0 (by omega)
  refine ⟨K, fun k hk => ?_⟩
  have h := hK k hk
  unfold spec_GoodOp.f goodB
  by_cases e : (l.length : Int) > 60
  · rw [if_pos e, decide_eq_false (by omega)]; rfl
  · rw [if_neg e, decide_eq_true (by omega), Bool.true_and]
    exact h

theorem impl_sizes_same (l : List S59) : ∀ k a b i, impl_sizes.l0 k a b l (l.length : Int) i = spec_l3Sizes.l0 k a b l (l.length : Int) i := by
  intro k
  induction k with
  | zero => intro a b i; rfl
  | succ k ih =>
    intro a b i
    simp only [impl_sizes.l0, spec_l3Sizes.l0, ih]
theorem impl_sizes_ev (l : List S59) (k : Nat) : impl_sizes.f k l = spec_l3Sizes.f k l := impl_sizes_same l k 0 0 0
theorem impl_isPart_ev (a : Int) (b c : ByteArray) (hb : b.size ≤ 140737488351232) (hc : c.size ≤ 140737488351232) : ∃ K, ∀ k, K ≤ k → impl_Part_isPart.f k a b c = some (partB a b c) := by
  obtain ⟨K1, h1⟩ := impl_GoodText_ev b hb
  obtain ⟨K2, h2⟩ := impl_GoodText_ev c hc
  refine ⟨K1 + K2, fun k hk => ?_⟩
  unfold impl_Part_isPart.f partB
  rw [h1 k (by omega), h2 k (by omega)]
  by_cases e0 : a = 0
  · simp only [if_pos e0, Option.bind_some]
    by_cases e1 : b.toList = [] <;> by_cases e2 : c.toList = [] <;> simp [e1, e2]
  · simp only [if_neg e0]
    by_cases e1 : a ≥ 1
    · by_cases e2 : a ≤ 300
      · simp only [if_pos e1, if_pos e2, decide_eq_true e2, decide_eq_true e1, Bool.and_self, Bool.true_and]
        by_cases e3 : b.toList = [] <;> simp [e3]
      · simp [e1, e2]
    · simp only [if_neg e1]
      simp
      intro h
      omega
theorem impl_Part_82_l (l : List S59) (hl : smallL l) : ∀ (d i : Nat), i + d = l.length → ∃ t : Int, decide (t ≥ 0) = !(pN l d i) ∧ ∃ K, ∀ k, K ≤ k → impl_Part_82.l0 k l (l.length : Int) (i : Int) = some t := by
  have hl1 := hl.1
  intro d
  induction d with
  | zero =>
    intro i hi
    refine ⟨-1, rfl, 1, fun k hk => ?_⟩
    obtain ⟨k, rfl⟩ : ∃ m, k = m + 1 := ⟨k - 1, by omega⟩
    simp only [impl_Part_82.l0]
    rw [if_neg (by omega)]
  | succ d ih =>
    intro i hi
    have hs := small_rd hl (i : Int)
    obtain ⟨K1, h1⟩ := impl_isPart_ev (rd_T59 l (i : Int)).f0 _ _ hs.1 hs.2
    cases hp : partB (rd_T59 l (i : Int)).f0 (rd_T59 l (i : Int)).f1 (rd_T59 l (i : Int)).f2 with
    | false =>
      refine ⟨(i : Int), by unfold pN; rw [hp]; simp, K1 + 1, fun k hk => ?_⟩
      obtain ⟨k, rfl⟩ : ∃ m, k = m + 1 := ⟨k - 1, by omega⟩
      simp only [impl_Part_82.l0, impl_GoodOp_1.f]
      rw [if_pos (by omega), if_pos (by omega), if_pos (by omega), h1 k (by omega), hp]
      rfl
    | true =>
      obtain ⟨t, ht, K, hK⟩ := ih (i + 1) (by omega)
      refine ⟨t, by unfold pN; rw [hp, ht, Bool.true_and], K + K1 + 1, fun k hk => ?_⟩
      obtain ⟨k, rfl⟩ : ∃ m, k = m + 1 := ⟨k - 1, by omega⟩
      have hr := hK k (by omega)
      simp only [impl_Part_82.l0, impl_GoodOp_1.f]
      rw [if_pos (by omega), if_pos (by omega), if_pos (by omega), h1 k (by omega), hp, w64 (by omega) (by omega)]
      exact hr
theorem impl_GoodOp_ev (l : List S59) (hl : smallL l) (r : Int × Int) (K0 : Nat) (h0 : ∀ k, K0 ≤ k → spec_l3Sizes.f k l = some r) : ∃ K, ∀ k, K ≤ k → impl_GoodOp.f k l = some (goodB l r) := by
  obtain ⟨t, ht, K, hK⟩ := impl_Part_82_l l hl l.length 0 (by omega)
  refine ⟨K + K0, fun k hk => ?_⟩
  have h : impl_Part_82.f k l = some t := hK k (by omega)
  unfold impl_GoodOp.f goodB impl_Part_72.f
  by_cases e : (l.length : Int) > 60
  · rw [if_pos e, decide_eq_false (by omega)]; rfl
  · rw [if_neg e, decide_eq_true (by omega), h, Bool.true_and]
    simp only [Option.bind_some, ht]
    rw [impl_sizes_ev, h0 k (by omega), Option.bind_some]
    unfold sizesB
    cases pN l l.length 0 <;> by_cases e1 : r.1 ≤ 300 <;> simp [e1]

theorem szPartS_l (l : List S55) (hl : l.length ≤ 3518437208780) : ∀ (d i : Nat), i + d = l.length → ∀ a : Int, ∃ r K, ∀ k, K ≤ k → laws_szPartS.l0 k l a (i : Int) = some r := by
  intro d
  induction d with
  | zero =>
    intro i hi a
    refine ⟨a, 1, fun k hk => ?_⟩
    obtain ⟨k, rfl⟩ : ∃ m, k = m + 1 := ⟨k - 1, by omega⟩
    simp only [laws_szPartS.l0]
    rw [if_neg (by omega)]
  | succ d ih =>
    intro i hi a
    have hz : ∀ x y z, ∃ t, laws_szPart.f x y z a = some t := by
      intro x y z
      unfold laws_szPart.f
      split
      · exact ⟨_, rfl⟩
      · split <;> exact ⟨_, rfl⟩
    obtain ⟨t, ht⟩ := hz ((rd_T55 l (i : Int)).f0) ((rd_T55 l (i : Int)).f1) ((rd_T55 l (i : Int)).f2)
    by_cases e : t < 0
    · refine ⟨-1, 1, fun k hk => ?_⟩
      obtain ⟨k, rfl⟩ : ∃ m, k = m + 1 := ⟨k - 1, by omega⟩
      simp only [laws_szPartS.l0]
      rw [if_pos (by omega), if_pos (by omega), ht, Option.bind_some, if_pos e]
    · obtain ⟨r, K, hK⟩ := ih (i + 1) (by omega) t
      refine ⟨r, K + 1, fun k hk => ?_⟩
      obtain ⟨k, rfl⟩ : ∃ m, k = m + 1 := ⟨k - 1, by omega⟩
      simp only [laws_szPartS.l0]
      rw [if_pos (by omega), if_pos (by omega), ht, Option.bind_some, if_neg e, w64 (by omega) (by omega)]
      exact hK k (by omega)
theorem szPartS_ev (l : List S55) (hl : l.length ≤ 3518437208780) (a : Int) : ∃ r K, ∀ k, K ≤ k → laws_szPartS.f k l a = some r := by
  unfold laws_szPartS.f
  split
  · exact ⟨-1, 0, fun _ _ => rfl⟩
  · exact szPartS_l l hl l.length 0 (by omega) _
def smallA (l : List S55) : Prop := l.length ≤ 3518437208780 ∧ ∀ x ∈ l, x.f1.size ≤ 140737488351232 ∧ x.f2.size ≤ 140737488351232
theorem smallA_rd {l : List S55} (h : smallA l) (i : Int) : (rd_T55 l i).f1.size ≤ 140737488351232 ∧ (rd_T55 l i).f2.size ≤ 140737488351232 := by
  unfold rd_T55
  rw [List.getD_eq_getElem?_getD]
  cases e : l[i.toNat]? with
  | none => exact ⟨by decide, by decide⟩
  | some x => exact h.2 x (List.mem_of_getElem? e)
theorem toPartS_l (l : List S55) (hl : smallA l) : ∀ (d i : Nat), i + d = l.length → ∀ x : List S59, x.length = l.length → (∀ y ∈ x, small y) → ∃ m, smallL m ∧ m.length = l.length ∧ ∃ K, ∀ k, K ≤ k → laws_toPartS.l0 k l x (i : Int) = some m := by
  have hl1 := hl.1
  intro d
  induction d with
  | zero =>
    intro i hi x hx hs
    refine ⟨x, ⟨by omega, hs⟩, hx, 1, fun k hk => ?_⟩
    obtain ⟨k, rfl⟩ : ∃ m, k = m + 1 := ⟨k - 1, by omega⟩
    simp only [laws_toPartS.l0]
    rw [if_neg (by omega)]
  | succ d ih =>
    intro i hi x hx hs
    have hr := smallA_rd hl (i : Int)
    obtain ⟨m, hm, hml, K, hK⟩ := ih (i + 1) (by omega) (x.set (i : Int).toNat ⟨(rd_T55 l (i : Int)).f0, (rd_T55 l (i : Int)).f1, (rd_T55 l (i : Int)).f2⟩) (by rw [List.length_set]; exact hx) (fun y hy => by
      rcases List.mem_or_eq_of_mem_set hy with h | h
      · exact hs y h
      · rw [h]; exact hr)
    refine ⟨m, hm, hml, K + 1, fun k hk => ?_⟩
    obtain ⟨k, rfl⟩ : ∃ m, k = m + 1 := ⟨k - 1, by omega⟩
    simp only [laws_toPartS.l0, laws_toPart.f, Option.bind_some]
    rw [if_pos (by omega), if_pos (by omega), if_pos (by omega), w64 (by omega) (by omega)]
    exact hK k (by omega)
theorem toPartS_ev (l : List S55) (hl : smallA l) : ∃ m, smallL m ∧ m.length = l.length ∧ ∃ K, ∀ k, K ≤ k → laws_toPartS.f k l = some m := by
  have hl1 := hl.1
  obtain ⟨m, hm, hml, K, hK⟩ := toPartS_l l hl l.length 0 (by omega) (List.replicate ((l.length : Int) : Int).toNat z59) (by simp) (fun y hy => by rw [List.eq_of_mem_replicate hy]; exact small_z)
  refine ⟨m, hm, hml, K, fun k hk => ?_⟩
  unfold laws_toPartS.f
  rw [if_pos (by omega), if_pos (by rw [Int.toNat_natCast]; omega)]
  exact hK k hk
theorem eqPartS_l (l : List S59) (hl : l.length ≤ 3518437208780) : ∀ (d i : Nat), i + d = l.length → ∃ K, ∀ k, K ≤ k → laws_eqPartS.l0 k l l (i : Int) = some true := by
  intro d
  induction d with
  | zero =>
    intro i hi
    refine ⟨1, fun k hk => ?_⟩
    obtain ⟨k, rfl⟩ : ∃ m, k = m + 1 := ⟨k - 1, by omega⟩
    simp only [laws_eqPartS.l0]
    rw [if_neg (by omega)]
  | succ d ih =>
    intro i hi
    obtain ⟨K, hK⟩ := ih (i + 1) (by omega)
    refine ⟨K + 1, fun k hk => ?_⟩
    obtain ⟨k, rfl⟩ : ∃ m, k = m + 1 := ⟨k - 1, by omega⟩
    simp only [laws_eqPartS.l0, laws_eqPart.f, if_true, Option.bind_some]
    rw [if_pos (by omega), if_pos (by omega), if_pos (by omega), w64 (by omega) (by omega)]
    exact hK k (by omega)
theorem eqPartS_ev (l : List S59) (hl : l.length ≤ 3518437208780) : ∃ K, ∀ k, K ≤ k → laws_eqPartS.f k l l = some true := by
  obtain ⟨K, hK⟩ := eqPartS_l l hl l.length 0 (by omega)
  exact ⟨K, fun k hk => by unfold laws_eqPartS.f; rw [if_pos rfl]; exact hK k hk⟩

/-! a change's parts, and whether it lies on a text -/
def PK (p : S59) : Prop := (p.f0 = 0 ∧ p.f1.toList = [] ∧ p.f2.toList ≠ [] ∧ textB p.f2 = true) ∨ (p.f0 = 0 ∧ p.f1.toList ≠ [] ∧ p.f2.toList = [] ∧ textB p.f1 = true) ∨ (1 ≤ p.f0 ∧ p.f0 ≤ 300 ∧ p.f1.toList = [] ∧ p.f2.toList = [])
theorem partB_PK {p : S59} (h : partB p.f0 p.f1 p.f2 = true) : PK p := by
  unfold partB at h
  by_cases h0 : p.f0 = 0
  · rw [if_pos h0] at h
    by_cases h1 : p.f1.toList = []
    · rw [if_pos h1] at h
      by_cases h2 : p.f2.toList = []
      · rw [if_pos h2] at h; cases h
      · rw [if_neg h2] at h; exact .inl ⟨h0, h1, h2, h⟩
    · rw [if_neg h1] at h
      by_cases h2 : p.f2.toList = []
      · rw [if_pos h2] at h; exact .inr (.inl ⟨h0, h1, h2, h⟩)
      · rw [if_neg h2] at h; cases h
  · rw [if_neg h0] at h
    by_cases h1 : p.f1.toList = []
    · rw [if_pos h1] at h
      simp only [Bool.and_eq_true, decide_eq_true_eq, beq_iff_eq] at h
      exact .inr (.inr ⟨h.1.1, h.1.2, h1, h.2⟩)
    · rw [if_neg h1] at h
      simp at h
theorem PK_bd {p : S59} (h : PK p) : 0 ≤ p.f0 ∧ p.f0 ≤ 300 ∧ p.f1.size ≤ 300 ∧ p.f2.size ≤ 300 := by
  rcases h with ⟨a, b, c, d⟩ | ⟨a, b, c, d⟩ | ⟨a, b, c, d⟩
  · have := textB_size d; have := tl_nil.1 b; omega
  · have := textB_size d; have := tl_nil.1 c; omega
  · have := tl_nil.1 c; have := tl_nil.1 d; omega
theorem rdP (l : List S59) (i : Nat) (h : i < l.length) : rd_T59 l (i : Int) = l[i] := by
  unfold rd_T59
  rw [Int.toNat_natCast, List.getD_eq_getElem?_getD, List.getElem?_eq_getElem h]; rfl
theorem pN_PK (l : List S59) : ∀ (d i : Nat), i + d = l.length → pN l d i = true → ∀ j (hj : j < l.length), i ≤ j → PK l[j] := by
  intro d
  induction d with
  | zero => intro i hi h j hj hij; omega
  | succ d ih =>
    intro i hi h j hj hij
    have h' : (partB (rd_T59 l (i : Int)).f0 (rd_T59 l (i : Int)).f1 (rd_T59 l (i : Int)).f2 && pN l d (i + 1)) = true := h
    rw [Bool.and_eq_true] at h'
    by_cases e : j = i
    · subst e
      have := partB_PK h'.1
      rw [rdP l j hj] at this
      exact this
    · exact ih (i + 1) (by omega) h'.2 j hj (by omega)
def sB : List S59 → Int
  | [] => 0
  | p :: ps => p.f0 + (p.f2.size : Int) + sB ps
def sA : List S59 → Int
  | [] => 0
  | p :: ps => p.f0 + (p.f1.size : Int) + sA ps
def mt : List S59 → ByteArray → Bool
  | [], _ => true
  | p :: ps, t => ((p.f2.toList == []) || ((t.extract 0 p.f2.size).toList == p.f2.toList)) && mt ps (t.extract (p.f0.toNat + p.f2.size) t.size)
theorem s_bd : ∀ (l : List S59), (∀ p ∈ l, PK p) → 0 ≤ sB l ∧ sB l ≤ 600 * l.length ∧ 0 ≤ sA l ∧ sA l ≤ 600 * l.length
  | [], _ => by simp [sB, sA]
  | p :: ps, h => by
    have h1 := PK_bd (h p List.mem_cons_self)
    have h2 := s_bd ps (fun q hq => h q (List.mem_cons_of_mem _ hq))
    simp only [sB, sA, List.length_cons]
    omega
theorem sizes_l (l : List S59) (hl : l.length ≤ 60) (hp : ∀ p ∈ l, PK p) : ∀ (d i : Nat) (a b : Int), i + d = l.length → 0 ≤ a → a ≤ 1000000000 → 0 ≤ b → b ≤ 1000000000 → a + sB (l.drop i) ≤ 1000000000 → b + sA (l.drop i) ≤ 1000000000 → ∀ k, d < k → spec_l3Sizes.l0 k a b l (l.length : Int) (i : Int) = some (a + sB (l.drop i), b + sA (l.drop i)) := by
  intro d
  induction d with
  | zero =>
    intro i a b hi _ _ _ _ _ _ k hk
    obtain ⟨k, rfl⟩ : ∃ m, k = m + 1 := ⟨k - 1, by omega⟩
    simp only [spec_l3Sizes.l0]
    rw [if_neg (by omega), List.drop_of_length_le (by omega)]
    simp [sB, sA]
  | succ d ih =>
    intro i a b hi h1 h2 h3 h4 h5 h6 k hk
    obtain ⟨k, rfl⟩ : ∃ m, k = m + 1 := ⟨k - 1, by omega⟩
    have hil : i < l.length := by omega
    have hq := PK_bd (hp l[i] (List.getElem_mem hil))
    have hs := s_bd (l.drop (i + 1)) (fun p hp' => hp p (List.mem_of_mem_drop hp'))
    rw [List.drop_eq_getElem_cons hil] at h5 h6 ⊢
    simp only [sB, sA] at h5 h6 ⊢
    simp only [spec_l3Sizes.l0]
    rw [if_pos (by omega), if_pos (by omega), if_pos (by omega), rdP l i hil, w64 (i := l[i].f0 + (l[i].f2.size : Int)) (by omega) (by omega), w64 (i := l[i].f0 + (l[i].f1.size : Int)) (by omega) (by omega), w64 (by omega) (by omega), w64 (by omega) (by omega), w64 (by omega) (by omega), show ((i : Int) + 1) = ((i + 1 : Nat) : Int) by omega]
    rw [ih (i + 1) _ _ (by omega) (by omega) (by omega) (by omega) (by omega) (by omega) (by omega) k (by omega)]
    congr 2 <;> omega
theorem sizes_of (l : List S59) (hl : l.length ≤ 60) (hp : ∀ p ∈ l, PK p) (k : Nat) (hk : l.length < k) : spec_l3Sizes.f k l = some (sB l, sA l) := by
  have hs := s_bd l hp
  have h := sizes_l l hl hp l.length 0 0 0 (by omega) (by omega) (by omega) (by omega) (by omega) (by rw [List.drop_zero]; omega) (by rw [List.drop_zero]; omega) k hk
  rw [List.drop_zero, Int.zero_add, Int.zero_add] at h
  exact h
theorem nil_dec (s : ByteArray) : (s.toList == ([] : List UInt8)) = decide ((0 : Int) = (s.size : Int)) := by
  rw [Bool.eq_iff_iff, beq_iff_eq, decide_eq_true_eq, tl_nil]
  omega

/-! a change on a rope: the loop -/
theorem len_psz : ∀ (ps : List ByteArray), (∀ p ∈ ps, gp p) → ps.length ≤ psz ps
  | [], _ => Nat.le_refl _
  | p :: ps, h => by
    have h1 := (h p List.mem_cons_self).1
    have h2 := len_psz ps (fun q hq => h q (List.mem_cons_of_mem _ hq))
    show ps.length + 1 ≤ p.size + psz ps
    omega
theorem iF_snoc (ss : List ByteArray) (s : ByteArray) : iF (ss ++ [s]) = fk (iF ss) (lf s) := by
  unfold iF
  rw [List.foldl_append]
  rfl
theorem iF_ok : ∀ (n : Nat) (ps : List ByteArray), ps.length = n → n ≤ 400 → (∀ p ∈ ps, gp p) → GtN (iF ps) ∧ cnt (iF ps) ≤ 2 * n ∧ (iF ps).size = (psz ps : Int) := by
  intro n
  induction n with
  | zero =>
    intro ps h _ _
    obtain rfl := List.length_eq_zero_iff.1 h
    exact ⟨.inl rfl, Nat.le_refl _, rfl⟩
  | succ n ih =>
    intro ps h hn hg
    obtain ⟨xs, x, rfl⟩ : ∃ xs x, ps = xs ++ [x] := ⟨ps.dropLast, ps.getLast (by rintro rfl; cases h), (List.dropLast_concat_getLast _).symm⟩
    rw [List.length_append, List.length_singleton] at h
    obtain ⟨h1, h2, h3⟩ := ih xs (by omega) (by omega) (fun p hp => hg p (List.mem_append_left _ hp))
    obtain ⟨l1, l2, l3, -⟩ := lf_good (hg x (List.mem_append_right _ (List.mem_singleton.2 rfl)))
    obtain ⟨f1, f2, f3⟩ := fk_GtN h1 (.inr l1) (by omega)
    rw [iF_snoc]
    refine ⟨f1, ?_, ?_⟩
    · rcases h1 with e | h1
      · rw [e]; show cnt (lf x) ≤ _; omega
      · rw [f3 h1 l1]; omega
    · rw [f2, h3, l3, psz_app]
      show (psz xs : Int) + _ = ((psz xs + (x.size + 0) : Nat) : Int)
      omega
theorem eJ_ev : ∀ (ss acc : List ByteArray), (∀ p ∈ ss, gp p) → (∀ p ∈ acc, gp p) → acc.length + ss.length ≤ 400 → ∀ k, 2 ≤ k → eJ k ss (br (iF acc) 0) = some (br (iF (acc ++ ss)) 0)
  | [], acc, _, _, _, k, _ => by rw [List.append_nil]; rfl
  | s :: ss, acc, h, ha, hl, k, hk => by
    have hs := h s List.mem_cons_self
    obtain ⟨l1, l2, l3, l4⟩ := lf_good hs
    rw [List.length_cons] at hl
    obtain ⟨a1, a2, -⟩ := iF_ok acc.length acc rfl (by omega) ha
    have hj := join_ev (iF acc) (lf s) a1 (.inr l1) (by omega) k (by omega)
    show ((spec_l12Piece.f s).bind fun p => (spec_l12Join.f k (br (iF acc) 0) p).bind fun q => eJ k ss q) = _
    rw [show spec_l12Piece.f s = some (br (lf s) 0) from by rw [l4]; rfl, Option.bind_some, hj, Option.bind_some, ← iF_snoc]
    rw [eJ_ev ss (acc ++ [s]) (fun p hp => h p (List.mem_cons_of_mem _ hp)) (fun p hp => by
      rcases List.mem_append.1 hp with hp | hp
      · exact ha p hp
      · rw [List.mem_singleton.1 hp]; exact hs) (by rw [List.length_append, List.length_singleton]; omega) k hk, List.append_assoc]
    rfl
theorem cut_nil (s : ByteArray) (h : s.toList = []) (k : Nat) (hk : 0 < k) : impl_chunks.f k s = some [] := by
  obtain ⟨k, rfl⟩ : ∃ m, k = m + 1 := ⟨k - 1, by omega⟩
  have h0 := tl_nil.1 h
  unfold impl_chunks.f
  simp only [impl_chunks.l0]
  rw [if_neg (by omega), if_pos h]
theorem spl_zero (x : Limb) : spl x 0 = some (.nil, x) := by
  cases x with
  | nil => rfl
  | node l r s n d => unfold spl; rw [if_pos rfl]
theorem EL : ∀ (ps : List S59), (∀ p ∈ ps, PK p) → ∀ (x : Limb) (acc : List ByteArray), GtN x → cnt x ≤ 200 → sB ps = x.size → (∀ p ∈ acc, gp p) → (psz acc : Int) + sA ps ≤ 300 →
    ∃ acc' K, (∀ m, K ≤ m → iL m ps x acc = some acc' ∧ eL m ps (br x 0) (br (iF acc) 0) = some (br (iF acc') 0)) ∧ (∀ p ∈ acc', gp p) ∧ (psz acc' : Int) = (psz acc : Int) + sA ps
  | [], _, x, acc, _, _, _, hacc, _ => ⟨acc, 0, fun m _ => ⟨rfl, rfl⟩, hacc, by simp [sA]⟩
  | p :: ps, hp, x, acc, hx, hc, hs, hacc, hz => by
    have hpk := hp p List.mem_cons_self
    have hps : ∀ q ∈ ps, PK q := fun q hq => hp q (List.mem_cons_of_mem _ hq)
    have hbd := s_bd ps hps
    have hpb := PK_bd hpk
    have hal := len_psz acc hacc
    simp only [sB, sA] at hs hz ⊢
    have hw : wrap64 (p.f0 + (p.f2.size : Int)) = p.f0 + (p.f2.size : Int) := w64 (by omega) (by omega)
    have hI : ∀ m, iL m (p :: ps) x acc = (spl x (p.f0 + (p.f2.size : Int))).bind fun q =>
      if 0 < p.f0 then (if acc.length + (pcs q.1).length ≤ 100000000 then ((impl_chunks.f m p.f1).bind fun cs => if (acc ++ pcs q.1).length + cs.length ≤ 100000000 then iL m ps q.2 ((acc ++ pcs q.1) ++ cs) else none) else none)
      else ((impl_chunks.f m p.f1).bind fun cs => if acc.length + cs.length ≤ 100000000 then iL m ps q.2 (acc ++ cs) else none) := fun m => by rw [← hw]; rfl
    have hE : ∀ m out, eL m (p :: ps) (br x 0) out = if p.f1.toList ≠ [] then ((spec_l12Cut.f m p.f1).bind fun cs => if cs.length ≤ 100000000 then ((eJ m cs out).bind fun o2 => eL m ps (br x 0) o2) else none)
      else ((spec_l12Split.f m (br x 0) (p.f0 + (p.f2.size : Int))).bind fun ab =>
        if p.f0 = 0 then eL m ps ab.2 out else ((spec_l12Pieces.f m ab.1).bind fun pc => if pc.length ≤ 100000000 then ((eJ m pc out).bind fun o2 => eL m ps ab.2 o2) else none)) := fun m out => by rw [← hw]; rfl
    rcases hpk with ⟨h0, h1, h2, h3⟩ | ⟨h0, h1, h2, h3⟩ | ⟨h0, h0', h1, h2⟩
    · -- taken away
      have hz2 := size_pos_of h2
      have hz1 := tl_nil.1 h1
      rcases hx with rfl | hx
      · have h : (Limb.nil).size = 0 := rfl
        omega
      obtain ⟨x1, y1, s1, s2, s3, s4, s5, s6, s7, K1, s8⟩ := Split_ev hx hc (p.f0 + (p.f2.size : Int)) (by omega) (by omega)
      obtain ⟨acc', K, hK, hg, hq⟩ := EL ps hps y1 acc s3 (by omega) (by omega) hacc (by omega)
      refine ⟨acc', K + K1 + 1, fun m hm => ⟨?_, ?_⟩, hg, by omega⟩
      · rw [hI, s1, Option.bind_some, if_neg (by omega), cut_nil _ h1 m (by omega), Option.bind_some, if_pos (by rw [List.length_nil]; omega), List.append_nil]
        exact (hK m (by omega)).1
      · rw [hE, if_neg (fun h => h h1), s8 m (by omega), Option.bind_some, if_pos h0]
        exact (hK m (by omega)).2
    · -- put in
      have hz2 := tl_nil.1 h2
      have h3' : okN p.f1 p.f1.size 0 = true := by unfold textB at h3; rw [Bool.and_eq_true] at h3; exact h3.1
      obtain ⟨cs, c1, c2, c3, c4⟩ := Cut_ev p.f1 (by omega) h3'
      have hcl := len_psz cs c2
      have hg2 : ∀ q ∈ acc ++ cs, gp q := fun q hq => by
        rcases List.mem_append.1 hq with hq | hq
        · exact hacc q hq
        · exact c2 q hq
      have hzz := psz_app acc cs
      obtain ⟨acc', K, hK, hg, hq⟩ := EL ps hps x (acc ++ cs) hx hc (by omega) hg2 (by omega)
      refine ⟨acc', K + 302, fun m hm => ⟨?_, ?_⟩, hg, by omega⟩
      · rw [hI, show p.f0 + (p.f2.size : Int) = 0 by omega, spl_zero, Option.bind_some, if_neg (by omega), (c1 m (by omega)).2, Option.bind_some, if_pos (by omega)]
        exact (hK m (by omega)).1
      · rw [hE, if_pos h1, (c1 m (by omega)).1, Option.bind_some, if_pos (by omega), eJ_ev cs acc c2 hacc (by omega) m (by omega), Option.bind_some]
        exact (hK m (by omega)).2
    · -- kept
      have hz1 := tl_nil.1 h1
      have hz2 := tl_nil.1 h2
      rcases hx with rfl | hx
      · have h : (Limb.nil).size = 0 := rfl
        omega
      obtain ⟨x1, y1, s1, s2, s3, s4, s5, s6, s7, K1, s8⟩ := Split_ev hx hc (p.f0 + (p.f2.size : Int)) (by omega) (by omega)
      have hpc : ∀ q ∈ pcs x1, gp q := by
        rcases s2 with rfl | s2
        · intro q hq; cases hq
        · exact (pcs_gp s2).2
      have hb := pcs_bdN s2
      have hR : pcR (br x1 0) = pcs x1 := by rw [← bo_nil]; exact pcR_good s2
      have hbl := br_length x1 0
      have hg2 : ∀ q ∈ acc ++ pcs x1, gp q := fun q hq => by
        rcases List.mem_append.1 hq with hq | hq
        · exact hacc q hq
        · exact hpc q hq
      have hzz := psz_app acc (pcs x1)
      have hpl := len_psz (pcs x1) hpc
      obtain ⟨acc', K, hK, hg, hq⟩ := EL ps hps y1 (acc ++ pcs x1) s3 (by omega) (by omega) hg2 (by omega)
      refine ⟨acc', K + K1 + 302, fun m hm => ⟨?_, ?_⟩, hg, by omega⟩
      · rw [hI, s1, Option.bind_some, if_pos (by omega)]
        show (if acc.length + (pcs x1).length ≤ 100000000 then _ else none) = _
        rw [if_pos (by omega), cut_nil _ h1 m (by omega), Option.bind_some, if_pos (by show (acc ++ pcs x1).length + 0 ≤ _; rw [List.length_append]; omega), List.append_nil]
        exact (hK m (by omega)).1
      · rw [hE, if_neg (fun h => h h1), s8 m (by omega), Option.bind_some, if_neg (by omega)]
        show ((spec_l12Pieces.f m (br x1 0)).bind fun pc => if pc.length ≤ 100000000 then ((eJ m pc (br (iF acc) 0)).bind fun o2 => eL m ps (br y1 0) o2) else none) = _
        rw [Pieces_ev (br x1 0) (by omega) m (by omega), hR, Option.bind_some, if_pos (by omega), eJ_ev (pcs x1) acc hpc hacc (by omega) m (by omega), Option.bind_some]
        exact (hK m (by omega)).2

/-! a change laid on a text: both answer alike whether it fits -/
theorem ex_size (s : ByteArray) (a : Nat) : (s.extract a s.size).size = s.size - a := by rw [ByteArray.size_extract]; omega
theorem ex_all (s : ByteArray) : s.extract 0 s.size = s := by simp
theorem ex_zero (s : ByteArray) : (s.extract 0 0).toList = [] := tl_nil.2 (by rw [ByteArray.size_extract]; omega)
theorem specApply_l (l : List S59) (hl : l.length ≤ 60) (hp : ∀ p ∈ l, PK p) : ∀ (d i : Nat) (s o : ByteArray), i + d = l.length → s.size ≤ 1000 → o.size + 2000 * d ≤ 1000000000 → ∃ a, ∀ k, 2 * d < k → spec_l3Apply.l0 k s o l (l.length : Int) (i : Int) = some (a, decide (sB (l.drop i) = (s.size : Int)) && mt (l.drop i) s) := by
  intro d
  induction d with
  | zero =>
    intro i s o hi hs ho
    refine ⟨o, fun k hk => ?_⟩
    obtain ⟨k, rfl⟩ : ∃ m, k = m + 1 := ⟨k - 1, by omega⟩
    simp only [spec_l3Apply.l0]
    rw [if_neg (by omega), List.drop_of_length_le (by omega), nil_dec]
    show some (o, decide ((0 : Int) = s.size)) = some (o, decide ((0 : Int) = s.size) && true)
    rw [Bool.and_true]
  | succ d ih =>
    intro i s o hi hs ho
    have hil : i < l.length := by omega
    have hpk := hp l[i] (List.getElem_mem hil)
    have hq := PK_bd hpk
    have hbd := s_bd (l.drop (i + 1)) (fun p hp' => hp p (List.mem_of_mem_drop hp'))
    rw [List.drop_eq_getElem_cons hil, show ∀ ps, sB (l[i] :: ps) = l[i].f0 + (l[i].f2.size : Int) + sB ps from fun _ => rfl, show ∀ ps, mt (l[i] :: ps) s = (((l[i].f2.toList == []) || ((s.extract 0 l[i].f2.size).toList == l[i].f2.toList)) && mt ps (s.extract (l[i].f0.toNat + l[i].f2.size) s.size)) from fun _ => rfl]
    have hi1 : ((i : Int) + 1) = ((i + 1 : Nat) : Int) := by omega
    have hw : wrap64 (l[i].f0 + (l[i].f2.size : Int)) = l[i].f0 + (l[i].f2.size : Int) := w64 (by omega) (by omega)
    obtain ⟨n, hn⟩ : ∃ n : Nat, l[i].f0 + (l[i].f2.size : Int) = (n : Int) := ⟨(l[i].f0 + (l[i].f2.size : Int)).toNat, by omega⟩
    have hnn : l[i].f0.toNat + l[i].f2.size = n := by omega
    by_cases hle : s.size < n
    · refine ⟨⟨#[]⟩, fun k hk => ?_⟩
      obtain ⟨k, rfl⟩ : ∃ m, k = m + 1 + 1 := ⟨k - 2, by omega⟩
      rw [show decide (l[i].f0 + (l[i].f2.size : Int) + sB (l.drop (i + 1)) = (s.size : Int)) = false from decide_eq_false (by omega), Bool.false_and]
      simp only [spec_l3Apply.l0]
      rw [if_pos (by omega), if_pos (by omega), if_pos (by omega), rdP l i hil, hw, if_pos (by omega)]
      simp only [spec_l3Apply.j1, if_true]
    · obtain ⟨o2, ho2⟩ : ∃ o2, o2 = if l[i].f0 > 0 then (o ++ s.extract 0 n) ++ l[i].f1 else o ++ l[i].f1 := ⟨_, rfl⟩
      have hz2 : o2.size ≤ o.size + 1300 := by
        rw [ho2]
        split <;> simp only [ByteArray.size_append, ByteArray.size_extract] <;> omega
      have hsz := ex_size s n
      obtain ⟨a, hK⟩ := ih (i + 1) (s.extract n s.size) o2 (by omega) (by omega) (by omega)
      have hJ : ∀ k, 2 * d < k → spec_l3Apply.j1 (k + 1) s o (n : Int) l (l.length : Int) (i : Int) false l[i].f0 l[i].f1 l[i].f2 = some (a, decide (sB (l.drop (i + 1)) = ((s.extract n s.size).size : Int)) && mt (l.drop (i + 1)) (s.extract n s.size)) := fun k hk => by
        have h := hK k hk
        have hx : (s.extract 0 n).size = n := by rw [ByteArray.size_extract]; omega
        simp only [spec_l3Apply.j1]
        rw [if_neg (by simp)]
        by_cases h0 : l[i].f0 > 0
        · rw [if_pos h0] at ho2
          rw [if_pos h0, if_pos (by omega), if_pos (by omega), Int.toNat_natCast, if_pos (by omega), if_pos (by rw [ByteArray.size_append]; omega), w64 (by omega) (by omega), hi1, ← ho2, h]
        · rw [if_neg h0] at ho2
          rw [if_neg h0, if_pos (by omega), if_pos (by omega), if_pos (by omega), Int.toNat_natCast, w64 (by omega) (by omega), hi1, ← ho2, h]
      have hdec : decide (l[i].f0 + (l[i].f2.size : Int) + sB (l.drop (i + 1)) = (s.size : Int)) = decide (sB (l.drop (i + 1)) = ((s.extract n s.size).size : Int)) := by
        rw [hsz, decide_eq_decide]; omega
      rw [hdec, hnn]
      by_cases h2 : l[i].f2.toList = []
      · refine ⟨a, fun k hk => ?_⟩
        obtain ⟨k, rfl⟩ : ∃ m, k = m + 1 + 1 := ⟨k - 2, by omega⟩
        simp only [spec_l3Apply.l0]
        rw [if_pos (by omega), if_pos (by omega), if_pos (by omega), rdP l i hil, hw, hn, if_neg (by omega), if_pos h2, hJ k (by omega)]
        simp [h2]
      · have h0 : l[i].f0 = 0 := by
          rcases hpk with h | h | h
          · exact h.1
          · exact h.1
          · exact absurd h.2.2.2 h2
        have hn2 : n = l[i].f2.size := by omega
        by_cases he : (s.extract 0 n).toList = l[i].f2.toList
        · refine ⟨a, fun k hk => ?_⟩
          obtain ⟨k, rfl⟩ : ∃ m, k = m + 1 + 1 := ⟨k - 2, by omega⟩
          simp only [spec_l3Apply.l0]
          rw [if_pos (by omega), if_pos (by omega), if_pos (by omega), rdP l i hil, hw, hn, if_neg (by omega), if_neg h2, if_pos (by omega), if_pos (by omega), Int.toNat_natCast, show ((s.extract 0 n).toList != l[i].f2.toList) = false from bne_eq_false_iff_eq.2 he, hJ k (by omega), ← hn2, show ((s.extract 0 n).toList == l[i].f2.toList) = true from beq_iff_eq.2 he, Bool.or_true, Bool.true_and]
        · refine ⟨⟨#[]⟩, fun k hk => ?_⟩
          obtain ⟨k, rfl⟩ : ∃ m, k = m + 1 + 1 := ⟨k - 2, by omega⟩
          simp only [spec_l3Apply.l0]
          rw [if_pos (by omega), if_pos (by omega), if_pos (by omega), rdP l i hil, hw, hn, if_neg (by omega), if_neg h2, if_pos (by omega), if_pos (by omega), Int.toNat_natCast, show ((s.extract 0 n).toList != l[i].f2.toList) = true from bne_iff_ne.2 he, ← hn2, show ((s.extract 0 n).toList == l[i].f2.toList) = false from beq_eq_false_iff_ne.2 he, show (l[i].f2.toList == []) = false from beq_eq_false_iff_ne.2 h2]
          simp only [spec_l3Apply.j1, if_true, Bool.or_self, Bool.false_and, Bool.and_false]
theorem implApply_l (l : List S59) (hl : l.length ≤ 60) (hp : ∀ p ∈ l, PK p) : ∀ (d i : Nat) (s o : ByteArray), i + d = l.length → s.size ≤ 1000 → o.size + 2000 * d ≤ 1000000000 → sB (l.drop i) = (s.size : Int) → ∃ a, ∀ k, d < k → impl_ApplyOp.l0 k s o l (l.length : Int) (i : Int) = some (a, mt (l.drop i) s) := by
  intro d
  induction d with
  | zero =>
    intro i s o hi hs ho hB
    refine ⟨o, fun k hk => ?_⟩
    obtain ⟨k, rfl⟩ : ∃ m, k = m + 1 := ⟨k - 1, by omega⟩
    simp only [impl_ApplyOp.l0]
    rw [if_neg (by omega), List.drop_of_length_le (by omega)]
    rfl
  | succ d ih =>
    intro i s o hi hs ho hB
    have hil : i < l.length := by omega
    have hpk := hp l[i] (List.getElem_mem hil)
    have hq := PK_bd hpk
    have hbd := s_bd (l.drop (i + 1)) (fun p hp' => hp p (List.mem_of_mem_drop hp'))
    rw [List.drop_eq_getElem_cons hil] at hB ⊢
    simp only [sB] at hB
    simp only [mt]
    have hi1 : ((i : Int) + 1) = ((i + 1 : Nat) : Int) := by omega
    have hw : wrap64 (l[i].f0 + (l[i].f2.size : Int)) = l[i].f0 + (l[i].f2.size : Int) := w64 (by omega) (by omega)
    obtain ⟨n, hn⟩ : ∃ n : Nat, l[i].f0 + (l[i].f2.size : Int) = (n : Int) := ⟨(l[i].f0 + (l[i].f2.size : Int)).toNat, by omega⟩
    have hnn : l[i].f0.toNat + l[i].f2.size = n := by omega
    have hsz := ex_size s n
    have hOr : ((l[i].f2.toList == []) || ((s.extract 0 l[i].f2.size).toList == l[i].f2.toList)) = ((s.extract 0 l[i].f2.size).toList == l[i].f2.toList) := by
      by_cases h2 : l[i].f2.toList = []
      · rw [h2, tl_nil.1 h2, ex_zero]; rfl
      · rw [show (l[i].f2.toList == []) = false from beq_eq_false_iff_ne.2 h2, Bool.false_or]
    rw [hOr, hnn]
    obtain ⟨o2, ho2⟩ : ∃ o2, o2 = o ++ (s.extract 0 l[i].f0.toNat ++ l[i].f1) := ⟨_, rfl⟩
    have hx : (s.extract 0 l[i].f0.toNat).size = l[i].f0.toNat := by rw [ByteArray.size_extract]; omega
    have hz2 : o2.size ≤ o.size + 1300 := by
      rw [ho2]
      simp only [ByteArray.size_append, hx]
      omega
    obtain ⟨a, hK⟩ := ih (i + 1) (s.extract n s.size) o2 (by omega) (by omega) (by omega) (by rw [hsz]; omega)
    by_cases he : (s.extract 0 l[i].f2.size).toList = l[i].f2.toList
    · refine ⟨a, fun k hk => ?_⟩
      obtain ⟨k, rfl⟩ : ∃ m, k = m + 1 := ⟨k - 1, by omega⟩
      simp only [impl_ApplyOp.l0]
      rw [if_pos (by omega), if_pos (by omega), if_pos (by omega), rdP l i hil, if_pos (by omega), if_pos (by omega), Int.toNat_natCast, if_pos he, if_pos (by omega), if_pos (by omega), if_pos (by omega), if_pos (by rw [ByteArray.size_append]; omega), hw, hn, if_pos (by omega), if_pos (by omega), Int.toNat_natCast, w64 (by omega) (by omega), hi1, ← ho2, hK k (by omega), show ((s.extract 0 l[i].f2.size).toList == l[i].f2.toList) = true from beq_iff_eq.2 he, Bool.true_and]
    · refine ⟨⟨#[]⟩, fun k hk => ?_⟩
      obtain ⟨k, rfl⟩ : ∃ m, k = m + 1 := ⟨k - 1, by omega⟩
      simp only [impl_ApplyOp.l0]
      rw [if_pos (by omega), if_pos (by omega), if_pos (by omega), rdP l i hil, if_pos (by omega), if_pos (by omega), Int.toNat_natCast, if_neg he, show ((s.extract 0 l[i].f2.size).toList == l[i].f2.toList) = false from beq_eq_false_iff_ne.2 he, Bool.false_and]

/-! a change on a rope: both answer alike -/
theorem tx_all (ps : List ByteArray) : ∀ a : ByteArray, allB a → (∀ p ∈ ps, gp p) → allB (ps.foldl (fun a p => a ++ p) a) := by
  induction ps with
  | nil => intro a ha _; exact ha
  | cons p ps ih =>
    intro a ha h
    exact ih (a ++ p) (allB_append ha (okN_all.1 (h p List.mem_cons_self).2.2)) (fun q hq => h q (List.mem_cons_of_mem _ hq))
theorem EditRope_ev (l : List S101) (op : List S59) (hS : ∀ k : Int, (rd_T101 l k).f2.size ≤ 1048576) (hl : l.length ≤ 1048576) (ho : smallL op) : ∃ r K, r.1.length ≤ 1000 ∧ ∀ m, K ≤ m → spec_EditRope.f m l op = some r ∧ impl_EditRope.f m l op = some r := by
  obtain ⟨K1, h1⟩ := spec_GoodRope_ev l hS hl
  obtain ⟨K2, t, h2, h3⟩ := open_ev l hS
  cases hg : goodR l with
  | false =>
    refine ⟨([], false), K1 + K2, Nat.zero_le _, fun m hm => ⟨?_, ?_⟩⟩
    · unfold spec_EditRope.f
      rw [h1 _ (by omega), hg, Option.bind_some, if_neg (by simp)]
    · unfold impl_EditRope.f
      rw [h2 _ (by omega), hg, Option.bind_some, if_neg (by simp)]
  | true =>
    obtain ⟨e, ht, g1, g2, g3, g4⟩ := h3 hg
    have hpb := pcs_bdN ht
    have hpg : ∀ p ∈ pcs t, gp p := by
      rcases ht with rfl | ht
      · intro p hp; cases hp
      · exact (pcs_gp ht).2
    have hR : pcR l = pcs t := by rw [e]; exact pcR_good ht
    rw [bo_nil] at e
    have hT := Text_ev l hl (by rw [hR]; omega) (by rw [hR]; omega)
    rw [hR] at hT
    have hsz : (tx (pcs t)).size = psz (pcs t) := by
      have := tx_size (pcs t) ⟨#[]⟩
      have h0 : (⟨#[]⟩ : ByteArray).size = 0 := rfl
      unfold tx
      omega
    have htx : textB (tx (pcs t)) = true := by
      unfold textB
      rw [Bool.and_eq_true, decide_eq_true_eq]
      exact ⟨okN_all.2 (tx_all (pcs t) ⟨#[]⟩ (fun j hj => by cases hj) hpg), by omega⟩
    obtain ⟨Kt, hGt⟩ := impl_GoodText_ev (tx (pcs t)) (by omega)
    obtain ⟨r, Kr, hr⟩ := spec_sizes_ev op ho.1
    obtain ⟨K3, h4⟩ := spec_GoodOp_ev op ho r Kr hr
    obtain ⟨K4, h5⟩ := impl_GoodOp_ev op ho r Kr hr
    have hI : ∀ m, K2 + 1 ≤ m → impl_EditRope.f m l op = (impl_ApplyOp.f m op (tx (pcs t))).bind fun ao => if ao.2 = true then
      (if op.length ≤ 100000000 then ((iL m op t []).bind fun acc => if acc.length ≤ 100000000 then ropeF (iF acc) else none) else none) else some ([], false) := fun m hm => by
      unfold impl_EditRope.f
      rw [h2 m (by omega), hg, Option.bind_some, if_pos rfl, if_pos (show (pcs t).length ≤ 100000000 ∧ (tx (pcs t)).size ≤ 1000000000 from ⟨by omega, by omega⟩)]
    cases hgo : goodB op r with
    | false =>
      refine ⟨([], false), K1 + K2 + K3 + K4 + 2, Nat.zero_le _, fun m hm => ⟨?_, ?_⟩⟩
      · unfold spec_EditRope.f
        rw [h1 _ (by omega), hg, Option.bind_some, if_pos rfl, h4 _ (by omega), hgo, Option.bind_some, if_neg (by simp)]
      · obtain ⟨m, rfl⟩ : ∃ j, m = j + 1 := ⟨m - 1, by omega⟩
        rw [hI _ (by omega)]
        unfold impl_ApplyOp.f
        rw [h5 _ (by omega), hgo, Option.bind_some, if_neg (by simp)]
        simp only [impl_ApplyOp.j0, if_true, Option.bind_some]
        rw [if_neg (by simp)]
    | true =>
      have hgo' := hgo
      unfold goodB at hgo'
      rw [Bool.and_eq_true, Bool.and_eq_true, decide_eq_true_eq] at hgo'
      obtain ⟨hn, hpn, hsb⟩ := hgo'
      have hp : ∀ p ∈ op, PK p := fun p hp' => by
        obtain ⟨j, hj, rfl⟩ := List.getElem_of_mem hp'
        exact pN_PK op op.length 0 (by omega) hpn j hj (Nat.zero_le _)
      have hrr : r = (sB op, sA op) := by
        have h := hr (Kr + op.length + 1) (by omega)
        rw [sizes_of op hn hp _ (by omega)] at h
        exact (Option.some.inj h).symm
      have hb1 : sB op ≤ 300 ∧ sA op ≤ 300 := by
        unfold sizesB at hsb
        rw [hrr] at hsb
        by_cases h : sB op ≤ 300
        · rw [if_pos h, decide_eq_true_eq] at hsb; exact ⟨h, hsb⟩
        · rw [if_neg h] at hsb; cases hsb
      have hbd := s_bd op hp
      obtain ⟨a, hSA⟩ := specApply_l op hn hp op.length 0 (tx (pcs t)) ⟨#[]⟩ (by omega) (by omega) (by show 0 + _ ≤ _; omega)
      rw [List.drop_zero] at hSA
      have hS1 : ∀ m, 1000 + K1 + K3 ≤ m → l.length < m → spec_EditRope.f m l op = if (decide (sB op = ((tx (pcs t)).size : Int)) && mt op (tx (pcs t))) = true then
   (if op.length ≤ 100000000 then ((eL m op l []).bind fun out => if out.length < 2932031007402 then ((spec_GoodRope.f m out).bind fun g3 => if g3 = true then some (out, true) else some ([], false)) else none) else none)
  else some ([], false) := fun m hm hm2 => by
        unfold spec_EditRope.f
        rw [h1 _ (by omega), hg, Option.bind_some, if_pos rfl, h4 _ (by omega), hgo, Option.bind_some, if_pos rfl, hT m hm2 (by omega), Option.bind_some]
        unfold spec_l3Apply.f
        rw [show (pcs t).foldl (fun a p => a ++ p) ⟨#[]⟩ = tx (pcs t) from rfl, show spec_l3Apply.l0 m (tx (pcs t)) ⟨#[]⟩ op (op.length : Int) 0 = _ from hSA m (by omega), Option.bind_some]
      have hA : ∀ m, K4 + Kt + 1000 ≤ m → ∃ b, impl_ApplyOp.f m op (tx (pcs t)) = some (b, decide (sB op = ((tx (pcs t)).size : Int)) && mt op (tx (pcs t))) := fun m hm => by
        obtain ⟨m, rfl⟩ : ∃ j, m = j + 1 := ⟨m - 1, by omega⟩
        unfold impl_ApplyOp.f
        rw [h5 _ (by omega), hgo, Option.bind_some, if_pos rfl, hGt _ (by omega), htx, Option.bind_some]
        simp only [impl_ApplyOp.j0, Bool.not_true]
        rw [if_neg (by simp), impl_sizes_ev, sizes_of op hn hp m (by omega), Option.bind_some]
        by_cases hz : sB op = ((tx (pcs t)).size : Int)
        · obtain ⟨b, hb⟩ := implApply_l op hn hp op.length 0 (tx (pcs t)) ⟨#[]⟩ (by omega) (by omega) (by show 0 + _ ≤ _; omega) (by rw [List.drop_zero]; exact hz)
          rw [List.drop_zero] at hb
          refine ⟨b, ?_⟩
          rw [if_pos hz, decide_eq_true hz, Bool.true_and]
          exact hb m (by omega)
        · refine ⟨⟨#[]⟩, ?_⟩
          rw [if_neg hz, decide_eq_false hz, Bool.false_and]
      cases hok : (decide (sB op = ((tx (pcs t)).size : Int)) && mt op (tx (pcs t))) with
      | false =>
        rw [hok] at hS1
        refine ⟨([], false), K1 + K2 + K3 + K4 + Kt + 2000 + l.length, Nat.zero_le _, fun m hm => ⟨?_, ?_⟩⟩
        · rw [hS1 m (by omega) (by omega), if_neg (by simp)]
        · obtain ⟨b, hb⟩ := hA m (by omega)
          rw [hI m (by omega), hb, hok, Option.bind_some, if_neg (by simp)]
      | true =>
        rw [hok] at hS1
        have hz : sB op = t.size := by
          rw [Bool.and_eq_true, decide_eq_true_eq] at hok
          omega
        obtain ⟨acc, K5, hL, hg5, hq5⟩ := EL op hp t [] ht (by omega) hz (fun p hp => by cases hp) (by show ((0 : Nat) : Int) + _ ≤ _; omega)
        have hal := len_psz acc hg5
        have hz0 : psz [] = 0 := rfl
        obtain ⟨o1, o2, o3⟩ := iF_ok acc.length acc rfl (by omega) hg5
        have hbl := br_length (iF acc) 0
        obtain ⟨K6, h6⟩ := spec_GoodRope_ev (br (iF acc) 0) (br_szN o1) (by omega)
        rw [goodR_br o1] at h6
        refine ⟨if cnt (iF acc) ≤ 200 ∧ (iF acc).size ≤ 300 then (br (iF acc) 0, true) else ([], false), K1 + K2 + K3 + K4 + K5 + K6 + Kt + 2000 + l.length, ?_, fun m hm => ⟨?_, ?_⟩⟩
        · split
          · show (br (iF acc) 0).length ≤ 1000; omega
          · exact Nat.zero_le _
        · have h := (hL m (by omega)).2
          rw [← e] at h
          rw [hS1 m (by omega) (by omega), if_pos rfl, if_pos (by omega), show eL m op l [] = _ from h, Option.bind_some, if_pos (by omega), h6 m (by omega), Option.bind_some]
          by_cases c1 : cnt (iF acc) ≤ 200
          · by_cases c2 : (iF acc).size ≤ 300
            · rw [decide_eq_true c1, decide_eq_true c2, Bool.and_self, if_pos rfl, if_pos ⟨c1, c2⟩]
            · rw [decide_eq_false c2, Bool.and_false, if_neg (by simp), if_neg (fun h => c2 h.2)]
          · rw [decide_eq_false c1, Bool.false_and, if_neg (by simp), if_neg (fun h => c1 h.1)]
        · obtain ⟨b, hb⟩ := hA m (by omega)
          rw [hI m (by omega), hb, hok, Option.bind_some, if_pos rfl, if_pos (by omega), (hL m (by omega)).1, Option.bind_some, if_pos (by omega)]
          exact ropeF_ev o1 (by omega) (by omega)

theorem szP_ev (l : List S55) (hl : l.length ≤ 3518437208780) (a : Int) (h0 : 0 ≤ a) (h1 : a ≤ 1048576) : ∃ r K, (∀ k, K ≤ k → laws_szPartS.f k l a = some r) ∧ (0 ≤ r → l.length ≤ 1048576) := by
  by_cases h : a - (l.length : Int) < 0
  · refine ⟨-1, 0, fun k _ => ?_, fun h => by omega⟩
    unfold laws_szPartS.f
    rw [w64 (by omega) (by omega), if_pos h]
  · obtain ⟨r, K, hK⟩ := szPartS_ev l hl a
    exact ⟨r, K, hK, fun _ => by omega⟩
theorem markP_l : ∀ (d i s : Nat) (x : List S59), i + d = x.length → x.length ≤ 10000000 → s + 3 * d ≤ 900000000 → ∀ k, 200 + d ≤ k → ∃ l', laws_markPartS.l0 k x (s : Int) (i : Int) = some (((s + 3 * d : Nat) : Int), l') := by
  intro d
  induction d with
  | zero =>
    intro i s x hi hl hs k hk
    obtain ⟨k, rfl⟩ : ∃ m, k = m + 1 := ⟨k - 1, by omega⟩
    refine ⟨x, ?_⟩
    simp only [laws_markPartS.l0]
    rw [if_neg (by omega)]
    rfl
  | succ d ih =>
    intro i s x hi hl hs k hk
    obtain ⟨k, rfl⟩ : ∃ m, k = m + 1 := ⟨k - 1, by omega⟩
    have c1 : Aside0 (wrap64 ((s : Int) + 1) = ((s + 1 : Nat) : Int)) := ⟨by rw [w64 (by omega) (by omega)]; omega⟩
    have c2 : Aside0 (wrap64 (((s + 1 : Nat) : Int) + 1) = ((s + 2 : Nat) : Int)) := ⟨by rw [w64 (by omega) (by omega)]; omega⟩
    have c3 : Aside0 (wrap64 (((s + 2 : Nat) : Int) + 1) = ((s + 3 : Nat) : Int)) := ⟨by rw [w64 (by omega) (by omega)]; omega⟩
    have c4 : Aside0 (wrap64 ((i : Int) + 1) = ((i + 1 : Nat) : Int)) := ⟨by rw [w64 (by omega) (by omega)]; omega⟩
    simp only [laws_markPartS.l0]
    rw [if_pos (by omega), if_pos (by omega)]
    simp only [Option.bind_some, c1.out, c2.out, c3.out, c4.out, Int.toNat_natCast]
    rw [mT_ev _ (by omega) k (by omega)]
    simp only [Option.bind_some]
    rw [mT_ev _ (by omega) k (by omega)]
    simp only [Option.bind_some]
    rw [show s + 3 * (d + 1) = s + 3 + 3 * d by omega]
    exact ih (i + 1) (s + 3) _ (by simp only [List.length_set]; omega) (by simp only [List.length_set]; omega) (by omega) k (by omega)
theorem FnExactEditRope : laws_FnExactEditRope.Pure := by
  intro l u hG hH
  obtain ⟨hG1, hG2, hG3⟩ := hG
  obtain ⟨hH1, hH2, hH3⟩ := hH
  obtain ⟨r, h1, h2⟩ := szRope_ev l (by omega) (fun x hx => (hG3 x hx).2.2.1) 1048576 (by omega) (by omega)
  have hA : smallA u := ⟨by omega, fun x hx => ⟨(hH3 x hx).2.1, (hH3 x hx).2.2⟩⟩
  by_cases hr : r < 0
  · refine ⟨l.length + 1, ?_⟩
    unfold laws_FnExactEditRope.f
    rw [h1 _ (by omega), Option.bind_some, if_pos hr]
  · obtain ⟨h3, h3', h4⟩ := h2 (by omega)
    obtain ⟨r2, K2, h5, h6⟩ := szP_ev u (by omega) r (by omega) (by omega)
    by_cases hr2 : r2 < 0
    · refine ⟨l.length + K2 + 1, ?_⟩
      unfold laws_FnExactEditRope.f
      rw [h1 _ (by omega), Option.bind_some, if_neg hr, h5 _ (by omega), Option.bind_some, if_pos hr2]
    · have hu := h6 (by omega)
      obtain ⟨p, hp1, hp2, K3, h7⟩ := toPartS_ev u hA
      obtain ⟨K4, h8⟩ := eqPartS_ev p hp1.1
      have hS := cv_sz h4
      have hl : (l.map cv).length = l.length := List.length_map ..
      obtain ⟨q, K, hq, hK⟩ := EditRope_ev (l.map cv) p hS (by omega) hp1
      obtain ⟨M, hM⟩ : ∃ M, M = K + K2 + K3 + K4 + l.length + u.length + 2000 := ⟨_, rfl⟩
      refine ⟨M + 3, ?_⟩
      obtain ⟨l', hl'⟩ := markP_l p.length 0 (1 + 5 * (l.map cv).length) p (by omega) (by omega) (by omega) (M + 2) (by omega)
      unfold laws_FnExactEditRope.f
      rw [h1 _ (by omega), Option.bind_some, if_neg hr, h5 _ (by omega), Option.bind_some, if_neg hr2, toRope_ev l h3 _ (by omega), Option.bind_some, h7 _ (by omega), Option.bind_some, (hK _ (by omega)).1, Option.bind_some, Option.bind_some, Option.bind_some, (hK _ (by omega)).2, Option.bind_some, eqRope_self _ (by omega) _ (by omega), Option.bind_some, if_pos rfl, bne_self_eq_false]
      simp only [laws_FnExactEditRope.j0]
      rw [if_neg (by simp), toRope_ev l h3 _ (by omega), Option.bind_some, eqRope_self _ (by omega) _ (by omega), Option.bind_some, if_pos rfl, h7 _ (by omega), Option.bind_some, h8 _ (by omega), Option.bind_some, if_pos rfl, show (1 : Int) = ((1 : Nat) : Int) from rfl, markRope_ev _ 1 (by omega) (by omega) _ (by omega), Option.bind_some]
      unfold laws_markPartS.f
      rw [show (0 : Int) = ((0 : Nat) : Int) from rfl, hl', Option.bind_some, if_neg (by omega), eqRope_self _ (by omega) _ (by omega), Option.bind_some, if_pos rfl, bne_self_eq_false]
      simp only [laws_FnExactEditRope.j1]
      rw [if_neg (by simp), show (1 : Int) = ((1 : Nat) : Int) from rfl, markRope_ev _ 1 (by omega) (by omega) _ (by omega), Option.bind_some, heldRope_ev _ 1 (by omega) (by omega) _ (by omega), Option.bind_some, if_neg (by omega), if_pos rfl, toRope_ev l h3 _ (by omega), Option.bind_some, h7 _ (by omega), Option.bind_some, (hK _ (by omega)).2, Option.bind_some, eqRope_self _ (by omega) _ (by omega), Option.bind_some, if_pos rfl, bne_self_eq_false]
      simp only [laws_FnExactEditRope.j2]
      rw [if_neg (by simp), show (1 : Int) = ((1 : Nat) : Int) from rfl, heldRope_ev _ 1 (by omega) (by omega) _ (by omega), Option.bind_some, if_neg (by omega), if_pos rfl]

end Go.Proofs.Ytblnnbaeiggmoaa.Pure
