/- What is split is joined again, what is wrapped is unwrapped, what is named otherwise is named back, and what is put is removed, for drawn documents and commands. -/
import Derived.Test.YtmigfgcpdelnfaaAFnUndoneByx16
set_option linter.unusedVariables false
set_option linter.unusedSimpArgs false
namespace Go.Proofs.Ytmigfgcpdelnfaa.Pure
open Go.RowKit Go.Proofs.Ytmigfgcpdelnfaa.AFnUndoneBy Go.Proofs.YtmigfgcpdelnfaaW.PrintWords Go.Proofs.YtmigfgcpdelnfaaW.PrintLast Go.Proofs.YtmigfgcpdelnfaaW.PrintMore

theorem w64 {i : Int} (h0 : -4611686018427387904 ≤ i) (h : i ≤ 4611686018427387904) : wrap64 i = i := by
  unfold wrap64; omega

def nmB (c : Int) : Bool := decide (65 ≤ c) && decide (c ≤ 70)
def plB (c : Int) : Bool := (decide (97 ≤ c) && decide (c ≤ 122)) || ((decide (48 ≤ c) && decide (c ≤ 57)) || (decide (c = 32) || (decide (c = 46) || decide (c = 44))))
def okB (c : Int) : Bool := nmB c || (plB c || decide (c = 47))
def okN (s : ByteArray) : Nat → Nat → Bool
  | 0, _ => true
  | d + 1, i => okB (bt s i) && okN s d (i + 1)
def textB (s : ByteArray) : Bool := okN s s.size 0 && decide (s.size ≤ 300)

theorem textB_size {s : ByteArray} (h : textB s = true) : s.size ≤ 300 := by
  unfold textB at h; simp at h; exact h.2

theorem impl_isName_eq (c : Int) : impl_isName.f c = some (nmB c) := by
  unfold impl_isName.f nmB
  by_cases h1 : c ≥ 65 <;> simp [h1] <;> omega
theorem impl_isPlain_eq (c : Int) : impl_isPlain.f c = some (plB c) := by
  unfold impl_isPlain.f plB
  by_cases h1 : 97 ≤ c <;> by_cases h2 : c ≤ 122 <;> by_cases h3 : 48 ≤ c <;> by_cases h4 : c ≤ 57 <;> by_cases h5 : c = 32 <;> by_cases h6 : c = 46 <;> simp [h1, h2, h3, h4, h5, h6] <;> rfl
theorem impl_GoodText_l (s : ByteArray) (hs : s.size ≤ 140737488351232) : ∀ (d i : Nat), i + d = s.size →
    ∃ K, ∀ k, K ≤ k → impl_GoodText.l0 k s (s.size : Int) (i : Int) = some (okN s d i && decide (s.size ≤ 300)) := by
  intro d
  induction d with
  | zero =>
    intro i hi
    refine ⟨1, fun k hk => ?_⟩
    obtain ⟨k, rfl⟩ : ∃ m, k = m + 1 := ⟨k - 1, by omega⟩
    simp only [impl_GoodText.l0]
    rw [if_neg (by omega)]
    simp [okN]
    omega
  | succ d ih =>
    intro i hi
    obtain ⟨K, hK⟩ := ih (i + 1) (by omega)
    refine ⟨K + 1, fun k hk => ?_⟩
    obtain ⟨k, rfl⟩ : ∃ m, k = m + 1 := ⟨k - 1, by omega⟩
    have hr := hK k (by omega)
    simp only [impl_GoodText.l0]
    rw [if_pos (by omega), if_pos (by omega), if_pos (by omega), impl_isName_eq, Option.bind_some, impl_isPlain_eq, Option.bind_some, w64 (by omega) (by omega)]
    have hc : ((i : Int) + 1) = ((i + 1 : Nat) : Int) := by omega
    rw [hc, hr]
    show _ = some ((okB (bt s i) && okN s d (i + 1)) && _)
    unfold okB
    cases nmB (bt s i) <;> cases plB (bt s i) <;> by_cases h : bt s i = 47 <;> simp [h]
theorem impl_GoodText_ev (s : ByteArray) (hs : s.size ≤ 140737488351232) : ∃ K, ∀ k, K ≤ k → impl_GoodText.f k s = some (textB s) := by
  obtain ⟨K, hK⟩ := impl_GoodText_l s hs s.size 0 (by omega)
  exact ⟨K, fun k hk => by unfold impl_GoodText.f; exact hK k hk⟩

theorem spec_l1Open_eq (c : Int) : spec_l1Open.f c = some (nmB c) := by
  unfold spec_l1Open.f nmB
  by_cases h1 : c ≥ 65 <;> simp [h1] <;> omega
theorem spec_l1Plain_eq (c : Int) : spec_l1Plain.f c = some (plB c) := by
  unfold spec_l1Plain.f plB
  by_cases h1 : 97 ≤ c <;> by_cases h2 : c ≤ 122 <;> by_cases h3 : 48 ≤ c <;> by_cases h4 : c ≤ 57 <;> by_cases h5 : c = 32 <;> by_cases h6 : c = 46 <;> simp [h1, h2, h3, h4, h5, h6] <;> rfl
theorem spec_l1Text_l (s : ByteArray) (hs : s.size ≤ 140737488351232) : ∀ (d i : Nat), i + d = s.size →
    ∃ K, ∀ k, K ≤ k → spec_l1Text.l0 k s (i : Int) = some (okN s d i) := by
  intro d
  induction d with
  | zero =>
    intro i hi
    refine ⟨1, fun k hk => ?_⟩
    obtain ⟨k, rfl⟩ : ∃ m, k = m + 1 := ⟨k - 1, by omega⟩
    simp only [spec_l1Text.l0]
    rw [if_neg (by omega)]
    simp [okN]
  | succ d ih =>
    intro i hi
    obtain ⟨K, hK⟩ := ih (i + 1) (by omega)
    refine ⟨K + 1, fun k hk => ?_⟩
    obtain ⟨k, rfl⟩ : ∃ m, k = m + 1 := ⟨k - 1, by omega⟩
    have hr := hK k (by omega)
    simp only [spec_l1Text.l0]
    rw [if_pos (by omega), if_pos (by omega), spec_l1Open_eq, Option.bind_some, spec_l1Plain_eq, Option.bind_some, w64 (by omega) (by omega)]
    have hc : ((i : Int) + 1) = ((i + 1 : Nat) : Int) := by omega
    rw [hc, hr]
    show _ = some (okB (bt s i) && okN s d (i + 1))
    unfold okB
    cases nmB (bt s i) <;> cases plB (bt s i) <;> by_cases h : bt s i = 47 <;> simp [h]
theorem spec_GoodText_ev (s : ByteArray) (hs : s.size ≤ 140737488351232) : ∃ K, ∀ k, K ≤ k → spec_GoodText.f k s = some (textB s) := by
  obtain ⟨K, hK⟩ := spec_l1Text_l s hs s.size 0 (by omega)
  refine ⟨K, fun k hk => ?_⟩
  have h := hK k hk
  unfold spec_GoodText.f spec_l1Text.f
  simp only [Int.cast_ofNat_Int] at h
  rw [h, Option.bind_some]
  unfold textB
  cases okN s s.size 0 <;> simp <;> omega

theorem toList_data (s : ByteArray) : s.toList = s.data.toList := by
  have h : ∀ (n i : Nat) (r : List UInt8), s.size - i = n → ByteArray.toList.loop s i r = r.reverse ++ s.data.toList.drop i := by
    intro n
    induction n with
    | zero =>
      intro i r h
      unfold ByteArray.toList.loop
      rw [if_neg (by omega), List.drop_of_length_le (by rw [Array.length_toList]; show s.size ≤ i; omega)]; simp
    | succ n ih =>
      intro i r h
      have hi : i < s.size := by omega
      unfold ByteArray.toList.loop
      have e2 : s.data.toList.drop i = s.data.toList[i]'(by rw [Array.length_toList]; exact hi) :: s.data.toList.drop (i + 1) := List.drop_eq_getElem_cons (by rw [Array.length_toList]; exact hi)
      have e : s.get! i = s.data.toList[i]'(by rw [Array.length_toList]; exact hi) := by
        show s.data[i]! = _
        rw [getElem!_pos s.data i hi]; simp
      rw [if_pos hi, ih (i + 1) _ (by omega), e2, e, List.reverse_cons, List.append_assoc]; rfl
  unfold ByteArray.toList
  rw [h s.size 0 [] (by omega)]; simp
theorem bt_data (s : ByteArray) (i : Nat) (h : i < s.size) : bt s (i : Int) = ((s.data.toList[i]'(by rw [Array.length_toList]; exact h)).toNat : Int) := by
  unfold bt
  rw [dif_pos (by omega)]
  simp [ByteArray.getElem_eq_getElem_data]
theorem toList_eq_iff (a b : ByteArray) : a.toList = b.toList ↔ a.size = b.size ∧ ∀ j : Nat, j < a.size → bt a (j : Int) = bt b (j : Int) := by
  rw [toList_data, toList_data]
  constructor
  · intro h
    have hl : a.size = b.size := by
      have := congrArg List.length h
      rw [Array.length_toList, Array.length_toList] at this; exact this
    refine ⟨hl, fun j hj => ?_⟩
    rw [bt_data a j hj, bt_data b j (by omega)]
    simp only [h]
  · intro ⟨hl, h⟩
    apply List.ext_getElem
    · rw [Array.length_toList, Array.length_toList]; exact hl
    · intro j h1 h2
      rw [Array.length_toList] at h1 h2
      have := h j h1
      rw [bt_data a j h1, bt_data b j h2] at this
      have h3 : (a.data.toList[j]'(by rw [Array.length_toList]; exact h1)).toNat = (b.data.toList[j]'(by rw [Array.length_toList]; exact h2)).toNat := by omega
      exact UInt8.toNat_inj.mp h3
theorem bt_extract (s : ByteArray) (i j n : Nat) (hj : j ≤ s.size) (hn : i + n < j) : bt (s.extract i j) (n : Int) = bt s ((i + n : Nat) : Int) := by
  have h1 : n < (s.extract i j).size := by rw [ByteArray.size_extract]; omega
  unfold bt
  rw [dif_pos (by simpa using h1), dif_pos (by omega)]
  simp only [Int.toNat_natCast, ByteArray.getElem_extract]

/-! changes as lists of simple parts, and what they make -/
theorem ba_nil_append (a : ByteArray) : (⟨#[]⟩ : ByteArray) ++ a = a := by
  apply ByteArray.ext; simp [ByteArray.data_append]
theorem ba_append_nil (a : ByteArray) : a ++ (⟨#[]⟩ : ByteArray) = a := by
  apply ByteArray.ext; simp [ByteArray.data_append]
theorem ba_assoc (a b c : ByteArray) : a ++ b ++ c = a ++ (b ++ c) := by
  apply ByteArray.ext; simp [ByteArray.data_append]
theorem ba_of_toList {a b : ByteArray} (h : a.toList = b.toList) : a = b := by
  rw [toList_data, toList_data] at h
  apply ByteArray.ext
  exact Array.toList_inj.mp h
theorem ba_extract_extract (s : ByteArray) (a i j : Nat) (hj : a + j ≤ s.size) : (s.extract a s.size).extract i j = s.extract (a + i) (a + j) := by
  apply ByteArray.ext
  simp only [ByteArray.data_extract, Array.extract_extract]
  congr 1
  exact Nat.min_eq_left hj
theorem ba_extract_end (s : ByteArray) (a i : Nat) (hi : a + i ≤ s.size) : (s.extract a s.size).extract i (s.extract a s.size).size = s.extract (a + i) s.size := by
  have : (s.extract a s.size).size = s.size - a := by rw [ByteArray.size_extract]; omega
  rw [this, ba_extract_extract s a i (s.size - a) (by omega)]
  congr 1
  omega
theorem ba_extract_add (s : ByteArray) (a b c : Nat) (h1 : a ≤ b) (h2 : b ≤ c) : s.extract a b ++ s.extract b c = s.extract a c := by
  apply ByteArray.ext
  simp only [ByteArray.data_append, ByteArray.data_extract, Array.extract_append_extract]
  congr 1 <;> omega
theorem ba_extract_same (s : ByteArray) (a : Nat) : s.extract a a = ⟨#[]⟩ := by
  apply ByteArray.ext
  simp only [ByteArray.data_extract]
  apply Array.eq_empty_of_size_eq_zero
  simp
  omega
theorem ba_extract_all (s : ByteArray) : s.extract 0 s.size = s := by
  apply ByteArray.ext
  simp only [ByteArray.data_extract]
  exact Array.extract_size
inductive Pt
  | K (n : Nat)
  | W (w : ByteArray)
  | D (d : ByteArray)
def encP : Pt → S61
  | .K n => ⟨(n : Int), ⟨#[]⟩, ⟨#[]⟩⟩
  | .W w => ⟨0, w, ⟨#[]⟩⟩
  | .D d => ⟨0, ⟨#[]⟩, d⟩
def stepP (s : ByteArray) (st : ByteArray × Nat) : Pt → Option (ByteArray × Nat)
  | .K n => if st.2 + n ≤ s.size then some (st.1 ++ s.extract st.2 (st.2 + n), st.2 + n) else none
  | .W w => some (st.1 ++ w, st.2)
  | .D d => if st.2 + d.size ≤ s.size ∧ s.extract st.2 (st.2 + d.size) = d then some (st.1, st.2 + d.size) else none
def runP (s : ByteArray) : List Pt → ByteArray × Nat → Option (ByteArray × Nat)
  | [], st => some st
  | q :: l, st => (stepP s st q).bind (runP s l)
theorem runP_append (s : ByteArray) : ∀ (a b : List Pt) (st : ByteArray × Nat), runP s (a ++ b) st = (runP s a st).bind (runP s b)
  | [], b, st => rfl
  | q :: a, b, st => by
    show (stepP s st q).bind (runP s (a ++ b)) = ((stepP s st q).bind (runP s a)).bind (runP s b)
    cases stepP s st q with
    | none => rfl
    | some t => exact runP_append s a b t
/-- What stands in front lies reversed: the last part is the head. -/
def addP : List Pt → Pt → List Pt
  | .K a :: r, .K b => .K (a + b) :: r
  | .D a :: r, .D b => .D (a ++ b) :: r
  | .W a :: r, .W b => .W (a ++ b) :: r
  | .D d :: .W a :: r, .W b => .D d :: .W (a ++ b) :: r
  | .D d :: r, .W b => .D d :: .W b :: r
  | r, q => q :: r
theorem runP_snoc (s : ByteArray) (a : List Pt) (q : Pt) (st : ByteArray × Nat) : runP s (a ++ [q]) st = (runP s a st).bind fun t => stepP s t q := by
  rw [runP_append]
  cases runP s a st with
  | none => rfl
  | some t => show (stepP s t q).bind (fun u => some u) = stepP s t q; cases stepP s t q <;> rfl
theorem merge_last (s : ByteArray) (r : List Pt) (x y z : Pt) (hm : ∀ t u v, stepP s t x = some u → stepP s u y = some v → stepP s t z = some v) (st v : ByteArray × Nat) (h : (runP s (x :: r).reverse st).bind (fun t => stepP s t y) = some v) : runP s (z :: r).reverse st = some v := by
  rw [List.reverse_cons, runP_snoc] at h ⊢
  obtain ⟨u, hu, hv⟩ := Option.bind_eq_some_iff.mp h
  obtain ⟨t, ht, hx⟩ := Option.bind_eq_some_iff.mp hu
  rw [ht]
  exact hm t u v hx hv
theorem runP_add (s : ByteArray) (r : List Pt) (q : Pt) (st v : ByteArray × Nat) (h : (runP s r.reverse st).bind (fun t => stepP s t q) = some v) : runP s (addP r q).reverse st = some v := by
  have plain : runP s (q :: r).reverse st = some v := by rw [List.reverse_cons, runP_snoc]; exact h
  have swap : ∀ (d b : ByteArray) (r' : List Pt), r = .D d :: r' → q = .W b → (runP s (.W b :: r').reverse st).bind (fun t => stepP s t (.D d)) = some v := by
    intro d b r' hr hq
    subst hr; subst hq
    rw [List.reverse_cons, runP_snoc] at h ⊢
    obtain ⟨u, hu, hv⟩ := Option.bind_eq_some_iff.mp h
    obtain ⟨t, ht, hx⟩ := Option.bind_eq_some_iff.mp hu
    rw [ht]
    simp only [stepP] at hx hv ⊢
    split at hx
    · rename_i c
      cases hx
      simp only [Option.bind_some]
      rw [if_pos c]
      exact hv
    · cases hx
  match r, q with
  | .K a :: r, .K b =>
    refine merge_last s r (.K a) (.K b) (.K (a + b)) (fun t u v h1 h2 => ?_) st v h
    simp only [stepP] at h1 h2 ⊢
    split at h1
    · cases h1
      simp only at h2
      split at h2
      · cases h2
        rw [if_pos (by omega), ba_assoc, ba_extract_add s _ _ _ (by omega) (by omega), Nat.add_assoc]
      · cases h2
    · cases h1
  | .D a :: r, .D b =>
    refine merge_last s r (.D a) (.D b) (.D (a ++ b)) (fun t u v h1 h2 => ?_) st v h
    simp only [stepP] at h1 h2 ⊢
    split at h1
    · rename_i c1
      cases h1
      simp only at h2
      split at h2
      · rename_i c2
        cases h2
        rw [if_pos, ByteArray.size_append, Nat.add_assoc]
        rw [ByteArray.size_append]
        refine ⟨by omega, ?_⟩
        rw [← ba_extract_add s t.2 (t.2 + a.size) _ (by omega) (by omega), c1.2, ← Nat.add_assoc, c2.2]
      · cases h2
    · cases h1
  | .W a :: r, .W b =>
    refine merge_last s r (.W a) (.W b) (.W (a ++ b)) (fun t u v h1 h2 => ?_) st v h
    simp only [stepP] at h1 h2 ⊢
    cases h1
    cases h2
    rw [ba_assoc]
  | .D d :: .W a :: r, .W b =>
    have h' := swap d b (.W a :: r) rfl rfl
    show runP s (.D d :: .W (a ++ b) :: r).reverse st = some v
    rw [List.reverse_cons, runP_snoc]
    obtain ⟨u, hu, hv⟩ := Option.bind_eq_some_iff.mp h'
    rw [List.reverse_cons, runP_snoc] at hu
    rw [merge_last s r (.W a) (.W b) (.W (a ++ b)) (fun t u v h1 h2 => by simp only [stepP] at h1 h2 ⊢; cases h1; cases h2; rw [ba_assoc]) st u hu]
    exact hv
  | .D d :: [], .W b =>
    have h' := swap d b [] rfl rfl
    show runP s (.D d :: .W b :: []).reverse st = some v
    rw [List.reverse_cons, runP_snoc]; exact h'
  | .D d :: .K a :: r, .W b =>
    have h' := swap d b (.K a :: r) rfl rfl
    show runP s (.D d :: .W b :: .K a :: r).reverse st = some v
    rw [List.reverse_cons, runP_snoc]; exact h'
  | .D d :: .D a :: r, .W b =>
    have h' := swap d b (.D a :: r) rfl rfl
    show runP s (.D d :: .W b :: .D a :: r).reverse st = some v
    rw [List.reverse_cons, runP_snoc]; exact h'
  | [], .K b => exact plain
  | [], .W b => exact plain
  | [], .D b => exact plain
  | .K a :: r, .W b => exact plain
  | .K a :: r, .D b => exact plain
  | .W a :: r, .K b => exact plain
  | .W a :: r, .D b => exact plain
  | .D a :: r, .K b => exact plain

def okP : Pt → Prop
  | .K n => 0 < n ∧ n ≤ 4000000
  | .W w => 0 < w.size ∧ w.size ≤ 4000000
  | .D d => 0 < d.size ∧ d.size ≤ 4000000
theorem nil_toList : (⟨#[]⟩ : ByteArray).toList = ([] : List UInt8) := by rw [toList_data]
theorem pos_toList {w : ByteArray} (h : 0 < w.size) : ¬ w.toList = ([] : List UInt8) := by
  rw [toList_data]
  intro e
  have := congrArg List.length e
  rw [Array.length_toList] at this
  have e2 : w.data.size = 0 := this
  have e3 : w.data.size = w.size := rfl
  omega
theorem rd_last (M : List S61) (x : S61) : rd_T61 (M ++ [x]) (M.length : Int) = x := by
  unfold rd_T61
  rw [Int.toNat_natCast, List.getD_eq_getElem?_getD, List.getElem?_append_right (Nat.le_refl _)]
  simp
theorem rd_last2 (M : List S61) (x y : S61) : rd_T61 (M ++ [x] ++ [y]) (M.length : Int) = x := by
  unfold rd_T61
  rw [Int.toNat_natCast, List.getD_eq_getElem?_getD, List.append_assoc, List.getElem?_append_right (Nat.le_refl _)]
  simp
theorem set_last (M : List S61) (x y : S61) : (M ++ [x]).set (M.length : Int).toNat y = M ++ [y] := by
  rw [Int.toNat_natCast, List.set_append_right _ _ (Nat.le_refl _)]
  simp
theorem set_last2 (M : List S61) (x z y : S61) : (M ++ [x] ++ [z]).set (M.length : Int).toNat y = M ++ [y] ++ [z] := by
  rw [Int.toNat_natCast, List.append_assoc, List.set_append_right _ _ (Nat.le_refl _)]
  simp
theorem idx1 (M : List S61) (x : S61) (h : M.length ≤ 4000000) : wrap64 (((M ++ [x]).length : Int) - 1) = (M.length : Int) := by
  rw [List.length_append, List.length_singleton, w64 (by omega) (by omega)]; omega
theorem idx2 (M : List S61) (x y : S61) (h : M.length ≤ 4000000) : wrap64 (((M ++ [x] ++ [y]).length : Int) - 2) = (M.length : Int) := by
  simp only [List.length_append, List.length_singleton]
  rw [w64 (by omega) (by omega)]; omega
theorem encP_rev (r : List Pt) (x : Pt) : (x :: r).reverse.map encP = r.reverse.map encP ++ [encP x] := by
  rw [List.reverse_cons, List.map_append]; rfl
theorem l3Add_0 (k : Nat) (q : Pt) (hq : okP q) : spec_l3Add.f (k + 5) [] (encP q).f0 (encP q).f1 (encP q).f2 = some [encP q] := by
  cases q with
  | K n =>
    have h : ¬ n = 0 := by have := hq.1; omega
    simp [spec_l3Add.f, spec_l3Add.j0, encP, h]
  | W w => simp [spec_l3Add.f, spec_l3Add.j0, encP, pos_toList hq.1]
  | D d => simp [spec_l3Add.f, spec_l3Add.j0, encP, pos_toList hq.1, nil_toList]
theorem l3Add_K (k : Nat) (L : List S61) (N : Nat) (hL : L.length = N + 1) (hN : N ≤ 4000000) (x : S61) (hx : rd_T61 L (N : Int) = x) (n : Nat) (hn : 0 < n) :
    spec_l3Add.f (k + 5) L (n : Int) ⟨#[]⟩ ⟨#[]⟩ = if x.f0 > 0 then some (L.set N ⟨wrap64 (x.f0 + n), x.f1, x.f2⟩) else some (L ++ [⟨(n : Int), ⟨#[]⟩, ⟨#[]⟩⟩]) := by
  have hl : ¬ (L.length : Int) = 0 := by omega
  have hi : wrap64 ((L.length : Int) - 1) = (N : Int) := by rw [w64 (by omega) (by omega)]; omega
  have h0 : (0 : Int) ≤ (N : Int) := by omega
  have h1 : (N : Int) < (L.length : Int) := by omega
  have h2 : L.length < 3518437208883 := by omega
  have e0 : ¬ (n : Int) = 0 := by omega
  have e1 : (n : Int) > 0 := by omega
  simp only [spec_l3Add.f, if_neg e0, spec_l3Add.j0, Bool.false_eq_true, if_false, if_neg hl, hi, if_pos h0, if_pos h1, if_pos e1, hx, spec_l3Add.j1, spec_l3Add.j2, spec_l3Add.j3, spec_l3Add.j4, if_pos h2, nil_toList, if_true, Int.toNat_natCast, decide_eq_true_eq]
theorem l3Add_W (k : Nat) (L : List S61) (N : Nat) (hL : L.length = N + 1) (hN : N ≤ 4000000) (x : S61) (hx : rd_T61 L (N : Int) = x) (w : ByteArray) (hw : 0 < w.size) (hw2 : w.size ≤ 4000000) (hx2 : x.f1.size ≤ 4000000) (y : S61) (hy : 1 ≤ N → rd_T61 L ((N - 1 : Nat) : Int) = y) (hy2 : y.f1.size ≤ 4000000) :
    spec_l3Add.f (k + 5) L 0 w ⟨#[]⟩ = if x.f1.toList ≠ [] then some (L.set N ⟨x.f0, x.f1 ++ w, x.f2⟩) else if x.f2.toList ≠ [] then
      (if 1 ≤ N ∧ y.f1.toList ≠ [] then some (L.set (N - 1) ⟨y.f0, y.f1 ++ w, y.f2⟩) else some (L.set N ⟨0, w, ⟨#[]⟩⟩ ++ [x])) else some (L ++ [⟨0, w, ⟨#[]⟩⟩]) := by
  have hl : ¬ (L.length : Int) = 0 := by omega
  have hi : wrap64 ((L.length : Int) - 1) = (N : Int) := by rw [w64 (by omega) (by omega)]; omega
  have h0 : (0 : Int) ≤ (N : Int) := by omega
  have h1 : (N : Int) < (L.length : Int) := by omega
  have h2 : L.length < 3518437208883 := by omega
  have e1 : ¬ (0 : Int) > 0 := by omega
  have hw' := pos_toList hw
  have s1 : x.f1.size + w.size ≤ 9223372036854775807 := by omega
  have s2 : y.f1.size + w.size ≤ 9223372036854775807 := by omega
  simp only [spec_l3Add.f, if_neg hw', spec_l3Add.j0, Bool.false_eq_true, if_false, if_neg hl, hi, if_pos h0, if_pos h1, if_neg e1, hx, spec_l3Add.j1, spec_l3Add.j2, spec_l3Add.j3, nil_toList, if_true, Int.toNat_natCast, if_pos s1]
  by_cases c1 : x.f1.toList = []
  · simp only [c1, bne_self_eq_false, Bool.false_eq_true, if_false, ne_eq, not_true_eq_false, if_neg hw', spec_l3Add.j4]
    by_cases c2 : x.f2.toList = []
    · simp only [c2, bne_self_eq_false, Bool.false_eq_true, if_false, not_true_eq_false, if_pos h2]
    · have c2' : (x.f2.toList != []) = true := bne_iff_ne.mpr c2
      simp only [c2', if_true, not_false_eq_true, c2]
      by_cases c3 : 1 ≤ N
      · have hj : wrap64 ((L.length : Int) - 2) = ((N - 1 : Nat) : Int) := by rw [w64 (by omega) (by omega)]; omega
        have h3 : (0 : Int) ≤ ((N - 1 : Nat) : Int) := by omega
        have h4 : ((N - 1 : Nat) : Int) < (L.length : Int) := by omega
        have h5 : (L.length : Int) > 1 := by omega
        simp only [if_pos h5, hj, if_pos h3, if_pos h4, hy c3, hi, if_pos h0, if_pos h1, hx, Int.toNat_natCast, if_pos s2, c3, true_and, Option.bind_some, List.length_set, if_pos h2]
        by_cases c4 : y.f1.toList = []
        · simp [c4]
        · simp [c4]
      · have h5 : ¬ (L.length : Int) > 1 := by omega
        simp only [if_neg h5, hi, if_pos h0, if_pos h1, Int.toNat_natCast, c3, false_and, if_false, Option.bind_some, List.length_set, if_pos h2]
  · have c1' : (x.f1.toList != []) = true := bne_iff_ne.mpr c1
    simp only [c1', if_true, ne_eq, c1, not_false_eq_true]
theorem l3Add_D (k : Nat) (L : List S61) (N : Nat) (hL : L.length = N + 1) (hN : N ≤ 4000000) (x : S61) (hx : rd_T61 L (N : Int) = x) (d : ByteArray) (hd : 0 < d.size) (hd2 : d.size ≤ 4000000) (hx2 : x.f2.size ≤ 4000000) :
    spec_l3Add.f (k + 5) L 0 ⟨#[]⟩ d = if x.f2.toList ≠ [] then some (L.set N ⟨x.f0, x.f1, x.f2 ++ d⟩) else some (L ++ [⟨0, ⟨#[]⟩, d⟩]) := by
  have hl : ¬ (L.length : Int) = 0 := by omega
  have hi : wrap64 ((L.length : Int) - 1) = (N : Int) := by rw [w64 (by omega) (by omega)]; omega
  have h0 : (0 : Int) ≤ (N : Int) := by omega
  have h1 : (N : Int) < (L.length : Int) := by omega
  have h2 : L.length < 3518437208883 := by omega
  have e1 : ¬ (0 : Int) > 0 := by omega
  have hd' := pos_toList hd
  have hd'' : (d.toList == []) = false := beq_eq_false_iff_ne.mpr hd'
  have s1 : x.f2.size + d.size ≤ 9223372036854775807 := by omega
  simp only [spec_l3Add.f, nil_toList, if_true, hd'', spec_l3Add.j0, Bool.false_eq_true, if_false, if_neg hl, hi, if_pos h0, if_pos h1, if_neg e1, hx, spec_l3Add.j1, spec_l3Add.j2, spec_l3Add.j3, spec_l3Add.j4, if_neg hd', Int.toNat_natCast, if_pos s1, if_pos h2]
  by_cases c1 : x.f2.toList = []
  · simp [c1]
  · simp [c1]

theorem l3Add_nil (k : Nat) (L : List S61) : spec_l3Add.f (k + 5) L 0 ⟨#[]⟩ ⟨#[]⟩ = some L := by
  simp [spec_l3Add.f, spec_l3Add.j0, nil_toList]
theorem set_at (M : List S61) (x y : S61) : (M ++ [x]).set M.length y = M ++ [y] := by
  rw [List.set_append_right _ _ (Nat.le_refl _)]
  simp
theorem set_at2 (M : List S61) (x z y : S61) : (M ++ [x] ++ [z]).set M.length y = M ++ [y] ++ [z] := by
  rw [List.append_assoc, List.set_append_right _ _ (Nat.le_refl _)]
  simp
theorem l3Add_enc (k : Nat) (r : List Pt) (hr : r.length ≤ 4000000) (hok : ∀ x ∈ r, okP x) (q : Pt) (hq : okP q) :
    spec_l3Add.f (k + 5) (r.reverse.map encP) (encP q).f0 (encP q).f1 (encP q).f2 = some ((addP r q).reverse.map encP) := by
  match r with
  | [] => exact l3Add_0 k q hq
  | x :: r =>
    have hx := hok x (List.mem_cons_self)
    have hr' : r.length ≤ 4000000 := by simp at hr; omega
    rw [encP_rev]
    have hN : ((r.reverse.map encP).length) = r.length := by simp
    have hL : (r.reverse.map encP ++ [encP x]).length = r.length + 1 := by simp
    have hrd : rd_T61 (r.reverse.map encP ++ [encP x]) (r.length : Int) = encP x := by rw [← hN]; exact rd_last _ _
    have hset : ∀ y, (r.reverse.map encP ++ [encP x]).set r.length y = r.reverse.map encP ++ [y] := by intro y; rw [← hN]; exact set_at _ _ _
    have plain : ∀ q' : Pt, addP (x :: r) q' = q' :: x :: r → (addP (x :: r) q').reverse.map encP = r.reverse.map encP ++ [encP x] ++ [encP q'] := by
      intro q' h; rw [h, encP_rev, encP_rev]
    cases q with
    | K n =>
      rw [show (encP (.K n)).f0 = (n : Int) from rfl, show (encP (.K n)).f1 = ⟨#[]⟩ from rfl, show (encP (.K n)).f2 = ⟨#[]⟩ from rfl]
      rw [l3Add_K k _ r.length hL hr' (encP x) hrd n hq.1]
      cases x with
      | K m =>
        have h1 := hx.1
        have h2 := hx.2
        have h3 := hq.2
        rw [if_pos (show (encP (.K m)).f0 > 0 by show (m : Int) > 0; omega), hset]
        show _ = some ((Pt.K (m + n) :: r).reverse.map encP)
        rw [encP_rev]
        show some (_ ++ [(⟨wrap64 ((m : Int) + (n : Int)), ⟨#[]⟩, ⟨#[]⟩⟩ : S61)]) = some (_ ++ [(⟨((m + n : Nat) : Int), ⟨#[]⟩, ⟨#[]⟩⟩ : S61)])
        rw [w64 (by omega) (by omega)]
        rfl
      | W w =>
        rw [if_neg (show ¬ (encP (.W w)).f0 > 0 by show ¬ (0 : Int) > 0; omega), plain (.K n) rfl]; rfl
      | D d =>
        rw [if_neg (show ¬ (encP (.D d)).f0 > 0 by show ¬ (0 : Int) > 0; omega), plain (.K n) rfl]; rfl
    | W w =>
      rw [show (encP (.W w)).f0 = (0 : Int) from rfl, show (encP (.W w)).f1 = w from rfl, show (encP (.W w)).f2 = ⟨#[]⟩ from rfl]
      have hx1 : (encP x).f1.size ≤ 4000000 := by
        cases x with
        | K m => exact Nat.zero_le _
        | W a => exact hx.2
        | D d => exact Nat.zero_le _
      match r, hr', hN, hL, hrd, hset, plain, hok with
      | [], hr', hN, hL, hrd, hset, plain, hok =>
        rw [l3Add_W k _ 0 hL hr' (encP x) hrd w hq.1 hq.2 hx1 z61 (fun h => by omega) (by decide)]
        cases x with
        | K m => rw [if_neg (by simp [encP, nil_toList]), if_neg (by simp [encP, nil_toList]), plain (.W w) rfl]; rfl
        | W a => rw [if_pos (by exact pos_toList hx.1)]; rfl
        | D d => rw [if_neg (by simp [encP, nil_toList]), if_pos (by exact pos_toList hx.1), if_neg (by omega)]; rfl
      | y :: r, hr', hN, hL, hrd, hset, plain, hok =>
        have hy := hok y (List.mem_cons_of_mem _ List.mem_cons_self)
        have hy1 : (encP y).f1.size ≤ 4000000 := by
          cases y with
          | K m => exact Nat.zero_le _
          | W a => exact hy.2
          | D d => exact Nat.zero_le _
        have hN2 : ((r.reverse.map encP).length) = r.length := by simp
        have hrd2 : rd_T61 ((y :: r).reverse.map encP ++ [encP x]) (((y :: r).length - 1 : Nat) : Int) = encP y := by
          rw [encP_rev, List.length_cons, Nat.add_sub_cancel, ← hN2]; exact rd_last2 _ _ _
        have hset2 : ∀ z, ((y :: r).reverse.map encP ++ [encP x]).set ((y :: r).length - 1) z = r.reverse.map encP ++ [z] ++ [encP x] := by
          intro z; rw [encP_rev, List.length_cons, Nat.add_sub_cancel, ← hN2]; exact set_at2 _ _ _ _
        rw [l3Add_W k _ (y :: r).length hL hr' (encP x) hrd w hq.1 hq.2 hx1 (encP y) (fun _ => hrd2) hy1]
        cases x with
        | K m => rw [if_neg (by simp [encP, nil_toList]), if_neg (by simp [encP, nil_toList]), plain (.W w) rfl]; rfl
        | W a => rw [if_pos (by exact pos_toList hx.1), hset]; show _ = some ((Pt.W (a ++ w) :: y :: r).reverse.map encP); rw [encP_rev (y :: r) (Pt.W (a ++ w))]; rfl
        | D d =>
          rw [if_neg (by simp [encP, nil_toList]), if_pos (by exact pos_toList hx.1)]
          cases y with
          | K m =>
            rw [if_neg (by simp [encP, nil_toList]), hset]
            show _ = some ((Pt.D d :: Pt.W w :: Pt.K m :: r).reverse.map encP)
            rw [encP_rev (.W w :: .K m :: r) (.D d), encP_rev (.K m :: r) (.W w)]; rfl
          | W a =>
            rw [if_pos ⟨by simp, by exact pos_toList hy.1⟩, hset2]
            show _ = some ((Pt.D d :: Pt.W (a ++ w) :: r).reverse.map encP)
            rw [encP_rev (.W (a ++ w) :: r) (.D d), encP_rev r (.W (a ++ w))]; rfl
          | D b =>
            rw [if_neg (by simp [encP, nil_toList]), hset]
            show _ = some ((Pt.D d :: Pt.W w :: Pt.D b :: r).reverse.map encP)
            rw [encP_rev (.W w :: .D b :: r) (.D d), encP_rev (.D b :: r) (.W w)]; rfl
    | D d =>
      rw [show (encP (.D d)).f0 = (0 : Int) from rfl, show (encP (.D d)).f1 = ⟨#[]⟩ from rfl, show (encP (.D d)).f2 = d from rfl]
      have hx2 : (encP x).f2.size ≤ 4000000 := by
        cases x with
        | K m => exact Nat.zero_le _
        | W a => exact Nat.zero_le _
        | D d => exact hx.2
      rw [l3Add_D k _ r.length hL hr' (encP x) hrd d hq.1 hq.2 hx2]
      cases x with
      | K m => rw [if_neg (by simp [encP, nil_toList]), plain (.D d) rfl]; rfl
      | W a => rw [if_neg (by simp [encP, nil_toList]), plain (.D d) rfl]; rfl
      | D b =>
        rw [if_pos (by exact pos_toList hx.1), hset]
        show _ = some ((Pt.D (b ++ d) :: r).reverse.map encP)
        rw [encP_rev]; rfl

def massP : Pt → Nat
  | .K n => n
  | .W w => w.size
  | .D d => d.size
def mass : List Pt → Nat
  | [] => 0
  | q :: r => massP q + mass r
theorem mass_add (r : List Pt) (q : Pt) : mass (addP r q) = mass r + massP q := by
  unfold addP
  split <;> simp [mass, massP, ByteArray.size_append] <;> omega
theorem pos_add (r : List Pt) (q : Pt) (hr : ∀ x ∈ r, 0 < massP x) (hq : 0 < massP q) : ∀ x ∈ addP r q, 0 < massP x := by
  unfold addP
  split <;> simp [massP, ByteArray.size_append] at hr hq ⊢ <;> simp_all <;> omega
theorem mass_mem {r : List Pt} {x : Pt} (h : x ∈ r) : massP x ≤ mass r := by
  induction r with
  | nil => simp at h
  | cons y r ih =>
    rcases List.mem_cons.mp h with rfl | h
    · simp [mass]
    · have := ih h; simp only [mass]; omega
theorem mass_len {r : List Pt} (hr : ∀ x ∈ r, 0 < massP x) : r.length ≤ mass r := by
  induction r with
  | nil => simp
  | cons y r ih =>
    have h1 := ih (fun x hx => hr x (List.mem_cons_of_mem _ hx))
    have h2 := hr y List.mem_cons_self
    simp only [mass, List.length_cons]; omega
theorem okP_of {x : Pt} (h0 : 0 < massP x) (h1 : massP x ≤ 4000000) : okP x := by
  cases x <;> exact ⟨h0, h1⟩
def addQ (r : List Pt) (q : Pt) : List Pt := if massP q = 0 then r else addP r q
theorem mass_addQ (r : List Pt) (q : Pt) : mass (addQ r q) = mass r + massP q := by
  unfold addQ
  split
  · omega
  · exact mass_add r q
theorem pos_addQ (r : List Pt) (q : Pt) (hr : ∀ x ∈ r, 0 < massP x) : ∀ x ∈ addQ r q, 0 < massP x := by
  unfold addQ
  split
  · exact hr
  · exact pos_add r q hr (by omega)
theorem size0_eq {a : ByteArray} (h : a.size = 0) : a = ⟨#[]⟩ := by
  apply ByteArray.ext
  exact Array.eq_empty_of_size_eq_zero h
theorem l3AddQ (k : Nat) (r : List Pt) (hr : ∀ x ∈ r, 0 < massP x) (q : Pt) (hm : mass r + massP q ≤ 4000000) :
    spec_l3Add.f (k + 5) (r.reverse.map encP) (encP q).f0 (encP q).f1 (encP q).f2 = some ((addQ r q).reverse.map encP) := by
  unfold addQ
  split
  · rename_i h
    have : encP q = ⟨0, ⟨#[]⟩, ⟨#[]⟩⟩ := by
      cases q with
      | K n => have : n = 0 := h; subst this; rfl
      | W w => rw [size0_eq (a := w) h]; rfl
      | D d => rw [size0_eq (a := d) h]; rfl
    rw [this]
    exact l3Add_nil k _
  · refine l3Add_enc k r ?_ ?_ q (okP_of (by omega) (by omega))
    · have := mass_len hr; omega
    · intro x hx
      have := mass_mem hx
      exact okP_of (hr x hx) (by omega)
def T (s w : ByteArray) (m : Nat) : Nat → List Nat → ByteArray
  | a, [] => s.extract a s.size
  | a, k :: ks => s.extract a k ++ w ++ T s w m (k + m) ks
def ch (s p : ByteArray) : Nat → List Nat → Prop
  | a, [] => a ≤ s.size
  | a, k :: ks => a ≤ k ∧ k + p.size ≤ s.size ∧ s.extract k (k + p.size) = p ∧ ch s p (k + p.size) ks
def apN (m : Nat) : Nat → List Nat → List Nat
  | _, [] => []
  | a, k :: l => if a ≤ k then k :: apN m (k + m) l else apN m a l
theorem ch_ap (s p : ByteArray) : ∀ (l : List Nat) (a : Nat), a ≤ s.size → (∀ k ∈ l, k + p.size ≤ s.size ∧ s.extract k (k + p.size) = p) → ch s p a (apN p.size a l)
  | [], a, ha, _ => ha
  | k :: l, a, ha, h => by
    have hk := h k List.mem_cons_self
    have hl : ∀ k ∈ l, k + p.size ≤ s.size ∧ s.extract k (k + p.size) = p := fun x hx => h x (List.mem_cons_of_mem _ hx)
    unfold apN
    split
    · rename_i c
      exact ⟨c, hk.1, hk.2, ch_ap s p l _ hk.1 hl⟩
    · exact ch_ap s p l a ha hl
theorem ch_le {s p : ByteArray} : ∀ {l : List Nat} {a : Nat}, ch s p a l → a ≤ s.size
  | [], _, h => h
  | k :: l, a, h => by have h1 := h.1; have h2 := h.2.1; omega
theorem apN_len (m : Nat) : ∀ (l : List Nat) (a : Nat), (apN m a l).length ≤ l.length
  | [], _ => Nat.le_refl _
  | k :: l, a => by
    unfold apN
    split
    · have := apN_len m l (k + m); simp; omega
    · have := apN_len m l a; simp; omega
theorem rd_cast (ks : List Nat) (i : Nat) (h : i < ks.length) : rd (ks.map fun a : Nat => (a : Int)) (i : Int) = (ks[i] : Int) := by
  unfold rd
  rw [Int.toNat_natCast, List.getD_eq_getElem?_getD, List.getElem?_map, List.getElem?_eq_getElem h]
  rfl

/-! a maker's state as a list of simple parts -/
theorem addP_len (r : List Pt) (q : Pt) : (addP r q).length ≤ r.length + 1 := by
  unfold addP
  split <;> simp only [List.length_cons] <;> omega
def wL (s : ByteArray) : List Pt := if s.toList = [] then [] else [.W s]
def dL (s : ByteArray) : List Pt := if s.toList = [] then [] else [.D s]
def mkL (r0 : List Pt) (put drop : ByteArray) : List Pt := dL drop ++ (wL put ++ r0)
def headK : List Pt → Prop
  | [] => True
  | .K n :: _ => 0 < n
  | _ => False
theorem size0_toList (s : ByteArray) : s.toList = [] ↔ s.size = 0 := by
  rw [toList_data]
  constructor
  · intro e
    have := congrArg List.length e
    rw [Array.length_toList] at this
    exact this
  · intro e
    apply List.eq_nil_of_length_eq_zero
    rw [Array.length_toList]
    exact e
theorem encL_append (a b : List Pt) : (a ++ b).reverse.map encP = b.reverse.map encP ++ a.reverse.map encP := by
  rw [List.reverse_append, List.map_append]
theorem ends_enc (r0 : List Pt) (put drop : ByteArray) : r0.reverse.map encP ++ ends put drop = (mkL r0 put drop).reverse.map encP := by
  unfold mkL ends wL dL
  rw [encL_append, encL_append, List.append_assoc]
  congr 1
  by_cases h1 : put.toList = [] <;> by_cases h2 : drop.toList = [] <;> simp [h1, h2, encP]
theorem addP_W (r0 : List Pt) (h : headK r0) (put drop w : ByteArray) (hw : 0 < w.size) : addP (mkL r0 put drop) (.W w) = mkL r0 (put ++ w) drop := by
  have e1 : ¬ (put ++ w).toList = [] := by rw [size0_toList, ByteArray.size_append]; omega
  unfold mkL wL dL
  rw [if_neg e1]
  by_cases h1 : put.toList = []
  · have hp : put = ⟨#[]⟩ := ba_of_toList (by rw [h1, nil_toList])
    have hpw : put ++ w = w := by rw [hp, ba_nil_append]
    rw [if_pos h1, hpw]
    by_cases h2 : drop.toList = []
    · rw [if_pos h2]
      match r0, h with
      | [], _ => rfl
      | .K n :: r, _ => rfl
    · rw [if_neg h2]
      match r0, h with
      | [], _ => rfl
      | .K n :: r, _ => rfl
  · rw [if_neg h1]
    by_cases h2 : drop.toList = []
    · rw [if_pos h2]; rfl
    · rw [if_neg h2]; rfl
theorem addP_D (r0 : List Pt) (h : headK r0) (put drop d : ByteArray) (hd : 0 < d.size) : addP (mkL r0 put drop) (.D d) = mkL r0 put (drop ++ d) := by
  have e1 : ¬ (drop ++ d).toList = [] := by rw [size0_toList, ByteArray.size_append]; omega
  unfold mkL wL dL
  rw [if_neg e1]
  by_cases h2 : drop.toList = []
  · have hp : drop = ⟨#[]⟩ := ba_of_toList (by rw [h2, nil_toList])
    have hpw : drop ++ d = d := by rw [hp, ba_nil_append]
    rw [if_pos h2, hpw]
    by_cases h1 : put.toList = []
    · rw [if_pos h1]
      match r0, h with
      | [], _ => rfl
      | .K n :: r, _ => rfl
    · rw [if_neg h1]; rfl
  · rw [if_neg h2]; rfl
theorem mkL_nil (r0 : List Pt) : mkL r0 ⟨#[]⟩ ⟨#[]⟩ = r0 := by
  unfold mkL wL dL
  simp only [if_pos nil_toList]; rfl
theorem addP_K_head (r0 : List Pt) (h : headK r0) (put drop : ByteArray) (n : Nat) (hn : 0 < n) : headK (addP (mkL r0 put drop) (.K n)) := by
  unfold mkL wL dL
  by_cases h1 : put.toList = [] <;> by_cases h2 : drop.toList = [] <;> simp only [h1, h2, if_true, if_false, List.nil_append, List.cons_append]
  · match r0, h with
    | [], _ => exact hn
    | .K m :: r, hm => show 0 < m + n; omega
  · exact hn
  · exact hn
  · exact hn
theorem kO_enc (r0 : List Pt) (h : headK r0) (put drop : ByteArray) (n : Nat) (hn : 0 < n) (hb : n ≤ 4000000) (ht : mass r0 ≤ 4000000) :
    kO (r0.reverse.map encP) put drop (n : Int) = (addP (mkL r0 put drop) (.K n)).reverse.map encP := by
  unfold kO keepO
  rw [if_neg (by omega), ends_enc]
  have key : ∀ (x : Pt) (r : List Pt), ((x :: r).reverse.map encP).length = r.length + 1 := by intro x r; simp
  have hlast : ∀ (x : Pt) (r : List Pt), rd_T61 ((x :: r).reverse.map encP) ((((x :: r).reverse.map encP).length : Int) - 1) = encP x := by
    intro x r
    rw [key, encP_rev, show (((r.length + 1 : Nat) : Int) - 1) = ((r.reverse.map encP).length : Int) by simp]
    exact rd_last _ _
  have add : ∀ (x : Pt) (r : List Pt), ¬ (encP x).f0 > 0 → (if 0 < ((x :: r).reverse.map encP).length ∧ (rd_T61 ((x :: r).reverse.map encP) ((((x :: r).reverse.map encP).length : Int) - 1)).f0 > 0 then ((x :: r).reverse.map encP).set (((x :: r).reverse.map encP).length - 1) ⟨wrap64 ((rd_T61 ((x :: r).reverse.map encP) ((((x :: r).reverse.map encP).length : Int) - 1)).f0 + (n : Int)), (rd_T61 ((x :: r).reverse.map encP) ((((x :: r).reverse.map encP).length : Int) - 1)).f1, (rd_T61 ((x :: r).reverse.map encP) ((((x :: r).reverse.map encP).length : Int) - 1)).f2⟩ else (x :: r).reverse.map encP ++ [⟨(n : Int), ⟨#[]⟩, ⟨#[]⟩⟩]) = (Pt.K n :: x :: r).reverse.map encP := by
    intro x r hx
    rw [hlast, if_neg (fun c => hx c.2), encP_rev (x :: r) (.K n)]; rfl
  have nz : ¬ (0 : Int) > 0 := by omega
  by_cases h1 : put.toList = [] <;> by_cases h2 : drop.toList = []
  · have e : mkL r0 put drop = r0 := by unfold mkL wL dL; rw [if_pos h1, if_pos h2]; rfl
    rw [e]
    match r0, h, ht with
    | [], _, _ => rfl
    | .K m :: r, hm, ht =>
      have hm' : 0 < m := hm
      have hmb : m ≤ 4000000 := by
        have : massP (.K m) ≤ mass (.K m :: r) := by simp only [mass]; omega
        simp only [massP] at this; omega
      rw [hlast, if_pos ⟨by rw [key]; omega, by show (m : Int) > 0; omega⟩, key, Nat.add_sub_cancel, encP_rev]
      have hl : (r.reverse.map encP).length = r.length := by simp
      rw [← hl, set_at]
      show _ ++ [(⟨wrap64 ((m : Int) + (n : Int)), ⟨#[]⟩, ⟨#[]⟩⟩ : S61)] = (Pt.K (m + n) :: r).reverse.map encP
      rw [w64 (by omega) (by omega), encP_rev]; rfl
  · have e : mkL r0 put drop = .D drop :: r0 := by unfold mkL wL dL; rw [if_pos h1, if_neg h2]; rfl
    rw [e, add (.D drop) r0 nz]; rfl
  · have e : mkL r0 put drop = .W put :: r0 := by unfold mkL wL dL; rw [if_neg h1, if_pos h2]; rfl
    rw [e, add (.W put) r0 nz]; rfl
  · have e : mkL r0 put drop = .D drop :: .W put :: r0 := by unfold mkL wL dL; rw [if_neg h1, if_neg h2]; rfl
    rw [e, add (.D drop) (.W put :: r0) nz]; rfl

/-- What 'normal' makes of a list of simple parts. -/
theorem nrm_ev : ∀ (L : List Pt) (r0 : List Pt) (put drop : ByteArray), headK r0 → (∀ x ∈ mkL r0 put drop, 0 < massP x) → mass (mkL r0 put drop) + mass L ≤ 4000000 → nrm (L.map encP) (r0.reverse.map encP) put drop = some ((L.foldl addQ (mkL r0 put drop)).reverse.map encP)
  | L, r0, put, drop, hh, hpos, hm => by
    have hr0 : r0.length ≤ (mkL r0 put drop).length := by unfold mkL; simp only [List.length_append]; omega
    have hln := mass_len hpos
    have hol : (r0.reverse.map encP).length = r0.length := by simp
    have hpt : put.size ≤ mass (mkL r0 put drop) := by
      by_cases h1 : put.toList = []
      · have := (size0_toList put).1 h1; omega
      · exact mass_mem (x := .W put) (by unfold mkL wL; rw [if_neg h1]; simp)
    have hdt : drop.size ≤ mass (mkL r0 put drop) := by
      by_cases h1 : drop.toList = []
      · have := (size0_toList drop).1 h1; omega
      · exact mass_mem (x := .D drop) (by unfold mkL dL; rw [if_neg h1]; simp)
    have hrt : mass r0 ≤ mass (mkL r0 put drop) := by
      have : ∀ l : List Pt, mass r0 ≤ mass (l ++ r0) := by intro l; induction l with
        | nil => exact Nat.le_refl _
        | cons q l ih => simp only [List.cons_append, mass]; omega
      unfold mkL
      rw [← List.append_assoc]
      exact this _
    have z : (⟨#[]⟩ : ByteArray).size = 0 := rfl
    match L with
    | [] =>
      show (if (r0.reverse.map encP).length + 3 ≤ 3518437208883 then some ((r0.reverse.map encP) ++ ends put drop) else none) = _
      rw [if_pos (by rw [hol]; omega), ends_enc]; rfl
    | .K n :: L =>
      have hn : n + mass L ≤ 4000000 := by simp only [mass, massP] at hm; omega
      have hm' : mass (mkL r0 put drop) + (n + mass L) ≤ 4000000 := hm
      rw [List.map_cons, List.foldl_cons]
      unfold nrm
      by_cases h0 : n = 0
      · subst h0
        have e1 : kS put (encP (.K 0)).f0 = put := rfl
        have e2 : kS drop (encP (.K 0)).f0 = drop := rfl
        have e3 : kO (r0.reverse.map encP) put drop (encP (.K 0)).f0 = r0.reverse.map encP := rfl
        have e4 : (encP (.K 0)).f1 = ⟨#[]⟩ := rfl
        have e5 : (encP (.K 0)).f2 = ⟨#[]⟩ := rfl
        have e6 : addQ (mkL r0 put drop) (.K 0) = mkL r0 put drop := if_pos rfl
        rw [e1, e2, e3, e4, e5, e6, if_pos ⟨by rw [hol]; omega, by omega, by omega⟩, ba_append_nil, ba_append_nil]
        exact nrm_ev L r0 put drop hh hpos (by omega)
      · have hi : ¬ ((n : Nat) : Int) = 0 := by omega
        have e1 : kS put (encP (.K n)).f0 = ⟨#[]⟩ := if_neg hi
        have e2 : kS drop (encP (.K n)).f0 = ⟨#[]⟩ := if_neg hi
        have e3 : kO (r0.reverse.map encP) put drop (encP (.K n)).f0 = (addP (mkL r0 put drop) (.K n)).reverse.map encP := kO_enc r0 hh put drop n (by omega) (by omega) (by omega)
        have e4 : (encP (.K n)).f1 = ⟨#[]⟩ := rfl
        have e5 : (encP (.K n)).f2 = ⟨#[]⟩ := rfl
        have e6 : addQ (mkL r0 put drop) (.K n) = addP (mkL r0 put drop) (.K n) := if_neg h0
        have hmm := mass_add (mkL r0 put drop) (.K n)
        have hpp := pos_add (mkL r0 put drop) (.K n) hpos (by show 0 < n; omega)
        have hhd := addP_K_head r0 hh put drop n (by omega)
        simp only [massP] at hmm
        rw [e1, e2, e3, e4, e5, e6, if_pos ⟨by rw [hol]; omega, by omega, by omega⟩, ba_append_nil]
        have := nrm_ev L (addP (mkL r0 put drop) (.K n)) ⟨#[]⟩ ⟨#[]⟩ hhd (by rw [mkL_nil]; exact hpp) (by rw [mkL_nil]; omega)
        rw [mkL_nil] at this
        exact this
    | .W w :: L =>
      have hm' : mass (mkL r0 put drop) + (w.size + mass L) ≤ 4000000 := hm
      rw [List.map_cons, List.foldl_cons]
      unfold nrm
      have e1 : kS put (encP (.W w)).f0 = put := rfl
      have e2 : kS drop (encP (.W w)).f0 = drop := rfl
      have e3 : kO (r0.reverse.map encP) put drop (encP (.W w)).f0 = r0.reverse.map encP := rfl
      have e4 : (encP (.W w)).f1 = w := rfl
      have e5 : (encP (.W w)).f2 = ⟨#[]⟩ := rfl
      rw [e1, e2, e3, e4, e5, if_pos ⟨by rw [hol]; omega, by omega, by omega⟩, ba_append_nil]
      by_cases h0 : w.size = 0
      · have e6 : addQ (mkL r0 put drop) (.W w) = mkL r0 put drop := if_pos h0
        rw [e6, size0_eq h0, ba_append_nil]
        exact nrm_ev L r0 put drop hh hpos (by omega)
      · have e6 : addQ (mkL r0 put drop) (.W w) = addP (mkL r0 put drop) (.W w) := if_neg h0
        have hmm := mass_add (mkL r0 put drop) (.W w)
        have hpp := pos_add (mkL r0 put drop) (.W w) hpos (by show 0 < w.size; omega)
        simp only [massP] at hmm
        rw [addP_W r0 hh put drop w (by omega)] at e6 hmm hpp
        rw [e6]
        exact nrm_ev L r0 (put ++ w) drop hh hpp (by omega)
    | .D w :: L =>
      have hm' : mass (mkL r0 put drop) + (w.size + mass L) ≤ 4000000 := hm
      rw [List.map_cons, List.foldl_cons]
      unfold nrm
      have e1 : kS put (encP (.D w)).f0 = put := rfl
      have e2 : kS drop (encP (.D w)).f0 = drop := rfl
      have e3 : kO (r0.reverse.map encP) put drop (encP (.D w)).f0 = r0.reverse.map encP := rfl
      have e4 : (encP (.D w)).f1 = ⟨#[]⟩ := rfl
      have e5 : (encP (.D w)).f2 = w := rfl
      rw [e1, e2, e3, e4, e5, if_pos ⟨by rw [hol]; omega, by omega, by omega⟩, ba_append_nil]
      by_cases h0 : w.size = 0
      · have e6 : addQ (mkL r0 put drop) (.D w) = mkL r0 put drop := if_pos h0
        rw [e6, size0_eq h0, ba_append_nil]
        exact nrm_ev L r0 put drop hh hpos (by omega)
      · have e6 : addQ (mkL r0 put drop) (.D w) = addP (mkL r0 put drop) (.D w) := if_neg h0
        have hmm := mass_add (mkL r0 put drop) (.D w)
        have hpp := pos_add (mkL r0 put drop) (.D w) hpos (by show 0 < w.size; omega)
        simp only [massP] at hmm
        rw [addP_D r0 hh put drop w (by omega)] at e6 hmm hpp
        rw [e6]
        exact nrm_ev L r0 put (drop ++ w) hh hpp (by omega)
theorem normal_ev (L : List Pt) (hm : mass L ≤ 4000000) : impl_normal.f (L.map encP) = some ((L.foldl addQ []).reverse.map encP) := by
  have e0 : mkL [] ⟨#[]⟩ ⟨#[]⟩ = [] := mkL_nil []
  have := nrm_ev L [] ⟨#[]⟩ ⟨#[]⟩ trivial (by rw [e0]; intro x hx; cases hx) (by rw [e0]; simp only [mass]; omega)
  rw [e0] at this
  exact this
theorem fold_inv : ∀ (L r : List Pt), (∀ x ∈ r, 0 < massP x) → (∀ x ∈ L.foldl addQ r, 0 < massP x) ∧ mass (L.foldl addQ r) = mass r + mass L
  | [], r, hr => ⟨hr, by simp [mass]⟩
  | q :: L, r, hr => by
    obtain ⟨h1, h2⟩ := fold_inv L (addQ r q) (pos_addQ r q hr)
    exact ⟨h1, by rw [List.foldl_cons, h2, mass_addQ]; simp only [mass]; omega⟩
/-! how many bytes a change makes -/

theorem stepP_mono {s : ByteArray} {q : Pt} {st v : ByteArray × Nat} (h : stepP s st q = some v) (ha : st.2 ≤ s.size) : st.1.size ≤ v.1.size ∧ v.2 ≤ s.size := by
  cases q with
  | K n =>
    simp only [stepP] at h
    split at h
    · cases h; simp only [ByteArray.size_append]; omega
    · cases h
  | W w => simp only [stepP] at h; cases h; simp only [ByteArray.size_append]; omega
  | D d =>
    simp only [stepP] at h
    split at h
    · cases h; simp only; omega
    · cases h
theorem runP_mono {s : ByteArray} : ∀ {l : List Pt} {st v : ByteArray × Nat}, runP s l st = some v → st.2 ≤ s.size → st.1.size ≤ v.1.size ∧ v.2 ≤ s.size
  | [], st, v, h, ha => by
    have : st = v := Option.some.inj h
    subst this
    exact ⟨Nat.le_refl _, ha⟩
  | q :: l, st, v, h, ha => by
    obtain ⟨u, hu, hv⟩ := Option.bind_eq_some_iff.mp h
    have h1 := stepP_mono hu ha
    have h2 := runP_mono hv h1.2
    omega
theorem rd_enc (L : List Pt) (i : Nat) (h : i < L.length) : rd_T61 (L.map encP) (i : Int) = encP L[i] := by
  unfold rd_T61
  rw [Int.toNat_natCast, List.getD_eq_getElem?_getD, List.getElem?_map, List.getElem?_eq_getElem h]
  rfl
theorem rest_size (s : ByteArray) (a : Nat) : (s.extract a s.size).size = s.size - a := by rw [ByteArray.size_extract]; omega
theorem l3Apply_l (s : ByteArray) (hs : s.size ≤ 300) (L : List Pt) (hL : L.length ≤ 4000000) (hpos : ∀ x ∈ L, 0 < massP x) (hmx : ∀ x ∈ L, massP x ≤ 4000000) (v : ByteArray × Nat) (hv : v.1.size ≤ 1000000000) :
    ∀ (d i : Nat) (a : Nat) (out : ByteArray), i + d = L.length → a ≤ s.size → runP s (L.drop i) (out, a) = some v →
    ∃ K, ∀ k, K ≤ k → spec_l3Apply.l0 k (s.extract a s.size) out (L.map encP) ((L.map encP).length : Int) (i : Int) = some (v.1, (s.extract v.2 s.size).toList == ([] : List UInt8)) := by
  intro d
  induction d with
  | zero =>
    intro i a out hi ha hr
    rw [List.drop_of_length_le (by omega)] at hr
    have : (out, a) = v := Option.some.inj hr
    subst this
    refine ⟨1, fun k hk => ?_⟩
    obtain ⟨k, rfl⟩ : ∃ m, k = m + 1 := ⟨k - 1, by omega⟩
    simp only [spec_l3Apply.l0]
    rw [if_neg (by simp; omega)]
  | succ d ih =>
    intro i a out hi ha hr
    have hil : i < L.length := by omega
    rw [List.drop_eq_getElem_cons hil] at hr
    have hx := hpos _ (List.getElem_mem hil)
    have hx2 := hmx _ (List.getElem_mem hil)
    have hrd := rd_enc L i hil
    generalize L[i] = q at hr hx hx2 hrd
    obtain ⟨u, hu, hr'⟩ := Option.bind_eq_some_iff.mp hr
    have hmo := runP_mono hr' (stepP_mono hu ha).2
    obtain ⟨K, hK⟩ := ih (i + 1) u.2 u.1 (by omega) (stepP_mono hu ha).2 hr'
    have hsz := rest_size s a
    refine ⟨K + 2, fun k hk => ?_⟩
    obtain ⟨k, rfl⟩ : ∃ m, k = m + 2 := ⟨k - 2, by omega⟩
    have hk' := hK k (by omega)
    obtain ⟨k1, hk1⟩ : ∃ m, m = k + 1 := ⟨_, rfl⟩
    rw [show k + 2 = k1 + 1 by omega]
    simp only [spec_l3Apply.l0, hrd]
    rw [if_pos (by simp; omega), if_pos (by omega), if_pos (by simp; omega)]
    rw [hk1]
    obtain ⟨k0, hk0⟩ : ∃ m, m = k := ⟨_, rfl⟩
    rw [← hk0] at hk' ⊢
    cases q with
    | K n =>
      simp only [stepP] at hu
      split at hu
      · rename_i c
        cases hu
        simp only at hk' c hmo
        have hn0 : 0 < n := hx
        simp only [encP, show (⟨#[]⟩ : ByteArray).size = 0 from rfl, Int.add_zero, Int.natCast_zero]
        rw [w64 (i := (n : Int)) (by have : n ≤ 4000000 := hx2; omega) (by have : n ≤ 4000000 := hx2; omega), if_neg (by rw [hsz]; omega), if_pos nil_toList]
        simp only [spec_l3Apply.j1, Bool.false_eq_true, if_false]
        have e1 : (s.extract a s.size).extract 0 (n : Int).toNat = s.extract a (a + n) := by rw [Int.toNat_natCast, ba_extract_extract s a 0 n c]; rfl
        have e2 : (s.extract a s.size).extract (n : Int).toNat (s.extract a s.size).size = s.extract (a + n) s.size := by rw [Int.toNat_natCast]; exact ba_extract_end s a n c
        have e3 := hmo.1
        rw [ByteArray.size_append] at e3
        rw [if_pos (by omega), if_pos (by omega), if_pos (by rw [hsz]; omega), e1, if_pos (by omega), if_pos (by rw [ByteArray.size_append, show (⟨#[]⟩ : ByteArray).size = 0 from rfl]; omega), e2, ba_append_nil, w64 (i := (i : Int) + 1) (by omega) (by omega)]
        exact hk'
      · cases hu
    | W w =>
      simp only [stepP] at hu
      cases hu
      simp only at hk' hmo
      simp only [encP, show (⟨#[]⟩ : ByteArray).size = 0 from rfl, Int.natCast_zero, Int.add_zero]
      rw [w64 (i := (0 : Int)) (by omega) (by omega), if_neg (by rw [hsz]; omega), if_pos nil_toList]
      simp only [spec_l3Apply.j1, Bool.false_eq_true, if_false]
      have e2 : (s.extract a s.size).extract (0 : Int).toNat (s.extract a s.size).size = s.extract a s.size := ba_extract_all _
      have e3 := hmo.1
      rw [ByteArray.size_append] at e3
      rw [if_neg (by omega), if_pos (by omega), if_pos (by omega), if_pos (by rw [hsz]; omega), e2, w64 (i := (i : Int) + 1) (by omega) (by omega)]
      exact hk'
    | D dd =>
      simp only [stepP] at hu
      split at hu
      · rename_i c
        cases hu
        simp only at hk' c hmo
        have hd0 : 0 < dd.size := hx
        have hd1 : dd.size ≤ 4000000 := hx2
        have c1 := c.1
        simp only [encP, Int.zero_add]
        have e1 : (s.extract a s.size).extract 0 (dd.size : Int).toNat = dd := by rw [Int.toNat_natCast, ba_extract_extract s a 0 dd.size c1]; exact c.2
        have e2 : (s.extract a s.size).extract (dd.size : Int).toNat (s.extract a s.size).size = s.extract (a + dd.size) s.size := by rw [Int.toNat_natCast]; exact ba_extract_end s a dd.size c1
        have e3 := hmo.1
        rw [w64 (i := (dd.size : Int)) (by omega) (by omega), if_neg (by rw [hsz]; omega), if_neg (pos_toList hd0), if_pos (by omega), if_pos (by rw [hsz]; omega), e1]
        simp only [spec_l3Apply.j1, bne_self_eq_false, Bool.false_eq_true, if_false]
        rw [if_neg (by omega), if_pos (by rw [show (⟨#[]⟩ : ByteArray).size = 0 from rfl]; omega), if_pos (by omega), if_pos (by rw [hsz]; omega), e2, ba_append_nil, w64 (i := (i : Int) + 1) (by omega) (by omega)]
        exact hk'
      · cases hu

/-! documents: how deep a place lies, and which beginning belongs to which end -/
def dst (c : Int) : Int := if nmB c = true then 1 else if c = 47 then -1 else 0
def dp (s : ByteArray) : Nat → Int
  | 0 => 0
  | i + 1 => dp s i + dst (bt s (i : Int))
def Mate (s : ByteArray) (a b : Nat) : Prop := a < b ∧ b < s.size ∧ nmB (bt s (a : Int)) = true ∧ bt s (b : Int) = 47 ∧ dp s (b + 1) = dp s a ∧ ∀ j, a < j → j ≤ b → dp s a < dp s j
def Bal (s : ByteArray) : Prop := (∀ j, j ≤ s.size → 0 ≤ dp s j ∧ dp s j ≤ 12) ∧ dp s s.size = 0
theorem nmB_47 : nmB 47 = false := rfl
theorem dp_open {s : ByteArray} {i : Nat} (h : nmB (bt s (i : Int)) = true) : dp s (i + 1) = dp s i + 1 := by
  show dp s i + dst _ = _
  unfold dst; rw [if_pos h]
theorem dp_close {s : ByteArray} {i : Nat} (h : bt s (i : Int) = 47) : dp s (i + 1) = dp s i - 1 := by
  show dp s i + dst _ = _
  unfold dst; rw [h, nmB_47, if_neg (by simp), if_pos rfl]; rfl
theorem dp_else {s : ByteArray} {i : Nat} (h : nmB (bt s (i : Int)) = false) (h2 : bt s (i : Int) ≠ 47) : dp s (i + 1) = dp s i := by
  show dp s i + dst _ = _
  unfold dst; rw [h, if_neg (by simp), if_neg h2]; omega
theorem dp_step (s : ByteArray) (i : Nat) : dp s (i + 1) ≤ dp s i + 1 ∧ dp s i - 1 ≤ dp s (i + 1) := by
  show dp s i + dst _ ≤ _ ∧ _ ≤ dp s i + dst _
  unfold dst
  split
  · omega
  · split <;> omega
theorem Mate.right {s : ByteArray} {a b b' : Nat} (h : Mate s a b) (h' : Mate s a b') : b = b' := by
  obtain ⟨h1, _, _, _, h2, h3⟩ := h
  obtain ⟨k1, _, _, _, k2, k3⟩ := h'
  by_cases e : b = b'
  · exact e
  · exfalso
    by_cases l : b < b'
    · have := k3 (b + 1) (by omega) (by omega); omega
    · have := h3 (b' + 1) (by omega) (by omega); omega
theorem Mate.left {s : ByteArray} {a a' b : Nat} (h : Mate s a b) (h' : Mate s a' b) : a = a' := by
  obtain ⟨h1, _, _, _, h2, h3⟩ := h
  obtain ⟨k1, _, _, _, k2, k3⟩ := h'
  by_cases e : a = a'
  · exact e
  · exfalso
    by_cases l : a < a'
    · have := h3 a' (by omega) (by omega); omega
    · have := k3 a (by omega) (by omega); omega
theorem mate_ex_ {s : ByteArray} (hb : Bal s) {a : Nat} (ho : nmB (bt s (a : Int)) = true) (ha : a < s.size) : ∀ (d i : Nat), i + d = s.size → a < i → (∀ j, a < j → j ≤ i → dp s a < dp s j) → ∃ b, Mate s a b := by
  intro d
  induction d with
  | zero =>
    intro i hi hai h
    obtain rfl : i = s.size := by omega
    have h1 := h s.size hai (Nat.le_refl _)
    have h2 := (hb.1 a (by omega)).1
    have h3 := hb.2
    omega
  | succ d ih =>
    intro i hi hai h
    have hs := dp_step s i
    have hi0 := h i hai (Nat.le_refl _)
    by_cases e : dp s (i + 1) = dp s a
    · refine ⟨i, hai, by omega, ho, ?_, e, h⟩
      cases hn : nmB (bt s (i : Int)) with
      | true => have := dp_open hn; omega
      | false =>
        by_cases h47 : bt s (i : Int) = 47
        · exact h47
        · have := dp_else hn h47; omega
    · exact ih (i + 1) (by omega) (by omega) (fun j h1 h2 => by
        by_cases ej : j = i + 1
        · subst ej; omega
        · exact h j h1 (by omega))
theorem mate_ex {s : ByteArray} (hb : Bal s) {a : Nat} (ho : nmB (bt s (a : Int)) = true) (ha : a < s.size) : ∃ b, Mate s a b :=
  mate_ex_ hb ho ha (s.size - (a + 1)) (a + 1) (by omega) (by omega) (fun j h1 h2 => by
    obtain rfl : j = a + 1 := by omega
    have := dp_open ho; omega)
theorem mate_exl_ {s : ByteArray} (hb : Bal s) {b : Nat} (hc : bt s (b : Int) = 47) (hbs : b < s.size) : ∀ (d i : Nat), i = d → i ≤ b → (∀ j, i < j → j ≤ b → dp s (b + 1) < dp s j) → dp s (b + 1) < dp s i ∨ (dp s i = dp s (b + 1) ∧ i < b) → ∃ a, Mate s a b := by
  intro d
  induction d with
  | zero =>
    intro i hi hib h hh
    subst hi
    have h0 := (hb.1 (b + 1) (by omega)).1
    rcases hh with hh | ⟨hh, hlt⟩
    · exfalso
      have : dp s 0 = 0 := rfl
      omega
    · have h1 := h 1 (by omega) (by omega)
      have hs := dp_step s 0
      refine ⟨0, hlt, hbs, ?_, hc, hh.symm, fun j h2 h3 => by rw [hh]; exact h j h2 h3⟩
      cases hn : nmB (bt s ((0 : Nat) : Int)) with
      | true => rfl
      | false =>
        by_cases h47 : bt s ((0 : Nat) : Int) = 47
        · have := dp_close h47; simp only [Nat.zero_add] at this; omega
        · have := dp_else hn h47; simp only [Nat.zero_add] at this; omega
  | succ d ih =>
    intro i hi hib h hh
    subst hi
    rcases hh with hh | ⟨hh, hlt⟩
    · have hs := dp_step s d
      refine ih d rfl (by omega) (fun j h1 h2 => ?_) ?_
      · by_cases ej : j = d + 1
        · subst ej; exact hh
        · exact h j (by omega) h2
      · by_cases e : dp s d = dp s (b + 1)
        · exact .inr ⟨e, by omega⟩
        · exact .inl (by omega)
    · have h1 := h (d + 1 + 1) (by omega) (by omega)
      have hs := dp_step s (d + 1)
      refine ⟨d + 1, hlt, hbs, ?_, hc, hh.symm, fun j h2 h3 => by rw [hh]; exact h j h2 h3⟩
      cases hn : nmB (bt s ((d + 1 : Nat) : Int)) with
      | true => rfl
      | false =>
        by_cases h47 : bt s ((d + 1 : Nat) : Int) = 47
        · have := dp_close h47; omega
        · have := dp_else hn h47; omega
theorem mate_exl {s : ByteArray} (hb : Bal s) {b : Nat} (hc : bt s (b : Int) = 47) (hbs : b < s.size) : ∃ a, Mate s a b :=
  mate_exl_ hb hc hbs b b rfl (Nat.le_refl _) (fun j h1 h2 => by omega) (.inl (by have := dp_close hc; omega))
/-- A part of a text that lies between two places of one depth, and not below it, is balanced. -/
theorem dp_extract (s : ByteArray) (a b : Nat) (hb : b ≤ s.size) : ∀ i, a + i ≤ b → dp (s.extract a b) i = dp s (a + i) - dp s a := by
  intro i
  induction i with
  | zero => intro h; show 0 = _; simp
  | succ i ih =>
    intro h
    have e := bt_extract s a b i hb (by omega)
    show dp (s.extract a b) i + dst (bt (s.extract a b) (i : Int)) = (dp s (a + i) + dst (bt s ((a + i : Nat) : Int))) - dp s a
    rw [ih (by omega), e]
    omega
theorem bal_extract {s : ByteArray} {a b : Nat} (hab : a ≤ b) (hb : b ≤ s.size) (he : dp s b = dp s a) (h : ∀ j, a ≤ j → j ≤ b → dp s a ≤ dp s j ∧ dp s j ≤ dp s a + 12) : Bal (s.extract a b) := by
  have hz : (s.extract a b).size = b - a := by rw [ByteArray.size_extract]; omega
  constructor
  · intro j hj
    rw [hz] at hj
    rw [dp_extract s a b hb j (by omega)]
    have := h (a + j) (by omega) (by omega)
    omega
  · rw [hz, dp_extract s a b hb (b - a) (by omega), show a + (b - a) = b by omega]
    omega
theorem bal_inner {s : ByteArray} (hb : Bal s) {a b : Nat} (hm : Mate s a b) : Bal (s.extract (a + 1) b) := by
  obtain ⟨h1, h2, h3, h4, h5, h6⟩ := hm
  have e1 := dp_open h3
  have e2 := dp_close h4
  refine bal_extract (by omega) (by omega) (by omega) (fun j g1 g2 => ?_)
  have := h6 j (by omega) g2
  have := hb.1 j (by omega)
  have := hb.1 a (by omega)
  omega
theorem okN_at {s : ByteArray} : ∀ (d i : Nat), okN s d i = true → ∀ j, i ≤ j → j < i + d → okB (bt s (j : Int)) = true := by
  intro d
  induction d with
  | zero => intro i h j h1 h2; omega
  | succ d ih =>
    intro i h j h1 h2
    unfold okN at h
    rw [Bool.and_eq_true] at h
    by_cases e : j = i
    · subst e; exact h.1
    · exact ih (i + 1) h.2 j (by omega) (by omega)
theorem okN_of {s : ByteArray} : ∀ (d i : Nat), (∀ j, i ≤ j → j < i + d → okB (bt s (j : Int)) = true) → okN s d i = true := by
  intro d
  induction d with
  | zero => intro i h; rfl
  | succ d ih =>
    intro i h
    unfold okN
    rw [Bool.and_eq_true]
    exact ⟨h i (by omega) (by omega), ih (i + 1) (fun j h1 h2 => h j (by omega) (by omega))⟩
theorem textB_at {s : ByteArray} (h : textB s = true) (j : Nat) (hj : j < s.size) : okB (bt s (j : Int)) = true := by
  unfold textB at h
  rw [Bool.and_eq_true] at h
  exact okN_at s.size 0 h.1 j (by omega) (by omega)
theorem textB_of {s : ByteArray} (h : ∀ j, j < s.size → okB (bt s (j : Int)) = true) (hs : s.size ≤ 300) : textB s = true := by
  unfold textB
  rw [Bool.and_eq_true]
  exact ⟨okN_of s.size 0 (fun j _ hj => h j (by omega)), by simpa using hs⟩
theorem textB_extract {s : ByteArray} (h : textB s = true) (a b : Nat) (hb : b ≤ s.size) : textB (s.extract a b) = true := by
  have hz := textB_size h
  have hz2 : (s.extract a b).size = b - a := by rw [ByteArray.size_extract]; omega
  refine textB_of (fun j hj => ?_) (by omega)
  rw [bt_extract s a b j hb (by omega)]
  exact textB_at h _ (by omega)

/-! what 'matches' reckons -/
theorem nmH_nmB (c : Int) : nmH c = nmB c := by
  unfold nmH; rw [impl_isName_eq]; rfl
structure Inv (s : ByteArray) (i : Nat) (st : List Int) (m : List (Int × Int)) : Prop where
  len : (st.length : Int) = dp s i
  stk : ∀ t, t < st.length → ∃ p : Nat, rd st (t : Int) = (p : Int) ∧ p < i ∧ nmB (bt s (p : Int)) = true ∧ dp s p = (t : Int) ∧ ∀ j, p < j → j ≤ i → (t : Int) < dp s j
  bd : ∀ j, j ≤ i → 0 ≤ dp s j ∧ dp s j ≤ 12
  lks : ∀ a b : Int, lk m a = some b ↔ ∃ p q : Nat, Mate s p q ∧ q < i ∧ ((a = (p : Int) ∧ b = (q : Int)) ∨ (a = (q : Int) ∧ b = (p : Int)))
theorem rd_app_left (xs ys : List Int) (t : Nat) (h : t < xs.length) : rd (xs ++ ys) (t : Int) = rd xs (t : Int) := by
  unfold rd
  rw [Int.toNat_natCast, List.getD_eq_getElem?_getD, List.getD_eq_getElem?_getD, List.getElem?_append_left h]
theorem rd_app_one (xs : List Int) (x : Int) : rd (xs ++ [x]) (xs.length : Int) = x := by
  unfold rd
  rw [Int.toNat_natCast, List.getD_eq_getElem?_getD, List.getElem?_append_right (Nat.le_refl _)]
  simp
theorem rd_take (xs : List Int) (n t : Nat) (h : t < n) : rd (xs.take n) (t : Int) = rd xs (t : Int) := by
  unfold rd
  rw [Int.toNat_natCast, List.getD_eq_getElem?_getD, List.getD_eq_getElem?_getD, List.getElem?_take_of_lt h]
theorem Inv.start (s : ByteArray) : Inv s 0 [] [] := by
  refine ⟨rfl, fun t h => by simp at h, fun j h => ?_, fun a b => ⟨fun h => (by cases h), fun ⟨p, q, _, h, _⟩ => (by omega)⟩⟩
  obtain rfl : j = 0 := by omega
  show 0 ≤ (0 : Int) ∧ (0 : Int) ≤ 12
  omega
theorem Inv.bd_next {s : ByteArray} {i : Nat} {st : List Int} {m : List (Int × Int)} (h : Inv s i st m) (h0 : 0 ≤ dp s (i + 1)) (h1 : dp s (i + 1) ≤ 12) : ∀ j, j ≤ i + 1 → 0 ≤ dp s j ∧ dp s j ≤ 12 := by
  intro j hj
  by_cases e : j = i + 1
  · subst e; exact ⟨h0, h1⟩
  · exact h.bd j (by omega)
theorem Inv.lks_next {s : ByteArray} {i : Nat} {st : List Int} {m : List (Int × Int)} (h : Inv s i st m) (hn : bt s (i : Int) ≠ 47) : ∀ a b : Int, lk m a = some b ↔ ∃ p q : Nat, Mate s p q ∧ q < i + 1 ∧ ((a = (p : Int) ∧ b = (q : Int)) ∨ (a = (q : Int) ∧ b = (p : Int))) := by
  intro a b
  rw [h.lks a b]
  constructor
  · rintro ⟨p, q, h1, h2, h3⟩; exact ⟨p, q, h1, by omega, h3⟩
  · rintro ⟨p, q, h1, h2, h3⟩
    refine ⟨p, q, h1, ?_, h3⟩
    have h4 := h1.2.2.2.1
    by_cases e : q = i
    · subst e; exact absurd h4 hn
    · omega
theorem Inv.opens {s : ByteArray} {i : Nat} {st : List Int} {m : List (Int × Int)} (h : Inv s i st m) (ho : nmB (bt s (i : Int)) = true) (hl : st.length + 1 ≤ 12) : Inv s (i + 1) (st ++ [(i : Int)]) m := by
  have e := dp_open ho
  have hlen := h.len
  have h47 : bt s (i : Int) ≠ 47 := fun x => by rw [x, nmB_47] at ho; cases ho
  refine ⟨?_, ?_, h.bd_next (by omega) (by omega), h.lks_next h47⟩
  · rw [List.length_append, List.length_singleton]; omega
  · intro t ht
    rw [List.length_append, List.length_singleton] at ht
    by_cases et : t = st.length
    · subst et
      refine ⟨i, rd_app_one st _, by omega, ho, by omega, fun j h1 h2 => ?_⟩
      obtain rfl : j = i + 1 := by omega
      omega
    · obtain ⟨p, h1, h2, h3, h4, h5⟩ := h.stk t (by omega)
      refine ⟨p, by rw [rd_app_left st _ t (by omega)]; exact h1, by omega, h3, h4, fun j g1 g2 => ?_⟩
      by_cases ej : j = i + 1
      · subst ej; omega
      · exact h5 j g1 (by omega)
theorem Inv.plain {s : ByteArray} {i : Nat} {st : List Int} {m : List (Int × Int)} (h : Inv s i st m) (hn : nmB (bt s (i : Int)) = false) (h47 : bt s (i : Int) ≠ 47) : Inv s (i + 1) st m := by
  have e := dp_else hn h47
  have hlen := h.len
  have hb := h.bd i (Nat.le_refl _)
  refine ⟨by omega, ?_, h.bd_next (by omega) (by omega), h.lks_next h47⟩
  intro t ht
  obtain ⟨p, h1, h2, h3, h4, h5⟩ := h.stk t ht
  refine ⟨p, h1, by omega, h3, h4, fun j g1 g2 => ?_⟩
  by_cases ej : j = i + 1
  · subst ej; omega
  · exact h5 j g1 (by omega)
theorem lk_cons2 (m : List (Int × Int)) (p i a : Int) : lk ((p, i) :: (i, p) :: m) a = if p = a then some i else if i = a then some p else lk m a := rfl
theorem Inv.closes {s : ByteArray} {i : Nat} {st : List Int} {m : List (Int × Int)} (h : Inv s i st m) (hi : i < s.size) (h47 : bt s (i : Int) = 47) (hl : st.length ≠ 0) :
    Inv s (i + 1) (st.take (st.length - 1)) ((rd st ((st.length : Int) - 1), (i : Int)) :: ((i : Int), rd st ((st.length : Int) - 1)) :: m) := by
  have e := dp_close h47
  have hlen := h.len
  obtain ⟨p, h1, h2, h3, h4, h5⟩ := h.stk (st.length - 1) (by omega)
  have hc : (((st.length - 1 : Nat)) : Int) = (st.length : Int) - 1 := by omega
  rw [hc] at h1 h4 h5
  rw [h1]
  have hb := h.bd i (Nat.le_refl _)
  have hM : Mate s p i := ⟨h2, hi, h3, h47, by omega, fun j g1 g2 => by have := h5 j g1 g2; omega⟩
  refine ⟨?_, ?_, h.bd_next (by omega) (by omega), ?_⟩
  · rw [List.length_take]; omega
  · intro t ht
    rw [List.length_take] at ht
    obtain ⟨p', k1, k2, k3, k4, k5⟩ := h.stk t (by omega)
    refine ⟨p', by rw [rd_take st _ t (by omega)]; exact k1, by omega, k3, k4, fun j g1 g2 => ?_⟩
    by_cases ej : j = i + 1
    · subst ej; omega
    · exact k5 j g1 (by omega)
  · intro a b
    rw [lk_cons2]
    constructor
    · intro hh
      by_cases ea : (p : Int) = a
      · rw [if_pos ea] at hh
        obtain rfl := Option.some.inj hh
        exact ⟨p, i, hM, by omega, .inl ⟨ea.symm, rfl⟩⟩
      · rw [if_neg ea] at hh
        by_cases eb : (i : Int) = a
        · rw [if_pos eb] at hh
          obtain rfl := Option.some.inj hh
          exact ⟨p, i, hM, by omega, .inr ⟨eb.symm, rfl⟩⟩
        · rw [if_neg eb] at hh
          obtain ⟨p', q', g1, g2, g3⟩ := (h.lks a b).1 hh
          exact ⟨p', q', g1, by omega, g3⟩
    · rintro ⟨p', q', g1, g2, g3⟩
      by_cases eq : q' = i
      · subst eq
        obtain rfl := g1.left hM
        rcases g3 with ⟨rfl, rfl⟩ | ⟨rfl, rfl⟩
        · rw [if_pos rfl]
        · rw [if_neg (by omega), if_pos rfl]
      · have hold := (h.lks a b).2 ⟨p', q', g1, by omega, g3⟩
        have g4 := g1.1
        have gp : bt s (p' : Int) ≠ 47 := fun x => by have := g1.2.2.1; rw [x, nmB_47] at this; cases this
        have gq := g1.2.2.2.1
        rcases g3 with ⟨rfl, rfl⟩ | ⟨rfl, rfl⟩
        · rw [if_neg (fun x => by
            have : p = p' := by omega
            subst this
            exact eq (g1.right hM)), if_neg (by omega)]
          exact hold
        · rw [if_neg (fun x => by
            have : p = q' := by omega
            subst this
            rw [gq, nmB_47] at h3; cases h3), if_neg (by omega)]
          exact hold
theorem mtc_spec (s : ByteArray) : ∀ (d i : Nat) (st : List Int) (m : List (Int × Int)), i + d = s.size → Inv s i st m →
    ((mtc s d i st m).2 = true ↔ Bal s) ∧ ((mtc s d i st m).2 = true → ∀ a b : Int, lk (mtc s d i st m).1 a = some b ↔ ∃ p q : Nat, Mate s p q ∧ ((a = (p : Int) ∧ b = (q : Int)) ∨ (a = (q : Int) ∧ b = (p : Int)))) := by
  intro d
  induction d with
  | zero =>
    intro i st m hi h
    obtain rfl : i = s.size := by omega
    have hlen := h.len
    refine ⟨?_, fun _ a b => ?_⟩
    · show decide (st.length = 0) = true ↔ _
      rw [decide_eq_true_iff]
      exact ⟨fun e => ⟨h.bd, by omega⟩, fun e => by have := e.2; omega⟩
    · show lk m a = some b ↔ _
      rw [h.lks a b]
      exact ⟨fun ⟨p, q, h1, _, h3⟩ => ⟨p, q, h1, h3⟩, fun ⟨p, q, h1, h3⟩ => ⟨p, q, h1, h1.2.1, h3⟩⟩
  | succ d ih =>
    intro i st m hi h
    have hlen := h.len
    unfold mtc
    rw [nmH_nmB]
    cases ho : nmB (bt s (i : Int)) with
    | true =>
      rw [if_pos rfl]
      have e := dp_open ho
      by_cases hl : 12 < st.length + 1
      · rw [if_pos hl]
        exact ⟨⟨fun x => (by cases x), fun x => (by have := x.1 (i + 1) (by omega); omega)⟩, fun x => (by cases x)⟩
      · rw [if_neg hl]
        exact ih (i + 1) _ _ (by omega) (h.opens ho (by omega))
    | false =>
      rw [if_neg (by simp)]
      by_cases h47 : bt s (i : Int) = 47
      · rw [if_pos h47]
        have e := dp_close h47
        by_cases hl : st.length = 0
        · rw [if_pos hl]
          exact ⟨⟨fun x => (by cases x), fun x => (by have := x.1 (i + 1) (by omega); omega)⟩, fun x => (by cases x)⟩
        · rw [if_neg hl]
          exact ih (i + 1) _ _ (by omega) (h.closes (by omega) h47 hl)
      · rw [if_neg h47]
        exact ih (i + 1) _ _ (by omega) (h.plain ho h47)
def balB (s : ByteArray) : Bool := (mtc s s.size 0 [] []).2
def docB (s : ByteArray) : Bool := textB s && balB s
theorem balB_iff (s : ByteArray) : balB s = true ↔ Bal s := (mtc_spec s s.size 0 [] [] (by omega) (Inv.start s)).1
theorem mtc_lk {s : ByteArray} (h : balB s = true) (a b : Int) : lk (mtc s s.size 0 [] []).1 a = some b ↔ ∃ p q : Nat, Mate s p q ∧ ((a = (p : Int) ∧ b = (q : Int)) ∨ (a = (q : Int) ∧ b = (p : Int))) :=
  (mtc_spec s s.size 0 [] [] (by omega) (Inv.start s)).2 h a b
theorem docB_iff (s : ByteArray) : docB s = true ↔ textB s = true ∧ Bal s := by
  unfold docB; rw [Bool.and_eq_true, balB_iff]
theorem impl_matches_ev (s : ByteArray) (hs : s.size ≤ 140737488351232) : ∃ K, ∀ k, K ≤ k → impl_matches.f k s = some (if textB s = true then mtc s s.size 0 [] [] else ([], false)) := by
  obtain ⟨K, hK⟩ := impl_GoodText_ev s hs
  refine ⟨K, fun k hk => ?_⟩
  unfold impl_matches.f
  rw [hK k hk, Option.bind_some]
  cases ht : textB s with
  | false => simp
  | true => have := textB_size ht; rw [if_pos rfl, if_pos rfl, if_pos this]
theorem impl_GoodDoc_ev (s : ByteArray) (hs : s.size ≤ 140737488351232) : ∃ K, ∀ k, K ≤ k → impl_GoodDoc.f k s = some (docB s) := by
  obtain ⟨K, hK⟩ := impl_matches_ev s hs
  refine ⟨K, fun k hk => ?_⟩
  unfold impl_GoodDoc.f docB
  rw [hK k hk, Option.bind_some]
  cases textB s <;> rfl
theorem impl_MatchOf_no (s : ByteArray) (hs : s.size ≤ 140737488351232) (a : Int) (hw : (Lit.int .i64 a).wf = true) (h : docB s = false) : ∃ K, ∀ k, K ≤ k → impl_MatchOf.f k s a = some (0, false) := by
  obtain ⟨K, hK⟩ := impl_matches_ev s hs
  refine ⟨K, fun k hk => ?_⟩
  unfold impl_MatchOf.f
  rw [hK k hk, if_pos hw, Option.bind_some]
  unfold docB at h
  cases ht : textB s with
  | false => simp
  | true =>
    rw [ht, Bool.true_and] at h
    unfold balB at h
    rw [if_pos rfl, h]
    simp
theorem impl_MatchOf_yes (s : ByteArray) (hs : s.size ≤ 140737488351232) (a : Int) (hw : (Lit.int .i64 a).wf = true) (h : docB s = true) : ∃ o : Option Int, (∀ b, o = some b ↔ ∃ p q : Nat, Mate s p q ∧ ((a = (p : Int) ∧ b = (q : Int)) ∨ (a = (q : Int) ∧ b = (p : Int)))) ∧ ∃ K, ∀ k, K ≤ k → impl_MatchOf.f k s a = some (o.getD 0, o.isSome) := by
  obtain ⟨K, hK⟩ := impl_matches_ev s hs
  unfold docB at h
  rw [Bool.and_eq_true] at h
  refine ⟨lk (mtc s s.size 0 [] []).1 a, fun b => mtc_lk h.2 a b, K, fun k hk => ?_⟩
  have h2 := h.2
  unfold balB at h2
  unfold impl_MatchOf.f
  rw [hK k hk, if_pos hw, Option.bind_some, h.1, if_pos rfl, h2, if_pos rfl]

/-! the reference's documents -/
theorem natS (i : Nat) : ((i : Int) + 1) = ((i + 1 : Nat) : Int) := by omega
theorem balanced_l (s : ByteArray) (hs : s.size ≤ 140737488351232) : ∀ (d i : Nat), i + d = s.size → (∀ j, j ≤ i → 0 ≤ dp s j ∧ dp s j ≤ 12) →
    ∃ B : Bool, (B = true ↔ Bal s) ∧ ∃ K, ∀ k, K ≤ k → spec_l1Balanced.l0 k s (dp s i) (i : Int) = some B := by
  intro d
  induction d with
  | zero =>
    intro i hi hb
    obtain rfl : i = s.size := by omega
    refine ⟨(dp s s.size == 0), ?_, 1, fun k hk => ?_⟩
    · rw [beq_iff_eq]; exact ⟨fun e => ⟨hb, e⟩, fun e => e.2⟩
    · obtain ⟨k, rfl⟩ : ∃ m, k = m + 1 := ⟨k - 1, by omega⟩
      simp only [spec_l1Balanced.l0]
      rw [if_neg (by omega)]
  | succ d ih =>
    intro i hi hb
    have hbi := hb i (Nat.le_refl _)
    have hst := dp_step s i
    by_cases hin : 0 ≤ dp s (i + 1) ∧ dp s (i + 1) ≤ 12
    · obtain ⟨B, hB, K, hK⟩ := ih (i + 1) (by omega) (fun j hj => by
        by_cases e : j = i + 1
        · subst e; exact hin
        · exact hb j (by omega))
      refine ⟨B, hB, K + 2, fun k hk => ?_⟩
      obtain ⟨k, rfl⟩ : ∃ m, k = m + 2 := ⟨k - 2, by omega⟩
      have hr := hK k (by omega)
      simp only [spec_l1Balanced.l0]
      rw [if_pos (by omega), if_pos (by omega), spec_l1Open_eq, Option.bind_some]
      cases ho : nmB (bt s (i : Int)) with
      | true =>
        have e := dp_open ho
        have h47 : bt s (i : Int) ≠ 47 := fun x => by rw [x, nmB_47] at ho; cases ho
        rw [if_pos rfl]
        simp only [spec_l1Balanced.j1]
        rw [if_pos (by omega), if_pos (by omega), if_neg h47, w64 (by omega) (by omega), if_neg (by omega), if_neg (by omega), w64 (by omega) (by omega), ← e, natS]
        exact hr
      | false =>
        rw [if_neg (by simp)]
        simp only [spec_l1Balanced.j1]
        by_cases h47 : bt s (i : Int) = 47
        · have e := dp_close h47
          rw [if_pos (by omega), if_pos (by omega), if_pos h47, w64 (by omega) (by omega), if_neg (by omega), if_neg (by omega), w64 (by omega) (by omega), ← e, natS]
          exact hr
        · have e := dp_else ho h47
          rw [if_pos (by omega), if_pos (by omega), if_neg h47, if_neg (by omega), if_neg (by omega), w64 (by omega) (by omega), ← e, natS]
          exact hr
    · refine ⟨false, ⟨fun x => (by cases x), fun x => absurd (x.1 (i + 1) (by omega)) hin⟩, 2, fun k hk => ?_⟩
      obtain ⟨k, rfl⟩ : ∃ m, k = m + 2 := ⟨k - 2, by omega⟩
      simp only [spec_l1Balanced.l0]
      rw [if_pos (by omega), if_pos (by omega), spec_l1Open_eq, Option.bind_some]
      cases ho : nmB (bt s (i : Int)) with
      | true =>
        have e := dp_open ho
        have h47 : bt s (i : Int) ≠ 47 := fun x => by rw [x, nmB_47] at ho; cases ho
        rw [if_pos rfl]
        simp only [spec_l1Balanced.j1]
        rw [if_pos (by omega), if_pos (by omega), if_neg h47, w64 (by omega) (by omega), if_neg (by omega), if_pos (by omega)]
      | false =>
        rw [if_neg (by simp)]
        simp only [spec_l1Balanced.j1]
        by_cases h47 : bt s (i : Int) = 47
        · have e := dp_close h47
          rw [if_pos (by omega), if_pos (by omega), if_pos h47, w64 (by omega) (by omega), if_pos (by omega)]
        · have e := dp_else ho h47
          omega
theorem spec_l1Balanced_ev (s : ByteArray) (hs : s.size ≤ 140737488351232) : ∃ K, ∀ k, K ≤ k → spec_l1Balanced.f k s = some (balB s) := by
  obtain ⟨B, hB, K, hK⟩ := balanced_l s hs s.size 0 (by omega) (fun j hj => by
    obtain rfl : j = 0 := by omega
    show 0 ≤ (0 : Int) ∧ (0 : Int) ≤ 12
    omega)
  have e : B = balB s := by rw [Bool.eq_iff_iff, hB, balB_iff]
  subst e
  exact ⟨K, fun k hk => by unfold spec_l1Balanced.f; exact hK k hk⟩
theorem spec_GoodDoc_ev (s : ByteArray) (hs : s.size ≤ 140737488351232) : ∃ K, ∀ k, K ≤ k → spec_GoodDoc.f k s = some (docB s) := by
  obtain ⟨K, hK⟩ := spec_GoodText_ev s hs
  obtain ⟨K', hK'⟩ := spec_l1Balanced_ev s hs
  refine ⟨max K K', fun k hk => ?_⟩
  unfold spec_GoodDoc.f docB
  rw [hK k (by omega), hK' k (by omega), Option.bind_some]
  cases textB s <;> simp
theorem spec_match_fwd {s : ByteArray} (hs : s.size ≤ 140737488351232) {a b : Nat} (hm : Mate s a b) (hbal : Bal s) : ∀ (d i : Nat), i + d = b → a < i →
    ∃ K, ∀ k, K ≤ k → spec_l1Match.l0 k s 1 (dp s i - dp s a) (i : Int) = some (b : Int) := by
  obtain ⟨hab, hbs, ho, hc, he, hin⟩ := hm
  have hA := hbal.1 a (by omega)
  intro d
  induction d with
  | zero =>
    intro i hi hai
    obtain rfl : i = b := by omega
    refine ⟨3, fun k hk => ?_⟩
    obtain ⟨k, rfl⟩ : ∃ m, k = m + 3 := ⟨k - 3, by omega⟩
    have e := dp_close hc
    have hI := hbal.1 i (by omega)
    simp only [spec_l1Match.l0]
    rw [if_pos (by omega)]
    simp only [spec_l1Match.j2]
    rw [if_pos (by simp; omega), if_pos (by omega), if_pos (by omega), spec_l1Open_eq, Option.bind_some, hc, nmB_47, if_neg (by simp)]
    simp only [spec_l1Match.j3]
    rw [if_pos (by omega), if_pos (by omega), if_pos hc, w64 (by omega) (by omega), if_pos (by omega)]
  | succ d ih =>
    intro i hi hai
    obtain ⟨K, hK⟩ := ih (i + 1) (by omega) (by omega)
    refine ⟨K + 3, fun k hk => ?_⟩
    obtain ⟨k, rfl⟩ : ∃ m, k = m + 3 := ⟨k - 3, by omega⟩
    have hr := hK k (by omega)
    have hI := hbal.1 i (by omega)
    have hI1 := hbal.1 (i + 1) (by omega)
    have hJ := hin (i + 1) (by omega) (by omega)
    simp only [spec_l1Match.l0]
    rw [if_pos (by omega)]
    simp only [spec_l1Match.j2]
    rw [if_pos (by simp; omega), if_pos (by omega), if_pos (by omega), spec_l1Open_eq, Option.bind_some]
    cases hn : nmB (bt s (i : Int)) with
    | true =>
      have e := dp_open hn
      have h47 : bt s (i : Int) ≠ 47 := fun x => by rw [x, nmB_47] at hn; cases hn
      rw [if_pos rfl]
      simp only [spec_l1Match.j3]
      rw [if_pos (by omega), if_pos (by omega), if_neg h47, w64 (by omega) (by omega), if_neg (by omega), w64 (by omega) (by omega), natS, show dp s i - dp s a + 1 = dp s (i + 1) - dp s a by omega]
      exact hr
    | false =>
      rw [if_neg (by simp)]
      simp only [spec_l1Match.j3]
      by_cases h47 : bt s (i : Int) = 47
      · have e := dp_close h47
        rw [if_pos (by omega), if_pos (by omega), if_pos h47, w64 (by omega) (by omega), if_neg (by omega), w64 (by omega) (by omega), natS, show dp s i - dp s a - 1 = dp s (i + 1) - dp s a by omega]
        exact hr
      · have e := dp_else hn h47
        rw [if_pos (by omega), if_pos (by omega), if_neg h47, if_neg (by omega), w64 (by omega) (by omega), natS, ← e]
        exact hr
theorem spec_l1Match_open {s : ByteArray} (hs : s.size ≤ 140737488351232) {a b : Nat} (hm : Mate s a b) (hbal : Bal s) : ∃ K, ∀ k, K ≤ k → spec_l1Match.f k s (a : Int) = some (b : Int) := by
  obtain ⟨K, hK⟩ := spec_match_fwd hs hm hbal (b - (a + 1)) (a + 1) (by have := hm.1; omega) (by omega)
  obtain ⟨hab, hbs, ho, hc, he, hin⟩ := hm
  have e := dp_open ho
  have h47 : bt s (a : Int) ≠ 47 := fun x => by rw [x, nmB_47] at ho; cases ho
  refine ⟨K + 4, fun k hk => ?_⟩
  obtain ⟨k, rfl⟩ : ∃ m, k = m + 4 := ⟨k - 4, by omega⟩
  have hr := hK k (by omega)
  unfold spec_l1Match.f
  rw [if_pos (by omega), if_pos (by omega), if_neg h47]
  simp only [spec_l1Match.j0, spec_l1Match.l0]
  rw [if_pos (by omega)]
  simp only [spec_l1Match.j2]
  rw [if_pos (by simp; omega), if_pos (by omega), if_pos (by omega), spec_l1Open_eq, Option.bind_some, ho, if_pos rfl]
  simp only [spec_l1Match.j3]
  rw [if_pos (by omega), if_pos (by omega), if_neg h47, w64 (by omega) (by omega), if_neg (by omega), w64 (by omega) (by omega), natS, show (0 : Int) + 1 = dp s (a + 1) - dp s a by omega]
  exact hr

/-! the row of a text that is balanced: both programs tell the same -/
theorem impl_beginsAt_no (s : ByteArray) (hs : s.size ≤ 140737488351232) (a : Int) (hw : (Lit.int .i64 a).wf = true) (h : ¬ (docB s = true ∧ ∃ i : Nat, a = (i : Int) ∧ i < s.size ∧ nmB (bt s (i : Int)) = true)) : ∃ K, ∀ k, K ≤ k → impl_beginsAt.f k s a = some (0, false) := by
  cases hd : docB s with
  | false =>
    obtain ⟨K, hK⟩ := impl_MatchOf_no s hs a hw hd
    refine ⟨K, fun k hk => ?_⟩
    unfold impl_beginsAt.f
    rw [hK k hk]; simp
  | true =>
    obtain ⟨o, ho, K, hK⟩ := impl_MatchOf_yes s hs a hw hd
    refine ⟨K, fun k hk => ?_⟩
    unfold impl_beginsAt.f
    rw [hK k hk]
    cases o with
    | none => simp
    | some b =>
      obtain ⟨p, q, h1, h2⟩ := (ho b).1 rfl
      have := h1.1
      rcases h2 with ⟨rfl, rfl⟩ | ⟨rfl, rfl⟩
      · exact absurd ⟨hd, p, rfl, by have := h1.2.1; omega, h1.2.2.1⟩ h
      · simp; omega
theorem impl_beginsAt_yes (s : ByteArray) (hs : s.size ≤ 140737488351232) (hd : docB s = true) {a b : Nat} (hm : Mate s a b) : ∃ K, ∀ k, K ≤ k → impl_beginsAt.f k s (a : Int) = some ((b : Int), true) := by
  have hw : (Lit.int .i64 (a : Int)).wf = true := WalkArith.wf_i64 (by have := hm.1; have := hm.2.1; omega)
  obtain ⟨o, ho, K, hK⟩ := impl_MatchOf_yes s hs (a : Int) hw hd
  obtain rfl : o = some (b : Int) := (ho b).2 ⟨a, b, hm, .inl ⟨rfl, rfl⟩⟩
  refine ⟨K, fun k hk => ?_⟩
  unfold impl_beginsAt.f
  rw [hK k hk]
  have := hm.1
  simp; omega

/-! commands: raw parts, what they make, and what both programs tell -/
theorem stepP_zero {s : ByteArray} {st : ByteArray × Nat} {q : Pt} (h : massP q = 0) (ha : st.2 ≤ s.size) : stepP s st q = some st := by
  cases q with
  | K n =>
    obtain rfl : n = 0 := h
    show (if st.2 + 0 ≤ s.size then some (st.1 ++ s.extract st.2 (st.2 + 0), st.2 + 0) else none) = _
    rw [Nat.add_zero, if_pos ha, ba_extract_same, ba_append_nil]
  | W w =>
    obtain rfl := size0_eq (show w.size = 0 from h)
    show some (st.1 ++ _, st.2) = _
    rw [ba_append_nil]
  | D d =>
    obtain rfl := size0_eq (show d.size = 0 from h)
    show (if st.2 + 0 ≤ s.size ∧ s.extract st.2 (st.2 + 0) = ⟨#[]⟩ then some (st.1, st.2 + 0) else none) = _
    rw [Nat.add_zero, if_pos ⟨ha, ba_extract_same _ _⟩]
theorem runP_addQ {s : ByteArray} {r : List Pt} {q : Pt} {st u v : ByteArray × Nat} (h1 : runP s r.reverse st = some u) (ha : st.2 ≤ s.size) (h2 : stepP s u q = some v) : runP s (addQ r q).reverse st = some v := by
  unfold addQ
  by_cases hq : massP q = 0
  · rw [if_pos hq]
    have := stepP_zero (s := s) (st := u) hq (runP_mono h1 ha).2
    rw [this] at h2
    rw [h1]; exact h2
  · rw [if_neg hq]
    exact runP_add s r q st v (by rw [h1]; exact h2)
theorem runP_fold {s : ByteArray} : ∀ (L r : List Pt) (st u v : ByteArray × Nat), st.2 ≤ s.size → runP s r.reverse st = some u → runP s L u = some v → runP s (L.foldl addQ r).reverse st = some v
  | [], r, st, u, v, ha, h1, h2 => by
    have : u = v := Option.some.inj h2
    subst this; exact h1
  | q :: L, r, st, u, v, ha, h1, h2 => by
    obtain ⟨u2, h3, h4⟩ := Option.bind_eq_some_iff.1 (show (stepP s u q).bind (runP s L) = some v from h2)
    exact runP_fold L (addQ r q) st u2 v ha (runP_addQ h1 ha h3) h4
theorem mass_cons (q : Pt) (L : List Pt) : mass (q :: L) = massP q + mass L := by
  first | rfl | (simp only [mass]; omega)
theorem normalS_l (L : List Pt) : ∀ (d i : Nat) (r : List Pt), i + d = L.length → L.length ≤ 100 → (∀ x ∈ r, 0 < massP x) → mass r + mass (L.drop i) ≤ 4000000 →
    ∃ K, ∀ k, K ≤ k → spec_l3Normal.l0 k (r.reverse.map encP) (L.map encP) ((L.map encP).length : Int) (i : Int) = some (((L.drop i).foldl addQ r).reverse.map encP) := by
  intro d
  induction d with
  | zero =>
    intro i r hi hL hr hm
    refine ⟨1, fun k hk => ?_⟩
    obtain ⟨k, rfl⟩ : ∃ m, k = m + 1 := ⟨k - 1, by omega⟩
    simp only [spec_l3Normal.l0]
    rw [if_neg (by rw [List.length_map]; omega), List.drop_of_length_le (by omega)]
    rfl
  | succ d ih =>
    intro i r hi hL hr hm
    have hdr := List.drop_eq_getElem_cons (show i < L.length by omega)
    rw [hdr, mass_cons] at hm
    obtain ⟨K, hK⟩ := ih (i + 1) (addQ r L[i]) (by omega) hL (pos_addQ r _ hr) (by rw [mass_addQ]; omega)
    refine ⟨K + 6, fun k hk => ?_⟩
    obtain ⟨k, rfl⟩ : ∃ m, k = m + 1 := ⟨k - 1, by omega⟩
    have hr2 := hK k (by omega)
    simp only [spec_l3Normal.l0]
    obtain ⟨j, rfl⟩ : ∃ m, k = m + 5 := ⟨k - 5, by omega⟩
    have ha := l3AddQ j r hr L[i] (by omega)
    rw [if_pos (by rw [List.length_map]; omega), if_pos (by omega), if_pos (by rw [List.length_map]; omega), rd_enc L i (by omega), ha, Option.bind_some, w64 (by omega) (by omega), show ((i : Int) + 1) = ((i + 1 : Nat) : Int) by omega, hr2, hdr, List.foldl_cons]
def encF (L : List Pt) : List S61 := (L.foldl addQ []).reverse.map encP
theorem normalS_ev (L : List Pt) (hL : L.length ≤ 100) (hm : mass L ≤ 4000000) : ∃ K, ∀ k, K ≤ k → spec_l3Normal.f k (L.map encP) = some (encF L) := by
  obtain ⟨K, hK⟩ := normalS_l L L.length 0 [] (by omega) hL (fun x hx => by cases hx) (by rw [List.drop_zero]; show 0 + _ ≤ _; omega)
  exact ⟨K, fun k hk => by unfold spec_l3Normal.f; exact hK k hk⟩
def splL (s : ByteArray) (a b : Nat) (w : ByteArray) : List Pt := if (s.extract a b).toList = w.toList then [.K s.size] else [.K a, .W w, .D (s.extract a b), .K (s.size - b)]
theorem addK (k : Nat) (r : List Pt) (hr : ∀ x ∈ r, 0 < massP x) (n : Nat) (hm : mass r + n ≤ 4000000) : spec_l3Add.f (k + 5) (r.reverse.map encP) (n : Int) ⟨#[]⟩ ⟨#[]⟩ = some ((addQ r (.K n)).reverse.map encP) := l3AddQ k r hr (.K n) hm
theorem addW (k : Nat) (r : List Pt) (hr : ∀ x ∈ r, 0 < massP x) (w : ByteArray) (hm : mass r + w.size ≤ 4000000) : spec_l3Add.f (k + 5) (r.reverse.map encP) 0 w ⟨#[]⟩ = some ((addQ r (.W w)).reverse.map encP) := l3AddQ k r hr (.W w) hm
theorem addD (k : Nat) (r : List Pt) (hr : ∀ x ∈ r, 0 < massP x) (w : ByteArray) (hm : mass r + w.size ≤ 4000000) : spec_l3Add.f (k + 5) (r.reverse.map encP) 0 ⟨#[]⟩ w = some ((addQ r (.D w)).reverse.map encP) := l3AddQ k r hr (.D w) hm
theorem splice_ev (s : ByteArray) (a b : Nat) (w : ByteArray) (hs : s.size ≤ 300) (hab : a ≤ b) (hb : b ≤ s.size) (hw : w.size ≤ 1048576) : ∃ K, ∀ k, K ≤ k → spec_l3Splice.f k s (a : Int) (b : Int) w = some (encF (splL s a b w)) := by
  have hex : (s.extract a b).size ≤ 300 := by rw [ByteArray.size_extract]; omega
  refine ⟨5, fun k hk => ?_⟩
  obtain ⟨k, rfl⟩ : ∃ m, k = m + 5 := ⟨k - 5, by omega⟩
  unfold spec_l3Splice.f splL
  rw [if_pos (by omega), if_pos (by omega), if_pos (by omega)]
  simp only [Int.toNat_natCast]
  have p0 : ∀ x ∈ ([] : List Pt), 0 < massP x := fun x hx => by cases hx
  have m0 : mass [] = 0 := rfl
  by_cases h : (s.extract a b).toList = w.toList
  · rw [if_pos h, if_pos h]
    have e1 := addK k [] p0 s.size (by omega)
    rw [show ([] : List S61) = ([] : List Pt).reverse.map encP from rfl, e1]; rfl
  · rw [if_neg h, if_neg h]
    have p1 := pos_addQ [] (.K a) p0
    have m1 : mass (addQ [] (.K a)) = a := by rw [mass_addQ]; show 0 + a = a; omega
    have p2 := pos_addQ _ (.W w) p1
    have m2 : mass (addQ (addQ [] (.K a)) (.W w)) = a + w.size := by rw [mass_addQ, m1]; rfl
    have p3 := pos_addQ _ (.D (s.extract a b)) p2
    have m3 : mass (addQ (addQ (addQ [] (.K a)) (.W w)) (.D (s.extract a b))) = a + w.size + (s.extract a b).size := by rw [mass_addQ, m2]; rfl
    have e1 := addK k [] p0 a (by omega)
    have e2 := addW k _ p1 w (by omega)
    have e3 := addD k _ p2 (s.extract a b) (by omega)
    have e4 := addK k _ p3 (s.size - b) (by omega)
    rw [show ([] : List S61) = ([] : List Pt).reverse.map encP from rfl, e1, Option.bind_some, e2, Option.bind_some, e3, Option.bind_some, w64 (by omega) (by omega), show ((s.size : Int) - (b : Int)) = ((s.size - b : Nat) : Int) by omega, e4]; rfl
theorem apply_ev (s : ByteArray) (hs : s.size ≤ 300) (L : List Pt) (t : ByteArray) (hm : mass L ≤ 4000000) (hr : runP s L (⟨#[]⟩, 0) = some (t, s.size)) (ht : t.size ≤ 1000000000) : ∃ K, ∀ k, K ≤ k → spec_l3Apply.f k (encF L) s = some (t, true) := by
  obtain ⟨f1, f2⟩ := fold_inv L [] (fun x hx => by cases hx)
  have f3 : mass (L.foldl addQ []) = mass L := by rw [f2]; show 0 + _ = _; omega
  have hl := mass_len f1
  have hrun := runP_fold L [] (⟨#[]⟩, 0) (⟨#[]⟩, 0) (t, s.size) (Nat.zero_le _) rfl hr
  obtain ⟨K, hK⟩ := l3Apply_l s hs (L.foldl addQ []).reverse (by rw [List.length_reverse]; omega) (fun x hx => f1 x (List.mem_reverse.1 hx)) (fun x hx => by
    have := mass_mem (List.mem_reverse.1 hx); omega) (t, s.size) ht (L.foldl addQ []).reverse.length 0 0 ⟨#[]⟩ (by omega) (Nat.zero_le _) hrun
  refine ⟨K, fun k hk => ?_⟩
  have := hK k hk
  rw [ba_extract_all, ba_extract_same] at this
  unfold spec_l3Apply.f encF
  show spec_l3Apply.l0 k s ⟨#[]⟩ _ _ ((0 : Nat) : Int) = _
  rw [this, nil_toList]; rfl

theorem do_l (s : ByteArray) (hs : s.size ≤ 300) (X : List S61) (NX : List S61) (hX : impl_normal.f X = some NX) (L : List Pt) (hL : L.length ≤ 100) (hmx : ∀ x ∈ L, massP x ≤ 4000000) (v : ByteArray × Nat) (hv : v.1.size ≤ 1000000000) :
    ∀ (d i : Nat) (a : Nat) (out : ByteArray), i + d = L.length → a ≤ s.size → runP s (L.drop i) (out, a) = some v →
    ∃ K, ∀ k, K ≤ k → impl_Command_do.l0 k X out (s.extract a s.size) (L.map encP) ((L.map encP).length : Int) (i : Int) = some (if docB v.1 = true then (v.1, NX, true) else (⟨#[]⟩, [], false)) := by
  intro d
  induction d with
  | zero =>
    intro i a out hi ha h
    rw [List.drop_of_length_le (by omega)] at h
    obtain rfl := Option.some.inj h
    obtain ⟨K, hK⟩ := impl_GoodDoc_ev out (by show out.size ≤ _; have : out.size ≤ 1000000000 := hv; omega)
    refine ⟨K + 1, fun k hk => ?_⟩
    obtain ⟨k, rfl⟩ : ∃ m, k = m + 1 := ⟨k - 1, by omega⟩
    simp only [impl_Command_do.l0]
    rw [if_neg (by rw [List.length_map]; omega), hK k (by omega), Option.bind_some]
    cases docB out with
    | true => rw [if_pos rfl, hX]; rfl
    | false => rfl
  | succ d ih =>
    intro i a out hi ha h
    have hdr := List.drop_eq_getElem_cons (show i < L.length by omega)
    rw [hdr] at h
    obtain ⟨u, h1, h2⟩ := Option.bind_eq_some_iff.1 (show (stepP s (out, a) L[i]).bind (runP s (L.drop (i + 1))) = some v from h)
    have hmono := stepP_mono h1 ha
    have hm2 := runP_mono h2 hmono.2
    obtain ⟨K, hK⟩ := ih (i + 1) u.2 u.1 (by omega) hmono.2 h2
    have hre := rd_enc L i (by omega)
    have hsz := rest_size s a
    have hq := hmx L[i] (List.getElem_mem _)
    have z0 : (⟨#[]⟩ : ByteArray).size = 0 := rfl
    refine ⟨K + 1, fun k hk => ?_⟩
    obtain ⟨k, rfl⟩ : ∃ m, k = m + 1 := ⟨k - 1, by omega⟩
    have hr := hK k (by omega)
    have hc : ((i : Int) + 1) = ((i + 1 : Nat) : Int) := by omega
    simp only [impl_Command_do.l0]
    rw [if_pos (by rw [List.length_map]; omega), if_pos (by omega), if_pos (by rw [List.length_map]; omega), hre]
    generalize hg : L[i] = q at h1 hq
    cases q with
    | K n =>
      have h1' : (if a + n ≤ s.size then some (out ++ s.extract a (a + n), a + n) else none) = some u := h1
      by_cases hn : a + n ≤ s.size
      · rw [if_pos hn] at h1'
        obtain rfl := Option.some.inj h1'
        simp only [encP, z0, Int.ofNat_zero, Int.add_zero, Int.toNat_natCast]
        rw [w64 (i := (n : Int)) (by omega) (by omega)]
        simp only [Int.toNat_natCast, ba_append_nil]
        have e1 : ((s.extract a s.size).extract 0 n) = s.extract a (a + n) := by rw [ba_extract_extract s a 0 n hn, Nat.add_zero]
        have e2 : ((s.extract a s.size).extract n (s.extract a s.size).size) = s.extract (a + n) s.size := ba_extract_end s a n hn
        have e3 : (s.extract a (a + n)).size = n := by rw [ByteArray.size_extract]; omega
        have e4 : out.size ≤ 1000000000 := by have : out.size ≤ _ := hmono.1; omega
        rw [e1, e2, e3, if_pos (by omega), if_pos (by omega), if_pos (by omega), if_pos (by omega), if_pos (by omega), if_pos (by omega), w64 (by omega) (by omega), hc]
        exact hr
      · rw [if_neg hn] at h1'; cases h1'
    | W w =>
      obtain rfl := Option.some.inj (show some (out ++ w, a) = some u from h1)
      have hw : w.size ≤ 4000000 := hq
      simp only [encP, z0, Int.ofNat_zero, Int.add_zero, Int.toNat_zero]
      rw [w64 (i := (0 : Int)) (by omega) (by omega)]
      simp only [Int.toNat_zero, ba_extract_same, ba_nil_append, z0]
      have e2 : ((s.extract a s.size).extract 0 (s.extract a s.size).size) = s.extract a s.size := ba_extract_all _
      have e4 : out.size ≤ 1000000000 := by have : out.size ≤ _ := hmono.1; omega
      rw [e2, if_pos (by omega), if_pos (by omega), if_pos (by omega), if_pos (by omega), if_pos (by omega), if_pos (by omega), w64 (by omega) (by omega), hc]
      exact hr
    | D w =>
      have h1' : (if a + w.size ≤ s.size ∧ s.extract a (a + w.size) = w then some (out, a + w.size) else none) = some u := h1
      by_cases hn : a + w.size ≤ s.size ∧ s.extract a (a + w.size) = w
      · rw [if_pos hn] at h1'
        obtain rfl := Option.some.inj h1'
        simp only [encP, z0, Int.zero_add, Int.toNat_zero]
        rw [w64 (i := (w.size : Int)) (by omega) (by omega)]
        simp only [Int.toNat_natCast, ba_extract_same, ba_nil_append, ba_append_nil, z0]
        have e2 : ((s.extract a s.size).extract w.size (s.extract a s.size).size) = s.extract (a + w.size) s.size := ba_extract_end s a w.size hn.1
        have e4 : out.size ≤ 1000000000 := by have : out.size ≤ _ := hmono.1; omega
        rw [e2, if_pos (by omega), if_pos (by omega), if_pos (by omega), if_pos (by omega), if_pos (by omega), if_pos (by omega), w64 (by omega) (by omega), hc]
        exact hr
      · rw [if_neg hn] at h1'; cases h1'
/-- What both programs tell of a command: nothing (none), or raw parts and the text that they make. -/
def CmdIs (s : ByteArray) (kd at_ tz : Int) (w : ByteArray) (o : Option (List Pt × ByteArray)) : Prop :=
  (∃ X : List S61, ∃ K, ∀ k, K ≤ k → impl_Command_parts.f k kd at_ tz w s = some (match o with | none => (X, false) | some p => (p.1.map encP, true))) ∧
  (∃ Y : List S61, ∃ K, ∀ k, K ≤ k → spec_l8Op.f k s kd at_ tz w = some (match o with | none => (Y, false) | some p => (encF p.1, true))) ∧
  (∀ p, o = some p → runP s p.1 (⟨#[]⟩, 0) = some (p.2, s.size) ∧ mass p.1 ≤ 2000 ∧ p.1.length ≤ 10)
theorem massP_mem {L : List Pt} {x : Pt} (h : x ∈ L) : massP x ≤ mass L := mass_mem h
theorem run_size {s : ByteArray} : ∀ {L : List Pt} {st v : ByteArray × Nat}, runP s L st = some v → v.1.size ≤ st.1.size + mass L
  | [], st, v, h => by
    obtain rfl := Option.some.inj h
    show _ ≤ _ + 0; omega
  | q :: L, st, v, h => by
    obtain ⟨u, h1, h2⟩ := Option.bind_eq_some_iff.1 (show (stepP s st q).bind (runP s L) = some v from h)
    have := run_size h2
    have hq : u.1.size ≤ st.1.size + massP q := by
      cases q with
      | K n =>
        have h1' : (if st.2 + n ≤ s.size then some (st.1 ++ s.extract st.2 (st.2 + n), st.2 + n) else none) = some u := h1
        split at h1'
        · obtain rfl := Option.some.inj h1'
          rw [ByteArray.size_append, ByteArray.size_extract]; show _ ≤ _ + n; omega
        · cases h1'
      | W w =>
        obtain rfl := Option.some.inj (show some (st.1 ++ w, st.2) = some u from h1)
        rw [ByteArray.size_append]; exact Nat.le_refl _
      | D d =>
        have h1' : (if st.2 + d.size ≤ s.size ∧ s.extract st.2 (st.2 + d.size) = d then some (st.1, st.2 + d.size) else none) = some u := h1
        split at h1'
        · obtain rfl := Option.some.inj h1'
          show st.1.size ≤ _; omega
        · cases h1'
    rw [mass_cons]; omega
def doI : Option (List Pt × ByteArray) → ByteArray × List S61 × Bool
  | none => (⟨#[]⟩, [], false)
  | some p => if docB p.2 = true then (p.2, encF p.1, true) else (⟨#[]⟩, [], false)
def doS (Y : List S61) (T : ByteArray) : Option (List Pt × ByteArray) → List S61 × ByteArray × Bool
  | none => (Y, T, false)
  | some p => (encF p.1, p.2, docB p.2)
/-- A command on a document that has its places: both programs, all told. -/
theorem do_ev {s : ByteArray} (hd : docB s = true) {kd at_ tz : Int} {w : ByteArray} {o : Option (List Pt × ByteArray)} (h0 : 0 ≤ at_) (h1 : at_ ≤ (s.size : Int)) (hto : kd = 2 ∨ kd = 3 ∨ kd = 7 → 0 ≤ tz ∧ tz ≤ (s.size : Int)) (h : CmdIs s kd at_ tz w o) :
    (∃ K, ∀ k, K ≤ k → impl_Command_do.f k kd at_ tz w s = some (doI o)) ∧
    (∃ Y T, ∃ K, ∀ k, K ≤ k → spec_l8Do.f k s kd at_ tz w = some (doS Y T o)) := by
  have hz := textB_size ((docB_iff s).1 hd).1
  obtain ⟨⟨X, K1, hX⟩, ⟨Y, K2, hY⟩, hr⟩ := h
  obtain ⟨K3, h3⟩ := impl_GoodDoc_ev s (by omega)
  constructor
  · -- the program
    have hpl : ∀ x : Int, 0 ≤ x → x ≤ (s.size : Int) → impl_hasPlace.f s x = some true := fun x hx hx2 => by
      unfold impl_hasPlace.f; rw [if_pos hx, decide_eq_true hx2]
    have hend : ∃ R K, R = doI o ∧ ∀ k, K ≤ k → impl_Command_do.j1 k s false kd at_ tz w = some R := by
      cases o with
      | none =>
        refine ⟨_, K1 + 1, rfl, fun k hk => ?_⟩
        obtain ⟨k, rfl⟩ : ∃ m, k = m + 1 := ⟨k - 1, by omega⟩
        simp only [impl_Command_do.j1]
        rw [if_neg (by simp), hX k (by omega)]
        simp [doI]
      | some p =>
        obtain ⟨r1, r2, r3⟩ := hr p rfl
        have hsz := run_size r1
        have hsz' : p.2.size ≤ 0 + mass p.1 := hsz
        have hN := normal_ev p.1 (by omega)
        obtain ⟨K4, h4⟩ := do_l s hz (p.1.map encP) (encF p.1) hN p.1 (by omega) (fun x hx => by have := massP_mem hx; omega) (p.2, s.size) (by show p.2.size ≤ _; omega) p.1.length 0 0 ⟨#[]⟩ (by omega) (Nat.zero_le _) r1
        refine ⟨_, K1 + K4 + 1, rfl, fun k hk => ?_⟩
        obtain ⟨k, rfl⟩ : ∃ m, k = m + 1 := ⟨k - 1, by omega⟩
        have e4 := h4 k (by omega)
        rw [ba_extract_all] at e4
        simp only [impl_Command_do.j1]
        rw [if_neg (by simp), hX k (by omega)]
        simp only [Option.bind_some, if_true]
        exact e4
    obtain ⟨R, K5, rfl, h5⟩ := hend
    refine ⟨K3 + K5 + 1, fun k hk => ?_⟩
    obtain ⟨k, rfl⟩ : ∃ m, k = m + 1 := ⟨k - 1, by omega⟩
    have hj : ∀ b : Bool, (b = true → kd = 2 ∨ kd = 3 ∨ kd = 7) → impl_Command_do.j0 (k + 1) s b kd at_ tz w = impl_Command_do.j1 k s false kd at_ tz w := fun b hb => by
      simp only [impl_Command_do.j0]
      rw [h3 k (by omega), hd, Option.bind_some, if_pos rfl, hpl at_ h0 h1, Option.bind_some, if_pos rfl]
      cases b with
      | false => rw [if_neg (by simp)]
      | true =>
        obtain ⟨g1, g2⟩ := hto (hb rfl)
        rw [if_pos rfl, hpl tz g1 g2, Option.bind_some]; rfl
    unfold impl_Command_do.f
    by_cases c2 : kd = 2
    · rw [if_pos c2, hj true (fun _ => .inl c2)]; exact h5 k (by omega)
    · rw [if_neg c2]
      by_cases c3 : kd = 3
      · rw [if_pos c3, hj true (fun _ => .inr (.inl c3))]; exact h5 k (by omega)
      · rw [if_neg c3, hj (kd == 7) (fun e => .inr (.inr (beq_iff_eq.1 e)))]; exact h5 k (by omega)
  · cases o with
    | none =>
      refine ⟨[], ⟨#[]⟩, K2, fun k hk => ?_⟩
      unfold spec_l8Do.f
      rw [hY k hk]; simp [doS]
    | some p =>
      obtain ⟨r1, r2, r3⟩ := hr p rfl
      have hsz := run_size r1
      have hsz' : p.2.size ≤ 0 + mass p.1 := hsz
      obtain ⟨K4, h4⟩ := apply_ev s hz p.1 p.2 (by omega) r1 (by omega)
      obtain ⟨K5, h5⟩ := spec_GoodDoc_ev p.2 (by omega)
      refine ⟨[], ⟨#[]⟩, K2 + K4 + K5, fun k hk => ?_⟩
      unfold spec_l8Do.f
      rw [hY k (by omega)]
      simp only [Option.bind_some, if_true]
      rw [h4 k (by omega)]
      simp only [Option.bind_some]
      rw [h5 k (by omega)]; rfl

theorem keepTo_eq (a b : Int) (h0 : -10000 ≤ b - a) (h1 : b - a ≤ 10000) : impl_keepTo.f a b = some (b - a, ⟨#[]⟩, ⟨#[]⟩) := by
  unfold impl_keepTo.f; rw [w64 (by omega) (by omega)]
theorem in_eq (a b c : Int) : spec_l1In.f a b c = some (decide (b ≤ a) && decide (a ≤ c)) := by
  unfold spec_l1In.f
  by_cases h : a ≥ b
  · rw [if_pos h, decide_eq_true (show b ≤ a from h)]; simp
  · rw [if_neg h, decide_eq_false (show ¬ b ≤ a from h)]; simp
def nameT (w : ByteArray) : Bool := decide (w.size = 1) && nmB (bt w 0)
theorem isNameText_eq (w : ByteArray) : impl_isNameText.f w = some (nameT w) := by
  unfold impl_isNameText.f nameT
  by_cases h : w.size = 1
  · rw [if_pos (by omega), if_pos (by omega), impl_isName_eq, decide_eq_true h]; simp
  · rw [if_neg (by omega), decide_eq_false h]; simp
theorem l1Name_eq (w : ByteArray) : spec_l1Name.f w = some (nameT w) := by
  unfold spec_l1Name.f nameT
  by_cases h : w.size = 1
  · rw [if_pos (by omega), if_pos (by omega), spec_l1Open_eq, decide_eq_true h]; simp
  · rw [if_neg (by omega), decide_eq_false h]; simp
theorem fold_zero (q : Pt) (h : massP q = 0) (L r : List Pt) : (q :: L).foldl addQ r = L.foldl addQ r := by
  rw [List.foldl_cons]
  show L.foldl addQ (addQ r q) = _
  unfold addQ
  rw [if_pos h]
theorem encF_D0 (a b : Nat) (w : ByteArray) : encF [.K a, .W w, .D ⟨#[]⟩, .K b] = encF [.K a, .W w, .K b] := by
  unfold encF
  rw [List.foldl_cons, List.foldl_cons, fold_zero (.D ⟨#[]⟩) rfl]; rfl
theorem encF_W0 (a b : Nat) (d : ByteArray) : encF [.K a, .W ⟨#[]⟩, .D d, .K b] = encF [.K a, .D d, .K b] := by
  unfold encF
  rw [List.foldl_cons, fold_zero (.W ⟨#[]⟩) rfl]; rfl
theorem run_K {s : ByteArray} {t : ByteArray} {a n : Nat} (h : a + n ≤ s.size) (L : List Pt) : runP s (.K n :: L) (t, a) = runP s L (t ++ s.extract a (a + n), a + n) := by
  show (if a + n ≤ s.size then some (t ++ s.extract a (a + n), a + n) else none).bind (runP s L) = _
  rw [if_pos h]; rfl
theorem run_W {s : ByteArray} {t : ByteArray} {a : Nat} (w : ByteArray) (L : List Pt) : runP s (.W w :: L) (t, a) = runP s L (t ++ w, a) := rfl
theorem run_D {s : ByteArray} {t : ByteArray} {a b : Nat} (hab : a ≤ b) (hb : b ≤ s.size) (L : List Pt) : runP s (.D (s.extract a b) :: L) (t, a) = runP s L (t, b) := by
  have e : (s.extract a b).size = b - a := by rw [ByteArray.size_extract]; omega
  show (if a + (s.extract a b).size ≤ s.size ∧ s.extract a (a + (s.extract a b).size) = s.extract a b then some (t, a + (s.extract a b).size) else none).bind (runP s L) = _
  rw [e, show a + (b - a) = b by omega, if_pos ⟨hb, rfl⟩]; rfl
theorem run_nil {s : ByteArray} {st : ByteArray × Nat} : runP s [] st = some st := rfl
/-- What a put and a taking make. -/
def putT (s : ByteArray) (a b : Nat) (w : ByteArray) : ByteArray := s.extract 0 a ++ w ++ s.extract b s.size
theorem run_put {s : ByteArray} {a b : Nat} {w : ByteArray} (hab : a ≤ b) (hb : b ≤ s.size) : runP s [.K a, .W w, .D (s.extract a b), .K (s.size - b)] (⟨#[]⟩, 0) = some (putT s a b w, s.size) := by
  rw [run_K (by omega), run_W, Nat.zero_add, run_D hab hb, run_K (by omega), run_nil, show b + (s.size - b) = s.size by omega, ba_nil_append]; rfl
theorem run_ins {s : ByteArray} {a : Nat} {w : ByteArray} (ha : a ≤ s.size) : runP s [.K a, .W w, .K (s.size - a)] (⟨#[]⟩, 0) = some (putT s a a w, s.size) := by
  rw [run_K (by omega), run_W, Nat.zero_add, run_K (by omega), run_nil, show a + (s.size - a) = s.size by omega, ba_nil_append]; rfl
theorem run_del {s : ByteArray} {a b : Nat} (hab : a ≤ b) (hb : b ≤ s.size) : runP s [.K a, .D (s.extract a b), .K (s.size - b)] (⟨#[]⟩, 0) = some (putT s a b ⟨#[]⟩, s.size) := by
  rw [run_K (by omega), Nat.zero_add, run_D hab hb, run_K (by omega), run_nil, show b + (s.size - b) = s.size by omega, ba_nil_append]
  unfold putT; rw [ba_append_nil]
theorem splL_ne {s : ByteArray} {a b : Nat} {w : ByteArray} (h : ¬ (s.extract a b).toList = w.toList) : splL s a b w = [.K a, .W w, .D (s.extract a b), .K (s.size - b)] := if_neg h
theorem ex_nil (s : ByteArray) (a : Nat) : (s.extract a a).toList = ([] : List UInt8) := by rw [ba_extract_same, nil_toList]
theorem ex_ne {s : ByteArray} {a b : Nat} (hab : a < b) (hb : b ≤ s.size) : ¬ (s.extract a b).toList = (⟨#[]⟩ : ByteArray).toList := by
  rw [nil_toList]
  exact pos_toList (by rw [ByteArray.size_extract]; omega)
theorem encF_ins {s : ByteArray} {a : Nat} {w : ByteArray} (hw : ¬ w.toList = ([] : List UInt8)) : encF (splL s a a w) = encF [.K a, .W w, .K (s.size - a)] := by
  rw [splL_ne (by rw [ex_nil]; exact fun e => hw e.symm), ba_extract_same, encF_D0]
theorem encF_del {s : ByteArray} {a b : Nat} (hab : a < b) (hb : b ≤ s.size) : encF (splL s a b ⟨#[]⟩) = encF [.K a, .D (s.extract a b), .K (s.size - b)] := by
  rw [splL_ne (ex_ne hab hb), encF_W0]
theorem mass3 (x y z : Pt) : mass [x, y, z] = massP x + massP y + massP z := by rw [mass_cons, mass_cons, mass_cons]; show _ + (_ + (_ + 0)) = _; omega
theorem mass4 (x y z u : Pt) : mass [x, y, z, u] = massP x + massP y + massP z + massP u := by rw [mass_cons, mass3]; omega
theorem mass5 (x y z u v : Pt) : mass [x, y, z, u, v] = massP x + massP y + massP z + massP u + massP v := by rw [mass_cons, mass4]; omega
theorem ex_size (s : ByteArray) (a b : Nat) (hb : b ≤ s.size) : (s.extract a b).size = b - a := by rw [ByteArray.size_extract]; omega
theorem cmd_ins (s : ByteArray) (hs : s.size ≤ 300) (a : Nat) (ha : a ≤ s.size) (tz : Int) (w : ByteArray) (hw : w.size ≤ 1048576) : ∃ o, CmdIs s 1 (a : Int) tz w o := by
  obtain ⟨K1, h1⟩ := splice_ev s a a w hs (Nat.le_refl _) ha hw
  obtain ⟨K2, h2⟩ := impl_GoodText_ev w (by omega)
  obtain ⟨K3, h3⟩ := spec_GoodText_ev w (by omega)
  have k1 := keepTo_eq 0 (a : Int) (by omega) (by omega)
  have k2 := keepTo_eq (a : Int) (s.size : Int) (by omega) (by omega)
  rw [Int.sub_zero] at k1
  have hI : ∀ k, max K2 0 ≤ k → impl_Command_parts.f k 1 (a : Int) tz w s = some ([⟨(a : Int), ⟨#[]⟩, ⟨#[]⟩⟩, ⟨0, w, ⟨#[]⟩⟩, ⟨(s.size : Int) - (a : Int), ⟨#[]⟩, ⟨#[]⟩⟩], if w.toList = [] then false else textB w) := fun k hk => by
    unfold impl_Command_parts.f
    rw [if_pos rfl, k1, Option.bind_some, k2, Option.bind_some]
    simp only [Option.bind_some]
    by_cases hn : w.toList = []
    · rw [if_pos hn, if_pos hn]
    · rw [if_neg hn, if_neg hn, h2 k (by omega)]; rfl
  have hS : ∀ k, max K1 K3 ≤ k → spec_l8Op.f k s 1 (a : Int) tz w = some (encF (splL s a a w), if w.toList = [] then false else textB w) := fun k hk => by
    unfold spec_l8Op.f
    rw [in_eq, Option.bind_some, decide_eq_true (by omega), decide_eq_true (by omega), Bool.and_self, if_pos rfl, if_pos rfl, h1 k (by omega), Option.bind_some]
    by_cases hn : w.toList = []
    · rw [if_pos hn, if_pos hn]
    · rw [if_neg hn, if_neg hn, h3 k (by omega)]; rfl
  by_cases hgood : (if w.toList = [] then false else textB w) = true
  · rw [hgood] at hI hS
    have hn : ¬ w.toList = [] := fun e => by rw [if_pos e] at hgood; cases hgood
    rw [if_neg hn] at hgood
    have hz := textB_size hgood
    refine ⟨some ([.K a, .W w, .K (s.size - a)], putT s a a w), ⟨[], max K2 0, fun k hk => ?_⟩, ⟨[], max K1 K3, fun k hk => ?_⟩, fun p hp => ?_⟩
    · rw [hI k hk]
      show some ([_, _, _], true) = some ([encP (.K a), encP (.W w), encP (.K (s.size - a))], true)
      simp only [encP]
      rw [show ((s.size : Int) - (a : Int)) = ((s.size - a : Nat) : Int) by omega]
    · rw [hS k hk, encF_ins hn]
    · obtain rfl := Option.some.inj hp
      exact ⟨run_ins ha, by rw [mass3]; show a + w.size + (s.size - a) ≤ _; omega, by simp⟩
  · rw [Bool.eq_false_iff.mpr hgood] at hI hS
    exact ⟨none, ⟨_, _, hI⟩, ⟨_, _, hS⟩, fun p hp => by cases hp⟩
theorem in_true {a b c : Int} (h : b ≤ a) (h2 : a ≤ c) : spec_l1In.f a b c = some true := by rw [in_eq, decide_eq_true h, decide_eq_true h2]; rfl
theorem in_false {a b c : Int} (h : ¬ (b ≤ a ∧ a ≤ c)) : spec_l1In.f a b c = some false := by
  rw [in_eq]
  by_cases h1 : b ≤ a
  · rw [decide_eq_true h1, decide_eq_false (fun h2 => h ⟨h1, h2⟩)]; rfl
  · rw [decide_eq_false h1]; rfl
theorem docB_sub {s : ByteArray} (ht : textB s = true) (a b : Nat) (hb : b ≤ s.size) : docB (s.extract a b) = balB (s.extract a b) := by
  unfold docB; rw [textB_extract ht a b hb]; rfl
theorem cmd_rem (s : ByteArray) (ht : textB s = true) (a b : Nat) (ha : a ≤ s.size) (hb : b ≤ s.size) (w : ByteArray) : ∃ o, CmdIs s 2 (a : Int) (b : Int) w o := by
  have hs := textB_size ht
  by_cases hab : a < b
  · obtain ⟨K1, h1⟩ := splice_ev s a b ⟨#[]⟩ hs (by omega) hb (Nat.zero_le _)
    obtain ⟨K2, h2⟩ := impl_GoodDoc_ev (s.extract a b) (by have := ex_size s a b hb; omega)
    obtain ⟨K3, h3⟩ := spec_l1Balanced_ev (s.extract a b) (by have := ex_size s a b hb; omega)
    rw [docB_sub ht a b hb] at h2
    have k1 := keepTo_eq 0 (a : Int) (by omega) (by omega)
    have k2 := keepTo_eq (b : Int) (s.size : Int) (by omega) (by omega)
    rw [Int.sub_zero] at k1
    have hI : ∀ k, K2 + 1 ≤ k → impl_Command_parts.f k 2 (a : Int) (b : Int) w s = some (if balB (s.extract a b) = true then ([⟨(a : Int), ⟨#[]⟩, ⟨#[]⟩⟩, ⟨0, ⟨#[]⟩, s.extract a b⟩, ⟨(s.size : Int) - (b : Int), ⟨#[]⟩, ⟨#[]⟩⟩], true) else ([], false)) := fun k hk => by
      obtain ⟨k, rfl⟩ : ∃ m, k = m + 1 := ⟨k - 1, by omega⟩
      unfold impl_Command_parts.f
      simp only [Int.toNat_natCast]
      rw [if_neg (by omega), if_pos (by trivial), if_neg (by omega), if_pos (by omega), if_pos (by omega), if_pos (by omega), h2 (k + 1) (by omega), Option.bind_some]
      simp only [impl_Command_parts.j0]
      cases balB (s.extract a b) with
      | true =>
        simp only [Bool.not_true, Bool.false_eq_true, if_false, if_true, k1, k2, Option.bind_some, Int.toNat_natCast]
        rw [if_pos (by omega), if_pos (by omega), if_pos (by omega)]
      | false => simp
    have hS : ∀ k, K1 + K3 + 2 ≤ k → spec_l8Op.f k s 2 (a : Int) (b : Int) w = some (if balB (s.extract a b) = true then (encF (splL s a b ⟨#[]⟩), true) else ([], false)) := fun k hk => by
      obtain ⟨k, rfl⟩ : ∃ m, k = m + 2 := ⟨k - 2, by omega⟩
      unfold spec_l8Op.f
      rw [in_true (by omega) (by omega), Option.bind_some, if_pos rfl, if_neg (by omega), if_pos rfl]
      simp only [spec_l8Op.j0]
      rw [if_pos (by trivial), in_true (by omega) (by omega), Option.bind_some, if_pos rfl, if_pos (by omega), if_pos (by omega), if_pos (by omega)]
      simp only [Int.toNat_natCast]
      rw [h3 (k + 1) (by omega), Option.bind_some]
      simp only [spec_l8Op.j1]
      cases balB (s.extract a b) with
      | true =>
        rw [if_neg (by simp), if_pos (by trivial), h1 k (by omega), Option.bind_some, decide_eq_true (by omega)]; rfl
      | false => simp
    cases hb2 : balB (s.extract a b) with
    | true =>
      rw [hb2] at hI hS
      refine ⟨some ([.K a, .D (s.extract a b), .K (s.size - b)], putT s a b ⟨#[]⟩), ⟨[], K2 + 1, fun k hk => ?_⟩, ⟨[], K1 + K3 + 2, fun k hk => ?_⟩, fun p hp => ?_⟩
      · rw [hI k hk, if_pos rfl]
        show some ([_, _, _], true) = some ([encP (.K a), encP (.D (s.extract a b)), encP (.K (s.size - b))], true)
        simp only [encP]
        rw [show ((s.size : Int) - (b : Int)) = ((s.size - b : Nat) : Int) by omega]
      · rw [hS k hk, if_pos rfl, encF_del hab hb]
      · obtain rfl := Option.some.inj hp
        refine ⟨run_del (by omega) hb, ?_, by simp⟩
        rw [mass3]; have := ex_size s a b hb; show a + (s.extract a b).size + (s.size - b) ≤ _; omega
    | false =>
      rw [hb2] at hI hS
      exact ⟨none, ⟨[], _, hI⟩, ⟨[], _, hS⟩, fun p hp => by cases hp⟩
  · have hI : ∀ k, 1 ≤ k → impl_Command_parts.f k 2 (a : Int) (b : Int) w s = some ([], false) := fun k hk => by
      obtain ⟨k, rfl⟩ : ∃ m, k = m + 1 := ⟨k - 1, by omega⟩
      unfold impl_Command_parts.f
      rw [if_neg (by omega), if_pos rfl, if_pos (by omega)]
      simp only [impl_Command_parts.j0]; simp
    by_cases hle : a = b
    · subst hle
      obtain ⟨K1, h1⟩ := splice_ev s a a ⟨#[]⟩ hs (Nat.le_refl _) hb (Nat.zero_le _)
      obtain ⟨K3, h3⟩ := spec_l1Balanced_ev (s.extract a a) (by have := ex_size s a a hb; omega)
      refine ⟨none, ⟨[], 1, hI⟩, ⟨if balB (s.extract a a) = true then encF (splL s a a ⟨#[]⟩) else [], K1 + K3 + 2, fun k hk => ?_⟩, fun p hp => by cases hp⟩
      obtain ⟨k, rfl⟩ : ∃ m, k = m + 2 := ⟨k - 2, by omega⟩
      unfold spec_l8Op.f
      rw [in_true (by omega) (by omega), Option.bind_some, if_pos rfl, if_neg (by omega), if_pos rfl]
      simp only [spec_l8Op.j0]
      rw [if_pos (by trivial), in_true (by omega) (by omega), Option.bind_some, if_pos rfl, if_pos (by omega), if_pos (by omega), if_pos (by omega)]
      simp only [Int.toNat_natCast]
      rw [h3 (k + 1) (by omega), Option.bind_some]
      simp only [spec_l8Op.j1]
      cases balB (s.extract a a) with
      | true => rw [if_neg (by simp), if_pos (by trivial), h1 k (by omega), Option.bind_some, decide_eq_false (by omega)]; rfl
      | false => simp
    · refine ⟨none, ⟨[], 1, hI⟩, ⟨[], 2, fun k hk => ?_⟩, fun p hp => by cases hp⟩
      obtain ⟨k, rfl⟩ : ∃ m, k = m + 2 := ⟨k - 2, by omega⟩
      unfold spec_l8Op.f
      rw [in_true (by omega) (by omega), Option.bind_some, if_pos rfl, if_neg (by omega), if_pos rfl]
      simp only [spec_l8Op.j0]
      rw [if_pos (by trivial), in_false (by omega), Option.bind_some, if_neg (by simp)]
      simp only [spec_l8Op.j1]; simp

theorem sub_cast {a b : Nat} (h : a ≤ b) : ((b : Int) - (a : Int)) = ((b - a : Nat) : Int) := by omega
def wrapT (s : ByteArray) (a b : Nat) (w : ByteArray) : ByteArray := s.extract 0 a ++ w ++ s.extract a b ++ ⟨#[47]⟩ ++ s.extract b s.size
theorem run_wrap {s : ByteArray} {a b : Nat} {w : ByteArray} (hab : a ≤ b) (hb : b ≤ s.size) : runP s [.K a, .W w, .K (b - a), .W ⟨#[47]⟩, .K (s.size - b)] (⟨#[]⟩, 0) = some (wrapT s a b w, s.size) := by
  rw [run_K (by omega), run_W, Nat.zero_add, run_K (by omega), run_W, run_K (by omega), run_nil, show a + (b - a) = b by omega, show b + (s.size - b) = s.size by omega, ba_nil_append]; rfl
theorem nameT_size {w : ByteArray} (h : nameT w = true) : w.size = 1 := by
  unfold nameT at h; rw [Bool.and_eq_true] at h; exact of_decide_eq_true h.1
theorem cmd_wrap (s : ByteArray) (ht : textB s = true) (a b : Nat) (ha : a ≤ s.size) (hb : b ≤ s.size) (w : ByteArray) : ∃ o, CmdIs s 3 (a : Int) (b : Int) w o := by
  have hs := textB_size ht
  by_cases hab : a ≤ b
  · obtain ⟨K2, h2⟩ := impl_GoodDoc_ev (s.extract a b) (by have := ex_size s a b hb; omega)
    obtain ⟨K3, h3⟩ := spec_l1Balanced_ev (s.extract a b) (by have := ex_size s a b hb; omega)
    rw [docB_sub ht a b hb] at h2
    have k1 := keepTo_eq 0 (a : Int) (by omega) (by omega)
    have k3 := keepTo_eq (a : Int) (b : Int) (by omega) (by omega)
    have k2 := keepTo_eq (b : Int) (s.size : Int) (by omega) (by omega)
    rw [Int.sub_zero] at k1
    have hI : ∀ k, K2 + 1 ≤ k → impl_Command_parts.f k 3 (a : Int) (b : Int) w s = some (if (balB (s.extract a b) && nameT w) = true then ([Pt.K a, .W w, .K (b - a), .W ⟨#[47]⟩, .K (s.size - b)].map encP, true) else ([], false)) := fun k hk => by
      obtain ⟨k, rfl⟩ : ∃ m, k = m + 1 := ⟨k - 1, by omega⟩
      unfold impl_Command_parts.f
      rw [if_neg (by omega), if_neg (by omega), if_pos rfl, if_neg (by omega), if_pos (by omega), if_pos (by omega), if_pos (by omega)]
      simp only [Int.toNat_natCast]
      rw [h2 (k + 1) (by omega), Option.bind_some, isNameText_eq, Option.bind_some]
      simp only [impl_Command_parts.j1]
      cases balB (s.extract a b) with
      | true =>
        cases nameT w with
        | true =>
          simp only [Bool.not_true, Bool.false_eq_true, if_false, if_true, k1, k2, k3, Option.bind_some, Bool.and_self, List.map_cons, List.map_nil, encP]
          rw [sub_cast hab, sub_cast hb]
        | false => simp
      | false => simp
    have hS0 : ∃ K, ∀ k, K ≤ k → spec_l8Op.f k s 3 (a : Int) (b : Int) w = some (if (balB (s.extract a b) && nameT w) = true then (encF [Pt.K a, .W w, .K (b - a), .W ⟨#[47]⟩, .K (s.size - b)], true) else ([], false)) := by
      cases hb2 : balB (s.extract a b) && nameT w with
      | true =>
        rw [Bool.and_eq_true] at hb2
        have hn := nameT_size hb2.2
        obtain ⟨K4, h4⟩ := normalS_ev [Pt.K a, .W w, .K (b - a), .W ⟨#[47]⟩, .K (s.size - b)] (by simp) (by rw [mass5]; show a + w.size + (b - a) + 1 + (s.size - b) ≤ _; omega)
        simp only [List.map_cons, List.map_nil, encP] at h4
        refine ⟨K3 + K4 + 2, fun k hk => ?_⟩
        obtain ⟨k, rfl⟩ : ∃ m, k = m + 2 := ⟨k - 2, by omega⟩
        have e4 := h4 k (by omega)
        unfold spec_l8Op.f
        rw [in_true (by omega) (by omega), Option.bind_some, if_pos rfl, if_neg (by omega), if_neg (by omega)]
        simp only [spec_l8Op.j0]
        rw [if_pos (by trivial), in_true (by omega) (by omega), Option.bind_some, if_pos rfl, if_pos (by omega), if_pos (by omega), if_pos (by omega)]
        simp only [Int.toNat_natCast]
        rw [h3 (k + 1) (by omega), Option.bind_some, hb2.1]
        simp only [spec_l8Op.j1]
        rw [if_neg (by simp), if_neg (by omega), l1Name_eq, Option.bind_some, hb2.2, if_pos rfl, w64 (by omega) (by omega), w64 (by omega) (by omega), sub_cast hab, sub_cast hb, e4]; rfl
      | false =>
        refine ⟨K3 + 2, fun k hk => ?_⟩
        obtain ⟨k, rfl⟩ : ∃ m, k = m + 2 := ⟨k - 2, by omega⟩
        unfold spec_l8Op.f
        rw [in_true (by omega) (by omega), Option.bind_some, if_pos rfl, if_neg (by omega), if_neg (by omega)]
        simp only [spec_l8Op.j0]
        rw [if_pos (by trivial), in_true (by omega) (by omega), Option.bind_some, if_pos rfl, if_pos (by omega), if_pos (by omega), if_pos (by omega)]
        simp only [Int.toNat_natCast]
        rw [h3 (k + 1) (by omega), Option.bind_some]
        simp only [spec_l8Op.j1]
        cases hb3 : balB (s.extract a b) with
        | false => simp
        | true =>
          rw [hb3, Bool.true_and] at hb2
          rw [if_neg (by simp), if_neg (by omega), l1Name_eq, hb2]; simp
    obtain ⟨K5, hS⟩ := hS0
    cases hb2 : balB (s.extract a b) && nameT w with
    | true =>
      rw [hb2] at hI hS
      rw [Bool.and_eq_true] at hb2
      have hn := nameT_size hb2.2
      refine ⟨some ([.K a, .W w, .K (b - a), .W ⟨#[47]⟩, .K (s.size - b)], wrapT s a b w), ⟨[], _, hI⟩, ⟨[], _, hS⟩, fun p hp => ?_⟩
      obtain rfl := Option.some.inj hp
      exact ⟨run_wrap hab hb, by rw [mass5]; show a + w.size + (b - a) + 1 + (s.size - b) ≤ _; omega, by simp⟩
    | false =>
      rw [hb2] at hI hS
      exact ⟨none, ⟨[], _, hI⟩, ⟨[], _, hS⟩, fun p hp => by cases hp⟩
  · refine ⟨none, ⟨[], 1, fun k hk => ?_⟩, ⟨[], 2, fun k hk => ?_⟩, fun p hp => by cases hp⟩
    · obtain ⟨k, rfl⟩ : ∃ m, k = m + 1 := ⟨k - 1, by omega⟩
      unfold impl_Command_parts.f
      rw [if_neg (by omega), if_neg (by omega), if_pos rfl, if_pos (by omega)]
      simp only [impl_Command_parts.j1]; simp
    · obtain ⟨k, rfl⟩ : ∃ m, k = m + 2 := ⟨k - 2, by omega⟩
      unfold spec_l8Op.f
      rw [in_true (by omega) (by omega), Option.bind_some, if_pos rfl, if_neg (by omega), if_neg (by omega)]
      simp only [spec_l8Op.j0]
      rw [if_pos (by trivial), in_false (by omega), Option.bind_some, if_neg (by simp)]
      simp only [spec_l8Op.j1]; simp
/-! the split: what is open at a place -/
structure Stk (s : ByteArray) (i : Nat) (st : List Int) : Prop where
  len : (st.length : Int) = dp s i
  stk : ∀ t, t < st.length → ∃ p : Nat, rd st (t : Int) = (p : Int) ∧ p < i ∧ nmB (bt s (p : Int)) = true ∧ dp s p = (t : Int) ∧ ∀ j, p < j → j ≤ i → (t : Int) < dp s j
theorem around_l (s : ByteArray) (hs : s.size ≤ 300) (hb : Bal s) (n : Nat) (hn : n ≤ s.size) : ∀ (d i : Nat) (st : List Int), i + d = n → Stk s i st →
    ∃ st', Stk s n st' ∧ ∃ K, ∀ k, K ≤ k → impl_around.l0 k s st (n : Int) (i : Int) = some st' := by
  intro d
  induction d with
  | zero =>
    intro i st hi h
    obtain rfl : i = n := by omega
    refine ⟨st, h, 1, fun k hk => ?_⟩
    obtain ⟨k, rfl⟩ : ∃ m, k = m + 1 := ⟨k - 1, by omega⟩
    simp only [impl_around.l0]
    rw [if_neg (by omega)]
  | succ d ih =>
    intro i st hi h
    have hlen := h.len
    have hbi := hb.1 i (by omega)
    have hbi1 := hb.1 (i + 1) (by omega)
    cases ho : nmB (bt s (i : Int)) with
    | true =>
      have e := dp_open ho
      obtain ⟨st', h1, K, hK⟩ := ih (i + 1) (st ++ [(i : Int)]) (by omega) ⟨by rw [List.length_append, List.length_singleton]; omega, fun t ht => by
        rw [List.length_append, List.length_singleton] at ht
        by_cases et : t = st.length
        · subst et
          refine ⟨i, rd_app_one st _, by omega, ho, by omega, fun j h1 h2 => ?_⟩
          obtain rfl : j = i + 1 := by omega
          omega
        · obtain ⟨p, h1, h2, h3, h4, h5⟩ := h.stk t (by omega)
          refine ⟨p, by rw [rd_app_left st _ t (by omega)]; exact h1, by omega, h3, h4, fun j g1 g2 => ?_⟩
          by_cases ej : j = i + 1
          · subst ej; omega
          · exact h5 j g1 (by omega)⟩
      refine ⟨st', h1, K + 1, fun k hk => ?_⟩
      obtain ⟨k, rfl⟩ : ∃ m, k = m + 1 := ⟨k - 1, by omega⟩
      simp only [impl_around.l0]
      rw [if_pos (by omega), if_pos (by omega), if_pos (by omega), impl_isName_eq, Option.bind_some, ho, if_pos rfl, if_pos (by omega), w64 (by omega) (by omega), natS]
      exact hK k (by omega)
    | false =>
      by_cases h47 : bt s (i : Int) = 47
      · have e := dp_close h47
        obtain ⟨st', h1, K, hK⟩ := ih (i + 1) (st.take (st.length - 1)) (by omega) ⟨by rw [List.length_take]; omega, fun t ht => by
          rw [List.length_take] at ht
          obtain ⟨p', k1, k2, k3, k4, k5⟩ := h.stk t (by omega)
          refine ⟨p', by rw [rd_take st _ t (by omega)]; exact k1, by omega, k3, k4, fun j g1 g2 => ?_⟩
          by_cases ej : j = i + 1
          · subst ej; omega
          · exact k5 j g1 (by omega)⟩
        refine ⟨st', h1, K + 1, fun k hk => ?_⟩
        obtain ⟨k, rfl⟩ : ∃ m, k = m + 1 := ⟨k - 1, by omega⟩
        simp only [impl_around.l0]
        rw [if_pos (by omega), if_pos (by omega), if_pos (by omega), impl_isName_eq, Option.bind_some, ho, if_neg (by simp), if_pos h47, w64 (i := (st.length : Int) - 1) (by omega) (by omega), if_pos (by omega), if_pos (by omega), w64 (by omega) (by omega), natS, show ((st.length : Int) - 1).toNat = st.length - 1 by omega]
        exact hK k (by omega)
      · have e := dp_else ho h47
        obtain ⟨st', h1, K, hK⟩ := ih (i + 1) st (by omega) ⟨by omega, fun t ht => by
          obtain ⟨p', k1, k2, k3, k4, k5⟩ := h.stk t ht
          refine ⟨p', k1, by omega, k3, k4, fun j g1 g2 => ?_⟩
          by_cases ej : j = i + 1
          · subst ej; omega
          · exact k5 j g1 (by omega)⟩
        refine ⟨st', h1, K + 1, fun k hk => ?_⟩
        obtain ⟨k, rfl⟩ : ∃ m, k = m + 1 := ⟨k - 1, by omega⟩
        simp only [impl_around.l0]
        rw [if_pos (by omega), if_pos (by omega), if_pos (by omega), impl_isName_eq, Option.bind_some, ho, if_neg (by simp), if_neg h47, w64 (by omega) (by omega), natS]
        exact hK k (by omega)
theorem around_ev (s : ByteArray) (hs : s.size ≤ 300) (hb : Bal s) (n : Nat) (hn : n ≤ s.size) : ∃ st', Stk s n st' ∧ ∃ K, ∀ k, K ≤ k → impl_around.f k s (n : Int) = some st' := by
  obtain ⟨st', h, K, hK⟩ := around_l s hs hb n hn n 0 [] (by omega) ⟨rfl, fun t ht => by simp at ht⟩
  exact ⟨st', h, K, fun k hk => by unfold impl_around.f; exact hK k hk⟩
def slashT (s : ByteArray) (p : Nat) : ByteArray := (⟨#[47]⟩ : ByteArray) ++ s.extract p (p + 1)
theorem slashT_size (s : ByteArray) (p : Nat) (hp : p < s.size) : (slashT s p).size = 2 := by
  unfold slashT
  rw [ByteArray.size_append, ex_size s p (p + 1) (by omega)]
  show 1 + _ = 2; omega
/-- The reference looks back from the place. -/
theorem split_back (s : ByteArray) (hs : s.size ≤ 300) (hb : Bal s) (n : Nat) (hn : n ≤ s.size) : ∀ (d : Nat), d ≤ n → (∀ j, d ≤ j → j ≤ n → dp s n ≤ dp s j) →
    (∃ p : Nat, p < d ∧ nmB (bt s (p : Int)) = true ∧ dp s (p + 1) = dp s n ∧ (∀ j, p < j → j ≤ n → dp s n ≤ dp s j) ∧ ∃ K, ∀ k, K ≤ k → spec_l8Split.l0 k s (n : Int) (dp s d - dp s n) ((d : Int) - 1) = some (encF (splL s n n (slashT s p)), true)) ∨
    ((∀ j, j ≤ n → dp s n ≤ dp s j) ∧ ∃ K, ∀ k, K ≤ k → spec_l8Split.l0 k s (n : Int) (dp s d - dp s n) ((d : Int) - 1) = some ([], false)) := by
  intro d
  induction d with
  | zero =>
    intro hd h
    refine .inr ⟨fun j hj => h j (by omega) hj, 1, fun k hk => ?_⟩
    obtain ⟨k, rfl⟩ : ∃ m, k = m + 1 := ⟨k - 1, by omega⟩
    simp only [spec_l8Split.l0]
    rw [if_neg (by omega)]
  | succ d ih =>
    intro hd h
    have hc : (((d + 1 : Nat) : Int) - 1) = (d : Int) := by omega
    have hd1 := h (d + 1) (Nat.le_refl _) hd
    have hbn := hb.1 n hn
    have hbd := hb.1 d (by omega)
    have hbd1 := hb.1 (d + 1) (by omega)
    rw [hc]
    cases ho : nmB (bt s (d : Int)) with
    | true =>
      have e := dp_open ho
      have h47 : bt s (d : Int) ≠ 47 := fun x => by rw [x, nmB_47] at ho; cases ho
      by_cases hz : dp s (d + 1) = dp s n
      · obtain ⟨K, hK⟩ := splice_ev s n n (slashT s d) hs (Nat.le_refl _) hn (by have := slashT_size s d (by omega); omega)
        refine .inl ⟨d, by omega, ho, hz, fun j h1 h2 => h j (by omega) h2, K + 2, fun k hk => ?_⟩
        obtain ⟨k, rfl⟩ : ∃ m, k = m + 2 := ⟨k - 2, by omega⟩
        simp only [spec_l8Split.l0]
        rw [if_pos (by omega), if_pos (by omega), if_pos (by omega), if_neg h47]
        simp only [spec_l8Split.j1]
        rw [w64 (i := (d : Int) + 1) (by omega) (by omega), natS]
        simp only [Int.toNat_natCast]
        rw [if_pos (by omega), if_pos (by omega), spec_l1Open_eq, Option.bind_some, ho, if_pos rfl, if_pos (by omega), if_pos (by omega), if_pos (by omega), ex_size s d (d + 1) (by omega), if_pos (by omega)]
        have := hK k (by omega)
        unfold slashT at this
        rw [this]; rfl
      · rcases ih (by omega) (fun j h1 h2 => by
          by_cases ej : j = d
          · subst ej; omega
          · exact h j (by omega) h2) with ⟨p, g1, g2, g3, g4, K, hK⟩ | ⟨g4, K, hK⟩
        · refine .inl ⟨p, by omega, g2, g3, g4, K + 2, fun k hk => ?_⟩
          obtain ⟨k, rfl⟩ : ∃ m, k = m + 2 := ⟨k - 2, by omega⟩
          simp only [spec_l8Split.l0]
          rw [if_pos (by omega), if_pos (by omega), if_pos (by omega), if_neg h47]
          simp only [spec_l8Split.j1]
          rw [if_pos (by omega), if_pos (by omega), spec_l1Open_eq, Option.bind_some, ho, if_pos rfl, if_neg (by omega), w64 (by omega) (by omega), w64 (by omega) (by omega), show dp s (d + 1) - dp s n - 1 = dp s d - dp s n by omega]
          exact hK k (by omega)
        · refine .inr ⟨g4, K + 2, fun k hk => ?_⟩
          obtain ⟨k, rfl⟩ : ∃ m, k = m + 2 := ⟨k - 2, by omega⟩
          simp only [spec_l8Split.l0]
          rw [if_pos (by omega), if_pos (by omega), if_pos (by omega), if_neg h47]
          simp only [spec_l8Split.j1]
          rw [if_pos (by omega), if_pos (by omega), spec_l1Open_eq, Option.bind_some, ho, if_pos rfl, if_neg (by omega), w64 (by omega) (by omega), w64 (by omega) (by omega), show dp s (d + 1) - dp s n - 1 = dp s d - dp s n by omega]
          exact hK k (by omega)
    | false =>
      have hge : dp s (d + 1) ≤ dp s d := by
        by_cases h47 : bt s (d : Int) = 47
        · have := dp_close h47; omega
        · have := dp_else ho h47; omega
      have step : ∀ k, spec_l8Split.l0 (k + 2) s (n : Int) (dp s (d + 1) - dp s n) (d : Int) = spec_l8Split.l0 k s (n : Int) (dp s d - dp s n) ((d : Int) - 1) := fun k => by
        rw [spec_l8Split.l0]
        rw [if_pos (by omega), if_pos (by omega), if_pos (by omega)]
        by_cases h47 : bt s (d : Int) = 47
        · have e := dp_close h47
          rw [if_pos h47, spec_l8Split.j1, if_pos (by omega), if_pos (by omega), spec_l1Open_eq, Option.bind_some, ho, if_neg (by simp), w64 (by omega) (by omega), w64 (by omega) (by omega), show dp s (d + 1) - dp s n + 1 = dp s d - dp s n by omega]
        · have e := dp_else ho h47
          rw [if_neg h47, spec_l8Split.j1, if_pos (by omega), if_pos (by omega), spec_l1Open_eq, Option.bind_some, ho, if_neg (by simp), w64 (by omega) (by omega), e]
      rcases ih (by omega) (fun j h1 h2 => by
          by_cases ej : j = d
          · subst ej; omega
          · exact h j (by omega) h2) with ⟨p, g1, g2, g3, g4, K, hK⟩ | ⟨g4, K, hK⟩
      · refine .inl ⟨p, by omega, g2, g3, g4, K + 2, fun k hk => ?_⟩
        obtain ⟨k, rfl⟩ : ∃ m, k = m + 2 := ⟨k - 2, by omega⟩
        rw [step]; exact hK k (by omega)
      · refine .inr ⟨g4, K + 2, fun k hk => ?_⟩
        obtain ⟨k, rfl⟩ : ∃ m, k = m + 2 := ⟨k - 2, by omega⟩
        rw [step]; exact hK k (by omega)

theorem cmd_split (s : ByteArray) (hd : docB s = true) (a : Nat) (ha : a ≤ s.size) (tz : Int) (w : ByteArray) : ∃ o, CmdIs s 5 (a : Int) tz w o := by
  obtain ⟨ht, hb⟩ := (docB_iff s).1 hd
  have hs := textB_size ht
  obtain ⟨st, hst, K1, h1⟩ := around_ev s hs hb a ha
  have hlen := hst.len
  have hba := hb.1 a ha
  have k1 := keepTo_eq 0 (a : Int) (by omega) (by omega)
  have k2 := keepTo_eq (a : Int) (s.size : Int) (by omega) (by omega)
  rw [Int.sub_zero] at k1
  have hsp := split_back s hs hb a ha a (Nat.le_refl _) (fun j g1 g2 => by
    obtain rfl : j = a := by omega
    exact Int.le_refl _)
  rw [show dp s a - dp s a = 0 by omega] at hsp
  have hop : ∀ k, spec_l8Op.f (k + 1) s 5 (a : Int) tz w = (spec_l8Split.l0 k s (a : Int) 0 ((a : Int) - 1)).bind fun b => some (b.1, b.2) := fun k => by
    unfold spec_l8Op.f
    rw [in_true (by omega) (by omega), Option.bind_some, if_pos rfl, if_neg (by omega), if_neg (by omega)]
    simp only [spec_l8Op.j0]
    rw [if_neg (by simp), if_pos (by trivial)]
    unfold spec_l8Split.f
    rw [w64 (by omega) (by omega)]
  by_cases h0 : st.length = 0
  · have hz : dp s a = 0 := by omega
    refine ⟨none, ⟨[], K1, fun k hk => ?_⟩, ?_, fun p hp => by cases hp⟩
    · unfold impl_Command_parts.f
      rw [if_neg (by omega), if_neg (by omega), if_neg (by omega), if_pos rfl, h1 k hk, Option.bind_some, if_pos (by omega)]
    · rcases hsp with ⟨p, g1, g2, g3, g4, K, hK⟩ | ⟨g4, K, hK⟩
      · exfalso
        have := dp_open g2
        have := (hb.1 p (by omega)).1
        omega
      · refine ⟨[], K + 1, fun k hk => ?_⟩
        obtain ⟨k, rfl⟩ : ∃ m, k = m + 1 := ⟨k - 1, by omega⟩
        rw [hop, hK k (by omega)]; rfl
  · obtain ⟨p, q1, q2, q3, q4, q5⟩ := hst.stk (st.length - 1) (by omega)
    have hc : (((st.length - 1 : Nat)) : Int) = (st.length : Int) - 1 := by omega
    rw [hc] at q1 q4 q5
    have hsl : (slashT s p).size = 2 := slashT_size s p (by omega)
    have hne : ¬ (slashT s p).toList = ([] : List UInt8) := pos_toList (by omega)
    refine ⟨some ([.K a, .W (slashT s p), .K (s.size - a)], putT s a a (slashT s p)), ⟨[], K1, fun k hk => ?_⟩, ?_, fun x hx => ?_⟩
    · unfold impl_Command_parts.f
      rw [if_neg (by omega), if_neg (by omega), if_neg (by omega), if_pos rfl, h1 k hk, Option.bind_some, if_neg (by omega), w64 (i := (st.length : Int) - 1) (by omega) (by omega), if_pos (by omega), if_pos (by omega), k1, Option.bind_some, q1, w64 (i := (p : Int) + 1) (by omega) (by omega), natS]
      simp only [Int.toNat_natCast]
      rw [if_pos (by omega), if_pos (by omega), if_pos (by omega), ex_size s p (p + 1) (by omega), if_pos (by omega), k2, Option.bind_some]
      simp only [List.map_cons, List.map_nil, encP]
      rw [sub_cast ha]; rfl
    · rcases hsp with ⟨p', g1, g2, g3, g4, K, hK⟩ | ⟨g4, K, hK⟩
      · have e' := dp_open g2
        have hpp : p' = p := by
          by_cases e : p' = p
          · exact e
          · exfalso
            by_cases l : p < p'
            · have := q5 p' l (by omega); omega
            · have := g4 p (by omega) (by omega); omega
        subst hpp
        refine ⟨[], K + 1, fun k hk => ?_⟩
        obtain ⟨k, rfl⟩ : ∃ m, k = m + 1 := ⟨k - 1, by omega⟩
        rw [hop, hK k (by omega), encF_ins hne]; rfl
      · exfalso
        have := g4 0 (by omega)
        have h00 : dp s 0 = 0 := rfl
        omega
    · obtain rfl := Option.some.inj hx
      exact ⟨run_ins ha, by rw [mass3]; show a + (slashT s p).size + (s.size - a) ≤ _; omega, by simp⟩
theorem spec_match_bwd {s : ByteArray} (hs : s.size ≤ 140737488351232) {a b : Nat} (hm : Mate s a b) (hbal : Bal s) : ∀ (d i : Nat), i = a + d → i ≤ b →
    ∃ K, ∀ k, K ≤ k → spec_l1Match.l0 k s (-1) (dp s (i + 1) - dp s (b + 1)) (i : Int) = some (a : Int) := by
  obtain ⟨hab, hbs, ho, hc, he, hin⟩ := hm
  have hA := hbal.1 a (by omega)
  intro d
  induction d with
  | zero =>
    intro i hi hib
    obtain rfl : i = a := by omega
    refine ⟨3, fun k hk => ?_⟩
    obtain ⟨k, rfl⟩ : ∃ m, k = m + 3 := ⟨k - 3, by omega⟩
    have e := dp_open ho
    have h47 : bt s (i : Int) ≠ 47 := fun x => by rw [x, nmB_47] at ho; cases ho
    simp only [spec_l1Match.l0]
    rw [if_pos (by omega)]
    simp only [spec_l1Match.j2]
    rw [if_pos (by simp; omega), if_pos (by omega), if_pos (by omega), spec_l1Open_eq, Option.bind_some, ho, if_pos rfl]
    simp only [spec_l1Match.j3]
    rw [if_pos (by omega), if_pos (by omega), if_neg h47, w64 (by omega) (by omega), if_pos (by omega)]
  | succ d ih =>
    intro i hi hib
    obtain ⟨i, rfl⟩ : ∃ m, i = m + 1 := ⟨i - 1, by omega⟩
    obtain ⟨K, hK⟩ := ih i (by omega) (by omega)
    refine ⟨K + 3, fun k hk => ?_⟩
    obtain ⟨k, rfl⟩ : ∃ m, k = m + 3 := ⟨k - 3, by omega⟩
    have hr := hK k (by omega)
    have hI := hbal.1 (i + 1) (by omega)
    have hI1 := hbal.1 (i + 1 + 1) (by omega)
    have hJ := hin (i + 1) (by omega) (by omega)
    have hcast : (((i + 1 : Nat) : Int) + -1) = (i : Int) := by omega
    simp only [spec_l1Match.l0]
    rw [if_pos (by omega)]
    simp only [spec_l1Match.j2]
    rw [if_pos (by simp; omega), if_pos (by omega), if_pos (by omega), spec_l1Open_eq, Option.bind_some]
    cases hn : nmB (bt s ((i + 1 : Nat) : Int)) with
    | true =>
      have e := dp_open hn
      have h47 : bt s ((i + 1 : Nat) : Int) ≠ 47 := fun x => by rw [x, nmB_47] at hn; cases hn
      rw [if_pos rfl]
      simp only [spec_l1Match.j3]
      rw [if_pos (by omega), if_pos (by omega), if_neg h47, w64 (by omega) (by omega), if_neg (by omega), w64 (by omega) (by omega), hcast, show dp s (i + 1 + 1) - dp s (b + 1) + -1 = dp s (i + 1) - dp s (b + 1) by omega]
      exact hr
    | false =>
      rw [if_neg (by simp)]
      simp only [spec_l1Match.j3]
      by_cases h47 : bt s ((i + 1 : Nat) : Int) = 47
      · have e := dp_close h47
        rw [if_pos (by omega), if_pos (by omega), if_pos h47, w64 (by omega) (by omega), if_neg (by omega), w64 (by omega) (by omega), hcast, show dp s (i + 1 + 1) - dp s (b + 1) - -1 = dp s (i + 1) - dp s (b + 1) by omega]
        exact hr
      · have e := dp_else hn h47
        rw [if_pos (by omega), if_pos (by omega), if_neg h47, if_neg (by omega), w64 (by omega) (by omega), hcast, e]
        exact hr
theorem spec_l1Match_close {s : ByteArray} (hs : s.size ≤ 140737488351232) {a b : Nat} (hm : Mate s a b) (hbal : Bal s) : ∃ K, ∀ k, K ≤ k → spec_l1Match.f k s (b : Int) = some (a : Int) := by
  obtain ⟨K, hK⟩ := spec_match_bwd hs hm hbal (b - a) b (by have := hm.1; omega) (Nat.le_refl _)
  have hc := hm.2.2.2.1
  have hbs := hm.2.1
  refine ⟨K + 1, fun k hk => ?_⟩
  obtain ⟨k, rfl⟩ : ∃ m, k = m + 1 := ⟨k - 1, by omega⟩
  have hr := hK k (by omega)
  unfold spec_l1Match.f
  rw [if_pos (by omega), if_pos (by omega), if_pos hc]
  simp only [spec_l1Match.j0]
  rw [show dp s (b + 1) - dp s (b + 1) = 0 by omega] at hr
  exact hr
theorem cmd_join (s : ByteArray) (hd : docB s = true) (a : Nat) (ha : a ≤ s.size) (tz : Int) (w : ByteArray) : ∃ o, CmdIs s 6 (a : Int) tz w o := by
  obtain ⟨ht, hb⟩ := (docB_iff s).1 hd
  have hs := textB_size ht
  have hopS : ∀ k, spec_l8Op.f (k + 1) s 6 (a : Int) tz w = spec_l8Op.j0 (k + 1) s 6 false 6 (a : Int) tz w := fun k => by
    unfold spec_l8Op.f
    rw [in_true (by omega) (by omega), Option.bind_some, if_pos rfl, if_neg (by omega), if_neg (by omega)]; rfl
  by_cases h0 : a = 0
  · subst h0
    refine ⟨none, ⟨[], 1, fun k hk => ?_⟩, ⟨[], 1, fun k hk => ?_⟩, fun p hp => by cases hp⟩
    · obtain ⟨k, rfl⟩ : ∃ m, k = m + 1 := ⟨k - 1, by omega⟩
      unfold impl_Command_parts.f
      rw [if_neg (by omega), if_neg (by omega), if_neg (by omega), if_neg (by omega), if_pos rfl, if_pos (by omega)]
      simp only [impl_Command_parts.j2]; simp
    · obtain ⟨k, rfl⟩ : ∃ m, k = m + 1 := ⟨k - 1, by omega⟩
      rw [hopS]; simp [spec_l8Op.j0]
  · by_cases hn : a = s.size
    · refine ⟨none, ⟨[], 1, fun k hk => ?_⟩, ⟨[], 1, fun k hk => ?_⟩, fun p hp => by cases hp⟩
      · obtain ⟨k, rfl⟩ : ∃ m, k = m + 1 := ⟨k - 1, by omega⟩
        unfold impl_Command_parts.f
        rw [if_neg (by omega), if_neg (by omega), if_neg (by omega), if_neg (by omega), if_pos rfl, if_neg (by omega), if_pos (by omega)]
        simp only [impl_Command_parts.j2]; simp
      · obtain ⟨k, rfl⟩ : ∃ m, k = m + 1 := ⟨k - 1, by omega⟩
        rw [hopS]
        simp only [spec_l8Op.j0]
        rw [if_neg (by simp), if_neg (by omega), if_pos (by trivial), if_neg (by omega), if_pos (by omega)]
    · obtain ⟨c, rfl⟩ : ∃ c, a = c + 1 := ⟨a - 1, by omega⟩
      have hcc : (((c + 1 : Nat) : Int) - 1) = (c : Int) := by omega
      have hw1 : wrap64 (((c + 1 : Nat) : Int) - 1) = (c : Int) := by rw [hcc, w64 (by omega) (by omega)]
      have hw2 : wrap64 (((c + 1 : Nat) : Int) + 1) = ((c + 2 : Nat) : Int) := by rw [w64 (by omega) (by omega)]; omega
      have hI0 : ∀ k, impl_Command_parts.f k 6 ((c + 1 : Nat) : Int) tz w s = (if bt s (c : Int) = 47 then impl_Command_parts.j2 k s (s.size : Int) ((c + 1 : Nat) : Int) (!nmB (bt s ((c + 1 : Nat) : Int))) else impl_Command_parts.j2 k s (s.size : Int) ((c + 1 : Nat) : Int) true) := fun k => by
        unfold impl_Command_parts.f
        rw [if_neg (by omega), if_neg (by omega), if_neg (by omega), if_neg (by omega), if_pos rfl, if_neg (by omega), if_neg (by omega), hw1, if_pos (by omega), if_pos (by omega)]
        by_cases h47 : bt s (c : Int) = 47
        · rw [if_pos h47, if_pos h47, if_pos (by omega), if_pos (by omega), impl_isName_eq, Option.bind_some]
        · rw [if_neg h47, if_neg h47]
      have hS0 : ∀ k, spec_l8Op.f (k + 1) s 6 ((c + 1 : Nat) : Int) tz w = (if bt s (c : Int) = 47 then (if nmB (bt s ((c + 1 : Nat) : Int)) = true then ((spec_l1Match.f k s (c : Int)).bind fun t197 => (if 0 ≤ t197 then (if t197 < (s.size : Int) then (if (bt s t197) = (bt s ((c + 1 : Nat) : Int)) then ((spec_l3Splice.f k s (c : Int) ((c + 2 : Nat) : Int) (⟨#[]⟩ : ByteArray)).bind fun t198 => (some (t198, true))) else (some ([], false))) else (none)) else (none))) else some ([], false)) else some ([], false)) := fun k => by
        rw [hopS]
        simp only [spec_l8Op.j0]
        rw [if_neg (by simp), if_neg (by omega), if_pos (by trivial), if_neg (by omega), if_neg (by omega), hw1, hw2, if_pos (by omega), if_pos (by omega)]
        by_cases h47 : bt s (c : Int) = 47
        · rw [if_pos h47, if_pos h47, if_pos (by omega), if_pos (by omega), spec_l1Open_eq, Option.bind_some]
        · rw [if_neg h47, if_neg h47]
      by_cases h47 : bt s (c : Int) = 47
      · cases hnm : nmB (bt s ((c + 1 : Nat) : Int)) with
        | false =>
          refine ⟨none, ⟨[], 1, fun k hk => ?_⟩, ⟨[], 1, fun k hk => ?_⟩, fun p hp => by cases hp⟩
          · obtain ⟨k, rfl⟩ : ∃ m, k = m + 1 := ⟨k - 1, by omega⟩
            rw [hI0, if_pos h47, hnm]; simp [impl_Command_parts.j2]
          · obtain ⟨k, rfl⟩ : ∃ m, k = m + 1 := ⟨k - 1, by omega⟩
            rw [hS0, if_pos h47, hnm]; simp
        | true =>
          obtain ⟨p, hm⟩ := mate_exl hb h47 (by omega)
          have hp1 := hm.1
          have hwf : (Lit.int .i64 (c : Int)).wf = true := WalkArith.wf_i64 (by omega)
          obtain ⟨o, ho, K1, h1⟩ := impl_MatchOf_yes s (by omega) (c : Int) hwf hd
          obtain rfl : o = some (p : Int) := (ho p).2 ⟨p, c, hm, .inr ⟨rfl, rfl⟩⟩
          obtain ⟨K2, h2⟩ := spec_l1Match_close (by omega) hm hb
          by_cases heq : bt s (p : Int) = bt s ((c + 1 : Nat) : Int)
          · obtain ⟨K3, h3⟩ := splice_ev s c (c + 2) ⟨#[]⟩ hs (by omega) (by omega) (Nat.zero_le _)
            have k1 := keepTo_eq 0 (c : Int) (by omega) (by omega)
            have k2 := keepTo_eq ((c + 2 : Nat) : Int) (s.size : Int) (by omega) (by omega)
            rw [Int.sub_zero] at k1
            refine ⟨some ([.K c, .D (s.extract c (c + 2)), .K (s.size - (c + 2))], putT s c (c + 2) ⟨#[]⟩), ⟨[], K1 + 1, fun k hk => ?_⟩, ⟨[], K2 + K3 + 1, fun k hk => ?_⟩, fun x hx => ?_⟩
            · obtain ⟨k, rfl⟩ : ∃ m, k = m + 1 := ⟨k - 1, by omega⟩
              rw [hI0, if_pos h47, hnm]
              simp only [impl_Command_parts.j2, Bool.not_true, Bool.false_eq_true, if_false]
              rw [hw1, hw2, h1 k (by omega)]
              simp only [Option.bind_some, Option.getD_some, Int.toNat_natCast]
              rw [if_pos (by omega), if_pos (by omega), if_pos (by omega), if_pos (by omega), if_pos heq, k1, Option.bind_some, if_pos (by omega), if_pos (by omega), if_pos (by omega), k2, Option.bind_some]
              simp only [List.map_cons, List.map_nil, encP]
              rw [sub_cast (by omega : c + 2 ≤ s.size)]
            · obtain ⟨k, rfl⟩ : ∃ m, k = m + 1 := ⟨k - 1, by omega⟩
              rw [hS0, if_pos h47, hnm, if_pos rfl, h2 k (by omega), Option.bind_some, if_pos (by omega), if_pos (by omega), if_pos heq, h3 k (by omega), Option.bind_some, encF_del (by omega) (by omega)]
            · obtain rfl := Option.some.inj hx
              refine ⟨run_del (by omega) (by omega), ?_, by simp⟩
              rw [mass3]; have := ex_size s c (c + 2) (by omega); show c + (s.extract c (c + 2)).size + (s.size - (c + 2)) ≤ _; omega
          · refine ⟨none, ⟨[], K1 + 1, fun k hk => ?_⟩, ⟨[], K2 + 1, fun k hk => ?_⟩, fun x hx => by cases hx⟩
            · obtain ⟨k, rfl⟩ : ∃ m, k = m + 1 := ⟨k - 1, by omega⟩
              rw [hI0, if_pos h47, hnm]
              simp only [impl_Command_parts.j2, Bool.not_true, Bool.false_eq_true, if_false]
              rw [hw1, h1 k (by omega)]
              simp only [Option.bind_some, Option.getD_some]
              rw [if_pos (by omega), if_pos (by omega), if_pos (by omega), if_pos (by omega), if_neg heq]
            · obtain ⟨k, rfl⟩ : ∃ m, k = m + 1 := ⟨k - 1, by omega⟩
              rw [hS0, if_pos h47, hnm, if_pos rfl, h2 k (by omega), Option.bind_some, if_pos (by omega), if_pos (by omega), if_neg heq]
      · refine ⟨none, ⟨[], 1, fun k hk => ?_⟩, ⟨[], 1, fun k hk => ?_⟩, fun p hp => by cases hp⟩
        · obtain ⟨k, rfl⟩ : ∃ m, k = m + 1 := ⟨k - 1, by omega⟩
          rw [hI0, if_neg h47]; simp [impl_Command_parts.j2]
        · obtain ⟨k, rfl⟩ : ∃ m, k = m + 1 := ⟨k - 1, by omega⟩
          rw [hS0, if_neg h47]

theorem ext_47 {s : ByteArray} {b : Nat} (hb : b < s.size) (h : bt s (b : Int) = 47) : s.extract b (b + 1) = (⟨#[47]⟩ : ByteArray) := by
  apply ba_of_toList
  rw [toList_eq_iff]
  have e1 : (s.extract b (b + 1)).size = 1 := by rw [ByteArray.size_extract]; omega
  refine ⟨e1, fun j hj => ?_⟩
  obtain rfl : j = 0 := by omega
  rw [bt_extract s b (b + 1) 0 (by omega) (by omega), Nat.add_zero, h]; rfl
def unwT (s : ByteArray) (a b : Nat) : ByteArray := s.extract 0 a ++ s.extract (a + 1) b ++ s.extract (b + 1) s.size
def movT (s : ByteArray) (a e c : Nat) : ByteArray := if c < a then s.extract 0 c ++ s.extract a e ++ s.extract c a ++ s.extract e s.size else s.extract 0 a ++ s.extract e c ++ s.extract a e ++ s.extract c s.size
theorem run_unw {s : ByteArray} {a b : Nat} (hab : a < b) (hb : b < s.size) (h47 : bt s (b : Int) = 47) : runP s [.K a, .D (s.extract a (a + 1)), .K (b - (a + 1)), .D ⟨#[47]⟩, .K (s.size - (b + 1))] (⟨#[]⟩, 0) = some (unwT s a b, s.size) := by
  rw [← ext_47 hb h47, run_K (by omega), Nat.zero_add, run_D (by omega) (by omega), run_K (by omega), show a + 1 + (b - (a + 1)) = b by omega, run_D (by omega) (by omega), run_K (by omega), run_nil, show b + 1 + (s.size - (b + 1)) = s.size by omega, ba_nil_append]; rfl
theorem run_mov1 {s : ByteArray} {a e c : Nat} (h1 : c < a) (h2 : a ≤ e) (h3 : e ≤ s.size) : runP s [.K c, .W (s.extract a e), .K (a - c), .D (s.extract a e), .K (s.size - e)] (⟨#[]⟩, 0) = some (movT s a e c, s.size) := by
  unfold movT
  rw [if_pos h1, run_K (by omega), run_W, Nat.zero_add, run_K (by omega), show c + (a - c) = a by omega, run_D h2 h3, run_K (by omega), run_nil, show e + (s.size - e) = s.size by omega, ba_nil_append]
theorem run_mov2 {s : ByteArray} {a e c : Nat} (h1 : a ≤ e) (h2 : e ≤ c) (h3 : c ≤ s.size) : runP s [.K a, .D (s.extract a e), .K (c - e), .W (s.extract a e), .K (s.size - c)] (⟨#[]⟩, 0) = some (movT s a e c, s.size) := by
  unfold movT
  rw [if_neg (by omega), run_K (by omega), Nat.zero_add, run_D h1 (by omega), run_K (by omega), run_W, show e + (c - e) = c by omega, run_K (by omega), run_nil, show c + (s.size - c) = s.size by omega, ba_nil_append]
theorem elI (s : ByteArray) (a : Nat) (tz : Int) (w : ByteArray) (kd : Int) (n1 : kd ≠ 1) (n2 : kd ≠ 2) (n3 : kd ≠ 3) (n5 : kd ≠ 5) (n6 : kd ≠ 6) : ∀ k, impl_Command_parts.f k kd (a : Int) tz w s = (impl_Command_onElement.f k kd (a : Int) tz w s).bind fun x => some (x.1, x.2) := fun k => by
    unfold impl_Command_parts.f
    rw [if_neg n1, if_neg n2, if_neg n3, if_neg n5, if_neg n6]
theorem elS (s : ByteArray) (hd : docB s = true) (a : Nat) (ha : a ≤ s.size) (tz : Int) (w : ByteArray) (hs : s.size ≤ 300) (kd : Int) (n1 : kd ≠ 1) (n2 : kd ≠ 2) (n3 : kd ≠ 3) (n5 : kd ≠ 5) (n6 : kd ≠ 6) : ∀ k, spec_l8Op.f (k + 1) s kd (a : Int) tz w = spec_l8Op.j2 k s (!(decide (a < s.size) && nmB (bt s (a : Int)))) kd (a : Int) tz w := fun k => by
    unfold spec_l8Op.f
    rw [in_true (by omega) (by omega), Option.bind_some, if_pos rfl, if_neg n1, if_neg n2]
    simp only [spec_l8Op.j0]
    rw [if_neg (by simpa using n3), if_neg n5, if_neg n6]
    by_cases hn : a = s.size
    · rw [if_pos (by omega), decide_eq_false (by omega)]; rfl
    · rw [if_neg (by omega), if_pos (by omega), if_pos (by omega), spec_l1Open_eq, Option.bind_some, decide_eq_true (by omega), Bool.true_and]
theorem cmd_unw (s : ByteArray) (hd : docB s = true) (a : Nat) (ha : a ≤ s.size) (tz : Int) (w : ByteArray) (b : Nat) (hm : Mate s a b) : ∃ o, CmdIs s 4 (a : Int) tz w o := by
  obtain ⟨ht, hb⟩ := (docB_iff s).1 hd
  have hs := textB_size ht
  have hop : a < s.size ∧ nmB (bt s (a : Int)) = true := ⟨by have := hm.1; have := hm.2.1; omega, hm.2.2.1⟩
  have hI0 := elI s a tz w 4 (by decide) (by decide) (by decide) (by decide) (by decide)
  have hS0 := elS s hd a ha tz w hs 4 (by decide) (by decide) (by decide) (by decide) (by decide)
  obtain ⟨K1, h1⟩ := impl_beginsAt_yes s (by omega) hd hm
  obtain ⟨K2, h2⟩ := spec_l1Match_open (by omega) hm hb
  have hab := hm.1
  have hbs := hm.2.1
  have h47 := hm.2.2.2.1
  have hS1 : ∀ k, spec_l8Op.f (k + 1) s 4 (a : Int) tz w = spec_l8Op.j2 k s false 4 (a : Int) tz w := fun k => by
    rw [hS0, decide_eq_true hop.1, hop.2]; rfl
  have WA : Aside0 (wrap64 ((a : Int) + 1) = ((a + 1 : Nat) : Int)) := ⟨by rw [w64 (by omega) (by omega)]; omega⟩
  have WB : Aside0 (wrap64 ((b : Int) + 1) = ((b + 1 : Nat) : Int)) := ⟨by rw [w64 (by omega) (by omega)]; omega⟩
  have k0 := keepTo_eq 0 (a : Int) (by omega) (by omega)
  rw [Int.sub_zero] at k0
  have ex1 := ex_size s a (a + 1) (by omega)
  have hL : ([⟨(a : Int), ⟨#[]⟩, ⟨#[]⟩⟩, ⟨0, ⟨#[]⟩, s.extract a (a + 1)⟩, ⟨(b : Int) - ((a + 1 : Nat) : Int), ⟨#[]⟩, ⟨#[]⟩⟩, ⟨0, ⟨#[]⟩, ⟨#[47]⟩⟩, ⟨(s.size : Int) - ((b + 1 : Nat) : Int), ⟨#[]⟩, ⟨#[]⟩⟩] : List S61) = [Pt.K a, .D (s.extract a (a + 1)), .K (b - (a + 1)), .D ⟨#[47]⟩, .K (s.size - (b + 1))].map encP := by
    simp only [List.map_cons, List.map_nil, encP]
    rw [sub_cast (by omega : a + 1 ≤ b), sub_cast (by omega : b + 1 ≤ s.size)]
  have k2 := keepTo_eq ((a + 1 : Nat) : Int) (b : Int) (by omega) (by omega)
  have k3 := keepTo_eq ((b + 1 : Nat) : Int) (s.size : Int) (by omega) (by omega)
  have hm5 : mass [Pt.K a, .D (s.extract a (a + 1)), .K (b - (a + 1)), .D ⟨#[47]⟩, .K (s.size - (b + 1))] ≤ 2000 := by
    rw [mass5]; show a + (s.extract a (a + 1)).size + (b - (a + 1)) + 1 + (s.size - (b + 1)) ≤ _; omega
  obtain ⟨K4, h4⟩ := normalS_ev [Pt.K a, .D (s.extract a (a + 1)), .K (b - (a + 1)), .D ⟨#[47]⟩, .K (s.size - (b + 1))] (by simp) (by omega)
  refine ⟨some ([Pt.K a, .D (s.extract a (a + 1)), .K (b - (a + 1)), .D ⟨#[47]⟩, .K (s.size - (b + 1))], unwT s a b), ⟨[], K1, fun k hk => ?_⟩, ⟨[], K2 + K4 + 2, fun k hk => ?_⟩, fun p hp => ?_⟩
  rotate_left 2
  · obtain rfl := Option.some.inj hp
    exact ⟨run_unw hab hbs h47, hm5, by simp⟩
  · rw [hI0]
    unfold impl_Command_onElement.f
    rw [h1 k hk, Option.bind_some, if_pos rfl]
    dsimp only
    rw [if_pos rfl]
    rw [WA.out, WB.out, k0, k2, k3]
    simp only [Option.bind_some, Int.toNat_natCast]
    rw [if_pos (by omega), if_pos (by omega), if_pos (by omega), hL] <;> rfl
  · obtain ⟨k, rfl⟩ : ∃ m, k = m + 2 := ⟨k - 2, by omega⟩
    rw [hS1]
    simp only [spec_l8Op.j2]
    rw [if_neg (by simp), h2 k (by omega), Option.bind_some, if_pos (by trivial), WA.out]
    simp only [Int.toNat_natCast]
    have e1 : Aside0 (wrap64 (wrap64 ((b : Int) - (a : Int)) - 1) = (b : Int) - ((a + 1 : Nat) : Int)) := ⟨by rw [w64 (i := (b : Int) - (a : Int)) (by omega) (by omega), w64 (by omega) (by omega)]; omega⟩
    have e2 : Aside0 (wrap64 (wrap64 ((s.size : Int) - (b : Int)) - 1) = (s.size : Int) - ((b + 1 : Nat) : Int)) := ⟨by rw [w64 (i := (s.size : Int) - (b : Int)) (by omega) (by omega), w64 (by omega) (by omega)]; omega⟩
    rw [e1.out, e2.out]
    clear e1 e2
    rw [if_pos (by omega), if_pos (by omega), if_pos (by omega), hL, h4 k (by omega)]; rfl
theorem cmd_nam (s : ByteArray) (hd : docB s = true) (a : Nat) (ha : a ≤ s.size) (tz : Int) (w : ByteArray) (b : Nat) (hm : Mate s a b) (hw : w.size ≤ 1048576) : ∃ o, CmdIs s 8 (a : Int) tz w o := by
  obtain ⟨ht, hb⟩ := (docB_iff s).1 hd
  have hs := textB_size ht
  have hop : a < s.size ∧ nmB (bt s (a : Int)) = true := ⟨by have := hm.1; have := hm.2.1; omega, hm.2.2.1⟩
  have hI0 := elI s a tz w 8 (by decide) (by decide) (by decide) (by decide) (by decide)
  have hS0 := elS s hd a ha tz w hs 8 (by decide) (by decide) (by decide) (by decide) (by decide)
  obtain ⟨K1, h1⟩ := impl_beginsAt_yes s (by omega) hd hm
  obtain ⟨K2, h2⟩ := spec_l1Match_open (by omega) hm hb
  have hab := hm.1
  have hbs := hm.2.1
  have h47 := hm.2.2.2.1
  have hS1 : ∀ k, spec_l8Op.f (k + 1) s 8 (a : Int) tz w = spec_l8Op.j2 k s false 8 (a : Int) tz w := fun k => by
    rw [hS0, decide_eq_true hop.1, hop.2]; rfl
  have WA : Aside0 (wrap64 ((a : Int) + 1) = ((a + 1 : Nat) : Int)) := ⟨by rw [w64 (by omega) (by omega)]; omega⟩
  have WB : Aside0 (wrap64 ((b : Int) + 1) = ((b + 1 : Nat) : Int)) := ⟨by rw [w64 (by omega) (by omega)]; omega⟩
  have k0 := keepTo_eq 0 (a : Int) (by omega) (by omega)
  rw [Int.sub_zero] at k0
  have ex1 := ex_size s a (a + 1) (by omega)
  have hL : ([⟨(a : Int), ⟨#[]⟩, ⟨#[]⟩⟩, ⟨0, w, ⟨#[]⟩⟩, ⟨0, ⟨#[]⟩, s.extract a (a + 1)⟩, ⟨(s.size : Int) - ((a + 1 : Nat) : Int), ⟨#[]⟩, ⟨#[]⟩⟩] : List S61) = [Pt.K a, .W w, .D (s.extract a (a + 1)), .K (s.size - (a + 1))].map encP := by
    simp only [List.map_cons, List.map_nil, encP]
    rw [sub_cast (by omega : a + 1 ≤ s.size)]
  have k2 := keepTo_eq ((a + 1 : Nat) : Int) (s.size : Int) (by omega) (by omega)
  have hI : ∀ k, K1 ≤ k → impl_Command_parts.f k 8 (a : Int) tz w s = some ([Pt.K a, .W w, .D (s.extract a (a + 1)), .K (s.size - (a + 1))].map encP, nameT w && (w.toList != (s.extract a (a + 1)).toList)) := fun k hk => by
    rw [hI0]
    unfold impl_Command_onElement.f
    rw [h1 k hk, Option.bind_some, if_pos rfl]
    dsimp only
    rw [if_neg (by decide), if_pos rfl, WA.out, k0, k2, isNameText_eq]
    simp only [Option.bind_some, Int.toNat_natCast]
    rw [if_pos (by omega), if_pos (by omega), if_pos (by omega), hL]
    cases nameT w <;> simp
  obtain ⟨K4, h4⟩ := splice_ev s a (a + 1) w hs (by omega) (by omega) hw
  have hS : ∀ k, K2 + K4 + 2 ≤ k → spec_l8Op.f k s 8 (a : Int) tz w = some (if nameT w = true then (encF (splL s a (a + 1) w), (w.toList != (s.extract a (a + 1)).toList)) else ([], false)) := fun k hk => by
    obtain ⟨k, rfl⟩ : ∃ m, k = m + 2 := ⟨k - 2, by omega⟩
    rw [hS1]
    simp only [spec_l8Op.j2]
    rw [if_neg (by simp), h2 k (by omega), Option.bind_some, if_neg (by omega), if_pos (by trivial), l1Name_eq, Option.bind_some, WA.out]
    cases hn : nameT w with
    | false => simp
    | true =>
      rw [if_pos rfl, if_pos rfl, h4 k (by omega)]
      simp only [Option.bind_some, Int.toNat_natCast]
      rw [if_pos (by omega), if_pos (by omega), if_pos (by omega)]
  cases hn : nameT w with
  | false =>
    rw [hn] at hI hS
    exact ⟨none, ⟨_, _, hI⟩, ⟨[], _, hS⟩, fun p hp => by cases hp⟩
  | true =>
    rw [hn] at hI hS
    by_cases hne : w.toList = (s.extract a (a + 1)).toList
    · have e : (w.toList != (s.extract a (a + 1)).toList) = false := bne_eq_false_iff_eq.mpr hne
      rw [e] at hI hS
      exact ⟨none, ⟨_, _, hI⟩, ⟨_, _, hS⟩, fun p hp => by cases hp⟩
    · have e : (w.toList != (s.extract a (a + 1)).toList) = true := bne_iff_ne.mpr hne
      rw [e] at hI hS
      have hws := nameT_size hn
      refine ⟨some ([.K a, .W w, .D (s.extract a (a + 1)), .K (s.size - (a + 1))], putT s a (a + 1) w), ⟨[], _, hI⟩, ⟨[], K2 + K4 + 2, fun k hk => ?_⟩, fun p hp => ?_⟩
      · rw [hS k hk, if_pos rfl, splL_ne (fun x => hne x.symm)] <;> rfl
      · obtain rfl := Option.some.inj hp
        refine ⟨run_put (by omega) (by omega), ?_, by simp⟩
        rw [mass4]; show a + w.size + (s.extract a (a + 1)).size + (s.size - (a + 1)) ≤ _; omega
theorem cmd_mov (s : ByteArray) (hd : docB s = true) (a : Nat) (ha : a ≤ s.size) (tz : Int) (w : ByteArray) (b : Nat) (hm : Mate s a b) (z0 : 0 ≤ tz) (z1 : tz ≤ (s.size : Int)) : ∃ o, CmdIs s 7 (a : Int) tz w o := by
  obtain ⟨ht, hb⟩ := (docB_iff s).1 hd
  have hs := textB_size ht
  have hop : a < s.size ∧ nmB (bt s (a : Int)) = true := ⟨by have := hm.1; have := hm.2.1; omega, hm.2.2.1⟩
  have hI0 := elI s a tz w 7 (by decide) (by decide) (by decide) (by decide) (by decide)
  have hS0 := elS s hd a ha tz w hs 7 (by decide) (by decide) (by decide) (by decide) (by decide)
  obtain ⟨K1, h1⟩ := impl_beginsAt_yes s (by omega) hd hm
  obtain ⟨K2, h2⟩ := spec_l1Match_open (by omega) hm hb
  have hab := hm.1
  have hbs := hm.2.1
  have h47 := hm.2.2.2.1
  have hS1 : ∀ k, spec_l8Op.f (k + 1) s 7 (a : Int) tz w = spec_l8Op.j2 k s false 7 (a : Int) tz w := fun k => by
    rw [hS0, decide_eq_true hop.1, hop.2]; rfl
  have WA : Aside0 (wrap64 ((a : Int) + 1) = ((a + 1 : Nat) : Int)) := ⟨by rw [w64 (by omega) (by omega)]; omega⟩
  have WB : Aside0 (wrap64 ((b : Int) + 1) = ((b + 1 : Nat) : Int)) := ⟨by rw [w64 (by omega) (by omega)]; omega⟩
  have k0 := keepTo_eq 0 (a : Int) (by omega) (by omega)
  rw [Int.sub_zero] at k0
  have ex1 := ex_size s a (a + 1) (by omega)
  obtain ⟨c, rfl⟩ := Int.eq_ofNat_of_zero_le z0
  have ex2 := ex_size s a (b + 1) (by omega)
  have hIe : ∀ k, K1 ≤ k → impl_Command_parts.f k 7 (a : Int) (c : Int) w s = (if (c : Int) < (a : Int) then some ([⟨(c : Int), ⟨#[]⟩, ⟨#[]⟩⟩, ⟨0, s.extract a (b + 1), ⟨#[]⟩⟩, ⟨(a : Int) - (c : Int), ⟨#[]⟩, ⟨#[]⟩⟩, ⟨0, ⟨#[]⟩, s.extract a (b + 1)⟩, ⟨(s.size : Int) - ((b + 1 : Nat) : Int), ⟨#[]⟩, ⟨#[]⟩⟩], true) else some ([⟨(a : Int), ⟨#[]⟩, ⟨#[]⟩⟩, ⟨0, ⟨#[]⟩, s.extract a (b + 1)⟩, ⟨(c : Int) - ((b + 1 : Nat) : Int), ⟨#[]⟩, ⟨#[]⟩⟩, ⟨0, s.extract a (b + 1), ⟨#[]⟩⟩, ⟨(s.size : Int) - (c : Int), ⟨#[]⟩, ⟨#[]⟩⟩], decide ((c : Int) > ((b + 1 : Nat) : Int)))) := fun k hk => by
    rw [hI0]
    unfold impl_Command_onElement.f
    rw [h1 k hk, Option.bind_some, if_pos rfl]
    dsimp only
    rw [if_neg (by decide), if_neg (by decide), if_pos rfl, WB.out]
    have q0 := keepTo_eq 0 (c : Int) (by omega) (by omega)
    rw [Int.sub_zero] at q0
    have q1 := keepTo_eq (c : Int) (a : Int) (by omega) (by omega)
    have q2 := keepTo_eq ((b + 1 : Nat) : Int) (s.size : Int) (by omega) (by omega)
    have q3 := keepTo_eq ((b + 1 : Nat) : Int) (c : Int) (by omega) (by omega)
    have q4 := keepTo_eq (c : Int) (s.size : Int) (by omega) (by omega)
    rw [q0, q1, q2, q3, q4, k0]
    simp only [Option.bind_some, Int.toNat_natCast]
    rw [if_pos (by omega), if_pos (by omega), if_pos (by omega)]
    split <;> rfl
  have hSe : ∀ k, K2 + 3 ≤ k → spec_l8Op.f k s 7 (a : Int) (c : Int) w = (spec_l8Move.f (k - 2) s (a : Int) ((b + 1 : Nat) : Int) (c : Int)).bind fun x => some (x.1, x.2) := fun k hk => by
    obtain ⟨k, rfl⟩ : ∃ m, k = m + 2 := ⟨k - 2, by omega⟩
    rw [hS1]
    simp only [spec_l8Op.j2]
    rw [if_neg (by simp), h2 k (by omega), Option.bind_some, if_neg (by omega), if_neg (by omega), if_pos (by trivial), WB.out]; rfl
  by_cases hca : c < a
  · have hL : ([⟨(c : Int), ⟨#[]⟩, ⟨#[]⟩⟩, ⟨0, s.extract a (b + 1), ⟨#[]⟩⟩, ⟨(a : Int) - (c : Int), ⟨#[]⟩, ⟨#[]⟩⟩, ⟨0, ⟨#[]⟩, s.extract a (b + 1)⟩, ⟨(s.size : Int) - ((b + 1 : Nat) : Int), ⟨#[]⟩, ⟨#[]⟩⟩] : List S61) = [Pt.K c, .W (s.extract a (b + 1)), .K (a - c), .D (s.extract a (b + 1)), .K (s.size - (b + 1))].map encP := by
      simp only [List.map_cons, List.map_nil, encP]
      rw [sub_cast (by omega : c ≤ a), sub_cast (by omega : b + 1 ≤ s.size)]
    have hm5 : mass [Pt.K c, .W (s.extract a (b + 1)), .K (a - c), .D (s.extract a (b + 1)), .K (s.size - (b + 1))] ≤ 2000 := by
      rw [mass5]; show c + (s.extract a (b + 1)).size + (a - c) + (s.extract a (b + 1)).size + (s.size - (b + 1)) ≤ _; omega
    obtain ⟨K4, h4⟩ := normalS_ev [Pt.K c, .W (s.extract a (b + 1)), .K (a - c), .D (s.extract a (b + 1)), .K (s.size - (b + 1))] (by simp) (by omega)
    refine ⟨some ([Pt.K c, .W (s.extract a (b + 1)), .K (a - c), .D (s.extract a (b + 1)), .K (s.size - (b + 1))], movT s a (b + 1) c), ⟨[], K1, fun k hk => ?_⟩, ⟨[], K2 + K4 + 3, fun k hk => ?_⟩, fun p hp => ?_⟩
    rotate_left 2
    · obtain rfl := Option.some.inj hp
      exact ⟨run_mov1 hca (by omega) (by omega), hm5, by simp⟩
    · rw [hIe k hk, if_pos (by omega), hL] <;> rfl
    · rw [hSe k (by omega)]
      obtain ⟨k, rfl⟩ : ∃ m, k = m + 3 := ⟨k - 3, by omega⟩
      rw [show k + 3 - 2 = k + 1 by omega]
      unfold spec_l8Move.f
      rw [in_true (by omega) (by omega), Option.bind_some, if_pos rfl, in_false (by omega), Option.bind_some]
      simp only [spec_l8Move.j0]
      rw [if_neg (by simp), if_pos (by omega), if_pos (by omega), if_pos (by omega), if_pos (by omega), w64 (by omega) (by omega), w64 (by omega) (by omega)]
      simp only [Int.toNat_natCast]
      rw [hL, h4 k (by omega)]; rfl
  · by_cases hce : b + 1 < c
    · have hL : ([⟨(a : Int), ⟨#[]⟩, ⟨#[]⟩⟩, ⟨0, ⟨#[]⟩, s.extract a (b + 1)⟩, ⟨(c : Int) - ((b + 1 : Nat) : Int), ⟨#[]⟩, ⟨#[]⟩⟩, ⟨0, s.extract a (b + 1), ⟨#[]⟩⟩, ⟨(s.size : Int) - (c : Int), ⟨#[]⟩, ⟨#[]⟩⟩] : List S61) = [Pt.K a, .D (s.extract a (b + 1)), .K (c - (b + 1)), .W (s.extract a (b + 1)), .K (s.size - c)].map encP := by
        simp only [List.map_cons, List.map_nil, encP]
        rw [sub_cast (by omega : b + 1 ≤ c), sub_cast (by omega : c ≤ s.size)]
      have hm5 : mass [Pt.K a, .D (s.extract a (b + 1)), .K (c - (b + 1)), .W (s.extract a (b + 1)), .K (s.size - c)] ≤ 2000 := by
        rw [mass5]; show a + (s.extract a (b + 1)).size + (c - (b + 1)) + (s.extract a (b + 1)).size + (s.size - c) ≤ _; omega
      obtain ⟨K4, h4⟩ := normalS_ev [Pt.K a, .D (s.extract a (b + 1)), .K (c - (b + 1)), .W (s.extract a (b + 1)), .K (s.size - c)] (by simp) (by omega)
      refine ⟨some ([Pt.K a, .D (s.extract a (b + 1)), .K (c - (b + 1)), .W (s.extract a (b + 1)), .K (s.size - c)], movT s a (b + 1) c), ⟨[], K1, fun k hk => ?_⟩, ⟨[], K2 + K4 + 3, fun k hk => ?_⟩, fun p hp => ?_⟩
      rotate_left 2
      · obtain rfl := Option.some.inj hp
        exact ⟨run_mov2 (by omega) (by omega) (by omega), hm5, by simp⟩
      · rw [hIe k hk, if_neg (by omega), hL, decide_eq_true (by omega)] <;> rfl
      · rw [hSe k (by omega)]
        obtain ⟨k, rfl⟩ : ∃ m, k = m + 3 := ⟨k - 3, by omega⟩
        rw [show k + 3 - 2 = k + 1 by omega]
        unfold spec_l8Move.f
        rw [in_true (by omega) (by omega), Option.bind_some, if_pos rfl, in_false (by omega), Option.bind_some]
        simp only [spec_l8Move.j0]
        rw [if_neg (by simp), if_pos (by omega), if_pos (by omega), if_pos (by omega), if_neg (by omega), w64 (by omega) (by omega), w64 (by omega) (by omega)]
        simp only [Int.toNat_natCast]
        rw [hL, h4 k (by omega)]; rfl
    · refine ⟨none, ⟨_, K1, fun k hk => by rw [hIe k hk, if_neg (by omega), decide_eq_false (by omega)]⟩, ⟨[], K2 + 3, fun k hk => ?_⟩, fun p hp => by cases hp⟩
      rw [hSe k (by omega)]
      obtain ⟨k, rfl⟩ : ∃ m, k = m + 3 := ⟨k - 3, by omega⟩
      rw [show k + 3 - 2 = k + 1 by omega]
      unfold spec_l8Move.f
      rw [in_true (by omega) (by omega), Option.bind_some, if_pos rfl, in_true (by omega) (by omega), Option.bind_some]
      simp [spec_l8Move.j0]
theorem cmd_oth (s : ByteArray) (hd : docB s = true) (a : Nat) (ha : a ≤ s.size) (tz : Int) (w : ByteArray) (b : Nat) (hm : Mate s a b) (kd : Int) (n1 : kd ≠ 1) (n2 : kd ≠ 2) (n3 : kd ≠ 3) (n5 : kd ≠ 5) (n6 : kd ≠ 6) (c4 : kd ≠ 4) (c8 : kd ≠ 8) (c7 : kd ≠ 7) : ∃ o, CmdIs s kd (a : Int) tz w o := by
  obtain ⟨ht, hb⟩ := (docB_iff s).1 hd
  have hs := textB_size ht
  have hop : a < s.size ∧ nmB (bt s (a : Int)) = true := ⟨by have := hm.1; have := hm.2.1; omega, hm.2.2.1⟩
  have hI0 := elI s a tz w kd n1 n2 n3 n5 n6
  have hS0 := elS s hd a ha tz w hs kd n1 n2 n3 n5 n6
  obtain ⟨K1, h1⟩ := impl_beginsAt_yes s (by omega) hd hm
  obtain ⟨K2, h2⟩ := spec_l1Match_open (by omega) hm hb
  have hab := hm.1
  have hbs := hm.2.1
  have h47 := hm.2.2.2.1
  have hS1 : ∀ k, spec_l8Op.f (k + 1) s kd (a : Int) tz w = spec_l8Op.j2 k s false kd (a : Int) tz w := fun k => by
    rw [hS0, decide_eq_true hop.1, hop.2]; rfl
  have WA : Aside0 (wrap64 ((a : Int) + 1) = ((a + 1 : Nat) : Int)) := ⟨by rw [w64 (by omega) (by omega)]; omega⟩
  have WB : Aside0 (wrap64 ((b : Int) + 1) = ((b + 1 : Nat) : Int)) := ⟨by rw [w64 (by omega) (by omega)]; omega⟩
  have k0 := keepTo_eq 0 (a : Int) (by omega) (by omega)
  rw [Int.sub_zero] at k0
  have ex1 := ex_size s a (a + 1) (by omega)
  refine ⟨none, ⟨[], K1, fun k hk => ?_⟩, ⟨[], K2 + 2, fun k hk => ?_⟩, fun p hp => by cases hp⟩
  · rw [hI0]
    unfold impl_Command_onElement.f
    rw [h1 k hk, Option.bind_some, if_pos rfl]
    dsimp only
    rw [if_neg c4, if_neg c8, if_neg c7]; rfl
  · obtain ⟨k, rfl⟩ : ∃ m, k = m + 2 := ⟨k - 2, by omega⟩
    rw [hS1]
    simp only [spec_l8Op.j2]
    rw [if_neg (by simp), h2 k (by omega), Option.bind_some, if_neg c4, if_neg c8, if_neg c7]
theorem cmd_shut (s : ByteArray) (hd : docB s = true) (a : Nat) (ha : a ≤ s.size) (tz : Int) (w : ByteArray) (hop : ¬ (a < s.size ∧ nmB (bt s (a : Int)) = true)) (kd : Int) (n1 : kd ≠ 1) (n2 : kd ≠ 2) (n3 : kd ≠ 3) (n5 : kd ≠ 5) (n6 : kd ≠ 6) : ∃ o, CmdIs s kd (a : Int) tz w o := by
  obtain ⟨ht, hb⟩ := (docB_iff s).1 hd
  have hs := textB_size ht
  have hI0 := elI s a tz w kd n1 n2 n3 n5 n6
  have hS0 := elS s hd a ha tz w hs kd n1 n2 n3 n5 n6
  have hwf : (Lit.int .i64 (a : Int)).wf = true := WalkArith.wf_i64 (by omega)
  obtain ⟨K1, h1⟩ := impl_beginsAt_no s (by omega) (a : Int) hwf (fun ⟨_, i, e, g1, g2⟩ => by
    have : a = i := by omega
    subst this
    exact hop ⟨g1, g2⟩)
  refine ⟨none, ⟨[], K1, fun k hk => ?_⟩, ⟨[], 2, fun k hk => ?_⟩, fun p hp => by cases hp⟩
  · rw [hI0]
    unfold impl_Command_onElement.f
    rw [h1 k hk]; simp
  · obtain ⟨k, rfl⟩ : ∃ m, k = m + 2 := ⟨k - 2, by omega⟩
    have e : (decide (a < s.size) && nmB (bt s (a : Int))) = false := by
      cases hx : (decide (a < s.size) && nmB (bt s (a : Int))) with
      | false => rfl
      | true => rw [Bool.and_eq_true] at hx; exact absurd ⟨of_decide_eq_true hx.1, hx.2⟩ hop
    rw [hS0, e]
    simp [spec_l8Op.j2]
theorem cmd_elem (s : ByteArray) (hd : docB s = true) (a : Nat) (ha : a ≤ s.size) (tz : Int) (w : ByteArray) (hw : w.size ≤ 1048576) (kd : Int) (n1 : kd ≠ 1) (n2 : kd ≠ 2) (n3 : kd ≠ 3) (n5 : kd ≠ 5) (n6 : kd ≠ 6) (htz : kd = 7 → 0 ≤ tz ∧ tz ≤ (s.size : Int)) : ∃ o, CmdIs s kd (a : Int) tz w o := by
  obtain ⟨ht, hb⟩ := (docB_iff s).1 hd
  by_cases hop : a < s.size ∧ nmB (bt s (a : Int)) = true
  · obtain ⟨b, hm⟩ := mate_ex hb hop.2 hop.1
    by_cases c4 : kd = 4
    · subst c4; exact cmd_unw s hd a ha tz w b hm
    · by_cases c8 : kd = 8
      · subst c8; exact cmd_nam s hd a ha tz w b hm hw
      · by_cases c7 : kd = 7
        · subst c7; exact cmd_mov s hd a ha tz w b hm (htz rfl).1 (htz rfl).2
        · exact cmd_oth s hd a ha tz w b hm kd n1 n2 n3 n5 n6 c4 c8 c7
  · exact cmd_shut s hd a ha tz w hop kd n1 n2 n3 n5 n6
theorem cmd_ex (s : ByteArray) (hd : docB s = true) (kd at_ tz : Int) (w : ByteArray) (hw : w.size ≤ 1048576) (h0 : 0 ≤ at_) (h1 : at_ ≤ (s.size : Int)) (htz : kd = 2 ∨ kd = 3 ∨ kd = 7 → 0 ≤ tz ∧ tz ≤ (s.size : Int)) : ∃ o, CmdIs s kd at_ tz w o := by
  obtain ⟨ht, hb⟩ := (docB_iff s).1 hd
  have hs := textB_size ht
  obtain ⟨a, rfl⟩ := Int.eq_ofNat_of_zero_le h0
  by_cases c1 : kd = 1
  · subst c1; exact cmd_ins s hs a (by omega) tz w hw
  · by_cases c2 : kd = 2
    · subst c2
      obtain ⟨z0, z1⟩ := htz (.inl rfl)
      obtain ⟨b, rfl⟩ := Int.eq_ofNat_of_zero_le z0
      exact cmd_rem s ht a b (by omega) (by omega) w
    · by_cases c3 : kd = 3
      · subst c3
        obtain ⟨z0, z1⟩ := htz (.inr (.inl rfl))
        obtain ⟨b, rfl⟩ := Int.eq_ofNat_of_zero_le z0
        exact cmd_wrap s ht a b (by omega) (by omega) w
      · by_cases c5 : kd = 5
        · subst c5; exact cmd_split s hd a (by omega) tz w
        · by_cases c6 : kd = 6
          · subst c6; exact cmd_join s hd a (by omega) tz w
          · exact cmd_elem s hd a (by omega) tz w hw kd c1 c2 c3 c5 c6 (fun e => htz (.inr (.inr e)))

theorem place_no {s : ByteArray} {x : Int} (h : ¬ (0 ≤ x ∧ x ≤ (s.size : Int))) : impl_hasPlace.f s x = some false := by
  unfold impl_hasPlace.f
  by_cases h0 : x ≥ 0
  · rw [if_pos h0, decide_eq_false (fun h1 => h ⟨h0, h1⟩)]
  · rw [if_neg h0]
theorem place_yes {s : ByteArray} {x : Int} (h : 0 ≤ x ∧ x ≤ (s.size : Int)) : impl_hasPlace.f s x = some true := by
  unfold impl_hasPlace.f
  rw [if_pos h.1, decide_eq_true h.2]
theorem do_stop {s : ByteArray} (hs : s.size ≤ 140737488351232) (kd at_ tz : Int) (w : ByteArray) (h : docB s = false ∨ ¬ (0 ≤ at_ ∧ at_ ≤ (s.size : Int)) ∨ ((kd = 2 ∨ kd = 3 ∨ kd = 7) ∧ ¬ (0 ≤ tz ∧ tz ≤ (s.size : Int)))) : ∃ K, ∀ k, K ≤ k → impl_Command_do.f k kd at_ tz w s = some (doI none) := by
  obtain ⟨K, hK⟩ := impl_GoodDoc_ev s hs
  refine ⟨K + 2, fun k hk => ?_⟩
  obtain ⟨k, rfl⟩ : ∃ m, k = m + 2 := ⟨k - 2, by omega⟩
  have hj1 : impl_Command_do.j1 (k + 1) s true kd at_ tz w = some (doI none) := by
    simp only [impl_Command_do.j1]; rw [if_pos (by trivial)]; rfl
  have hj : ∀ b : Bool, (b = true ↔ (kd = 2 ∨ kd = 3 ∨ kd = 7)) → impl_Command_do.j0 (k + 2) s b kd at_ tz w = some (doI none) := fun b hb => by
    have e := hK (k + 1) (by omega)
    rw [impl_Command_do.j0, e, Option.bind_some]
    cases hd : docB s with
    | false => rw [if_neg (by simp)]; exact hj1
    | true =>
      rw [if_pos rfl]
      by_cases hp : 0 ≤ at_ ∧ at_ ≤ (s.size : Int)
      · rw [place_yes hp, Option.bind_some, if_pos rfl]
        rcases h with h | h | h
        · rw [hd] at h; cases h
        · exact absurd hp h
        · rw [if_pos (hb.2 h.1), place_no h.2, Option.bind_some]; exact hj1
      · rw [place_no hp, Option.bind_some, if_neg (by simp)]; exact hj1
  unfold impl_Command_do.f
  by_cases c2 : kd = 2
  · rw [if_pos c2]; exact hj true (by simp [c2])
  · rw [if_neg c2]
    by_cases c3 : kd = 3
    · rw [if_pos c3]; exact hj true (by simp [c3])
    · rw [if_neg c3]; exact hj (kd == 7) (by rw [beq_iff_eq]; simp [c2, c3])
theorem op_stop {s : ByteArray} (hd : docB s = true) (kd at_ tz : Int) (w : ByteArray) (h : ¬ (0 ≤ at_ ∧ at_ ≤ (s.size : Int)) ∨ ((kd = 2 ∨ kd = 3 ∨ kd = 7) ∧ ¬ (0 ≤ tz ∧ tz ≤ (s.size : Int)))) : ∃ K, ∀ k, K ≤ k → spec_l8Op.f k s kd at_ tz w = some ([], false) := by
  obtain ⟨ht, hb⟩ := (docB_iff s).1 hd
  have hs := textB_size ht
  by_cases hp : 0 ≤ at_ ∧ at_ ≤ (s.size : Int)
  · rcases h with h | ⟨hk, hz⟩
    · exact absurd hp h
    · obtain ⟨a, rfl⟩ := Int.eq_ofNat_of_zero_le hp.1
      have h23 : ∀ k (x : Int), spec_l8Op.j0 (k + 2) s x true kd (a : Int) tz w = some ([], false) := fun k x => by
        rw [spec_l8Op.j0, if_pos rfl, in_false (by omega), Option.bind_some, if_neg (by simp), spec_l8Op.j1, if_pos rfl]
      by_cases c2 : kd = 2
      · subst c2
        refine ⟨2, fun k hk => ?_⟩
        obtain ⟨k, rfl⟩ : ∃ m, k = m + 2 := ⟨k - 2, by omega⟩
        unfold spec_l8Op.f
        rw [in_true (by omega) (by omega), Option.bind_some, if_pos rfl, if_neg (by decide), if_pos rfl]
        exact h23 k 2
      · by_cases c3 : kd = 3
        · subst c3
          refine ⟨2, fun k hk => ?_⟩
          obtain ⟨k, rfl⟩ : ∃ m, k = m + 2 := ⟨k - 2, by omega⟩
          unfold spec_l8Op.f
          rw [in_true (by omega) (by omega), Option.bind_some, if_pos rfl, if_neg (by decide), if_neg (by decide)]
          exact h23 k 3
        · have c7 : kd = 7 := by rcases hk with hk | hk | hk <;> omega
          subst c7
          by_cases hop : a < s.size ∧ nmB (bt s (a : Int)) = true
          · obtain ⟨b, hm⟩ := mate_ex hb hop.2 hop.1
            have hab := hm.1
            have hbs := hm.2.1
            obtain ⟨K2, h2⟩ := spec_l1Match_open (by omega) hm hb
            refine ⟨K2 + 3, fun k hk => ?_⟩
            obtain ⟨k, rfl⟩ : ∃ m, k = m + 3 := ⟨k - 3, by omega⟩
            rw [elS s hd a (by omega) tz w hs 7 (by decide) (by decide) (by decide) (by decide) (by decide) (k + 2), decide_eq_true hop.1, hop.2]
            rw [spec_l8Op.j2, if_neg (by simp), h2 (k + 1) (by omega), Option.bind_some, if_neg (by decide), if_neg (by decide), if_pos rfl]
            unfold spec_l8Move.f
            rw [in_false hz, Option.bind_some, if_neg (by simp), spec_l8Move.j0, if_pos rfl]; rfl
          · refine ⟨2, fun k hk => ?_⟩
            obtain ⟨k, rfl⟩ : ∃ m, k = m + 2 := ⟨k - 2, by omega⟩
            have e : (decide (a < s.size) && nmB (bt s (a : Int))) = false := by
              cases hx : (decide (a < s.size) && nmB (bt s (a : Int))) with
              | false => rfl
              | true => rw [Bool.and_eq_true] at hx; exact absurd ⟨of_decide_eq_true hx.1, hx.2⟩ hop
            rw [elS s hd a (by omega) tz w hs 7 (by decide) (by decide) (by decide) (by decide) (by decide) (k + 1), e, Bool.not_false, spec_l8Op.j2, if_pos rfl]
  · refine ⟨0, fun k hk => ?_⟩
    unfold spec_l8Op.f
    rw [in_false hp, Option.bind_some, if_neg (by simp)]
/-- A command on a document: both programs, all told. -/
theorem do_all {s : ByteArray} (hd : docB s = true) (kd at_ tz : Int) (w : ByteArray) (hw : w.size ≤ 1048576) : ∃ o : Option (List Pt × ByteArray),
    (∃ K, ∀ k, K ≤ k → impl_Command_do.f k kd at_ tz w s = some (doI o)) ∧ (∃ Y T, ∃ K, ∀ k, K ≤ k → spec_l8Do.f k s kd at_ tz w = some (doS Y T o)) ∧
    (∀ p, o = some p → CmdIs s kd at_ tz w o ∧ 0 ≤ at_ ∧ at_ ≤ (s.size : Int)) := by
  have hz := textB_size ((docB_iff s).1 hd).1
  by_cases h : ¬ (0 ≤ at_ ∧ at_ ≤ (s.size : Int)) ∨ ((kd = 2 ∨ kd = 3 ∨ kd = 7) ∧ ¬ (0 ≤ tz ∧ tz ≤ (s.size : Int)))
  · obtain ⟨K, hK⟩ := op_stop hd kd at_ tz w h
    refine ⟨none, do_stop (by omega) kd at_ tz w (.inr h), ⟨[], ⟨#[]⟩, K, fun k hk => ?_⟩, fun p hp => by cases hp⟩
    unfold spec_l8Do.f
    rw [hK k hk, Option.bind_some, if_neg (by simp)]; rfl
  · have hp : 0 ≤ at_ ∧ at_ ≤ (s.size : Int) := Decidable.byContradiction fun x => h (.inl x)
    have htz : kd = 2 ∨ kd = 3 ∨ kd = 7 → 0 ≤ tz ∧ tz ≤ (s.size : Int) := fun hk => Decidable.byContradiction fun x => h (.inr ⟨hk, x⟩)
    obtain ⟨o, ho⟩ := cmd_ex s hd kd at_ tz w hw hp.1 hp.2 htz
    obtain ⟨h1, h2⟩ := do_ev hd hp.1 hp.2 htz ho
    exact ⟨o, h1, h2, fun p _ => ⟨ho, hp⟩⟩

/-! commands: what is taken back -/
theorem mid3 (A B C : ByteArray) (i j : Nat) (hi : i = A.size) (hj : j = A.size + B.size) : (A ++ B ++ C).extract i j = B := by
  subst hi hj
  rw [ba_assoc]
  have := @ByteArray.extract_append_size_add A (B ++ C) 0 B.size
  rw [Nat.add_zero] at this
  rw [this]
  exact ByteArray.extract_append_eq_left rfl
theorem fst2 (A B : ByteArray) (i : Nat) (hi : i = A.size) : (A ++ B).extract 0 i = A := ByteArray.extract_append_eq_left hi
theorem snd2 (A B : ByteArray) (i j : Nat) (hi : i = A.size) (hj : j = (A ++ B).size) : (A ++ B).extract i j = B := ByteArray.extract_append_eq_right hi (by rw [hj, ByteArray.size_append])
theorem enc_eq : ∀ {x y : Pt}, encP x = encP y → x = y ∨ (massP x = 0 ∧ massP y = 0)
  | .K n, .K m, h => by have h0 : (n : Int) = (m : Int) := congrArg S61.f0 h; left; rw [show n = m by omega]
  | .K n, .W w, h => by have h0 : (n : Int) = 0 := congrArg S61.f0 h; have h1 : (⟨#[]⟩ : ByteArray) = w := congrArg S61.f1 h; right; subst h1; exact ⟨by show n = 0; omega, rfl⟩
  | .K n, .D w, h => by have h0 : (n : Int) = 0 := congrArg S61.f0 h; have h1 : (⟨#[]⟩ : ByteArray) = w := congrArg S61.f2 h; right; subst h1; exact ⟨by show n = 0; omega, rfl⟩
  | .W w, .K n, h => by have h0 : (0 : Int) = (n : Int) := congrArg S61.f0 h; have h1 : w = (⟨#[]⟩ : ByteArray) := congrArg S61.f1 h; right; subst h1; exact ⟨rfl, by show n = 0; omega⟩
  | .W w, .W v, h => by have h1 : w = v := congrArg S61.f1 h; left; rw [h1]
  | .W w, .D v, h => by have h1 : w = (⟨#[]⟩ : ByteArray) := congrArg S61.f1 h; have h2 : (⟨#[]⟩ : ByteArray) = v := congrArg S61.f2 h; right; subst h1; subst h2; exact ⟨rfl, rfl⟩
  | .D w, .K n, h => by have h0 : (0 : Int) = (n : Int) := congrArg S61.f0 h; have h1 : w = (⟨#[]⟩ : ByteArray) := congrArg S61.f2 h; right; subst h1; exact ⟨rfl, by show n = 0; omega⟩
  | .D w, .W v, h => by have h1 : (⟨#[]⟩ : ByteArray) = v := congrArg S61.f1 h; have h2 : w = (⟨#[]⟩ : ByteArray) := congrArg S61.f2 h; right; subst h1; subst h2; exact ⟨rfl, rfl⟩
  | .D w, .D v, h => by have h1 : w = v := congrArg S61.f2 h; left; rw [h1]
theorem run_enc {s : ByteArray} : ∀ (L L' : List Pt) (st : ByteArray × Nat), L.map encP = L'.map encP → st.2 ≤ s.size → runP s L st = runP s L' st
  | [], [], st, _, _ => rfl
  | [], _ :: _, st, h, _ => by cases h
  | _ :: _, [], st, h, _ => by cases h
  | x :: L, y :: L', st, h, hs => by
    obtain ⟨h1, h2⟩ := List.cons.inj h
    show (stepP s st x).bind (runP s L) = (stepP s st y).bind (runP s L')
    rcases enc_eq h1 with rfl | ⟨z1, z2⟩
    · cases hx : stepP s st x with
      | none => rfl
      | some u => exact run_enc L L' u h2 (stepP_mono hx hs).2
    · rw [stepP_zero z1 hs, stepP_zero z2 hs]
      exact run_enc L L' st h2 hs
/-- What a command that is done has made. -/
theorem fore {s : ByteArray} {kd at_ tz : Int} {w : ByteArray} {p : List Pt × ByteArray} (h : CmdIs s kd at_ tz w (some p)) {L : List Pt} {b : Bool} {X : List S61} (hX : b = true → X = L.map encP) (hL : ∃ K, ∀ k, K ≤ k → impl_Command_parts.f k kd at_ tz w s = some (X, b)) {u : ByteArray} (hr : b = true → runP s L (⟨#[]⟩, 0) = some (u, s.size)) : b = true ∧ p.2 = u := by
  obtain ⟨K1, h1⟩ := hL
  obtain ⟨⟨Y, K2, h2⟩, -, h3⟩ := h
  have e := (h1 (K1 + K2) (by omega)).symm.trans (h2 (K1 + K2) (by omega))
  obtain ⟨e1, e2⟩ := Prod.mk.inj (Option.some.inj e)
  subst e2
  have e3 := (run_enc p.1 L (⟨#[]⟩, 0) (by rw [← e1, hX rfl]) (Nat.zero_le _)).symm.trans (h3 p rfl).1
  rw [hr rfl] at e3
  exact ⟨rfl, (Prod.mk.inj (Option.some.inj e3)).1.symm⟩
/-- A command that takes back. -/
theorem back {t : ByteArray} (hd : docB t = true) {kd at_ tz : Int} {w : ByteArray} (hw : w.size ≤ 1048576) (h0 : 0 ≤ at_) (h1 : at_ ≤ (t.size : Int)) (htz : kd = 2 ∨ kd = 3 ∨ kd = 7 → 0 ≤ tz ∧ tz ≤ (t.size : Int)) {L : List Pt} (hL : ∃ K, ∀ k, K ≤ k → impl_Command_parts.f k kd at_ tz w t = some (L.map encP, true)) {s : ByteArray} (hs : docB s = true) (hr : runP t L (⟨#[]⟩, 0) = some (s, t.size)) : ∃ K, ∀ k, K ≤ k → impl_DoCommand.f k t kd at_ tz w = some (s, true) := by
  obtain ⟨o, ho⟩ := cmd_ex t hd kd at_ tz w hw h0 h1 htz
  obtain ⟨⟨K1, h2⟩, -⟩ := do_ev hd h0 h1 htz ho
  cases o with
  | none =>
    exfalso
    obtain ⟨K2, h3⟩ := hL
    obtain ⟨⟨Y, K3, h4⟩, -, -⟩ := ho
    have := (h3 (K2 + K3) (by omega)).symm.trans (h4 (K2 + K3) (by omega))
    have := (Prod.mk.inj (Option.some.inj this)).2
    cases this
  | some p =>
    obtain ⟨-, e⟩ := fore ho (fun _ => rfl) hL (fun _ => hr)
    refine ⟨K1, fun k hk => ?_⟩
    unfold impl_DoCommand.f
    rw [h2 k hk, Option.bind_some]
    simp [doI, e, hs]
theorem insI (s : ByteArray) (hs : s.size ≤ 300) (a : Nat) (ha : a ≤ s.size) (tz : Int) (w : ByteArray) (hw : w.size ≤ 1048576) : ∃ K, ∀ k, K ≤ k → impl_Command_parts.f k 1 (a : Int) tz w s = some ([Pt.K a, .W w, .K (s.size - a)].map encP, if w.toList = [] then false else textB w) := by
  obtain ⟨K2, h2⟩ := impl_GoodText_ev w (by omega)
  have k1 := keepTo_eq 0 (a : Int) (by omega) (by omega)
  have k2 := keepTo_eq (a : Int) (s.size : Int) (by omega) (by omega)
  rw [Int.sub_zero] at k1
  have hL : ([⟨(a : Int), ⟨#[]⟩, ⟨#[]⟩⟩, ⟨0, w, ⟨#[]⟩⟩, ⟨(s.size : Int) - (a : Int), ⟨#[]⟩, ⟨#[]⟩⟩] : List S61) = [Pt.K a, .W w, .K (s.size - a)].map encP := by
    simp only [List.map_cons, List.map_nil, encP]
    rw [sub_cast ha]
  refine ⟨K2, fun k hk => ?_⟩
  rw [← hL]
  unfold impl_Command_parts.f
  rw [if_pos rfl, k1, Option.bind_some, k2, Option.bind_some]
  simp only [Option.bind_some]
  by_cases hn : w.toList = []
  · rw [if_pos hn, if_pos hn]
  · rw [if_neg hn, if_neg hn, h2 k (by omega)]; rfl
theorem remI (s : ByteArray) (ht : textB s = true) (a b : Nat) (hab : a < b) (hb : b ≤ s.size) (w : ByteArray) (hd : docB (s.extract a b) = true) : ∃ K, ∀ k, K ≤ k → impl_Command_parts.f k 2 (a : Int) (b : Int) w s = some ([Pt.K a, .D (s.extract a b), .K (s.size - b)].map encP, true) := by
  have hs := textB_size ht
  obtain ⟨K2, h2⟩ := impl_GoodDoc_ev (s.extract a b) (by have := ex_size s a b hb; omega)
  have k1 := keepTo_eq 0 (a : Int) (by omega) (by omega)
  have k2 := keepTo_eq (b : Int) (s.size : Int) (by omega) (by omega)
  rw [Int.sub_zero] at k1
  refine ⟨K2 + 1, fun k hk => ?_⟩
  obtain ⟨k, rfl⟩ : ∃ m, k = m + 1 := ⟨k - 1, by omega⟩
  unfold impl_Command_parts.f
  simp only [Int.toNat_natCast]
  rw [if_neg (by omega), if_pos (by trivial), if_neg (by omega), if_pos (by omega), if_pos (by omega), if_pos (by omega), h2 (k + 1) (by omega), Option.bind_some, hd]
  simp only [impl_Command_parts.j0, Bool.not_true, Bool.false_eq_true, if_false, k1, k2, Option.bind_some, Int.toNat_natCast]
  rw [if_pos (by omega), if_pos (by omega), if_pos (by omega)]
  simp only [List.map_cons, List.map_nil, encP]
  rw [sub_cast hb]
theorem wrapI (s : ByteArray) (ht : textB s = true) (a b : Nat) (ha : a ≤ s.size) (hb : b ≤ s.size) (w : ByteArray) : ∃ X K, (a ≤ b → (balB (s.extract a b) && nameT w) = true → X = [Pt.K a, .W w, .K (b - a), .W ⟨#[47]⟩, .K (s.size - b)].map encP) ∧ ∀ k, K ≤ k → impl_Command_parts.f k 3 (a : Int) (b : Int) w s = some (X, decide (a ≤ b) && (balB (s.extract a b) && nameT w)) := by
  have hs := textB_size ht
  by_cases hab : a ≤ b
  · obtain ⟨K2, h2⟩ := impl_GoodDoc_ev (s.extract a b) (by have := ex_size s a b hb; omega)
    rw [docB_sub ht a b hb] at h2
    have k1 := keepTo_eq 0 (a : Int) (by omega) (by omega)
    have k3 := keepTo_eq (a : Int) (b : Int) (by omega) (by omega)
    have k2 := keepTo_eq (b : Int) (s.size : Int) (by omega) (by omega)
    rw [Int.sub_zero] at k1
    refine ⟨if (balB (s.extract a b) && nameT w) = true then [Pt.K a, .W w, .K (b - a), .W ⟨#[47]⟩, .K (s.size - b)].map encP else [], K2 + 1, fun _ h => by rw [if_pos h], fun k hk => ?_⟩
    obtain ⟨k, rfl⟩ : ∃ m, k = m + 1 := ⟨k - 1, by omega⟩
    unfold impl_Command_parts.f
    rw [if_neg (by omega), if_neg (by omega), if_pos rfl, if_neg (by omega), if_pos (by omega), if_pos (by omega), if_pos (by omega), decide_eq_true hab]
    simp only [Int.toNat_natCast]
    rw [h2 (k + 1) (by omega), Option.bind_some, isNameText_eq, Option.bind_some]
    simp only [impl_Command_parts.j1]
    cases balB (s.extract a b) with
    | true =>
      cases nameT w with
      | true =>
        simp only [Bool.not_true, Bool.false_eq_true, if_false, if_true, k1, k2, k3, Option.bind_some, Bool.and_self, List.map_cons, List.map_nil, encP]
        rw [sub_cast hab, sub_cast hb]
      | false => simp
    | false => simp
  · refine ⟨[], 1, fun h => absurd h hab, fun k hk => ?_⟩
    obtain ⟨k, rfl⟩ : ∃ m, k = m + 1 := ⟨k - 1, by omega⟩
    unfold impl_Command_parts.f
    rw [if_neg (by omega), if_neg (by omega), if_pos rfl, if_pos (by omega), decide_eq_false hab]
    simp only [impl_Command_parts.j1]; simp
theorem unwI (s : ByteArray) (hd : docB s = true) (a b : Nat) (tz : Int) (w : ByteArray) (hm : Mate s a b) : ∃ K, ∀ k, K ≤ k → impl_Command_parts.f k 4 (a : Int) tz w s = some ([Pt.K a, .D (s.extract a (a + 1)), .K (b - (a + 1)), .D ⟨#[47]⟩, .K (s.size - (b + 1))].map encP, true) := by
  obtain ⟨ht, hb⟩ := (docB_iff s).1 hd
  have hs := textB_size ht
  have hI0 := elI s a tz w 4 (by decide) (by decide) (by decide) (by decide) (by decide)
  obtain ⟨K1, h1⟩ := impl_beginsAt_yes s (by omega) hd hm
  have hab := hm.1
  have hbs := hm.2.1
  have WA : Aside0 (wrap64 ((a : Int) + 1) = ((a + 1 : Nat) : Int)) := ⟨by rw [w64 (by omega) (by omega)]; omega⟩
  have WB : Aside0 (wrap64 ((b : Int) + 1) = ((b + 1 : Nat) : Int)) := ⟨by rw [w64 (by omega) (by omega)]; omega⟩
  have k0 := keepTo_eq 0 (a : Int) (by omega) (by omega)
  rw [Int.sub_zero] at k0
  have k2 := keepTo_eq ((a + 1 : Nat) : Int) (b : Int) (by omega) (by omega)
  have k3 := keepTo_eq ((b + 1 : Nat) : Int) (s.size : Int) (by omega) (by omega)
  have hL : ([⟨(a : Int), ⟨#[]⟩, ⟨#[]⟩⟩, ⟨0, ⟨#[]⟩, s.extract a (a + 1)⟩, ⟨(b : Int) - ((a + 1 : Nat) : Int), ⟨#[]⟩, ⟨#[]⟩⟩, ⟨0, ⟨#[]⟩, ⟨#[47]⟩⟩, ⟨(s.size : Int) - ((b + 1 : Nat) : Int), ⟨#[]⟩, ⟨#[]⟩⟩] : List S61) = [Pt.K a, .D (s.extract a (a + 1)), .K (b - (a + 1)), .D ⟨#[47]⟩, .K (s.size - (b + 1))].map encP := by
    simp only [List.map_cons, List.map_nil, encP]
    rw [sub_cast (by omega : a + 1 ≤ b), sub_cast (by omega : b + 1 ≤ s.size)]
  refine ⟨K1, fun k hk => ?_⟩
  rw [hI0]
  unfold impl_Command_onElement.f
  rw [h1 k hk, Option.bind_some, if_pos rfl]
  dsimp only
  rw [if_pos rfl]
  rw [WA.out, WB.out, k0, k2, k3]
  simp only [Option.bind_some, Int.toNat_natCast]
  rw [if_pos (by omega), if_pos (by omega), if_pos (by omega), hL] <;> rfl
theorem namI (s : ByteArray) (hd : docB s = true) (a b : Nat) (tz : Int) (w : ByteArray) (hm : Mate s a b) : ∃ K, ∀ k, K ≤ k → impl_Command_parts.f k 8 (a : Int) tz w s = some ([Pt.K a, .W w, .D (s.extract a (a + 1)), .K (s.size - (a + 1))].map encP, nameT w && (w.toList != (s.extract a (a + 1)).toList)) := by
  obtain ⟨ht, hb⟩ := (docB_iff s).1 hd
  have hs := textB_size ht
  have hI0 := elI s a tz w 8 (by decide) (by decide) (by decide) (by decide) (by decide)
  obtain ⟨K1, h1⟩ := impl_beginsAt_yes s (by omega) hd hm
  have hab := hm.1
  have hbs := hm.2.1
  have WA : Aside0 (wrap64 ((a : Int) + 1) = ((a + 1 : Nat) : Int)) := ⟨by rw [w64 (by omega) (by omega)]; omega⟩
  have k0 := keepTo_eq 0 (a : Int) (by omega) (by omega)
  rw [Int.sub_zero] at k0
  have hL : ([⟨(a : Int), ⟨#[]⟩, ⟨#[]⟩⟩, ⟨0, w, ⟨#[]⟩⟩, ⟨0, ⟨#[]⟩, s.extract a (a + 1)⟩, ⟨(s.size : Int) - ((a + 1 : Nat) : Int), ⟨#[]⟩, ⟨#[]⟩⟩] : List S61) = [Pt.K a, .W w, .D (s.extract a (a + 1)), .K (s.size - (a + 1))].map encP := by
    simp only [List.map_cons, List.map_nil, encP]
    rw [sub_cast (by omega : a + 1 ≤ s.size)]
  have k2 := keepTo_eq ((a + 1 : Nat) : Int) (s.size : Int) (by omega) (by omega)
  refine ⟨K1, fun k hk => ?_⟩
  rw [hI0]
  unfold impl_Command_onElement.f
  rw [h1 k hk, Option.bind_some, if_pos rfl]
  dsimp only
  rw [if_neg (by decide), if_pos rfl, WA.out, k0, k2, isNameText_eq]
  simp only [Option.bind_some, Int.toNat_natCast]
  rw [if_pos (by omega), if_pos (by omega), if_pos (by omega), hL]
  cases nameT w <;> simp
theorem splI (s : ByteArray) (hd : docB s = true) (a : Nat) (ha : a ≤ s.size) (tz : Int) (w : ByteArray) : ∃ q b X K, (b = true → q < a ∧ nmB (bt s (q : Int)) = true ∧ dp s q + 1 = dp s a ∧ (∀ j, q < j → j ≤ a → dp s q < dp s j) ∧ X = [Pt.K a, .W (slashT s q), .K (s.size - a)].map encP) ∧ ∀ k, K ≤ k → impl_Command_parts.f k 5 (a : Int) tz w s = some (X, b) := by
  obtain ⟨ht, hb⟩ := (docB_iff s).1 hd
  have hs := textB_size ht
  obtain ⟨st, hst, K1, h1⟩ := around_ev s hs hb a ha
  have hlen := hst.len
  have hba := hb.1 a ha
  have k1 := keepTo_eq 0 (a : Int) (by omega) (by omega)
  have k2 := keepTo_eq (a : Int) (s.size : Int) (by omega) (by omega)
  rw [Int.sub_zero] at k1
  by_cases h0 : st.length = 0
  · refine ⟨0, false, [], K1, fun h => (by cases h), fun k hk => ?_⟩
    unfold impl_Command_parts.f
    rw [if_neg (by omega), if_neg (by omega), if_neg (by omega), if_pos rfl, h1 k hk, Option.bind_some, if_pos (by omega)]
  · obtain ⟨p, q1, q2, q3, q4, q5⟩ := hst.stk (st.length - 1) (by omega)
    have hc : (((st.length - 1 : Nat)) : Int) = (st.length : Int) - 1 := by omega
    rw [hc] at q1 q4 q5
    refine ⟨p, true, _, K1, fun _ => ⟨q2, q3, by omega, fun j g1 g2 => by have := q5 j g1 g2; omega, rfl⟩, fun k hk => ?_⟩
    unfold impl_Command_parts.f
    rw [if_neg (by omega), if_neg (by omega), if_neg (by omega), if_pos rfl, h1 k hk, Option.bind_some, if_neg (by omega), w64 (i := (st.length : Int) - 1) (by omega) (by omega), if_pos (by omega), if_pos (by omega), k1, Option.bind_some, q1, w64 (i := (p : Int) + 1) (by omega) (by omega), natS]
    simp only [Int.toNat_natCast]
    rw [if_pos (by omega), if_pos (by omega), if_pos (by omega), ex_size s p (p + 1) (by omega), if_pos (by omega), k2, Option.bind_some]
    simp only [List.map_cons, List.map_nil, encP]
    rw [sub_cast ha]; rfl
theorem joinI (s : ByteArray) (hd : docB s = true) (c p : Nat) (hc : c + 1 < s.size) (tz : Int) (w : ByteArray) (hm : Mate s p c) (hn : nmB (bt s ((c + 1 : Nat) : Int)) = true) (heq : bt s (p : Int) = bt s ((c + 1 : Nat) : Int)) : ∃ K, ∀ k, K ≤ k → impl_Command_parts.f k 6 ((c + 1 : Nat) : Int) tz w s = some ([Pt.K c, .D (s.extract c (c + 2)), .K (s.size - (c + 2))].map encP, true) := by
  obtain ⟨ht, hb⟩ := (docB_iff s).1 hd
  have hs := textB_size ht
  have hw1 : wrap64 (((c + 1 : Nat) : Int) - 1) = (c : Int) := by rw [w64 (by omega) (by omega)]; omega
  have hw2 : wrap64 (((c + 1 : Nat) : Int) + 1) = ((c + 2 : Nat) : Int) := by rw [w64 (by omega) (by omega)]; omega
  have h47 := hm.2.2.2.1
  have hp1 := hm.1
  have hwf : (Lit.int .i64 (c : Int)).wf = true := WalkArith.wf_i64 (by omega)
  obtain ⟨o, ho, K1, h1⟩ := impl_MatchOf_yes s (by omega) (c : Int) hwf hd
  obtain rfl : o = some (p : Int) := (ho p).2 ⟨p, c, hm, .inr ⟨rfl, rfl⟩⟩
  have k1 := keepTo_eq 0 (c : Int) (by omega) (by omega)
  have k2 := keepTo_eq ((c + 2 : Nat) : Int) (s.size : Int) (by omega) (by omega)
  rw [Int.sub_zero] at k1
  refine ⟨K1 + 1, fun k hk => ?_⟩
  obtain ⟨k, rfl⟩ : ∃ m, k = m + 1 := ⟨k - 1, by omega⟩
  unfold impl_Command_parts.f
  rw [if_neg (by omega), if_neg (by omega), if_neg (by omega), if_neg (by omega), if_pos rfl, if_neg (by omega), if_neg (by omega), hw1, if_pos (by omega), if_pos (by omega), if_pos h47, if_pos (by omega), if_pos (by omega), impl_isName_eq, Option.bind_some, hn]
  simp only [impl_Command_parts.j2, Bool.not_true, Bool.false_eq_true, if_false]
  rw [hw1, hw2, h1 k (by omega)]
  simp only [Option.bind_some, Option.getD_some, Int.toNat_natCast]
  rw [if_pos (by omega), if_pos (by omega), if_pos (by omega), if_pos (by omega), if_pos heq, k1, Option.bind_some, if_pos (by omega), if_pos (by omega), if_pos (by omega), k2, Option.bind_some]
  simp only [List.map_cons, List.map_nil, encP]
  rw [sub_cast (by omega : c + 2 ≤ s.size)]
/-- How deep a place lies hangs on what stands ahead of it. -/
theorem dp_front {s t : ByteArray} {a : Nat} (hs : a ≤ s.size) (ht : a ≤ t.size) (h : t.extract 0 a = s.extract 0 a) (j : Nat) (hj : j ≤ a) : dp t j = dp s j := by
  have e1 := dp_extract t 0 a ht j (by omega)
  have e2 := dp_extract s 0 a hs j (by omega)
  rw [h, e2, Nat.zero_add] at e1
  have z1 : dp t 0 = 0 := rfl
  have z2 : dp s 0 = 0 := rfl
  omega
theorem bt_front {s t : ByteArray} {a : Nat} (hs : a ≤ s.size) (ht : a ≤ t.size) (h : t.extract 0 a = s.extract 0 a) (j : Nat) (hj : j < a) : bt t (j : Int) = bt s (j : Int) := by
  have e1 := bt_extract t 0 a j ht (by omega)
  have e2 := bt_extract s 0 a j hs (by omega)
  rw [h, e2, Nat.zero_add] at e1
  exact e1.symm
/-- A byte of a text within a text. -/
theorem bt_in {t w : ByteArray} {a n : Nat} (h : t.extract a (a + n) = w) (ht : a + n ≤ t.size) (j : Nat) (hj : j < n) : bt t ((a + j : Nat) : Int) = bt w (j : Int) := by
  have := bt_extract t a (a + n) j ht (by omega)
  rw [h] at this
  exact this.symm

theorem put_size {s : ByteArray} {a b : Nat} (w : ByteArray) (ha : a ≤ b) (hb : b ≤ s.size) : (putT s a b w).size = a + w.size + (s.size - b) := by
  unfold putT
  rw [ByteArray.size_append, ByteArray.size_append, ex_size s 0 a (by omega), ex_size s b s.size (by omega)]; omega
theorem put_fst {s : ByteArray} {a b : Nat} (w : ByteArray) (ha : a ≤ b) (hb : b ≤ s.size) : (putT s a b w).extract 0 a = s.extract 0 a := by
  unfold putT
  rw [ba_assoc]
  exact fst2 _ _ _ (by rw [ex_size s 0 a (by omega)]; omega)
theorem put_mid {s : ByteArray} {a b : Nat} (w : ByteArray) (ha : a ≤ b) (hb : b ≤ s.size) : (putT s a b w).extract a (a + w.size) = w := by
  unfold putT
  have := ex_size s 0 a (by omega)
  exact mid3 _ _ _ _ _ (by omega) (by omega)
theorem put_snd {s : ByteArray} {a b : Nat} (w : ByteArray) (ha : a ≤ b) (hb : b ≤ s.size) : (putT s a b w).extract (a + w.size) (putT s a b w).size = s.extract b s.size := by
  have := ex_size s 0 a (by omega)
  unfold putT
  exact snd2 _ _ _ _ (by rw [ByteArray.size_append]; omega) rfl
theorem put_put {s : ByteArray} {a b : Nat} (w : ByteArray) (ha : a ≤ b) (hb : b ≤ s.size) : putT (putT s a b w) a (a + w.size) (s.extract a b) = s := by
  have e : putT (putT s a b w) a (a + w.size) (s.extract a b) = (putT s a b w).extract 0 a ++ s.extract a b ++ (putT s a b w).extract (a + w.size) (putT s a b w).size := rfl
  rw [e, put_fst w ha hb, put_snd w ha hb, ba_extract_add s 0 a b (by omega) ha, ba_extract_add s 0 b s.size (by omega) hb, ba_extract_all]
theorem undo1 {s : ByteArray} (hd : docB s = true) {a : Nat} (ha : a ≤ s.size) {tz : Int} {w : ByteArray} (hw : w.size ≤ 1048576) {p : List Pt × ByteArray} (h : CmdIs s 1 (a : Int) tz w (some p)) (hp : docB p.2 = true) (hg : docB w = true) : ∃ K, ∀ k, K ≤ k → impl_DoCommand.f k p.2 2 (a : Int) ((a + w.size : Nat) : Int) ⟨#[]⟩ = some (s, true) := by
  obtain ⟨ht, hb⟩ := (docB_iff s).1 hd
  have hs := textB_size ht
  obtain ⟨hb1, e⟩ := fore h (fun _ => rfl) (insI s hs a ha tz w hw) (fun _ => run_ins ha)
  have hn : ¬ w.toList = [] := fun e => by rw [if_pos e] at hb1; cases hb1
  have hws : 0 < w.size := by
    by_cases h0 : 0 < w.size
    · exact h0
    · exact absurd (by rw [size0_eq (show w.size = 0 by omega), nil_toList]) hn
  have hz := put_size w (Nat.le_refl a) ha
  have hm := put_mid w (Nat.le_refl a) ha
  have hpp := put_put w (Nat.le_refl a) ha
  rw [ba_extract_same] at hpp
  rw [e] at hp ⊢
  have ht' := ((docB_iff _).1 hp).1
  have hr := run_del (s := putT s a a w) (a := a) (b := a + w.size) (by omega) (by omega)
  rw [hpp] at hr
  exact back hp (Nat.zero_le _) (by omega) (by omega) (fun _ => ⟨by omega, by omega⟩) (remI _ ht' a (a + w.size) (by omega) (by omega) _ (by rw [hm]; exact hg)) hd hr
theorem slash_bt {s : ByteArray} {q : Nat} (hq : q < s.size) : bt (slashT s q) 0 = 47 ∧ bt (slashT s q) 1 = bt s (q : Int) := by
  have hz := slashT_size s q hq
  have h1 : (slashT s q).extract 0 1 = ⟨#[47]⟩ := fst2 _ _ _ rfl
  have h2 : (slashT s q).extract 1 2 = s.extract q (q + 1) := snd2 _ _ _ _ rfl hz.symm
  have e1 := bt_in (a := 0) (n := 1) h1 (by omega) 0 (by omega)
  have e2 := bt_in (a := 1) (n := 1) h2 (by omega) 0 (by omega)
  have e3 := bt_extract s q (q + 1) 0 (by omega) (by omega)
  refine ⟨e1, ?_⟩
  rw [e3] at e2
  exact e2
theorem undo5 {s : ByteArray} (hd : docB s = true) {a : Nat} (ha : a ≤ s.size) {tz : Int} {w : ByteArray} {p : List Pt × ByteArray} (h : CmdIs s 5 (a : Int) tz w (some p)) (hp : docB p.2 = true) : ∃ K, ∀ k, K ≤ k → impl_DoCommand.f k p.2 6 ((a + 1 : Nat) : Int) 0 ⟨#[]⟩ = some (s, true) := by
  obtain ⟨ht, hb⟩ := (docB_iff s).1 hd
  have hs := textB_size ht
  obtain ⟨q, b, X, K, h1, h2⟩ := splI s hd a ha tz w
  obtain ⟨rfl, e⟩ := fore h (fun e => (h1 e).2.2.2.2) ⟨K, h2⟩ (fun _ => run_ins ha)
  obtain ⟨q1, q2, q3, q4, -⟩ := h1 rfl
  have hsl : (slashT s q).size = 2 := slashT_size s q (by omega)
  obtain ⟨b0, b1⟩ := slash_bt (show q < s.size by omega)
  have hz := put_size (slashT s q) (Nat.le_refl a) ha
  have hf := put_fst (slashT s q) (Nat.le_refl a) ha
  have hm := put_mid (slashT s q) (Nat.le_refl a) ha
  have hpp := put_put (slashT s q) (Nat.le_refl a) ha
  rw [ba_extract_same] at hpp
  rw [hsl] at hm hpp
  rw [e] at hp ⊢
  have t0 := bt_in hm (by omega) 0 (by omega)
  have t1 := bt_in hm (by omega) 1 (by omega)
  rw [show ((0 : Nat) : Int) = 0 from rfl, b0, Nat.add_zero] at t0
  rw [show ((1 : Nat) : Int) = 1 from rfl, b1] at t1
  have tq := bt_front ha (by omega) hf q q1
  have dq := dp_front ha (by omega) hf q (by omega)
  have da := dp_front ha (by omega) hf a (Nat.le_refl _)
  have dc := dp_close t0
  have hM : Mate (putT s a a (slashT s q)) q a := ⟨q1, by omega, by rw [tq]; exact q2, t0, by omega, fun j g1 g2 => by
    have dj := dp_front ha (by omega) hf j g2
    have := q4 j g1 g2
    omega⟩
  have hr := run_del (s := putT s a a (slashT s q)) (a := a) (b := a + 2) (by omega) (by omega)
  rw [hpp] at hr
  exact back hp (Nat.zero_le _) (by omega) (by omega) (fun h => (by omega)) (joinI _ hp a q (by omega) 0 _ hM (by rw [t1]; exact q2) (by rw [t1, tq])) hd hr
theorem nameT_bt {w : ByteArray} (h : nameT w = true) : nmB (bt w 0) = true := by
  unfold nameT at h
  rw [Bool.and_eq_true] at h
  exact h.2
theorem undo8 {s : ByteArray} (hd : docB s = true) {a : Nat} (ha : a ≤ s.size) {tz : Int} {w : ByteArray} {p : List Pt × ByteArray} (h : CmdIs s 8 (a : Int) tz w (some p)) (hp : docB p.2 = true) : a < s.size ∧ ∃ K, ∀ k, K ≤ k → impl_DoCommand.f k p.2 8 (a : Int) 0 (s.extract a (a + 1)) = some (s, true) := by
  obtain ⟨ht, hb⟩ := (docB_iff s).1 hd
  have hs := textB_size ht
  by_cases hop : a < s.size ∧ nmB (bt s (a : Int)) = true
  · obtain ⟨b, hM⟩ := mate_ex hb hop.2 hop.1
    obtain ⟨hb1, e⟩ := fore h (fun _ => rfl) (namI s hd a b tz w hM) (fun _ => run_put (by omega) (by omega))
    rw [Bool.and_eq_true] at hb1
    have hws := nameT_size hb1.1
    have hz := put_size w (show a ≤ a + 1 by omega) (show a + 1 ≤ s.size by omega)
    have hm := put_mid w (show a ≤ a + 1 by omega) (show a + 1 ≤ s.size by omega)
    have hpp := put_put w (show a ≤ a + 1 by omega) (show a + 1 ≤ s.size by omega)
    rw [hws] at hm hpp
    rw [e] at hp ⊢
    obtain ⟨ht', hb'⟩ := (docB_iff _).1 hp
    have t0 : bt (putT s a (a + 1) w) (a : Int) = bt w 0 := bt_in hm (by omega) 0 (by omega)
    obtain ⟨b', hM'⟩ := mate_ex hb' (a := a) (by rw [t0]; exact nameT_bt hb1.1) (by omega)
    have hi := namI _ hp a b' 0 (s.extract a (a + 1)) hM'
    have exz := ex_size s a (a + 1) (by omega)
    have hnm : nameT (s.extract a (a + 1)) = true := by
      unfold nameT
      have e3 := bt_extract s a (a + 1) 0 (by omega) (by omega)
      rw [decide_eq_true (by omega), Bool.true_and]
      have e4 : bt (s.extract a (a + 1)) 0 = bt s (a : Int) := e3
      rw [e4]; exact hop.2
    have hne : ((s.extract a (a + 1)).toList != ((putT s a (a + 1) w).extract a (a + 1)).toList) = true := by
      rw [hm]
      have := bne_iff_ne.mp hb1.2
      exact bne_iff_ne.mpr (fun x => this x.symm)
    rw [hnm, hne] at hi
    have hr := run_put (s := putT s a (a + 1) w) (a := a) (b := a + 1) (w := s.extract a (a + 1)) (by omega) (by omega)
    rw [hpp] at hr
    exact ⟨hop.1, back hp (by omega) (by omega) (by omega) (fun h => (by omega)) hi hd hr⟩
  · exfalso
    have hI0 := elI s a tz w 8 (by decide) (by decide) (by decide) (by decide) (by decide)
    have hwf : (Lit.int .i64 (a : Int)).wf = true := WalkArith.wf_i64 (by omega)
    obtain ⟨K1, h1⟩ := impl_beginsAt_no s (by omega) (a : Int) hwf (fun ⟨_, i, e, g1, g2⟩ => by
      have : a = i := by omega
      subst this
      exact hop ⟨g1, g2⟩)
    have := fore h (L := []) (b := false) (X := []) (fun h => (by cases h)) ⟨K1, fun k hk => by
      rw [hI0]
      unfold impl_Command_onElement.f
      rw [h1 k hk]; simp⟩ (u := s) (fun h => (by cases h))
    cases this.1
theorem undo3 {s : ByteArray} (hd : docB s = true) {a : Nat} (ha : a ≤ s.size) {b : Nat} (hbs : b ≤ s.size) {w : ByteArray} {p : List Pt × ByteArray} (h : CmdIs s 3 (a : Int) (b : Int) w (some p)) (hp : docB p.2 = true) : ∃ K, ∀ k, K ≤ k → impl_DoCommand.f k p.2 4 (a : Int) 0 ⟨#[]⟩ = some (s, true) := by
  obtain ⟨ht, hb⟩ := (docB_iff s).1 hd
  have hs := textB_size ht
  obtain ⟨X, K, h1, h2⟩ := wrapI s ht a b ha hbs w
  obtain ⟨hb1, e⟩ := fore h (L := [Pt.K a, .W w, .K (b - a), .W ⟨#[47]⟩, .K (s.size - b)]) (fun hh => by rw [Bool.and_eq_true] at hh; exact h1 (of_decide_eq_true hh.1) hh.2) ⟨K, h2⟩ (u := wrapT s a b w) (fun hh => by rw [Bool.and_eq_true] at hh; exact run_wrap (of_decide_eq_true hh.1) hbs)
  rw [Bool.and_eq_true] at hb1
  have hab := of_decide_eq_true hb1.1
  have hb2 := hb1.2
  rw [Bool.and_eq_true] at hb2
  have hM := (balB_iff _).1 hb2.1
  have hws := nameT_size hb2.2
  have z1 := ex_size s 0 a ha
  have z2 := ex_size s a b hbs
  have z3 := ex_size s b s.size (Nat.le_refl _)
  have z4 : (⟨#[47]⟩ : ByteArray).size = 1 := rfl
  obtain ⟨t, ht0⟩ : ∃ t, t = wrapT s a b w := ⟨_, rfl⟩
  rw [e, ← ht0] at hp ⊢
  have f1 : t = (s.extract 0 a ++ w) ++ s.extract a b ++ ((⟨#[47]⟩ : ByteArray) ++ s.extract b s.size) := by rw [ht0]; unfold wrapT; rw [ba_assoc (_ ++ w ++ _)]
  have f2 : t = s.extract 0 a ++ w ++ (s.extract a b ++ ((⟨#[47]⟩ : ByteArray) ++ s.extract b s.size)) := by rw [f1, ba_assoc (_ ++ w)]
  have f3 : t = (s.extract 0 a ++ w ++ s.extract a b) ++ (⟨#[47]⟩ : ByteArray) ++ s.extract b s.size := ht0
  have zt : t.size = s.size + 2 := by
    rw [f3]
    simp only [ByteArray.size_append]
    omega
  have g0 : t.extract 0 a = s.extract 0 a := by rw [f2, ba_assoc]; exact fst2 _ _ _ (by omega)
  have g1 : t.extract a (a + 1) = w := by rw [f2]; exact mid3 _ _ _ _ _ (by omega) (by omega)
  have g2 : t.extract (a + 1) (b + 1) = s.extract a b := by rw [f1]; exact mid3 _ _ _ _ _ (by rw [ByteArray.size_append]; omega) (by rw [ByteArray.size_append]; omega)
  have g3 : t.extract (b + 1) (b + 2) = ⟨#[47]⟩ := by rw [f3]; exact mid3 _ _ _ _ _ (by rw [ByteArray.size_append, ByteArray.size_append]; omega) (by rw [ByteArray.size_append, ByteArray.size_append]; omega)
  have g4 : t.extract (b + 2) t.size = s.extract b s.size := by
    have := snd2 (s.extract 0 a ++ w ++ s.extract a b ++ (⟨#[47]⟩ : ByteArray)) (s.extract b s.size) (b + 2) t.size (by simp only [ByteArray.size_append]; omega) (by rw [← f3])
    rw [← f3] at this
    exact this
  clear f1 f2 f3
  have t0 : bt t (a : Int) = bt w 0 := bt_in g1 (by omega) 0 (by omega)
  have t1 := bt_in (a := b + 1) (n := 1) g3 (by omega) 0 (by omega)
  have n0 : nmB (bt t (a : Int)) = true := by rw [t0]; exact nameT_bt hb2.2
  have d0 := dp_open n0
  have d1 : ∀ i, i ≤ b - a → dp t (a + 1 + i) = dp t (a + 1) + dp (s.extract a b) i := fun i hi => by
    have := dp_extract t (a + 1) (b + 1) (by omega) i (by omega)
    rw [g2] at this
    omega
  have hMz := hM.2
  rw [z2] at hMz
  have d2 := d1 (b - a) (Nat.le_refl _)
  rw [show a + 1 + (b - a) = b + 1 by omega, hMz] at d2
  have t1' : bt t ((b + 1 : Nat) : Int) = 47 := t1
  have d3 := dp_close t1'
  have hMt : Mate t a (b + 1) := ⟨by omega, by omega, n0, t1', by omega, fun j h1 h2 => by
    have := d1 (j - (a + 1)) (by omega)
    rw [show a + 1 + (j - (a + 1)) = j by omega] at this
    have h3 := (hM.1 (j - (a + 1)) (by omega)).1
    omega⟩
  have hr := run_unw (s := t) (a := a) (b := b + 1) (by omega) (by omega) t1'
  have hu : unwT t a (b + 1) = s := by
    unfold unwT
    rw [g0, g2, show b + 1 + 1 = b + 2 from rfl, g4, ba_extract_add s 0 a b (by omega) hab, ba_extract_add s 0 b s.size (by omega) hbs, ba_extract_all]
  rw [hu] at hr
  exact back hp (Nat.zero_le _) (by omega) (by omega) (fun h => (by omega)) (unwI t hp a (b + 1) 0 _ hMt) hd hr

theorem u64_range (n : Int) : 0 ≤ IntKind.u64.wrap n ∧ IntKind.u64.wrap n < 18446744073709551616 := by
  have h : IntKind.u64.wrap n = n % 18446744073709551616 := by simp [IntKind.wrap, IntKind.bits, IntKind.signed]
  rw [h]; omega
theorem u64_and255 (n : Int) : 0 ≤ Go.bits .and .u64 (IntKind.u64.wrap n / 1099511627776) 255 ∧ Go.bits .and .u64 (IntKind.u64.wrap n / 1099511627776) 255 < 256 := by
  have h := u64_range n
  have e := bits_mask .u64 24 (by decide) (fun n h0 h1 => by
    have h : IntKind.u64.wrap n = n % 18446744073709551616 := by simp [IntKind.wrap, IntKind.bits, IntKind.signed]
    rw [h]; omega) 8 (by decide) (IntKind.u64.wrap n / 1099511627776) (by omega) (by omega)
  rw [show (255 : Int) = 2 ^ 8 - 1 from rfl, e]
  omega
def okCode (c : List Int) : Prop := ∀ x ∈ c, 0 ≤ x ∧ x < 256
theorem okCode_of {c : List Int} (h : ∀ x ∈ c, (Lit.int .u8 x).wf = true) : okCode c := by
  intro x hx
  have := h x hx
  simp [Lit.wf, IntKind.min, IntKind.max, IntKind.bits, IntKind.signed] at this
  omega
theorem okCode.rd {c : List Int} (h : okCode c) (i : Int) : 0 ≤ rd c i ∧ rd c i < 256 := by
  unfold Go.Proofs.YtmigfgcpdelnfaaW.PrintWords.rd
  rw [List.getD_eq_getElem?_getD]
  cases e : c[i.toNat]? with
  | none => simp
  | some x => simp; exact h x (List.mem_of_getElem? e)
theorem next_ev {c : List Int} (hc : okCode c) (a s : Int) (h0 : 0 ≤ a) (h1 : a ≤ 4000000000000000000) : ∃ r s', spec_l1Cur_next.f c a s = some (r, a + 1, s') ∧ 0 ≤ r ∧ r < 256 := by
  have hr := hc.rd a
  have hu := u64_and255
  unfold spec_l1Cur_next.f
  rw [w64 (by omega : -4611686018427387904 ≤ a + 1) (by omega)]
  by_cases c1 : a < (c.length : Int)
  · rw [if_pos c1, if_pos h0, if_pos (by omega), w64 (by omega) (by omega)]
    exact ⟨_, _, rfl, hr.1, hr.2⟩
  · rw [if_neg c1, if_neg (by omega)]
    refine ⟨_, _, rfl, ?_⟩
    have := hu (IntKind.u64.wrap (IntKind.u64.wrap (s * 6364136223846793005) + 0) + 1442695040888963407)
    rw [w64 (by omega) (by omega)]
    exact this
theorem pick_ev {c : List Int} (hc : okCode c) (a s n : Int) (h0 : 0 ≤ a) (h1 : a ≤ 3000000000000000000) (hn : 1 ≤ n) (hn2 : n ≤ 1000000000000) : ∃ r a' s', spec_l1Cur_pick.f c a s n = some (r, a', s') ∧ 0 ≤ r ∧ r < n ∧ a ≤ a' ∧ a' ≤ a + 2 := by
  unfold spec_l1Cur_pick.f
  by_cases c1 : n ≤ 1
  · rw [if_pos c1]; exact ⟨0, a, s, rfl, by omega, by omega, by omega, by omega⟩
  · obtain ⟨r, s1, e1, hr0, hr1⟩ := next_ev hc a s h0 (by omega)
    rw [if_neg c1, e1]
    simp only [Option.bind_some]
    by_cases c2 : n > 200
    · obtain ⟨r2, s2, e2, hr2, hr3⟩ := next_ev hc (a + 1) s1 (by omega) (by omega)
      rw [if_pos c2, e2]
      simp only [Option.bind_some]
      rw [if_neg (by omega), w64 (by omega : -4611686018427387904 ≤ r * 256) (by omega), w64 (by omega) (by omega)]
      refine ⟨_, _, _, rfl, ?_, ?_, by omega, by omega⟩
      · rw [Int.tmod_eq_emod_of_nonneg (by omega)]; exact Int.emod_nonneg _ (by omega)
      · rw [Int.tmod_eq_emod_of_nonneg (by omega)]; exact Int.emod_lt_of_pos _ (by omega)
    · rw [if_neg c2, if_neg (by omega)]
      refine ⟨_, _, _, rfl, ?_, ?_, by omega, by omega⟩
      · rw [Int.tmod_eq_emod_of_nonneg (by omega)]; exact Int.emod_nonneg _ (by omega)
      · rw [Int.tmod_eq_emod_of_nonneg (by omega)]; exact Int.emod_lt_of_pos _ (by omega)
theorem one_ev {c : List Int} (hc : okCode c) (a s n : Int) (h0 : 0 ≤ a) (h1 : a ≤ 3000000000000000000) (hn : 1 ≤ n) (hn2 : n ≤ 1000000000000) : ∃ r a' s', spec_l1Cur_one.f c a s n = some (r, a', s') ∧ a ≤ a' ∧ a' ≤ a + 2 := by
  obtain ⟨r, a', s', e, _, _, h2, h3⟩ := pick_ev hc a s n h0 h1 hn hn2
  unfold spec_l1Cur_one.f
  rw [e]
  exact ⟨_, _, _, rfl, h2, h3⟩

theorem of_ev {c : List Int} (hc : okCode c) (a s : Int) (l : List ByteArray) (M : Nat) (h0 : 0 ≤ a) (h1 : a ≤ 3000000000000000000) (hl : 0 < l.length) (hl2 : l.length ≤ 1000) (hM : ∀ x ∈ l, x.size ≤ M) : ∃ r a' s', spec_l1Cur_of.f c a s l = some (r, a', s') ∧ r ∈ l ∧ r.size ≤ M ∧ a ≤ a' ∧ a' ≤ a + 2 := by
  obtain ⟨r, a', s', e, h2, h3, h4, h5⟩ := pick_ev hc a s (l.length : Int) h0 h1 (by omega) (by omega)
  unfold spec_l1Cur_of.f
  rw [e]
  simp only [Option.bind_some]
  rw [if_pos h2, if_pos h3]
  have hm : rdOf ByteArray.empty l r ∈ l := by
    unfold rdOf
    rw [List.getD_eq_getElem?_getD, List.getElem?_eq_getElem (by omega : r.toNat < l.length)]
    simp
  exact ⟨_, _, _, rfl, hm, hM _ hm, h4, h5⟩

def cO : Nat → Int
  | 0 => 600
  | d + 1 => 60 * (cO d + 10)
def sO : Nat → Nat
  | 0 => 300
  | d + 1 => 60 * (sO d + 10)
def xO : Nat → Nat
  | 0 => 5
  | d + 1 => sO d + 10
def yO : Nat → Int
  | 0 => 10
  | d + 1 => cO d + 10
theorem cO_le (d : Nat) (h : d ≤ 3) : 0 ≤ cO d ∧ cO d ≤ 1000000000 := by
  rcases d with _ | _ | _ | _ | d <;> simp [cO] <;> omega
theorem sO_le (d : Nat) (h : d ≤ 3) : sO d ≤ 1000000000 := by
  rcases d with _ | _ | _ | _ | d <;> simp [sO] <;> omega
theorem size_app (a b : ByteArray) : (a ++ b).size = a.size + b.size := ByteArray.size_append
theorem inner_l {c : List Int} (hc : okCode c) (d : Nat) (hd : d ≤ 3)
    (IH : ∀ e : Nat, d = e + 1 → ∀ (a s n : Int), 0 ≤ a → a ≤ 2000000000000000000 + (3 - (e : Int)) * 1000000000000 → 0 ≤ n → n ≤ 60 → ∃ t a' s', t.size ≤ sO e ∧ a ≤ a' ∧ a' ≤ a + cO e ∧ ∃ K, ∀ k, K ≤ k → spec_l1Cur_inner.f k c a s n (e : Int) = some (t, a', s')) :
    ∀ (n : Nat) (t : ByteArray) (a s : Int), n ≤ 60 → 0 ≤ a → a ≤ 2000000000000000000 + (3 - (d : Int)) * 1000000000000 + (60 - (n : Int)) * 1000000000 → t.size + n * 1000000000 ≤ 60 * 1000000000 →
      ∃ t' a' s', t'.size ≤ t.size + n * (xO d) ∧ a ≤ a' ∧ a' ≤ a + n * (yO d) ∧ ∃ K, ∀ k, K ≤ k → spec_l1Cur_inner.l0 k (n : Int) (d : Int) t c a s = some (t', a', s') := by
  intro n
  induction n with
  | zero =>
    intro t a s hn h0 h1 ht
    refine ⟨t, a, s, by omega, by omega, by omega, 1, fun k hk => ?_⟩
    obtain ⟨k, rfl⟩ : ∃ m, k = m + 1 := ⟨k - 1, by omega⟩
    simp only [spec_l1Cur_inner.l0]
    rw [if_neg (by omega)]
  | succ n ih =>
    intro t a s hn h0 h1 ht
    have join : ∀ (u : ByteArray) (a1 s1 : Int), u.size ≤ (xO d) → a ≤ a1 → a1 ≤ a + (yO d) →
        ∃ t' a' s', t'.size ≤ t.size + (n + 1 : Nat) * (xO d) ∧ a ≤ a' ∧ a' ≤ a + ((n + 1 : Nat) : Int) * (yO d) ∧ ∃ K, ∀ k, K ≤ k → spec_l1Cur_inner.l0 k (n : Int) (d : Int) (t ++ u) c a1 s1 = some (t', a', s') := by
      intro u a1 s1 hu h2 h3
      have b1 : xO d ≤ 1000000000 := by
        cases d with
        | zero => simp [xO]
        | succ e => have := sO_le e (by omega); rcases e with _ | _ | _ | e <;> simp [xO, sO] <;> omega
      have b2 : yO d ≤ 1000000000 := by
        cases d with
        | zero => simp [yO]
        | succ e => rcases e with _ | _ | _ | e <;> simp [yO, cO] <;> omega
      generalize xO d = X at *
      generalize yO d = Y at *
      obtain ⟨t', a', s', g1, g2, g3, g4⟩ := ih (t ++ u) a1 s1 (by omega) (by omega) (by omega) (by rw [size_app]; omega)
      refine ⟨t', a', s', ?_, by omega, ?_, g4⟩
      · rw [size_app] at g1
        have : (n + 1) * X = n * X + X := Nat.succ_mul n X
        omega
      · have : ((n + 1 : Nat) : Int) * Y = (n : Int) * Y + Y := by rw [show ((n + 1 : Nat) : Int) = (n : Int) + 1 by omega, Int.add_mul, Int.one_mul]
        omega
    have plain : ∀ a1 s1 : Int, a ≤ a1 → a1 ≤ a + 2 → ∃ t' a' s', t'.size ≤ t.size + (n + 1 : Nat) * (xO d) ∧ a ≤ a' ∧ a' ≤ a + ((n + 1 : Nat) : Int) * (yO d) ∧ ∃ K, ∀ k, K ≤ k → spec_l1Cur_inner.j1 k ((n : Int) + 1) (d : Int) t false c a1 s1 = some (t', a', s') := by
      intro a1 s1 h2 h3
      obtain ⟨u, a2, s2, e, _, hu, h4, h5⟩ := of_ev hc a1 s1 ([(⟨#[97]⟩ : ByteArray), (⟨#[98]⟩ : ByteArray), (⟨#[97, 98]⟩ : ByteArray), (⟨#[120]⟩ : ByteArray), (⟨#[32]⟩ : ByteArray), (⟨#[111, 110, 101]⟩ : ByteArray), (⟨#[49]⟩ : ByteArray), (⟨#[122, 46]⟩ : ByteArray)] : List ByteArray) 3 (by omega) (by omega) (by simp) (by simp) (by decide)
      obtain ⟨t', a', s', g1, g2, g3, K, g4⟩ := join u a2 s2 (by cases d <;> simp [xO] <;> omega) (by omega) (by
        cases d with
        | zero => simp [yO]; omega
        | succ e => have := cO_le e (by omega); simp [yO]; omega)
      refine ⟨t', a', s', g1, g2, g3, K + 1, fun k hk => ?_⟩
      obtain ⟨k, rfl⟩ : ∃ m, k = m + 1 := ⟨k - 1, by omega⟩
      simp only [spec_l1Cur_inner.j1]
      rw [if_neg (by simp), e]
      simp only [Option.bind_some]
      rw [if_pos (by omega), w64 (by omega) (by omega), Int.add_sub_cancel]
      exact g4 k (by omega)
    cases d with
    | zero =>
      obtain ⟨t', a', s', g1, g2, g3, K, g4⟩ := plain a s (by omega) (by omega)
      refine ⟨t', a', s', g1, g2, g3, K + 1, fun k hk => ?_⟩
      obtain ⟨k, rfl⟩ : ∃ m, k = m + 1 := ⟨k - 1, by omega⟩
      simp only [spec_l1Cur_inner.l0]
      rw [if_pos (by omega), if_neg (by omega)]
      exact g4 k (by omega)
    | succ e =>
      obtain ⟨r, a1, s1, e1, h2, h3⟩ := one_ev hc a s 3 (by omega) (by omega) (by omega) (by omega)
      have hb := cO_le e (by omega)
      have hs := sO_le e (by omega)
      cases r with
      | false =>
        obtain ⟨t', a', s', g1, g2, g3, K, g4⟩ := plain a1 s1 (by omega) (by omega)
        refine ⟨t', a', s', g1, g2, g3, K + 1, fun k hk => ?_⟩
        obtain ⟨k, rfl⟩ : ∃ m, k = m + 1 := ⟨k - 1, by omega⟩
        simp only [spec_l1Cur_inner.l0]
        rw [if_pos (by omega), if_pos (by omega), e1]
        exact g4 k (by omega)
      | true =>
        obtain ⟨p1, a2, s2, e2, q1, q2, q3, q4⟩ := pick_ev hc a1 s1 4 (by omega) (by omega) (by omega) (by omega)
        obtain ⟨p2, a3, s3, e3, q5, q6, q7, q8⟩ := pick_ev hc a2 s2 4 (by omega) (by omega) (by omega) (by omega)
        obtain ⟨v, a4, s4, i1, i2, i3, K1, i4⟩ := IH e rfl a3 s3 p2 (by omega) (by omega) (by omega) (by omega)
        have one1 : (strOfNums [wrap64 (65 + p1) % 256]).size = 1 := rfl
        have lit1 : (⟨#[47]⟩ : ByteArray).size = 1 := rfl
        obtain ⟨t', a', s', g1, g2, g3, K, g4⟩ := join (strOfNums [wrap64 (65 + p1) % 256] ++ v ++ (⟨#[47]⟩ : ByteArray)) a4 s4 (by rw [size_app, size_app, one1, lit1]; simp [xO]; omega) (by omega) (by simp [yO]; omega)
        refine ⟨t', a', s', g1, g2, g3, max K K1 + 2, fun k hk => ?_⟩
        obtain ⟨k, rfl⟩ : ∃ m, k = m + 2 := ⟨k - 2, by omega⟩
        simp only [spec_l1Cur_inner.l0]
        rw [if_pos (by omega), if_pos (by omega), e1]
        simp only [Option.bind_some, spec_l1Cur_inner.j1, if_true]
        rw [e2]
        simp only [Option.bind_some]
        rw [e3]
        simp only [Option.bind_some]
        rw [w64 (by omega : -4611686018427387904 ≤ ((e + 1 : Nat) : Int) - 1) (by omega), show ((e + 1 : Nat) : Int) - 1 = (e : Int) by omega, i4 k (by omega)]
        simp only [Option.bind_some]
        rw [if_pos (by omega), if_pos (by rw [size_app]; omega), if_pos (by rw [size_app, size_app]; omega), w64 (by omega) (by omega), show ((n + 1 : Nat) : Int) - 1 = (n : Int) by omega]
        exact g4 k (by omega)
theorem inner_ev {c : List Int} (hc : okCode c) : ∀ (d : Nat), d ≤ 3 → ∀ (a s n : Int), 0 ≤ a → a ≤ 2000000000000000000 + (3 - (d : Int)) * 1000000000000 → 0 ≤ n → n ≤ 60 → ∃ t a' s', t.size ≤ sO d ∧ a ≤ a' ∧ a' ≤ a + cO d ∧ ∃ K, ∀ k, K ≤ k → spec_l1Cur_inner.f k c a s n (d : Int) = some (t, a', s') := by
  intro d
  induction d with
  | zero =>
    intro hd a s n h0 h1 h2 h3
    obtain ⟨m, rfl⟩ := Int.eq_ofNat_of_zero_le h2
    obtain ⟨t, a', s', g1, g2, g3, K, g4⟩ := inner_l hc 0 hd (fun e h => by omega) m (⟨#[]⟩ : ByteArray) a s (by omega) h0 (by omega) (by simp [ByteArray.size]; omega)
    simp only [show (⟨#[]⟩ : ByteArray).size = 0 from rfl] at g1 g3
    refine ⟨t, a', s', by simp only [sO, xO] at *; omega, g2, by simp only [cO, yO] at *; omega, K + 1, fun k hk => ?_⟩
    obtain ⟨k, rfl⟩ : ∃ m, k = m + 1 := ⟨k - 1, by omega⟩
    simp only [spec_l1Cur_inner.f]
    exact g4 k (by omega)
  | succ d ih =>
    intro hd a s n h0 h1 h2 h3
    obtain ⟨m, rfl⟩ := Int.eq_ofNat_of_zero_le h2
    have hb := cO_le d (by omega)
    obtain ⟨t, a', s', g1, g2, g3, K, g4⟩ := inner_l hc (d + 1) hd (fun e h => by
      have : e = d := by omega
      subst this; exact ih (by omega)) m (⟨#[]⟩ : ByteArray) a s (by omega) h0 (by omega) (by simp [ByteArray.size]; omega)
    simp only [show (⟨#[]⟩ : ByteArray).size = 0 from rfl] at g1 g3
    refine ⟨t, a', s', ?_, g2, ?_, K + 1, fun k hk => ?_⟩
    · simp only [sO, xO] at *
      have := Nat.mul_le_mul_right (sO d + 10) (by omega : m ≤ 60)
      omega
    · simp only [cO, yO] at *
      have := Int.mul_le_mul_of_nonneg_right (by omega : (m : Int) ≤ 60) (by omega : 0 ≤ cO d + 10)
      omega
    · obtain ⟨k, rfl⟩ : ∃ m, k = m + 1 := ⟨k - 1, by omega⟩
      simp only [spec_l1Cur_inner.f]
      exact g4 k (by omega)
theorem ext_size (s : ByteArray) (i j : Nat) : (s.extract i j).size ≤ s.size := by rw [ByteArray.size_extract]; omega
theorem spoilt_l {c : List Int} (hc : okCode c) (w : ByteArray) (hw : 0 < w.size) (hw2 : w.size ≤ 1000) : ∀ (n : Nat) (t : ByteArray) (a s : Int), n ≤ 3 → 0 ≤ a → a ≤ 2000000000000000000 + (3 - (n : Int)) * 10 → t.size + n ≤ 100000000000 →
    ∃ t' a' s', t'.size ≤ t.size + n ∧ a ≤ a' ∧ a' ≤ a + 10 * n ∧ ∃ K, ∀ k, K ≤ k → spec_l1Cur_spoilt.l0 k t w (n : Int) c a s = some (t', a', s') := by
  intro n
  induction n with
  | zero =>
    intro t a s hn h0 h1 ht
    refine ⟨t, a, s, by omega, by omega, by omega, 2, fun k hk => ?_⟩
    obtain ⟨k, rfl⟩ : ∃ m, k = m + 2 := ⟨k - 2, by omega⟩
    simp only [spec_l1Cur_spoilt.l0]
    rw [if_neg (by omega)]
    simp only [spec_l1Cur_spoilt.j1]
    rw [if_neg (by simp)]
  | succ n ih =>
    intro t a s hn h0 h1 ht
    by_cases hz : t.size = 0
    · refine ⟨t, a, s, by omega, by omega, by omega, 2, fun k hk => ?_⟩
      obtain ⟨k, rfl⟩ : ∃ m, k = m + 2 := ⟨k - 2, by omega⟩
      simp only [spec_l1Cur_spoilt.l0]
      rw [if_pos (by omega)]
      simp only [spec_l1Cur_spoilt.j1]
      rw [if_neg (by rw [decide_eq_true_eq]; omega)]
    · obtain ⟨p1, a1, s1, e1, q1, q2, q3, q4⟩ := pick_ev hc a s (t.size : Int) (by omega) (by omega) (by omega) (by omega)
      obtain ⟨p2, a2, s2, e2, q5, q6, q7, q8⟩ := pick_ev hc a1 s1 (w.size : Int) (by omega) (by omega) (by omega) (by omega)
      obtain ⟨p3, a3, s3, e3, q9, q10, q11, q12⟩ := pick_ev hc a2 s2 3 (by omega) (by omega) (by omega) (by omega)
      have one1 : (strOfNums [bt w p2]).size = 1 := rfl
      have x1 : (t.extract 0 p1.toNat).size = p1.toNat := by rw [ByteArray.size_extract]; omega
      have x2 : (t.extract p1.toNat t.size).size = t.size - p1.toNat := by rw [ByteArray.size_extract]; omega
      have x3 : (t.extract (p1 + 1).toNat t.size).size = t.size - (p1 + 1).toNat := by rw [ByteArray.size_extract]; omega
      have go : ∀ u : ByteArray, u.size ≤ t.size + 1 → ∃ t' a' s', t'.size ≤ t.size + (n + 1) ∧ a ≤ a' ∧ a' ≤ a + 10 * ((n + 1 : Nat) : Int) ∧ ∃ K, ∀ k, K ≤ k → spec_l1Cur_spoilt.l0 k u w (n : Int) c a3 s3 = some (t', a', s') := by
        intro u hu
        obtain ⟨t', a', s', g1, g2, g3, g4⟩ := ih u a3 s3 (by omega) (by omega) (by omega) (by omega)
        exact ⟨t', a', s', by omega, by omega, by omega, g4⟩
      have hn1 : ((n + 1 : Nat) : Int) - 1 = (n : Int) := by omega
      by_cases c1 : p3 = 0
      · obtain ⟨t', a', s', g1, g2, g3, K, g4⟩ := go (t.extract 0 p1.toNat ++ strOfNums [bt w p2] ++ t.extract p1.toNat t.size) (by rw [size_app, size_app, x1, x2, one1]; omega)
        refine ⟨t', a', s', g1, g2, g3, K + 2, fun k hk => ?_⟩
        obtain ⟨k, rfl⟩ : ∃ m, k = m + 2 := ⟨k - 2, by omega⟩
        simp only [spec_l1Cur_spoilt.l0]
        rw [if_pos (by omega)]
        simp only [spec_l1Cur_spoilt.j1]
        rw [if_pos (by simp; omega), e1]
        simp only [Option.bind_some]
        rw [e2]
        simp only [Option.bind_some]
        rw [if_pos q5, if_pos q6, e3]
        simp only [Option.bind_some]
        rw [if_pos c1, if_pos q1, if_pos (by omega), if_pos (by omega), if_pos (by rw [size_app]; omega), w64 (by omega) (by omega), hn1]
        exact g4 k (by omega)
      · by_cases c2 : p3 = 1
        · obtain ⟨t', a', s', g1, g2, g3, K, g4⟩ := go (t.extract 0 p1.toNat ++ strOfNums [bt w p2] ++ t.extract (p1 + 1).toNat t.size) (by rw [size_app, size_app, x1, x3, one1]; omega)
          refine ⟨t', a', s', g1, g2, g3, K + 2, fun k hk => ?_⟩
          obtain ⟨k, rfl⟩ : ∃ m, k = m + 2 := ⟨k - 2, by omega⟩
          simp only [spec_l1Cur_spoilt.l0]
          rw [if_pos (by omega)]
          simp only [spec_l1Cur_spoilt.j1]
          rw [if_pos (by simp; omega), e1]
          simp only [Option.bind_some]
          rw [e2]
          simp only [Option.bind_some]
          rw [if_pos q5, if_pos q6, e3]
          simp only [Option.bind_some]
          have hp1 : wrap64 (p1 + 1) = p1 + 1 := w64 (by omega) (by omega)
          rw [if_neg c1, if_pos c2, if_pos q1, if_pos (by omega), if_pos (by omega), hp1, if_pos (by omega), if_pos (by omega), if_pos (by rw [size_app]; omega), w64 (by omega) (by omega), hn1]
          exact g4 k (by omega)
        · obtain ⟨t', a', s', g1, g2, g3, K, g4⟩ := go (t.extract 0 p1.toNat ++ t.extract (p1 + 1).toNat t.size) (by rw [size_app, x1, x3]; omega)
          refine ⟨t', a', s', g1, g2, g3, K + 2, fun k hk => ?_⟩
          obtain ⟨k, rfl⟩ : ∃ m, k = m + 2 := ⟨k - 2, by omega⟩
          simp only [spec_l1Cur_spoilt.l0]
          rw [if_pos (by omega)]
          simp only [spec_l1Cur_spoilt.j1]
          rw [if_pos (by simp; omega), e1]
          simp only [Option.bind_some]
          rw [e2]
          simp only [Option.bind_some]
          rw [if_pos q5, if_pos q6, e3]
          simp only [Option.bind_some]
          have hp1 : wrap64 (p1 + 1) = p1 + 1 := w64 (by omega) (by omega)
          simp only [hp1]
          simp (disch := omega) only [if_pos, if_neg, w64, hn1]
          exact g4 k (by omega)
theorem spoilt_ev {c : List Int} (hc : okCode c) (a s : Int) (t w : ByteArray) (hw : 0 < w.size) (hw2 : w.size ≤ 1000) (h0 : 0 ≤ a) (h1 : a ≤ 1900000000000000000) (ht : t.size ≤ 90000000000) :
    ∃ t' a' s', t'.size ≤ t.size + 3 ∧ a ≤ a' ∧ a' ≤ a + 50 ∧ ∃ K, ∀ k, K ≤ k → spec_l1Cur_spoilt.f k c a s t w = some (t', a', s') := by
  obtain ⟨p1, a1, s1, e1, q1, q2, q3, q4⟩ := pick_ev hc a s 3 (by omega) (by omega) (by omega) (by omega)
  obtain ⟨m, rfl⟩ := Int.eq_ofNat_of_zero_le q1
  obtain ⟨t', a', s', g1, g2, g3, K, g4⟩ := spoilt_l hc w hw hw2 m t a1 s1 (by omega) (by omega) (by omega) (by omega)
  refine ⟨t', a', s', by omega, by omega, by omega, K, fun k hk => ?_⟩
  unfold spec_l1Cur_spoilt.f
  rw [e1]
  exact g4 k hk
theorem doc0_ev {c : List Int} (hc : okCode c) (a s : Int) (t : ByteArray) (h0 : 0 ≤ a) (h1 : a ≤ 1800000000000000000) (ht : t.size ≤ 1000000000) :
    ∃ t' a' s', t'.size ≤ 1000000010 ∧ a ≤ a' ∧ a' ≤ a + 100 ∧ ∃ K, ∀ k, K ≤ k → spec_l1Cur_doc.j0 k t c a s = some (t', a', s') := by
  obtain ⟨r, a1, s1, e1, h2, h3⟩ := one_ev hc a s 12 (by omega) (by omega) (by omega) (by omega)
  cases r with
  | false =>
    refine ⟨t, a1, s1, by omega, by omega, by omega, 1, fun k hk => ?_⟩
    obtain ⟨k, rfl⟩ : ∃ m, k = m + 1 := ⟨k - 1, by omega⟩
    simp only [spec_l1Cur_doc.j0]
    rw [e1]; simp
  | true =>
    obtain ⟨t', a', s', g1, g2, g3, K, g4⟩ := spoilt_ev hc a1 s1 t (⟨#[65, 47, 97, 90]⟩ : ByteArray) (by decide) (by decide) (by omega) (by omega) (by omega)
    refine ⟨t', a', s', by omega, by omega, by omega, K + 1, fun k hk => ?_⟩
    obtain ⟨k, rfl⟩ : ∃ m, k = m + 1 := ⟨k - 1, by omega⟩
    simp only [spec_l1Cur_doc.j0]
    rw [e1]
    simp only [Option.bind_some, if_true]
    rw [g4 k (by omega)]; rfl
theorem doc_ev {c : List Int} (hc : okCode c) (a s : Int) (h0 : 0 ≤ a) (h1 : a ≤ 1700000000000000000) :
    ∃ t' a' s', t'.size ≤ 1000000010 ∧ a ≤ a' ∧ a' ≤ a + 2000000200 ∧ ∃ K, ∀ k, K ≤ k → spec_l1Cur_doc.f k c a s = some (t', a', s') := by
  have hb := cO_le 3 (by omega)
  have hs := sO_le 3 (by omega)
  obtain ⟨p1, a1, s1, e1, q1, q2, q3, q4⟩ := pick_ev hc a s 7 (by omega) (by omega) (by omega) (by omega)
  obtain ⟨t2, a2, s2, i1, i2, i3, K1, i4⟩ := inner_ev hc 3 (by omega) a1 s1 p1 (by omega) (by omega) (by omega) (by omega)
  obtain ⟨p3, a3, s3, e3, r1, r2, r3, r4⟩ := pick_ev hc a2 s2 30 (by omega) (by omega) (by omega) (by omega)
  by_cases c1 : p3 = 0
  · obtain ⟨t4, a4, s4, j1, j2, j3, K2, j4⟩ := inner_ev hc 3 (by omega) a3 s3 60 (by omega) (by omega) (by omega) (by omega)
    obtain ⟨t', a', s', g1, g2, g3, K, g4⟩ := doc0_ev hc a4 s4 t4 (by omega) (by omega) (by omega)
    refine ⟨t', a', s', g1, by omega, by omega, max (max K K1) K2, fun k hk => ?_⟩
    unfold spec_l1Cur_doc.f
    have e5 := i4 k (by omega)
    have e6 := j4 k (by omega)
    have e7 := g4 k (by omega)
    simp only [Int.cast_ofNat_Int] at e5 e6
    rw [e1]; simp only [Option.bind_some]
    rw [e5]; simp only [Option.bind_some]
    rw [e3]; simp only [Option.bind_some]
    rw [if_pos c1, e6]; simp only [Option.bind_some]
    exact e7
  · by_cases c2 : p3 = 1
    · obtain ⟨u, a4, s4, e4, _, hu, h4, h5⟩ := of_ev hc a3 s3 ([(⟨#[65, 65, 65, 65, 65, 65, 65, 65, 65, 65, 65, 65, 47, 47, 47, 47, 47, 47, 47, 47, 47, 47, 47, 47]⟩ : ByteArray), (⟨#[65, 65, 65, 65, 65, 65, 65, 65, 65, 65, 65, 65, 65, 47, 47, 47, 47, 47, 47, 47, 47, 47, 47, 47, 47, 47]⟩ : ByteArray)] : List ByteArray) 30 (by omega) (by omega) (by simp) (by simp) (by decide)
      obtain ⟨t', a', s', g1, g2, g3, K, g4⟩ := doc0_ev hc a4 s4 u (by omega) (by omega) (by omega)
      refine ⟨t', a', s', g1, by omega, by omega, max K K1, fun k hk => ?_⟩
      unfold spec_l1Cur_doc.f
      have e5 := i4 k (by omega)
      have e7 := g4 k (by omega)
      simp only [Int.cast_ofNat_Int] at e5
      rw [e1]; simp only [Option.bind_some]
      rw [e5]; simp only [Option.bind_some]
      rw [e3]; simp only [Option.bind_some]
      rw [if_neg c1, if_pos c2, e4]; simp only [Option.bind_some]
      exact e7
    · obtain ⟨t', a', s', g1, g2, g3, K, g4⟩ := doc0_ev hc a3 s3 t2 (by omega) (by omega) (by omega)
      refine ⟨t', a', s', g1, by omega, by omega, max K K1, fun k hk => ?_⟩
      unfold spec_l1Cur_doc.f
      have e5 := i4 k (by omega)
      have e7 := g4 k (by omega)
      simp only [Int.cast_ofNat_Int] at e5
      rw [e1]; simp only [Option.bind_some]
      rw [e5]; simp only [Option.bind_some]
      rw [e3]; simp only [Option.bind_some]
      rw [if_neg c1, if_neg c2]
      exact e7

/-! the draw of a command ends -/
theorem cmd5_ev {c : List Int} (hc : okCode c) (a st kd at_ tz : Int) (w : ByteArray) (h0 : 0 ≤ a) (h1 : a ≤ 2000000000000000000) (hw : w.size ≤ 3) : ∃ r, r.2.2.2.1.size ≤ 3 ∧ ∀ k, 1 ≤ k → spec_l1Cur_command.j5 k c a st kd at_ tz w = some r := by
  obtain ⟨b, a1, s1, e1, g1, g2⟩ := one_ev hc a st 40 h0 (by omega) (by omega) (by omega)
  cases b with
  | false =>
    refine ⟨(kd, at_, tz, w, a1, s1), hw, fun k hk => ?_⟩
    obtain ⟨k, rfl⟩ : ∃ m, k = m + 1 := ⟨k - 1, by omega⟩
    simp only [spec_l1Cur_command.j5]
    rw [e1, Option.bind_some, if_neg (by simp)]
  | true =>
    obtain ⟨r2, a2, s2, e2, -, -, g3, g4⟩ := pick_ev hc a1 s1 11 (by omega) (by omega) (by omega) (by omega)
    obtain ⟨r3, a3, s3, e3, -, -, g5, g6⟩ := pick_ev hc a2 s2 9 (by omega) (by omega) (by omega) (by omega)
    obtain ⟨r4, a4, s4, e4, -, -, g7, g8⟩ := pick_ev hc a3 s3 9 (by omega) (by omega) (by omega) (by omega)
    obtain ⟨r5, a5, s5, e5, -, g9, -⟩ := of_ev hc a4 s4 ([(⟨#[]⟩ : ByteArray), (⟨#[90]⟩ : ByteArray), (⟨#[65]⟩ : ByteArray)]) 3 (by omega) (by omega) (by decide) (by decide) (by intro x hx; simp at hx; rcases hx with rfl | rfl | rfl <;> decide)
    refine ⟨(wrap64 (r2 - 1), wrap64 (r3 - 1), wrap64 (r4 - 1), r5, a5, s5), g9, fun k hk => ?_⟩
    obtain ⟨k, rfl⟩ : ∃ m, k = m + 1 := ⟨k - 1, by omega⟩
    simp only [spec_l1Cur_command.j5]
    rw [e1, Option.bind_some, if_pos rfl, e2, Option.bind_some, e3, Option.bind_some, e4, Option.bind_some, e5, Option.bind_some]
theorem cmd4_ev {c : List Int} (hc : okCode c) (a st kd at_ tz : Int) (w s : ByteArray) (hs : s.size ≤ 10000000000) (l : List Int) (b : Bool) (hl : l.length ≤ 10000000000) (hb : b = true → 0 < l.length) (h0 : 0 ≤ a) (h1 : a ≤ 1900000000000000000) (hw : w.size ≤ 3) : ∃ r, r.2.2.2.1.size ≤ 3 ∧ ∀ k, 2 ≤ k → spec_l1Cur_command.j4 k s l b c a st kd at_ tz w = some r := by
  have e0 : wrap64 ((s.size : Int) + 1) = (s.size : Int) + 1 := w64 (by omega) (by omega)
  cases b with
  | false =>
    obtain ⟨r1, a1, s1, e1, -, -, g1, g2⟩ := pick_ev hc a st ((s.size : Int) + 1) h0 (by omega) (by omega) (by omega)
    obtain ⟨r, g3, h⟩ := cmd5_ev hc a1 s1 kd at_ r1 w (by omega) (by omega) hw
    refine ⟨r, g3, fun k hk => ?_⟩
    obtain ⟨k, rfl⟩ : ∃ m, k = m + 1 := ⟨k - 1, by omega⟩
    simp only [spec_l1Cur_command.j4]
    rw [if_neg (by simp), e0, e1, Option.bind_some, h k (by omega)]
  | true =>
    have hl' := hb rfl
    obtain ⟨r1, a1, s1, e1, q1, q2, g1, g2⟩ := pick_ev hc a st (l.length : Int) h0 (by omega) (by omega) (by omega)
    obtain ⟨r2, a2, s2, e2, -, -, g3, g4⟩ := pick_ev hc a1 s1 ((s.size : Int) + 1) (by omega) (by omega) (by omega) (by omega)
    obtain ⟨r, g5, h⟩ := cmd5_ev hc a2 s2 kd (rd l r1) r2 w (by omega) (by omega) hw
    refine ⟨r, g5, fun k hk => ?_⟩
    obtain ⟨k, rfl⟩ : ∃ m, k = m + 1 := ⟨k - 1, by omega⟩
    simp only [spec_l1Cur_command.j4]
    rw [if_pos trivial, e1, Option.bind_some, if_pos q1, if_pos q2, e0, e2, Option.bind_some, h k (by omega)]
theorem cmd0_l {c : List Int} (hc : okCode c) (a st kd at_ tz : Int) (w s : ByteArray) (hs : s.size ≤ 10000000000) (h0 : 0 ≤ a) (h1 : a ≤ 1850000000000000000) (hw : w.size ≤ 3) : ∀ (d i : Nat) (x : List Int), i + d = s.size → x.length ≤ i → ∃ r, r.2.2.2.1.size ≤ 3 ∧ ∀ k, d + 4 ≤ k → spec_l1Cur_command.l0 k s x (i : Int) c a st kd at_ tz w = some r := by
  intro d
  induction d with
  | zero =>
    intro i x hi hx
    by_cases hl : 0 < x.length
    · obtain ⟨b, a1, s1, e1, g1, g2⟩ := one_ev hc a st 8 h0 (by omega) (by omega) (by omega)
      obtain ⟨r, g3, h⟩ := cmd4_ev hc a1 s1 kd at_ tz w s hs x (!b) (by omega) (fun _ => hl) (by omega) (by omega) hw
      refine ⟨r, g3, fun k hk => ?_⟩
      obtain ⟨k, rfl⟩ : ∃ m, k = m + 1 := ⟨k - 1, by omega⟩
      simp only [spec_l1Cur_command.l0]
      rw [if_neg (by omega), if_pos (by omega), e1, Option.bind_some, h k (by omega)]
    · obtain ⟨r, g3, h⟩ := cmd4_ev hc a st kd at_ tz w s hs x false (by omega) (fun h => by cases h) h0 (by omega) hw
      refine ⟨r, g3, fun k hk => ?_⟩
      obtain ⟨k, rfl⟩ : ∃ m, k = m + 1 := ⟨k - 1, by omega⟩
      simp only [spec_l1Cur_command.l0]
      rw [if_neg (by omega), if_neg (by omega), h k (by omega)]
  | succ d ih =>
    intro i x hi hx
    have e2 : Aside0 (wrap64 ((i : Int) + 1) = ((i + 1 : Nat) : Int)) := ⟨by rw [w64 (by omega) (by omega)]; omega⟩
    obtain ⟨r1, g1, k1⟩ := ih (i + 1) x (by omega) (by omega)
    obtain ⟨r2, g2, k2⟩ := ih (i + 1) (x ++ [(i : Int)]) (by omega) (by rw [List.length_append, List.length_singleton]; omega)
    have hlt : (i : Int) < (s.size : Int) := by omega
    have hnn : 0 ≤ (i : Int) := by omega
    have hxl : x.length < 17592186044416 := by omega
    cases ho : nmB (bt s (i : Int)) with
    | false =>
      refine ⟨r1, g1, fun k hk => ?_⟩
      obtain ⟨k, rfl⟩ : ∃ m, k = m + 1 := ⟨k - 1, by omega⟩
      simp only [spec_l1Cur_command.l0]
      rw [if_pos hlt, if_pos hnn, spec_l1Open_eq, ho, Option.bind_some, if_neg (by simp), e2.out, k1 k (by omega)]
    | true =>
      by_cases h6 : kd = 6
      · by_cases hp : (i : Int) > 0
        · have e3 : Aside0 (wrap64 ((i : Int) - 1) = (i : Int) - 1) := ⟨w64 (by omega) (by omega)⟩
          have hq0 : 0 ≤ (i : Int) - 1 := by omega
          have hq1 : (i : Int) - 1 < (s.size : Int) := by omega
          by_cases h47 : bt s ((i : Int) - 1) = 47
          · refine ⟨r2, g2, fun k hk => ?_⟩
            obtain ⟨k, rfl⟩ : ∃ m, k = m + 1 := ⟨k - 1, by omega⟩
            simp only [spec_l1Cur_command.l0]
            rw [if_pos hlt, if_pos hnn, spec_l1Open_eq, ho, Option.bind_some, if_pos rfl, if_pos h6, if_pos hp, e3.out, if_pos hq0, if_pos hq1, if_pos h47, if_pos hxl, e2.out, k2 k (by omega)]
          · refine ⟨r1, g1, fun k hk => ?_⟩
            obtain ⟨k, rfl⟩ : ∃ m, k = m + 1 := ⟨k - 1, by omega⟩
            simp only [spec_l1Cur_command.l0]
            rw [if_pos hlt, if_pos hnn, spec_l1Open_eq, ho, Option.bind_some, if_pos rfl, if_pos h6, if_pos hp, e3.out, if_pos hq0, if_pos hq1, if_neg h47, e2.out, k1 k (by omega)]
        · refine ⟨r1, g1, fun k hk => ?_⟩
          obtain ⟨k, rfl⟩ : ∃ m, k = m + 1 := ⟨k - 1, by omega⟩
          simp only [spec_l1Cur_command.l0]
          rw [if_pos hlt, if_pos hnn, spec_l1Open_eq, ho, Option.bind_some, if_pos rfl, if_pos h6, if_neg hp, e2.out, k1 k (by omega)]
      · refine ⟨r2, g2, fun k hk => ?_⟩
        obtain ⟨k, rfl⟩ : ∃ m, k = m + 1 := ⟨k - 1, by omega⟩
        simp only [spec_l1Cur_command.l0]
        rw [if_pos hlt, if_pos hnn, spec_l1Open_eq, ho, Option.bind_some, if_pos rfl, if_neg h6, if_pos hxl, e2.out, k2 k (by omega)]
theorem cmd1_ev {c : List Int} (hc : okCode c) (a st kd at_ tz : Int) (w s : ByteArray) (hs : s.size ≤ 10000000000) (b : Bool) (hb : b = true → ∃ r K, ∀ k, K ≤ k → spec_l1Match.f k s at_ = some r) (h0 : 0 ≤ a) (h1 : a ≤ 1850000000000000000) (hw : w.size ≤ 3) : ∃ r K, r.2.2.2.1.size ≤ 3 ∧ ∀ k, K ≤ k → spec_l1Cur_command.j1 k s b c a st kd at_ tz w = some r := by
  cases b with
  | false =>
    obtain ⟨r1, a1, s1, e1, -, -, g1, g2⟩ := pick_ev hc a st 4 h0 (by omega) (by omega) (by omega)
    obtain ⟨r, g3, h⟩ := cmd5_ev hc a1 s1 kd at_ (wrap64 (at_ + r1)) w (by omega) (by omega) hw
    refine ⟨r, 2, g3, fun k hk => ?_⟩
    obtain ⟨k, rfl⟩ : ∃ m, k = m + 1 := ⟨k - 1, by omega⟩
    simp only [spec_l1Cur_command.j1]
    rw [if_neg (by simp), e1, Option.bind_some, h k (by omega)]
  | true =>
    obtain ⟨r1, K, hK⟩ := hb rfl
    obtain ⟨r, g3, h⟩ := cmd5_ev hc a st kd at_ (wrap64 (r1 + 1)) w h0 (by omega) hw
    refine ⟨r, K + 2, g3, fun k hk => ?_⟩
    obtain ⟨k, rfl⟩ : ∃ m, k = m + 1 := ⟨k - 1, by omega⟩
    simp only [spec_l1Cur_command.j1]
    rw [if_pos trivial, hK k (by omega), Option.bind_some, h k (by omega)]
theorem cmd2_ev {c : List Int} (hc : okCode c) (a st kd at_ tz : Int) (w s : ByteArray) (hs : s.size ≤ 10000000000) (b : Bool) (h0 : 0 ≤ a) (h1 : a ≤ 1850000000000000000) (hw : w.size ≤ 3) : ∃ r K, r.2.2.2.1.size ≤ 3 ∧ ∀ k, K ≤ k → spec_l1Cur_command.j2 k s b c a st kd at_ tz w = some r := by
  cases b with
  | false =>
    obtain ⟨r, g3, h⟩ := cmd5_ev hc a st kd at_ tz w h0 (by omega) hw
    refine ⟨r, 2, g3, fun k hk => ?_⟩
    obtain ⟨k, rfl⟩ : ∃ m, k = m + 1 := ⟨k - 1, by omega⟩
    simp only [spec_l1Cur_command.j2]
    rw [if_neg (by simp), h k (by omega)]
  | true =>
    obtain ⟨r, g3, h⟩ := cmd0_l hc a st kd at_ tz w s hs h0 h1 hw s.size 0 [] (by omega) (Nat.le_refl _)
    refine ⟨r, s.size + 5, g3, fun k hk => ?_⟩
    obtain ⟨k, rfl⟩ : ∃ m, k = m + 1 := ⟨k - 1, by omega⟩
    simp only [spec_l1Cur_command.j2]
    rw [if_pos trivial]
    exact h k (by omega)
theorem cmdJ0_ev {c : List Int} (hc : okCode c) (a st kd tz q : Int) (at_ : Nat) (w s : ByteArray) (hs : s.size ≤ 10000000000) (b : Bool) (h0 : 0 ≤ a) (h1 : a ≤ 1840000000000000000) (hw : w.size ≤ 3) : ∃ r K, r.2.2.2.1.size ≤ 3 ∧ ∀ k, K ≤ k → spec_l1Cur_command.j0 k s q b c a st kd (at_ : Int) tz w = some r := by
  cases b with
  | true =>
    obtain ⟨rf, Kf, gf, hf⟩ := cmd1_ev hc a st kd (at_ : Int) tz w s hs false (fun h => by cases h) h0 (by omega) hw
    by_cases hlt : (at_ : Int) < (s.size : Int)
    · cases ho : nmB (bt s (at_ : Int)) with
      | false =>
        refine ⟨rf, Kf + 1, gf, fun k hk => ?_⟩
        obtain ⟨k, rfl⟩ : ∃ m, k = m + 1 := ⟨k - 1, by omega⟩
        simp only [spec_l1Cur_command.j0]
        rw [if_pos trivial, if_pos hlt, if_pos (by omega), spec_l1Open_eq, ho, Option.bind_some, if_neg (by simp), hf k (by omega)]
      | true =>
        obtain ⟨K1, hK1⟩ := spec_GoodDoc_ev s (by omega)
        cases hd : docB s with
        | false =>
          refine ⟨rf, Kf + K1 + 1, gf, fun k hk => ?_⟩
          obtain ⟨k, rfl⟩ : ∃ m, k = m + 1 := ⟨k - 1, by omega⟩
          simp only [spec_l1Cur_command.j0]
          rw [if_pos trivial, if_pos hlt, if_pos (by omega), spec_l1Open_eq, ho, Option.bind_some, if_pos rfl, hK1 k (by omega), hd, Option.bind_some, if_neg (by simp), hf k (by omega)]
        | true =>
          obtain ⟨ht, hbal⟩ := (docB_iff s).1 hd
          obtain ⟨b, hm⟩ := mate_ex hbal ho (by omega)
          obtain ⟨K2, hK2⟩ := spec_l1Match_open (by omega) hm hbal
          obtain ⟨v, a1, s1, e1, g1, g2⟩ := one_ev hc a st 2 h0 (by omega) (by omega) (by omega)
          obtain ⟨r, K3, g3, h3⟩ := cmd1_ev hc a1 s1 kd (at_ : Int) tz w s hs v (fun _ => ⟨_, K2, hK2⟩) (by omega) (by omega) hw
          refine ⟨r, K1 + K3 + 1, g3, fun k hk => ?_⟩
          obtain ⟨k, rfl⟩ : ∃ m, k = m + 1 := ⟨k - 1, by omega⟩
          simp only [spec_l1Cur_command.j0]
          rw [if_pos trivial, if_pos hlt, if_pos (by omega), spec_l1Open_eq, ho, Option.bind_some, if_pos rfl, hK1 k (by omega), hd, Option.bind_some, if_pos rfl, e1, Option.bind_some, h3 k (by omega)]
    · refine ⟨rf, Kf + 1, gf, fun k hk => ?_⟩
      obtain ⟨k, rfl⟩ : ∃ m, k = m + 1 := ⟨k - 1, by omega⟩
      simp only [spec_l1Cur_command.j0]
      rw [if_pos trivial, if_neg hlt, hf k (by omega)]
  | false =>
    obtain ⟨r1, K1, g1, k1⟩ := cmd2_ev hc a st kd (at_ : Int) tz w s hs (q == 4) h0 (by omega) hw
    obtain ⟨r2, K2, g2, k2⟩ := cmd2_ev hc a st kd (at_ : Int) tz w s hs (q == 8) h0 (by omega) hw
    obtain ⟨r3, K3, g3, k3⟩ := cmd2_ev hc a st kd (at_ : Int) tz w s hs (q == 7) h0 (by omega) hw
    obtain ⟨r4, K4, g4, k4⟩ := cmd2_ev hc a st kd (at_ : Int) tz w s hs (q == 6) h0 (by omega) hw
    by_cases q4 : q = 4
    · refine ⟨r1, K1 + 1, g1, fun k hk => ?_⟩
      obtain ⟨k, rfl⟩ : ∃ m, k = m + 1 := ⟨k - 1, by omega⟩
      simp only [spec_l1Cur_command.j0]
      rw [if_neg (by simp), if_pos q4, k1 k (by omega)]
    · by_cases q8 : q = 8
      · refine ⟨r2, K2 + 1, g2, fun k hk => ?_⟩
        obtain ⟨k, rfl⟩ : ∃ m, k = m + 1 := ⟨k - 1, by omega⟩
        simp only [spec_l1Cur_command.j0]
        rw [if_neg (by simp), if_neg q4, if_pos q8, k2 k (by omega)]
      · by_cases q7 : q = 7
        · refine ⟨r3, K3 + 1, g3, fun k hk => ?_⟩
          obtain ⟨k, rfl⟩ : ∃ m, k = m + 1 := ⟨k - 1, by omega⟩
          simp only [spec_l1Cur_command.j0]
          rw [if_neg (by simp), if_neg q4, if_neg q8, if_pos q7, k3 k (by omega)]
        · refine ⟨r4, K4 + 1, g4, fun k hk => ?_⟩
          obtain ⟨k, rfl⟩ : ∃ m, k = m + 1 := ⟨k - 1, by omega⟩
          simp only [spec_l1Cur_command.j0]
          rw [if_neg (by simp), if_neg q4, if_neg q8, if_neg q7, k4 k (by omega)]
theorem command_ev {c : List Int} (hc : okCode c) (a st : Int) (s : ByteArray) (hs : s.size ≤ 10000000000) (h0 : 0 ≤ a) (h1 : a ≤ 1800000000000000000) : ∃ r K, r.2.2.2.1.size ≤ 3 ∧ ∀ k, K ≤ k → spec_l1Cur_command.f k c a st s = some r := by
  have e0 : wrap64 ((s.size : Int) + 1) = (s.size : Int) + 1 := w64 (by omega) (by omega)
  obtain ⟨r1, a1, s1, e1, -, -, g1, g2⟩ := pick_ev hc a st 8 h0 (by omega) (by omega) (by omega)
  obtain ⟨r2, a2, s2, e2, q1, q2, g3, g4⟩ := pick_ev hc a1 s1 ((s.size : Int) + 1) (by omega) (by omega) (by omega) (by omega)
  obtain ⟨w, a3, s3, e3, -, g5, g6, g7⟩ := of_ev hc a2 s2 ([(⟨#[65]⟩ : ByteArray), (⟨#[66]⟩ : ByteArray), (⟨#[120]⟩ : ByteArray), (⟨#[67]⟩ : ByteArray), (⟨#[65, 121, 47]⟩ : ByteArray)]) 3 (by omega) (by omega) (by decide) (by decide) (by intro x hx; simp at hx; rcases hx with rfl | rfl | rfl | rfl | rfl <;> decide)
  have e4 : r2 = ((r2.toNat : Nat) : Int) := by omega
  by_cases h2 : wrap64 (1 + r1) = 2
  · obtain ⟨r, K, g8, h⟩ := cmdJ0_ev hc a3 s3 (wrap64 (1 + r1)) r2 (wrap64 (1 + r1)) r2.toNat w s hs (wrap64 (1 + r1) == 2) (by omega) (by omega) g5
    rw [← e4] at h
    refine ⟨r, K, g8, fun k hk => ?_⟩
    unfold spec_l1Cur_command.f
    rw [e1, Option.bind_some, e0, e2, Option.bind_some, e3, Option.bind_some, if_pos h2, h k hk]
  · obtain ⟨r, K, g8, h⟩ := cmdJ0_ev hc a3 s3 (wrap64 (1 + r1)) r2 (wrap64 (1 + r1)) r2.toNat w s hs (wrap64 (1 + r1) == 3) (by omega) (by omega) g5
    rw [← e4] at h
    refine ⟨r, K, g8, fun k hk => ?_⟩
    unfold spec_l1Cur_command.f
    rw [e1, Option.bind_some, e0, e2, Option.bind_some, e3, Option.bind_some, if_neg h2, h k hk]

theorem FnUndoneBy : laws_FnUndoneBy.Pure := by
  intro l hl hm hw
  by_cases hbig : (l.length : Int) > 1048576
  · exact ⟨0, by unfold laws_FnUndoneBy.f; rw [if_pos hbig]⟩
  have hc := okCode_of hw
  obtain ⟨s, a1, s1, d1, d2, d3, K1, e1⟩ := doc_ev hc 0 0 (by omega) (by omega)
  obtain ⟨⟨kd, at_, tz, w, a2, s2⟩, K2, d4, e2⟩ := command_ev hc a1 s1 s (by omega) (by omega) (by omega)
  have d4' : w.size ≤ 3 := d4
  have hdr : ∀ k, K1 + K2 ≤ k → spec_DrawDoCommand.f k l = some (s, kd, at_, tz, w) := fun k hk => by
    unfold spec_DrawDoCommand.f spec_DrawCompileCommand.f
    rw [e1 _ (by omega), Option.bind_some]
    dsimp only
    rw [e2 _ (by omega), Option.bind_some]; rfl
  -- what the law comes to where nothing is done
  have hno : ∀ K3, (∀ k, K3 ≤ k → impl_DoCommand.f k s kd at_ tz w = some (⟨#[]⟩, false) ∧ spec_DoCommand.f k s kd at_ tz w = some (⟨#[]⟩, false)) → ∃ k, laws_FnUndoneBy.f k l = some true := fun K3 h3 => by
    refine ⟨K1 + K2 + K3 + 1, ?_⟩
    unfold laws_FnUndoneBy.f
    rw [if_neg hbig, hdr _ (by omega), Option.bind_some]
    dsimp only
    rw [(h3 _ (by omega)).1, Option.bind_some, (h3 _ (by omega)).2, Option.bind_some]
    dsimp only
    rw [if_neg (by simp), laws_FnUndoneBy.j0, if_neg (by simp), if_neg (by simp)]
    simp [nil_toList]
  have hsz : s.size ≤ 140737488351232 := by omega
  obtain ⟨K0, h0⟩ := spec_GoodDoc_ev s hsz
  cases hd : docB s with
  | false =>
    obtain ⟨K, hK⟩ := do_stop hsz kd at_ tz w (.inl hd)
    refine hno (K0 + K) (fun k hk => ⟨?_, ?_⟩)
    · unfold impl_DoCommand.f
      rw [hK k (by omega)]; rfl
    · unfold spec_DoCommand.f
      rw [h0 k (by omega), hd, Option.bind_some, if_neg (by simp)]
  | true =>
    obtain ⟨o, ⟨K3, h1⟩, ⟨Y, T, K4, h2⟩, ho⟩ := do_all hd kd at_ tz w (by omega)
    cases o with
    | none =>
      refine hno (K0 + K3 + K4) (fun k hk => ⟨?_, ?_⟩)
      · unfold impl_DoCommand.f
        rw [h1 k (by omega)]; rfl
      · unfold spec_DoCommand.f
        rw [h0 k (by omega), hd, Option.bind_some, if_pos rfl, h2 k (by omega)]; rfl
    | some p =>
      obtain ⟨hci, p0, p1⟩ := ho p rfl
      cases hp : docB p.2 with
      | false =>
        refine hno (K0 + K3 + K4) (fun k hk => ⟨?_, ?_⟩)
        · unfold impl_DoCommand.f
          rw [h1 k (by omega), Option.bind_some]
          simp [doI, hp]
        · unfold spec_DoCommand.f
          rw [h0 k (by omega), hd, Option.bind_some, if_pos rfl, h2 k (by omega), Option.bind_some]
          simp [doS, hp]
      | true =>
        have e : doI (some p) = (p.2, encF p.1, true) := by simp [doI, hp]
        have e' : doS Y T (some p) = (encF p.1, p.2, true) := by simp [doS, hp]
        have q1 : ∀ k, K3 ≤ k → impl_DoCommand.f k s kd at_ tz w = some (p.2, true) := fun k hk => by
          unfold impl_DoCommand.f
          rw [h1 k (by omega), Option.bind_some, e]
        have q2 : ∀ k, K0 + K4 ≤ k → spec_DoCommand.f k s kd at_ tz w = some (p.2, true) := fun k hk => by
          unfold spec_DoCommand.f
          rw [h0 k (by omega), hd, Option.bind_some, if_pos rfl, h2 k (by omega), Option.bind_some, e']
          rfl
        have hs := textB_size ((docB_iff s).1 hd).1
        obtain ⟨a, rfl⟩ := Int.eq_ofNat_of_zero_le p0
        have ha : a ≤ s.size := by omega
        have wa : Aside0 (wrap64 ((a : Int) + 1) = ((a + 1 : Nat) : Int)) := ⟨by rw [w64 (by omega) (by omega)]; omega⟩
        -- the law from here
        have hgo : ∀ K5, (∀ k, K5 ≤ k → laws_FnUndoneBy.j0 k s p.2 true false kd (a : Int) tz w = some true) → ∃ k, laws_FnUndoneBy.f k l = some true := fun K5 h5 => by
          refine ⟨K0 + K1 + K2 + K3 + K4 + K5, ?_⟩
          unfold laws_FnUndoneBy.f
          rw [if_neg hbig, hdr _ (by omega), Option.bind_some]
          dsimp only
          rw [q1 _ (by omega), Option.bind_some, q2 _ (by omega), Option.bind_some]
          dsimp only
          rw [if_neg (by simp), bne_self_eq_false]
          exact h5 _ (by omega)
        have hst : ∀ k, laws_FnUndoneBy.j0 (k + 1) s p.2 true false kd (a : Int) tz w = _ := fun k => by
          rw [laws_FnUndoneBy.j0, if_neg (by simp), if_pos rfl, wa.out]
        by_cases c5 : kd = 5
        · subst c5
          obtain ⟨K5, h5⟩ := undo5 hd ha hci hp
          refine hgo (K5 + 1) (fun k hk => ?_)
          obtain ⟨k, rfl⟩ : ∃ m, k = m + 1 := ⟨k - 1, by omega⟩
          rw [hst, if_pos rfl, h5 k (by omega), Option.bind_some]
          simp
        · by_cases c3 : kd = 3
          · subst c3
            by_cases hz : 0 ≤ tz ∧ tz ≤ (s.size : Int)
            · obtain ⟨b, rfl⟩ := Int.eq_ofNat_of_zero_le hz.1
              obtain ⟨K5, h5⟩ := undo3 hd ha (by omega) hci hp
              refine hgo (K5 + 1) (fun k hk => ?_)
              obtain ⟨k, rfl⟩ : ∃ m, k = m + 1 := ⟨k - 1, by omega⟩
              rw [hst, if_neg c5, if_pos rfl, h5 k (by omega), Option.bind_some]
              simp
            · exfalso
              obtain ⟨K5, h5⟩ := do_stop hsz 3 (a : Int) tz w (.inr (.inr ⟨.inr (.inl rfl), hz⟩))
              have := (h1 (K3 + K5) (by omega)).symm.trans (h5 (K3 + K5) (by omega))
              rw [e] at this
              have := (Prod.mk.inj (Prod.mk.inj (Option.some.inj this)).2).2
              cases this
          · by_cases c8 : kd = 8
            · subst c8
              obtain ⟨a9, K5, h5⟩ := undo8 hd ha hci hp
              refine hgo (K5 + 1) (fun k hk => ?_)
              obtain ⟨k, rfl⟩ : ∃ m, k = m + 1 := ⟨k - 1, by omega⟩
              rw [hst, if_neg c5, if_neg c3, if_pos rfl, if_pos (by omega), if_pos (by omega), if_pos (by omega), Int.toNat_natCast, Int.toNat_natCast, h5 k (by omega), Option.bind_some]
              simp
            · by_cases c1 : kd = 1
              · subst c1
                obtain ⟨K6, h6⟩ := impl_GoodDoc_ev w (by omega)
                cases hg : docB w with
                | false =>
                  refine hgo (K6 + 1) (fun k hk => ?_)
                  obtain ⟨k, rfl⟩ : ∃ m, k = m + 1 := ⟨k - 1, by omega⟩
                  rw [hst, if_neg c5, if_neg c3, if_neg c8, if_pos rfl, h6 k (by omega), hg, Option.bind_some, if_neg (by simp)]
                | true =>
                  obtain ⟨K5, h5⟩ := undo1 hd ha (by omega) hci hp hg
                  refine hgo (K5 + K6 + 1) (fun k hk => ?_)
                  obtain ⟨k, rfl⟩ : ∃ m, k = m + 1 := ⟨k - 1, by omega⟩
                  have ww : Aside0 (wrap64 ((a : Int) + (w.size : Int)) = ((a + w.size : Nat) : Int)) := ⟨by rw [w64 (by omega) (by omega)]; omega⟩
                  rw [hst, if_neg c5, if_neg c3, if_neg c8, if_pos rfl, h6 k (by omega), hg, Option.bind_some, if_pos rfl, ww.out, h5 k (by omega), Option.bind_some]
                  simp
              · refine hgo 1 (fun k hk => ?_)
                obtain ⟨k, rfl⟩ : ∃ m, k = m + 1 := ⟨k - 1, by omega⟩
                rw [hst, if_neg c5, if_neg c3, if_neg c8, if_neg c1]

end Go.Proofs.Ytmigfgcpdelnfaa.Pure
