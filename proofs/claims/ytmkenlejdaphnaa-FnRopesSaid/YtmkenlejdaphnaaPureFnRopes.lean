/- A text comes back from its rope, byte by byte in no more steps than it is deep, and ropes are joined as texts are, for all bytes that ropes are drawn from. -/
import Derived.Test.YtmkenlejdaphnaaAFnRopesx14
set_option linter.unusedVariables false
set_option linter.unusedSimpArgs false
namespace Go.Proofs.Ytmkenlejdaphnaa.Pure
open Go.RowKit Go.Proofs.Ytmkenlejdaphnaa.AFnRopes Go.Proofs.YtmkenlejdaphnaaW.PrintWords Go.Proofs.YtmkenlejdaphnaaW.PrintLast Go.Proofs.YtmkenlejdaphnaaW.PrintMore
theorem O_ {p : Prop} (h : p := by omega) : p := h
theorem bs_ : type_of% @Option.bind_some := @Option.bind_some
theorem tN_ : type_of% @Int.toNat_natCast := @Int.toNat_natCast
theorem zE_ : type_of% @ByteArray.size_extract := @ByteArray.size_extract
theorem zA_ : type_of% @ByteArray.size_append := @ByteArray.size_append
theorem lA_ : type_of% @List.length_append := @List.length_append
theorem lS_ : type_of% @List.length_singleton := @List.length_singleton
theorem ip_ : type_of% @if_pos := @if_pos
theorem iN_ : type_of% @if_neg := @if_neg
theorem lM_ : type_of% @List.length_map := @List.length_map

theorem w64 {i : Int} (h0 : -4611686018427387904 ≤ i) (h : i ≤ 4611686018427387904) : wrap64 i = i := by
 unfold wrap64; omega
def nmB (c : Int) : Bool := decide (65 ≤ c) && decide (c ≤ 70)
def plB (c : Int) : Bool := (decide (97 ≤ c) && decide (c ≤ 122)) || ((decide (48 ≤ c) && decide (c ≤ 57)) || (decide (c = 32) || (decide (c = 46) || decide (c = 44))))
def okB (c : Int) : Bool := nmB c || (plB c || decide (c = 47))
def okN (s : ByteArray) : Nat → Nat → Bool
 | 0, _ => true
 | d + 1, i => okB (bt s i) && okN s d (i + 1)
def textB (s : ByteArray) : Bool := okN s s.size 0 && decide (s.size ≤ 300)
theorem textB_size {s : ByteArray} (h : textB s = true) : s.size ≤ 300 := by
 unfold textB at h; simp at h; exact h.2
theorem impl_isName_eq (c : Int) : impl_isName.f c = some (nmB c) := by
 unfold impl_isName.f nmB
 by_cases h1 : c ≥ 65 <;> simp [h1] <;> omega
theorem impl_isPlain_eq (c : Int) : impl_isPlain.f c = some (plB c) := by
 unfold impl_isPlain.f plB
 by_cases h1 : 97 ≤ c <;> by_cases h2 : c ≤ 122 <;> by_cases h3 : 48 ≤ c <;> by_cases h4 : c ≤ 57 <;> by_cases h5 : c = 32 <;> by_cases h6 : c = 46 <;> simp [h1, h2, h3, h4, h5, h6] <;> rfl
theorem impl_GoodText_l (s : ByteArray) (hs : s.size ≤ 140737488351232) : ∀ (d i : Nat), i + d = s.size →
  ∃ K, ∀ k, K ≤ k → impl_GoodText.l0 k s (s.size : Int) (i : Int) = some (okN s d i && decide (s.size ≤ 300)) := by
 intro d
 induction d with
 | zero =>
  intro i hi
  refine ⟨1, fun k hk => ?_⟩
  obtain ⟨k, rfl⟩ : ∃ m, k = m + 1 := ⟨k - 1, O_⟩
  simp only [impl_GoodText.l0]
  rw [iN_ O_]
  simp [okN]
  omega
 | succ d ih =>
  intro i hi
  obtain ⟨K, hK⟩ := ih (i + 1) O_
  refine ⟨K + 1, fun k hk => ?_⟩
  obtain ⟨k, rfl⟩ : ∃ m, k = m + 1 := ⟨k - 1, O_⟩
  have hr := hK k O_
  simp only [impl_GoodText.l0]
  rw [ip_ O_, ip_ O_, ip_ O_, impl_isName_eq, bs_, impl_isPlain_eq, bs_, w64 O_ O_]
  have hc : ((i : Int) + 1) = ((i + 1 : Nat) : Int) := by omega
  rw [hc, hr]
  show _ = some ((okB (bt s i) && okN s d (i + 1)) && _)
  unfold okB
  cases nmB (bt s i) <;> cases plB (bt s i) <;> by_cases h : bt s i = 47 <;> simp [h]
theorem impl_GoodText_ev (s : ByteArray) (hs : s.size ≤ 140737488351232) : ∃ K, ∀ k, K ≤ k → impl_GoodText.f k s = some (textB s) := by
 obtain ⟨K, hK⟩ := impl_GoodText_l s hs s.size 0 O_
 exact ⟨K, fun k hk => by unfold impl_GoodText.f; exact hK k hk⟩
theorem spec_l1Open_eq (c : Int) : spec_l1Open.f c = some (nmB c) := by
 unfold spec_l1Open.f nmB
 by_cases h1 : c ≥ 65 <;> simp [h1] <;> omega
theorem spec_l1Plain_eq (c : Int) : spec_l1Plain.f c = some (plB c) := by
 unfold spec_l1Plain.f plB
 by_cases h1 : 97 ≤ c <;> by_cases h2 : c ≤ 122 <;> by_cases h3 : 48 ≤ c <;> by_cases h4 : c ≤ 57 <;> by_cases h5 : c = 32 <;> by_cases h6 : c = 46 <;> simp [h1, h2, h3, h4, h5, h6] <;> rfl
theorem spec_l1Text_l (s : ByteArray) (hs : s.size ≤ 140737488351232) : ∀ (d i : Nat), i + d = s.size →
  ∃ K, ∀ k, K ≤ k → spec_l1Text.l0 k s (i : Int) = some (okN s d i) := by
 intro d
 induction d with
 | zero =>
  intro i hi
  refine ⟨1, fun k hk => ?_⟩
  obtain ⟨k, rfl⟩ : ∃ m, k = m + 1 := ⟨k - 1, O_⟩
  simp only [spec_l1Text.l0]
  rw [iN_ O_]
  simp [okN]
 | succ d ih =>
  intro i hi
  obtain ⟨K, hK⟩ := ih (i + 1) O_
  refine ⟨K + 1, fun k hk => ?_⟩
  obtain ⟨k, rfl⟩ : ∃ m, k = m + 1 := ⟨k - 1, O_⟩
  have hr := hK k O_
  simp only [spec_l1Text.l0]
  rw [ip_ O_, ip_ O_, spec_l1Open_eq, bs_, spec_l1Plain_eq, bs_, w64 O_ O_]
  have hc : ((i : Int) + 1) = ((i + 1 : Nat) : Int) := by omega
  rw [hc, hr]
  show _ = some (okB (bt s i) && okN s d (i + 1))
  unfold okB
  cases nmB (bt s i) <;> cases plB (bt s i) <;> by_cases h : bt s i = 47 <;> simp [h]
theorem spec_l1Text_ev (s : ByteArray) (hs : s.size ≤ 140737488351232) : ∃ K, ∀ k, K ≤ k → spec_l1Text.f k s = some (okN s s.size 0) := by
 obtain ⟨K, hK⟩ := spec_l1Text_l s hs s.size 0 O_
 refine ⟨K, fun k hk => ?_⟩
 have h := hK k hk
 unfold spec_l1Text.f
 simp only [Int.cast_ofNat_Int] at h
 exact h
theorem spec_GoodText_ev (s : ByteArray) (hs : s.size ≤ 140737488351232) : ∃ K, ∀ k, K ≤ k → spec_GoodText.f k s = some (textB s) := by
 obtain ⟨K, h⟩ := spec_l1Text_ev s hs
 refine ⟨K, fun k hk => ?_⟩
 unfold spec_GoodText.f
 rw [h k hk, bs_]
 unfold textB
 cases okN s s.size 0 <;> simp <;> omega
theorem toList_data (s : ByteArray) : s.toList = s.data.toList := by
 have h : ∀ (n i : Nat) (r : List UInt8), s.size - i = n → ByteArray.toList.loop s i r = r.reverse ++ s.data.toList.drop i := by
  intro n
  induction n with
  | zero =>
   intro i r h
   unfold ByteArray.toList.loop
   rw [iN_ O_, List.drop_of_length_le (by rw [Array.length_toList]; show s.size ≤ i; omega)]; simp
  | succ n ih =>
   intro i r h
   have hi : i < s.size := by omega
   unfold ByteArray.toList.loop
   have e2 : s.data.toList.drop i = s.data.toList[i]'(by rw [Array.length_toList]; exact hi) :: s.data.toList.drop (i + 1) := List.drop_eq_getElem_cons (by rw [Array.length_toList]; exact hi)
   have e : s.get! i = s.data.toList[i]'(by rw [Array.length_toList]; exact hi) := by
    show s.data[i]! = _
    rw [getElem!_pos s.data i hi]; simp
   rw [ip_ hi, ih (i + 1) _ O_, e2, e, List.reverse_cons, List.append_assoc]; rfl
 unfold ByteArray.toList
 rw [h s.size 0 [] O_]; simp
theorem bt_data (s : ByteArray) (i : Nat) (h : i < s.size) : bt s (i : Int) = ((s.data.toList[i]'(by rw [Array.length_toList]; exact h)).toNat : Int) := by
 unfold bt
 rw [dif_pos O_]
 simp [ByteArray.getElem_eq_getElem_data]
theorem toList_eq_iff (a b : ByteArray) : a.toList = b.toList ↔ a.size = b.size ∧ ∀ j : Nat, j < a.size → bt a (j : Int) = bt b (j : Int) := by
 rw [toList_data, toList_data]
 constructor
 ·intro h
  have hl : a.size = b.size := by
   have := congrArg List.length h
   rw [Array.length_toList, Array.length_toList] at this; exact this
  refine ⟨hl, fun j hj => ?_⟩
  rw [bt_data a j hj, bt_data b j O_]
  simp only [h]
 ·intro ⟨hl, h⟩
  apply List.ext_getElem
  ·rw [Array.length_toList, Array.length_toList]; exact hl
  ·intro j h1 h2
   rw [Array.length_toList] at h1 h2
   have := h j h1
   rw [bt_data a j h1, bt_data b j h2] at this
   have h3 : (a.data.toList[j]'(by rw [Array.length_toList]; exact h1)).toNat = (b.data.toList[j]'(by rw [Array.length_toList]; exact h2)).toNat := by omega
   exact UInt8.toNat_inj.mp h3
theorem bt_extract (s : ByteArray) (i j n : Nat) (hj : j ≤ s.size) (hn : i + n < j) : bt (s.extract i j) (n : Int) = bt s ((i + n : Nat) : Int) := by
 have h1 : n < (s.extract i j).size := by rw [zE_]; omega
 unfold bt
 rw [dif_pos (by simpa using h1), dif_pos O_]
 simp only [tN_, ByteArray.getElem_extract]
def allB (b : ByteArray) : Prop := ∀ j : Nat, j < b.size → okB (bt b (j : Int)) = true
theorem okN_iff (b : ByteArray) : ∀ (d i : Nat), okN b d i = true ↔ ∀ j : Nat, i ≤ j → j < i + d → okB (bt b (j : Int)) = true
 | 0, i => by simp [okN]; intro j h1 h2; omega
 | d + 1, i => by
  simp only [okN, Bool.and_eq_true, okN_iff b d (i + 1)]
  constructor
  ·intro ⟨h1, h2⟩ j hj hj2
   by_cases e : j = i
   ·subst e; exact h1
   ·exact h2 j O_ O_
  ·intro h
   exact ⟨h i (Nat.le_refl _) O_, fun j h1 h2 => h j O_ O_⟩
theorem textB_iff (b : ByteArray) : textB b = true ↔ allB b ∧ b.size ≤ 300 := by
 unfold textB allB
 rw [Bool.and_eq_true, okN_iff, decide_eq_true_eq]
 constructor
 ·intro ⟨h1, h2⟩; exact ⟨fun j hj => h1 j (Nat.zero_le _) O_, h2⟩
 ·intro ⟨h1, h2⟩; exact ⟨fun j _ hj => h1 j O_, h2⟩
theorem allB_data (b : ByteArray) : allB b ↔ ∀ x ∈ b.data.toList, okB (x.toNat : Int) = true := by
 unfold allB
 constructor
 ·intro h x hx
  obtain ⟨j, hj, rfl⟩ := List.mem_iff_getElem.mp hx
  have hj' : j < b.size := by rw [Array.length_toList] at hj; exact hj
  have := h j hj'
  rw [bt_data b j hj'] at this
  exact this
 ·intro h j hj
  rw [bt_data b j hj]
  exact h _ (List.getElem_mem _)
theorem allB_append {a b : ByteArray} (ha : allB a) (hb : allB b) : allB (a ++ b) := by
 rw [allB_data] at ha hb ⊢
 intro x hx
 rw [ByteArray.data_append, Array.toList_append] at hx
 rcases List.mem_append.mp hx with h | h
 ·exact ha x h
 ·exact hb x h
theorem allB_extract {a : ByteArray} (ha : allB a) (i j : Nat) : allB (a.extract i j) := by
 rw [allB_data] at ha ⊢
 intro x hx
 rw [ByteArray.data_extract, Array.toList_extract] at hx
 exact ha x (List.mem_of_mem_drop (List.mem_of_mem_take (by simpa [List.extract] using hx)))
theorem okN_all {s : ByteArray} : okN s s.size 0 = true ↔ allB s := by
 rw [okN_iff]
 exact ⟨fun h j hj => h j (Nat.zero_le _) O_, fun h j _ hj => h j O_⟩
theorem okN_sub {s : ByteArray} (h : okN s s.size 0 = true) (a b : Nat) (hb : b ≤ s.size) : okN (s.extract a b) (s.extract a b).size 0 = true :=
 okN_all.2 (allB_extract (okN_all.1 h) a b)
theorem tl_nil {s : ByteArray} : s.toList = [] ↔ s.size = 0 := by
 rw [toList_data]
 exact List.length_eq_zero_iff.symm
def leafB (b : S58) : Bool := !(b.f2.toList == []) && (decide (b.f2.size ≤ 8) && (okN b.f2 b.f2.size 0 && (decide (b.f3 = (b.f2.size : Int)) && decide (b.f4 = 0))))
def vt (l : List S58) : Nat → Nat → Option (Nat × Limb)
 | 0, _ => none
 | d + 1, k =>
  if (rd_T58 l (k : Int)).f0 = -1 ∧ (rd_T58 l (k : Int)).f1 = -1 then (if leafB (rd_T58 l (k : Int)) = true then some (k, .node .nil .nil (rd_T58 l (k : Int)).f2 (rd_T58 l (k : Int)).f3 0) else none)
  else (if (rd_T58 l (k : Int)).f2.toList = [] ∧ (rd_T58 l (k : Int)).f1 = (k : Int) - 1 ∧ 2 ≤ k then
   (vt l d (k - 1)).bind fun p => if 1 ≤ p.1 ∧ (rd_T58 l (k : Int)).f0 = (p.1 : Int) - 1 then
    (vt l d (p.1 - 1)).bind fun q => if (rd_T58 l (k : Int)).f3 = q.2.size + p.2.size ∧ (rd_T58 l (k : Int)).f4 = 1 + max q.2.deep p.2.deep then some (q.1, .node q.2 p.2 ⟨#[]⟩ (rd_T58 l (k : Int)).f3 (rd_T58 l (k : Int)).f4) else none
   else none
  else none)
theorem vt_le (l : List S58) : ∀ d k p, vt l d k = some p → p.1 ≤ k := by
 intro d
 induction d with
 | zero => intro k p h; cases h
 | succ d ih =>
  intro k p h
  unfold vt at h
  split at h
  ·split at h
   ·obtain rfl := Option.some.inj h; exact Nat.le_refl _
   ·cases h
  ·split at h
   ·obtain ⟨p1, h1, h⟩ := Option.bind_eq_some_iff.mp h
    split at h
    ·obtain ⟨q, h2, h⟩ := Option.bind_eq_some_iff.mp h
     split at h
     ·obtain rfl := Option.some.inj h
      have := ih _ _ h1
      have := ih _ _ h2
      show q.1 ≤ k
      omega
     ·cases h
    ·cases h
   ·cases h
theorem vt_fuel (l : List S58) : ∀ k d, k + 1 ≤ d → vt l d k = vt l (k + 1) k := by
 intro k
 induction k using Nat.strongRecOn with
 | ind k ih =>
  intro d hd
  obtain ⟨d, rfl⟩ : ∃ m, d = m + 1 := ⟨d - 1, O_⟩
  conv => lhs; unfold vt
  conv => rhs; unfold vt
  by_cases h0 : (rd_T58 l (k : Int)).f0 = -1 ∧ (rd_T58 l (k : Int)).f1 = -1
  ·rw [ip_ h0, ip_ h0]
  ·rw [iN_ h0, iN_ h0]
   by_cases h1 : (rd_T58 l (k : Int)).f2.toList = [] ∧ (rd_T58 l (k : Int)).f1 = (k : Int) - 1 ∧ 2 ≤ k
   ·rw [ip_ h1, ip_ h1, ih (k - 1) O_ d O_, ih (k - 1) O_ k O_]
    cases hv : vt l (k - 1 + 1) (k - 1) with
    | none => rfl
    | some p =>
     have hle := vt_le l _ _ _ hv
     rw [bs_, bs_]
     by_cases h2 : 1 ≤ p.1 ∧ (rd_T58 l (k : Int)).f0 = (p.1 : Int) - 1
     ·rw [ip_ h2, ip_ h2, ih (p.1 - 1) O_ d O_, ih (p.1 - 1) O_ k O_]
     ·rw [iN_ h2, iN_ h2]
   ·rw [iN_ h1, iN_ h1]
def V (l : List S58) (k : Nat) : Option (Nat × Limb) := vt l (k + 1) k
theorem V_leaf (l : List S58) (k : Nat) (h : (rd_T58 l (k : Int)).f0 = -1 ∧ (rd_T58 l (k : Int)).f1 = -1) : V l k = if leafB (rd_T58 l (k : Int)) = true then some (k, .node .nil .nil (rd_T58 l (k : Int)).f2 (rd_T58 l (k : Int)).f3 0) else none := by
 unfold V vt
 rw [ip_ h]
theorem V_fork (l : List S58) (k : Nat) (h : ¬ ((rd_T58 l (k : Int)).f0 = -1 ∧ (rd_T58 l (k : Int)).f1 = -1)) : V l k = if (rd_T58 l (k : Int)).f2.toList = [] ∧ (rd_T58 l (k : Int)).f1 = (k : Int) - 1 ∧ 2 ≤ k then
   (V l (k - 1)).bind fun p => if 1 ≤ p.1 ∧ (rd_T58 l (k : Int)).f0 = (p.1 : Int) - 1 then
    (V l (p.1 - 1)).bind fun q => if (rd_T58 l (k : Int)).f3 = q.2.size + p.2.size ∧ (rd_T58 l (k : Int)).f4 = 1 + max q.2.deep p.2.deep then some (q.1, .node q.2 p.2 ⟨#[]⟩ (rd_T58 l (k : Int)).f3 (rd_T58 l (k : Int)).f4) else none
   else none
  else none := by
 conv => lhs; unfold V vt
 rw [iN_ h]
 by_cases h1 : (rd_T58 l (k : Int)).f2.toList = [] ∧ (rd_T58 l (k : Int)).f1 = (k : Int) - 1 ∧ 2 ≤ k
 ·rw [ip_ h1, ip_ h1, vt_fuel l (k - 1) k O_]
  show (V l (k - 1)).bind _ = _
  cases hv : V l (k - 1) with
  | none => rfl
  | some p =>
   have hle := vt_le l _ _ _ hv
   rw [bs_, bs_]
   by_cases h2 : 1 ≤ p.1 ∧ (rd_T58 l (k : Int)).f0 = (p.1 : Int) - 1
   ·rw [ip_ h2, ip_ h2, vt_fuel l (p.1 - 1) k O_]
    rfl
   ·rw [iN_ h2, iN_ h2]
 ·rw [iN_ h1, iN_ h1]
def Gt : Limb → Prop
 | .nil => False
 | .node l r s n d => (l = .nil ∧ r = .nil ∧ 1 ≤ s.size ∧ s.size ≤ 8 ∧ okN s s.size 0 = true ∧ n = (s.size : Int) ∧ d = 0) ∨ (Gt l ∧ Gt r ∧ s = ⟨#[]⟩ ∧ n = l.size + r.size ∧ d = 1 + max l.deep r.deep)
theorem Gt_nil {t : Limb} (h : Gt t) : t.isNil = false := by
 cases t with
 | nil => exact h.elim
 | node l r s n d => rfl
theorem Gt_bd : ∀ {t : Limb}, Gt t → 1 ≤ cnt t ∧ 1 ≤ t.size ∧ t.size ≤ 8 * (cnt t : Int) ∧ 0 ≤ t.deep ∧ t.deep < (cnt t : Int)
 | .node l r s n d, h => by
  rcases h with ⟨rfl, rfl, h1, h2, -, rfl, rfl⟩ | ⟨hl, hr, -, rfl, rfl⟩
  ·show 1 ≤ 1 ∧ 1 ≤ (s.size : Int) ∧ (s.size : Int) ≤ 8 * ((1 : Nat) : Int) ∧ (0 : Int) ≤ 0 ∧ (0 : Int) < ((1 : Nat) : Int)
   omega
  ·have a := Gt_bd hl
   have b := Gt_bd hr
   have e : cnt (.node l r s (l.size + r.size) (1 + max l.deep r.deep)) = cnt l + cnt r + 1 := by
    show (if l.isNil = true then 1 else cnt l + cnt r + 1) = _
    rw [Gt_nil hl, iN_ (by simp)]
   rw [e]
   show 1 ≤ _ ∧ 1 ≤ l.size + r.size ∧ l.size + r.size ≤ _ ∧ 0 ≤ 1 + max l.deep r.deep ∧ 1 + max l.deep r.deep < _
   omega
theorem size_pos_of {s : ByteArray} (h : ¬ s.toList = []) : 1 ≤ s.size := by
 rcases Nat.eq_zero_or_pos s.size with e | e
 ·exact absurd (by rw [toList_data]; exact List.eq_nil_of_length_eq_zero (show s.data.toList.length = 0 from e)) h
 ·exact e
theorem V_spec (l : List S58) : ∀ k p, V l k = some p → p.1 ≤ k ∧ Gt p.2 ∧ cnt p.2 + p.1 = k + 1 ∧ p.2.size = (rd_T58 l (k : Int)).f3 ∧ p.2.deep = (rd_T58 l (k : Int)).f4 ∧ ∀ j, p.1 ≤ j → j ≤ k → (V l j).isSome = true := by
 intro k
 induction k using Nat.strongRecOn with
 | ind k ih =>
  intro p h
  have h00 := h
  by_cases h0 : (rd_T58 l (k : Int)).f0 = -1 ∧ (rd_T58 l (k : Int)).f1 = -1
  ·rw [V_leaf l k h0] at h
   split at h
   ·rename_i hl
    obtain rfl := Option.some.inj h
    unfold leafB at hl
    simp only [Bool.and_eq_true, Bool.not_eq_true', beq_eq_false_iff_ne, decide_eq_true_eq] at hl
    obtain ⟨l1, l2, l3, l4, l5⟩ := hl
    exact ⟨Nat.le_refl _, .inl ⟨rfl, rfl, size_pos_of l1, l2, l3, l4, rfl⟩, by show 1 + k = k + 1; omega, rfl, l5.symm, fun j a b => by { have a' : k ≤ j := a; have e : j = k := O_; rw [e, h00]; rfl }⟩
   ·cases h
  ·rw [V_fork l k h0] at h
   split at h
   ·rename_i h1
    obtain ⟨p1, e1, h⟩ := Option.bind_eq_some_iff.mp h
    split at h
    ·rename_i h2
     obtain ⟨q, e2, h⟩ := Option.bind_eq_some_iff.mp h
     split at h
     ·rename_i h3
      obtain rfl := Option.some.inj h
      have i1 := ih (k - 1) O_ p1 e1
      have i2 := ih (p1.1 - 1) O_ q e2
      refine ⟨by show q.1 ≤ k; omega, .inr ⟨i2.2.1, i1.2.1, rfl, h3.1, h3.2⟩, ?_, rfl, rfl, fun j a b => ?_⟩
      ·have e : cnt (.node q.2 p1.2 ⟨#[]⟩ (rd_T58 l (k : Int)).f3 (rd_T58 l (k : Int)).f4) = cnt q.2 + cnt p1.2 + 1 := by
        show (if q.2.isNil = true then 1 else cnt q.2 + cnt p1.2 + 1) = _
        rw [Gt_nil i2.2.1, iN_ (by simp)]
       show cnt _ + q.1 = k + 1
       rw [e]
       omega
      ·have a' : q.1 ≤ j := a
       by_cases c1 : j ≤ p1.1 - 1
       ·exact i2.2.2.2.2.2 j a' c1
       ·by_cases c2 : j ≤ k - 1
        ·exact i1.2.2.2.2.2 j O_ c2
        ·have e : j = k := by omega
         rw [e, h00]; rfl
     ·cases h
    ·cases h
   ·cases h
def vr (l : List S58) (k : Nat) : Int := match V l k with
 | none => -1
 | some p => (p.1 : Int)
theorem vr_none {l : List S58} {k : Nat} (h : V l k = none) : vr l k = -1 := by unfold vr; rw [h]
theorem vr_some {l : List S58} {k : Nat} {p : Nat × Limb} (h : V l k = some p) : vr l k = (p.1 : Int) := by unfold vr; rw [h]
theorem First_ev (l : List S58) (hn : l.length ≤ 200) (hS : ∀ k : Int, (rd_T58 l k).f2.size ≤ 1048576) : ∀ k : Nat, k < l.length → ∃ K, ∀ m, K ≤ m → spec_l12First.f m l (k : Int) = some (vr l k) := by
 intro k
 induction k using Nat.strongRecOn with
 | ind k ih =>
  intro hk
  have hE : ∀ m, spec_l12First.f (m + 1) l (k : Int) = spec_l12First.j0 m l (k : Int) (decide ((rd_T58 l (k : Int)).f0 = -1 ∧ (rd_T58 l (k : Int)).f1 = -1)) (rd_T58 l (k : Int)).f0 (rd_T58 l (k : Int)).f1 (rd_T58 l (k : Int)).f2 (rd_T58 l (k : Int)).f3 (rd_T58 l (k : Int)).f4 := by
   intro m
   simp only [spec_l12First.f]
   rw [ip_ O_, ip_ O_]
   by_cases h : (rd_T58 l (k : Int)).f0 = -1
   ·rw [ip_ h]
    by_cases h' : (rd_T58 l (k : Int)).f1 = -1
    ·rw [decide_eq_true ⟨h, h'⟩, h']; rfl
    ·rw [decide_eq_false (fun x => h' x.2), beq_false_of_ne h']
   ·rw [iN_ h]
    simp [h]
  generalize hb : rd_T58 l (k : Int) = b at hE
  have hs := hS k
  rw [hb] at hs
  by_cases h0 : b.f0 = -1 ∧ b.f1 = -1
  ·obtain ⟨K, hK⟩ := spec_l1Text_ev b.f2 O_
   refine ⟨K + 2, fun m hm => ?_⟩
   obtain ⟨m, rfl⟩ : ∃ j, m = j + 2 := ⟨m - 2, O_⟩
   rw [hE, decide_eq_true h0]
   simp only [spec_l12First.j0, if_true]
   have hv := V_leaf l k (by rw [hb]; exact h0)
   rw [hb] at hv
   unfold spec_l1In.f
   rw [hK m O_]
   have hlb : leafB b = true ↔ (1 ≤ b.f2.size ∧ b.f2.size ≤ 8 ∧ okN b.f2 b.f2.size 0 = true ∧ b.f3 = (b.f2.size : Int) ∧ b.f4 = 0) := by
    unfold leafB
    simp only [Bool.and_eq_true, Bool.not_eq_true', beq_eq_false_iff_ne, decide_eq_true_eq, ne_eq, tl_nil]
    constructor
    ·rintro ⟨a, b, c, d, e⟩; exact ⟨O_, b, c, d, e⟩
    ·rintro ⟨a, b, c, d, e⟩; exact ⟨O_, b, c, d, e⟩
   by_cases hl : leafB b = true
   ·rw [ip_ hl] at hv
    obtain ⟨a1, a2, a3, a4, a5⟩ := hlb.1 hl
    rw [vr_some hv, ip_ O_, decide_eq_true O_, bs_, ip_ rfl, bs_, ip_ a3, ip_ a4, ip_ a5]
   ·rw [iN_ hl] at hv
    rw [vr_none hv]
    by_cases a1 : 1 ≤ b.f2.size
    ·rw [ip_ O_, bs_]
     by_cases a2 : b.f2.size ≤ 8
     ·rw [decide_eq_true O_, ip_ rfl, bs_]
      by_cases a3 : okN b.f2 b.f2.size 0 = true
      ·rw [ip_ a3]
       by_cases a4 : b.f3 = (b.f2.size : Int)
       ·rw [ip_ a4]
        by_cases a5 : b.f4 = 0
        ·exact absurd (hlb.2 ⟨a1, a2, a3, a4, a5⟩) hl
        ·rw [iN_ a5]
       ·rw [iN_ a4]
      ·rw [iN_ a3]
     ·rw [decide_eq_false O_, iN_ (by simp)]
    ·rw [iN_ O_, bs_, iN_ (by simp)]
  ·have hv := V_fork l k (by rw [hb]; exact h0)
   rw [hb] at hv
   have e1 : wrap64 ((k : Int) - 1) = (k : Int) - 1 := w64 O_ O_
   by_cases h1 : b.f2.toList = [] ∧ b.f1 = (k : Int) - 1 ∧ 2 ≤ k
   ·obtain ⟨h11, h12, h13⟩ := h1
    rw [ip_ ⟨h11, h12, h13⟩] at hv
    obtain ⟨K1, hK1⟩ := ih (k - 1) O_ O_
    have e2 : (k : Int) - 1 = ((k - 1 : Nat) : Int) := by omega
    have hF : ∀ m, K1 ≤ m → spec_l12First.f (m + 3) l (k : Int) = (if vr l (k - 1) < 1 then spec_l12First.j2 m l true b.f0 b.f1 b.f2 b.f3 b.f4 else spec_l12First.j2 m l (b.f0 != wrap64 (vr l (k - 1) - 1)) b.f0 b.f1 b.f2 b.f3 b.f4) := by
     intro m hm
     rw [hE, decide_eq_false h0]
     simp only [spec_l12First.j0]
     rw [iN_ (by simp), ip_ h11, e1, ip_ h12]
     simp only [spec_l12First.j1]
     rw [iN_ (by rw [decide_eq_true_eq]; omega), e1, e2, hK1 m hm, bs_]
    cases hp : V l (k - 1) with
    | none =>
     rw [hp, Option.bind_none] at hv
     refine ⟨K1 + 4, fun m hm => ?_⟩
     obtain ⟨m, rfl⟩ : ∃ j, m = j + 4 := ⟨m - 4, O_⟩
     rw [show m + 4 = (m + 1) + 3 from rfl, hF (m + 1) O_, vr_none hp, ip_ O_, vr_none hv]
     simp only [spec_l12First.j2, if_true]
    | some p =>
     rw [hp, bs_] at hv
     obtain ⟨p1, p2, p3, p4, p5, -⟩ := V_spec l _ _ hp
     rw [vr_some hp] at hF
     have e3 : wrap64 ((p.1 : Int) - 1) = (p.1 : Int) - 1 := w64 O_ O_
     rw [e3] at hF
     by_cases h2 : 1 ≤ p.1 ∧ b.f0 = (p.1 : Int) - 1
     ·obtain ⟨h21, h22⟩ := h2
      rw [ip_ ⟨h21, h22⟩] at hv
      obtain ⟨K2, hK2⟩ := ih (p.1 - 1) O_ O_
      have e4 : (p.1 : Int) - 1 = ((p.1 - 1 : Nat) : Int) := by omega
      have hG : ∀ m, K1 + K2 ≤ m → spec_l12First.f (m + 4) l (k : Int) = (if (rd_T58 l ((k - 1 : Nat) : Int)).f4 > (rd_T58 l ((p.1 - 1 : Nat) : Int)).f4 then (if b.f3 = wrap64 ((rd_T58 l ((p.1 - 1 : Nat) : Int)).f3 + (rd_T58 l ((k - 1 : Nat) : Int)).f3) then (if b.f4 = wrap64 ((rd_T58 l ((k - 1 : Nat) : Int)).f4 + 1) then some (vr l (p.1 - 1)) else some (-1)) else some (-1)) else (if b.f3 = wrap64 ((rd_T58 l ((p.1 - 1 : Nat) : Int)).f3 + (rd_T58 l ((k - 1 : Nat) : Int)).f3) then (if b.f4 = wrap64 ((rd_T58 l ((p.1 - 1 : Nat) : Int)).f4 + 1) then some (vr l (p.1 - 1)) else some (-1)) else some (-1))) := by
       intro m hm
       rw [show m + 4 = (m + 1) + 3 from rfl, hF (m + 1) O_, iN_ O_, h22, h12, e4, e2]
       simp only [spec_l12First.j2]
       rw [iN_ (by simp), ip_ O_, ip_ O_, ip_ O_, ip_ O_, hK2 m O_]
       simp only [bs_]
      cases hq : V l (p.1 - 1) with
      | none =>
       rw [hq, Option.bind_none] at hv
       refine ⟨K1 + K2 + 4, fun m hm => ?_⟩
       obtain ⟨m, rfl⟩ : ∃ j, m = j + 4 := ⟨m - 4, O_⟩
       rw [hG m O_, vr_none hq, vr_none hv]
       simp only [ite_self]
      | some q =>
       rw [hq, bs_] at hv
       obtain ⟨q1, q2, q3, q4, q5, -⟩ := V_spec l _ _ hq
       have bp := Gt_bd p2
       have bq := Gt_bd q2
       rw [← p4, ← p5, ← q4, ← q5] at hG
       rw [w64 (i := q.2.size + p.2.size) O_ O_, w64 (i := p.2.deep + 1) O_ O_, w64 (i := q.2.deep + 1) O_ O_] at hG
       refine ⟨K1 + K2 + 4, fun m hm => ?_⟩
       obtain ⟨m, rfl⟩ : ∃ j, m = j + 4 := ⟨m - 4, O_⟩
       rw [hG m O_, vr_some hq]
       by_cases h3 : b.f3 = q.2.size + p.2.size
       ·rw [ip_ h3, ip_ h3]
        by_cases h4 : b.f4 = 1 + max q.2.deep p.2.deep
        ·rw [ip_ ⟨h3, h4⟩] at hv
         rw [vr_some hv]
         by_cases h5 : p.2.deep > q.2.deep
         ·rw [ip_ h5, ip_ O_]
         ·rw [iN_ h5, ip_ O_]
        ·rw [iN_ (fun h => h4 h.2)] at hv
         rw [vr_none hv]
         by_cases h5 : p.2.deep > q.2.deep
         ·rw [ip_ h5, iN_ O_]
         ·rw [iN_ h5, iN_ O_]
       ·rw [iN_ (fun h => h3 h.1)] at hv
        rw [iN_ h3, iN_ h3, vr_none hv, ite_self]
     ·rw [iN_ h2] at hv
      refine ⟨K1 + 4, fun m hm => ?_⟩
      obtain ⟨m, rfl⟩ : ∃ j, m = j + 4 := ⟨m - 4, O_⟩
      rw [show m + 4 = (m + 1) + 3 from rfl, hF (m + 1) O_, vr_none hv]
      by_cases h3 : (p.1 : Int) < 1
      ·rw [ip_ h3]
       simp only [spec_l12First.j2, if_true]
      ·rw [iN_ h3]
       have : (b.f0 != (p.1 : Int) - 1) = true := by
        rw [bne_iff_ne]
        intro h
        exact h2 ⟨O_, h⟩
       rw [this]
       simp only [spec_l12First.j2, if_true]
   ·rw [iN_ h1] at hv
    refine ⟨4, fun m hm => ?_⟩
    obtain ⟨m, rfl⟩ : ∃ j, m = j + 4 := ⟨m - 4, O_⟩
    rw [hE, decide_eq_false h0, vr_none hv]
    simp only [spec_l12First.j0]
    rw [iN_ (by simp), e1]
    by_cases h11 : b.f2.toList = []
    ·rw [ip_ h11]
     by_cases h12 : b.f1 = (k : Int) - 1
     ·rw [ip_ h12, decide_eq_true (by have : ¬ 2 ≤ k := fun h => h1 ⟨h11, h12, h⟩; omega)]
      simp only [spec_l12First.j1, if_true]
     ·rw [iN_ h12]
      simp only [spec_l12First.j1, if_true]
    ·rw [iN_ h11]
     simp only [spec_l12First.j1, if_true]
theorem fk_good {a b : Limb} (ha : Gt a) (hb : Gt b) (h : cnt a + cnt b ≤ 1000) : fk a b = .node a b ⟨#[]⟩ (a.size + b.size) (1 + max a.deep b.deep) := by
 have p := Gt_bd ha
 have q := Gt_bd hb
 cases a with
 | nil => exact ha.elim
 | node l r s n d =>
  cases b with
  | nil => exact hb.elim
  | node l' r' s' n' d' =>
   have e1 : (Limb.node l r s n d).size = n := rfl
   have e2 : (Limb.node l' r' s' n' d').size = n' := rfl
   have e3 : (Limb.node l r s n d).deep = d := rfl
   have e4 : (Limb.node l' r' s' n' d').deep = d' := rfl
   show Limb.node _ _ _ (wrap64 (n + n')) (wrap64 (1 + max d d')) = Limb.node _ _ _ (n + n') (1 + max d d')
   rw [w64 (i := n + n') O_ O_, w64 (i := 1 + max d d') O_ O_]
def RowsOf (l : List S58) (n : Nat) (ts : List Limb) (fs : List Int) : Prop := ts.length = n ∧ fs.length = n ∧ ∀ j, j < n → ∃ p, V l j = some p ∧ ts.getD j .nil = p.2 ∧ fs.getD j 0 = (p.1 : Int)
theorem RowsOf.snoc {l : List S58} {n : Nat} {ts : List Limb} {fs : List Int} (h : RowsOf l n ts fs) {t : Limb} {f : Int} {p : Nat × Limb} (hv : V l n = some p) (ht : t = p.2) (hf : f = (p.1 : Int)) : RowsOf l (n + 1) (ts ++ [t]) (fs ++ [f]) := by
 obtain ⟨h1, h2, h3⟩ := h
 refine ⟨by simp [h1], by simp [h2], fun j hj => ?_⟩
 by_cases e : j = n
 ·refine ⟨p, by rw [e, hv], ?_, ?_⟩
  ·rw [e, List.getD_eq_getElem?_getD, ← h1, List.getElem?_concat_length, ht]; rfl
  ·rw [e, List.getD_eq_getElem?_getD, ← h2, List.getElem?_concat_length, hf]; rfl
 ·obtain ⟨p', a, b, c⟩ := h3 j O_
  refine ⟨p', a, ?_, ?_⟩
  ·rw [← b, List.getD_eq_getElem?_getD, List.getD_eq_getElem?_getD, List.getElem?_append_left O_]
  ·rw [← c, List.getD_eq_getElem?_getD, List.getD_eq_getElem?_getD, List.getElem?_append_left O_]
theorem opl_ev (l : List S58) (hn : l.length ≤ 200) (hS : ∀ k : Int, (rd_T58 l k).f2.size ≤ 1048576) : ∀ d i ts fs, i + d = l.length → RowsOf l i ts fs →
  ∃ K o, (∀ m, K ≤ m → opl m (l.drop i) ts fs = some o) ∧ (o = none → ∃ j, j < l.length ∧ V l j = none) ∧ (∀ x, o = some x → RowsOf l l.length x.1 x.2) := by
 intro d
 induction d with
 | zero =>
  intro i ts fs hi hr
  have e : i = l.length := by omega
  subst e
  refine ⟨0, some (ts, fs), fun m _ => ?_, fun h => (by cases h), fun x hx => ?_⟩
  ·rw [List.drop_length]; rfl
  ·obtain rfl := Option.some.inj hx; exact hr
 | succ d ih =>
  intro i ts fs hi hr
  have hil : i < l.length := by omega
  have hd : l.drop i = rd_T58 l (i : Int) :: l.drop (i + 1) := by
   rw [List.drop_eq_getElem_cons hil]
   congr 1
   unfold rd_T58
   rw [tN_, List.getD_eq_getElem?_getD, List.getElem?_eq_getElem hil]; rfl
  have hs := hS (i : Int)
  obtain ⟨r1, r2, r3⟩ := hr
  have bad : ∀ K, V l i = none → (∀ m, K ≤ m → opl m (l.drop i) ts fs = some none) → ∃ K o, (∀ m, K ≤ m → opl m (l.drop i) ts fs = some o) ∧ (o = none → ∃ j, j < l.length ∧ V l j = none) ∧ (∀ x, o = some x → RowsOf l l.length x.1 x.2) := fun K hv hK => ⟨K, none, hK, fun _ => ⟨i, hil, hv⟩, fun x hx => by cases hx⟩
  have good : ∀ K t f p, V l i = some p → t = p.2 → f = (p.1 : Int) → (∀ m, K ≤ m → opl m (l.drop i) ts fs = opl m (l.drop (i + 1)) (ts ++ [t]) (fs ++ [f])) → ∃ K o, (∀ m, K ≤ m → opl m (l.drop i) ts fs = some o) ∧ (o = none → ∃ j, j < l.length ∧ V l j = none) ∧ (∀ x, o = some x → RowsOf l l.length x.1 x.2) := by
   intro K t f p hv ht hf hK
   obtain ⟨K', o, h1, h2, h3⟩ := ih (i + 1) (ts ++ [t]) (fs ++ [f]) O_ (RowsOf.snoc ⟨r1, r2, r3⟩ hv ht hf)
   exact ⟨K + K', o, fun m hm => by rw [hK m O_, h1 m O_], h2, h3⟩
  rw [hd] at bad good ⊢
  have hv0 := V_leaf l i
  have hv1 := V_fork l i
  generalize rd_T58 l (i : Int) = b at hs bad good hv0 hv1 ⊢
  by_cases h0 : b.f0 = -1 ∧ b.f1 = -1
  ·have hv := hv0 h0
   have hop : ∀ m, opl m (b :: l.drop (i + 1)) ts fs = (if b.f2.toList = [] then some none else (if 8 < (b.f2.size : Int) then some none else (impl_GoodText.f m b.f2).bind fun g => (if g = false then some none else (if b.f3 ≠ (b.f2.size : Int) then some none else (if b.f4 ≠ 0 then some none else opl m (l.drop (i + 1)) (ts ++ [lf b.f2]) (fs ++ [(ts.length : Int)])))))) := fun m => by
    conv => lhs; unfold opl
    rw [ip_ h0]
   have hlb : ∀ q : Prop, q → ¬ q → leafB b = true → False := fun q a b _ => b a
   by_cases a1 : b.f2.toList = []
   ·refine bad 0 ?_ fun m _ => by rw [hop, ip_ a1]
    rw [hv, iN_]
    unfold leafB; rw [a1]; simp
   ·by_cases a2 : 8 < (b.f2.size : Int)
    ·refine bad 0 ?_ fun m _ => by rw [hop, iN_ a1, ip_ a2]
     rw [hv, iN_]
     unfold leafB; rw [decide_eq_false (p := b.f2.size ≤ 8) O_]; simp
    ·obtain ⟨K, hK⟩ := impl_GoodText_ev b.f2 O_
     have hK' : ∀ m, K ≤ m → impl_GoodText.f m b.f2 = some (okN b.f2 b.f2.size 0) := fun m hm => by
      rw [hK m hm]
      unfold textB
      rw [decide_eq_true (p := b.f2.size ≤ 300) O_, Bool.and_true]
     cases a3 : okN b.f2 b.f2.size 0 with
     | false =>
      refine bad K ?_ fun m hm => by rw [hop, iN_ a1, iN_ a2, hK' m hm, a3, bs_, ip_ rfl]
      rw [hv, iN_]
      unfold leafB; rw [a3]; simp
     | true =>
      by_cases a4 : b.f3 = (b.f2.size : Int)
      ·by_cases a5 : b.f4 = 0
       ·have hl : leafB b = true := by
         unfold leafB
         rw [a3, decide_eq_true a4, decide_eq_true a5, decide_eq_true (p := b.f2.size ≤ 8) O_]
         simp [a1]
        rw [ip_ hl] at hv
        refine good K (lf b.f2) (ts.length : Int) _ hv ?_ (by rw [r1]) fun m hm => by rw [hop, iN_ a1, iN_ a2, hK' m hm, a3, bs_, iN_ (by simp), iN_ (fun h => h a4), iN_ (fun h => h a5)]
        unfold lf
        rw [iN_ a1, a4]
       ·refine bad K ?_ fun m hm => by rw [hop, iN_ a1, iN_ a2, hK' m hm, a3, bs_, iN_ (by simp), iN_ (fun h => h a4), ip_ a5]
        rw [hv, iN_]
        unfold leafB; rw [decide_eq_false a5]; simp
      ·refine bad K ?_ fun m hm => by rw [hop, iN_ a1, iN_ a2, hK' m hm, a3, bs_, iN_ (by simp), ip_ a4]
       rw [hv, iN_]
       unfold leafB; rw [decide_eq_false a4]; simp
  ·have hv := hv1 h0
   have hop : ∀ m, opl m (b :: l.drop (i + 1)) ts fs = (if b.f1 ≠ (ts.length : Int) - 1 then some none else (if b.f1 < 0 then some none else (if b.f0 < 0 then some none else
  (if b.f0 ≠ fs.getD (ts.length - 1) 0 - 1 then some none else (if b.f2.toList ≠ [] then some none else
  (if b.f0.toNat < ts.length ∧ (fk (ts.getD b.f0.toNat .nil) (ts.getD (ts.length - 1) .nil)).isNil = false then
   (if b.f3 ≠ (fk (ts.getD b.f0.toNat .nil) (ts.getD (ts.length - 1) .nil)).size then some none else
   (if b.f4 ≠ (fk (ts.getD b.f0.toNat .nil) (ts.getD (ts.length - 1) .nil)).deep then some none else
    opl m (l.drop (i + 1)) (ts ++ [fk (ts.getD b.f0.toNat .nil) (ts.getD (ts.length - 1) .nil)]) (fs ++ [fs.getD b.f0.toNat 0])))
   else none)))))) := fun m => by
    conv => lhs; unfold opl
    rw [iN_ h0]
   rw [r1] at hop
   by_cases a1 : b.f1 = (i : Int) - 1
   ·by_cases a2 : b.f1 < 0
    ·refine bad 0 ?_ fun m _ => by rw [hop, iN_ (fun h => h a1), ip_ a2]
     rw [hv, iN_ (fun h => by have := h.2.1; have := h.2.2; omega)]
    ·by_cases a3 : b.f0 < 0
     ·refine bad 0 ?_ fun m _ => by rw [hop, iN_ (fun h => h a1), iN_ a2, ip_ a3]
      rw [hv]
      split
      ·cases hp : V l (i - 1) with
       | none => rfl
       | some p => rw [bs_, iN_ (fun h => by have := h.1; have := h.2; omega)]
      ·rfl
     ·obtain ⟨p, p1, p2, p3⟩ := r3 (i - 1) O_
      have sp := V_spec l _ _ p1
      rw [p2, p3] at hop
      rw [p1, bs_] at hv
      by_cases a4 : b.f0 = (p.1 : Int) - 1
      ·by_cases a5 : b.f2.toList = []
       ·have e0 : b.f0.toNat = p.1 - 1 := by omega
        obtain ⟨q, q1, q2, q3⟩ := r3 (p.1 - 1) O_
        have sq := V_spec l _ _ q1
        rw [e0, q2, q3, fk_good sq.2.1 sp.2.1 O_] at hop
        rw [ip_ ⟨a5, a1, O_⟩, ip_ ⟨O_, a4⟩, q1, bs_] at hv
        have hop' : ∀ m, opl m (b :: l.drop (i + 1)) ts fs = (if b.f3 ≠ q.2.size + p.2.size then some none else (if b.f4 ≠ 1 + max q.2.deep p.2.deep then some none else opl m (l.drop (i + 1)) (ts ++ [.node q.2 p.2 ⟨#[]⟩ (q.2.size + p.2.size) (1 + max q.2.deep p.2.deep)]) (fs ++ [(q.1 : Int)]))) := fun m => by
         rw [hop, iN_ (fun h => h a1), iN_ a2, iN_ a3, iN_ (fun h => h a4), iN_ (fun h => h a5), ip_ ⟨O_, rfl⟩]
         rfl
        by_cases a6 : b.f3 = q.2.size + p.2.size
        ·by_cases a7 : b.f4 = 1 + max q.2.deep p.2.deep
         ·rw [ip_ ⟨a6, a7⟩] at hv
          exact good 0 (.node q.2 p.2 ⟨#[]⟩ (q.2.size + p.2.size) (1 + max q.2.deep p.2.deep)) (q.1 : Int) _ hv (by rw [← a6, ← a7]) rfl fun m _ => by rw [hop', iN_ (fun h => h a6), iN_ (fun h => h a7)]
         ·refine bad 0 ?_ fun m _ => by rw [hop', iN_ (fun h => h a6), ip_ a7]
          rw [hv, iN_ (fun h => a7 h.2)]
        ·refine bad 0 ?_ fun m _ => by rw [hop', ip_ a6]
         rw [hv, iN_ (fun h => a6 h.1)]
       ·refine bad 0 ?_ fun m _ => by rw [hop, iN_ (fun h => h a1), iN_ a2, iN_ a3, iN_ (fun h => h a4), ip_ a5]
        rw [hv, iN_ (fun h => a5 h.1)]
      ·refine bad 0 ?_ fun m _ => by rw [hop, iN_ (fun h => h a1), iN_ a2, iN_ a3, ip_ a4]
       rw [hv]
       split
       ·rw [iN_ (fun h => a4 h.2)]
       ·rfl
   ·refine bad 0 ?_ fun m _ => by rw [hop, ip_ a1]
    rw [hv, iN_ (fun h => a1 h.2.1)]
def goodR (l : List S58) : Bool := decide (l.length = 0) || (decide (l.length ≤ 200) && (decide (vr l (l.length - 1) = 0) && decide ((rd_T58 l ((l.length - 1 : Nat) : Int)).f3 ≤ 300)))
def treeR (l : List S58) : Limb := match V l (l.length - 1) with
 | none => .nil
 | some p => p.2
theorem opnF_ev (l : List S58) (hS : ∀ k : Int, (rd_T58 l k).f2.size ≤ 1048576) : ∃ K t, (∀ m, K ≤ m → opnF m l = some (t, goodR l)) ∧ (goodR l = true → l ≠ [] → V l (l.length - 1) = some (0, t)) ∧ (goodR l = true → l = [] → t = .nil) := by
 by_cases h1 : 200 < l.length
 ·have hg : goodR l = false := by
   unfold goodR
   rw [decide_eq_false (p := l.length = 0) O_, decide_eq_false (p := l.length ≤ 200) O_]
   rfl
  refine ⟨0, .nil, fun m _ => ?_, fun h => (by rw [hg] at h; cases h), fun _ _ => rfl⟩
  unfold opnF
  rw [ip_ h1, hg]
 ·by_cases h2 : l.length = 0
  ·have hg : goodR l = true := by
    unfold goodR
    rw [decide_eq_true h2]
    rfl
   refine ⟨0, .nil, fun m _ => ?_, fun _ h => absurd (List.length_eq_zero_iff.1 h2) h, fun _ _ => rfl⟩
   unfold opnF
   rw [iN_ h1, ip_ h2, hg]
  ·obtain ⟨K, o, ho, hn, hs⟩ := opl_ev l O_ hS l.length 0 [] [] O_ ⟨rfl, rfl, fun j hj => by omega⟩
   have hG : goodR l = (decide (vr l (l.length - 1) = 0) && decide ((rd_T58 l ((l.length - 1 : Nat) : Int)).f3 ≤ 300)) := by
    unfold goodR
    rw [decide_eq_false h2, decide_eq_true (p := l.length ≤ 200) O_, Bool.false_or, Bool.true_and]
   have hF : ∀ m, opnF m l = (opl m l [] []).bind fun o => match o with
     | none => some (.nil, false)
     | some (ts, fs) => if (ts.getD (l.length - 1) .nil).isNil = false then some (ts.getD (l.length - 1) .nil, decide (fs.getD (l.length - 1) 0 = 0) && decide ((ts.getD (l.length - 1) .nil).size ≤ 300)) else none := fun m => by
    conv => lhs; unfold opnF
    rw [iN_ h1, iN_ h2]
    refine congrArg _ (funext fun o => ?_)
    rcases o with _ | ⟨ts, fs⟩ <;> rfl
   have hne : l ≠ [] := fun h => h2 (by rw [h]; rfl)
   rw [List.drop_zero] at ho
   cases o with
   | none =>
    obtain ⟨j, hj, hv⟩ := hn rfl
    have hg : goodR l = false := by
     rw [hG]
     have : vr l (l.length - 1) ≠ 0 := by
      intro h
      cases hp : V l (l.length - 1) with
      | none => rw [vr_none hp] at h; omega
      | some p =>
       rw [vr_some hp] at h
       have := (V_spec l _ _ hp).2.2.2.2.2 j O_ O_
       rw [hv] at this
       cases this
     rw [decide_eq_false this]; rfl
    refine ⟨K, .nil, fun m hm => ?_, fun h => (by rw [hg] at h; cases h), fun _ _ => rfl⟩
    rw [hF, ho m hm, hg]
    rfl
   | some x =>
    obtain ⟨ts, fs⟩ := x
    obtain ⟨r1, r2, r3⟩ := hs _ rfl
    obtain ⟨p, p1, p2, p3⟩ := r3 (l.length - 1) O_
    have sp := V_spec l _ _ p1
    have hg : goodR l = (decide ((p.1 : Int) = 0) && decide (p.2.size ≤ 300)) := by
     rw [hG, vr_some p1, ← sp.2.2.2.1]
    refine ⟨K, p.2, fun m hm => ?_, fun h _ => ?_, fun _ h => absurd h hne⟩
    ·rw [hF, ho m hm]
     show (if (ts.getD (l.length - 1) .nil).isNil = false then _ else none) = _
     have p2' : ts.getD (l.length - 1) .nil = p.2 := p2
     have p3' : fs.getD (l.length - 1) 0 = (p.1 : Int) := p3
     rw [p2', p3', ip_ (Gt_nil sp.2.1), hg]
    ·rw [hg] at h
     simp only [Bool.and_eq_true, decide_eq_true_eq] at h
     rw [p1]
     have : p.1 = 0 := by omega
     rw [← this]
theorem rdTB (l : List S58) (j : Nat) (h : j < l.length) : rd_T58 l (j : Int) = l[j] := by
 unfold rd_T58
 rw [tN_, List.getD_eq_getElem?_getD, List.getElem?_eq_getElem h]; rfl
theorem spec_GoodRope_ev (l : List S58) (hS : ∀ k : Int, (rd_T58 l k).f2.size ≤ 1048576) (hl : l.length ≤ 1048576) : ∃ K, ∀ k, K ≤ k → spec_GoodRope.f k l = some (goodR l) := by
 by_cases h0 : l.length = 0
 ·refine ⟨0, fun k _ => ?_⟩
  unfold spec_GoodRope.f goodR
  rw [ip_ O_, decide_eq_true h0]; rfl
 ·by_cases h1 : l.length ≤ 200
  ·obtain ⟨K, hK⟩ := First_ev l h1 hS (l.length - 1) O_
   refine ⟨K, fun k hk => ?_⟩
   have e1 : wrap64 ((l.length : Int) - 1) = ((l.length - 1 : Nat) : Int) := by rw [w64 O_ O_]; omega
   unfold spec_GoodRope.f goodR
   rw [iN_ O_, ip_ O_, e1, hK k hk, bs_, decide_eq_false h0, decide_eq_true h1, Bool.false_or, Bool.true_and]
   by_cases h2 : vr l (l.length - 1) = 0
   ·rw [ip_ h2, ip_ O_, ip_ O_, decide_eq_true h2, Bool.true_and]
   ·rw [iN_ h2, decide_eq_false h2, Bool.false_and]
  ·refine ⟨0, fun k _ => ?_⟩
   unfold spec_GoodRope.f goodR
   rw [iN_ O_, iN_ O_, decide_eq_false h0, decide_eq_false h1]; rfl
theorem V_inv {l : List S58} {k : Nat} {p : Nat × Limb} (h : V l k = some p) :
  ((rd_T58 l (k : Int)).f0 = -1 ∧ (rd_T58 l (k : Int)).f1 = -1 ∧ leafB (rd_T58 l (k : Int)) = true ∧ (rd_T58 l (k : Int)).f4 = 0 ∧ p = (k, .node .nil .nil (rd_T58 l (k : Int)).f2 (rd_T58 l (k : Int)).f3 0) ∧ (rd_T58 l (k : Int)).f3 = ((rd_T58 l (k : Int)).f2.size : Int)) ∨
  (∃ p1 q, V l (k - 1) = some p1 ∧ V l (p1.1 - 1) = some q ∧ 2 ≤ k ∧ 1 ≤ p1.1 ∧ p1.1 ≤ k - 1 ∧ (rd_T58 l (k : Int)).f0 = ((p1.1 - 1 : Nat) : Int) ∧ (rd_T58 l (k : Int)).f1 = ((k - 1 : Nat) : Int) ∧ (rd_T58 l (k : Int)).f2 = ⟨#[]⟩ ∧ p = (q.1, .node q.2 p1.2 ⟨#[]⟩ (rd_T58 l (k : Int)).f3 (rd_T58 l (k : Int)).f4) ∧ (rd_T58 l (k : Int)).f3 = q.2.size + p1.2.size ∧ (rd_T58 l (k : Int)).f4 = 1 + max q.2.deep p1.2.deep) := by
 by_cases h0 : (rd_T58 l (k : Int)).f0 = -1 ∧ (rd_T58 l (k : Int)).f1 = -1
 ·rw [V_leaf l k h0] at h
  split at h
  ·rename_i hl
   have hl' := hl
   unfold leafB at hl
   simp only [Bool.and_eq_true, decide_eq_true_eq] at hl
   exact .inl ⟨h0.1, h0.2, hl', hl.2.2.2.2, (Option.some.inj h).symm, hl.2.2.2.1⟩
  ·cases h
 ·rw [V_fork l k h0] at h
  split at h
  ·rename_i h1
   obtain ⟨p1, e1, h⟩ := Option.bind_eq_some_iff.mp h
   split at h
   ·rename_i h2
    obtain ⟨q, e2, h⟩ := Option.bind_eq_some_iff.mp h
    split at h
    ·rename_i h3
     have sp := V_spec l _ _ e1
     refine .inr ⟨p1, q, e1, e2, h1.2.2, h2.1, sp.1, by rw [h2.2]; omega, by rw [h1.2.1]; omega, ?_, (Option.some.inj h).symm, h3.1, h3.2⟩
     have := h1.1
     rw [tl_nil] at this
     generalize (rd_T58 l (k : Int)).f2 = s at this
     cases s with
     | mk d =>
      have e : d = #[] := Array.eq_empty_of_size_eq_zero this
      rw [e]
    ·cases h
   ·cases h
  ·cases h
theorem goodR_size {l : List S58} {t : Limb} (h : goodR l = true) (h0 : l ≠ []) (hv : V l (l.length - 1) = some (0, t)) : l.length ≤ 200 ∧ t.size ≤ 300 ∧ (rd_T58 l ((l.length - 1 : Nat) : Int)).f3 = t.size ∧ 1 ≤ t.size ∧ cnt t = l.length := by
 have hl : l.length ≠ 0 := fun e => h0 (List.length_eq_zero_iff.1 e)
 unfold goodR at h
 rw [decide_eq_false hl, Bool.false_or] at h
 simp only [Bool.and_eq_true, decide_eq_true_eq] at h
 have sp := V_spec l _ _ hv
 have bp := Gt_bd sp.2.1
 refine ⟨h.1, ?_, sp.2.2.2.1.symm, bp.2.1, ?_⟩
 ·rw [sp.2.2.2.1]; exact h.2.2
 ·have := sp.2.2.1
  have e : cnt t + 0 = l.length - 1 + 1 := this
  omega
def bo : Limb → List S58 → List S58
 | .nil, out => out
 | .node l r s n d, out => if l.isNil = true then out ++ [⟨-1, -1, s, n, 0⟩] else bo r (bo l out) ++ [⟨((bo l out).length : Int) - 1, ((bo r (bo l out)).length : Int) - 1, ⟨#[]⟩, n, d⟩]
def GtN (t : Limb) : Prop := t = .nil ∨ Gt t
theorem bo_length (t : Limb) : ∀ out, (bo t out).length = out.length + cnt t := by
 induction t with
 | nil => intro out; rfl
 | node l r s n d ihl ihr =>
  intro out
  unfold bo cnt
  split
  ·simp
  ·simp only [lA_, ihr, ihl, lS_]; omega
theorem bo_V {l : List S58} : ∀ (k : Nat) (p : Nat × Limb), k < l.length → V l k = some p → bo p.2 (l.take p.1) = l.take (k + 1) := by
 intro k
 induction k using Nat.strongRecOn with
 | ind k ih =>
  intro p hk hv
  rw [List.take_succ_eq_append_getElem hk, ← rdTB l k hk]
  rcases V_inv hv with ⟨f0, f1, hl, f4, rfl, f3⟩ | ⟨p1, q, v1, v2, k2, p0, pk, f0, f1, f2, rfl, f3, f4⟩
  ·generalize rd_T58 l (k : Int) = b at f0 f1 f4 f3 ⊢
   obtain ⟨b0, b1, b2, b3, b4⟩ := b
   subst f0 f1 f4
   rfl
  ·have e1 := ih (p1.1 - 1) O_ q O_ v2
   have e2 := ih (k - 1) O_ p1 O_ v1
   rw [show p1.1 - 1 + 1 = p1.1 from by omega] at e1
   rw [show k - 1 + 1 = k from by omega] at e2
   show bo (.node q.2 p1.2 ⟨#[]⟩ _ _) (l.take q.1) = _
   unfold bo
   rw [Gt_nil (V_spec l _ _ v2).2.1, iN_ (by simp), e1, e2, List.length_take, List.length_take, Nat.min_eq_left O_, Nat.min_eq_left O_]
   generalize rd_T58 l (k : Int) = b at f0 f1 f2 ⊢
   obtain ⟨b0, b1, b2, b3, b4⟩ := b
   have f0' : b0 = ((p1.1 - 1 : Nat) : Int) := f0
   have f1' : b1 = ((k - 1 : Nat) : Int) := f1
   have f2' : b2 = ⟨#[]⟩ := f2
   subst f0' f1' f2'
   rw [show ((p1.1 : Nat) : Int) - 1 = ((p1.1 - 1 : Nat) : Int) from by omega, show ((k : Nat) : Int) - 1 = ((k - 1 : Nat) : Int) from by omega]
theorem good_bo {l : List S58} {t : Limb} (h : goodR l = true) (hv : l ≠ [] → V l (l.length - 1) = some (0, t)) (hn : l = [] → t = .nil) : l = bo t [] ∧ GtN t ∧ l.length ≤ 200 ∧ cnt t = l.length ∧ t.size ≤ 300 ∧ 0 ≤ t.size := by
 by_cases h0 : l = []
 ·have ht := hn h0
  subst h0 ht
  exact ⟨rfl, .inl rfl, by simp, rfl, by show (0 : Int) ≤ 300; omega, by show (0 : Int) ≤ 0; omega⟩
 ·have h1 : l.length ≠ 0 := fun e => h0 (List.length_eq_zero_iff.1 e)
  obtain ⟨g1, g2, g3, g4, g5⟩ := goodR_size h h0 (hv h0)
  have e := bo_V (l.length - 1) (0, t) O_ (hv h0)
  rw [show l.length - 1 + 1 = l.length from by omega, List.take_length] at e
  exact ⟨e.symm, .inr (V_spec l _ _ (hv h0)).2.1, g1, g5, g2, O_⟩
theorem open_ev (l : List S58) (hS : ∀ k : Int, (rd_T58 l k).f2.size ≤ 1048576) : ∃ K t, (∀ m, K ≤ m → opnF m l = some (t, goodR l)) ∧ (goodR l = true → l = bo t [] ∧ GtN t ∧ l.length ≤ 200 ∧ cnt t = l.length ∧ t.size ≤ 300 ∧ 0 ≤ t.size) := by
 obtain ⟨K, t, h, h1, h2⟩ := opnF_ev l hS
 exact ⟨K, t, h, fun hg => good_bo hg (h1 hg) (h2 hg)⟩
def br : Limb → Nat → List S58
 | .nil, _ => []
 | .node l r s n d, o => if l.isNil = true then [⟨-1, -1, s, n, 0⟩] else br l o ++ br r (o + cnt l) ++ [⟨((o + cnt l : Nat) : Int) - 1, ((o + cnt l + cnt r : Nat) : Int) - 1, ⟨#[]⟩, n, d⟩]
theorem cnt_fork {l r : Limb} {s : ByteArray} {n d : Int} (h : l.isNil = false) : cnt (.node l r s n d) = cnt l + cnt r + 1 := by
 show (if l.isNil = true then 1 else cnt l + cnt r + 1) = _
 rw [h, iN_ (by simp)]
theorem br_fork {l r : Limb} {s : ByteArray} {n d : Int} (h : l.isNil = false) (o : Nat) : br (.node l r s n d) o = br l o ++ br r (o + cnt l) ++ [⟨((o + cnt l : Nat) : Int) - 1, ((o + cnt l + cnt r : Nat) : Int) - 1, ⟨#[]⟩, n, d⟩] := by
 show (if l.isNil = true then _ else _) = _
 rw [h, iN_ (by simp)]
theorem bo_br (t : Limb) : ∀ out, bo t out = out ++ br t out.length := by
 induction t with
 | nil => intro out; show out = out ++ []; rw [List.append_nil]
 | node l r s n d ihl ihr =>
  intro out
  have e1 := bo_length l out
  have e2 := bo_length r (bo l out)
  unfold bo br
  split
  ·rfl
  ·rw [e2, e1, ihr, e1, ihl]
   simp only [List.append_assoc]
theorem bo_nil (t : Limb) : bo t [] = br t 0 := by rw [bo_br]; rfl
theorem br_length (t : Limb) (o : Nat) : (br t o).length = cnt t := by
 have h := bo_length t (List.replicate o z58)
 rw [bo_br, lA_, List.length_replicate] at h
 omega
def sh (n : Int) (x : S58) : S58 := if x.f0 ≥ 0 then ⟨x.f0 + n, x.f1 + n, x.f2, x.f3, x.f4⟩ else x
theorem br_sh : ∀ {t : Limb}, Gt t → ∀ (o n : Nat), br t (o + n) = (br t o).map (sh (n : Int))
 | .node l r s m d, h, o, n => by
  rcases h with ⟨rfl, rfl, h1, h2, -, rfl, rfl⟩ | ⟨hl, hr, -, rfl, rfl⟩
  ·rfl
  ·have a := Gt_bd hl
   unfold br
   rw [Gt_nil hl, iN_ (by simp), iN_ (by simp), List.map_append, List.map_append, ← br_sh hl, ← br_sh hr, show o + n + cnt l = o + cnt l + n from by omega, List.map_singleton]
   have e : sh (n : Int) (⟨((o + cnt l : Nat) : Int) - 1, ((o + cnt l + cnt r : Nat) : Int) - 1, ⟨#[]⟩, l.size + r.size, 1 + max l.deep r.deep⟩ : S58) = ⟨((o + cnt l + n : Nat) : Int) - 1, ((o + cnt l + n + cnt r : Nat) : Int) - 1, ⟨#[]⟩, l.size + r.size, 1 + max l.deep r.deep⟩ := by
    unfold sh
    rw [ip_ (by show ((o + cnt l : Nat) : Int) - 1 ≥ 0; omega)]
    show (⟨((o + cnt l : Nat) : Int) - 1 + n, ((o + cnt l + cnt r : Nat) : Int) - 1 + n, _, _, _⟩ : S58) = _
    rw [show ((o + cnt l : Nat) : Int) - 1 + n = ((o + cnt l + n : Nat) : Int) - 1 from by omega, show ((o + cnt l + cnt r : Nat) : Int) - 1 + n = ((o + cnt l + n + cnt r : Nat) : Int) - 1 from by omega]
   rw [e]
theorem br_mem : ∀ {t : Limb}, Gt t → ∀ (o : Nat) (b : S58), b ∈ br t o → -1 ≤ b.f0 ∧ b.f0 < ((o + cnt t : Nat) : Int) ∧ -1 ≤ b.f1 ∧ b.f1 < ((o + cnt t : Nat) : Int) ∧ b.f2.size ≤ 8
 | .node l r s m d, h, o, b, hb => by
  rcases h with ⟨rfl, rfl, h1, h2, -, rfl, rfl⟩ | ⟨hl, hr, -, rfl, rfl⟩
  ·have hb' : b ∈ [(⟨-1, -1, s, (s.size : Int), 0⟩ : S58)] := hb
   rw [List.mem_singleton.1 hb']
   refine ⟨Int.le_refl _, ?_, Int.le_refl _, ?_, h2⟩
   ·show (-1 : Int) < _; omega
   ·show (-1 : Int) < _; omega
  ·have a1 := Gt_bd hl
   have a2 := Gt_bd hr
   unfold br at hb
   unfold cnt
   rw [Gt_nil hl, iN_ (by simp)] at hb ⊢
   rcases List.mem_append.1 hb with hb | hb
   ·rcases List.mem_append.1 hb with hb | hb
    ·have := br_mem hl o b hb; omega
    ·have := br_mem hr _ b hb; omega
   ·rw [List.mem_singleton.1 hb]
    refine ⟨?_, ?_, ?_, ?_, Nat.zero_le _⟩
    ·show (-1 : Int) ≤ ((o + cnt l : Nat) : Int) - 1; omega
    ·show ((o + cnt l : Nat) : Int) - 1 < _; omega
    ·show (-1 : Int) ≤ ((o + cnt l + cnt r : Nat) : Int) - 1; omega
    ·show ((o + cnt l + cnt r : Nat) : Int) - 1 < _; omega
theorem br_last {t : Limb} (h : Gt t) (o : Nat) : ∃ xs x, br t o = xs ++ [x] ∧ x.f3 = t.size ∧ x.f4 = t.deep := by
 cases t with
 | nil => exact h.elim
 | node l r s m d =>
  rcases h with ⟨rfl, rfl, h1, h2, -, rfl, rfl⟩ | ⟨hl, hr, -, rfl, rfl⟩
  ·exact ⟨[], _, rfl, rfl, rfl⟩
  ·unfold br
   rw [Gt_nil hl, iN_ (by simp)]
   exact ⟨_, _, rfl, rfl, rfl⟩
theorem rd_last (xs : List S58) (x : S58) (n : Nat) (h : n = xs.length) (ys : List S58) : rd_T58 (xs ++ ([x] ++ ys)) (n : Int) = x := by
 subst h
 rw [rdTB _ _ (by simp)]
 simp
theorem rd_root {t : Limb} (h : Gt t) (n : Nat) (hn : n + 1 = cnt t) : (rd_T58 (br t 0) (n : Int)).f3 = t.size ∧ (rd_T58 (br t 0) (n : Int)).f4 = t.deep := by
 obtain ⟨xs, x, e, e3, e4⟩ := br_last h 0
 have hl := br_length t 0
 rw [e, lA_, lS_] at hl
 have := rd_last xs x n O_ []
 rw [List.append_nil] at this
 rw [e, this]
 exact ⟨e3, e4⟩
theorem V_br : ∀ {t : Limb}, Gt t → ∀ (A B : List S58), V (A ++ (br t A.length ++ B)) (A.length + cnt t - 1) = some (A.length, t)
 | .node l r s m d, h, A, B => by
  rcases h with ⟨rfl, rfl, h1, h2, h3, rfl, rfl⟩ | ⟨hl, hr, rfl, rfl, rfl⟩
  ·have e := rd_last A (⟨-1, -1, s, (s.size : Int), 0⟩ : S58) (A.length + 1 - 1) rfl B
   show V (A ++ ([(⟨-1, -1, s, (s.size : Int), 0⟩ : S58)] ++ B)) (A.length + 1 - 1) = _
   rw [V_leaf _ _ (by rw [e]; exact ⟨rfl, rfl⟩), e, ip_]
   ·rfl
   ·show (!(s.toList == []) && (decide (s.size ≤ 8) && (okN s s.size 0 && (decide ((s.size : Int) = (s.size : Int)) && decide ((0 : Int) = 0))))) = true
    have : ¬ s.toList = [] := fun h => by rw [tl_nil] at h; omega
    rw [h3, decide_eq_true h2]
    simp [this]
  ·have a1 := Gt_bd hl
   have a2 := Gt_bd hr
   rw [br_fork (Gt_nil hl), cnt_fork (Gt_nil hl)]
   have v1 := V_br hl A (br r (A.length + cnt l) ++ [(⟨((A.length + cnt l : Nat) : Int) - 1, ((A.length + cnt l + cnt r : Nat) : Int) - 1, ⟨#[]⟩, l.size + r.size, 1 + max l.deep r.deep⟩ : S58)] ++ B)
   have v2 := V_br hr (A ++ br l A.length) ([(⟨((A.length + cnt l : Nat) : Int) - 1, ((A.length + cnt l + cnt r : Nat) : Int) - 1, ⟨#[]⟩, l.size + r.size, 1 + max l.deep r.deep⟩ : S58)] ++ B)
   have e := rd_last (A ++ br l A.length ++ br r (A.length + cnt l)) (⟨((A.length + cnt l : Nat) : Int) - 1, ((A.length + cnt l + cnt r : Nat) : Int) - 1, ⟨#[]⟩, l.size + r.size, 1 + max l.deep r.deep⟩ : S58) (A.length + (cnt l + cnt r + 1) - 1) (by rw [lA_, lA_, br_length, br_length]; omega) B
   simp only [List.append_assoc] at v1 v2 e ⊢
   rw [lA_, br_length] at v2
   generalize A ++ (br l A.length ++ (br r (A.length + cnt l) ++ ([(⟨((A.length + cnt l : Nat) : Int) - 1, ((A.length + cnt l + cnt r : Nat) : Int) - 1, ⟨#[]⟩, l.size + r.size, 1 + max l.deep r.deep⟩ : S58)] ++ B))) = M at v1 v2 e ⊢
   rw [V_fork M _ (by rw [e]; intro h; have h' : ((A.length + cnt l : Nat) : Int) - 1 = -1 := h.1; omega), e]
   rw [ip_ ⟨tl_nil.2 rfl, by show ((A.length + cnt l + cnt r : Nat) : Int) - 1 = _; omega, O_⟩, show A.length + (cnt l + cnt r + 1) - 1 - 1 = A.length + cnt l + cnt r - 1 from by omega, v2, bs_]
   rw [ip_ ⟨by show 1 ≤ A.length + cnt l; omega, rfl⟩]
   show (V M (A.length + cnt l - 1)).bind _ = _
   rw [v1, bs_, ip_ ⟨rfl, rfl⟩]
theorem V_bo {t : Limb} (h : Gt t) : V (br t 0) (cnt t - 1) = some (0, t) := by
 have := V_br h [] []
 rw [List.append_nil, List.nil_append] at this
 show V (br t ([] : List S58).length) _ = _
 rw [show cnt t - 1 = ([] : List S58).length + cnt t - 1 from by simp]
 exact this
theorem goodR_br {t : Limb} (h : GtN t) : goodR (br t 0) = (decide (cnt t ≤ 200) && decide (t.size ≤ 300)) := by
 rcases h with rfl | h
 ·rfl
 ·have a := Gt_bd h
  unfold goodR
  rw [br_length, vr_some (V_bo h), (rd_root h (cnt t - 1) O_).1, decide_eq_false (p := cnt t = 0) O_, decide_eq_true (p := (((0, t) : Nat × Limb).1 : Int) = 0) rfl]
  simp
theorem br_szN {t : Limb} (h : GtN t) (k : Int) : (rd_T58 (br t 0) k).f2.size ≤ 1048576 := by
 unfold rd_T58
 rw [List.getD_eq_getElem?_getD]
 cases hx : (br t 0)[k.toNat]? with
 | none => exact Nat.zero_le _
 | some x =>
  rcases h with rfl | h
  ·cases hx
  ·have := (br_mem h 0 x (List.mem_of_getElem? hx)).2.2.2.2
   show x.f2.size ≤ _
   omega
theorem Join_l (a b : Limb) (ha : Gt a) (hb : Gt b) (hc : cnt a + cnt b ≤ 100000) : ∀ (d i : Nat) (x : List S58), i + d = cnt b → x.length = cnt a + i → ∀ k, d < k → spec_l12Join.l0 k (br a 0) (br b 0) x (br b 0) ((br b 0).length : Int) (i : Int) = some (x ++ ((br b 0).drop i).map (sh (cnt a : Int)) ++ [(⟨((cnt a : Nat) : Int) - 1, ((cnt a + cnt b : Nat) : Int) - 1, ⟨#[]⟩, a.size + b.size, 1 + max a.deep b.deep⟩ : S58)]) := by
 have pa := Gt_bd ha
 have pb := Gt_bd hb
 have la := br_length a 0
 have lb := br_length b 0
 intro d
 induction d with
 | zero =>
  intro i x hi hx k hk
  obtain ⟨k, rfl⟩ : ∃ m, k = m + 1 := ⟨k - 1, O_⟩
  simp only [spec_l12Join.l0]
  have ea : Aside0 (wrap64 (((br a 0).length : Int) - 1) = ((cnt a - 1 : Nat) : Int)) := ⟨by rw [la, w64 O_ O_]; omega⟩
  have eb : Aside0 (wrap64 (((br b 0).length : Int) - 1) = ((cnt b - 1 : Nat) : Int)) := ⟨by rw [lb, w64 O_ O_]; omega⟩
  have ra := rd_root ha (cnt a - 1) O_
  have rb := rd_root hb (cnt b - 1) O_
  rw [iN_ O_, ea.out, eb.out, ip_ O_, ip_ O_, ip_ O_, ip_ O_, ra.1, ra.2, rb.1, rb.2, w64 (i := a.size + b.size) O_ O_, w64 (i := b.deep + 1) O_ O_, w64 (i := a.deep + 1) O_ O_, w64 (i := (x.length : Int) - 1) O_ O_, show i = (br b 0).length from by omega, List.drop_length, List.map_nil, List.append_nil, hx, show ((cnt a - 1 : Nat) : Int) = (cnt a : Int) - 1 from by omega]
  rw [show ((cnt a + i : Nat) : Int) - 1 = ((cnt a + cnt b : Nat) : Int) - 1 from by omega]
  by_cases c : b.deep > a.deep
  ·rw [ip_ c, ip_ O_, show b.deep + 1 = 1 + max a.deep b.deep from by omega]
  ·rw [iN_ c, ip_ O_, show a.deep + 1 = 1 + max a.deep b.deep from by omega]
 | succ d ih =>
  intro i x hi hx k hk
  obtain ⟨k, rfl⟩ : ∃ m, k = m + 1 := ⟨k - 1, O_⟩
  have e2 : Aside0 (wrap64 ((i : Int) + 1) = ((i + 1 : Nat) : Int)) := ⟨by rw [w64 O_ O_]; omega⟩
  have hil : i < (br b 0).length := by omega
  have hm := br_mem hb 0 (rd_T58 (br b 0) (i : Int)) (by rw [rdTB _ _ hil]; exact List.getElem_mem hil)
  have hd : (br b 0).drop i = rd_T58 (br b 0) (i : Int) :: (br b 0).drop (i + 1) := by rw [List.drop_eq_getElem_cons hil, rdTB _ i hil]
  simp only [spec_l12Join.l0]
  rw [ip_ O_, ip_ O_, ip_ O_, e2.out, hd, List.map_cons]
  generalize rd_T58 (br b 0) (i : Int) = y at hm ⊢
  by_cases c : y.f0 ≥ 0
  ·rw [ip_ c, ip_ O_, w64 O_ O_, w64 O_ O_, ih (i + 1) _ O_ (by rw [lA_, lS_]; omega) k O_, la]
   have e : sh (cnt a : Int) y = ⟨y.f0 + (cnt a : Int), y.f1 + (cnt a : Int), y.f2, y.f3, y.f4⟩ := by
    unfold sh
    rw [ip_ c]
   rw [e]
   simp only [List.append_assoc, List.singleton_append, List.cons_append, List.nil_append]
  ·rw [iN_ c, ip_ O_, ih (i + 1) _ O_ (by rw [lA_, lS_]; omega) k O_]
   have e : sh (cnt a : Int) y = y := by
    unfold sh
    rw [iN_ c]
   rw [e]
   simp only [List.append_assoc, List.singleton_append, List.cons_append, List.nil_append]
theorem fk_nil (a : Limb) : fk a .nil = a := by cases a <;> rfl
theorem fk_GtN {a b : Limb} (ha : GtN a) (hb : GtN b) (h : cnt a + cnt b ≤ 1000) : GtN (fk a b) ∧ (fk a b).size = a.size + b.size ∧ (Gt a → Gt b → cnt (fk a b) = cnt a + cnt b + 1) := by
 rcases ha with rfl | ha
 ·exact ⟨hb, by show b.size = 0 + b.size; omega, fun h => h.elim⟩
 ·rcases hb with rfl | hb
  ·rw [fk_nil]
   exact ⟨.inr ha, by show a.size = a.size + 0; omega, fun _ h => h.elim⟩
  ·rw [fk_good ha hb h]
   exact ⟨.inr (.inr ⟨ha, hb, rfl, rfl, rfl⟩), rfl, fun _ _ => cnt_fork (Gt_nil ha)⟩
theorem join_ev (a b : Limb) (ha : GtN a) (hb : GtN b) (hc : cnt a + cnt b ≤ 1000) (k : Nat) (hk : cnt b < k) : spec_l12Join.f k (br a 0) (br b 0) = some (br (fk a b) 0) := by
 have la := br_length a 0
 have lb := br_length b 0
 unfold spec_l12Join.f
 rcases ha with rfl | ha
 ·rw [ip_ (show ((br .nil 0).length : Int) = 0 from rfl)]; rfl
 ·have pa := Gt_bd ha
  rw [iN_ O_]
  rcases hb with rfl | hb
  ·rw [ip_ (show ((br .nil 0).length : Int) = 0 from rfl), fk_nil]
  ·have pb := Gt_bd hb
   rw [iN_ O_, bs_, ip_ (by rw [List.length_nil]; omega), List.nil_append, show (0 : Int) = ((0 : Nat) : Int) from rfl, Join_l a b ha hb O_ (cnt b) 0 _ O_ O_ k hk, List.drop_zero, fk_good ha hb hc, br_fork (Gt_nil ha), ← br_sh hb]
   simp only [Nat.zero_add]
def psz : List ByteArray → Nat
 | [] => 0
 | p :: ps => p.size + psz ps
theorem psz_app (a b : List ByteArray) : psz (a ++ b) = psz a + psz b := by
 induction a with
 | nil => show _ = 0 + _; rw [Nat.zero_add]; rfl
 | cons x a ih => show x.size + psz (a ++ b) = x.size + psz a + psz b; omega
def pcR (l : List S58) : List ByteArray := (l.filter fun b => decide (b.f0 < 0)).map (fun b => b.f2)
theorem pcR_app (a b : List S58) : pcR (a ++ b) = pcR a ++ pcR b := by unfold pcR; rw [List.filter_append, List.map_append]
theorem pcR_bo : ∀ {t : Limb}, Gt t → ∀ out, pcR (bo t out) = pcR out ++ pcs t
 | .node l r s n d, h, out => by
  rcases h with ⟨rfl, rfl, h1, h2, -, rfl, rfl⟩ | ⟨hl, hr, -, rfl, rfl⟩
  ·show pcR (out ++ [_]) = _
   rw [pcR_app]
   rfl
  ·unfold bo pcs
   rw [Gt_nil hl, iN_ (by simp), iN_ (by simp), pcR_app, pcR_bo hr, pcR_bo hl]
   have b := Gt_bd hl
   have : pcR [(⟨((bo l out).length : Int) - 1, ((bo r (bo l out)).length : Int) - 1, ⟨#[]⟩, l.size + r.size, 1 + max l.deep r.deep⟩ : S58)] = [] := by
    unfold pcR
    rw [List.filter_cons_of_neg, List.filter_nil, List.map_nil]
    rw [decide_eq_true_eq]
    show ¬ ((bo l out).length : Int) - 1 < 0
    rw [bo_length]
    omega
   rw [this, List.append_nil, List.append_assoc]
theorem pcR_good {t : Limb} (h : GtN t) : pcR (bo t []) = pcs t := by
 rcases h with rfl | h
 ·rfl
 ·rw [pcR_bo h]; rfl
theorem pcs_bd : ∀ {t : Limb}, Gt t → (psz (pcs t) : Int) = t.size ∧ (pcs t).length ≤ cnt t ∧ ∀ p ∈ pcs t, 1 ≤ p.size ∧ p.size ≤ 8
 | .node l r s n d, h => by
  rcases h with ⟨rfl, rfl, h1, h2, -, rfl, rfl⟩ | ⟨hl, hr, -, rfl, rfl⟩
  ·refine ⟨rfl, Nat.le_refl _, fun p hp => ?_⟩
   have hp' : p ∈ [s] := hp
   rw [List.mem_singleton.1 hp']
   exact ⟨h1, h2⟩
  ·have a := pcs_bd hl
   have b := pcs_bd hr
   unfold pcs
   unfold cnt
   rw [Gt_nil hl, iN_ (by simp), iN_ (by simp), psz_app, lA_]
   refine ⟨?_, O_, fun p hp => ?_⟩
   ·show _ = l.size + r.size
    omega
   ·rcases List.mem_append.1 hp with hp | hp
    ·exact a.2.2 p hp
    ·exact b.2.2 p hp
theorem pcs_bdN {t : Limb} (h : GtN t) : (psz (pcs t) : Int) = t.size ∧ (pcs t).length ≤ cnt t := by
 rcases h with rfl | h
 ·exact ⟨rfl, Nat.le_refl _⟩
 ·exact ⟨(pcs_bd h).1, (pcs_bd h).2.1⟩
theorem drop_rdB (l : List S58) (i : Nat) (h : i < l.length) : l.drop i = rd_T58 l (i : Int) :: l.drop (i + 1) := by
 rw [List.drop_eq_getElem_cons h, rdTB l i h]
theorem Pieces_l (l : List S58) (hl : l.length ≤ 1048576) : ∀ (d i : Nat) (x : List ByteArray), i + d = l.length → x.length ≤ i → ∀ k, d < k → spec_l12Pieces.l0 k x l (l.length : Int) (i : Int) = some (x ++ pcR (l.drop i)) := by
 intro d
 induction d with
 | zero =>
  intro i x hi hx k hk
  obtain ⟨k, rfl⟩ : ∃ m, k = m + 1 := ⟨k - 1, O_⟩
  simp only [spec_l12Pieces.l0]
  rw [iN_ O_, show i = l.length from by omega, List.drop_length]
  show _ = some (x ++ [])
  rw [List.append_nil]
 | succ d ih =>
  intro i x hi hx k hk
  obtain ⟨k, rfl⟩ : ∃ m, k = m + 1 := ⟨k - 1, O_⟩
  have e2 : wrap64 ((i : Int) + 1) = ((i + 1 : Nat) : Int) := by rw [w64 O_ O_]; omega
  simp only [spec_l12Pieces.l0]
  rw [ip_ O_, ip_ O_, ip_ O_, e2, drop_rdB l i O_]
  have hP : ∀ b : S58, pcR (b :: l.drop (i + 1)) = if b.f0 < 0 then b.f2 :: pcR (l.drop (i + 1)) else pcR (l.drop (i + 1)) := fun b => by
   unfold pcR
   by_cases c : b.f0 < 0
   ·rw [ip_ c, List.filter_cons_of_pos (by rw [decide_eq_true c]), List.map_cons]
   ·rw [iN_ c, List.filter_cons_of_neg (by rw [decide_eq_true_eq]; exact c)]
  rw [hP]
  by_cases c : (rd_T58 l (i : Int)).f0 < 0
  ·rw [ip_ c, ip_ c, ip_ O_, ih (i + 1) _ O_ (by rw [lA_, lS_]; omega) k O_, List.append_assoc]
   rfl
  ·rw [iN_ c, iN_ c, ih (i + 1) _ O_ O_ k O_]
theorem Pieces_ev (l : List S58) (hl : l.length ≤ 1048576) (k : Nat) (hk : l.length < k) : spec_l12Pieces.f k l = some (pcR l) := by
 unfold spec_l12Pieces.f
 rw [show (0 : Int) = ((0 : Nat) : Int) from rfl, Pieces_l l hl l.length 0 [] O_ (Nat.le_refl _) k hk]
 rfl
theorem Text_l (ps : List ByteArray) (hl : ps.length ≤ 1048576) : ∀ (d i : Nat) (x : ByteArray), i + d = ps.length → x.size + psz (ps.drop i) ≤ 1000000 → ∀ k, d < k → spec_l12Text.l0 k x ps (ps.length : Int) (i : Int) = some ((ps.drop i).foldl (fun a p => a ++ p) x) := by
 intro d
 induction d with
 | zero =>
  intro i x hi hx k hk
  obtain ⟨k, rfl⟩ : ∃ m, k = m + 1 := ⟨k - 1, O_⟩
  simp only [spec_l12Text.l0]
  rw [iN_ O_, show i = ps.length from by omega, List.drop_length]
  rfl
 | succ d ih =>
  intro i x hi hx k hk
  obtain ⟨k, rfl⟩ : ∃ m, k = m + 1 := ⟨k - 1, O_⟩
  have e2 : wrap64 ((i : Int) + 1) = ((i + 1 : Nat) : Int) := by rw [w64 O_ O_]; omega
  have hil : i < ps.length := by omega
  have hd : ps.drop i = rdOf ByteArray.empty ps (i : Int) :: ps.drop (i + 1) := by
   rw [List.drop_eq_getElem_cons hil]
   congr 1
   unfold rdOf
   rw [tN_, List.getD_eq_getElem?_getD, List.getElem?_eq_getElem hil]; rfl
  rw [hd] at hx ⊢
  have hx' : x.size + ((rdOf ByteArray.empty ps (i : Int)).size + psz (ps.drop (i + 1))) ≤ 1000000 := hx
  simp only [spec_l12Text.l0]
  rw [ip_ O_, ip_ O_, ip_ O_, e2, ip_ O_, ih (i + 1) _ O_ (by rw [zA_]; omega) k O_]
  rfl
theorem Text_ev (l : List S58) (hl : l.length ≤ 1048576) (hz : psz (pcR l) ≤ 1000000) (hn : (pcR l).length ≤ 1048576) (k : Nat) (hk : l.length < k) (hk' : (pcR l).length < k) : spec_l12Text.f k l = some ((pcR l).foldl (fun a p => a ++ p) ⟨#[]⟩) := by
 unfold spec_l12Text.f
 rw [Pieces_ev l hl k hk, bs_, show (0 : Int) = ((0 : Nat) : Int) from rfl, Text_l (pcR l) hn (pcR l).length 0 _ O_ (by show 0 + _ ≤ _; rw [List.drop_zero]; omega) k hk', List.drop_zero]
theorem tx_size (ps : List ByteArray) : ∀ a : ByteArray, (ps.foldl (fun a p => a ++ p) a).size = a.size + psz ps := by
 induction ps with
 | nil => intro a; rfl
 | cons p ps ih =>
  intro a
  show (List.foldl _ (a ++ p) ps).size = a.size + (p.size + psz ps)
  rw [ih, zA_]; omega
def gp (s : ByteArray) : Prop := 1 ≤ s.size ∧ s.size ≤ 8 ∧ okN s s.size 0 = true
theorem lf_good {s : ByteArray} (h : gp s) : Gt (lf s) ∧ cnt (lf s) = 1 ∧ (lf s).size = (s.size : Int) ∧ br (lf s) 0 = [⟨-1, -1, s, (s.size : Int), 0⟩] := by
 have e : lf s = .node .nil .nil s (s.size : Int) 0 := by
  unfold lf
  rw [iN_ (fun c => by rw [tl_nil] at c; have := h.1; omega)]
 rw [e]
 exact ⟨.inl ⟨rfl, rfl, h.1, h.2.1, h.2.2, rfl, rfl⟩, rfl, rfl, rfl⟩
theorem pcs_gp : ∀ {t : Limb}, Gt t → cnt t + 1 = 2 * (pcs t).length ∧ ∀ p ∈ pcs t, gp p
 | .node l r s n d, h => by
  rcases h with ⟨rfl, rfl, h1, h2, h3, rfl, rfl⟩ | ⟨hl, hr, -, rfl, rfl⟩
  ·refine ⟨rfl, fun p hp => ?_⟩
   have hp' : p ∈ [s] := hp
   rw [List.mem_singleton.1 hp']
   exact ⟨h1, h2, h3⟩
  ·have a := pcs_gp hl
   have b := pcs_gp hr
   unfold pcs
   rw [cnt_fork (Gt_nil hl), Gt_nil hl, iN_ (by simp), lA_]
   refine ⟨O_, fun p hp => ?_⟩
   rcases List.mem_append.1 hp with hp | hp
   ·exact a.2 p hp
   ·exact b.2 p hp
def spl : Limb → Int → Option (Limb × Limb)
 | .nil, _ => some (.nil, .nil)
 | .node l r s n d, at_ =>
  if at_ = 0 then some (.nil, .node l r s n d)
  else if at_ = n then some (.node l r s n d, .nil)
  else if l.isNil = true then (if 0 ≤ at_ ∧ at_ ≤ (s.size : Int) then some (lf (s.extract 0 at_.toNat), lf (s.extract at_.toNat s.size)) else none)
  else if at_ ≤ l.size then (spl l at_).bind fun p => some (p.1, fk p.2 r)
  else (spl r (wrap64 (at_ - l.size))).bind fun p => some (fk l p.1, p.2)
theorem pszR_cons (p : ByteArray) (ps : List ByteArray) : psz (p :: ps) = p.size + psz ps := rfl
theorem bal_ok : ∀ (d : Nat) (ps : List ByteArray), ps.length ≤ d → ps.length ≤ 400 → (∀ p ∈ ps, gp p) → GtN (bal d ps) ∧ (ps ≠ [] → Gt (bal d ps)) ∧ cnt (bal d ps) = 2 * ps.length - 1 ∧ (bal d ps).size = (psz ps : Int) := by
 intro d
 induction d with
 | zero =>
  intro ps hd hl hg
  have e : ps = [] := List.length_eq_zero_iff.1 O_
  subst e
  exact ⟨.inl rfl, fun h => absurd rfl h, rfl, rfl⟩
 | succ d ih =>
  intro ps hd hl hg
  have hB : bal (d + 1) ps = if ps.length = 0 then .nil else (if ps.length = 1 then lf (rdOf ByteArray.empty ps 0) else fk (bal d (ps.take ((ps.length + 1) / 2))) (bal d (ps.drop ((ps.length + 1) / 2)))) := rfl
  rw [hB]
  by_cases h0 : ps.length = 0
  ·have e : ps = [] := List.length_eq_zero_iff.1 h0
   subst e
   exact ⟨.inl rfl, fun h => absurd rfl h, rfl, rfl⟩
  ·rw [iN_ h0]
   by_cases h1 : ps.length = 1
   ·rw [ip_ h1]
    obtain ⟨p, e⟩ := List.length_eq_one_iff.1 h1
    subst e
    obtain ⟨a, b, c, _⟩ := lf_good (hg p (List.mem_singleton.2 rfl))
    exact ⟨.inr a, fun _ => a, b, c⟩
   ·rw [iN_ h1]
    have lt : (ps.take ((ps.length + 1) / 2)).length = (ps.length + 1) / 2 := by rw [List.length_take]; omega
    have ld : (ps.drop ((ps.length + 1) / 2)).length = ps.length - (ps.length + 1) / 2 := by rw [List.length_drop]
    obtain ⟨a1, a2, a3, a4⟩ := ih (ps.take ((ps.length + 1) / 2)) O_ O_ (fun p hp => hg p (List.mem_of_mem_take hp))
    obtain ⟨b1, b2, b3, b4⟩ := ih (ps.drop ((ps.length + 1) / 2)) O_ O_ (fun p hp => hg p (List.mem_of_mem_drop hp))
    have ga := a2 (fun e => by rw [e] at lt; have : (0 : Nat) = _ := lt; omega)
    have gb := b2 (fun e => by rw [e] at ld; have : (0 : Nat) = _ := ld; omega)
    obtain ⟨c1, c2, c3⟩ := fk_GtN a1 b1 O_
    have c4 := c3 ga gb
    refine ⟨c1, fun _ => ?_, O_, ?_⟩
    ·rw [fk_good ga gb O_]
     exact .inr ⟨ga, gb, rfl, rfl, rfl⟩
    ·rw [c2, a4, b4]
     have := psz_app (ps.take ((ps.length + 1) / 2)) (ps.drop ((ps.length + 1) / 2))
     rw [List.take_append_drop] at this
     omega
theorem Build_ev : ∀ (d : Nat) (ps : List ByteArray), ps.length ≤ d → ps.length ≤ 400 → (∀ p ∈ ps, gp p) → ∃ K, ∀ k, K ≤ k → spec_l12Build.f k ps = some (br (bal d ps) 0) := by
 intro d
 induction d with
 | zero =>
  intro ps hd hl hg
  have e : ps = [] := List.length_eq_zero_iff.1 O_
  subst e
  refine ⟨1, fun k hk => ?_⟩
  obtain ⟨k, rfl⟩ : ∃ m, k = m + 1 := ⟨k - 1, O_⟩
  simp only [spec_l12Build.f]
  rfl
 | succ d ih =>
  intro ps hd hl hg
  have hB : bal (d + 1) ps = if ps.length = 0 then .nil else (if ps.length = 1 then lf (rdOf ByteArray.empty ps 0) else fk (bal d (ps.take ((ps.length + 1) / 2))) (bal d (ps.drop ((ps.length + 1) / 2)))) := rfl
  rw [hB]
  by_cases h0 : ps.length = 0
  ·refine ⟨1, fun k hk => ?_⟩
   obtain ⟨k, rfl⟩ : ∃ m, k = m + 1 := ⟨k - 1, O_⟩
   simp only [spec_l12Build.f]
   rw [ip_ O_, ip_ h0]
   rfl
  ·rw [iN_ h0]
   by_cases h1 : ps.length = 1
   ·rw [ip_ h1]
    obtain ⟨p, e⟩ := List.length_eq_one_iff.1 h1
    refine ⟨1, fun k hk => ?_⟩
    obtain ⟨k, rfl⟩ : ∃ m, k = m + 1 := ⟨k - 1, O_⟩
    simp only [spec_l12Build.f]
    rw [iN_ O_, ip_ O_, ip_ O_]
    unfold spec_l12Piece.f
    rw [bs_]
    subst e
    rw [(lf_good (hg p (List.mem_singleton.2 rfl)) : Gt (lf (rdOf ByteArray.empty [p] 0)) ∧ _).2.2.2]
   ·rw [iN_ h1]
    have lt : (ps.take ((ps.length + 1) / 2)).length = (ps.length + 1) / 2 := by rw [List.length_take]; omega
    have ld : (ps.drop ((ps.length + 1) / 2)).length = ps.length - (ps.length + 1) / 2 := by rw [List.length_drop]
    have ga := fun p hp => hg p (List.mem_of_mem_take (i := (ps.length + 1) / 2) hp)
    have gb := fun p hp => hg p (List.mem_of_mem_drop (i := (ps.length + 1) / 2) hp)
    obtain ⟨K1, hK1⟩ := ih _ O_ O_ ga
    obtain ⟨K2, hK2⟩ := ih _ O_ O_ gb
    obtain ⟨a1, -, a3, -⟩ := bal_ok d _ O_ O_ ga
    obtain ⟨b1, -, b3, -⟩ := bal_ok d _ O_ O_ gb
    refine ⟨K1 + K2 + 1002, fun k hk => ?_⟩
    obtain ⟨k, rfl⟩ : ∃ m, k = m + 1 := ⟨k - 1, O_⟩
    have e1 : Aside0 (wrap64 (Int.tdiv (wrap64 ((ps.length : Int) + 1)) 2) = (((ps.length + 1) / 2 : Nat) : Int)) := ⟨by
     rw [w64 (i := (ps.length : Int) + 1) O_ O_, Int.tdiv_eq_ediv_of_nonneg O_, w64 O_ O_]; omega⟩
    simp only [spec_l12Build.f]
    rw [iN_ O_, iN_ O_, e1.out, ip_ O_, ip_ O_, tN_, hK1 k O_, bs_, hK2 k O_, bs_, join_ev _ _ a1 b1 O_ k O_, bs_]
theorem bgs_bo (t : Limb) : ∀ out, bgs t out = bo t out := by
 induction t with
 | nil => intro out; rfl
 | node l r s n d ihl ihr =>
  intro out
  unfold bgs bo
  rw [ihr, ihl]
theorem ropeF_ev {t : Limb} (h : GtN t) (hc : cnt t ≤ 10000) (hz : 0 ≤ t.size) : ropeF t = some (if cnt t ≤ 200 ∧ t.size ≤ 300 then (br t 0, true) else ([], false)) := by
 unfold ropeF
 rw [ip_ O_, bgs_bo, bo_nil]
 by_cases c1 : cnt t ≤ 200
 ·rw [iN_ O_]
  rcases h with rfl | h
  ·rw [ip_ (show Limb.nil.isNil = true from rfl), ip_ ⟨c1, by show (0 : Int) ≤ 300; omega⟩]
  ·rw [Gt_nil h, iN_ (by simp)]
   by_cases c2 : t.size ≤ 300
   ·rw [iN_ O_, ip_ ⟨c1, c2⟩]
   ·rw [ip_ O_, iN_ (fun h => c2 h.2)]
 ·rw [ip_ O_, iN_ (fun h => c1 h.1)]
def ush (n : Int) (x : S58) : S58 := if x.f0 ≥ 0 then ⟨x.f0 - n, x.f1 - n, x.f2, x.f3, x.f4⟩ else x
theorem ush_sh (n : Nat) (x : S58) : ush (n : Int) (sh (n : Int) x) = x := by
 obtain ⟨a, b, c, d, e⟩ := x
 unfold sh
 by_cases h : a ≥ 0
 ·rw [ip_ h]
  unfold ush
  rw [ip_ (by show a + (n : Int) ≥ 0; omega)]
  show (⟨a + (n : Int) - n, b + (n : Int) - n, c, d, e⟩ : S58) = _
  rw [show a + (n : Int) - n = a from by omega, show b + (n : Int) - n = b from by omega]
 ·rw [iN_ h]
  unfold ush
  rw [iN_ h]
theorem ush_br {t : Limb} (h : Gt t) (n : Nat) : (br t n).map (ush (n : Int)) = br t 0 := by
 have := br_sh h 0 n
 rw [Nat.zero_add] at this
 rw [this, List.map_map]
 have e : (ush (n : Int)) ∘ (sh (n : Int)) = id := funext fun x => ush_sh n x
 rw [e, List.map_id]
theorem Part_l (n : Int) (hn0 : 0 ≤ n) (hn : n ≤ 100000) (M : List S58) (hM : M.length ≤ 100000) (hm : ∀ b ∈ M, -1 ≤ b.f0 ∧ b.f0 ≤ 100000 ∧ -1 ≤ b.f1 ∧ b.f1 ≤ 100000) : ∀ (d i : Nat) (x : List S58), i + d = M.length → x.length ≤ i → ∀ k, d < k → spec_l12Part.l0 k n x M (M.length : Int) (i : Int) = some (x ++ (M.drop i).map (ush n)) := by
 intro d
 induction d with
 | zero =>
  intro i x hi hx k hk
  obtain ⟨k, rfl⟩ : ∃ m, k = m + 1 := ⟨k - 1, O_⟩
  simp only [spec_l12Part.l0]
  rw [iN_ O_, show i = M.length from by omega, List.drop_length, List.map_nil, List.append_nil]
 | succ d ih =>
  intro i x hi hx k hk
  obtain ⟨k, rfl⟩ : ∃ m, k = m + 1 := ⟨k - 1, O_⟩
  have e2 : Aside0 (wrap64 ((i : Int) + 1) = ((i + 1 : Nat) : Int)) := ⟨by rw [w64 O_ O_]; omega⟩
  have hil : i < M.length := by omega
  have hb := hm (rd_T58 M (i : Int)) (by rw [rdTB _ _ hil]; exact List.getElem_mem hil)
  have hd : M.drop i = rd_T58 M (i : Int) :: M.drop (i + 1) := by rw [List.drop_eq_getElem_cons hil, rdTB _ i hil]
  simp only [spec_l12Part.l0]
  rw [ip_ O_, ip_ O_, ip_ O_, e2.out, hd, List.map_cons]
  generalize rd_T58 M (i : Int) = y at hb ⊢
  by_cases c : y.f0 ≥ 0
  ·rw [ip_ c, ip_ O_, w64 O_ O_, w64 O_ O_, ih (i + 1) _ O_ (by rw [lA_, lS_]; omega) k O_, List.append_assoc]
   have e : ush n y = ⟨y.f0 - n, y.f1 - n, y.f2, y.f3, y.f4⟩ := by
    unfold ush
    rw [ip_ c]
   rw [e]
   rfl
  ·rw [iN_ c, ip_ O_, ih (i + 1) _ O_ (by rw [lA_, lS_]; omega) k O_, List.append_assoc]
   have e : ush n y = y := by
    unfold ush
    rw [iN_ c]
   rw [e]
   rfl
theorem Part_ev {t : Limb} (h : Gt t) (A B : List S58) (hL : (A ++ (br t A.length ++ B)).length ≤ 200) (hS : ∀ k : Int, (rd_T58 (A ++ (br t A.length ++ B)) k).f2.size ≤ 1048576) (i : Int) (hi : i = ((A.length + cnt t - 1 : Nat) : Int)) : ∃ K, ∀ k, K ≤ k → spec_l12Part.f k (A ++ (br t A.length ++ B)) i = some (br t 0) := by
 have p := Gt_bd h
 have hv := V_br h A B
 have hl := br_length t A.length
 have hlen : (A ++ (br t A.length ++ B)).length = A.length + (cnt t + B.length) := by rw [lA_, lA_, hl]
 obtain ⟨K, hK⟩ := First_ev _ hL hS (A.length + cnt t - 1) O_
 rw [vr_some hv] at hK
 refine ⟨K + 1000, fun k hk => ?_⟩
 subst hi
 have e1 : Aside0 (wrap64 (((A.length + cnt t - 1 : Nat) : Int) + 1) = ((A.length + cnt t : Nat) : Int)) := ⟨by rw [w64 O_ O_]; omega⟩
 unfold spec_l12Part.f
 rw [hK k O_, bs_, e1.out]
 show (if 0 ≤ (A.length : Int) then _ else none) = _
 rw [ip_ O_, ip_ (by show (A.length : Int) ≤ _; omega), ip_ O_, bs_]
 have e2 : ((A ++ (br t A.length ++ B)).take (A.length + cnt t)).drop A.length = br t A.length := by
  rw [List.take_append, List.drop_append, show A.length + cnt t - A.length = cnt t from by omega, List.take_of_length_le (l := A) O_, List.drop_length, List.nil_append, Nat.sub_self, List.drop_zero, ← hl, List.take_left]
 simp only [tN_]
 rw [e2, show (0 : Int) = ((0 : Nat) : Int) from rfl, Part_l (A.length : Int) O_ O_ (br t A.length) O_ (fun b hb => by have := br_mem h A.length b hb; omega) (cnt t) 0 [] O_ (Nat.zero_le _) k O_, List.drop_zero, List.nil_append, ush_br h]
theorem Size_ev {t : Limb} (h : Gt t) (hc : cnt t ≤ 10000) : spec_l12Size.f (br t 0) = some t.size := by
 have p := Gt_bd h
 have hl := br_length t 0
 have e1 : Aside0 (wrap64 (((br t 0).length : Int) - 1) = ((cnt t - 1 : Nat) : Int)) := ⟨by rw [hl, w64 O_ O_]; omega⟩
 unfold spec_l12Size.f
 rw [iN_ O_, e1.out, ip_ O_, ip_ O_, (rd_root h (cnt t - 1) O_).1]
theorem Split_ev : ∀ {t : Limb}, Gt t → cnt t ≤ 200 → ∀ a : Int, 0 ≤ a → a ≤ t.size → ∃ x y, spl t a = some (x, y) ∧ GtN x ∧ GtN y ∧ cnt x ≤ cnt t ∧ cnt y ≤ cnt t ∧ x.size = a ∧ y.size = t.size - a ∧ ∃ K, ∀ k, K ≤ k → spec_l12Split.f k (br t 0) a = some (br x 0, br y 0)
 | .node l r s n d, h, hc, a, h0, h1 => by
  have hp := Gt_bd h
  have hz := Size_ev h O_
  have hle := br_length (.node l r s n d) 0
  have e1 : Aside0 (wrap64 (((br (.node l r s n d) 0).length : Int) - 1) = ((cnt (.node l r s n d) - 1 : Nat) : Int)) := ⟨by rw [hle, w64 O_ O_]; omega⟩
  have hsp : spl (.node l r s n d) a = (if a = 0 then some (.nil, .node l r s n d) else if a = n then some (.node l r s n d, .nil) else if l.isNil = true then (if 0 ≤ a ∧ a ≤ (s.size : Int) then some (lf (s.extract 0 a.toNat), lf (s.extract a.toNat s.size)) else none) else if a ≤ l.size then (spl l a).bind fun p => some (p.1, fk p.2 r) else (spl r (wrap64 (a - l.size))).bind fun p => some (fk l p.1, p.2)) := rfl
  rw [hsp]
  by_cases a0 : a = 0
  ·refine ⟨.nil, .node l r s n d, by rw [ip_ a0], .inl rfl, .inr h, Nat.zero_le _, Nat.le_refl _, a0.symm, by rw [a0]; exact (Int.sub_zero _).symm, 1, fun k hk => ?_⟩
   obtain ⟨k, rfl⟩ : ∃ m, k = m + 1 := ⟨k - 1, O_⟩
   simp only [spec_l12Split.f]
   rw [ip_ a0]
   rfl
  ·rw [iN_ a0]
   have h1' : a ≤ n := h1
   by_cases an : a = n
   ·refine ⟨.node l r s n d, .nil, by rw [ip_ an], .inr h, .inl rfl, Nat.le_refl _, Nat.zero_le _, an.symm, by show (0 : Int) = n - a; omega, 1, fun k hk => ?_⟩
    obtain ⟨k, rfl⟩ : ∃ m, k = m + 1 := ⟨k - 1, O_⟩
    simp only [spec_l12Split.f]
    rw [iN_ a0, hz, bs_, ip_ (show a = Limb.size (.node l r s n d) from an)]
    rfl
   ·rw [iN_ an]
    have hS : ∀ k, spec_l12Split.f (k + 1) (br (.node l r s n d) 0) a = (if ((rd_T58 (br (.node l r s n d) 0) ((cnt (.node l r s n d) - 1 : Nat) : Int)).f0) < 0 then (if 0 ≤ a then (if a ≤ (((rd_T58 (br (.node l r s n d) 0) ((cnt (.node l r s n d) - 1 : Nat) : Int)).f2).size : Int) then ((spec_l12Piece.f (((rd_T58 (br (.node l r s n d) 0) ((cnt (.node l r s n d) - 1 : Nat) : Int)).f2).extract 0 (a : Int).toNat)).bind fun t216 => ((spec_l12Piece.f (((rd_T58 (br (.node l r s n d) 0) ((cnt (.node l r s n d) - 1 : Nat) : Int)).f2).extract (a : Int).toNat ((rd_T58 (br (.node l r s n d) 0) ((cnt (.node l r s n d) - 1 : Nat) : Int)).f2).size)).bind fun t219 => (some (t216, t219)))) else (none)) else (none)) else ((spec_l12Part.f k (br (.node l r s n d) 0) ((rd_T58 (br (.node l r s n d) 0) ((cnt (.node l r s n d) - 1 : Nat) : Int)).f0)).bind fun t222 => ((spec_l12Part.f k (br (.node l r s n d) 0) ((rd_T58 (br (.node l r s n d) 0) ((cnt (.node l r s n d) - 1 : Nat) : Int)).f1)).bind fun t225 => ((spec_l12Size.f t222).bind fun t228 => (if a < t228 then ((spec_l12Split.f k t222 a).bind fun bt229 => ((spec_l12Join.f k bt229.2 t225).bind fun t235 => (some (bt229.1, t235)))) else ((spec_l12Split.f k t225 (wrap64 (a - t228))).bind fun bt238 => ((spec_l12Join.f k t222 bt238.1).bind fun t244 => (some (t244, bt238.2))))))))) := fun k => by
     simp only [spec_l12Split.f]
     rw [iN_ a0, hz, bs_, iN_ (show ¬ a = Limb.size (.node l r s n d) from an), e1.out, ip_ O_, ip_ O_]
    rcases h with ⟨rfl, rfl, b1, b2, b3, rfl, rfl⟩ | ⟨hl, hr, rfl, rfl, rfl⟩
    ·rw [ip_ (show Limb.nil.isNil = true from rfl), ip_ ⟨h0, h1'⟩]
     have ht : a.toNat ≤ s.size := by omega
     have z1 : (s.extract 0 a.toNat).size = a.toNat := by rw [zE_]; omega
     have z2 : (s.extract a.toNat s.size).size = s.size - a.toNat := by rw [zE_]; omega
     obtain ⟨c1, c2, c3, c4⟩ := lf_good (s := s.extract 0 a.toNat) ⟨O_, O_, okN_sub b3 0 a.toNat ht⟩
     obtain ⟨d1, d2, d3, d4⟩ := lf_good (s := s.extract a.toNat s.size) ⟨O_, O_, okN_sub b3 a.toNat s.size (Nat.le_refl _)⟩
     refine ⟨_, _, rfl, .inr c1, .inr d1, by rw [c2]; exact Nat.le_refl _, by rw [d2]; exact Nat.le_refl _, by rw [c3]; omega, by rw [d3]; show _ = (s.size : Int) - a; omega, 1, fun k hk => ?_⟩
     obtain ⟨k, rfl⟩ : ∃ m, k = m + 1 := ⟨k - 1, O_⟩
     have er : rd_T58 (br (.node .nil .nil s (s.size : Int) 0) 0) ((cnt (.node .nil .nil s (s.size : Int) 0) - 1 : Nat) : Int) = ⟨-1, -1, s, (s.size : Int), 0⟩ := rfl
     rw [hS, er, ip_ (by show (-1 : Int) < 0; omega), ip_ h0, ip_ h1', c4, d4]
     unfold spec_l12Piece.f
     rfl
    ·have q1 := Gt_bd hl
     have q2 := Gt_bd hr
     have hcn := cnt_fork (r := r) (s := ⟨#[]⟩) (n := l.size + r.size) (d := 1 + max l.deep r.deep) (Gt_nil hl)
     have hbr := br_fork (r := r) (s := ⟨#[]⟩) (n := l.size + r.size) (d := 1 + max l.deep r.deep) (Gt_nil hl) 0
     rw [Nat.zero_add] at hbr
     have szN : ∀ k : Int, (rd_T58 (br (.node l r ⟨#[]⟩ (l.size + r.size) (1 + max l.deep r.deep)) 0) k).f2.size ≤ 1048576 := br_szN (.inr (.inr ⟨hl, hr, rfl, rfl, rfl⟩))
     have er : rd_T58 (br (.node l r ⟨#[]⟩ (l.size + r.size) (1 + max l.deep r.deep)) 0) ((cnt (.node l r ⟨#[]⟩ (l.size + r.size) (1 + max l.deep r.deep)) - 1 : Nat) : Int) = ⟨((cnt l : Nat) : Int) - 1, ((cnt l + cnt r : Nat) : Int) - 1, ⟨#[]⟩, l.size + r.size, 1 + max l.deep r.deep⟩ := by
      have := rd_last (br l 0 ++ br r (cnt l)) (⟨((cnt l : Nat) : Int) - 1, ((cnt l + cnt r : Nat) : Int) - 1, ⟨#[]⟩, l.size + r.size, 1 + max l.deep r.deep⟩ : S58) (cnt l + cnt r) (by rw [lA_, br_length, br_length]) []
      rw [List.append_nil] at this
      rw [hcn, hbr]
      exact this
     have hA : ∃ K, ∀ k, K ≤ k → spec_l12Part.f k (br (.node l r ⟨#[]⟩ (l.size + r.size) (1 + max l.deep r.deep)) 0) (((cnt l : Nat) : Int) - 1) = some (br l 0) := by
      have := Part_ev hl [] (br r (cnt l) ++ [⟨((cnt l : Nat) : Int) - 1, ((cnt l + cnt r : Nat) : Int) - 1, ⟨#[]⟩, l.size + r.size, 1 + max l.deep r.deep⟩])
      simp only [List.nil_append, List.length_nil, ← List.append_assoc] at this
      rw [← hbr] at this
      exact this O_ szN _ O_
     have hB : ∃ K, ∀ k, K ≤ k → spec_l12Part.f k (br (.node l r ⟨#[]⟩ (l.size + r.size) (1 + max l.deep r.deep)) 0) (((cnt l + cnt r : Nat) : Int) - 1) = some (br r 0) := by
      have := Part_ev hr (br l 0) [⟨((cnt l : Nat) : Int) - 1, ((cnt l + cnt r : Nat) : Int) - 1, ⟨#[]⟩, l.size + r.size, 1 + max l.deep r.deep⟩]
      rw [br_length, ← List.append_assoc, ← hbr] at this
      exact this O_ szN _ O_
     obtain ⟨KA, hA⟩ := hA
     obtain ⟨KB, hB⟩ := hB
     have hS' : ∀ k, KA + KB ≤ k → spec_l12Split.f (k + 1) (br (.node l r ⟨#[]⟩ (l.size + r.size) (1 + max l.deep r.deep)) 0) a = (if a < l.size then ((spec_l12Split.f k (br l 0) a).bind fun bt229 => ((spec_l12Join.f k bt229.2 (br r 0)).bind fun t235 => (some (bt229.1, t235)))) else ((spec_l12Split.f k (br r 0) (wrap64 (a - l.size))).bind fun bt238 => ((spec_l12Join.f k (br l 0) bt238.1).bind fun t244 => (some (t244, bt238.2))))) := fun k hk => by
      rw [hS, er, iN_ (by show ¬ ((cnt l : Nat) : Int) - 1 < 0; omega)]
      show ((spec_l12Part.f k _ (((cnt l : Nat) : Int) - 1)).bind fun t222 => ((spec_l12Part.f k _ (((cnt l + cnt r : Nat) : Int) - 1)).bind fun t225 => _)) = _
      rw [hA k O_, bs_, hB k O_, bs_, Size_ev hl O_, bs_]
     have hnl : ¬ l.isNil = true := by rw [Gt_nil hl]; simp
     rw [iN_ hnl, hcn]
     by_cases al : a < l.size
     ·obtain ⟨x, y, s1, s2, s3, s4, s5, s6, s7, K, s8⟩ := Split_ev hl O_ a h0 O_
      obtain ⟨f1, f2, f3⟩ := fk_GtN s3 (.inr hr) O_
      have fc : cnt (fk y r) ≤ cnt l + cnt r + 1 := by
       rcases s3 with rfl | s3
       ·show cnt r ≤ _; omega
       ·rw [f3 s3 hr]; omega
      refine ⟨x, fk y r, by rw [ip_ O_, s1]; rfl, s2, f1, O_, fc, s6, by rw [f2, s7]; show _ = l.size + r.size - a; omega, KA + KB + K + 1000, fun k hk => ?_⟩
      obtain ⟨k, rfl⟩ : ∃ m, k = m + 1 := ⟨k - 1, O_⟩
      rw [hS' k O_, ip_ al, s8 k O_, bs_, join_ev y r s3 (.inr hr) O_ k O_, bs_]
     ·have e2 : wrap64 (a - l.size) = a - l.size := w64 O_ O_
      by_cases ae : a = l.size
      ·have hs2 : spl l a = some (l, .nil) := by
        cases l with
        | nil => exact hl.elim
        | node l1 l2 s' n' d' =>
         have ae' : a = n' := ae
         show (if a = 0 then _ else if a = n' then some _ else _) = _
         rw [iN_ a0, ip_ ae']
       refine ⟨l, r, by rw [ip_ O_, hs2]; rfl, .inr hl, .inr hr, O_, O_, ae.symm, by show r.size = l.size + r.size - a; omega, KA + KB + 1000, fun k hk => ?_⟩
       obtain ⟨k, rfl⟩ : ∃ m, k = m + 2 := ⟨k - 2, O_⟩
       rw [hS' (k + 1) O_, iN_ al, e2, show a - l.size = 0 from by omega]
       have : spec_l12Split.f (k + 1) (br r 0) 0 = some ([], br r 0) := by
        simp only [spec_l12Split.f, if_true]
       rw [this, bs_]
       show ((spec_l12Join.f (k + 1) (br l 0) (br .nil 0)).bind fun t244 => some (t244, br r 0)) = _
       rw [join_ev l .nil (.inr hl) (.inl rfl) (by show cnt l + 0 ≤ 1000; omega) (k + 1) (by show 0 < k + 1; omega), bs_, fk_nil]
      ·obtain ⟨x, y, s1, s2, s3, s4, s5, s6, s7, K, s8⟩ := Split_ev hr O_ (a - l.size) O_ O_
       obtain ⟨f1, f2, f3⟩ := fk_GtN (.inr hl) s2 O_
       have fc : cnt (fk l x) ≤ cnt l + cnt r + 1 := by
        rcases s2 with rfl | s2
        ·rw [fk_nil]; omega
        ·rw [f3 hl s2]; omega
       refine ⟨fk l x, y, by rw [iN_ O_, e2, s1]; rfl, f1, s3, fc, O_, by rw [f2, s6]; omega, by rw [s7]; show _ = l.size + r.size - a; omega, KA + KB + K + 1000, fun k hk => ?_⟩
       obtain ⟨k, rfl⟩ : ∃ m, k = m + 1 := ⟨k - 1, O_⟩
       rw [hS' k O_, iN_ al, e2, s8 k O_, bs_, join_ev l x (.inr hl) s2 O_ k O_, bs_]
theorem Cut_l : ∀ (n : Nat) (s : ByteArray) (x : List ByteArray), s.size ≤ n → okN s s.size 0 = true → x.length + s.size ≤ 1000000 → ∃ ps, (∀ k, n < k → spec_l12Cut.l0 k s x = some (x ++ ps) ∧ impl_chunks.l0 k s x = some (x ++ ps)) ∧ (∀ p ∈ ps, gp p) ∧ 8 * ps.length ≤ s.size + 7 ∧ psz ps = s.size := by
 intro n
 induction n with
 | zero =>
  intro s x hn ho hx
  have e : s.toList = [] := tl_nil.2 O_
  refine ⟨[], fun k hk => ?_, fun p hp => (by cases hp), by show 8 * 0 ≤ _; omega, by show 0 = s.size; omega⟩
  obtain ⟨k, rfl⟩ : ∃ m, k = m + 1 := ⟨k - 1, O_⟩
  rw [List.append_nil]
  constructor
  ·simp only [spec_l12Cut.l0]
   rw [iN_ O_, ip_ e]
  ·simp only [impl_chunks.l0]
   rw [iN_ O_, ip_ e]
 | succ n ih =>
  intro s x hn ho hx
  by_cases h8 : (s.size : Int) > 8
  ·have e1 : (s.extract 8 s.size).size = s.size - 8 := by rw [zE_]; omega
   have e2 : (s.extract 0 8).size = 8 := by rw [zE_]; omega
   obtain ⟨ps, h1, h2, h3, h4⟩ := ih (s.extract 8 s.size) (x ++ [s.extract 0 8]) O_ (okN_sub ho 8 s.size (Nat.le_refl _)) (by rw [lA_, lS_]; omega)
   refine ⟨s.extract 0 8 :: ps, fun k hk => ?_, fun p hp => ?_, by rw [List.length_cons]; omega, by rw [pszR_cons]; omega⟩
   ·obtain ⟨k, rfl⟩ : ∃ m, k = m + 1 := ⟨k - 1, O_⟩
    have h := h1 k O_
    rw [List.append_assoc] at h
    constructor
    ·simp only [spec_l12Cut.l0]
     rw [ip_ h8, ip_ O_, ip_ O_, ip_ O_, h.1]
     rfl
    ·simp only [impl_chunks.l0]
     rw [ip_ h8, ip_ O_, ip_ O_, ip_ O_, h.2]
     rfl
   ·rcases List.mem_cons.1 hp with rfl | hp
    ·exact ⟨O_, O_, okN_sub ho 0 8 O_⟩
    ·exact h2 p hp
  ·by_cases h0 : s.toList = []
   ·have hz := tl_nil.1 h0
    refine ⟨[], fun k hk => ?_, fun p hp => (by cases hp), by show 8 * 0 ≤ _; omega, by show 0 = s.size; omega⟩
    obtain ⟨k, rfl⟩ : ∃ m, k = m + 1 := ⟨k - 1, O_⟩
    rw [List.append_nil]
    constructor
    ·simp only [spec_l12Cut.l0]
     rw [iN_ h8, ip_ h0]
    ·simp only [impl_chunks.l0]
     rw [iN_ h8, ip_ h0]
   ·have hz : s.size ≠ 0 := fun c => h0 (tl_nil.2 c)
    refine ⟨[s], fun k hk => ?_, fun p hp => ?_, by show 8 * 1 ≤ _; omega, by show s.size + 0 = s.size; omega⟩
    ·obtain ⟨k, rfl⟩ : ∃ m, k = m + 1 := ⟨k - 1, O_⟩
     constructor
     ·simp only [spec_l12Cut.l0]
      rw [iN_ h8, iN_ h0, ip_ O_]
     ·simp only [impl_chunks.l0]
      rw [iN_ h8, iN_ h0, ip_ O_]
    ·rw [List.mem_singleton.1 hp]
     exact ⟨O_, O_, ho⟩
theorem Cut_ev (s : ByteArray) (hs : s.size ≤ 100000) (ho : okN s s.size 0 = true) : ∃ ps, (∀ k, s.size < k → spec_l12Cut.f k s = some ps ∧ impl_chunks.f k s = some ps) ∧ (∀ p ∈ ps, gp p) ∧ 8 * ps.length ≤ s.size + 7 ∧ psz ps = s.size := by
 obtain ⟨ps, h1, h2, h3, h4⟩ := Cut_l s.size s [] (Nat.le_refl _) ho (by rw [List.length_nil]; omega)
 refine ⟨ps, fun k hk => ?_, h2, h3, h4⟩
 have h := h1 k hk
 rw [List.nil_append] at h
 exact h
def small (x : S120) : Prop := x.f1.size ≤ 140737488351232 ∧ x.f2.size ≤ 140737488351232
def smallL (l : List S120) : Prop := l.length ≤ 3518437208780 ∧ ∀ x ∈ l, small x
theorem small_z : small z120 := ⟨by decide, by decide⟩
theorem small_rd {l : List S120} (h : smallL l) (i : Int) : small (rd_T120 l i) := by
 unfold rd_T120
 rw [List.getD_eq_getElem?_getD]
 cases e : l[i.toNat]? with
 | none => exact small_z
 | some x => exact h.2 x (List.mem_of_getElem? e)
def partB (a : Int) (b c : ByteArray) : Bool :=
 if a = 0 then (if b.toList = [] then (if c.toList = [] then false else textB c) else (if c.toList = [] then textB b else false))
 else (decide (1 ≤ a) && decide (a ≤ 300)) && (if b.toList = [] then c.toList == [] else false)
def pN (l : List S120) : Nat → Nat → Bool
 | 0, _ => true
 | d + 1, i => partB (rd_T120 l (i : Int)).f0 (rd_T120 l (i : Int)).f1 (rd_T120 l (i : Int)).f2 && pN l d (i + 1)
def sizesB (r : Int × Int) : Bool := if r.1 ≤ 300 then decide (r.2 ≤ 300) else false
theorem spec_l3Part_ev (a : Int) (b c : ByteArray) (hb : b.size ≤ 140737488351232) (hc : c.size ≤ 140737488351232) : ∃ K, ∀ k, K ≤ k → spec_l3Part.f k a b c = some (partB a b c) := by
 obtain ⟨K1, h1⟩ := spec_GoodText_ev b hb
 obtain ⟨K2, h2⟩ := spec_GoodText_ev c hc
 refine ⟨K1 + K2, fun k hk => ?_⟩
 unfold spec_l3Part.f partB spec_l1In.f
 rw [h1 k O_, h2 k O_]
 by_cases e0 : a = 0
 ·simp only [ip_ e0, bs_]
  by_cases e1 : b.toList = [] <;> by_cases e2 : c.toList = [] <;> simp [e1, e2]
 ·simp only [iN_ e0]
  by_cases e1 : a ≥ 1
  ·by_cases e2 : a ≤ 300
   ·simp only [ip_ e1, bs_, decide_eq_true e2, ip_, decide_eq_true e1, Bool.and_self, Bool.true_and]
    by_cases e3 : b.toList = [] <;> simp [e3]
   ·simp [e1, e2]
  ·simp only [iN_ e1, bs_]
   simp
   intro h
   omega
theorem spec_sizes_l (l : List S120) (hl : l.length ≤ 3518437208780) : ∀ (d i : Nat), i + d = l.length → ∀ a b : Int, ∃ r K, ∀ k, K ≤ k → spec_l3Sizes.l0 k a b l (l.length : Int) (i : Int) = some r := by
 intro d
 induction d with
 | zero =>
  intro i hi a b
  refine ⟨(a, b), 1, fun k hk => ?_⟩
  obtain ⟨k, rfl⟩ : ∃ m, k = m + 1 := ⟨k - 1, O_⟩
  simp only [spec_l3Sizes.l0]
  rw [iN_ O_]
 | succ d ih =>
  intro i hi a b
  obtain ⟨r, K, hK⟩ := ih (i + 1) O_ (wrap64 (a + (wrap64 (((rd_T120 l (i : Int)).f0) + (((rd_T120 l (i : Int)).f2).size : Int))))) (wrap64 (b + (wrap64 (((rd_T120 l (i : Int)).f0) + (((rd_T120 l (i : Int)).f1).size : Int)))))
  refine ⟨r, K + 1, fun k hk => ?_⟩
  obtain ⟨k, rfl⟩ : ∃ m, k = m + 1 := ⟨k - 1, O_⟩
  have hr := hK k O_
  simp only [spec_l3Sizes.l0]
  rw [ip_ O_, ip_ O_, ip_ O_, w64 (i := (i : Int) + 1) O_ O_]
  exact hr
theorem spec_sizes_ev (l : List S120) (hl : l.length ≤ 3518437208780) : ∃ r K, ∀ k, K ≤ k → spec_l3Sizes.f k l = some r :=
 spec_sizes_l l hl l.length 0 O_ 0 0
theorem spec_GoodOp_l (l : List S120) (hl : smallL l) (r : Int × Int) (K0 : Nat) (h0 : ∀ k, K0 ≤ k → spec_l3Sizes.f k l = some r) : ∀ (d i : Nat), i + d = l.length → ∃ K, ∀ k, K ≤ k → spec_GoodOp.l0 k l l (l.length : Int) (i : Int) = some (pN l d i && sizesB r) := by
 have hl1 := hl.1
 intro d
 induction d with
 | zero =>
  intro i hi
  refine ⟨K0 + 1, fun k hk => ?_⟩
  obtain ⟨k, rfl⟩ : ∃ m, k = m + 1 := ⟨k - 1, O_⟩
  simp only [spec_GoodOp.l0]
  rw [iN_ O_, h0 k O_, bs_]
  unfold sizesB pN
  by_cases e : r.1 ≤ 300 <;> simp [e]
 | succ d ih =>
  intro i hi
  obtain ⟨K, hK⟩ := ih (i + 1) O_
  have hs := small_rd hl (i : Int)
  obtain ⟨K1, h1⟩ := spec_l3Part_ev (rd_T120 l (i : Int)).f0 _ _ hs.1 hs.2
  refine ⟨K + K1 + 1, fun k hk => ?_⟩
  obtain ⟨k, rfl⟩ : ∃ m, k = m + 1 := ⟨k - 1, O_⟩
  have hr := hK k O_
  simp only [spec_GoodOp.l0]
  rw [ip_ O_, ip_ O_, ip_ O_, h1 k O_, bs_, w64 O_ O_]
  have hc : ((i : Int) + 1) = ((i + 1 : Nat) : Int) := by omega
  rw [hc, hr]
  rw [show pN l (d + 1) i = (partB (rd_T120 l (i : Int)).f0 (rd_T120 l (i : Int)).f1 (rd_T120 l (i : Int)).f2 && pN l d (i + 1)) from rfl]
  cases partB (rd_T120 l (i : Int)).f0 (rd_T120 l (i : Int)).f1 (rd_T120 l (i : Int)).f2 <;> simp
def goodB (l : List S120) (r : Int × Int) : Bool := decide (l.length ≤ 60) && (pN l l.length 0 && sizesB r)
theorem spec_GoodOp_ev (l : List S120) (hl : smallL l) (r : Int × Int) (K0 : Nat) (h0 : ∀ k, K0 ≤ k → spec_l3Sizes.f k l = some r) : ∃ K, ∀ k, K ≤ k → spec_GoodOp.f k l = some (goodB l r) := by
 obtain ⟨K, hK⟩ := spec_GoodOp_l l hl r K0 h0 l.length 0 O_
 refine ⟨K, fun k hk => ?_⟩
 have h := hK k hk
 unfold spec_GoodOp.f goodB
 by_cases e : (l.length : Int) > 60
 ·rw [ip_ e, decide_eq_false O_]; rfl
 ·rw [iN_ e, decide_eq_true O_, Bool.true_and]
  exact h
def iL (k : Nat) : List S120 → Limb → List ByteArray → Option (List ByteArray)
 | [], _, acc => some acc
 | p :: ps, x, acc => (spl x (wrap64 (p.f0 + (p.f2.size : Int)))).bind fun q =>
  if 0 < p.f0 then (if acc.length + (pcs q.1).length ≤ 100000000 then ((impl_chunks.f k p.f1).bind fun cs => if (acc ++ pcs q.1).length + cs.length ≤ 100000000 then iL k ps q.2 ((acc ++ pcs q.1) ++ cs) else none) else none)
  else ((impl_chunks.f k p.f1).bind fun cs => if acc.length + cs.length ≤ 100000000 then iL k ps q.2 (acc ++ cs) else none)
def iF (ss : List ByteArray) : Limb := ss.foldl (fun o s => fk o (lf s)) .nil
def PK (p : S120) : Prop := (p.f0 = 0 ∧ p.f1.toList = [] ∧ p.f2.toList ≠ [] ∧ textB p.f2 = true) ∨ (p.f0 = 0 ∧ p.f1.toList ≠ [] ∧ p.f2.toList = [] ∧ textB p.f1 = true) ∨ (1 ≤ p.f0 ∧ p.f0 ≤ 300 ∧ p.f1.toList = [] ∧ p.f2.toList = [])
theorem partB_PK {p : S120} (h : partB p.f0 p.f1 p.f2 = true) : PK p := by
 unfold partB at h
 by_cases h0 : p.f0 = 0
 ·rw [ip_ h0] at h
  by_cases h1 : p.f1.toList = []
  ·rw [ip_ h1] at h
   by_cases h2 : p.f2.toList = []
   ·rw [ip_ h2] at h; cases h
   ·rw [iN_ h2] at h; exact .inl ⟨h0, h1, h2, h⟩
  ·rw [iN_ h1] at h
   by_cases h2 : p.f2.toList = []
   ·rw [ip_ h2] at h; exact .inr (.inl ⟨h0, h1, h2, h⟩)
   ·rw [iN_ h2] at h; cases h
 ·rw [iN_ h0] at h
  by_cases h1 : p.f1.toList = []
  ·rw [ip_ h1] at h
   simp only [Bool.and_eq_true, decide_eq_true_eq, beq_iff_eq] at h
   exact .inr (.inr ⟨h.1.1, h.1.2, h1, h.2⟩)
  ·rw [iN_ h1] at h
   simp at h
theorem PK_bd {p : S120} (h : PK p) : 0 ≤ p.f0 ∧ p.f0 ≤ 300 ∧ p.f1.size ≤ 300 ∧ p.f2.size ≤ 300 := by
 rcases h with ⟨a, b, c, d⟩ | ⟨a, b, c, d⟩ | ⟨a, b, c, d⟩
 ·have := textB_size d; have := tl_nil.1 b; omega
 ·have := textB_size d; have := tl_nil.1 c; omega
 ·have := tl_nil.1 c; have := tl_nil.1 d; omega
theorem rdP (l : List S120) (i : Nat) (h : i < l.length) : rd_T120 l (i : Int) = l[i] := by
 unfold rd_T120
 rw [tN_, List.getD_eq_getElem?_getD, List.getElem?_eq_getElem h]; rfl
theorem pN_PK (l : List S120) : ∀ (d i : Nat), i + d = l.length → pN l d i = true → ∀ j (hj : j < l.length), i ≤ j → PK l[j] := by
 intro d
 induction d with
 | zero => intro i hi h j hj hij; omega
 | succ d ih =>
  intro i hi h j hj hij
  have h' : (partB (rd_T120 l (i : Int)).f0 (rd_T120 l (i : Int)).f1 (rd_T120 l (i : Int)).f2 && pN l d (i + 1)) = true := h
  rw [Bool.and_eq_true] at h'
  by_cases e : j = i
  ·subst e
   have := partB_PK h'.1
   rw [rdP l j hj] at this
   exact this
  ·exact ih (i + 1) O_ h'.2 j hj O_
def sB : List S120 → Int
 | [] => 0
 | p :: ps => p.f0 + (p.f2.size : Int) + sB ps
def sA : List S120 → Int
 | [] => 0
 | p :: ps => p.f0 + (p.f1.size : Int) + sA ps
def mt : List S120 → ByteArray → Bool
 | [], _ => true
 | p :: ps, t => ((p.f2.toList == []) || ((t.extract 0 p.f2.size).toList == p.f2.toList)) && mt ps (t.extract (p.f0.toNat + p.f2.size) t.size)
theorem s_bd : ∀ (l : List S120), (∀ p ∈ l, PK p) → 0 ≤ sB l ∧ sB l ≤ 600 * l.length ∧ 0 ≤ sA l ∧ sA l ≤ 600 * l.length
 | [], _ => by simp [sB, sA]
 | p :: ps, h => by
  have h1 := PK_bd (h p List.mem_cons_self)
  have h2 := s_bd ps (fun q hq => h q (List.mem_cons_of_mem _ hq))
  simp only [sB, sA, List.length_cons]
  omega
theorem sizes_l (l : List S120) (hl : l.length ≤ 60) (hp : ∀ p ∈ l, PK p) : ∀ (d i : Nat) (a b : Int), i + d = l.length → 0 ≤ a → a ≤ 1000000000 → 0 ≤ b → b ≤ 1000000000 → a + sB (l.drop i) ≤ 1000000000 → b + sA (l.drop i) ≤ 1000000000 → ∀ k, d < k → spec_l3Sizes.l0 k a b l (l.length : Int) (i : Int) = some (a + sB (l.drop i), b + sA (l.drop i)) := by
 intro d
 induction d with
 | zero =>
  intro i a b hi _ _ _ _ _ _ k hk
  obtain ⟨k, rfl⟩ : ∃ m, k = m + 1 := ⟨k - 1, O_⟩
  simp only [spec_l3Sizes.l0]
  rw [iN_ O_, List.drop_of_length_le O_]
  simp [sB, sA]
 | succ d ih =>
  intro i a b hi h1 h2 h3 h4 h5 h6 k hk
  obtain ⟨k, rfl⟩ : ∃ m, k = m + 1 := ⟨k - 1, O_⟩
  have hil : i < l.length := by omega
  have hq := PK_bd (hp l[i] (List.getElem_mem hil))
  have hs := s_bd (l.drop (i + 1)) (fun p hp' => hp p (List.mem_of_mem_drop hp'))
  rw [List.drop_eq_getElem_cons hil] at h5 h6 ⊢
  simp only [sB, sA] at h5 h6 ⊢
  simp only [spec_l3Sizes.l0]
  rw [ip_ O_, ip_ O_, ip_ O_, rdP l i hil, w64 (i := l[i].f0 + (l[i].f2.size : Int)) O_ O_, w64 (i := l[i].f0 + (l[i].f1.size : Int)) O_ O_, w64 O_ O_, w64 O_ O_, w64 O_ O_, show ((i : Int) + 1) = ((i + 1 : Nat) : Int) by omega]
  rw [ih (i + 1) _ _ O_ O_ O_ O_ O_ O_ O_ k O_]
  congr 2 <;> omega
theorem sizes_of (l : List S120) (hl : l.length ≤ 60) (hp : ∀ p ∈ l, PK p) (k : Nat) (hk : l.length < k) : spec_l3Sizes.f k l = some (sB l, sA l) := by
 have hs := s_bd l hp
 have h := sizes_l l hl hp l.length 0 0 0 O_ O_ O_ O_ O_ (by rw [List.drop_zero]; omega) (by rw [List.drop_zero]; omega) k hk
 rw [List.drop_zero, Int.zero_add, Int.zero_add] at h
 exact h
theorem nil_dec (s : ByteArray) : (s.toList == ([] : List UInt8)) = decide ((0 : Int) = (s.size : Int)) := by
 rw [Bool.eq_iff_iff, beq_iff_eq, decide_eq_true_eq, tl_nil]
 omega
theorem len_psz : ∀ (ps : List ByteArray), (∀ p ∈ ps, gp p) → ps.length ≤ psz ps
 | [], _ => Nat.le_refl _
 | p :: ps, h => by
  have h1 := (h p List.mem_cons_self).1
  have h2 := len_psz ps (fun q hq => h q (List.mem_cons_of_mem _ hq))
  show ps.length + 1 ≤ p.size + psz ps
  omega
theorem iF_snoc (ss : List ByteArray) (s : ByteArray) : iF (ss ++ [s]) = fk (iF ss) (lf s) := by
 unfold iF
 rw [List.foldl_append]
 rfl
theorem iF_ok : ∀ (n : Nat) (ps : List ByteArray), ps.length = n → n ≤ 400 → (∀ p ∈ ps, gp p) → GtN (iF ps) ∧ cnt (iF ps) ≤ 2 * n ∧ (iF ps).size = (psz ps : Int) := by
 intro n
 induction n with
 | zero =>
  intro ps h _ _
  obtain rfl := List.length_eq_zero_iff.1 h
  exact ⟨.inl rfl, Nat.le_refl _, rfl⟩
 | succ n ih =>
  intro ps h hn hg
  obtain ⟨xs, x, rfl⟩ : ∃ xs x, ps = xs ++ [x] := ⟨ps.dropLast, ps.getLast (by rintro rfl; cases h), (List.dropLast_concat_getLast _).symm⟩
  rw [lA_, lS_] at h
  obtain ⟨h1, h2, h3⟩ := ih xs O_ O_ (fun p hp => hg p (List.mem_append_left _ hp))
  obtain ⟨l1, l2, l3, -⟩ := lf_good (hg x (List.mem_append_right _ (List.mem_singleton.2 rfl)))
  obtain ⟨f1, f2, f3⟩ := fk_GtN h1 (.inr l1) O_
  rw [iF_snoc]
  refine ⟨f1, ?_, ?_⟩
  ·rcases h1 with e | h1
   ·rw [e]; show cnt (lf x) ≤ _; omega
   ·rw [f3 h1 l1]; omega
  ·rw [f2, h3, l3, psz_app]
   show (psz xs : Int) + _ = ((psz xs + (x.size + 0) : Nat) : Int)
   omega
theorem eJ_ev : ∀ (ss acc : List ByteArray), (∀ p ∈ ss, gp p) → (∀ p ∈ acc, gp p) → acc.length + ss.length ≤ 400 → ∀ k, 2 ≤ k → eJ k ss (br (iF acc) 0) = some (br (iF (acc ++ ss)) 0)
 | [], acc, _, _, _, k, _ => by rw [List.append_nil]; rfl
 | s :: ss, acc, h, ha, hl, k, hk => by
  have hs := h s List.mem_cons_self
  obtain ⟨l1, l2, l3, l4⟩ := lf_good hs
  rw [List.length_cons] at hl
  obtain ⟨a1, a2, -⟩ := iF_ok acc.length acc rfl O_ ha
  have hj := join_ev (iF acc) (lf s) a1 (.inr l1) O_ k O_
  show ((spec_l12Piece.f s).bind fun p => (spec_l12Join.f k (br (iF acc) 0) p).bind fun q => eJ k ss q) = _
  rw [show spec_l12Piece.f s = some (br (lf s) 0) from by rw [l4]; rfl, bs_, hj, bs_, ← iF_snoc]
  rw [eJ_ev ss (acc ++ [s]) (fun p hp => h p (List.mem_cons_of_mem _ hp)) (fun p hp => by
   rcases List.mem_append.1 hp with hp | hp
   ·exact ha p hp
   ·rw [List.mem_singleton.1 hp]; exact hs) (by rw [lA_, lS_]; omega) k hk, List.append_assoc]
  rfl
theorem cut_nil (s : ByteArray) (h : s.toList = []) (k : Nat) (hk : 0 < k) : impl_chunks.f k s = some [] := by
 obtain ⟨k, rfl⟩ : ∃ m, k = m + 1 := ⟨k - 1, O_⟩
 have h0 := tl_nil.1 h
 unfold impl_chunks.f
 simp only [impl_chunks.l0]
 rw [iN_ O_, ip_ h]
theorem spl_zero (x : Limb) : spl x 0 = some (.nil, x) := by
 cases x with
 | nil => rfl
 | node l r s n d => unfold spl; rw [ip_ rfl]
theorem EL : ∀ (ps : List S120), (∀ p ∈ ps, PK p) → ∀ (x : Limb) (acc : List ByteArray), GtN x → cnt x ≤ 200 → sB ps = x.size → (∀ p ∈ acc, gp p) → (psz acc : Int) + sA ps ≤ 300 →
  ∃ acc' K, (∀ m, K ≤ m → iL m ps x acc = some acc' ∧ eL m ps (br x 0) (br (iF acc) 0) = some (br (iF acc') 0)) ∧ (∀ p ∈ acc', gp p) ∧ (psz acc' : Int) = (psz acc : Int) + sA ps
 | [], _, x, acc, _, _, _, hacc, _ => ⟨acc, 0, fun m _ => ⟨rfl, rfl⟩, hacc, by simp [sA]⟩
 | p :: ps, hp, x, acc, hx, hc, hs, hacc, hz => by
  have hpk := hp p List.mem_cons_self
  have hps : ∀ q ∈ ps, PK q := fun q hq => hp q (List.mem_cons_of_mem _ hq)
  have hbd := s_bd ps hps
  have hpb := PK_bd hpk
  have hal := len_psz acc hacc
  simp only [sB, sA] at hs hz ⊢
  have hw : wrap64 (p.f0 + (p.f2.size : Int)) = p.f0 + (p.f2.size : Int) := w64 O_ O_
  have hI : ∀ m, iL m (p :: ps) x acc = (spl x (p.f0 + (p.f2.size : Int))).bind fun q =>
   if 0 < p.f0 then (if acc.length + (pcs q.1).length ≤ 100000000 then ((impl_chunks.f m p.f1).bind fun cs => if (acc ++ pcs q.1).length + cs.length ≤ 100000000 then iL m ps q.2 ((acc ++ pcs q.1) ++ cs) else none) else none)
   else ((impl_chunks.f m p.f1).bind fun cs => if acc.length + cs.length ≤ 100000000 then iL m ps q.2 (acc ++ cs) else none) := fun m => by rw [← hw]; rfl
  have hE : ∀ m out, eL m (p :: ps) (br x 0) out = if p.f1.toList ≠ [] then ((spec_l12Cut.f m p.f1).bind fun cs => if cs.length ≤ 100000000 then ((eJ m cs out).bind fun o2 => eL m ps (br x 0) o2) else none)
   else ((spec_l12Split.f m (br x 0) (p.f0 + (p.f2.size : Int))).bind fun ab =>
    if p.f0 = 0 then eL m ps ab.2 out else ((spec_l12Pieces.f m ab.1).bind fun pc => if pc.length ≤ 100000000 then ((eJ m pc out).bind fun o2 => eL m ps ab.2 o2) else none)) := fun m out => by rw [← hw]; rfl
  rcases hpk with ⟨h0, h1, h2, h3⟩ | ⟨h0, h1, h2, h3⟩ | ⟨h0, h0', h1, h2⟩
  ·-- taken away
   have hz2 := size_pos_of h2
   have hz1 := tl_nil.1 h1
   rcases hx with rfl | hx
   ·have h : (Limb.nil).size = 0 := rfl
    omega
   obtain ⟨x1, y1, s1, s2, s3, s4, s5, s6, s7, K1, s8⟩ := Split_ev hx hc (p.f0 + (p.f2.size : Int)) O_ O_
   obtain ⟨acc', K, hK, hg, hq⟩ := EL ps hps y1 acc s3 O_ O_ hacc O_
   refine ⟨acc', K + K1 + 1, fun m hm => ⟨?_, ?_⟩, hg, O_⟩
   ·rw [hI, s1, bs_, iN_ O_, cut_nil _ h1 m O_, bs_, ip_ (by rw [List.length_nil]; omega), List.append_nil]
    exact (hK m O_).1
   ·rw [hE, iN_ (fun h => h h1), s8 m O_, bs_, ip_ h0]
    exact (hK m O_).2
  ·-- put in
   have hz2 := tl_nil.1 h2
   have h3' : okN p.f1 p.f1.size 0 = true := by unfold textB at h3; rw [Bool.and_eq_true] at h3; exact h3.1
   obtain ⟨cs, c1, c2, c3, c4⟩ := Cut_ev p.f1 O_ h3'
   have hcl := len_psz cs c2
   have hg2 : ∀ q ∈ acc ++ cs, gp q := fun q hq => by
    rcases List.mem_append.1 hq with hq | hq
    ·exact hacc q hq
    ·exact c2 q hq
   have hzz := psz_app acc cs
   obtain ⟨acc', K, hK, hg, hq⟩ := EL ps hps x (acc ++ cs) hx hc O_ hg2 O_
   refine ⟨acc', K + 302, fun m hm => ⟨?_, ?_⟩, hg, O_⟩
   ·rw [hI, show p.f0 + (p.f2.size : Int) = 0 by omega, spl_zero, bs_, iN_ O_, (c1 m O_).2, bs_, ip_ O_]
    exact (hK m O_).1
   ·rw [hE, ip_ h1, (c1 m O_).1, bs_, ip_ O_, eJ_ev cs acc c2 hacc O_ m O_, bs_]
    exact (hK m O_).2
  ·-- kept
   have hz1 := tl_nil.1 h1
   have hz2 := tl_nil.1 h2
   rcases hx with rfl | hx
   ·have h : (Limb.nil).size = 0 := rfl
    omega
   obtain ⟨x1, y1, s1, s2, s3, s4, s5, s6, s7, K1, s8⟩ := Split_ev hx hc (p.f0 + (p.f2.size : Int)) O_ O_
   have hpc : ∀ q ∈ pcs x1, gp q := by
    rcases s2 with rfl | s2
    ·intro q hq; cases hq
    ·exact (pcs_gp s2).2
   have hb := pcs_bdN s2
   have hR : pcR (br x1 0) = pcs x1 := by rw [← bo_nil]; exact pcR_good s2
   have hbl := br_length x1 0
   have hg2 : ∀ q ∈ acc ++ pcs x1, gp q := fun q hq => by
    rcases List.mem_append.1 hq with hq | hq
    ·exact hacc q hq
    ·exact hpc q hq
   have hzz := psz_app acc (pcs x1)
   have hpl := len_psz (pcs x1) hpc
   obtain ⟨acc', K, hK, hg, hq⟩ := EL ps hps y1 (acc ++ pcs x1) s3 O_ O_ hg2 O_
   refine ⟨acc', K + K1 + 302, fun m hm => ⟨?_, ?_⟩, hg, O_⟩
   ·rw [hI, s1, bs_, ip_ O_]
    show (if acc.length + (pcs x1).length ≤ 100000000 then _ else none) = _
    rw [ip_ O_, cut_nil _ h1 m O_, bs_, ip_ (by show (acc ++ pcs x1).length + 0 ≤ _; rw [lA_]; omega), List.append_nil]
    exact (hK m O_).1
   ·rw [hE, iN_ (fun h => h h1), s8 m O_, bs_, iN_ O_]
    show ((spec_l12Pieces.f m (br x1 0)).bind fun pc => if pc.length ≤ 100000000 then ((eJ m pc (br (iF acc) 0)).bind fun o2 => eL m ps (br y1 0) o2) else none) = _
    rw [Pieces_ev (br x1 0) O_ m O_, hR, bs_, ip_ O_, eJ_ev (pcs x1) acc hpc hacc O_ m O_, bs_]
    exact (hK m O_).2
theorem ex_size (s : ByteArray) (a : Nat) : (s.extract a s.size).size = s.size - a := by rw [zE_]; omega
theorem ex_all (s : ByteArray) : s.extract 0 s.size = s := by simp
theorem ex_zero (s : ByteArray) : (s.extract 0 0).toList = [] := tl_nil.2 (by rw [zE_]; omega)
theorem specApply_l (l : List S120) (hl : l.length ≤ 60) (hp : ∀ p ∈ l, PK p) : ∀ (d i : Nat) (s o : ByteArray), i + d = l.length → s.size ≤ 1000 → o.size + 2000 * d ≤ 1000000000 → ∃ a, ∀ k, 2 * d < k → spec_l3Apply.l0 k s o l (l.length : Int) (i : Int) = some (a, decide (sB (l.drop i) = (s.size : Int)) && mt (l.drop i) s) := by
 intro d
 induction d with
 | zero =>
  intro i s o hi hs ho
  refine ⟨o, fun k hk => ?_⟩
  obtain ⟨k, rfl⟩ : ∃ m, k = m + 1 := ⟨k - 1, O_⟩
  simp only [spec_l3Apply.l0]
  rw [iN_ O_, List.drop_of_length_le O_, nil_dec]
  show some (o, decide ((0 : Int) = s.size)) = some (o, decide ((0 : Int) = s.size) && true)
  rw [Bool.and_true]
 | succ d ih =>
  intro i s o hi hs ho
  have hil : i < l.length := by omega
  have hpk := hp l[i] (List.getElem_mem hil)
  have hq := PK_bd hpk
  have hbd := s_bd (l.drop (i + 1)) (fun p hp' => hp p (List.mem_of_mem_drop hp'))
  rw [List.drop_eq_getElem_cons hil, show ∀ ps, sB (l[i] :: ps) = l[i].f0 + (l[i].f2.size : Int) + sB ps from fun _ => rfl, show ∀ ps, mt (l[i] :: ps) s = (((l[i].f2.toList == []) || ((s.extract 0 l[i].f2.size).toList == l[i].f2.toList)) && mt ps (s.extract (l[i].f0.toNat + l[i].f2.size) s.size)) from fun _ => rfl]
  have hi1 : ((i : Int) + 1) = ((i + 1 : Nat) : Int) := by omega
  have hw : wrap64 (l[i].f0 + (l[i].f2.size : Int)) = l[i].f0 + (l[i].f2.size : Int) := w64 O_ O_
  obtain ⟨n, hn⟩ : ∃ n : Nat, l[i].f0 + (l[i].f2.size : Int) = (n : Int) := ⟨(l[i].f0 + (l[i].f2.size : Int)).toNat, O_⟩
  have hnn : l[i].f0.toNat + l[i].f2.size = n := by omega
  by_cases hle : s.size < n
  ·refine ⟨⟨#[]⟩, fun k hk => ?_⟩
   obtain ⟨k, rfl⟩ : ∃ m, k = m + 1 + 1 := ⟨k - 2, O_⟩
   rw [show decide (l[i].f0 + (l[i].f2.size : Int) + sB (l.drop (i + 1)) = (s.size : Int)) = false from decide_eq_false O_, Bool.false_and]
   simp only [spec_l3Apply.l0]
   rw [ip_ O_, ip_ O_, ip_ O_, rdP l i hil, hw, ip_ O_]
   simp only [spec_l3Apply.j1, if_true]
  ·obtain ⟨o2, ho2⟩ : ∃ o2, o2 = if l[i].f0 > 0 then (o ++ s.extract 0 n) ++ l[i].f1 else o ++ l[i].f1 := ⟨_, rfl⟩
   have hz2 : o2.size ≤ o.size + 1300 := by
    rw [ho2]
    split <;> simp only [zA_, zE_] <;> omega
   have hsz := ex_size s n
   obtain ⟨a, hK⟩ := ih (i + 1) (s.extract n s.size) o2 O_ O_ O_
   have hJ : ∀ k, 2 * d < k → spec_l3Apply.j1 (k + 1) s o (n : Int) l (l.length : Int) (i : Int) false l[i].f0 l[i].f1 l[i].f2 = some (a, decide (sB (l.drop (i + 1)) = ((s.extract n s.size).size : Int)) && mt (l.drop (i + 1)) (s.extract n s.size)) := fun k hk => by
    have h := hK k hk
    have hx : (s.extract 0 n).size = n := by rw [zE_]; omega
    simp only [spec_l3Apply.j1]
    rw [iN_ (by simp)]
    by_cases h0 : l[i].f0 > 0
    ·rw [ip_ h0] at ho2
     rw [ip_ h0, ip_ O_, ip_ O_, tN_, ip_ O_, ip_ (by rw [zA_]; omega), w64 O_ O_, hi1, ← ho2, h]
    ·rw [iN_ h0] at ho2
     rw [iN_ h0, ip_ O_, ip_ O_, ip_ O_, tN_, w64 O_ O_, hi1, ← ho2, h]
   have hdec : decide (l[i].f0 + (l[i].f2.size : Int) + sB (l.drop (i + 1)) = (s.size : Int)) = decide (sB (l.drop (i + 1)) = ((s.extract n s.size).size : Int)) := by
    rw [hsz, decide_eq_decide]; omega
   rw [hdec, hnn]
   by_cases h2 : l[i].f2.toList = []
   ·refine ⟨a, fun k hk => ?_⟩
    obtain ⟨k, rfl⟩ : ∃ m, k = m + 1 + 1 := ⟨k - 2, O_⟩
    simp only [spec_l3Apply.l0]
    rw [ip_ O_, ip_ O_, ip_ O_, rdP l i hil, hw, hn, iN_ O_, ip_ h2, hJ k O_]
    simp [h2]
   ·have h0 : l[i].f0 = 0 := by
     rcases hpk with h | h | h
     ·exact h.1
     ·exact h.1
     ·exact absurd h.2.2.2 h2
    have hn2 : n = l[i].f2.size := by omega
    by_cases he : (s.extract 0 n).toList = l[i].f2.toList
    ·refine ⟨a, fun k hk => ?_⟩
     obtain ⟨k, rfl⟩ : ∃ m, k = m + 1 + 1 := ⟨k - 2, O_⟩
     simp only [spec_l3Apply.l0]
     rw [ip_ O_, ip_ O_, ip_ O_, rdP l i hil, hw, hn, iN_ O_, iN_ h2, ip_ O_, ip_ O_, tN_, show ((s.extract 0 n).toList != l[i].f2.toList) = false from bne_eq_false_iff_eq.2 he, hJ k O_, ← hn2, show ((s.extract 0 n).toList == l[i].f2.toList) = true from beq_iff_eq.2 he, Bool.or_true, Bool.true_and]
    ·refine ⟨⟨#[]⟩, fun k hk => ?_⟩
     obtain ⟨k, rfl⟩ : ∃ m, k = m + 1 + 1 := ⟨k - 2, O_⟩
     simp only [spec_l3Apply.l0]
     rw [ip_ O_, ip_ O_, ip_ O_, rdP l i hil, hw, hn, iN_ O_, iN_ h2, ip_ O_, ip_ O_, tN_, show ((s.extract 0 n).toList != l[i].f2.toList) = true from bne_iff_ne.2 he, ← hn2, show ((s.extract 0 n).toList == l[i].f2.toList) = false from beq_eq_false_iff_ne.2 he, show (l[i].f2.toList == []) = false from beq_eq_false_iff_ne.2 h2]
     simp only [spec_l3Apply.j1, if_true, Bool.or_self, Bool.false_and, Bool.and_false]
theorem ba_nil_append (a : ByteArray) : (⟨#[]⟩ : ByteArray) ++ a = a := by
 apply ByteArray.ext; simp [ByteArray.data_append]
theorem ba_append_nil (a : ByteArray) : a ++ (⟨#[]⟩ : ByteArray) = a := by
 apply ByteArray.ext; simp [ByteArray.data_append]
theorem ba_assoc (a b c : ByteArray) : a ++ b ++ c = a ++ (b ++ c) := by
 apply ByteArray.ext; simp [ByteArray.data_append]
theorem ba_of_toList {a b : ByteArray} (h : a.toList = b.toList) : a = b := by
 rw [toList_data, toList_data] at h
 apply ByteArray.ext
 exact Array.toList_inj.mp h
theorem ba_extract_extract (s : ByteArray) (a i j : Nat) (hj : a + j ≤ s.size) : (s.extract a s.size).extract i j = s.extract (a + i) (a + j) := by
 apply ByteArray.ext
 simp only [ByteArray.data_extract, Array.extract_extract]
 congr 1
 exact Nat.min_eq_left hj
theorem ba_extract_end (s : ByteArray) (a i : Nat) (hi : a + i ≤ s.size) : (s.extract a s.size).extract i (s.extract a s.size).size = s.extract (a + i) s.size := by
 have : (s.extract a s.size).size = s.size - a := by rw [zE_]; omega
 rw [this, ba_extract_extract s a i (s.size - a) O_]
 congr 1
 omega
theorem ba_extract_add (s : ByteArray) (a b c : Nat) (h1 : a ≤ b) (h2 : b ≤ c) : s.extract a b ++ s.extract b c = s.extract a c := by
 apply ByteArray.ext
 simp only [ByteArray.data_append, ByteArray.data_extract, Array.extract_append_extract]
 congr 1 <;> omega
theorem ba_extract_same (s : ByteArray) (a : Nat) : s.extract a a = ⟨#[]⟩ := by
 apply ByteArray.ext
 simp only [ByteArray.data_extract]
 apply Array.eq_empty_of_size_eq_zero
 simp
 omega
theorem ba_extract_all (s : ByteArray) : s.extract 0 s.size = s := by
 apply ByteArray.ext
 simp only [ByteArray.data_extract]
 exact Array.extract_size
inductive Pt
 | K (n : Nat)
 | W (w : ByteArray)
 | D (d : ByteArray)
def encP : Pt → S120
 | .K n => ⟨(n : Int), ⟨#[]⟩, ⟨#[]⟩⟩
 | .W w => ⟨0, w, ⟨#[]⟩⟩
 | .D d => ⟨0, ⟨#[]⟩, d⟩
def addP : List Pt → Pt → List Pt
 | .K a :: r, .K b => .K (a + b) :: r
 | .D a :: r, .D b => .D (a ++ b) :: r
 | .W a :: r, .W b => .W (a ++ b) :: r
 | .D d :: .W a :: r, .W b => .D d :: .W (a ++ b) :: r
 | .D d :: r, .W b => .D d :: .W b :: r
 | r, q => q :: r
theorem ba_ext {a b : ByteArray} (h : a.data.toList = b.data.toList) : a = b := by
 cases a; cases b; congr 1; exact Array.toList_inj.1 h
theorem ba_dl (a b : ByteArray) : (a ++ b).data.toList = a.data.toList ++ b.data.toList := by
 rw [ByteArray.data_append, Array.toList_append]
theorem fo_app (ps : List ByteArray) : ∀ u : ByteArray, ps.foldl (fun a p => a ++ p) u = u ++ tx ps := by
 induction ps with
 | nil => intro u; apply ba_ext; rw [ba_dl]; exact (List.append_nil _).symm
 | cons p ps ih =>
  intro u
  show ps.foldl _ (u ++ p) = u ++ ps.foldl _ (⟨#[]⟩ ++ p)
  rw [ih, ih]
  apply ba_ext
  simp only [ba_dl]
  simp
theorem tx_app (a b : List ByteArray) : tx (a ++ b) = tx a ++ tx b := by
 show (a ++ b).foldl _ _ = _
 rw [List.foldl_append, fo_app b]
 rfl
theorem tx_one (s : ByteArray) : tx [s] = s := by
 apply ba_ext
 show ((⟨#[]⟩ : ByteArray) ++ s).data.toList = _
 rw [ba_dl]
 rfl
theorem pcs_fk (a b : Limb) : pcs (fk a b) = pcs a ++ pcs b := by
 cases a with
 | nil => rfl
 | node l r s n d =>
  cases b with
  | nil => exact (List.append_nil _).symm
  | node l' r' s' n' d' => rfl
theorem tx_lf (s : ByteArray) : tx (pcs (lf s)) = s := by
 unfold lf
 by_cases h : s.toList = []
 ·rw [ip_ h]
  apply ba_ext
  have := tl_nil.1 h
  show [] = s.data.toList
  exact (List.length_eq_zero_iff.1 (by rw [Array.length_toList]; exact this)).symm
 ·rw [iN_ h]
  exact tx_one s
theorem spl_cat : ∀ (t : Limb) (a : Int) (x y : Limb), spl t a = some (x, y) → tx (pcs x) ++ tx (pcs y) = tx (pcs t)
 | .nil, a, x, y, h => by
  obtain ⟨rfl, rfl⟩ := Prod.mk.inj (Option.some.inj (show some (Limb.nil, Limb.nil) = some (x, y) from h))
  rfl
 | .node l r s n d, a, x, y, h => by
  unfold spl at h
  by_cases h0 : a = 0
  ·rw [ip_ h0] at h
   obtain ⟨rfl, rfl⟩ := Prod.mk.inj (Option.some.inj h)
   rw [← tx_app]; rfl
  rw [iN_ h0] at h
  by_cases h1 : a = n
  ·rw [ip_ h1] at h
   obtain ⟨rfl, rfl⟩ := Prod.mk.inj (Option.some.inj h)
   rw [← tx_app]
   show tx (_ ++ []) = _
   rw [List.append_nil]
  rw [iN_ h1] at h
  by_cases hl : l.isNil = true
  ·rw [ip_ hl] at h
   by_cases hk : 0 ≤ a ∧ a ≤ (s.size : Int)
   ·rw [ip_ hk] at h
    obtain ⟨rfl, rfl⟩ := Prod.mk.inj (Option.some.inj h)
    have hp : pcs (.node l r s n d) = [s] := by unfold pcs; rw [ip_ hl]
    rw [tx_lf, tx_lf, hp, tx_one]
    apply ba_ext
    rw [ba_dl]
    simp only [ByteArray.data_extract, Array.toList_extract, List.extract_eq_take_drop]
    have hz : s.data.toList.length = s.size := Array.length_toList
    simp only [List.drop_zero, Nat.sub_zero]
    rw [← hz, List.take_of_length_le (i := s.data.toList.length - a.toNat) (by rw [List.length_drop]; exact Nat.le_refl _), List.take_append_drop]
   ·rw [iN_ hk] at h; cases h
  ·rw [iN_ hl] at h
   have hp : pcs (.node l r s n d) = pcs l ++ pcs r := by rw [pcs, iN_ hl]
   rw [hp, tx_app]
   by_cases hk : a ≤ l.size
   ·rw [ip_ hk] at h
    obtain ⟨⟨p1, p2⟩, h2, h3⟩ := Option.bind_eq_some_iff.1 h
    obtain ⟨rfl, rfl⟩ := Prod.mk.inj (Option.some.inj h3)
    have := spl_cat l a p1 p2 h2
    rw [← this, pcs_fk, tx_app]
    apply ba_ext
    simp only [ba_dl]
    simp
   ·rw [iN_ hk] at h
    obtain ⟨⟨p1, p2⟩, h2, h3⟩ := Option.bind_eq_some_iff.1 h
    obtain ⟨rfl, rfl⟩ := Prod.mk.inj (Option.some.inj h3)
    have := spl_cat r _ p1 p2 h2
    rw [← this, pcs_fk, tx_app]
    apply ba_ext
    simp only [ba_dl]
    simp
theorem iF_tx : ∀ (n : Nat) (ps : List ByteArray), ps.length = n → tx (pcs (iF ps)) = tx ps := by
 intro n
 induction n with
 | zero =>
  intro ps h
  obtain rfl := List.length_eq_zero_iff.1 h
  rfl
 | succ n ih =>
  intro ps h
  obtain ⟨xs, x, rfl⟩ : ∃ xs x, ps = xs ++ [x] := ⟨ps.dropLast, ps.getLast (by rintro rfl; cases h), (List.dropLast_concat_getLast _).symm⟩
  rw [lA_, lS_] at h
  rw [iF_snoc, pcs_fk, tx_app, tx_app, ih xs O_, tx_lf, tx_one]
theorem cat_left {X Y s : ByteArray} (h : X ++ Y = s) : X = s.extract 0 X.size ∧ Y = s.extract X.size s.size := by
 subst h
 constructor
 ·apply ba_ext
  simp only [ByteArray.data_extract, Array.toList_extract, List.extract_eq_take_drop, ba_dl]
  have hz : X.data.toList.length = X.size := Array.length_toList
  rw [List.drop_zero, Nat.sub_zero, ← hz, List.take_left]
 ·apply ba_ext
  simp only [ByteArray.data_extract, Array.toList_extract, List.extract_eq_take_drop, ba_dl]
  have hz : X.data.toList.length = X.size := Array.length_toList
  rw [← hz, List.drop_left, List.take_of_length_le]
  rw [zA_, hz, show Y.data.toList.length = Y.size from Array.length_toList]
  omega
theorem tx_psz (ps : List ByteArray) : (tx ps).size = psz ps := by
 have := tx_size ps ⟨#[]⟩
 have h0 : (⟨#[]⟩ : ByteArray).size = 0 := rfl
 unfold tx
 omega
def GR (r : List S58) : Prop := ∃ t, GtN t ∧ cnt t ≤ 200 ∧ 0 ≤ t.size ∧ t.size ≤ 300 ∧ r = br t 0
theorem GR_nil : GR [] := ⟨.nil, .inl rfl, Nat.zero_le _, Int.le_refl _, by show (0 : Int) ≤ 300; omega, rfl⟩
theorem GR_len {r : List S58} (h : GR r) : r.length ≤ 200 := by
 obtain ⟨t, -, h2, -, -, rfl⟩ := h
 rw [br_length]; exact h2
theorem GR_sz {r : List S58} (h : GR r) (k : Int) : (rd_T58 r k).f2.size ≤ 1048576 := by
 obtain ⟨t, h1, -, -, -, rfl⟩ := h
 exact br_szN h1 k
theorem GR_good {r : List S58} (h : GR r) : goodR r = true := by
 obtain ⟨t, h1, h2, h3, h4, rfl⟩ := h
 rw [goodR_br h1, decide_eq_true h2, decide_eq_true h4]; rfl
theorem GR_of {t : Limb} (h : GtN t) (hz : 0 ≤ t.size) : GR (if cnt t ≤ 200 ∧ t.size ≤ 300 then (br t 0, true) else ([], false)).1 := by
 split
 case isTrue h2 => exact ⟨t, h, h2.1, hz, h2.2, rfl⟩
 case isFalse => exact GR_nil
theorem TextIn_GR {t : Limb} (h : GtN t) (hc : cnt t ≤ 200) (hz0 : 0 ≤ t.size) (hz : t.size ≤ 300) : ∃ K, ∀ m, K ≤ m → impl_TextIn.f m (br t 0) = some (tx (pcs t), true) := by
 have gd : goodR (br t 0) = true := GR_good ⟨t, h, hc, hz0, hz, rfl⟩
 obtain ⟨K, t', h1, h2⟩ := open_ev (br t 0) (br_szN h)
 obtain ⟨e, ht', g1, g2, g3, g4⟩ := h2 gd
 have hp : pcs t' = pcs t := by
  have a := pcR_good ht'
  have b := pcR_good h
  rw [bo_nil] at b
  rw [← e] at a
  exact a.symm.trans b
 have hb := pcs_bdN ht'
 have hs := tx_psz (pcs t')
 refine ⟨K, fun m hm => ?_⟩
 unfold impl_TextIn.f
 rw [h1 m hm, gd, bs_, ip_ rfl, ip_ (show (pcs t').length ≤ 100000000 ∧ (tx (pcs t')).size ≤ 1000000000 from ⟨O_, O_⟩), hp]
theorem RopeOf_GR (s : ByteArray) (hs : s.size ≤ 1048576) : ∃ r K, GR r.1 ∧ ∀ m, K ≤ m → spec_RopeOf.f m s = some r := by
 obtain ⟨K1, h1⟩ := spec_GoodText_ev s O_
 cases ht : textB s with
 | false =>
  refine ⟨([], false), K1, GR_nil, fun m hm => ?_⟩
  unfold spec_RopeOf.f
  rw [h1 m hm, ht, bs_, iN_ (by simp)]
 | true =>
  have hsz := textB_size ht
  have ho : okN s s.size 0 = true := by unfold textB at ht; rw [Bool.and_eq_true] at ht; exact ht.1
  obtain ⟨ps, c1, c2, c3, c4⟩ := Cut_ev s O_ ho
  obtain ⟨b1, b2, b3, b4⟩ := bal_ok ps.length ps (Nat.le_refl _) O_ c2
  obtain ⟨K2, h2⟩ := Build_ev ps.length ps (Nat.le_refl _) O_ c2
  refine ⟨(br (bal ps.length ps) 0, true), K1 + K2 + 400, ⟨_, b1, O_, O_, O_, rfl⟩, fun m hm => ?_⟩
  unfold spec_RopeOf.f
  rw [h1 m O_, ht, bs_, ip_ rfl, (c1 m O_).1, bs_, h2 m O_, bs_]
theorem Join_GR {l u : List S58} (hl : GR l) (hu : GR u) : ∃ r K, GR r.1 ∧ ∀ m, K ≤ m → spec_JoinRopes.f m l u = some r := by
 obtain ⟨K1, h1⟩ := spec_GoodRope_ev l (GR_sz hl) (by have := GR_len hl; omega)
 obtain ⟨K3, h4⟩ := spec_GoodRope_ev u (GR_sz hu) (by have := GR_len hu; omega)
 rw [GR_good hl] at h1
 rw [GR_good hu] at h4
 obtain ⟨t, ht, g1, g2, g3, rfl⟩ := hl
 obtain ⟨v, hv, k1, k2, k3, rfl⟩ := hu
 obtain ⟨f1, f2, f3⟩ := fk_GtN ht hv O_
 have fc : cnt (fk t v) ≤ 401 := by
  rcases ht with rfl | ht
  ·show cnt v ≤ 401; omega
  ·rcases hv with rfl | hv
   ·rw [fk_nil]; omega
   ·rw [f3 ht hv]; omega
 have fl := br_length (fk t v) 0
 have hj := join_ev t v ht hv O_
 obtain ⟨K5, h7⟩ := spec_GoodRope_ev (br (fk t v) 0) (br_szN f1) O_
 rw [goodR_br f1] at h7
 refine ⟨if cnt (fk t v) ≤ 200 ∧ (fk t v).size ≤ 300 then (br (fk t v) 0, true) else ([], false), K1 + K3 + K5 + 1000, GR_of f1 O_, fun m hm => ?_⟩
 obtain ⟨m, rfl⟩ : ∃ j, m = j + 1 := ⟨m - 1, O_⟩
 unfold spec_JoinRopes.f
 rw [h1 _ O_, bs_, ip_ rfl, h4 _ O_, bs_]
 simp only [spec_JoinRopes.j0]
 rw [iN_ (by simp), bs_, hj m O_, bs_, ip_ (by rw [List.length_nil]; omega), bs_, List.nil_append, h7 m O_, bs_]
 by_cases c1 : cnt (fk t v) ≤ 200
 ·by_cases c2 : (fk t v).size ≤ 300
  ·rw [decide_eq_true c1, decide_eq_true c2, Bool.and_self, ip_ rfl, ip_ ⟨c1, c2⟩]
  ·rw [decide_eq_false c2, Bool.and_false, iN_ (by simp), iN_ (fun h => c2 h.2)]
 ·rw [decide_eq_false c1, Bool.false_and, iN_ (by simp), iN_ (fun h => c1 h.1)]
theorem SplitRope_full (l : List S58) (a : Int) (hS : ∀ k : Int, (rd_T58 l k).f2.size ≤ 1048576) (hl : l.length ≤ 1048576) : ∃ r K, GR r.1 ∧ GR r.2.1 ∧ (∀ m, K ≤ m → spec_SplitRope.f m l a = some r ∧ True) ∧ (r.2.2 = true → ∃ t x y, l = br t 0 ∧ GtN t ∧ cnt t ≤ 200 ∧ 0 ≤ t.size ∧ t.size ≤ 300 ∧ r.1 = br x 0 ∧ r.2.1 = br y 0 ∧ GtN x ∧ GtN y ∧ cnt x ≤ 200 ∧ cnt y ≤ 200 ∧ x.size = a ∧ y.size = t.size - a ∧ 0 ≤ a ∧ a ≤ t.size ∧ spl t a = some (x, y)) := by
 obtain ⟨K1, h1⟩ := spec_GoodRope_ev l hS hl
 obtain ⟨K2, t, h2, h3⟩ := open_ev l hS
 cases hg : goodR l with
 | false =>
  refine ⟨([], [], false), K1 + K2, GR_nil, GR_nil, fun m hm => ⟨?_, ?_⟩, fun h => by cases h⟩
  ·unfold spec_SplitRope.f
   rw [h1 _ O_, hg, bs_, iN_ (by simp)]
  ·trivial
 | true =>
  obtain ⟨e, ht, g1, g2, g3, g4⟩ := h3 hg
  rw [bo_nil] at e
  have hz : spec_l12Size.f l = some t.size := by
   rcases ht with rfl | ht
   ·rw [e]; rfl
   ·rw [e]; exact Size_ev ht O_
  have hs : ∀ m, K1 ≤ m → spec_SplitRope.f m l a = (if 0 ≤ a ∧ a ≤ t.size then ((spec_l12Split.f m l a).bind fun bt253 => ((some (([] : List (S58)) : List (S58))).bind fun y259 => (if y259.length + bt253.1.length < 2932031007402 then ((some (([] : List (S58)) : List (S58))).bind fun y266 => (if y266.length + bt253.2.length < 2932031007402 then (some ((y259 ++ bt253.1), (y266 ++ bt253.2), true)) else (none))) else (none)))) else some ([], [], false)) := fun m hm => by
   unfold spec_SplitRope.f spec_l1In.f
   rw [h1 _ hm, hg, bs_, ip_ rfl, hz, bs_]
   by_cases c0 : a ≥ 0
   ·rw [ip_ c0, bs_]
    by_cases c1 : a ≤ t.size
    ·rw [decide_eq_true c1, ip_ rfl, ip_ ⟨c0, c1⟩]
    ·rw [decide_eq_false c1, iN_ (by simp), iN_ (fun h => c1 h.2)]
   ·rw [iN_ c0, bs_, iN_ (by simp), iN_ (fun h => c0 h.1)]
  by_cases c : 0 ≤ a ∧ a ≤ t.size
  ·rcases ht with rfl | ht
   ·have ha : a = 0 := by have := c.2; have h : (Limb.nil).size = 0 := rfl; omega
    have el : l = [] := e
    refine ⟨([], [], true), K1 + K2 + 1, GR_nil, GR_nil, fun m hm => ⟨?_, ?_⟩, fun _ => ⟨.nil, .nil, .nil, el, .inl rfl, Nat.zero_le _, Int.le_refl _, by show (0 : Int) ≤ 300; omega, rfl, rfl, .inl rfl, .inl rfl, Nat.zero_le _, Nat.zero_le _, ha.symm, by show (0 : Int) = 0 - a; omega, c.1, c.2, rfl⟩⟩
    ·rw [hs m O_, ip_ c]
     obtain ⟨m, rfl⟩ : ∃ j, m = j + 1 := ⟨m - 1, O_⟩
     rw [ha, el]
     simp only [spec_l12Split.f, if_true]
     rfl
    ·trivial
   ·obtain ⟨x, y, s1, s2, s3, s4, s5, s6, s7, K, s8⟩ := Split_ev ht O_ a c.1 c.2
    have lx := br_length x 0
    have ly := br_length y 0
    refine ⟨(br x 0, br y 0, true), K1 + K2 + K, ⟨x, s2, O_, O_, O_, rfl⟩, ⟨y, s3, O_, O_, O_, rfl⟩, fun m hm => ⟨?_, ?_⟩, fun _ => ⟨t, x, y, e, .inr ht, O_, g4, g3, rfl, rfl, s2, s3, O_, O_, s6, s7, c.1, c.2, s1⟩⟩
    ·have h := s8 m O_
     rw [← e] at h
     rw [hs m O_, ip_ c, h, bs_, bs_, ip_ (by show 0 + (br x 0).length < _; omega), bs_, ip_ (by show 0 + (br y 0).length < _; omega)]
     rfl
    ·trivial
  ·refine ⟨([], [], false), K1 + K2, GR_nil, GR_nil, fun m hm => ⟨?_, ?_⟩, fun h => by cases h⟩
   ·rw [hs m O_, iN_ c]
   ·trivial
theorem tx_all (ps : List ByteArray) : ∀ a : ByteArray, allB a → (∀ p ∈ ps, gp p) → allB (ps.foldl (fun a p => a ++ p) a) := by
 induction ps with
 | nil => intro a ha _; exact ha
 | cons p ps ih =>
  intro a ha h
  exact ih (a ++ p) (allB_append ha (okN_all.1 (h p List.mem_cons_self).2.2)) (fun q hq => h q (List.mem_cons_of_mem _ hq))
theorem EditRope_full (l : List S58) (op : List S120) (hS : ∀ k : Int, (rd_T58 l k).f2.size ≤ 1048576) (hl : l.length ≤ 1048576) (ho : smallL op) : ∃ r K, GR r.1 ∧ (∀ m, K ≤ m → spec_EditRope.f m l op = some r ∧ True) ∧ True ∧ True := by
 obtain ⟨K1, h1⟩ := spec_GoodRope_ev l hS hl
 obtain ⟨K2, t, h2, h3⟩ := open_ev l hS
 cases hg : goodR l with
 | false =>
  refine ⟨([], false), K1 + K2, GR_nil, fun m hm => ⟨?_, ?_⟩, trivial, trivial⟩
  ·unfold spec_EditRope.f
   rw [h1 _ O_, hg, bs_, iN_ (by simp)]
  ·trivial
 | true =>
  obtain ⟨e, ht, g1, g2, g3, g4⟩ := h3 hg
  have hpb := pcs_bdN ht
  have hpg : ∀ p ∈ pcs t, gp p := by
   rcases ht with rfl | ht
   ·intro p hp; cases hp
   ·exact (pcs_gp ht).2
  have hR : pcR l = pcs t := by rw [e]; exact pcR_good ht
  rw [bo_nil] at e
  have hT := Text_ev l hl (by rw [hR]; omega) (by rw [hR]; omega)
  rw [hR] at hT
  have hsz : (tx (pcs t)).size = psz (pcs t) := by
   have := tx_size (pcs t) ⟨#[]⟩
   have h0 : (⟨#[]⟩ : ByteArray).size = 0 := rfl
   unfold tx
   omega
  have htx : textB (tx (pcs t)) = true := by
   unfold textB
   rw [Bool.and_eq_true, decide_eq_true_eq]
   exact ⟨okN_all.2 (tx_all (pcs t) ⟨#[]⟩ (fun j hj => by cases hj) hpg), O_⟩
  obtain ⟨r, Kr, hr⟩ := spec_sizes_ev op ho.1
  obtain ⟨K3, h4⟩ := spec_GoodOp_ev op ho r Kr hr
  cases hgo : goodB op r with
  | false =>
   refine ⟨([], false), K1 + K2 + K3 + 0 + 2, GR_nil, fun m hm => ⟨?_, ?_⟩, trivial, trivial⟩
   ·unfold spec_EditRope.f
    rw [h1 _ O_, hg, bs_, ip_ rfl, h4 _ O_, hgo, bs_, iN_ (by simp)]
   ·trivial
  | true =>
   have hgo' := hgo
   unfold goodB at hgo'
   rw [Bool.and_eq_true, Bool.and_eq_true, decide_eq_true_eq] at hgo'
   obtain ⟨hn, hpn, hsb⟩ := hgo'
   have hp : ∀ p ∈ op, PK p := fun p hp' => by
    obtain ⟨j, hj, rfl⟩ := List.getElem_of_mem hp'
    exact pN_PK op op.length 0 O_ hpn j hj (Nat.zero_le _)
   have hrr : r = (sB op, sA op) := by
    have h := hr (Kr + op.length + 1) O_
    rw [sizes_of op hn hp _ O_] at h
    exact (Option.some.inj h).symm
   have hb1 : sB op ≤ 300 ∧ sA op ≤ 300 := by
    unfold sizesB at hsb
    rw [hrr] at hsb
    by_cases h : sB op ≤ 300
    ·rw [ip_ h, decide_eq_true_eq] at hsb; exact ⟨h, hsb⟩
    ·rw [iN_ h] at hsb; cases hsb
   have hbd := s_bd op hp
   obtain ⟨a, hSA⟩ := specApply_l op hn hp op.length 0 (tx (pcs t)) ⟨#[]⟩ O_ O_ (by show 0 + _ ≤ _; omega)
   rw [List.drop_zero] at hSA
   have hS1 : ∀ m, 1000 + K1 + K3 ≤ m → l.length < m → spec_EditRope.f m l op = if (decide (sB op = ((tx (pcs t)).size : Int)) && mt op (tx (pcs t))) = true then
  (if op.length ≤ 100000000 then ((eL m op l []).bind fun out => if out.length < 2932031007402 then ((spec_GoodRope.f m out).bind fun g3 => if g3 = true then some (out, true) else some ([], false)) else none) else none)
 else some ([], false) := fun m hm hm2 => by
    unfold spec_EditRope.f
    rw [h1 _ O_, hg, bs_, ip_ rfl, h4 _ O_, hgo, bs_, ip_ rfl, hT m hm2 O_, bs_]
    unfold spec_l3Apply.f
    rw [show (pcs t).foldl (fun a p => a ++ p) ⟨#[]⟩ = tx (pcs t) from rfl, show spec_l3Apply.l0 m (tx (pcs t)) ⟨#[]⟩ op (op.length : Int) 0 = _ from hSA m O_, bs_]
   cases hok : (decide (sB op = ((tx (pcs t)).size : Int)) && mt op (tx (pcs t))) with
   | false =>
    rw [hok] at hS1
    refine ⟨([], false), K1 + K2 + K3 + 0 + 0 + 2000 + l.length, GR_nil, fun m hm => ⟨?_, ?_⟩, trivial, trivial⟩
    ·rw [hS1 m O_ O_, iN_ (by simp)]
    ·trivial
   | true =>
    rw [hok] at hS1
    have hz : sB op = t.size := by
     rw [Bool.and_eq_true, decide_eq_true_eq] at hok
     omega
    obtain ⟨acc, K5, hL, hg5, hq5⟩ := EL op hp t [] ht O_ hz (fun p hp => by cases hp) (by show ((0 : Nat) : Int) + _ ≤ _; omega)
    have hal := len_psz acc hg5
    have hz0 : psz [] = 0 := rfl
    obtain ⟨o1, o2, o3⟩ := iF_ok acc.length acc rfl O_ hg5
    have hbl := br_length (iF acc) 0
    obtain ⟨K6, h6⟩ := spec_GoodRope_ev (br (iF acc) 0) (br_szN o1) O_
    rw [goodR_br o1] at h6
    have hzz : sB op = ((tx (pcs t)).size : Int) := by
     rw [Bool.and_eq_true, decide_eq_true_eq] at hok
     exact hok.1
    have hmt : mt op (tx (pcs t)) = true := by
     rw [Bool.and_eq_true] at hok
     exact hok.2
    refine ⟨if cnt (iF acc) ≤ 200 ∧ (iF acc).size ≤ 300 then (br (iF acc) 0, true) else ([], false), K1 + K2 + K3 + 0 + K5 + K6 + 0 + 2000 + l.length, GR_of o1 O_, fun m hm => ⟨?_, ?_⟩, trivial, trivial⟩
    ·have h := (hL m O_).2
     rw [← e] at h
     rw [hS1 m O_ O_, ip_ rfl, ip_ O_, show eL m op l [] = _ from h, bs_, ip_ O_, h6 m O_, bs_]
     by_cases c1 : cnt (iF acc) ≤ 200
     ·by_cases c2 : (iF acc).size ≤ 300
      ·rw [decide_eq_true c1, decide_eq_true c2, Bool.and_self, ip_ rfl, ip_ ⟨c1, c2⟩]
      ·rw [decide_eq_false c2, Bool.and_false, iN_ (by simp), iN_ (fun h => c2 h.2)]
     ·rw [decide_eq_false c1, Bool.false_and, iN_ (by simp), iN_ (fun h => c1 h.1)]
    ·trivial
theorem u64_range (n : Int) : 0 ≤ IntKind.u64.wrap n ∧ IntKind.u64.wrap n < 18446744073709551616 := by
 have h : IntKind.u64.wrap n = n % 18446744073709551616 := by simp [IntKind.wrap, IntKind.bits, IntKind.signed]
 rw [h]; omega
theorem u64_and255 (n : Int) : 0 ≤ Go.bits .and .u64 (IntKind.u64.wrap n / 1099511627776) 255 ∧ Go.bits .and .u64 (IntKind.u64.wrap n / 1099511627776) 255 < 256 := by
 have h := u64_range n
 have e := bits_mask .u64 24 (by decide) (fun n h0 h1 => by
  have h : IntKind.u64.wrap n = n % 18446744073709551616 := by simp [IntKind.wrap, IntKind.bits, IntKind.signed]
  rw [h]; omega) 8 (by decide) (IntKind.u64.wrap n / 1099511627776) O_ O_
 rw [show (255 : Int) = 2 ^ 8 - 1 from rfl, e]
 omega
def okCode (c : List Int) : Prop := ∀ x ∈ c, 0 ≤ x ∧ x < 256
theorem okCode_of {c : List Int} (h : ∀ x ∈ c, (Lit.int .u8 x).wf = true) : okCode c := by
 intro x hx
 have := h x hx
 simp [Lit.wf, IntKind.min, IntKind.max, IntKind.bits, IntKind.signed] at this
 omega
theorem okCode.rd {c : List Int} (h : okCode c) (i : Int) : 0 ≤ rd c i ∧ rd c i < 256 := by
 unfold Go.Proofs.YtmkenlejdaphnaaW.PrintWords.rd
 rw [List.getD_eq_getElem?_getD]
 cases e : c[i.toNat]? with
 | none => simp
 | some x => simp; exact h x (List.mem_of_getElem? e)
theorem next_ev {c : List Int} (hc : okCode c) (a s : Int) (h0 : 0 ≤ a) (h1 : a ≤ 4000000000000000000) : ∃ r s', spec_l1Cur_next.f c a s = some (r, a + 1, s') ∧ 0 ≤ r ∧ r < 256 := by
 have hr := hc.rd a
 have hu := u64_and255
 unfold spec_l1Cur_next.f
 rw [w64 (by omega : -4611686018427387904 ≤ a + 1) O_]
 by_cases c1 : a < (c.length : Int)
 ·rw [ip_ c1, ip_ h0, ip_ O_, w64 O_ O_]
  exact ⟨_, _, rfl, hr.1, hr.2⟩
 ·rw [iN_ c1, iN_ O_]
  refine ⟨_, _, rfl, ?_⟩
  have := hu (IntKind.u64.wrap (IntKind.u64.wrap (s * 6364136223846793005) + 0) + 1442695040888963407)
  rw [w64 O_ O_]
  exact this
theorem pick_ev {c : List Int} (hc : okCode c) (a s n : Int) (h0 : 0 ≤ a) (h1 : a ≤ 3000000000000000000) (hn : 1 ≤ n) (hn2 : n ≤ 1000000000000) : ∃ r a' s', spec_l1Cur_pick.f c a s n = some (r, a', s') ∧ 0 ≤ r ∧ r < n ∧ a ≤ a' ∧ a' ≤ a + 2 := by
 unfold spec_l1Cur_pick.f
 by_cases c1 : n ≤ 1
 ·rw [ip_ c1]; exact ⟨0, a, s, rfl, O_, O_, O_, O_⟩
 ·obtain ⟨r, s1, e1, hr0, hr1⟩ := next_ev hc a s h0 O_
  rw [iN_ c1, e1]
  simp only [bs_]
  by_cases c2 : n > 200
  ·obtain ⟨r2, s2, e2, hr2, hr3⟩ := next_ev hc (a + 1) s1 O_ O_
   rw [ip_ c2, e2]
   simp only [bs_]
   rw [iN_ O_, w64 (by omega : -4611686018427387904 ≤ r * 256) O_, w64 O_ O_]
   refine ⟨_, _, _, rfl, ?_, ?_, O_, O_⟩
   ·rw [Int.tmod_eq_emod_of_nonneg O_]; exact Int.emod_nonneg _ O_
   ·rw [Int.tmod_eq_emod_of_nonneg O_]; exact Int.emod_lt_of_pos _ O_
  ·rw [iN_ c2, iN_ O_]
   refine ⟨_, _, _, rfl, ?_, ?_, O_, O_⟩
   ·rw [Int.tmod_eq_emod_of_nonneg O_]; exact Int.emod_nonneg _ O_
   ·rw [Int.tmod_eq_emod_of_nonneg O_]; exact Int.emod_lt_of_pos _ O_
theorem one_ev {c : List Int} (hc : okCode c) (a s n : Int) (h0 : 0 ≤ a) (h1 : a ≤ 3000000000000000000) (hn : 1 ≤ n) (hn2 : n ≤ 1000000000000) : ∃ r a' s', spec_l1Cur_one.f c a s n = some (r, a', s') ∧ a ≤ a' ∧ a' ≤ a + 2 := by
 obtain ⟨r, a', s', e, _, _, h2, h3⟩ := pick_ev hc a s n h0 h1 hn hn2
 unfold spec_l1Cur_one.f
 rw [e]
 exact ⟨_, _, _, rfl, h2, h3⟩
theorem of_ev {c : List Int} (hc : okCode c) (a s : Int) (l : List ByteArray) (M : Nat) (h0 : 0 ≤ a) (h1 : a ≤ 3000000000000000000) (hl : 0 < l.length) (hl2 : l.length ≤ 1000) (hM : ∀ x ∈ l, x.size ≤ M) : ∃ r a' s', spec_l1Cur_of.f c a s l = some (r, a', s') ∧ r ∈ l ∧ r.size ≤ M ∧ a ≤ a' ∧ a' ≤ a + 2 := by
 obtain ⟨r, a', s', e, h2, h3, h4, h5⟩ := pick_ev hc a s (l.length : Int) h0 h1 O_ O_
 unfold spec_l1Cur_of.f
 rw [e]
 simp only [bs_]
 rw [ip_ h2, ip_ h3]
 have hm : rdOf ByteArray.empty l r ∈ l := by
  unfold rdOf
  rw [List.getD_eq_getElem?_getD, List.getElem?_eq_getElem (by omega : r.toNat < l.length)]
  simp
 exact ⟨_, _, _, rfl, hm, hM _ hm, h4, h5⟩
def cO : Nat → Int
 | 0 => 600
 | d + 1 => 60 * (cO d + 10)
def sO : Nat → Nat
 | 0 => 300
 | d + 1 => 60 * (sO d + 10)
def xO : Nat → Nat
 | 0 => 5
 | d + 1 => sO d + 10
def yO : Nat → Int
 | 0 => 10
 | d + 1 => cO d + 10
theorem cO_le (d : Nat) (h : d ≤ 3) : 0 ≤ cO d ∧ cO d ≤ 1000000000 := by
 rcases d with _ | _ | _ | _ | d <;> simp [cO] <;> omega
theorem sO_le (d : Nat) (h : d ≤ 3) : sO d ≤ 1000000000 := by
 rcases d with _ | _ | _ | _ | d <;> simp [sO] <;> omega
theorem size_app (a b : ByteArray) : (a ++ b).size = a.size + b.size := zA_
theorem inner_l {c : List Int} (hc : okCode c) (d : Nat) (hd : d ≤ 3)
  (IH : ∀ e : Nat, d = e + 1 → ∀ (a s n : Int), 0 ≤ a → a ≤ 2000000000000000000 + (3 - (e : Int)) * 1000000000000 → 0 ≤ n → n ≤ 60 → ∃ t a' s', t.size ≤ sO e ∧ a ≤ a' ∧ a' ≤ a + cO e ∧ ∃ K, ∀ k, K ≤ k → spec_l1Cur_inner.f k c a s n (e : Int) = some (t, a', s')) :
  ∀ (n : Nat) (t : ByteArray) (a s : Int), n ≤ 60 → 0 ≤ a → a ≤ 2000000000000000000 + (3 - (d : Int)) * 1000000000000 + (60 - (n : Int)) * 1000000000 → t.size + n * 1000000000 ≤ 60 * 1000000000 →
   ∃ t' a' s', t'.size ≤ t.size + n * (xO d) ∧ a ≤ a' ∧ a' ≤ a + n * (yO d) ∧ ∃ K, ∀ k, K ≤ k → spec_l1Cur_inner.l0 k (n : Int) (d : Int) t c a s = some (t', a', s') := by
 intro n
 induction n with
 | zero =>
  intro t a s hn h0 h1 ht
  refine ⟨t, a, s, O_, O_, O_, 1, fun k hk => ?_⟩
  obtain ⟨k, rfl⟩ : ∃ m, k = m + 1 := ⟨k - 1, O_⟩
  simp only [spec_l1Cur_inner.l0]
  rw [iN_ O_]
 | succ n ih =>
  intro t a s hn h0 h1 ht
  have join : ∀ (u : ByteArray) (a1 s1 : Int), u.size ≤ (xO d) → a ≤ a1 → a1 ≤ a + (yO d) →
    ∃ t' a' s', t'.size ≤ t.size + (n + 1 : Nat) * (xO d) ∧ a ≤ a' ∧ a' ≤ a + ((n + 1 : Nat) : Int) * (yO d) ∧ ∃ K, ∀ k, K ≤ k → spec_l1Cur_inner.l0 k (n : Int) (d : Int) (t ++ u) c a1 s1 = some (t', a', s') := by
   intro u a1 s1 hu h2 h3
   have b1 : xO d ≤ 1000000000 := by
    cases d with
    | zero => simp [xO]
    | succ e => have := sO_le e O_; rcases e with _ | _ | _ | e <;> simp [xO, sO] <;> omega
   have b2 : yO d ≤ 1000000000 := by
    cases d with
    | zero => simp [yO]
    | succ e => rcases e with _ | _ | _ | e <;> simp [yO, cO] <;> omega
   generalize xO d = X at *
   generalize yO d = Y at *
   obtain ⟨t', a', s', g1, g2, g3, g4⟩ := ih (t ++ u) a1 s1 O_ O_ O_ (by rw [size_app]; omega)
   refine ⟨t', a', s', ?_, O_, ?_, g4⟩
   ·rw [size_app] at g1
    have : (n + 1) * X = n * X + X := Nat.succ_mul n X
    omega
   ·have : ((n + 1 : Nat) : Int) * Y = (n : Int) * Y + Y := by rw [show ((n + 1 : Nat) : Int) = (n : Int) + 1 by omega, Int.add_mul, Int.one_mul]
    omega
  have plain : ∀ a1 s1 : Int, a ≤ a1 → a1 ≤ a + 2 → ∃ t' a' s', t'.size ≤ t.size + (n + 1 : Nat) * (xO d) ∧ a ≤ a' ∧ a' ≤ a + ((n + 1 : Nat) : Int) * (yO d) ∧ ∃ K, ∀ k, K ≤ k → spec_l1Cur_inner.j1 k ((n : Int) + 1) (d : Int) t false c a1 s1 = some (t', a', s') := by
   intro a1 s1 h2 h3
   obtain ⟨u, a2, s2, e, _, hu, h4, h5⟩ := of_ev hc a1 s1 ([(⟨#[97]⟩ : ByteArray), (⟨#[98]⟩ : ByteArray), (⟨#[97, 98]⟩ : ByteArray), (⟨#[120]⟩ : ByteArray), (⟨#[32]⟩ : ByteArray), (⟨#[111, 110, 101]⟩ : ByteArray), (⟨#[49]⟩ : ByteArray), (⟨#[122, 46]⟩ : ByteArray)] : List ByteArray) 3 O_ O_ (by simp) (by simp) (by decide)
   obtain ⟨t', a', s', g1, g2, g3, K, g4⟩ := join u a2 s2 (by cases d <;> simp [xO] <;> omega) O_ (by
    cases d with
    | zero => simp [yO]; omega
    | succ e => have := cO_le e O_; simp [yO]; omega)
   refine ⟨t', a', s', g1, g2, g3, K + 1, fun k hk => ?_⟩
   obtain ⟨k, rfl⟩ : ∃ m, k = m + 1 := ⟨k - 1, O_⟩
   simp only [spec_l1Cur_inner.j1]
   rw [iN_ (by simp), e]
   simp only [bs_]
   rw [ip_ O_, w64 O_ O_, Int.add_sub_cancel]
   exact g4 k O_
  cases d with
  | zero =>
   obtain ⟨t', a', s', g1, g2, g3, K, g4⟩ := plain a s O_ O_
   refine ⟨t', a', s', g1, g2, g3, K + 1, fun k hk => ?_⟩
   obtain ⟨k, rfl⟩ : ∃ m, k = m + 1 := ⟨k - 1, O_⟩
   simp only [spec_l1Cur_inner.l0]
   rw [ip_ O_, iN_ O_]
   exact g4 k O_
  | succ e =>
   obtain ⟨r, a1, s1, e1, h2, h3⟩ := one_ev hc a s 3 O_ O_ O_ O_
   have hb := cO_le e O_
   have hs := sO_le e O_
   cases r with
   | false =>
    obtain ⟨t', a', s', g1, g2, g3, K, g4⟩ := plain a1 s1 O_ O_
    refine ⟨t', a', s', g1, g2, g3, K + 1, fun k hk => ?_⟩
    obtain ⟨k, rfl⟩ : ∃ m, k = m + 1 := ⟨k - 1, O_⟩
    simp only [spec_l1Cur_inner.l0]
    rw [ip_ O_, ip_ O_, e1]
    exact g4 k O_
   | true =>
    obtain ⟨p1, a2, s2, e2, q1, q2, q3, q4⟩ := pick_ev hc a1 s1 4 O_ O_ O_ O_
    obtain ⟨p2, a3, s3, e3, q5, q6, q7, q8⟩ := pick_ev hc a2 s2 4 O_ O_ O_ O_
    obtain ⟨v, a4, s4, i1, i2, i3, K1, i4⟩ := IH e rfl a3 s3 p2 O_ O_ O_ O_
    have one1 : (strOfNums [wrap64 (65 + p1) % 256]).size = 1 := rfl
    have lit1 : (⟨#[47]⟩ : ByteArray).size = 1 := rfl
    obtain ⟨t', a', s', g1, g2, g3, K, g4⟩ := join (strOfNums [wrap64 (65 + p1) % 256] ++ v ++ (⟨#[47]⟩ : ByteArray)) a4 s4 (by rw [size_app, size_app, one1, lit1]; simp [xO]; omega) O_ (by simp [yO]; omega)
    refine ⟨t', a', s', g1, g2, g3, max K K1 + 2, fun k hk => ?_⟩
    obtain ⟨k, rfl⟩ : ∃ m, k = m + 2 := ⟨k - 2, O_⟩
    simp only [spec_l1Cur_inner.l0]
    rw [ip_ O_, ip_ O_, e1]
    simp only [bs_, spec_l1Cur_inner.j1, if_true]
    rw [e2]
    simp only [bs_]
    rw [e3]
    simp only [bs_]
    rw [w64 (by omega : -4611686018427387904 ≤ ((e + 1 : Nat) : Int) - 1) O_, show ((e + 1 : Nat) : Int) - 1 = (e : Int) by omega, i4 k O_]
    simp only [bs_]
    rw [ip_ O_, ip_ (by rw [size_app]; omega), ip_ (by rw [size_app, size_app]; omega), w64 O_ O_, show ((n + 1 : Nat) : Int) - 1 = (n : Int) by omega]
    exact g4 k O_
theorem inner_ev {c : List Int} (hc : okCode c) : ∀ (d : Nat), d ≤ 3 → ∀ (a s n : Int), 0 ≤ a → a ≤ 2000000000000000000 + (3 - (d : Int)) * 1000000000000 → 0 ≤ n → n ≤ 60 → ∃ t a' s', t.size ≤ sO d ∧ a ≤ a' ∧ a' ≤ a + cO d ∧ ∃ K, ∀ k, K ≤ k → spec_l1Cur_inner.f k c a s n (d : Int) = some (t, a', s') := by
 intro d
 induction d with
 | zero =>
  intro hd a s n h0 h1 h2 h3
  obtain ⟨m, rfl⟩ := Int.eq_ofNat_of_zero_le h2
  obtain ⟨t, a', s', g1, g2, g3, K, g4⟩ := inner_l hc 0 hd (fun e h => by omega) m (⟨#[]⟩ : ByteArray) a s O_ h0 O_ (by simp [ByteArray.size]; omega)
  simp only [show (⟨#[]⟩ : ByteArray).size = 0 from rfl] at g1 g3
  refine ⟨t, a', s', by simp only [sO, xO] at *; omega, g2, by simp only [cO, yO] at *; omega, K + 1, fun k hk => ?_⟩
  obtain ⟨k, rfl⟩ : ∃ m, k = m + 1 := ⟨k - 1, O_⟩
  simp only [spec_l1Cur_inner.f]
  exact g4 k O_
 | succ d ih =>
  intro hd a s n h0 h1 h2 h3
  obtain ⟨m, rfl⟩ := Int.eq_ofNat_of_zero_le h2
  have hb := cO_le d O_
  obtain ⟨t, a', s', g1, g2, g3, K, g4⟩ := inner_l hc (d + 1) hd (fun e h => by
   have : e = d := by omega
   subst this; exact ih O_) m (⟨#[]⟩ : ByteArray) a s O_ h0 O_ (by simp [ByteArray.size]; omega)
  simp only [show (⟨#[]⟩ : ByteArray).size = 0 from rfl] at g1 g3
  refine ⟨t, a', s', ?_, g2, ?_, K + 1, fun k hk => ?_⟩
  ·simp only [sO, xO] at *
   have := Nat.mul_le_mul_right (sO d + 10) (by omega : m ≤ 60)
   omega
  ·simp only [cO, yO] at *
   have := Int.mul_le_mul_of_nonneg_right (by omega : (m : Int) ≤ 60) (by omega : 0 ≤ cO d + 10)
   omega
  ·obtain ⟨k, rfl⟩ : ∃ m, k = m + 1 := ⟨k - 1, O_⟩
   simp only [spec_l1Cur_inner.f]
   exact g4 k O_
theorem ext_size (s : ByteArray) (i j : Nat) : (s.extract i j).size ≤ s.size := by rw [zE_]; omega
theorem spoilt_l {c : List Int} (hc : okCode c) (w : ByteArray) (hw : 0 < w.size) (hw2 : w.size ≤ 1000) : ∀ (n : Nat) (t : ByteArray) (a s : Int), n ≤ 3 → 0 ≤ a → a ≤ 2000000000000000000 + (3 - (n : Int)) * 10 → t.size + n ≤ 100000000000 →
  ∃ t' a' s', t'.size ≤ t.size + n ∧ a ≤ a' ∧ a' ≤ a + 10 * n ∧ ∃ K, ∀ k, K ≤ k → spec_l1Cur_spoilt.l0 k t w (n : Int) c a s = some (t', a', s') := by
 intro n
 induction n with
 | zero =>
  intro t a s hn h0 h1 ht
  refine ⟨t, a, s, O_, O_, O_, 2, fun k hk => ?_⟩
  obtain ⟨k, rfl⟩ : ∃ m, k = m + 2 := ⟨k - 2, O_⟩
  simp only [spec_l1Cur_spoilt.l0]
  rw [iN_ O_]
  simp only [spec_l1Cur_spoilt.j1]
  rw [iN_ (by simp)]
 | succ n ih =>
  intro t a s hn h0 h1 ht
  by_cases hz : t.size = 0
  ·refine ⟨t, a, s, O_, O_, O_, 2, fun k hk => ?_⟩
   obtain ⟨k, rfl⟩ : ∃ m, k = m + 2 := ⟨k - 2, O_⟩
   simp only [spec_l1Cur_spoilt.l0]
   rw [ip_ O_]
   simp only [spec_l1Cur_spoilt.j1]
   rw [iN_ (by rw [decide_eq_true_eq]; omega)]
  ·obtain ⟨p1, a1, s1, e1, q1, q2, q3, q4⟩ := pick_ev hc a s (t.size : Int) O_ O_ O_ O_
   obtain ⟨p2, a2, s2, e2, q5, q6, q7, q8⟩ := pick_ev hc a1 s1 (w.size : Int) O_ O_ O_ O_
   obtain ⟨p3, a3, s3, e3, q9, q10, q11, q12⟩ := pick_ev hc a2 s2 3 O_ O_ O_ O_
   have one1 : (strOfNums [bt w p2]).size = 1 := rfl
   have x1 : (t.extract 0 p1.toNat).size = p1.toNat := by rw [zE_]; omega
   have x2 : (t.extract p1.toNat t.size).size = t.size - p1.toNat := by rw [zE_]; omega
   have x3 : (t.extract (p1 + 1).toNat t.size).size = t.size - (p1 + 1).toNat := by rw [zE_]; omega
   have go : ∀ u : ByteArray, u.size ≤ t.size + 1 → ∃ t' a' s', t'.size ≤ t.size + (n + 1) ∧ a ≤ a' ∧ a' ≤ a + 10 * ((n + 1 : Nat) : Int) ∧ ∃ K, ∀ k, K ≤ k → spec_l1Cur_spoilt.l0 k u w (n : Int) c a3 s3 = some (t', a', s') := by
    intro u hu
    obtain ⟨t', a', s', g1, g2, g3, g4⟩ := ih u a3 s3 O_ O_ O_ O_
    exact ⟨t', a', s', O_, O_, O_, g4⟩
   have hn1 : ((n + 1 : Nat) : Int) - 1 = (n : Int) := by omega
   by_cases c1 : p3 = 0
   ·obtain ⟨t', a', s', g1, g2, g3, K, g4⟩ := go (t.extract 0 p1.toNat ++ strOfNums [bt w p2] ++ t.extract p1.toNat t.size) (by rw [size_app, size_app, x1, x2, one1]; omega)
    refine ⟨t', a', s', g1, g2, g3, K + 2, fun k hk => ?_⟩
    obtain ⟨k, rfl⟩ : ∃ m, k = m + 2 := ⟨k - 2, O_⟩
    simp only [spec_l1Cur_spoilt.l0]
    rw [ip_ O_]
    simp only [spec_l1Cur_spoilt.j1]
    rw [ip_ (by simp; omega), e1]
    simp only [bs_]
    rw [e2]
    simp only [bs_]
    rw [ip_ q5, ip_ q6, e3]
    simp only [bs_]
    rw [ip_ c1, ip_ q1, ip_ O_, ip_ O_, ip_ (by rw [size_app]; omega), w64 O_ O_, hn1]
    exact g4 k O_
   ·by_cases c2 : p3 = 1
    ·obtain ⟨t', a', s', g1, g2, g3, K, g4⟩ := go (t.extract 0 p1.toNat ++ strOfNums [bt w p2] ++ t.extract (p1 + 1).toNat t.size) (by rw [size_app, size_app, x1, x3, one1]; omega)
     refine ⟨t', a', s', g1, g2, g3, K + 2, fun k hk => ?_⟩
     obtain ⟨k, rfl⟩ : ∃ m, k = m + 2 := ⟨k - 2, O_⟩
     simp only [spec_l1Cur_spoilt.l0]
     rw [ip_ O_]
     simp only [spec_l1Cur_spoilt.j1]
     rw [ip_ (by simp; omega), e1]
     simp only [bs_]
     rw [e2]
     simp only [bs_]
     rw [ip_ q5, ip_ q6, e3]
     simp only [bs_]
     have hp1 : wrap64 (p1 + 1) = p1 + 1 := w64 O_ O_
     rw [iN_ c1, ip_ c2, ip_ q1, ip_ O_, ip_ O_, hp1, ip_ O_, ip_ O_, ip_ (by rw [size_app]; omega), w64 O_ O_, hn1]
     exact g4 k O_
    ·obtain ⟨t', a', s', g1, g2, g3, K, g4⟩ := go (t.extract 0 p1.toNat ++ t.extract (p1 + 1).toNat t.size) (by rw [size_app, x1, x3]; omega)
     refine ⟨t', a', s', g1, g2, g3, K + 2, fun k hk => ?_⟩
     obtain ⟨k, rfl⟩ : ∃ m, k = m + 2 := ⟨k - 2, O_⟩
     simp only [spec_l1Cur_spoilt.l0]
     rw [ip_ O_]
     simp only [spec_l1Cur_spoilt.j1]
     rw [ip_ (by simp; omega), e1]
     simp only [bs_]
     rw [e2]
     simp only [bs_]
     rw [ip_ q5, ip_ q6, e3]
     simp only [bs_]
     have hp1 : wrap64 (p1 + 1) = p1 + 1 := w64 O_ O_
     simp only [hp1]
     simp (disch := omega) only [ip_, iN_, w64, hn1]
     exact g4 k O_
theorem spoilt_ev {c : List Int} (hc : okCode c) (a s : Int) (t w : ByteArray) (hw : 0 < w.size) (hw2 : w.size ≤ 1000) (h0 : 0 ≤ a) (h1 : a ≤ 1900000000000000000) (ht : t.size ≤ 90000000000) :
  ∃ t' a' s', t'.size ≤ t.size + 3 ∧ a ≤ a' ∧ a' ≤ a + 50 ∧ ∃ K, ∀ k, K ≤ k → spec_l1Cur_spoilt.f k c a s t w = some (t', a', s') := by
 obtain ⟨p1, a1, s1, e1, q1, q2, q3, q4⟩ := pick_ev hc a s 3 O_ O_ O_ O_
 obtain ⟨m, rfl⟩ := Int.eq_ofNat_of_zero_le q1
 obtain ⟨t', a', s', g1, g2, g3, K, g4⟩ := spoilt_l hc w hw hw2 m t a1 s1 O_ O_ O_ O_
 refine ⟨t', a', s', O_, O_, O_, K, fun k hk => ?_⟩
 unfold spec_l1Cur_spoilt.f
 rw [e1]
 exact g4 k hk
theorem doc0_ev {c : List Int} (hc : okCode c) (a s : Int) (t : ByteArray) (h0 : 0 ≤ a) (h1 : a ≤ 1800000000000000000) (ht : t.size ≤ 1000000000) :
  ∃ t' a' s', t'.size ≤ 1000000010 ∧ a ≤ a' ∧ a' ≤ a + 100 ∧ ∃ K, ∀ k, K ≤ k → spec_l1Cur_doc.j0 k t c a s = some (t', a', s') := by
 obtain ⟨r, a1, s1, e1, h2, h3⟩ := one_ev hc a s 12 O_ O_ O_ O_
 cases r with
 | false =>
  refine ⟨t, a1, s1, O_, O_, O_, 1, fun k hk => ?_⟩
  obtain ⟨k, rfl⟩ : ∃ m, k = m + 1 := ⟨k - 1, O_⟩
  simp only [spec_l1Cur_doc.j0]
  rw [e1]; simp
 | true =>
  obtain ⟨t', a', s', g1, g2, g3, K, g4⟩ := spoilt_ev hc a1 s1 t (⟨#[65, 47, 97, 90]⟩ : ByteArray) (by decide) (by decide) O_ O_ O_
  refine ⟨t', a', s', O_, O_, O_, K + 1, fun k hk => ?_⟩
  obtain ⟨k, rfl⟩ : ∃ m, k = m + 1 := ⟨k - 1, O_⟩
  simp only [spec_l1Cur_doc.j0]
  rw [e1]
  simp only [bs_, if_true]
  rw [g4 k O_]; rfl
theorem doc_ev {c : List Int} (hc : okCode c) (a s : Int) (h0 : 0 ≤ a) (h1 : a ≤ 1700000000000000000) :
  ∃ t' a' s', t'.size ≤ 1000000010 ∧ a ≤ a' ∧ a' ≤ a + 2000000200 ∧ ∃ K, ∀ k, K ≤ k → spec_l1Cur_doc.f k c a s = some (t', a', s') := by
 have hb := cO_le 3 O_
 have hs := sO_le 3 O_
 obtain ⟨p1, a1, s1, e1, q1, q2, q3, q4⟩ := pick_ev hc a s 7 O_ O_ O_ O_
 obtain ⟨t2, a2, s2, i1, i2, i3, K1, i4⟩ := inner_ev hc 3 O_ a1 s1 p1 O_ O_ O_ O_
 obtain ⟨p3, a3, s3, e3, r1, r2, r3, r4⟩ := pick_ev hc a2 s2 30 O_ O_ O_ O_
 by_cases c1 : p3 = 0
 ·obtain ⟨t4, a4, s4, j1, j2, j3, K2, j4⟩ := inner_ev hc 3 O_ a3 s3 60 O_ O_ O_ O_
  obtain ⟨t', a', s', g1, g2, g3, K, g4⟩ := doc0_ev hc a4 s4 t4 O_ O_ O_
  refine ⟨t', a', s', g1, O_, O_, max (max K K1) K2, fun k hk => ?_⟩
  unfold spec_l1Cur_doc.f
  have e5 := i4 k O_
  have e6 := j4 k O_
  have e7 := g4 k O_
  simp only [Int.cast_ofNat_Int] at e5 e6
  rw [e1]; simp only [bs_]
  rw [e5]; simp only [bs_]
  rw [e3]; simp only [bs_]
  rw [ip_ c1, e6]; simp only [bs_]
  exact e7
 ·by_cases c2 : p3 = 1
  ·obtain ⟨u, a4, s4, e4, _, hu, h4, h5⟩ := of_ev hc a3 s3 ([(⟨#[65, 65, 65, 65, 65, 65, 65, 65, 65, 65, 65, 65, 47, 47, 47, 47, 47, 47, 47, 47, 47, 47, 47, 47]⟩ : ByteArray), (⟨#[65, 65, 65, 65, 65, 65, 65, 65, 65, 65, 65, 65, 65, 47, 47, 47, 47, 47, 47, 47, 47, 47, 47, 47, 47, 47]⟩ : ByteArray)] : List ByteArray) 30 O_ O_ (by simp) (by simp) (by decide)
   obtain ⟨t', a', s', g1, g2, g3, K, g4⟩ := doc0_ev hc a4 s4 u O_ O_ O_
   refine ⟨t', a', s', g1, O_, O_, max K K1, fun k hk => ?_⟩
   unfold spec_l1Cur_doc.f
   have e5 := i4 k O_
   have e7 := g4 k O_
   simp only [Int.cast_ofNat_Int] at e5
   rw [e1]; simp only [bs_]
   rw [e5]; simp only [bs_]
   rw [e3]; simp only [bs_]
   rw [iN_ c1, ip_ c2, e4]; simp only [bs_]
   exact e7
  ·obtain ⟨t', a', s', g1, g2, g3, K, g4⟩ := doc0_ev hc a3 s3 t2 O_ O_ O_
   refine ⟨t', a', s', g1, O_, O_, max K K1, fun k hk => ?_⟩
   unfold spec_l1Cur_doc.f
   have e5 := i4 k O_
   have e7 := g4 k O_
   simp only [Int.cast_ofNat_Int] at e5
   rw [e1]; simp only [bs_]
   rw [e5]; simp only [bs_]
   rw [e3]; simp only [bs_]
   rw [iN_ c1, iN_ c2]
   exact e7
def F64 (s : Int) : Int := (s * 6364136223846793005 + 1442695040888963407) % 18446744073709551616
theorem F64_range (s : Int) : 0 ≤ F64 s ∧ F64 s < 18446744073709551616 := by unfold F64; omega
theorem u64w (n : Int) : IntKind.u64.wrap n = n % 18446744073709551616 := by simp [IntKind.wrap, IntKind.bits, IntKind.signed]
theorem next_end {c : List Int} (a s : Int) (h0 : (c.length : Int) ≤ a) (h1 : 0 ≤ a) (h2 : a ≤ 4000000000000000000) : spec_l1Cur_next.f c a s = some (F64 s / 1099511627776 % 256, a + 1, F64 s) := by
 have hF : IntKind.u64.wrap (IntKind.u64.wrap (IntKind.u64.wrap (s * 6364136223846793005) + IntKind.u64.wrap 0) + 1442695040888963407) = F64 s := by
  rw [u64w, u64w, u64w, u64w]; unfold F64; omega
 have hF' : IntKind.u64.wrap (IntKind.u64.wrap (IntKind.u64.wrap (s * 6364136223846793005) + 0) + 1442695040888963407) = F64 s := by
  rw [u64w, u64w, u64w]; unfold F64; omega
 have hr := F64_range s
 have e := bits_mask .u64 24 (by decide) (fun n h0 h1 => by rw [u64w]; omega) 8 (by decide) (F64 s / 1099511627776) O_ O_
 have e' : Go.bits .and .u64 (F64 s / 1099511627776) 255 = F64 s / 1099511627776 % 256 := e
 unfold spec_l1Cur_next.f
 rw [iN_ O_, w64 (i := a + 1) O_ O_, iN_ O_]
 first | rw [hF] | rw [hF']
 rw [e', w64 O_ O_]
theorem next_evR {c : List Int} (hc : okCode c) (a s : Int) (h0 : 0 ≤ a) (h1 : a ≤ 4000000000000000000) : ∃ r s', spec_l1Cur_next.f c a s = some (r, a + 1, s') ∧ 0 ≤ r ∧ r < 256 := by
 by_cases hl : (c.length : Int) ≤ a
 ·have hr := F64_range s
  exact ⟨_, _, next_end a s hl h0 h1, O_, O_⟩
 ·have hr := hc.rd a
  unfold spec_l1Cur_next.f
  rw [ip_ O_, ip_ h0, w64 (i := a + 1) O_ O_, ip_ O_, w64 (i := rd c a) O_ O_]
  have := u64_range (IntKind.u64.wrap (IntKind.u64.wrap (s * 6364136223846793005) + IntKind.u64.wrap (rd c a)) + 1442695040888963407)
  exact ⟨_, _, rfl, hr.1, hr.2⟩
theorem pick_evR {c : List Int} (hc : okCode c) (a s n : Int) (h0 : 0 ≤ a) (h1 : a ≤ 3000000000000000000) (hn : 2 ≤ n) (hn2 : n ≤ 200) : ∃ r s', spec_l1Cur_pick.f c a s n = some (r, a + 1, s') ∧ 0 ≤ r ∧ r < n := by
 obtain ⟨r, s', e, g1, g2⟩ := next_evR hc a s h0 O_
 unfold spec_l1Cur_pick.f
 rw [iN_ O_, e]
 simp only [bs_]
 rw [iN_ O_, iN_ O_]
 refine ⟨_, _, rfl, ?_, ?_⟩
 ·rw [Int.tmod_eq_emod_of_nonneg O_]; exact Int.emod_nonneg _ O_
 ·rw [Int.tmod_eq_emod_of_nonneg O_]; exact Int.emod_lt_of_pos _ O_
theorem pick_end {c : List Int} (a s n : Int) (h0 : (c.length : Int) ≤ a) (h1 : 0 ≤ a) (h2 : a ≤ 4000000000000000000) (hn : 2 ≤ n) (hn2 : n ≤ 200) : spec_l1Cur_pick.f c a s n = some (F64 s / 1099511627776 % 256 % n, a + 1, F64 s) := by
 have hr := F64_range s
 unfold spec_l1Cur_pick.f
 rw [iN_ O_, next_end a s h0 h1 h2]
 simp only [bs_]
 rw [iN_ O_, iN_ O_, Int.tmod_eq_emod_of_nonneg O_]
def cls (s : Int) : Int := F64 (F64 s) / 1099511627776 % 4
def G3 (s : Int) : Int := F64 (F64 (F64 s))
def itG : Nat → Int → Int
 | 0, s => s
 | n + 1, s => itG n (G3 s)
theorem itG_add : ∀ (m n : Nat) (s : Int), itG (m + n) s = itG n (itG m s)
 | 0, n, s => by rw [Nat.zero_add]; rfl
 | m + 1, n, s => by rw [show m + 1 + n = (m + n) + 1 by omega]; exact itG_add m n (G3 s)
def Cg (x y : Int) : Prop := ∃ q : Int, x = y + 4398046511104 * q
theorem Cg.trans {x y z : Int} (h : Cg x y) (k : Cg y z) : Cg x z := by
 obtain ⟨q, rfl⟩ := h
 obtain ⟨p, rfl⟩ := k
 exact ⟨p + q, O_⟩
theorem Cg.lin {x y : Int} (h : Cg x y) (A B : Int) : Cg (A * x + B) (A * y + B) := by
 obtain ⟨q, rfl⟩ := h
 refine ⟨A * q, ?_⟩
 rw [Int.mul_add, Int.mul_left_comm A 4398046511104 q]
 omega
theorem Cg.red (A B x : Int) : Cg (A * x + B) (A % 4398046511104 * x + B % 4398046511104) := by
 refine ⟨A / 4398046511104 * x + B / 4398046511104, ?_⟩
 have h1 := Int.emod_add_mul_ediv A 4398046511104
 have h2 := Int.emod_add_mul_ediv B 4398046511104
 have h3 : A * x = A % 4398046511104 * x + 4398046511104 * (A / 4398046511104 * x) := by
  rw [← Int.mul_assoc, ← Int.add_mul, h1]
 omega
theorem F64_cg (x : Int) : Cg (F64 x) (6364136223846793005 * x + 1442695040888963407) := by
 unfold F64
 exact ⟨-(4194304 * ((x * 6364136223846793005 + 1442695040888963407) / 18446744073709551616)), O_⟩
def aff : Nat → Int × Int
 | 0 => (1610380290293, 146808144153)
 | k + 1 => ((aff k).1 * (aff k).1 % 4398046511104, ((aff k).1 * (aff k).2 + (aff k).2) % 4398046511104)
theorem G3_cg (x : Int) : Cg (G3 x) ((aff 0).1 * x + (aff 0).2) := by
 unfold G3
 refine (F64_cg _).trans (((F64_cg _).lin _ _).trans ((((F64_cg x).lin _ _).lin _ _).trans ?_))
 exact ⟨58608227004328453506646594938727604003455258 * x + 13285981864689072521541670664646133922839966, by show 6364136223846793005 * (6364136223846793005 * (6364136223846793005 * x + 1442695040888963407) + 1442695040888963407) + 1442695040888963407 = 1610380290293 * x + 146808144153 + 4398046511104 * (58608227004328453506646594938727604003455258 * x + 13285981864689072521541670664646133922839966); omega⟩
theorem itG_cg : ∀ (k : Nat) (x : Int), Cg (itG (2 ^ k) x) ((aff k).1 * x + (aff k).2)
 | 0, x => G3_cg x
 | k + 1, x => by
  rw [Nat.pow_succ, Nat.mul_two, itG_add]
  refine (itG_cg k _).trans (((itG_cg k x).lin _ _).trans ?_)
  show Cg ((aff k).1 * ((aff k).1 * x + (aff k).2) + (aff k).2) ((aff k).1 * (aff k).1 % 4398046511104 * x + ((aff k).1 * (aff k).2 + (aff k).2) % 4398046511104)
  rw [Int.mul_add, ← Int.mul_assoc, Int.add_assoc]
  exact Cg.red _ _ x
theorem aff19 : aff 19 = (1304887820289, 2957227065344) := by decide +kernel
theorem aff20 : aff 20 = (2609775640577, 2615919247360) := by decide +kernel
theorem itG_F : ∀ (n : Nat) (s : Int), itG n (F64 s) = F64 (itG n s)
 | 0, _ => rfl
 | n + 1, s => itG_F n (G3 s)
theorem cls_it (n : Nat) (s : Int) : cls (itG n s) = itG n (F64 (F64 s)) / 1099511627776 % 4 := by
 unfold cls
 rw [itG_F, itG_F]
theorem cls_soon (s : Int) : ∃ n, n ≤ 1572864 ∧ cls (itG n s) ≠ 1 := by
 by_cases h0 : cls (itG 0 s) = 1
 ·by_cases h1 : cls (itG (2 ^ 19) s) = 1
  ·by_cases h2 : cls (itG (2 ^ 20) s) = 1
   ·refine ⟨2 ^ 19 + 2 ^ 20, by decide, fun h3 => ?_⟩
    rw [cls_it] at h0 h1 h2 h3
    rw [itG_add] at h3
    obtain ⟨q2, e2⟩ := itG_cg 19 (F64 (F64 s))
    obtain ⟨q3, e3⟩ := itG_cg 20 (F64 (F64 s))
    obtain ⟨q4, e4⟩ := itG_cg 20 (itG (2 ^ 19) (F64 (F64 s)))
    rw [aff19] at e2
    rw [aff20] at e3 e4
    have e0 : itG 0 (F64 (F64 s)) = F64 (F64 s) := rfl
    rw [e0] at h0
    generalize F64 (F64 s) = x at *
    generalize itG (2 ^ 20) (itG (2 ^ 19) x) = y4 at *
    generalize itG (2 ^ 19) x = y2 at *
    generalize itG (2 ^ 20) x = y3 at *
    simp only at e2 e3 e4
    clear e0
    have key : y4 - y2 - y3 + x = 2199023255552 + 4398046511104 * (774312967922 * x + 2609775640576 * q2 + q4 - q3 + 1754801623698) := by omega
    generalize (774312967922 * x + 2609775640576 * q2 + q4 - q3 + 1754801623698 : Int) = K at key
    clear e2 e3 e4
    omega
   ·exact ⟨2 ^ 20, by decide, h2⟩
  ·exact ⟨2 ^ 19, by decide, h1⟩
 ·exact ⟨0, by decide, h0⟩
def smP (p : S120) : Prop := 0 ≤ p.f0 ∧ p.f0 ≤ 300 ∧ p.f1.size ≤ 4 ∧ p.f2.size ≤ 300
theorem smP_add {l : List S120} {p : S120} (h : ∀ q ∈ l, smP q) (hp : smP p) : ∀ q ∈ l ++ [p], smP q := by
 intro q hq
 rcases List.mem_append.mp hq with hq | hq
 ·exact h q hq
 ·rw [List.mem_singleton.mp hq]; exact hp
theorem of_pick {c : List Int} {a s r a' s' : Int} {l : List ByteArray} (n : Nat) (hn : l.length = n) (M : Nat) (hM : ∀ x ∈ l, x.size ≤ M) (e : spec_l1Cur_pick.f c a s (n : Int) = some (r, a', s')) (h0 : 0 ≤ r) (h1 : r < n) : ∃ x : ByteArray, x.size ≤ M ∧ spec_l1Cur_of.f c a s l = some (x, a', s') := by
 subst hn
 unfold spec_l1Cur_of.f
 rw [e]
 simp only [bs_]
 rw [ip_ h0, ip_ h1]
 have hm : rdOf ByteArray.empty l r ∈ l := by
  unfold rdOf
  rw [List.getD_eq_getElem?_getD, List.getElem?_eq_getElem (by omega : r.toNat < l.length)]
  simp
 exact ⟨_, hM _ hm, rfl⟩
theorem opOn_tail {c : List Int} (hc : okCode c) (t : ByteArray) (ht : t.size ≤ 300) (x5 : List S120) (x6 : Nat) (h6 : t.size ≤ x6) (a s : Int) (h0 : 0 ≤ a) (h1 : a ≤ 2000000000000000000) (hl : x5.length ≤ 1000000000) (hp : ∀ q ∈ x5, smP q) :
  ∃ r a' s', r.length ≤ x5.length + 1 ∧ (∀ q ∈ r, smP q) ∧ a ≤ a' ∧ a' ≤ a + 4 ∧ ∃ K, ∀ k, K ≤ k → spec_l1Cur_opOn.l0 k t x5 (x6 : Int) c a s = some (r, a', s') := by
 obtain ⟨b, a1, s1, e1, q1, q2⟩ := one_ev hc a s 3 h0 O_ O_ O_
 cases b with
 | false =>
  refine ⟨x5, a1, s1, O_, hp, q1, O_, 1, fun k hk => ?_⟩
  obtain ⟨k, rfl⟩ : ∃ m, k = m + 1 := ⟨k - 1, O_⟩
  simp only [spec_l1Cur_opOn.l0]
  rw [iN_ O_, e1]
  simp
 | true =>
  obtain ⟨v, a2, s2, e2, _, g3, g4, g5⟩ := of_ev hc a1 s1 [(⟨#[101, 110, 100]⟩ : ByteArray), (⟨#[46]⟩ : ByteArray)] 4 O_ O_ (by decide) (by decide) (by decide)
  refine ⟨x5 ++ [(⟨0, v, (⟨#[]⟩ : ByteArray)⟩ : S120)], a2, s2, by simp, smP_add hp ⟨by show (0 : Int) ≤ 0; omega, by show (0 : Int) ≤ 300; omega, g3, by show (⟨#[]⟩ : ByteArray).size ≤ 300; decide⟩, O_, O_, 1, fun k hk => ?_⟩
  obtain ⟨k, rfl⟩ : ∃ m, k = m + 1 := ⟨k - 1, O_⟩
  simp only [spec_l1Cur_opOn.l0]
  rw [iN_ O_, e1]
  simp only [bs_, if_true]
  rw [e2]
  simp only [bs_]
  rw [ip_ O_]
theorem opOn_first {c : List Int} (t : ByteArray) (ht : t.size ≤ 300) (x5 : List S120) (x6 : Nat) (h6 : x6 < t.size) (a s r1 a1 s1 : Int)
  (e1 : spec_l1Cur_pick.f c a s 5 = some (r1, a1, s1)) (g1 : 0 ≤ r1) (g2 : r1 < 5) :
  ∃ n : Nat, 1 ≤ n ∧ x6 + n ≤ t.size ∧ n ≤ 300 ∧ ∀ k, spec_l1Cur_opOn.l0 (k + 1) t x5 (x6 : Int) c a s = spec_l1Cur_opOn.j1 k t x5 (x6 : Int) (n : Int) c a1 s1 := by
 have w1 : wrap64 (1 + r1) = 1 + r1 := w64 O_ O_
 have w2 : wrap64 ((t.size : Int) - (x6 : Int)) = (t.size : Int) - (x6 : Int) := w64 O_ O_
 have c0 : (x6 : Int) < (t.size : Int) := by omega
 by_cases c1 : 1 + r1 > (t.size : Int) - (x6 : Int)
 ·refine ⟨t.size - x6, O_, O_, O_, fun k => ?_⟩
  have en : ((t.size - x6 : Nat) : Int) = (t.size : Int) - (x6 : Int) := by omega
  rw [en]
  simp only [spec_l1Cur_opOn.l0, ip_ c0, e1, bs_, w1, w2, ip_ c1]
 ·refine ⟨(1 + r1).toNat, O_, O_, O_, fun k => ?_⟩
  have en : (((1 + r1).toNat : Nat) : Int) = 1 + r1 := by omega
  rw [en]
  simp only [spec_l1Cur_opOn.l0, ip_ c0, e1, bs_, w1, w2, iN_ c1]
theorem opOn_put {c : List Int} (t : ByteArray) (x5 : List S120) (hl : x5.length ≤ 1000000000) (x6 x7 a1 s1 a2 s2 r3 a3 s3 : Int)
  (e2 : spec_l1Cur_pick.f c a1 s1 4 = some (1, a2, s2)) (e3 : spec_l1Cur_pick.f c a2 s2 5 = some (r3, a3, s3)) (g3 : 0 ≤ r3) (g4 : r3 < 5) :
  ∃ p, smP p ∧ ∀ k, spec_l1Cur_opOn.j1 (k + 1) t x5 x6 x7 c a1 s1 = spec_l1Cur_opOn.l0 k t (x5 ++ [p]) x6 c a3 s3 := by
 obtain ⟨v, hv, ev⟩ := of_pick (l := [(⟨#[120]⟩ : ByteArray), (⟨#[121, 121]⟩ : ByteArray), (⟨#[65, 47]⟩ : ByteArray), (⟨#[110, 101, 119]⟩ : ByteArray), (⟨#[66]⟩ : ByteArray)]) 5 rfl 4 (by decide) e3 g3 g4
 have c1 : x5.length < 3518437208883 := by omega
 have n0 : ¬ ((1 : Int) = 0) := by omega
 refine ⟨⟨0, v, (⟨#[]⟩ : ByteArray)⟩, ⟨by show (0 : Int) ≤ 0; omega, by show (0 : Int) ≤ 300; omega, hv, by show (⟨#[]⟩ : ByteArray).size ≤ 300; decide⟩, fun k => ?_⟩
 simp only [spec_l1Cur_opOn.j1, e2, bs_, iN_ n0, if_true, ev]
 exact ip_ c1
theorem opOn_go {c : List Int} (t : ByteArray) (ht : t.size ≤ 300) (x5 : List S120) (hl : x5.length ≤ 1000000000) (x6 n : Nat) (n1 : x6 + n ≤ t.size) (a1 s1 r2 a2 s2 : Int)
  (e2 : spec_l1Cur_pick.f c a1 s1 4 = some (r2, a2, s2)) (hr : r2 ≠ 1) :
  ∃ p, smP p ∧ ∀ k, spec_l1Cur_opOn.j1 (k + 1) t x5 (x6 : Int) (n : Int) c a1 s1 = spec_l1Cur_opOn.l0 k t (x5 ++ [p]) ((x6 + n : Nat) : Int) c a2 s2 := by
 have w1 : wrap64 ((x6 : Int) + (n : Int)) = ((x6 + n : Nat) : Int) := by rw [w64 O_ O_]; omega
 have c1 : x5.length < 3518437208883 := by omega
 have c2 : (0 : Int) ≤ (x6 : Int) := by omega
 have c3 : (x6 : Int) ≤ ((x6 + n : Nat) : Int) := by omega
 have c4 : ((x6 + n : Nat) : Int) ≤ (t.size : Int) := by omega
 by_cases h0 : r2 = 0
 ·refine ⟨⟨0, (⟨#[]⟩ : ByteArray), t.extract x6 (x6 + n)⟩, ⟨by show (0 : Int) ≤ 0; omega, by show (0 : Int) ≤ 300; omega, by show (⟨#[]⟩ : ByteArray).size ≤ 4; decide, by show (t.extract x6 (x6 + n)).size ≤ 300; have := ext_size t x6 (x6 + n); omega⟩, fun k => ?_⟩
  simp only [spec_l1Cur_opOn.j1, e2, bs_, ip_ h0, w1, ip_ c2, ip_ c3, ip_ c4, tN_]
  exact ip_ c1
 ·refine ⟨⟨(n : Int), (⟨#[]⟩ : ByteArray), (⟨#[]⟩ : ByteArray)⟩, ⟨by show (0 : Int) ≤ (n : Int); omega, by show (n : Int) ≤ 300; omega, by show (⟨#[]⟩ : ByteArray).size ≤ 4; decide, by show (⟨#[]⟩ : ByteArray).size ≤ 300; decide⟩, fun k => ?_⟩
  simp only [spec_l1Cur_opOn.j1, e2, bs_, iN_ h0, iN_ hr, w1]
  exact ip_ c1
theorem opOn_step {c : List Int} (t : ByteArray) (ht : t.size ≤ 300) (x5 : List S120) (hl : x5.length ≤ 1000000000) (x6 : Nat) (h6 : x6 < t.size) (a s r1 a1 s1 r2 a2 s2 : Int)
  (e1 : spec_l1Cur_pick.f c a s 5 = some (r1, a1, s1)) (g1 : 0 ≤ r1) (g2 : r1 < 5) (e2 : spec_l1Cur_pick.f c a1 s1 4 = some (r2, a2, s2)) :
  (r2 = 1 → ∀ r3 a3 s3 : Int, spec_l1Cur_pick.f c a2 s2 5 = some (r3, a3, s3) → 0 ≤ r3 → r3 < 5 → ∃ p, smP p ∧ ∀ k, spec_l1Cur_opOn.l0 (k + 2) t x5 (x6 : Int) c a s = spec_l1Cur_opOn.l0 k t (x5 ++ [p]) (x6 : Int) c a3 s3) ∧
  (r2 ≠ 1 → ∃ p n, smP p ∧ 1 ≤ n ∧ x6 + n ≤ t.size ∧ ∀ k, spec_l1Cur_opOn.l0 (k + 2) t x5 (x6 : Int) c a s = spec_l1Cur_opOn.l0 k t (x5 ++ [p]) ((x6 + n : Nat) : Int) c a2 s2) := by
 obtain ⟨n, n1, n2, n3, en⟩ := opOn_first t ht x5 x6 h6 a s r1 a1 s1 e1 g1 g2
 constructor
 ·intro hr r3 a3 s3 e3 g3 g4
  subst hr
  obtain ⟨p, p1, p2⟩ := opOn_put t x5 hl (x6 : Int) (n : Int) a1 s1 a2 s2 r3 a3 s3 e2 e3 g3 g4
  exact ⟨p, p1, fun k => (en (k + 1)).trans (p2 k)⟩
 ·intro hr
  obtain ⟨p, p1, p2⟩ := opOn_go t ht x5 hl x6 n n2 a1 s1 r2 a2 s2 e2 hr
  exact ⟨p, n, p1, n1, n2, fun k => (en (k + 1)).trans (p2 k)⟩
theorem opOn_end {c : List Int} (hc : okCode c) (t : ByteArray) (ht : t.size ≤ 300) : ∀ (m : Nat), m ≤ 300 → ∀ (x5 : List S120) (x6 : Nat) (a s : Int), t.size - x6 ≤ m → (c.length : Int) ≤ a → 0 ≤ a → a + (m : Int) * 4718600 ≤ 1900000000000000000 → x5.length + m * 1572870 ≤ 900000000 → (∀ q ∈ x5, smP q) →
  ∃ r a' s', r.length ≤ x5.length + m * 1572870 + 1 ∧ (∀ q ∈ r, smP q) ∧ a ≤ a' ∧ a' ≤ a + (m : Int) * 4718600 + 4 ∧ ∃ K, ∀ k, K ≤ k → spec_l1Cur_opOn.l0 k t x5 (x6 : Int) c a s = some (r, a', s') := by
 intro m
 induction m with
 | zero =>
  intro hm x5 x6 a s hx hla h0 h1 hl hp
  obtain ⟨r, a', s', g1, g2, g3, g4, g5⟩ := opOn_tail hc t ht x5 x6 O_ a s h0 O_ O_ hp
  exact ⟨r, a', s', O_, g2, g3, O_, g5⟩
 | succ m ih =>
  intro hm x5 x6 a s hx hla h0 h1 hl hp
  by_cases h6 : t.size ≤ x6
  ·obtain ⟨r, a', s', g1, g2, g3, g4, g5⟩ := opOn_tail hc t ht x5 x6 h6 a s h0 O_ O_ hp
   exact ⟨r, a', s', O_, g2, g3, O_, g5⟩
  ·have puts : ∀ (n : Nat) (x5 : List S120) (a s : Int), cls (itG n s) ≠ 1 → (c.length : Int) ≤ a → 0 ≤ a → a + (m : Int) * 4718600 + 3 * (n : Int) + 3 ≤ 1900000000000000000 → x5.length + m * 1572870 + n + 1 ≤ 900000000 → (∀ q ∈ x5, smP q) →
     ∃ r a' s', r.length ≤ x5.length + m * 1572870 + n + 2 ∧ (∀ q ∈ r, smP q) ∧ a ≤ a' ∧ a' ≤ a + (m : Int) * 4718600 + 3 * (n : Int) + 7 ∧ ∃ K, ∀ k, K ≤ k → spec_l1Cur_opOn.l0 k t x5 (x6 : Int) c a s = some (r, a', s') := by
    intro n
    induction n with
    | zero =>
     intro x5 a s hn hla h0 h1 hl hp
     have e1 := pick_end (c := c) a s 5 hla h0 O_ O_ O_
     have e2 := pick_end (c := c) (a + 1) (F64 s) 4 O_ O_ O_ O_ O_
     obtain ⟨_, hB⟩ := opOn_step t ht x5 O_ x6 O_ a s _ _ _ _ _ _ e1 O_ O_ e2
     have hn' : cls s ≠ 1 := hn
     obtain ⟨p, n, p1, p2, p3, p4⟩ := hB (by unfold cls at hn'; clear hB; omega)
     clear hB
     obtain ⟨r, a', s', g1, g2, g3, g4, K, g5⟩ := ih O_ (x5 ++ [p]) (x6 + n) (a + 1 + 1) (F64 (F64 s)) O_ O_ O_ O_ (by rw [lA_, lS_]; omega) (smP_add hp p1)
     rw [lA_, lS_] at g1
     refine ⟨r, a', s', O_, g2, O_, O_, K + 2, fun k hk => ?_⟩
     obtain ⟨k, rfl⟩ : ∃ q, k = q + 2 := ⟨k - 2, O_⟩
     rw [p4]
     exact g5 k O_
    | succ n ihn =>
     intro x5 a s hn hla h0 h1 hl hp
     have e1 := pick_end (c := c) a s 5 hla h0 O_ O_ O_
     have e2 := pick_end (c := c) (a + 1) (F64 s) 4 O_ O_ O_ O_ O_
     have e3 := pick_end (c := c) (a + 1 + 1) (F64 (F64 s)) 5 O_ O_ O_ O_ O_
     obtain ⟨hA, hB⟩ := opOn_step t ht x5 O_ x6 O_ a s _ _ _ _ _ _ e1 O_ O_ e2
     by_cases hr : F64 (F64 s) / 1099511627776 % 256 % 4 = 1
     ·obtain ⟨p, p1, p4⟩ := hA hr _ _ _ e3 (by clear hA hB; omega) (by clear hA hB; omega)
      clear hA hB
      obtain ⟨r, a', s', g1, g2, g3, g4, K, g5⟩ := ihn (x5 ++ [p]) (a + 1 + 1 + 1) (F64 (F64 (F64 s))) hn O_ O_ O_ (by rw [lA_, lS_]; omega) (smP_add hp p1)
      rw [lA_, lS_] at g1
      refine ⟨r, a', s', O_, g2, O_, O_, K + 2, fun k hk => ?_⟩
      obtain ⟨k, rfl⟩ : ∃ q, k = q + 2 := ⟨k - 2, O_⟩
      rw [p4]
      exact g5 k O_
     ·obtain ⟨p, n', p1, p2, p3, p4⟩ := hB hr
      clear hA hB
      obtain ⟨r, a', s', g1, g2, g3, g4, K, g5⟩ := ih O_ (x5 ++ [p]) (x6 + n') (a + 1 + 1) (F64 (F64 s)) O_ O_ O_ O_ (by rw [lA_, lS_]; omega) (smP_add hp p1)
      rw [lA_, lS_] at g1
      refine ⟨r, a', s', O_, g2, O_, O_, K + 2, fun k hk => ?_⟩
      obtain ⟨k, rfl⟩ : ∃ q, k = q + 2 := ⟨k - 2, O_⟩
      rw [p4]
      exact g5 k O_
   obtain ⟨n, hn, hn2⟩ := cls_soon s
   obtain ⟨r, a', s', g1, g2, g3, g4, g5⟩ := puts n x5 a s hn2 hla h0 O_ O_ hp
   exact ⟨r, a', s', O_, g2, g3, O_, g5⟩
theorem opOn_l {c : List Int} (hc : okCode c) (t : ByteArray) (ht : t.size ≤ 300) (B m : Nat) (hB : B = 471861001) (hm : m = 300) : ∀ (w : Nat), w ≤ 1048576 → ∀ (x5 : List S120) (x6 : Nat) (a s : Int), (c.length : Int) ≤ a + (w : Int) → 0 ≤ a → a + 3 * (w : Int) ≤ 1700000000000000000 → x5.length + w ≤ 100000000 → (∀ q ∈ x5, smP q) →
  ∃ r a' s', r.length ≤ x5.length + w + B ∧ (∀ q ∈ r, smP q) ∧ a ≤ a' ∧ a' ≤ a + 3 * (w : Int) + 1415580004 ∧ ∃ K, ∀ k, K ≤ k → spec_l1Cur_opOn.l0 k t x5 (x6 : Int) c a s = some (r, a', s') := by
 intro w
 induction w with
 | zero =>
  intro hw x5 x6 a s hla h0 h1 hl hp
  obtain ⟨r, a', s', g1, g2, g3, g4, g5⟩ := opOn_end hc t ht m O_ x5 x6 a s O_ O_ h0 O_ O_ hp
  exact ⟨r, a', s', O_, g2, g3, O_, g5⟩
 | succ w ih =>
  intro hw x5 x6 a s hla h0 h1 hl hp
  by_cases h6 : t.size ≤ x6
  ·obtain ⟨r, a', s', g1, g2, g3, g4, g5⟩ := opOn_tail hc t ht x5 x6 h6 a s h0 O_ O_ hp
   exact ⟨r, a', s', O_, g2, g3, O_, g5⟩
  ·obtain ⟨r1, s1, e1, u1, u2⟩ := pick_evR hc a s 5 h0 O_ O_ O_
   obtain ⟨r2, s2, e2, u3, u4⟩ := pick_evR hc (a + 1) s1 4 O_ O_ O_ O_
   obtain ⟨r3, s3, e3, u5, u6⟩ := pick_evR hc (a + 1 + 1) s2 5 O_ O_ O_ O_
   obtain ⟨hA, hBB⟩ := opOn_step t ht x5 O_ x6 O_ a s _ _ _ _ _ _ e1 u1 u2 e2
   by_cases hr : r2 = 1
   ·obtain ⟨p, p1, p4⟩ := hA hr _ _ _ e3 u5 u6
    clear hA hBB
    obtain ⟨r, a', s', g1, g2, g3, g4, K, g5⟩ := ih O_ (x5 ++ [p]) x6 (a + 1 + 1 + 1) s3 O_ O_ O_ (by rw [lA_, lS_]; omega) (smP_add hp p1)
    rw [lA_, lS_] at g1
    refine ⟨r, a', s', O_, g2, O_, O_, K + 2, fun k hk => ?_⟩
    obtain ⟨k, rfl⟩ : ∃ q, k = q + 2 := ⟨k - 2, O_⟩
    rw [p4]
    exact g5 k O_
   ·obtain ⟨p, n', p1, p2, p3, p4⟩ := hBB hr
    clear hA hBB
    obtain ⟨r, a', s', g1, g2, g3, g4, K, g5⟩ := ih O_ (x5 ++ [p]) (x6 + n') (a + 1 + 1) s2 O_ O_ O_ (by rw [lA_, lS_]; omega) (smP_add hp p1)
    rw [lA_, lS_] at g1
    refine ⟨r, a', s', O_, g2, O_, O_, K + 2, fun k hk => ?_⟩
    obtain ⟨k, rfl⟩ : ∃ q, k = q + 2 := ⟨k - 2, O_⟩
    rw [p4]
    exact g5 k O_
theorem opOn_ev {c : List Int} (hc : okCode c) (hcl : c.length ≤ 1048576) (t : ByteArray) (ht : t.size ≤ 300) (a s : Int) (h0 : 0 ≤ a) (h1 : a ≤ 1600000000000000000) :
  ∃ r a' s', r.length ≤ 500000000 ∧ (∀ q ∈ r, smP q) ∧ a ≤ a' ∧ a' ≤ a + 2000000000 ∧ ∃ K, ∀ k, K ≤ k → spec_l1Cur_opOn.f k c a s t = some (r, a', s') := by
 obtain ⟨w, hw⟩ : ∃ w : Nat, w = 1048576 := ⟨_, rfl⟩
 obtain ⟨B, hB⟩ : ∃ w : Nat, w = 471861001 := ⟨_, rfl⟩
 obtain ⟨m, hm⟩ : ∃ w : Nat, w = 300 := ⟨_, rfl⟩
 have hn : ([] : List S120).length = 0 := rfl
 obtain ⟨r, a', s', g1, g2, g3, g4, K, g5⟩ := opOn_l hc t ht B m hB hm w O_ ([] : List S120) 0 a s O_ h0 O_ O_ (fun q hq => by cases hq)
 refine ⟨r, a', s', O_, g2, g3, O_, K, fun k hk => ?_⟩
 unfold spec_l1Cur_opOn.f
 exact g5 k hk
theorem plainText_ev2 {c : List Int} (hc : okCode c) (a s : Int) (h0 : 0 ≤ a) (h1 : a ≤ 1600000000000000000) :
  ∃ t' a' s', t'.size ≤ 300 ∧ a ≤ a' ∧ a' ≤ a + 2000000300 ∧ ∃ K, ∀ k, K ≤ k → spec_l1Cur_plainText.f k c a s = some (t', a', s') := by
 obtain ⟨t, a1, s1, g1, g2, g3, K, g4⟩ := doc_ev hc a s h0 O_
 obtain ⟨K2, h2⟩ := spec_GoodText_ev t O_
 have lit4 : ((⟨#[116, 101, 120, 116]⟩ : ByteArray)).size = 4 := rfl
 cases hg : textB t with
 | false =>
  refine ⟨(⟨#[116, 101, 120, 116]⟩ : ByteArray), a1, s1, O_, O_, O_, max K K2, fun k hk => ?_⟩
  unfold spec_l1Cur_plainText.f
  rw [g4 k O_]; simp only [bs_]
  rw [h2 k O_, hg]; simp only [bs_]
  rw [iN_ (by simp), iN_ O_]
 | true =>
  by_cases c1 : (t.size : Int) > 40
  ·obtain ⟨r, a2, s2, e2, q1, q2⟩ := one_ev hc a1 s1 20 O_ O_ O_ O_
   cases r with
   | true =>
    refine ⟨t, a2, s2, by have := textB_size hg; omega, O_, O_, max K K2, fun k hk => ?_⟩
    unfold spec_l1Cur_plainText.f
    rw [g4 k O_]; simp only [bs_]
    rw [h2 k O_, hg]; simp only [bs_]
    rw [ip_ trivial, ip_ c1, e2]; simp
   | false =>
    have := ext_size t 0 40
    refine ⟨t.extract 0 40, a2, s2, by have := textB_size hg; omega, O_, O_, max K K2, fun k hk => ?_⟩
    unfold spec_l1Cur_plainText.f
    rw [g4 k O_]; simp only [bs_]
    rw [h2 k O_, hg]; simp only [bs_]
    rw [ip_ trivial, ip_ c1, e2]; simp only [bs_]
    rw [iN_ (by simp), ip_ O_, ip_ O_]
  ·refine ⟨t, a1, s1, by have := textB_size hg; omega, O_, O_, max K K2, fun k hk => ?_⟩
   unfold spec_l1Cur_plainText.f
   rw [g4 k O_]; simp only [bs_]
   rw [h2 k O_, hg]; simp only [bs_]
   rw [ip_ trivial, iN_ c1]
def SmR (r : List S58) : Prop := r.length ≤ 200 ∧ ∀ x ∈ r, x.f2.size ≤ 1048576
theorem SmR_rd {r : List S58} (h : SmR r) (k : Int) : (rd_T58 r k).f2.size ≤ 1048576 := by
 unfold rd_T58
 rw [List.getD_eq_getElem?_getD]
 cases e : r[k.toNat]? with
 | none => exact show (⟨#[]⟩ : ByteArray).size ≤ 1048576 from by decide
 | some x => exact h.2 x (List.mem_of_getElem? e)
theorem GR_SmR {r : List S58} (h : GR r) : SmR r := by
 refine ⟨GR_len h, fun x hx => ?_⟩
 obtain ⟨t, h1, -, -, -, rfl⟩ := h
 rcases h1 with rfl | h1
 ·cases hx
 ·have := (br_mem h1 0 x hx).2.2.2.2
  omega
theorem SmR_set {r : List S58} (h : SmR r) (i : Nat) (v : S58) (hv : v.f2.size ≤ 1048576) : SmR (r.set i v) := by
 refine ⟨by rw [List.length_set]; exact h.1, fun x hx => ?_⟩
 rcases List.mem_or_eq_of_mem_set hx with hx | rfl
 ·exact h.2 x hx
 ·exact hv
theorem rope_j1 {c : List Int} (hc : okCode c) (b : Bool) (a s : Int) (r : List S58) (hr : SmR r) (h0 : 0 ≤ a) (h1 : a ≤ 1600000000000000000) (hb : b = true → 0 < r.length) : ∃ r' a' s', SmR r' ∧ a ≤ a' ∧ a' ≤ a + 10 ∧ ∀ k, 0 < k → spec_l1Cur_rope.j1 k b c a s r = some (r', a', s') := by
 cases b with
 | false =>
  refine ⟨r, a, s, hr, Int.le_refl _, O_, fun k hk => ?_⟩
  obtain ⟨k, rfl⟩ : ∃ m, k = m + 1 := ⟨k - 1, O_⟩
  simp only [spec_l1Cur_rope.j1]
  rw [iN_ (by simp)]
 | true =>
  have hl := hb rfl
  have hl2 := hr.1
  obtain ⟨i, a1, s1, e1, i0, i1, b1, b2⟩ := pick_ev hc a s (r.length : Int) h0 O_ O_ O_
  obtain ⟨j, a2, s2, e2, j0, j1, b3, b4⟩ := pick_ev hc a1 s1 3 O_ O_ O_ O_
  have hf := SmR_rd hr i
  by_cases c0 : j = 0
  ·obtain ⟨m, a3, s3, e3, m0, m1, b5, b6⟩ := pick_ev hc a2 s2 3 O_ O_ O_ O_
   refine ⟨_, a3, s3, SmR_set hr i.toNat (⟨(rd_T58 r i).f0, (rd_T58 r i).f1, (rd_T58 r i).f2, wrap64 (((rd_T58 r i).f3) + (wrap64 (m - 1))), (rd_T58 r i).f4⟩) hf, O_, O_, fun k hk => ?_⟩
   obtain ⟨k, rfl⟩ : ∃ m, k = m + 1 := ⟨k - 1, O_⟩
   simp only [spec_l1Cur_rope.j1]
   rw [ip_ trivial, e1, bs_, e2, bs_, ip_ c0, ip_ i0, ip_ i1, e3, bs_]
  ·by_cases c1 : j = 1
   ·obtain ⟨m, a3, s3, e3, m0, m1, b5, b6⟩ := pick_ev hc a2 s2 5 O_ O_ O_ O_
    refine ⟨_, a3, s3, SmR_set hr i.toNat (⟨wrap64 (m - 1), (rd_T58 r i).f1, (rd_T58 r i).f2, (rd_T58 r i).f3, (rd_T58 r i).f4⟩) hf, O_, O_, fun k hk => ?_⟩
    obtain ⟨k, rfl⟩ : ∃ m, k = m + 1 := ⟨k - 1, O_⟩
    simp only [spec_l1Cur_rope.j1]
    rw [ip_ trivial, e1, bs_, e2, bs_, iN_ c0, ip_ c1, e3, bs_, ip_ i0, ip_ i1]
   ·refine ⟨_, a2, s2, SmR_set hr i.toNat (⟨(rd_T58 r i).f0, (rd_T58 r i).f1, (rd_T58 r i).f2, (rd_T58 r i).f3, wrap64 (((rd_T58 r i).f4) + 1)⟩) hf, O_, O_, fun k hk => ?_⟩
    obtain ⟨k, rfl⟩ : ∃ m, k = m + 1 := ⟨k - 1, O_⟩
    simp only [spec_l1Cur_rope.j1]
    rw [ip_ trivial, e1, bs_, e2, bs_, iN_ c0, iN_ c1, ip_ i0, ip_ i1]
theorem GR_size {r : List S58} (h : GR r) : ∃ z : Int, 0 ≤ z ∧ z ≤ 300 ∧ spec_l12Size.f r = some z := by
 obtain ⟨t, h1, h2, h3, h4, rfl⟩ := h
 refine ⟨t.size, h3, h4, ?_⟩
 rcases h1 with rfl | h1
 ·rfl
 ·exact Size_ev h1 O_
theorem GR_text {r : List S58} (h : GR r) : ∃ s, s.size ≤ 300 ∧ ∀ k, 1000 ≤ k → spec_l12Text.f k r = some s := by
 have hl := GR_len h
 obtain ⟨t, h1, h2, h3, h4, rfl⟩ := h
 have hp := pcR_good h1
 rw [bo_nil] at hp
 have hb := pcs_bdN h1
 have hz := tx_psz (pcs t)
 refine ⟨tx (pcs t), O_, fun k hk => ?_⟩
 have := Text_ev (br t 0) O_ (by rw [hp]; omega) (by rw [hp]; omega) k O_ (by rw [hp]; omega)
 rw [hp] at this
 exact this
theorem smP_small {op : List S120} (h : op.length ≤ 500000000) (h2 : ∀ q ∈ op, smP q) : smallL op :=
 ⟨O_, fun q hq => by have := h2 q hq; exact ⟨by have := this.2.2.1; omega, by have := this.2.2.2; omega⟩⟩
theorem rope_l0 {c : List Int} (hc : okCode c) (hcl : c.length ≤ 1048576) : ∀ n : Nat, n ≤ 5 → ∀ (a s : Int) (r : List S58), GR r → 0 ≤ a → a + (n : Int) * 3000000000 ≤ 1500000000000000000 → ∃ r' a' s', SmR r' ∧ a ≤ a' ∧ a' ≤ a + (n : Int) * 3000000000 + 100 ∧ ∃ K, ∀ k, K ≤ k → spec_l1Cur_rope.l0 k (n : Int) c a s r = some (r', a', s') := by
 intro n
 induction n with
 | zero =>
  intro hn a s r hr h0 h1
  by_cases hl : (r.length : Int) > 0
  ·obtain ⟨b, a1, s1, e1, b1, b2⟩ := one_ev hc a s 20 h0 O_ O_ O_
   obtain ⟨r', a', s', g1, g2, g3, g4⟩ := rope_j1 hc b a1 s1 r (GR_SmR hr) O_ O_ (fun _ => by omega)
   refine ⟨r', a', s', g1, O_, O_, 2, fun k hk => ?_⟩
   obtain ⟨k, rfl⟩ : ∃ m, k = m + 1 := ⟨k - 1, O_⟩
   simp only [spec_l1Cur_rope.l0]
   rw [iN_ O_, ip_ hl, e1, bs_, g4 k O_]
  ·obtain ⟨r', a', s', g1, g2, g3, g4⟩ := rope_j1 hc false a s r (GR_SmR hr) O_ O_ (fun h => by cases h)
   refine ⟨r', a', s', g1, O_, O_, 2, fun k hk => ?_⟩
   obtain ⟨k, rfl⟩ : ∃ m, k = m + 1 := ⟨k - 1, O_⟩
   simp only [spec_l1Cur_rope.l0]
   rw [iN_ O_, iN_ hl, g4 k O_]
 | succ n ih =>
  intro hn a s r hr h0 h1
  have hw : wrap64 (((n + 1 : Nat) : Int) - 1) = (n : Int) := by rw [w64 O_ O_]; omega
  obtain ⟨j, a1, s1, e1, j0, j1, b1, b2⟩ := pick_ev hc a s 3 h0 O_ O_ O_
  by_cases c0 : j = 0
  ·obtain ⟨t, a2, s2, t1, t2, t3, K1, k1⟩ := plainText_ev2 hc a1 s1 O_ O_
   obtain ⟨y, K2, y1, y2⟩ := RopeOf_GR t O_
   obtain ⟨x, K3, x1, x2⟩ := Join_GR hr y1
   cases hx : x.2 with
   | true =>
    obtain ⟨r', a', s', g1, g2, g3, K4, g4⟩ := ih O_ a2 s2 x.1 x1 O_ O_
    refine ⟨r', a', s', g1, O_, O_, K1 + K2 + K3 + K4 + 1, fun k hk => ?_⟩
    obtain ⟨k, rfl⟩ : ∃ m, k = m + 1 := ⟨k - 1, O_⟩
    simp only [spec_l1Cur_rope.l0]
    rw [ip_ O_, e1, bs_, ip_ c0, k1 k O_, bs_, y2 k O_, bs_, x2 k O_, bs_, ip_ hx, hw, g4 k O_]
   | false =>
    obtain ⟨r', a', s', g1, g2, g3, K4, g4⟩ := ih O_ a2 s2 r hr O_ O_
    refine ⟨r', a', s', g1, O_, O_, K1 + K2 + K3 + K4 + 1, fun k hk => ?_⟩
    obtain ⟨k, rfl⟩ : ∃ m, k = m + 1 := ⟨k - 1, O_⟩
    simp only [spec_l1Cur_rope.l0]
    rw [ip_ O_, e1, bs_, ip_ c0, k1 k O_, bs_, y2 k O_, bs_, x2 k O_, bs_, iN_ (by rw [hx]; simp), hw, g4 k O_]
  ·by_cases c1 : j = 1
   ·obtain ⟨z, z0, z1, z2⟩ := GR_size hr
    obtain ⟨i, a2, s2, e2, i0, i1, b3, b4⟩ := pick_ev hc a1 s1 (z + 1) O_ O_ O_ O_
    obtain ⟨x, K3, x0, x1, x2, -⟩ := SplitRope_full r i (GR_sz hr) (by have := GR_len hr; omega)
    have hz : wrap64 (z + 1) = z + 1 := w64 O_ O_
    cases hx : x.2.2 with
    | true =>
     obtain ⟨r', a', s', g1, g2, g3, K4, g4⟩ := ih O_ a2 s2 x.2.1 x1 O_ O_
     refine ⟨r', a', s', g1, O_, O_, K3 + K4 + 1, fun k hk => ?_⟩
     obtain ⟨k, rfl⟩ : ∃ m, k = m + 1 := ⟨k - 1, O_⟩
     simp only [spec_l1Cur_rope.l0]
     rw [ip_ O_, e1, bs_, iN_ c0, ip_ c1, z2, bs_, hz, e2, bs_, (x2 k O_).1, bs_, ip_ hx, hw, g4 k O_]
    | false =>
     obtain ⟨r', a', s', g1, g2, g3, K4, g4⟩ := ih O_ a2 s2 r hr O_ O_
     refine ⟨r', a', s', g1, O_, O_, K3 + K4 + 1, fun k hk => ?_⟩
     obtain ⟨k, rfl⟩ : ∃ m, k = m + 1 := ⟨k - 1, O_⟩
     simp only [spec_l1Cur_rope.l0]
     rw [ip_ O_, e1, bs_, iN_ c0, ip_ c1, z2, bs_, hz, e2, bs_, (x2 k O_).1, bs_, iN_ (by rw [hx]; simp), hw, g4 k O_]
   ·obtain ⟨t, t1, t2⟩ := GR_text hr
    obtain ⟨op, a2, s2, o1, o2, o3, o4, K1, k1⟩ := opOn_ev hc hcl t t1 a1 s1 O_ O_
    obtain ⟨x, K3, x1, x2, -, -⟩ := EditRope_full r op (GR_sz hr) (by have := GR_len hr; omega) (smP_small o1 o2)
    cases hx : x.2 with
    | true =>
     obtain ⟨r', a', s', g1, g2, g3, K4, g4⟩ := ih O_ a2 s2 x.1 x1 O_ O_
     refine ⟨r', a', s', g1, O_, O_, 1000 + K1 + K3 + K4 + 1, fun k hk => ?_⟩
     obtain ⟨k, rfl⟩ : ∃ m, k = m + 1 := ⟨k - 1, O_⟩
     simp only [spec_l1Cur_rope.l0]
     rw [ip_ O_, e1, bs_, iN_ c0, iN_ c1, t2 k O_, bs_, k1 k O_, bs_, (x2 k O_).1, bs_, ip_ hx, hw, g4 k O_]
    | false =>
     obtain ⟨r', a', s', g1, g2, g3, K4, g4⟩ := ih O_ a2 s2 r hr O_ O_
     refine ⟨r', a', s', g1, O_, O_, 1000 + K1 + K3 + K4 + 1, fun k hk => ?_⟩
     obtain ⟨k, rfl⟩ : ∃ m, k = m + 1 := ⟨k - 1, O_⟩
     simp only [spec_l1Cur_rope.l0]
     rw [ip_ O_, e1, bs_, iN_ c0, iN_ c1, t2 k O_, bs_, k1 k O_, bs_, (x2 k O_).1, bs_, iN_ (by rw [hx]; simp), hw, g4 k O_]
theorem rope_ev {c : List Int} (hc : okCode c) (hcl : c.length ≤ 1048576) (a s : Int) (h0 : 0 ≤ a) (h1 : a ≤ 1000000000000000000) : ∃ r a' s', SmR r ∧ a ≤ a' ∧ a' ≤ a + 100000000000 ∧ ∃ K, ∀ k, K ≤ k → spec_l1Cur_rope.f k c a s = some (r, a', s') := by
 obtain ⟨t, a1, s1, t1, t2, t3, K1, k1⟩ := plainText_ev2 hc a s h0 O_
 obtain ⟨y, K2, y1, y2⟩ := RopeOf_GR t O_
 obtain ⟨j, a2, s2, e2, j0, j1, b3, b4⟩ := pick_ev hc a1 s1 5 O_ O_ O_ O_
 obtain ⟨n, rfl⟩ : ∃ n : Nat, j = (n : Int) := ⟨j.toNat, O_⟩
 obtain ⟨r', a', s', g1, g2, g3, K4, g4⟩ := rope_l0 hc hcl n O_ a2 s2 y.1 y1 O_ O_
 refine ⟨r', a', s', g1, O_, O_, K1 + K2 + K4, fun k hk => ?_⟩
 unfold spec_l1Cur_rope.f
 rw [k1 k O_, bs_, y2 k O_, bs_, e2, bs_, g4 k O_]
theorem pcs_bal : ∀ (d : Nat) (ps : List ByteArray), ps.length ≤ d → (∀ p ∈ ps, gp p) → pcs (bal d ps) = ps := by
 intro d
 induction d with
 | zero =>
  intro ps hd hg
  have e : ps = [] := List.length_eq_zero_iff.1 O_
  subst e
  rfl
 | succ d ih =>
  intro ps hd hg
  have hB : bal (d + 1) ps = if ps.length = 0 then .nil else (if ps.length = 1 then lf (rdOf ByteArray.empty ps 0) else fk (bal d (ps.take ((ps.length + 1) / 2))) (bal d (ps.drop ((ps.length + 1) / 2)))) := rfl
  rw [hB]
  by_cases h0 : ps.length = 0
  ·have e : ps = [] := List.length_eq_zero_iff.1 h0
   subst e
   rfl
  ·rw [iN_ h0]
   by_cases h1 : ps.length = 1
   ·rw [ip_ h1]
    obtain ⟨p, e⟩ := List.length_eq_one_iff.1 h1
    subst e
    have h := hg p (List.mem_singleton.2 rfl)
    show pcs (lf p) = [p]
    unfold lf
    rw [iN_ (fun c => by rw [tl_nil] at c; have := h.1; omega)]
    rfl
   ·rw [iN_ h1, pcs_fk, ih _ (by rw [List.length_take]; omega) (fun p hp => hg p (List.mem_of_mem_take hp)), ih _ (by rw [List.length_drop]; omega) (fun p hp => hg p (List.mem_of_mem_drop hp)), List.take_append_drop]
theorem impl_GoodRope_ev (l : List S58) (hS : ∀ k : Int, (rd_T58 l k).f2.size ≤ 1048576) : ∃ K, ∀ k, K ≤ k → impl_GoodRope.f k l = some (goodR l) := by
 obtain ⟨K, t, h, -, -⟩ := opnF_ev l hS
 refine ⟨K, fun k hk => ?_⟩
 unfold impl_GoodRope.f
 rw [h k hk]; rfl
theorem nil_of {s : ByteArray} (h : s.toList = []) : s = ⟨#[]⟩ := ba_of_toList (h.trans (show (⟨#[]⟩ : ByteArray).toList = [] from tl_nil.2 rfl).symm)
theorem chunks_tx : ∀ (k : Nat) (s : ByteArray) (x r : List ByteArray), impl_chunks.l0 k s x = some r → tx r = tx x ++ s
 | 0, s, x, r, h => by simp [impl_chunks.l0] at h
 | k + 1, s, x, r, h => by
  simp only [impl_chunks.l0] at h
  by_cases h8 : (s.size : Int) > 8
  ·rw [ip_ h8, ip_ O_, ip_ O_] at h
   by_cases hl : x.length < 8796093022208
   ·rw [ip_ hl] at h
    rw [chunks_tx k _ _ r h, tx_app, tx_one]
    have hc : s.extract 0 8 ++ s.extract 8 s.size = s := by rw [ba_extract_add s 0 8 s.size O_ O_, ba_extract_all]
    rw [ba_assoc, hc]
   ·rw [iN_ hl] at h; cases h
  ·rw [iN_ h8] at h
   by_cases h0 : s.toList = []
   ·rw [ip_ h0] at h
    obtain rfl := Option.some.inj h
    have hz : s = ⟨#[]⟩ := nil_of h0
    rw [hz, ba_append_nil]
   ·rw [iN_ h0] at h
    by_cases hl : x.length < 8796093022208
    ·rw [ip_ hl] at h
     obtain rfl := Option.some.inj h
     rw [tx_app, tx_one]
    ·rw [iN_ hl] at h; cases h
theorem spec_GoodText_evR (s : ByteArray) (hs : s.size ≤ 140737488351232) : ∃ K, ∀ k, K ≤ k → spec_GoodText.f k s = some (textB s) := by
 obtain ⟨K, hK⟩ := spec_l1Text_ev s hs
 refine ⟨K, fun k hk => ?_⟩
 unfold spec_GoodText.f textB
 rw [hK k hk, bs_]
 cases okN s s.size 0
 ·rfl
 ·rw [ip_ rfl, Bool.true_and]
  congr 1
  exact decide_eq_decide.2 O_
theorem ex_l {A B : ByteArray} {a b : Nat} (h : b ≤ A.size) : (A ++ B).extract a b = A.extract a b := by
 apply ba_ext
 simp only [ByteArray.data_extract, Array.toList_extract, List.extract_eq_take_drop, ba_dl]
 have hz : A.data.toList.length = A.size := Array.length_toList
 by_cases h1 : a ≤ A.size
 ·rw [List.drop_append_of_le_length O_, List.take_append_of_le_length (by rw [List.length_drop]; omega)]
 ·rw [show b - a = 0 from by omega]
  rfl
theorem ex_r {A B : ByteArray} {a b : Nat} (h : A.size ≤ a) : (A ++ B).extract a b = B.extract (a - A.size) (b - A.size) := by
 apply ba_ext
 simp only [ByteArray.data_extract, Array.toList_extract, List.extract_eq_take_drop, ba_dl]
 have hz : A.data.toList.length = A.size := Array.length_toList
 rw [show b - A.size - (a - A.size) = b - a from by omega]
 obtain ⟨n, rfl⟩ : ∃ n, a = A.data.toList.length + n := ⟨a - A.size, O_⟩
 rw [List.drop_append, List.drop_of_length_le O_, List.nil_append, show A.data.toList.length + n - A.data.toList.length = n from by omega, show A.data.toList.length + n - A.size = n from by omega]
theorem bya_tx : ∀ {t : Limb}, Gt t → cnt t ≤ 1000 → ∀ a c : Int, 0 ≤ a → a < t.size → 0 ≤ c → c + t.deep ≤ 100000 → ∃ x c', bya t a c = some (x, c') ∧ x = (tx (pcs t)).extract a.toNat (a.toNat + 1) ∧ c' ≤ c + t.deep
 | .node l r s n d, h, hc, a, c, ha, hb, hc0, hcd => by
  rcases h with ⟨rfl, rfl, h1, h8, ho, rfl, rfl⟩ | ⟨hl, hr, rfl, rfl, rfl⟩
  ·have hb' : a < (s.size : Int) := hb
   refine ⟨s.extract a.toNat (a + 1).toNat, c, ?_, ?_, Int.le_of_eq (Int.add_zero c).symm⟩
   ·unfold bya
    rw [ip_ (show Limb.nil.isNil = true from rfl), ip_ ⟨ha, hb', O_⟩]
   ·show _ = (tx [s]).extract _ _
    rw [tx_one, show (a + 1).toNat = a.toNat + 1 from by omega]
  ·have b1 := Gt_bd hl
   have b2 := Gt_bd hr
   have hcf : cnt (.node l r ⟨#[]⟩ (l.size + r.size) (1 + max l.deep r.deep)) = cnt l + cnt r + 1 := cnt_fork (Gt_nil hl)
   have hb' : a < l.size + r.size := hb
   have hcd' : c + (1 + max l.deep r.deep) ≤ 100000 := hcd
   have hp : pcs (.node l r ⟨#[]⟩ (l.size + r.size) (1 + max l.deep r.deep)) = pcs l ++ pcs r := by
    show (if l.isNil = true then _ else _) = _
    rw [Gt_nil hl, iN_ (by simp)]
   have hz := (pcs_bd hl).1
   have hsz := tx_psz (pcs l)
   rw [hp, tx_app]
   unfold bya
   rw [Gt_nil hl, iN_ (by simp), w64 O_ O_]
   by_cases c1 : a < l.size
   ·rw [ip_ c1]
    obtain ⟨x, c', e1, e2, e3⟩ := bya_tx hl O_ a (c + 1) ha c1 O_ O_
    refine ⟨x, c', e1, ?_, by show c' ≤ c + (1 + max l.deep r.deep); omega⟩
    rw [ex_l O_]
    exact e2
   ·rw [iN_ c1, w64 O_ O_]
    obtain ⟨x, c', e1, e2, e3⟩ := bya_tx hr O_ (a - l.size) (c + 1) O_ O_ O_ O_
    refine ⟨x, c', e1, ?_, by show c' ≤ c + (1 + max l.deep r.deep); omega⟩
    rw [ex_r O_, e2, show (a - l.size).toNat = a.toNat - (tx (pcs l)).size from by omega, show a.toNat + 1 - (tx (pcs l)).size = a.toNat - (tx (pcs l)).size + 1 from by omega]
theorem Byte_GR {t : Limb} (h : GtN t) (hc : cnt t ≤ 200) (hz0 : 0 ≤ t.size) (hz : t.size ≤ 300) (a : Int) (h0 : 0 ≤ a) (h1 : a < t.size) : ∃ x c' K, (∀ m, K ≤ m → impl_ByteAt.f m (br t 0) a = some (x, c', true)) ∧ x = (tx (pcs t)).extract a.toNat (a.toNat + 1) ∧ 0 < (br t 0).length ∧ c' ≤ (rd_T58 (br t 0) (((br t 0).length : Int) - 1)).f4 + 1 ∧ 0 ≤ (rd_T58 (br t 0) (((br t 0).length : Int) - 1)).f4 ∧ (rd_T58 (br t 0) (((br t 0).length : Int) - 1)).f4 ≤ 1000 := by
 have gd : goodR (br t 0) = true := GR_good ⟨t, h, hc, hz0, hz, rfl⟩
 obtain ⟨K, t', k1, k2⟩ := open_ev (br t 0) (br_szN h)
 obtain ⟨e, ht', g1, g2, g3, g4⟩ := k2 gd
 have hp : pcs t' = pcs t := by
  have a := pcR_good ht'
  have b := pcR_good h
  rw [bo_nil] at b
  rw [← e] at a
  exact a.symm.trans b
 rw [bo_nil] at e
 have z1 := (pcs_bdN ht').1
 have z2 := (pcs_bdN h).1
 rw [hp] at z1
 have hlen := br_length t' 0
 rcases ht' with rfl | ht'
 ·have : (Limb.nil).size = 0 := rfl
  omega
 have b1 := Gt_bd ht'
 obtain ⟨x, c', e1, e2, e3⟩ := bya_tx ht' O_ a 1 h0 O_ O_ O_
 have hr := (rd_root ht' (cnt t' - 1) O_).2
 refine ⟨x, c', K, fun m hm => ?_, by rw [e2, hp], by rw [e, hlen]; omega, ?_, ?_, ?_⟩
 ·unfold impl_ByteAt.f
  rw [k1 m hm, gd, bs_, iN_ (by simp), Gt_nil ht', iN_ (by simp), iN_ O_, iN_ (show ¬ t'.size ≤ a by omega), e1, bs_]
 all_goals
  rw [e, hlen, show ((cnt t' : Nat) : Int) - 1 = ((cnt t' - 1 : Nat) : Int) from by omega, hr]
  omega
theorem RopeOf_full (s : ByteArray) (hs : s.size ≤ 2000000000) : ∃ r K, (∀ m, K ≤ m → spec_RopeOf.f m s = some r ∧ impl_RopeOf.f m s = some r) ∧ (r.2 = true → ∃ t, r.1 = br t 0 ∧ GtN t ∧ cnt t ≤ 200 ∧ 0 ≤ t.size ∧ t.size ≤ 300 ∧ tx (pcs t) = s) := by
 obtain ⟨K1, h1⟩ := spec_GoodText_evR s O_
 obtain ⟨K2, h2⟩ := impl_GoodText_ev s O_
 cases hg : textB s with
 | false =>
  refine ⟨([], false), K1 + K2, fun m hm => ⟨?_, ?_⟩, fun h => by cases h⟩
  ·unfold spec_RopeOf.f
   rw [h1 _ O_, hg, bs_, iN_ (by simp)]
  ·unfold impl_RopeOf.f
   rw [h2 _ O_, hg, bs_, iN_ (by simp)]
 | true =>
  have hz := textB_size hg
  have ho : okN s s.size 0 = true := by
   unfold textB at hg
   rw [Bool.and_eq_true] at hg
   exact hg.1
  obtain ⟨ps, h3, h4, h5, h6⟩ := Cut_ev s O_ ho
  obtain ⟨K3, h7⟩ := Build_ev ps.length ps (Nat.le_refl _) O_ h4
  obtain ⟨c1, -, c3, c4⟩ := bal_ok ps.length ps (Nat.le_refl _) O_ h4
  have htx : tx (pcs (bal ps.length ps)) = s := by
   rw [pcs_bal ps.length ps (Nat.le_refl _) h4]
   have h := (h3 (s.size + 1) O_).2
   unfold impl_chunks.f at h
   have := chunks_tx _ _ _ _ h
   rw [this]
   show (⟨#[]⟩ : ByteArray) ++ s = s
   apply ba_ext
   rw [ba_dl]
   rfl
  refine ⟨(br (bal ps.length ps) 0, true), K1 + K2 + K3 + s.size + 1, fun m hm => ⟨?_, ?_⟩, fun _ => ⟨_, rfl, c1, O_, O_, O_, htx⟩⟩
  ·unfold spec_RopeOf.f
   rw [h1 _ O_, hg, bs_, ip_ rfl, (h3 m O_).1, bs_, h7 m O_, bs_]
  ·unfold impl_RopeOf.f
   rw [h2 _ O_, hg, bs_, ip_ rfl, (h3 m O_).2, bs_, ip_ O_, ropeF_ev c1 O_ O_, ip_ ⟨O_, O_⟩]
theorem Join_full (l u : List S58) (hS : ∀ k : Int, (rd_T58 l k).f2.size ≤ 1048576) (hl : l.length ≤ 1048576) (hT : ∀ k : Int, (rd_T58 u k).f2.size ≤ 1048576) (hu : u.length ≤ 1048576) : ∃ r K, (∀ m, K ≤ m → spec_JoinRopes.f m l u = some r ∧ impl_JoinRopes.f m l u = some r) ∧ (r.2 = false → r.1 = []) ∧ (r.2 = true → ∃ t v, l = br t 0 ∧ u = br v 0 ∧ r.1 = br (fk t v) 0 ∧ GtN t ∧ cnt t ≤ 200 ∧ 0 ≤ t.size ∧ t.size ≤ 300 ∧ GtN v ∧ cnt v ≤ 200 ∧ 0 ≤ v.size ∧ v.size ≤ 300 ∧ GtN (fk t v) ∧ cnt (fk t v) ≤ 200 ∧ 0 ≤ (fk t v).size ∧ (fk t v).size ≤ 300) := by
 obtain ⟨K1, h1⟩ := spec_GoodRope_ev l hS hl
 obtain ⟨K2, t, h2, h3⟩ := open_ev l hS
 obtain ⟨K3, h4⟩ := spec_GoodRope_ev u hT hu
 obtain ⟨K4, v, h5, h6⟩ := open_ev u hT
 cases hg : goodR l with
 | false =>
  refine ⟨([], false), K1 + K2 + K3 + K4 + 1, fun m hm => ⟨?_, ?_⟩, fun _ => rfl, fun h => by cases h⟩
  ·obtain ⟨m, rfl⟩ : ∃ j, m = j + 1 := ⟨m - 1, O_⟩
   unfold spec_JoinRopes.f
   rw [h1 _ O_, hg, bs_, iN_ (by simp)]
   simp only [spec_JoinRopes.j0, if_true]
  ·unfold impl_JoinRopes.f
   rw [h2 _ O_, hg, bs_, h5 _ O_, bs_, iN_ (by simp)]
 | true =>
  cases hh : goodR u with
  | false =>
   refine ⟨([], false), K1 + K2 + K3 + K4 + 1, fun m hm => ⟨?_, ?_⟩, fun _ => rfl, fun h => by cases h⟩
   ·obtain ⟨m, rfl⟩ : ∃ j, m = j + 1 := ⟨m - 1, O_⟩
    unfold spec_JoinRopes.f
    rw [h1 _ O_, hg, bs_, ip_ rfl, h4 _ O_, hh, bs_]
    simp only [spec_JoinRopes.j0, Bool.not_false, if_true]
   ·unfold impl_JoinRopes.f
    rw [h2 _ O_, hg, bs_, h5 _ O_, hh, bs_, ip_ rfl, iN_ (by simp)]
  | true =>
   obtain ⟨e, ht, g1, g2, g3, g4⟩ := h3 hg
   obtain ⟨e', ht', g1', g2', g3', g4'⟩ := h6 hh
   rw [bo_nil] at e e'
   obtain ⟨f1, f2, f3⟩ := fk_GtN ht ht' O_
   have fc : cnt (fk t v) ≤ 401 := by
    rcases ht with rfl | ht
    ·show cnt v ≤ 401; omega
    ·rcases ht' with rfl | ht'
     ·rw [fk_nil]; omega
     ·rw [f3 ht ht']; omega
   have fl := br_length (fk t v) 0
   have hj := join_ev t v ht ht' O_
   rw [← e, ← e'] at hj
   obtain ⟨K5, h7⟩ := spec_GoodRope_ev (br (fk t v) 0) (br_szN f1) O_
   rw [goodR_br f1] at h7
   refine ⟨if cnt (fk t v) ≤ 200 ∧ (fk t v).size ≤ 300 then (br (fk t v) 0, true) else ([], false), K1 + K2 + K3 + K4 + K5 + 1000, fun m hm => ⟨?_, ?_⟩, fun h => ?_, fun h => ?_⟩
   ·obtain ⟨m, rfl⟩ : ∃ j, m = j + 1 := ⟨m - 1, O_⟩
    unfold spec_JoinRopes.f
    rw [h1 _ O_, hg, bs_, ip_ rfl, h4 _ O_, hh, bs_]
    simp only [spec_JoinRopes.j0]
    rw [iN_ (by simp), bs_, hj m O_, bs_, ip_ (by rw [List.length_nil]; omega), bs_, List.nil_append, h7 m O_, bs_]
    by_cases c1 : cnt (fk t v) ≤ 200
    ·by_cases c2 : (fk t v).size ≤ 300
     ·rw [decide_eq_true c1, decide_eq_true c2, Bool.and_self, ip_ rfl, ip_ ⟨c1, c2⟩]
     ·rw [decide_eq_false c2, Bool.and_false, iN_ (by simp), iN_ (fun h => c2 h.2)]
    ·rw [decide_eq_false c1, Bool.false_and, iN_ (by simp), iN_ (fun h => c1 h.1)]
   ·unfold impl_JoinRopes.f
    rw [h2 _ O_, hg, bs_, h5 _ O_, hh, bs_, ip_ rfl, ip_ rfl]
    show ropeF (fk t v) = _
    exact ropeF_ev f1 O_ O_
   ·by_cases c : cnt (fk t v) ≤ 200 ∧ (fk t v).size ≤ 300
    ·rw [ip_ c] at h; cases h
    ·rw [iN_ c]
   ·by_cases c : cnt (fk t v) ≤ 200 ∧ (fk t v).size ≤ 300
    ·exact ⟨t, v, e, e', by rw [ip_ c], ht, O_, g4, g3, ht', O_, g4', g3', f1, c.1, O_, c.2⟩
    ·rw [iN_ c] at h; cases h
theorem num_l (l : List Int) (hl : l.length ≤ 1048576) (hb : okCode l) : ∀ (d i : Nat), i + d = l.length → ∀ x : Int, 0 ≤ x → x ≤ 1000003 → ∀ k, d < k → ∃ y, 0 ≤ y ∧ laws_numberOf.l0 k x l (l.length : Int) (i : Int) = some y := by
 intro d
 induction d with
 | zero =>
  intro i hi x h0 h1 k hk
  obtain ⟨k, rfl⟩ : ∃ m, k = m + 1 := ⟨k - 1, O_⟩
  simp only [laws_numberOf.l0]
  rw [iN_ O_]
  exact ⟨x, h0, rfl⟩
 | succ d ih =>
  intro i hi x h0 h1 k hk
  obtain ⟨k, rfl⟩ : ∃ m, k = m + 1 := ⟨k - 1, O_⟩
  have hr := hb.rd (i : Int)
  simp only [laws_numberOf.l0]
  rw [ip_ O_, ip_ O_, ip_ O_, w64 (i := 31 * x) O_ O_, w64 (i := rd l (i : Int)) O_ O_, w64 O_ O_, w64 O_ O_, show (i : Int) + 1 = ((i + 1 : Nat) : Int) from by omega]
  have e : Int.tmod (31 * x + rd l (i : Int)) 1000003 = (31 * x + rd l (i : Int)) % 1000003 := Int.tmod_eq_emod_of_nonneg O_
  rw [e]
  exact ih (i + 1) O_ _ O_ O_ k O_
theorem ropes_j1 {c : List Int} (hc : okCode c) (hcl : c.length ≤ 1048576) : ∃ K, ∀ k, K ≤ k → laws_FnRopes.j1 k c = some true := by
 obtain ⟨r, a1, s1, g1, g2, g3, K1, k1⟩ := rope_ev hc hcl 0 0 O_ O_
 obtain ⟨u, a2, s2, u1, u2, u3, K2, k2⟩ := rope_ev hc hcl a1 s1 O_ O_
 obtain ⟨x, K3, x1, x2, x3⟩ := Join_full r u (SmR_rd g1) (by have := g1.1; omega) (SmR_rd u1) (by have := u1.1; omega)
 have hd : ∀ k, K1 + K2 ≤ k → spec_DrawJoinRopes.f k c = some (r, u) := fun k hk => by
  unfold spec_DrawJoinRopes.f
  rw [k1 k O_, bs_, k2 k O_, bs_]
 cases hx : x.2 with
 | false =>
  refine ⟨K1 + K2 + K3 + 1, fun k hk => ?_⟩
  obtain ⟨k, rfl⟩ : ∃ m, k = m + 1 := ⟨k - 1, O_⟩
  simp only [laws_FnRopes.j1]
  rw [hd k O_, bs_, (x1 k O_).2, bs_, (x1 k O_).1, bs_, bne_self_eq_false, iN_ (by simp), iN_ (by rw [hx]; simp), x2 hx]
  rfl
 | true =>
  obtain ⟨t, v, rfl, rfl, e, t1, t2, t3, t4, v1, v2, v3, v4, f1, f2, f3, f4⟩ := x3 hx
  obtain ⟨K4, h4⟩ := TextIn_GR t1 t2 t3 t4
  obtain ⟨K5, h5⟩ := TextIn_GR v1 v2 v3 v4
  obtain ⟨K6, h6⟩ := TextIn_GR f1 f2 f3 f4
  obtain ⟨K7, h7⟩ := impl_GoodRope_ev (br (fk t v) 0) (br_szN f1)
  rw [GR_good ⟨_, f1, f2, f3, f4, rfl⟩] at h7
  have z1 := (pcs_bdN t1).1
  have z2 := (pcs_bdN v1).1
  have y1 := tx_psz (pcs t)
  have y2 := tx_psz (pcs v)
  refine ⟨K1 + K2 + K3 + K4 + K5 + K6 + K7 + 1, fun k hk => ?_⟩
  obtain ⟨k, rfl⟩ : ∃ m, k = m + 1 := ⟨k - 1, O_⟩
  simp only [laws_FnRopes.j1]
  rw [hd k O_, bs_, (x1 k O_).2, bs_, (x1 k O_).1, bs_, bne_self_eq_false, iN_ (by simp), ip_ hx, h4 k O_, bs_, h5 k O_, bs_, e, h6 k O_, bs_, ip_ rfl, ip_ rfl, ip_ rfl, ip_ (show (tx (pcs t)).size + (tx (pcs v)).size ≤ 9223372036854775807 by omega), ip_ (show (tx (pcs (fk t v))).toList = (tx (pcs t) ++ tx (pcs v)).toList by rw [pcs_fk, tx_app]), h7 k O_, bs_]
theorem ropes_j0 {c : List Int} (hc : okCode c) (hcl : c.length ≤ 1048576) {t : Limb} (h : GtN t) (h2 : cnt t ≤ 200) (h3 : 0 ≤ t.size) (h4 : t.size ≤ 300) : ∃ K, ∀ k, K ≤ k → laws_FnRopes.j0 k c (tx (pcs t)) false (br t 0) = some true := by
 obtain ⟨K1, h1⟩ := ropes_j1 hc hcl
 have z1 := (pcs_bdN h).1
 have y1 := tx_psz (pcs t)
 by_cases c0 : ((tx (pcs t)).size : Int) > 0
 ·obtain ⟨y, hy, hn⟩ := num_l c hcl hc c.length 0 O_ 0 O_ O_ (c.length + 1) O_
  have hN : ∀ k, c.length + 1 ≤ k → ∃ y, 0 ≤ y ∧ laws_numberOf.f k c = some y := fun k hk => by
   unfold laws_numberOf.f
   exact num_l c hcl hc c.length 0 O_ 0 O_ O_ k O_
  have hB : ∀ a : Int, ∃ K, 0 ≤ a → a < t.size → ∃ x c', (∀ m, K ≤ m → impl_ByteAt.f m (br t 0) a = some (x, c', true)) ∧ x = (tx (pcs t)).extract a.toNat (a.toNat + 1) ∧ 0 < (br t 0).length ∧ c' ≤ (rd_T58 (br t 0) (((br t 0).length : Int) - 1)).f4 + 1 ∧ 0 ≤ (rd_T58 (br t 0) (((br t 0).length : Int) - 1)).f4 ∧ (rd_T58 (br t 0) (((br t 0).length : Int) - 1)).f4 ≤ 1000 := fun a => by
   by_cases ca : 0 ≤ a ∧ a < t.size
   ·obtain ⟨x, c', K, q⟩ := Byte_GR h h2 h3 h4 a ca.1 ca.2
    exact ⟨K, fun _ _ => ⟨x, c', q⟩⟩
   ·exact ⟨0, fun a1 a2 => absurd ⟨a1, a2⟩ ca⟩
  have hK : ∃ K, ∀ a : Int, 0 ≤ a → a < t.size → ∃ x c', (∀ m, K ≤ m → impl_ByteAt.f m (br t 0) a = some (x, c', true)) ∧ x = (tx (pcs t)).extract a.toNat (a.toNat + 1) ∧ 0 < (br t 0).length ∧ c' ≤ (rd_T58 (br t 0) (((br t 0).length : Int) - 1)).f4 + 1 ∧ 0 ≤ (rd_T58 (br t 0) (((br t 0).length : Int) - 1)).f4 ∧ (rd_T58 (br t 0) (((br t 0).length : Int) - 1)).f4 ≤ 1000 := by
   have : ∀ n : Nat, ∃ K, ∀ a : Int, 0 ≤ a → a < n → a < t.size → ∃ x c', (∀ m, K ≤ m → impl_ByteAt.f m (br t 0) a = some (x, c', true)) ∧ x = (tx (pcs t)).extract a.toNat (a.toNat + 1) ∧ 0 < (br t 0).length ∧ c' ≤ (rd_T58 (br t 0) (((br t 0).length : Int) - 1)).f4 + 1 ∧ 0 ≤ (rd_T58 (br t 0) (((br t 0).length : Int) - 1)).f4 ∧ (rd_T58 (br t 0) (((br t 0).length : Int) - 1)).f4 ≤ 1000 := by
    intro n
    induction n with
    | zero => exact ⟨0, fun a a0 a1 => by omega⟩
    | succ n ih =>
     obtain ⟨K, hk⟩ := ih
     obtain ⟨K', hk'⟩ := hB (n : Int)
     refine ⟨K + K', fun a a0 a1 a2 => ?_⟩
     by_cases e : a = (n : Int)
     ·subst e
      obtain ⟨x, c', q1, q2⟩ := hk' a0 a2
      exact ⟨x, c', fun m hm => q1 m O_, q2⟩
     ·obtain ⟨x, c', q1, q2⟩ := hk a a0 O_ a2
      exact ⟨x, c', fun m hm => q1 m O_, q2⟩
   obtain ⟨K, hk⟩ := this t.size.toNat
   exact ⟨K, fun a a0 a1 => hk a a0 O_ a1⟩
  obtain ⟨K2, hk2⟩ := hK
  refine ⟨K1 + K2 + c.length + 2, fun k hk => ?_⟩
  obtain ⟨k, rfl⟩ : ∃ m, k = m + 1 := ⟨k - 1, O_⟩
  obtain ⟨y, hy, hn⟩ := hN k O_
  have hm : Int.tmod y ((tx (pcs t)).size : Int) = y % ((tx (pcs t)).size : Int) := Int.tmod_eq_emod_of_nonneg hy
  have hm0 : 0 ≤ y % ((tx (pcs t)).size : Int) := Int.emod_nonneg _ O_
  have hm1 : y % ((tx (pcs t)).size : Int) < ((tx (pcs t)).size : Int) := Int.emod_lt_of_pos _ c0
  generalize hq : y % ((tx (pcs t)).size : Int) = q at hm hm0 hm1
  obtain ⟨x, c', q1, q2, q3, q4, q5, q6⟩ := hk2 q hm0 O_
  simp only [laws_FnRopes.j0]
  rw [iN_ (by simp), ip_ c0, hn, bs_, iN_ O_, hm, q1 k O_, bs_, ip_ rfl, w64 (i := q + 1) O_ O_, ip_ hm0, ip_ O_, ip_ O_, ip_ (by rw [show (q + 1).toNat = q.toNat + 1 from by omega]; exact congrArg ByteArray.toList q2), w64 (i := ((br t 0).length : Int) - 1) (by have := br_length t 0; omega) (by have := br_length t 0; omega), ip_ O_, ip_ O_, w64 O_ O_, iN_ (by show ¬ (c' > _); omega), h1 k O_]
 ·refine ⟨K1 + 1, fun k hk => ?_⟩
  obtain ⟨k, rfl⟩ : ∃ m, k = m + 1 := ⟨k - 1, O_⟩
  simp only [laws_FnRopes.j0]
  rw [iN_ (by simp), iN_ c0, h1 k O_]
theorem FnRopes : laws_FnRopes.Pure := by
 intro c d hc1 hc2 hc3 hd1 hd2 hd3
 by_cases hl : wrap64 ((c.length : Int) + (d.length : Int)) > 1048576
 ·exact ⟨0, by unfold laws_FnRopes.f; rw [ip_ hl]⟩
 have hlen : c.length ≤ 1048576 ∧ d.length ≤ 1048576 := by
  rw [w64 O_ O_] at hl
  omega
 have hc := okCode_of hc3
 have hd := okCode_of hd3
 obtain ⟨s, a1, s1, g1, g2, g3, K1, k1⟩ := doc_ev hc 0 0 O_ O_
 obtain ⟨r, K2, x1, x2⟩ := RopeOf_full s O_
 obtain ⟨K3, h3⟩ := ropes_j1 hd hlen.2
 have hD : ∀ k, K1 ≤ k → spec_DrawRopeOf.f k c = some s := fun k hk => by
  unfold spec_DrawRopeOf.f
  rw [k1 k hk, bs_]
 cases hx : r.2 with
 | false =>
  refine ⟨K1 + K2 + K3, ?_⟩
  unfold laws_FnRopes.f
  rw [iN_ hl, hD _ O_, bs_, (x1 _ O_).2, bs_, (x1 _ O_).1, bs_, bne_self_eq_false, iN_ (by simp), iN_ (by rw [hx]; simp), h3 _ O_]
 | true =>
  obtain ⟨t, e, t1, t2, t3, t4, hs⟩ := x2 hx
  obtain ⟨K4, h4⟩ := ropes_j0 hd hlen.2 t1 t2 t3 t4
  obtain ⟨K5, h5⟩ := TextIn_GR t1 t2 t3 t4
  obtain ⟨K6, h6⟩ := impl_GoodRope_ev (br t 0) (br_szN t1)
  obtain ⟨K7, h7⟩ := spec_GoodRope_ev (br t 0) (br_szN t1) (by rw [br_length]; omega)
  rw [GR_good ⟨_, t1, t2, t3, t4, rfl⟩] at h6 h7
  refine ⟨K1 + K2 + K3 + K4 + K5 + K6 + K7, ?_⟩
  unfold laws_FnRopes.f
  rw [iN_ hl, hD _ O_, bs_, (x1 _ O_).2, bs_, (x1 _ O_).1, bs_, bne_self_eq_false, iN_ (by simp), ip_ hx, e, h5 _ O_, bs_, ip_ rfl, hs, ip_ rfl, h6 _ O_, bs_, ip_ rfl, h7 _ O_, bs_, ← hs]
  exact h4 _ O_
end Go.Proofs.Ytmkenlejdaphnaa.Pure
