/- FindAll of the program answers as the reference's, for all texts, in memory of its own. -/
import Derived.Test.YtibedlbjkaikiaaAFnExactFindAllx5
set_option linter.unusedVariables false
set_option linter.unusedSimpArgs false
namespace Go.Proofs.Ytibedlbjkaikiaa.Pure
open Go.RowKit Go.Proofs.Ytibedlbjkaikiaa.AFnExactFindAll Go.Proofs.YtibedlbjkaikiaaW.PrintWords Go.Proofs.YtibedlbjkaikiaaW.PrintLast Go.Proofs.YtibedlbjkaikiaaW.PrintMore

theorem w64 {i : Int} (h0 : -4611686018427387904 ≤ i) (h : i ≤ 4611686018427387904) : wrap64 i = i := by
  unfold wrap64; omega

def nmB (c : Int) : Bool := decide (65 ≤ c) && decide (c ≤ 70)
def plB (c : Int) : Bool := (decide (97 ≤ c) && decide (c ≤ 122)) || ((decide (48 ≤ c) && decide (c ≤ 57)) || (decide (c = 32) || (decide (c = 46) || decide (c = 44))))
def okB (c : Int) : Bool := nmB c || (plB c || decide (c = 47))
def okN (s : ByteArray) : Nat → Nat → Bool
  | 0, _ => true
  | d + 1, i => okB (bt s i) && okN s d (i + 1)
def textB (s : ByteArray) : Bool := okN s s.size 0 && decide (s.size ≤ 300)

theorem textB_size {s : ByteArray} (h : textB s = true) : s.size ≤ 300 := by
  unfold textB at h; simp at h; exact h.2

theorem impl_isName_eq (c : Int) : impl_isName.f c = some (nmB c) := by
  unfold impl_isName.f nmB
  by_cases h1 : c ≥ 65 <;> simp [h1] <;> omega
theorem impl_isPlain_eq (c : Int) : impl_isPlain.f c = some (plB c) := by
  unfold impl_isPlain.f plB
  by_cases h1 : 97 ≤ c <;> by_cases h2 : c ≤ 122 <;> by_cases h3 : 48 ≤ c <;> by_cases h4 : c ≤ 57 <;> by_cases h5 : c = 32 <;> by_cases h6 : c = 46 <;> simp [h1, h2, h3, h4, h5, h6] <;> rfl
theorem impl_GoodText_l (s : ByteArray) (hs : s.size ≤ 140737488351232) : ∀ (d i : Nat), i + d = s.size →
    ∃ K, ∀ k, K ≤ k → impl_GoodText.l0 k s (s.size : Int) (i : Int) = some (okN s d i && decide (s.size ≤ 300)) := by
  intro d
  induction d with
  | zero =>
    intro i hi
    refine ⟨1, fun k hk => ?_⟩
    obtain ⟨k, rfl⟩ : ∃ m, k = m + 1 := ⟨k - 1, by omega⟩
    simp only [impl_GoodText.l0]
    rw [if_neg (by omega)]
    simp [okN]
    omega
  | succ d ih =>
    intro i hi
    obtain ⟨K, hK⟩ := ih (i + 1) (by omega)
    refine ⟨K + 1, fun k hk => ?_⟩
    obtain ⟨k, rfl⟩ : ∃ m, k = m + 1 := ⟨k - 1, by omega⟩
    have hr := hK k (by omega)
    simp only [impl_GoodText.l0]
    rw [if_pos (by omega), if_pos (by omega), if_pos (by omega), impl_isName_eq, Option.bind_some, impl_isPlain_eq, Option.bind_some, w64 (by omega) (by omega)]
    have hc : ((i : Int) + 1) = ((i + 1 : Nat) : Int) := by omega
    rw [hc, hr]
    show _ = some ((okB (bt s i) && okN s d (i + 1)) && _)
    unfold okB
    cases nmB (bt s i) <;> cases plB (bt s i) <;> by_cases h : bt s i = 47 <;> simp [h]
theorem impl_GoodText_ev (s : ByteArray) (hs : s.size ≤ 140737488351232) : ∃ K, ∀ k, K ≤ k → impl_GoodText.f k s = some (textB s) := by
  obtain ⟨K, hK⟩ := impl_GoodText_l s hs s.size 0 (by omega)
  exact ⟨K, fun k hk => by unfold impl_GoodText.f; exact hK k hk⟩

theorem spec_l1Open_eq (c : Int) : spec_l1Open.f c = some (nmB c) := by
  unfold spec_l1Open.f nmB
  by_cases h1 : c ≥ 65 <;> simp [h1] <;> omega
theorem spec_l1Plain_eq (c : Int) : spec_l1Plain.f c = some (plB c) := by
  unfold spec_l1Plain.f plB
  by_cases h1 : 97 ≤ c <;> by_cases h2 : c ≤ 122 <;> by_cases h3 : 48 ≤ c <;> by_cases h4 : c ≤ 57 <;> by_cases h5 : c = 32 <;> by_cases h6 : c = 46 <;> simp [h1, h2, h3, h4, h5, h6] <;> rfl
theorem spec_l1Text_l (s : ByteArray) (hs : s.size ≤ 140737488351232) : ∀ (d i : Nat), i + d = s.size →
    ∃ K, ∀ k, K ≤ k → spec_l1Text.l0 k s (i : Int) = some (okN s d i) := by
  intro d
  induction d with
  | zero =>
    intro i hi
    refine ⟨1, fun k hk => ?_⟩
    obtain ⟨k, rfl⟩ : ∃ m, k = m + 1 := ⟨k - 1, by omega⟩
    simp only [spec_l1Text.l0]
    rw [if_neg (by omega)]
    simp [okN]
  | succ d ih =>
    intro i hi
    obtain ⟨K, hK⟩ := ih (i + 1) (by omega)
    refine ⟨K + 1, fun k hk => ?_⟩
    obtain ⟨k, rfl⟩ : ∃ m, k = m + 1 := ⟨k - 1, by omega⟩
    have hr := hK k (by omega)
    simp only [spec_l1Text.l0]
    rw [if_pos (by omega), if_pos (by omega), spec_l1Open_eq, Option.bind_some, spec_l1Plain_eq, Option.bind_some, w64 (by omega) (by omega)]
    have hc : ((i : Int) + 1) = ((i + 1 : Nat) : Int) := by omega
    rw [hc, hr]
    show _ = some (okB (bt s i) && okN s d (i + 1))
    unfold okB
    cases nmB (bt s i) <;> cases plB (bt s i) <;> by_cases h : bt s i = 47 <;> simp [h]
theorem spec_GoodText_ev (s : ByteArray) (hs : s.size ≤ 140737488351232) : ∃ K, ∀ k, K ≤ k → spec_GoodText.f k s = some (textB s) := by
  obtain ⟨K, hK⟩ := spec_l1Text_l s hs s.size 0 (by omega)
  refine ⟨K, fun k hk => ?_⟩
  have h := hK k hk
  unfold spec_GoodText.f spec_l1Text.f
  simp only [Int.cast_ofNat_Int] at h
  rw [h, Option.bind_some]
  unfold textB
  cases okN s s.size 0 <;> simp <;> omega

theorem spec_l9Texts_ev (a b : ByteArray) (ha : a.size ≤ 140737488351232) (hb : b.size ≤ 140737488351232) : ∃ K, ∀ k, K ≤ k → spec_l9Texts.f k a b = some (textB a && textB b) := by
  obtain ⟨K, hK⟩ := spec_GoodText_ev a ha
  obtain ⟨K', hK'⟩ := spec_GoodText_ev b hb
  refine ⟨max K K', fun k hk => ?_⟩
  have h1 := hK k (by omega)
  have h2 := hK' k (by omega)
  unfold spec_l9Texts.f
  rw [h1, Option.bind_some, h2, Option.bind_some]
  cases textB a <;> simp

theorem toList_length (s : ByteArray) : s.toList.length = s.size := by
  have h : ∀ (n i : Nat) (r : List UInt8), s.size - i = n → (ByteArray.toList.loop s i r).length = r.length + n := by
    intro n
    induction n with
    | zero => intro i r h; unfold ByteArray.toList.loop; rw [if_neg (by omega)]; simp
    | succ n ih => intro i r h; unfold ByteArray.toList.loop; rw [if_pos (by omega), ih (i + 1) _ (by omega)]; simp; omega
  unfold ByteArray.toList
  rw [h s.size 0 [] (by omega)]; simp
theorem toList_nil (s : ByteArray) : s.toList = [] ↔ s.size = 0 := by
  rw [← toList_length s]; exact List.length_eq_zero_iff.symm
theorem rd_set {bs : List Int} {i : Nat} {v : Int} (h : i < bs.length) (j : Nat) : rd (bs.set i v) (j : Int) = if j = i then v else rd bs (j : Int) := by
  unfold rd
  simp only [Int.toNat_natCast, List.getD_eq_getElem?_getD]
  by_cases e : j = i
  · subst e; simp [h]
  · rw [List.getElem?_set_ne (by omega)]; simp [e]
def fallM (s : ByteArray) (x : Int) (bs : List Int) : Nat → Int → Int
  | 0, n => n
  | d + 1, n => if 0 < n ∧ ¬ bt s n = x then fallM s x bs d (rd bs (n - 1)) else n
def stepM (s : ByteArray) (x : Int) (n : Int) : Int := if bt s n = x then n + 1 else n
def bordM (s : ByteArray) (bs : List Int) (i : Nat) : Int := stepM s (bt s i) (fallM s (bt s i) bs i (rd bs ((i : Int) - 1)))
def bordsM (s : ByteArray) : Nat → Nat → List Int → List Int
  | 0, _, bs => bs
  | d + 1, i, bs => bordsM s d (i + 1) (bs.set i (bordM s bs i))
def InvM (bs : List Int) (i : Nat) : Prop := ∀ j : Nat, j < i → 0 ≤ rd bs (j : Int) ∧ rd bs (j : Int) ≤ j
theorem InvM.sub {bs : List Int} {i : Nat} (h : InvM bs i) {n : Int} (h0 : 0 < n) (h1 : n ≤ i) : 0 ≤ rd bs (n - 1) ∧ rd bs (n - 1) ≤ n - 1 := by
  have := h (n - 1).toNat (by omega)
  rw [show (((n - 1).toNat : Nat) : Int) = n - 1 by omega] at this
  exact this
theorem fallM_le {s : ByteArray} {x : Int} {bs : List Int} {i : Nat} (h : InvM bs i) : ∀ (d : Nat) (n : Int), 0 ≤ n → n ≤ i → 0 ≤ fallM s x bs d n ∧ fallM s x bs d n ≤ n := by
  intro d
  induction d with
  | zero => intro n h0 h1; simp only [fallM]; omega
  | succ d ih =>
    intro n h0 h1
    simp only [fallM]
    by_cases c : 0 < n ∧ ¬ bt s n = x
    · rw [if_pos c]
      have := h.sub c.1 h1
      have := ih (rd bs (n - 1)) (by omega) (by omega)
      omega
    · rw [if_neg c]; omega
theorem fallM_more {s : ByteArray} {x : Int} {bs : List Int} {i : Nat} (h : InvM bs i) : ∀ (d d' : Nat) (n : Int), 0 ≤ n → n ≤ i → n ≤ d → n ≤ d' → fallM s x bs d n = fallM s x bs d' n := by
  intro d
  induction d with
  | zero => 
    intro d' n h0 h1 h2 h3
    have : n = 0 := by omega
    subst this
    cases d' <;> simp [fallM]
  | succ d ih =>
    intro d' n h0 h1 h2 h3
    cases d' with
    | zero => have : n = 0 := by omega
              subst this; simp [fallM]
    | succ d' =>
      simp only [fallM]
      by_cases c : 0 < n ∧ ¬ bt s n = x
      · rw [if_pos c, if_pos c]
        have := h.sub c.1 h1
        exact ih d' _ (by omega) (by omega) (by omega) (by omega)
      · rw [if_neg c, if_neg c]
theorem bordM_le {s : ByteArray} {bs : List Int} {i : Nat} (h : InvM bs i) (hi : 0 < i) : 0 ≤ bordM s bs i ∧ bordM s bs i ≤ i := by
  have := h.sub (n := (i : Int)) (by omega) (by omega)
  have := fallM_le (s := s) (x := bt s i) h i (rd bs ((i : Int) - 1)) (by omega) (by omega)
  unfold bordM stepM
  split <;> omega
theorem InvM.next {s : ByteArray} {bs : List Int} {i : Nat} (h : InvM bs i) (hi : 0 < i) (hl : i < bs.length) : InvM (bs.set i (bordM s bs i)) (i + 1) := by
  intro j hj
  rw [rd_set hl]
  have := bordM_le (s := s) h hi
  by_cases e : j = i
  · rw [if_pos e]; omega
  · rw [if_neg e]; exact h j (by omega)
theorem bordsM_length (s : ByteArray) : ∀ (d i : Nat) (bs : List Int), (bordsM s d i bs).length = bs.length := by
  intro d
  induction d with
  | zero => intro i bs; rfl
  | succ d ih => intro i bs; simp only [bordsM]; rw [ih]; simp
theorem bordsM_inv (s : ByteArray) : ∀ (d i : Nat) (bs : List Int), 0 < i → i + d = s.size → bs.length = s.size → InvM bs i → InvM (bordsM s d i bs) s.size := by
  intro d
  induction d with
  | zero => intro i bs h0 h1 h2 h3; simp only [bordsM]; have : i = s.size := by omega
            rw [← this]; exact h3
  | succ d ih => intro i bs h0 h1 h2 h3; simp only [bordsM]; exact ih _ _ (by omega) (by omega) (by simpa using h2) (h3.next h0 (by omega))
def bords (s : ByteArray) : List Int := bordsM s (s.size - 1) 1 (List.replicate s.size 0)
theorem InvM.zeros (n : Nat) : InvM (List.replicate n 0) 1 := by
  intro j hj
  have : j = 0 := by omega
  subst this
  unfold rd
  cases n <;> simp [List.getD]
theorem bords_length (s : ByteArray) : (bords s).length = s.size := by unfold bords; rw [bordsM_length]; simp
theorem bords_inv (s : ByteArray) (h : 0 < s.size) : InvM (bords s) s.size := bordsM_inv s _ _ _ (by omega) (by omega) (by simp) (InvM.zeros _)

theorem impl_borders_in (s : ByteArray) (hs : s.size ≤ 140737488351232) (bs : List Int) (i : Nat) (r : List Int) (hi : i < s.size) (hl : bs.length = s.size) (hb : InvM bs i) : ∀ (d : Nat) (n : Int), 0 ≤ n → n < i → n ≤ d →
    (∃ K, ∀ k, K ≤ k → impl_borders.l0 k s (bs.set i (stepM s (bt s i) (fallM s (bt s i) bs d n))) ((i : Int) + 1) = some r) → ∃ K, ∀ k, K ≤ k → impl_borders.l1 k s bs (i : Int) n = some r := by
  intro d
  induction d with
  | zero =>
    intro n h0 h1 h2 h
    have hn : n = 0 := by omega
    subst hn
    obtain ⟨K, hK⟩ := h
    refine ⟨K + 1, fun k hk => ?_⟩
    obtain ⟨k, rfl⟩ : ∃ m, k = m + 1 := ⟨k - 1, by omega⟩
    have hr := hK k (by omega)
    simp only [impl_borders.l1]
    simp (disch := omega) only [w64, if_pos, if_neg, Int.toNat_natCast]
    rw [show fallM s (bt s (i : Int)) bs 0 0 = 0 from rfl] at hr
    unfold stepM at hr
    by_cases c : bt s 0 = bt s i
    · rw [if_pos c] at hr ⊢; exact hr
    · rw [if_neg c] at hr ⊢; exact hr
  | succ d ih =>
    intro n h0 h1 h2 h
    by_cases c : 0 < n ∧ ¬ bt s n = bt s i
    · have hsub := hb.sub c.1 (by omega)
      simp only [fallM, if_pos c] at h
      obtain ⟨K, hK⟩ := ih (rd bs (n - 1)) (by omega) (by omega) (by omega) h
      refine ⟨K + 1, fun k hk => ?_⟩
      obtain ⟨k, rfl⟩ : ∃ m, k = m + 1 := ⟨k - 1, by omega⟩
      simp only [impl_borders.l1]
      simp (disch := omega) only [w64, if_pos, if_neg, Int.toNat_natCast, c.2]
      exact hK k (by omega)
    · simp only [fallM, if_neg c] at h
      obtain ⟨K, hK⟩ := h
      refine ⟨K + 1, fun k hk => ?_⟩
      obtain ⟨k, rfl⟩ : ∃ m, k = m + 1 := ⟨k - 1, by omega⟩
      have hr := hK k (by omega)
      unfold stepM at hr
      simp only [impl_borders.l1]
      by_cases e : bt s n = bt s i
      · rw [if_pos e] at hr
        by_cases p : n > 0
        · simp (disch := omega) only [w64, if_pos, if_neg, Int.toNat_natCast]
          exact hr
        · simp (disch := omega) only [w64, if_pos, if_neg, Int.toNat_natCast]
          exact hr
      · have p : ¬ n > 0 := fun h => c ⟨h, e⟩
        rw [if_neg e] at hr
        simp (disch := omega) only [w64, if_pos, if_neg, Int.toNat_natCast]
        exact hr
theorem impl_borders_l (s : ByteArray) (hs : s.size ≤ 140737488351232) : ∀ (d i : Nat) (bs : List Int), 0 < i → i + d = s.size → bs.length = s.size → InvM bs i →
    ∃ K, ∀ k, K ≤ k → impl_borders.l0 k s bs (i : Int) = some (bordsM s d i bs) := by
  intro d
  induction d with
  | zero =>
    intro i bs h0 h1 h2 h3
    refine ⟨1, fun k hk => ?_⟩
    obtain ⟨k, rfl⟩ : ∃ m, k = m + 1 := ⟨k - 1, by omega⟩
    simp only [impl_borders.l0]
    rw [if_neg (by omega)]; rfl
  | succ d ih =>
    intro i bs h0 h1 h2 h3
    have hsub := h3.sub (n := (i : Int)) (by omega) (by omega)
    obtain ⟨K, hK⟩ := impl_borders_in s hs bs i (bordsM s (d + 1) i bs) (by omega) h2 h3 i (rd bs ((i : Int) - 1)) (by omega) (by omega) (by omega)
      (ih (i + 1) (bs.set i (bordM s bs i)) (by omega) (by omega) (by simpa using h2) (h3.next h0 (by omega)))
    refine ⟨K + 1, fun k hk => ?_⟩
    obtain ⟨k, rfl⟩ : ∃ m, k = m + 1 := ⟨k - 1, by omega⟩
    simp only [impl_borders.l0]
    simp (disch := omega) only [w64, if_pos, if_neg]
    exact hK k (by omega)
theorem impl_borders_ev (s : ByteArray) (hs : s.size ≤ 300) (h0 : 0 < s.size) : ∃ K, ∀ k, K ≤ k → impl_borders.f k s = some (bords s) := by
  obtain ⟨K, hK⟩ := impl_borders_l s (by omega) (s.size - 1) 1 (List.replicate s.size 0) (by omega) (by omega) (by simp) (InvM.zeros _)
  refine ⟨K, fun k hk => ?_⟩
  unfold impl_borders.f
  simp (disch := omega) only [if_pos, Int.toNat_natCast]
  exact hK k hk

theorem spec_l11Borders_in (s : ByteArray) (hs : s.size ≤ 140737488351232) (bs : List Int) (i : Nat) (r : List Int) (hi : i < s.size) (hl : bs.length = s.size) (hb : InvM bs i) : ∀ (d : Nat) (n : Int), 0 ≤ n → n < i → n ≤ d →
    (∃ K, ∀ k, K ≤ k → spec_l11Borders.l0 k s (bs.set i (stepM s (bt s i) (fallM s (bt s i) bs d n))) (stepM s (bt s i) (fallM s (bt s i) bs d n)) ((i : Int) + 1) = some r) → ∃ K, ∀ k, K ≤ k → spec_l11Borders.l1 k s bs n (i : Int) = some r := by
  intro d
  induction d with
  | zero =>
    intro n h0 h1 h2 h
    have hn : n = 0 := by omega
    subst hn
    obtain ⟨K, hK⟩ := h
    refine ⟨K + 1, fun k hk => ?_⟩
    obtain ⟨k, rfl⟩ : ∃ m, k = m + 1 := ⟨k - 1, by omega⟩
    have hr := hK k (by omega)
    simp only [spec_l11Borders.l1]
    simp (disch := omega) only [w64, if_pos, if_neg, Int.toNat_natCast]
    rw [show fallM s (bt s (i : Int)) bs 0 0 = 0 from rfl] at hr
    unfold stepM at hr
    by_cases c : bt s 0 = bt s i
    · rw [if_pos c] at hr; rw [if_pos c.symm]; exact hr
    · rw [if_neg c] at hr; rw [if_neg (fun e => c e.symm)]; exact hr
  | succ d ih =>
    intro n h0 h1 h2 h
    by_cases c : 0 < n ∧ ¬ bt s n = bt s i
    · have hsub := hb.sub c.1 (by omega)
      have c2 : ¬ bt s i = bt s n := fun e => c.2 e.symm
      simp only [fallM, if_pos c] at h
      obtain ⟨K, hK⟩ := ih (rd bs (n - 1)) (by omega) (by omega) (by omega) h
      refine ⟨K + 1, fun k hk => ?_⟩
      obtain ⟨k, rfl⟩ : ∃ m, k = m + 1 := ⟨k - 1, by omega⟩
      simp only [spec_l11Borders.l1]
      simp (disch := omega) only [w64, if_pos, if_neg, Int.toNat_natCast]
      exact hK k (by omega)
    · simp only [fallM, if_neg c] at h
      obtain ⟨K, hK⟩ := h
      refine ⟨K + 1, fun k hk => ?_⟩
      obtain ⟨k, rfl⟩ : ∃ m, k = m + 1 := ⟨k - 1, by omega⟩
      have hr := hK k (by omega)
      unfold stepM at hr
      simp only [spec_l11Borders.l1]
      by_cases e : bt s n = bt s i
      · rw [if_pos e] at hr
        have e := e.symm
        by_cases p : n > 0
        · simp (disch := omega) only [w64, if_pos, if_neg, Int.toNat_natCast]
          exact hr
        · simp (disch := omega) only [w64, if_pos, if_neg, Int.toNat_natCast]
          exact hr
      · have p : ¬ n > 0 := fun h => c ⟨h, e⟩
        rw [if_neg e] at hr
        have e : ¬ bt s i = bt s n := fun h => e h.symm
        simp (disch := omega) only [w64, if_pos, if_neg, Int.toNat_natCast]
        exact hr
theorem spec_l11Borders_l (s : ByteArray) (hs : s.size ≤ 140737488351232) : ∀ (d i : Nat) (bs : List Int), 0 < i → i + d = s.size → bs.length = s.size → InvM bs i →
    ∃ K, ∀ k, K ≤ k → spec_l11Borders.l0 k s bs (rd bs ((i : Int) - 1)) (i : Int) = some (bordsM s d i bs) := by
  intro d
  induction d with
  | zero =>
    intro i bs h0 h1 h2 h3
    refine ⟨1, fun k hk => ?_⟩
    obtain ⟨k, rfl⟩ : ∃ m, k = m + 1 := ⟨k - 1, by omega⟩
    simp only [spec_l11Borders.l0]
    rw [if_neg (by omega)]; rfl
  | succ d ih =>
    intro i bs h0 h1 h2 h3
    have hsub := h3.sub (n := (i : Int)) (by omega) (by omega)
    have hi := ih (i + 1) (bs.set i (bordM s bs i)) (by omega) (by omega) (by simpa using h2) (h3.next h0 (by omega))
    rw [show (((i + 1 : Nat) : Int) - 1) = (i : Int) by omega, rd_set (by omega), if_pos rfl] at hi
    obtain ⟨K, hK⟩ := spec_l11Borders_in s hs bs i (bordsM s (d + 1) i bs) (by omega) h2 h3 i (rd bs ((i : Int) - 1)) (by omega) (by omega) (by omega) hi
    refine ⟨K + 1, fun k hk => ?_⟩
    obtain ⟨k, rfl⟩ : ∃ m, k = m + 1 := ⟨k - 1, by omega⟩
    simp only [spec_l11Borders.l0]
    simp (disch := omega) only [w64, if_pos, if_neg]
    exact hK k (by omega)
theorem spec_l11Borders_ev (s : ByteArray) (hs : s.size ≤ 300) (h0 : 0 < s.size) : ∃ K, ∀ k, K ≤ k → spec_l11Borders.f k s = some (bords s) := by
  obtain ⟨K, hK⟩ := spec_l11Borders_l s (by omega) (s.size - 1) 1 (List.replicate s.size 0) (by omega) (by omega) (by simp) (InvM.zeros _)
  refine ⟨K, fun k hk => ?_⟩
  unfold spec_l11Borders.f
  simp (disch := omega) only [if_pos, Int.toNat_natCast]
  have := hK k hk
  rw [show rd (List.replicate s.size 0) (((1 : Nat) : Int) - 1) = 0 from ?_] at this
  · exact this
  · unfold rd; cases s.size <;> simp [List.getD]

theorem laws_eqIntS_l (a b : List Int) (ha : a.length ≤ 1000000) : ∀ (d i : Nat), i + d = a.length → a.length = b.length →
    ∃ K, ∀ k, K ≤ k → laws_eqIntS.l0 k a b (i : Int) = some (decide (a.drop i = b.drop i)) := by
  intro d
  induction d with
  | zero =>
    intro i hi hl
    refine ⟨1, fun k hk => ?_⟩
    obtain ⟨k, rfl⟩ : ∃ m, k = m + 1 := ⟨k - 1, by omega⟩
    simp only [laws_eqIntS.l0]
    rw [if_neg (by omega), List.drop_of_length_le (by omega), List.drop_of_length_le (by omega)]
    simp
  | succ d ih =>
    intro i hi hl
    obtain ⟨K, hK⟩ := ih (i + 1) (by omega) hl
    refine ⟨K + 1, fun k hk => ?_⟩
    obtain ⟨k, rfl⟩ : ∃ m, k = m + 1 := ⟨k - 1, by omega⟩
    have hr := hK k (by omega)
    simp only [laws_eqIntS.l0]
    simp (disch := omega) only [w64, if_pos]
    simp only [Int.natCast_add, Int.cast_ofNat_Int] at hr
    rw [hr, List.drop_eq_getElem_cons (by omega : i < a.length), List.drop_eq_getElem_cons (by omega : i < b.length)]
    have e1 : rd a (i : Int) = a[i]'(by omega) := by unfold rd; simp [List.getD, (by omega : i < a.length)]
    have e2 : rd b (i : Int) = b[i]'(by omega) := by unfold rd; simp [List.getD, (by omega : i < b.length)]
    rw [e1, e2]
    by_cases c : a[i]'(by omega) = b[i]'(by omega)
    · rw [if_pos c]; simp only [c, List.cons.injEq, true_and]
    · rw [if_neg c]; simp only [c, List.cons.injEq, false_and, decide_false]
theorem laws_eqIntS_ev (a b : List Int) (ha : a.length ≤ 1000000) : ∃ K, ∀ k, K ≤ k → laws_eqIntS.f k a b = some (decide (a = b)) := by
  by_cases h : a.length = b.length
  · obtain ⟨K, hK⟩ := laws_eqIntS_l a b ha a.length 0 (by omega) h
    refine ⟨K, fun k hk => ?_⟩
    unfold laws_eqIntS.f
    rw [if_pos (by omega)]
    have := hK k hk
    simpa using this
  · refine ⟨0, fun k hk => ?_⟩
    unfold laws_eqIntS.f
    rw [if_neg (by omega)]
    have : ¬ a = b := fun e => h (by rw [e])
    simp [this]
def marks (n : Nat) : Int → List Int
  | a => (List.range n).map fun (j : Nat) => a + j
theorem laws_markIntS_l (n : Nat) (hn : n ≤ 1000000) (a : Int) (h0 : 0 ≤ a) (h1 : a ≤ 1000000) : ∀ (d i : Nat) (l : List Int), i + d = n → l.length = n → (∀ j : Nat, j < i → l[j]? = some (a + (j : Int))) →
    ∃ l' : List Int, l'.length = n ∧ (∀ j : Nat, j < n → l'[j]? = some (a + (j : Int))) ∧ ∃ K, ∀ k, K ≤ k → laws_markIntS.l0 k l (a + (i : Int)) (i : Int) = some (a + (n : Int), l') := by
  intro d
  induction d with
  | zero =>
    intro i l hi hl hj
    have : i = n := by omega
    subst this
    refine ⟨l, hl, hj, 1, fun k hk => ?_⟩
    obtain ⟨k, rfl⟩ : ∃ m, k = m + 1 := ⟨k - 1, by omega⟩
    simp only [laws_markIntS.l0]
    rw [if_neg (by omega)]
  | succ d ih =>
    intro i l hi hl hj
    obtain ⟨l', h1', h2', K, hK⟩ := ih (i + 1) (l.set i (a + (i : Int))) (by omega) (by simpa using hl) (fun j hji => by
      by_cases e : j = i
      · subst e; simp [hl, (by omega : j < n)]
      · rw [List.getElem?_set_ne (by omega)]; exact hj j (by omega))
    refine ⟨l', h1', h2', K + 1, fun k hk => ?_⟩
    obtain ⟨k, rfl⟩ : ∃ m, k = m + 1 := ⟨k - 1, by omega⟩
    have hr := hK k (by omega)
    simp only [laws_markIntS.l0]
    simp (disch := omega) only [w64, if_pos, Int.toNat_natCast]
    rw [show a + ((i + 1 : Nat) : Int) = a + (i : Int) + 1 by omega, show ((i + 1 : Nat) : Int) = (i : Int) + 1 by omega] at hr
    exact hr
theorem laws_heldIntS_l (n : Nat) (hn : n ≤ 1000000) (a : Int) (h0 : 0 ≤ a) (h1 : a ≤ 1000000) (l : List Int) (hl : l.length = n) (hj : ∀ j : Nat, j < n → l[j]? = some (a + (j : Int))) : ∀ (d i : Nat), i + d = n →
    ∃ K, ∀ k, K ≤ k → laws_heldIntS.l0 k l (a + (i : Int)) (i : Int) = some (a + (n : Int)) := by
  intro d
  induction d with
  | zero =>
    intro i hi
    have : i = n := by omega
    subst this
    refine ⟨1, fun k hk => ?_⟩
    obtain ⟨k, rfl⟩ : ∃ m, k = m + 1 := ⟨k - 1, by omega⟩
    simp only [laws_heldIntS.l0]
    rw [if_neg (by omega)]
  | succ d ih =>
    intro i hi
    obtain ⟨K, hK⟩ := ih (i + 1) (by omega)
    refine ⟨K + 1, fun k hk => ?_⟩
    obtain ⟨k, rfl⟩ : ∃ m, k = m + 1 := ⟨k - 1, by omega⟩
    have hr := hK k (by omega)
    have e : rd l (i : Int) = a + (i : Int) := by unfold rd; simp [List.getD, hj i (by omega)]
    simp only [laws_heldIntS.l0]
    simp (disch := omega) only [w64, if_pos]
    rw [show a + ((i + 1 : Nat) : Int) = a + (i : Int) + 1 by omega, show ((i + 1 : Nat) : Int) = (i : Int) + 1 by omega] at hr
    exact hr
theorem laws_marks_ev (l : List Int) (hl : l.length ≤ 1000000) : ∃ l', (∃ K, ∀ k, K ≤ k → laws_markIntS.f k l 1 = some (1 + (l.length : Int), l')) ∧ (∃ K, ∀ k, K ≤ k → laws_heldIntS.f k l' 1 = some (1 + (l.length : Int))) := by
  obtain ⟨l', h1, h2, K, hK⟩ := laws_markIntS_l l.length hl 1 (by omega) (by omega) l.length 0 l (by omega) rfl (fun j hj => by omega)
  refine ⟨l', ⟨K, fun k hk => ?_⟩, ?_⟩
  · have := hK k hk
    simpa [laws_markIntS.f] using this
  · obtain ⟨K, hK⟩ := laws_heldIntS_l l.length hl 1 (by omega) (by omega) l' h1 h2 l.length 0 (by omega)
    refine ⟨K, fun k hk => ?_⟩
    have := hK k hk
    simpa [laws_heldIntS.f] using this

def fallS (p : ByteArray) (x : Int) (bs : List Int) : Nat → Int → Int → Int × Int
  | 0, n, st => (n, st)
  | d + 1, n, st => if 0 < n ∧ ¬ x = bt p n then fallS p x bs d (rd bs (n - 1)) (st + 1) else (n, st)
def stepS (p : ByteArray) (x : Int) (n : Int) : Int := if x = bt p n then n + 1 else n
def srch (p s : ByteArray) (bs : List Int) : Nat → Nat → List Int → Int → Int → List Int × Int
  | 0, _, out, _, st => (out, st)
  | d + 1, i, out, n, st =>
    if stepS p (bt s i) (fallS p (bt s i) bs p.size n st).1 = (p.size : Int) then
      srch p s bs d (i + 1) (out ++ [(i : Int) + 1 - stepS p (bt s i) (fallS p (bt s i) bs p.size n st).1]) (rd bs (stepS p (bt s i) (fallS p (bt s i) bs p.size n st).1 - 1)) ((fallS p (bt s i) bs p.size n st).2 + 1)
    else srch p s bs d (i + 1) out (stepS p (bt s i) (fallS p (bt s i) bs p.size n st).1) ((fallS p (bt s i) bs p.size n st).2 + 1)
theorem fallS_le {p : ByteArray} {x : Int} {bs : List Int} {i : Nat} (h : InvM bs i) : ∀ (d : Nat) (n st : Int), 0 ≤ n → n ≤ i → 0 ≤ (fallS p x bs d n st).1 ∧ (fallS p x bs d n st).1 ≤ n ∧ st ≤ (fallS p x bs d n st).2 ∧ (fallS p x bs d n st).2 ≤ st + (n - (fallS p x bs d n st).1) := by
  intro d
  induction d with
  | zero => intro n st h0 h1; simp only [fallS]; omega
  | succ d ih =>
    intro n st h0 h1
    simp only [fallS]
    by_cases c : 0 < n ∧ ¬ x = bt p n
    · rw [if_pos c]
      have h2 := h.sub c.1 h1
      have h3 := ih (rd bs (n - 1)) (st + 1) (by omega) (by omega)
      omega
    · rw [if_neg c]; simp only; omega
theorem fallS_stop {p : ByteArray} {x : Int} {bs : List Int} {i : Nat} (h : InvM bs i) : ∀ (d : Nat) (n st : Int), 0 ≤ n → n ≤ i → n ≤ d → (fallS p x bs d n st).1 = 0 ∨ x = bt p (fallS p x bs d n st).1 := by
  intro d
  induction d with
  | zero => intro n st h0 h1 h2; simp only [fallS]; omega
  | succ d ih =>
    intro n st h0 h1 h2
    simp only [fallS]
    by_cases c : 0 < n ∧ ¬ x = bt p n
    · rw [if_pos c]
      have h2 := h.sub c.1 h1
      exact ih (rd bs (n - 1)) (st + 1) (by omega) (by omega) (by omega)
    · rw [if_neg c]; simp only; omega
theorem srch_len (p s : ByteArray) (bs : List Int) : ∀ (d i : Nat) (out : List Int) (n st : Int), (srch p s bs d i out n st).1.length ≤ out.length + d := by
  intro d
  induction d with
  | zero => intro i out n st; simp [srch]
  | succ d ih =>
    intro i out n st
    simp only [srch]
    split
    · have := ih (i + 1) (out ++ [(i : Int) + 1 - stepS p (bt s i) (fallS p (bt s i) bs p.size n st).1]) (rd bs (stepS p (bt s i) (fallS p (bt s i) bs p.size n st).1 - 1)) ((fallS p (bt s i) bs p.size n st).2 + 1)
      simp only [List.length_append, List.length_cons, List.length_nil] at this
      omega
    · have := ih (i + 1) out (stepS p (bt s i) (fallS p (bt s i) bs p.size n st).1) ((fallS p (bt s i) bs p.size n st).2 + 1)
      omega

theorem impl_search_end (p s : ByteArray) (hp : p.size ≤ 300) (h0 : 0 < p.size) (hs : s.size ≤ 300) (bs : List Int) (hl : bs.length = p.size) (hb : InvM bs p.size) (i : Nat) (hi : i < s.size) (out : List Int) (ho : out.length ≤ i) (n st : Int) (hn0 : 0 ≤ n) (hn1 : n < p.size) (hst : 0 ≤ st) (hst2 : st ≤ 1000000) (r : List Int × Int)
    (H : ∃ K, ∀ k, K ≤ k → (if stepS p (bt s i) n = (p.size : Int) then impl_search.l0 k p s bs (out ++ [(i : Int) + 1 - stepS p (bt s i) n]) (rd bs (stepS p (bt s i) n - 1)) (st + 1) (s.size : Int) ((i : Int) + 1) else impl_search.l0 k p s bs out (stepS p (bt s i) n) (st + 1) (s.size : Int) ((i : Int) + 1)) = some r) :
    ∃ K, ∀ k, K ≤ k → impl_search.j2 k p s bs out n st (i : Int) (s.size : Int) (i : Int) = some r := by
  obtain ⟨K, hK⟩ := H
  refine ⟨K + 1, fun k hk => ?_⟩
  obtain ⟨k, rfl⟩ : ∃ m, k = m + 1 := ⟨k - 1, by omega⟩
  have hr := hK k (by omega)
  unfold stepS at hr
  simp only [impl_search.j2]
  by_cases c : bt s (i : Int) = bt p n
  · rw [if_pos c] at hr
    by_cases g : n + 1 = (p.size : Int)
    · rw [if_pos g] at hr
      simp (disch := omega) only [w64, if_pos, Int.add_sub_cancel]
      rw [Int.add_sub_cancel] at hr
      exact hr
    · rw [if_neg g] at hr
      simp (disch := omega) only [w64, if_pos, if_neg]
      exact hr
  · rw [if_neg c, if_neg (by omega)] at hr
    simp (disch := omega) only [w64, if_pos, if_neg]
    exact hr
theorem impl_search_in (p s : ByteArray) (hp : p.size ≤ 300) (h0 : 0 < p.size) (hs : s.size ≤ 300) (bs : List Int) (hl : bs.length = p.size) (hb : InvM bs p.size) (i : Nat) (hi : i < s.size) (out : List Int) (ho : out.length ≤ i) (r : List Int × Int) :
    ∀ (d : Nat) (n st : Int), 0 ≤ n → n < p.size → n ≤ d → 0 ≤ st → st ≤ 200000 + ((p.size : Int) - n) →
    (∃ K, ∀ k, K ≤ k → (if stepS p (bt s i) (fallS p (bt s i) bs d n st).1 = (p.size : Int) then impl_search.l0 k p s bs (out ++ [(i : Int) + 1 - stepS p (bt s i) (fallS p (bt s i) bs d n st).1]) (rd bs (stepS p (bt s i) (fallS p (bt s i) bs d n st).1 - 1)) ((fallS p (bt s i) bs d n st).2 + 1) (s.size : Int) ((i : Int) + 1) else impl_search.l0 k p s bs out (stepS p (bt s i) (fallS p (bt s i) bs d n st).1) ((fallS p (bt s i) bs d n st).2 + 1) (s.size : Int) ((i : Int) + 1)) = some r) →
    ∃ K, ∀ k, K ≤ k → impl_search.l1 k p s bs out n st (i : Int) (s.size : Int) (i : Int) = some r := by
  intro d
  induction d with
  | zero =>
    intro n st hn0 hn1 hn2 hst hst2 H
    have hz : n = 0 := by omega
    obtain ⟨K, hK⟩ := impl_search_end p s hp h0 hs bs hl hb i hi out ho n st hn0 hn1 hst (by omega) r H
    refine ⟨K + 1, fun k hk => ?_⟩
    obtain ⟨k, rfl⟩ : ∃ m, k = m + 1 := ⟨k - 1, by omega⟩
    have hr := hK k (by omega)
    simp only [impl_search.l1]
    simp (disch := omega) only [if_neg]
    exact hr
  | succ d ih =>
    intro n st hn0 hn1 hn2 hst hst2 H
    by_cases c : 0 < n ∧ ¬ bt s (i : Int) = bt p n
    · have hsub := hb.sub c.1 (by omega)
      simp only [fallS, if_pos c] at H
      obtain ⟨K, hK⟩ := ih (rd bs (n - 1)) (st + 1) (by omega) (by omega) (by omega) (by omega) (by omega) H
      refine ⟨K + 1, fun k hk => ?_⟩
      obtain ⟨k, rfl⟩ : ∃ m, k = m + 1 := ⟨k - 1, by omega⟩
      have hr := hK k (by omega)
      have c2 := c.2
      simp only [impl_search.l1]
      simp (disch := omega) only [w64, if_pos, if_neg]
      exact hr
    · simp only [fallS, if_neg c] at H
      obtain ⟨K, hK⟩ := impl_search_end p s hp h0 hs bs hl hb i hi out ho n st hn0 hn1 hst (by omega) r H
      refine ⟨K + 1, fun k hk => ?_⟩
      obtain ⟨k, rfl⟩ : ∃ m, k = m + 1 := ⟨k - 1, by omega⟩
      have hr := hK k (by omega)
      simp only [impl_search.l1]
      by_cases g : n > 0
      · have e : bt s (i : Int) = bt p n := by
          by_cases e : bt s (i : Int) = bt p n
          · exact e
          · exact absurd ⟨g, e⟩ c
        simp (disch := omega) only [if_pos]
        exact hr
      · simp (disch := omega) only [if_neg]
        exact hr
theorem impl_search_l (p s : ByteArray) (hp : p.size ≤ 300) (h0 : 0 < p.size) (hs : s.size ≤ 300) (bs : List Int) (hl : bs.length = p.size) (hb : InvM bs p.size) : ∀ (d i : Nat) (out : List Int) (n st : Int), i + d = s.size → out.length ≤ i → 0 ≤ n → n < p.size → 0 ≤ st → st ≤ 400 * (i : Int) →
    ∃ K, ∀ k, K ≤ k → impl_search.l0 k p s bs out n st (s.size : Int) (i : Int) = some (srch p s bs d i out n st) := by
  intro d
  induction d with
  | zero =>
    intro i out n st hi ho hn0 hn1 hst hst2
    refine ⟨1, fun k hk => ?_⟩
    obtain ⟨k, rfl⟩ : ∃ m, k = m + 1 := ⟨k - 1, by omega⟩
    simp only [impl_search.l0]
    rw [if_neg (by omega)]; rfl
  | succ d ih =>
    intro i out n st hi ho hn0 hn1 hst hst2
    have hf := fallS_le (p := p) (x := bt s (i : Int)) hb p.size n st hn0 (by omega)
    have hsub := hb.sub (n := (p.size : Int)) (by omega) (by omega)
    obtain ⟨K, hK⟩ := impl_search_in p s hp h0 hs bs hl hb i (by omega) out ho (srch p s bs (d + 1) i out n st) p.size n st hn0 hn1 (by omega) hst (by omega) (by
      by_cases g : stepS p (bt s (i : Int)) (fallS p (bt s (i : Int)) bs p.size n st).1 = (p.size : Int)
      · obtain ⟨K, hK⟩ := ih (i + 1) (out ++ [(i : Int) + 1 - stepS p (bt s i) (fallS p (bt s i) bs p.size n st).1]) (rd bs (stepS p (bt s i) (fallS p (bt s i) bs p.size n st).1 - 1)) ((fallS p (bt s i) bs p.size n st).2 + 1) (by omega) (by simp; omega) (by rw [g]; omega) (by rw [g]; omega) (by omega) (by omega)
        refine ⟨K, fun k hk => ?_⟩
        simp only [srch]
        rw [if_pos g, if_pos g]
        exact hK k hk
      · have hst3 : 0 ≤ stepS p (bt s (i : Int)) (fallS p (bt s (i : Int)) bs p.size n st).1 ∧ stepS p (bt s (i : Int)) (fallS p (bt s (i : Int)) bs p.size n st).1 ≤ (p.size : Int) := by unfold stepS; split <;> omega
        obtain ⟨K, hK⟩ := ih (i + 1) out (stepS p (bt s i) (fallS p (bt s i) bs p.size n st).1) ((fallS p (bt s i) bs p.size n st).2 + 1) (by omega) (by omega) (by omega) (by omega) (by omega) (by omega)
        refine ⟨K, fun k hk => ?_⟩
        simp only [srch]
        rw [if_neg g, if_neg g]
        exact hK k hk)
    refine ⟨K + 1, fun k hk => ?_⟩
    obtain ⟨k, rfl⟩ : ∃ m, k = m + 1 := ⟨k - 1, by omega⟩
    have hr := hK k (by omega)
    simp only [impl_search.l0]
    rw [if_pos (by omega)]
    exact hr
def found (p s : ByteArray) : List Int × Int := srch p s (bords p) s.size 0 [] 0 0
theorem impl_search_ev (p s : ByteArray) (hp : p.size ≤ 300) (h0 : 0 < p.size) (hs : s.size ≤ 300) : ∃ K, ∀ k, K ≤ k → impl_search.f k p s = some (found p s) := by
  obtain ⟨K1, h1⟩ := impl_borders_ev p hp h0
  obtain ⟨K2, h2⟩ := impl_search_l p s hp h0 hs (bords p) (bords_length p) (bords_inv p h0) s.size 0 [] 0 0 (by omega) (by simp) (by omega) (by omega) (by omega) (by omega)
  refine ⟨max K1 K2, fun k hk => ?_⟩
  unfold impl_search.f
  rw [h1 k (by omega), Option.bind_some]
  exact h2 k (by omega)

theorem spec_l11Find_end (p s : ByteArray) (hp : p.size ≤ 300) (h0 : 0 < p.size) (hs : s.size ≤ 300) (bs : List Int) (hl : bs.length = p.size) (hb : InvM bs p.size) (i : Nat) (hi : i < s.size) (out : List Int) (ho : out.length ≤ i) (n st : Int) (hn0 : 0 ≤ n) (hn1 : n < p.size) (hst : 0 ≤ st) (hst2 : st ≤ 1000000) (r : List Int × Int)
    (H : ∃ K, ∀ k, K ≤ k → (if stepS p (bt s i) n = (p.size : Int) then spec_l11Find.l0 k p s bs (out ++ [(i : Int) + 1 - stepS p (bt s i) n]) (st + 1) (rd bs (stepS p (bt s i) n - 1)) ((i : Int) + 1) else spec_l11Find.l0 k p s bs out (st + 1) (stepS p (bt s i) n) ((i : Int) + 1)) = some r) :
    ∃ K, ∀ k, K ≤ k → spec_l11Find.j2 k p s bs out st n (i : Int) = some r := by
  obtain ⟨K, hK⟩ := H
  refine ⟨K + 1, fun k hk => ?_⟩
  obtain ⟨k, rfl⟩ : ∃ m, k = m + 1 := ⟨k - 1, by omega⟩
  have hr := hK k (by omega)
  unfold stepS at hr
  simp only [spec_l11Find.j2]
  by_cases c : bt s (i : Int) = bt p n
  · rw [if_pos c] at hr
    by_cases g : n + 1 = (p.size : Int)
    · rw [if_pos g] at hr
      simp (disch := omega) only [w64, if_pos, Int.add_sub_cancel]
      rw [Int.add_sub_cancel] at hr
      exact hr
    · rw [if_neg g] at hr
      simp (disch := omega) only [w64, if_pos, if_neg]
      exact hr
  · rw [if_neg c, if_neg (by omega)] at hr
    simp (disch := omega) only [w64, if_pos, if_neg]
    exact hr
theorem spec_l11Find_in (p s : ByteArray) (hp : p.size ≤ 300) (h0 : 0 < p.size) (hs : s.size ≤ 300) (bs : List Int) (hl : bs.length = p.size) (hb : InvM bs p.size) (i : Nat) (hi : i < s.size) (out : List Int) (ho : out.length ≤ i) (r : List Int × Int) :
    ∀ (d : Nat) (n st : Int), 0 ≤ n → n < p.size → n ≤ d → 0 ≤ st → st ≤ 200000 + ((p.size : Int) - n) →
    (∃ K, ∀ k, K ≤ k → (if stepS p (bt s i) (fallS p (bt s i) bs d n st).1 = (p.size : Int) then spec_l11Find.l0 k p s bs (out ++ [(i : Int) + 1 - stepS p (bt s i) (fallS p (bt s i) bs d n st).1]) ((fallS p (bt s i) bs d n st).2 + 1) (rd bs (stepS p (bt s i) (fallS p (bt s i) bs d n st).1 - 1)) ((i : Int) + 1) else spec_l11Find.l0 k p s bs out ((fallS p (bt s i) bs d n st).2 + 1) (stepS p (bt s i) (fallS p (bt s i) bs d n st).1) ((i : Int) + 1)) = some r) →
    ∃ K, ∀ k, K ≤ k → spec_l11Find.l1 k p s bs out st n (i : Int) = some r := by
  intro d
  induction d with
  | zero =>
    intro n st hn0 hn1 hn2 hst hst2 H
    have hz : n = 0 := by omega
    obtain ⟨K, hK⟩ := spec_l11Find_end p s hp h0 hs bs hl hb i hi out ho n st hn0 hn1 hst (by omega) r H
    refine ⟨K + 1, fun k hk => ?_⟩
    obtain ⟨k, rfl⟩ : ∃ m, k = m + 1 := ⟨k - 1, by omega⟩
    have hr := hK k (by omega)
    simp only [spec_l11Find.l1]
    simp (disch := omega) only [if_neg]
    exact hr
  | succ d ih =>
    intro n st hn0 hn1 hn2 hst hst2 H
    by_cases c : 0 < n ∧ ¬ bt s (i : Int) = bt p n
    · have hsub := hb.sub c.1 (by omega)
      simp only [fallS, if_pos c] at H
      obtain ⟨K, hK⟩ := ih (rd bs (n - 1)) (st + 1) (by omega) (by omega) (by omega) (by omega) (by omega) H
      refine ⟨K + 1, fun k hk => ?_⟩
      obtain ⟨k, rfl⟩ : ∃ m, k = m + 1 := ⟨k - 1, by omega⟩
      have hr := hK k (by omega)
      have c2 := c.2
      simp only [spec_l11Find.l1]
      simp (disch := omega) only [w64, if_pos, if_neg]
      exact hr
    · simp only [fallS, if_neg c] at H
      obtain ⟨K, hK⟩ := spec_l11Find_end p s hp h0 hs bs hl hb i hi out ho n st hn0 hn1 hst (by omega) r H
      refine ⟨K + 1, fun k hk => ?_⟩
      obtain ⟨k, rfl⟩ : ∃ m, k = m + 1 := ⟨k - 1, by omega⟩
      have hr := hK k (by omega)
      simp only [spec_l11Find.l1]
      by_cases g : n > 0
      · have e : bt s (i : Int) = bt p n := by
          by_cases e : bt s (i : Int) = bt p n
          · exact e
          · exact absurd ⟨g, e⟩ c
        simp (disch := omega) only [if_pos]
        exact hr
      · simp (disch := omega) only [if_neg]
        exact hr
theorem spec_l11Find_l (p s : ByteArray) (hp : p.size ≤ 300) (h0 : 0 < p.size) (hs : s.size ≤ 300) (bs : List Int) (hl : bs.length = p.size) (hb : InvM bs p.size) : ∀ (d i : Nat) (out : List Int) (n st : Int), i + d = s.size → out.length ≤ i → 0 ≤ n → n < p.size → 0 ≤ st → st ≤ 400 * (i : Int) →
    ∃ K, ∀ k, K ≤ k → spec_l11Find.l0 k p s bs out st n (i : Int) = some (srch p s bs d i out n st) := by
  intro d
  induction d with
  | zero =>
    intro i out n st hi ho hn0 hn1 hst hst2
    refine ⟨1, fun k hk => ?_⟩
    obtain ⟨k, rfl⟩ : ∃ m, k = m + 1 := ⟨k - 1, by omega⟩
    simp only [spec_l11Find.l0]
    rw [if_neg (by omega)]; rfl
  | succ d ih =>
    intro i out n st hi ho hn0 hn1 hst hst2
    have hf := fallS_le (p := p) (x := bt s (i : Int)) hb p.size n st hn0 (by omega)
    have hsub := hb.sub (n := (p.size : Int)) (by omega) (by omega)
    obtain ⟨K, hK⟩ := spec_l11Find_in p s hp h0 hs bs hl hb i (by omega) out ho (srch p s bs (d + 1) i out n st) p.size n st hn0 hn1 (by omega) hst (by omega) (by
      by_cases g : stepS p (bt s (i : Int)) (fallS p (bt s (i : Int)) bs p.size n st).1 = (p.size : Int)
      · obtain ⟨K, hK⟩ := ih (i + 1) (out ++ [(i : Int) + 1 - stepS p (bt s i) (fallS p (bt s i) bs p.size n st).1]) (rd bs (stepS p (bt s i) (fallS p (bt s i) bs p.size n st).1 - 1)) ((fallS p (bt s i) bs p.size n st).2 + 1) (by omega) (by simp; omega) (by rw [g]; omega) (by rw [g]; omega) (by omega) (by omega)
        refine ⟨K, fun k hk => ?_⟩
        simp only [srch]
        rw [if_pos g, if_pos g]
        exact hK k hk
      · have hst3 : 0 ≤ stepS p (bt s (i : Int)) (fallS p (bt s (i : Int)) bs p.size n st).1 ∧ stepS p (bt s (i : Int)) (fallS p (bt s (i : Int)) bs p.size n st).1 ≤ (p.size : Int) := by unfold stepS; split <;> omega
        obtain ⟨K, hK⟩ := ih (i + 1) out (stepS p (bt s i) (fallS p (bt s i) bs p.size n st).1) ((fallS p (bt s i) bs p.size n st).2 + 1) (by omega) (by omega) (by omega) (by omega) (by omega) (by omega)
        refine ⟨K, fun k hk => ?_⟩
        simp only [srch]
        rw [if_neg g, if_neg g]
        exact hK k hk)
    refine ⟨K + 1, fun k hk => ?_⟩
    obtain ⟨k, rfl⟩ : ∃ m, k = m + 1 := ⟨k - 1, by omega⟩
    have hr := hK k (by omega)
    simp only [spec_l11Find.l0]
    rw [if_pos (by omega)]
    exact hr
theorem spec_l11Find_ev (p s : ByteArray) (hp : p.size ≤ 300) (h0 : 0 < p.size) (hs : s.size ≤ 300) : ∃ K, ∀ k, K ≤ k → spec_l11Find.f k p s = some (found p s) := by
  obtain ⟨K1, h1⟩ := spec_l11Borders_ev p hp h0
  obtain ⟨K2, h2⟩ := spec_l11Find_l p s hp h0 hs (bords p) (bords_length p) (bords_inv p h0) s.size 0 [] 0 0 (by omega) (by simp) (by omega) (by omega) (by omega) (by omega)
  refine ⟨max K1 K2, fun k hk => ?_⟩
  unfold spec_l11Find.f
  rw [h1 k (by omega), Option.bind_some]
  exact h2 k (by omega)

theorem impl_FindAll_ev (p s : ByteArray) (hp : p.size ≤ 140737488351232) (hs : s.size ≤ 140737488351232) : ∃ l b, l.length ≤ 1000000 ∧ (∃ K, ∀ k, K ≤ k → impl_FindAll.f k p s = some (l, b)) ∧ (∃ K, ∀ k, K ≤ k → spec_FindAll.f k p s = some (l, b)) := by
  obtain ⟨K3, h3⟩ := impl_GoodText_ev p hp
  obtain ⟨K3', h3'⟩ := impl_GoodText_ev s hs
  obtain ⟨K4, h4⟩ := spec_l9Texts_ev p s hp hs
  by_cases hz : p.size = 0
  · have := (toList_nil p).mpr hz
    refine ⟨[], false, by simp, ⟨0, fun k _ => ?_⟩, ⟨0, fun k _ => ?_⟩⟩
    · unfold impl_FindAll.f impl_isSought.f; simp [this]
    · unfold spec_FindAll.f spec_l11Said.f; simp [this]
  have hn : ¬ p.toList = [] := fun h => hz ((toList_nil p).mp h)
  cases ht : textB p && textB s with
  | false =>
    refine ⟨[], false, by simp, ⟨max K3 K3', fun k hk => ?_⟩, ⟨K4, fun k hk => ?_⟩⟩
    · unfold impl_FindAll.f impl_isSought.f
      rw [if_neg hn, h3 k (by omega), h3' k (by omega)]
      revert ht
      cases textB p <;> cases textB s <;> simp
    · unfold spec_FindAll.f spec_l11Said.f; simp [hn, h4 k hk, ht]
  | true =>
    have ht' := ht
    simp only [Bool.and_eq_true] at ht'
    have hsp := textB_size ht'.1
    have hss := textB_size ht'.2
    obtain ⟨K1, h1⟩ := impl_search_ev p s hsp (by omega) hss
    obtain ⟨K2, h2⟩ := spec_l11Find_ev p s hsp (by omega) hss
    have hlen := srch_len p s (bords p) s.size 0 [] 0 0
    simp only [List.length_nil] at hlen
    refine ⟨(found p s).1, true, by unfold found; omega, ⟨max K1 (max K3 K3'), fun k hk => ?_⟩, ⟨max K2 K4, fun k hk => ?_⟩⟩
    · unfold impl_FindAll.f impl_isSought.f; simp [hn, h3 k (by omega), h3' k (by omega), h1 k (by omega), ht'.1, ht'.2]
    · unfold spec_FindAll.f spec_l11Said.f; simp [hn, h4 k (by omega), h2 k (by omega), ht]
theorem FnExactFindAll : laws_FnExactFindAll.Pure := by
  intro p s hp hs
  obtain ⟨l, b, hl, ⟨K1, h1⟩, ⟨K2, h2⟩⟩ := impl_FindAll_ev p s hp hs
  obtain ⟨K3, h3⟩ := laws_eqIntS_ev l l hl
  obtain ⟨l', ⟨K4, h4⟩, ⟨K5, h5⟩⟩ := laws_marks_ev l hl
  refine ⟨max (max K1 K2) (max K3 (max K4 K5)) + 3, ?_⟩
  have e1 : ∀ k, max (max K1 K2) (max K3 (max K4 K5)) ≤ k → _ := fun k hk => h1 k (by omega)
  have e2 : ∀ k, max (max K1 K2) (max K3 (max K4 K5)) ≤ k → _ := fun k hk => h2 k (by omega)
  have e3 : ∀ k, max (max K1 K2) (max K3 (max K4 K5)) ≤ k → _ := fun k hk => h3 k (by omega)
  have e4 : ∀ k, max (max K1 K2) (max K3 (max K4 K5)) ≤ k → _ := fun k hk => h4 k (by omega)
  have e5 : ∀ k, max (max K1 K2) (max K3 (max K4 K5)) ≤ k → _ := fun k hk => h5 k (by omega)
  generalize max (max K1 K2) (max K3 (max K4 K5)) = m at *
  unfold laws_FnExactFindAll.f
  split
  · rfl
  split
  · rfl
  rw [e2 _ (by omega), e1 _ (by omega)]
  simp only [Option.bind_some]
  rw [e3 _ (by omega)]
  simp only [Option.bind_some, decide_true, if_true, bne_self_eq_false]
  unfold laws_FnExactFindAll.j0
  simp only [Bool.false_eq_true, if_false]
  rw [e4 _ (by omega)]
  simp only [Option.bind_some]
  rw [e5 _ (by omega)]
  simp only [Option.bind_some]
  rw [if_neg (by omega), if_pos trivial, e1 _ (by omega)]
  simp only [Option.bind_some]
  rw [e3 _ (by omega)]
  simp only [Option.bind_some, decide_true, if_true, bne_self_eq_false]
  unfold laws_FnExactFindAll.j1
  simp only [Bool.false_eq_true, if_false]
  rw [e5 _ (by omega)]
  simp only [Option.bind_some]
  rw [if_neg (by omega), if_pos trivial]

end Go.Proofs.Ytibedlbjkaikiaa.Pure
