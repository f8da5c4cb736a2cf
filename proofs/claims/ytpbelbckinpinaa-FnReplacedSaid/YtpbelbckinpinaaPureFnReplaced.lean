/- What is replaced is so by its change, too, makes the text longer by just that, and what is replaced by itself stays, for drawn texts. -/
import Derived.Test.YtpbelbckinpinaaAFnReplacedx14
set_option linter.unusedVariables false
set_option linter.unusedSimpArgs false
namespace Go.Proofs.Ytpbelbckinpinaa.Pure
open Go.RowKit Go.Proofs.Ytpbelbckinpinaa.AFnReplaced Go.Proofs.YtpbelbckinpinaaW.PrintWords Go.Proofs.YtpbelbckinpinaaW.PrintLast Go.Proofs.YtpbelbckinpinaaW.PrintMore

theorem w64 {i : Int} (h0 : -4611686018427387904 ≤ i) (h : i ≤ 4611686018427387904) : wrap64 i = i := by
  unfold wrap64; omega

def nmB (c : Int) : Bool := decide (65 ≤ c) && decide (c ≤ 70)
def plB (c : Int) : Bool := (decide (97 ≤ c) && decide (c ≤ 122)) || ((decide (48 ≤ c) && decide (c ≤ 57)) || (decide (c = 32) || (decide (c = 46) || decide (c = 44))))
def okB (c : Int) : Bool := nmB c || (plB c || decide (c = 47))
def okN (s : ByteArray) : Nat → Nat → Bool
  | 0, _ => true
  | d + 1, i => okB (bt s i) && okN s d (i + 1)
def textB (s : ByteArray) : Bool := okN s s.size 0 && decide (s.size ≤ 300)

theorem textB_size {s : ByteArray} (h : textB s = true) : s.size ≤ 300 := by
  unfold textB at h; simp at h; exact h.2

theorem impl_isName_eq (c : Int) : impl_isName.f c = some (nmB c) := by
  unfold impl_isName.f nmB
  by_cases h1 : c ≥ 65 <;> simp [h1] <;> omega
theorem impl_isPlain_eq (c : Int) : impl_isPlain.f c = some (plB c) := by
  unfold impl_isPlain.f plB
  by_cases h1 : 97 ≤ c <;> by_cases h2 : c ≤ 122 <;> by_cases h3 : 48 ≤ c <;> by_cases h4 : c ≤ 57 <;> by_cases h5 : c = 32 <;> by_cases h6 : c = 46 <;> simp [h1, h2, h3, h4, h5, h6] <;> rfl
theorem impl_GoodText_l (s : ByteArray) (hs : s.size ≤ 140737488351232) : ∀ (d i : Nat), i + d = s.size →
    ∃ K, ∀ k, K ≤ k → impl_GoodText.l0 k s (s.size : Int) (i : Int) = some (okN s d i && decide (s.size ≤ 300)) := by
  intro d
  induction d with
  | zero =>
    intro i hi
    refine ⟨1, fun k hk => ?_⟩
    obtain ⟨k, rfl⟩ : ∃ m, k = m + 1 := ⟨k - 1, by omega⟩
    simp only [impl_GoodText.l0]
    rw [if_neg (by omega)]
    simp [okN]
    omega
  | succ d ih =>
    intro i hi
    obtain ⟨K, hK⟩ := ih (i + 1) (by omega)
    refine ⟨K + 1, fun k hk => ?_⟩
    obtain ⟨k, rfl⟩ : ∃ m, k = m + 1 := ⟨k - 1, by omega⟩
    have hr := hK k (by omega)
    simp only [impl_GoodText.l0]
    rw [if_pos (by omega), if_pos (by omega), if_pos (by omega), impl_isName_eq, Option.bind_some, impl_isPlain_eq, Option.bind_some, w64 (by omega) (by omega)]
    have hc : ((i : Int) + 1) = ((i + 1 : Nat) : Int) := by omega
    rw [hc, hr]
    show _ = some ((okB (bt s i) && okN s d (i + 1)) && _)
    unfold okB
    cases nmB (bt s i) <;> cases plB (bt s i) <;> by_cases h : bt s i = 47 <;> simp [h]
theorem impl_GoodText_ev (s : ByteArray) (hs : s.size ≤ 140737488351232) : ∃ K, ∀ k, K ≤ k → impl_GoodText.f k s = some (textB s) := by
  obtain ⟨K, hK⟩ := impl_GoodText_l s hs s.size 0 (by omega)
  exact ⟨K, fun k hk => by unfold impl_GoodText.f; exact hK k hk⟩

theorem spec_l1Open_eq (c : Int) : spec_l1Open.f c = some (nmB c) := by
  unfold spec_l1Open.f nmB
  by_cases h1 : c ≥ 65 <;> simp [h1] <;> omega
theorem spec_l1Plain_eq (c : Int) : spec_l1Plain.f c = some (plB c) := by
  unfold spec_l1Plain.f plB
  by_cases h1 : 97 ≤ c <;> by_cases h2 : c ≤ 122 <;> by_cases h3 : 48 ≤ c <;> by_cases h4 : c ≤ 57 <;> by_cases h5 : c = 32 <;> by_cases h6 : c = 46 <;> simp [h1, h2, h3, h4, h5, h6] <;> rfl
theorem spec_l1Text_l (s : ByteArray) (hs : s.size ≤ 140737488351232) : ∀ (d i : Nat), i + d = s.size →
    ∃ K, ∀ k, K ≤ k → spec_l1Text.l0 k s (i : Int) = some (okN s d i) := by
  intro d
  induction d with
  | zero =>
    intro i hi
    refine ⟨1, fun k hk => ?_⟩
    obtain ⟨k, rfl⟩ : ∃ m, k = m + 1 := ⟨k - 1, by omega⟩
    simp only [spec_l1Text.l0]
    rw [if_neg (by omega)]
    simp [okN]
  | succ d ih =>
    intro i hi
    obtain ⟨K, hK⟩ := ih (i + 1) (by omega)
    refine ⟨K + 1, fun k hk => ?_⟩
    obtain ⟨k, rfl⟩ : ∃ m, k = m + 1 := ⟨k - 1, by omega⟩
    have hr := hK k (by omega)
    simp only [spec_l1Text.l0]
    rw [if_pos (by omega), if_pos (by omega), spec_l1Open_eq, Option.bind_some, spec_l1Plain_eq, Option.bind_some, w64 (by omega) (by omega)]
    have hc : ((i : Int) + 1) = ((i + 1 : Nat) : Int) := by omega
    rw [hc, hr]
    show _ = some (okB (bt s i) && okN s d (i + 1))
    unfold okB
    cases nmB (bt s i) <;> cases plB (bt s i) <;> by_cases h : bt s i = 47 <;> simp [h]
theorem spec_GoodText_ev (s : ByteArray) (hs : s.size ≤ 140737488351232) : ∃ K, ∀ k, K ≤ k → spec_GoodText.f k s = some (textB s) := by
  obtain ⟨K, hK⟩ := spec_l1Text_l s hs s.size 0 (by omega)
  refine ⟨K, fun k hk => ?_⟩
  have h := hK k hk
  unfold spec_GoodText.f spec_l1Text.f
  simp only [Int.cast_ofNat_Int] at h
  rw [h, Option.bind_some]
  unfold textB
  cases okN s s.size 0 <;> simp <;> omega

theorem spec_l9Texts_ev (a b : ByteArray) (ha : a.size ≤ 140737488351232) (hb : b.size ≤ 140737488351232) : ∃ K, ∀ k, K ≤ k → spec_l9Texts.f k a b = some (textB a && textB b) := by
  obtain ⟨K, hK⟩ := spec_GoodText_ev a ha
  obtain ⟨K', hK'⟩ := spec_GoodText_ev b hb
  refine ⟨max K K', fun k hk => ?_⟩
  have h1 := hK k (by omega)
  have h2 := hK' k (by omega)
  unfold spec_l9Texts.f
  rw [h1, Option.bind_some, h2, Option.bind_some]
  cases textB a <;> simp

theorem toList_length (s : ByteArray) : s.toList.length = s.size := by
  have h : ∀ (n i : Nat) (r : List UInt8), s.size - i = n → (ByteArray.toList.loop s i r).length = r.length + n := by
    intro n
    induction n with
    | zero => intro i r h; unfold ByteArray.toList.loop; rw [if_neg (by omega)]; simp
    | succ n ih => intro i r h; unfold ByteArray.toList.loop; rw [if_pos (by omega), ih (i + 1) _ (by omega)]; simp; omega
  unfold ByteArray.toList
  rw [h s.size 0 [] (by omega)]; simp
theorem toList_nil (s : ByteArray) : s.toList = [] ↔ s.size = 0 := by
  rw [← toList_length s]; exact List.length_eq_zero_iff.symm
theorem rd_set {bs : List Int} {i : Nat} {v : Int} (h : i < bs.length) (j : Nat) : rd (bs.set i v) (j : Int) = if j = i then v else rd bs (j : Int) := by
  unfold rd
  simp only [Int.toNat_natCast, List.getD_eq_getElem?_getD]
  by_cases e : j = i
  · subst e; simp [h]
  · rw [List.getElem?_set_ne (by omega)]; simp [e]
def fallM (s : ByteArray) (x : Int) (bs : List Int) : Nat → Int → Int
  | 0, n => n
  | d + 1, n => if 0 < n ∧ ¬ bt s n = x then fallM s x bs d (rd bs (n - 1)) else n
def stepM (s : ByteArray) (x : Int) (n : Int) : Int := if bt s n = x then n + 1 else n
def bordM (s : ByteArray) (bs : List Int) (i : Nat) : Int := stepM s (bt s i) (fallM s (bt s i) bs i (rd bs ((i : Int) - 1)))
def bordsM (s : ByteArray) : Nat → Nat → List Int → List Int
  | 0, _, bs => bs
  | d + 1, i, bs => bordsM s d (i + 1) (bs.set i (bordM s bs i))
def InvM (bs : List Int) (i : Nat) : Prop := ∀ j : Nat, j < i → 0 ≤ rd bs (j : Int) ∧ rd bs (j : Int) ≤ j
theorem InvM.sub {bs : List Int} {i : Nat} (h : InvM bs i) {n : Int} (h0 : 0 < n) (h1 : n ≤ i) : 0 ≤ rd bs (n - 1) ∧ rd bs (n - 1) ≤ n - 1 := by
  have := h (n - 1).toNat (by omega)
  rw [show (((n - 1).toNat : Nat) : Int) = n - 1 by omega] at this
  exact this
theorem fallM_le {s : ByteArray} {x : Int} {bs : List Int} {i : Nat} (h : InvM bs i) : ∀ (d : Nat) (n : Int), 0 ≤ n → n ≤ i → 0 ≤ fallM s x bs d n ∧ fallM s x bs d n ≤ n := by
  intro d
  induction d with
  | zero => intro n h0 h1; simp only [fallM]; omega
  | succ d ih =>
    intro n h0 h1
    simp only [fallM]
    by_cases c : 0 < n ∧ ¬ bt s n = x
    · rw [if_pos c]
      have := h.sub c.1 h1
      have := ih (rd bs (n - 1)) (by omega) (by omega)
      omega
    · rw [if_neg c]; omega
theorem fallM_more {s : ByteArray} {x : Int} {bs : List Int} {i : Nat} (h : InvM bs i) : ∀ (d d' : Nat) (n : Int), 0 ≤ n → n ≤ i → n ≤ d → n ≤ d' → fallM s x bs d n = fallM s x bs d' n := by
  intro d
  induction d with
  | zero => 
    intro d' n h0 h1 h2 h3
    have : n = 0 := by omega
    subst this
    cases d' <;> simp [fallM]
  | succ d ih =>
    intro d' n h0 h1 h2 h3
    cases d' with
    | zero => have : n = 0 := by omega
              subst this; simp [fallM]
    | succ d' =>
      simp only [fallM]
      by_cases c : 0 < n ∧ ¬ bt s n = x
      · rw [if_pos c, if_pos c]
        have := h.sub c.1 h1
        exact ih d' _ (by omega) (by omega) (by omega) (by omega)
      · rw [if_neg c, if_neg c]
theorem bordM_le {s : ByteArray} {bs : List Int} {i : Nat} (h : InvM bs i) (hi : 0 < i) : 0 ≤ bordM s bs i ∧ bordM s bs i ≤ i := by
  have := h.sub (n := (i : Int)) (by omega) (by omega)
  have := fallM_le (s := s) (x := bt s i) h i (rd bs ((i : Int) - 1)) (by omega) (by omega)
  unfold bordM stepM
  split <;> omega
theorem InvM.next {s : ByteArray} {bs : List Int} {i : Nat} (h : InvM bs i) (hi : 0 < i) (hl : i < bs.length) : InvM (bs.set i (bordM s bs i)) (i + 1) := by
  intro j hj
  rw [rd_set hl]
  have := bordM_le (s := s) h hi
  by_cases e : j = i
  · rw [if_pos e]; omega
  · rw [if_neg e]; exact h j (by omega)
theorem bordsM_length (s : ByteArray) : ∀ (d i : Nat) (bs : List Int), (bordsM s d i bs).length = bs.length := by
  intro d
  induction d with
  | zero => intro i bs; rfl
  | succ d ih => intro i bs; simp only [bordsM]; rw [ih]; simp
theorem bordsM_inv (s : ByteArray) : ∀ (d i : Nat) (bs : List Int), 0 < i → i + d = s.size → bs.length = s.size → InvM bs i → InvM (bordsM s d i bs) s.size := by
  intro d
  induction d with
  | zero => intro i bs h0 h1 h2 h3; simp only [bordsM]; have : i = s.size := by omega
            rw [← this]; exact h3
  | succ d ih => intro i bs h0 h1 h2 h3; simp only [bordsM]; exact ih _ _ (by omega) (by omega) (by simpa using h2) (h3.next h0 (by omega))
def bords (s : ByteArray) : List Int := bordsM s (s.size - 1) 1 (List.replicate s.size 0)
theorem InvM.zeros (n : Nat) : InvM (List.replicate n 0) 1 := by
  intro j hj
  have : j = 0 := by omega
  subst this
  unfold rd
  cases n <;> simp [List.getD]
theorem bords_length (s : ByteArray) : (bords s).length = s.size := by unfold bords; rw [bordsM_length]; simp
theorem bords_inv (s : ByteArray) (h : 0 < s.size) : InvM (bords s) s.size := bordsM_inv s _ _ _ (by omega) (by omega) (by simp) (InvM.zeros _)

theorem impl_borders_in (s : ByteArray) (hs : s.size ≤ 140737488351232) (bs : List Int) (i : Nat) (r : List Int) (hi : i < s.size) (hl : bs.length = s.size) (hb : InvM bs i) : ∀ (d : Nat) (n : Int), 0 ≤ n → n < i → n ≤ d →
    (∃ K, ∀ k, K ≤ k → impl_borders.l0 k s (bs.set i (stepM s (bt s i) (fallM s (bt s i) bs d n))) ((i : Int) + 1) = some r) → ∃ K, ∀ k, K ≤ k → impl_borders.l1 k s bs (i : Int) n = some r := by
  intro d
  induction d with
  | zero =>
    intro n h0 h1 h2 h
    have hn : n = 0 := by omega
    subst hn
    obtain ⟨K, hK⟩ := h
    refine ⟨K + 1, fun k hk => ?_⟩
    obtain ⟨k, rfl⟩ : ∃ m, k = m + 1 := ⟨k - 1, by omega⟩
    have hr := hK k (by omega)
    simp only [impl_borders.l1]
    simp (disch := omega) only [w64, if_pos, if_neg, Int.toNat_natCast]
    rw [show fallM s (bt s (i : Int)) bs 0 0 = 0 from rfl] at hr
    unfold stepM at hr
    by_cases c : bt s 0 = bt s i
    · rw [if_pos c] at hr ⊢; exact hr
    · rw [if_neg c] at hr ⊢; exact hr
  | succ d ih =>
    intro n h0 h1 h2 h
    by_cases c : 0 < n ∧ ¬ bt s n = bt s i
    · have hsub := hb.sub c.1 (by omega)
      simp only [fallM, if_pos c] at h
      obtain ⟨K, hK⟩ := ih (rd bs (n - 1)) (by omega) (by omega) (by omega) h
      refine ⟨K + 1, fun k hk => ?_⟩
      obtain ⟨k, rfl⟩ : ∃ m, k = m + 1 := ⟨k - 1, by omega⟩
      simp only [impl_borders.l1]
      simp (disch := omega) only [w64, if_pos, if_neg, Int.toNat_natCast, c.2]
      exact hK k (by omega)
    · simp only [fallM, if_neg c] at h
      obtain ⟨K, hK⟩ := h
      refine ⟨K + 1, fun k hk => ?_⟩
      obtain ⟨k, rfl⟩ : ∃ m, k = m + 1 := ⟨k - 1, by omega⟩
      have hr := hK k (by omega)
      unfold stepM at hr
      simp only [impl_borders.l1]
      by_cases e : bt s n = bt s i
      · rw [if_pos e] at hr
        by_cases p : n > 0
        · simp (disch := omega) only [w64, if_pos, if_neg, Int.toNat_natCast]
          exact hr
        · simp (disch := omega) only [w64, if_pos, if_neg, Int.toNat_natCast]
          exact hr
      · have p : ¬ n > 0 := fun h => c ⟨h, e⟩
        rw [if_neg e] at hr
        simp (disch := omega) only [w64, if_pos, if_neg, Int.toNat_natCast]
        exact hr
theorem impl_borders_l (s : ByteArray) (hs : s.size ≤ 140737488351232) : ∀ (d i : Nat) (bs : List Int), 0 < i → i + d = s.size → bs.length = s.size → InvM bs i →
    ∃ K, ∀ k, K ≤ k → impl_borders.l0 k s bs (i : Int) = some (bordsM s d i bs) := by
  intro d
  induction d with
  | zero =>
    intro i bs h0 h1 h2 h3
    refine ⟨1, fun k hk => ?_⟩
    obtain ⟨k, rfl⟩ : ∃ m, k = m + 1 := ⟨k - 1, by omega⟩
    simp only [impl_borders.l0]
    rw [if_neg (by omega)]; rfl
  | succ d ih =>
    intro i bs h0 h1 h2 h3
    have hsub := h3.sub (n := (i : Int)) (by omega) (by omega)
    obtain ⟨K, hK⟩ := impl_borders_in s hs bs i (bordsM s (d + 1) i bs) (by omega) h2 h3 i (rd bs ((i : Int) - 1)) (by omega) (by omega) (by omega)
      (ih (i + 1) (bs.set i (bordM s bs i)) (by omega) (by omega) (by simpa using h2) (h3.next h0 (by omega)))
    refine ⟨K + 1, fun k hk => ?_⟩
    obtain ⟨k, rfl⟩ : ∃ m, k = m + 1 := ⟨k - 1, by omega⟩
    simp only [impl_borders.l0]
    simp (disch := omega) only [w64, if_pos, if_neg]
    exact hK k (by omega)
theorem impl_borders_ev (s : ByteArray) (hs : s.size ≤ 300) (h0 : 0 < s.size) : ∃ K, ∀ k, K ≤ k → impl_borders.f k s = some (bords s) := by
  obtain ⟨K, hK⟩ := impl_borders_l s (by omega) (s.size - 1) 1 (List.replicate s.size 0) (by omega) (by omega) (by simp) (InvM.zeros _)
  refine ⟨K, fun k hk => ?_⟩
  unfold impl_borders.f
  simp (disch := omega) only [if_pos, Int.toNat_natCast]
  exact hK k hk

theorem spec_l11Borders_in (s : ByteArray) (hs : s.size ≤ 140737488351232) (bs : List Int) (i : Nat) (r : List Int) (hi : i < s.size) (hl : bs.length = s.size) (hb : InvM bs i) : ∀ (d : Nat) (n : Int), 0 ≤ n → n < i → n ≤ d →
    (∃ K, ∀ k, K ≤ k → spec_l11Borders.l0 k s (bs.set i (stepM s (bt s i) (fallM s (bt s i) bs d n))) (stepM s (bt s i) (fallM s (bt s i) bs d n)) ((i : Int) + 1) = some r) → ∃ K, ∀ k, K ≤ k → spec_l11Borders.l1 k s bs n (i : Int) = some r := by
  intro d
  induction d with
  | zero =>
    intro n h0 h1 h2 h
    have hn : n = 0 := by omega
    subst hn
    obtain ⟨K, hK⟩ := h
    refine ⟨K + 1, fun k hk => ?_⟩
    obtain ⟨k, rfl⟩ : ∃ m, k = m + 1 := ⟨k - 1, by omega⟩
    have hr := hK k (by omega)
    simp only [spec_l11Borders.l1]
    simp (disch := omega) only [w64, if_pos, if_neg, Int.toNat_natCast]
    rw [show fallM s (bt s (i : Int)) bs 0 0 = 0 from rfl] at hr
    unfold stepM at hr
    by_cases c : bt s 0 = bt s i
    · rw [if_pos c] at hr; rw [if_pos c.symm]; exact hr
    · rw [if_neg c] at hr; rw [if_neg (fun e => c e.symm)]; exact hr
  | succ d ih =>
    intro n h0 h1 h2 h
    by_cases c : 0 < n ∧ ¬ bt s n = bt s i
    · have hsub := hb.sub c.1 (by omega)
      have c2 : ¬ bt s i = bt s n := fun e => c.2 e.symm
      simp only [fallM, if_pos c] at h
      obtain ⟨K, hK⟩ := ih (rd bs (n - 1)) (by omega) (by omega) (by omega) h
      refine ⟨K + 1, fun k hk => ?_⟩
      obtain ⟨k, rfl⟩ : ∃ m, k = m + 1 := ⟨k - 1, by omega⟩
      simp only [spec_l11Borders.l1]
      simp (disch := omega) only [w64, if_pos, if_neg, Int.toNat_natCast]
      exact hK k (by omega)
    · simp only [fallM, if_neg c] at h
      obtain ⟨K, hK⟩ := h
      refine ⟨K + 1, fun k hk => ?_⟩
      obtain ⟨k, rfl⟩ : ∃ m, k = m + 1 := ⟨k - 1, by omega⟩
      have hr := hK k (by omega)
      unfold stepM at hr
      simp only [spec_l11Borders.l1]
      by_cases e : bt s n = bt s i
      · rw [if_pos e] at hr
        have e := e.symm
        by_cases p : n > 0
        · simp (disch := omega) only [w64, if_pos, if_neg, Int.toNat_natCast]
          exact hr
        · simp (disch := omega) only [w64, if_pos, if_neg, Int.toNat_natCast]
          exact hr
      · have p : ¬ n > 0 := fun h => c ⟨h, e⟩
        rw [if_neg e] at hr
        have e : ¬ bt s i = bt s n := fun h => e h.symm
        simp (disch := omega) only [w64, if_pos, if_neg, Int.toNat_natCast]
        exact hr
theorem spec_l11Borders_l (s : ByteArray) (hs : s.size ≤ 140737488351232) : ∀ (d i : Nat) (bs : List Int), 0 < i → i + d = s.size → bs.length = s.size → InvM bs i →
    ∃ K, ∀ k, K ≤ k → spec_l11Borders.l0 k s bs (rd bs ((i : Int) - 1)) (i : Int) = some (bordsM s d i bs) := by
  intro d
  induction d with
  | zero =>
    intro i bs h0 h1 h2 h3
    refine ⟨1, fun k hk => ?_⟩
    obtain ⟨k, rfl⟩ : ∃ m, k = m + 1 := ⟨k - 1, by omega⟩
    simp only [spec_l11Borders.l0]
    rw [if_neg (by omega)]; rfl
  | succ d ih =>
    intro i bs h0 h1 h2 h3
    have hsub := h3.sub (n := (i : Int)) (by omega) (by omega)
    have hi := ih (i + 1) (bs.set i (bordM s bs i)) (by omega) (by omega) (by simpa using h2) (h3.next h0 (by omega))
    rw [show (((i + 1 : Nat) : Int) - 1) = (i : Int) by omega, rd_set (by omega), if_pos rfl] at hi
    obtain ⟨K, hK⟩ := spec_l11Borders_in s hs bs i (bordsM s (d + 1) i bs) (by omega) h2 h3 i (rd bs ((i : Int) - 1)) (by omega) (by omega) (by omega) hi
    refine ⟨K + 1, fun k hk => ?_⟩
    obtain ⟨k, rfl⟩ : ∃ m, k = m + 1 := ⟨k - 1, by omega⟩
    simp only [spec_l11Borders.l0]
    simp (disch := omega) only [w64, if_pos, if_neg]
    exact hK k (by omega)
theorem spec_l11Borders_ev (s : ByteArray) (hs : s.size ≤ 300) (h0 : 0 < s.size) : ∃ K, ∀ k, K ≤ k → spec_l11Borders.f k s = some (bords s) := by
  obtain ⟨K, hK⟩ := spec_l11Borders_l s (by omega) (s.size - 1) 1 (List.replicate s.size 0) (by omega) (by omega) (by simp) (InvM.zeros _)
  refine ⟨K, fun k hk => ?_⟩
  unfold spec_l11Borders.f
  simp (disch := omega) only [if_pos, Int.toNat_natCast]
  have := hK k hk
  rw [show rd (List.replicate s.size 0) (((1 : Nat) : Int) - 1) = 0 from ?_] at this
  · exact this
  · unfold rd; cases s.size <;> simp [List.getD]

def fallS (p : ByteArray) (x : Int) (bs : List Int) : Nat → Int → Int → Int × Int
  | 0, n, st => (n, st)
  | d + 1, n, st => if 0 < n ∧ ¬ x = bt p n then fallS p x bs d (rd bs (n - 1)) (st + 1) else (n, st)
def stepS (p : ByteArray) (x : Int) (n : Int) : Int := if x = bt p n then n + 1 else n
def srch (p s : ByteArray) (bs : List Int) : Nat → Nat → List Int → Int → Int → List Int × Int
  | 0, _, out, _, st => (out, st)
  | d + 1, i, out, n, st =>
    if stepS p (bt s i) (fallS p (bt s i) bs p.size n st).1 = (p.size : Int) then
      srch p s bs d (i + 1) (out ++ [(i : Int) + 1 - stepS p (bt s i) (fallS p (bt s i) bs p.size n st).1]) (rd bs (stepS p (bt s i) (fallS p (bt s i) bs p.size n st).1 - 1)) ((fallS p (bt s i) bs p.size n st).2 + 1)
    else srch p s bs d (i + 1) out (stepS p (bt s i) (fallS p (bt s i) bs p.size n st).1) ((fallS p (bt s i) bs p.size n st).2 + 1)
theorem fallS_le {p : ByteArray} {x : Int} {bs : List Int} {i : Nat} (h : InvM bs i) : ∀ (d : Nat) (n st : Int), 0 ≤ n → n ≤ i → 0 ≤ (fallS p x bs d n st).1 ∧ (fallS p x bs d n st).1 ≤ n ∧ st ≤ (fallS p x bs d n st).2 ∧ (fallS p x bs d n st).2 ≤ st + (n - (fallS p x bs d n st).1) := by
  intro d
  induction d with
  | zero => intro n st h0 h1; simp only [fallS]; omega
  | succ d ih =>
    intro n st h0 h1
    simp only [fallS]
    by_cases c : 0 < n ∧ ¬ x = bt p n
    · rw [if_pos c]
      have h2 := h.sub c.1 h1
      have h3 := ih (rd bs (n - 1)) (st + 1) (by omega) (by omega)
      omega
    · rw [if_neg c]; simp only; omega
theorem fallS_stop {p : ByteArray} {x : Int} {bs : List Int} {i : Nat} (h : InvM bs i) : ∀ (d : Nat) (n st : Int), 0 ≤ n → n ≤ i → n ≤ d → (fallS p x bs d n st).1 = 0 ∨ x = bt p (fallS p x bs d n st).1 := by
  intro d
  induction d with
  | zero => intro n st h0 h1 h2; simp only [fallS]; omega
  | succ d ih =>
    intro n st h0 h1 h2
    simp only [fallS]
    by_cases c : 0 < n ∧ ¬ x = bt p n
    · rw [if_pos c]
      have h2 := h.sub c.1 h1
      exact ih (rd bs (n - 1)) (st + 1) (by omega) (by omega) (by omega)
    · rw [if_neg c]; simp only; omega
theorem srch_len (p s : ByteArray) (bs : List Int) : ∀ (d i : Nat) (out : List Int) (n st : Int), (srch p s bs d i out n st).1.length ≤ out.length + d := by
  intro d
  induction d with
  | zero => intro i out n st; simp [srch]
  | succ d ih =>
    intro i out n st
    simp only [srch]
    split
    · have := ih (i + 1) (out ++ [(i : Int) + 1 - stepS p (bt s i) (fallS p (bt s i) bs p.size n st).1]) (rd bs (stepS p (bt s i) (fallS p (bt s i) bs p.size n st).1 - 1)) ((fallS p (bt s i) bs p.size n st).2 + 1)
      simp only [List.length_append, List.length_cons, List.length_nil] at this
      omega
    · have := ih (i + 1) out (stepS p (bt s i) (fallS p (bt s i) bs p.size n st).1) ((fallS p (bt s i) bs p.size n st).2 + 1)
      omega

theorem impl_search_end (p s : ByteArray) (hp : p.size ≤ 300) (h0 : 0 < p.size) (hs : s.size ≤ 300) (bs : List Int) (hl : bs.length = p.size) (hb : InvM bs p.size) (i : Nat) (hi : i < s.size) (out : List Int) (ho : out.length ≤ i) (n st : Int) (hn0 : 0 ≤ n) (hn1 : n < p.size) (hst : 0 ≤ st) (hst2 : st ≤ 1000000) (r : List Int × Int)
    (H : ∃ K, ∀ k, K ≤ k → (if stepS p (bt s i) n = (p.size : Int) then impl_search.l0 k p s bs (out ++ [(i : Int) + 1 - stepS p (bt s i) n]) (rd bs (stepS p (bt s i) n - 1)) (st + 1) (s.size : Int) ((i : Int) + 1) else impl_search.l0 k p s bs out (stepS p (bt s i) n) (st + 1) (s.size : Int) ((i : Int) + 1)) = some r) :
    ∃ K, ∀ k, K ≤ k → impl_search.j2 k p s bs out n st (i : Int) (s.size : Int) (i : Int) = some r := by
  obtain ⟨K, hK⟩ := H
  refine ⟨K + 1, fun k hk => ?_⟩
  obtain ⟨k, rfl⟩ : ∃ m, k = m + 1 := ⟨k - 1, by omega⟩
  have hr := hK k (by omega)
  unfold stepS at hr
  simp only [impl_search.j2]
  by_cases c : bt s (i : Int) = bt p n
  · rw [if_pos c] at hr
    by_cases g : n + 1 = (p.size : Int)
    · rw [if_pos g] at hr
      simp (disch := omega) only [w64, if_pos, Int.add_sub_cancel]
      rw [Int.add_sub_cancel] at hr
      exact hr
    · rw [if_neg g] at hr
      simp (disch := omega) only [w64, if_pos, if_neg]
      exact hr
  · rw [if_neg c, if_neg (by omega)] at hr
    simp (disch := omega) only [w64, if_pos, if_neg]
    exact hr
theorem impl_search_in (p s : ByteArray) (hp : p.size ≤ 300) (h0 : 0 < p.size) (hs : s.size ≤ 300) (bs : List Int) (hl : bs.length = p.size) (hb : InvM bs p.size) (i : Nat) (hi : i < s.size) (out : List Int) (ho : out.length ≤ i) (r : List Int × Int) :
    ∀ (d : Nat) (n st : Int), 0 ≤ n → n < p.size → n ≤ d → 0 ≤ st → st ≤ 200000 + ((p.size : Int) - n) →
    (∃ K, ∀ k, K ≤ k → (if stepS p (bt s i) (fallS p (bt s i) bs d n st).1 = (p.size : Int) then impl_search.l0 k p s bs (out ++ [(i : Int) + 1 - stepS p (bt s i) (fallS p (bt s i) bs d n st).1]) (rd bs (stepS p (bt s i) (fallS p (bt s i) bs d n st).1 - 1)) ((fallS p (bt s i) bs d n st).2 + 1) (s.size : Int) ((i : Int) + 1) else impl_search.l0 k p s bs out (stepS p (bt s i) (fallS p (bt s i) bs d n st).1) ((fallS p (bt s i) bs d n st).2 + 1) (s.size : Int) ((i : Int) + 1)) = some r) →
    ∃ K, ∀ k, K ≤ k → impl_search.l1 k p s bs out n st (i : Int) (s.size : Int) (i : Int) = some r := by
  intro d
  induction d with
  | zero =>
    intro n st hn0 hn1 hn2 hst hst2 H
    have hz : n = 0 := by omega
    obtain ⟨K, hK⟩ := impl_search_end p s hp h0 hs bs hl hb i hi out ho n st hn0 hn1 hst (by omega) r H
    refine ⟨K + 1, fun k hk => ?_⟩
    obtain ⟨k, rfl⟩ : ∃ m, k = m + 1 := ⟨k - 1, by omega⟩
    have hr := hK k (by omega)
    simp only [impl_search.l1]
    simp (disch := omega) only [if_neg]
    exact hr
  | succ d ih =>
    intro n st hn0 hn1 hn2 hst hst2 H
    by_cases c : 0 < n ∧ ¬ bt s (i : Int) = bt p n
    · have hsub := hb.sub c.1 (by omega)
      simp only [fallS, if_pos c] at H
      obtain ⟨K, hK⟩ := ih (rd bs (n - 1)) (st + 1) (by omega) (by omega) (by omega) (by omega) (by omega) H
      refine ⟨K + 1, fun k hk => ?_⟩
      obtain ⟨k, rfl⟩ : ∃ m, k = m + 1 := ⟨k - 1, by omega⟩
      have hr := hK k (by omega)
      have c2 := c.2
      simp only [impl_search.l1]
      simp (disch := omega) only [w64, if_pos, if_neg]
      exact hr
    · simp only [fallS, if_neg c] at H
      obtain ⟨K, hK⟩ := impl_search_end p s hp h0 hs bs hl hb i hi out ho n st hn0 hn1 hst (by omega) r H
      refine ⟨K + 1, fun k hk => ?_⟩
      obtain ⟨k, rfl⟩ : ∃ m, k = m + 1 := ⟨k - 1, by omega⟩
      have hr := hK k (by omega)
      simp only [impl_search.l1]
      by_cases g : n > 0
      · have e : bt s (i : Int) = bt p n := by
          by_cases e : bt s (i : Int) = bt p n
          · exact e
          · exact absurd ⟨g, e⟩ c
        simp (disch := omega) only [if_pos]
        exact hr
      · simp (disch := omega) only [if_neg]
        exact hr
theorem impl_search_l (p s : ByteArray) (hp : p.size ≤ 300) (h0 : 0 < p.size) (hs : s.size ≤ 300) (bs : List Int) (hl : bs.length = p.size) (hb : InvM bs p.size) : ∀ (d i : Nat) (out : List Int) (n st : Int), i + d = s.size → out.length ≤ i → 0 ≤ n → n < p.size → 0 ≤ st → st ≤ 400 * (i : Int) →
    ∃ K, ∀ k, K ≤ k → impl_search.l0 k p s bs out n st (s.size : Int) (i : Int) = some (srch p s bs d i out n st) := by
  intro d
  induction d with
  | zero =>
    intro i out n st hi ho hn0 hn1 hst hst2
    refine ⟨1, fun k hk => ?_⟩
    obtain ⟨k, rfl⟩ : ∃ m, k = m + 1 := ⟨k - 1, by omega⟩
    simp only [impl_search.l0]
    rw [if_neg (by omega)]; rfl
  | succ d ih =>
    intro i out n st hi ho hn0 hn1 hst hst2
    have hf := fallS_le (p := p) (x := bt s (i : Int)) hb p.size n st hn0 (by omega)
    have hsub := hb.sub (n := (p.size : Int)) (by omega) (by omega)
    obtain ⟨K, hK⟩ := impl_search_in p s hp h0 hs bs hl hb i (by omega) out ho (srch p s bs (d + 1) i out n st) p.size n st hn0 hn1 (by omega) hst (by omega) (by
      by_cases g : stepS p (bt s (i : Int)) (fallS p (bt s (i : Int)) bs p.size n st).1 = (p.size : Int)
      · obtain ⟨K, hK⟩ := ih (i + 1) (out ++ [(i : Int) + 1 - stepS p (bt s i) (fallS p (bt s i) bs p.size n st).1]) (rd bs (stepS p (bt s i) (fallS p (bt s i) bs p.size n st).1 - 1)) ((fallS p (bt s i) bs p.size n st).2 + 1) (by omega) (by simp; omega) (by rw [g]; omega) (by rw [g]; omega) (by omega) (by omega)
        refine ⟨K, fun k hk => ?_⟩
        simp only [srch]
        rw [if_pos g, if_pos g]
        exact hK k hk
      · have hst3 : 0 ≤ stepS p (bt s (i : Int)) (fallS p (bt s (i : Int)) bs p.size n st).1 ∧ stepS p (bt s (i : Int)) (fallS p (bt s (i : Int)) bs p.size n st).1 ≤ (p.size : Int) := by unfold stepS; split <;> omega
        obtain ⟨K, hK⟩ := ih (i + 1) out (stepS p (bt s i) (fallS p (bt s i) bs p.size n st).1) ((fallS p (bt s i) bs p.size n st).2 + 1) (by omega) (by omega) (by omega) (by omega) (by omega) (by omega)
        refine ⟨K, fun k hk => ?_⟩
        simp only [srch]
        rw [if_neg g, if_neg g]
        exact hK k hk)
    refine ⟨K + 1, fun k hk => ?_⟩
    obtain ⟨k, rfl⟩ : ∃ m, k = m + 1 := ⟨k - 1, by omega⟩
    have hr := hK k (by omega)
    simp only [impl_search.l0]
    rw [if_pos (by omega)]
    exact hr
def found (p s : ByteArray) : List Int × Int := srch p s (bords p) s.size 0 [] 0 0
theorem impl_search_ev (p s : ByteArray) (hp : p.size ≤ 300) (h0 : 0 < p.size) (hs : s.size ≤ 300) : ∃ K, ∀ k, K ≤ k → impl_search.f k p s = some (found p s) := by
  obtain ⟨K1, h1⟩ := impl_borders_ev p hp h0
  obtain ⟨K2, h2⟩ := impl_search_l p s hp h0 hs (bords p) (bords_length p) (bords_inv p h0) s.size 0 [] 0 0 (by omega) (by simp) (by omega) (by omega) (by omega) (by omega)
  refine ⟨max K1 K2, fun k hk => ?_⟩
  unfold impl_search.f
  rw [h1 k (by omega), Option.bind_some]
  exact h2 k (by omega)

theorem spec_l11Find_end (p s : ByteArray) (hp : p.size ≤ 300) (h0 : 0 < p.size) (hs : s.size ≤ 300) (bs : List Int) (hl : bs.length = p.size) (hb : InvM bs p.size) (i : Nat) (hi : i < s.size) (out : List Int) (ho : out.length ≤ i) (n st : Int) (hn0 : 0 ≤ n) (hn1 : n < p.size) (hst : 0 ≤ st) (hst2 : st ≤ 1000000) (r : List Int × Int)
    (H : ∃ K, ∀ k, K ≤ k → (if stepS p (bt s i) n = (p.size : Int) then spec_l11Find.l0 k p s bs (out ++ [(i : Int) + 1 - stepS p (bt s i) n]) (st + 1) (rd bs (stepS p (bt s i) n - 1)) ((i : Int) + 1) else spec_l11Find.l0 k p s bs out (st + 1) (stepS p (bt s i) n) ((i : Int) + 1)) = some r) :
    ∃ K, ∀ k, K ≤ k → spec_l11Find.j2 k p s bs out st n (i : Int) = some r := by
  obtain ⟨K, hK⟩ := H
  refine ⟨K + 1, fun k hk => ?_⟩
  obtain ⟨k, rfl⟩ : ∃ m, k = m + 1 := ⟨k - 1, by omega⟩
  have hr := hK k (by omega)
  unfold stepS at hr
  simp only [spec_l11Find.j2]
  by_cases c : bt s (i : Int) = bt p n
  · rw [if_pos c] at hr
    by_cases g : n + 1 = (p.size : Int)
    · rw [if_pos g] at hr
      simp (disch := omega) only [w64, if_pos, Int.add_sub_cancel]
      rw [Int.add_sub_cancel] at hr
      exact hr
    · rw [if_neg g] at hr
      simp (disch := omega) only [w64, if_pos, if_neg]
      exact hr
  · rw [if_neg c, if_neg (by omega)] at hr
    simp (disch := omega) only [w64, if_pos, if_neg]
    exact hr
theorem spec_l11Find_in (p s : ByteArray) (hp : p.size ≤ 300) (h0 : 0 < p.size) (hs : s.size ≤ 300) (bs : List Int) (hl : bs.length = p.size) (hb : InvM bs p.size) (i : Nat) (hi : i < s.size) (out : List Int) (ho : out.length ≤ i) (r : List Int × Int) :
    ∀ (d : Nat) (n st : Int), 0 ≤ n → n < p.size → n ≤ d → 0 ≤ st → st ≤ 200000 + ((p.size : Int) - n) →
    (∃ K, ∀ k, K ≤ k → (if stepS p (bt s i) (fallS p (bt s i) bs d n st).1 = (p.size : Int) then spec_l11Find.l0 k p s bs (out ++ [(i : Int) + 1 - stepS p (bt s i) (fallS p (bt s i) bs d n st).1]) ((fallS p (bt s i) bs d n st).2 + 1) (rd bs (stepS p (bt s i) (fallS p (bt s i) bs d n st).1 - 1)) ((i : Int) + 1) else spec_l11Find.l0 k p s bs out ((fallS p (bt s i) bs d n st).2 + 1) (stepS p (bt s i) (fallS p (bt s i) bs d n st).1) ((i : Int) + 1)) = some r) →
    ∃ K, ∀ k, K ≤ k → spec_l11Find.l1 k p s bs out st n (i : Int) = some r := by
  intro d
  induction d with
  | zero =>
    intro n st hn0 hn1 hn2 hst hst2 H
    have hz : n = 0 := by omega
    obtain ⟨K, hK⟩ := spec_l11Find_end p s hp h0 hs bs hl hb i hi out ho n st hn0 hn1 hst (by omega) r H
    refine ⟨K + 1, fun k hk => ?_⟩
    obtain ⟨k, rfl⟩ : ∃ m, k = m + 1 := ⟨k - 1, by omega⟩
    have hr := hK k (by omega)
    simp only [spec_l11Find.l1]
    simp (disch := omega) only [if_neg]
    exact hr
  | succ d ih =>
    intro n st hn0 hn1 hn2 hst hst2 H
    by_cases c : 0 < n ∧ ¬ bt s (i : Int) = bt p n
    · have hsub := hb.sub c.1 (by omega)
      simp only [fallS, if_pos c] at H
      obtain ⟨K, hK⟩ := ih (rd bs (n - 1)) (st + 1) (by omega) (by omega) (by omega) (by omega) (by omega) H
      refine ⟨K + 1, fun k hk => ?_⟩
      obtain ⟨k, rfl⟩ : ∃ m, k = m + 1 := ⟨k - 1, by omega⟩
      have hr := hK k (by omega)
      have c2 := c.2
      simp only [spec_l11Find.l1]
      simp (disch := omega) only [w64, if_pos, if_neg]
      exact hr
    · simp only [fallS, if_neg c] at H
      obtain ⟨K, hK⟩ := spec_l11Find_end p s hp h0 hs bs hl hb i hi out ho n st hn0 hn1 hst (by omega) r H
      refine ⟨K + 1, fun k hk => ?_⟩
      obtain ⟨k, rfl⟩ : ∃ m, k = m + 1 := ⟨k - 1, by omega⟩
      have hr := hK k (by omega)
      simp only [spec_l11Find.l1]
      by_cases g : n > 0
      · have e : bt s (i : Int) = bt p n := by
          by_cases e : bt s (i : Int) = bt p n
          · exact e
          · exact absurd ⟨g, e⟩ c
        simp (disch := omega) only [if_pos]
        exact hr
      · simp (disch := omega) only [if_neg]
        exact hr
theorem spec_l11Find_l (p s : ByteArray) (hp : p.size ≤ 300) (h0 : 0 < p.size) (hs : s.size ≤ 300) (bs : List Int) (hl : bs.length = p.size) (hb : InvM bs p.size) : ∀ (d i : Nat) (out : List Int) (n st : Int), i + d = s.size → out.length ≤ i → 0 ≤ n → n < p.size → 0 ≤ st → st ≤ 400 * (i : Int) →
    ∃ K, ∀ k, K ≤ k → spec_l11Find.l0 k p s bs out st n (i : Int) = some (srch p s bs d i out n st) := by
  intro d
  induction d with
  | zero =>
    intro i out n st hi ho hn0 hn1 hst hst2
    refine ⟨1, fun k hk => ?_⟩
    obtain ⟨k, rfl⟩ : ∃ m, k = m + 1 := ⟨k - 1, by omega⟩
    simp only [spec_l11Find.l0]
    rw [if_neg (by omega)]; rfl
  | succ d ih =>
    intro i out n st hi ho hn0 hn1 hst hst2
    have hf := fallS_le (p := p) (x := bt s (i : Int)) hb p.size n st hn0 (by omega)
    have hsub := hb.sub (n := (p.size : Int)) (by omega) (by omega)
    obtain ⟨K, hK⟩ := spec_l11Find_in p s hp h0 hs bs hl hb i (by omega) out ho (srch p s bs (d + 1) i out n st) p.size n st hn0 hn1 (by omega) hst (by omega) (by
      by_cases g : stepS p (bt s (i : Int)) (fallS p (bt s (i : Int)) bs p.size n st).1 = (p.size : Int)
      · obtain ⟨K, hK⟩ := ih (i + 1) (out ++ [(i : Int) + 1 - stepS p (bt s i) (fallS p (bt s i) bs p.size n st).1]) (rd bs (stepS p (bt s i) (fallS p (bt s i) bs p.size n st).1 - 1)) ((fallS p (bt s i) bs p.size n st).2 + 1) (by omega) (by simp; omega) (by rw [g]; omega) (by rw [g]; omega) (by omega) (by omega)
        refine ⟨K, fun k hk => ?_⟩
        simp only [srch]
        rw [if_pos g, if_pos g]
        exact hK k hk
      · have hst3 : 0 ≤ stepS p (bt s (i : Int)) (fallS p (bt s (i : Int)) bs p.size n st).1 ∧ stepS p (bt s (i : Int)) (fallS p (bt s (i : Int)) bs p.size n st).1 ≤ (p.size : Int) := by unfold stepS; split <;> omega
        obtain ⟨K, hK⟩ := ih (i + 1) out (stepS p (bt s i) (fallS p (bt s i) bs p.size n st).1) ((fallS p (bt s i) bs p.size n st).2 + 1) (by omega) (by omega) (by omega) (by omega) (by omega) (by omega)
        refine ⟨K, fun k hk => ?_⟩
        simp only [srch]
        rw [if_neg g, if_neg g]
        exact hK k hk)
    refine ⟨K + 1, fun k hk => ?_⟩
    obtain ⟨k, rfl⟩ : ∃ m, k = m + 1 := ⟨k - 1, by omega⟩
    have hr := hK k (by omega)
    simp only [spec_l11Find.l0]
    rw [if_pos (by omega)]
    exact hr
theorem spec_l11Find_ev (p s : ByteArray) (hp : p.size ≤ 300) (h0 : 0 < p.size) (hs : s.size ≤ 300) : ∃ K, ∀ k, K ≤ k → spec_l11Find.f k p s = some (found p s) := by
  obtain ⟨K1, h1⟩ := spec_l11Borders_ev p hp h0
  obtain ⟨K2, h2⟩ := spec_l11Find_l p s hp h0 hs (bords p) (bords_length p) (bords_inv p h0) s.size 0 [] 0 0 (by omega) (by simp) (by omega) (by omega) (by omega) (by omega)
  refine ⟨max K1 K2, fun k hk => ?_⟩
  unfold spec_l11Find.f
  rw [h1 k (by omega), Option.bind_some]
  exact h2 k (by omega)

theorem toList_data (s : ByteArray) : s.toList = s.data.toList := by
  have h : ∀ (n i : Nat) (r : List UInt8), s.size - i = n → ByteArray.toList.loop s i r = r.reverse ++ s.data.toList.drop i := by
    intro n
    induction n with
    | zero =>
      intro i r h
      unfold ByteArray.toList.loop
      rw [if_neg (by omega), List.drop_of_length_le (by rw [Array.length_toList]; show s.size ≤ i; omega)]; simp
    | succ n ih =>
      intro i r h
      have hi : i < s.size := by omega
      unfold ByteArray.toList.loop
      have e2 : s.data.toList.drop i = s.data.toList[i]'(by rw [Array.length_toList]; exact hi) :: s.data.toList.drop (i + 1) := List.drop_eq_getElem_cons (by rw [Array.length_toList]; exact hi)
      have e : s.get! i = s.data.toList[i]'(by rw [Array.length_toList]; exact hi) := by
        show s.data[i]! = _
        rw [getElem!_pos s.data i hi]; simp
      rw [if_pos hi, ih (i + 1) _ (by omega), e2, e, List.reverse_cons, List.append_assoc]; rfl
  unfold ByteArray.toList
  rw [h s.size 0 [] (by omega)]; simp
theorem bt_data (s : ByteArray) (i : Nat) (h : i < s.size) : bt s (i : Int) = ((s.data.toList[i]'(by rw [Array.length_toList]; exact h)).toNat : Int) := by
  unfold bt
  rw [dif_pos (by omega)]
  simp [ByteArray.getElem_eq_getElem_data]
theorem toList_eq_iff (a b : ByteArray) : a.toList = b.toList ↔ a.size = b.size ∧ ∀ j : Nat, j < a.size → bt a (j : Int) = bt b (j : Int) := by
  rw [toList_data, toList_data]
  constructor
  · intro h
    have hl : a.size = b.size := by
      have := congrArg List.length h
      rw [Array.length_toList, Array.length_toList] at this; exact this
    refine ⟨hl, fun j hj => ?_⟩
    rw [bt_data a j hj, bt_data b j (by omega)]
    simp only [h]
  · intro ⟨hl, h⟩
    apply List.ext_getElem
    · rw [Array.length_toList, Array.length_toList]; exact hl
    · intro j h1 h2
      rw [Array.length_toList] at h1 h2
      have := h j h1
      rw [bt_data a j h1, bt_data b j h2] at this
      have h3 : (a.data.toList[j]'(by rw [Array.length_toList]; exact h1)).toNat = (b.data.toList[j]'(by rw [Array.length_toList]; exact h2)).toNat := by omega
      exact UInt8.toNat_inj.mp h3
theorem bt_extract (s : ByteArray) (i j n : Nat) (hj : j ≤ s.size) (hn : i + n < j) : bt (s.extract i j) (n : Int) = bt s ((i + n : Nat) : Int) := by
  have h1 : n < (s.extract i j).size := by rw [ByteArray.size_extract]; omega
  unfold bt
  rw [dif_pos (by simpa using h1), dif_pos (by omega)]
  simp only [Int.toNat_natCast, ByteArray.getElem_extract]

def suf (p t : ByteArray) (i n : Nat) : Prop := n ≤ i ∧ ∀ j : Nat, j < n → bt p (j : Int) = bt t ((i - n + j : Nat) : Int)
instance (p t : ByteArray) (i n : Nat) : Decidable (suf p t i n) := by unfold suf; infer_instance
theorem suf_zero (p t : ByteArray) (i : Nat) : suf p t i 0 := ⟨Nat.zero_le _, fun j h => absurd h (Nat.not_lt_zero _)⟩
theorem suf_self (p : ByteArray) (i : Nat) : suf p p i i := ⟨Nat.le_refl _, fun j h => by rw [Nat.sub_self, Nat.zero_add]⟩
theorem suf_trans {p t : ByteArray} {i n m : Nat} (h : suf p t i n) (hm : m ≤ n) : suf p t i m ↔ suf p p n m := by
  have h1 := h.1
  constructor
  · intro g
    refine ⟨hm, fun j hj => ?_⟩
    rw [g.2 j hj, h.2 (n - m + j) (by omega)]
    congr 2; omega
  · intro g
    refine ⟨by omega, fun j hj => ?_⟩
    rw [g.2 j hj, h.2 (n - m + j) (by omega)]
    congr 2; omega
theorem suf_succ {p t : ByteArray} {i n : Nat} : suf p t (i + 1) (n + 1) ↔ suf p t i n ∧ bt p (n : Int) = bt t (i : Int) := by
  constructor
  · intro h
    have h1 := h.1
    refine ⟨⟨by omega, fun j hj => ?_⟩, ?_⟩
    · rw [h.2 j (by omega)]; congr 2; omega
    · rw [h.2 n (by omega)]; congr 2; omega
  · intro ⟨h, e⟩
    have h1 := h.1
    refine ⟨by omega, fun j hj => ?_⟩
    by_cases c : j = n
    · rw [c, e]; congr 2; omega
    · rw [h.2 j (by omega)]; congr 2; omega
def LMB (p t : ByteArray) (i B n : Nat) : Prop := suf p t i n ∧ n < B ∧ ∀ m : Nat, m < B → suf p t i m → m ≤ n
def TabOK (p : ByteArray) (bs : List Int) (m0 : Nat) : Prop := ∀ m : Nat, 1 ≤ m → m ≤ m0 → ∃ b : Nat, rd bs ((m : Int) - 1) = (b : Int) ∧ LMB p p m m b
theorem fall_spec {p t : ByteArray} {i : Nat} {bs : List Int} (x : Int) : ∀ (d n : Nat), n ≤ d → TabOK p bs n → suf p t i n →
    ∃ r : Nat, fallM p x bs d (n : Int) = (r : Int) ∧ suf p t i r ∧ r ≤ n ∧ (r = 0 ∨ bt p (r : Int) = x) ∧ ∀ m : Nat, m ≤ n → suf p t i m → bt p (m : Int) = x → m ≤ r := by
  intro d
  induction d with
  | zero =>
    intro n hn ht hs
    have : n = 0 := by omega
    subst this
    exact ⟨0, rfl, hs, by omega, Or.inl rfl, fun m h _ _ => h⟩
  | succ d ih =>
    intro n hn ht hs
    simp only [fallM]
    by_cases c : 0 < (n : Int) ∧ ¬ bt p (n : Int) = x
    · rw [if_pos c]
      obtain ⟨b, hb, hL⟩ := ht n (by omega) (Nat.le_refl _)
      have h2 := hL.2.1
      rw [hb]
      obtain ⟨r, h1, g2, g3, g4, g5⟩ := ih b (by omega) (fun m h1 h2 => ht m h1 (by omega)) ((suf_trans hs (by omega)).mpr hL.1)
      refine ⟨r, h1, g2, by omega, g4, fun m hm hsm hx => ?_⟩
      have hne : m ≠ n := fun e => c.2 (e ▸ hx)
      exact g5 m (hL.2.2 m (by omega) ((suf_trans hs (by omega)).mp hsm)) hsm hx
    · rw [if_neg c]
      refine ⟨n, rfl, hs, Nat.le_refl _, ?_, fun m h _ _ => h⟩
      by_cases e : n = 0
      · exact Or.inl e
      · right
        by_cases g : bt p (n : Int) = x
        · exact g
        · exact absurd ⟨by omega, g⟩ c
theorem step_spec {p t : ByteArray} {i B n : Nat} {bs : List Int} (hL : LMB p t i B n) (ht : TabOK p bs n) (d : Nat) (hd : n ≤ d) :
    ∃ r : Nat, stepM p (bt t (i : Int)) (fallM p (bt t (i : Int)) bs d (n : Int)) = (r : Int) ∧ r ≤ n + 1 ∧ LMB p t (i + 1) (B + 1) r := by
  obtain ⟨r, h1, h2, h3, h4, h5⟩ := fall_spec (bt t (i : Int)) d n hd ht hL.1
  have hB := hL.2.1
  rw [h1]
  unfold stepM
  by_cases c : bt p (r : Int) = bt t (i : Int)
  · rw [if_pos c]
    refine ⟨r + 1, by omega, by omega, suf_succ.mpr ⟨h2, c⟩, by omega, fun m hm hs => ?_⟩
    cases m with
    | zero => omega
    | succ m =>
      have := suf_succ.mp hs
      have := h5 m (hL.2.2 m (by omega) this.1) this.1 this.2
      omega
  · rw [if_neg c]
    have h0 : r = 0 := by
      rcases h4 with h | h
      · exact h
      · exact absurd h c
    subst h0
    refine ⟨0, by omega, by omega, suf_zero _ _ _, by omega, fun m hm hs => ?_⟩
    cases m with
    | zero => omega
    | succ m =>
      have g := suf_succ.mp hs
      have := h5 m (hL.2.2 m (by omega) g.1) g.1 g.2
      have : m = 0 := by omega
      subst this
      exact absurd g.2 c
theorem bordsM_tab (p : ByteArray) : ∀ (d i : Nat) (bs : List Int), 0 < i → i + d = p.size → bs.length = p.size → TabOK p bs i → TabOK p (bordsM p d i bs) p.size := by
  intro d
  induction d with
  | zero => intro i bs h0 h1 h2 h3; simp only [bordsM]; have : i = p.size := by omega
            rw [← this]; exact h3
  | succ d ih =>
    intro i bs h0 h1 h2 h3
    simp only [bordsM]
    obtain ⟨b, hb, hL⟩ := h3 i (by omega) (Nat.le_refl _)
    have hlt := hL.2.1
    obtain ⟨r, e1, e2, e3⟩ := step_spec hL (fun m g1 g2 => h3 m g1 (by omega)) i (by omega)
    have he : bordM p bs i = (r : Int) := by unfold bordM; rw [hb, e1]
    refine ih (i + 1) _ (by omega) (by omega) (by simpa using h2) (fun m g1 g2 => ?_)
    rw [he, show ((m : Int) - 1) = ((m - 1 : Nat) : Int) by omega, rd_set (by omega)]
    by_cases c : m = i + 1
    · subst c
      rw [if_pos (by omega)]
      exact ⟨r, rfl, e3⟩
    · rw [if_neg (by omega)]
      obtain ⟨b', hb', hL'⟩ := h3 m g1 (by omega)
      rw [show ((m : Int) - 1) = ((m - 1 : Nat) : Int) by omega] at hb'
      exact ⟨b', hb', hL'⟩
theorem bords_tab (p : ByteArray) (h : 0 < p.size) : TabOK p (bords p) p.size := by
  refine bordsM_tab p (p.size - 1) 1 _ (by omega) (by omega) (by simp) (fun m g1 g2 => ?_)
  have : m = 1 := by omega
  subst this
  refine ⟨0, ?_, suf_zero _ _ _, by omega, fun m hm _ => by omega⟩
  have := (InvM.zeros p.size) 0 (by omega)
  simp only [Int.cast_ofNat_Int] at this
  simp only [Int.cast_ofNat_Int, Int.sub_self]
  omega

theorem fallS_fst (p : ByteArray) (x : Int) (bs : List Int) : ∀ (d : Nat) (n st : Int), (fallS p x bs d n st).1 = fallM p x bs d n := by
  intro d
  induction d with
  | zero => intro n st; rfl
  | succ d ih =>
    intro n st
    simp only [fallS, fallM]
    by_cases c : 0 < n ∧ ¬ x = bt p n
    · rw [if_pos c, if_pos ⟨c.1, fun e => c.2 e.symm⟩]; exact ih _ _
    · rw [if_neg c, if_neg (fun h => c ⟨h.1, fun e => h.2 e.symm⟩)]
theorem stepS_eq (p : ByteArray) (x n : Int) : stepS p x n = stepM p x n := by
  unfold stepS stepM
  by_cases c : x = bt p n
  · rw [if_pos c, if_pos c.symm]
  · rw [if_neg c, if_neg (fun e => c e.symm)]
def occs (p s : ByteArray) : Nat → List Int
  | 0 => []
  | i + 1 => occs p s i ++ if suf p s (i + 1) p.size then [((i + 1 - p.size : Nat) : Int)] else []
theorem srch_spec (p s : ByteArray) (hp : 0 < p.size) : ∀ (d i : Nat) (n : Nat) (st : Int), i + d = s.size → LMB p s i p.size n → st + n ≤ 2 * (i : Int) →
    (srch p s (bords p) d i (occs p s i) (n : Int) st).1 = occs p s s.size ∧ (srch p s (bords p) d i (occs p s i) (n : Int) st).2 ≤ 2 * (s.size : Int) := by
  have hT := bords_tab p hp
  have hI := bords_inv p hp
  intro d
  induction d with
  | zero =>
    intro i n st hi hL hst
    simp only [srch]
    have : i = s.size := by omega
    subst this
    exact ⟨rfl, by omega⟩
  | succ d ih =>
    intro i n st hi hL hst
    have hn := hL.2.1
    obtain ⟨r, e1, e2, e3⟩ := step_spec hL (fun m g1 g2 => hT m g1 (by omega)) p.size (by omega)
    have hf := fallS_le (p := p) (x := bt s (i : Int)) hI p.size (n : Int) st (by omega) (by omega)
    have e4 : stepS p (bt s (i : Int)) (fallS p (bt s (i : Int)) (bords p) p.size (n : Int) st).1 = (r : Int) := by rw [stepS_eq, fallS_fst, e1]
    have hr := e3.2.1
    have hst2 : (fallS p (bt s (i : Int)) (bords p) p.size (n : Int) st).2 + 1 + (r : Int) ≤ 2 * ((i + 1 : Nat) : Int) := by
      have : (r : Int) ≤ (fallS p (bt s (i : Int)) (bords p) p.size (n : Int) st).1 + 1 := by
        rw [← e4]; unfold stepS; split <;> omega
      omega
    simp only [srch]
    rw [e4]
    by_cases c : r = p.size
    · rw [if_pos (by omega)]
      obtain ⟨b, hb, hb2⟩ := hT p.size (by omega) (by omega)
      have hoc : occs p s (i + 1) = occs p s i ++ [(i : Int) + 1 - (r : Int)] := by
        have hle := e3.1.1
        simp only [occs]
        rw [if_pos (c ▸ e3.1), c]
        congr 2; omega
      rw [← hoc, show ((r : Int) - 1) = ((p.size : Int) - 1) by omega, hb]
      have hlt := hb2.2.1
      refine ih (i + 1) b _ (by omega) ⟨(suf_trans (c ▸ e3.1) (by omega)).mpr hb2.1, hlt, fun m hm hs => hb2.2.2 m hm ((suf_trans (c ▸ e3.1) (by omega)).mp hs)⟩ (by omega)
    · rw [if_neg (by omega)]
      have hoc : occs p s (i + 1) = occs p s i := by
        simp only [occs]
        rw [if_neg (fun h => c (by have := e3.2.2 p.size (by omega) h; omega))]; simp
      rw [← hoc]
      exact ih (i + 1) r _ (by omega) ⟨e3.1, by omega, fun m hm hs => e3.2.2 m (by omega) hs⟩ (by omega)
theorem found_spec (p s : ByteArray) (hp : 0 < p.size) : (found p s).1 = occs p s s.size ∧ (found p s).2 ≤ 2 * (s.size : Int) := by
  have := srch_spec p s hp s.size 0 0 0 (by omega) ⟨suf_zero _ _ _, hp, fun m _ h => h.1⟩ (by omega)
  exact this
theorem suf_iff (p s : ByteArray) (a : Nat) (h : a + p.size ≤ s.size) : (s.extract a (a + p.size)).toList = p.toList ↔ suf p s (a + p.size) p.size := by
  rw [toList_eq_iff]
  have hs : (s.extract a (a + p.size)).size = p.size := by rw [ByteArray.size_extract]; omega
  constructor
  · intro ⟨_, g⟩
    refine ⟨by omega, fun j hj => ?_⟩
    have := g j (by omega)
    rw [bt_extract s a (a + p.size) j h (by omega)] at this
    rw [← this]; congr 2; omega
  · intro g
    refine ⟨hs, fun j hj => ?_⟩
    rw [bt_extract s a (a + p.size) j h (by omega), g.2 j (by omega)]
    congr 2; omega
theorem occs_split (p s : ByteArray) : ∀ (d i : Nat), ∃ r, occs p s (i + d) = occs p s i ++ r ∧ ∀ x ∈ r, ((i + 1 - p.size : Nat) : Int) ≤ x := by
  intro d
  induction d with
  | zero => intro i; exact ⟨[], by simp, by simp⟩
  | succ d ih =>
    intro i
    obtain ⟨r, h1, h2⟩ := ih i
    have e : occs p s (i + (d + 1)) = occs p s (i + d) ++ if suf p s (i + d + 1) p.size then [((i + d + 1 - p.size : Nat) : Int)] else [] := rfl
    by_cases c : suf p s (i + d + 1) p.size
    · refine ⟨r ++ [((i + d + 1 - p.size : Nat) : Int)], ?_, ?_⟩
      · rw [e, if_pos c, h1, List.append_assoc]
      · intro x hx
        rw [List.mem_append] at hx
        rcases hx with h | h
        · exact h2 x h
        · simp at h; subst h; omega
    · refine ⟨r, ?_, h2⟩
      rw [e, if_neg c, h1, List.append_nil]
theorem occs_nil (p s : ByteArray) : ∀ (i : Nat), i < p.size → occs p s i = [] := by
  intro i
  induction i with
  | zero => intro h; rfl
  | succ i ih =>
    intro h
    have e : occs p s (i + 1) = occs p s i ++ if suf p s (i + 1) p.size then [((i + 1 - p.size : Nat) : Int)] else [] := rfl
    rw [e, ih (by omega), if_neg (fun g => by have := g.1; omega)]; rfl
theorem occs_len (p s : ByteArray) : ∀ (i : Nat), (occs p s i).length ≤ i := by
  intro i
  induction i with
  | zero => simp [occs]
  | succ i ih =>
    simp only [occs]
    split <;> simp <;> omega

/-! parts and changes -/
def small (x : S74) : Prop := x.f1.size ≤ 140737488351232 ∧ x.f2.size ≤ 140737488351232
def smallL (l : List S74) : Prop := l.length ≤ 3518437208780 ∧ ∀ x ∈ l, small x
theorem small_z : small z74 := ⟨by decide, by decide⟩
theorem small_rd {l : List S74} (h : smallL l) (i : Int) : small (rd_T74 l i) := by
  unfold rd_T74
  rw [List.getD_eq_getElem?_getD]
  cases e : l[i.toNat]? with
  | none => exact small_z
  | some x => exact h.2 x (List.mem_of_getElem? e)
def partB (a : Int) (b c : ByteArray) : Bool :=
  if a = 0 then (if b.toList = [] then (if c.toList = [] then false else textB c) else (if c.toList = [] then textB b else false))
  else (decide (1 ≤ a) && decide (a ≤ 300)) && (if b.toList = [] then c.toList == [] else false)
def pN (l : List S74) : Nat → Nat → Bool
  | 0, _ => true
  | d + 1, i => partB (rd_T74 l (i : Int)).f0 (rd_T74 l (i : Int)).f1 (rd_T74 l (i : Int)).f2 && pN l d (i + 1)
def sizesB (r : Int × Int) : Bool := if r.1 ≤ 300 then decide (r.2 ≤ 300) else false

theorem spec_l3Part_ev (a : Int) (b c : ByteArray) (hb : b.size ≤ 140737488351232) (hc : c.size ≤ 140737488351232) : ∃ K, ∀ k, K ≤ k → spec_l3Part.f k a b c = some (partB a b c) := by
  obtain ⟨K1, h1⟩ := spec_GoodText_ev b hb
  obtain ⟨K2, h2⟩ := spec_GoodText_ev c hc
  refine ⟨K1 + K2, fun k hk => ?_⟩
  unfold spec_l3Part.f partB spec_l1In.f
  rw [h1 k (by omega), h2 k (by omega)]
  by_cases e0 : a = 0
  · simp only [if_pos e0, Option.bind_some]
    by_cases e1 : b.toList = [] <;> by_cases e2 : c.toList = [] <;> simp [e1, e2]
  · simp only [if_neg e0]
    by_cases e1 : a ≥ 1
    · by_cases e2 : a ≤ 300
      · simp only [if_pos e1, Option.bind_some, decide_eq_true e2, if_pos, decide_eq_true e1, Bool.and_self, Bool.true_and]
        by_cases e3 : b.toList = [] <;> simp [e3]
      · simp [e1, e2]
    · simp only [if_neg e1, Option.bind_some]
      simp
      intro h
      omega
theorem spec_sizes_l (l : List S74) (hl : l.length ≤ 3518437208780) : ∀ (d i : Nat), i + d = l.length → ∀ a b : Int, ∃ r K, ∀ k, K ≤ k → spec_l3Sizes.l0 k a b l (l.length : Int) (i : Int) = some r := by
  intro d
  induction d with
  | zero =>
    intro i hi a b
    refine ⟨(a, b), 1, fun k hk => ?_⟩
    obtain ⟨k, rfl⟩ : ∃ m, k = m + 1 := ⟨k - 1, by omega⟩
    simp only [spec_l3Sizes.l0]
    rw [if_neg (by omega)]
  | succ d ih =>
    intro i hi a b
    obtain ⟨r, K, hK⟩ := ih (i + 1) (by omega) (wrap64 (a + (wrap64 (((rd_T74 l (i : Int)).f0) + (((rd_T74 l (i : Int)).f2).size : Int))))) (wrap64 (b + (wrap64 (((rd_T74 l (i : Int)).f0) + (((rd_T74 l (i : Int)).f1).size : Int)))))
    refine ⟨r, K + 1, fun k hk => ?_⟩
    obtain ⟨k, rfl⟩ : ∃ m, k = m + 1 := ⟨k - 1, by omega⟩
    have hr := hK k (by omega)
    simp only [spec_l3Sizes.l0]
    rw [if_pos (by omega), if_pos (by omega), if_pos (by omega), w64 (i := (i : Int) + 1) (by omega) (by omega)]
    exact hr
theorem spec_sizes_ev (l : List S74) (hl : l.length ≤ 3518437208780) : ∃ r K, ∀ k, K ≤ k → spec_l3Sizes.f k l = some r :=
  spec_sizes_l l hl l.length 0 (by omega) 0 0
theorem spec_GoodOp_l (l : List S74) (hl : smallL l) (r : Int × Int) (K0 : Nat) (h0 : ∀ k, K0 ≤ k → spec_l3Sizes.f k l = some r) : ∀ (d i : Nat), i + d = l.length → ∃ K, ∀ k, K ≤ k → spec_GoodOp.l0 k l l (l.length : Int) (i : Int) = some (pN l d i && sizesB r) := by
  have hl1 := hl.1
  intro d
  induction d with
  | zero =>
    intro i hi
    refine ⟨K0 + 1, fun k hk => ?_⟩
    obtain ⟨k, rfl⟩ : ∃ m, k = m + 1 := ⟨k - 1, by omega⟩
    simp only [spec_GoodOp.l0]
    rw [if_neg (by omega), h0 k (by omega), Option.bind_some]
    unfold sizesB pN
    by_cases e : r.1 ≤ 300 <;> simp [e]
  | succ d ih =>
    intro i hi
    obtain ⟨K, hK⟩ := ih (i + 1) (by omega)
    have hs := small_rd hl (i : Int)
    obtain ⟨K1, h1⟩ := spec_l3Part_ev (rd_T74 l (i : Int)).f0 _ _ hs.1 hs.2
    refine ⟨K + K1 + 1, fun k hk => ?_⟩
    obtain ⟨k, rfl⟩ : ∃ m, k = m + 1 := ⟨k - 1, by omega⟩
    have hr := hK k (by omega)
    simp only [spec_GoodOp.l0]
    rw [if_pos (by omega), if_pos (by omega), if_pos (by omega), h1 k (by omega), Option.bind_some, w64 (by omega) (by omega)]
    have hc : ((i : Int) + 1) = ((i + 1 : Nat) : Int) := by omega
    rw [hc, hr]
    rw [show pN l (d + 1) i = (partB (rd_T74 l (i : Int)).f0 (rd_T74 l (i : Int)).f1 (rd_T74 l (i : Int)).f2 && pN l d (i + 1)) from rfl]
    cases partB (rd_T74 l (i : Int)).f0 (rd_T74 l (i : Int)).f1 (rd_T74 l (i : Int)).f2 <;> simp
def goodB (l : List S74) (r : Int × Int) : Bool := decide (l.length ≤ 60) && (pN l l.length 0 && sizesB r)
theorem spec_GoodOp_ev (l : List S74) (hl : smallL l) (r : Int × Int) (K0 : Nat) (h0 : ∀ k, K0 ≤ k → spec_l3Sizes.f k l = some r) : ∃ K, ∀ k, K ≤ k → spec_GoodOp.f k l = some (goodB l r) := by
  obtain ⟨K, hK⟩ := spec_GoodOp_l l hl r K0 h0 l.length 0 (by omega)
  refine ⟨K, fun k hk => ?_⟩
  have h := hK k hk
  unfold spec_GoodOp.f goodB
  by_cases e : (l.length : Int) > 60
  · rw [if_pos e, decide_eq_false (by omega)]; rfl
  · rw [if_neg e, decide_eq_true (by omega), Bool.true_and]
    exact h

theorem impl_sizes_same (l : List S74) : ∀ k a b i, impl_sizes.l0 k a b l (l.length : Int) i = spec_l3Sizes.l0 k a b l (l.length : Int) i := by
  intro k
  induction k with
  | zero => intro a b i; rfl
  | succ k ih =>
    intro a b i
    simp only [impl_sizes.l0, spec_l3Sizes.l0, ih]
theorem impl_sizes_ev (l : List S74) (k : Nat) : impl_sizes.f k l = spec_l3Sizes.f k l := impl_sizes_same l k 0 0 0
theorem impl_isPart_ev (a : Int) (b c : ByteArray) (hb : b.size ≤ 140737488351232) (hc : c.size ≤ 140737488351232) : ∃ K, ∀ k, K ≤ k → impl_Part_isPart.f k a b c = some (partB a b c) := by
  obtain ⟨K1, h1⟩ := impl_GoodText_ev b hb
  obtain ⟨K2, h2⟩ := impl_GoodText_ev c hc
  refine ⟨K1 + K2, fun k hk => ?_⟩
  unfold impl_Part_isPart.f partB
  rw [h1 k (by omega), h2 k (by omega)]
  by_cases e0 : a = 0
  · simp only [if_pos e0, Option.bind_some]
    by_cases e1 : b.toList = [] <;> by_cases e2 : c.toList = [] <;> simp [e1, e2]
  · simp only [if_neg e0]
    by_cases e1 : a ≥ 1
    · by_cases e2 : a ≤ 300
      · simp only [if_pos e1, if_pos e2, decide_eq_true e2, decide_eq_true e1, Bool.and_self, Bool.true_and]
        by_cases e3 : b.toList = [] <;> simp [e3]
      · simp [e1, e2]
    · simp only [if_neg e1]
      simp
      intro h
      omega
theorem impl_Part_128_l (l : List S74) (hl : smallL l) : ∀ (d i : Nat), i + d = l.length → ∃ t : Int, decide (t ≥ 0) = !(pN l d i) ∧ ∃ K, ∀ k, K ≤ k → impl_Part_128.l0 k l (l.length : Int) (i : Int) = some t := by
  have hl1 := hl.1
  intro d
  induction d with
  | zero =>
    intro i hi
    refine ⟨-1, rfl, 1, fun k hk => ?_⟩
    obtain ⟨k, rfl⟩ : ∃ m, k = m + 1 := ⟨k - 1, by omega⟩
    simp only [impl_Part_128.l0]
    rw [if_neg (by omega)]
  | succ d ih =>
    intro i hi
    have hs := small_rd hl (i : Int)
    obtain ⟨K1, h1⟩ := impl_isPart_ev (rd_T74 l (i : Int)).f0 _ _ hs.1 hs.2
    cases hp : partB (rd_T74 l (i : Int)).f0 (rd_T74 l (i : Int)).f1 (rd_T74 l (i : Int)).f2 with
    | false =>
      refine ⟨(i : Int), by unfold pN; rw [hp]; simp, K1 + 1, fun k hk => ?_⟩
      obtain ⟨k, rfl⟩ : ∃ m, k = m + 1 := ⟨k - 1, by omega⟩
      simp only [impl_Part_128.l0, impl_GoodOp_1.f]
      rw [if_pos (by omega), if_pos (by omega), if_pos (by omega), h1 k (by omega), hp]
      rfl
    | true =>
      obtain ⟨t, ht, K, hK⟩ := ih (i + 1) (by omega)
      refine ⟨t, by unfold pN; rw [hp, ht, Bool.true_and], K + K1 + 1, fun k hk => ?_⟩
      obtain ⟨k, rfl⟩ : ∃ m, k = m + 1 := ⟨k - 1, by omega⟩
      have hr := hK k (by omega)
      simp only [impl_Part_128.l0, impl_GoodOp_1.f]
      rw [if_pos (by omega), if_pos (by omega), if_pos (by omega), h1 k (by omega), hp, w64 (by omega) (by omega)]
      exact hr
theorem impl_GoodOp_ev (l : List S74) (hl : smallL l) (r : Int × Int) (K0 : Nat) (h0 : ∀ k, K0 ≤ k → spec_l3Sizes.f k l = some r) : ∃ K, ∀ k, K ≤ k → impl_GoodOp.f k l = some (goodB l r) := by
  obtain ⟨t, ht, K, hK⟩ := impl_Part_128_l l hl l.length 0 (by omega)
  refine ⟨K + K0, fun k hk => ?_⟩
  have h : impl_Part_128.f k l = some t := hK k (by omega)
  unfold impl_GoodOp.f goodB impl_Part_95.f
  by_cases e : (l.length : Int) > 60
  · rw [if_pos e, decide_eq_false (by omega)]; rfl
  · rw [if_neg e, decide_eq_true (by omega), h, Bool.true_and]
    simp only [Option.bind_some, ht]
    rw [impl_sizes_ev, h0 k (by omega), Option.bind_some]
    unfold sizesB
    cases pN l l.length 0 <;> by_cases e1 : r.1 ≤ 300 <;> simp [e1]

/-! changes as lists of simple parts, and what they make -/
theorem ba_nil_append (a : ByteArray) : (⟨#[]⟩ : ByteArray) ++ a = a := by
  apply ByteArray.ext; simp [ByteArray.data_append]
theorem ba_append_nil (a : ByteArray) : a ++ (⟨#[]⟩ : ByteArray) = a := by
  apply ByteArray.ext; simp [ByteArray.data_append]
theorem ba_assoc (a b c : ByteArray) : a ++ b ++ c = a ++ (b ++ c) := by
  apply ByteArray.ext; simp [ByteArray.data_append]
theorem ba_of_toList {a b : ByteArray} (h : a.toList = b.toList) : a = b := by
  rw [toList_data, toList_data] at h
  apply ByteArray.ext
  exact Array.toList_inj.mp h
theorem ba_extract_extract (s : ByteArray) (a i j : Nat) (hj : a + j ≤ s.size) : (s.extract a s.size).extract i j = s.extract (a + i) (a + j) := by
  apply ByteArray.ext
  simp only [ByteArray.data_extract, Array.extract_extract]
  congr 1
  exact Nat.min_eq_left hj
theorem ba_extract_end (s : ByteArray) (a i : Nat) (hi : a + i ≤ s.size) : (s.extract a s.size).extract i (s.extract a s.size).size = s.extract (a + i) s.size := by
  have : (s.extract a s.size).size = s.size - a := by rw [ByteArray.size_extract]; omega
  rw [this, ba_extract_extract s a i (s.size - a) (by omega)]
  congr 1
  omega
theorem ba_extract_add (s : ByteArray) (a b c : Nat) (h1 : a ≤ b) (h2 : b ≤ c) : s.extract a b ++ s.extract b c = s.extract a c := by
  apply ByteArray.ext
  simp only [ByteArray.data_append, ByteArray.data_extract, Array.extract_append_extract]
  congr 1 <;> omega
theorem ba_extract_same (s : ByteArray) (a : Nat) : s.extract a a = ⟨#[]⟩ := by
  apply ByteArray.ext
  simp only [ByteArray.data_extract]
  apply Array.eq_empty_of_size_eq_zero
  simp
  omega
theorem ba_extract_all (s : ByteArray) : s.extract 0 s.size = s := by
  apply ByteArray.ext
  simp only [ByteArray.data_extract]
  exact Array.extract_size
inductive Pt
  | K (n : Nat)
  | W (w : ByteArray)
  | D (d : ByteArray)
def encP : Pt → S74
  | .K n => ⟨(n : Int), ⟨#[]⟩, ⟨#[]⟩⟩
  | .W w => ⟨0, w, ⟨#[]⟩⟩
  | .D d => ⟨0, ⟨#[]⟩, d⟩
def stepP (s : ByteArray) (st : ByteArray × Nat) : Pt → Option (ByteArray × Nat)
  | .K n => if st.2 + n ≤ s.size then some (st.1 ++ s.extract st.2 (st.2 + n), st.2 + n) else none
  | .W w => some (st.1 ++ w, st.2)
  | .D d => if st.2 + d.size ≤ s.size ∧ s.extract st.2 (st.2 + d.size) = d then some (st.1, st.2 + d.size) else none
def runP (s : ByteArray) : List Pt → ByteArray × Nat → Option (ByteArray × Nat)
  | [], st => some st
  | q :: l, st => (stepP s st q).bind (runP s l)
theorem runP_append (s : ByteArray) : ∀ (a b : List Pt) (st : ByteArray × Nat), runP s (a ++ b) st = (runP s a st).bind (runP s b)
  | [], b, st => rfl
  | q :: a, b, st => by
    show (stepP s st q).bind (runP s (a ++ b)) = ((stepP s st q).bind (runP s a)).bind (runP s b)
    cases stepP s st q with
    | none => rfl
    | some t => exact runP_append s a b t
/-- What stands in front lies reversed: the last part is the head. -/
def addP : List Pt → Pt → List Pt
  | .K a :: r, .K b => .K (a + b) :: r
  | .D a :: r, .D b => .D (a ++ b) :: r
  | .W a :: r, .W b => .W (a ++ b) :: r
  | .D d :: .W a :: r, .W b => .D d :: .W (a ++ b) :: r
  | .D d :: r, .W b => .D d :: .W b :: r
  | r, q => q :: r
theorem runP_snoc (s : ByteArray) (a : List Pt) (q : Pt) (st : ByteArray × Nat) : runP s (a ++ [q]) st = (runP s a st).bind fun t => stepP s t q := by
  rw [runP_append]
  cases runP s a st with
  | none => rfl
  | some t => show (stepP s t q).bind (fun u => some u) = stepP s t q; cases stepP s t q <;> rfl
theorem merge_last (s : ByteArray) (r : List Pt) (x y z : Pt) (hm : ∀ t u v, stepP s t x = some u → stepP s u y = some v → stepP s t z = some v) (st v : ByteArray × Nat) (h : (runP s (x :: r).reverse st).bind (fun t => stepP s t y) = some v) : runP s (z :: r).reverse st = some v := by
  rw [List.reverse_cons, runP_snoc] at h ⊢
  obtain ⟨u, hu, hv⟩ := Option.bind_eq_some_iff.mp h
  obtain ⟨t, ht, hx⟩ := Option.bind_eq_some_iff.mp hu
  rw [ht]
  exact hm t u v hx hv
theorem runP_add (s : ByteArray) (r : List Pt) (q : Pt) (st v : ByteArray × Nat) (h : (runP s r.reverse st).bind (fun t => stepP s t q) = some v) : runP s (addP r q).reverse st = some v := by
  have plain : runP s (q :: r).reverse st = some v := by rw [List.reverse_cons, runP_snoc]; exact h
  have swap : ∀ (d b : ByteArray) (r' : List Pt), r = .D d :: r' → q = .W b → (runP s (.W b :: r').reverse st).bind (fun t => stepP s t (.D d)) = some v := by
    intro d b r' hr hq
    subst hr; subst hq
    rw [List.reverse_cons, runP_snoc] at h ⊢
    obtain ⟨u, hu, hv⟩ := Option.bind_eq_some_iff.mp h
    obtain ⟨t, ht, hx⟩ := Option.bind_eq_some_iff.mp hu
    rw [ht]
    simp only [stepP] at hx hv ⊢
    split at hx
    · rename_i c
      cases hx
      simp only [Option.bind_some]
      rw [if_pos c]
      exact hv
    · cases hx
  match r, q with
  | .K a :: r, .K b =>
    refine merge_last s r (.K a) (.K b) (.K (a + b)) (fun t u v h1 h2 => ?_) st v h
    simp only [stepP] at h1 h2 ⊢
    split at h1
    · cases h1
      simp only at h2
      split at h2
      · cases h2
        rw [if_pos (by omega), ba_assoc, ba_extract_add s _ _ _ (by omega) (by omega), Nat.add_assoc]
      · cases h2
    · cases h1
  | .D a :: r, .D b =>
    refine merge_last s r (.D a) (.D b) (.D (a ++ b)) (fun t u v h1 h2 => ?_) st v h
    simp only [stepP] at h1 h2 ⊢
    split at h1
    · rename_i c1
      cases h1
      simp only at h2
      split at h2
      · rename_i c2
        cases h2
        rw [if_pos, ByteArray.size_append, Nat.add_assoc]
        rw [ByteArray.size_append]
        refine ⟨by omega, ?_⟩
        rw [← ba_extract_add s t.2 (t.2 + a.size) _ (by omega) (by omega), c1.2, ← Nat.add_assoc, c2.2]
      · cases h2
    · cases h1
  | .W a :: r, .W b =>
    refine merge_last s r (.W a) (.W b) (.W (a ++ b)) (fun t u v h1 h2 => ?_) st v h
    simp only [stepP] at h1 h2 ⊢
    cases h1
    cases h2
    rw [ba_assoc]
  | .D d :: .W a :: r, .W b =>
    have h' := swap d b (.W a :: r) rfl rfl
    show runP s (.D d :: .W (a ++ b) :: r).reverse st = some v
    rw [List.reverse_cons, runP_snoc]
    obtain ⟨u, hu, hv⟩ := Option.bind_eq_some_iff.mp h'
    rw [List.reverse_cons, runP_snoc] at hu
    rw [merge_last s r (.W a) (.W b) (.W (a ++ b)) (fun t u v h1 h2 => by simp only [stepP] at h1 h2 ⊢; cases h1; cases h2; rw [ba_assoc]) st u hu]
    exact hv
  | .D d :: [], .W b =>
    have h' := swap d b [] rfl rfl
    show runP s (.D d :: .W b :: []).reverse st = some v
    rw [List.reverse_cons, runP_snoc]; exact h'
  | .D d :: .K a :: r, .W b =>
    have h' := swap d b (.K a :: r) rfl rfl
    show runP s (.D d :: .W b :: .K a :: r).reverse st = some v
    rw [List.reverse_cons, runP_snoc]; exact h'
  | .D d :: .D a :: r, .W b =>
    have h' := swap d b (.D a :: r) rfl rfl
    show runP s (.D d :: .W b :: .D a :: r).reverse st = some v
    rw [List.reverse_cons, runP_snoc]; exact h'
  | [], .K b => exact plain
  | [], .W b => exact plain
  | [], .D b => exact plain
  | .K a :: r, .W b => exact plain
  | .K a :: r, .D b => exact plain
  | .W a :: r, .K b => exact plain
  | .W a :: r, .D b => exact plain
  | .D a :: r, .K b => exact plain

def okP : Pt → Prop
  | .K n => 0 < n ∧ n ≤ 1000000
  | .W w => 0 < w.size ∧ w.size ≤ 1000000
  | .D d => 0 < d.size ∧ d.size ≤ 1000000
theorem nil_toList : (⟨#[]⟩ : ByteArray).toList = ([] : List UInt8) := by rw [toList_data]
theorem pos_toList {w : ByteArray} (h : 0 < w.size) : ¬ w.toList = ([] : List UInt8) := by
  rw [toList_data]
  intro e
  have := congrArg List.length e
  rw [Array.length_toList] at this
  have e2 : w.data.size = 0 := this
  have e3 : w.data.size = w.size := rfl
  omega
theorem rd_last (M : List S74) (x : S74) : rd_T74 (M ++ [x]) (M.length : Int) = x := by
  unfold rd_T74
  rw [Int.toNat_natCast, List.getD_eq_getElem?_getD, List.getElem?_append_right (Nat.le_refl _)]
  simp
theorem rd_last2 (M : List S74) (x y : S74) : rd_T74 (M ++ [x] ++ [y]) (M.length : Int) = x := by
  unfold rd_T74
  rw [Int.toNat_natCast, List.getD_eq_getElem?_getD, List.append_assoc, List.getElem?_append_right (Nat.le_refl _)]
  simp
theorem set_last (M : List S74) (x y : S74) : (M ++ [x]).set (M.length : Int).toNat y = M ++ [y] := by
  rw [Int.toNat_natCast, List.set_append_right _ _ (Nat.le_refl _)]
  simp
theorem set_last2 (M : List S74) (x z y : S74) : (M ++ [x] ++ [z]).set (M.length : Int).toNat y = M ++ [y] ++ [z] := by
  rw [Int.toNat_natCast, List.append_assoc, List.set_append_right _ _ (Nat.le_refl _)]
  simp
theorem idx1 (M : List S74) (x : S74) (h : M.length ≤ 1000000) : wrap64 (((M ++ [x]).length : Int) - 1) = (M.length : Int) := by
  rw [List.length_append, List.length_singleton, w64 (by omega) (by omega)]; omega
theorem idx2 (M : List S74) (x y : S74) (h : M.length ≤ 1000000) : wrap64 (((M ++ [x] ++ [y]).length : Int) - 2) = (M.length : Int) := by
  simp only [List.length_append, List.length_singleton]
  rw [w64 (by omega) (by omega)]; omega
theorem encP_rev (r : List Pt) (x : Pt) : (x :: r).reverse.map encP = r.reverse.map encP ++ [encP x] := by
  rw [List.reverse_cons, List.map_append]; rfl
theorem l3Add_0 (k : Nat) (q : Pt) (hq : okP q) : spec_l3Add.f (k + 5) [] (encP q).f0 (encP q).f1 (encP q).f2 = some [encP q] := by
  cases q with
  | K n => have h : ¬ n = 0 := by have := hq.1; omega
           simp [spec_l3Add.f, spec_l3Add.j0, encP, h]
  | W w => simp [spec_l3Add.f, spec_l3Add.j0, encP, pos_toList hq.1]
  | D d => simp [spec_l3Add.f, spec_l3Add.j0, encP, pos_toList hq.1, nil_toList]
theorem l3Add_K (k : Nat) (L : List S74) (N : Nat) (hL : L.length = N + 1) (hN : N ≤ 1000000) (x : S74) (hx : rd_T74 L (N : Int) = x) (n : Nat) (hn : 0 < n) :
    spec_l3Add.f (k + 5) L (n : Int) ⟨#[]⟩ ⟨#[]⟩ = if x.f0 > 0 then some (L.set N ⟨wrap64 (x.f0 + n), x.f1, x.f2⟩) else some (L ++ [⟨(n : Int), ⟨#[]⟩, ⟨#[]⟩⟩]) := by
  have hl : ¬ (L.length : Int) = 0 := by omega
  have hi : wrap64 ((L.length : Int) - 1) = (N : Int) := by rw [w64 (by omega) (by omega)]; omega
  have h0 : (0 : Int) ≤ (N : Int) := by omega
  have h1 : (N : Int) < (L.length : Int) := by omega
  have h2 : L.length < 3518437208883 := by omega
  have e0 : ¬ (n : Int) = 0 := by omega
  have e1 : (n : Int) > 0 := by omega
  simp only [spec_l3Add.f, if_neg e0, spec_l3Add.j0, Bool.false_eq_true, if_false, if_neg hl, hi, if_pos h0, if_pos h1, if_pos e1, hx, spec_l3Add.j1, spec_l3Add.j2, spec_l3Add.j3, spec_l3Add.j4, if_pos h2, nil_toList, if_true, Int.toNat_natCast, decide_eq_true_eq]
theorem l3Add_W (k : Nat) (L : List S74) (N : Nat) (hL : L.length = N + 1) (hN : N ≤ 1000000) (x : S74) (hx : rd_T74 L (N : Int) = x) (w : ByteArray) (hw : 0 < w.size) (hw2 : w.size ≤ 1000000) (hx2 : x.f1.size ≤ 1000000) (y : S74) (hy : 1 ≤ N → rd_T74 L ((N - 1 : Nat) : Int) = y) (hy2 : y.f1.size ≤ 1000000) :
    spec_l3Add.f (k + 5) L 0 w ⟨#[]⟩ = if x.f1.toList ≠ [] then some (L.set N ⟨x.f0, x.f1 ++ w, x.f2⟩) else if x.f2.toList ≠ [] then
      (if 1 ≤ N ∧ y.f1.toList ≠ [] then some (L.set (N - 1) ⟨y.f0, y.f1 ++ w, y.f2⟩) else some (L.set N ⟨0, w, ⟨#[]⟩⟩ ++ [x])) else some (L ++ [⟨0, w, ⟨#[]⟩⟩]) := by
  have hl : ¬ (L.length : Int) = 0 := by omega
  have hi : wrap64 ((L.length : Int) - 1) = (N : Int) := by rw [w64 (by omega) (by omega)]; omega
  have h0 : (0 : Int) ≤ (N : Int) := by omega
  have h1 : (N : Int) < (L.length : Int) := by omega
  have h2 : L.length < 3518437208883 := by omega
  have e1 : ¬ (0 : Int) > 0 := by omega
  have hw' := pos_toList hw
  have s1 : x.f1.size + w.size ≤ 9223372036854775807 := by omega
  have s2 : y.f1.size + w.size ≤ 9223372036854775807 := by omega
  simp only [spec_l3Add.f, if_neg hw', spec_l3Add.j0, Bool.false_eq_true, if_false, if_neg hl, hi, if_pos h0, if_pos h1, if_neg e1, hx, spec_l3Add.j1, spec_l3Add.j2, spec_l3Add.j3, nil_toList, if_true, Int.toNat_natCast, if_pos s1]
  by_cases c1 : x.f1.toList = []
  · simp only [c1, bne_self_eq_false, Bool.false_eq_true, if_false, ne_eq, not_true_eq_false, if_neg hw', spec_l3Add.j4]
    by_cases c2 : x.f2.toList = []
    · simp only [c2, bne_self_eq_false, Bool.false_eq_true, if_false, not_true_eq_false, if_pos h2]
    · have c2' : (x.f2.toList != []) = true := bne_iff_ne.mpr c2
      simp only [c2', if_true, not_false_eq_true, c2]
      by_cases c3 : 1 ≤ N
      · have hj : wrap64 ((L.length : Int) - 2) = ((N - 1 : Nat) : Int) := by rw [w64 (by omega) (by omega)]; omega
        have h3 : (0 : Int) ≤ ((N - 1 : Nat) : Int) := by omega
        have h4 : ((N - 1 : Nat) : Int) < (L.length : Int) := by omega
        have h5 : (L.length : Int) > 1 := by omega
        simp only [if_pos h5, hj, if_pos h3, if_pos h4, hy c3, hi, if_pos h0, if_pos h1, hx, Int.toNat_natCast, if_pos s2, c3, true_and, Option.bind_some, List.length_set, if_pos h2]
        by_cases c4 : y.f1.toList = []
        · simp [c4]
        · simp [c4]
      · have h5 : ¬ (L.length : Int) > 1 := by omega
        simp only [if_neg h5, hi, if_pos h0, if_pos h1, Int.toNat_natCast, c3, false_and, if_false, Option.bind_some, List.length_set, if_pos h2]
  · have c1' : (x.f1.toList != []) = true := bne_iff_ne.mpr c1
    simp only [c1', if_true, ne_eq, c1, not_false_eq_true]
theorem l3Add_D (k : Nat) (L : List S74) (N : Nat) (hL : L.length = N + 1) (hN : N ≤ 1000000) (x : S74) (hx : rd_T74 L (N : Int) = x) (d : ByteArray) (hd : 0 < d.size) (hd2 : d.size ≤ 1000000) (hx2 : x.f2.size ≤ 1000000) :
    spec_l3Add.f (k + 5) L 0 ⟨#[]⟩ d = if x.f2.toList ≠ [] then some (L.set N ⟨x.f0, x.f1, x.f2 ++ d⟩) else some (L ++ [⟨0, ⟨#[]⟩, d⟩]) := by
  have hl : ¬ (L.length : Int) = 0 := by omega
  have hi : wrap64 ((L.length : Int) - 1) = (N : Int) := by rw [w64 (by omega) (by omega)]; omega
  have h0 : (0 : Int) ≤ (N : Int) := by omega
  have h1 : (N : Int) < (L.length : Int) := by omega
  have h2 : L.length < 3518437208883 := by omega
  have e1 : ¬ (0 : Int) > 0 := by omega
  have hd' := pos_toList hd
  have hd'' : (d.toList == []) = false := beq_eq_false_iff_ne.mpr hd'
  have s1 : x.f2.size + d.size ≤ 9223372036854775807 := by omega
  simp only [spec_l3Add.f, nil_toList, if_true, hd'', spec_l3Add.j0, Bool.false_eq_true, if_false, if_neg hl, hi, if_pos h0, if_pos h1, if_neg e1, hx, spec_l3Add.j1, spec_l3Add.j2, spec_l3Add.j3, spec_l3Add.j4, if_neg hd', Int.toNat_natCast, if_pos s1, if_pos h2]
  by_cases c1 : x.f2.toList = []
  · simp [c1]
  · simp [c1]

theorem l3Add_nil (k : Nat) (L : List S74) : spec_l3Add.f (k + 5) L 0 ⟨#[]⟩ ⟨#[]⟩ = some L := by
  simp [spec_l3Add.f, spec_l3Add.j0, nil_toList]
theorem set_at (M : List S74) (x y : S74) : (M ++ [x]).set M.length y = M ++ [y] := by
  rw [List.set_append_right _ _ (Nat.le_refl _)]
  simp
theorem set_at2 (M : List S74) (x z y : S74) : (M ++ [x] ++ [z]).set M.length y = M ++ [y] ++ [z] := by
  rw [List.append_assoc, List.set_append_right _ _ (Nat.le_refl _)]
  simp
theorem l3Add_enc (k : Nat) (r : List Pt) (hr : r.length ≤ 1000000) (hok : ∀ x ∈ r, okP x) (q : Pt) (hq : okP q) :
    spec_l3Add.f (k + 5) (r.reverse.map encP) (encP q).f0 (encP q).f1 (encP q).f2 = some ((addP r q).reverse.map encP) := by
  match r with
  | [] => exact l3Add_0 k q hq
  | x :: r =>
    have hx := hok x (List.mem_cons_self)
    have hr' : r.length ≤ 1000000 := by simp at hr; omega
    rw [encP_rev]
    have hN : ((r.reverse.map encP).length) = r.length := by simp
    have hL : (r.reverse.map encP ++ [encP x]).length = r.length + 1 := by simp
    have hrd : rd_T74 (r.reverse.map encP ++ [encP x]) (r.length : Int) = encP x := by rw [← hN]; exact rd_last _ _
    have hset : ∀ y, (r.reverse.map encP ++ [encP x]).set r.length y = r.reverse.map encP ++ [y] := by intro y; rw [← hN]; exact set_at _ _ _
    have plain : ∀ q' : Pt, addP (x :: r) q' = q' :: x :: r → (addP (x :: r) q').reverse.map encP = r.reverse.map encP ++ [encP x] ++ [encP q'] := by
      intro q' h; rw [h, encP_rev, encP_rev]
    cases q with
    | K n =>
      rw [show (encP (.K n)).f0 = (n : Int) from rfl, show (encP (.K n)).f1 = ⟨#[]⟩ from rfl, show (encP (.K n)).f2 = ⟨#[]⟩ from rfl]
      rw [l3Add_K k _ r.length hL hr' (encP x) hrd n hq.1]
      cases x with
      | K m =>
        have h1 := hx.1
        have h2 := hx.2
        have h3 := hq.2
        rw [if_pos (show (encP (.K m)).f0 > 0 by show (m : Int) > 0; omega), hset]
        show _ = some ((Pt.K (m + n) :: r).reverse.map encP)
        rw [encP_rev]
        show some (_ ++ [(⟨wrap64 ((m : Int) + (n : Int)), ⟨#[]⟩, ⟨#[]⟩⟩ : S74)]) = some (_ ++ [(⟨((m + n : Nat) : Int), ⟨#[]⟩, ⟨#[]⟩⟩ : S74)])
        rw [w64 (by omega) (by omega)]
        rfl
      | W w =>
        rw [if_neg (show ¬ (encP (.W w)).f0 > 0 by show ¬ (0 : Int) > 0; omega), plain (.K n) rfl]; rfl
      | D d =>
        rw [if_neg (show ¬ (encP (.D d)).f0 > 0 by show ¬ (0 : Int) > 0; omega), plain (.K n) rfl]; rfl
    | W w =>
      rw [show (encP (.W w)).f0 = (0 : Int) from rfl, show (encP (.W w)).f1 = w from rfl, show (encP (.W w)).f2 = ⟨#[]⟩ from rfl]
      have hx1 : (encP x).f1.size ≤ 1000000 := by
        cases x with
        | K m => exact Nat.zero_le _
        | W a => exact hx.2
        | D d => exact Nat.zero_le _
      match r, hr', hN, hL, hrd, hset, plain, hok with
      | [], hr', hN, hL, hrd, hset, plain, hok =>
        rw [l3Add_W k _ 0 hL hr' (encP x) hrd w hq.1 hq.2 hx1 z74 (fun h => by omega) (by decide)]
        cases x with
        | K m => rw [if_neg (by simp [encP, nil_toList]), if_neg (by simp [encP, nil_toList]), plain (.W w) rfl]; rfl
        | W a => rw [if_pos (by exact pos_toList hx.1)]; rfl
        | D d => rw [if_neg (by simp [encP, nil_toList]), if_pos (by exact pos_toList hx.1), if_neg (by omega)]; rfl
      | y :: r, hr', hN, hL, hrd, hset, plain, hok =>
        have hy := hok y (List.mem_cons_of_mem _ List.mem_cons_self)
        have hy1 : (encP y).f1.size ≤ 1000000 := by
          cases y with
          | K m => exact Nat.zero_le _
          | W a => exact hy.2
          | D d => exact Nat.zero_le _
        have hN2 : ((r.reverse.map encP).length) = r.length := by simp
        have hrd2 : rd_T74 ((y :: r).reverse.map encP ++ [encP x]) (((y :: r).length - 1 : Nat) : Int) = encP y := by
          rw [encP_rev, List.length_cons, Nat.add_sub_cancel, ← hN2]; exact rd_last2 _ _ _
        have hset2 : ∀ z, ((y :: r).reverse.map encP ++ [encP x]).set ((y :: r).length - 1) z = r.reverse.map encP ++ [z] ++ [encP x] := by
          intro z; rw [encP_rev, List.length_cons, Nat.add_sub_cancel, ← hN2]; exact set_at2 _ _ _ _
        rw [l3Add_W k _ (y :: r).length hL hr' (encP x) hrd w hq.1 hq.2 hx1 (encP y) (fun _ => hrd2) hy1]
        cases x with
        | K m => rw [if_neg (by simp [encP, nil_toList]), if_neg (by simp [encP, nil_toList]), plain (.W w) rfl]; rfl
        | W a => rw [if_pos (by exact pos_toList hx.1), hset]; show _ = some ((Pt.W (a ++ w) :: y :: r).reverse.map encP); rw [encP_rev (y :: r) (Pt.W (a ++ w))]; rfl
        | D d =>
          rw [if_neg (by simp [encP, nil_toList]), if_pos (by exact pos_toList hx.1)]
          cases y with
          | K m =>
            rw [if_neg (by simp [encP, nil_toList]), hset]
            show _ = some ((Pt.D d :: Pt.W w :: Pt.K m :: r).reverse.map encP)
            rw [encP_rev (.W w :: .K m :: r) (.D d), encP_rev (.K m :: r) (.W w)]; rfl
          | W a =>
            rw [if_pos ⟨by simp, by exact pos_toList hy.1⟩, hset2]
            show _ = some ((Pt.D d :: Pt.W (a ++ w) :: r).reverse.map encP)
            rw [encP_rev (.W (a ++ w) :: r) (.D d), encP_rev r (.W (a ++ w))]; rfl
          | D b =>
            rw [if_neg (by simp [encP, nil_toList]), hset]
            show _ = some ((Pt.D d :: Pt.W w :: Pt.D b :: r).reverse.map encP)
            rw [encP_rev (.W w :: .D b :: r) (.D d), encP_rev (.D b :: r) (.W w)]; rfl
    | D d =>
      rw [show (encP (.D d)).f0 = (0 : Int) from rfl, show (encP (.D d)).f1 = ⟨#[]⟩ from rfl, show (encP (.D d)).f2 = d from rfl]
      have hx2 : (encP x).f2.size ≤ 1000000 := by
        cases x with
        | K m => exact Nat.zero_le _
        | W a => exact Nat.zero_le _
        | D d => exact hx.2
      rw [l3Add_D k _ r.length hL hr' (encP x) hrd d hq.1 hq.2 hx2]
      cases x with
      | K m => rw [if_neg (by simp [encP, nil_toList]), plain (.D d) rfl]; rfl
      | W a => rw [if_neg (by simp [encP, nil_toList]), plain (.D d) rfl]; rfl
      | D b =>
        rw [if_pos (by exact pos_toList hx.1), hset]
        show _ = some ((Pt.D (b ++ d) :: r).reverse.map encP)
        rw [encP_rev]; rfl

def massP : Pt → Nat
  | .K n => n
  | .W w => w.size
  | .D d => d.size
def mass : List Pt → Nat
  | [] => 0
  | q :: r => massP q + mass r
theorem mass_add (r : List Pt) (q : Pt) : mass (addP r q) = mass r + massP q := by
  unfold addP
  split <;> simp [mass, massP, ByteArray.size_append] <;> omega
theorem pos_add (r : List Pt) (q : Pt) (hr : ∀ x ∈ r, 0 < massP x) (hq : 0 < massP q) : ∀ x ∈ addP r q, 0 < massP x := by
  unfold addP
  split <;> simp [massP, ByteArray.size_append] at hr hq ⊢ <;> simp_all <;> omega
theorem mass_mem {r : List Pt} {x : Pt} (h : x ∈ r) : massP x ≤ mass r := by
  induction r with
  | nil => simp at h
  | cons y r ih =>
    rcases List.mem_cons.mp h with rfl | h
    · simp [mass]
    · have := ih h; simp only [mass]; omega
theorem mass_len {r : List Pt} (hr : ∀ x ∈ r, 0 < massP x) : r.length ≤ mass r := by
  induction r with
  | nil => simp
  | cons y r ih =>
    have h1 := ih (fun x hx => hr x (List.mem_cons_of_mem _ hx))
    have h2 := hr y List.mem_cons_self
    simp only [mass, List.length_cons]; omega
theorem okP_of {x : Pt} (h0 : 0 < massP x) (h1 : massP x ≤ 1000000) : okP x := by
  cases x <;> exact ⟨h0, h1⟩
def addQ (r : List Pt) (q : Pt) : List Pt := if massP q = 0 then r else addP r q
theorem mass_addQ (r : List Pt) (q : Pt) : mass (addQ r q) = mass r + massP q := by
  unfold addQ
  split
  · omega
  · exact mass_add r q
theorem pos_addQ (r : List Pt) (q : Pt) (hr : ∀ x ∈ r, 0 < massP x) : ∀ x ∈ addQ r q, 0 < massP x := by
  unfold addQ
  split
  · exact hr
  · exact pos_add r q hr (by omega)
theorem size0_eq {a : ByteArray} (h : a.size = 0) : a = ⟨#[]⟩ := by
  apply ByteArray.ext
  exact Array.eq_empty_of_size_eq_zero h
theorem l3AddQ (k : Nat) (r : List Pt) (hr : ∀ x ∈ r, 0 < massP x) (q : Pt) (hm : mass r + massP q ≤ 1000000) :
    spec_l3Add.f (k + 5) (r.reverse.map encP) (encP q).f0 (encP q).f1 (encP q).f2 = some ((addQ r q).reverse.map encP) := by
  unfold addQ
  split
  · rename_i h
    have : encP q = ⟨0, ⟨#[]⟩, ⟨#[]⟩⟩ := by
      cases q with
      | K n => have : n = 0 := h; subst this; rfl
      | W w => rw [size0_eq (a := w) h]; rfl
      | D d => rw [size0_eq (a := d) h]; rfl
    rw [this]
    exact l3Add_nil k _
  · refine l3Add_enc k r ?_ ?_ q (okP_of (by omega) (by omega))
    · have := mass_len hr; omega
    · intro x hx
      have := mass_mem hx
      exact okP_of (hr x hx) (by omega)
theorem runP_addQ (s : ByteArray) (r : List Pt) (q : Pt) (st u v : ByteArray × Nat) (hu : runP s r.reverse st = some u) (hv : stepP s u q = some v) (hle : u.2 ≤ s.size) : runP s (addQ r q).reverse st = some v := by
  unfold addQ
  split
  · rename_i h
    rw [hu]
    cases q with
    | K n =>
      have : n = 0 := h
      subst this
      simp only [stepP, Nat.add_zero, if_pos hle, ba_extract_same, ba_append_nil] at hv
      exact hv
    | W w =>
      rw [size0_eq (a := w) h] at hv
      simp only [stepP, ba_append_nil] at hv
      exact hv
    | D d =>
      rw [size0_eq (a := d) h] at hv
      simp only [stepP] at hv
      split at hv
      · exact hv
      · cases hv
  · refine runP_add s r q st v ?_
    rw [hu]
    exact hv
def T (s w : ByteArray) (m : Nat) : Nat → List Nat → ByteArray
  | a, [] => s.extract a s.size
  | a, k :: ks => s.extract a k ++ w ++ T s w m (k + m) ks
def ch (s p : ByteArray) : Nat → List Nat → Prop
  | a, [] => a ≤ s.size
  | a, k :: ks => a ≤ k ∧ k + p.size ≤ s.size ∧ s.extract k (k + p.size) = p ∧ ch s p (k + p.size) ks
def apN (m : Nat) : Nat → List Nat → List Nat
  | _, [] => []
  | a, k :: l => if a ≤ k then k :: apN m (k + m) l else apN m a l
theorem ch_ap (s p : ByteArray) : ∀ (l : List Nat) (a : Nat), a ≤ s.size → (∀ k ∈ l, k + p.size ≤ s.size ∧ s.extract k (k + p.size) = p) → ch s p a (apN p.size a l)
  | [], a, ha, _ => ha
  | k :: l, a, ha, h => by
    have hk := h k List.mem_cons_self
    have hl : ∀ k ∈ l, k + p.size ≤ s.size ∧ s.extract k (k + p.size) = p := fun x hx => h x (List.mem_cons_of_mem _ hx)
    unfold apN
    split
    · rename_i c
      exact ⟨c, hk.1, hk.2, ch_ap s p l _ hk.1 hl⟩
    · exact ch_ap s p l a ha hl
theorem ch_le {s p : ByteArray} : ∀ {l : List Nat} {a : Nat}, ch s p a l → a ≤ s.size
  | [], _, h => h
  | k :: l, a, h => by have h1 := h.1; have h2 := h.2.1; omega
theorem apN_len (m : Nat) : ∀ (l : List Nat) (a : Nat), (apN m a l).length ≤ l.length
  | [], _ => Nat.le_refl _
  | k :: l, a => by
    unfold apN
    split
    · have := apN_len m l (k + m); simp; omega
    · have := apN_len m l a; simp; omega
theorem rd_cast (ks : List Nat) (i : Nat) (h : i < ks.length) : rd (ks.map fun a : Nat => (a : Int)) (i : Int) = (ks[i] : Int) := by
  unfold rd
  rw [Int.toNat_natCast, List.getD_eq_getElem?_getD, List.getElem?_map, List.getElem?_eq_getElem h]
  rfl
theorem spec_rep_l (s p w : ByteArray) (hs : s.size ≤ 300) (hp : p.size ≤ 300) (h0 : 0 < p.size) (hw : w.size ≤ 300) (ks : List Nat) (hk : ks.length ≤ 300) : ∀ (d i : Nat) (r : List Pt) (a : Nat) (out : ByteArray), i + d = ks.length → ch s p a (ks.drop i) →
    runP s r.reverse (⟨#[]⟩, 0) = some (out, a) → (∀ x ∈ r, 0 < massP x) → mass r ≤ 1000 * i →
    ∃ r', runP s r'.reverse (⟨#[]⟩, 0) = some (out ++ T s w p.size a (ks.drop i), s.size) ∧ (∀ x ∈ r', 0 < massP x) ∧ mass r' ≤ 1000000 ∧
      ∃ K, ∀ k, K ≤ k → spec_l11Replace.l0 k s p w (r.reverse.map encP) (a : Int) (ks.map fun a : Nat => (a : Int)) (ks.map fun a : Nat => (a : Int)) ((ks.map fun a : Nat => (a : Int)).length : Int) (i : Int) = some (r'.reverse.map encP, (ks.length : Int)) := by
  intro d
  induction d with
  | zero =>
    intro i r a out hi hc hr hpos hm
    have ha := ch_le hc
    have hm' := mass_addQ r (.K (s.size - a))
    have he : massP (.K (s.size - a)) = s.size - a := rfl
    refine ⟨addQ r (.K (s.size - a)), ?_, pos_addQ r _ hpos, by omega, 5 + 1, fun k hk' => ?_⟩
    · rw [List.drop_of_length_le (by omega)]
      refine runP_addQ s r _ _ (out, a) _ hr ?_ ha
      simp only [stepP, T]
      rw [if_pos (by omega), show a + (s.size - a) = s.size by omega]
    · obtain ⟨k, rfl⟩ : ∃ m, k = m + 5 + 1 := ⟨k - 6, by omega⟩
      have hq := l3AddQ k r hpos (.K (s.size - a)) (by omega)
      simp only [spec_l11Replace.l0]
      rw [if_neg (by simp; omega), w64 (by omega) (by omega)]
      rw [show (s.size : Int) - (a : Int) = ((s.size - a : Nat) : Int) by omega]
      have hq' : spec_l3Add.f (k + 5) (r.reverse.map encP) ((s.size - a : Nat) : Int) ⟨#[]⟩ ⟨#[]⟩ = some ((addQ r (.K (s.size - a))).reverse.map encP) := hq
      rw [hq', Option.bind_some]
      simp
  | succ d ih =>
    intro i r a out hi hc hr hpos hm
    have hil : i < ks.length := by omega
    rw [List.drop_eq_getElem_cons hil] at hc ⊢
    obtain ⟨c1, c2, c3, c4⟩ := hc
    generalize hkv : ks[i] = kv at c1 c2 c3 c4
    have hrd := rd_cast ks i hil
    rw [hkv] at hrd
    have hm1 := mass_addQ r (.K (kv - a))
    have he1 : massP (.K (kv - a)) = kv - a := rfl
    have hp1 := pos_addQ r (.K (kv - a)) hpos
    have hr1 := runP_addQ s r (.K (kv - a)) _ (out, a) (out ++ s.extract a kv, kv) hr (by simp only [stepP]; rw [if_pos (by omega), show a + (kv - a) = kv by omega]) (by show a ≤ s.size; omega)
    have hq1 : ∀ k, spec_l3Add.f (k + 5) (r.reverse.map encP) ((kv - a : Nat) : Int) ⟨#[]⟩ ⟨#[]⟩ = some ((addQ r (.K (kv - a))).reverse.map encP) := fun k => l3AddQ k r hpos (.K (kv - a)) (by omega)
    generalize addQ r (.K (kv - a)) = r1 at hm1 hp1 hr1 hq1
    have key : ∃ r3, runP s r3.reverse (⟨#[]⟩, 0) = some (out ++ s.extract a kv ++ w, kv + p.size) ∧ (∀ x ∈ r3, 0 < massP x) ∧ mass r3 ≤ 1000 * (i + 1) ∧
        ∀ (k : Nat) (g : List S74 → Option (List S74 × Int)), (if w.toList = p.toList then (spec_l3Add.f (k + 5) (r1.reverse.map encP) (p.size : Int) ⟨#[]⟩ ⟨#[]⟩).bind g else ((spec_l3Add.f (k + 5) (r1.reverse.map encP) 0 w ⟨#[]⟩).bind fun t173 => ((spec_l3Add.f (k + 5) t173 0 ⟨#[]⟩ p).bind g))) = g (r3.reverse.map encP) := by
      by_cases e : w.toList = p.toList
      · have e' := ba_of_toList e
        have hm2 := mass_addQ r1 (.K p.size)
        have he2 : massP (.K p.size) = p.size := rfl
        refine ⟨addQ r1 (.K p.size), ?_, pos_addQ r1 _ hp1, by omega, fun k g => ?_⟩
        · refine runP_addQ s r1 _ _ _ _ hr1 ?_ (by show kv ≤ s.size; omega)
          simp only [stepP]
          rw [if_pos c2, c3, e']
        · have hq2 : spec_l3Add.f (k + 5) (r1.reverse.map encP) (p.size : Int) ⟨#[]⟩ ⟨#[]⟩ = some ((addQ r1 (.K p.size)).reverse.map encP) := l3AddQ k r1 hp1 (.K p.size) (by omega)
          rw [if_pos e, hq2]; rfl
      · have hm2 := mass_addQ r1 (.W w)
        have he2 : massP (.W w) = w.size := rfl
        have hp2 := pos_addQ r1 (.W w) hp1
        have hr2 := runP_addQ s r1 (.W w) _ _ (out ++ s.extract a kv ++ w, kv) hr1 rfl (by show kv ≤ s.size; omega)
        have hq2 : ∀ k, spec_l3Add.f (k + 5) (r1.reverse.map encP) 0 w ⟨#[]⟩ = some ((addQ r1 (.W w)).reverse.map encP) := fun k => l3AddQ k r1 hp1 (.W w) (by omega)
        generalize addQ r1 (.W w) = r2 at hm2 hp2 hr2 hq2
        have hm3 := mass_addQ r2 (.D p)
        have he3 : massP (.D p) = p.size := rfl
        refine ⟨addQ r2 (.D p), ?_, pos_addQ r2 _ hp2, by omega, fun k g => ?_⟩
        · refine runP_addQ s r2 _ _ _ _ hr2 ?_ (by show kv ≤ s.size; omega)
          simp only [stepP]
          rw [if_pos ⟨c2, c3⟩]
        · have hq3 : spec_l3Add.f (k + 5) (r2.reverse.map encP) 0 ⟨#[]⟩ p = some ((addQ r2 (.D p)).reverse.map encP) := l3AddQ k r2 hp2 (.D p) (by omega)
          rw [if_neg e, hq2, Option.bind_some, hq3]; rfl
    obtain ⟨r3, g1, g2, g3, g4⟩ := key
    obtain ⟨r', i1, i2, i3, K, i4⟩ := ih (i + 1) r3 (kv + p.size) _ (by omega) c4 g1 g2 g3
    refine ⟨r', ?_, i2, i3, K + 6, fun k hk' => ?_⟩
    · rw [i1]
      simp only [T, ba_assoc]
    · obtain ⟨k, rfl⟩ : ∃ m, k = m + 5 + 1 := ⟨k - 6, by omega⟩
      obtain ⟨k5, hk5⟩ : ∃ m, m = k + 5 := ⟨_, rfl⟩
      rw [← hk5]
      simp only [spec_l11Replace.l0]
      rw [if_pos (by simp; omega), if_pos (by omega), if_pos (by simp; omega), hrd]
      rw [hk5]
      rw [w64 (i := (kv : Int) - (a : Int)) (by omega) (by omega), show (kv : Int) - (a : Int) = ((kv - a : Nat) : Int) by omega, hq1, Option.bind_some]
      rw [w64 (i := (kv : Int) + (p.size : Int)) (by omega) (by omega), w64 (i := (i : Int) + 1) (by omega) (by omega)]
      rw [g4 k (fun t => spec_l11Replace.l0 (k + 5) s p w t ((kv : Int) + (p.size : Int)) (ks.map fun a : Nat => (a : Int)) (ks.map fun a : Nat => (a : Int)) ((ks.map fun a : Nat => (a : Int)).length : Int) ((i : Int) + 1))]
      have := i4 (k + 5) (by omega)
      rw [show ((kv + p.size : Nat) : Int) = (kv : Int) + (p.size : Int) by omega, show ((i + 1 : Nat) : Int) = (i : Int) + 1 by omega] at this
      exact this

theorem stepP_mono {s : ByteArray} {q : Pt} {st v : ByteArray × Nat} (h : stepP s st q = some v) (ha : st.2 ≤ s.size) : st.1.size ≤ v.1.size ∧ v.2 ≤ s.size := by
  cases q with
  | K n =>
    simp only [stepP] at h
    split at h
    · cases h; simp only [ByteArray.size_append]; omega
    · cases h
  | W w => simp only [stepP] at h; cases h; simp only [ByteArray.size_append]; omega
  | D d =>
    simp only [stepP] at h
    split at h
    · cases h; simp only; omega
    · cases h
theorem runP_mono {s : ByteArray} : ∀ {l : List Pt} {st v : ByteArray × Nat}, runP s l st = some v → st.2 ≤ s.size → st.1.size ≤ v.1.size ∧ v.2 ≤ s.size
  | [], st, v, h, ha => by
    have : st = v := Option.some.inj h
    subst this
    exact ⟨Nat.le_refl _, ha⟩
  | q :: l, st, v, h, ha => by
    obtain ⟨u, hu, hv⟩ := Option.bind_eq_some_iff.mp h
    have h1 := stepP_mono hu ha
    have h2 := runP_mono hv h1.2
    omega
theorem rd_enc (L : List Pt) (i : Nat) (h : i < L.length) : rd_T74 (L.map encP) (i : Int) = encP L[i] := by
  unfold rd_T74
  rw [Int.toNat_natCast, List.getD_eq_getElem?_getD, List.getElem?_map, List.getElem?_eq_getElem h]
  rfl
theorem rest_size (s : ByteArray) (a : Nat) : (s.extract a s.size).size = s.size - a := by rw [ByteArray.size_extract]; omega
theorem l3Apply_l (s : ByteArray) (hs : s.size ≤ 300) (L : List Pt) (hL : L.length ≤ 1000000) (hpos : ∀ x ∈ L, 0 < massP x) (hmx : ∀ x ∈ L, massP x ≤ 1000000) (v : ByteArray × Nat) (hv : v.1.size ≤ 1000000000) :
    ∀ (d i : Nat) (a : Nat) (out : ByteArray), i + d = L.length → a ≤ s.size → runP s (L.drop i) (out, a) = some v →
    ∃ K, ∀ k, K ≤ k → spec_l3Apply.l0 k (s.extract a s.size) out (L.map encP) ((L.map encP).length : Int) (i : Int) = some (v.1, (s.extract v.2 s.size).toList == ([] : List UInt8)) := by
  intro d
  induction d with
  | zero =>
    intro i a out hi ha hr
    rw [List.drop_of_length_le (by omega)] at hr
    have : (out, a) = v := Option.some.inj hr
    subst this
    refine ⟨1, fun k hk => ?_⟩
    obtain ⟨k, rfl⟩ : ∃ m, k = m + 1 := ⟨k - 1, by omega⟩
    simp only [spec_l3Apply.l0]
    rw [if_neg (by simp; omega)]
  | succ d ih =>
    intro i a out hi ha hr
    have hil : i < L.length := by omega
    rw [List.drop_eq_getElem_cons hil] at hr
    have hx := hpos _ (List.getElem_mem hil)
    have hx2 := hmx _ (List.getElem_mem hil)
    have hrd := rd_enc L i hil
    generalize L[i] = q at hr hx hx2 hrd
    obtain ⟨u, hu, hr'⟩ := Option.bind_eq_some_iff.mp hr
    have hmo := runP_mono hr' (stepP_mono hu ha).2
    obtain ⟨K, hK⟩ := ih (i + 1) u.2 u.1 (by omega) (stepP_mono hu ha).2 hr'
    have hsz := rest_size s a
    refine ⟨K + 2, fun k hk => ?_⟩
    obtain ⟨k, rfl⟩ : ∃ m, k = m + 2 := ⟨k - 2, by omega⟩
    have hk' := hK k (by omega)
    obtain ⟨k1, hk1⟩ : ∃ m, m = k + 1 := ⟨_, rfl⟩
    rw [show k + 2 = k1 + 1 by omega]
    simp only [spec_l3Apply.l0, hrd]
    rw [if_pos (by simp; omega), if_pos (by omega), if_pos (by simp; omega)]
    rw [hk1]
    obtain ⟨k0, hk0⟩ : ∃ m, m = k := ⟨_, rfl⟩
    rw [← hk0] at hk' ⊢
    cases q with
    | K n =>
      simp only [stepP] at hu
      split at hu
      · rename_i c
        cases hu
        simp only at hk' c hmo
        have hn0 : 0 < n := hx
        simp only [encP, show (⟨#[]⟩ : ByteArray).size = 0 from rfl, Int.add_zero, Int.natCast_zero]
        rw [w64 (i := (n : Int)) (by have : n ≤ 1000000 := hx2; omega) (by have : n ≤ 1000000 := hx2; omega), if_neg (by rw [hsz]; omega), if_pos nil_toList]
        simp only [spec_l3Apply.j1, Bool.false_eq_true, if_false]
        have e1 : (s.extract a s.size).extract 0 (n : Int).toNat = s.extract a (a + n) := by rw [Int.toNat_natCast, ba_extract_extract s a 0 n c]; rfl
        have e2 : (s.extract a s.size).extract (n : Int).toNat (s.extract a s.size).size = s.extract (a + n) s.size := by rw [Int.toNat_natCast]; exact ba_extract_end s a n c
        have e3 := hmo.1
        rw [ByteArray.size_append] at e3
        rw [if_pos (by omega), if_pos (by omega), if_pos (by rw [hsz]; omega), e1, if_pos (by omega), if_pos (by rw [ByteArray.size_append, show (⟨#[]⟩ : ByteArray).size = 0 from rfl]; omega), e2, ba_append_nil, w64 (i := (i : Int) + 1) (by omega) (by omega)]
        exact hk'
      · cases hu
    | W w =>
      simp only [stepP] at hu
      cases hu
      simp only at hk' hmo
      simp only [encP, show (⟨#[]⟩ : ByteArray).size = 0 from rfl, Int.natCast_zero, Int.add_zero]
      rw [w64 (i := (0 : Int)) (by omega) (by omega), if_neg (by rw [hsz]; omega), if_pos nil_toList]
      simp only [spec_l3Apply.j1, Bool.false_eq_true, if_false]
      have e2 : (s.extract a s.size).extract (0 : Int).toNat (s.extract a s.size).size = s.extract a s.size := ba_extract_all _
      have e3 := hmo.1
      rw [ByteArray.size_append] at e3
      rw [if_neg (by omega), if_pos (by omega), if_pos (by omega), if_pos (by rw [hsz]; omega), e2, w64 (i := (i : Int) + 1) (by omega) (by omega)]
      exact hk'
    | D dd =>
      simp only [stepP] at hu
      split at hu
      · rename_i c
        cases hu
        simp only at hk' c hmo
        have hd0 : 0 < dd.size := hx
        have hd1 : dd.size ≤ 1000000 := hx2
        have c1 := c.1
        simp only [encP, Int.zero_add]
        have e1 : (s.extract a s.size).extract 0 (dd.size : Int).toNat = dd := by rw [Int.toNat_natCast, ba_extract_extract s a 0 dd.size c1]; exact c.2
        have e2 : (s.extract a s.size).extract (dd.size : Int).toNat (s.extract a s.size).size = s.extract (a + dd.size) s.size := by rw [Int.toNat_natCast]; exact ba_extract_end s a dd.size c1
        have e3 := hmo.1
        rw [w64 (i := (dd.size : Int)) (by omega) (by omega), if_neg (by rw [hsz]; omega), if_neg (pos_toList hd0), if_pos (by omega), if_pos (by rw [hsz]; omega), e1]
        simp only [spec_l3Apply.j1, bne_self_eq_false, Bool.false_eq_true, if_false]
        rw [if_neg (by omega), if_pos (by rw [show (⟨#[]⟩ : ByteArray).size = 0 from rfl]; omega), if_pos (by omega), if_pos (by rw [hsz]; omega), e2, ba_append_nil, w64 (i := (i : Int) + 1) (by omega) (by omega)]
        exact hk'
      · cases hu
theorem impl_apply_l (s : ByteArray) (hs : s.size ≤ 300) (n : Int) (L : List Pt) (hL : L.length ≤ 1000000) (hmx : ∀ x ∈ L, massP x ≤ 1000000) (v : ByteArray × Nat) (hv : v.1.size ≤ 1000000000) :
    ∀ (d i : Nat) (a : Nat) (out : ByteArray), i + d = L.length → a ≤ s.size → runP s (L.drop i) (out, a) = some v →
    ∃ K, ∀ k, K ≤ k → impl_ReplaceAll.l0 k n out (s.extract a s.size) (L.map encP) ((L.map encP).length : Int) (i : Int) = some (v.1, n, true) := by
  intro d
  induction d with
  | zero =>
    intro i a out hi ha hr
    rw [List.drop_of_length_le (by omega)] at hr
    have : (out, a) = v := Option.some.inj hr
    subst this
    refine ⟨1, fun k hk => ?_⟩
    obtain ⟨k, rfl⟩ : ∃ m, k = m + 1 := ⟨k - 1, by omega⟩
    simp only [impl_ReplaceAll.l0]
    rw [if_neg (by simp; omega)]
  | succ d ih =>
    intro i a out hi ha hr
    have hil : i < L.length := by omega
    rw [List.drop_eq_getElem_cons hil] at hr
    have hx2 := hmx _ (List.getElem_mem hil)
    have hrd := rd_enc L i hil
    generalize L[i] = q at hr hx2 hrd
    obtain ⟨u, hu, hr'⟩ := Option.bind_eq_some_iff.mp hr
    have hmo := runP_mono hr' (stepP_mono hu ha).2
    obtain ⟨K, hK⟩ := ih (i + 1) u.2 u.1 (by omega) (stepP_mono hu ha).2 hr'
    have hsz := rest_size s a
    have z0 : (⟨#[]⟩ : ByteArray).size = 0 := rfl
    refine ⟨K + 1, fun k hk => ?_⟩
    obtain ⟨k, rfl⟩ : ∃ m, k = m + 1 := ⟨k - 1, by omega⟩
    have hk' := hK k (by omega)
    simp only [impl_ReplaceAll.l0, hrd]
    rw [if_pos (by simp; omega), if_pos (by omega), if_pos (by simp; omega)]
    cases q with
    | K m =>
      simp only [stepP] at hu
      split at hu
      · rename_i c
        cases hu
        simp only at hk' c hmo
        have hm1 : m ≤ 1000000 := hx2
        have e3 := hmo.1
        rw [ByteArray.size_append] at e3
        have e1 : (s.extract a s.size).extract 0 (m : Int).toNat = s.extract a (a + m) := by rw [Int.toNat_natCast, ba_extract_extract s a 0 m c]; rfl
        have e2 : (s.extract a s.size).extract (m : Int).toNat (s.extract a s.size).size = s.extract (a + m) s.size := by rw [Int.toNat_natCast]; exact ba_extract_end s a m c
        simp only [encP, z0, Int.natCast_zero, Int.add_zero]
        rw [w64 (i := (m : Int)) (by omega) (by omega)]
        rw [if_pos (by omega), if_pos (by rw [hsz]; omega), e1, if_pos (by omega), ba_append_nil, if_pos (by omega), if_pos (by omega), if_pos (by rw [hsz]; omega), e2, w64 (i := (i : Int) + 1) (by omega) (by omega)]
        exact hk'
      · cases hu
    | W w =>
      simp only [stepP] at hu
      cases hu
      simp only at hk' hmo
      have e3 := hmo.1
      rw [ByteArray.size_append] at e3
      have e1 : (s.extract a s.size).extract 0 (0 : Int).toNat = ⟨#[]⟩ := ba_extract_same _ 0
      have e2 : (s.extract a s.size).extract (0 : Int).toNat (s.extract a s.size).size = s.extract a s.size := ba_extract_all _
      simp only [encP, z0, Int.natCast_zero, Int.add_zero]
      rw [w64 (i := (0 : Int)) (by omega) (by omega)]
      rw [if_pos (by omega), if_pos (by rw [hsz]; omega), e1, if_pos (by rw [z0]; omega), ba_nil_append, if_pos (by omega), if_pos (by omega), if_pos (by rw [hsz]; omega), e2, w64 (i := (i : Int) + 1) (by omega) (by omega)]
      exact hk'
    | D dd =>
      simp only [stepP] at hu
      split at hu
      · rename_i c
        cases hu
        simp only at hk' c hmo
        have hd1 : dd.size ≤ 1000000 := hx2
        have c1 := c.1
        have e3 := hmo.1
        have e1 : (s.extract a s.size).extract 0 (0 : Int).toNat = ⟨#[]⟩ := ba_extract_same _ 0
        have e2 : (s.extract a s.size).extract (dd.size : Int).toNat (s.extract a s.size).size = s.extract (a + dd.size) s.size := by rw [Int.toNat_natCast]; exact ba_extract_end s a dd.size c1
        simp only [encP, Int.zero_add]
        rw [w64 (i := (dd.size : Int)) (by omega) (by omega)]
        rw [if_pos (by omega), if_pos (by rw [hsz]; omega), e1, if_pos (by rw [z0]; omega), ba_nil_append, if_pos (by rw [z0]; omega), if_pos (by omega), if_pos (by rw [hsz]; omega), e2, ba_append_nil, w64 (i := (i : Int) + 1) (by omega) (by omega)]
        exact hk'
      · cases hu

/-! a maker's state as a list of simple parts -/
theorem addP_len (r : List Pt) (q : Pt) : (addP r q).length ≤ r.length + 1 := by
  unfold addP
  split <;> simp only [List.length_cons] <;> omega
def wL (s : ByteArray) : List Pt := if s.toList = [] then [] else [.W s]
def dL (s : ByteArray) : List Pt := if s.toList = [] then [] else [.D s]
def mkL (r0 : List Pt) (put drop : ByteArray) : List Pt := dL drop ++ (wL put ++ r0)
def headK : List Pt → Prop
  | [] => True
  | .K n :: _ => 0 < n
  | _ => False
theorem size0_toList (s : ByteArray) : s.toList = [] ↔ s.size = 0 := by
  rw [toList_data]
  constructor
  · intro e
    have := congrArg List.length e
    rw [Array.length_toList] at this
    exact this
  · intro e
    apply List.eq_nil_of_length_eq_zero
    rw [Array.length_toList]
    exact e
theorem encL_append (a b : List Pt) : (a ++ b).reverse.map encP = b.reverse.map encP ++ a.reverse.map encP := by
  rw [List.reverse_append, List.map_append]
theorem ends_enc (r0 : List Pt) (put drop : ByteArray) : r0.reverse.map encP ++ ends put drop = (mkL r0 put drop).reverse.map encP := by
  unfold mkL ends wL dL
  rw [encL_append, encL_append, List.append_assoc]
  congr 1
  by_cases h1 : put.toList = [] <;> by_cases h2 : drop.toList = [] <;> simp [h1, h2, encP]
theorem addP_W (r0 : List Pt) (h : headK r0) (put drop w : ByteArray) (hw : 0 < w.size) : addP (mkL r0 put drop) (.W w) = mkL r0 (put ++ w) drop := by
  have e1 : ¬ (put ++ w).toList = [] := by rw [size0_toList, ByteArray.size_append]; omega
  unfold mkL wL dL
  rw [if_neg e1]
  by_cases h1 : put.toList = []
  · have hp : put = ⟨#[]⟩ := ba_of_toList (by rw [h1, nil_toList])
    have hpw : put ++ w = w := by rw [hp, ba_nil_append]
    rw [if_pos h1, hpw]
    by_cases h2 : drop.toList = []
    · rw [if_pos h2]
      match r0, h with
      | [], _ => rfl
      | .K n :: r, _ => rfl
    · rw [if_neg h2]
      match r0, h with
      | [], _ => rfl
      | .K n :: r, _ => rfl
  · rw [if_neg h1]
    by_cases h2 : drop.toList = []
    · rw [if_pos h2]; rfl
    · rw [if_neg h2]; rfl
theorem addP_D (r0 : List Pt) (h : headK r0) (put drop d : ByteArray) (hd : 0 < d.size) : addP (mkL r0 put drop) (.D d) = mkL r0 put (drop ++ d) := by
  have e1 : ¬ (drop ++ d).toList = [] := by rw [size0_toList, ByteArray.size_append]; omega
  unfold mkL wL dL
  rw [if_neg e1]
  by_cases h2 : drop.toList = []
  · have hp : drop = ⟨#[]⟩ := ba_of_toList (by rw [h2, nil_toList])
    have hpw : drop ++ d = d := by rw [hp, ba_nil_append]
    rw [if_pos h2, hpw]
    by_cases h1 : put.toList = []
    · rw [if_pos h1]
      match r0, h with
      | [], _ => rfl
      | .K n :: r, _ => rfl
    · rw [if_neg h1]; rfl
  · rw [if_neg h2]; rfl
theorem mkL_nil (r0 : List Pt) : mkL r0 ⟨#[]⟩ ⟨#[]⟩ = r0 := by
  unfold mkL wL dL
  simp only [if_pos nil_toList]; rfl
theorem addP_K_head (r0 : List Pt) (h : headK r0) (put drop : ByteArray) (n : Nat) (hn : 0 < n) : headK (addP (mkL r0 put drop) (.K n)) := by
  unfold mkL wL dL
  by_cases h1 : put.toList = [] <;> by_cases h2 : drop.toList = [] <;> simp only [h1, h2, if_true, if_false, List.nil_append, List.cons_append]
  · match r0, h with
    | [], _ => exact hn
    | .K m :: r, hm => show 0 < m + n; omega
  · exact hn
  · exact hn
  · exact hn
theorem kO_enc (r0 : List Pt) (h : headK r0) (put drop : ByteArray) (n : Nat) (hn : 0 < n) (hb : n ≤ 1000000) (ht : mass r0 ≤ 1000000) :
    kO (r0.reverse.map encP) put drop (n : Int) = (addP (mkL r0 put drop) (.K n)).reverse.map encP := by
  unfold kO keepO
  rw [if_neg (by omega), ends_enc]
  have key : ∀ (x : Pt) (r : List Pt), ((x :: r).reverse.map encP).length = r.length + 1 := by intro x r; simp
  have hlast : ∀ (x : Pt) (r : List Pt), rd_T74 ((x :: r).reverse.map encP) ((((x :: r).reverse.map encP).length : Int) - 1) = encP x := by
    intro x r
    rw [key, encP_rev, show (((r.length + 1 : Nat) : Int) - 1) = ((r.reverse.map encP).length : Int) by simp]
    exact rd_last _ _
  have add : ∀ (x : Pt) (r : List Pt), ¬ (encP x).f0 > 0 → (if 0 < ((x :: r).reverse.map encP).length ∧ (rd_T74 ((x :: r).reverse.map encP) ((((x :: r).reverse.map encP).length : Int) - 1)).f0 > 0 then ((x :: r).reverse.map encP).set (((x :: r).reverse.map encP).length - 1) ⟨wrap64 ((rd_T74 ((x :: r).reverse.map encP) ((((x :: r).reverse.map encP).length : Int) - 1)).f0 + (n : Int)), (rd_T74 ((x :: r).reverse.map encP) ((((x :: r).reverse.map encP).length : Int) - 1)).f1, (rd_T74 ((x :: r).reverse.map encP) ((((x :: r).reverse.map encP).length : Int) - 1)).f2⟩ else (x :: r).reverse.map encP ++ [⟨(n : Int), ⟨#[]⟩, ⟨#[]⟩⟩]) = (Pt.K n :: x :: r).reverse.map encP := by
    intro x r hx
    rw [hlast, if_neg (fun c => hx c.2), encP_rev (x :: r) (.K n)]; rfl
  have nz : ¬ (0 : Int) > 0 := by omega
  by_cases h1 : put.toList = [] <;> by_cases h2 : drop.toList = []
  · have e : mkL r0 put drop = r0 := by unfold mkL wL dL; rw [if_pos h1, if_pos h2]; rfl
    rw [e]
    match r0, h, ht with
    | [], _, _ => rfl
    | .K m :: r, hm, ht =>
      have hm' : 0 < m := hm
      have hmb : m ≤ 1000000 := by have : massP (.K m) ≤ mass (.K m :: r) := by simp only [mass]; omega
                                   simp only [massP] at this; omega
      rw [hlast, if_pos ⟨by rw [key]; omega, by show (m : Int) > 0; omega⟩, key, Nat.add_sub_cancel, encP_rev]
      have hl : (r.reverse.map encP).length = r.length := by simp
      rw [← hl, set_at]
      show _ ++ [(⟨wrap64 ((m : Int) + (n : Int)), ⟨#[]⟩, ⟨#[]⟩⟩ : S74)] = (Pt.K (m + n) :: r).reverse.map encP
      rw [w64 (by omega) (by omega), encP_rev]; rfl
  · have e : mkL r0 put drop = .D drop :: r0 := by unfold mkL wL dL; rw [if_pos h1, if_neg h2]; rfl
    rw [e, add (.D drop) r0 nz]; rfl
  · have e : mkL r0 put drop = .W put :: r0 := by unfold mkL wL dL; rw [if_neg h1, if_pos h2]; rfl
    rw [e, add (.W put) r0 nz]; rfl
  · have e : mkL r0 put drop = .D drop :: .W put :: r0 := by unfold mkL wL dL; rw [if_neg h1, if_neg h2]; rfl
    rw [e, add (.D drop) (.W put :: r0) nz]; rfl

def partsI (s p w : ByteArray) : Nat → List Nat → List Pt
  | a, [] => [.K (s.size - a)]
  | a, k :: ks => .K (k - a) :: .W w :: .D p :: partsI s p w (k + p.size) ks
theorem runP_partsI (s p w : ByteArray) : ∀ (ks : List Nat) (a : Nat) (out : ByteArray), ch s p a ks → runP s (partsI s p w a ks) (out, a) = some (out ++ T s w p.size a ks, s.size)
  | [], a, out, h => by
    have ha : a ≤ s.size := h
    simp only [partsI, runP, stepP, T]
    rw [if_pos (by omega), show a + (s.size - a) = s.size by omega]
    rfl
  | k :: ks, a, out, h => by
    obtain ⟨c1, c2, c3, c4⟩ := h
    have ih := runP_partsI s p w ks (k + p.size) (out ++ s.extract a k ++ w) c4
    simp only [partsI, runP, stepP, T]
    rw [if_pos (by omega), show a + (k - a) = k by omega]
    simp only [Option.bind_some]
    rw [if_pos ⟨c2, c3⟩]
    simp only [Option.bind_some]
    rw [ih]
    simp only [ba_assoc]
theorem partsI_mem (s p w : ByteArray) (hs : s.size ≤ 300) (hp : p.size ≤ 300) (hw : w.size ≤ 300) : ∀ (ks : List Nat) (a : Nat), (∀ k ∈ ks, k ≤ 300) → ∀ x ∈ partsI s p w a ks, massP x ≤ 1000000
  | [], a, _, x, hx => by
    simp only [partsI, List.mem_singleton] at hx
    subst hx
    show s.size - a ≤ 1000000
    omega
  | k :: ks, a, hk, x, hx => by
    have := hk k List.mem_cons_self
    simp only [partsI, List.mem_cons] at hx
    rcases hx with rfl | rfl | rfl | hx
    · show k - a ≤ 1000000; omega
    · show w.size ≤ 1000000; omega
    · show p.size ≤ 1000000; omega
    · exact partsI_mem s p w hs hp hw ks _ (fun y hy => hk y (List.mem_cons_of_mem _ hy)) x hx
theorem partsI_len (s p w : ByteArray) : ∀ (ks : List Nat) (a : Nat), (partsI s p w a ks).length = 3 * ks.length + 1
  | [], _ => rfl
  | k :: ks, a => by
    have := partsI_len s p w ks (k + p.size)
    simp only [partsI, List.length_cons, this]; omega
theorem impl_rep_l (s p w : ByteArray) (hs : s.size ≤ 300) (hp : p.size ≤ 300) (N : List Nat) (hN : N.length ≤ 300) (hk : ∀ k ∈ N, k + p.size ≤ s.size) : ∀ (d i : Nat) (X : List S74) (a n : Nat), i + d = N.length → a ≤ s.size → X.length ≤ 3 * i → n ≤ i →
    ∃ K, ∀ k, K ≤ k → impl_replace.l0 k s p w X (a : Int) (n : Int) (N.map fun a : Nat => (a : Int)) ((N.map fun a : Nat => (a : Int)).length : Int) (i : Int) = some (X ++ (partsI s p w a (apN p.size a (N.drop i))).map encP, ((n + (apN p.size a (N.drop i)).length : Nat) : Int)) := by
  intro d
  induction d with
  | zero =>
    intro i X a n hi ha hX hn
    rw [List.drop_of_length_le (by omega)]
    refine ⟨1, fun k hk' => ?_⟩
    obtain ⟨k, rfl⟩ : ∃ m, k = m + 1 := ⟨k - 1, by omega⟩
    simp only [impl_replace.l0, impl_keepTo.f, Option.bind_some]
    rw [if_neg (by simp; omega), if_pos (by omega), w64 (by omega) (by omega), show (s.size : Int) - (a : Int) = ((s.size - a : Nat) : Int) by omega]
    rfl
  | succ d ih =>
    intro i X a n hi ha hX hn
    have hil : i < N.length := by omega
    rw [List.drop_eq_getElem_cons hil]
    have hkm := hk _ (List.getElem_mem hil)
    have hrd := rd_cast N i hil
    generalize N[i] = kv at hkm hrd
    by_cases c : a ≤ kv
    · obtain ⟨K, hK⟩ := ih (i + 1) (X ++ [encP (.K (kv - a)), encP (.W w), encP (.D p)]) (kv + p.size) (n + 1) (by omega) (by omega) (by simp; omega) (by omega)
      refine ⟨K + 1, fun k hk' => ?_⟩
      obtain ⟨k, rfl⟩ : ∃ m, k = m + 1 := ⟨k - 1, by omega⟩
      have h := hK k (by omega)
      simp only [impl_replace.l0, impl_keepTo.f, Option.bind_some, hrd]
      rw [if_pos (by simp; omega), if_pos (by omega), if_pos (by simp; omega), if_neg (by omega), if_pos (by simp; omega)]
      rw [w64 (i := (kv : Int) - (a : Int)) (by omega) (by omega), w64 (i := (kv : Int) + (p.size : Int)) (by omega) (by omega), w64 (i := (n : Int) + 1) (by omega) (by omega), w64 (i := (i : Int) + 1) (by omega) (by omega)]
      rw [show (kv : Int) - (a : Int) = ((kv - a : Nat) : Int) by omega]
      rw [show ((kv + p.size : Nat) : Int) = (kv : Int) + (p.size : Int) by omega, show ((i + 1 : Nat) : Int) = (i : Int) + 1 by omega, show ((n + 1 : Nat) : Int) = (n : Int) + 1 by omega] at h
      simp only [apN, if_pos c, partsI, List.map_cons, List.length_cons]
      refine h.trans ?_
      rw [List.append_assoc, show n + 1 + (apN p.size (kv + p.size) (List.drop (i + 1) N)).length = n + ((apN p.size (kv + p.size) (List.drop (i + 1) N)).length + 1) by omega]
      rfl
    · obtain ⟨K, hK⟩ := ih (i + 1) X a n (by omega) ha (by omega) (by omega)
      refine ⟨K + 1, fun k hk' => ?_⟩
      obtain ⟨k, rfl⟩ : ∃ m, k = m + 1 := ⟨k - 1, by omega⟩
      have h := hK k (by omega)
      simp only [impl_replace.l0, hrd]
      rw [if_pos (by simp; omega), if_pos (by omega), if_pos (by simp; omega), if_pos (by omega), w64 (i := (i : Int) + 1) (by omega) (by omega)]
      simp only [apN, if_neg c]
      exact h
theorem spec_apart_l (s p : ByteArray) (hs : s.size ≤ 300) (hp : p.size ≤ 300) (N : List Nat) (hN : N.length ≤ 300) (hk : ∀ k ∈ N, k + p.size ≤ s.size) : ∀ (d i : Nat) (X : List Int) (a : Nat), i + d = N.length → a ≤ s.size → X.length ≤ i →
    ∃ K, ∀ k, K ≤ k → spec_l11Apart.l0 k p X (a : Int) (N.map fun a : Nat => (a : Int)) ((N.map fun a : Nat => (a : Int)).length : Int) (i : Int) = some (X ++ (apN p.size a (N.drop i)).map fun a : Nat => (a : Int)) := by
  intro d
  induction d with
  | zero =>
    intro i X a hi ha hX
    rw [List.drop_of_length_le (by omega)]
    refine ⟨1, fun k hk' => ?_⟩
    obtain ⟨k, rfl⟩ : ∃ m, k = m + 1 := ⟨k - 1, by omega⟩
    simp only [spec_l11Apart.l0]
    rw [if_neg (by simp; omega)]
    simp [apN]
  | succ d ih =>
    intro i X a hi ha hX
    have hil : i < N.length := by omega
    rw [List.drop_eq_getElem_cons hil]
    have hkm := hk _ (List.getElem_mem hil)
    have hrd := rd_cast N i hil
    generalize N[i] = kv at hkm hrd
    by_cases c : a ≤ kv
    · obtain ⟨K, hK⟩ := ih (i + 1) (X ++ [(kv : Int)]) (kv + p.size) (by omega) (by omega) (by simp; omega)
      refine ⟨K + 1, fun k hk' => ?_⟩
      obtain ⟨k, rfl⟩ : ∃ m, k = m + 1 := ⟨k - 1, by omega⟩
      have h := hK k (by omega)
      simp only [spec_l11Apart.l0, hrd]
      rw [if_pos (by simp; omega), if_pos (by omega), if_pos (by simp; omega), if_pos (by omega), if_pos (by omega)]
      rw [w64 (i := (kv : Int) + (p.size : Int)) (by omega) (by omega), w64 (i := (i : Int) + 1) (by omega) (by omega)]
      rw [show ((kv + p.size : Nat) : Int) = (kv : Int) + (p.size : Int) by omega, show ((i + 1 : Nat) : Int) = (i : Int) + 1 by omega] at h
      simp only [apN, if_pos c, List.map_cons]
      refine h.trans ?_
      rw [List.append_assoc]; rfl
    · obtain ⟨K, hK⟩ := ih (i + 1) X a (by omega) ha (by omega)
      refine ⟨K + 1, fun k hk' => ?_⟩
      obtain ⟨k, rfl⟩ : ∃ m, k = m + 1 := ⟨k - 1, by omega⟩
      have h := hK k (by omega)
      simp only [spec_l11Apart.l0, hrd]
      rw [if_pos (by simp; omega), if_pos (by omega), if_pos (by simp; omega), if_neg (by omega), w64 (i := (i : Int) + 1) (by omega) (by omega)]
      simp only [apN, if_neg c]
      exact h
theorem occs_nat (p s : ByteArray) : ∀ (i : Nat), i ≤ s.size → ∃ N : List Nat, occs p s i = N.map (fun a : Nat => (a : Int)) ∧ N.length ≤ i ∧ ∀ k ∈ N, k + p.size ≤ s.size ∧ s.extract k (k + p.size) = p
  | 0, _ => ⟨[], rfl, Nat.le_refl _, fun k hk => by simp at hk⟩
  | i + 1, hi => by
    obtain ⟨N, h1, h2, h3⟩ := occs_nat p s i (by omega)
    by_cases c : suf p s (i + 1) p.size
    · have c1 := c.1
      refine ⟨N ++ [i + 1 - p.size], ?_, by simp; omega, fun k hk => ?_⟩
      · simp only [occs, if_pos c, h1, List.map_append]; rfl
      · rcases List.mem_append.mp hk with hk | hk
        · exact h3 k hk
        · rw [List.mem_singleton.mp hk]
          refine ⟨by omega, ba_of_toList ?_⟩
          refine (suf_iff p s (i + 1 - p.size) (by omega)).mpr ?_
          rw [show i + 1 - p.size + p.size = i + 1 by omega]
          exact c
    · refine ⟨N, ?_, by omega, h3⟩
      simp only [occs, if_neg c, h1, List.append_nil]
theorem T_size (s p w : ByteArray) : ∀ (ks : List Nat) (a : Nat), ch s p a ks → (T s w p.size a ks).size + ks.length * p.size = s.size - a + ks.length * w.size
  | [], a, h => by
    simp only [T, rest_size, List.length_nil]; omega
  | k :: ks, a, h => by
    obtain ⟨c1, c2, c3, c4⟩ := h
    have ih := T_size s p w ks (k + p.size) c4
    simp only [T, ByteArray.size_append, ByteArray.size_extract, List.length_cons, Nat.add_mul, Nat.one_mul]
    omega

def partsS (s p w : ByteArray) : Nat → List Nat → List Pt
  | a, [] => [.K (s.size - a)]
  | a, k :: ks => .K (k - a) :: ((if w.toList = p.toList then [.K p.size] else [.W w, .D p]) ++ partsS s p w (k + p.size) ks)
theorem spec_rep_f (s p w : ByteArray) (hs : s.size ≤ 300) (hp : p.size ≤ 300) (h0 : 0 < p.size) (hw : w.size ≤ 300) (ks : List Nat) (hk : ks.length ≤ 300) : ∀ (d i : Nat) (r : List Pt) (a : Nat), i + d = ks.length → ch s p a (ks.drop i) →
    (∀ x ∈ r, 0 < massP x) → mass r ≤ 1000 * i →
    ∃ K, ∀ k, K ≤ k → spec_l11Replace.l0 k s p w (r.reverse.map encP) (a : Int) (ks.map fun a : Nat => (a : Int)) (ks.map fun a : Nat => (a : Int)) ((ks.map fun a : Nat => (a : Int)).length : Int) (i : Int) = some (((partsS s p w a (ks.drop i)).foldl addQ r).reverse.map encP, (ks.length : Int)) := by
  intro d
  induction d with
  | zero =>
    intro i r a hi hc hpos hm
    have ha := ch_le hc
    have he : massP (.K (s.size - a)) = s.size - a := rfl
    refine ⟨5 + 1, fun k hk' => ?_⟩
    rw [List.drop_of_length_le (by omega)]
    obtain ⟨k, rfl⟩ : ∃ m, k = m + 5 + 1 := ⟨k - 6, by omega⟩
    have hq := l3AddQ k r hpos (.K (s.size - a)) (by omega)
    simp only [spec_l11Replace.l0]
    rw [if_neg (by simp; omega), w64 (by omega) (by omega)]
    rw [show (s.size : Int) - (a : Int) = ((s.size - a : Nat) : Int) by omega]
    have hq' : spec_l3Add.f (k + 5) (r.reverse.map encP) ((s.size - a : Nat) : Int) ⟨#[]⟩ ⟨#[]⟩ = some ((addQ r (.K (s.size - a))).reverse.map encP) := hq
    rw [hq', Option.bind_some]
    simp [partsS]
  | succ d ih =>
    intro i r a hi hc hpos hm
    have hil : i < ks.length := by omega
    rw [List.drop_eq_getElem_cons hil] at hc ⊢
    obtain ⟨c1, c2, c3, c4⟩ := hc
    generalize hkv : ks[i] = kv at c1 c2 c3 c4
    have hrd := rd_cast ks i hil
    rw [hkv] at hrd
    have hm1 := mass_addQ r (.K (kv - a))
    have he1 : massP (.K (kv - a)) = kv - a := rfl
    have hp1 := pos_addQ r (.K (kv - a)) hpos
    have hq1 : ∀ k, spec_l3Add.f (k + 5) (r.reverse.map encP) ((kv - a : Nat) : Int) ⟨#[]⟩ ⟨#[]⟩ = some ((addQ r (.K (kv - a))).reverse.map encP) := fun k => l3AddQ k r hpos (.K (kv - a)) (by omega)
    obtain ⟨r1, hr1⟩ : ∃ x, addQ r (.K (kv - a)) = x := ⟨_, rfl⟩
    have key : ∃ r3, (if w.toList = p.toList then [Pt.K p.size] else [.W w, .D p]).foldl addQ r1 = r3 ∧ (∀ x ∈ r3, 0 < massP x) ∧ mass r3 ≤ 1000 * (i + 1) ∧
        ∀ (k : Nat) (g : List S74 → Option (List S74 × Int)), (if w.toList = p.toList then (spec_l3Add.f (k + 5) (r1.reverse.map encP) (p.size : Int) ⟨#[]⟩ ⟨#[]⟩).bind g else ((spec_l3Add.f (k + 5) (r1.reverse.map encP) 0 w ⟨#[]⟩).bind fun t173 => ((spec_l3Add.f (k + 5) t173 0 ⟨#[]⟩ p).bind g))) = g (r3.reverse.map encP) := by
      rw [hr1] at hm1 hp1
      by_cases e : w.toList = p.toList
      · have hm2 := mass_addQ r1 (.K p.size)
        have he2 : massP (.K p.size) = p.size := rfl
        refine ⟨addQ r1 (.K p.size), by rw [if_pos e]; rfl, pos_addQ r1 _ hp1, by omega, fun k g => ?_⟩
        have hq2 : spec_l3Add.f (k + 5) (r1.reverse.map encP) (p.size : Int) ⟨#[]⟩ ⟨#[]⟩ = some ((addQ r1 (.K p.size)).reverse.map encP) := l3AddQ k r1 hp1 (.K p.size) (by omega)
        rw [if_pos e, hq2]; rfl
      · have hm2 := mass_addQ r1 (.W w)
        have he2 : massP (.W w) = w.size := rfl
        have hp2 := pos_addQ r1 (.W w) hp1
        have hq2 : ∀ k, spec_l3Add.f (k + 5) (r1.reverse.map encP) 0 w ⟨#[]⟩ = some ((addQ r1 (.W w)).reverse.map encP) := fun k => l3AddQ k r1 hp1 (.W w) (by omega)
        have hm3 := mass_addQ (addQ r1 (.W w)) (.D p)
        have he3 : massP (.D p) = p.size := rfl
        refine ⟨addQ (addQ r1 (.W w)) (.D p), by rw [if_neg e]; rfl, pos_addQ _ _ hp2, by omega, fun k g => ?_⟩
        have hq3 : spec_l3Add.f (k + 5) ((addQ r1 (.W w)).reverse.map encP) 0 ⟨#[]⟩ p = some ((addQ (addQ r1 (.W w)) (.D p)).reverse.map encP) := l3AddQ k _ hp2 (.D p) (by omega)
        rw [if_neg e, hq2, Option.bind_some, hq3]; rfl
    rw [hr1] at hq1
    obtain ⟨r3, g1, g2, g3, g4⟩ := key
    obtain ⟨K, i4⟩ := ih (i + 1) r3 (kv + p.size) (by omega) c4 g2 g3
    refine ⟨K + 6, fun k hk' => ?_⟩
    obtain ⟨k, rfl⟩ : ∃ m, k = m + 5 + 1 := ⟨k - 6, by omega⟩
    obtain ⟨k5, hk5⟩ : ∃ m, m = k + 5 := ⟨_, rfl⟩
    rw [← hk5]
    simp only [spec_l11Replace.l0]
    rw [if_pos (by simp; omega), if_pos (by omega), if_pos (by simp; omega), hrd]
    rw [hk5]
    rw [w64 (i := (kv : Int) - (a : Int)) (by omega) (by omega), show (kv : Int) - (a : Int) = ((kv - a : Nat) : Int) by omega, hq1, Option.bind_some]
    rw [w64 (i := (kv : Int) + (p.size : Int)) (by omega) (by omega), w64 (i := (i : Int) + 1) (by omega) (by omega)]
    rw [g4 k (fun t => spec_l11Replace.l0 (k + 5) s p w t ((kv : Int) + (p.size : Int)) (ks.map fun a : Nat => (a : Int)) (ks.map fun a : Nat => (a : Int)) ((ks.map fun a : Nat => (a : Int)).length : Int) ((i : Int) + 1))]
    have := i4 (k + 5) (by omega)
    rw [show ((kv + p.size : Nat) : Int) = (kv : Int) + (p.size : Int) by omega, show ((i + 1 : Nat) : Int) = (i : Int) + 1 by omega] at this
    rw [partsS, List.foldl_cons, hr1, List.foldl_append, g1]
    exact this
/-- What 'normal' makes of a list of simple parts. -/
theorem nrm_ev : ∀ (L : List Pt) (r0 : List Pt) (put drop : ByteArray), headK r0 → (∀ x ∈ mkL r0 put drop, 0 < massP x) → mass (mkL r0 put drop) + mass L ≤ 1000000 → nrm (L.map encP) (r0.reverse.map encP) put drop = some ((L.foldl addQ (mkL r0 put drop)).reverse.map encP)
  | L, r0, put, drop, hh, hpos, hm => by
    have hr0 : r0.length ≤ (mkL r0 put drop).length := by unfold mkL; simp only [List.length_append]; omega
    have hln := mass_len hpos
    have hol : (r0.reverse.map encP).length = r0.length := by simp
    have hpt : put.size ≤ mass (mkL r0 put drop) := by
      by_cases h1 : put.toList = []
      · have := (size0_toList put).1 h1; omega
      · exact mass_mem (x := .W put) (by unfold mkL wL; rw [if_neg h1]; simp)
    have hdt : drop.size ≤ mass (mkL r0 put drop) := by
      by_cases h1 : drop.toList = []
      · have := (size0_toList drop).1 h1; omega
      · exact mass_mem (x := .D drop) (by unfold mkL dL; rw [if_neg h1]; simp)
    have hrt : mass r0 ≤ mass (mkL r0 put drop) := by
      have : ∀ l : List Pt, mass r0 ≤ mass (l ++ r0) := by intro l; induction l with
        | nil => exact Nat.le_refl _
        | cons q l ih => simp only [List.cons_append, mass]; omega
      unfold mkL
      rw [← List.append_assoc]
      exact this _
    have z : (⟨#[]⟩ : ByteArray).size = 0 := rfl
    match L with
    | [] =>
      show (if (r0.reverse.map encP).length + 3 ≤ 3518437208883 then some ((r0.reverse.map encP) ++ ends put drop) else none) = _
      rw [if_pos (by rw [hol]; omega), ends_enc]; rfl
    | .K n :: L =>
      have hn : n + mass L ≤ 1000000 := by simp only [mass, massP] at hm; omega
      have hm' : mass (mkL r0 put drop) + (n + mass L) ≤ 1000000 := hm
      rw [List.map_cons, List.foldl_cons]
      unfold nrm
      by_cases h0 : n = 0
      · subst h0
        have e1 : kS put (encP (.K 0)).f0 = put := rfl
        have e2 : kS drop (encP (.K 0)).f0 = drop := rfl
        have e3 : kO (r0.reverse.map encP) put drop (encP (.K 0)).f0 = r0.reverse.map encP := rfl
        have e4 : (encP (.K 0)).f1 = ⟨#[]⟩ := rfl
        have e5 : (encP (.K 0)).f2 = ⟨#[]⟩ := rfl
        have e6 : addQ (mkL r0 put drop) (.K 0) = mkL r0 put drop := if_pos rfl
        rw [e1, e2, e3, e4, e5, e6, if_pos ⟨by rw [hol]; omega, by omega, by omega⟩, ba_append_nil, ba_append_nil]
        exact nrm_ev L r0 put drop hh hpos (by omega)
      · have hi : ¬ ((n : Nat) : Int) = 0 := by omega
        have e1 : kS put (encP (.K n)).f0 = ⟨#[]⟩ := if_neg hi
        have e2 : kS drop (encP (.K n)).f0 = ⟨#[]⟩ := if_neg hi
        have e3 : kO (r0.reverse.map encP) put drop (encP (.K n)).f0 = (addP (mkL r0 put drop) (.K n)).reverse.map encP := kO_enc r0 hh put drop n (by omega) (by omega) (by omega)
        have e4 : (encP (.K n)).f1 = ⟨#[]⟩ := rfl
        have e5 : (encP (.K n)).f2 = ⟨#[]⟩ := rfl
        have e6 : addQ (mkL r0 put drop) (.K n) = addP (mkL r0 put drop) (.K n) := if_neg h0
        have hmm := mass_add (mkL r0 put drop) (.K n)
        have hpp := pos_add (mkL r0 put drop) (.K n) hpos (by show 0 < n; omega)
        have hhd := addP_K_head r0 hh put drop n (by omega)
        simp only [massP] at hmm
        rw [e1, e2, e3, e4, e5, e6, if_pos ⟨by rw [hol]; omega, by omega, by omega⟩, ba_append_nil]
        have := nrm_ev L (addP (mkL r0 put drop) (.K n)) ⟨#[]⟩ ⟨#[]⟩ hhd (by rw [mkL_nil]; exact hpp) (by rw [mkL_nil]; omega)
        rw [mkL_nil] at this
        exact this
    | .W w :: L =>
      have hm' : mass (mkL r0 put drop) + (w.size + mass L) ≤ 1000000 := hm
      rw [List.map_cons, List.foldl_cons]
      unfold nrm
      have e1 : kS put (encP (.W w)).f0 = put := rfl
      have e2 : kS drop (encP (.W w)).f0 = drop := rfl
      have e3 : kO (r0.reverse.map encP) put drop (encP (.W w)).f0 = r0.reverse.map encP := rfl
      have e4 : (encP (.W w)).f1 = w := rfl
      have e5 : (encP (.W w)).f2 = ⟨#[]⟩ := rfl
      rw [e1, e2, e3, e4, e5, if_pos ⟨by rw [hol]; omega, by omega, by omega⟩, ba_append_nil]
      by_cases h0 : w.size = 0
      · have e6 : addQ (mkL r0 put drop) (.W w) = mkL r0 put drop := if_pos h0
        rw [e6, size0_eq h0, ba_append_nil]
        exact nrm_ev L r0 put drop hh hpos (by omega)
      · have e6 : addQ (mkL r0 put drop) (.W w) = addP (mkL r0 put drop) (.W w) := if_neg h0
        have hmm := mass_add (mkL r0 put drop) (.W w)
        have hpp := pos_add (mkL r0 put drop) (.W w) hpos (by show 0 < w.size; omega)
        simp only [massP] at hmm
        rw [addP_W r0 hh put drop w (by omega)] at e6 hmm hpp
        rw [e6]
        exact nrm_ev L r0 (put ++ w) drop hh hpp (by omega)
    | .D w :: L =>
      have hm' : mass (mkL r0 put drop) + (w.size + mass L) ≤ 1000000 := hm
      rw [List.map_cons, List.foldl_cons]
      unfold nrm
      have e1 : kS put (encP (.D w)).f0 = put := rfl
      have e2 : kS drop (encP (.D w)).f0 = drop := rfl
      have e3 : kO (r0.reverse.map encP) put drop (encP (.D w)).f0 = r0.reverse.map encP := rfl
      have e4 : (encP (.D w)).f1 = ⟨#[]⟩ := rfl
      have e5 : (encP (.D w)).f2 = w := rfl
      rw [e1, e2, e3, e4, e5, if_pos ⟨by rw [hol]; omega, by omega, by omega⟩, ba_append_nil]
      by_cases h0 : w.size = 0
      · have e6 : addQ (mkL r0 put drop) (.D w) = mkL r0 put drop := if_pos h0
        rw [e6, size0_eq h0, ba_append_nil]
        exact nrm_ev L r0 put drop hh hpos (by omega)
      · have e6 : addQ (mkL r0 put drop) (.D w) = addP (mkL r0 put drop) (.D w) := if_neg h0
        have hmm := mass_add (mkL r0 put drop) (.D w)
        have hpp := pos_add (mkL r0 put drop) (.D w) hpos (by show 0 < w.size; omega)
        simp only [massP] at hmm
        rw [addP_D r0 hh put drop w (by omega)] at e6 hmm hpp
        rw [e6]
        exact nrm_ev L r0 put (drop ++ w) hh hpp (by omega)
theorem normal_ev (L : List Pt) (hm : mass L ≤ 1000000) : impl_normal.f (L.map encP) = some ((L.foldl addQ []).reverse.map encP) := by
  have e0 : mkL [] ⟨#[]⟩ ⟨#[]⟩ = [] := mkL_nil []
  have := nrm_ev L [] ⟨#[]⟩ ⟨#[]⟩ trivial (by rw [e0]; intro x hx; cases hx) (by rw [e0]; simp only [mass]; omega)
  rw [e0] at this
  exact this
theorem fold_inv : ∀ (L r : List Pt), (∀ x ∈ r, 0 < massP x) → (∀ x ∈ L.foldl addQ r, 0 < massP x) ∧ mass (L.foldl addQ r) = mass r + mass L
  | [], r, hr => ⟨hr, by simp [mass]⟩
  | q :: L, r, hr => by
    obtain ⟨h1, h2⟩ := fold_inv L (addQ r q) (pos_addQ r q hr)
    exact ⟨h1, by rw [List.foldl_cons, h2, mass_addQ]; simp only [mass]; omega⟩
/-! how many bytes a change makes -/
def mkN : Pt → Nat
  | .K n => n
  | .W w => w.size
  | .D _ => 0
def mks : List Pt → Nat
  | [] => 0
  | q :: r => mkN q + mks r
theorem mks_add (r : List Pt) (q : Pt) : mks (addP r q) = mks r + mkN q := by
  unfold addP
  split <;> simp [mks, mkN, ByteArray.size_append] <;> omega
theorem mks_addQ (r : List Pt) (q : Pt) : mks (addQ r q) = mks r + mkN q := by
  unfold addQ
  split
  · rename_i h
    have : mkN q = 0 := by cases q <;> simp_all [mkN, massP]
    omega
  · exact mks_add r q
theorem mks_fold : ∀ (L r : List Pt), mks (L.foldl addQ r) = mks r + mks L
  | [], r => by simp [mks]
  | q :: L, r => by rw [List.foldl_cons, mks_fold L, mks_addQ]; simp only [mks]; omega
theorem mks_append : ∀ (a b : List Pt), mks (a ++ b) = mks a + mks b
  | [], b => by simp [mks]
  | q :: a, b => by rw [List.cons_append]; simp only [mks]; rw [mks_append a b]; omega
theorem mks_rev : ∀ (a : List Pt), mks a.reverse = mks a
  | [] => rfl
  | q :: a => by rw [List.reverse_cons, mks_append, mks_rev a]; simp only [mks]; omega
theorem mass_append : ∀ (a b : List Pt), mass (a ++ b) = mass a + mass b
  | [], b => by simp [mass]
  | q :: a, b => by rw [List.cons_append]; simp only [mass]; rw [mass_append a b]; omega
theorem mass_rev : ∀ (a : List Pt), mass a.reverse = mass a
  | [] => rfl
  | q :: a => by rw [List.reverse_cons, mass_append, mass_rev a]; simp only [mass]; omega
theorem sizes_l (L : List Pt) (hL : L.length ≤ 1000000) : ∀ (d i x y : Nat), i + d = L.length → x + mass (L.drop i) ≤ 10000000 → y + mass (L.drop i) ≤ 10000000 → ∃ t : Nat, ∃ K, ∀ k, K ≤ k → spec_l3Sizes.l0 k (x : Int) (y : Int) (L.map encP) ((L.map encP).length : Int) (i : Int) = some ((t : Int), ((y + mks (L.drop i) : Nat) : Int)) := by
  intro d
  induction d with
  | zero =>
    intro i x y hi hx hy
    refine ⟨x, 1, fun k hk => ?_⟩
    obtain ⟨k, rfl⟩ : ∃ m, k = m + 1 := ⟨k - 1, by omega⟩
    simp only [spec_l3Sizes.l0]
    rw [if_neg (by simp; omega), List.drop_of_length_le (by omega)]
    simp [mks]
  | succ d ih =>
    intro i x y hi hx hy
    have hil : i < L.length := by omega
    have hrd := rd_enc L i hil
    rw [List.drop_eq_getElem_cons hil] at hx hy ⊢
    simp only [mass, mks] at hx hy ⊢
    generalize L[i] = q at hx hy hrd ⊢
    have h1 : ∃ tk : Nat, tk ≤ massP q ∧ (encP q).f0 + ((encP q).f2.size : Int) = (tk : Int) := by
      have z : (⟨#[]⟩ : ByteArray).size = 0 := rfl
      cases q with
      | K n => exact ⟨n, Nat.le_refl _, by show (n : Int) + ((⟨#[]⟩ : ByteArray).size : Int) = _; omega⟩
      | W w => exact ⟨0, Nat.zero_le _, by show (0 : Int) + ((⟨#[]⟩ : ByteArray).size : Int) = _; omega⟩
      | D w => exact ⟨w.size, Nat.le_refl _, by show (0 : Int) + (w.size : Int) = _; omega⟩
    have h2 : (encP q).f0 + ((encP q).f1.size : Int) = (mkN q : Int) ∧ mkN q ≤ massP q := by
      have z : (⟨#[]⟩ : ByteArray).size = 0 := rfl
      cases q with
      | K n => exact ⟨by show (n : Int) + ((⟨#[]⟩ : ByteArray).size : Int) = (n : Int); omega, Nat.le_refl _⟩
      | W w => exact ⟨by show (0 : Int) + (w.size : Int) = (w.size : Int); omega, Nat.le_refl _⟩
      | D w => exact ⟨by show (0 : Int) + ((⟨#[]⟩ : ByteArray).size : Int) = ((0 : Nat) : Int); omega, Nat.zero_le _⟩
    obtain ⟨tk, hk1, hk2⟩ := h1
    obtain ⟨t, K, hK⟩ := ih (i + 1) (x + tk) (y + mkN q) (by omega) (by omega) (by omega)
    refine ⟨t, K + 1, fun k hk => ?_⟩
    obtain ⟨k, rfl⟩ : ∃ m, k = m + 1 := ⟨k - 1, by omega⟩
    have hr := hK k (by omega)
    simp only [spec_l3Sizes.l0]
    rw [if_pos (by simp; omega), if_pos (by omega), if_pos (by simp; omega), hrd, hk2, h2.1]
    rw [w64 (i := (tk : Int)) (by omega) (by omega), w64 (i := (x : Int) + (tk : Int)) (by omega) (by omega), w64 (i := (mkN q : Int)) (by omega) (by omega), w64 (i := (y : Int) + (mkN q : Int)) (by omega) (by omega), w64 (i := (i : Int) + 1) (by omega) (by omega)]
    rw [show (x : Int) + (tk : Int) = ((x + tk : Nat) : Int) by omega, show (y : Int) + (mkN q : Int) = ((y + mkN q : Nat) : Int) by omega, show (i : Int) + 1 = ((i + 1 : Nat) : Int) by omega, hr, show y + (mkN q + mks (L.drop (i + 1))) = y + mkN q + mks (L.drop (i + 1)) by omega]
theorem sizes_ev (L : List Pt) (hL : L.length ≤ 1000000) (hm : mass L ≤ 1000000) : ∃ t : Nat, ∃ K, ∀ k, K ≤ k → spec_l3Sizes.f k (L.map encP) = some ((t : Int), (mks L : Int)) := by
  obtain ⟨t, K, hK⟩ := sizes_l L hL L.length 0 0 0 (by omega) (by rw [List.drop_zero]; omega) (by rw [List.drop_zero]; omega)
  refine ⟨t, K, fun k hk => ?_⟩
  have := hK k hk
  rw [List.drop_zero, Nat.zero_add] at this
  exact this

def allB (b : ByteArray) : Prop := ∀ j : Nat, j < b.size → okB (bt b (j : Int)) = true
theorem okN_iff (b : ByteArray) : ∀ (d i : Nat), okN b d i = true ↔ ∀ j : Nat, i ≤ j → j < i + d → okB (bt b (j : Int)) = true
  | 0, i => by simp [okN]; intro j h1 h2; omega
  | d + 1, i => by
    simp only [okN, Bool.and_eq_true, okN_iff b d (i + 1)]
    constructor
    · intro ⟨h1, h2⟩ j hj hj2
      by_cases e : j = i
      · subst e; exact h1
      · exact h2 j (by omega) (by omega)
    · intro h
      exact ⟨h i (Nat.le_refl _) (by omega), fun j h1 h2 => h j (by omega) (by omega)⟩
theorem textB_iff (b : ByteArray) : textB b = true ↔ allB b ∧ b.size ≤ 300 := by
  unfold textB allB
  rw [Bool.and_eq_true, okN_iff, decide_eq_true_eq]
  constructor
  · intro ⟨h1, h2⟩; exact ⟨fun j hj => h1 j (Nat.zero_le _) (by omega), h2⟩
  · intro ⟨h1, h2⟩; exact ⟨fun j _ hj => h1 j (by omega), h2⟩
theorem allB_data (b : ByteArray) : allB b ↔ ∀ x ∈ b.data.toList, okB (x.toNat : Int) = true := by
  unfold allB
  constructor
  · intro h x hx
    obtain ⟨j, hj, rfl⟩ := List.mem_iff_getElem.mp hx
    have hj' : j < b.size := by rw [Array.length_toList] at hj; exact hj
    have := h j hj'
    rw [bt_data b j hj'] at this
    exact this
  · intro h j hj
    rw [bt_data b j hj]
    exact h _ (List.getElem_mem _)
theorem allB_append {a b : ByteArray} (ha : allB a) (hb : allB b) : allB (a ++ b) := by
  rw [allB_data] at ha hb ⊢
  intro x hx
  rw [ByteArray.data_append, Array.toList_append] at hx
  rcases List.mem_append.mp hx with h | h
  · exact ha x h
  · exact hb x h
theorem allB_extract {a : ByteArray} (ha : allB a) (i j : Nat) : allB (a.extract i j) := by
  rw [allB_data] at ha ⊢
  intro x hx
  rw [ByteArray.data_extract, Array.toList_extract] at hx
  exact ha x (List.mem_of_mem_drop (List.mem_of_mem_take (by simpa [List.extract] using hx)))
theorem T_all {s w : ByteArray} (m : Nat) (hs : allB s) (hw : allB w) : ∀ (ks : List Nat) (a : Nat), allB (T s w m a ks)
  | [], a => allB_extract hs _ _
  | k :: ks, a => allB_append (allB_append (allB_extract hs _ _) hw) (T_all m hs hw ks _)
/-- Where the text is replaced: of the places only those that do not lap over. -/
def kz (s p : ByteArray) : List Nat := apN p.size 0 ((occs p s s.size).map Int.toNat)
def raR (s p w : ByteArray) : ByteArray × Int × Bool := if (T s w p.size 0 (kz s p)).size ≤ 300 then (T s w p.size 0 (kz s p), ((kz s p).length : Int), true) else (⟨#[]⟩, 0, false)
theorem toNat_map (N : List Nat) : (N.map (fun a : Nat => (a : Int))).map Int.toNat = N := by
  rw [List.map_map]
  exact (List.map_congr_left (fun a _ => Int.toNat_natCast a)).trans (List.map_id _)
theorem both_RA (s p w : ByteArray) (hs : s.size ≤ 140737488351232) (hp : p.size ≤ 140737488351232) (hw : w.size ≤ 140737488351232) : ∃ r, (∃ K, ∀ k, K ≤ k → impl_ReplaceAll.f k s p w = some r) ∧ (∃ K, ∀ k, K ≤ k → spec_ReplaceAll.f k s p w = some r) ∧ r = (if 0 < p.size ∧ ((textB p && textB s) && textB w) = true then raR s p w else (⟨#[]⟩, 0, false)) := by
  obtain ⟨K1, h1⟩ := impl_GoodText_ev p hp
  obtain ⟨K2, h2⟩ := impl_GoodText_ev s hs
  obtain ⟨K3, h3⟩ := impl_GoodText_ev w hw
  obtain ⟨K4, h4⟩ := spec_l9Texts_ev p s hp hs
  obtain ⟨K5, h5⟩ := spec_GoodText_ev w hw
  by_cases hz : p.size = 0
  · have := (toList_nil p).mpr hz
    refine ⟨(⟨#[]⟩, 0, false), ⟨1, fun k hk => ?_⟩, ⟨1, fun k hk => ?_⟩, by rw [if_neg (by omega)]⟩
    · obtain ⟨k, rfl⟩ : ∃ m, k = m + 1 := ⟨k - 1, by omega⟩
      unfold impl_ReplaceAll.f impl_isSought.f
      simp [this, impl_ReplaceAll.j0]
    · obtain ⟨k, rfl⟩ : ∃ m, k = m + 1 := ⟨k - 1, by omega⟩
      unfold spec_ReplaceAll.f spec_l11Said.f
      simp [this, spec_ReplaceAll.j0]
  have hn : ¬ p.toList = [] := fun h => hz ((toList_nil p).mp h)
  cases ht : (textB p && textB s) && textB w with
  | false =>
    refine ⟨(⟨#[]⟩, 0, false), ⟨K1 + K2 + K3 + 1, fun k hk => ?_⟩, ⟨K4 + K5 + 1, fun k hk => ?_⟩, by rw [if_neg (fun x => absurd x.2 (by decide))]⟩
    · have j0 : ∀ b, b = true → impl_ReplaceAll.j0 k s p w b = some (⟨#[]⟩, 0, false) := by
        intro b hb
        obtain ⟨k, rfl⟩ : ∃ m, k = m + 1 := ⟨k - 1, by omega⟩
        simp only [impl_ReplaceAll.j0, if_pos hb]
      unfold impl_ReplaceAll.f impl_isSought.f impl_areTexts.f
      rw [if_neg hn, h1 k (by omega), h2 k (by omega), h3 k (by omega)]
      revert ht
      cases textB p <;> cases textB s <;> cases textB w <;> simp [j0]
    · have j0 : ∀ b, b = true → spec_ReplaceAll.j0 k s p w b = some (⟨#[]⟩, 0, false) := by
        intro b hb
        obtain ⟨k, rfl⟩ : ∃ m, k = m + 1 := ⟨k - 1, by omega⟩
        simp only [spec_ReplaceAll.j0, if_pos hb]
      unfold spec_ReplaceAll.f spec_l11Said.f
      rw [if_neg hn, h4 k (by omega), h5 k (by omega)]
      revert ht
      cases textB p <;> cases textB s <;> cases textB w <;> simp [j0]
  | true =>
    have ht0 := ht
    simp only [Bool.and_eq_true] at ht
    obtain ⟨⟨tp, ts⟩, tw⟩ := ht
    have hsp := textB_size tp
    have hss := textB_size ts
    have hsw := textB_size tw
    have hp0 : 0 < p.size := by omega
    obtain ⟨K6, h6⟩ := impl_search_ev p s hsp hp0 hss
    obtain ⟨K7, h7⟩ := spec_l11Find_ev p s hsp hp0 hss
    have hf := (found_spec p s hp0).1
    obtain ⟨N, n1, n2, n3⟩ := occs_nat p s s.size (Nat.le_refl _)
    have hch := ch_ap s p N 0 (Nat.zero_le _) n3
    have hal := apN_len p.size N 0
    have hkz : kz s p = apN p.size 0 N := by unfold kz; rw [n1, toNat_map]
    generalize hks : apN p.size 0 N = ks at hch hal hkz
    have hTs := T_size s p w ks 0 hch
    have hcard : ks.length * w.size ≤ 300 * 300 := Nat.mul_le_mul (by omega) hsw
    have hTall := T_all (s := s) (w := w) p.size ((textB_iff s).mp ts).1 ((textB_iff w).mp tw).1 ks 0
    have hk300 : ∀ k ∈ ks, k ≤ 300 := by
      intro k hk
      have : ∀ (l : List Nat) (a : Nat), ∀ x ∈ apN p.size a l, x ∈ l := by
        intro l
        induction l with
        | nil => intro a x hx; simp [apN] at hx
        | cons y l ih =>
          intro a x hx
          unfold apN at hx
          split at hx
          · rcases List.mem_cons.mp hx with rfl | hx
            · exact List.mem_cons_self
            · exact List.mem_cons_of_mem _ (ih _ x hx)
          · exact List.mem_cons_of_mem _ (ih _ x hx)
      have h := n3 k (this N 0 k (hks ▸ hk))
      omega
    -- the program's
    obtain ⟨K8, h8⟩ := impl_rep_l s p w hss hsp N (by omega) (fun k hk => (n3 k hk).1) N.length 0 [] 0 0 (by omega) (Nat.zero_le _) (by simp) (Nat.le_refl _)
    rw [List.drop_zero, hks, List.nil_append, Nat.zero_add] at h8
    have hrunI := runP_partsI s p w ks 0 ⟨#[]⟩ hch
    rw [ba_nil_append] at hrunI
    obtain ⟨K9, h9⟩ := impl_apply_l s hss (ks.length : Int) (partsI s p w 0 ks) (by rw [partsI_len]; omega) (partsI_mem s p w hss hsp hsw ks 0 hk300) (T s w p.size 0 ks, s.size) (by show (T s w p.size 0 ks).size ≤ _; omega) (partsI s p w 0 ks).length 0 0 ⟨#[]⟩ (by omega) (Nat.zero_le _) (by rw [List.drop_zero]; exact hrunI)
    rw [ba_extract_all] at h9
    -- the reference's
    obtain ⟨K10, h10⟩ := spec_apart_l s p hss hsp N (by omega) (fun k hk => (n3 k hk).1) N.length 0 [] 0 (by omega) (Nat.zero_le _) (Nat.le_refl _)
    rw [List.drop_zero, hks, List.nil_append] at h10
    obtain ⟨r', r1, r2, r3, K11, h11⟩ := spec_rep_l s p w hss hsp hp0 hsw ks (by omega) ks.length 0 [] 0 ⟨#[]⟩ (by omega) (by rw [List.drop_zero]; exact hch) rfl (by simp) (by simp [mass])
    rw [List.drop_zero, ba_nil_append] at r1
    have r2' : ∀ x ∈ r'.reverse, 0 < massP x := fun x hx => r2 x (List.mem_reverse.mp hx)
    have r3' : ∀ x ∈ r'.reverse, massP x ≤ 1000000 := fun x hx => by have := mass_mem (List.mem_reverse.mp hx); omega
    obtain ⟨K12, h12⟩ := l3Apply_l s hss r'.reverse (by have := mass_len r2; rw [List.length_reverse]; omega) r2' r3' (T s w p.size 0 ks, s.size) (by show (T s w p.size 0 ks).size ≤ _; omega) r'.reverse.length 0 0 ⟨#[]⟩ (by omega) (Nat.zero_le _) (by rw [List.drop_zero]; exact r1)
    rw [ba_extract_all] at h12
    obtain ⟨K13, h13⟩ := spec_GoodText_ev (T s w p.size 0 ks) (by omega)
    have hsize : wrap64 ((s.size : Int) + wrap64 ((ks.length : Int) * wrap64 ((w.size : Int) - (p.size : Int)))) = ((T s w p.size 0 ks).size : Int) := by
      have e1 : (ks.length : Int) * ((w.size : Int) - (p.size : Int)) = ((ks.length * w.size : Nat) : Int) - ((ks.length * p.size : Nat) : Int) := by
        rw [Int.mul_sub]; simp
      rw [w64 (i := (w.size : Int) - (p.size : Int)) (by omega) (by omega), e1]
      have hcard2 : ks.length * p.size ≤ 300 * 300 := Nat.mul_le_mul (by omega) hsp
      rw [w64 (i := ((ks.length * w.size : Nat) : Int) - ((ks.length * p.size : Nat) : Int)) (by omega) (by omega), w64 (by omega) (by omega)]
      omega
    refine ⟨if (T s w p.size 0 ks).size ≤ 300 then (T s w p.size 0 ks, (ks.length : Int), true) else (⟨#[]⟩, 0, false), ⟨K1 + K2 + K3 + K6 + K8 + K9 + 1, fun k hk => ?_⟩, ⟨K4 + K5 + K7 + K10 + K11 + K12 + K13 + 1, fun k hk => ?_⟩, by rw [if_pos (show 0 < p.size ∧ true = true from ⟨hp0, rfl⟩)]; unfold raR; rw [hkz]⟩
    · obtain ⟨k, rfl⟩ : ∃ m, k = m + 1 := ⟨k - 1, by omega⟩
      unfold impl_ReplaceAll.f impl_isSought.f impl_areTexts.f
      rw [if_neg hn, h1 _ (by omega), h2 _ (by omega), h3 _ (by omega), tp, ts, tw]
      simp only [Option.bind_some, if_true, Bool.not_true]
      simp only [impl_ReplaceAll.j0, Bool.false_eq_true, if_false]
      unfold impl_replace.f
      rw [h6 _ (by omega), Option.bind_some, hf, n1]
      rw [show (0 : Int) = ((0 : Nat) : Int) from rfl, h8 _ (by omega), Option.bind_some]
      simp only
      rw [hsize]
      by_cases c : (T s w p.size 0 ks).size ≤ 300
      · rw [if_neg (by omega), if_pos c]
        exact h9 k (by omega)
      · rw [if_pos (by omega), if_neg c]
    · obtain ⟨k, rfl⟩ : ∃ m, k = m + 1 := ⟨k - 1, by omega⟩
      unfold spec_ReplaceAll.f spec_l11Said.f
      rw [if_neg hn, h4 _ (by omega), h5 _ (by omega), tp, ts, tw]
      simp only [Option.bind_some, if_true, Bool.not_true, Bool.and_self]
      simp only [spec_ReplaceAll.j0, Bool.false_eq_true, if_false]
      unfold spec_l11Replace.f spec_l11Apart.f
      rw [h7 _ (by omega), Option.bind_some, hf, n1]
      rw [show (0 : Int) = ((0 : Nat) : Int) from rfl, h10 _ (by omega), Option.bind_some]
      have e11 := h11 k (by omega)
      rw [List.reverse_nil, List.map_nil] at e11
      rw [e11, Option.bind_some]
      unfold spec_l3Apply.f
      have e12 := h12 k (by omega)
      rw [show (0 : Int) = ((0 : Nat) : Int) from rfl]
      simp only
      rw [e12, Option.bind_some]
      simp only
      rw [h13 k (by omega), Option.bind_some]
      by_cases c : (T s w p.size 0 ks).size ≤ 300
      · rw [(textB_iff _).mpr ⟨hTall, c⟩, if_pos rfl, if_pos c]
      · rw [show textB (T s w p.size 0 ks) = false from Bool.eq_false_iff.mpr (fun h => c ((textB_iff _).mp h).2), if_neg (by decide), if_neg c]

theorem T_same (s p : ByteArray) : ∀ (ks : List Nat) (a : Nat), ch s p a ks → T s p p.size a ks = s.extract a s.size
  | [], a, h => rfl
  | k :: ks, a, h => by
    obtain ⟨h1, h2, h3, h4⟩ := h
    have e : s.extract a k ++ p = s.extract a (k + p.size) := by rw [← ba_extract_add s a k (k + p.size) h1 (by omega), h3]
    show s.extract a k ++ p ++ T s p p.size (k + p.size) ks = _
    rw [T_same s p ks _ h4, e, ba_extract_add s a (k + p.size) s.size (by omega) h2]
def kdN : Pt → Nat
  | .K n => n
  | .W _ => 0
  | .D d => d.size
def kds : List Pt → Nat
  | [] => 0
  | q :: r => kdN q + kds r
theorem run_kds {s : ByteArray} : ∀ {L : List Pt} {st v : ByteArray × Nat}, runP s L st = some v → v.2 = st.2 + kds L
  | [], st, v, h => by obtain rfl := Option.some.inj h; rfl
  | q :: L, st, v, h => by
    obtain ⟨u, h1, h2⟩ := Option.bind_eq_some_iff.1 (show (stepP s st q).bind (runP s L) = some v from h)
    have e := run_kds h2
    have hq : u.2 = st.2 + kdN q := by
      cases q with
      | K n =>
        have h1' : (if st.2 + n ≤ s.size then some (st.1 ++ s.extract st.2 (st.2 + n), st.2 + n) else none) = some u := h1
        split at h1'
        · obtain rfl := Option.some.inj h1'; rfl
        · cases h1'
      | W w => obtain rfl := Option.some.inj (show some (st.1 ++ w, st.2) = some u from h1); rfl
      | D d =>
        have h1' : (if st.2 + d.size ≤ s.size ∧ s.extract st.2 (st.2 + d.size) = d then some (st.1, st.2 + d.size) else none) = some u := h1
        split at h1'
        · obtain rfl := Option.some.inj h1'; rfl
        · cases h1'
    show v.2 = st.2 + (kdN q + kds L)
    omega
theorem sizes2_l (L : List Pt) (hL : L.length ≤ 1000000) : ∀ (d i x y : Nat), i + d = L.length → x + mass (L.drop i) ≤ 10000000 → y + mass (L.drop i) ≤ 10000000 → ∃ K, ∀ k, K ≤ k → spec_l3Sizes.l0 k (x : Int) (y : Int) (L.map encP) ((L.map encP).length : Int) (i : Int) = some (((x + kds (L.drop i) : Nat) : Int), ((y + mks (L.drop i) : Nat) : Int)) := by
  intro d
  induction d with
  | zero =>
    intro i x y hi hx hy
    refine ⟨1, fun k hk => ?_⟩
    obtain ⟨k, rfl⟩ : ∃ m, k = m + 1 := ⟨k - 1, by omega⟩
    simp only [spec_l3Sizes.l0]
    rw [if_neg (by simp; omega), List.drop_of_length_le (by omega)]
    simp [mks, kds]
  | succ d ih =>
    intro i x y hi hx hy
    have hil : i < L.length := by omega
    have hrd := rd_enc L i hil
    rw [List.drop_eq_getElem_cons hil] at hx hy ⊢
    simp only [mass, mks, kds] at hx hy ⊢
    generalize L[i] = q at hx hy hrd ⊢
    have h1 : kdN q ≤ massP q ∧ (encP q).f0 + ((encP q).f2.size : Int) = (kdN q : Int) := by
      have z : (⟨#[]⟩ : ByteArray).size = 0 := rfl
      cases q with
      | K n => exact ⟨Nat.le_refl _, by show (n : Int) + ((⟨#[]⟩ : ByteArray).size : Int) = (n : Int); omega⟩
      | W w => exact ⟨Nat.zero_le _, by show (0 : Int) + ((⟨#[]⟩ : ByteArray).size : Int) = ((0 : Nat) : Int); omega⟩
      | D w => exact ⟨Nat.le_refl _, by show (0 : Int) + (w.size : Int) = (w.size : Int); omega⟩
    have h2 : (encP q).f0 + ((encP q).f1.size : Int) = (mkN q : Int) ∧ mkN q ≤ massP q := by
      have z : (⟨#[]⟩ : ByteArray).size = 0 := rfl
      cases q with
      | K n => exact ⟨by show (n : Int) + ((⟨#[]⟩ : ByteArray).size : Int) = (n : Int); omega, Nat.le_refl _⟩
      | W w => exact ⟨by show (0 : Int) + (w.size : Int) = (w.size : Int); omega, Nat.le_refl _⟩
      | D w => exact ⟨by show (0 : Int) + ((⟨#[]⟩ : ByteArray).size : Int) = ((0 : Nat) : Int); omega, Nat.zero_le _⟩
    obtain ⟨hk1, hk2⟩ := h1
    obtain ⟨K, hK⟩ := ih (i + 1) (x + kdN q) (y + mkN q) (by omega) (by omega) (by omega)
    refine ⟨K + 1, fun k hk => ?_⟩
    obtain ⟨k, rfl⟩ : ∃ m, k = m + 1 := ⟨k - 1, by omega⟩
    have hr := hK k (by omega)
    simp only [spec_l3Sizes.l0]
    rw [if_pos (by simp; omega), if_pos (by omega), if_pos (by simp; omega), hrd, hk2, h2.1]
    rw [w64 (i := (kdN q : Int)) (by omega) (by omega), w64 (i := (x : Int) + (kdN q : Int)) (by omega) (by omega), w64 (i := (mkN q : Int)) (by omega) (by omega), w64 (i := (y : Int) + (mkN q : Int)) (by omega) (by omega), w64 (i := (i : Int) + 1) (by omega) (by omega)]
    rw [show (x : Int) + (kdN q : Int) = ((x + kdN q : Nat) : Int) by omega, show (y : Int) + (mkN q : Int) = ((y + mkN q : Nat) : Int) by omega, show (i : Int) + 1 = ((i + 1 : Nat) : Int) by omega, hr, Nat.add_assoc, Nat.add_assoc]
theorem sizes2_ev (L : List Pt) (hL : L.length ≤ 1000000) (hm : mass L ≤ 1000000) : ∃ K, ∀ k, K ≤ k → spec_l3Sizes.f k (L.map encP) = some ((kds L : Int), (mks L : Int)) := by
  obtain ⟨K, hK⟩ := sizes2_l L hL L.length 0 0 0 (by omega) (by rw [List.drop_zero]; omega) (by rw [List.drop_zero]; omega)
  refine ⟨K, fun k hk => ?_⟩
  have := hK k hk
  rw [List.drop_zero, Nat.zero_add, Nat.zero_add] at this
  exact this
theorem apI_l (s : ByteArray) (hs : s.size ≤ 300) (L : List Pt) (hL : L.length ≤ 1000000) (hmx : ∀ x ∈ L, massP x ≤ 1000000) (v : ByteArray × Nat) (hv : v.1.size ≤ 1000000000) :
    ∀ (d i : Nat) (a : Nat) (out : ByteArray), i + d = L.length → a ≤ s.size → runP s (L.drop i) (out, a) = some v →
    ∃ K, ∀ k, K ≤ k → impl_ApplyOp.l0 k (s.extract a s.size) out (L.map encP) ((L.map encP).length : Int) (i : Int) = some (v.1, true) := by
  intro d
  induction d with
  | zero =>
    intro i a out hi ha h
    rw [List.drop_of_length_le (by omega)] at h
    obtain rfl := Option.some.inj h
    refine ⟨1, fun k hk => ?_⟩
    obtain ⟨k, rfl⟩ : ∃ m, k = m + 1 := ⟨k - 1, by omega⟩
    simp only [impl_ApplyOp.l0]
    rw [if_neg (by rw [List.length_map]; omega)]
  | succ d ih =>
    intro i a out hi ha h
    have hdr := List.drop_eq_getElem_cons (show i < L.length by omega)
    rw [hdr] at h
    obtain ⟨u, h1, h2⟩ := Option.bind_eq_some_iff.1 (show (stepP s (out, a) L[i]).bind (runP s (L.drop (i + 1))) = some v from h)
    have hmono := stepP_mono h1 ha
    have hm2 := runP_mono h2 hmono.2
    obtain ⟨K, hK⟩ := ih (i + 1) u.2 u.1 (by omega) hmono.2 h2
    have hre := rd_enc L i (by omega)
    have hsz := rest_size s a
    have hq := hmx L[i] (List.getElem_mem _)
    have z0 : (⟨#[]⟩ : ByteArray).size = 0 := rfl
    have hR : ∃ R, R = s.extract a s.size := ⟨_, rfl⟩
    refine ⟨K + 1, fun k hk => ?_⟩
    obtain ⟨k, rfl⟩ : ∃ m, k = m + 1 := ⟨k - 1, by omega⟩
    have hr := hK k (by omega)
    have hc : ((i : Int) + 1) = ((i + 1 : Nat) : Int) := by omega
    have e4 : out.size ≤ 1000000000 := by have : out.size ≤ _ := hmono.1; omega
    simp only [impl_ApplyOp.l0]
    rw [if_pos (by rw [List.length_map]; omega), if_pos (by omega), if_pos (by rw [List.length_map]; omega), hre]
    generalize hg : L[i] = q at h1 hq
    cases q with
    | K n =>
      have h1' : (if a + n ≤ s.size then some (out ++ s.extract a (a + n), a + n) else none) = some u := h1
      by_cases hn : a + n ≤ s.size
      · rw [if_pos hn] at h1'
        obtain rfl := Option.some.inj h1'
        have e1 : ((s.extract a s.size).extract 0 n) = s.extract a (a + n) := by rw [ba_extract_extract s a 0 n hn, Nat.add_zero]
        have e2 : ((s.extract a s.size).extract n (s.extract a s.size).size) = s.extract (a + n) s.size := ba_extract_end s a n hn
        have e3 : (s.extract a (a + n)).size = n := by rw [ByteArray.size_extract]; omega
        rw [show (encP (.K n)).f2 = (⟨#[]⟩ : ByteArray) from rfl, show (encP (.K n)).f1 = (⟨#[]⟩ : ByteArray) from rfl, show (encP (.K n)).f0 = (n : Int) from rfl, z0, if_pos (by omega), if_pos (by omega), show ((0 : Nat) : Int).toNat = 0 from rfl, ba_extract_same, if_pos rfl, if_pos (by omega), if_pos (by omega), Int.toNat_natCast, e1, e3, if_pos (by omega), ba_append_nil, e3, if_pos (by omega), show (n : Int) + ((0 : Nat) : Int) = (n : Int) by omega, w64 (i := (n : Int)) (by omega) (by omega), if_pos (by omega), if_pos (by omega), Int.toNat_natCast, e2, w64 (by omega) (by omega), hc]
        exact hr
      · rw [if_neg hn] at h1'; cases h1'
    | W w =>
      obtain rfl := Option.some.inj (show some (out ++ w, a) = some u from h1)
      have hw : w.size ≤ 1000000 := hq
      have e2 : ((s.extract a s.size).extract 0 (s.extract a s.size).size) = s.extract a s.size := ba_extract_all _
      rw [show (encP (.W w)).f2 = (⟨#[]⟩ : ByteArray) from rfl, show (encP (.W w)).f1 = w from rfl, show (encP (.W w)).f0 = (0 : Int) from rfl, z0, if_pos (by omega), if_pos (by omega), show ((0 : Nat) : Int).toNat = 0 from rfl, ba_extract_same, if_pos rfl, if_pos (by omega), if_pos (by omega), show ((0 : Int)).toNat = 0 from rfl, ba_extract_same, z0, if_pos (by omega), ba_nil_append, if_pos (by omega), show (0 : Int) + ((0 : Nat) : Int) = 0 by omega, w64 (i := (0 : Int)) (by omega) (by omega), if_pos (by omega), if_pos (by omega), show ((0 : Int)).toNat = 0 from rfl, e2, w64 (by omega) (by omega), hc]
      exact hr
    | D w =>
      have h1' : (if a + w.size ≤ s.size ∧ s.extract a (a + w.size) = w then some (out, a + w.size) else none) = some u := h1
      by_cases hn : a + w.size ≤ s.size ∧ s.extract a (a + w.size) = w
      · rw [if_pos hn] at h1'
        obtain rfl := Option.some.inj h1'
        have e1 : ((s.extract a s.size).extract 0 w.size) = w := by rw [ba_extract_extract s a 0 w.size hn.1, Nat.add_zero]; exact hn.2
        have e2 : ((s.extract a s.size).extract w.size (s.extract a s.size).size) = s.extract (a + w.size) s.size := ba_extract_end s a w.size hn.1
        rw [show (encP (.D w)).f2 = w from rfl, show (encP (.D w)).f1 = (⟨#[]⟩ : ByteArray) from rfl, show (encP (.D w)).f0 = (0 : Int) from rfl, z0, if_pos (by omega), if_pos (by omega), Int.toNat_natCast, e1, if_pos rfl, if_pos (by omega), if_pos (by omega), show ((0 : Int)).toNat = 0 from rfl, ba_extract_same, z0, if_pos (by omega), ba_append_nil, ba_append_nil, z0, if_pos (by omega), Int.zero_add, w64 (i := (w.size : Int)) (by omega) (by omega), if_pos (by omega), if_pos (by omega), Int.toNat_natCast, e2, w64 (by omega) (by omega), hc]
        exact hr
      · rw [if_neg hn] at h1'; cases h1'
/-- A good change, laid on its text. -/
theorem applied (s : ByteArray) (ts : textB s = true) (R : List Pt) (hp : ∀ x ∈ R, 0 < massP x) (hm : mass R ≤ 1000000) (t : ByteArray) (hr : runP s R.reverse (⟨#[]⟩, 0) = some (t, s.size)) (ht : t.size ≤ 1000000000) (hg : ∃ K, ∀ k, K ≤ k → impl_GoodOp.f k (R.reverse.map encP) = some true) : ∃ K, ∀ k, K ≤ k → impl_ApplyOp.f k (R.reverse.map encP) s = some (t, true) := by
  have hs := textB_size ts
  have hlen := mass_len hp
  obtain ⟨K1, h1⟩ := hg
  obtain ⟨K2, h2⟩ := impl_GoodText_ev s (by omega)
  obtain ⟨K3, h3⟩ := sizes2_ev R.reverse (by rw [List.length_reverse]; omega) (by rw [mass_rev]; omega)
  have hk := run_kds hr
  obtain ⟨K4, h4⟩ := apI_l s hs R.reverse (by rw [List.length_reverse]; omega) (fun x hx => by have := mass_mem (List.mem_reverse.1 hx); omega) (t, s.size) ht R.reverse.length 0 0 ⟨#[]⟩ (by omega) (Nat.zero_le _) hr
  refine ⟨K1 + K2 + K3 + K4 + 1, fun k hk' => ?_⟩
  have e4 := h4 (k - 1) (by omega)
  rw [ba_extract_all] at e4
  unfold impl_ApplyOp.f
  rw [h1 k (by omega), Option.bind_some, if_pos rfl, h2 k (by omega), ts, Option.bind_some]
  obtain ⟨k, rfl⟩ : ∃ m, k = m + 1 := ⟨k - 1, by omega⟩
  rw [impl_ApplyOp.j0, if_neg (by simp), impl_sizes_ev, h3 k (by omega), Option.bind_some, if_pos (by
    have : s.size = 0 + kds R.reverse := hk
    show (kds R.reverse : Int) = _
    omega)]
  exact e4

theorem addQ_K0 (m n : Nat) : addQ (addQ [] (.K m)) (.K n) = addQ [] (.K (m + n)) := by
  unfold addQ
  by_cases hm : m = 0
  · subst hm
    rw [if_pos (show massP (.K 0) = 0 from rfl), Nat.zero_add]
  · have h1 : ¬ massP (.K m) = 0 := hm
    have h3 : ¬ massP (.K (m + n)) = 0 := by show ¬ m + n = 0; omega
    rw [if_neg h1, if_neg h3]
    by_cases hn : n = 0
    · subst hn
      rw [if_pos (show massP (.K 0) = 0 from rfl)]; rfl
    · have h2 : ¬ massP (.K n) = 0 := hn
      rw [if_neg h2]; rfl
theorem partsS_same (s p w : ByteArray) (e : w.toList = p.toList) : ∀ (ks : List Nat) (a m : Nat), ch s p a ks → (partsS s p w a ks).foldl addQ (addQ [] (.K m)) = addQ [] (.K (m + (s.size - a)))
  | [], a, m, _ => by
    simp only [partsS, List.foldl_cons, List.foldl_nil]
    exact addQ_K0 _ _
  | k :: ks, a, m, h => by
    obtain ⟨c1, c2, _, c4⟩ := h
    have := ch_le c4
    rw [partsS, if_pos e, List.foldl_cons, List.singleton_append, List.foldl_cons, addQ_K0, addQ_K0, partsS_same s p w e ks _ _ c4]
    congr 2
    omega
theorem partsS_other (s p w : ByteArray) (e : ¬ w.toList = p.toList) : ∀ (ks : List Nat) (a : Nat), partsS s p w a ks = partsI s p w a ks
  | [], a => rfl
  | k :: ks, a => by rw [partsS, if_neg e, partsS_other s p w e ks]; rfl
theorem partsI_mass (s p w : ByteArray) : ∀ (ks : List Nat) (a : Nat), ch s p a ks → mass (partsI s p w a ks) = s.size - a + ks.length * w.size ∧ mks (partsI s p w a ks) + ks.length * p.size = s.size - a + ks.length * w.size
  | [], a, _ => by simp [partsI, mass, massP, mks, mkN]
  | k :: ks, a, h => by
    obtain ⟨c1, c2, _, c4⟩ := h
    have hle := ch_le c4
    obtain ⟨h1, h2⟩ := partsI_mass s p w ks (k + p.size) c4
    have e1 : (k :: ks).length * w.size = ks.length * w.size + w.size := by rw [List.length_cons, Nat.succ_mul]
    have e2 : (k :: ks).length * p.size = ks.length * p.size + p.size := by rw [List.length_cons, Nat.succ_mul]
    simp only [partsI, mass, massP, mks, mkN]
    rw [e1, e2]
    omega
theorem ap_mem (m : Nat) : ∀ (l : List Nat) (a : Nat), ∀ x ∈ apN m a l, x ∈ l := by
  intro l
  induction l with
  | nil => intro a x hx; simp [apN] at hx
  | cons y l ih =>
    intro a x hx
    unfold apN at hx
    split at hx
    · rcases List.mem_cons.mp hx with rfl | hx
      · exact List.mem_cons_self
      · exact List.mem_cons_of_mem _ (ih _ x hx)
    · exact List.mem_cons_of_mem _ (ih _ x hx)
theorem enc_smallM (r : List Pt) (hp : ∀ x ∈ r, 0 < massP x) (ht : mass r ≤ 1000000) : smallL (r.reverse.map encP) := by
  have hl := mass_len hp
  refine ⟨by simp; omega, fun x hx => ?_⟩
  obtain ⟨q, hq, rfl⟩ := List.mem_map.1 hx
  have := mass_mem (List.mem_reverse.1 hq)
  have z : (⟨#[]⟩ : ByteArray).size = 0 := rfl
  cases q with
  | K n => exact ⟨by show (⟨#[]⟩ : ByteArray).size ≤ _; omega, by show (⟨#[]⟩ : ByteArray).size ≤ _; omega⟩
  | W w => simp only [massP] at this; exact ⟨by show w.size ≤ _; omega, by show (⟨#[]⟩ : ByteArray).size ≤ _; omega⟩
  | D d => simp only [massP] at this; exact ⟨by show (⟨#[]⟩ : ByteArray).size ≤ _; omega, by show d.size ≤ _; omega⟩
theorem good_K (n : Nat) (hn : n ≤ 300) : ∃ K, ∀ k, K ≤ k → spec_GoodOp.f k ((addQ [] (.K n)).reverse.map encP) = some true := by
  have hsm : smallL ((addQ [] (.K n)).reverse.map encP) := enc_smallM _ (pos_addQ [] _ (fun x hx => by cases hx)) (by rw [mass_addQ]; simp only [mass, massP]; omega)
  by_cases h0 : n = 0
  · subst h0
    have e : (addQ [] (.K 0)).reverse.map encP = [] := rfl
    rw [e] at hsm ⊢
    obtain ⟨K, hK⟩ := spec_GoodOp_ev [] hsm (0, 0) 1 (fun k hk => by
      obtain ⟨k, rfl⟩ : ∃ m, k = m + 1 := ⟨k - 1, by omega⟩
      unfold spec_l3Sizes.f
      simp [spec_l3Sizes.l0])
    exact ⟨K, fun k hk => by rw [hK k hk]; rfl⟩
  · have e : (addQ [] (.K n)).reverse.map encP = [⟨(n : Int), ⟨#[]⟩, ⟨#[]⟩⟩] := by
      unfold addQ
      rw [if_neg (show ¬ massP (.K n) = 0 from h0)]; rfl
    rw [e] at hsm ⊢
    have z : (⟨#[]⟩ : ByteArray).size = 0 := rfl
    obtain ⟨K, hK⟩ := spec_GoodOp_ev [⟨(n : Int), ⟨#[]⟩, ⟨#[]⟩⟩] hsm ((n : Int), (n : Int)) 2 (fun k hk => by
      obtain ⟨k, rfl⟩ : ∃ m, k = m + 2 := ⟨k - 2, by omega⟩
      unfold spec_l3Sizes.f
      have r0 : rd_T74 [(⟨(n : Int), ⟨#[]⟩, ⟨#[]⟩⟩ : S74)] 0 = ⟨(n : Int), ⟨#[]⟩, ⟨#[]⟩⟩ := rfl
      simp only [spec_l3Sizes.l0, r0, z]
      rw [if_pos (by simp), if_pos (by omega), if_pos (by simp)]
      simp (disch := omega) only [w64]
      simp)
    refine ⟨K, fun k hk => ?_⟩
    rw [hK k hk]
    have hp : partB (n : Int) ⟨#[]⟩ ⟨#[]⟩ = true := by
      unfold partB
      have hn0 : ¬ (n : Int) = 0 := by omega
      simp [hn0, nil_toList]
      omega
    have r0 : rd_T74 [(⟨(n : Int), ⟨#[]⟩, ⟨#[]⟩⟩ : S74)] ((0 : Nat) : Int) = ⟨(n : Int), ⟨#[]⟩, ⟨#[]⟩⟩ := rfl
    unfold goodB sizesB
    simp only [List.length_cons, List.length_nil, pN, r0, hp]
    have : (n : Int) ≤ 300 := by omega
    simp [this]
theorem runP_foldR {s : ByteArray} : ∀ (L r : List Pt) (st u v : ByteArray × Nat), st.2 ≤ s.size → runP s r.reverse st = some u → runP s L u = some v → runP s (L.foldl addQ r).reverse st = some v
  | [], r, st, u, v, ha, h1, h2 => by
    have : u = v := Option.some.inj h2
    subst this; exact h1
  | q :: L, r, st, u, v, ha, h1, h2 => by
    obtain ⟨u2, h3, h4⟩ := Option.bind_eq_some_iff.1 (show (stepP s u q).bind (runP s L) = some v from h2)
    exact runP_foldR L (addQ r q) st u2 v ha (runP_addQ s r q st u u2 h1 h3 (runP_mono h1 ha).2) h4
theorem both_RO (s p w : ByteArray) (hs : s.size ≤ 140737488351232) (hp : p.size ≤ 140737488351232) (hw : w.size ≤ 140737488351232) : ∃ (L : List S74) (ok : Bool), smallL L ∧ L.length ≤ 100000 ∧ (∃ K, ∀ k, K ≤ k → impl_ReplaceOp.f k s p w = some (L, ok) ∧ spec_ReplaceOp.f k s p w = some (L, ok)) ∧ (ok = true → 0 < p.size ∧ ((textB p && textB s) && textB w) = true ∧ ∃ K, ∀ k, K ≤ k → impl_ApplyOp.f k L s = some (T s w p.size 0 (kz s p), true)) := by
  obtain ⟨K1, h1⟩ := impl_GoodText_ev p hp
  obtain ⟨K2, h2⟩ := impl_GoodText_ev s hs
  obtain ⟨K3, h3⟩ := impl_GoodText_ev w hw
  obtain ⟨K4, h4⟩ := spec_l9Texts_ev p s hp hs
  obtain ⟨K5, h5⟩ := spec_GoodText_ev w hw
  have small0 : smallL ([] : List S74) := ⟨Nat.zero_le _, fun x hx => by cases hx⟩
  by_cases hz : p.size = 0
  · have hn := (size0_toList p).2 hz
    refine ⟨[], false, small0, Nat.zero_le _, ⟨1, fun k hk => ⟨?_, ?_⟩⟩, fun h => (by cases h)⟩
    · obtain ⟨k, rfl⟩ : ∃ m, k = m + 1 := ⟨k - 1, by omega⟩
      unfold impl_ReplaceOp.f impl_isSought.f
      simp [hn, impl_ReplaceOp.j0]
    · obtain ⟨k, rfl⟩ : ∃ m, k = m + 1 := ⟨k - 1, by omega⟩
      unfold spec_ReplaceOp.f spec_l11Said.f
      simp [hn, spec_ReplaceOp.j0]
  have hn : ¬ p.toList = [] := fun h => hz ((size0_toList p).1 h)
  have ji : ∀ k b, 1 ≤ k → b = true → impl_ReplaceOp.j0 k s p w b = some ([], false) := by
    intro k b hk hb
    obtain ⟨k, rfl⟩ : ∃ m, k = m + 1 := ⟨k - 1, by omega⟩
    simp only [impl_ReplaceOp.j0, if_pos hb]
  have js : ∀ k b, 1 ≤ k → b = true → spec_ReplaceOp.j0 k s p w b = some ([], false) := by
    intro k b hk hb
    obtain ⟨k, rfl⟩ : ∃ m, k = m + 1 := ⟨k - 1, by omega⟩
    simp only [spec_ReplaceOp.j0, if_pos hb]
  cases ht : (textB p && textB s) && textB w with
  | false =>
    refine ⟨[], false, small0, Nat.zero_le _, ⟨K1 + K2 + K3 + K4 + K5 + 1, fun k hk => ⟨?_, ?_⟩⟩, fun h => (by cases h)⟩
    · unfold impl_ReplaceOp.f impl_isSought.f impl_areTexts.f
      rw [if_neg hn, h1 k (by omega), h2 k (by omega), h3 k (by omega)]
      have j := ji k true (by omega) rfl
      revert ht
      cases textB p <;> cases textB s <;> cases textB w <;> simp [j]
    · unfold spec_ReplaceOp.f spec_l11Said.f
      rw [if_neg hn, h4 k (by omega), h5 k (by omega)]
      have j := js k true (by omega) rfl
      revert ht
      cases textB p <;> cases textB s <;> cases textB w <;> simp [j]
  | true =>
    simp only [Bool.and_eq_true] at ht
    obtain ⟨⟨tp, ts⟩, tw⟩ := ht
    have hsp := textB_size tp
    have hss := textB_size ts
    have hsw := textB_size tw
    have hp0 : 0 < p.size := by omega
    obtain ⟨K6, h6⟩ := impl_search_ev p s hsp hp0 hss
    obtain ⟨K7, h7⟩ := spec_l11Find_ev p s hsp hp0 hss
    have hf := (found_spec p s hp0).1
    obtain ⟨N, n1, n2, n3⟩ := occs_nat p s s.size (Nat.le_refl _)
    have hch := ch_ap s p N 0 (Nat.zero_le _) n3
    have hal := apN_len p.size N 0
    obtain ⟨K10, h10⟩ := spec_apart_l s p hss hsp N (by omega) (fun k hk => (n3 k hk).1) N.length 0 [] 0 (by omega) (Nat.zero_le _) (by simp)
    rw [List.drop_zero, List.nil_append] at h10
    obtain ⟨K8, h8⟩ := impl_rep_l s p w hss hsp N (by omega) (fun k hk => (n3 k hk).1) N.length 0 [] 0 0 (by omega) (Nat.zero_le _) (by simp) (Nat.le_refl _)
    rw [List.drop_zero, List.nil_append, Nat.zero_add] at h8
    have hkz : kz s p = apN p.size 0 N := by unfold kz; rw [n1, toNat_map]
    generalize hks : apN p.size 0 N = ks at hch hal h8 h10 hkz
    have hTs := T_size s p w ks 0 hch
    have hcard : ks.length * w.size ≤ 300 * 300 := Nat.mul_le_mul (by omega) hsw
    obtain ⟨K11, h11⟩ := spec_rep_f s p w hss hsp hp0 hsw ks (by omega) ks.length 0 [] 0 (by omega) hch (fun x hx => by cases hx) (by simp [mass])
    rw [List.drop_zero] at h11
    have hfind : ∀ k, K7 ≤ k → spec_l11Find.f k p s = some (N.map (fun a : Nat => (a : Int)), (found p s).2) := fun k hk => by rw [h7 k hk, ← n1, ← hf]
    have hspec : ∀ k, K7 + K10 + K11 ≤ k → spec_l11Replace.f k s p w = some (((partsS s p w 0 ks).foldl addQ []).reverse.map encP, (ks.length : Int)) := by
      intro k hk
      unfold spec_l11Replace.f spec_l11Apart.f
      rw [hfind k (by omega), Option.bind_some]
      have e10 := h10 k (by omega)
      have e11 := h11 k (by omega)
      simp only [Int.cast_ofNat_Int] at e10 e11
      rw [e10, Option.bind_some]
      exact e11
    have si : impl_isSought.f = impl_isSought.f := rfl
    by_cases e : w.toList = p.toList
    · have hfold := partsS_same s p w e ks 0 0 hch
      have hfold' : (partsS s p w 0 ks).foldl addQ [] = addQ [] (.K s.size) := by
        have e0 : addQ [] (.K 0) = [] := rfl
        rw [e0, Nat.zero_add, Nat.sub_zero] at hfold
        exact hfold
      obtain ⟨K12, h12⟩ := good_K s.size hss
      have hnorm := normal_ev [.K s.size] (by simp only [mass, massP]; omega)
      have hsm := enc_smallM (addQ [] (.K s.size)) (pos_addQ [] _ (fun x hx => by cases hx)) (by rw [mass_addQ]; simp only [mass, massP]; omega)
      have hlen := mass_len (pos_addQ [] (.K s.size) (fun x hx => by cases hx))
      rw [mass_addQ] at hlen
      simp only [mass, massP] at hlen
      refine ⟨(addQ [] (.K s.size)).reverse.map encP, true, hsm, by simp; omega, ⟨K1 + K2 + K3 + K4 + K5 + K7 + K10 + K11 + K12 + 2, fun k hk => ⟨?_, ?_⟩⟩, fun _ => ⟨hp0, rfl, ?_⟩⟩
      rotate_left 2
      · obtain rfl : w = p := ba_of_toList e
        rw [hkz, T_same s w ks 0 hch, ba_extract_all]
        have hrK : runP s [.K s.size] (⟨#[]⟩, 0) = some (s, s.size) := by
          show (if 0 + s.size ≤ s.size then some ((⟨#[]⟩ : ByteArray) ++ s.extract 0 (0 + s.size), 0 + s.size) else none).bind (runP s []) = _
          rw [if_pos (by omega), Nat.zero_add, ba_extract_all, ba_nil_append]; rfl
        refine applied s ts (addQ [] (.K s.size)) (pos_addQ [] _ (fun x hx => by cases hx)) (by rw [mass_addQ]; simp only [mass, massP]; omega) s (runP_foldR [.K s.size] [] _ _ _ (Nat.zero_le _) rfl hrK) (by omega) ?_
        obtain ⟨t, K20, h20⟩ := sizes_ev (addQ [] (.K s.size)).reverse (by rw [List.length_reverse]; omega) (by rw [mass_rev, mass_addQ]; simp only [mass, massP]; omega)
        obtain ⟨K21, h21⟩ := spec_GoodOp_ev _ hsm _ K20 h20
        obtain ⟨K22, h22⟩ := impl_GoodOp_ev _ hsm _ K20 h20
        have hgt : goodB ((addQ [] (.K s.size)).reverse.map encP) _ = true := Option.some.inj ((h21 (K12 + K21) (by omega)).symm.trans (h12 (K12 + K21) (by omega)))
        exact ⟨K22, fun k hk => by rw [h22 k hk, hgt]⟩
      · unfold impl_ReplaceOp.f impl_isSought.f impl_areTexts.f
        rw [if_neg hn, h1 k (by omega), tp, Option.bind_some, Option.bind_some, if_pos rfl, h2 k (by omega), ts, Option.bind_some, if_pos rfl, h3 k (by omega), tw, Option.bind_some, Option.bind_some]
        obtain ⟨k, rfl⟩ : ∃ m, k = m + 1 := ⟨k - 1, by omega⟩
        simp only [impl_ReplaceOp.j0, Bool.not_true, Bool.false_eq_true, if_false, if_pos e]
        unfold impl_KeepAll.f
        rw [if_neg (by omega), if_neg (by omega)]
        have : impl_normal.f [⟨(s.size : Int), ⟨#[]⟩, ⟨#[]⟩⟩] = some ((addQ [] (.K s.size)).reverse.map encP) := hnorm
        rw [this]; rfl
      · unfold spec_ReplaceOp.f spec_l11Said.f
        rw [if_neg hn, h4 k (by omega), tp, ts, Bool.and_self, Option.bind_some, Option.bind_some, if_pos rfl, h5 k (by omega), tw, Option.bind_some]
        obtain ⟨k, rfl⟩ : ∃ m, k = m + 1 := ⟨k - 1, by omega⟩
        simp only [spec_ReplaceOp.j0, Bool.not_true, Bool.false_eq_true, if_false]
        rw [hspec k (by omega), hfold', Option.bind_some, h12 k (by omega), Option.bind_some, if_pos rfl]
    · rw [partsS_other s p w e] at hspec
      obtain ⟨m1, m2⟩ := partsI_mass s p w ks 0 hch
      have hnorm := normal_ev (partsI s p w 0 ks) (by omega)
      obtain ⟨f1, f2⟩ := fold_inv (partsI s p w 0 ks) [] (fun x hx => by cases hx)
      have f3 := mks_fold (partsI s p w 0 ks) []
      simp only [mks, mass, Nat.zero_add] at f2 f3
      have hrunR := runP_foldR (partsI s p w 0 ks) [] (⟨#[]⟩, 0) (⟨#[]⟩, 0) _ (Nat.zero_le _) rfl (runP_partsI s p w ks 0 ⟨#[]⟩ hch)
      rw [ba_nil_append] at hrunR
      generalize (partsI s p w 0 ks).foldl addQ [] = R at hnorm f1 f2 f3 hspec hrunR
      have hlen := mass_len f1
      have hsm := enc_smallM R f1 (by omega)
      obtain ⟨t, K12, h12⟩ := sizes_ev R.reverse (by simp; omega) (by rw [mass_rev]; omega)
      obtain ⟨K13, h13⟩ := spec_GoodOp_ev _ hsm _ K12 h12
      obtain ⟨K14, h14⟩ := impl_GoodOp_ev _ hsm _ K12 h12
      have hmk : mks R.reverse = mks (partsI s p w 0 ks) := by rw [mks_rev, f3]
      have hcp : ks.length * p.size ≤ 300 * 300 := Nat.mul_le_mul (by omega) hsp
      have hprod : (ks.length : Int) * ((w.size : Int) - (p.size : Int)) = ((ks.length * w.size : Nat) : Int) - ((ks.length * p.size : Nat) : Int) := by rw [Int.mul_sub]; simp
      have htot : wrap64 ((s.size : Int) + wrap64 ((ks.length : Int) * wrap64 ((w.size : Int) - (p.size : Int)))) = (mks R.reverse : Int) := by
        rw [w64 (i := (w.size : Int) - (p.size : Int)) (by omega) (by omega), hprod, w64 (i := ((ks.length * w.size : Nat) : Int) - ((ks.length * p.size : Nat) : Int)) (by omega) (by omega), w64 (by omega) (by omega), hmk]
        omega
      have himp : ∀ k b, K8 + K6 + 2 ≤ k → b = false → impl_ReplaceOp.j0 k s p w b = if (mks R.reverse : Int) > 300 then some ([], false) else (impl_goodOp.f (k - 1) (R.reverse.map encP)).bind fun bt => some (bt.1, bt.2) := by
        intro k b hk hb
        obtain ⟨k, rfl⟩ : ∃ m, k = m + 1 := ⟨k - 1, by omega⟩
        have hrep : impl_replace.f k s p w = some ((partsI s p w 0 ks).map encP, (ks.length : Int)) := by
          unfold impl_replace.f
          have e6 := h6 k (by omega)
          have e8 := h8 k (by omega)
          simp only [Int.cast_ofNat_Int] at e8
          rw [e6, Option.bind_some, hf, n1]
          exact e8
        simp only [impl_ReplaceOp.j0, hb, Bool.false_eq_true, if_false, if_neg e]
        rw [hrep, Option.bind_some]
        simp only [htot]
        rw [hnorm, Option.bind_some]; rfl
      have hgood : (mks R.reverse : Int) > 300 → goodB (R.reverse.map encP) ((t : Int), (mks R.reverse : Int)) = false := by
        intro hg
        have : sizesB ((t : Int), (mks R.reverse : Int)) = false := by
          unfold sizesB
          split
          · exact decide_eq_false (by show ¬ (mks R.reverse : Int) ≤ 300; omega)
          · rfl
        unfold goodB
        rw [this]; simp
      refine ⟨if goodB (R.reverse.map encP) ((t : Int), (mks R.reverse : Int)) then R.reverse.map encP else [], goodB (R.reverse.map encP) ((t : Int), (mks R.reverse : Int)), ?_, ?_, ⟨K1 + K2 + K3 + K4 + K5 + K6 + K7 + K8 + K10 + K11 + K13 + K14 + 5, fun k hk => ⟨?_, ?_⟩⟩, fun hg => ⟨hp0, rfl, ?_⟩⟩
      rotate_left 4
      · rw [if_pos hg, hkz]
        exact applied s ts R f1 (by omega) _ hrunR (by omega) ⟨K14, fun k hk => by rw [h14 k hk, hg]⟩
      · split
        · exact hsm
        · exact small0
      · split
        · simp; omega
        · exact Nat.zero_le _
      · unfold impl_ReplaceOp.f impl_isSought.f impl_areTexts.f
        rw [if_neg hn, h1 k (by omega), tp, Option.bind_some, Option.bind_some, if_pos rfl, h2 k (by omega), ts, Option.bind_some, if_pos rfl, h3 k (by omega), tw, Option.bind_some, Option.bind_some, himp k (!true) (by omega) rfl]
        unfold impl_goodOp.f
        rw [h14 (k - 1) (by omega), Option.bind_some]
        split
        · rename_i hg
          rw [hgood hg]; rfl
        · cases goodB (R.reverse.map encP) ((t : Int), (mks R.reverse : Int)) <;> rfl
      · unfold spec_ReplaceOp.f spec_l11Said.f
        rw [if_neg hn, h4 k (by omega), tp, ts, Bool.and_self, Option.bind_some, Option.bind_some, if_pos rfl, h5 k (by omega), tw, Option.bind_some]
        obtain ⟨k, rfl⟩ : ∃ m, k = m + 1 := ⟨k - 1, by omega⟩
        simp only [spec_ReplaceOp.j0, Bool.not_true, Bool.false_eq_true, if_false]
        rw [hspec k (by omega), Option.bind_some, h13 k (by omega), Option.bind_some]
        cases goodB (R.reverse.map encP) ((t : Int), (mks R.reverse : Int)) <;> rfl

theorem u64_range (n : Int) : 0 ≤ IntKind.u64.wrap n ∧ IntKind.u64.wrap n < 18446744073709551616 := by
  have h : IntKind.u64.wrap n = n % 18446744073709551616 := by simp [IntKind.wrap, IntKind.bits, IntKind.signed]
  rw [h]; omega
theorem u64_and255 (n : Int) : 0 ≤ Go.bits .and .u64 (IntKind.u64.wrap n / 1099511627776) 255 ∧ Go.bits .and .u64 (IntKind.u64.wrap n / 1099511627776) 255 < 256 := by
  have h := u64_range n
  have e := bits_mask .u64 24 (by decide) (fun n h0 h1 => by
    have h : IntKind.u64.wrap n = n % 18446744073709551616 := by simp [IntKind.wrap, IntKind.bits, IntKind.signed]
    rw [h]; omega) 8 (by decide) (IntKind.u64.wrap n / 1099511627776) (by omega) (by omega)
  rw [show (255 : Int) = 2 ^ 8 - 1 from rfl, e]
  omega
def okCode (c : List Int) : Prop := ∀ x ∈ c, 0 ≤ x ∧ x < 256
theorem okCode_of {c : List Int} (h : ∀ x ∈ c, (Lit.int .u8 x).wf = true) : okCode c := by
  intro x hx
  have := h x hx
  simp [Lit.wf, IntKind.min, IntKind.max, IntKind.bits, IntKind.signed] at this
  omega
theorem okCode.rd {c : List Int} (h : okCode c) (i : Int) : 0 ≤ rd c i ∧ rd c i < 256 := by
  unfold Go.Proofs.YtpbelbckinpinaaW.PrintWords.rd
  rw [List.getD_eq_getElem?_getD]
  cases e : c[i.toNat]? with
  | none => simp
  | some x => simp; exact h x (List.mem_of_getElem? e)
theorem next_ev {c : List Int} (hc : okCode c) (a s : Int) (h0 : 0 ≤ a) (h1 : a ≤ 4000000000000000000) : ∃ r s', spec_l1Cur_next.f c a s = some (r, a + 1, s') ∧ 0 ≤ r ∧ r < 256 := by
  have hr := hc.rd a
  have hu := u64_and255
  unfold spec_l1Cur_next.f
  rw [w64 (by omega : -4611686018427387904 ≤ a + 1) (by omega)]
  by_cases c1 : a < (c.length : Int)
  · rw [if_pos c1, if_pos h0, if_pos (by omega), w64 (by omega) (by omega)]
    exact ⟨_, _, rfl, hr.1, hr.2⟩
  · rw [if_neg c1, if_neg (by omega)]
    refine ⟨_, _, rfl, ?_⟩
    have := hu (IntKind.u64.wrap (IntKind.u64.wrap (s * 6364136223846793005) + 0) + 1442695040888963407)
    rw [w64 (by omega) (by omega)]
    exact this
theorem pick_ev {c : List Int} (hc : okCode c) (a s n : Int) (h0 : 0 ≤ a) (h1 : a ≤ 3000000000000000000) (hn : 1 ≤ n) (hn2 : n ≤ 1000000000000) : ∃ r a' s', spec_l1Cur_pick.f c a s n = some (r, a', s') ∧ 0 ≤ r ∧ r < n ∧ a ≤ a' ∧ a' ≤ a + 2 := by
  unfold spec_l1Cur_pick.f
  by_cases c1 : n ≤ 1
  · rw [if_pos c1]; exact ⟨0, a, s, rfl, by omega, by omega, by omega, by omega⟩
  · obtain ⟨r, s1, e1, hr0, hr1⟩ := next_ev hc a s h0 (by omega)
    rw [if_neg c1, e1]
    simp only [Option.bind_some]
    by_cases c2 : n > 200
    · obtain ⟨r2, s2, e2, hr2, hr3⟩ := next_ev hc (a + 1) s1 (by omega) (by omega)
      rw [if_pos c2, e2]
      simp only [Option.bind_some]
      rw [if_neg (by omega), w64 (by omega : -4611686018427387904 ≤ r * 256) (by omega), w64 (by omega) (by omega)]
      refine ⟨_, _, _, rfl, ?_, ?_, by omega, by omega⟩
      · rw [Int.tmod_eq_emod_of_nonneg (by omega)]; exact Int.emod_nonneg _ (by omega)
      · rw [Int.tmod_eq_emod_of_nonneg (by omega)]; exact Int.emod_lt_of_pos _ (by omega)
    · rw [if_neg c2, if_neg (by omega)]
      refine ⟨_, _, _, rfl, ?_, ?_, by omega, by omega⟩
      · rw [Int.tmod_eq_emod_of_nonneg (by omega)]; exact Int.emod_nonneg _ (by omega)
      · rw [Int.tmod_eq_emod_of_nonneg (by omega)]; exact Int.emod_lt_of_pos _ (by omega)
theorem one_ev {c : List Int} (hc : okCode c) (a s n : Int) (h0 : 0 ≤ a) (h1 : a ≤ 3000000000000000000) (hn : 1 ≤ n) (hn2 : n ≤ 1000000000000) : ∃ r a' s', spec_l1Cur_one.f c a s n = some (r, a', s') ∧ a ≤ a' ∧ a' ≤ a + 2 := by
  obtain ⟨r, a', s', e, _, _, h2, h3⟩ := pick_ev hc a s n h0 h1 hn hn2
  unfold spec_l1Cur_one.f
  rw [e]
  exact ⟨_, _, _, rfl, h2, h3⟩

theorem of_ev {c : List Int} (hc : okCode c) (a s : Int) (l : List ByteArray) (M : Nat) (h0 : 0 ≤ a) (h1 : a ≤ 3000000000000000000) (hl : 0 < l.length) (hl2 : l.length ≤ 1000) (hM : ∀ x ∈ l, x.size ≤ M) : ∃ r a' s', spec_l1Cur_of.f c a s l = some (r, a', s') ∧ r ∈ l ∧ r.size ≤ M ∧ a ≤ a' ∧ a' ≤ a + 2 := by
  obtain ⟨r, a', s', e, h2, h3, h4, h5⟩ := pick_ev hc a s (l.length : Int) h0 h1 (by omega) (by omega)
  unfold spec_l1Cur_of.f
  rw [e]
  simp only [Option.bind_some]
  rw [if_pos h2, if_pos h3]
  have hm : rdOf ByteArray.empty l r ∈ l := by
    unfold rdOf
    rw [List.getD_eq_getElem?_getD, List.getElem?_eq_getElem (by omega : r.toNat < l.length)]
    simp
  exact ⟨_, _, _, rfl, hm, hM _ hm, h4, h5⟩

def cO : Nat → Int
  | 0 => 600
  | d + 1 => 60 * (cO d + 10)
def sO : Nat → Nat
  | 0 => 300
  | d + 1 => 60 * (sO d + 10)
def xO : Nat → Nat
  | 0 => 5
  | d + 1 => sO d + 10
def yO : Nat → Int
  | 0 => 10
  | d + 1 => cO d + 10
theorem cO_le (d : Nat) (h : d ≤ 3) : 0 ≤ cO d ∧ cO d ≤ 1000000000 := by
  rcases d with _ | _ | _ | _ | d <;> simp [cO] <;> omega
theorem sO_le (d : Nat) (h : d ≤ 3) : sO d ≤ 1000000000 := by
  rcases d with _ | _ | _ | _ | d <;> simp [sO] <;> omega
theorem size_app (a b : ByteArray) : (a ++ b).size = a.size + b.size := ByteArray.size_append
theorem inner_l {c : List Int} (hc : okCode c) (d : Nat) (hd : d ≤ 3)
    (IH : ∀ e : Nat, d = e + 1 → ∀ (a s n : Int), 0 ≤ a → a ≤ 2000000000000000000 + (3 - (e : Int)) * 1000000000000 → 0 ≤ n → n ≤ 60 → ∃ t a' s', t.size ≤ sO e ∧ a ≤ a' ∧ a' ≤ a + cO e ∧ ∃ K, ∀ k, K ≤ k → spec_l1Cur_inner.f k c a s n (e : Int) = some (t, a', s')) :
    ∀ (n : Nat) (t : ByteArray) (a s : Int), n ≤ 60 → 0 ≤ a → a ≤ 2000000000000000000 + (3 - (d : Int)) * 1000000000000 + (60 - (n : Int)) * 1000000000 → t.size + n * 1000000000 ≤ 60 * 1000000000 →
      ∃ t' a' s', t'.size ≤ t.size + n * (xO d) ∧ a ≤ a' ∧ a' ≤ a + n * (yO d) ∧ ∃ K, ∀ k, K ≤ k → spec_l1Cur_inner.l0 k (n : Int) (d : Int) t c a s = some (t', a', s') := by
  intro n
  induction n with
  | zero =>
    intro t a s hn h0 h1 ht
    refine ⟨t, a, s, by omega, by omega, by omega, 1, fun k hk => ?_⟩
    obtain ⟨k, rfl⟩ : ∃ m, k = m + 1 := ⟨k - 1, by omega⟩
    simp only [spec_l1Cur_inner.l0]
    rw [if_neg (by omega)]
  | succ n ih =>
    intro t a s hn h0 h1 ht
    have join : ∀ (u : ByteArray) (a1 s1 : Int), u.size ≤ (xO d) → a ≤ a1 → a1 ≤ a + (yO d) →
        ∃ t' a' s', t'.size ≤ t.size + (n + 1 : Nat) * (xO d) ∧ a ≤ a' ∧ a' ≤ a + ((n + 1 : Nat) : Int) * (yO d) ∧ ∃ K, ∀ k, K ≤ k → spec_l1Cur_inner.l0 k (n : Int) (d : Int) (t ++ u) c a1 s1 = some (t', a', s') := by
      intro u a1 s1 hu h2 h3
      have b1 : xO d ≤ 1000000000 := by
        cases d with
        | zero => simp [xO]
        | succ e => have := sO_le e (by omega); rcases e with _ | _ | _ | e <;> simp [xO, sO] <;> omega
      have b2 : yO d ≤ 1000000000 := by
        cases d with
        | zero => simp [yO]
        | succ e => rcases e with _ | _ | _ | e <;> simp [yO, cO] <;> omega
      generalize xO d = X at *
      generalize yO d = Y at *
      obtain ⟨t', a', s', g1, g2, g3, g4⟩ := ih (t ++ u) a1 s1 (by omega) (by omega) (by omega) (by rw [size_app]; omega)
      refine ⟨t', a', s', ?_, by omega, ?_, g4⟩
      · rw [size_app] at g1
        have : (n + 1) * X = n * X + X := Nat.succ_mul n X
        omega
      · have : ((n + 1 : Nat) : Int) * Y = (n : Int) * Y + Y := by rw [show ((n + 1 : Nat) : Int) = (n : Int) + 1 by omega, Int.add_mul, Int.one_mul]
        omega
    have plain : ∀ a1 s1 : Int, a ≤ a1 → a1 ≤ a + 2 → ∃ t' a' s', t'.size ≤ t.size + (n + 1 : Nat) * (xO d) ∧ a ≤ a' ∧ a' ≤ a + ((n + 1 : Nat) : Int) * (yO d) ∧ ∃ K, ∀ k, K ≤ k → spec_l1Cur_inner.j1 k ((n : Int) + 1) (d : Int) t false c a1 s1 = some (t', a', s') := by
      intro a1 s1 h2 h3
      obtain ⟨u, a2, s2, e, _, hu, h4, h5⟩ := of_ev hc a1 s1 ([(⟨#[97]⟩ : ByteArray), (⟨#[98]⟩ : ByteArray), (⟨#[97, 98]⟩ : ByteArray), (⟨#[120]⟩ : ByteArray), (⟨#[32]⟩ : ByteArray), (⟨#[111, 110, 101]⟩ : ByteArray), (⟨#[49]⟩ : ByteArray), (⟨#[122, 46]⟩ : ByteArray)] : List ByteArray) 3 (by omega) (by omega) (by simp) (by simp) (by decide)
      obtain ⟨t', a', s', g1, g2, g3, K, g4⟩ := join u a2 s2 (by cases d <;> simp [xO] <;> omega) (by omega) (by
        cases d with
        | zero => simp [yO]; omega
        | succ e => have := cO_le e (by omega); simp [yO]; omega)
      refine ⟨t', a', s', g1, g2, g3, K + 1, fun k hk => ?_⟩
      obtain ⟨k, rfl⟩ : ∃ m, k = m + 1 := ⟨k - 1, by omega⟩
      simp only [spec_l1Cur_inner.j1]
      rw [if_neg (by simp), e]
      simp only [Option.bind_some]
      rw [if_pos (by omega), w64 (by omega) (by omega), Int.add_sub_cancel]
      exact g4 k (by omega)
    cases d with
    | zero =>
      obtain ⟨t', a', s', g1, g2, g3, K, g4⟩ := plain a s (by omega) (by omega)
      refine ⟨t', a', s', g1, g2, g3, K + 1, fun k hk => ?_⟩
      obtain ⟨k, rfl⟩ : ∃ m, k = m + 1 := ⟨k - 1, by omega⟩
      simp only [spec_l1Cur_inner.l0]
      rw [if_pos (by omega), if_neg (by omega)]
      exact g4 k (by omega)
    | succ e =>
      obtain ⟨r, a1, s1, e1, h2, h3⟩ := one_ev hc a s 3 (by omega) (by omega) (by omega) (by omega)
      have hb := cO_le e (by omega)
      have hs := sO_le e (by omega)
      cases r with
      | false =>
        obtain ⟨t', a', s', g1, g2, g3, K, g4⟩ := plain a1 s1 (by omega) (by omega)
        refine ⟨t', a', s', g1, g2, g3, K + 1, fun k hk => ?_⟩
        obtain ⟨k, rfl⟩ : ∃ m, k = m + 1 := ⟨k - 1, by omega⟩
        simp only [spec_l1Cur_inner.l0]
        rw [if_pos (by omega), if_pos (by omega), e1]
        exact g4 k (by omega)
      | true =>
        obtain ⟨p1, a2, s2, e2, q1, q2, q3, q4⟩ := pick_ev hc a1 s1 4 (by omega) (by omega) (by omega) (by omega)
        obtain ⟨p2, a3, s3, e3, q5, q6, q7, q8⟩ := pick_ev hc a2 s2 4 (by omega) (by omega) (by omega) (by omega)
        obtain ⟨v, a4, s4, i1, i2, i3, K1, i4⟩ := IH e rfl a3 s3 p2 (by omega) (by omega) (by omega) (by omega)
        have one1 : (strOfNums [wrap64 (65 + p1) % 256]).size = 1 := rfl
        have lit1 : (⟨#[47]⟩ : ByteArray).size = 1 := rfl
        obtain ⟨t', a', s', g1, g2, g3, K, g4⟩ := join (strOfNums [wrap64 (65 + p1) % 256] ++ v ++ (⟨#[47]⟩ : ByteArray)) a4 s4 (by rw [size_app, size_app, one1, lit1]; simp [xO]; omega) (by omega) (by simp [yO]; omega)
        refine ⟨t', a', s', g1, g2, g3, max K K1 + 2, fun k hk => ?_⟩
        obtain ⟨k, rfl⟩ : ∃ m, k = m + 2 := ⟨k - 2, by omega⟩
        simp only [spec_l1Cur_inner.l0]
        rw [if_pos (by omega), if_pos (by omega), e1]
        simp only [Option.bind_some, spec_l1Cur_inner.j1, if_true]
        rw [e2]
        simp only [Option.bind_some]
        rw [e3]
        simp only [Option.bind_some]
        rw [w64 (by omega : -4611686018427387904 ≤ ((e + 1 : Nat) : Int) - 1) (by omega), show ((e + 1 : Nat) : Int) - 1 = (e : Int) by omega, i4 k (by omega)]
        simp only [Option.bind_some]
        rw [if_pos (by omega), if_pos (by rw [size_app]; omega), if_pos (by rw [size_app, size_app]; omega), w64 (by omega) (by omega), show ((n + 1 : Nat) : Int) - 1 = (n : Int) by omega]
        exact g4 k (by omega)
theorem inner_ev {c : List Int} (hc : okCode c) : ∀ (d : Nat), d ≤ 3 → ∀ (a s n : Int), 0 ≤ a → a ≤ 2000000000000000000 + (3 - (d : Int)) * 1000000000000 → 0 ≤ n → n ≤ 60 → ∃ t a' s', t.size ≤ sO d ∧ a ≤ a' ∧ a' ≤ a + cO d ∧ ∃ K, ∀ k, K ≤ k → spec_l1Cur_inner.f k c a s n (d : Int) = some (t, a', s') := by
  intro d
  induction d with
  | zero =>
    intro hd a s n h0 h1 h2 h3
    obtain ⟨m, rfl⟩ := Int.eq_ofNat_of_zero_le h2
    obtain ⟨t, a', s', g1, g2, g3, K, g4⟩ := inner_l hc 0 hd (fun e h => by omega) m (⟨#[]⟩ : ByteArray) a s (by omega) h0 (by omega) (by simp [ByteArray.size]; omega)
    simp only [show (⟨#[]⟩ : ByteArray).size = 0 from rfl] at g1 g3
    refine ⟨t, a', s', by simp only [sO, xO] at *; omega, g2, by simp only [cO, yO] at *; omega, K + 1, fun k hk => ?_⟩
    obtain ⟨k, rfl⟩ : ∃ m, k = m + 1 := ⟨k - 1, by omega⟩
    simp only [spec_l1Cur_inner.f]
    exact g4 k (by omega)
  | succ d ih =>
    intro hd a s n h0 h1 h2 h3
    obtain ⟨m, rfl⟩ := Int.eq_ofNat_of_zero_le h2
    have hb := cO_le d (by omega)
    obtain ⟨t, a', s', g1, g2, g3, K, g4⟩ := inner_l hc (d + 1) hd (fun e h => by
      have : e = d := by omega
      subst this; exact ih (by omega)) m (⟨#[]⟩ : ByteArray) a s (by omega) h0 (by omega) (by simp [ByteArray.size]; omega)
    simp only [show (⟨#[]⟩ : ByteArray).size = 0 from rfl] at g1 g3
    refine ⟨t, a', s', ?_, g2, ?_, K + 1, fun k hk => ?_⟩
    · simp only [sO, xO] at *
      have := Nat.mul_le_mul_right (sO d + 10) (by omega : m ≤ 60)
      omega
    · simp only [cO, yO] at *
      have := Int.mul_le_mul_of_nonneg_right (by omega : (m : Int) ≤ 60) (by omega : 0 ≤ cO d + 10)
      omega
    · obtain ⟨k, rfl⟩ : ∃ m, k = m + 1 := ⟨k - 1, by omega⟩
      simp only [spec_l1Cur_inner.f]
      exact g4 k (by omega)
theorem ext_size (s : ByteArray) (i j : Nat) : (s.extract i j).size ≤ s.size := by rw [ByteArray.size_extract]; omega
theorem spoilt_l {c : List Int} (hc : okCode c) (w : ByteArray) (hw : 0 < w.size) (hw2 : w.size ≤ 1000) : ∀ (n : Nat) (t : ByteArray) (a s : Int), n ≤ 3 → 0 ≤ a → a ≤ 2000000000000000000 + (3 - (n : Int)) * 10 → t.size + n ≤ 100000000000 →
    ∃ t' a' s', t'.size ≤ t.size + n ∧ a ≤ a' ∧ a' ≤ a + 10 * n ∧ ∃ K, ∀ k, K ≤ k → spec_l1Cur_spoilt.l0 k t w (n : Int) c a s = some (t', a', s') := by
  intro n
  induction n with
  | zero =>
    intro t a s hn h0 h1 ht
    refine ⟨t, a, s, by omega, by omega, by omega, 2, fun k hk => ?_⟩
    obtain ⟨k, rfl⟩ : ∃ m, k = m + 2 := ⟨k - 2, by omega⟩
    simp only [spec_l1Cur_spoilt.l0]
    rw [if_neg (by omega)]
    simp only [spec_l1Cur_spoilt.j1]
    rw [if_neg (by simp)]
  | succ n ih =>
    intro t a s hn h0 h1 ht
    by_cases hz : t.size = 0
    · refine ⟨t, a, s, by omega, by omega, by omega, 2, fun k hk => ?_⟩
      obtain ⟨k, rfl⟩ : ∃ m, k = m + 2 := ⟨k - 2, by omega⟩
      simp only [spec_l1Cur_spoilt.l0]
      rw [if_pos (by omega)]
      simp only [spec_l1Cur_spoilt.j1]
      rw [if_neg (by rw [decide_eq_true_eq]; omega)]
    · obtain ⟨p1, a1, s1, e1, q1, q2, q3, q4⟩ := pick_ev hc a s (t.size : Int) (by omega) (by omega) (by omega) (by omega)
      obtain ⟨p2, a2, s2, e2, q5, q6, q7, q8⟩ := pick_ev hc a1 s1 (w.size : Int) (by omega) (by omega) (by omega) (by omega)
      obtain ⟨p3, a3, s3, e3, q9, q10, q11, q12⟩ := pick_ev hc a2 s2 3 (by omega) (by omega) (by omega) (by omega)
      have one1 : (strOfNums [bt w p2]).size = 1 := rfl
      have x1 : (t.extract 0 p1.toNat).size = p1.toNat := by rw [ByteArray.size_extract]; omega
      have x2 : (t.extract p1.toNat t.size).size = t.size - p1.toNat := by rw [ByteArray.size_extract]; omega
      have x3 : (t.extract (p1 + 1).toNat t.size).size = t.size - (p1 + 1).toNat := by rw [ByteArray.size_extract]; omega
      have go : ∀ u : ByteArray, u.size ≤ t.size + 1 → ∃ t' a' s', t'.size ≤ t.size + (n + 1) ∧ a ≤ a' ∧ a' ≤ a + 10 * ((n + 1 : Nat) : Int) ∧ ∃ K, ∀ k, K ≤ k → spec_l1Cur_spoilt.l0 k u w (n : Int) c a3 s3 = some (t', a', s') := by
        intro u hu
        obtain ⟨t', a', s', g1, g2, g3, g4⟩ := ih u a3 s3 (by omega) (by omega) (by omega) (by omega)
        exact ⟨t', a', s', by omega, by omega, by omega, g4⟩
      have hn1 : ((n + 1 : Nat) : Int) - 1 = (n : Int) := by omega
      by_cases c1 : p3 = 0
      · obtain ⟨t', a', s', g1, g2, g3, K, g4⟩ := go (t.extract 0 p1.toNat ++ strOfNums [bt w p2] ++ t.extract p1.toNat t.size) (by rw [size_app, size_app, x1, x2, one1]; omega)
        refine ⟨t', a', s', g1, g2, g3, K + 2, fun k hk => ?_⟩
        obtain ⟨k, rfl⟩ : ∃ m, k = m + 2 := ⟨k - 2, by omega⟩
        simp only [spec_l1Cur_spoilt.l0]
        rw [if_pos (by omega)]
        simp only [spec_l1Cur_spoilt.j1]
        rw [if_pos (by simp; omega), e1]
        simp only [Option.bind_some]
        rw [e2]
        simp only [Option.bind_some]
        rw [if_pos q5, if_pos q6, e3]
        simp only [Option.bind_some]
        rw [if_pos c1, if_pos q1, if_pos (by omega), if_pos (by omega), if_pos (by rw [size_app]; omega), w64 (by omega) (by omega), hn1]
        exact g4 k (by omega)
      · by_cases c2 : p3 = 1
        · obtain ⟨t', a', s', g1, g2, g3, K, g4⟩ := go (t.extract 0 p1.toNat ++ strOfNums [bt w p2] ++ t.extract (p1 + 1).toNat t.size) (by rw [size_app, size_app, x1, x3, one1]; omega)
          refine ⟨t', a', s', g1, g2, g3, K + 2, fun k hk => ?_⟩
          obtain ⟨k, rfl⟩ : ∃ m, k = m + 2 := ⟨k - 2, by omega⟩
          simp only [spec_l1Cur_spoilt.l0]
          rw [if_pos (by omega)]
          simp only [spec_l1Cur_spoilt.j1]
          rw [if_pos (by simp; omega), e1]
          simp only [Option.bind_some]
          rw [e2]
          simp only [Option.bind_some]
          rw [if_pos q5, if_pos q6, e3]
          simp only [Option.bind_some]
          have hp1 : wrap64 (p1 + 1) = p1 + 1 := w64 (by omega) (by omega)
          rw [if_neg c1, if_pos c2, if_pos q1, if_pos (by omega), if_pos (by omega), hp1, if_pos (by omega), if_pos (by omega), if_pos (by rw [size_app]; omega), w64 (by omega) (by omega), hn1]
          exact g4 k (by omega)
        · obtain ⟨t', a', s', g1, g2, g3, K, g4⟩ := go (t.extract 0 p1.toNat ++ t.extract (p1 + 1).toNat t.size) (by rw [size_app, x1, x3]; omega)
          refine ⟨t', a', s', g1, g2, g3, K + 2, fun k hk => ?_⟩
          obtain ⟨k, rfl⟩ : ∃ m, k = m + 2 := ⟨k - 2, by omega⟩
          simp only [spec_l1Cur_spoilt.l0]
          rw [if_pos (by omega)]
          simp only [spec_l1Cur_spoilt.j1]
          rw [if_pos (by simp; omega), e1]
          simp only [Option.bind_some]
          rw [e2]
          simp only [Option.bind_some]
          rw [if_pos q5, if_pos q6, e3]
          simp only [Option.bind_some]
          have hp1 : wrap64 (p1 + 1) = p1 + 1 := w64 (by omega) (by omega)
          simp only [hp1]
          simp (disch := omega) only [if_pos, if_neg, w64, hn1]
          exact g4 k (by omega)
theorem spoilt_ev {c : List Int} (hc : okCode c) (a s : Int) (t w : ByteArray) (hw : 0 < w.size) (hw2 : w.size ≤ 1000) (h0 : 0 ≤ a) (h1 : a ≤ 1900000000000000000) (ht : t.size ≤ 90000000000) :
    ∃ t' a' s', t'.size ≤ t.size + 3 ∧ a ≤ a' ∧ a' ≤ a + 50 ∧ ∃ K, ∀ k, K ≤ k → spec_l1Cur_spoilt.f k c a s t w = some (t', a', s') := by
  obtain ⟨p1, a1, s1, e1, q1, q2, q3, q4⟩ := pick_ev hc a s 3 (by omega) (by omega) (by omega) (by omega)
  obtain ⟨m, rfl⟩ := Int.eq_ofNat_of_zero_le q1
  obtain ⟨t', a', s', g1, g2, g3, K, g4⟩ := spoilt_l hc w hw hw2 m t a1 s1 (by omega) (by omega) (by omega) (by omega)
  refine ⟨t', a', s', by omega, by omega, by omega, K, fun k hk => ?_⟩
  unfold spec_l1Cur_spoilt.f
  rw [e1]
  exact g4 k hk
theorem doc0_ev {c : List Int} (hc : okCode c) (a s : Int) (t : ByteArray) (h0 : 0 ≤ a) (h1 : a ≤ 1800000000000000000) (ht : t.size ≤ 1000000000) :
    ∃ t' a' s', t'.size ≤ 1000000010 ∧ a ≤ a' ∧ a' ≤ a + 100 ∧ ∃ K, ∀ k, K ≤ k → spec_l1Cur_doc.j0 k t c a s = some (t', a', s') := by
  obtain ⟨r, a1, s1, e1, h2, h3⟩ := one_ev hc a s 12 (by omega) (by omega) (by omega) (by omega)
  cases r with
  | false =>
    refine ⟨t, a1, s1, by omega, by omega, by omega, 1, fun k hk => ?_⟩
    obtain ⟨k, rfl⟩ : ∃ m, k = m + 1 := ⟨k - 1, by omega⟩
    simp only [spec_l1Cur_doc.j0]
    rw [e1]; simp
  | true =>
    obtain ⟨t', a', s', g1, g2, g3, K, g4⟩ := spoilt_ev hc a1 s1 t (⟨#[65, 47, 97, 90]⟩ : ByteArray) (by decide) (by decide) (by omega) (by omega) (by omega)
    refine ⟨t', a', s', by omega, by omega, by omega, K + 1, fun k hk => ?_⟩
    obtain ⟨k, rfl⟩ : ∃ m, k = m + 1 := ⟨k - 1, by omega⟩
    simp only [spec_l1Cur_doc.j0]
    rw [e1]
    simp only [Option.bind_some, if_true]
    rw [g4 k (by omega)]; rfl
theorem doc_ev {c : List Int} (hc : okCode c) (a s : Int) (h0 : 0 ≤ a) (h1 : a ≤ 1700000000000000000) :
    ∃ t' a' s', t'.size ≤ 1000000010 ∧ a ≤ a' ∧ a' ≤ a + 2000000200 ∧ ∃ K, ∀ k, K ≤ k → spec_l1Cur_doc.f k c a s = some (t', a', s') := by
  have hb := cO_le 3 (by omega)
  have hs := sO_le 3 (by omega)
  obtain ⟨p1, a1, s1, e1, q1, q2, q3, q4⟩ := pick_ev hc a s 7 (by omega) (by omega) (by omega) (by omega)
  obtain ⟨t2, a2, s2, i1, i2, i3, K1, i4⟩ := inner_ev hc 3 (by omega) a1 s1 p1 (by omega) (by omega) (by omega) (by omega)
  obtain ⟨p3, a3, s3, e3, r1, r2, r3, r4⟩ := pick_ev hc a2 s2 30 (by omega) (by omega) (by omega) (by omega)
  by_cases c1 : p3 = 0
  · obtain ⟨t4, a4, s4, j1, j2, j3, K2, j4⟩ := inner_ev hc 3 (by omega) a3 s3 60 (by omega) (by omega) (by omega) (by omega)
    obtain ⟨t', a', s', g1, g2, g3, K, g4⟩ := doc0_ev hc a4 s4 t4 (by omega) (by omega) (by omega)
    refine ⟨t', a', s', g1, by omega, by omega, max (max K K1) K2, fun k hk => ?_⟩
    unfold spec_l1Cur_doc.f
    have e5 := i4 k (by omega)
    have e6 := j4 k (by omega)
    have e7 := g4 k (by omega)
    simp only [Int.cast_ofNat_Int] at e5 e6
    rw [e1]; simp only [Option.bind_some]
    rw [e5]; simp only [Option.bind_some]
    rw [e3]; simp only [Option.bind_some]
    rw [if_pos c1, e6]; simp only [Option.bind_some]
    exact e7
  · by_cases c2 : p3 = 1
    · obtain ⟨u, a4, s4, e4, _, hu, h4, h5⟩ := of_ev hc a3 s3 ([(⟨#[65, 65, 65, 65, 65, 65, 65, 65, 65, 65, 65, 65, 47, 47, 47, 47, 47, 47, 47, 47, 47, 47, 47, 47]⟩ : ByteArray), (⟨#[65, 65, 65, 65, 65, 65, 65, 65, 65, 65, 65, 65, 65, 47, 47, 47, 47, 47, 47, 47, 47, 47, 47, 47, 47, 47]⟩ : ByteArray)] : List ByteArray) 30 (by omega) (by omega) (by simp) (by simp) (by decide)
      obtain ⟨t', a', s', g1, g2, g3, K, g4⟩ := doc0_ev hc a4 s4 u (by omega) (by omega) (by omega)
      refine ⟨t', a', s', g1, by omega, by omega, max K K1, fun k hk => ?_⟩
      unfold spec_l1Cur_doc.f
      have e5 := i4 k (by omega)
      have e7 := g4 k (by omega)
      simp only [Int.cast_ofNat_Int] at e5
      rw [e1]; simp only [Option.bind_some]
      rw [e5]; simp only [Option.bind_some]
      rw [e3]; simp only [Option.bind_some]
      rw [if_neg c1, if_pos c2, e4]; simp only [Option.bind_some]
      exact e7
    · obtain ⟨t', a', s', g1, g2, g3, K, g4⟩ := doc0_ev hc a3 s3 t2 (by omega) (by omega) (by omega)
      refine ⟨t', a', s', g1, by omega, by omega, max K K1, fun k hk => ?_⟩
      unfold spec_l1Cur_doc.f
      have e5 := i4 k (by omega)
      have e7 := g4 k (by omega)
      simp only [Int.cast_ofNat_Int] at e5
      rw [e1]; simp only [Option.bind_some]
      rw [e5]; simp only [Option.bind_some]
      rw [e3]; simp only [Option.bind_some]
      rw [if_neg c1, if_neg c2]
      exact e7
theorem plainText_ev {c : List Int} (hc : okCode c) (a s : Int) (h0 : 0 ≤ a) (h1 : a ≤ 1600000000000000000) :
    ∃ t' a' s', t'.size ≤ 1000000010 ∧ a ≤ a' ∧ a' ≤ a + 2000000300 ∧ ∃ K, ∀ k, K ≤ k → spec_l1Cur_plainText.f k c a s = some (t', a', s') := by
  obtain ⟨t, a1, s1, g1, g2, g3, K, g4⟩ := doc_ev hc a s h0 (by omega)
  obtain ⟨K2, h2⟩ := spec_GoodText_ev t (by omega)
  have lit4 : ((⟨#[116, 101, 120, 116]⟩ : ByteArray)).size = 4 := rfl
  cases hg : textB t with
  | false =>
    refine ⟨(⟨#[116, 101, 120, 116]⟩ : ByteArray), a1, s1, by omega, by omega, by omega, max K K2, fun k hk => ?_⟩
    unfold spec_l1Cur_plainText.f
    rw [g4 k (by omega)]; simp only [Option.bind_some]
    rw [h2 k (by omega), hg]; simp only [Option.bind_some]
    rw [if_neg (by simp), if_neg (by omega)]
  | true =>
    by_cases c1 : (t.size : Int) > 40
    · obtain ⟨r, a2, s2, e2, q1, q2⟩ := one_ev hc a1 s1 20 (by omega) (by omega) (by omega) (by omega)
      cases r with
      | true =>
        refine ⟨t, a2, s2, by omega, by omega, by omega, max K K2, fun k hk => ?_⟩
        unfold spec_l1Cur_plainText.f
        rw [g4 k (by omega)]; simp only [Option.bind_some]
        rw [h2 k (by omega), hg]; simp only [Option.bind_some]
        rw [if_pos trivial, if_pos c1, e2]; simp
      | false =>
        have := ext_size t 0 40
        refine ⟨t.extract 0 40, a2, s2, by omega, by omega, by omega, max K K2, fun k hk => ?_⟩
        unfold spec_l1Cur_plainText.f
        rw [g4 k (by omega)]; simp only [Option.bind_some]
        rw [h2 k (by omega), hg]; simp only [Option.bind_some]
        rw [if_pos trivial, if_pos c1, e2]; simp only [Option.bind_some]
        rw [if_neg (by simp), if_pos (by omega), if_pos (by omega)]
    · refine ⟨t, a1, s1, by omega, by omega, by omega, max K K2, fun k hk => ?_⟩
      unfold spec_l1Cur_plainText.f
      rw [g4 k (by omega)]; simp only [Option.bind_some]
      rw [h2 k (by omega), hg]; simp only [Option.bind_some]
      rw [if_pos trivial, if_neg c1]

theorem ab_l {c : List Int} (hc : okCode c) : ∀ (n : Nat) (t : ByteArray) (a s : Int), n ≤ 24 → 0 ≤ a → a ≤ 1500000000000000000 + (24 - (n : Int)) * 10 → t.size + 2 * n ≤ 1000 →
    ∃ t' a' s', t'.size ≤ 1000 ∧ a ≤ a' ∧ a' ≤ a + 10 * (n : Int) ∧ ∃ K, ∀ k, K ≤ k → spec_l1Cur_ab.l0 k t (n : Int) c a s = some (t', a', s') := by
  intro n
  induction n with
  | zero =>
    intro t a s hn h0 h1 ht
    refine ⟨t, a, s, by omega, by omega, by omega, 1, fun k hk => ?_⟩
    obtain ⟨k, rfl⟩ : ∃ m, k = m + 1 := ⟨k - 1, by omega⟩
    simp only [spec_l1Cur_ab.l0]
    rw [if_neg (by omega)]
  | succ n ih =>
    intro t a s hn h0 h1 ht
    obtain ⟨u, a1, s1, e, _, hu, h4, h5⟩ := of_ev hc a s ([(⟨#[97]⟩ : ByteArray), (⟨#[98]⟩ : ByteArray), (⟨#[97]⟩ : ByteArray), (⟨#[97, 97]⟩ : ByteArray), (⟨#[97, 98]⟩ : ByteArray)] : List ByteArray) 2 (by omega) (by omega) (by simp) (by simp) (by decide)
    obtain ⟨t', a', s', g1, g2, g3, K, g4⟩ := ih (t ++ u) a1 s1 (by omega) (by omega) (by omega) (by rw [size_app]; omega)
    refine ⟨t', a', s', g1, by omega, by omega, K + 1, fun k hk => ?_⟩
    obtain ⟨k, rfl⟩ : ∃ m, k = m + 1 := ⟨k - 1, by omega⟩
    simp only [spec_l1Cur_ab.l0]
    rw [if_pos (by omega), e]
    simp only [Option.bind_some]
    rw [if_pos (by omega), w64 (by omega) (by omega), show ((n + 1 : Nat) : Int) - 1 = (n : Int) by omega]
    exact g4 k (by omega)
theorem ab_ev {c : List Int} (hc : okCode c) (a s : Int) (h0 : 0 ≤ a) (h1 : a ≤ 1400000000000000000) :
    ∃ t' a' s', t'.size ≤ 1000 ∧ a ≤ a' ∧ a' ≤ a + 300 ∧ ∃ K, ∀ k, K ≤ k → spec_l1Cur_ab.f k c a s = some (t', a', s') := by
  obtain ⟨p1, a1, s1, e1, q1, q2, q3, q4⟩ := pick_ev hc a s 24 (by omega) (by omega) (by omega) (by omega)
  obtain ⟨m, rfl⟩ := Int.eq_ofNat_of_zero_le q1
  obtain ⟨t', a', s', g1, g2, g3, K, g4⟩ := ab_l hc m (⟨#[]⟩ : ByteArray) a1 s1 (by omega) (by omega) (by omega) (by simp [ByteArray.size]; omega)
  refine ⟨t', a', s', g1, by omega, by omega, K, fun k hk => ?_⟩
  unfold spec_l1Cur_ab.f
  rw [e1]
  exact g4 k hk
theorem sought2_ev {c : List Int} (hc : okCode c) (a s : Int) (h0 : 0 ≤ a) (h1 : a ≤ 1400000000000000000) (x y : ByteArray) (hx : x.size ≤ 2000000000) (hy : y.size ≤ 2000000000) :
    ∃ p t a' s', p.size ≤ 2000000000 ∧ t.size ≤ 2000000000 ∧ a ≤ a' ∧ a' ≤ a + 10 ∧ ∃ K, ∀ k, K ≤ k → spec_l1Cur_sought.j2 k x y c a s = some (p, t, a', s') := by
  obtain ⟨r, a1, s1, e1, h2, h3⟩ := one_ev hc a s 30 (by omega) (by omega) (by omega) (by omega)
  cases r with
  | false =>
    refine ⟨y, x, a1, s1, hy, hx, by omega, by omega, 1, fun k hk => ?_⟩
    obtain ⟨k, rfl⟩ : ∃ m, k = m + 1 := ⟨k - 1, by omega⟩
    simp only [spec_l1Cur_sought.j2]
    rw [e1]; simp
  | true =>
    obtain ⟨u, a2, s2, e, _, hu, h4, h5⟩ := of_ev hc a1 s1 ([(⟨#[]⟩ : ByteArray), (⟨#[90]⟩ : ByteArray)] : List ByteArray) 2 (by omega) (by omega) (by simp) (by simp) (by decide)
    refine ⟨u, x, a2, s2, by omega, hx, by omega, by omega, 1, fun k hk => ?_⟩
    obtain ⟨k, rfl⟩ : ∃ m, k = m + 1 := ⟨k - 1, by omega⟩
    simp only [spec_l1Cur_sought.j2]
    rw [e1]
    simp only [Option.bind_some, if_true]
    rw [e]; rfl
theorem sought1_ev {c : List Int} (hc : okCode c) (a s : Int) (h0 : 0 ≤ a) (h1 : a ≤ 1300000000000000000) (x y : ByteArray) (b : Bool) (hb : b = true → 0 < x.size) (hx : x.size ≤ 2000000000) (hy : y.size ≤ 2000000000) :
    ∃ p t a' s', p.size ≤ 2000000000 ∧ t.size ≤ 2000000000 ∧ a ≤ a' ∧ a' ≤ a + 20 ∧ ∃ K, ∀ k, K ≤ k → spec_l1Cur_sought.j1 k x y b c a s = some (p, t, a', s') := by
  cases b with
  | false =>
    obtain ⟨p, t, a', s', g1, g2, g3, g4, K, g5⟩ := sought2_ev hc a s h0 (by omega) x y hx hy
    refine ⟨p, t, a', s', g1, g2, g3, by omega, K + 1, fun k hk => ?_⟩
    obtain ⟨k, rfl⟩ : ∃ m, k = m + 1 := ⟨k - 1, by omega⟩
    simp only [spec_l1Cur_sought.j1]
    rw [if_neg (by simp)]
    exact g5 k (by omega)
  | true =>
    have hb := hb rfl
    obtain ⟨p1, a1, s1, e1, q1, q2, q3, q4⟩ := pick_ev hc a s (x.size : Int) (by omega) (by omega) (by omega) (by omega)
    obtain ⟨p2, a2, s2, e2, q5, q6, q7, q8⟩ := pick_ev hc a1 s1 5 (by omega) (by omega) (by omega) (by omega)
    by_cases c1 : 1 + p2 > (x.size : Int) - p1
    · have := ext_size x p1.toNat (p1 + ((x.size : Int) - p1)).toNat
      obtain ⟨p, t, a', s', g1, g2, g3, g4, K, g5⟩ := sought2_ev hc a2 s2 (by omega) (by omega) x (x.extract p1.toNat (p1 + ((x.size : Int) - p1)).toNat) hx (by omega)
      refine ⟨p, t, a', s', g1, g2, by omega, by omega, K + 1, fun k hk => ?_⟩
      obtain ⟨k, rfl⟩ : ∃ m, k = m + 1 := ⟨k - 1, by omega⟩
      simp only [spec_l1Cur_sought.j1, if_true]
      rw [e1]; simp only [Option.bind_some]
      rw [e2]; simp only [Option.bind_some]
      simp (disch := omega) only [w64, if_pos]
      exact g5 k (by omega)
    · have := ext_size x p1.toNat (p1 + (1 + p2)).toNat
      obtain ⟨p, t, a', s', g1, g2, g3, g4, K, g5⟩ := sought2_ev hc a2 s2 (by omega) (by omega) x (x.extract p1.toNat (p1 + (1 + p2)).toNat) hx (by omega)
      refine ⟨p, t, a', s', g1, g2, by omega, by omega, K + 1, fun k hk => ?_⟩
      obtain ⟨k, rfl⟩ : ∃ m, k = m + 1 := ⟨k - 1, by omega⟩
      simp only [spec_l1Cur_sought.j1, if_true]
      rw [e1]; simp only [Option.bind_some]
      rw [e2]; simp only [Option.bind_some]
      simp (disch := omega) only [w64, if_pos, if_neg]
      exact g5 k (by omega)
theorem sought0_ev {c : List Int} (hc : okCode c) (a s : Int) (h0 : 0 ≤ a) (h1 : a ≤ 1200000000000000000) (x : ByteArray) (hx : x.size ≤ 2000000000) :
    ∃ p t a' s', p.size ≤ 2000000000 ∧ t.size ≤ 2000000000 ∧ a ≤ a' ∧ a' ≤ a + 40 ∧ ∃ K, ∀ k, K ≤ k → spec_l1Cur_sought.j0 k x c a s = some (p, t, a', s') := by
  obtain ⟨u, a1, s1, e, _, hu, h4, h5⟩ := of_ev hc a s ([(⟨#[97]⟩ : ByteArray), (⟨#[97, 98]⟩ : ByteArray), (⟨#[97, 97]⟩ : ByteArray), (⟨#[97, 98, 97]⟩ : ByteArray), (⟨#[97, 98, 97, 98]⟩ : ByteArray), (⟨#[120]⟩ : ByteArray), (⟨#[65]⟩ : ByteArray)] : List ByteArray) 4 (by omega) (by omega) (by simp) (by simp) (by decide)
  by_cases c1 : (x.size : Int) > 0
  · obtain ⟨r, a2, s2, e2, h2, h3⟩ := one_ev hc a1 s1 2 (by omega) (by omega) (by omega) (by omega)
    obtain ⟨p, t, a', s', g1, g2, g3, g4, K, g5⟩ := sought1_ev hc a2 s2 (by omega) (by omega) x u r (fun _ => by omega) hx (by omega)
    refine ⟨p, t, a', s', g1, g2, by omega, by omega, K + 1, fun k hk => ?_⟩
    obtain ⟨k, rfl⟩ : ∃ m, k = m + 1 := ⟨k - 1, by omega⟩
    simp only [spec_l1Cur_sought.j0]
    rw [e]; simp only [Option.bind_some]
    rw [if_pos c1, e2]; simp only [Option.bind_some]
    exact g5 k (by omega)
  · obtain ⟨p, t, a', s', g1, g2, g3, g4, K, g5⟩ := sought1_ev hc a1 s1 (by omega) (by omega) x u false (by simp) hx (by omega)
    refine ⟨p, t, a', s', g1, g2, by omega, by omega, K + 1, fun k hk => ?_⟩
    obtain ⟨k, rfl⟩ : ∃ m, k = m + 1 := ⟨k - 1, by omega⟩
    simp only [spec_l1Cur_sought.j0]
    rw [e]; simp only [Option.bind_some]
    rw [if_neg c1]
    exact g5 k (by omega)
theorem sought_ev {c : List Int} (hc : okCode c) (a s : Int) (h0 : 0 ≤ a) (h1 : a ≤ 1000000000000000000) :
    ∃ p t a' s', p.size ≤ 2000000000 ∧ t.size ≤ 2000000000 ∧ a ≤ a' ∧ a' ≤ a + 3000000000 ∧ ∃ K, ∀ k, K ≤ k → spec_l1Cur_sought.f k c a s = some (p, t, a', s') := by
  obtain ⟨t1, a1, s1, x1, x2, x3, K1, x4⟩ := ab_ev hc a s h0 (by omega)
  obtain ⟨r, a2, s2, e2, h2, h3⟩ := one_ev hc a1 s1 4 (by omega) (by omega) (by omega) (by omega)
  cases r with
  | true =>
    obtain ⟨t3, a3, s3, y1, y2, y3, K2, y4⟩ := plainText_ev hc a2 s2 (by omega) (by omega)
    obtain ⟨p, t, a', s', g1, g2, g3, g4, K, g5⟩ := sought0_ev hc a3 s3 (by omega) (by omega) t3 (by omega)
    refine ⟨p, t, a', s', g1, g2, by omega, by omega, max K (max K1 K2), fun k hk => ?_⟩
    unfold spec_l1Cur_sought.f
    rw [x4 k (by omega)]; simp only [Option.bind_some]
    rw [e2]; simp only [Option.bind_some, if_true]
    rw [y4 k (by omega)]; simp only [Option.bind_some]
    exact g5 k (by omega)
  | false =>
    obtain ⟨p, t, a', s', g1, g2, g3, g4, K, g5⟩ := sought0_ev hc a2 s2 (by omega) (by omega) t1 (by omega)
    refine ⟨p, t, a', s', g1, g2, by omega, by omega, max K K1, fun k hk => ?_⟩
    unfold spec_l1Cur_sought.f
    rw [x4 k (by omega)]; simp only [Option.bind_some]
    rw [e2]; simp only [Option.bind_some]
    rw [if_neg (by simp)]
    exact g5 k (by omega)

theorem sameOps_l (l : List S74) (hl : l.length ≤ 3518437208780) : ∀ (d i : Nat), i + d = l.length → ∃ K, ∀ k, K ≤ k → laws_sameOps.l0 k l l (l.length : Int) (i : Int) = some true := by
  intro d
  induction d with
  | zero =>
    intro i hi
    refine ⟨1, fun k hk => ?_⟩
    obtain ⟨k, rfl⟩ : ∃ m, k = m + 1 := ⟨k - 1, by omega⟩
    simp only [laws_sameOps.l0]
    rw [if_neg (by omega)]
  | succ d ih =>
    intro i hi
    obtain ⟨K, hK⟩ := ih (i + 1) (by omega)
    refine ⟨K + 1, fun k hk => ?_⟩
    obtain ⟨k, rfl⟩ : ∃ m, k = m + 1 := ⟨k - 1, by omega⟩
    simp only [laws_sameOps.l0]
    rw [if_pos (by omega), if_pos (by omega), if_pos (by omega), if_pos (by omega), if_neg (by simp), w64 (by omega) (by omega), show ((i : Int) + 1) = ((i + 1 : Nat) : Int) by omega]
    exact hK k (by omega)
theorem sameOps_ev (l : List S74) (hl : l.length ≤ 3518437208780) : ∃ K, ∀ k, K ≤ k → laws_sameOps.f k l l = some true := by
  obtain ⟨K, hK⟩ := sameOps_l l hl l.length 0 (by omega)
  exact ⟨K, fun k hk => by unfold laws_sameOps.f; rw [if_pos rfl]; exact hK k hk⟩
theorem drawRep_ev {c : List Int} (hc : okCode c) : ∃ s p w : ByteArray, s.size ≤ 10000000000 ∧ p.size ≤ 10000000000 ∧ w.size ≤ 10000000000 ∧ ∃ K, ∀ k, K ≤ k → spec_DrawReplaceAll.f k c = some (s, p, w) := by
  obtain ⟨p, s, a', s', h1, h2, h3, h4, K, hK⟩ := sought_ev hc 0 0 (by omega) (by omega)
  obtain ⟨w, a2, s2, e1, e2, e3, _, _⟩ := of_ev hc a' s' [(⟨#[]⟩ : ByteArray), (⟨#[120]⟩ : ByteArray), (⟨#[97, 98]⟩ : ByteArray), (⟨#[108, 111, 110, 103, 32, 116, 101, 120, 116]⟩ : ByteArray), p] 10000000000 (by omega) (by omega) (by simp) (by simp) (by
    intro x hx
    simp only [List.mem_cons, List.not_mem_nil, or_false] at hx
    rcases hx with rfl | rfl | rfl | rfl | rfl
    · exact Nat.zero_le _
    · show 1 ≤ _; omega
    · show 2 ≤ _; omega
    · show 9 ≤ _; omega
    · omega)
  refine ⟨s, p, w, by omega, by omega, e3, K, fun k hk => ?_⟩
  simp only [spec_DrawReplaceAll.f, hK k hk, Option.bind_some, e1]
theorem FnReplaced : laws_FnReplaced.Pure := by
  intro l hl hb hw0
  have hc := okCode_of hw0
  by_cases hbig : (l.length : Int) > 1048576
  · refine ⟨0, ?_⟩
    unfold laws_FnReplaced.f
    rw [if_pos hbig]
  · obtain ⟨s, p, w, zs, zp, zw, K1, h1⟩ := drawRep_ev hc
    obtain ⟨r, ⟨K2, h2⟩, ⟨K3, h3⟩, hr⟩ := both_RA s p w (by omega) (by omega) (by omega)
    obtain ⟨r', ⟨K4, h4⟩, _, hr'⟩ := both_RA s p p (by omega) (by omega) (by omega)
    obtain ⟨L, ok, hL, hlen, ⟨K5, h5⟩, hap⟩ := both_RO s p w (by omega) (by omega) (by omega)
    obtain ⟨K6, h6⟩ := sameOps_ev L hL.1
    have core : ∃ K, ∀ k, K ≤ k → laws_FnReplaced.j0 (k + 1) s p w r.1 r.2.1 r.2.2 L ok false = some true := by
      by_cases hgood : 0 < p.size ∧ ((textB p && textB s) && textB w) = true
      · rw [if_pos hgood] at hr
        have hg2 := hgood.2
        simp only [Bool.and_eq_true] at hg2
        obtain ⟨⟨tp, ts⟩, tw⟩ := hg2
        have hsp := textB_size tp
        have hss := textB_size ts
        have hsw := textB_size tw
        rw [if_pos ⟨hgood.1, by rw [tp, ts]; rfl⟩] at hr'
        obtain ⟨N, n1, n2, n3⟩ := occs_nat p s s.size (Nat.le_refl _)
        have hkz : kz s p = apN p.size 0 N := by unfold kz; rw [n1, toNat_map]
        have hch := ch_ap s p N 0 (Nat.zero_le _) n3
        have hal := apN_len p.size N 0
        rw [← hkz] at hch hal
        have hTs := T_size s p w (kz s p) 0 hch
        have hTp := T_same s p (kz s p) 0 hch
        rw [ba_extract_all] at hTp
        unfold raR at hr hr'
        rw [hTp, if_pos hss] at hr'
        by_cases hfit : (T s w p.size 0 (kz s p)).size ≤ 300
        · rw [if_pos hfit] at hr
          subst hr hr'
          have hcw : (kz s p).length * w.size ≤ 300 * 300 := Nat.mul_le_mul (by omega) hsw
          have hcp : (kz s p).length * p.size ≤ 300 * 300 := Nat.mul_le_mul (by omega) hsp
          have hprod : ((kz s p).length : Int) * ((w.size : Int) - (p.size : Int)) = (((kz s p).length * w.size : Nat) : Int) - (((kz s p).length * p.size : Nat) : Int) := by rw [Int.mul_sub]; simp
          have hsz : Aside0 (((T s w p.size 0 (kz s p)).size : Int) = wrap64 ((s.size : Int) + wrap64 (((kz s p).length : Int) * wrap64 ((w.size : Int) - (p.size : Int))))) := ⟨by
            rw [w64 (i := (w.size : Int) - (p.size : Int)) (by omega) (by omega), hprod, w64 (i := (((kz s p).length * w.size : Nat) : Int) - (((kz s p).length * p.size : Nat) : Int)) (by omega) (by omega), w64 (by omega) (by omega)]
            omega⟩
          cases hok : ok with
          | false =>
            refine ⟨K4, fun k hk => ?_⟩
            rw [laws_FnReplaced.j0, if_neg (by simp), if_pos rfl, if_neg (by simp), h4 k hk, Option.bind_some, if_pos hsz.out, if_pos rfl, if_pos rfl]
            simp
          | true =>
            obtain ⟨_, _, K7, h7⟩ := hap hok
            refine ⟨K4 + K7, fun k hk => ?_⟩
            rw [laws_FnReplaced.j0, if_neg (by simp), if_pos rfl, if_pos rfl, h7 k (by omega), Option.bind_some, if_pos rfl, if_pos rfl, h4 k (by omega), Option.bind_some, if_pos hsz.out, if_pos rfl, if_pos rfl]
            simp
        · rw [if_neg hfit] at hr
          subst hr
          exact ⟨0, fun k hk => by rw [laws_FnReplaced.j0, if_neg (by simp), if_neg (by simp), nil_toList]; rfl⟩
      · rw [if_neg hgood] at hr
        subst hr
        exact ⟨0, fun k hk => by rw [laws_FnReplaced.j0, if_neg (by simp), if_neg (by simp), nil_toList]; rfl⟩
    obtain ⟨K8, h8⟩ := core
    refine ⟨K1 + K2 + K3 + K5 + K6 + K8 + 1, ?_⟩
    generalize hk : K1 + K2 + K3 + K5 + K6 + K8 = k
    have e1 := h1 (k + 1) (by omega)
    have e2 := h2 (k + 1) (by omega)
    have e3 := h3 (k + 1) (by omega)
    have e5 := h5 (k + 1) (by omega)
    have e6 := h6 (k + 1) (by omega)
    have e8 := h8 k (by omega)
    clear h1 h2 h3 h4 h5 h6 h8 hk
    unfold laws_FnReplaced.f
    rw [if_neg hbig, e1, Option.bind_some]
    dsimp only
    rw [e2, Option.bind_some, e3, Option.bind_some, e5.1, Option.bind_some, e5.2, Option.bind_some]
    dsimp only
    rw [bne_self_eq_false, if_neg (by simp), if_pos rfl, if_pos rfl, bne_self_eq_false, if_neg (by simp), e6, Option.bind_some]
    exact e8

end Go.Proofs.Ytpbelbckinpinaa.Pure
