/- A border is one, no longer one is, and a text goes on with its period, for drawn texts. -/
import Derived.Test.YtibedlbjkaikiaaAFnBordersx7
set_option linter.unusedVariables false
set_option linter.unusedSimpArgs false
namespace Go.Proofs.Ytibedlbjkaikiaa.Pure
open Go.RowKit Go.Proofs.Ytibedlbjkaikiaa.AFnBorders Go.Proofs.YtibedlbjkaikiaaW.PrintWords Go.Proofs.YtibedlbjkaikiaaW.PrintLast Go.Proofs.YtibedlbjkaikiaaW.PrintMore

theorem w64 {i : Int} (h0 : -4611686018427387904 ≤ i) (h : i ≤ 4611686018427387904) : wrap64 i = i := by
  unfold wrap64; omega

def nmB (c : Int) : Bool := decide (65 ≤ c) && decide (c ≤ 70)
def plB (c : Int) : Bool := (decide (97 ≤ c) && decide (c ≤ 122)) || ((decide (48 ≤ c) && decide (c ≤ 57)) || (decide (c = 32) || (decide (c = 46) || decide (c = 44))))
def okB (c : Int) : Bool := nmB c || (plB c || decide (c = 47))
def okN (s : ByteArray) : Nat → Nat → Bool
  | 0, _ => true
  | d + 1, i => okB (bt s i) && okN s d (i + 1)
def textB (s : ByteArray) : Bool := okN s s.size 0 && decide (s.size ≤ 300)

theorem textB_size {s : ByteArray} (h : textB s = true) : s.size ≤ 300 := by
  unfold textB at h; simp at h; exact h.2

theorem impl_isName_eq (c : Int) : impl_isName.f c = some (nmB c) := by
  unfold impl_isName.f nmB
  by_cases h1 : c ≥ 65 <;> simp [h1] <;> omega
theorem impl_isPlain_eq (c : Int) : impl_isPlain.f c = some (plB c) := by
  unfold impl_isPlain.f plB
  by_cases h1 : 97 ≤ c <;> by_cases h2 : c ≤ 122 <;> by_cases h3 : 48 ≤ c <;> by_cases h4 : c ≤ 57 <;> by_cases h5 : c = 32 <;> by_cases h6 : c = 46 <;> simp [h1, h2, h3, h4, h5, h6] <;> rfl
theorem impl_GoodText_l (s : ByteArray) (hs : s.size ≤ 140737488351232) : ∀ (d i : Nat), i + d = s.size →
    ∃ K, ∀ k, K ≤ k → impl_GoodText.l0 k s (s.size : Int) (i : Int) = some (okN s d i && decide (s.size ≤ 300)) := by
  intro d
  induction d with
  | zero =>
    intro i hi
    refine ⟨1, fun k hk => ?_⟩
    obtain ⟨k, rfl⟩ : ∃ m, k = m + 1 := ⟨k - 1, by omega⟩
    simp only [impl_GoodText.l0]
    rw [if_neg (by omega)]
    simp [okN]
    omega
  | succ d ih =>
    intro i hi
    obtain ⟨K, hK⟩ := ih (i + 1) (by omega)
    refine ⟨K + 1, fun k hk => ?_⟩
    obtain ⟨k, rfl⟩ : ∃ m, k = m + 1 := ⟨k - 1, by omega⟩
    have hr := hK k (by omega)
    simp only [impl_GoodText.l0]
    rw [if_pos (by omega), if_pos (by omega), if_pos (by omega), impl_isName_eq, Option.bind_some, impl_isPlain_eq, Option.bind_some, w64 (by omega) (by omega)]
    have hc : ((i : Int) + 1) = ((i + 1 : Nat) : Int) := by omega
    rw [hc, hr]
    show _ = some ((okB (bt s i) && okN s d (i + 1)) && _)
    unfold okB
    cases nmB (bt s i) <;> cases plB (bt s i) <;> by_cases h : bt s i = 47 <;> simp [h]
theorem impl_GoodText_ev (s : ByteArray) (hs : s.size ≤ 140737488351232) : ∃ K, ∀ k, K ≤ k → impl_GoodText.f k s = some (textB s) := by
  obtain ⟨K, hK⟩ := impl_GoodText_l s hs s.size 0 (by omega)
  exact ⟨K, fun k hk => by unfold impl_GoodText.f; exact hK k hk⟩

theorem spec_l1Open_eq (c : Int) : spec_l1Open.f c = some (nmB c) := by
  unfold spec_l1Open.f nmB
  by_cases h1 : c ≥ 65 <;> simp [h1] <;> omega
theorem spec_l1Plain_eq (c : Int) : spec_l1Plain.f c = some (plB c) := by
  unfold spec_l1Plain.f plB
  by_cases h1 : 97 ≤ c <;> by_cases h2 : c ≤ 122 <;> by_cases h3 : 48 ≤ c <;> by_cases h4 : c ≤ 57 <;> by_cases h5 : c = 32 <;> by_cases h6 : c = 46 <;> simp [h1, h2, h3, h4, h5, h6] <;> rfl
theorem spec_l1Text_l (s : ByteArray) (hs : s.size ≤ 140737488351232) : ∀ (d i : Nat), i + d = s.size →
    ∃ K, ∀ k, K ≤ k → spec_l1Text.l0 k s (i : Int) = some (okN s d i) := by
  intro d
  induction d with
  | zero =>
    intro i hi
    refine ⟨1, fun k hk => ?_⟩
    obtain ⟨k, rfl⟩ : ∃ m, k = m + 1 := ⟨k - 1, by omega⟩
    simp only [spec_l1Text.l0]
    rw [if_neg (by omega)]
    simp [okN]
  | succ d ih =>
    intro i hi
    obtain ⟨K, hK⟩ := ih (i + 1) (by omega)
    refine ⟨K + 1, fun k hk => ?_⟩
    obtain ⟨k, rfl⟩ : ∃ m, k = m + 1 := ⟨k - 1, by omega⟩
    have hr := hK k (by omega)
    simp only [spec_l1Text.l0]
    rw [if_pos (by omega), if_pos (by omega), spec_l1Open_eq, Option.bind_some, spec_l1Plain_eq, Option.bind_some, w64 (by omega) (by omega)]
    have hc : ((i : Int) + 1) = ((i + 1 : Nat) : Int) := by omega
    rw [hc, hr]
    show _ = some (okB (bt s i) && okN s d (i + 1))
    unfold okB
    cases nmB (bt s i) <;> cases plB (bt s i) <;> by_cases h : bt s i = 47 <;> simp [h]
theorem spec_GoodText_ev (s : ByteArray) (hs : s.size ≤ 140737488351232) : ∃ K, ∀ k, K ≤ k → spec_GoodText.f k s = some (textB s) := by
  obtain ⟨K, hK⟩ := spec_l1Text_l s hs s.size 0 (by omega)
  refine ⟨K, fun k hk => ?_⟩
  have h := hK k hk
  unfold spec_GoodText.f spec_l1Text.f
  simp only [Int.cast_ofNat_Int] at h
  rw [h, Option.bind_some]
  unfold textB
  cases okN s s.size 0 <;> simp <;> omega

theorem toList_length (s : ByteArray) : s.toList.length = s.size := by
  have h : ∀ (n i : Nat) (r : List UInt8), s.size - i = n → (ByteArray.toList.loop s i r).length = r.length + n := by
    intro n
    induction n with
    | zero => intro i r h; unfold ByteArray.toList.loop; rw [if_neg (by omega)]; simp
    | succ n ih => intro i r h; unfold ByteArray.toList.loop; rw [if_pos (by omega), ih (i + 1) _ (by omega)]; simp; omega
  unfold ByteArray.toList
  rw [h s.size 0 [] (by omega)]; simp
theorem toList_nil (s : ByteArray) : s.toList = [] ↔ s.size = 0 := by
  rw [← toList_length s]; exact List.length_eq_zero_iff.symm
theorem rd_set {bs : List Int} {i : Nat} {v : Int} (h : i < bs.length) (j : Nat) : rd (bs.set i v) (j : Int) = if j = i then v else rd bs (j : Int) := by
  unfold rd
  simp only [Int.toNat_natCast, List.getD_eq_getElem?_getD]
  by_cases e : j = i
  · subst e; simp [h]
  · rw [List.getElem?_set_ne (by omega)]; simp [e]
def fallM (s : ByteArray) (x : Int) (bs : List Int) : Nat → Int → Int
  | 0, n => n
  | d + 1, n => if 0 < n ∧ ¬ bt s n = x then fallM s x bs d (rd bs (n - 1)) else n
def stepM (s : ByteArray) (x : Int) (n : Int) : Int := if bt s n = x then n + 1 else n
def bordM (s : ByteArray) (bs : List Int) (i : Nat) : Int := stepM s (bt s i) (fallM s (bt s i) bs i (rd bs ((i : Int) - 1)))
def bordsM (s : ByteArray) : Nat → Nat → List Int → List Int
  | 0, _, bs => bs
  | d + 1, i, bs => bordsM s d (i + 1) (bs.set i (bordM s bs i))
def InvM (bs : List Int) (i : Nat) : Prop := ∀ j : Nat, j < i → 0 ≤ rd bs (j : Int) ∧ rd bs (j : Int) ≤ j
theorem InvM.sub {bs : List Int} {i : Nat} (h : InvM bs i) {n : Int} (h0 : 0 < n) (h1 : n ≤ i) : 0 ≤ rd bs (n - 1) ∧ rd bs (n - 1) ≤ n - 1 := by
  have := h (n - 1).toNat (by omega)
  rw [show (((n - 1).toNat : Nat) : Int) = n - 1 by omega] at this
  exact this
theorem fallM_le {s : ByteArray} {x : Int} {bs : List Int} {i : Nat} (h : InvM bs i) : ∀ (d : Nat) (n : Int), 0 ≤ n → n ≤ i → 0 ≤ fallM s x bs d n ∧ fallM s x bs d n ≤ n := by
  intro d
  induction d with
  | zero => intro n h0 h1; simp only [fallM]; omega
  | succ d ih =>
    intro n h0 h1
    simp only [fallM]
    by_cases c : 0 < n ∧ ¬ bt s n = x
    · rw [if_pos c]
      have := h.sub c.1 h1
      have := ih (rd bs (n - 1)) (by omega) (by omega)
      omega
    · rw [if_neg c]; omega
theorem fallM_more {s : ByteArray} {x : Int} {bs : List Int} {i : Nat} (h : InvM bs i) : ∀ (d d' : Nat) (n : Int), 0 ≤ n → n ≤ i → n ≤ d → n ≤ d' → fallM s x bs d n = fallM s x bs d' n := by
  intro d
  induction d with
  | zero => 
    intro d' n h0 h1 h2 h3
    have : n = 0 := by omega
    subst this
    cases d' <;> simp [fallM]
  | succ d ih =>
    intro d' n h0 h1 h2 h3
    cases d' with
    | zero => have : n = 0 := by omega
              subst this; simp [fallM]
    | succ d' =>
      simp only [fallM]
      by_cases c : 0 < n ∧ ¬ bt s n = x
      · rw [if_pos c, if_pos c]
        have := h.sub c.1 h1
        exact ih d' _ (by omega) (by omega) (by omega) (by omega)
      · rw [if_neg c, if_neg c]
theorem bordM_le {s : ByteArray} {bs : List Int} {i : Nat} (h : InvM bs i) (hi : 0 < i) : 0 ≤ bordM s bs i ∧ bordM s bs i ≤ i := by
  have := h.sub (n := (i : Int)) (by omega) (by omega)
  have := fallM_le (s := s) (x := bt s i) h i (rd bs ((i : Int) - 1)) (by omega) (by omega)
  unfold bordM stepM
  split <;> omega
theorem InvM.next {s : ByteArray} {bs : List Int} {i : Nat} (h : InvM bs i) (hi : 0 < i) (hl : i < bs.length) : InvM (bs.set i (bordM s bs i)) (i + 1) := by
  intro j hj
  rw [rd_set hl]
  have := bordM_le (s := s) h hi
  by_cases e : j = i
  · rw [if_pos e]; omega
  · rw [if_neg e]; exact h j (by omega)
theorem bordsM_length (s : ByteArray) : ∀ (d i : Nat) (bs : List Int), (bordsM s d i bs).length = bs.length := by
  intro d
  induction d with
  | zero => intro i bs; rfl
  | succ d ih => intro i bs; simp only [bordsM]; rw [ih]; simp
theorem bordsM_inv (s : ByteArray) : ∀ (d i : Nat) (bs : List Int), 0 < i → i + d = s.size → bs.length = s.size → InvM bs i → InvM (bordsM s d i bs) s.size := by
  intro d
  induction d with
  | zero => intro i bs h0 h1 h2 h3; simp only [bordsM]; have : i = s.size := by omega
            rw [← this]; exact h3
  | succ d ih => intro i bs h0 h1 h2 h3; simp only [bordsM]; exact ih _ _ (by omega) (by omega) (by simpa using h2) (h3.next h0 (by omega))
def bords (s : ByteArray) : List Int := bordsM s (s.size - 1) 1 (List.replicate s.size 0)
theorem InvM.zeros (n : Nat) : InvM (List.replicate n 0) 1 := by
  intro j hj
  have : j = 0 := by omega
  subst this
  unfold rd
  cases n <;> simp [List.getD]
theorem bords_length (s : ByteArray) : (bords s).length = s.size := by unfold bords; rw [bordsM_length]; simp
theorem bords_inv (s : ByteArray) (h : 0 < s.size) : InvM (bords s) s.size := bordsM_inv s _ _ _ (by omega) (by omega) (by simp) (InvM.zeros _)

theorem impl_borders_in (s : ByteArray) (hs : s.size ≤ 140737488351232) (bs : List Int) (i : Nat) (r : List Int) (hi : i < s.size) (hl : bs.length = s.size) (hb : InvM bs i) : ∀ (d : Nat) (n : Int), 0 ≤ n → n < i → n ≤ d →
    (∃ K, ∀ k, K ≤ k → impl_borders.l0 k s (bs.set i (stepM s (bt s i) (fallM s (bt s i) bs d n))) ((i : Int) + 1) = some r) → ∃ K, ∀ k, K ≤ k → impl_borders.l1 k s bs (i : Int) n = some r := by
  intro d
  induction d with
  | zero =>
    intro n h0 h1 h2 h
    have hn : n = 0 := by omega
    subst hn
    obtain ⟨K, hK⟩ := h
    refine ⟨K + 1, fun k hk => ?_⟩
    obtain ⟨k, rfl⟩ : ∃ m, k = m + 1 := ⟨k - 1, by omega⟩
    have hr := hK k (by omega)
    simp only [impl_borders.l1]
    simp (disch := omega) only [w64, if_pos, if_neg, Int.toNat_natCast]
    rw [show fallM s (bt s (i : Int)) bs 0 0 = 0 from rfl] at hr
    unfold stepM at hr
    by_cases c : bt s 0 = bt s i
    · rw [if_pos c] at hr ⊢; exact hr
    · rw [if_neg c] at hr ⊢; exact hr
  | succ d ih =>
    intro n h0 h1 h2 h
    by_cases c : 0 < n ∧ ¬ bt s n = bt s i
    · have hsub := hb.sub c.1 (by omega)
      simp only [fallM, if_pos c] at h
      obtain ⟨K, hK⟩ := ih (rd bs (n - 1)) (by omega) (by omega) (by omega) h
      refine ⟨K + 1, fun k hk => ?_⟩
      obtain ⟨k, rfl⟩ : ∃ m, k = m + 1 := ⟨k - 1, by omega⟩
      simp only [impl_borders.l1]
      simp (disch := omega) only [w64, if_pos, if_neg, Int.toNat_natCast, c.2]
      exact hK k (by omega)
    · simp only [fallM, if_neg c] at h
      obtain ⟨K, hK⟩ := h
      refine ⟨K + 1, fun k hk => ?_⟩
      obtain ⟨k, rfl⟩ : ∃ m, k = m + 1 := ⟨k - 1, by omega⟩
      have hr := hK k (by omega)
      unfold stepM at hr
      simp only [impl_borders.l1]
      by_cases e : bt s n = bt s i
      · rw [if_pos e] at hr
        by_cases p : n > 0
        · simp (disch := omega) only [w64, if_pos, if_neg, Int.toNat_natCast]
          exact hr
        · simp (disch := omega) only [w64, if_pos, if_neg, Int.toNat_natCast]
          exact hr
      · have p : ¬ n > 0 := fun h => c ⟨h, e⟩
        rw [if_neg e] at hr
        simp (disch := omega) only [w64, if_pos, if_neg, Int.toNat_natCast]
        exact hr
theorem impl_borders_l (s : ByteArray) (hs : s.size ≤ 140737488351232) : ∀ (d i : Nat) (bs : List Int), 0 < i → i + d = s.size → bs.length = s.size → InvM bs i →
    ∃ K, ∀ k, K ≤ k → impl_borders.l0 k s bs (i : Int) = some (bordsM s d i bs) := by
  intro d
  induction d with
  | zero =>
    intro i bs h0 h1 h2 h3
    refine ⟨1, fun k hk => ?_⟩
    obtain ⟨k, rfl⟩ : ∃ m, k = m + 1 := ⟨k - 1, by omega⟩
    simp only [impl_borders.l0]
    rw [if_neg (by omega)]; rfl
  | succ d ih =>
    intro i bs h0 h1 h2 h3
    have hsub := h3.sub (n := (i : Int)) (by omega) (by omega)
    obtain ⟨K, hK⟩ := impl_borders_in s hs bs i (bordsM s (d + 1) i bs) (by omega) h2 h3 i (rd bs ((i : Int) - 1)) (by omega) (by omega) (by omega)
      (ih (i + 1) (bs.set i (bordM s bs i)) (by omega) (by omega) (by simpa using h2) (h3.next h0 (by omega)))
    refine ⟨K + 1, fun k hk => ?_⟩
    obtain ⟨k, rfl⟩ : ∃ m, k = m + 1 := ⟨k - 1, by omega⟩
    simp only [impl_borders.l0]
    simp (disch := omega) only [w64, if_pos, if_neg]
    exact hK k (by omega)
theorem impl_borders_ev (s : ByteArray) (hs : s.size ≤ 300) (h0 : 0 < s.size) : ∃ K, ∀ k, K ≤ k → impl_borders.f k s = some (bords s) := by
  obtain ⟨K, hK⟩ := impl_borders_l s (by omega) (s.size - 1) 1 (List.replicate s.size 0) (by omega) (by omega) (by simp) (InvM.zeros _)
  refine ⟨K, fun k hk => ?_⟩
  unfold impl_borders.f
  simp (disch := omega) only [if_pos, Int.toNat_natCast]
  exact hK k hk

theorem spec_l11Borders_in (s : ByteArray) (hs : s.size ≤ 140737488351232) (bs : List Int) (i : Nat) (r : List Int) (hi : i < s.size) (hl : bs.length = s.size) (hb : InvM bs i) : ∀ (d : Nat) (n : Int), 0 ≤ n → n < i → n ≤ d →
    (∃ K, ∀ k, K ≤ k → spec_l11Borders.l0 k s (bs.set i (stepM s (bt s i) (fallM s (bt s i) bs d n))) (stepM s (bt s i) (fallM s (bt s i) bs d n)) ((i : Int) + 1) = some r) → ∃ K, ∀ k, K ≤ k → spec_l11Borders.l1 k s bs n (i : Int) = some r := by
  intro d
  induction d with
  | zero =>
    intro n h0 h1 h2 h
    have hn : n = 0 := by omega
    subst hn
    obtain ⟨K, hK⟩ := h
    refine ⟨K + 1, fun k hk => ?_⟩
    obtain ⟨k, rfl⟩ : ∃ m, k = m + 1 := ⟨k - 1, by omega⟩
    have hr := hK k (by omega)
    simp only [spec_l11Borders.l1]
    simp (disch := omega) only [w64, if_pos, if_neg, Int.toNat_natCast]
    rw [show fallM s (bt s (i : Int)) bs 0 0 = 0 from rfl] at hr
    unfold stepM at hr
    by_cases c : bt s 0 = bt s i
    · rw [if_pos c] at hr; rw [if_pos c.symm]; exact hr
    · rw [if_neg c] at hr; rw [if_neg (fun e => c e.symm)]; exact hr
  | succ d ih =>
    intro n h0 h1 h2 h
    by_cases c : 0 < n ∧ ¬ bt s n = bt s i
    · have hsub := hb.sub c.1 (by omega)
      have c2 : ¬ bt s i = bt s n := fun e => c.2 e.symm
      simp only [fallM, if_pos c] at h
      obtain ⟨K, hK⟩ := ih (rd bs (n - 1)) (by omega) (by omega) (by omega) h
      refine ⟨K + 1, fun k hk => ?_⟩
      obtain ⟨k, rfl⟩ : ∃ m, k = m + 1 := ⟨k - 1, by omega⟩
      simp only [spec_l11Borders.l1]
      simp (disch := omega) only [w64, if_pos, if_neg, Int.toNat_natCast]
      exact hK k (by omega)
    · simp only [fallM, if_neg c] at h
      obtain ⟨K, hK⟩ := h
      refine ⟨K + 1, fun k hk => ?_⟩
      obtain ⟨k, rfl⟩ : ∃ m, k = m + 1 := ⟨k - 1, by omega⟩
      have hr := hK k (by omega)
      unfold stepM at hr
      simp only [spec_l11Borders.l1]
      by_cases e : bt s n = bt s i
      · rw [if_pos e] at hr
        have e := e.symm
        by_cases p : n > 0
        · simp (disch := omega) only [w64, if_pos, if_neg, Int.toNat_natCast]
          exact hr
        · simp (disch := omega) only [w64, if_pos, if_neg, Int.toNat_natCast]
          exact hr
      · have p : ¬ n > 0 := fun h => c ⟨h, e⟩
        rw [if_neg e] at hr
        have e : ¬ bt s i = bt s n := fun h => e h.symm
        simp (disch := omega) only [w64, if_pos, if_neg, Int.toNat_natCast]
        exact hr
theorem spec_l11Borders_l (s : ByteArray) (hs : s.size ≤ 140737488351232) : ∀ (d i : Nat) (bs : List Int), 0 < i → i + d = s.size → bs.length = s.size → InvM bs i →
    ∃ K, ∀ k, K ≤ k → spec_l11Borders.l0 k s bs (rd bs ((i : Int) - 1)) (i : Int) = some (bordsM s d i bs) := by
  intro d
  induction d with
  | zero =>
    intro i bs h0 h1 h2 h3
    refine ⟨1, fun k hk => ?_⟩
    obtain ⟨k, rfl⟩ : ∃ m, k = m + 1 := ⟨k - 1, by omega⟩
    simp only [spec_l11Borders.l0]
    rw [if_neg (by omega)]; rfl
  | succ d ih =>
    intro i bs h0 h1 h2 h3
    have hsub := h3.sub (n := (i : Int)) (by omega) (by omega)
    have hi := ih (i + 1) (bs.set i (bordM s bs i)) (by omega) (by omega) (by simpa using h2) (h3.next h0 (by omega))
    rw [show (((i + 1 : Nat) : Int) - 1) = (i : Int) by omega, rd_set (by omega), if_pos rfl] at hi
    obtain ⟨K, hK⟩ := spec_l11Borders_in s hs bs i (bordsM s (d + 1) i bs) (by omega) h2 h3 i (rd bs ((i : Int) - 1)) (by omega) (by omega) (by omega) hi
    refine ⟨K + 1, fun k hk => ?_⟩
    obtain ⟨k, rfl⟩ : ∃ m, k = m + 1 := ⟨k - 1, by omega⟩
    simp only [spec_l11Borders.l0]
    simp (disch := omega) only [w64, if_pos, if_neg]
    exact hK k (by omega)
theorem spec_l11Borders_ev (s : ByteArray) (hs : s.size ≤ 300) (h0 : 0 < s.size) : ∃ K, ∀ k, K ≤ k → spec_l11Borders.f k s = some (bords s) := by
  obtain ⟨K, hK⟩ := spec_l11Borders_l s (by omega) (s.size - 1) 1 (List.replicate s.size 0) (by omega) (by omega) (by simp) (InvM.zeros _)
  refine ⟨K, fun k hk => ?_⟩
  unfold spec_l11Borders.f
  simp (disch := omega) only [if_pos, Int.toNat_natCast]
  have := hK k hk
  rw [show rd (List.replicate s.size 0) (((1 : Nat) : Int) - 1) = 0 from ?_] at this
  · exact this
  · unfold rd; cases s.size <;> simp [List.getD]

theorem u64_range (n : Int) : 0 ≤ IntKind.u64.wrap n ∧ IntKind.u64.wrap n < 18446744073709551616 := by
  have h : IntKind.u64.wrap n = n % 18446744073709551616 := by simp [IntKind.wrap, IntKind.bits, IntKind.signed]
  rw [h]; omega
theorem u64_and255 (n : Int) : 0 ≤ Go.bits .and .u64 (IntKind.u64.wrap n / 1099511627776) 255 ∧ Go.bits .and .u64 (IntKind.u64.wrap n / 1099511627776) 255 < 256 := by
  have h := u64_range n
  have e := bits_mask .u64 24 (by decide) (fun n h0 h1 => by
    have h : IntKind.u64.wrap n = n % 18446744073709551616 := by simp [IntKind.wrap, IntKind.bits, IntKind.signed]
    rw [h]; omega) 8 (by decide) (IntKind.u64.wrap n / 1099511627776) (by omega) (by omega)
  rw [show (255 : Int) = 2 ^ 8 - 1 from rfl, e]
  omega
def okCode (c : List Int) : Prop := ∀ x ∈ c, 0 ≤ x ∧ x < 256
theorem okCode_of {c : List Int} (h : ∀ x ∈ c, (Lit.int .u8 x).wf = true) : okCode c := by
  intro x hx
  have := h x hx
  simp [Lit.wf, IntKind.min, IntKind.max, IntKind.bits, IntKind.signed] at this
  omega
theorem okCode.rd {c : List Int} (h : okCode c) (i : Int) : 0 ≤ rd c i ∧ rd c i < 256 := by
  unfold Go.Proofs.YtibedlbjkaikiaaW.PrintWords.rd
  rw [List.getD_eq_getElem?_getD]
  cases e : c[i.toNat]? with
  | none => simp
  | some x => simp; exact h x (List.mem_of_getElem? e)
theorem next_ev {c : List Int} (hc : okCode c) (a s : Int) (h0 : 0 ≤ a) (h1 : a ≤ 4000000000000000000) : ∃ r s', spec_l1Cur_next.f c a s = some (r, a + 1, s') ∧ 0 ≤ r ∧ r < 256 := by
  have hr := hc.rd a
  have hu := u64_and255
  unfold spec_l1Cur_next.f
  rw [w64 (by omega : -4611686018427387904 ≤ a + 1) (by omega)]
  by_cases c1 : a < (c.length : Int)
  · rw [if_pos c1, if_pos h0, if_pos (by omega), w64 (by omega) (by omega)]
    exact ⟨_, _, rfl, hr.1, hr.2⟩
  · rw [if_neg c1, if_neg (by omega)]
    refine ⟨_, _, rfl, ?_⟩
    have := hu (IntKind.u64.wrap (IntKind.u64.wrap (s * 6364136223846793005) + 0) + 1442695040888963407)
    rw [w64 (by omega) (by omega)]
    exact this
theorem pick_ev {c : List Int} (hc : okCode c) (a s n : Int) (h0 : 0 ≤ a) (h1 : a ≤ 3000000000000000000) (hn : 1 ≤ n) (hn2 : n ≤ 1000000000000) : ∃ r a' s', spec_l1Cur_pick.f c a s n = some (r, a', s') ∧ 0 ≤ r ∧ r < n ∧ a ≤ a' ∧ a' ≤ a + 2 := by
  unfold spec_l1Cur_pick.f
  by_cases c1 : n ≤ 1
  · rw [if_pos c1]; exact ⟨0, a, s, rfl, by omega, by omega, by omega, by omega⟩
  · obtain ⟨r, s1, e1, hr0, hr1⟩ := next_ev hc a s h0 (by omega)
    rw [if_neg c1, e1]
    simp only [Option.bind_some]
    by_cases c2 : n > 200
    · obtain ⟨r2, s2, e2, hr2, hr3⟩ := next_ev hc (a + 1) s1 (by omega) (by omega)
      rw [if_pos c2, e2]
      simp only [Option.bind_some]
      rw [if_neg (by omega), w64 (by omega : -4611686018427387904 ≤ r * 256) (by omega), w64 (by omega) (by omega)]
      refine ⟨_, _, _, rfl, ?_, ?_, by omega, by omega⟩
      · rw [Int.tmod_eq_emod_of_nonneg (by omega)]; exact Int.emod_nonneg _ (by omega)
      · rw [Int.tmod_eq_emod_of_nonneg (by omega)]; exact Int.emod_lt_of_pos _ (by omega)
    · rw [if_neg c2, if_neg (by omega)]
      refine ⟨_, _, _, rfl, ?_, ?_, by omega, by omega⟩
      · rw [Int.tmod_eq_emod_of_nonneg (by omega)]; exact Int.emod_nonneg _ (by omega)
      · rw [Int.tmod_eq_emod_of_nonneg (by omega)]; exact Int.emod_lt_of_pos _ (by omega)
theorem one_ev {c : List Int} (hc : okCode c) (a s n : Int) (h0 : 0 ≤ a) (h1 : a ≤ 3000000000000000000) (hn : 1 ≤ n) (hn2 : n ≤ 1000000000000) : ∃ r a' s', spec_l1Cur_one.f c a s n = some (r, a', s') ∧ a ≤ a' ∧ a' ≤ a + 2 := by
  obtain ⟨r, a', s', e, _, _, h2, h3⟩ := pick_ev hc a s n h0 h1 hn hn2
  unfold spec_l1Cur_one.f
  rw [e]
  exact ⟨_, _, _, rfl, h2, h3⟩

theorem of_ev {c : List Int} (hc : okCode c) (a s : Int) (l : List ByteArray) (M : Nat) (h0 : 0 ≤ a) (h1 : a ≤ 3000000000000000000) (hl : 0 < l.length) (hl2 : l.length ≤ 1000) (hM : ∀ x ∈ l, x.size ≤ M) : ∃ r a' s', spec_l1Cur_of.f c a s l = some (r, a', s') ∧ r ∈ l ∧ r.size ≤ M ∧ a ≤ a' ∧ a' ≤ a + 2 := by
  obtain ⟨r, a', s', e, h2, h3, h4, h5⟩ := pick_ev hc a s (l.length : Int) h0 h1 (by omega) (by omega)
  unfold spec_l1Cur_of.f
  rw [e]
  simp only [Option.bind_some]
  rw [if_pos h2, if_pos h3]
  have hm : rdOf ByteArray.empty l r ∈ l := by
    unfold rdOf
    rw [List.getD_eq_getElem?_getD, List.getElem?_eq_getElem (by omega : r.toNat < l.length)]
    simp
  exact ⟨_, _, _, rfl, hm, hM _ hm, h4, h5⟩

def cO : Nat → Int
  | 0 => 600
  | d + 1 => 60 * (cO d + 10)
def sO : Nat → Nat
  | 0 => 300
  | d + 1 => 60 * (sO d + 10)
def xO : Nat → Nat
  | 0 => 5
  | d + 1 => sO d + 10
def yO : Nat → Int
  | 0 => 10
  | d + 1 => cO d + 10
theorem cO_le (d : Nat) (h : d ≤ 3) : 0 ≤ cO d ∧ cO d ≤ 1000000000 := by
  rcases d with _ | _ | _ | _ | d <;> simp [cO] <;> omega
theorem sO_le (d : Nat) (h : d ≤ 3) : sO d ≤ 1000000000 := by
  rcases d with _ | _ | _ | _ | d <;> simp [sO] <;> omega
theorem size_app (a b : ByteArray) : (a ++ b).size = a.size + b.size := ByteArray.size_append
theorem inner_l {c : List Int} (hc : okCode c) (d : Nat) (hd : d ≤ 3)
    (IH : ∀ e : Nat, d = e + 1 → ∀ (a s n : Int), 0 ≤ a → a ≤ 2000000000000000000 + (3 - (e : Int)) * 1000000000000 → 0 ≤ n → n ≤ 60 → ∃ t a' s', t.size ≤ sO e ∧ a ≤ a' ∧ a' ≤ a + cO e ∧ ∃ K, ∀ k, K ≤ k → spec_l1Cur_inner.f k c a s n (e : Int) = some (t, a', s')) :
    ∀ (n : Nat) (t : ByteArray) (a s : Int), n ≤ 60 → 0 ≤ a → a ≤ 2000000000000000000 + (3 - (d : Int)) * 1000000000000 + (60 - (n : Int)) * 1000000000 → t.size + n * 1000000000 ≤ 60 * 1000000000 →
      ∃ t' a' s', t'.size ≤ t.size + n * (xO d) ∧ a ≤ a' ∧ a' ≤ a + n * (yO d) ∧ ∃ K, ∀ k, K ≤ k → spec_l1Cur_inner.l0 k (n : Int) (d : Int) t c a s = some (t', a', s') := by
  intro n
  induction n with
  | zero =>
    intro t a s hn h0 h1 ht
    refine ⟨t, a, s, by omega, by omega, by omega, 1, fun k hk => ?_⟩
    obtain ⟨k, rfl⟩ : ∃ m, k = m + 1 := ⟨k - 1, by omega⟩
    simp only [spec_l1Cur_inner.l0]
    rw [if_neg (by omega)]
  | succ n ih =>
    intro t a s hn h0 h1 ht
    have join : ∀ (u : ByteArray) (a1 s1 : Int), u.size ≤ (xO d) → a ≤ a1 → a1 ≤ a + (yO d) →
        ∃ t' a' s', t'.size ≤ t.size + (n + 1 : Nat) * (xO d) ∧ a ≤ a' ∧ a' ≤ a + ((n + 1 : Nat) : Int) * (yO d) ∧ ∃ K, ∀ k, K ≤ k → spec_l1Cur_inner.l0 k (n : Int) (d : Int) (t ++ u) c a1 s1 = some (t', a', s') := by
      intro u a1 s1 hu h2 h3
      have b1 : xO d ≤ 1000000000 := by
        cases d with
        | zero => simp [xO]
        | succ e => have := sO_le e (by omega); rcases e with _ | _ | _ | e <;> simp [xO, sO] <;> omega
      have b2 : yO d ≤ 1000000000 := by
        cases d with
        | zero => simp [yO]
        | succ e => rcases e with _ | _ | _ | e <;> simp [yO, cO] <;> omega
      generalize xO d = X at *
      generalize yO d = Y at *
      obtain ⟨t', a', s', g1, g2, g3, g4⟩ := ih (t ++ u) a1 s1 (by omega) (by omega) (by omega) (by rw [size_app]; omega)
      refine ⟨t', a', s', ?_, by omega, ?_, g4⟩
      · rw [size_app] at g1
        have : (n + 1) * X = n * X + X := Nat.succ_mul n X
        omega
      · have : ((n + 1 : Nat) : Int) * Y = (n : Int) * Y + Y := by rw [show ((n + 1 : Nat) : Int) = (n : Int) + 1 by omega, Int.add_mul, Int.one_mul]
        omega
    have plain : ∀ a1 s1 : Int, a ≤ a1 → a1 ≤ a + 2 → ∃ t' a' s', t'.size ≤ t.size + (n + 1 : Nat) * (xO d) ∧ a ≤ a' ∧ a' ≤ a + ((n + 1 : Nat) : Int) * (yO d) ∧ ∃ K, ∀ k, K ≤ k → spec_l1Cur_inner.j1 k ((n : Int) + 1) (d : Int) t false c a1 s1 = some (t', a', s') := by
      intro a1 s1 h2 h3
      obtain ⟨u, a2, s2, e, _, hu, h4, h5⟩ := of_ev hc a1 s1 ([(⟨#[97]⟩ : ByteArray), (⟨#[98]⟩ : ByteArray), (⟨#[97, 98]⟩ : ByteArray), (⟨#[120]⟩ : ByteArray), (⟨#[32]⟩ : ByteArray), (⟨#[111, 110, 101]⟩ : ByteArray), (⟨#[49]⟩ : ByteArray), (⟨#[122, 46]⟩ : ByteArray)] : List ByteArray) 3 (by omega) (by omega) (by simp) (by simp) (by decide)
      obtain ⟨t', a', s', g1, g2, g3, K, g4⟩ := join u a2 s2 (by cases d <;> simp [xO] <;> omega) (by omega) (by
        cases d with
        | zero => simp [yO]; omega
        | succ e => have := cO_le e (by omega); simp [yO]; omega)
      refine ⟨t', a', s', g1, g2, g3, K + 1, fun k hk => ?_⟩
      obtain ⟨k, rfl⟩ : ∃ m, k = m + 1 := ⟨k - 1, by omega⟩
      simp only [spec_l1Cur_inner.j1]
      rw [if_neg (by simp), e]
      simp only [Option.bind_some]
      rw [if_pos (by omega), w64 (by omega) (by omega), Int.add_sub_cancel]
      exact g4 k (by omega)
    cases d with
    | zero =>
      obtain ⟨t', a', s', g1, g2, g3, K, g4⟩ := plain a s (by omega) (by omega)
      refine ⟨t', a', s', g1, g2, g3, K + 1, fun k hk => ?_⟩
      obtain ⟨k, rfl⟩ : ∃ m, k = m + 1 := ⟨k - 1, by omega⟩
      simp only [spec_l1Cur_inner.l0]
      rw [if_pos (by omega), if_neg (by omega)]
      exact g4 k (by omega)
    | succ e =>
      obtain ⟨r, a1, s1, e1, h2, h3⟩ := one_ev hc a s 3 (by omega) (by omega) (by omega) (by omega)
      have hb := cO_le e (by omega)
      have hs := sO_le e (by omega)
      cases r with
      | false =>
        obtain ⟨t', a', s', g1, g2, g3, K, g4⟩ := plain a1 s1 (by omega) (by omega)
        refine ⟨t', a', s', g1, g2, g3, K + 1, fun k hk => ?_⟩
        obtain ⟨k, rfl⟩ : ∃ m, k = m + 1 := ⟨k - 1, by omega⟩
        simp only [spec_l1Cur_inner.l0]
        rw [if_pos (by omega), if_pos (by omega), e1]
        exact g4 k (by omega)
      | true =>
        obtain ⟨p1, a2, s2, e2, q1, q2, q3, q4⟩ := pick_ev hc a1 s1 4 (by omega) (by omega) (by omega) (by omega)
        obtain ⟨p2, a3, s3, e3, q5, q6, q7, q8⟩ := pick_ev hc a2 s2 4 (by omega) (by omega) (by omega) (by omega)
        obtain ⟨v, a4, s4, i1, i2, i3, K1, i4⟩ := IH e rfl a3 s3 p2 (by omega) (by omega) (by omega) (by omega)
        have one1 : (strOfNums [wrap64 (65 + p1) % 256]).size = 1 := rfl
        have lit1 : (⟨#[47]⟩ : ByteArray).size = 1 := rfl
        obtain ⟨t', a', s', g1, g2, g3, K, g4⟩ := join (strOfNums [wrap64 (65 + p1) % 256] ++ v ++ (⟨#[47]⟩ : ByteArray)) a4 s4 (by rw [size_app, size_app, one1, lit1]; simp [xO]; omega) (by omega) (by simp [yO]; omega)
        refine ⟨t', a', s', g1, g2, g3, max K K1 + 2, fun k hk => ?_⟩
        obtain ⟨k, rfl⟩ : ∃ m, k = m + 2 := ⟨k - 2, by omega⟩
        simp only [spec_l1Cur_inner.l0]
        rw [if_pos (by omega), if_pos (by omega), e1]
        simp only [Option.bind_some, spec_l1Cur_inner.j1, if_true]
        rw [e2]
        simp only [Option.bind_some]
        rw [e3]
        simp only [Option.bind_some]
        rw [w64 (by omega : -4611686018427387904 ≤ ((e + 1 : Nat) : Int) - 1) (by omega), show ((e + 1 : Nat) : Int) - 1 = (e : Int) by omega, i4 k (by omega)]
        simp only [Option.bind_some]
        rw [if_pos (by omega), if_pos (by rw [size_app]; omega), if_pos (by rw [size_app, size_app]; omega), w64 (by omega) (by omega), show ((n + 1 : Nat) : Int) - 1 = (n : Int) by omega]
        exact g4 k (by omega)
theorem inner_ev {c : List Int} (hc : okCode c) : ∀ (d : Nat), d ≤ 3 → ∀ (a s n : Int), 0 ≤ a → a ≤ 2000000000000000000 + (3 - (d : Int)) * 1000000000000 → 0 ≤ n → n ≤ 60 → ∃ t a' s', t.size ≤ sO d ∧ a ≤ a' ∧ a' ≤ a + cO d ∧ ∃ K, ∀ k, K ≤ k → spec_l1Cur_inner.f k c a s n (d : Int) = some (t, a', s') := by
  intro d
  induction d with
  | zero =>
    intro hd a s n h0 h1 h2 h3
    obtain ⟨m, rfl⟩ := Int.eq_ofNat_of_zero_le h2
    obtain ⟨t, a', s', g1, g2, g3, K, g4⟩ := inner_l hc 0 hd (fun e h => by omega) m (⟨#[]⟩ : ByteArray) a s (by omega) h0 (by omega) (by simp [ByteArray.size]; omega)
    simp only [show (⟨#[]⟩ : ByteArray).size = 0 from rfl] at g1 g3
    refine ⟨t, a', s', by simp only [sO, xO] at *; omega, g2, by simp only [cO, yO] at *; omega, K + 1, fun k hk => ?_⟩
    obtain ⟨k, rfl⟩ : ∃ m, k = m + 1 := ⟨k - 1, by omega⟩
    simp only [spec_l1Cur_inner.f]
    exact g4 k (by omega)
  | succ d ih =>
    intro hd a s n h0 h1 h2 h3
    obtain ⟨m, rfl⟩ := Int.eq_ofNat_of_zero_le h2
    have hb := cO_le d (by omega)
    obtain ⟨t, a', s', g1, g2, g3, K, g4⟩ := inner_l hc (d + 1) hd (fun e h => by
      have : e = d := by omega
      subst this; exact ih (by omega)) m (⟨#[]⟩ : ByteArray) a s (by omega) h0 (by omega) (by simp [ByteArray.size]; omega)
    simp only [show (⟨#[]⟩ : ByteArray).size = 0 from rfl] at g1 g3
    refine ⟨t, a', s', ?_, g2, ?_, K + 1, fun k hk => ?_⟩
    · simp only [sO, xO] at *
      have := Nat.mul_le_mul_right (sO d + 10) (by omega : m ≤ 60)
      omega
    · simp only [cO, yO] at *
      have := Int.mul_le_mul_of_nonneg_right (by omega : (m : Int) ≤ 60) (by omega : 0 ≤ cO d + 10)
      omega
    · obtain ⟨k, rfl⟩ : ∃ m, k = m + 1 := ⟨k - 1, by omega⟩
      simp only [spec_l1Cur_inner.f]
      exact g4 k (by omega)
theorem ext_size (s : ByteArray) (i j : Nat) : (s.extract i j).size ≤ s.size := by rw [ByteArray.size_extract]; omega
theorem spoilt_l {c : List Int} (hc : okCode c) (w : ByteArray) (hw : 0 < w.size) (hw2 : w.size ≤ 1000) : ∀ (n : Nat) (t : ByteArray) (a s : Int), n ≤ 3 → 0 ≤ a → a ≤ 2000000000000000000 + (3 - (n : Int)) * 10 → t.size + n ≤ 100000000000 →
    ∃ t' a' s', t'.size ≤ t.size + n ∧ a ≤ a' ∧ a' ≤ a + 10 * n ∧ ∃ K, ∀ k, K ≤ k → spec_l1Cur_spoilt.l0 k t w (n : Int) c a s = some (t', a', s') := by
  intro n
  induction n with
  | zero =>
    intro t a s hn h0 h1 ht
    refine ⟨t, a, s, by omega, by omega, by omega, 2, fun k hk => ?_⟩
    obtain ⟨k, rfl⟩ : ∃ m, k = m + 2 := ⟨k - 2, by omega⟩
    simp only [spec_l1Cur_spoilt.l0]
    rw [if_neg (by omega)]
    simp only [spec_l1Cur_spoilt.j1]
    rw [if_neg (by simp)]
  | succ n ih =>
    intro t a s hn h0 h1 ht
    by_cases hz : t.size = 0
    · refine ⟨t, a, s, by omega, by omega, by omega, 2, fun k hk => ?_⟩
      obtain ⟨k, rfl⟩ : ∃ m, k = m + 2 := ⟨k - 2, by omega⟩
      simp only [spec_l1Cur_spoilt.l0]
      rw [if_pos (by omega)]
      simp only [spec_l1Cur_spoilt.j1]
      rw [if_neg (by rw [decide_eq_true_eq]; omega)]
    · obtain ⟨p1, a1, s1, e1, q1, q2, q3, q4⟩ := pick_ev hc a s (t.size : Int) (by omega) (by omega) (by omega) (by omega)
      obtain ⟨p2, a2, s2, e2, q5, q6, q7, q8⟩ := pick_ev hc a1 s1 (w.size : Int) (by omega) (by omega) (by omega) (by omega)
      obtain ⟨p3, a3, s3, e3, q9, q10, q11, q12⟩ := pick_ev hc a2 s2 3 (by omega) (by omega) (by omega) (by omega)
      have one1 : (strOfNums [bt w p2]).size = 1 := rfl
      have x1 : (t.extract 0 p1.toNat).size = p1.toNat := by rw [ByteArray.size_extract]; omega
      have x2 : (t.extract p1.toNat t.size).size = t.size - p1.toNat := by rw [ByteArray.size_extract]; omega
      have x3 : (t.extract (p1 + 1).toNat t.size).size = t.size - (p1 + 1).toNat := by rw [ByteArray.size_extract]; omega
      have go : ∀ u : ByteArray, u.size ≤ t.size + 1 → ∃ t' a' s', t'.size ≤ t.size + (n + 1) ∧ a ≤ a' ∧ a' ≤ a + 10 * ((n + 1 : Nat) : Int) ∧ ∃ K, ∀ k, K ≤ k → spec_l1Cur_spoilt.l0 k u w (n : Int) c a3 s3 = some (t', a', s') := by
        intro u hu
        obtain ⟨t', a', s', g1, g2, g3, g4⟩ := ih u a3 s3 (by omega) (by omega) (by omega) (by omega)
        exact ⟨t', a', s', by omega, by omega, by omega, g4⟩
      have hn1 : ((n + 1 : Nat) : Int) - 1 = (n : Int) := by omega
      by_cases c1 : p3 = 0
      · obtain ⟨t', a', s', g1, g2, g3, K, g4⟩ := go (t.extract 0 p1.toNat ++ strOfNums [bt w p2] ++ t.extract p1.toNat t.size) (by rw [size_app, size_app, x1, x2, one1]; omega)
        refine ⟨t', a', s', g1, g2, g3, K + 2, fun k hk => ?_⟩
        obtain ⟨k, rfl⟩ : ∃ m, k = m + 2 := ⟨k - 2, by omega⟩
        simp only [spec_l1Cur_spoilt.l0]
        rw [if_pos (by omega)]
        simp only [spec_l1Cur_spoilt.j1]
        rw [if_pos (by simp; omega), e1]
        simp only [Option.bind_some]
        rw [e2]
        simp only [Option.bind_some]
        rw [if_pos q5, if_pos q6, e3]
        simp only [Option.bind_some]
        rw [if_pos c1, if_pos q1, if_pos (by omega), if_pos (by omega), if_pos (by rw [size_app]; omega), w64 (by omega) (by omega), hn1]
        exact g4 k (by omega)
      · by_cases c2 : p3 = 1
        · obtain ⟨t', a', s', g1, g2, g3, K, g4⟩ := go (t.extract 0 p1.toNat ++ strOfNums [bt w p2] ++ t.extract (p1 + 1).toNat t.size) (by rw [size_app, size_app, x1, x3, one1]; omega)
          refine ⟨t', a', s', g1, g2, g3, K + 2, fun k hk => ?_⟩
          obtain ⟨k, rfl⟩ : ∃ m, k = m + 2 := ⟨k - 2, by omega⟩
          simp only [spec_l1Cur_spoilt.l0]
          rw [if_pos (by omega)]
          simp only [spec_l1Cur_spoilt.j1]
          rw [if_pos (by simp; omega), e1]
          simp only [Option.bind_some]
          rw [e2]
          simp only [Option.bind_some]
          rw [if_pos q5, if_pos q6, e3]
          simp only [Option.bind_some]
          have hp1 : wrap64 (p1 + 1) = p1 + 1 := w64 (by omega) (by omega)
          rw [if_neg c1, if_pos c2, if_pos q1, if_pos (by omega), if_pos (by omega), hp1, if_pos (by omega), if_pos (by omega), if_pos (by rw [size_app]; omega), w64 (by omega) (by omega), hn1]
          exact g4 k (by omega)
        · obtain ⟨t', a', s', g1, g2, g3, K, g4⟩ := go (t.extract 0 p1.toNat ++ t.extract (p1 + 1).toNat t.size) (by rw [size_app, x1, x3]; omega)
          refine ⟨t', a', s', g1, g2, g3, K + 2, fun k hk => ?_⟩
          obtain ⟨k, rfl⟩ : ∃ m, k = m + 2 := ⟨k - 2, by omega⟩
          simp only [spec_l1Cur_spoilt.l0]
          rw [if_pos (by omega)]
          simp only [spec_l1Cur_spoilt.j1]
          rw [if_pos (by simp; omega), e1]
          simp only [Option.bind_some]
          rw [e2]
          simp only [Option.bind_some]
          rw [if_pos q5, if_pos q6, e3]
          simp only [Option.bind_some]
          have hp1 : wrap64 (p1 + 1) = p1 + 1 := w64 (by omega) (by omega)
          simp only [hp1]
          simp (disch := omega) only [if_pos, if_neg, w64, hn1]
          exact g4 k (by omega)
theorem spoilt_ev {c : List Int} (hc : okCode c) (a s : Int) (t w : ByteArray) (hw : 0 < w.size) (hw2 : w.size ≤ 1000) (h0 : 0 ≤ a) (h1 : a ≤ 1900000000000000000) (ht : t.size ≤ 90000000000) :
    ∃ t' a' s', t'.size ≤ t.size + 3 ∧ a ≤ a' ∧ a' ≤ a + 50 ∧ ∃ K, ∀ k, K ≤ k → spec_l1Cur_spoilt.f k c a s t w = some (t', a', s') := by
  obtain ⟨p1, a1, s1, e1, q1, q2, q3, q4⟩ := pick_ev hc a s 3 (by omega) (by omega) (by omega) (by omega)
  obtain ⟨m, rfl⟩ := Int.eq_ofNat_of_zero_le q1
  obtain ⟨t', a', s', g1, g2, g3, K, g4⟩ := spoilt_l hc w hw hw2 m t a1 s1 (by omega) (by omega) (by omega) (by omega)
  refine ⟨t', a', s', by omega, by omega, by omega, K, fun k hk => ?_⟩
  unfold spec_l1Cur_spoilt.f
  rw [e1]
  exact g4 k hk
theorem doc0_ev {c : List Int} (hc : okCode c) (a s : Int) (t : ByteArray) (h0 : 0 ≤ a) (h1 : a ≤ 1800000000000000000) (ht : t.size ≤ 1000000000) :
    ∃ t' a' s', t'.size ≤ 1000000010 ∧ a ≤ a' ∧ a' ≤ a + 100 ∧ ∃ K, ∀ k, K ≤ k → spec_l1Cur_doc.j0 k t c a s = some (t', a', s') := by
  obtain ⟨r, a1, s1, e1, h2, h3⟩ := one_ev hc a s 12 (by omega) (by omega) (by omega) (by omega)
  cases r with
  | false =>
    refine ⟨t, a1, s1, by omega, by omega, by omega, 1, fun k hk => ?_⟩
    obtain ⟨k, rfl⟩ : ∃ m, k = m + 1 := ⟨k - 1, by omega⟩
    simp only [spec_l1Cur_doc.j0]
    rw [e1]; simp
  | true =>
    obtain ⟨t', a', s', g1, g2, g3, K, g4⟩ := spoilt_ev hc a1 s1 t (⟨#[65, 47, 97, 90]⟩ : ByteArray) (by decide) (by decide) (by omega) (by omega) (by omega)
    refine ⟨t', a', s', by omega, by omega, by omega, K + 1, fun k hk => ?_⟩
    obtain ⟨k, rfl⟩ : ∃ m, k = m + 1 := ⟨k - 1, by omega⟩
    simp only [spec_l1Cur_doc.j0]
    rw [e1]
    simp only [Option.bind_some, if_true]
    rw [g4 k (by omega)]; rfl
theorem doc_ev {c : List Int} (hc : okCode c) (a s : Int) (h0 : 0 ≤ a) (h1 : a ≤ 1700000000000000000) :
    ∃ t' a' s', t'.size ≤ 1000000010 ∧ a ≤ a' ∧ a' ≤ a + 2000000200 ∧ ∃ K, ∀ k, K ≤ k → spec_l1Cur_doc.f k c a s = some (t', a', s') := by
  have hb := cO_le 3 (by omega)
  have hs := sO_le 3 (by omega)
  obtain ⟨p1, a1, s1, e1, q1, q2, q3, q4⟩ := pick_ev hc a s 7 (by omega) (by omega) (by omega) (by omega)
  obtain ⟨t2, a2, s2, i1, i2, i3, K1, i4⟩ := inner_ev hc 3 (by omega) a1 s1 p1 (by omega) (by omega) (by omega) (by omega)
  obtain ⟨p3, a3, s3, e3, r1, r2, r3, r4⟩ := pick_ev hc a2 s2 30 (by omega) (by omega) (by omega) (by omega)
  by_cases c1 : p3 = 0
  · obtain ⟨t4, a4, s4, j1, j2, j3, K2, j4⟩ := inner_ev hc 3 (by omega) a3 s3 60 (by omega) (by omega) (by omega) (by omega)
    obtain ⟨t', a', s', g1, g2, g3, K, g4⟩ := doc0_ev hc a4 s4 t4 (by omega) (by omega) (by omega)
    refine ⟨t', a', s', g1, by omega, by omega, max (max K K1) K2, fun k hk => ?_⟩
    unfold spec_l1Cur_doc.f
    have e5 := i4 k (by omega)
    have e6 := j4 k (by omega)
    have e7 := g4 k (by omega)
    simp only [Int.cast_ofNat_Int] at e5 e6
    rw [e1]; simp only [Option.bind_some]
    rw [e5]; simp only [Option.bind_some]
    rw [e3]; simp only [Option.bind_some]
    rw [if_pos c1, e6]; simp only [Option.bind_some]
    exact e7
  · by_cases c2 : p3 = 1
    · obtain ⟨u, a4, s4, e4, _, hu, h4, h5⟩ := of_ev hc a3 s3 ([(⟨#[65, 65, 65, 65, 65, 65, 65, 65, 65, 65, 65, 65, 47, 47, 47, 47, 47, 47, 47, 47, 47, 47, 47, 47]⟩ : ByteArray), (⟨#[65, 65, 65, 65, 65, 65, 65, 65, 65, 65, 65, 65, 65, 47, 47, 47, 47, 47, 47, 47, 47, 47, 47, 47, 47, 47]⟩ : ByteArray)] : List ByteArray) 30 (by omega) (by omega) (by simp) (by simp) (by decide)
      obtain ⟨t', a', s', g1, g2, g3, K, g4⟩ := doc0_ev hc a4 s4 u (by omega) (by omega) (by omega)
      refine ⟨t', a', s', g1, by omega, by omega, max K K1, fun k hk => ?_⟩
      unfold spec_l1Cur_doc.f
      have e5 := i4 k (by omega)
      have e7 := g4 k (by omega)
      simp only [Int.cast_ofNat_Int] at e5
      rw [e1]; simp only [Option.bind_some]
      rw [e5]; simp only [Option.bind_some]
      rw [e3]; simp only [Option.bind_some]
      rw [if_neg c1, if_pos c2, e4]; simp only [Option.bind_some]
      exact e7
    · obtain ⟨t', a', s', g1, g2, g3, K, g4⟩ := doc0_ev hc a3 s3 t2 (by omega) (by omega) (by omega)
      refine ⟨t', a', s', g1, by omega, by omega, max K K1, fun k hk => ?_⟩
      unfold spec_l1Cur_doc.f
      have e5 := i4 k (by omega)
      have e7 := g4 k (by omega)
      simp only [Int.cast_ofNat_Int] at e5
      rw [e1]; simp only [Option.bind_some]
      rw [e5]; simp only [Option.bind_some]
      rw [e3]; simp only [Option.bind_some]
      rw [if_neg c1, if_neg c2]
      exact e7
theorem plainText_ev {c : List Int} (hc : okCode c) (a s : Int) (h0 : 0 ≤ a) (h1 : a ≤ 1600000000000000000) :
    ∃ t' a' s', t'.size ≤ 1000000010 ∧ a ≤ a' ∧ a' ≤ a + 2000000300 ∧ ∃ K, ∀ k, K ≤ k → spec_l1Cur_plainText.f k c a s = some (t', a', s') := by
  obtain ⟨t, a1, s1, g1, g2, g3, K, g4⟩ := doc_ev hc a s h0 (by omega)
  obtain ⟨K2, h2⟩ := spec_GoodText_ev t (by omega)
  have lit4 : ((⟨#[116, 101, 120, 116]⟩ : ByteArray)).size = 4 := rfl
  cases hg : textB t with
  | false =>
    refine ⟨(⟨#[116, 101, 120, 116]⟩ : ByteArray), a1, s1, by omega, by omega, by omega, max K K2, fun k hk => ?_⟩
    unfold spec_l1Cur_plainText.f
    rw [g4 k (by omega)]; simp only [Option.bind_some]
    rw [h2 k (by omega), hg]; simp only [Option.bind_some]
    rw [if_neg (by simp), if_neg (by omega)]
  | true =>
    by_cases c1 : (t.size : Int) > 40
    · obtain ⟨r, a2, s2, e2, q1, q2⟩ := one_ev hc a1 s1 20 (by omega) (by omega) (by omega) (by omega)
      cases r with
      | true =>
        refine ⟨t, a2, s2, by omega, by omega, by omega, max K K2, fun k hk => ?_⟩
        unfold spec_l1Cur_plainText.f
        rw [g4 k (by omega)]; simp only [Option.bind_some]
        rw [h2 k (by omega), hg]; simp only [Option.bind_some]
        rw [if_pos trivial, if_pos c1, e2]; simp
      | false =>
        have := ext_size t 0 40
        refine ⟨t.extract 0 40, a2, s2, by omega, by omega, by omega, max K K2, fun k hk => ?_⟩
        unfold spec_l1Cur_plainText.f
        rw [g4 k (by omega)]; simp only [Option.bind_some]
        rw [h2 k (by omega), hg]; simp only [Option.bind_some]
        rw [if_pos trivial, if_pos c1, e2]; simp only [Option.bind_some]
        rw [if_neg (by simp), if_pos (by omega), if_pos (by omega)]
    · refine ⟨t, a1, s1, by omega, by omega, by omega, max K K2, fun k hk => ?_⟩
      unfold spec_l1Cur_plainText.f
      rw [g4 k (by omega)]; simp only [Option.bind_some]
      rw [h2 k (by omega), hg]; simp only [Option.bind_some]
      rw [if_pos trivial, if_neg c1]

theorem ab_l {c : List Int} (hc : okCode c) : ∀ (n : Nat) (t : ByteArray) (a s : Int), n ≤ 24 → 0 ≤ a → a ≤ 1500000000000000000 + (24 - (n : Int)) * 10 → t.size + 2 * n ≤ 1000 →
    ∃ t' a' s', t'.size ≤ 1000 ∧ a ≤ a' ∧ a' ≤ a + 10 * (n : Int) ∧ ∃ K, ∀ k, K ≤ k → spec_l1Cur_ab.l0 k t (n : Int) c a s = some (t', a', s') := by
  intro n
  induction n with
  | zero =>
    intro t a s hn h0 h1 ht
    refine ⟨t, a, s, by omega, by omega, by omega, 1, fun k hk => ?_⟩
    obtain ⟨k, rfl⟩ : ∃ m, k = m + 1 := ⟨k - 1, by omega⟩
    simp only [spec_l1Cur_ab.l0]
    rw [if_neg (by omega)]
  | succ n ih =>
    intro t a s hn h0 h1 ht
    obtain ⟨u, a1, s1, e, _, hu, h4, h5⟩ := of_ev hc a s ([(⟨#[97]⟩ : ByteArray), (⟨#[98]⟩ : ByteArray), (⟨#[97]⟩ : ByteArray), (⟨#[97, 97]⟩ : ByteArray), (⟨#[97, 98]⟩ : ByteArray)] : List ByteArray) 2 (by omega) (by omega) (by simp) (by simp) (by decide)
    obtain ⟨t', a', s', g1, g2, g3, K, g4⟩ := ih (t ++ u) a1 s1 (by omega) (by omega) (by omega) (by rw [size_app]; omega)
    refine ⟨t', a', s', g1, by omega, by omega, K + 1, fun k hk => ?_⟩
    obtain ⟨k, rfl⟩ : ∃ m, k = m + 1 := ⟨k - 1, by omega⟩
    simp only [spec_l1Cur_ab.l0]
    rw [if_pos (by omega), e]
    simp only [Option.bind_some]
    rw [if_pos (by omega), w64 (by omega) (by omega), show ((n + 1 : Nat) : Int) - 1 = (n : Int) by omega]
    exact g4 k (by omega)
theorem ab_ev {c : List Int} (hc : okCode c) (a s : Int) (h0 : 0 ≤ a) (h1 : a ≤ 1400000000000000000) :
    ∃ t' a' s', t'.size ≤ 1000 ∧ a ≤ a' ∧ a' ≤ a + 300 ∧ ∃ K, ∀ k, K ≤ k → spec_l1Cur_ab.f k c a s = some (t', a', s') := by
  obtain ⟨p1, a1, s1, e1, q1, q2, q3, q4⟩ := pick_ev hc a s 24 (by omega) (by omega) (by omega) (by omega)
  obtain ⟨m, rfl⟩ := Int.eq_ofNat_of_zero_le q1
  obtain ⟨t', a', s', g1, g2, g3, K, g4⟩ := ab_l hc m (⟨#[]⟩ : ByteArray) a1 s1 (by omega) (by omega) (by omega) (by simp [ByteArray.size]; omega)
  refine ⟨t', a', s', g1, by omega, by omega, K, fun k hk => ?_⟩
  unfold spec_l1Cur_ab.f
  rw [e1]
  exact g4 k hk
theorem sought2_ev {c : List Int} (hc : okCode c) (a s : Int) (h0 : 0 ≤ a) (h1 : a ≤ 1400000000000000000) (x y : ByteArray) (hx : x.size ≤ 2000000000) (hy : y.size ≤ 2000000000) :
    ∃ p t a' s', p.size ≤ 2000000000 ∧ t.size ≤ 2000000000 ∧ a ≤ a' ∧ a' ≤ a + 10 ∧ ∃ K, ∀ k, K ≤ k → spec_l1Cur_sought.j2 k x y c a s = some (p, t, a', s') := by
  obtain ⟨r, a1, s1, e1, h2, h3⟩ := one_ev hc a s 30 (by omega) (by omega) (by omega) (by omega)
  cases r with
  | false =>
    refine ⟨y, x, a1, s1, hy, hx, by omega, by omega, 1, fun k hk => ?_⟩
    obtain ⟨k, rfl⟩ : ∃ m, k = m + 1 := ⟨k - 1, by omega⟩
    simp only [spec_l1Cur_sought.j2]
    rw [e1]; simp
  | true =>
    obtain ⟨u, a2, s2, e, _, hu, h4, h5⟩ := of_ev hc a1 s1 ([(⟨#[]⟩ : ByteArray), (⟨#[90]⟩ : ByteArray)] : List ByteArray) 2 (by omega) (by omega) (by simp) (by simp) (by decide)
    refine ⟨u, x, a2, s2, by omega, hx, by omega, by omega, 1, fun k hk => ?_⟩
    obtain ⟨k, rfl⟩ : ∃ m, k = m + 1 := ⟨k - 1, by omega⟩
    simp only [spec_l1Cur_sought.j2]
    rw [e1]
    simp only [Option.bind_some, if_true]
    rw [e]; rfl
theorem sought1_ev {c : List Int} (hc : okCode c) (a s : Int) (h0 : 0 ≤ a) (h1 : a ≤ 1300000000000000000) (x y : ByteArray) (b : Bool) (hb : b = true → 0 < x.size) (hx : x.size ≤ 2000000000) (hy : y.size ≤ 2000000000) :
    ∃ p t a' s', p.size ≤ 2000000000 ∧ t.size ≤ 2000000000 ∧ a ≤ a' ∧ a' ≤ a + 20 ∧ ∃ K, ∀ k, K ≤ k → spec_l1Cur_sought.j1 k x y b c a s = some (p, t, a', s') := by
  cases b with
  | false =>
    obtain ⟨p, t, a', s', g1, g2, g3, g4, K, g5⟩ := sought2_ev hc a s h0 (by omega) x y hx hy
    refine ⟨p, t, a', s', g1, g2, g3, by omega, K + 1, fun k hk => ?_⟩
    obtain ⟨k, rfl⟩ : ∃ m, k = m + 1 := ⟨k - 1, by omega⟩
    simp only [spec_l1Cur_sought.j1]
    rw [if_neg (by simp)]
    exact g5 k (by omega)
  | true =>
    have hb := hb rfl
    obtain ⟨p1, a1, s1, e1, q1, q2, q3, q4⟩ := pick_ev hc a s (x.size : Int) (by omega) (by omega) (by omega) (by omega)
    obtain ⟨p2, a2, s2, e2, q5, q6, q7, q8⟩ := pick_ev hc a1 s1 5 (by omega) (by omega) (by omega) (by omega)
    by_cases c1 : 1 + p2 > (x.size : Int) - p1
    · have := ext_size x p1.toNat (p1 + ((x.size : Int) - p1)).toNat
      obtain ⟨p, t, a', s', g1, g2, g3, g4, K, g5⟩ := sought2_ev hc a2 s2 (by omega) (by omega) x (x.extract p1.toNat (p1 + ((x.size : Int) - p1)).toNat) hx (by omega)
      refine ⟨p, t, a', s', g1, g2, by omega, by omega, K + 1, fun k hk => ?_⟩
      obtain ⟨k, rfl⟩ : ∃ m, k = m + 1 := ⟨k - 1, by omega⟩
      simp only [spec_l1Cur_sought.j1, if_true]
      rw [e1]; simp only [Option.bind_some]
      rw [e2]; simp only [Option.bind_some]
      simp (disch := omega) only [w64, if_pos]
      exact g5 k (by omega)
    · have := ext_size x p1.toNat (p1 + (1 + p2)).toNat
      obtain ⟨p, t, a', s', g1, g2, g3, g4, K, g5⟩ := sought2_ev hc a2 s2 (by omega) (by omega) x (x.extract p1.toNat (p1 + (1 + p2)).toNat) hx (by omega)
      refine ⟨p, t, a', s', g1, g2, by omega, by omega, K + 1, fun k hk => ?_⟩
      obtain ⟨k, rfl⟩ : ∃ m, k = m + 1 := ⟨k - 1, by omega⟩
      simp only [spec_l1Cur_sought.j1, if_true]
      rw [e1]; simp only [Option.bind_some]
      rw [e2]; simp only [Option.bind_some]
      simp (disch := omega) only [w64, if_pos, if_neg]
      exact g5 k (by omega)
theorem sought0_ev {c : List Int} (hc : okCode c) (a s : Int) (h0 : 0 ≤ a) (h1 : a ≤ 1200000000000000000) (x : ByteArray) (hx : x.size ≤ 2000000000) :
    ∃ p t a' s', p.size ≤ 2000000000 ∧ t.size ≤ 2000000000 ∧ a ≤ a' ∧ a' ≤ a + 40 ∧ ∃ K, ∀ k, K ≤ k → spec_l1Cur_sought.j0 k x c a s = some (p, t, a', s') := by
  obtain ⟨u, a1, s1, e, _, hu, h4, h5⟩ := of_ev hc a s ([(⟨#[97]⟩ : ByteArray), (⟨#[97, 98]⟩ : ByteArray), (⟨#[97, 97]⟩ : ByteArray), (⟨#[97, 98, 97]⟩ : ByteArray), (⟨#[97, 98, 97, 98]⟩ : ByteArray), (⟨#[120]⟩ : ByteArray), (⟨#[65]⟩ : ByteArray)] : List ByteArray) 4 (by omega) (by omega) (by simp) (by simp) (by decide)
  by_cases c1 : (x.size : Int) > 0
  · obtain ⟨r, a2, s2, e2, h2, h3⟩ := one_ev hc a1 s1 2 (by omega) (by omega) (by omega) (by omega)
    obtain ⟨p, t, a', s', g1, g2, g3, g4, K, g5⟩ := sought1_ev hc a2 s2 (by omega) (by omega) x u r (fun _ => by omega) hx (by omega)
    refine ⟨p, t, a', s', g1, g2, by omega, by omega, K + 1, fun k hk => ?_⟩
    obtain ⟨k, rfl⟩ : ∃ m, k = m + 1 := ⟨k - 1, by omega⟩
    simp only [spec_l1Cur_sought.j0]
    rw [e]; simp only [Option.bind_some]
    rw [if_pos c1, e2]; simp only [Option.bind_some]
    exact g5 k (by omega)
  · obtain ⟨p, t, a', s', g1, g2, g3, g4, K, g5⟩ := sought1_ev hc a1 s1 (by omega) (by omega) x u false (by simp) hx (by omega)
    refine ⟨p, t, a', s', g1, g2, by omega, by omega, K + 1, fun k hk => ?_⟩
    obtain ⟨k, rfl⟩ : ∃ m, k = m + 1 := ⟨k - 1, by omega⟩
    simp only [spec_l1Cur_sought.j0]
    rw [e]; simp only [Option.bind_some]
    rw [if_neg c1]
    exact g5 k (by omega)
theorem sought_ev {c : List Int} (hc : okCode c) (a s : Int) (h0 : 0 ≤ a) (h1 : a ≤ 1000000000000000000) :
    ∃ p t a' s', p.size ≤ 2000000000 ∧ t.size ≤ 2000000000 ∧ a ≤ a' ∧ a' ≤ a + 3000000000 ∧ ∃ K, ∀ k, K ≤ k → spec_l1Cur_sought.f k c a s = some (p, t, a', s') := by
  obtain ⟨t1, a1, s1, x1, x2, x3, K1, x4⟩ := ab_ev hc a s h0 (by omega)
  obtain ⟨r, a2, s2, e2, h2, h3⟩ := one_ev hc a1 s1 4 (by omega) (by omega) (by omega) (by omega)
  cases r with
  | true =>
    obtain ⟨t3, a3, s3, y1, y2, y3, K2, y4⟩ := plainText_ev hc a2 s2 (by omega) (by omega)
    obtain ⟨p, t, a', s', g1, g2, g3, g4, K, g5⟩ := sought0_ev hc a3 s3 (by omega) (by omega) t3 (by omega)
    refine ⟨p, t, a', s', g1, g2, by omega, by omega, max K (max K1 K2), fun k hk => ?_⟩
    unfold spec_l1Cur_sought.f
    rw [x4 k (by omega)]; simp only [Option.bind_some]
    rw [e2]; simp only [Option.bind_some, if_true]
    rw [y4 k (by omega)]; simp only [Option.bind_some]
    exact g5 k (by omega)
  | false =>
    obtain ⟨p, t, a', s', g1, g2, g3, g4, K, g5⟩ := sought0_ev hc a2 s2 (by omega) (by omega) t1 (by omega)
    refine ⟨p, t, a', s', g1, g2, by omega, by omega, max K K1, fun k hk => ?_⟩
    unfold spec_l1Cur_sought.f
    rw [x4 k (by omega)]; simp only [Option.bind_some]
    rw [e2]; simp only [Option.bind_some]
    rw [if_neg (by simp)]
    exact g5 k (by omega)

theorem toList_data (s : ByteArray) : s.toList = s.data.toList := by
  have h : ∀ (n i : Nat) (r : List UInt8), s.size - i = n → ByteArray.toList.loop s i r = r.reverse ++ s.data.toList.drop i := by
    intro n
    induction n with
    | zero =>
      intro i r h
      unfold ByteArray.toList.loop
      rw [if_neg (by omega), List.drop_of_length_le (by rw [Array.length_toList]; show s.size ≤ i; omega)]; simp
    | succ n ih =>
      intro i r h
      have hi : i < s.size := by omega
      unfold ByteArray.toList.loop
      have e2 : s.data.toList.drop i = s.data.toList[i]'(by rw [Array.length_toList]; exact hi) :: s.data.toList.drop (i + 1) := List.drop_eq_getElem_cons (by rw [Array.length_toList]; exact hi)
      have e : s.get! i = s.data.toList[i]'(by rw [Array.length_toList]; exact hi) := by
        show s.data[i]! = _
        rw [getElem!_pos s.data i hi]; simp
      rw [if_pos hi, ih (i + 1) _ (by omega), e2, e, List.reverse_cons, List.append_assoc]; rfl
  unfold ByteArray.toList
  rw [h s.size 0 [] (by omega)]; simp
theorem bt_data (s : ByteArray) (i : Nat) (h : i < s.size) : bt s (i : Int) = ((s.data.toList[i]'(by rw [Array.length_toList]; exact h)).toNat : Int) := by
  unfold bt
  rw [dif_pos (by omega)]
  simp [ByteArray.getElem_eq_getElem_data]
theorem toList_eq_iff (a b : ByteArray) : a.toList = b.toList ↔ a.size = b.size ∧ ∀ j : Nat, j < a.size → bt a (j : Int) = bt b (j : Int) := by
  rw [toList_data, toList_data]
  constructor
  · intro h
    have hl : a.size = b.size := by
      have := congrArg List.length h
      rw [Array.length_toList, Array.length_toList] at this; exact this
    refine ⟨hl, fun j hj => ?_⟩
    rw [bt_data a j hj, bt_data b j (by omega)]
    simp only [h]
  · intro ⟨hl, h⟩
    apply List.ext_getElem
    · rw [Array.length_toList, Array.length_toList]; exact hl
    · intro j h1 h2
      rw [Array.length_toList] at h1 h2
      have := h j h1
      rw [bt_data a j h1, bt_data b j h2] at this
      have h3 : (a.data.toList[j]'(by rw [Array.length_toList]; exact h1)).toNat = (b.data.toList[j]'(by rw [Array.length_toList]; exact h2)).toNat := by omega
      exact UInt8.toNat_inj.mp h3
theorem bt_extract (s : ByteArray) (i j n : Nat) (hj : j ≤ s.size) (hn : i + n < j) : bt (s.extract i j) (n : Int) = bt s ((i + n : Nat) : Int) := by
  have h1 : n < (s.extract i j).size := by rw [ByteArray.size_extract]; omega
  unfold bt
  rw [dif_pos (by simpa using h1), dif_pos (by omega)]
  simp only [Int.toNat_natCast, ByteArray.getElem_extract]

def suf (p t : ByteArray) (i n : Nat) : Prop := n ≤ i ∧ ∀ j : Nat, j < n → bt p (j : Int) = bt t ((i - n + j : Nat) : Int)
instance (p t : ByteArray) (i n : Nat) : Decidable (suf p t i n) := by unfold suf; infer_instance
theorem suf_zero (p t : ByteArray) (i : Nat) : suf p t i 0 := ⟨Nat.zero_le _, fun j h => absurd h (Nat.not_lt_zero _)⟩
theorem suf_self (p : ByteArray) (i : Nat) : suf p p i i := ⟨Nat.le_refl _, fun j h => by rw [Nat.sub_self, Nat.zero_add]⟩
theorem suf_trans {p t : ByteArray} {i n m : Nat} (h : suf p t i n) (hm : m ≤ n) : suf p t i m ↔ suf p p n m := by
  have h1 := h.1
  constructor
  · intro g
    refine ⟨hm, fun j hj => ?_⟩
    rw [g.2 j hj, h.2 (n - m + j) (by omega)]
    congr 2; omega
  · intro g
    refine ⟨by omega, fun j hj => ?_⟩
    rw [g.2 j hj, h.2 (n - m + j) (by omega)]
    congr 2; omega
theorem suf_succ {p t : ByteArray} {i n : Nat} : suf p t (i + 1) (n + 1) ↔ suf p t i n ∧ bt p (n : Int) = bt t (i : Int) := by
  constructor
  · intro h
    have h1 := h.1
    refine ⟨⟨by omega, fun j hj => ?_⟩, ?_⟩
    · rw [h.2 j (by omega)]; congr 2; omega
    · rw [h.2 n (by omega)]; congr 2; omega
  · intro ⟨h, e⟩
    have h1 := h.1
    refine ⟨by omega, fun j hj => ?_⟩
    by_cases c : j = n
    · rw [c, e]; congr 2; omega
    · rw [h.2 j (by omega)]; congr 2; omega
def LMB (p t : ByteArray) (i B n : Nat) : Prop := suf p t i n ∧ n < B ∧ ∀ m : Nat, m < B → suf p t i m → m ≤ n
def TabOK (p : ByteArray) (bs : List Int) (m0 : Nat) : Prop := ∀ m : Nat, 1 ≤ m → m ≤ m0 → ∃ b : Nat, rd bs ((m : Int) - 1) = (b : Int) ∧ LMB p p m m b
theorem fall_spec {p t : ByteArray} {i : Nat} {bs : List Int} (x : Int) : ∀ (d n : Nat), n ≤ d → TabOK p bs n → suf p t i n →
    ∃ r : Nat, fallM p x bs d (n : Int) = (r : Int) ∧ suf p t i r ∧ r ≤ n ∧ (r = 0 ∨ bt p (r : Int) = x) ∧ ∀ m : Nat, m ≤ n → suf p t i m → bt p (m : Int) = x → m ≤ r := by
  intro d
  induction d with
  | zero =>
    intro n hn ht hs
    have : n = 0 := by omega
    subst this
    exact ⟨0, rfl, hs, by omega, Or.inl rfl, fun m h _ _ => h⟩
  | succ d ih =>
    intro n hn ht hs
    simp only [fallM]
    by_cases c : 0 < (n : Int) ∧ ¬ bt p (n : Int) = x
    · rw [if_pos c]
      obtain ⟨b, hb, hL⟩ := ht n (by omega) (Nat.le_refl _)
      have h2 := hL.2.1
      rw [hb]
      obtain ⟨r, h1, g2, g3, g4, g5⟩ := ih b (by omega) (fun m h1 h2 => ht m h1 (by omega)) ((suf_trans hs (by omega)).mpr hL.1)
      refine ⟨r, h1, g2, by omega, g4, fun m hm hsm hx => ?_⟩
      have hne : m ≠ n := fun e => c.2 (e ▸ hx)
      exact g5 m (hL.2.2 m (by omega) ((suf_trans hs (by omega)).mp hsm)) hsm hx
    · rw [if_neg c]
      refine ⟨n, rfl, hs, Nat.le_refl _, ?_, fun m h _ _ => h⟩
      by_cases e : n = 0
      · exact Or.inl e
      · right
        by_cases g : bt p (n : Int) = x
        · exact g
        · exact absurd ⟨by omega, g⟩ c
theorem step_spec {p t : ByteArray} {i B n : Nat} {bs : List Int} (hL : LMB p t i B n) (ht : TabOK p bs n) (d : Nat) (hd : n ≤ d) :
    ∃ r : Nat, stepM p (bt t (i : Int)) (fallM p (bt t (i : Int)) bs d (n : Int)) = (r : Int) ∧ r ≤ n + 1 ∧ LMB p t (i + 1) (B + 1) r := by
  obtain ⟨r, h1, h2, h3, h4, h5⟩ := fall_spec (bt t (i : Int)) d n hd ht hL.1
  have hB := hL.2.1
  rw [h1]
  unfold stepM
  by_cases c : bt p (r : Int) = bt t (i : Int)
  · rw [if_pos c]
    refine ⟨r + 1, by omega, by omega, suf_succ.mpr ⟨h2, c⟩, by omega, fun m hm hs => ?_⟩
    cases m with
    | zero => omega
    | succ m =>
      have := suf_succ.mp hs
      have := h5 m (hL.2.2 m (by omega) this.1) this.1 this.2
      omega
  · rw [if_neg c]
    have h0 : r = 0 := by
      rcases h4 with h | h
      · exact h
      · exact absurd h c
    subst h0
    refine ⟨0, by omega, by omega, suf_zero _ _ _, by omega, fun m hm hs => ?_⟩
    cases m with
    | zero => omega
    | succ m =>
      have g := suf_succ.mp hs
      have := h5 m (hL.2.2 m (by omega) g.1) g.1 g.2
      have : m = 0 := by omega
      subst this
      exact absurd g.2 c
theorem bordsM_tab (p : ByteArray) : ∀ (d i : Nat) (bs : List Int), 0 < i → i + d = p.size → bs.length = p.size → TabOK p bs i → TabOK p (bordsM p d i bs) p.size := by
  intro d
  induction d with
  | zero => intro i bs h0 h1 h2 h3; simp only [bordsM]; have : i = p.size := by omega
            rw [← this]; exact h3
  | succ d ih =>
    intro i bs h0 h1 h2 h3
    simp only [bordsM]
    obtain ⟨b, hb, hL⟩ := h3 i (by omega) (Nat.le_refl _)
    have hlt := hL.2.1
    obtain ⟨r, e1, e2, e3⟩ := step_spec hL (fun m g1 g2 => h3 m g1 (by omega)) i (by omega)
    have he : bordM p bs i = (r : Int) := by unfold bordM; rw [hb, e1]
    refine ih (i + 1) _ (by omega) (by omega) (by simpa using h2) (fun m g1 g2 => ?_)
    rw [he, show ((m : Int) - 1) = ((m - 1 : Nat) : Int) by omega, rd_set (by omega)]
    by_cases c : m = i + 1
    · subst c
      rw [if_pos (by omega)]
      exact ⟨r, rfl, e3⟩
    · rw [if_neg (by omega)]
      obtain ⟨b', hb', hL'⟩ := h3 m g1 (by omega)
      rw [show ((m : Int) - 1) = ((m - 1 : Nat) : Int) by omega] at hb'
      exact ⟨b', hb', hL'⟩
theorem bords_tab (p : ByteArray) (h : 0 < p.size) : TabOK p (bords p) p.size := by
  refine bordsM_tab p (p.size - 1) 1 _ (by omega) (by omega) (by simp) (fun m g1 g2 => ?_)
  have : m = 1 := by omega
  subst this
  refine ⟨0, ?_, suf_zero _ _ _, by omega, fun m hm _ => by omega⟩
  have := (InvM.zeros p.size) 0 (by omega)
  simp only [Int.cast_ofNat_Int] at this
  simp only [Int.cast_ofNat_Int, Int.sub_self]
  omega

theorem laws_sameInts_l (a : List Int) (ha : a.length ≤ 1000000000) : ∀ (d i : Nat), i + d = a.length →
    ∃ K, ∀ k, K ≤ k → laws_sameInts.l0 k a a (a.length : Int) (i : Int) = some true := by
  intro d
  induction d with
  | zero =>
    intro i hi
    refine ⟨1, fun k hk => ?_⟩
    obtain ⟨k, rfl⟩ : ∃ m, k = m + 1 := ⟨k - 1, by omega⟩
    simp only [laws_sameInts.l0]
    rw [if_neg (by omega)]
  | succ d ih =>
    intro i hi
    obtain ⟨K, hK⟩ := ih (i + 1) (by omega)
    refine ⟨K + 1, fun k hk => ?_⟩
    obtain ⟨k, rfl⟩ : ∃ m, k = m + 1 := ⟨k - 1, by omega⟩
    have hr := hK k (by omega)
    rw [show ((i + 1 : Nat) : Int) = (i : Int) + 1 by omega] at hr
    simp only [laws_sameInts.l0]
    simp (disch := omega) only [w64, if_pos]
    exact hr
theorem laws_sameInts_ev (a : List Int) (ha : a.length ≤ 1000000000) : ∃ K, ∀ k, K ≤ k → laws_sameInts.f k a a = some true := by
  obtain ⟨K, hK⟩ := laws_sameInts_l a ha a.length 0 (by omega)
  refine ⟨K, fun k hk => ?_⟩
  unfold laws_sameInts.f
  rw [if_pos rfl]
  exact hK k hk

theorem border_iff (p : ByteArray) (m n : Nat) (hm : m ≤ p.size) (hn : n ≤ m) : ((p.extract 0 m).extract 0 n).toList = ((p.extract 0 m).extract (m - n) m).toList ↔ suf p p m n := by
  have hq : (p.extract 0 m).size = m := by rw [ByteArray.size_extract]; omega
  rw [toList_eq_iff]
  have h1 : ((p.extract 0 m).extract 0 n).size = n := by rw [ByteArray.size_extract, hq]; omega
  have h2 : ((p.extract 0 m).extract (m - n) m).size = n := by rw [ByteArray.size_extract, hq]; omega
  rw [h1, h2]
  have e1 : ∀ j : Nat, j < n → bt ((p.extract 0 m).extract 0 n) (j : Int) = bt p (j : Int) := by
    intro j hj
    rw [bt_extract _ 0 n j (by omega) (by omega), bt_extract _ 0 m _ hm (by omega)]; congr 2; omega
  have e2 : ∀ j : Nat, j < n → bt ((p.extract 0 m).extract (m - n) m) (j : Int) = bt p ((m - n + j : Nat) : Int) := by
    intro j hj
    rw [bt_extract _ (m - n) m j (by omega) (by omega), bt_extract _ 0 m _ hm (by omega)]; congr 2; omega
  constructor
  · intro ⟨_, g⟩
    exact ⟨hn, fun j hj => by have := g j hj; rw [e1 j hj, e2 j hj] at this; exact this⟩
  · intro g
    exact ⟨rfl, fun j hj => by rw [e1 j hj, e2 j hj]; exact g.2 j hj⟩
theorem laws_FnBorders_p (p : ByteArray) (hp : 0 < p.size) (hp2 : p.size ≤ 300) (b : Nat) (hb : rd (bords p) ((p.size : Int) - 1) = (b : Int)) (hL : LMB p p p.size p.size b) : ∀ (d i : Nat), i + d = p.size → p.size - b ≤ i →
    ∃ K, ∀ k, K ≤ k → laws_FnBorders.l2 k p (bords p) ((p.size : Int) - (b : Int)) (i : Int) = some true := by
  have hlt := hL.2.1
  have hlen := bords_length p
  intro d
  induction d with
  | zero =>
    intro i hi h1
    refine ⟨1, fun k hk => ?_⟩
    obtain ⟨k, rfl⟩ : ∃ m, k = m + 1 := ⟨k - 1, by omega⟩
    simp only [laws_FnBorders.l2]
    simp (disch := omega) only [w64, if_neg, if_pos, hb]
    simp
  | succ d ih =>
    intro i hi h1
    obtain ⟨K, hK⟩ := ih (i + 1) (by omega) (by omega)
    refine ⟨K + 1, fun k hk => ?_⟩
    obtain ⟨k, rfl⟩ : ∃ m, k = m + 1 := ⟨k - 1, by omega⟩
    have hk' := hK k (by omega)
    rw [show ((i + 1 : Nat) : Int) = (i : Int) + 1 by omega] at hk'
    have e := hL.1.2 (i - (p.size - b)) (by omega)
    rw [show p.size - b + (i - (p.size - b)) = i by omega] at e
    have e2 : bt p (i : Int) = bt p ((i : Int) - ((p.size : Int) - (b : Int))) := by rw [← e]; congr 1; omega
    simp only [laws_FnBorders.l2]
    simp (disch := omega) only [w64, if_pos]
    exact hk'
theorem laws_FnBorders_k (p : ByteArray) (hp : 0 < p.size) (hp2 : p.size ≤ 300) (per : Int) (i b : Nat) (hi : i < p.size) (hL : LMB p p (i + 1) (i + 1) b) (r : Bool)
    (H : ∃ K, ∀ k, K ≤ k → laws_FnBorders.l0 k p (bords p) per (bords p) (p.size : Int) ((i : Int) + 1) = some r) : ∀ (d k0 : Nat), k0 + d = i + 1 → b < k0 →
    ∃ K, ∀ k, K ≤ k → laws_FnBorders.l1 k p (bords p) per (i : Int) (p.extract 0 (i + 1)) (k0 : Int) (bords p) (p.size : Int) (i : Int) = some r := by
  have hq : (p.extract 0 (i + 1)).size = i + 1 := by rw [ByteArray.size_extract]; omega
  intro d
  induction d with
  | zero =>
    intro k0 hk0 hb
    obtain ⟨K, hK⟩ := H
    refine ⟨K + 1, fun k hk => ?_⟩
    obtain ⟨k, rfl⟩ : ∃ m, k = m + 1 := ⟨k - 1, by omega⟩
    have hk' := hK k (by omega)
    simp only [laws_FnBorders.l1]
    simp (disch := omega) only [w64, if_neg]
    exact hk'
  | succ d ih =>
    intro k0 hk0 hb
    obtain ⟨K, hK⟩ := ih (k0 + 1) (by omega) (by omega)
    refine ⟨K + 1, fun k hk => ?_⟩
    obtain ⟨k, rfl⟩ : ∃ m, k = m + 1 := ⟨k - 1, by omega⟩
    have hk' := hK k (by omega)
    rw [show ((k0 + 1 : Nat) : Int) = (k0 : Int) + 1 by omega] at hk'
    simp only [laws_FnBorders.l1]
    simp (disch := omega) only [w64, if_pos]
    have hne : ¬ ((p.extract 0 (i + 1)).extract 0 k0).toList = ((p.extract 0 (i + 1)).extract (i + 1 - k0) (i + 1)).toList := by
      rw [border_iff p (i + 1) k0 (by omega) (by omega)]
      intro h
      have := hL.2.2 k0 (by omega) h
      omega
    rw [hq, show ((i + 1 : Nat) : Int) - (k0 : Int) = ((i + 1 - k0 : Nat) : Int) by omega, Int.toNat_natCast, Int.toNat_natCast, if_neg hne]
    exact hk'
theorem laws_FnBorders_i (p : ByteArray) (hp : 0 < p.size) (hp2 : p.size ≤ 300) (b : Nat) (hb : rd (bords p) ((p.size : Int) - 1) = (b : Int)) (hL : LMB p p p.size p.size b) : ∀ (d i : Nat), i + d = p.size →
    ∃ K, ∀ k, K ≤ k → laws_FnBorders.l0 k p (bords p) ((p.size : Int) - (b : Int)) (bords p) (p.size : Int) (i : Int) = some true := by
  have hlt := hL.2.1
  have hlen := bords_length p
  have hT := bords_tab p hp
  intro d
  induction d with
  | zero =>
    intro i hi
    obtain ⟨K, hK⟩ := laws_FnBorders_p p hp hp2 b hb hL b (p.size - b) (by omega) (by omega)
    refine ⟨K + 1, fun k hk => ?_⟩
    obtain ⟨k, rfl⟩ : ∃ m, k = m + 1 := ⟨k - 1, by omega⟩
    have hk' := hK k (by omega)
    rw [show ((p.size - b : Nat) : Int) = (p.size : Int) - (b : Int) by omega] at hk'
    simp only [laws_FnBorders.l0]
    rw [if_neg (by omega)]
    exact hk'
  | succ d ih =>
    intro i hi
    have hI := ih (i + 1) (by omega)
    rw [show ((i + 1 : Nat) : Int) = (i : Int) + 1 by omega] at hI
    obtain ⟨c, hc, hLc⟩ := hT (i + 1) (by omega) (by omega)
    rw [show ((i + 1 : Nat) : Int) - 1 = (i : Int) by omega] at hc
    have hc1 := hLc.2.1
    obtain ⟨K, hK⟩ := laws_FnBorders_k p hp hp2 ((p.size : Int) - (b : Int)) i c (by omega) hLc true hI (i - c) (c + 1) (by omega) (by omega)
    refine ⟨K + 2, fun k hk => ?_⟩
    obtain ⟨k, rfl⟩ : ∃ m, k = m + 2 := ⟨k - 2, by omega⟩
    have hk' := hK k (by omega)
    rw [show ((c + 1 : Nat) : Int) = (c : Int) + 1 by omega] at hk'
    have hq : (p.extract 0 (i + 1)).size = i + 1 := by rw [ByteArray.size_extract]; omega
    have hx : ((i : Int) + 1).toNat = i + 1 := by omega
    simp only [laws_FnBorders.l0]
    simp (disch := omega) only [w64, if_pos, if_neg, hc, hx, hq]
    have heq : (((p.extract 0 (i + 1)).extract 0 c).toList != ((p.extract 0 (i + 1)).extract (i + 1 - c) (i + 1)).toList) = false := by
      rw [bne_eq_false_iff_eq]; exact (border_iff p (i + 1) c (by omega) (by omega)).mpr hLc.1
    rw [show ((i + 1 : Nat) : Int) - (c : Int) = ((i + 1 - c : Nat) : Int) by omega, Int.toNat_natCast, Int.toNat_natCast, heq]
    simp only [laws_FnBorders.j2, Bool.false_eq_true, if_false]
    rw [w64 (by omega) (by omega)]
    exact hk'
theorem DrawBordersOf_ev {l : List Int} (hc : okCode l) : ∃ p, p.size ≤ 2000000000 ∧ ∃ K, ∀ k, K ≤ k → spec_DrawBordersOf.f k l = some p := by
  obtain ⟨r, a1, s1, e1, h2, h3⟩ := one_ev hc 0 0 4 (by omega) (by omega) (by omega) (by omega)
  cases r with
  | true =>
    obtain ⟨p, s, a', s', g1, g2, g3, g4, K, g5⟩ := sought_ev hc a1 s1 (by omega) (by omega)
    refine ⟨p, g1, K, fun k hk => ?_⟩
    unfold spec_DrawBordersOf.f
    rw [e1]; simp only [Option.bind_some, if_true]
    rw [g5 k hk]; rfl
  | false =>
    obtain ⟨p, a', s', g1, g3, g4, K, g5⟩ := ab_ev hc a1 s1 (by omega) (by omega)
    refine ⟨p, by omega, K, fun k hk => ?_⟩
    unfold spec_DrawBordersOf.f
    rw [e1]; simp only [Option.bind_some]
    rw [if_neg (by simp), g5 k hk]; rfl
theorem FnBorders : laws_FnBorders.Pure := by
  intro l hl hl2 hw
  have hc := okCode_of hw
  obtain ⟨p, h1, K0, h5⟩ := DrawBordersOf_ev hc
  by_cases hbig : (l.length : Int) > 1048576
  · refine ⟨0, ?_⟩
    unfold laws_FnBorders.f
    rw [if_pos hbig]
  obtain ⟨K1, g1⟩ := impl_GoodText_ev p (by omega)
  obtain ⟨K2, g2⟩ := spec_GoodText_ev p (by omega)
  obtain ⟨K5, g5⟩ := laws_sameInts_ev [] (by simp)
  by_cases hz : p.size = 0
  · have hn := (toList_nil p).mpr hz
    refine ⟨max K0 K5 + 1, ?_⟩
    unfold laws_FnBorders.f
    rw [if_neg hbig, h5 _ (by omega)]
    simp [impl_BordersOf.f, impl_PeriodOf.f, spec_BordersOf.f, impl_isSought.f, hn, g5 _ (by omega : K5 ≤ max K0 K5 + 1), laws_FnBorders.j0]
  have hn : ¬ p.toList = [] := fun h => hz ((toList_nil p).mp h)
  cases ht : textB p with
  | false =>
    refine ⟨max (max K0 K5) (max K1 K2) + 1, ?_⟩
    generalize hM : max (max K0 K5) (max K1 K2) + 1 = M
    obtain ⟨M, rfl⟩ : ∃ m, M = m + 1 := ⟨M - 1, by omega⟩
    unfold laws_FnBorders.f
    rw [if_neg hbig, h5 _ (by omega)]
    simp [impl_BordersOf.f, impl_PeriodOf.f, spec_BordersOf.f, impl_isSought.f, hn, g5 _ (by omega : K5 ≤ M + 1), g1 _ (by omega : K1 ≤ M + 1), g2 _ (by omega : K2 ≤ M + 1), ht, laws_FnBorders.j0]
  | true =>
    have hp2 := textB_size ht
    have hp : 0 < p.size := by omega
    obtain ⟨K3, g3⟩ := impl_borders_ev p hp2 hp
    obtain ⟨K4, g4⟩ := spec_l11Borders_ev p hp2 hp
    have hlen := bords_length p
    obtain ⟨K6, g6⟩ := laws_sameInts_ev (bords p) (by omega)
    obtain ⟨b, hb, hL⟩ := bords_tab p hp p.size (by omega) (by omega)
    have hlt := hL.2.1
    obtain ⟨K7, g7⟩ := laws_FnBorders_i p hp hp2 b hb hL p.size 0 (by omega)
    refine ⟨max (max K0 K7) (max (max K1 K2) (max (max K3 K4) K6)) + 1, ?_⟩
    generalize hM : max (max K0 K7) (max (max K1 K2) (max (max K3 K4) K6)) = M
    have e1 := g1 (M + 1) (by omega)
    have e2 := g2 (M + 1) (by omega)
    have e3 := g3 (M + 1) (by omega)
    have e4 := g4 (M + 1) (by omega)
    have e6 := g6 (M + 1) (by omega)
    have e7 := g7 M (by omega)
    have hper : impl_PeriodOf.f (M + 1) p = some ((p.size : Int) - (b : Int), true) := by
      unfold impl_PeriodOf.f impl_isSought.f
      rw [if_neg hn, e1, ht]; simp only [Option.bind_some, if_true]
      rw [e3]; simp only [Option.bind_some]
      simp (disch := omega) only [w64, if_pos, hb]
    have hbi : impl_BordersOf.f (M + 1) p = some (bords p, true) := by
      unfold impl_BordersOf.f impl_isSought.f
      rw [if_neg hn, e1, ht]; simp only [Option.bind_some, if_true]
      rw [e3]; rfl
    have hbs : spec_BordersOf.f (M + 1) p = some (bords p, true) := by
      unfold spec_BordersOf.f
      rw [if_neg hn, e2, ht]; simp only [Option.bind_some, if_true]
      rw [e4]; rfl
    unfold laws_FnBorders.f
    rw [if_neg hbig, h5 _ (by omega)]; simp only [Option.bind_some]
    rw [hbi]; simp only [Option.bind_some]
    rw [hbs]; simp only [Option.bind_some]
    rw [hper]; simp only [Option.bind_some]
    rw [e6]
    simp only [Option.bind_some, if_true, bne_self_eq_false, Bool.false_eq_true, if_false, laws_FnBorders.j0]
    rw [show ((bords p).length : Int) = (p.size : Int) by omega]
    exact e7

end Go.Proofs.Ytibedlbjkaikiaa.Pure
