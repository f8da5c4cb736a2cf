/- EditsOf of the program answers as the reference's, for all texts. -/
import Derived.Test.YtnpnhdkchnfdlaaAFnExactEditsOfx5
set_option linter.unusedVariables false
set_option linter.unusedSimpArgs false
namespace Go.Proofs.Ytnpnhdkchnfdlaa.Pure
open Go.RowKit Go.Proofs.Ytnpnhdkchnfdlaa.AFnExactEditsOf Go.Proofs.YtnpnhdkchnfdlaaW.PrintWords Go.Proofs.YtnpnhdkchnfdlaaW.PrintLast Go.Proofs.YtnpnhdkchnfdlaaW.PrintMore

theorem w64 {i : Int} (h0 : -4611686018427387904 ≤ i) (h : i ≤ 4611686018427387904) : wrap64 i = i := by
  unfold wrap64; omega

def nmB (c : Int) : Bool := decide (65 ≤ c) && decide (c ≤ 70)
def plB (c : Int) : Bool := (decide (97 ≤ c) && decide (c ≤ 122)) || ((decide (48 ≤ c) && decide (c ≤ 57)) || (decide (c = 32) || (decide (c = 46) || decide (c = 44))))
def okB (c : Int) : Bool := nmB c || (plB c || decide (c = 47))
def okN (s : ByteArray) : Nat → Nat → Bool
  | 0, _ => true
  | d + 1, i => okB (bt s i) && okN s d (i + 1)
def textB (s : ByteArray) : Bool := okN s s.size 0 && decide (s.size ≤ 300)

theorem textB_size {s : ByteArray} (h : textB s = true) : s.size ≤ 300 := by
  unfold textB at h; simp at h; exact h.2

theorem impl_isName_eq (c : Int) : impl_isName.f c = some (nmB c) := by
  unfold impl_isName.f nmB
  by_cases h1 : c ≥ 65 <;> simp [h1] <;> omega
theorem impl_isPlain_eq (c : Int) : impl_isPlain.f c = some (plB c) := by
  unfold impl_isPlain.f plB
  by_cases h1 : 97 ≤ c <;> by_cases h2 : c ≤ 122 <;> by_cases h3 : 48 ≤ c <;> by_cases h4 : c ≤ 57 <;> by_cases h5 : c = 32 <;> by_cases h6 : c = 46 <;> simp [h1, h2, h3, h4, h5, h6] <;> rfl
theorem impl_GoodText_l (s : ByteArray) (hs : s.size ≤ 140737488351232) : ∀ (d i : Nat), i + d = s.size →
    ∃ K, ∀ k, K ≤ k → impl_GoodText.l0 k s (s.size : Int) (i : Int) = some (okN s d i && decide (s.size ≤ 300)) := by
  intro d
  induction d with
  | zero =>
    intro i hi
    refine ⟨1, fun k hk => ?_⟩
    obtain ⟨k, rfl⟩ : ∃ m, k = m + 1 := ⟨k - 1, by omega⟩
    simp only [impl_GoodText.l0]
    rw [if_neg (by omega)]
    simp [okN]
    omega
  | succ d ih =>
    intro i hi
    obtain ⟨K, hK⟩ := ih (i + 1) (by omega)
    refine ⟨K + 1, fun k hk => ?_⟩
    obtain ⟨k, rfl⟩ : ∃ m, k = m + 1 := ⟨k - 1, by omega⟩
    have hr := hK k (by omega)
    simp only [impl_GoodText.l0]
    rw [if_pos (by omega), if_pos (by omega), if_pos (by omega), impl_isName_eq, Option.bind_some, impl_isPlain_eq, Option.bind_some, w64 (by omega) (by omega)]
    have hc : ((i : Int) + 1) = ((i + 1 : Nat) : Int) := by omega
    rw [hc, hr]
    show _ = some ((okB (bt s i) && okN s d (i + 1)) && _)
    unfold okB
    cases nmB (bt s i) <;> cases plB (bt s i) <;> by_cases h : bt s i = 47 <;> simp [h]
theorem impl_GoodText_ev (s : ByteArray) (hs : s.size ≤ 140737488351232) : ∃ K, ∀ k, K ≤ k → impl_GoodText.f k s = some (textB s) := by
  obtain ⟨K, hK⟩ := impl_GoodText_l s hs s.size 0 (by omega)
  exact ⟨K, fun k hk => by unfold impl_GoodText.f; exact hK k hk⟩

theorem spec_l1Open_eq (c : Int) : spec_l1Open.f c = some (nmB c) := by
  unfold spec_l1Open.f nmB
  by_cases h1 : c ≥ 65 <;> simp [h1] <;> omega
theorem spec_l1Plain_eq (c : Int) : spec_l1Plain.f c = some (plB c) := by
  unfold spec_l1Plain.f plB
  by_cases h1 : 97 ≤ c <;> by_cases h2 : c ≤ 122 <;> by_cases h3 : 48 ≤ c <;> by_cases h4 : c ≤ 57 <;> by_cases h5 : c = 32 <;> by_cases h6 : c = 46 <;> simp [h1, h2, h3, h4, h5, h6] <;> rfl
theorem spec_l1Text_l (s : ByteArray) (hs : s.size ≤ 140737488351232) : ∀ (d i : Nat), i + d = s.size →
    ∃ K, ∀ k, K ≤ k → spec_l1Text.l0 k s (i : Int) = some (okN s d i) := by
  intro d
  induction d with
  | zero =>
    intro i hi
    refine ⟨1, fun k hk => ?_⟩
    obtain ⟨k, rfl⟩ : ∃ m, k = m + 1 := ⟨k - 1, by omega⟩
    simp only [spec_l1Text.l0]
    rw [if_neg (by omega)]
    simp [okN]
  | succ d ih =>
    intro i hi
    obtain ⟨K, hK⟩ := ih (i + 1) (by omega)
    refine ⟨K + 1, fun k hk => ?_⟩
    obtain ⟨k, rfl⟩ : ∃ m, k = m + 1 := ⟨k - 1, by omega⟩
    have hr := hK k (by omega)
    simp only [spec_l1Text.l0]
    rw [if_pos (by omega), if_pos (by omega), spec_l1Open_eq, Option.bind_some, spec_l1Plain_eq, Option.bind_some, w64 (by omega) (by omega)]
    have hc : ((i : Int) + 1) = ((i + 1 : Nat) : Int) := by omega
    rw [hc, hr]
    show _ = some (okB (bt s i) && okN s d (i + 1))
    unfold okB
    cases nmB (bt s i) <;> cases plB (bt s i) <;> by_cases h : bt s i = 47 <;> simp [h]
theorem spec_GoodText_ev (s : ByteArray) (hs : s.size ≤ 140737488351232) : ∃ K, ∀ k, K ≤ k → spec_GoodText.f k s = some (textB s) := by
  obtain ⟨K, hK⟩ := spec_l1Text_l s hs s.size 0 (by omega)
  refine ⟨K, fun k hk => ?_⟩
  have h := hK k hk
  unfold spec_GoodText.f spec_l1Text.f
  simp only [Int.cast_ofNat_Int] at h
  rw [h, Option.bind_some]
  unfold textB
  cases okN s s.size 0 <;> simp <;> omega

theorem impl_areTexts_ev (a b : ByteArray) (ha : a.size ≤ 140737488351232) (hb : b.size ≤ 140737488351232) : ∃ K, ∀ k, K ≤ k → impl_areTexts.f k a b = some (textB a && textB b) := by
  obtain ⟨K, hK⟩ := impl_GoodText_ev a ha
  obtain ⟨K', hK'⟩ := impl_GoodText_ev b hb
  refine ⟨max K K', fun k hk => ?_⟩
  have h1 := hK k (by omega)
  have h2 := hK' k (by omega)
  unfold impl_areTexts.f
  rw [h1, Option.bind_some, h2, Option.bind_some]
  cases textB a <;> simp
theorem spec_l9Texts_ev (a b : ByteArray) (ha : a.size ≤ 140737488351232) (hb : b.size ≤ 140737488351232) : ∃ K, ∀ k, K ≤ k → spec_l9Texts.f k a b = some (textB a && textB b) := by
  obtain ⟨K, hK⟩ := spec_GoodText_ev a ha
  obtain ⟨K', hK'⟩ := spec_GoodText_ev b hb
  refine ⟨max K K', fun k hk => ?_⟩
  have h1 := hK k (by omega)
  have h2 := hK' k (by omega)
  unfold spec_l9Texts.f
  rw [h1, Option.bind_some, h2, Option.bind_some]
  cases textB a <;> simp

def edr (f : Nat → Nat) (i : Nat) (x : Nat → Bool) : Nat → Nat
  | 0 => i + 1
  | j + 1 => min (min (if x j = true then f j else f j + 1) (f (j + 1) + 1)) (edr f i x j + 1)
def ed (a b : ByteArray) : Nat → Nat → Nat
  | 0, j => j
  | i + 1, j => edr (ed a b i) i (fun j => decide (bt a (i : Int) = bt b (j : Int))) j
theorem ed_le (a b : ByteArray) : ∀ (i j : Nat), ed a b i j ≤ i + j := by
  intro i
  induction i with
  | zero => intro j; simp [ed]
  | succ i ih =>
    intro j
    induction j with
    | zero => simp [ed, edr]
    | succ j jh =>
      have := ih j
      simp only [ed, edr] at *
      omega
theorem ed_step (a b : ByteArray) (i j : Nat) : ed a b (i + 1) (j + 1) = min (min (if bt a (i : Int) = bt b (j : Int) then ed a b i j else ed a b i j + 1) (ed a b i (j + 1) + 1)) (ed a b (i + 1) j + 1) := by
  simp only [ed, edr, decide_eq_true_eq]
theorem ed_zero (a b : ByteArray) (i : Nat) : ed a b i 0 = i := by cases i <;> simp [ed, edr]
theorem erd_set {bs : List Int} {i : Nat} {v : Int} (h : i < bs.length) (j : Nat) : rd (bs.set i v) (j : Int) = if j = i then v else rd bs (j : Int) := by
  unfold rd
  simp only [Int.toNat_natCast, List.getD_eq_getElem?_getD]
  by_cases e : j = i
  · subst e; simp [h]
  · rw [List.getElem?_set_ne (by omega)]; simp [e]
theorem erd_app {bs : List Int} {v : Int} (j : Nat) : rd (bs ++ [v]) (j : Int) = if j < bs.length then rd bs (j : Int) else if j = bs.length then v else 0 := by
  unfold rd
  simp only [Int.toNat_natCast, List.getD_eq_getElem?_getD]
  by_cases e : j < bs.length
  · rw [if_pos e, List.getElem?_append_left e]
  · rw [if_neg e, List.getElem?_append_right (by omega)]
    by_cases e2 : j = bs.length
    · simp [e2]
    · rw [if_neg e2, List.getElem?_eq_none (by simp; omega)]; rfl
theorem impl_EditsOf_in (a b : ByteArray) (ha : a.size ≤ 300) (hb : b.size ≤ 300) (i : Nat) (hi : i < a.size) (row : List Int) (hl : row.length = b.size + 1) (hr : ∀ j : Nat, j ≤ b.size → rd row (j : Int) = (ed a b i j : Int)) (r : Int × Bool)
    (H : ∀ t : List Int, t.length = b.size + 1 → (∀ j : Nat, j ≤ b.size → rd t (j : Int) = (ed a b (i + 1) j : Int)) → ∃ K, ∀ k, K ≤ k → impl_EditsOf.l1 k a b t (a.size : Int) ((i : Int) + 1) = some r) :
    ∀ (d j : Nat) (nx : List Int), j + d = b.size → nx.length = j + 1 → (∀ q : Nat, q ≤ j → rd nx (q : Int) = (ed a b (i + 1) q : Int)) →
      ∃ K, ∀ k, K ≤ k → impl_EditsOf.l2 k a b row (i : Int) nx (a.size : Int) (i : Int) (b.size : Int) (j : Int) = some r := by
  intro d
  induction d with
  | zero =>
    intro j nx hj hn hq
    obtain ⟨K, hK⟩ := H nx (by omega) (fun q h => hq q (by omega))
    refine ⟨K + 1, fun k hk => ?_⟩
    obtain ⟨k, rfl⟩ : ∃ m, k = m + 1 := ⟨k - 1, by omega⟩
    have hk' := hK k (by omega)
    simp only [impl_EditsOf.l2]
    simp (disch := omega) only [w64, if_neg]
    exact hk'
  | succ d ih =>
    intro j nx hj hn hq
    have hs := ed_step a b i j
    have b1 := ed_le a b i j
    have b2 := ed_le a b i (j + 1)
    have b3 := ed_le a b (i + 1) j
    have v1 := hr j (by omega)
    have v2 := hr (j + 1) (by omega)
    have v3 := hq j (by omega)
    obtain ⟨K, hK⟩ := ih (j + 1) (nx ++ [(ed a b (i + 1) (j + 1) : Int)]) (by omega) (by simp [hn]) (fun q h => by
      rw [erd_app, hn]
      by_cases e : q < j + 1
      · rw [if_pos e]; exact hq q (by omega)
      · have : q = j + 1 := by omega
        rw [if_neg e, if_pos this, this])
    have c2 : ((j + 1 : Nat) : Int) = (j : Int) + 1 := by omega
    rw [c2] at v2
    refine ⟨K + 1, fun k hk => ?_⟩
    obtain ⟨k, rfl⟩ : ∃ m, k = m + 1 := ⟨k - 1, by omega⟩
    have hk' := hK k (by omega)
    rw [c2] at hk'
    simp only [impl_EditsOf.l2]
    by_cases c : bt a (i : Int) = bt b (j : Int)
    · rw [if_pos c] at hs
      simp (disch := omega) only [w64, if_pos, v1, v2, v3]
      have e : mn (mn (ed a b i j : Int) ((ed a b i (j + 1) : Int) + 1)) ((ed a b (i + 1) j : Int) + 1) = (ed a b (i + 1) (j + 1) : Int) := by unfold mn; omega
      rw [e]; exact hk'
    · rw [if_neg c] at hs
      simp (disch := omega) only [w64, if_pos, if_neg, v1, v2, v3]
      have e : mn (mn ((ed a b i j : Int) + 1) ((ed a b i (j + 1) : Int) + 1)) ((ed a b (i + 1) j : Int) + 1) = (ed a b (i + 1) (j + 1) : Int) := by unfold mn; omega
      rw [e]; exact hk'
theorem impl_EditsOf_out (a b : ByteArray) (ha : a.size ≤ 300) (hb : b.size ≤ 300) : ∀ (d i : Nat) (row : List Int), i + d = a.size → row.length = b.size + 1 → (∀ j : Nat, j ≤ b.size → rd row (j : Int) = (ed a b i j : Int)) →
    ∃ K, ∀ k, K ≤ k → impl_EditsOf.l1 k a b row (a.size : Int) (i : Int) = some ((ed a b a.size b.size : Int), true) := by
  intro d
  induction d with
  | zero =>
    intro i row hi hl hr
    refine ⟨1, fun k hk => ?_⟩
    obtain ⟨k, rfl⟩ : ∃ m, k = m + 1 := ⟨k - 1, by omega⟩
    have v := hr b.size (by omega)
    have : i = a.size := by omega
    subst this
    simp only [impl_EditsOf.l1]
    simp (disch := omega) only [if_neg, if_pos, v]
  | succ d ih =>
    intro i row hi hl hr
    obtain ⟨K, hK⟩ := impl_EditsOf_in a b ha hb i (by omega) row hl hr ((ed a b a.size b.size : Int), true) (fun t h1 h2 => ih (i + 1) t (by omega) h1 h2) b.size 0 [((i : Int) + 1)] (by omega) rfl (fun q h => by
      have : q = 0 := by omega
      subst this
      rw [ed_zero]; simp [rd])
    refine ⟨K + 1, fun k hk => ?_⟩
    obtain ⟨k, rfl⟩ : ∃ m, k = m + 1 := ⟨k - 1, by omega⟩
    have hk' := hK k (by omega)
    simp only [impl_EditsOf.l1]
    simp (disch := omega) only [w64, if_pos]
    exact hk'
theorem impl_EditsOf_z (a b : ByteArray) (ha : a.size ≤ 300) (hb : b.size ≤ 300) : ∀ (d i : Nat) (row : List Int), i + d = b.size + 1 → row.length = b.size + 1 → (∀ j : Nat, j < i → rd row (j : Int) = (j : Int)) →
    ∃ K, ∀ k, K ≤ k → impl_EditsOf.l0 k a b row ((b.size + 1 : Nat) : Int) (i : Int) = some ((ed a b a.size b.size : Int), true) := by
  intro d
  induction d with
  | zero =>
    intro i row hi hl hr
    obtain ⟨K, hK⟩ := impl_EditsOf_out a b ha hb a.size 0 row (by omega) hl (fun j h => by rw [hr j (by omega)]; simp [ed])
    refine ⟨K + 1, fun k hk => ?_⟩
    obtain ⟨k, rfl⟩ : ∃ m, k = m + 1 := ⟨k - 1, by omega⟩
    have hk' := hK k (by omega)
    simp only [impl_EditsOf.l0]
    simp (disch := omega) only [if_neg]
    exact hk'
  | succ d ih =>
    intro i row hi hl hr
    obtain ⟨K, hK⟩ := ih (i + 1) (row.set i (i : Int)) (by omega) (by simpa using hl) (fun j h => by
      rw [erd_set (by omega)]
      by_cases e : j = i
      · rw [if_pos e, e]
      · rw [if_neg e]; exact hr j (by omega))
    refine ⟨K + 1, fun k hk => ?_⟩
    obtain ⟨k, rfl⟩ : ∃ m, k = m + 1 := ⟨k - 1, by omega⟩
    have hk' := hK k (by omega)
    simp only [impl_EditsOf.l0]
    simp (disch := omega) only [w64, if_pos, Int.toNat_natCast]
    rw [show (i : Int) + 1 = ((i + 1 : Nat) : Int) by omega]
    exact hk'
theorem spec_EditsOf_in (a b : ByteArray) (ha : a.size ≤ 300) (hb : b.size ≤ 300) (i : Nat) (hi : i < a.size) (r : Int × Bool)
    (H : ∀ t : List Int, t.length = b.size + 1 → (∀ j : Nat, j ≤ b.size → rd t (j : Int) = (ed a b (i + 1) j : Int)) → ∃ K, ∀ k, K ≤ k → spec_EditsOf.l1 k a b t ((i : Int) + 1 + 1) = some r) :
    ∀ (d j : Nat) (row : List Int), j + d = b.size → row.length = b.size + 1 → (∀ q : Nat, q ≤ j → rd row (q : Int) = (ed a b (i + 1) q : Int)) → (∀ q : Nat, j < q → q ≤ b.size → rd row (q : Int) = (ed a b i q : Int)) →
      ∃ K, ∀ k, K ≤ k → spec_EditsOf.l2 k a b row ((i : Int) + 1) (ed a b i j : Int) ((j : Int) + 1) = some r := by
  intro d
  induction d with
  | zero =>
    intro j row hj hn hq hq2
    obtain ⟨K, hK⟩ := H row (by omega) (fun q h => hq q (by omega))
    refine ⟨K + 1, fun k hk => ?_⟩
    obtain ⟨k, rfl⟩ : ∃ m, k = m + 1 := ⟨k - 1, by omega⟩
    have hk' := hK k (by omega)
    simp only [spec_EditsOf.l2]
    simp (disch := omega) only [w64, if_neg]
    exact hk'
  | succ d ih =>
    intro j row hj hn hq hq2
    have hs := ed_step a b i j
    have b1 := ed_le a b i j
    have b2 := ed_le a b i (j + 1)
    have b3 := ed_le a b (i + 1) j
    have v2 := hq2 (j + 1) (by omega) (by omega)
    have v3 := hq j (by omega)
    obtain ⟨K, hK⟩ := ih (j + 1) (row.set (j + 1) (ed a b (i + 1) (j + 1) : Int)) (by omega) (by simp [hn]) (fun q h => by
      rw [erd_set (by omega)]
      by_cases e : q = j + 1
      · rw [if_pos e, e]
      · rw [if_neg e]; exact hq q (by omega)) (fun q h1 h2 => by
      rw [erd_set (by omega), if_neg (by omega)]; exact hq2 q (by omega) h2)
    have c2 : ((j + 1 : Nat) : Int) = (j : Int) + 1 := by omega
    have c3 : ((j : Int) + 1).toNat = j + 1 := by omega
    rw [c2] at v2
    refine ⟨K + 2, fun k hk => ?_⟩
    obtain ⟨k, rfl⟩ : ∃ m, k = m + 2 := ⟨k - 2, by omega⟩
    have hk' := hK k (by omega)
    rw [c2] at hk'
    simp only [spec_EditsOf.l2]
    simp (disch := omega) only [w64, if_pos, Int.add_sub_cancel]
    by_cases c : bt a (i : Int) = bt b (j : Int)
    · rw [if_pos c] at hs
      simp (disch := omega) only [if_pos]
      simp only [spec_EditsOf.j3]
      simp (disch := omega) only [w64, if_pos, v2, v3, Int.add_sub_cancel, c3]
      by_cases g1 : (ed a b i (j + 1) : Int) + 1 < (ed a b i j : Int)
      · by_cases g2 : (ed a b (i + 1) j : Int) + 1 < (ed a b i (j + 1) : Int) + 1
        · have e : (ed a b (i + 1) (j + 1) : Int) = (ed a b (i + 1) j : Int) + 1 := by omega
          rw [e] at hk'; rw [if_pos g1, if_pos g2]; exact hk'
        · have e : (ed a b (i + 1) (j + 1) : Int) = (ed a b i (j + 1) : Int) + 1 := by omega
          rw [e] at hk'; rw [if_pos g1, if_neg g2]; exact hk'
      · by_cases g2 : (ed a b (i + 1) j : Int) + 1 < (ed a b i j : Int)
        · have e : (ed a b (i + 1) (j + 1) : Int) = (ed a b (i + 1) j : Int) + 1 := by omega
          rw [e] at hk'; rw [if_neg g1, if_pos g2]; exact hk'
        · have e : (ed a b (i + 1) (j + 1) : Int) = (ed a b i j : Int) := by omega
          rw [e] at hk'; rw [if_neg g1, if_neg g2]; exact hk'
    · rw [if_neg c] at hs
      simp (disch := omega) only [if_neg]
      simp only [spec_EditsOf.j3]
      simp (disch := omega) only [w64, if_pos, v2, v3, Int.add_sub_cancel, c3]
      by_cases g1 : (ed a b i (j + 1) : Int) + 1 < (ed a b i j : Int) + 1
      · by_cases g2 : (ed a b (i + 1) j : Int) + 1 < (ed a b i (j + 1) : Int) + 1
        · have e : (ed a b (i + 1) (j + 1) : Int) = (ed a b (i + 1) j : Int) + 1 := by omega
          rw [e] at hk'; rw [if_pos g1, if_pos g2]; exact hk'
        · have e : (ed a b (i + 1) (j + 1) : Int) = (ed a b i (j + 1) : Int) + 1 := by omega
          rw [e] at hk'; rw [if_pos g1, if_neg g2]; exact hk'
      · by_cases g2 : (ed a b (i + 1) j : Int) + 1 < (ed a b i j : Int) + 1
        · have e : (ed a b (i + 1) (j + 1) : Int) = (ed a b (i + 1) j : Int) + 1 := by omega
          rw [e] at hk'; rw [if_neg g1, if_pos g2]; exact hk'
        · have e : (ed a b (i + 1) (j + 1) : Int) = (ed a b i j : Int) + 1 := by omega
          rw [e] at hk'; rw [if_neg g1, if_neg g2]; exact hk'
theorem spec_EditsOf_out (a b : ByteArray) (ha : a.size ≤ 300) (hb : b.size ≤ 300) : ∀ (d i : Nat) (row : List Int), i + d = a.size → row.length = b.size + 1 → (∀ j : Nat, j ≤ b.size → rd row (j : Int) = (ed a b i j : Int)) →
    ∃ K, ∀ k, K ≤ k → spec_EditsOf.l1 k a b row ((i : Int) + 1) = some ((ed a b a.size b.size : Int), true) := by
  intro d
  induction d with
  | zero =>
    intro i row hi hl hr
    refine ⟨1, fun k hk => ?_⟩
    obtain ⟨k, rfl⟩ : ∃ m, k = m + 1 := ⟨k - 1, by omega⟩
    have v := hr b.size (by omega)
    have : i = a.size := by omega
    subst this
    simp only [spec_EditsOf.l1]
    simp (disch := omega) only [if_neg, if_pos, v]
  | succ d ih =>
    intro i row hi hl hr
    have v0 := hr 0 (by omega)
    obtain ⟨K, hK⟩ := spec_EditsOf_in a b ha hb i (by omega) ((ed a b a.size b.size : Int), true) (fun t h1 h2 => by
        have := ih (i + 1) t (by omega) h1 h2
        rw [show ((i + 1 : Nat) : Int) = (i : Int) + 1 by omega] at this
        exact this) b.size 0 (row.set 0 ((i : Int) + 1)) (by omega) (by simpa using hl) (fun q h => by
      have : q = 0 := by omega
      subst this
      rw [erd_set (by omega), if_pos rfl, ed_zero]; omega) (fun q h1 h2 => by rw [erd_set (by omega), if_neg (by omega)]; exact hr q h2)
    refine ⟨K + 1, fun k hk => ?_⟩
    obtain ⟨k, rfl⟩ : ∃ m, k = m + 1 := ⟨k - 1, by omega⟩
    have hk' := hK k (by omega)
    simp only [Int.cast_ofNat_Int] at v0 hk'
    simp only [spec_EditsOf.l1]
    simp (disch := omega) only [w64, if_pos, v0]
    exact hk'
theorem spec_EditsOf_z (a b : ByteArray) (ha : a.size ≤ 300) (hb : b.size ≤ 300) : ∀ (d i : Nat) (row : List Int), i + d = b.size + 1 → row.length = b.size + 1 → (∀ j : Nat, j < i → rd row (j : Int) = (j : Int)) →
    ∃ K, ∀ k, K ≤ k → spec_EditsOf.l0 k a b row ((b.size + 1 : Nat) : Int) (i : Int) = some ((ed a b a.size b.size : Int), true) := by
  intro d
  induction d with
  | zero =>
    intro i row hi hl hr
    obtain ⟨K, hK⟩ := spec_EditsOf_out a b ha hb a.size 0 row (by omega) hl (fun j h => by rw [hr j (by omega)]; simp [ed])
    refine ⟨K + 1, fun k hk => ?_⟩
    obtain ⟨k, rfl⟩ : ∃ m, k = m + 1 := ⟨k - 1, by omega⟩
    have hk' := hK k (by omega)
    simp only [spec_EditsOf.l0]
    simp (disch := omega) only [if_neg]
    exact hk'
  | succ d ih =>
    intro i row hi hl hr
    obtain ⟨K, hK⟩ := ih (i + 1) (row.set i (i : Int)) (by omega) (by simpa using hl) (fun j h => by
      rw [erd_set (by omega)]
      by_cases e : j = i
      · rw [if_pos e, e]
      · rw [if_neg e]; exact hr j (by omega))
    refine ⟨K + 1, fun k hk => ?_⟩
    obtain ⟨k, rfl⟩ : ∃ m, k = m + 1 := ⟨k - 1, by omega⟩
    have hk' := hK k (by omega)
    simp only [spec_EditsOf.l0]
    simp (disch := omega) only [w64, if_pos, Int.toNat_natCast]
    rw [show (i : Int) + 1 = ((i + 1 : Nat) : Int) by omega]
    exact hk'

theorem FnExactEditsOf : laws_FnExactEditsOf.Pure := by
  intro a b ha hb
  obtain ⟨K3, h3⟩ := impl_areTexts_ev a b ha hb
  obtain ⟨K4, h4⟩ := spec_l9Texts_ev a b ha hb
  have key : ∃ r K, ∀ k, K ≤ k → impl_EditsOf.f k a b = some r ∧ spec_EditsOf.f k a b = some r := by
    cases ht : textB a && textB b with
    | false =>
      refine ⟨(0, false), max K3 K4, fun k hk => ?_⟩
      unfold impl_EditsOf.f spec_EditsOf.f
      rw [h3 k (by omega), h4 k (by omega), ht]
      simp only [Option.bind_some, Bool.false_eq_true, if_false, and_self]
    | true =>
      have ht' := ht
      simp only [Bool.and_eq_true] at ht'
      have hsa := textB_size ht'.1
      have hsb := textB_size ht'.2
      obtain ⟨K1, h1⟩ := impl_EditsOf_z a b hsa hsb (b.size + 1) 0 (List.replicate (b.size + 1) 0) (by omega) (by simp) (fun j h => by omega)
      obtain ⟨K2, h2⟩ := spec_EditsOf_z a b hsa hsb (b.size + 1) 0 (List.replicate (b.size + 1) 0) (by omega) (by simp) (fun j h => by omega)
      refine ⟨((ed a b a.size b.size : Int), true), max (max K1 K2) (max K3 K4), fun k hk => ?_⟩
      have e1 := h1 k (by omega)
      have e2 := h2 k (by omega)
      unfold impl_EditsOf.f spec_EditsOf.f
      rw [h3 k (by omega), h4 k (by omega), ht]
      have e : ((b.size : Int) + 1).toNat = b.size + 1 := by omega
      have hw : wrap64 ((b.size : Int) + 1) = (b.size : Int) + 1 := w64 (by omega) (by omega)
      have hM : b.size + 1 ≤ 35184372088832 := by omega
      rw [hw]
      generalize (35184372088832 : Nat) = M at *
      simp only [Option.bind_some, if_true, e]
      refine ⟨?_, ?_⟩
      · rw [if_pos (by omega), if_pos hM, List.length_replicate]; exact e1
      · rw [if_pos (by omega), if_pos hM, List.length_replicate]; exact e2
  obtain ⟨r, K, h⟩ := key
  refine ⟨K, ?_⟩
  unfold laws_FnExactEditsOf.f
  rw [(h K (by omega)).1, (h K (by omega)).2]
  simp only [Option.bind_some, bne_self_eq_false, Bool.false_eq_true, if_false, if_true]
  split
  · rfl
  · split <;> rfl

end Go.Proofs.Ytnpnhdkchnfdlaa.Pure
