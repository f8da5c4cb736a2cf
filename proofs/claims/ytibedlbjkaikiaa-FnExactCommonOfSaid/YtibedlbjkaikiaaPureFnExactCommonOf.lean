/- CommonOf of the program answers as the reference's, for all texts. -/
import Derived.Test.YtibedlbjkaikiaaAFnExactCommonOfx6
set_option linter.unusedVariables false
set_option linter.unusedSimpArgs false
namespace Go.Proofs.Ytibedlbjkaikiaa.Pure
open Go.RowKit Go.Proofs.Ytibedlbjkaikiaa.AFnExactCommonOf Go.Proofs.YtibedlbjkaikiaaW.PrintWords Go.Proofs.YtibedlbjkaikiaaW.PrintLast Go.Proofs.YtibedlbjkaikiaaW.PrintMore

theorem w64 {i : Int} (h0 : -4611686018427387904 ≤ i) (h : i ≤ 4611686018427387904) : wrap64 i = i := by
  unfold wrap64; omega

def nmB (c : Int) : Bool := decide (65 ≤ c) && decide (c ≤ 70)
def plB (c : Int) : Bool := (decide (97 ≤ c) && decide (c ≤ 122)) || ((decide (48 ≤ c) && decide (c ≤ 57)) || (decide (c = 32) || (decide (c = 46) || decide (c = 44))))
def okB (c : Int) : Bool := nmB c || (plB c || decide (c = 47))
def okN (s : ByteArray) : Nat → Nat → Bool
  | 0, _ => true
  | d + 1, i => okB (bt s i) && okN s d (i + 1)
def textB (s : ByteArray) : Bool := okN s s.size 0 && decide (s.size ≤ 300)

theorem textB_size {s : ByteArray} (h : textB s = true) : s.size ≤ 300 := by
  unfold textB at h; simp at h; exact h.2

theorem impl_isName_eq (c : Int) : impl_isName.f c = some (nmB c) := by
  unfold impl_isName.f nmB
  by_cases h1 : c ≥ 65 <;> simp [h1] <;> omega
theorem impl_isPlain_eq (c : Int) : impl_isPlain.f c = some (plB c) := by
  unfold impl_isPlain.f plB
  by_cases h1 : 97 ≤ c <;> by_cases h2 : c ≤ 122 <;> by_cases h3 : 48 ≤ c <;> by_cases h4 : c ≤ 57 <;> by_cases h5 : c = 32 <;> by_cases h6 : c = 46 <;> simp [h1, h2, h3, h4, h5, h6] <;> rfl
theorem impl_GoodText_l (s : ByteArray) (hs : s.size ≤ 140737488351232) : ∀ (d i : Nat), i + d = s.size →
    ∃ K, ∀ k, K ≤ k → impl_GoodText.l0 k s (s.size : Int) (i : Int) = some (okN s d i && decide (s.size ≤ 300)) := by
  intro d
  induction d with
  | zero =>
    intro i hi
    refine ⟨1, fun k hk => ?_⟩
    obtain ⟨k, rfl⟩ : ∃ m, k = m + 1 := ⟨k - 1, by omega⟩
    simp only [impl_GoodText.l0]
    rw [if_neg (by omega)]
    simp [okN]
    omega
  | succ d ih =>
    intro i hi
    obtain ⟨K, hK⟩ := ih (i + 1) (by omega)
    refine ⟨K + 1, fun k hk => ?_⟩
    obtain ⟨k, rfl⟩ : ∃ m, k = m + 1 := ⟨k - 1, by omega⟩
    have hr := hK k (by omega)
    simp only [impl_GoodText.l0]
    rw [if_pos (by omega), if_pos (by omega), if_pos (by omega), impl_isName_eq, Option.bind_some, impl_isPlain_eq, Option.bind_some, w64 (by omega) (by omega)]
    have hc : ((i : Int) + 1) = ((i + 1 : Nat) : Int) := by omega
    rw [hc, hr]
    show _ = some ((okB (bt s i) && okN s d (i + 1)) && _)
    unfold okB
    cases nmB (bt s i) <;> cases plB (bt s i) <;> by_cases h : bt s i = 47 <;> simp [h]
theorem impl_GoodText_ev (s : ByteArray) (hs : s.size ≤ 140737488351232) : ∃ K, ∀ k, K ≤ k → impl_GoodText.f k s = some (textB s) := by
  obtain ⟨K, hK⟩ := impl_GoodText_l s hs s.size 0 (by omega)
  exact ⟨K, fun k hk => by unfold impl_GoodText.f; exact hK k hk⟩

theorem spec_l1Open_eq (c : Int) : spec_l1Open.f c = some (nmB c) := by
  unfold spec_l1Open.f nmB
  by_cases h1 : c ≥ 65 <;> simp [h1] <;> omega
theorem spec_l1Plain_eq (c : Int) : spec_l1Plain.f c = some (plB c) := by
  unfold spec_l1Plain.f plB
  by_cases h1 : 97 ≤ c <;> by_cases h2 : c ≤ 122 <;> by_cases h3 : 48 ≤ c <;> by_cases h4 : c ≤ 57 <;> by_cases h5 : c = 32 <;> by_cases h6 : c = 46 <;> simp [h1, h2, h3, h4, h5, h6] <;> rfl
theorem spec_l1Text_l (s : ByteArray) (hs : s.size ≤ 140737488351232) : ∀ (d i : Nat), i + d = s.size →
    ∃ K, ∀ k, K ≤ k → spec_l1Text.l0 k s (i : Int) = some (okN s d i) := by
  intro d
  induction d with
  | zero =>
    intro i hi
    refine ⟨1, fun k hk => ?_⟩
    obtain ⟨k, rfl⟩ : ∃ m, k = m + 1 := ⟨k - 1, by omega⟩
    simp only [spec_l1Text.l0]
    rw [if_neg (by omega)]
    simp [okN]
  | succ d ih =>
    intro i hi
    obtain ⟨K, hK⟩ := ih (i + 1) (by omega)
    refine ⟨K + 1, fun k hk => ?_⟩
    obtain ⟨k, rfl⟩ : ∃ m, k = m + 1 := ⟨k - 1, by omega⟩
    have hr := hK k (by omega)
    simp only [spec_l1Text.l0]
    rw [if_pos (by omega), if_pos (by omega), spec_l1Open_eq, Option.bind_some, spec_l1Plain_eq, Option.bind_some, w64 (by omega) (by omega)]
    have hc : ((i : Int) + 1) = ((i + 1 : Nat) : Int) := by omega
    rw [hc, hr]
    show _ = some (okB (bt s i) && okN s d (i + 1))
    unfold okB
    cases nmB (bt s i) <;> cases plB (bt s i) <;> by_cases h : bt s i = 47 <;> simp [h]
theorem spec_GoodText_ev (s : ByteArray) (hs : s.size ≤ 140737488351232) : ∃ K, ∀ k, K ≤ k → spec_GoodText.f k s = some (textB s) := by
  obtain ⟨K, hK⟩ := spec_l1Text_l s hs s.size 0 (by omega)
  refine ⟨K, fun k hk => ?_⟩
  have h := hK k hk
  unfold spec_GoodText.f spec_l1Text.f
  simp only [Int.cast_ofNat_Int] at h
  rw [h, Option.bind_some]
  unfold textB
  cases okN s s.size 0 <;> simp <;> omega

theorem impl_areTexts_ev (a b : ByteArray) (ha : a.size ≤ 140737488351232) (hb : b.size ≤ 140737488351232) : ∃ K, ∀ k, K ≤ k → impl_areTexts.f k a b = some (textB a && textB b) := by
  obtain ⟨K, hK⟩ := impl_GoodText_ev a ha
  obtain ⟨K', hK'⟩ := impl_GoodText_ev b hb
  refine ⟨max K K', fun k hk => ?_⟩
  have h1 := hK k (by omega)
  have h2 := hK' k (by omega)
  unfold impl_areTexts.f
  rw [h1, Option.bind_some, h2, Option.bind_some]
  cases textB a <;> simp
theorem spec_l9Texts_ev (a b : ByteArray) (ha : a.size ≤ 140737488351232) (hb : b.size ≤ 140737488351232) : ∃ K, ∀ k, K ≤ k → spec_l9Texts.f k a b = some (textB a && textB b) := by
  obtain ⟨K, hK⟩ := spec_GoodText_ev a ha
  obtain ⟨K', hK'⟩ := spec_GoodText_ev b hb
  refine ⟨max K K', fun k hk => ?_⟩
  have h1 := hK k (by omega)
  have h2 := hK' k (by omega)
  unfold spec_l9Texts.f
  rw [h1, Option.bind_some, h2, Option.bind_some]
  cases textB a <;> simp

def lcs : List Int → List Int → Nat
  | [], _ => 0
  | _ :: _, [] => 0
  | x :: xs, y :: ys => if x = y then lcs xs ys + 1 else max (lcs xs (y :: ys)) (lcs (x :: xs) ys)
termination_by xs ys => xs.length + ys.length
theorem lcs_nil (ys : List Int) : lcs [] ys = 0 := by rw [lcs]
theorem lcs_nil_right (xs : List Int) : lcs xs [] = 0 := by cases xs <;> rw [lcs]
theorem lcs_cons (x : Int) (xs : List Int) (y : Int) (ys : List Int) : lcs (x :: xs) (y :: ys) = if x = y then lcs xs ys + 1 else max (lcs xs (y :: ys)) (lcs (x :: xs) ys) := by rw [lcs]
theorem lcs_le : ∀ (n : Nat) (xs ys : List Int), xs.length + ys.length ≤ n → lcs xs ys ≤ xs.length := by
  intro n
  induction n with
  | zero => intro xs ys h; have : xs = [] := List.eq_nil_of_length_eq_zero (by omega)
            subst this; rw [lcs_nil]; omega
  | succ n ih =>
    intro xs ys h
    cases xs with
    | nil => rw [lcs_nil]; omega
    | cons x xs =>
      cases ys with
      | nil => rw [lcs_nil_right]; omega
      | cons y ys =>
        rw [lcs_cons]
        simp only [List.length_cons] at *
        have h1 := ih xs ys (by omega)
        have h2 := ih xs (y :: ys) (by simp only [List.length_cons]; omega)
        have h3 := ih (x :: xs) ys (by simp only [List.length_cons]; omega)
        simp only [List.length_cons] at h3
        split <;> omega
def BL (s : ByteArray) : List Int := (List.range s.size).map fun (i : Nat) => bt s (i : Int)
theorem BL_length (s : ByteArray) : (BL s).length = s.size := by unfold BL; simp
theorem BL_drop (s : ByteArray) (i : Nat) (h : i < s.size) : (BL s).drop i = bt s (i : Int) :: (BL s).drop (i + 1) := by
  rw [List.drop_eq_getElem_cons (by rw [BL_length]; exact h)]
  congr 1
  unfold BL; simp
theorem BL_drop_end (s : ByteArray) (i : Nat) (h : s.size ≤ i) : (BL s).drop i = [] := List.drop_of_length_le (by rw [BL_length]; exact h)
def lc (a b : ByteArray) (i j : Nat) : Nat := lcs ((BL a).drop i) ((BL b).drop j)
theorem lc_end_left (a b : ByteArray) (i j : Nat) (h : a.size ≤ i) : lc a b i j = 0 := by unfold lc; rw [BL_drop_end a i h, lcs_nil]
theorem lc_end_right (a b : ByteArray) (i j : Nat) (h : b.size ≤ j) : lc a b i j = 0 := by unfold lc; rw [BL_drop_end b j h, lcs_nil_right]
theorem lc_step (a b : ByteArray) (i j : Nat) (hi : i < a.size) (hj : j < b.size) : lc a b i j = if bt a (i : Int) = bt b (j : Int) then lc a b (i + 1) (j + 1) + 1 else max (lc a b (i + 1) j) (lc a b i (j + 1)) := by
  unfold lc
  rw [BL_drop a i hi, BL_drop b j hj, lcs_cons]
theorem lc_le (a b : ByteArray) (i j : Nat) : lc a b i j ≤ a.size := by
  have := lcs_le _ ((BL a).drop i) ((BL b).drop j) (Nat.le_refl _)
  unfold lc
  rw [List.length_drop, BL_length] at this
  omega
def RowIs (row : List Int) (n : Nat) (f : Nat → Nat) : Prop := row.length = n + 1 ∧ ∀ j : Nat, j ≤ n → rd row (j : Int) = (f j : Int)
def tbl (a b : ByteArray) : List (List Int) := (List.range (a.size + 1)).map fun i => (List.range (b.size + 1)).map fun j => (lc a b i j : Int)
theorem rd_get (l : List Int) (j : Nat) (h : j < l.length) : rd l (j : Int) = l[j] := by unfold rd; simp [List.getD, h]
theorem RowIs.eq {row : List Int} {n : Nat} {f : Nat → Nat} (h : RowIs row n f) : row = (List.range (n + 1)).map fun j => (f j : Int) := by
  apply List.ext_getElem
  · simp [h.1]
  · intro j h1 h2
    simp only [List.getElem_map, List.getElem_range]
    rw [← rd_get row j h1]; exact h.2 j (by have := h.1; omega)
theorem tbl_eq {a b : ByteArray} {t : List (List Int)} (hl : t.length = a.size + 1) (h : ∀ i : Nat, i ≤ a.size → RowIs (rd_L1 t (i : Int)) b.size (lc a b i)) : t = tbl a b := by
  unfold tbl
  apply List.ext_getElem
  · simp [hl]
  · intro i h1 h2
    simp only [List.getElem_map, List.getElem_range]
    rw [← (h i (by omega)).eq]
    unfold rd_L1; simp [List.getD, h1]
theorem tbl_get (a b : ByteArray) (i j : Nat) (hi : i ≤ a.size) (hj : j ≤ b.size) : rd (rd_L1 (tbl a b) (i : Int)) (j : Int) = (lc a b i j : Int) := by
  unfold rd rd_L1 tbl
  simp [List.getD, (by omega : i < a.size + 1), (by omega : j < b.size + 1)]
theorem tbl_length (a b : ByteArray) : (tbl a b).length = a.size + 1 := by simp [tbl]
theorem tbl_row_length (a b : ByteArray) (i : Nat) (hi : i ≤ a.size) : (rd_L1 (tbl a b) (i : Int)).length = b.size + 1 := by
  unfold rd_L1 tbl
  simp [List.getD, (by omega : i < a.size + 1)]
theorem rdL_set {t : List (List Int)} {i : Nat} {v : List Int} (h : i < t.length) (j : Nat) : rd_L1 (t.set i v) (j : Int) = if j = i then v else rd_L1 t (j : Int) := by
  unfold rd_L1
  simp only [Int.toNat_natCast, List.getD_eq_getElem?_getD]
  by_cases e : j = i
  · subst e; simp [h]
  · rw [List.getElem?_set_ne (by omega)]; simp [e]
theorem rdR_set {bs : List Int} {i : Nat} {v : Int} (h : i < bs.length) (j : Nat) : rd (bs.set i v) (j : Int) = if j = i then v else rd bs (j : Int) := by
  unfold rd
  simp only [Int.toNat_natCast, List.getD_eq_getElem?_getD]
  by_cases e : j = i
  · subst e; simp [h]
  · rw [List.getElem?_set_ne (by omega)]; simp [e]
theorem RowIs.zeros (n : Nat) (f : Nat → Nat) (h : ∀ j, j ≤ n → f j = 0) : RowIs (List.replicate (n + 1) 0) n f := by
  refine ⟨by simp, fun j hj => ?_⟩
  rw [h j hj]; unfold rd
  simp [List.getD, (by omega : j < n + 1)]

theorem impl_common_in (a b : ByteArray) (ha : a.size ≤ 300) (hb : b.size ≤ 300) (i : Nat) (hi : i < a.size)
    (H : ∀ t : List (List Int), t.length = a.size + 1 → (∀ r : Nat, i ≤ r → r ≤ a.size → RowIs (rd_L1 t (r : Int)) b.size (lc a b r)) → ∃ K, ∀ k, K ≤ k → impl_common.l0 k a b t ((i : Int) - 1) = some (tbl a b)) :
    ∀ (d : Nat) (t : List (List Int)), d ≤ b.size → t.length = a.size + 1 → (∀ r : Nat, i < r → r ≤ a.size → RowIs (rd_L1 t (r : Int)) b.size (lc a b r)) →
      (rd_L1 t (i : Int)).length = b.size + 1 → (∀ j : Nat, d ≤ j → j ≤ b.size → rd (rd_L1 t (i : Int)) (j : Int) = (lc a b i j : Int)) →
      ∃ K, ∀ k, K ≤ k → impl_common.l1 k a b t (i : Int) ((d : Int) - 1) = some (tbl a b) := by
  intro d
  induction d with
  | zero =>
    intro t hd hl hr hlen hrow
    obtain ⟨K, hK⟩ := H t hl (fun r h1 h2 => by
      by_cases e : r = i
      · subst e; exact ⟨hlen, fun j hj => hrow j (by omega) hj⟩
      · exact hr r (by omega) h2)
    refine ⟨K + 1, fun k hk => ?_⟩
    obtain ⟨k, rfl⟩ : ∃ m, k = m + 1 := ⟨k - 1, by omega⟩
    simp only [impl_common.l1]
    simp (disch := omega) only [w64, if_neg]
    exact hK k (by omega)
  | succ d ih =>
    intro t hd hl hr hlen hrow
    have hnext := hr (i + 1) (by omega) (by omega)
    have hs := lc_step a b i d hi (by omega)
    have hle1 := lc_le a b (i + 1) (d + 1)
    have hnl := hnext.1
    have hv1 := hnext.2 (d + 1) (by omega)
    have hv2 := hnext.2 d (by omega)
    have hv3 := hrow (d + 1) (by omega) (by omega)
    have c1 : ((i + 1 : Nat) : Int) = (i : Int) + 1 := by omega
    have c2 : ((d + 1 : Nat) : Int) = (d : Int) + 1 := by omega
    rw [c1] at hnl hv1 hv2
    rw [c2] at hv1 hv3
    obtain ⟨K, hK⟩ := ih (t.set i ((rd_L1 t (i : Int)).set d (lc a b i d : Int))) (by omega) (by simpa using hl)
      (fun r h1 h2 => by rw [rdL_set (by omega), if_neg (by omega)]; exact hr r h1 h2)
      (by rw [rdL_set (by omega), if_pos rfl, List.length_set]; exact hlen)
      (fun j h1 h2 => by
        rw [rdL_set (by omega), if_pos rfl, rdR_set (by omega)]
        by_cases e : j = d
        · rw [if_pos e, e]
        · rw [if_neg e]; exact hrow j (by omega) h2)
    refine ⟨K + 1, fun k hk => ?_⟩
    obtain ⟨k, rfl⟩ : ∃ m, k = m + 1 := ⟨k - 1, by omega⟩
    have hk' := hK k (by omega)
    simp only [impl_common.l1]
    rw [c2]
    simp only [Int.add_sub_cancel]
    by_cases c : bt a (i : Int) = bt b (d : Int)
    · rw [if_pos c] at hs
      have hs' : (lc a b i d : Int) = (lc a b (i + 1) (d + 1) : Int) + 1 := by omega
      rw [hs'] at hk'
      simp (disch := omega) only [w64, if_pos, Int.toNat_natCast, hv1]
      exact hk'
    · rw [if_neg c] at hs
      have hs' : mx (lc a b (i + 1) d : Int) (lc a b i (d + 1) : Int) = (lc a b i d : Int) := by unfold mx; omega
      simp (disch := omega) only [w64, if_pos, if_neg, Int.toNat_natCast, hv2, hv3, hs']
      exact hk'
theorem impl_common_out (a b : ByteArray) (ha : a.size ≤ 300) (hb : b.size ≤ 300) : ∀ (e : Nat) (t : List (List Int)), e ≤ a.size → t.length = a.size + 1 →
    (∀ r : Nat, e ≤ r → r ≤ a.size → RowIs (rd_L1 t (r : Int)) b.size (lc a b r)) → ∃ K, ∀ k, K ≤ k → impl_common.l0 k a b t ((e : Int) - 1) = some (tbl a b) := by
  intro e
  induction e with
  | zero =>
    intro t he hl hr
    refine ⟨1, fun k hk => ?_⟩
    obtain ⟨k, rfl⟩ : ∃ m, k = m + 1 := ⟨k - 1, by omega⟩
    simp only [impl_common.l0]
    rw [if_neg (by omega), tbl_eq hl (fun i hi => hr i (by omega) hi)]
  | succ e ih =>
    intro t he hl hr
    obtain ⟨K, hK⟩ := impl_common_in a b ha hb e (by omega) (fun t h1 h2 => ih t (by omega) h1 h2) b.size (t.set e (List.replicate (b.size + 1) 0)) (by omega) (by simpa using hl)
      (fun r h1 h2 => by rw [rdL_set (by omega), if_neg (by omega)]; exact hr r h1 h2)
      (by rw [rdL_set (by omega), if_pos rfl, List.length_replicate])
      (fun j h1 h2 => by
        rw [rdL_set (by omega), if_pos rfl, lc_end_right a b e j h1]
        unfold rd; simp [List.getD, (by omega : j < b.size + 1)])
    refine ⟨K + 1, fun k hk => ?_⟩
    obtain ⟨k, rfl⟩ : ∃ m, k = m + 1 := ⟨k - 1, by omega⟩
    have hk' := hK k (by omega)
    simp only [impl_common.l0]
    rw [show ((e + 1 : Nat) : Int) - 1 = (e : Int) by omega]
    simp (disch := omega) only [w64, if_pos, Int.toNat_natCast]
    exact hk'
theorem impl_common_ev (a b : ByteArray) (ha : a.size ≤ 300) (hb : b.size ≤ 300) : ∃ K, ∀ k, K ≤ k → impl_common.f k a b = some (tbl a b) := by
  obtain ⟨K, hK⟩ := impl_common_out a b ha hb a.size ((List.replicate (a.size + 1) ([] : List Int)).set a.size (List.replicate (b.size + 1) 0)) (by omega) (by simp)
    (fun r h1 h2 => by
      have : r = a.size := by omega
      subst this
      rw [rdL_set (by simp), if_pos rfl]
      exact RowIs.zeros _ _ (fun j _ => lc_end_left a b _ j (by omega)))
  refine ⟨K, fun k hk => ?_⟩
  have := hK k hk
  unfold impl_common.f
  simp (disch := omega) only [w64, if_pos, Option.bind_some]
  have e1 : ((b.size : Int) + 1).toNat = b.size + 1 := by omega
  have e2 : ((a.size : Int) + 1).toNat = a.size + 1 := by omega
  simp only [e1, e2, List.length_replicate, Int.toNat_natCast]
  rw [if_pos (by omega)]
  exact this

theorem spec_l9Table_in (a b : ByteArray) (ha : a.size ≤ 300) (hb : b.size ≤ 300) (i : Nat) (hi : i < a.size)
    (H : ∀ t : List (List Int), t.length = a.size + 1 → (∀ r : Nat, i ≤ r → r ≤ a.size → RowIs (rd_L1 t (r : Int)) b.size (lc a b r)) → (∀ r : Nat, r < i → rd_L1 t (r : Int) = List.replicate (b.size + 1) 0) →
      ∃ K, ∀ k, K ≤ k → spec_l9Table.l1 k a b t ((i : Int) - 1) = some (tbl a b)) :
    ∀ (d : Nat) (t : List (List Int)), d ≤ b.size → t.length = a.size + 1 → (∀ r : Nat, i < r → r ≤ a.size → RowIs (rd_L1 t (r : Int)) b.size (lc a b r)) → (∀ r : Nat, r < i → rd_L1 t (r : Int) = List.replicate (b.size + 1) 0) →
      (rd_L1 t (i : Int)).length = b.size + 1 → (∀ j : Nat, d ≤ j → j ≤ b.size → rd (rd_L1 t (i : Int)) (j : Int) = (lc a b i j : Int)) →
      ∃ K, ∀ k, K ≤ k → spec_l9Table.l2 k a b t (i : Int) ((d : Int) - 1) = some (tbl a b) := by
  intro d
  induction d with
  | zero =>
    intro t hd hl hr hz hlen hrow
    obtain ⟨K, hK⟩ := H t hl (fun r h1 h2 => by
      by_cases e : r = i
      · subst e; exact ⟨hlen, fun j hj => hrow j (by omega) hj⟩
      · exact hr r (by omega) h2) hz
    refine ⟨K + 1, fun k hk => ?_⟩
    obtain ⟨k, rfl⟩ : ∃ m, k = m + 1 := ⟨k - 1, by omega⟩
    simp only [spec_l9Table.l2]
    simp (disch := omega) only [w64, if_neg]
    exact hK k (by omega)
  | succ d ih =>
    intro t hd hl hr hz hlen hrow
    have hnext := hr (i + 1) (by omega) (by omega)
    have hs := lc_step a b i d hi (by omega)
    have hle1 := lc_le a b (i + 1) (d + 1)
    have hnl := hnext.1
    have hv1 := hnext.2 (d + 1) (by omega)
    have hv2 := hnext.2 d (by omega)
    have hv3 := hrow (d + 1) (by omega) (by omega)
    have c1 : ((i + 1 : Nat) : Int) = (i : Int) + 1 := by omega
    have c2 : ((d + 1 : Nat) : Int) = (d : Int) + 1 := by omega
    rw [c1] at hnl hv1 hv2
    rw [c2] at hv1 hv3
    obtain ⟨K, hK⟩ := ih (t.set i ((rd_L1 t (i : Int)).set d (lc a b i d : Int))) (by omega) (by simpa using hl)
      (fun r h1 h2 => by rw [rdL_set (by omega), if_neg (by omega)]; exact hr r h1 h2)
      (fun r h1 => by rw [rdL_set (by omega), if_neg (by omega)]; exact hz r h1)
      (by rw [rdL_set (by omega), if_pos rfl, List.length_set]; exact hlen)
      (fun j h1 h2 => by
        rw [rdL_set (by omega), if_pos rfl, rdR_set (by omega)]
        by_cases e : j = d
        · rw [if_pos e, e]
        · rw [if_neg e]; exact hrow j (by omega) h2)
    refine ⟨K + 1, fun k hk => ?_⟩
    obtain ⟨k, rfl⟩ : ∃ m, k = m + 1 := ⟨k - 1, by omega⟩
    have hk' := hK k (by omega)
    simp only [spec_l9Table.l2]
    rw [c2]
    simp only [Int.add_sub_cancel]
    by_cases c : bt a (i : Int) = bt b (d : Int)
    · rw [if_pos c] at hs
      have hs' : (lc a b i d : Int) = (lc a b (i + 1) (d + 1) : Int) + 1 := by omega
      rw [hs'] at hk'
      simp (disch := omega) only [w64, if_pos, Int.toNat_natCast, hv1]
      exact hk'
    · rw [if_neg c] at hs
      by_cases g : (lc a b (i + 1) d : Int) ≥ (lc a b i (d + 1) : Int)
      · have hs' : (lc a b i d : Int) = (lc a b (i + 1) d : Int) := by omega
        rw [hs'] at hk'
        simp (disch := omega) only [w64, if_pos, if_neg, Int.toNat_natCast, hv2, hv3]
        exact hk'
      · have hs' : (lc a b i d : Int) = (lc a b i (d + 1) : Int) := by omega
        rw [hs'] at hk'
        simp (disch := omega) only [w64, if_pos, if_neg, Int.toNat_natCast, hv2, hv3]
        exact hk'
theorem spec_l9Table_out (a b : ByteArray) (ha : a.size ≤ 300) (hb : b.size ≤ 300) : ∀ (e : Nat) (t : List (List Int)), e ≤ a.size → t.length = a.size + 1 →
    (∀ r : Nat, e ≤ r → r ≤ a.size → RowIs (rd_L1 t (r : Int)) b.size (lc a b r)) → (∀ r : Nat, r < e → rd_L1 t (r : Int) = List.replicate (b.size + 1) 0) → ∃ K, ∀ k, K ≤ k → spec_l9Table.l1 k a b t ((e : Int) - 1) = some (tbl a b) := by
  intro e
  induction e with
  | zero =>
    intro t he hl hr hz
    refine ⟨1, fun k hk => ?_⟩
    obtain ⟨k, rfl⟩ : ∃ m, k = m + 1 := ⟨k - 1, by omega⟩
    simp only [spec_l9Table.l1]
    rw [if_neg (by omega), tbl_eq hl (fun i hi => hr i (by omega) hi)]
  | succ e ih =>
    intro t he hl hr hz
    obtain ⟨K, hK⟩ := spec_l9Table_in a b ha hb e (by omega) (fun t h1 h2 h3 => ih t (by omega) h1 h2 h3) b.size t (by omega) hl
      (fun r h1 h2 => hr r (by omega) h2) (fun r h1 => hz r (by omega))
      (by rw [hz e (by omega), List.length_replicate])
      (fun j h1 h2 => by
        rw [hz e (by omega), lc_end_right a b e j h1]
        unfold rd; simp [List.getD, (by omega : j < b.size + 1)])
    refine ⟨K + 1, fun k hk => ?_⟩
    obtain ⟨k, rfl⟩ : ∃ m, k = m + 1 := ⟨k - 1, by omega⟩
    have hk' := hK k (by omega)
    simp only [spec_l9Table.l1]
    rw [show ((e + 1 : Nat) : Int) - 1 = (e : Int) by omega]
    simp (disch := omega) only [w64, if_pos, Int.toNat_natCast]
    exact hk'
theorem spec_l9Table_z (a b : ByteArray) (ha : a.size ≤ 300) (hb : b.size ≤ 300) : ∀ (d i : Nat) (t : List (List Int)), i + d = a.size + 1 → t.length = a.size + 1 →
    (∀ r : Nat, r < i → rd_L1 t (r : Int) = List.replicate (b.size + 1) 0) → ∃ K, ∀ k, K ≤ k → spec_l9Table.l0 k a b t ((a.size + 1 : Nat) : Int) (i : Int) = some (tbl a b) := by
  intro d
  induction d with
  | zero =>
    intro i t hi hl hz
    obtain ⟨K, hK⟩ := spec_l9Table_out a b ha hb a.size t (by omega) hl
      (fun r h1 h2 => by rw [hz r (by omega)]; exact RowIs.zeros _ _ (fun j _ => lc_end_left a b _ j (by omega))) (fun r h1 => hz r (by omega))
    refine ⟨K + 1, fun k hk => ?_⟩
    obtain ⟨k, rfl⟩ : ∃ m, k = m + 1 := ⟨k - 1, by omega⟩
    have hk' := hK k (by omega)
    simp only [spec_l9Table.l0]
    simp (disch := omega) only [w64, if_neg]
    exact hk'
  | succ d ih =>
    intro i t hi hl hz
    obtain ⟨K, hK⟩ := ih (i + 1) (t.set i (List.replicate (b.size + 1) 0)) (by omega) (by simpa using hl) (fun r h1 => by
      rw [rdL_set (by omega)]
      by_cases e : r = i
      · rw [if_pos e]
      · rw [if_neg e]; exact hz r (by omega))
    refine ⟨K + 1, fun k hk => ?_⟩
    obtain ⟨k, rfl⟩ : ∃ m, k = m + 1 := ⟨k - 1, by omega⟩
    have hk' := hK k (by omega)
    simp only [spec_l9Table.l0]
    simp (disch := omega) only [w64, if_pos, Int.toNat_natCast]
    have e1 : ((b.size : Int) + 1).toNat = b.size + 1 := by omega
    simp only [e1]
    rw [show (i : Int) + 1 = ((i + 1 : Nat) : Int) by omega]
    exact hk'
theorem spec_l9Table_ev (a b : ByteArray) (ha : a.size ≤ 300) (hb : b.size ≤ 300) : ∃ K, ∀ k, K ≤ k → spec_l9Table.f k a b = some (tbl a b) := by
  obtain ⟨K, hK⟩ := spec_l9Table_z a b ha hb (a.size + 1) 0 (List.replicate (a.size + 1) ([] : List Int)) (by omega) (by simp) (fun r h => by omega)
  refine ⟨K, fun k hk => ?_⟩
  have := hK k hk
  unfold spec_l9Table.f
  simp (disch := omega) only [w64, if_pos, Option.bind_some]
  have e2 : ((a.size : Int) + 1).toNat = a.size + 1 := by omega
  simp only [e2, List.length_replicate]
  exact this

/-! a longest text in common, of several the least: what is picked -/
theorem lc_mono (a b : ByteArray) : ∀ (n i k : Nat), (a.size - i) + (b.size - k) ≤ n → lc a b (i + 1) k ≤ lc a b i k ∧ lc a b i (k + 1) ≤ lc a b i k ∧ lc a b i k ≤ lc a b (i + 1) k + 1 ∧ lc a b i k ≤ lc a b i (k + 1) + 1 := by
  intro n
  induction n with
  | zero =>
    intro i k h
    rw [lc_end_left a b i k (by omega), lc_end_left a b (i + 1) k (by omega), lc_end_left a b i (k + 1) (by omega)]
    omega
  | succ n ih =>
    intro i k h
    by_cases hi : i < a.size
    · by_cases hk : k < b.size
      · have s := lc_step a b i k hi hk
        obtain ⟨p1, p2, p3, p4⟩ := ih (i + 1) k (by omega)
        obtain ⟨q1, q2, q3, q4⟩ := ih i (k + 1) (by omega)
        by_cases e : bt a (i : Int) = bt b (k : Int)
        · rw [if_pos e] at s; omega
        · rw [if_neg e] at s; omega
      · rw [lc_end_right a b i k (by omega), lc_end_right a b (i + 1) k (by omega), lc_end_right a b i (k + 1) (by omega)]
        omega
    · rw [lc_end_left a b i k (by omega), lc_end_left a b (i + 1) k (by omega), lc_end_left a b i (k + 1) (by omega)]
      omega
theorem lc_left (a b : ByteArray) (k i : Nat) : ∀ (d : Nat), lc a b (i + d) k ≤ lc a b i k
  | 0 => Nat.le_refl _
  | d + 1 => Nat.le_trans (lc_mono a b _ (i + d) k (Nat.le_refl _)).1 (lc_left a b k i d)
theorem lc_right (a b : ByteArray) (i k : Nat) : ∀ (d : Nat), lc a b i (k + d) ≤ lc a b i k
  | 0 => Nat.le_refl _
  | d + 1 => Nat.le_trans (lc_mono a b _ i (k + d) (Nat.le_refl _)).2.1 (lc_right a b i k d)
theorem lc_anti {a b : ByteArray} {i i' k k' : Nat} (hi : i ≤ i') (hk : k ≤ k') : lc a b i' k' ≤ lc a b i k := by
  obtain ⟨d, rfl⟩ := Nat.exists_eq_add_of_le hi
  obtain ⟨e, rfl⟩ := Nat.exists_eq_add_of_le hk
  exact Nat.le_trans (lc_left a b _ i d) (lc_right a b i k e)
theorem lc_met {a b : ByteArray} {i k x y : Nat} (hi : i ≤ x) (hk : k ≤ y) (hx : x < a.size) (hy : y < b.size) (e : bt a (x : Int) = bt b (y : Int)) : lc a b (x + 1) (y + 1) + 1 ≤ lc a b i k := by
  have s := lc_step a b x y hx hy
  rw [if_pos e] at s
  have := lc_anti (a := a) (b := b) hi hk
  omega
/-- The first place from y on where the byte c stands, or the end. -/
def nxt (b : ByteArray) (c : Int) : Nat → Nat → Nat
  | 0, y => y
  | d + 1, y => if bt b (y : Int) = c then y else nxt b c d (y + 1)
def fy (b : ByteArray) (c : Int) (y : Nat) : Nat := nxt b c (b.size - y) y
theorem fy_end (b : ByteArray) (c : Int) (y : Nat) (h : b.size ≤ y) : fy b c y = y := by
  unfold fy
  rw [show b.size - y = 0 by omega]; rfl
theorem fy_here (b : ByteArray) (c : Int) (y : Nat) (h : y < b.size) (e : bt b (y : Int) = c) : fy b c y = y := by
  unfold fy
  obtain ⟨d, hd⟩ : ∃ d, b.size - y = d + 1 := ⟨b.size - y - 1, by omega⟩
  rw [hd, nxt, if_pos e]
theorem fy_next (b : ByteArray) (c : Int) (y : Nat) (h : y < b.size) (e : ¬ bt b (y : Int) = c) : fy b c y = fy b c (y + 1) := by
  unfold fy
  obtain ⟨d, hd⟩ : ∃ d, b.size - y = d + 1 := ⟨b.size - y - 1, by omega⟩
  rw [hd, nxt, if_neg e, show b.size - (y + 1) = d by omega]
theorem fy_spec (b : ByteArray) (c : Int) : ∀ (d y : Nat), b.size - y = d → y ≤ fy b c y ∧ (fy b c y < b.size → bt b (fy b c y : Int) = c) ∧ (y ≤ b.size → fy b c y ≤ b.size) := by
  intro d
  induction d with
  | zero => intro y hd; rw [fy_end b c y (by omega)]; exact ⟨Nat.le_refl _, fun h => by omega, fun h => h⟩
  | succ d ih =>
    intro y hd
    by_cases e : bt b (y : Int) = c
    · rw [fy_here b c y (by omega) e]; exact ⟨Nat.le_refl _, fun _ => e, fun h => h⟩
    · rw [fy_next b c y (by omega) e]
      obtain ⟨h1, h2, h3⟩ := ih (y + 1) (by omega)
      exact ⟨by omega, h2, fun _ => h3 (by omega)⟩
def qualB (a b : ByteArray) (i k x : Nat) : Bool := decide (fy b (bt a (x : Int)) k < b.size) && decide (lc a b (x + 1) (fy b (bt a (x : Int)) k + 1) + 1 = lc a b i k)
theorem exists_qual (a b : ByteArray) : ∀ (n i k : Nat), (a.size - i) + (b.size - k) ≤ n → 0 < lc a b i k → ∃ x, i ≤ x ∧ x < a.size ∧ qualB a b i k x = true := by
  intro n
  induction n with
  | zero => intro i k h h0; rw [lc_end_left a b i k (by omega)] at h0; omega
  | succ n ih =>
    intro i k h h0
    have hi : i < a.size := by
      by_cases hi : i < a.size
      · exact hi
      · rw [lc_end_left a b i k (by omega)] at h0; omega
    have hk : k < b.size := by
      by_cases hk : k < b.size
      · exact hk
      · rw [lc_end_right a b i k (by omega)] at h0; omega
    have s := lc_step a b i k hi hk
    by_cases e : bt a (i : Int) = bt b (k : Int)
    · rw [if_pos e] at s
      refine ⟨i, Nat.le_refl _, hi, ?_⟩
      unfold qualB
      rw [fy_here b _ k hk e.symm, decide_eq_true hk, decide_eq_true s.symm]; rfl
    · rw [if_neg e] at s
      by_cases e2 : lc a b (i + 1) k = lc a b i k
      · obtain ⟨x, h1, h2, h3⟩ := ih (i + 1) k (by omega) (by omega)
        refine ⟨x, by omega, h2, ?_⟩
        unfold qualB at h3 ⊢
        rw [e2] at h3
        exact h3
      · have e3 : lc a b i (k + 1) = lc a b i k := by
          have := (lc_mono a b _ i k (Nat.le_refl _)).1
          omega
        obtain ⟨x, h1, h2, h3⟩ := ih i (k + 1) (by omega) (by omega)
        refine ⟨x, h1, h2, ?_⟩
        unfold qualB at h3 ⊢
        rw [e3] at h3
        simp only [Bool.and_eq_true, decide_eq_true_eq] at h3 ⊢
        by_cases e4 : bt b (k : Int) = bt a (x : Int)
        · rw [fy_here b _ k hk e4]
          have hf := fy_spec b (bt a (x : Int)) _ (k + 1) rfl
          have h5 := lc_anti (a := a) (b := b) (i := x + 1) (i' := x + 1) (k := k + 1) (k' := fy b (bt a (x : Int)) (k + 1) + 1) (Nat.le_refl _) (by omega)
          have h6 := lc_met (i := i) (k := k) h1 (Nat.le_refl _) h2 hk e4.symm
          exact ⟨hk, by omega⟩
        · rw [fy_next b _ k hk e4]
          exact h3
def skipc (a : ByteArray) (cur : Option Nat) (x : Nat) : Bool := match cur with
  | none => false
  | some m => decide (bt a (x : Int) ≥ bt a (m : Int))
def pk (a b : ByteArray) (i k : Nat) : Nat → Nat → Option Nat → Option Nat
  | 0, _, cur => cur
  | d + 1, x, cur => if skipc a cur x then pk a b i k d (x + 1) cur else if qualB a b i k x then pk a b i k d (x + 1) (some x) else pk a b i k d (x + 1) cur
theorem pk_inv (a b : ByteArray) (i k : Nat) : ∀ (d x : Nat) (cur : Option Nat), x + d = a.size → i ≤ x → (∀ m, cur = some m → i ≤ m ∧ m < a.size ∧ qualB a b i k m = true) → (∀ m, pk a b i k d x cur = some m → i ≤ m ∧ m < a.size ∧ qualB a b i k m = true) ∧
    ((cur ≠ none ∨ ∃ z, x ≤ z ∧ z < a.size ∧ qualB a b i k z = true) → pk a b i k d x cur ≠ none) := by
  intro d
  induction d with
  | zero =>
    intro x cur hx hi hc
    refine ⟨hc, fun h => ?_⟩
    rcases h with h | ⟨z, h1, h2, _⟩
    · exact h
    · omega
  | succ d ih =>
    intro x cur hx hi hc
    have step : ∀ cur', (∀ m, cur' = some m → i ≤ m ∧ m < a.size ∧ qualB a b i k m = true) → ((cur ≠ none ∨ ∃ z, x ≤ z ∧ z < a.size ∧ qualB a b i k z = true) → cur' ≠ none ∨ ∃ z, x + 1 ≤ z ∧ z < a.size ∧ qualB a b i k z = true) →
        (∀ m, pk a b i k d (x + 1) cur' = some m → i ≤ m ∧ m < a.size ∧ qualB a b i k m = true) ∧ ((cur ≠ none ∨ ∃ z, x ≤ z ∧ z < a.size ∧ qualB a b i k z = true) → pk a b i k d (x + 1) cur' ≠ none) := by
      intro cur' h1 h2
      obtain ⟨g1, g2⟩ := ih (x + 1) cur' (by omega) (by omega) h1
      exact ⟨g1, fun h => g2 (h2 h)⟩
    unfold pk
    by_cases hs : skipc a cur x = true
    · rw [if_pos hs]
      refine step cur hc (fun _ => .inl ?_)
      intro e
      rw [e] at hs
      cases hs
    · rw [if_neg hs]
      by_cases hq : qualB a b i k x = true
      · rw [if_pos hq]
        refine step (some x) (fun m hm => ?_) (fun _ => .inl (by simp))
        cases hm
        exact ⟨hi, by omega, hq⟩
      · rw [if_neg hq]
        refine step cur hc (fun h => ?_)
        rcases h with h | ⟨z, h1, h2, h3⟩
        · exact .inl h
        · by_cases e : z = x
          · subst e; exact absurd h3 hq
          · exact .inr ⟨z, by omega, h2, h3⟩
def cRes (a b : ByteArray) : Nat → Nat → Nat → List Int
  | 0, _, _ => []
  | d + 1, i, k => if lc a b i k = 0 then [] else match pk a b i k (a.size - i) i none with
    | none => []
    | some m => bt a (m : Int) :: cRes a b d (m + 1) (fy b (bt a (m : Int)) k + 1)
theorem lc_pos {a b : ByteArray} {i k : Nat} (h : ¬ lc a b i k = 0) : i < a.size ∧ k < b.size := by
  constructor
  · by_cases hi : i < a.size
    · exact hi
    · exact absurd (lc_end_left a b i k (by omega)) h
  · by_cases hk : k < b.size
    · exact hk
    · exact absurd (lc_end_right a b i k (by omega)) h
/-- What is picked where something is in common. -/
theorem pk_some (a b : ByteArray) (i k : Nat) (h : ¬ lc a b i k = 0) : ∃ m, pk a b i k (a.size - i) i none = some m ∧ i ≤ m ∧ m < a.size ∧ fy b (bt a (m : Int)) k < b.size ∧ lc a b (m + 1) (fy b (bt a (m : Int)) k + 1) + 1 = lc a b i k := by
  obtain ⟨hi, hk⟩ := lc_pos h
  obtain ⟨g1, g2⟩ := pk_inv a b i k (a.size - i) i none (by omega) (Nat.le_refl _) (fun m hm => by cases hm)
  have hne := g2 (.inr (exists_qual a b _ i k (Nat.le_refl _) (by omega)))
  cases hp : pk a b i k (a.size - i) i none with
  | none => exact absurd hp hne
  | some m =>
    obtain ⟨h1, h2, h3⟩ := g1 m hp
    unfold qualB at h3
    simp only [Bool.and_eq_true, decide_eq_true_eq] at h3
    exact ⟨m, rfl, h1, h2, h3.1, h3.2⟩

theorem tblc (a b : ByteArray) (i j : Nat) (hi : i + 1 ≤ a.size) (hj : j + 1 ≤ b.size) : rd (rd_L1 (tbl a b) ((i : Int) + 1)) ((j : Int) + 1) = (lc a b (i + 1) (j + 1) : Int) := by
  rw [show (i : Int) + 1 = ((i + 1 : Nat) : Int) by omega, show (j : Int) + 1 = ((j + 1 : Nat) : Int) by omega]
  exact tbl_get a b (i + 1) (j + 1) hi hj
theorem tblrow1 (a b : ByteArray) (i : Nat) (hi : i + 1 ≤ a.size) : (rd_L1 (tbl a b) ((i : Int) + 1)).length = b.size + 1 := by
  rw [show (i : Int) + 1 = ((i + 1 : Nat) : Int) by omega]
  exact tbl_row_length a b (i + 1) hi
theorem cmY_ev (a b : ByteArray) (ha : a.size ≤ 300) (i j x : Nat) (hi : i < a.size) (hj : j < b.size) (hx : x < a.size) (bi bj : Int) : ∀ (d y : Nat), b.size - y < d → cmY a b (tbl a b) i j x bi bj d y = some (if fy b (bt a (x : Int)) y < b.size ∧ lc a b (x + 1) (fy b (bt a (x : Int)) y + 1) + 1 = lc a b i j then ((x : Int), (fy b (bt a (x : Int)) y : Int)) else (bi, bj)) := by
  intro d
  induction d with
  | zero => intro y hy; omega
  | succ d ih =>
    intro y hy
    unfold cmY
    by_cases hyb : y < b.size
    · rw [if_pos hyb]
      by_cases e : bt b (y : Int) = bt a (x : Int)
      · rw [if_pos e, fy_here b _ y hyb e, if_pos ⟨by rw [tbl_length]; omega, by rw [tblrow1 a b x (by omega)]; omega, by rw [tbl_length]; omega, by rw [tbl_row_length a b i (by omega)]; omega⟩, tblc a b x y (by omega) (by omega), tbl_get a b i j (by omega) (by omega)]
        have h1 := lc_le a b (x + 1) (y + 1)
        rw [w64 (by omega) (by omega)]
        by_cases e2 : lc a b (x + 1) (y + 1) + 1 = lc a b i j
        · rw [if_pos (by omega), if_pos ⟨hyb, e2⟩]
        · rw [if_neg (by omega), if_neg (fun h => e2 h.2)]
      · rw [if_neg e, fy_next b _ y hyb e]
        exact ih (y + 1) (by omega)
    · rw [if_neg hyb, if_neg (fun h => by rw [fy_end b _ y (by omega)] at h; exact hyb h.1)]
def encI (a b : ByteArray) (k : Nat) (cur : Option Nat) : Int × Int := match cur with
  | none => (-1, -1)
  | some m => ((m : Int), (fy b (bt a (m : Int)) k : Int))
def SeenOk (a b : ByteArray) (i k x : Nat) (cur : Option Nat) (seen : List Bool) : Prop := ∀ c : Int, 0 ≤ c → c ≤ 255 → rdB seen c = true → (∃ m, cur = some m ∧ bt a (m : Int) ≤ c) ∨ (∀ z, x ≤ z → z < a.size → bt a (z : Int) = c → qualB a b i k z = false)
theorem rdB_set (s : List Bool) (c z : Int) (hc : 0 ≤ c) (hz : 0 ≤ z) : rdB (s.set c.toNat true) z = true → z = c ∨ rdB s z = true := by
  unfold rdB
  intro h
  by_cases e : z.toNat = c.toNat
  · exact .inl (by omega)
  · right
    rw [List.getD_eq_getElem?_getD, List.getElem?_set_ne (by omega)] at h
    rw [List.getD_eq_getElem?_getD]
    exact h
theorem cmX_ev (a b : ByteArray) (ha : a.size ≤ 300) (i j : Nat) (hi : i < a.size) (hj : j < b.size) : ∀ (d x : Nat) (cur : Option Nat) (seen : List Bool), x + d = a.size → i ≤ x → (∀ m, cur = some m → m < a.size) → SeenOk a b i j x cur seen →
    ∀ f, d < f → cmX a b (tbl a b) i j f x (encI a b j cur).1 (encI a b j cur).2 seen = some (encI a b j (pk a b i j d x cur)) := by
  intro d
  induction d with
  | zero =>
    intro x cur seen hx hix hc hs f hf
    obtain ⟨f, rfl⟩ : ∃ m, f = m + 1 := ⟨f - 1, by omega⟩
    unfold cmX
    rw [if_neg (by omega)]; rfl
  | succ d ih =>
    intro x cur seen hx hix hc hs f hf
    obtain ⟨f, rfl⟩ : ∃ m, f = m + 1 := ⟨f - 1, by omega⟩
    have hxa : x < a.size := by omega
    have hr := bt_range a (x : Int)
    have weak : ∀ cur' : Option Nat, (∀ m : Nat, cur = some m → ∃ m' : Nat, cur' = some m' ∧ bt a (m' : Int) ≤ bt a (m : Int)) → SeenOk a b i j (x + 1) cur' seen := by
      intro cur' hm c h0 h1 h2
      rcases hs c h0 h1 h2 with ⟨m, e, h3⟩ | h3
      · obtain ⟨m', e', h4⟩ := hm m e
        exact .inl ⟨m', e', by omega⟩
      · exact .inr (fun z hz => h3 z (by omega))
    unfold cmX pk
    rw [if_pos hxa]
    have go : skipc a cur x = true ∨ (skipc a cur x = false ∧ qualB a b i j x = false) → cmX a b (tbl a b) i j f (x + 1) (encI a b j cur).1 (encI a b j cur).2 seen = some (encI a b j (if skipc a cur x = true then pk a b i j d (x + 1) cur else if qualB a b i j x = true then pk a b i j d (x + 1) (some x) else pk a b i j d (x + 1) cur)) := by
      intro h
      have e : (if skipc a cur x = true then pk a b i j d (x + 1) cur else if qualB a b i j x = true then pk a b i j d (x + 1) (some x) else pk a b i j d (x + 1) cur) = pk a b i j d (x + 1) cur := by
        rcases h with h | ⟨h1, h2⟩
        · rw [if_pos h]
        · rw [h1, h2]; rfl
      rw [e]
      exact ih (x + 1) cur seen (by omega) (by omega) hc (weak cur (fun m e => ⟨m, e, Int.le_refl _⟩)) f (by omega)
    by_cases hse : rdB seen (bt a (x : Int)) = true
    · rw [if_pos hse]
      refine go ?_
      rcases hs _ hr.1 hr.2 hse with ⟨m, e, h3⟩ | h3
      · left
        rw [e]
        exact decide_eq_true h3
      · have := h3 x (Nat.le_refl _) hxa rfl
        cases h : skipc a cur x
        · exact .inr ⟨rfl, this⟩
        · exact .inl rfl
    · rw [if_neg hse]
      have body : skipc a cur x = false → ((cmY a b (tbl a b) i j x (encI a b j cur).1 (encI a b j cur).2 (b.size + 1) j).bind fun p => cmX a b (tbl a b) i j f (x + 1) p.1 p.2 (seen.set (bt a (x : Int)).toNat true)) = some (encI a b j (if skipc a cur x = true then pk a b i j d (x + 1) cur else if qualB a b i j x = true then pk a b i j d (x + 1) (some x) else pk a b i j d (x + 1) cur)) := by
        intro hsk
        rw [hsk, cmY_ev a b ha i j x hi hj hxa _ _ (b.size + 1) j (by omega), Option.bind_some]
        simp only [Bool.false_eq_true, if_false]
        by_cases hq : fy b (bt a (x : Int)) j < b.size ∧ lc a b (x + 1) (fy b (bt a (x : Int)) j + 1) + 1 = lc a b i j
        · have hqb : qualB a b i j x = true := by unfold qualB; rw [decide_eq_true hq.1, decide_eq_true hq.2]; rfl
          rw [if_pos hq, if_pos hqb]
          refine ih (x + 1) (some x) _ (by omega) (by omega) (fun m hm => by cases hm; exact hxa) (fun c h0 h1 h2 => ?_) f (by omega)
          rcases rdB_set seen _ c hr.1 h0 h2 with e | h2'
          · exact .inl ⟨x, rfl, by omega⟩
          · refine weak (some x) (fun m e => ⟨x, rfl, ?_⟩) c h0 h1 h2'
            rw [e] at hsk
            have := of_decide_eq_false hsk
            omega
        · have hqb : qualB a b i j x = false := by
            unfold qualB
            by_cases h1 : fy b (bt a (x : Int)) j < b.size
            · have : ¬ lc a b (x + 1) (fy b (bt a (x : Int)) j + 1) + 1 = lc a b i j := fun h2 => hq ⟨h1, h2⟩
              rw [decide_eq_false this, Bool.and_false]
            · rw [decide_eq_false h1]; rfl
          rw [if_neg hq, hqb]
          simp only [Bool.false_eq_true, if_false]
          refine ih (x + 1) cur _ (by omega) (by omega) hc (fun c h0 h1 h2 => ?_) f (by omega)
          rcases rdB_set seen _ c hr.1 h0 h2 with e | h2'
          · right
            intro z hz hza hzc
            unfold qualB
            rw [hzc, e]
            by_cases h1 : fy b (bt a (x : Int)) j < b.size
            · have h3 := lc_anti (a := a) (b := b) (i := x + 1) (i' := z + 1) (k := fy b (bt a (x : Int)) j + 1) (k' := fy b (bt a (x : Int)) j + 1) (by omega) (Nat.le_refl _)
              have h4 := fy_spec b (bt a (x : Int)) _ j rfl
              have h5 := lc_met (i := i) (k := j) hix h4.1 hxa h1 (h4.2.1 h1).symm
              have h6 : ¬ lc a b (x + 1) (fy b (bt a (x : Int)) j + 1) + 1 = lc a b i j := fun h2 => hq ⟨h1, h2⟩
              rw [decide_eq_false (show ¬ lc a b (z + 1) (fy b (bt a (x : Int)) j + 1) + 1 = lc a b i j by omega), Bool.and_false]
            · rw [decide_eq_false h1]; rfl
          · exact weak cur (fun m e => ⟨m, e, Int.le_refl _⟩) c h0 h1 h2'
      cases cur with
      | none =>
        rw [if_neg (show ¬ (encI a b j none).1 ≥ 0 by show ¬ (-1 : Int) ≥ 0; omega)]
        exact body rfl
      | some m =>
        have hm := hc m rfl
        rw [if_pos (show (encI a b j (some m)).1 ≥ 0 by show (m : Int) ≥ 0; omega), if_pos (show (encI a b j (some m)).1 < (a.size : Int) by show (m : Int) < _; omega)]
        by_cases hge : bt a (x : Int) ≥ bt a (encI a b j (some m)).1
        · rw [if_pos hge]
          exact go (.inl (decide_eq_true hge))
        · rw [if_neg hge]
          exact body (decide_eq_false hge)
theorem cmO_ev (a b : ByteArray) (ha : a.size ≤ 300) (hb : b.size ≤ 300) : ∀ (d i j : Nat) (out : List Int), i ≤ a.size → j ≤ b.size → lc a b i j < d → out.length + lc a b i j ≤ 1000 → cmO a b (tbl a b) d out i j = some (out ++ cRes a b d i j) := by
  intro d
  induction d with
  | zero => intro i j out hi hj hd; omega
  | succ d ih =>
    intro i j out hi hj hd hl
    unfold cmO cRes
    rw [if_pos ⟨by rw [tbl_length]; omega, by rw [tbl_row_length a b i hi]; omega⟩, tbl_get a b i j hi hj]
    by_cases h0 : lc a b i j = 0
    · rw [if_neg (by omega), if_pos h0, List.append_nil]
    · rw [if_pos (by omega), if_neg h0]
      obtain ⟨hia, hjb⟩ := lc_pos h0
      obtain ⟨m, hm, h1, h2, h3, h4⟩ := pk_some a b i j h0
      have hX := cmX_ev a b ha i j hia hjb (a.size - i) i none (List.replicate 256 false) (by omega) (Nat.le_refl _) (fun m hm => by cases hm) (fun c h0 h1 h2 => by
        unfold rdB at h2
        rw [List.getD_eq_getElem?_getD, List.getElem?_replicate] at h2
        split at h2 <;> simp at h2) (a.size + 1) (by omega)
      have hX' : cmX a b (tbl a b) i j (a.size + 1) i (-1) (-1) (List.replicate 256 false) = some (encI a b j (pk a b i j (a.size - i) i none)) := hX
      rw [hX', hm, Option.bind_some]
      simp only [encI]
      refine (if_pos (show 0 ≤ (m : Int) ∧ (m : Int) < (a.size : Int) ∧ 0 ≤ (fy b (bt a (m : Int)) j : Int) ∧ (fy b (bt a (m : Int)) j : Int) < (b.size : Int) ∧ out.length < 140737488355327 from ⟨by omega, by omega, by omega, by omega, by omega⟩)).trans ?_
      have e1 : ((m : Int) + 1).toNat = m + 1 := by omega
      have e2 : ((fy b (bt a (m : Int)) j : Int) + 1).toNat = fy b (bt a (m : Int)) j + 1 := by omega
      rw [e1, e2, ih (m + 1) _ _ (by omega) (by omega) (by omega) (by simp; omega), List.append_assoc]; rfl
theorem impl_CommonOf_ev (a b : ByteArray) (hs : a.size ≤ 140737488351232) (hp : b.size ≤ 140737488351232) : ∃ K, ∀ k, K ≤ k → impl_CommonOf.f k a b = some (if textB a && textB b then (strOfNums (cRes a b (a.size + 1) 0 0), true) else (⟨#[]⟩, false)) := by
  obtain ⟨K1, h1⟩ := impl_areTexts_ev a b hs hp
  cases ht : textB a && textB b with
  | false =>
    refine ⟨K1, fun k hk => ?_⟩
    unfold impl_CommonOf.f
    rw [if_pos (by omega), h1 k hk, ht]; rfl
  | true =>
    have ht' := ht
    simp only [Bool.and_eq_true] at ht'
    have hsa := textB_size ht'.1
    have hsb := textB_size ht'.2
    obtain ⟨K2, h2⟩ := impl_common_ev a b hsa hsb
    refine ⟨K1 + K2, fun k hk => ?_⟩
    have hle := lc_le a b 0 0
    unfold impl_CommonOf.f
    rw [if_pos (by omega), h1 k (by omega), ht, Option.bind_some, if_pos rfl, h2 k (by omega), Option.bind_some, cmO_ev a b hsa hsb (a.size + 1) 0 0 [] (Nat.zero_le _) (Nat.zero_le _) (by omega) (by simp; omega), Option.bind_some, List.nil_append]; rfl

def encS (a b : ByteArray) (k : Nat) (cur : Option Nat) : Int × Int × Int := match cur with
  | none => (-1, 0, 0)
  | some m => (bt a (m : Int), ((m + 1 : Nat) : Int), ((fy b (bt a (m : Int)) k + 1 : Nat) : Int))
theorem spec_com_y (a b : ByteArray) (ha : a.size ≤ 300) (hb : b.size ≤ 300) (i j x : Nat) (out : List Int) (hi : i < a.size) (hj : j < b.size) (hx : x < a.size) (r : ByteArray × Bool) (s : Int × Int × Int) : ∀ (d y : Nat), b.size - y = d →
    (∃ K, ∀ k, K ≤ k → spec_CommonOf.l1 k a b (tbl a b) out (i : Int) (j : Int) (if fy b (bt a (x : Int)) y < b.size ∧ lc a b (x + 1) (fy b (bt a (x : Int)) y + 1) + 1 = lc a b i j then (bt a (x : Int), ((x + 1 : Nat) : Int), ((fy b (bt a (x : Int)) y + 1 : Nat) : Int)) else s).1 (if fy b (bt a (x : Int)) y < b.size ∧ lc a b (x + 1) (fy b (bt a (x : Int)) y + 1) + 1 = lc a b i j then (bt a (x : Int), ((x + 1 : Nat) : Int), ((fy b (bt a (x : Int)) y + 1 : Nat) : Int)) else s).2.1 (if fy b (bt a (x : Int)) y < b.size ∧ lc a b (x + 1) (fy b (bt a (x : Int)) y + 1) + 1 = lc a b i j then (bt a (x : Int), ((x + 1 : Nat) : Int), ((fy b (bt a (x : Int)) y + 1 : Nat) : Int)) else s).2.2 ((x + 1 : Nat) : Int) = some r) →
    ∃ K, ∀ k, K ≤ k → spec_CommonOf.l2 k a b (tbl a b) out (i : Int) (j : Int) s.1 s.2.1 s.2.2 (x : Int) (y : Int) = some r := by
  intro d
  induction d with
  | zero =>
    intro y hd H
    obtain ⟨K, hK⟩ := H
    have hy : b.size ≤ y := by omega
    refine ⟨K + 1, fun k hk => ?_⟩
    obtain ⟨k, rfl⟩ : ∃ m, k = m + 1 := ⟨k - 1, by omega⟩
    have h := hK k (by omega)
    rw [fy_end b _ y hy, if_neg (fun c => by omega)] at h
    simp only [spec_CommonOf.l2]
    rw [if_neg (by omega), w64 (by omega) (by omega)]
    exact h
  | succ d ih =>
    intro y hd H
    have hyb : y < b.size := by omega
    by_cases e : bt b (y : Int) = bt a (x : Int)
    · obtain ⟨K, hK⟩ := H
      refine ⟨K + 1, fun k hk => ?_⟩
      obtain ⟨k, rfl⟩ : ∃ m, k = m + 1 := ⟨k - 1, by omega⟩
      have h := hK k (by omega)
      rw [fy_here b _ y hyb e] at h
      have hr := bt_range a (x : Int)
      have hle := lc_le a b i j
      have hle2 := lc_le a b (x + 1) (y + 1)
      simp only [spec_CommonOf.l2]
      rw [w64 (i := (x : Int) + 1) (by omega) (by omega), w64 (i := (y : Int) + 1) (by omega) (by omega)]
      rw [if_pos (by omega), if_pos (by omega), if_pos (by omega), if_pos (by omega), if_pos e, if_pos (by omega), if_pos (by rw [tbl_length]; omega), if_pos (by omega), if_pos (by rw [tblrow1 a b x (by omega)]; omega), if_pos (by omega), if_pos (by rw [tbl_length]; omega), if_pos (by omega), if_pos (by rw [tbl_row_length a b i (by omega)]; omega), tblc a b x y (by omega) (by omega), tbl_get a b i j (by omega) (by omega), w64 (i := (lc a b i j : Int) - 1) (by omega) (by omega), w64 (i := bt a (x : Int)) (by omega) (by omega)]
      rw [show (x : Int) + 1 = ((x + 1 : Nat) : Int) by omega, show (y : Int) + 1 = ((y + 1 : Nat) : Int) by omega]
      by_cases e2 : lc a b (x + 1) (y + 1) + 1 = lc a b i j
      · rw [if_pos ⟨hyb, e2⟩] at h
        rw [if_pos (by omega)]
        exact h
      · rw [if_neg (fun c => e2 c.2)] at h
        rw [if_neg (by omega)]
        exact h
    · rw [fy_next b _ y hyb e] at H
      obtain ⟨K, hK⟩ := ih (y + 1) (by omega) H
      refine ⟨K + 1, fun k hk => ?_⟩
      obtain ⟨k, rfl⟩ : ∃ m, k = m + 1 := ⟨k - 1, by omega⟩
      have h := hK k (by omega)
      simp only [spec_CommonOf.l2]
      rw [if_pos (by omega), if_pos (by omega), if_pos (by omega), if_pos (by omega), if_neg e, w64 (i := (y : Int) + 1) (by omega) (by omega), show (y : Int) + 1 = ((y + 1 : Nat) : Int) by omega]
      exact h
theorem spec_com_x (a b : ByteArray) (ha : a.size ≤ 300) (hb : b.size ≤ 300) (i j : Nat) (out : List Int) (hout : out.length ≤ 1000) (hi : i < a.size) (hj : j < b.size) (r : ByteArray × Bool) : ∀ (d x : Nat) (cur : Option Nat), x + d = a.size →
    (∃ K, ∀ k, K ≤ k → spec_CommonOf.l0 k a b (tbl a b) (out ++ [(encS a b j (pk a b i j d x cur)).1 % 256]) (encS a b j (pk a b i j d x cur)).2.1 (encS a b j (pk a b i j d x cur)).2.2 = some r) →
    ∃ K, ∀ k, K ≤ k → spec_CommonOf.l1 k a b (tbl a b) out (i : Int) (j : Int) (encS a b j cur).1 (encS a b j cur).2.1 (encS a b j cur).2.2 (x : Int) = some r := by
  intro d
  induction d with
  | zero =>
    intro x cur hx H
    obtain ⟨K, hK⟩ := H
    refine ⟨K + 1, fun k hk => ?_⟩
    obtain ⟨k, rfl⟩ : ∃ m, k = m + 1 := ⟨k - 1, by omega⟩
    have h := hK k (by omega)
    simp only [spec_CommonOf.l1]
    rw [if_neg (by omega), if_pos (by omega)]
    exact h
  | succ d ih =>
    intro x cur hx H
    have hxa : x < a.size := by omega
    have hr := bt_range a (x : Int)
    have toj : ∀ (z : Bool), z = skipc a cur x → (∃ K, ∀ k, K ≤ k → spec_CommonOf.j2 k a b (tbl a b) out (i : Int) (j : Int) (encS a b j cur).1 (encS a b j cur).2.1 (encS a b j cur).2.2 (x : Int) z = some r) → ∃ K, ∀ k, K ≤ k → spec_CommonOf.l1 k a b (tbl a b) out (i : Int) (j : Int) (encS a b j cur).1 (encS a b j cur).2.1 (encS a b j cur).2.2 (x : Int) = some r := by
      intro z hz H2
      obtain ⟨K, hK⟩ := H2
      refine ⟨K + 1, fun k hk => ?_⟩
      obtain ⟨k, rfl⟩ : ∃ m, k = m + 1 := ⟨k - 1, by omega⟩
      have h := hK k (by omega)
      simp only [spec_CommonOf.l1]
      rw [if_pos (by omega)]
      cases cur with
      | none =>
        rw [if_neg (show ¬ (encS a b j none).1 ≥ 0 by show ¬ (-1 : Int) ≥ 0; omega)]
        rw [hz] at h
        exact h
      | some m =>
        have hm := bt_range a (m : Int)
        rw [if_pos (show (encS a b j (some m)).1 ≥ 0 by show bt a (m : Int) ≥ 0; omega), if_pos (by omega), w64 (i := bt a (x : Int)) (by omega) (by omega)]
        rw [hz] at h
        exact h
    unfold pk at H
    by_cases hs : skipc a cur x = true
    · rw [if_pos hs] at H
      obtain ⟨K, hK⟩ := ih (x + 1) cur (by omega) H
      refine toj true hs.symm ⟨K + 1, fun k hk => ?_⟩
      obtain ⟨k, rfl⟩ : ∃ m, k = m + 1 := ⟨k - 1, by omega⟩
      have h := hK k (by omega)
      simp only [spec_CommonOf.j2, if_true]
      rw [w64 (by omega) (by omega), show (x : Int) + 1 = ((x + 1 : Nat) : Int) by omega]
      exact h
    · rw [if_neg hs] at H
      replace hs := Bool.eq_false_iff.mpr hs
      have fin : ∃ K, ∀ k, K ≤ k → spec_CommonOf.l2 k a b (tbl a b) out (i : Int) (j : Int) (encS a b j cur).1 (encS a b j cur).2.1 (encS a b j cur).2.2 (x : Int) (j : Int) = some r := by
        refine spec_com_y a b ha hb i j x out hi hj hxa r (encS a b j cur) _ j rfl ?_
        by_cases hq : fy b (bt a (x : Int)) j < b.size ∧ lc a b (x + 1) (fy b (bt a (x : Int)) j + 1) + 1 = lc a b i j
        · have hqb : qualB a b i j x = true := by unfold qualB; rw [decide_eq_true hq.1, decide_eq_true hq.2]; rfl
          rw [if_pos hqb] at H
          rw [if_pos hq]
          exact ih (x + 1) (some x) (by omega) H
        · have hqb : ¬ qualB a b i j x = true := by
            unfold qualB
            simp only [Bool.and_eq_true, decide_eq_true_eq]
            exact hq
          rw [if_neg hqb] at H
          rw [if_neg hq]
          exact ih (x + 1) cur (by omega) H
      obtain ⟨K, hK⟩ := fin
      refine toj false hs.symm ⟨K + 1, fun k hk => ?_⟩
      obtain ⟨k, rfl⟩ : ∃ m, k = m + 1 := ⟨k - 1, by omega⟩
      have h := hK k (by omega)
      simp only [spec_CommonOf.j2, Bool.false_eq_true, if_false]
      exact h
theorem spec_com_o (a b : ByteArray) (ha : a.size ≤ 300) (hb : b.size ≤ 300) : ∀ (d i j : Nat) (out : List Int), i ≤ a.size → j ≤ b.size → lc a b i j < d → out.length + lc a b i j ≤ 1000 → ∃ K, ∀ k, K ≤ k → spec_CommonOf.l0 k a b (tbl a b) out (i : Int) (j : Int) = some (strOfNums (out ++ cRes a b d i j), true) := by
  intro d
  induction d with
  | zero => intro i j out hi hj hd; omega
  | succ d ih =>
    intro i j out hi hj hd hl
    unfold cRes
    by_cases h0 : lc a b i j = 0
    · rw [if_pos h0, List.append_nil]
      refine ⟨1, fun k hk => ?_⟩
      obtain ⟨k, rfl⟩ : ∃ m, k = m + 1 := ⟨k - 1, by omega⟩
      simp only [spec_CommonOf.l0]
      rw [if_pos (by omega), if_pos (by rw [tbl_length]; omega), if_pos (by omega), if_pos (by rw [tbl_row_length a b i hi]; omega), tbl_get a b i j hi hj, if_neg (by omega)]
    · rw [if_neg h0]
      obtain ⟨hia, hjb⟩ := lc_pos h0
      obtain ⟨m, hm, h1, h2, h3, h4⟩ := pk_some a b i j h0
      have hr := bt_range a (m : Int)
      rw [hm]
      have hI := ih (m + 1) (fy b (bt a (m : Int)) j + 1) (out ++ [bt a (m : Int)]) (by omega) (by omega) (by omega) (by simp; omega)
      rw [List.append_assoc] at hI
      obtain ⟨K, hK⟩ := spec_com_x a b ha hb i j out (by omega) hia hjb _ (a.size - i) i none (by omega) (by
        rw [hm]
        simp only [encS]
        rw [show bt a (m : Int) % 256 = bt a (m : Int) by omega]
        exact hI)
      refine ⟨K + 1, fun k hk => ?_⟩
      obtain ⟨k, rfl⟩ : ∃ m, k = m + 1 := ⟨k - 1, by omega⟩
      simp only [spec_CommonOf.l0]
      rw [if_pos (by omega), if_pos (by rw [tbl_length]; omega), if_pos (by omega), if_pos (by rw [tbl_row_length a b i hi]; omega), tbl_get a b i j hi hj, if_pos (by omega)]
      exact hK k (by omega)
theorem spec_CommonOf_ev (a b : ByteArray) (hs : a.size ≤ 140737488351232) (hp : b.size ≤ 140737488351232) : ∃ K, ∀ k, K ≤ k → spec_CommonOf.f k a b = some (if textB a && textB b then (strOfNums (cRes a b (a.size + 1) 0 0), true) else (⟨#[]⟩, false)) := by
  obtain ⟨K1, h1⟩ := spec_l9Texts_ev a b hs hp
  cases ht : textB a && textB b with
  | false =>
    refine ⟨K1, fun k hk => ?_⟩
    unfold spec_CommonOf.f
    rw [h1 k hk, ht]; rfl
  | true =>
    have ht' := ht
    simp only [Bool.and_eq_true] at ht'
    have hsa := textB_size ht'.1
    have hsb := textB_size ht'.2
    obtain ⟨K2, h2⟩ := spec_l9Table_ev a b hsa hsb
    have hle := lc_le a b 0 0
    obtain ⟨K3, h3⟩ := spec_com_o a b hsa hsb (a.size + 1) 0 0 [] (Nat.zero_le _) (Nat.zero_le _) (by omega) (by simp; omega)
    refine ⟨K1 + K2 + K3, fun k hk => ?_⟩
    unfold spec_CommonOf.f
    rw [h1 k (by omega), ht, Option.bind_some, if_pos rfl, h2 k (by omega), Option.bind_some]
    exact h3 k (by omega)

theorem FnExactCommonOf : laws_FnExactCommonOf.Pure := by
  intro a b ha hb
  obtain ⟨K3, h3⟩ := impl_CommonOf_ev a b ha hb
  obtain ⟨K4, h4⟩ := spec_CommonOf_ev a b ha hb
  refine ⟨max K3 K4, ?_⟩
  unfold laws_FnExactCommonOf.f
  rw [h3 _ (by omega), h4 _ (by omega)]
  simp only [Option.bind_some, bne_self_eq_false, Bool.false_eq_true, if_false, if_true]
  split
  · rfl
  · split <;> rfl

end Go.Proofs.Ytibedlbjkaikiaa.Pure
