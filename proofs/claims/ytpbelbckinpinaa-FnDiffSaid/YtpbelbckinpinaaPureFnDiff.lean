/- A difference of two drawn texts is what makes the one of the other, it costs the distance, and no drawn change costs less. -/
import Derived.Test.YtpbelbckinpinaaAFnDiffx15
set_option linter.unusedVariables false
set_option linter.unusedSimpArgs false
namespace Go.Proofs.Ytpbelbckinpinaa.Pure
open Go.RowKit Go.Proofs.Ytpbelbckinpinaa.AFnDiff Go.Proofs.YtpbelbckinpinaaW.PrintWords Go.Proofs.YtpbelbckinpinaaW.PrintLast Go.Proofs.YtpbelbckinpinaaW.PrintMore

theorem w64 {i : Int} (h0 : -4611686018427387904 ≤ i) (h : i ≤ 4611686018427387904) : wrap64 i = i := by
  unfold wrap64; omega

def nmB (c : Int) : Bool := decide (65 ≤ c) && decide (c ≤ 70)
def plB (c : Int) : Bool := (decide (97 ≤ c) && decide (c ≤ 122)) || ((decide (48 ≤ c) && decide (c ≤ 57)) || (decide (c = 32) || (decide (c = 46) || decide (c = 44))))
def okB (c : Int) : Bool := nmB c || (plB c || decide (c = 47))
def okN (s : ByteArray) : Nat → Nat → Bool
  | 0, _ => true
  | d + 1, i => okB (bt s i) && okN s d (i + 1)
def textB (s : ByteArray) : Bool := okN s s.size 0 && decide (s.size ≤ 300)

theorem textB_size {s : ByteArray} (h : textB s = true) : s.size ≤ 300 := by
  unfold textB at h; simp at h; exact h.2

theorem impl_isName_eq (c : Int) : impl_isName.f c = some (nmB c) := by
  unfold impl_isName.f nmB
  by_cases h1 : c ≥ 65 <;> simp [h1] <;> omega
theorem impl_isPlain_eq (c : Int) : impl_isPlain.f c = some (plB c) := by
  unfold impl_isPlain.f plB
  by_cases h1 : 97 ≤ c <;> by_cases h2 : c ≤ 122 <;> by_cases h3 : 48 ≤ c <;> by_cases h4 : c ≤ 57 <;> by_cases h5 : c = 32 <;> by_cases h6 : c = 46 <;> simp [h1, h2, h3, h4, h5, h6] <;> rfl
theorem impl_GoodText_l (s : ByteArray) (hs : s.size ≤ 140737488351232) : ∀ (d i : Nat), i + d = s.size →
    ∃ K, ∀ k, K ≤ k → impl_GoodText.l0 k s (s.size : Int) (i : Int) = some (okN s d i && decide (s.size ≤ 300)) := by
  intro d
  induction d with
  | zero =>
    intro i hi
    refine ⟨1, fun k hk => ?_⟩
    obtain ⟨k, rfl⟩ : ∃ m, k = m + 1 := ⟨k - 1, by omega⟩
    simp only [impl_GoodText.l0]
    rw [if_neg (by omega)]
    simp [okN]
    omega
  | succ d ih =>
    intro i hi
    obtain ⟨K, hK⟩ := ih (i + 1) (by omega)
    refine ⟨K + 1, fun k hk => ?_⟩
    obtain ⟨k, rfl⟩ : ∃ m, k = m + 1 := ⟨k - 1, by omega⟩
    have hr := hK k (by omega)
    simp only [impl_GoodText.l0]
    rw [if_pos (by omega), if_pos (by omega), if_pos (by omega), impl_isName_eq, Option.bind_some, impl_isPlain_eq, Option.bind_some, w64 (by omega) (by omega)]
    have hc : ((i : Int) + 1) = ((i + 1 : Nat) : Int) := by omega
    rw [hc, hr]
    show _ = some ((okB (bt s i) && okN s d (i + 1)) && _)
    unfold okB
    cases nmB (bt s i) <;> cases plB (bt s i) <;> by_cases h : bt s i = 47 <;> simp [h]
theorem impl_GoodText_ev (s : ByteArray) (hs : s.size ≤ 140737488351232) : ∃ K, ∀ k, K ≤ k → impl_GoodText.f k s = some (textB s) := by
  obtain ⟨K, hK⟩ := impl_GoodText_l s hs s.size 0 (by omega)
  exact ⟨K, fun k hk => by unfold impl_GoodText.f; exact hK k hk⟩

theorem spec_l1Open_eq (c : Int) : spec_l1Open.f c = some (nmB c) := by
  unfold spec_l1Open.f nmB
  by_cases h1 : c ≥ 65 <;> simp [h1] <;> omega
theorem spec_l1Plain_eq (c : Int) : spec_l1Plain.f c = some (plB c) := by
  unfold spec_l1Plain.f plB
  by_cases h1 : 97 ≤ c <;> by_cases h2 : c ≤ 122 <;> by_cases h3 : 48 ≤ c <;> by_cases h4 : c ≤ 57 <;> by_cases h5 : c = 32 <;> by_cases h6 : c = 46 <;> simp [h1, h2, h3, h4, h5, h6] <;> rfl
theorem spec_l1Text_l (s : ByteArray) (hs : s.size ≤ 140737488351232) : ∀ (d i : Nat), i + d = s.size →
    ∃ K, ∀ k, K ≤ k → spec_l1Text.l0 k s (i : Int) = some (okN s d i) := by
  intro d
  induction d with
  | zero =>
    intro i hi
    refine ⟨1, fun k hk => ?_⟩
    obtain ⟨k, rfl⟩ : ∃ m, k = m + 1 := ⟨k - 1, by omega⟩
    simp only [spec_l1Text.l0]
    rw [if_neg (by omega)]
    simp [okN]
  | succ d ih =>
    intro i hi
    obtain ⟨K, hK⟩ := ih (i + 1) (by omega)
    refine ⟨K + 1, fun k hk => ?_⟩
    obtain ⟨k, rfl⟩ : ∃ m, k = m + 1 := ⟨k - 1, by omega⟩
    have hr := hK k (by omega)
    simp only [spec_l1Text.l0]
    rw [if_pos (by omega), if_pos (by omega), spec_l1Open_eq, Option.bind_some, spec_l1Plain_eq, Option.bind_some, w64 (by omega) (by omega)]
    have hc : ((i : Int) + 1) = ((i + 1 : Nat) : Int) := by omega
    rw [hc, hr]
    show _ = some (okB (bt s i) && okN s d (i + 1))
    unfold okB
    cases nmB (bt s i) <;> cases plB (bt s i) <;> by_cases h : bt s i = 47 <;> simp [h]
theorem spec_GoodText_ev (s : ByteArray) (hs : s.size ≤ 140737488351232) : ∃ K, ∀ k, K ≤ k → spec_GoodText.f k s = some (textB s) := by
  obtain ⟨K, hK⟩ := spec_l1Text_l s hs s.size 0 (by omega)
  refine ⟨K, fun k hk => ?_⟩
  have h := hK k hk
  unfold spec_GoodText.f spec_l1Text.f
  simp only [Int.cast_ofNat_Int] at h
  rw [h, Option.bind_some]
  unfold textB
  cases okN s s.size 0 <;> simp <;> omega

theorem impl_areTexts_ev (a b : ByteArray) (ha : a.size ≤ 140737488351232) (hb : b.size ≤ 140737488351232) : ∃ K, ∀ k, K ≤ k → impl_areTexts.f k a b = some (textB a && textB b) := by
  obtain ⟨K, hK⟩ := impl_GoodText_ev a ha
  obtain ⟨K', hK'⟩ := impl_GoodText_ev b hb
  refine ⟨max K K', fun k hk => ?_⟩
  have h1 := hK k (by omega)
  have h2 := hK' k (by omega)
  unfold impl_areTexts.f
  rw [h1, Option.bind_some, h2, Option.bind_some]
  cases textB a <;> simp
theorem spec_l9Texts_ev (a b : ByteArray) (ha : a.size ≤ 140737488351232) (hb : b.size ≤ 140737488351232) : ∃ K, ∀ k, K ≤ k → spec_l9Texts.f k a b = some (textB a && textB b) := by
  obtain ⟨K, hK⟩ := spec_GoodText_ev a ha
  obtain ⟨K', hK'⟩ := spec_GoodText_ev b hb
  refine ⟨max K K', fun k hk => ?_⟩
  have h1 := hK k (by omega)
  have h2 := hK' k (by omega)
  unfold spec_l9Texts.f
  rw [h1, Option.bind_some, h2, Option.bind_some]
  cases textB a <;> simp

def lcs : List Int → List Int → Nat
  | [], _ => 0
  | _ :: _, [] => 0
  | x :: xs, y :: ys => if x = y then lcs xs ys + 1 else max (lcs xs (y :: ys)) (lcs (x :: xs) ys)
termination_by xs ys => xs.length + ys.length
theorem lcs_nil (ys : List Int) : lcs [] ys = 0 := by rw [lcs]
theorem lcs_nil_right (xs : List Int) : lcs xs [] = 0 := by cases xs <;> rw [lcs]
theorem lcs_cons (x : Int) (xs : List Int) (y : Int) (ys : List Int) : lcs (x :: xs) (y :: ys) = if x = y then lcs xs ys + 1 else max (lcs xs (y :: ys)) (lcs (x :: xs) ys) := by rw [lcs]
theorem lcs_le : ∀ (n : Nat) (xs ys : List Int), xs.length + ys.length ≤ n → lcs xs ys ≤ xs.length := by
  intro n
  induction n with
  | zero =>
    intro xs ys h
    have : xs = [] := List.eq_nil_of_length_eq_zero (by omega)
    subst this; rw [lcs_nil]; omega
  | succ n ih =>
    intro xs ys h
    cases xs with
    | nil => rw [lcs_nil]; omega
    | cons x xs =>
      cases ys with
      | nil => rw [lcs_nil_right]; omega
      | cons y ys =>
        rw [lcs_cons]
        simp only [List.length_cons] at *
        have h1 := ih xs ys (by omega)
        have h2 := ih xs (y :: ys) (by simp only [List.length_cons]; omega)
        have h3 := ih (x :: xs) ys (by simp only [List.length_cons]; omega)
        simp only [List.length_cons] at h3
        split <;> omega
def BL (s : ByteArray) : List Int := (List.range s.size).map fun (i : Nat) => bt s (i : Int)
theorem BL_length (s : ByteArray) : (BL s).length = s.size := by unfold BL; simp
theorem BL_drop (s : ByteArray) (i : Nat) (h : i < s.size) : (BL s).drop i = bt s (i : Int) :: (BL s).drop (i + 1) := by
  rw [List.drop_eq_getElem_cons (by rw [BL_length]; exact h)]
  congr 1
  unfold BL; simp
theorem BL_drop_end (s : ByteArray) (i : Nat) (h : s.size ≤ i) : (BL s).drop i = [] := List.drop_of_length_le (by rw [BL_length]; exact h)
def lc (a b : ByteArray) (i j : Nat) : Nat := lcs ((BL a).drop i) ((BL b).drop j)
theorem lc_end_left (a b : ByteArray) (i j : Nat) (h : a.size ≤ i) : lc a b i j = 0 := by unfold lc; rw [BL_drop_end a i h, lcs_nil]
theorem lc_end_right (a b : ByteArray) (i j : Nat) (h : b.size ≤ j) : lc a b i j = 0 := by unfold lc; rw [BL_drop_end b j h, lcs_nil_right]
theorem lc_step (a b : ByteArray) (i j : Nat) (hi : i < a.size) (hj : j < b.size) : lc a b i j = if bt a (i : Int) = bt b (j : Int) then lc a b (i + 1) (j + 1) + 1 else max (lc a b (i + 1) j) (lc a b i (j + 1)) := by
  unfold lc
  rw [BL_drop a i hi, BL_drop b j hj, lcs_cons]
theorem lc_le (a b : ByteArray) (i j : Nat) : lc a b i j ≤ a.size := by
  have := lcs_le _ ((BL a).drop i) ((BL b).drop j) (Nat.le_refl _)
  unfold lc
  rw [List.length_drop, BL_length] at this
  omega
def RowIs (row : List Int) (n : Nat) (f : Nat → Nat) : Prop := row.length = n + 1 ∧ ∀ j : Nat, j ≤ n → rd row (j : Int) = (f j : Int)
def tbl (a b : ByteArray) : List (List Int) := (List.range (a.size + 1)).map fun i => (List.range (b.size + 1)).map fun j => (lc a b i j : Int)
theorem rd_get (l : List Int) (j : Nat) (h : j < l.length) : rd l (j : Int) = l[j] := by unfold rd; simp [List.getD, h]
theorem RowIs.eq {row : List Int} {n : Nat} {f : Nat → Nat} (h : RowIs row n f) : row = (List.range (n + 1)).map fun j => (f j : Int) := by
  apply List.ext_getElem
  · simp [h.1]
  · intro j h1 h2
    simp only [List.getElem_map, List.getElem_range]
    rw [← rd_get row j h1]; exact h.2 j (by have := h.1; omega)
theorem tbl_eq {a b : ByteArray} {t : List (List Int)} (hl : t.length = a.size + 1) (h : ∀ i : Nat, i ≤ a.size → RowIs (rd_L3 t (i : Int)) b.size (lc a b i)) : t = tbl a b := by
  unfold tbl
  apply List.ext_getElem
  · simp [hl]
  · intro i h1 h2
    simp only [List.getElem_map, List.getElem_range]
    rw [← (h i (by omega)).eq]
    unfold rd_L3; simp [List.getD, h1]
theorem tbl_get (a b : ByteArray) (i j : Nat) (hi : i ≤ a.size) (hj : j ≤ b.size) : rd (rd_L3 (tbl a b) (i : Int)) (j : Int) = (lc a b i j : Int) := by
  unfold rd rd_L3 tbl
  simp [List.getD, (by omega : i < a.size + 1), (by omega : j < b.size + 1)]
theorem tbl_length (a b : ByteArray) : (tbl a b).length = a.size + 1 := by simp [tbl]
theorem tbl_row_length (a b : ByteArray) (i : Nat) (hi : i ≤ a.size) : (rd_L3 (tbl a b) (i : Int)).length = b.size + 1 := by
  unfold rd_L3 tbl
  simp [List.getD, (by omega : i < a.size + 1)]
theorem rdL_set {t : List (List Int)} {i : Nat} {v : List Int} (h : i < t.length) (j : Nat) : rd_L3 (t.set i v) (j : Int) = if j = i then v else rd_L3 t (j : Int) := by
  unfold rd_L3
  simp only [Int.toNat_natCast, List.getD_eq_getElem?_getD]
  by_cases e : j = i
  · subst e; simp [h]
  · rw [List.getElem?_set_ne (by omega)]; simp [e]
theorem rdR_set {bs : List Int} {i : Nat} {v : Int} (h : i < bs.length) (j : Nat) : rd (bs.set i v) (j : Int) = if j = i then v else rd bs (j : Int) := by
  unfold rd
  simp only [Int.toNat_natCast, List.getD_eq_getElem?_getD]
  by_cases e : j = i
  · subst e; simp [h]
  · rw [List.getElem?_set_ne (by omega)]; simp [e]
theorem RowIs.zeros (n : Nat) (f : Nat → Nat) (h : ∀ j, j ≤ n → f j = 0) : RowIs (List.replicate (n + 1) 0) n f := by
  refine ⟨by simp, fun j hj => ?_⟩
  rw [h j hj]; unfold rd
  simp [List.getD, (by omega : j < n + 1)]

theorem impl_common_in (a b : ByteArray) (ha : a.size ≤ 300) (hb : b.size ≤ 300) (i : Nat) (hi : i < a.size)
    (H : ∀ t : List (List Int), t.length = a.size + 1 → (∀ r : Nat, i ≤ r → r ≤ a.size → RowIs (rd_L3 t (r : Int)) b.size (lc a b r)) → ∃ K, ∀ k, K ≤ k → impl_common.l0 k a b t ((i : Int) - 1) = some (tbl a b)) :
    ∀ (d : Nat) (t : List (List Int)), d ≤ b.size → t.length = a.size + 1 → (∀ r : Nat, i < r → r ≤ a.size → RowIs (rd_L3 t (r : Int)) b.size (lc a b r)) →
      (rd_L3 t (i : Int)).length = b.size + 1 → (∀ j : Nat, d ≤ j → j ≤ b.size → rd (rd_L3 t (i : Int)) (j : Int) = (lc a b i j : Int)) →
      ∃ K, ∀ k, K ≤ k → impl_common.l1 k a b t (i : Int) ((d : Int) - 1) = some (tbl a b) := by
  intro d
  induction d with
  | zero =>
    intro t hd hl hr hlen hrow
    obtain ⟨K, hK⟩ := H t hl (fun r h1 h2 => by
      by_cases e : r = i
      · subst e; exact ⟨hlen, fun j hj => hrow j (by omega) hj⟩
      · exact hr r (by omega) h2)
    refine ⟨K + 1, fun k hk => ?_⟩
    obtain ⟨k, rfl⟩ : ∃ m, k = m + 1 := ⟨k - 1, by omega⟩
    simp only [impl_common.l1]
    simp (disch := omega) only [w64, if_neg]
    exact hK k (by omega)
  | succ d ih =>
    intro t hd hl hr hlen hrow
    have hnext := hr (i + 1) (by omega) (by omega)
    have hs := lc_step a b i d hi (by omega)
    have hle1 := lc_le a b (i + 1) (d + 1)
    have hnl := hnext.1
    have hv1 := hnext.2 (d + 1) (by omega)
    have hv2 := hnext.2 d (by omega)
    have hv3 := hrow (d + 1) (by omega) (by omega)
    have c1 : ((i + 1 : Nat) : Int) = (i : Int) + 1 := by omega
    have c2 : ((d + 1 : Nat) : Int) = (d : Int) + 1 := by omega
    rw [c1] at hnl hv1 hv2
    rw [c2] at hv1 hv3
    obtain ⟨K, hK⟩ := ih (t.set i ((rd_L3 t (i : Int)).set d (lc a b i d : Int))) (by omega) (by simpa using hl)
      (fun r h1 h2 => by rw [rdL_set (by omega), if_neg (by omega)]; exact hr r h1 h2)
      (by rw [rdL_set (by omega), if_pos rfl, List.length_set]; exact hlen)
      (fun j h1 h2 => by
        rw [rdL_set (by omega), if_pos rfl, rdR_set (by omega)]
        by_cases e : j = d
        · rw [if_pos e, e]
        · rw [if_neg e]; exact hrow j (by omega) h2)
    refine ⟨K + 1, fun k hk => ?_⟩
    obtain ⟨k, rfl⟩ : ∃ m, k = m + 1 := ⟨k - 1, by omega⟩
    have hk' := hK k (by omega)
    simp only [impl_common.l1]
    rw [c2]
    simp only [Int.add_sub_cancel]
    by_cases c : bt a (i : Int) = bt b (d : Int)
    · rw [if_pos c] at hs
      have hs' : (lc a b i d : Int) = (lc a b (i + 1) (d + 1) : Int) + 1 := by omega
      rw [hs'] at hk'
      simp (disch := omega) only [w64, if_pos, Int.toNat_natCast, hv1]
      exact hk'
    · rw [if_neg c] at hs
      have hs' : mx (lc a b (i + 1) d : Int) (lc a b i (d + 1) : Int) = (lc a b i d : Int) := by unfold mx; omega
      simp (disch := omega) only [w64, if_pos, if_neg, Int.toNat_natCast, hv2, hv3, hs']
      exact hk'
theorem impl_common_out (a b : ByteArray) (ha : a.size ≤ 300) (hb : b.size ≤ 300) : ∀ (e : Nat) (t : List (List Int)), e ≤ a.size → t.length = a.size + 1 →
    (∀ r : Nat, e ≤ r → r ≤ a.size → RowIs (rd_L3 t (r : Int)) b.size (lc a b r)) → ∃ K, ∀ k, K ≤ k → impl_common.l0 k a b t ((e : Int) - 1) = some (tbl a b) := by
  intro e
  induction e with
  | zero =>
    intro t he hl hr
    refine ⟨1, fun k hk => ?_⟩
    obtain ⟨k, rfl⟩ : ∃ m, k = m + 1 := ⟨k - 1, by omega⟩
    simp only [impl_common.l0]
    rw [if_neg (by omega), tbl_eq hl (fun i hi => hr i (by omega) hi)]
  | succ e ih =>
    intro t he hl hr
    obtain ⟨K, hK⟩ := impl_common_in a b ha hb e (by omega) (fun t h1 h2 => ih t (by omega) h1 h2) b.size (t.set e (List.replicate (b.size + 1) 0)) (by omega) (by simpa using hl)
      (fun r h1 h2 => by rw [rdL_set (by omega), if_neg (by omega)]; exact hr r h1 h2)
      (by rw [rdL_set (by omega), if_pos rfl, List.length_replicate])
      (fun j h1 h2 => by
        rw [rdL_set (by omega), if_pos rfl, lc_end_right a b e j h1]
        unfold rd; simp [List.getD, (by omega : j < b.size + 1)])
    refine ⟨K + 1, fun k hk => ?_⟩
    obtain ⟨k, rfl⟩ : ∃ m, k = m + 1 := ⟨k - 1, by omega⟩
    have hk' := hK k (by omega)
    simp only [impl_common.l0]
    rw [show ((e + 1 : Nat) : Int) - 1 = (e : Int) by omega]
    simp (disch := omega) only [w64, if_pos, Int.toNat_natCast]
    exact hk'
theorem impl_common_ev (a b : ByteArray) (ha : a.size ≤ 300) (hb : b.size ≤ 300) : ∃ K, ∀ k, K ≤ k → impl_common.f k a b = some (tbl a b) := by
  obtain ⟨K, hK⟩ := impl_common_out a b ha hb a.size ((List.replicate (a.size + 1) ([] : List Int)).set a.size (List.replicate (b.size + 1) 0)) (by omega) (by simp)
    (fun r h1 h2 => by
      have : r = a.size := by omega
      subst this
      rw [rdL_set (by simp), if_pos rfl]
      exact RowIs.zeros _ _ (fun j _ => lc_end_left a b _ j (by omega)))
  refine ⟨K, fun k hk => ?_⟩
  have := hK k hk
  unfold impl_common.f
  simp (disch := omega) only [w64, if_pos, Option.bind_some]
  have e1 : ((b.size : Int) + 1).toNat = b.size + 1 := by omega
  have e2 : ((a.size : Int) + 1).toNat = a.size + 1 := by omega
  simp only [e1, e2, List.length_replicate, Int.toNat_natCast]
  rw [if_pos (by omega)]
  exact this

theorem spec_l9Table_in (a b : ByteArray) (ha : a.size ≤ 300) (hb : b.size ≤ 300) (i : Nat) (hi : i < a.size)
    (H : ∀ t : List (List Int), t.length = a.size + 1 → (∀ r : Nat, i ≤ r → r ≤ a.size → RowIs (rd_L3 t (r : Int)) b.size (lc a b r)) → (∀ r : Nat, r < i → rd_L3 t (r : Int) = List.replicate (b.size + 1) 0) →
      ∃ K, ∀ k, K ≤ k → spec_l9Table.l1 k a b t ((i : Int) - 1) = some (tbl a b)) :
    ∀ (d : Nat) (t : List (List Int)), d ≤ b.size → t.length = a.size + 1 → (∀ r : Nat, i < r → r ≤ a.size → RowIs (rd_L3 t (r : Int)) b.size (lc a b r)) → (∀ r : Nat, r < i → rd_L3 t (r : Int) = List.replicate (b.size + 1) 0) →
      (rd_L3 t (i : Int)).length = b.size + 1 → (∀ j : Nat, d ≤ j → j ≤ b.size → rd (rd_L3 t (i : Int)) (j : Int) = (lc a b i j : Int)) →
      ∃ K, ∀ k, K ≤ k → spec_l9Table.l2 k a b t (i : Int) ((d : Int) - 1) = some (tbl a b) := by
  intro d
  induction d with
  | zero =>
    intro t hd hl hr hz hlen hrow
    obtain ⟨K, hK⟩ := H t hl (fun r h1 h2 => by
      by_cases e : r = i
      · subst e; exact ⟨hlen, fun j hj => hrow j (by omega) hj⟩
      · exact hr r (by omega) h2) hz
    refine ⟨K + 1, fun k hk => ?_⟩
    obtain ⟨k, rfl⟩ : ∃ m, k = m + 1 := ⟨k - 1, by omega⟩
    simp only [spec_l9Table.l2]
    simp (disch := omega) only [w64, if_neg]
    exact hK k (by omega)
  | succ d ih =>
    intro t hd hl hr hz hlen hrow
    have hnext := hr (i + 1) (by omega) (by omega)
    have hs := lc_step a b i d hi (by omega)
    have hle1 := lc_le a b (i + 1) (d + 1)
    have hnl := hnext.1
    have hv1 := hnext.2 (d + 1) (by omega)
    have hv2 := hnext.2 d (by omega)
    have hv3 := hrow (d + 1) (by omega) (by omega)
    have c1 : ((i + 1 : Nat) : Int) = (i : Int) + 1 := by omega
    have c2 : ((d + 1 : Nat) : Int) = (d : Int) + 1 := by omega
    rw [c1] at hnl hv1 hv2
    rw [c2] at hv1 hv3
    obtain ⟨K, hK⟩ := ih (t.set i ((rd_L3 t (i : Int)).set d (lc a b i d : Int))) (by omega) (by simpa using hl)
      (fun r h1 h2 => by rw [rdL_set (by omega), if_neg (by omega)]; exact hr r h1 h2)
      (fun r h1 => by rw [rdL_set (by omega), if_neg (by omega)]; exact hz r h1)
      (by rw [rdL_set (by omega), if_pos rfl, List.length_set]; exact hlen)
      (fun j h1 h2 => by
        rw [rdL_set (by omega), if_pos rfl, rdR_set (by omega)]
        by_cases e : j = d
        · rw [if_pos e, e]
        · rw [if_neg e]; exact hrow j (by omega) h2)
    refine ⟨K + 1, fun k hk => ?_⟩
    obtain ⟨k, rfl⟩ : ∃ m, k = m + 1 := ⟨k - 1, by omega⟩
    have hk' := hK k (by omega)
    simp only [spec_l9Table.l2]
    rw [c2]
    simp only [Int.add_sub_cancel]
    by_cases c : bt a (i : Int) = bt b (d : Int)
    · rw [if_pos c] at hs
      have hs' : (lc a b i d : Int) = (lc a b (i + 1) (d + 1) : Int) + 1 := by omega
      rw [hs'] at hk'
      simp (disch := omega) only [w64, if_pos, Int.toNat_natCast, hv1]
      exact hk'
    · rw [if_neg c] at hs
      by_cases g : (lc a b (i + 1) d : Int) ≥ (lc a b i (d + 1) : Int)
      · have hs' : (lc a b i d : Int) = (lc a b (i + 1) d : Int) := by omega
        rw [hs'] at hk'
        simp (disch := omega) only [w64, if_pos, if_neg, Int.toNat_natCast, hv2, hv3]
        exact hk'
      · have hs' : (lc a b i d : Int) = (lc a b i (d + 1) : Int) := by omega
        rw [hs'] at hk'
        simp (disch := omega) only [w64, if_pos, if_neg, Int.toNat_natCast, hv2, hv3]
        exact hk'
theorem spec_l9Table_out (a b : ByteArray) (ha : a.size ≤ 300) (hb : b.size ≤ 300) : ∀ (e : Nat) (t : List (List Int)), e ≤ a.size → t.length = a.size + 1 →
    (∀ r : Nat, e ≤ r → r ≤ a.size → RowIs (rd_L3 t (r : Int)) b.size (lc a b r)) → (∀ r : Nat, r < e → rd_L3 t (r : Int) = List.replicate (b.size + 1) 0) → ∃ K, ∀ k, K ≤ k → spec_l9Table.l1 k a b t ((e : Int) - 1) = some (tbl a b) := by
  intro e
  induction e with
  | zero =>
    intro t he hl hr hz
    refine ⟨1, fun k hk => ?_⟩
    obtain ⟨k, rfl⟩ : ∃ m, k = m + 1 := ⟨k - 1, by omega⟩
    simp only [spec_l9Table.l1]
    rw [if_neg (by omega), tbl_eq hl (fun i hi => hr i (by omega) hi)]
  | succ e ih =>
    intro t he hl hr hz
    obtain ⟨K, hK⟩ := spec_l9Table_in a b ha hb e (by omega) (fun t h1 h2 h3 => ih t (by omega) h1 h2 h3) b.size t (by omega) hl
      (fun r h1 h2 => hr r (by omega) h2) (fun r h1 => hz r (by omega))
      (by rw [hz e (by omega), List.length_replicate])
      (fun j h1 h2 => by
        rw [hz e (by omega), lc_end_right a b e j h1]
        unfold rd; simp [List.getD, (by omega : j < b.size + 1)])
    refine ⟨K + 1, fun k hk => ?_⟩
    obtain ⟨k, rfl⟩ : ∃ m, k = m + 1 := ⟨k - 1, by omega⟩
    have hk' := hK k (by omega)
    simp only [spec_l9Table.l1]
    rw [show ((e + 1 : Nat) : Int) - 1 = (e : Int) by omega]
    simp (disch := omega) only [w64, if_pos, Int.toNat_natCast]
    exact hk'
theorem spec_l9Table_z (a b : ByteArray) (ha : a.size ≤ 300) (hb : b.size ≤ 300) : ∀ (d i : Nat) (t : List (List Int)), i + d = a.size + 1 → t.length = a.size + 1 →
    (∀ r : Nat, r < i → rd_L3 t (r : Int) = List.replicate (b.size + 1) 0) → ∃ K, ∀ k, K ≤ k → spec_l9Table.l0 k a b t ((a.size + 1 : Nat) : Int) (i : Int) = some (tbl a b) := by
  intro d
  induction d with
  | zero =>
    intro i t hi hl hz
    obtain ⟨K, hK⟩ := spec_l9Table_out a b ha hb a.size t (by omega) hl
      (fun r h1 h2 => by rw [hz r (by omega)]; exact RowIs.zeros _ _ (fun j _ => lc_end_left a b _ j (by omega))) (fun r h1 => hz r (by omega))
    refine ⟨K + 1, fun k hk => ?_⟩
    obtain ⟨k, rfl⟩ : ∃ m, k = m + 1 := ⟨k - 1, by omega⟩
    have hk' := hK k (by omega)
    simp only [spec_l9Table.l0]
    simp (disch := omega) only [w64, if_neg]
    exact hk'
  | succ d ih =>
    intro i t hi hl hz
    obtain ⟨K, hK⟩ := ih (i + 1) (t.set i (List.replicate (b.size + 1) 0)) (by omega) (by simpa using hl) (fun r h1 => by
      rw [rdL_set (by omega)]
      by_cases e : r = i
      · rw [if_pos e]
      · rw [if_neg e]; exact hz r (by omega))
    refine ⟨K + 1, fun k hk => ?_⟩
    obtain ⟨k, rfl⟩ : ∃ m, k = m + 1 := ⟨k - 1, by omega⟩
    have hk' := hK k (by omega)
    simp only [spec_l9Table.l0]
    simp (disch := omega) only [w64, if_pos, Int.toNat_natCast]
    have e1 : ((b.size : Int) + 1).toNat = b.size + 1 := by omega
    simp only [e1]
    rw [show (i : Int) + 1 = ((i + 1 : Nat) : Int) by omega]
    exact hk'
theorem spec_l9Table_ev (a b : ByteArray) (ha : a.size ≤ 300) (hb : b.size ≤ 300) : ∃ K, ∀ k, K ≤ k → spec_l9Table.f k a b = some (tbl a b) := by
  obtain ⟨K, hK⟩ := spec_l9Table_z a b ha hb (a.size + 1) 0 (List.replicate (a.size + 1) ([] : List Int)) (by omega) (by simp) (fun r h => by omega)
  refine ⟨K, fun k hk => ?_⟩
  have := hK k hk
  unfold spec_l9Table.f
  simp (disch := omega) only [w64, if_pos, Option.bind_some]
  have e2 : ((a.size : Int) + 1).toNat = a.size + 1 := by omega
  simp only [e2, List.length_replicate]
  exact this

theorem impl_DistanceOf_ev (a b : ByteArray) (ha : a.size ≤ 140737488351232) (hb : b.size ≤ 140737488351232) : ∃ K, ∀ k, K ≤ k →
    impl_DistanceOf.f k a b = some (if textB a && textB b then ((a.size : Int) + (b.size : Int) - 2 * (lc a b 0 0 : Int), true) else (0, false)) := by
  obtain ⟨K3, h3⟩ := impl_areTexts_ev a b ha hb
  cases ht : textB a && textB b with
  | false =>
    refine ⟨K3, fun k hk => ?_⟩
    unfold impl_DistanceOf.f
    rw [h3 k hk, ht]
    rfl
  | true =>
    have ht' := ht
    simp only [Bool.and_eq_true] at ht'
    have hsa := textB_size ht'.1
    have hsb := textB_size ht'.2
    obtain ⟨K1, h1⟩ := impl_common_ev a b hsa hsb
    refine ⟨max K1 K3, fun k hk => ?_⟩
    unfold impl_DistanceOf.f
    rw [h3 k (by omega), h1 k (by omega), ht]
    have hl := tbl_length a b
    have hr := tbl_row_length a b 0 (by omega)
    have hg := tbl_get a b 0 0 (by omega) (by omega)
    have hle := lc_le a b 0 0
    simp only [Int.cast_ofNat_Int] at hr hg
    simp only [Option.bind_some, if_true]
    rw [hg]
    simp (disch := omega) only [w64, if_pos]

theorem toList_data (s : ByteArray) : s.toList = s.data.toList := by
  have h : ∀ (n i : Nat) (r : List UInt8), s.size - i = n → ByteArray.toList.loop s i r = r.reverse ++ s.data.toList.drop i := by
    intro n
    induction n with
    | zero =>
      intro i r h
      unfold ByteArray.toList.loop
      rw [if_neg (by omega), List.drop_of_length_le (by rw [Array.length_toList]; show s.size ≤ i; omega)]; simp
    | succ n ih =>
      intro i r h
      have hi : i < s.size := by omega
      unfold ByteArray.toList.loop
      have e2 : s.data.toList.drop i = s.data.toList[i]'(by rw [Array.length_toList]; exact hi) :: s.data.toList.drop (i + 1) := List.drop_eq_getElem_cons (by rw [Array.length_toList]; exact hi)
      have e : s.get! i = s.data.toList[i]'(by rw [Array.length_toList]; exact hi) := by
        show s.data[i]! = _
        rw [getElem!_pos s.data i hi]; simp
      rw [if_pos hi, ih (i + 1) _ (by omega), e2, e, List.reverse_cons, List.append_assoc]; rfl
  unfold ByteArray.toList
  rw [h s.size 0 [] (by omega)]; simp
theorem bt_data (s : ByteArray) (i : Nat) (h : i < s.size) : bt s (i : Int) = ((s.data.toList[i]'(by rw [Array.length_toList]; exact h)).toNat : Int) := by
  unfold bt
  rw [dif_pos (by omega)]
  simp [ByteArray.getElem_eq_getElem_data]
theorem toList_eq_iff (a b : ByteArray) : a.toList = b.toList ↔ a.size = b.size ∧ ∀ j : Nat, j < a.size → bt a (j : Int) = bt b (j : Int) := by
  rw [toList_data, toList_data]
  constructor
  · intro h
    have hl : a.size = b.size := by
      have := congrArg List.length h
      rw [Array.length_toList, Array.length_toList] at this; exact this
    refine ⟨hl, fun j hj => ?_⟩
    rw [bt_data a j hj, bt_data b j (by omega)]
    simp only [h]
  · intro ⟨hl, h⟩
    apply List.ext_getElem
    · rw [Array.length_toList, Array.length_toList]; exact hl
    · intro j h1 h2
      rw [Array.length_toList] at h1 h2
      have := h j h1
      rw [bt_data a j h1, bt_data b j h2] at this
      have h3 : (a.data.toList[j]'(by rw [Array.length_toList]; exact h1)).toNat = (b.data.toList[j]'(by rw [Array.length_toList]; exact h2)).toNat := by omega
      exact UInt8.toNat_inj.mp h3
theorem bt_extract (s : ByteArray) (i j n : Nat) (hj : j ≤ s.size) (hn : i + n < j) : bt (s.extract i j) (n : Int) = bt s ((i + n : Nat) : Int) := by
  have h1 : n < (s.extract i j).size := by rw [ByteArray.size_extract]; omega
  unfold bt
  rw [dif_pos (by simpa using h1), dif_pos (by omega)]
  simp only [Int.toNat_natCast, ByteArray.getElem_extract]

/-! parts and changes -/
def small (x : S74) : Prop := x.f1.size ≤ 140737488351232 ∧ x.f2.size ≤ 140737488351232
def smallL (l : List S74) : Prop := l.length ≤ 3518437208780 ∧ ∀ x ∈ l, small x
theorem small_z : small z74 := ⟨by decide, by decide⟩
theorem small_rd {l : List S74} (h : smallL l) (i : Int) : small (rd_T74 l i) := by
  unfold rd_T74
  rw [List.getD_eq_getElem?_getD]
  cases e : l[i.toNat]? with
  | none => exact small_z
  | some x => exact h.2 x (List.mem_of_getElem? e)
def partB (a : Int) (b c : ByteArray) : Bool :=
  if a = 0 then (if b.toList = [] then (if c.toList = [] then false else textB c) else (if c.toList = [] then textB b else false))
  else (decide (1 ≤ a) && decide (a ≤ 300)) && (if b.toList = [] then c.toList == [] else false)
def pN (l : List S74) : Nat → Nat → Bool
  | 0, _ => true
  | d + 1, i => partB (rd_T74 l (i : Int)).f0 (rd_T74 l (i : Int)).f1 (rd_T74 l (i : Int)).f2 && pN l d (i + 1)
def sizesB (r : Int × Int) : Bool := if r.1 ≤ 300 then decide (r.2 ≤ 300) else false

theorem spec_l3Part_ev (a : Int) (b c : ByteArray) (hb : b.size ≤ 140737488351232) (hc : c.size ≤ 140737488351232) : ∃ K, ∀ k, K ≤ k → spec_l3Part.f k a b c = some (partB a b c) := by
  obtain ⟨K1, h1⟩ := spec_GoodText_ev b hb
  obtain ⟨K2, h2⟩ := spec_GoodText_ev c hc
  refine ⟨K1 + K2, fun k hk => ?_⟩
  unfold spec_l3Part.f partB spec_l1In.f
  rw [h1 k (by omega), h2 k (by omega)]
  by_cases e0 : a = 0
  · simp only [if_pos e0, Option.bind_some]
    by_cases e1 : b.toList = [] <;> by_cases e2 : c.toList = [] <;> simp [e1, e2]
  · simp only [if_neg e0]
    by_cases e1 : a ≥ 1
    · by_cases e2 : a ≤ 300
      · simp only [if_pos e1, Option.bind_some, decide_eq_true e2, if_pos, decide_eq_true e1, Bool.and_self, Bool.true_and]
        by_cases e3 : b.toList = [] <;> simp [e3]
      · simp [e1, e2]
    · simp only [if_neg e1, Option.bind_some]
      simp
      intro h
      omega
theorem spec_sizes_l (l : List S74) (hl : l.length ≤ 3518437208780) : ∀ (d i : Nat), i + d = l.length → ∀ a b : Int, ∃ r K, ∀ k, K ≤ k → spec_l3Sizes.l0 k a b l (l.length : Int) (i : Int) = some r := by
  intro d
  induction d with
  | zero =>
    intro i hi a b
    refine ⟨(a, b), 1, fun k hk => ?_⟩
    obtain ⟨k, rfl⟩ : ∃ m, k = m + 1 := ⟨k - 1, by omega⟩
    simp only [spec_l3Sizes.l0]
    rw [if_neg (by omega)]
  | succ d ih =>
    intro i hi a b
    obtain ⟨r, K, hK⟩ := ih (i + 1) (by omega) (wrap64 (a + (wrap64 (((rd_T74 l (i : Int)).f0) + (((rd_T74 l (i : Int)).f2).size : Int))))) (wrap64 (b + (wrap64 (((rd_T74 l (i : Int)).f0) + (((rd_T74 l (i : Int)).f1).size : Int)))))
    refine ⟨r, K + 1, fun k hk => ?_⟩
    obtain ⟨k, rfl⟩ : ∃ m, k = m + 1 := ⟨k - 1, by omega⟩
    have hr := hK k (by omega)
    simp only [spec_l3Sizes.l0]
    rw [if_pos (by omega), if_pos (by omega), if_pos (by omega), w64 (i := (i : Int) + 1) (by omega) (by omega)]
    exact hr
theorem spec_sizes_ev (l : List S74) (hl : l.length ≤ 3518437208780) : ∃ r K, ∀ k, K ≤ k → spec_l3Sizes.f k l = some r :=
  spec_sizes_l l hl l.length 0 (by omega) 0 0
theorem spec_GoodOp_l (l : List S74) (hl : smallL l) (r : Int × Int) (K0 : Nat) (h0 : ∀ k, K0 ≤ k → spec_l3Sizes.f k l = some r) : ∀ (d i : Nat), i + d = l.length → ∃ K, ∀ k, K ≤ k → spec_GoodOp.l0 k l l (l.length : Int) (i : Int) = some (pN l d i && sizesB r) := by
  have hl1 := hl.1
  intro d
  induction d with
  | zero =>
    intro i hi
    refine ⟨K0 + 1, fun k hk => ?_⟩
    obtain ⟨k, rfl⟩ : ∃ m, k = m + 1 := ⟨k - 1, by omega⟩
    simp only [spec_GoodOp.l0]
    rw [if_neg (by omega), h0 k (by omega), Option.bind_some]
    unfold sizesB pN
    by_cases e : r.1 ≤ 300 <;> simp [e]
  | succ d ih =>
    intro i hi
    obtain ⟨K, hK⟩ := ih (i + 1) (by omega)
    have hs := small_rd hl (i : Int)
    obtain ⟨K1, h1⟩ := spec_l3Part_ev (rd_T74 l (i : Int)).f0 _ _ hs.1 hs.2
    refine ⟨K + K1 + 1, fun k hk => ?_⟩
    obtain ⟨k, rfl⟩ : ∃ m, k = m + 1 := ⟨k - 1, by omega⟩
    have hr := hK k (by omega)
    simp only [spec_GoodOp.l0]
    rw [if_pos (by omega), if_pos (by omega), if_pos (by omega), h1 k (by omega), Option.bind_some, w64 (by omega) (by omega)]
    have hc : ((i : Int) + 1) = ((i + 1 : Nat) : Int) := by omega
    rw [hc, hr]
    rw [show pN l (d + 1) i = (partB (rd_T74 l (i : Int)).f0 (rd_T74 l (i : Int)).f1 (rd_T74 l (i : Int)).f2 && pN l d (i + 1)) from rfl]
    cases partB (rd_T74 l (i : Int)).f0 (rd_T74 l (i : Int)).f1 (rd_T74 l (i : Int)).f2 <;> simp
def goodB (l : List S74) (r : Int × Int) : Bool := decide (l.length ≤ 60) && (pN l l.length 0 && sizesB r)
theorem spec_GoodOp_ev (l : List S74) (hl : smallL l) (r : Int × Int) (K0 : Nat) (h0 : ∀ k, K0 ≤ k → spec_l3Sizes.f k l = some r) : ∃ K, ∀ k, K ≤ k → spec_GoodOp.f k l = some (goodB l r) := by
  obtain ⟨K, hK⟩ := spec_GoodOp_l l hl r K0 h0 l.length 0 (by omega)
  refine ⟨K, fun k hk => ?_⟩
  have h := hK k hk
  unfold spec_GoodOp.f goodB
  by_cases e : (l.length : Int) > 60
  · rw [if_pos e, decide_eq_false (by omega)]; rfl
  · rw [if_neg e, decide_eq_true (by omega), Bool.true_and]
    exact h

theorem impl_sizes_same (l : List S74) : ∀ k a b i, impl_sizes.l0 k a b l (l.length : Int) i = spec_l3Sizes.l0 k a b l (l.length : Int) i := by
  intro k
  induction k with
  | zero => intro a b i; rfl
  | succ k ih =>
    intro a b i
    simp only [impl_sizes.l0, spec_l3Sizes.l0, ih]
theorem impl_sizes_ev (l : List S74) (k : Nat) : impl_sizes.f k l = spec_l3Sizes.f k l := impl_sizes_same l k 0 0 0
theorem impl_isPart_ev (a : Int) (b c : ByteArray) (hb : b.size ≤ 140737488351232) (hc : c.size ≤ 140737488351232) : ∃ K, ∀ k, K ≤ k → impl_Part_isPart.f k a b c = some (partB a b c) := by
  obtain ⟨K1, h1⟩ := impl_GoodText_ev b hb
  obtain ⟨K2, h2⟩ := impl_GoodText_ev c hc
  refine ⟨K1 + K2, fun k hk => ?_⟩
  unfold impl_Part_isPart.f partB
  rw [h1 k (by omega), h2 k (by omega)]
  by_cases e0 : a = 0
  · simp only [if_pos e0, Option.bind_some]
    by_cases e1 : b.toList = [] <;> by_cases e2 : c.toList = [] <;> simp [e1, e2]
  · simp only [if_neg e0]
    by_cases e1 : a ≥ 1
    · by_cases e2 : a ≤ 300
      · simp only [if_pos e1, if_pos e2, decide_eq_true e2, decide_eq_true e1, Bool.and_self, Bool.true_and]
        by_cases e3 : b.toList = [] <;> simp [e3]
      · simp [e1, e2]
    · simp only [if_neg e1]
      simp
      intro h
      omega
theorem impl_Part_128_l (l : List S74) (hl : smallL l) : ∀ (d i : Nat), i + d = l.length → ∃ t : Int, decide (t ≥ 0) = !(pN l d i) ∧ ∃ K, ∀ k, K ≤ k → impl_Part_128.l0 k l (l.length : Int) (i : Int) = some t := by
  have hl1 := hl.1
  intro d
  induction d with
  | zero =>
    intro i hi
    refine ⟨-1, rfl, 1, fun k hk => ?_⟩
    obtain ⟨k, rfl⟩ : ∃ m, k = m + 1 := ⟨k - 1, by omega⟩
    simp only [impl_Part_128.l0]
    rw [if_neg (by omega)]
  | succ d ih =>
    intro i hi
    have hs := small_rd hl (i : Int)
    obtain ⟨K1, h1⟩ := impl_isPart_ev (rd_T74 l (i : Int)).f0 _ _ hs.1 hs.2
    cases hp : partB (rd_T74 l (i : Int)).f0 (rd_T74 l (i : Int)).f1 (rd_T74 l (i : Int)).f2 with
    | false =>
      refine ⟨(i : Int), by unfold pN; rw [hp]; simp, K1 + 1, fun k hk => ?_⟩
      obtain ⟨k, rfl⟩ : ∃ m, k = m + 1 := ⟨k - 1, by omega⟩
      simp only [impl_Part_128.l0, impl_GoodOp_1.f]
      rw [if_pos (by omega), if_pos (by omega), if_pos (by omega), h1 k (by omega), hp]
      rfl
    | true =>
      obtain ⟨t, ht, K, hK⟩ := ih (i + 1) (by omega)
      refine ⟨t, by unfold pN; rw [hp, ht, Bool.true_and], K + K1 + 1, fun k hk => ?_⟩
      obtain ⟨k, rfl⟩ : ∃ m, k = m + 1 := ⟨k - 1, by omega⟩
      have hr := hK k (by omega)
      simp only [impl_Part_128.l0, impl_GoodOp_1.f]
      rw [if_pos (by omega), if_pos (by omega), if_pos (by omega), h1 k (by omega), hp, w64 (by omega) (by omega)]
      exact hr
theorem impl_GoodOp_ev (l : List S74) (hl : smallL l) (r : Int × Int) (K0 : Nat) (h0 : ∀ k, K0 ≤ k → spec_l3Sizes.f k l = some r) : ∃ K, ∀ k, K ≤ k → impl_GoodOp.f k l = some (goodB l r) := by
  obtain ⟨t, ht, K, hK⟩ := impl_Part_128_l l hl l.length 0 (by omega)
  refine ⟨K + K0, fun k hk => ?_⟩
  have h : impl_Part_128.f k l = some t := hK k (by omega)
  unfold impl_GoodOp.f goodB impl_Part_95.f
  by_cases e : (l.length : Int) > 60
  · rw [if_pos e, decide_eq_false (by omega)]; rfl
  · rw [if_neg e, decide_eq_true (by omega), h, Bool.true_and]
    simp only [Option.bind_some, ht]
    rw [impl_sizes_ev, h0 k (by omega), Option.bind_some]
    unfold sizesB
    cases pN l l.length 0 <;> by_cases e1 : r.1 ≤ 300 <;> simp [e1]

/-! changes as lists of simple parts, and what they make -/
theorem ba_nil_append (a : ByteArray) : (⟨#[]⟩ : ByteArray) ++ a = a := by
  apply ByteArray.ext; simp [ByteArray.data_append]
theorem ba_append_nil (a : ByteArray) : a ++ (⟨#[]⟩ : ByteArray) = a := by
  apply ByteArray.ext; simp [ByteArray.data_append]
theorem ba_assoc (a b c : ByteArray) : a ++ b ++ c = a ++ (b ++ c) := by
  apply ByteArray.ext; simp [ByteArray.data_append]
theorem ba_of_toList {a b : ByteArray} (h : a.toList = b.toList) : a = b := by
  rw [toList_data, toList_data] at h
  apply ByteArray.ext
  exact Array.toList_inj.mp h
theorem ba_extract_extract (s : ByteArray) (a i j : Nat) (hj : a + j ≤ s.size) : (s.extract a s.size).extract i j = s.extract (a + i) (a + j) := by
  apply ByteArray.ext
  simp only [ByteArray.data_extract, Array.extract_extract]
  congr 1
  exact Nat.min_eq_left hj
theorem ba_extract_end (s : ByteArray) (a i : Nat) (hi : a + i ≤ s.size) : (s.extract a s.size).extract i (s.extract a s.size).size = s.extract (a + i) s.size := by
  have : (s.extract a s.size).size = s.size - a := by rw [ByteArray.size_extract]; omega
  rw [this, ba_extract_extract s a i (s.size - a) (by omega)]
  congr 1
  omega
theorem ba_extract_add (s : ByteArray) (a b c : Nat) (h1 : a ≤ b) (h2 : b ≤ c) : s.extract a b ++ s.extract b c = s.extract a c := by
  apply ByteArray.ext
  simp only [ByteArray.data_append, ByteArray.data_extract, Array.extract_append_extract]
  congr 1 <;> omega
theorem ba_extract_same (s : ByteArray) (a : Nat) : s.extract a a = ⟨#[]⟩ := by
  apply ByteArray.ext
  simp only [ByteArray.data_extract]
  apply Array.eq_empty_of_size_eq_zero
  simp
  omega
theorem ba_extract_all (s : ByteArray) : s.extract 0 s.size = s := by
  apply ByteArray.ext
  simp only [ByteArray.data_extract]
  exact Array.extract_size
inductive Pt
  | K (n : Nat)
  | W (w : ByteArray)
  | D (d : ByteArray)
def encP : Pt → S74
  | .K n => ⟨(n : Int), ⟨#[]⟩, ⟨#[]⟩⟩
  | .W w => ⟨0, w, ⟨#[]⟩⟩
  | .D d => ⟨0, ⟨#[]⟩, d⟩
def stepP (s : ByteArray) (st : ByteArray × Nat) : Pt → Option (ByteArray × Nat)
  | .K n => if st.2 + n ≤ s.size then some (st.1 ++ s.extract st.2 (st.2 + n), st.2 + n) else none
  | .W w => some (st.1 ++ w, st.2)
  | .D d => if st.2 + d.size ≤ s.size ∧ s.extract st.2 (st.2 + d.size) = d then some (st.1, st.2 + d.size) else none
def runP (s : ByteArray) : List Pt → ByteArray × Nat → Option (ByteArray × Nat)
  | [], st => some st
  | q :: l, st => (stepP s st q).bind (runP s l)
theorem runP_append (s : ByteArray) : ∀ (a b : List Pt) (st : ByteArray × Nat), runP s (a ++ b) st = (runP s a st).bind (runP s b)
  | [], b, st => rfl
  | q :: a, b, st => by
    show (stepP s st q).bind (runP s (a ++ b)) = ((stepP s st q).bind (runP s a)).bind (runP s b)
    cases stepP s st q with
    | none => rfl
    | some t => exact runP_append s a b t
/-- What stands in front lies reversed: the last part is the head. -/
def addP : List Pt → Pt → List Pt
  | .K a :: r, .K b => .K (a + b) :: r
  | .D a :: r, .D b => .D (a ++ b) :: r
  | .W a :: r, .W b => .W (a ++ b) :: r
  | .D d :: .W a :: r, .W b => .D d :: .W (a ++ b) :: r
  | .D d :: r, .W b => .D d :: .W b :: r
  | r, q => q :: r
theorem runP_snoc (s : ByteArray) (a : List Pt) (q : Pt) (st : ByteArray × Nat) : runP s (a ++ [q]) st = (runP s a st).bind fun t => stepP s t q := by
  rw [runP_append]
  cases runP s a st with
  | none => rfl
  | some t => show (stepP s t q).bind (fun u => some u) = stepP s t q; cases stepP s t q <;> rfl
theorem merge_last (s : ByteArray) (r : List Pt) (x y z : Pt) (hm : ∀ t u v, stepP s t x = some u → stepP s u y = some v → stepP s t z = some v) (st v : ByteArray × Nat) (h : (runP s (x :: r).reverse st).bind (fun t => stepP s t y) = some v) : runP s (z :: r).reverse st = some v := by
  rw [List.reverse_cons, runP_snoc] at h ⊢
  obtain ⟨u, hu, hv⟩ := Option.bind_eq_some_iff.mp h
  obtain ⟨t, ht, hx⟩ := Option.bind_eq_some_iff.mp hu
  rw [ht]
  exact hm t u v hx hv
theorem runP_add (s : ByteArray) (r : List Pt) (q : Pt) (st v : ByteArray × Nat) (h : (runP s r.reverse st).bind (fun t => stepP s t q) = some v) : runP s (addP r q).reverse st = some v := by
  have plain : runP s (q :: r).reverse st = some v := by rw [List.reverse_cons, runP_snoc]; exact h
  have swap : ∀ (d b : ByteArray) (r' : List Pt), r = .D d :: r' → q = .W b → (runP s (.W b :: r').reverse st).bind (fun t => stepP s t (.D d)) = some v := by
    intro d b r' hr hq
    subst hr; subst hq
    rw [List.reverse_cons, runP_snoc] at h ⊢
    obtain ⟨u, hu, hv⟩ := Option.bind_eq_some_iff.mp h
    obtain ⟨t, ht, hx⟩ := Option.bind_eq_some_iff.mp hu
    rw [ht]
    simp only [stepP] at hx hv ⊢
    split at hx
    · rename_i c
      cases hx
      simp only [Option.bind_some]
      rw [if_pos c]
      exact hv
    · cases hx
  match r, q with
  | .K a :: r, .K b =>
    refine merge_last s r (.K a) (.K b) (.K (a + b)) (fun t u v h1 h2 => ?_) st v h
    simp only [stepP] at h1 h2 ⊢
    split at h1
    · cases h1
      simp only at h2
      split at h2
      · cases h2
        rw [if_pos (by omega), ba_assoc, ba_extract_add s _ _ _ (by omega) (by omega), Nat.add_assoc]
      · cases h2
    · cases h1
  | .D a :: r, .D b =>
    refine merge_last s r (.D a) (.D b) (.D (a ++ b)) (fun t u v h1 h2 => ?_) st v h
    simp only [stepP] at h1 h2 ⊢
    split at h1
    · rename_i c1
      cases h1
      simp only at h2
      split at h2
      · rename_i c2
        cases h2
        rw [if_pos, ByteArray.size_append, Nat.add_assoc]
        rw [ByteArray.size_append]
        refine ⟨by omega, ?_⟩
        rw [← ba_extract_add s t.2 (t.2 + a.size) _ (by omega) (by omega), c1.2, ← Nat.add_assoc, c2.2]
      · cases h2
    · cases h1
  | .W a :: r, .W b =>
    refine merge_last s r (.W a) (.W b) (.W (a ++ b)) (fun t u v h1 h2 => ?_) st v h
    simp only [stepP] at h1 h2 ⊢
    cases h1
    cases h2
    rw [ba_assoc]
  | .D d :: .W a :: r, .W b =>
    have h' := swap d b (.W a :: r) rfl rfl
    show runP s (.D d :: .W (a ++ b) :: r).reverse st = some v
    rw [List.reverse_cons, runP_snoc]
    obtain ⟨u, hu, hv⟩ := Option.bind_eq_some_iff.mp h'
    rw [List.reverse_cons, runP_snoc] at hu
    rw [merge_last s r (.W a) (.W b) (.W (a ++ b)) (fun t u v h1 h2 => by simp only [stepP] at h1 h2 ⊢; cases h1; cases h2; rw [ba_assoc]) st u hu]
    exact hv
  | .D d :: [], .W b =>
    have h' := swap d b [] rfl rfl
    show runP s (.D d :: .W b :: []).reverse st = some v
    rw [List.reverse_cons, runP_snoc]; exact h'
  | .D d :: .K a :: r, .W b =>
    have h' := swap d b (.K a :: r) rfl rfl
    show runP s (.D d :: .W b :: .K a :: r).reverse st = some v
    rw [List.reverse_cons, runP_snoc]; exact h'
  | .D d :: .D a :: r, .W b =>
    have h' := swap d b (.D a :: r) rfl rfl
    show runP s (.D d :: .W b :: .D a :: r).reverse st = some v
    rw [List.reverse_cons, runP_snoc]; exact h'
  | [], .K b => exact plain
  | [], .W b => exact plain
  | [], .D b => exact plain
  | .K a :: r, .W b => exact plain
  | .K a :: r, .D b => exact plain
  | .W a :: r, .K b => exact plain
  | .W a :: r, .D b => exact plain
  | .D a :: r, .K b => exact plain

def okP : Pt → Prop
  | .K n => 0 < n ∧ n ≤ 1000000
  | .W w => 0 < w.size ∧ w.size ≤ 1000000
  | .D d => 0 < d.size ∧ d.size ≤ 1000000
theorem nil_toList : (⟨#[]⟩ : ByteArray).toList = ([] : List UInt8) := by rw [toList_data]
theorem pos_toList {w : ByteArray} (h : 0 < w.size) : ¬ w.toList = ([] : List UInt8) := by
  rw [toList_data]
  intro e
  have := congrArg List.length e
  rw [Array.length_toList] at this
  have e2 : w.data.size = 0 := this
  have e3 : w.data.size = w.size := rfl
  omega
theorem rd_last (M : List S74) (x : S74) : rd_T74 (M ++ [x]) (M.length : Int) = x := by
  unfold rd_T74
  rw [Int.toNat_natCast, List.getD_eq_getElem?_getD, List.getElem?_append_right (Nat.le_refl _)]
  simp
theorem rd_last2 (M : List S74) (x y : S74) : rd_T74 (M ++ [x] ++ [y]) (M.length : Int) = x := by
  unfold rd_T74
  rw [Int.toNat_natCast, List.getD_eq_getElem?_getD, List.append_assoc, List.getElem?_append_right (Nat.le_refl _)]
  simp
theorem set_last (M : List S74) (x y : S74) : (M ++ [x]).set (M.length : Int).toNat y = M ++ [y] := by
  rw [Int.toNat_natCast, List.set_append_right _ _ (Nat.le_refl _)]
  simp
theorem set_last2 (M : List S74) (x z y : S74) : (M ++ [x] ++ [z]).set (M.length : Int).toNat y = M ++ [y] ++ [z] := by
  rw [Int.toNat_natCast, List.append_assoc, List.set_append_right _ _ (Nat.le_refl _)]
  simp
theorem idx1 (M : List S74) (x : S74) (h : M.length ≤ 1000000) : wrap64 (((M ++ [x]).length : Int) - 1) = (M.length : Int) := by
  rw [List.length_append, List.length_singleton, w64 (by omega) (by omega)]; omega
theorem idx2 (M : List S74) (x y : S74) (h : M.length ≤ 1000000) : wrap64 (((M ++ [x] ++ [y]).length : Int) - 2) = (M.length : Int) := by
  simp only [List.length_append, List.length_singleton]
  rw [w64 (by omega) (by omega)]; omega
theorem encP_rev (r : List Pt) (x : Pt) : (x :: r).reverse.map encP = r.reverse.map encP ++ [encP x] := by
  rw [List.reverse_cons, List.map_append]; rfl
theorem l3Add_0 (k : Nat) (q : Pt) (hq : okP q) : spec_l3Add.f (k + 5) [] (encP q).f0 (encP q).f1 (encP q).f2 = some [encP q] := by
  cases q with
  | K n => have h : ¬ n = 0 := by have := hq.1; omega
           simp [spec_l3Add.f, spec_l3Add.j0, encP, h]
  | W w => simp [spec_l3Add.f, spec_l3Add.j0, encP, pos_toList hq.1]
  | D d => simp [spec_l3Add.f, spec_l3Add.j0, encP, pos_toList hq.1, nil_toList]
theorem l3Add_K (k : Nat) (L : List S74) (N : Nat) (hL : L.length = N + 1) (hN : N ≤ 1000000) (x : S74) (hx : rd_T74 L (N : Int) = x) (n : Nat) (hn : 0 < n) :
    spec_l3Add.f (k + 5) L (n : Int) ⟨#[]⟩ ⟨#[]⟩ = if x.f0 > 0 then some (L.set N ⟨wrap64 (x.f0 + n), x.f1, x.f2⟩) else some (L ++ [⟨(n : Int), ⟨#[]⟩, ⟨#[]⟩⟩]) := by
  have hl : ¬ (L.length : Int) = 0 := by omega
  have hi : wrap64 ((L.length : Int) - 1) = (N : Int) := by rw [w64 (by omega) (by omega)]; omega
  have h0 : (0 : Int) ≤ (N : Int) := by omega
  have h1 : (N : Int) < (L.length : Int) := by omega
  have h2 : L.length < 3518437208883 := by omega
  have e0 : ¬ (n : Int) = 0 := by omega
  have e1 : (n : Int) > 0 := by omega
  simp only [spec_l3Add.f, if_neg e0, spec_l3Add.j0, Bool.false_eq_true, if_false, if_neg hl, hi, if_pos h0, if_pos h1, if_pos e1, hx, spec_l3Add.j1, spec_l3Add.j2, spec_l3Add.j3, spec_l3Add.j4, if_pos h2, nil_toList, if_true, Int.toNat_natCast, decide_eq_true_eq]
theorem l3Add_W (k : Nat) (L : List S74) (N : Nat) (hL : L.length = N + 1) (hN : N ≤ 1000000) (x : S74) (hx : rd_T74 L (N : Int) = x) (w : ByteArray) (hw : 0 < w.size) (hw2 : w.size ≤ 1000000) (hx2 : x.f1.size ≤ 1000000) (y : S74) (hy : 1 ≤ N → rd_T74 L ((N - 1 : Nat) : Int) = y) (hy2 : y.f1.size ≤ 1000000) :
    spec_l3Add.f (k + 5) L 0 w ⟨#[]⟩ = if x.f1.toList ≠ [] then some (L.set N ⟨x.f0, x.f1 ++ w, x.f2⟩) else if x.f2.toList ≠ [] then
      (if 1 ≤ N ∧ y.f1.toList ≠ [] then some (L.set (N - 1) ⟨y.f0, y.f1 ++ w, y.f2⟩) else some (L.set N ⟨0, w, ⟨#[]⟩⟩ ++ [x])) else some (L ++ [⟨0, w, ⟨#[]⟩⟩]) := by
  have hl : ¬ (L.length : Int) = 0 := by omega
  have hi : wrap64 ((L.length : Int) - 1) = (N : Int) := by rw [w64 (by omega) (by omega)]; omega
  have h0 : (0 : Int) ≤ (N : Int) := by omega
  have h1 : (N : Int) < (L.length : Int) := by omega
  have h2 : L.length < 3518437208883 := by omega
  have e1 : ¬ (0 : Int) > 0 := by omega
  have hw' := pos_toList hw
  have s1 : x.f1.size + w.size ≤ 9223372036854775807 := by omega
  have s2 : y.f1.size + w.size ≤ 9223372036854775807 := by omega
  simp only [spec_l3Add.f, if_neg hw', spec_l3Add.j0, Bool.false_eq_true, if_false, if_neg hl, hi, if_pos h0, if_pos h1, if_neg e1, hx, spec_l3Add.j1, spec_l3Add.j2, spec_l3Add.j3, nil_toList, if_true, Int.toNat_natCast, if_pos s1]
  by_cases c1 : x.f1.toList = []
  · simp only [c1, bne_self_eq_false, Bool.false_eq_true, if_false, ne_eq, not_true_eq_false, if_neg hw', spec_l3Add.j4]
    by_cases c2 : x.f2.toList = []
    · simp only [c2, bne_self_eq_false, Bool.false_eq_true, if_false, not_true_eq_false, if_pos h2]
    · have c2' : (x.f2.toList != []) = true := bne_iff_ne.mpr c2
      simp only [c2', if_true, not_false_eq_true, c2]
      by_cases c3 : 1 ≤ N
      · have hj : wrap64 ((L.length : Int) - 2) = ((N - 1 : Nat) : Int) := by rw [w64 (by omega) (by omega)]; omega
        have h3 : (0 : Int) ≤ ((N - 1 : Nat) : Int) := by omega
        have h4 : ((N - 1 : Nat) : Int) < (L.length : Int) := by omega
        have h5 : (L.length : Int) > 1 := by omega
        simp only [if_pos h5, hj, if_pos h3, if_pos h4, hy c3, hi, if_pos h0, if_pos h1, hx, Int.toNat_natCast, if_pos s2, c3, true_and, Option.bind_some, List.length_set, if_pos h2]
        by_cases c4 : y.f1.toList = []
        · simp [c4]
        · simp [c4]
      · have h5 : ¬ (L.length : Int) > 1 := by omega
        simp only [if_neg h5, hi, if_pos h0, if_pos h1, Int.toNat_natCast, c3, false_and, if_false, Option.bind_some, List.length_set, if_pos h2]
  · have c1' : (x.f1.toList != []) = true := bne_iff_ne.mpr c1
    simp only [c1', if_true, ne_eq, c1, not_false_eq_true]
theorem l3Add_D (k : Nat) (L : List S74) (N : Nat) (hL : L.length = N + 1) (hN : N ≤ 1000000) (x : S74) (hx : rd_T74 L (N : Int) = x) (d : ByteArray) (hd : 0 < d.size) (hd2 : d.size ≤ 1000000) (hx2 : x.f2.size ≤ 1000000) :
    spec_l3Add.f (k + 5) L 0 ⟨#[]⟩ d = if x.f2.toList ≠ [] then some (L.set N ⟨x.f0, x.f1, x.f2 ++ d⟩) else some (L ++ [⟨0, ⟨#[]⟩, d⟩]) := by
  have hl : ¬ (L.length : Int) = 0 := by omega
  have hi : wrap64 ((L.length : Int) - 1) = (N : Int) := by rw [w64 (by omega) (by omega)]; omega
  have h0 : (0 : Int) ≤ (N : Int) := by omega
  have h1 : (N : Int) < (L.length : Int) := by omega
  have h2 : L.length < 3518437208883 := by omega
  have e1 : ¬ (0 : Int) > 0 := by omega
  have hd' := pos_toList hd
  have hd'' : (d.toList == []) = false := beq_eq_false_iff_ne.mpr hd'
  have s1 : x.f2.size + d.size ≤ 9223372036854775807 := by omega
  simp only [spec_l3Add.f, nil_toList, if_true, hd'', spec_l3Add.j0, Bool.false_eq_true, if_false, if_neg hl, hi, if_pos h0, if_pos h1, if_neg e1, hx, spec_l3Add.j1, spec_l3Add.j2, spec_l3Add.j3, spec_l3Add.j4, if_neg hd', Int.toNat_natCast, if_pos s1, if_pos h2]
  by_cases c1 : x.f2.toList = []
  · simp [c1]
  · simp [c1]

theorem l3Add_nil (k : Nat) (L : List S74) : spec_l3Add.f (k + 5) L 0 ⟨#[]⟩ ⟨#[]⟩ = some L := by
  simp [spec_l3Add.f, spec_l3Add.j0, nil_toList]
theorem set_at (M : List S74) (x y : S74) : (M ++ [x]).set M.length y = M ++ [y] := by
  rw [List.set_append_right _ _ (Nat.le_refl _)]
  simp
theorem set_at2 (M : List S74) (x z y : S74) : (M ++ [x] ++ [z]).set M.length y = M ++ [y] ++ [z] := by
  rw [List.append_assoc, List.set_append_right _ _ (Nat.le_refl _)]
  simp
theorem l3Add_enc (k : Nat) (r : List Pt) (hr : r.length ≤ 1000000) (hok : ∀ x ∈ r, okP x) (q : Pt) (hq : okP q) :
    spec_l3Add.f (k + 5) (r.reverse.map encP) (encP q).f0 (encP q).f1 (encP q).f2 = some ((addP r q).reverse.map encP) := by
  match r with
  | [] => exact l3Add_0 k q hq
  | x :: r =>
    have hx := hok x (List.mem_cons_self)
    have hr' : r.length ≤ 1000000 := by simp at hr; omega
    rw [encP_rev]
    have hN : ((r.reverse.map encP).length) = r.length := by simp
    have hL : (r.reverse.map encP ++ [encP x]).length = r.length + 1 := by simp
    have hrd : rd_T74 (r.reverse.map encP ++ [encP x]) (r.length : Int) = encP x := by rw [← hN]; exact rd_last _ _
    have hset : ∀ y, (r.reverse.map encP ++ [encP x]).set r.length y = r.reverse.map encP ++ [y] := by intro y; rw [← hN]; exact set_at _ _ _
    have plain : ∀ q' : Pt, addP (x :: r) q' = q' :: x :: r → (addP (x :: r) q').reverse.map encP = r.reverse.map encP ++ [encP x] ++ [encP q'] := by
      intro q' h; rw [h, encP_rev, encP_rev]
    cases q with
    | K n =>
      rw [show (encP (.K n)).f0 = (n : Int) from rfl, show (encP (.K n)).f1 = ⟨#[]⟩ from rfl, show (encP (.K n)).f2 = ⟨#[]⟩ from rfl]
      rw [l3Add_K k _ r.length hL hr' (encP x) hrd n hq.1]
      cases x with
      | K m =>
        have h1 := hx.1
        have h2 := hx.2
        have h3 := hq.2
        rw [if_pos (show (encP (.K m)).f0 > 0 by show (m : Int) > 0; omega), hset]
        show _ = some ((Pt.K (m + n) :: r).reverse.map encP)
        rw [encP_rev]
        show some (_ ++ [(⟨wrap64 ((m : Int) + (n : Int)), ⟨#[]⟩, ⟨#[]⟩⟩ : S74)]) = some (_ ++ [(⟨((m + n : Nat) : Int), ⟨#[]⟩, ⟨#[]⟩⟩ : S74)])
        rw [w64 (by omega) (by omega)]
        rfl
      | W w =>
        rw [if_neg (show ¬ (encP (.W w)).f0 > 0 by show ¬ (0 : Int) > 0; omega), plain (.K n) rfl]; rfl
      | D d =>
        rw [if_neg (show ¬ (encP (.D d)).f0 > 0 by show ¬ (0 : Int) > 0; omega), plain (.K n) rfl]; rfl
    | W w =>
      rw [show (encP (.W w)).f0 = (0 : Int) from rfl, show (encP (.W w)).f1 = w from rfl, show (encP (.W w)).f2 = ⟨#[]⟩ from rfl]
      have hx1 : (encP x).f1.size ≤ 1000000 := by
        cases x with
        | K m => exact Nat.zero_le _
        | W a => exact hx.2
        | D d => exact Nat.zero_le _
      match r, hr', hN, hL, hrd, hset, plain, hok with
      | [], hr', hN, hL, hrd, hset, plain, hok =>
        rw [l3Add_W k _ 0 hL hr' (encP x) hrd w hq.1 hq.2 hx1 z74 (fun h => by omega) (by decide)]
        cases x with
        | K m => rw [if_neg (by simp [encP, nil_toList]), if_neg (by simp [encP, nil_toList]), plain (.W w) rfl]; rfl
        | W a => rw [if_pos (by exact pos_toList hx.1)]; rfl
        | D d => rw [if_neg (by simp [encP, nil_toList]), if_pos (by exact pos_toList hx.1), if_neg (by omega)]; rfl
      | y :: r, hr', hN, hL, hrd, hset, plain, hok =>
        have hy := hok y (List.mem_cons_of_mem _ List.mem_cons_self)
        have hy1 : (encP y).f1.size ≤ 1000000 := by
          cases y with
          | K m => exact Nat.zero_le _
          | W a => exact hy.2
          | D d => exact Nat.zero_le _
        have hN2 : ((r.reverse.map encP).length) = r.length := by simp
        have hrd2 : rd_T74 ((y :: r).reverse.map encP ++ [encP x]) (((y :: r).length - 1 : Nat) : Int) = encP y := by
          rw [encP_rev, List.length_cons, Nat.add_sub_cancel, ← hN2]; exact rd_last2 _ _ _
        have hset2 : ∀ z, ((y :: r).reverse.map encP ++ [encP x]).set ((y :: r).length - 1) z = r.reverse.map encP ++ [z] ++ [encP x] := by
          intro z; rw [encP_rev, List.length_cons, Nat.add_sub_cancel, ← hN2]; exact set_at2 _ _ _ _
        rw [l3Add_W k _ (y :: r).length hL hr' (encP x) hrd w hq.1 hq.2 hx1 (encP y) (fun _ => hrd2) hy1]
        cases x with
        | K m => rw [if_neg (by simp [encP, nil_toList]), if_neg (by simp [encP, nil_toList]), plain (.W w) rfl]; rfl
        | W a => rw [if_pos (by exact pos_toList hx.1), hset]; show _ = some ((Pt.W (a ++ w) :: y :: r).reverse.map encP); rw [encP_rev (y :: r) (Pt.W (a ++ w))]; rfl
        | D d =>
          rw [if_neg (by simp [encP, nil_toList]), if_pos (by exact pos_toList hx.1)]
          cases y with
          | K m =>
            rw [if_neg (by simp [encP, nil_toList]), hset]
            show _ = some ((Pt.D d :: Pt.W w :: Pt.K m :: r).reverse.map encP)
            rw [encP_rev (.W w :: .K m :: r) (.D d), encP_rev (.K m :: r) (.W w)]; rfl
          | W a =>
            rw [if_pos ⟨by simp, by exact pos_toList hy.1⟩, hset2]
            show _ = some ((Pt.D d :: Pt.W (a ++ w) :: r).reverse.map encP)
            rw [encP_rev (.W (a ++ w) :: r) (.D d), encP_rev r (.W (a ++ w))]; rfl
          | D b =>
            rw [if_neg (by simp [encP, nil_toList]), hset]
            show _ = some ((Pt.D d :: Pt.W w :: Pt.D b :: r).reverse.map encP)
            rw [encP_rev (.W w :: .D b :: r) (.D d), encP_rev (.D b :: r) (.W w)]; rfl
    | D d =>
      rw [show (encP (.D d)).f0 = (0 : Int) from rfl, show (encP (.D d)).f1 = ⟨#[]⟩ from rfl, show (encP (.D d)).f2 = d from rfl]
      have hx2 : (encP x).f2.size ≤ 1000000 := by
        cases x with
        | K m => exact Nat.zero_le _
        | W a => exact Nat.zero_le _
        | D d => exact hx.2
      rw [l3Add_D k _ r.length hL hr' (encP x) hrd d hq.1 hq.2 hx2]
      cases x with
      | K m => rw [if_neg (by simp [encP, nil_toList]), plain (.D d) rfl]; rfl
      | W a => rw [if_neg (by simp [encP, nil_toList]), plain (.D d) rfl]; rfl
      | D b =>
        rw [if_pos (by exact pos_toList hx.1), hset]
        show _ = some ((Pt.D (b ++ d) :: r).reverse.map encP)
        rw [encP_rev]; rfl

def massP : Pt → Nat
  | .K n => n
  | .W w => w.size
  | .D d => d.size
def mass : List Pt → Nat
  | [] => 0
  | q :: r => massP q + mass r
theorem mass_add (r : List Pt) (q : Pt) : mass (addP r q) = mass r + massP q := by
  unfold addP
  split <;> simp [mass, massP, ByteArray.size_append] <;> omega
theorem pos_add (r : List Pt) (q : Pt) (hr : ∀ x ∈ r, 0 < massP x) (hq : 0 < massP q) : ∀ x ∈ addP r q, 0 < massP x := by
  unfold addP
  split <;> simp [massP, ByteArray.size_append] at hr hq ⊢ <;> simp_all <;> omega
theorem mass_mem {r : List Pt} {x : Pt} (h : x ∈ r) : massP x ≤ mass r := by
  induction r with
  | nil => simp at h
  | cons y r ih =>
    rcases List.mem_cons.mp h with rfl | h
    · simp [mass]
    · have := ih h; simp only [mass]; omega
theorem mass_len {r : List Pt} (hr : ∀ x ∈ r, 0 < massP x) : r.length ≤ mass r := by
  induction r with
  | nil => simp
  | cons y r ih =>
    have h1 := ih (fun x hx => hr x (List.mem_cons_of_mem _ hx))
    have h2 := hr y List.mem_cons_self
    simp only [mass, List.length_cons]; omega
theorem okP_of {x : Pt} (h0 : 0 < massP x) (h1 : massP x ≤ 1000000) : okP x := by
  cases x <;> exact ⟨h0, h1⟩
def addQ (r : List Pt) (q : Pt) : List Pt := if massP q = 0 then r else addP r q
theorem mass_addQ (r : List Pt) (q : Pt) : mass (addQ r q) = mass r + massP q := by
  unfold addQ
  split
  · omega
  · exact mass_add r q
theorem pos_addQ (r : List Pt) (q : Pt) (hr : ∀ x ∈ r, 0 < massP x) : ∀ x ∈ addQ r q, 0 < massP x := by
  unfold addQ
  split
  · exact hr
  · exact pos_add r q hr (by omega)
theorem size0_eq {a : ByteArray} (h : a.size = 0) : a = ⟨#[]⟩ := by
  apply ByteArray.ext
  exact Array.eq_empty_of_size_eq_zero h
theorem l3AddQ (k : Nat) (r : List Pt) (hr : ∀ x ∈ r, 0 < massP x) (q : Pt) (hm : mass r + massP q ≤ 1000000) :
    spec_l3Add.f (k + 5) (r.reverse.map encP) (encP q).f0 (encP q).f1 (encP q).f2 = some ((addQ r q).reverse.map encP) := by
  unfold addQ
  split
  · rename_i h
    have : encP q = ⟨0, ⟨#[]⟩, ⟨#[]⟩⟩ := by
      cases q with
      | K n => have : n = 0 := h; subst this; rfl
      | W w => rw [size0_eq (a := w) h]; rfl
      | D d => rw [size0_eq (a := d) h]; rfl
    rw [this]
    exact l3Add_nil k _
  · refine l3Add_enc k r ?_ ?_ q (okP_of (by omega) (by omega))
    · have := mass_len hr; omega
    · intro x hx
      have := mass_mem hx
      exact okP_of (hr x hx) (by omega)
def T (s w : ByteArray) (m : Nat) : Nat → List Nat → ByteArray
  | a, [] => s.extract a s.size
  | a, k :: ks => s.extract a k ++ w ++ T s w m (k + m) ks
def ch (s p : ByteArray) : Nat → List Nat → Prop
  | a, [] => a ≤ s.size
  | a, k :: ks => a ≤ k ∧ k + p.size ≤ s.size ∧ s.extract k (k + p.size) = p ∧ ch s p (k + p.size) ks
def apN (m : Nat) : Nat → List Nat → List Nat
  | _, [] => []
  | a, k :: l => if a ≤ k then k :: apN m (k + m) l else apN m a l
theorem ch_ap (s p : ByteArray) : ∀ (l : List Nat) (a : Nat), a ≤ s.size → (∀ k ∈ l, k + p.size ≤ s.size ∧ s.extract k (k + p.size) = p) → ch s p a (apN p.size a l)
  | [], a, ha, _ => ha
  | k :: l, a, ha, h => by
    have hk := h k List.mem_cons_self
    have hl : ∀ k ∈ l, k + p.size ≤ s.size ∧ s.extract k (k + p.size) = p := fun x hx => h x (List.mem_cons_of_mem _ hx)
    unfold apN
    split
    · rename_i c
      exact ⟨c, hk.1, hk.2, ch_ap s p l _ hk.1 hl⟩
    · exact ch_ap s p l a ha hl
theorem ch_le {s p : ByteArray} : ∀ {l : List Nat} {a : Nat}, ch s p a l → a ≤ s.size
  | [], _, h => h
  | k :: l, a, h => by have h1 := h.1; have h2 := h.2.1; omega
theorem apN_len (m : Nat) : ∀ (l : List Nat) (a : Nat), (apN m a l).length ≤ l.length
  | [], _ => Nat.le_refl _
  | k :: l, a => by
    unfold apN
    split
    · have := apN_len m l (k + m); simp; omega
    · have := apN_len m l a; simp; omega
theorem rd_cast (ks : List Nat) (i : Nat) (h : i < ks.length) : rd (ks.map fun a : Nat => (a : Int)) (i : Int) = (ks[i] : Int) := by
  unfold rd
  rw [Int.toNat_natCast, List.getD_eq_getElem?_getD, List.getElem?_map, List.getElem?_eq_getElem h]
  rfl

/-! a maker's state as a list of simple parts -/
def wP : Pt → Nat
  | .K n => n
  | .W w => w.size
  | .D d => d.size
def totP : List Pt → Nat
  | [] => 0
  | q :: r => wP q + totP r
theorem addP_tot (r : List Pt) (q : Pt) : totP (addP r q) = totP r + wP q := by
  unfold addP
  split <;> simp only [totP, wP, ByteArray.size_append] <;> omega
theorem addP_len (r : List Pt) (q : Pt) : (addP r q).length ≤ r.length + 1 := by
  unfold addP
  split <;> simp only [List.length_cons] <;> omega
def posP (r : List Pt) : Prop := ∀ x ∈ r, 0 < wP x
theorem posP_cons {q : Pt} {r : List Pt} : posP (q :: r) ↔ 0 < wP q ∧ posP r := by
  unfold posP
  simp only [List.mem_cons, forall_eq_or_imp]
theorem addP_pos (r : List Pt) (q : Pt) (hr : posP r) (hq : 0 < wP q) : posP (addP r q) := by
  unfold addP
  split <;> simp only [posP_cons, wP, ByteArray.size_append] at * <;> refine ⟨?_, ?_⟩ <;> first | omega | (simp_all; done) | (refine ⟨?_, ?_⟩ <;> first | omega | (simp_all; done)) | (simp_all; omega)
theorem wP_le_tot (r : List Pt) : ∀ x ∈ r, wP x ≤ totP r := by
  induction r with
  | nil => intro x hx; cases hx
  | cons q r ih =>
    intro x hx
    simp only [totP]
    rcases List.mem_cons.1 hx with rfl | hx
    · omega
    · have := ih x hx; omega
theorem okP_ofw {x : Pt} (h : 0 < wP x) (h2 : wP x ≤ 1000000) : okP x := by
  cases x <;> exact ⟨h, h2⟩
theorem ok_all {r : List Pt} (hp : posP r) (ht : totP r ≤ 1000000) : ∀ x ∈ r, okP x := fun x hx => okP_ofw (hp x hx) (Nat.le_trans (wP_le_tot r x hx) ht)
def wL (s : ByteArray) : List Pt := if s.toList = [] then [] else [.W s]
def dL (s : ByteArray) : List Pt := if s.toList = [] then [] else [.D s]
def mkL (r0 : List Pt) (put drop : ByteArray) : List Pt := dL drop ++ (wL put ++ r0)
def headK : List Pt → Prop
  | [] => True
  | .K n :: _ => 0 < n
  | _ => False
theorem size0_toList (s : ByteArray) : s.toList = [] ↔ s.size = 0 := by
  rw [toList_data]
  constructor
  · intro e
    have := congrArg List.length e
    rw [Array.length_toList] at this
    exact this
  · intro e
    apply List.eq_nil_of_length_eq_zero
    rw [Array.length_toList]
    exact e
theorem encL_append (a b : List Pt) : (a ++ b).reverse.map encP = b.reverse.map encP ++ a.reverse.map encP := by
  rw [List.reverse_append, List.map_append]
theorem ends_enc (r0 : List Pt) (put drop : ByteArray) : r0.reverse.map encP ++ ends put drop = (mkL r0 put drop).reverse.map encP := by
  unfold mkL ends wL dL
  rw [encL_append, encL_append, List.append_assoc]
  congr 1
  by_cases h1 : put.toList = [] <;> by_cases h2 : drop.toList = [] <;> simp [h1, h2, encP]
theorem addP_W (r0 : List Pt) (h : headK r0) (put drop w : ByteArray) (hw : 0 < w.size) : addP (mkL r0 put drop) (.W w) = mkL r0 (put ++ w) drop := by
  have e1 : ¬ (put ++ w).toList = [] := by rw [size0_toList, ByteArray.size_append]; omega
  unfold mkL wL dL
  rw [if_neg e1]
  by_cases h1 : put.toList = []
  · have hp : put = ⟨#[]⟩ := ba_of_toList (by rw [h1, nil_toList])
    have hpw : put ++ w = w := by rw [hp, ba_nil_append]
    rw [if_pos h1, hpw]
    by_cases h2 : drop.toList = []
    · rw [if_pos h2]
      match r0, h with
      | [], _ => rfl
      | .K n :: r, _ => rfl
    · rw [if_neg h2]
      match r0, h with
      | [], _ => rfl
      | .K n :: r, _ => rfl
  · rw [if_neg h1]
    by_cases h2 : drop.toList = []
    · rw [if_pos h2]; rfl
    · rw [if_neg h2]; rfl
theorem addP_D (r0 : List Pt) (h : headK r0) (put drop d : ByteArray) (hd : 0 < d.size) : addP (mkL r0 put drop) (.D d) = mkL r0 put (drop ++ d) := by
  have e1 : ¬ (drop ++ d).toList = [] := by rw [size0_toList, ByteArray.size_append]; omega
  unfold mkL wL dL
  rw [if_neg e1]
  by_cases h2 : drop.toList = []
  · have hp : drop = ⟨#[]⟩ := ba_of_toList (by rw [h2, nil_toList])
    have hpw : drop ++ d = d := by rw [hp, ba_nil_append]
    rw [if_pos h2, hpw]
    by_cases h1 : put.toList = []
    · rw [if_pos h1]
      match r0, h with
      | [], _ => rfl
      | .K n :: r, _ => rfl
    · rw [if_neg h1]; rfl
  · rw [if_neg h2]; rfl
theorem mkL_nil (r0 : List Pt) : mkL r0 ⟨#[]⟩ ⟨#[]⟩ = r0 := by
  unfold mkL wL dL
  simp only [if_pos nil_toList]; rfl
theorem addP_K_head (r0 : List Pt) (h : headK r0) (put drop : ByteArray) (n : Nat) (hn : 0 < n) : headK (addP (mkL r0 put drop) (.K n)) := by
  unfold mkL wL dL
  by_cases h1 : put.toList = [] <;> by_cases h2 : drop.toList = [] <;> simp only [h1, h2, if_true, if_false, List.nil_append, List.cons_append]
  · match r0, h with
    | [], _ => exact hn
    | .K m :: r, hm => show 0 < m + n; omega
  · exact hn
  · exact hn
  · exact hn
theorem kO_enc (r0 : List Pt) (h : headK r0) (put drop : ByteArray) (n : Nat) (hn : 0 < n) (hb : n ≤ 1000000) (ht : totP r0 ≤ 1000000) :
    kO (r0.reverse.map encP) put drop (n : Int) = (addP (mkL r0 put drop) (.K n)).reverse.map encP := by
  unfold kO keepO
  rw [if_neg (by omega), ends_enc]
  have key : ∀ (x : Pt) (r : List Pt), ((x :: r).reverse.map encP).length = r.length + 1 := by intro x r; simp
  have hlast : ∀ (x : Pt) (r : List Pt), rd_T74 ((x :: r).reverse.map encP) ((((x :: r).reverse.map encP).length : Int) - 1) = encP x := by
    intro x r
    rw [key, encP_rev, show (((r.length + 1 : Nat) : Int) - 1) = ((r.reverse.map encP).length : Int) by simp]
    exact rd_last _ _
  have add : ∀ (x : Pt) (r : List Pt), ¬ (encP x).f0 > 0 → (if 0 < ((x :: r).reverse.map encP).length ∧ (rd_T74 ((x :: r).reverse.map encP) ((((x :: r).reverse.map encP).length : Int) - 1)).f0 > 0 then ((x :: r).reverse.map encP).set (((x :: r).reverse.map encP).length - 1) ⟨wrap64 ((rd_T74 ((x :: r).reverse.map encP) ((((x :: r).reverse.map encP).length : Int) - 1)).f0 + (n : Int)), (rd_T74 ((x :: r).reverse.map encP) ((((x :: r).reverse.map encP).length : Int) - 1)).f1, (rd_T74 ((x :: r).reverse.map encP) ((((x :: r).reverse.map encP).length : Int) - 1)).f2⟩ else (x :: r).reverse.map encP ++ [⟨(n : Int), ⟨#[]⟩, ⟨#[]⟩⟩]) = (Pt.K n :: x :: r).reverse.map encP := by
    intro x r hx
    rw [hlast, if_neg (fun c => hx c.2), encP_rev (x :: r) (.K n)]; rfl
  have nz : ¬ (0 : Int) > 0 := by omega
  by_cases h1 : put.toList = [] <;> by_cases h2 : drop.toList = []
  · have e : mkL r0 put drop = r0 := by unfold mkL wL dL; rw [if_pos h1, if_pos h2]; rfl
    rw [e]
    match r0, h, ht with
    | [], _, _ => rfl
    | .K m :: r, hm, ht =>
      have hm' : 0 < m := hm
      have hmb : m ≤ 1000000 := by have : wP (.K m) ≤ totP (.K m :: r) := by simp only [totP]; omega
                                   simp only [wP] at this; omega
      rw [hlast, if_pos ⟨by rw [key]; omega, by show (m : Int) > 0; omega⟩, key, Nat.add_sub_cancel, encP_rev]
      have hl : (r.reverse.map encP).length = r.length := by simp
      rw [← hl, set_at]
      show _ ++ [(⟨wrap64 ((m : Int) + (n : Int)), ⟨#[]⟩, ⟨#[]⟩⟩ : S74)] = (Pt.K (m + n) :: r).reverse.map encP
      rw [w64 (by omega) (by omega), encP_rev]; rfl
  · have e : mkL r0 put drop = .D drop :: r0 := by unfold mkL wL dL; rw [if_pos h1, if_neg h2]; rfl
    rw [e, add (.D drop) r0 nz]; rfl
  · have e : mkL r0 put drop = .W put :: r0 := by unfold mkL wL dL; rw [if_neg h1, if_pos h2]; rfl
    rw [e, add (.W put) r0 nz]; rfl
  · have e : mkL r0 put drop = .D drop :: .W put :: r0 := by unfold mkL wL dL; rw [if_neg h1, if_neg h2]; rfl
    rw [e, add (.D drop) (.W put :: r0) nz]; rfl

/-! the least change, as a list of simple parts -/
def dP (a b : ByteArray) : Nat → List Pt → Nat → Nat → List Pt
  | 0, r, _, _ => r
  | d + 1, r, i, j =>
    if i < a.size ∨ j < b.size then
      (if i < a.size then
        (if j < b.size ∧ bt a (i : Int) = bt b (j : Int) then dP a b d (addP r (.K 1)) (i + 1) (j + 1)
        else (if lc a b (i + 1) j = lc a b i j then dP a b d (addP r (.D (a.extract i (i + 1)))) (i + 1) j
        else dP a b d (addP r (.W (b.extract j (j + 1)))) i (j + 1)))
      else dP a b d (addP r (.W (b.extract j (j + 1)))) i (j + 1))
    else r
theorem ext1 (s : ByteArray) (i : Nat) (h : i < s.size) : (s.extract i (i + 1)).size = 1 := by rw [ByteArray.size_extract]; omega
theorem tbl_get1 (a b : ByteArray) (i j : Nat) (hi : i + 1 ≤ a.size) (hj : j ≤ b.size) : rd (rd_L3 (tbl a b) ((i : Int) + 1)) (j : Int) = (lc a b (i + 1) j : Int) := by
  rw [show (i : Int) + 1 = ((i + 1 : Nat) : Int) by omega]
  exact tbl_get a b (i + 1) j hi hj
theorem tbl_row_length1 (a b : ByteArray) (i : Nat) (hi : i + 1 ≤ a.size) : (rd_L3 (tbl a b) ((i : Int) + 1)).length = b.size + 1 := by
  rw [show (i : Int) + 1 = ((i + 1 : Nat) : Int) by omega]
  exact tbl_row_length a b (i + 1) hi
theorem dP_inv (a b : ByteArray) : ∀ (d : Nat) (r : List Pt) (i j : Nat), i ≤ a.size → j ≤ b.size → posP r →
    posP (dP a b d r i j) ∧ totP (dP a b d r i j) ≤ totP r + (a.size - i) + (b.size - j) ∧ (dP a b d r i j).length ≤ r.length + (a.size - i) + (b.size - j) := by
  intro d
  induction d with
  | zero => intro r i j hi hj hp; unfold dP; exact ⟨hp, by omega, by omega⟩
  | succ d ih =>
    intro r i j hi hj hp
    unfold dP
    by_cases hx : i < a.size ∨ j < b.size
    · rw [if_pos hx]
      have put : j < b.size → posP (dP a b d (addP r (.W (b.extract j (j + 1)))) i (j + 1)) ∧ totP (dP a b d (addP r (.W (b.extract j (j + 1)))) i (j + 1)) ≤ totP r + (a.size - i) + (b.size - j) ∧ (dP a b d (addP r (.W (b.extract j (j + 1)))) i (j + 1)).length ≤ r.length + (a.size - i) + (b.size - j) := by
        intro hjb
        have hw : wP (.W (b.extract j (j + 1))) = 1 := ext1 b j hjb
        obtain ⟨h1, h2, h3⟩ := ih (addP r (.W (b.extract j (j + 1)))) i (j + 1) hi (by omega) (addP_pos r _ hp (by rw [hw]; omega))
        rw [addP_tot, hw] at h2
        have := addP_len r (.W (b.extract j (j + 1)))
        exact ⟨h1, by omega, by omega⟩
      by_cases hia : i < a.size
      · rw [if_pos hia]
        by_cases hk : j < b.size ∧ bt a (i : Int) = bt b (j : Int)
        · rw [if_pos hk]
          have hjb := hk.1
          obtain ⟨h1, h2, h3⟩ := ih (addP r (.K 1)) (i + 1) (j + 1) (by omega) (by omega) (addP_pos r _ hp (by show 0 < 1; omega))
          rw [addP_tot] at h2
          have := addP_len r (.K 1)
          simp only [wP] at h2
          exact ⟨h1, by omega, by omega⟩
        · rw [if_neg hk]
          by_cases he : lc a b (i + 1) j = lc a b i j
          · rw [if_pos he]
            have hw : wP (.D (a.extract i (i + 1))) = 1 := ext1 a i hia
            obtain ⟨h1, h2, h3⟩ := ih (addP r (.D (a.extract i (i + 1)))) (i + 1) j (by omega) hj (addP_pos r _ hp (by rw [hw]; omega))
            rw [addP_tot, hw] at h2
            have := addP_len r (.D (a.extract i (i + 1)))
            exact ⟨h1, by omega, by omega⟩
          · rw [if_neg he]
            refine put ?_
            by_cases hjb : j < b.size
            · exact hjb
            · exact absurd (by rw [lc_end_right a b _ j (by omega), lc_end_right a b _ j (by omega)]) he
      · rw [if_neg hia]
        exact put (hx.resolve_left hia)
    · rw [if_neg hx]; exact ⟨hp, by omega, by omega⟩
theorem dif_ev (a b : ByteArray) (ha : a.size ≤ 300) (hb : b.size ≤ 300) : ∀ (d : Nat) (r0 : List Pt) (put drop : ByteArray) (i j : Nat), (a.size - i) + (b.size - j) < d → i ≤ a.size → j ≤ b.size → headK r0 → posP (mkL r0 put drop) →
    totP (mkL r0 put drop) + (a.size - i) + (b.size - j) ≤ 1000 → (mkL r0 put drop).length + (a.size - i) + (b.size - j) ≤ 1000 →
    dif a b (tbl a b) d (r0.reverse.map encP) put drop i j = some ((dP a b d (mkL r0 put drop) i j).reverse.map encP) := by
  intro d
  induction d with
  | zero => intro r0 put drop i j hd; omega
  | succ d ih =>
    intro r0 put drop i j hd hi hj hh hp ht hlen
    have hr0 : r0.length ≤ (mkL r0 put drop).length := by unfold mkL; simp only [List.length_append]; omega
    have hpt : put.size ≤ totP (mkL r0 put drop) := by
      by_cases h1 : put.toList = []
      · have := (size0_toList put).1 h1; omega
      · exact wP_le_tot _ (.W put) (by unfold mkL wL; rw [if_neg h1]; simp)
    have hdt : drop.size ≤ totP (mkL r0 put drop) := by
      by_cases h1 : drop.toList = []
      · have := (size0_toList drop).1 h1; omega
      · exact wP_le_tot _ (.D drop) (by unfold mkL dL; rw [if_neg h1]; simp)
    have hrt : totP r0 ≤ totP (mkL r0 put drop) := by
      have : ∀ l : List Pt, totP r0 ≤ totP (l ++ r0) := by intro l; induction l with
        | nil => exact Nat.le_refl _
        | cons q l ih => simp only [List.cons_append, totP]; omega
      unfold mkL
      rw [← List.append_assoc]
      exact this _
    have hol : (r0.reverse.map encP).length = r0.length := by simp
    unfold dif dP
    by_cases hx : i < a.size ∨ j < b.size
    · rw [if_pos hx, if_pos hx, if_pos (by rw [hol]; omega)]
      have put' : j < b.size → dif a b (tbl a b) d (r0.reverse.map encP) (put ++ b.extract j (j + 1)) (drop ++ ⟨#[]⟩) i (j + 1) = some ((dP a b d (addP (mkL r0 put drop) (.W (b.extract j (j + 1)))) i (j + 1)).reverse.map encP) := by
        intro hjb
        have hw : wP (.W (b.extract j (j + 1))) = 1 := ext1 b j hjb
        have hw' : 0 < (b.extract j (j + 1)).size := by rw [ext1 b j hjb]; omega
        have hl := addP_len (mkL r0 put drop) (.W (b.extract j (j + 1)))
        have htt := addP_tot (mkL r0 put drop) (.W (b.extract j (j + 1)))
        have hpp := addP_pos (mkL r0 put drop) (.W (b.extract j (j + 1))) hp (by rw [hw]; omega)
        rw [addP_W r0 hh put drop _ hw'] at *
        rw [ba_append_nil]
        exact ih r0 (put ++ b.extract j (j + 1)) drop i (j + 1) (by omega) hi (by omega) hh hpp (by omega) (by omega)
      by_cases hia : i < a.size
      · rw [if_pos hia, if_pos hia]
        by_cases hk : j < b.size ∧ bt a (i : Int) = bt b (j : Int)
        · rw [if_pos hk, if_pos hk]
          have hjb := hk.1
          have hl := addP_len (mkL r0 put drop) (.K 1)
          have htt := addP_tot (mkL r0 put drop) (.K 1)
          have hpp := addP_pos (mkL r0 put drop) (.K 1) hp (by show 0 < 1; omega)
          have hhd := addP_K_head r0 hh put drop 1 (by omega)
          have hko := kO_enc r0 hh put drop 1 (by omega) (by omega) (by omega)
          simp only [wP] at htt
          rw [show ((1 : Nat) : Int) = 1 from rfl] at hko
          rw [hko]
          have := ih (addP (mkL r0 put drop) (.K 1)) ⟨#[]⟩ ⟨#[]⟩ (i + 1) (j + 1) (by omega) (by omega) (by omega) hhd (by rw [mkL_nil]; exact hpp) (by rw [mkL_nil]; omega) (by rw [mkL_nil]; omega)
          rw [mkL_nil] at this
          exact this
        · rw [if_neg hk, if_neg hk, if_pos ⟨by rw [tbl_length]; omega, by rw [tbl_row_length1 a b i (by omega)]; omega, by rw [tbl_row_length a b i (by omega)]; omega⟩, tbl_get1 a b i j (by omega) hj, tbl_get a b i j (by omega) hj]
          by_cases he : lc a b (i + 1) j = lc a b i j
          · rw [if_pos he, if_pos (by rw [he])]
            have hw : wP (.D (a.extract i (i + 1))) = 1 := ext1 a i hia
            have hw' : 0 < (a.extract i (i + 1)).size := by rw [ext1 a i hia]; omega
            have hl := addP_len (mkL r0 put drop) (.D (a.extract i (i + 1)))
            have htt := addP_tot (mkL r0 put drop) (.D (a.extract i (i + 1)))
            have hpp := addP_pos (mkL r0 put drop) (.D (a.extract i (i + 1))) hp (by rw [hw]; omega)
            rw [addP_D r0 hh put drop _ hw'] at *
            rw [ba_append_nil]
            exact ih r0 put (drop ++ a.extract i (i + 1)) (i + 1) j (by omega) (by omega) hj hh hpp (by omega) (by omega)
          · have hjb : j < b.size := by
              by_cases hjb : j < b.size
              · exact hjb
              · exact absurd (by rw [lc_end_right a b _ j (by omega), lc_end_right a b _ j (by omega)]) he
            rw [if_neg he, if_neg (by omega), if_pos hjb]
            exact put' hjb
      · rw [if_neg hia, if_neg hia]
        exact put' (hx.resolve_left hia)
    · rw [if_neg hx, if_neg hx, if_pos (by rw [hol]; omega), ends_enc]
theorem l9Diff_ev (a b : ByteArray) (ha : a.size ≤ 300) (hb : b.size ≤ 300) : ∀ (d : Nat) (r : List Pt) (i j : Nat), (a.size - i) + (b.size - j) < d → i ≤ a.size → j ≤ b.size → posP r →
    totP r + (a.size - i) + (b.size - j) ≤ 1000 → r.length + (a.size - i) + (b.size - j) ≤ 1000 →
    ∃ K, ∀ k, K ≤ k → spec_l9Diff.l0 k a b (tbl a b) (r.reverse.map encP) (i : Int) (j : Int) = some ((dP a b d r i j).reverse.map encP) := by
  intro d
  induction d with
  | zero => intro r i j hd; omega
  | succ d ih =>
    intro r i j hd hi hj hp ht hlen
    have hok := ok_all hp (by omega : totP r ≤ 1000000)
    have wi : Aside0 (wrap64 ((i : Int) + 1) = ((i + 1 : Nat) : Int)) := ⟨by rw [w64 (by omega) (by omega)]; omega⟩
    have wj : Aside0 (wrap64 ((j : Int) + 1) = ((j + 1 : Nat) : Int)) := ⟨by rw [w64 (by omega) (by omega)]; omega⟩
    unfold dP
    by_cases hx : i < a.size ∨ j < b.size
    · rw [if_pos hx]
      -- to the second test
      have go1 : ∀ (x : Bool) (res : Option (List S74)) (K : Nat), x = (decide (i < a.size) && (decide (j < b.size) && decide (bt a (i : Int) = bt b (j : Int)))) → (∀ k, K ≤ k → spec_l9Diff.j2 k a b (tbl a b) (r.reverse.map encP) (i : Int) (j : Int) x = res) → ∀ k, K + 2 ≤ k → spec_l9Diff.l0 k a b (tbl a b) (r.reverse.map encP) (i : Int) (j : Int) = res := by
        intro x res K hxe h k hk
        obtain ⟨k, rfl⟩ : ∃ m, k = m + 2 := ⟨k - 2, by omega⟩
        have hb1 : (if (i : Int) < (a.size : Int) then (spec_l9Diff.j1 (k + 1) a b (tbl a b) (r.reverse.map encP) (i : Int) (j : Int) true) else (spec_l9Diff.j1 (k + 1) a b (tbl a b) (r.reverse.map encP) (i : Int) (j : Int) (decide ((j : Int) < (b.size : Int))))) = spec_l9Diff.j1 (k + 1) a b (tbl a b) (r.reverse.map encP) (i : Int) (j : Int) true := by
          by_cases hia : i < a.size
          · rw [if_pos (by omega)]
          · rw [if_neg (by omega), decide_eq_true (by have := hx.resolve_left hia; omega)]
        simp only [spec_l9Diff.l0]
        rw [hb1]
        simp only [spec_l9Diff.j1, if_true]
        have hk' := h k (by omega)
        by_cases hia : i < a.size
        · rw [if_pos (by omega)]
          by_cases hjb : j < b.size
          · rw [if_pos (by omega), if_pos (by omega), if_pos (by omega)]
            rw [← hk', hxe]
            congr 1
            simp [hia, hjb]
            by_cases e : bt a (i : Int) = bt b (j : Int) <;> simp [e]
          · rw [if_neg (by omega), ← hk', hxe]
            congr 1
            simp [hjb]
        · rw [if_neg (by omega), ← hk', hxe]
          congr 1
          simp [hia]
      have put' : j < b.size → ∃ K, ∀ k, K ≤ k → spec_l9Diff.j3 k a b (tbl a b) (r.reverse.map encP) (i : Int) (j : Int) false = some ((dP a b d (addP r (.W (b.extract j (j + 1)))) i (j + 1)).reverse.map encP) := by
        intro hjb
        have hw : wP (.W (b.extract j (j + 1))) = 1 := ext1 b j hjb
        have hl := addP_len r (.W (b.extract j (j + 1)))
        have htt := addP_tot r (.W (b.extract j (j + 1)))
        have hpp := addP_pos r (.W (b.extract j (j + 1))) hp (by rw [hw]; omega)
        obtain ⟨K, hK⟩ := ih (addP r (.W (b.extract j (j + 1)))) i (j + 1) (by omega) hi (by omega) hpp (by omega) (by omega)
        refine ⟨K + 10, fun k hk => ?_⟩
        obtain ⟨k, rfl⟩ : ∃ m, k = m + 6 := ⟨k - 6, by omega⟩
        have ha3 := l3Add_enc k r (by omega) hok (.W (b.extract j (j + 1))) (okP_ofw (by rw [hw]; omega) (by rw [hw]; omega))
        simp only [spec_l9Diff.j3, Bool.false_eq_true, if_false, wj.out]
        rw [if_pos (by omega), if_pos (by omega), if_pos (by omega), Int.toNat_natCast, Int.toNat_natCast]
        simp only [encP] at ha3
        rw [ha3, Option.bind_some]
        exact hK (k + 5) (by omega)
      by_cases hia : i < a.size
      · rw [if_pos hia]
        by_cases hk : j < b.size ∧ bt a (i : Int) = bt b (j : Int)
        · rw [if_pos hk]
          have hjb := hk.1
          have hl := addP_len r (.K 1)
          have htt := addP_tot r (.K 1)
          have hpp := addP_pos r (.K 1) hp (by show 0 < 1; omega)
          simp only [wP] at htt
          obtain ⟨K, hK⟩ := ih (addP r (.K 1)) (i + 1) (j + 1) (by omega) (by omega) (by omega) hpp (by omega) (by omega)
          refine ⟨K + 12, go1 true _ (K + 10) (by simp [hia, hk.1, hk.2]) (fun k hk2 => ?_)⟩
          obtain ⟨k, rfl⟩ : ∃ m, k = m + 6 := ⟨k - 6, by omega⟩
          have ha3 := l3Add_enc k r (by omega) hok (.K 1) (okP_ofw (by show 0 < 1; omega) (by show 1 ≤ 1000000; omega))
          simp only [encP] at ha3
          rw [show ((1 : Nat) : Int) = 1 from rfl] at ha3
          simp only [spec_l9Diff.j2, if_true, wi.out, wj.out]
          rw [ha3, Option.bind_some]
          exact hK (k + 5) (by omega)
        · rw [if_neg hk]
          have hxf : false = (decide (i < a.size) && (decide (j < b.size) && decide (bt a (i : Int) = bt b (j : Int)))) := by
            by_cases hjb : j < b.size
            · have : ¬ bt a (i : Int) = bt b (j : Int) := fun e => hk ⟨hjb, e⟩
              simp [this]
            · simp [hjb]
          by_cases he : lc a b (i + 1) j = lc a b i j
          · rw [if_pos he]
            have hw : wP (.D (a.extract i (i + 1))) = 1 := ext1 a i hia
            have hl := addP_len r (.D (a.extract i (i + 1)))
            have htt := addP_tot r (.D (a.extract i (i + 1)))
            have hpp := addP_pos r (.D (a.extract i (i + 1))) hp (by rw [hw]; omega)
            obtain ⟨K, hK⟩ := ih (addP r (.D (a.extract i (i + 1)))) (i + 1) j (by omega) (by omega) hj hpp (by omega) (by omega)
            have j3 : ∀ k, K + 10 ≤ k → spec_l9Diff.j3 k a b (tbl a b) (r.reverse.map encP) (i : Int) (j : Int) true = some ((dP a b d (addP r (.D (a.extract i (i + 1)))) (i + 1) j).reverse.map encP) := by
              intro k hk2
              obtain ⟨k, rfl⟩ : ∃ m, k = m + 6 := ⟨k - 6, by omega⟩
              have ha3 := l3Add_enc k r (by omega) hok (.D (a.extract i (i + 1))) (okP_ofw (by rw [hw]; omega) (by rw [hw]; omega))
              simp only [encP] at ha3
              simp only [spec_l9Diff.j3, if_true, wi.out]
              rw [if_pos (by omega), if_pos (by omega), if_pos (by omega), Int.toNat_natCast, Int.toNat_natCast, ha3, Option.bind_some]
              exact hK (k + 5) (by omega)
            refine ⟨K + 13, go1 false _ (K + 11) hxf (fun k hk2 => ?_)⟩
            obtain ⟨k, rfl⟩ : ∃ m, k = m + 1 := ⟨k - 1, by omega⟩
            simp only [spec_l9Diff.j2, Bool.false_eq_true, if_false, wi.out]
            by_cases hjb : j = b.size
            · rw [if_pos (by omega)]
              exact j3 k (by omega)
            · rw [if_neg (by omega), if_pos (by omega), if_pos (by omega), if_pos (by rw [tbl_length]; omega), if_pos (by omega), if_pos (by rw [tbl_row_length a b (i + 1) (by omega)]; omega), if_pos (by omega), if_pos (by rw [tbl_length]; omega), if_pos (by rw [tbl_row_length a b i (by omega)]; omega), tbl_get a b (i + 1) j (by omega) hj, tbl_get a b i j (by omega) hj, he, beq_self_eq_true]
              exact j3 k (by omega)
          · have hjb : j < b.size := by
              by_cases hjb : j < b.size
              · exact hjb
              · exact absurd (by rw [lc_end_right a b _ j (by omega), lc_end_right a b _ j (by omega)]) he
            rw [if_neg he]
            obtain ⟨K, hK⟩ := put' hjb
            refine ⟨K + 13, go1 false _ (K + 11) hxf (fun k hk2 => ?_)⟩
            obtain ⟨k, rfl⟩ : ∃ m, k = m + 1 := ⟨k - 1, by omega⟩
            simp only [spec_l9Diff.j2, Bool.false_eq_true, if_false, wi.out]
            rw [if_neg (by omega), if_pos (by omega), if_pos (by omega), if_pos (by rw [tbl_length]; omega), if_pos (by omega), if_pos (by rw [tbl_row_length a b (i + 1) (by omega)]; omega), if_pos (by omega), if_pos (by rw [tbl_length]; omega), if_pos (by rw [tbl_row_length a b i (by omega)]; omega), tbl_get a b (i + 1) j (by omega) hj, tbl_get a b i j (by omega) hj, beq_eq_false_iff_ne.mpr (by omega)]
            exact hK k (by omega)
      · rw [if_neg hia]
        have hjb := hx.resolve_left hia
        obtain ⟨K, hK⟩ := put' hjb
        refine ⟨K + 13, go1 false _ (K + 11) (by simp [hia]) (fun k hk2 => ?_)⟩
        obtain ⟨k, rfl⟩ : ∃ m, k = m + 1 := ⟨k - 1, by omega⟩
        simp only [spec_l9Diff.j2, Bool.false_eq_true, if_false]
        rw [if_neg (by omega), if_neg (by omega)]
        exact hK k (by omega)
    · rw [if_neg hx]
      refine ⟨2, fun k hk => ?_⟩
      obtain ⟨k, rfl⟩ : ∃ m, k = m + 2 := ⟨k - 2, by omega⟩
      simp only [spec_l9Diff.l0]
      rw [if_neg (by omega), decide_eq_false (by omega)]
      simp only [spec_l9Diff.j1, Bool.false_eq_true, if_false]

/-! how many bytes a change makes -/
def mkN : Pt → Nat
  | .K n => n
  | .W w => w.size
  | .D _ => 0
def mks : List Pt → Nat
  | [] => 0
  | q :: r => mkN q + mks r
theorem mks_add (r : List Pt) (q : Pt) : mks (addP r q) = mks r + mkN q := by
  unfold addP
  split <;> simp [mks, mkN, ByteArray.size_append] <;> omega
theorem mks_addQ (r : List Pt) (q : Pt) : mks (addQ r q) = mks r + mkN q := by
  unfold addQ
  split
  · rename_i h
    have : mkN q = 0 := by cases q <;> simp_all [mkN, massP]
    omega
  · exact mks_add r q
theorem mks_fold : ∀ (L r : List Pt), mks (L.foldl addQ r) = mks r + mks L
  | [], r => by simp [mks]
  | q :: L, r => by rw [List.foldl_cons, mks_fold L, mks_addQ]; simp only [mks]; omega
theorem mks_append : ∀ (a b : List Pt), mks (a ++ b) = mks a + mks b
  | [], b => by simp [mks]
  | q :: a, b => by rw [List.cons_append]; simp only [mks]; rw [mks_append a b]; omega
theorem mks_rev : ∀ (a : List Pt), mks a.reverse = mks a
  | [] => rfl
  | q :: a => by rw [List.reverse_cons, mks_append, mks_rev a]; simp only [mks]; omega
theorem mass_append : ∀ (a b : List Pt), mass (a ++ b) = mass a + mass b
  | [], b => by simp [mass]
  | q :: a, b => by rw [List.cons_append]; simp only [mass]; rw [mass_append a b]; omega
theorem mass_rev : ∀ (a : List Pt), mass a.reverse = mass a
  | [] => rfl
  | q :: a => by rw [List.reverse_cons, mass_append, mass_rev a]; simp only [mass]; omega

def allB (b : ByteArray) : Prop := ∀ j : Nat, j < b.size → okB (bt b (j : Int)) = true
theorem okN_iff (b : ByteArray) : ∀ (d i : Nat), okN b d i = true ↔ ∀ j : Nat, i ≤ j → j < i + d → okB (bt b (j : Int)) = true
  | 0, i => by simp [okN]; intro j h1 h2; omega
  | d + 1, i => by
    simp only [okN, Bool.and_eq_true, okN_iff b d (i + 1)]
    constructor
    · intro ⟨h1, h2⟩ j hj hj2
      by_cases e : j = i
      · subst e; exact h1
      · exact h2 j (by omega) (by omega)
    · intro h
      exact ⟨h i (Nat.le_refl _) (by omega), fun j h1 h2 => h j (by omega) (by omega)⟩
theorem textB_iff (b : ByteArray) : textB b = true ↔ allB b ∧ b.size ≤ 300 := by
  unfold textB allB
  rw [Bool.and_eq_true, okN_iff, decide_eq_true_eq]
  constructor
  · intro ⟨h1, h2⟩; exact ⟨fun j hj => h1 j (Nat.zero_le _) (by omega), h2⟩
  · intro ⟨h1, h2⟩; exact ⟨fun j _ hj => h1 j (by omega), h2⟩
theorem allB_data (b : ByteArray) : allB b ↔ ∀ x ∈ b.data.toList, okB (x.toNat : Int) = true := by
  unfold allB
  constructor
  · intro h x hx
    obtain ⟨j, hj, rfl⟩ := List.mem_iff_getElem.mp hx
    have hj' : j < b.size := by rw [Array.length_toList] at hj; exact hj
    have := h j hj'
    rw [bt_data b j hj'] at this
    exact this
  · intro h j hj
    rw [bt_data b j hj]
    exact h _ (List.getElem_mem _)
theorem allB_append {a b : ByteArray} (ha : allB a) (hb : allB b) : allB (a ++ b) := by
  rw [allB_data] at ha hb ⊢
  intro x hx
  rw [ByteArray.data_append, Array.toList_append] at hx
  rcases List.mem_append.mp hx with h | h
  · exact ha x h
  · exact hb x h
theorem allB_extract {a : ByteArray} (ha : allB a) (i j : Nat) : allB (a.extract i j) := by
  rw [allB_data] at ha ⊢
  intro x hx
  rw [ByteArray.data_extract, Array.toList_extract] at hx
  exact ha x (List.mem_of_mem_drop (List.mem_of_mem_take (by simpa [List.extract] using hx)))

theorem spec_cost_l (l : List S74) (hl : l.length ≤ 3518437208780) : ∀ (d i : Nat), i + d = l.length → ∀ a : Int, ∃ r K, ∀ k, K ≤ k → spec_l9Cost.l0 k a l (l.length : Int) (i : Int) = some r := by
  intro d
  induction d with
  | zero =>
    intro i hi a
    refine ⟨a, 1, fun k hk => ?_⟩
    obtain ⟨k, rfl⟩ : ∃ m, k = m + 1 := ⟨k - 1, by omega⟩
    simp only [spec_l9Cost.l0]
    rw [if_neg (by omega)]
  | succ d ih =>
    intro i hi a
    obtain ⟨r, K, hK⟩ := ih (i + 1) (by omega) (wrap64 (a + (wrap64 ((((rd_T74 l (i : Int)).f1).size : Int) + (((rd_T74 l (i : Int)).f2).size : Int)))))
    refine ⟨r, K + 1, fun k hk => ?_⟩
    obtain ⟨k, rfl⟩ : ∃ m, k = m + 1 := ⟨k - 1, by omega⟩
    have hr := hK k (by omega)
    simp only [spec_l9Cost.l0]
    rw [if_pos (by omega), if_pos (by omega), if_pos (by omega), w64 (i := (i : Int) + 1) (by omega) (by omega)]
    exact hr
theorem impl_cost_same (l : List S74) : ∀ k a i, impl_CostOf.l0 k a l (l.length : Int) i = (spec_l9Cost.l0 k a l (l.length : Int) i).bind fun r => some (r, true) := by
  intro k
  induction k with
  | zero => intro a i; rfl
  | succ k ih =>
    intro a i
    simp only [impl_CostOf.l0, spec_l9Cost.l0]
    split
    · split
      · exact ih _ _
      · rfl
    · rfl

theorem sameOps_l (l : List S74) (hl : l.length ≤ 3518437208780) : ∀ (d i : Nat), i + d = l.length → ∃ K, ∀ k, K ≤ k → laws_sameOps.l0 k l l (l.length : Int) (i : Int) = some true := by
  intro d
  induction d with
  | zero =>
    intro i hi
    refine ⟨1, fun k hk => ?_⟩
    obtain ⟨k, rfl⟩ : ∃ m, k = m + 1 := ⟨k - 1, by omega⟩
    simp only [laws_sameOps.l0]
    rw [if_neg (by omega)]
  | succ d ih =>
    intro i hi
    obtain ⟨K, hK⟩ := ih (i + 1) (by omega)
    refine ⟨K + 1, fun k hk => ?_⟩
    obtain ⟨k, rfl⟩ : ∃ m, k = m + 1 := ⟨k - 1, by omega⟩
    simp only [laws_sameOps.l0]
    rw [if_pos (by omega), if_pos (by omega), if_pos (by omega), if_pos (by omega), if_neg (by simp), w64 (by omega) (by omega), show ((i : Int) + 1) = ((i + 1 : Nat) : Int) by omega]
    exact hK k (by omega)
theorem sameOps_ev (l : List S74) (hl : l.length ≤ 3518437208780) : ∃ K, ∀ k, K ≤ k → laws_sameOps.f k l l = some true := by
  obtain ⟨K, hK⟩ := sameOps_l l hl l.length 0 (by omega)
  exact ⟨K, fun k hk => by unfold laws_sameOps.f; rw [if_pos rfl]; exact hK k hk⟩

/-! a longest text in common, of several the least: what is picked -/
theorem lc_mono (a b : ByteArray) : ∀ (n i k : Nat), (a.size - i) + (b.size - k) ≤ n → lc a b (i + 1) k ≤ lc a b i k ∧ lc a b i (k + 1) ≤ lc a b i k ∧ lc a b i k ≤ lc a b (i + 1) k + 1 ∧ lc a b i k ≤ lc a b i (k + 1) + 1 := by
  intro n
  induction n with
  | zero =>
    intro i k h
    rw [lc_end_left a b i k (by omega), lc_end_left a b (i + 1) k (by omega), lc_end_left a b i (k + 1) (by omega)]
    omega
  | succ n ih =>
    intro i k h
    by_cases hi : i < a.size
    · by_cases hk : k < b.size
      · have s := lc_step a b i k hi hk
        obtain ⟨p1, p2, p3, p4⟩ := ih (i + 1) k (by omega)
        obtain ⟨q1, q2, q3, q4⟩ := ih i (k + 1) (by omega)
        by_cases e : bt a (i : Int) = bt b (k : Int)
        · rw [if_pos e] at s; omega
        · rw [if_neg e] at s; omega
      · rw [lc_end_right a b i k (by omega), lc_end_right a b (i + 1) k (by omega), lc_end_right a b i (k + 1) (by omega)]
        omega
    · rw [lc_end_left a b i k (by omega), lc_end_left a b (i + 1) k (by omega), lc_end_left a b i (k + 1) (by omega)]
      omega
theorem lc_left (a b : ByteArray) (k i : Nat) : ∀ (d : Nat), lc a b (i + d) k ≤ lc a b i k
  | 0 => Nat.le_refl _
  | d + 1 => Nat.le_trans (lc_mono a b _ (i + d) k (Nat.le_refl _)).1 (lc_left a b k i d)
theorem lc_right (a b : ByteArray) (i k : Nat) : ∀ (d : Nat), lc a b i (k + d) ≤ lc a b i k
  | 0 => Nat.le_refl _
  | d + 1 => Nat.le_trans (lc_mono a b _ i (k + d) (Nat.le_refl _)).2.1 (lc_right a b i k d)
theorem lc_anti {a b : ByteArray} {i i' k k' : Nat} (hi : i ≤ i') (hk : k ≤ k') : lc a b i' k' ≤ lc a b i k := by
  obtain ⟨d, rfl⟩ := Nat.exists_eq_add_of_le hi
  obtain ⟨e, rfl⟩ := Nat.exists_eq_add_of_le hk
  exact Nat.le_trans (lc_left a b _ i d) (lc_right a b i k e)

theorem enc_small (r : List Pt) (ht : totP r ≤ 1000000) (hl : r.length ≤ 1000000) : smallL (r.reverse.map encP) := by
  refine ⟨by simp; omega, fun x hx => ?_⟩
  obtain ⟨q, hq, rfl⟩ := List.mem_map.1 hx
  have := wP_le_tot r q (List.mem_reverse.1 hq)
  have z : (⟨#[]⟩ : ByteArray).size = 0 := rfl
  cases q with
  | K n => exact ⟨by show (⟨#[]⟩ : ByteArray).size ≤ _; omega, by show (⟨#[]⟩ : ByteArray).size ≤ _; omega⟩
  | W w => simp only [wP] at this; exact ⟨by show w.size ≤ _; omega, by show (⟨#[]⟩ : ByteArray).size ≤ _; omega⟩
  | D d => simp only [wP] at this; exact ⟨by show (⟨#[]⟩ : ByteArray).size ≤ _; omega, by show d.size ≤ _; omega⟩
/-- The change that is told: the parts, where they are good. -/
def diffR (a b : ByteArray) : List Pt := dP a b (a.size + b.size + 1) [] 0 0
theorem diffR_inv (a b : ByteArray) : posP (diffR a b) ∧ totP (diffR a b) ≤ a.size + b.size ∧ (diffR a b).length ≤ a.size + b.size := by
  obtain ⟨h1, h2, h3⟩ := dP_inv a b (a.size + b.size + 1) [] 0 0 (Nat.zero_le _) (Nat.zero_le _) (fun x hx => by cases hx)
  simp only [totP, List.length_nil] at h2 h3
  exact ⟨h1, by unfold diffR; omega, by unfold diffR; omega⟩

theorem stepP_mono {s : ByteArray} {q : Pt} {st v : ByteArray × Nat} (h : stepP s st q = some v) (ha : st.2 ≤ s.size) : st.1.size ≤ v.1.size ∧ v.2 ≤ s.size := by
  cases q with
  | K n =>
    simp only [stepP] at h
    split at h
    · cases h; simp only [ByteArray.size_append]; omega
    · cases h
  | W w => simp only [stepP] at h; cases h; simp only [ByteArray.size_append]; omega
  | D d =>
    simp only [stepP] at h
    split at h
    · cases h; simp only; omega
    · cases h
theorem runP_mono {s : ByteArray} : ∀ {l : List Pt} {st v : ByteArray × Nat}, runP s l st = some v → st.2 ≤ s.size → st.1.size ≤ v.1.size ∧ v.2 ≤ s.size
  | [], st, v, h, ha => by
    have : st = v := Option.some.inj h
    subst this
    exact ⟨Nat.le_refl _, ha⟩
  | q :: l, st, v, h, ha => by
    obtain ⟨u, hu, hv⟩ := Option.bind_eq_some_iff.mp h
    have h1 := stepP_mono hu ha
    have h2 := runP_mono hv h1.2
    omega
theorem rd_enc (L : List Pt) (i : Nat) (h : i < L.length) : rd_T74 (L.map encP) (i : Int) = encP L[i] := by
  unfold rd_T74
  rw [Int.toNat_natCast, List.getD_eq_getElem?_getD, List.getElem?_map, List.getElem?_eq_getElem h]
  rfl
theorem rest_size (s : ByteArray) (a : Nat) : (s.extract a s.size).size = s.size - a := by rw [ByteArray.size_extract]; omega

theorem T_same (s p : ByteArray) : ∀ (ks : List Nat) (a : Nat), ch s p a ks → T s p p.size a ks = s.extract a s.size
  | [], a, h => rfl
  | k :: ks, a, h => by
    obtain ⟨h1, h2, h3, h4⟩ := h
    have e : s.extract a k ++ p = s.extract a (k + p.size) := by rw [← ba_extract_add s a k (k + p.size) h1 (by omega), h3]
    show s.extract a k ++ p ++ T s p p.size (k + p.size) ks = _
    rw [T_same s p ks _ h4, e, ba_extract_add s a (k + p.size) s.size (by omega) h2]
def kdN : Pt → Nat
  | .K n => n
  | .W _ => 0
  | .D d => d.size
def kds : List Pt → Nat
  | [] => 0
  | q :: r => kdN q + kds r
theorem run_kds {s : ByteArray} : ∀ {L : List Pt} {st v : ByteArray × Nat}, runP s L st = some v → v.2 = st.2 + kds L
  | [], st, v, h => by obtain rfl := Option.some.inj h; rfl
  | q :: L, st, v, h => by
    obtain ⟨u, h1, h2⟩ := Option.bind_eq_some_iff.1 (show (stepP s st q).bind (runP s L) = some v from h)
    have e := run_kds h2
    have hq : u.2 = st.2 + kdN q := by
      cases q with
      | K n =>
        have h1' : (if st.2 + n ≤ s.size then some (st.1 ++ s.extract st.2 (st.2 + n), st.2 + n) else none) = some u := h1
        split at h1'
        · obtain rfl := Option.some.inj h1'; rfl
        · cases h1'
      | W w => obtain rfl := Option.some.inj (show some (st.1 ++ w, st.2) = some u from h1); rfl
      | D d =>
        have h1' : (if st.2 + d.size ≤ s.size ∧ s.extract st.2 (st.2 + d.size) = d then some (st.1, st.2 + d.size) else none) = some u := h1
        split at h1'
        · obtain rfl := Option.some.inj h1'; rfl
        · cases h1'
    show v.2 = st.2 + (kdN q + kds L)
    omega
theorem sizes2_l (L : List Pt) (hL : L.length ≤ 1000000) : ∀ (d i x y : Nat), i + d = L.length → x + mass (L.drop i) ≤ 10000000 → y + mass (L.drop i) ≤ 10000000 → ∃ K, ∀ k, K ≤ k → spec_l3Sizes.l0 k (x : Int) (y : Int) (L.map encP) ((L.map encP).length : Int) (i : Int) = some (((x + kds (L.drop i) : Nat) : Int), ((y + mks (L.drop i) : Nat) : Int)) := by
  intro d
  induction d with
  | zero =>
    intro i x y hi hx hy
    refine ⟨1, fun k hk => ?_⟩
    obtain ⟨k, rfl⟩ : ∃ m, k = m + 1 := ⟨k - 1, by omega⟩
    simp only [spec_l3Sizes.l0]
    rw [if_neg (by simp; omega), List.drop_of_length_le (by omega)]
    simp [mks, kds]
  | succ d ih =>
    intro i x y hi hx hy
    have hil : i < L.length := by omega
    have hrd := rd_enc L i hil
    rw [List.drop_eq_getElem_cons hil] at hx hy ⊢
    simp only [mass, mks, kds] at hx hy ⊢
    generalize L[i] = q at hx hy hrd ⊢
    have h1 : kdN q ≤ massP q ∧ (encP q).f0 + ((encP q).f2.size : Int) = (kdN q : Int) := by
      have z : (⟨#[]⟩ : ByteArray).size = 0 := rfl
      cases q with
      | K n => exact ⟨Nat.le_refl _, by show (n : Int) + ((⟨#[]⟩ : ByteArray).size : Int) = (n : Int); omega⟩
      | W w => exact ⟨Nat.zero_le _, by show (0 : Int) + ((⟨#[]⟩ : ByteArray).size : Int) = ((0 : Nat) : Int); omega⟩
      | D w => exact ⟨Nat.le_refl _, by show (0 : Int) + (w.size : Int) = (w.size : Int); omega⟩
    have h2 : (encP q).f0 + ((encP q).f1.size : Int) = (mkN q : Int) ∧ mkN q ≤ massP q := by
      have z : (⟨#[]⟩ : ByteArray).size = 0 := rfl
      cases q with
      | K n => exact ⟨by show (n : Int) + ((⟨#[]⟩ : ByteArray).size : Int) = (n : Int); omega, Nat.le_refl _⟩
      | W w => exact ⟨by show (0 : Int) + (w.size : Int) = (w.size : Int); omega, Nat.le_refl _⟩
      | D w => exact ⟨by show (0 : Int) + ((⟨#[]⟩ : ByteArray).size : Int) = ((0 : Nat) : Int); omega, Nat.zero_le _⟩
    obtain ⟨hk1, hk2⟩ := h1
    obtain ⟨K, hK⟩ := ih (i + 1) (x + kdN q) (y + mkN q) (by omega) (by omega) (by omega)
    refine ⟨K + 1, fun k hk => ?_⟩
    obtain ⟨k, rfl⟩ : ∃ m, k = m + 1 := ⟨k - 1, by omega⟩
    have hr := hK k (by omega)
    simp only [spec_l3Sizes.l0]
    rw [if_pos (by simp; omega), if_pos (by omega), if_pos (by simp; omega), hrd, hk2, h2.1]
    rw [w64 (i := (kdN q : Int)) (by omega) (by omega), w64 (i := (x : Int) + (kdN q : Int)) (by omega) (by omega), w64 (i := (mkN q : Int)) (by omega) (by omega), w64 (i := (y : Int) + (mkN q : Int)) (by omega) (by omega), w64 (i := (i : Int) + 1) (by omega) (by omega)]
    rw [show (x : Int) + (kdN q : Int) = ((x + kdN q : Nat) : Int) by omega, show (y : Int) + (mkN q : Int) = ((y + mkN q : Nat) : Int) by omega, show (i : Int) + 1 = ((i + 1 : Nat) : Int) by omega, hr, Nat.add_assoc, Nat.add_assoc]
theorem sizes2_ev (L : List Pt) (hL : L.length ≤ 1000000) (hm : mass L ≤ 1000000) : ∃ K, ∀ k, K ≤ k → spec_l3Sizes.f k (L.map encP) = some ((kds L : Int), (mks L : Int)) := by
  obtain ⟨K, hK⟩ := sizes2_l L hL L.length 0 0 0 (by omega) (by rw [List.drop_zero]; omega) (by rw [List.drop_zero]; omega)
  refine ⟨K, fun k hk => ?_⟩
  have := hK k hk
  rw [List.drop_zero, Nat.zero_add, Nat.zero_add] at this
  exact this
theorem apI_l (s : ByteArray) (hs : s.size ≤ 300) (L : List Pt) (hL : L.length ≤ 1000000) (hmx : ∀ x ∈ L, massP x ≤ 1000000) (v : ByteArray × Nat) (hv : v.1.size ≤ 1000000000) :
    ∀ (d i : Nat) (a : Nat) (out : ByteArray), i + d = L.length → a ≤ s.size → runP s (L.drop i) (out, a) = some v →
    ∃ K, ∀ k, K ≤ k → impl_ApplyOp.l0 k (s.extract a s.size) out (L.map encP) ((L.map encP).length : Int) (i : Int) = some (v.1, true) := by
  intro d
  induction d with
  | zero =>
    intro i a out hi ha h
    rw [List.drop_of_length_le (by omega)] at h
    obtain rfl := Option.some.inj h
    refine ⟨1, fun k hk => ?_⟩
    obtain ⟨k, rfl⟩ : ∃ m, k = m + 1 := ⟨k - 1, by omega⟩
    simp only [impl_ApplyOp.l0]
    rw [if_neg (by rw [List.length_map]; omega)]
  | succ d ih =>
    intro i a out hi ha h
    have hdr := List.drop_eq_getElem_cons (show i < L.length by omega)
    rw [hdr] at h
    obtain ⟨u, h1, h2⟩ := Option.bind_eq_some_iff.1 (show (stepP s (out, a) L[i]).bind (runP s (L.drop (i + 1))) = some v from h)
    have hmono := stepP_mono h1 ha
    have hm2 := runP_mono h2 hmono.2
    obtain ⟨K, hK⟩ := ih (i + 1) u.2 u.1 (by omega) hmono.2 h2
    have hre := rd_enc L i (by omega)
    have hsz := rest_size s a
    have hq := hmx L[i] (List.getElem_mem _)
    have z0 : (⟨#[]⟩ : ByteArray).size = 0 := rfl
    have hR : ∃ R, R = s.extract a s.size := ⟨_, rfl⟩
    refine ⟨K + 1, fun k hk => ?_⟩
    obtain ⟨k, rfl⟩ : ∃ m, k = m + 1 := ⟨k - 1, by omega⟩
    have hr := hK k (by omega)
    have hc : ((i : Int) + 1) = ((i + 1 : Nat) : Int) := by omega
    have e4 : out.size ≤ 1000000000 := by have : out.size ≤ _ := hmono.1; omega
    simp only [impl_ApplyOp.l0]
    rw [if_pos (by rw [List.length_map]; omega), if_pos (by omega), if_pos (by rw [List.length_map]; omega), hre]
    generalize hg : L[i] = q at h1 hq
    cases q with
    | K n =>
      have h1' : (if a + n ≤ s.size then some (out ++ s.extract a (a + n), a + n) else none) = some u := h1
      by_cases hn : a + n ≤ s.size
      · rw [if_pos hn] at h1'
        obtain rfl := Option.some.inj h1'
        have e1 : ((s.extract a s.size).extract 0 n) = s.extract a (a + n) := by rw [ba_extract_extract s a 0 n hn, Nat.add_zero]
        have e2 : ((s.extract a s.size).extract n (s.extract a s.size).size) = s.extract (a + n) s.size := ba_extract_end s a n hn
        have e3 : (s.extract a (a + n)).size = n := by rw [ByteArray.size_extract]; omega
        rw [show (encP (.K n)).f2 = (⟨#[]⟩ : ByteArray) from rfl, show (encP (.K n)).f1 = (⟨#[]⟩ : ByteArray) from rfl, show (encP (.K n)).f0 = (n : Int) from rfl, z0, if_pos (by omega), if_pos (by omega), show ((0 : Nat) : Int).toNat = 0 from rfl, ba_extract_same, if_pos rfl, if_pos (by omega), if_pos (by omega), Int.toNat_natCast, e1, e3, if_pos (by omega), ba_append_nil, e3, if_pos (by omega), show (n : Int) + ((0 : Nat) : Int) = (n : Int) by omega, w64 (i := (n : Int)) (by omega) (by omega), if_pos (by omega), if_pos (by omega), Int.toNat_natCast, e2, w64 (by omega) (by omega), hc]
        exact hr
      · rw [if_neg hn] at h1'; cases h1'
    | W w =>
      obtain rfl := Option.some.inj (show some (out ++ w, a) = some u from h1)
      have hw : w.size ≤ 1000000 := hq
      have e2 : ((s.extract a s.size).extract 0 (s.extract a s.size).size) = s.extract a s.size := ba_extract_all _
      rw [show (encP (.W w)).f2 = (⟨#[]⟩ : ByteArray) from rfl, show (encP (.W w)).f1 = w from rfl, show (encP (.W w)).f0 = (0 : Int) from rfl, z0, if_pos (by omega), if_pos (by omega), show ((0 : Nat) : Int).toNat = 0 from rfl, ba_extract_same, if_pos rfl, if_pos (by omega), if_pos (by omega), show ((0 : Int)).toNat = 0 from rfl, ba_extract_same, z0, if_pos (by omega), ba_nil_append, if_pos (by omega), show (0 : Int) + ((0 : Nat) : Int) = 0 by omega, w64 (i := (0 : Int)) (by omega) (by omega), if_pos (by omega), if_pos (by omega), show ((0 : Int)).toNat = 0 from rfl, e2, w64 (by omega) (by omega), hc]
      exact hr
    | D w =>
      have h1' : (if a + w.size ≤ s.size ∧ s.extract a (a + w.size) = w then some (out, a + w.size) else none) = some u := h1
      by_cases hn : a + w.size ≤ s.size ∧ s.extract a (a + w.size) = w
      · rw [if_pos hn] at h1'
        obtain rfl := Option.some.inj h1'
        have e1 : ((s.extract a s.size).extract 0 w.size) = w := by rw [ba_extract_extract s a 0 w.size hn.1, Nat.add_zero]; exact hn.2
        have e2 : ((s.extract a s.size).extract w.size (s.extract a s.size).size) = s.extract (a + w.size) s.size := ba_extract_end s a w.size hn.1
        rw [show (encP (.D w)).f2 = w from rfl, show (encP (.D w)).f1 = (⟨#[]⟩ : ByteArray) from rfl, show (encP (.D w)).f0 = (0 : Int) from rfl, z0, if_pos (by omega), if_pos (by omega), Int.toNat_natCast, e1, if_pos rfl, if_pos (by omega), if_pos (by omega), show ((0 : Int)).toNat = 0 from rfl, ba_extract_same, z0, if_pos (by omega), ba_append_nil, ba_append_nil, z0, if_pos (by omega), Int.zero_add, w64 (i := (w.size : Int)) (by omega) (by omega), if_pos (by omega), if_pos (by omega), Int.toNat_natCast, e2, w64 (by omega) (by omega), hc]
        exact hr
      · rw [if_neg hn] at h1'; cases h1'
/-- A good change, laid on its text. -/
theorem applied (s : ByteArray) (ts : textB s = true) (R : List Pt) (hp : ∀ x ∈ R, 0 < massP x) (hm : mass R ≤ 1000000) (t : ByteArray) (hr : runP s R.reverse (⟨#[]⟩, 0) = some (t, s.size)) (ht : t.size ≤ 1000000000) (hg : ∃ K, ∀ k, K ≤ k → impl_GoodOp.f k (R.reverse.map encP) = some true) : ∃ K, ∀ k, K ≤ k → impl_ApplyOp.f k (R.reverse.map encP) s = some (t, true) := by
  have hs := textB_size ts
  have hlen := mass_len hp
  obtain ⟨K1, h1⟩ := hg
  obtain ⟨K2, h2⟩ := impl_GoodText_ev s (by omega)
  obtain ⟨K3, h3⟩ := sizes2_ev R.reverse (by rw [List.length_reverse]; omega) (by rw [mass_rev]; omega)
  have hk := run_kds hr
  obtain ⟨K4, h4⟩ := apI_l s hs R.reverse (by rw [List.length_reverse]; omega) (fun x hx => by have := mass_mem (List.mem_reverse.1 hx); omega) (t, s.size) ht R.reverse.length 0 0 ⟨#[]⟩ (by omega) (Nat.zero_le _) hr
  refine ⟨K1 + K2 + K3 + K4 + 1, fun k hk' => ?_⟩
  have e4 := h4 (k - 1) (by omega)
  rw [ba_extract_all] at e4
  unfold impl_ApplyOp.f
  rw [h1 k (by omega), Option.bind_some, if_pos rfl, h2 k (by omega), ts, Option.bind_some]
  obtain ⟨k, rfl⟩ : ∃ m, k = m + 1 := ⟨k - 1, by omega⟩
  rw [impl_ApplyOp.j0, if_neg (by simp), impl_sizes_ev, h3 k (by omega), Option.bind_some, if_pos (by
    have : s.size = 0 + kds R.reverse := hk
    show (kds R.reverse : Int) = _
    omega)]
  exact e4

/-! the least change makes what it should, and costs the distance -/
def csN : Pt → Nat
  | .K _ => 0
  | .W w => w.size
  | .D d => d.size
def css : List Pt → Nat
  | [] => 0
  | q :: r => csN q + css r
theorem css_add (r : List Pt) (q : Pt) : css (addP r q) = css r + csN q := by
  unfold addP
  split <;> simp [css, csN, ByteArray.size_append] <;> omega
theorem css_append : ∀ (a b : List Pt), css (a ++ b) = css a + css b
  | [], b => by simp [css]
  | q :: a, b => by rw [List.cons_append]; simp only [css]; rw [css_append a b]; omega
theorem css_rev : ∀ (a : List Pt), css a.reverse = css a
  | [] => rfl
  | q :: a => by rw [List.reverse_cons, css_append, css_rev a]; simp only [css]; omega
theorem ext_bt {a b : ByteArray} {i j : Nat} (hi : i < a.size) (hj : j < b.size) (h : bt a (i : Int) = bt b (j : Int)) : a.extract i (i + 1) = b.extract j (j + 1) := by
  apply ba_of_toList
  rw [toList_eq_iff]
  refine ⟨by rw [ext1 a i hi, ext1 b j hj], fun n hn => ?_⟩
  rw [ext1 a i hi] at hn
  obtain rfl : n = 0 := by omega
  rw [bt_extract a i (i + 1) 0 (by omega) (by omega), bt_extract b j (j + 1) 0 (by omega) (by omega)]
  exact h
theorem dP_run (a b : ByteArray) : ∀ (d : Nat) (r : List Pt) (i j : Nat), (a.size - i) + (b.size - j) < d → i ≤ a.size → j ≤ b.size → runP a r.reverse (⟨#[]⟩, 0) = some (b.extract 0 j, i) →
    runP a (dP a b d r i j).reverse (⟨#[]⟩, 0) = some (b, a.size) ∧ css (dP a b d r i j) + 2 * lc a b i j = css r + (a.size - i) + (b.size - j) := by
  intro d
  induction d with
  | zero => intro r i j hd; omega
  | succ d ih =>
    intro r i j hd hi hj hr
    unfold dP
    have putW : j < b.size → lc a b i (j + 1) = lc a b i j → runP a (dP a b d (addP r (.W (b.extract j (j + 1)))) i (j + 1)).reverse (⟨#[]⟩, 0) = some (b, a.size) ∧ css (dP a b d (addP r (.W (b.extract j (j + 1)))) i (j + 1)) + 2 * lc a b i j = css r + (a.size - i) + (b.size - j) := by
      intro hjb hl
      obtain ⟨h1, h2⟩ := ih (addP r (.W (b.extract j (j + 1)))) i (j + 1) (by omega) hi (by omega) (runP_add a r _ _ _ (by
        rw [hr, Option.bind_some]
        show some (b.extract 0 j ++ b.extract j (j + 1), i) = _
        rw [ba_extract_add b 0 j (j + 1) (by omega) (by omega)]))
      rw [css_add] at h2
      have : csN (.W (b.extract j (j + 1))) = 1 := ext1 b j hjb
      exact ⟨h1, by omega⟩
    by_cases hx : i < a.size ∨ j < b.size
    · rw [if_pos hx]
      by_cases hia : i < a.size
      · rw [if_pos hia]
        by_cases hk : j < b.size ∧ bt a (i : Int) = bt b (j : Int)
        · rw [if_pos hk]
          have hs := lc_step a b i j hia hk.1
          rw [if_pos hk.2] at hs
          obtain ⟨h1, h2⟩ := ih (addP r (.K 1)) (i + 1) (j + 1) (by omega) (by omega) (by omega) (runP_add a r _ _ _ (by
            rw [hr, Option.bind_some]
            show (if i + 1 ≤ a.size then some (b.extract 0 j ++ a.extract i (i + 1), i + 1) else none) = _
            rw [if_pos (by omega), ext_bt hia hk.1 hk.2, ba_extract_add b 0 j (j + 1) (by omega) (by omega)]))
          rw [css_add] at h2
          have : csN (.K 1) = 0 := rfl
          have := hk.1
          exact ⟨h1, by omega⟩
        · rw [if_neg hk]
          by_cases he : lc a b (i + 1) j = lc a b i j
          · rw [if_pos he]
            have hw : (a.extract i (i + 1)).size = 1 := ext1 a i hia
            obtain ⟨h1, h2⟩ := ih (addP r (.D (a.extract i (i + 1)))) (i + 1) j (by omega) (by omega) hj (runP_add a r _ _ _ (by
              rw [hr, Option.bind_some]
              show (if i + (a.extract i (i + 1)).size ≤ a.size ∧ a.extract i (i + (a.extract i (i + 1)).size) = a.extract i (i + 1) then some (b.extract 0 j, i + (a.extract i (i + 1)).size) else none) = _
              rw [hw, if_pos ⟨by omega, rfl⟩]))
            rw [css_add] at h2
            have : csN (.D (a.extract i (i + 1))) = 1 := hw
            exact ⟨h1, by omega⟩
          · rw [if_neg he]
            by_cases hjb : j < b.size
            · have hs := lc_step a b i j hia hjb
              rw [if_neg (fun e => hk ⟨hjb, e⟩)] at hs
              have := lc_left a b j i 1
              have := lc_right a b i j 1
              exact putW hjb (by omega)
            · exact absurd (by rw [lc_end_right a b _ j (by omega), lc_end_right a b _ j (by omega)]) he
      · rw [if_neg hia]
        exact putW (hx.resolve_left hia) (by rw [lc_end_left a b i _ (by omega), lc_end_left a b i _ (by omega)])
    · rw [if_neg hx]
      obtain rfl : i = a.size := by omega
      obtain rfl : j = b.size := by omega
      rw [ba_extract_all] at hr
      exact ⟨hr, by rw [lc_end_left a b _ _ (Nat.le_refl _)]; omega⟩
/-! no change does with less -/
theorem bt_mid (o x u : ByteArray) (n : Nat) (h : n < x.size) : bt (o ++ x ++ u) ((o.size + n : Nat) : Int) = bt x (n : Int) := by
  have hs : (o ++ x ++ u).size = o.size + x.size + u.size := by rw [ByteArray.size_append, ByteArray.size_append]
  have e : (o ++ x ++ u).extract o.size (o.size + x.size) = x := by
    apply ByteArray.ext
    have e1 : o.size = o.data.size := rfl
    have e2 : x.size = x.data.size := rfl
    simp only [ByteArray.data_extract, ByteArray.data_append, e1, e2, Array.append_assoc]
    apply Array.toList_inj.mp
    simp
    have f1 : List.drop o.size o.data.toList = [] := List.drop_of_length_le (by rw [Array.length_toList]; exact Nat.le_refl _)
    have f2 : List.take x.size x.data.toList = x.data.toList := List.take_of_length_le (by rw [Array.length_toList]; exact Nat.le_refl _)
    rw [f1, f2, List.take_nil, List.nil_append]
  have := bt_extract (o ++ x ++ u) o.size (o.size + x.size) n (by omega) (by omega)
  rw [e] at this
  exact this.symm
theorem run_pre {s : ByteArray} : ∀ {L : List Pt} {st v : ByteArray × Nat}, runP s L st = some v → ∃ u, v.1 = st.1 ++ u
  | [], st, v, h => by obtain rfl := Option.some.inj h; exact ⟨⟨#[]⟩, (ba_append_nil _).symm⟩
  | q :: L, st, v, h => by
    obtain ⟨u, h1, h2⟩ := Option.bind_eq_some_iff.1 (show (stepP s st q).bind (runP s L) = some v from h)
    obtain ⟨x, e⟩ := run_pre h2
    cases q with
    | K n =>
      have h1' : (if st.2 + n ≤ s.size then some (st.1 ++ s.extract st.2 (st.2 + n), st.2 + n) else none) = some u := h1
      split at h1'
      · obtain rfl := Option.some.inj h1'
        exact ⟨s.extract st.2 (st.2 + n) ++ x, by rw [e]; exact ba_assoc _ _ _⟩
      · cases h1'
    | W w =>
      obtain rfl := Option.some.inj (show some (st.1 ++ w, st.2) = some u from h1)
      exact ⟨w ++ x, by rw [e]; exact ba_assoc _ _ _⟩
    | D d =>
      have h1' : (if st.2 + d.size ≤ s.size ∧ s.extract st.2 (st.2 + d.size) = d then some (st.1, st.2 + d.size) else none) = some u := h1
      split at h1'
      · obtain rfl := Option.some.inj h1'
        exact ⟨x, e⟩
      · cases h1'
theorem lc_diag (a b : ByteArray) : ∀ (n i j : Nat), i + n ≤ a.size → j + n ≤ b.size → (∀ x, x < n → bt a ((i + x : Nat) : Int) = bt b ((j + x : Nat) : Int)) → lc a b (i + n) (j + n) + n ≤ lc a b i j := by
  intro n
  induction n with
  | zero => intro i j _ _ _; exact Nat.le_refl _
  | succ n ih =>
    intro i j hi hj h
    have hs := lc_step a b i j (by omega) (by omega)
    rw [if_pos (show bt a (i : Int) = bt b (j : Int) from h 0 (by omega))] at hs
    have := ih (i + 1) (j + 1) (by omega) (by omega) (fun x hx => by
      have := h (x + 1) (by omega)
      rw [show i + 1 + x = i + (x + 1) by omega, show j + 1 + x = j + (x + 1) by omega]
      exact this)
    rw [show i + 1 + n = i + (n + 1) by omega, show j + 1 + n = j + (n + 1) by omega] at this
    omega
def kps : List Pt → Nat
  | [] => 0
  | .K n :: r => n + kps r
  | .W _ :: r => kps r
  | .D _ :: r => kps r
theorem kps_css : ∀ (L : List Pt), css L + 2 * kps L = kds L + mks L
  | [] => rfl
  | q :: L => by
    have := kps_css L
    cases q <;> simp only [css, csN, kps, kds, kdN, mks, mkN] <;> omega
theorem run_lc {s t : ByteArray} : ∀ {L : List Pt} {o : ByteArray} {a e : Nat}, runP s L (o, a) = some (t, e) → kps L ≤ lc s t a o.size ∧ t.size = o.size + mks L
  | [], o, a, e, h => by
    have h' : (o, a) = (t, e) := Option.some.inj h
    obtain rfl : o = t := congrArg Prod.fst h'
    exact ⟨Nat.zero_le _, rfl⟩
  | q :: L, o, a, e, h => by
    obtain ⟨u, h1, h2⟩ := Option.bind_eq_some_iff.1 (show (stepP s (o, a) q).bind (runP s L) = some (t, e) from h)
    obtain ⟨x, hx⟩ := run_pre h2
    obtain ⟨u1, u2⟩ := u
    obtain ⟨i1, i2⟩ := run_lc h2
    cases q with
    | K n =>
      have h1' : (if a + n ≤ s.size then some (o ++ s.extract a (a + n), a + n) else none) = some (u1, u2) := h1
      split at h1'
      · rename_i hle
        have h3 := Option.some.inj h1'
        obtain rfl : o ++ s.extract a (a + n) = u1 := congrArg Prod.fst h3
        obtain rfl : a + n = u2 := congrArg Prod.snd h3
        have z1 : (s.extract a (a + n)).size = n := by rw [ByteArray.size_extract]; omega
        have z2 : (o ++ s.extract a (a + n)).size = o.size + n := by rw [ByteArray.size_append, z1]
        have hx' : t = o ++ s.extract a (a + n) ++ x := hx
        have z3 : t.size = o.size + n + x.size := by rw [hx', ByteArray.size_append, z2]
        rw [z2] at i1 i2
        have := lc_diag s t n a o.size hle (by omega) (fun y hy => by
          rw [hx', bt_mid o (s.extract a (a + n)) x y (by omega), bt_extract s a (a + n) y hle (by omega)])
        exact ⟨by show n + kps L ≤ _; omega, by show t.size = o.size + (n + mks L); omega⟩
      · cases h1'
    | W w =>
      have h3 := Option.some.inj (show some (o ++ w, a) = some (u1, u2) from h1)
      obtain rfl : o ++ w = u1 := congrArg Prod.fst h3
      obtain rfl : a = u2 := congrArg Prod.snd h3
      rw [ByteArray.size_append] at i1 i2
      have := lc_right s t a o.size w.size
      exact ⟨by show kps L ≤ _; omega, by show t.size = o.size + (w.size + mks L); omega⟩
    | D d =>
      have h1' : (if a + d.size ≤ s.size ∧ s.extract a (a + d.size) = d then some (o, a + d.size) else none) = some (u1, u2) := h1
      split at h1'
      · have h3 := Option.some.inj h1'
        obtain rfl : o = u1 := congrArg Prod.fst h3
        obtain rfl : a + d.size = u2 := congrArg Prod.snd h3
        have := lc_left s t o.size a d.size
        exact ⟨by show kps L ≤ _; omega, by show t.size = o.size + (0 + mks L); omega⟩
      · cases h1'
theorem least {s t : ByteArray} {M : List Pt} (h : runP s M (⟨#[]⟩, 0) = some (t, s.size)) : s.size + t.size ≤ css M + 2 * lc s t 0 0 ∧ t.size = mks M := by
  have z : (⟨#[]⟩ : ByteArray).size = 0 := rfl
  obtain ⟨h1, h2⟩ := run_lc h
  have h3 : s.size = 0 + kds M := run_kds h
  have h4 := kps_css M
  rw [z] at h1 h2
  exact ⟨by omega, by omega⟩

/-! a drawn change: what GoodOp lets by, and what it makes -/
theorem toList_nil_eq {a : ByteArray} (h : a.toList = []) : a = ⟨#[]⟩ := ba_of_toList (by rw [h, nil_toList])
def goodP (q : Pt) : Prop := 0 < massP q ∧ massP q ≤ 300 ∧ ∀ w, q = .W w → allB w
theorem partB_enc {p : S74} (h : partB p.f0 p.f1 p.f2 = true) : ∃ q, p = encP q ∧ goodP q := by
  obtain ⟨f0, f1, f2⟩ := p
  unfold partB at h
  simp only at h
  by_cases c0 : f0 = 0
  · rw [if_pos c0] at h
    subst c0
    by_cases c1 : f1.toList = []
    · rw [if_pos c1] at h
      by_cases c2 : f2.toList = []
      · rw [if_pos c2] at h; cases h
      · rw [if_neg c2] at h
        obtain rfl := toList_nil_eq c1
        have := textB_size h
        have : ¬ f2.size = 0 := fun e => c2 ((size0_toList f2).2 e)
        exact ⟨.D f2, rfl, by show 0 < f2.size; omega, by show f2.size ≤ 300; omega, fun w hw => by cases hw⟩
    · rw [if_neg c1] at h
      by_cases c2 : f2.toList = []
      · rw [if_pos c2] at h
        obtain rfl := toList_nil_eq c2
        have := textB_size h
        have : ¬ f1.size = 0 := fun e => c1 ((size0_toList f1).2 e)
        exact ⟨.W f1, rfl, by show 0 < f1.size; omega, by show f1.size ≤ 300; omega, fun w hw => by cases hw; exact ((textB_iff _).1 h).1⟩
      · rw [if_neg c2] at h; cases h
  · rw [if_neg c0] at h
    rw [Bool.and_eq_true, Bool.and_eq_true] at h
    obtain ⟨⟨h1, h2⟩, h3⟩ := h
    have h1 := of_decide_eq_true h1
    have h2 := of_decide_eq_true h2
    by_cases c1 : f1.toList = []
    · rw [if_pos c1] at h3
      have c2 : f2.toList = [] := by simpa using h3
      obtain rfl := toList_nil_eq c1
      obtain rfl := toList_nil_eq c2
      exact ⟨.K f0.toNat, by show S74.mk f0 _ _ = ⟨((f0.toNat : Nat) : Int), _, _⟩; rw [Int.toNat_of_nonneg (by omega)], by show 0 < f0.toNat; omega, by show f0.toNat ≤ 300; omega, fun w hw => by cases hw⟩
    · rw [if_neg c1] at h3; cases h3
theorem pN_all (l : List S74) : ∀ (d i : Nat), pN l d i = true → ∀ x, i ≤ x → x < i + d → partB (rd_T74 l (x : Int)).f0 (rd_T74 l (x : Int)).f1 (rd_T74 l (x : Int)).f2 = true := by
  intro d
  induction d with
  | zero => intro i _ x h1 h2; omega
  | succ d ih =>
    intro i h x h1 h2
    unfold pN at h
    rw [Bool.and_eq_true] at h
    by_cases e : x = i
    · rw [e]; exact h.1
    · exact ih (i + 1) h.2 x (by omega) (by omega)
theorem enc_all : ∀ (l : List S74), (∀ p ∈ l, ∃ q, p = encP q ∧ goodP q) → ∃ M : List Pt, l = M.map encP ∧ ∀ q ∈ M, goodP q
  | [], _ => ⟨[], rfl, fun q hq => by cases hq⟩
  | p :: l, h => by
    obtain ⟨q, e, hq⟩ := h p List.mem_cons_self
    obtain ⟨M, e2, hM⟩ := enc_all l (fun p hp => h p (List.mem_cons_of_mem _ hp))
    exact ⟨q :: M, by rw [e, e2]; rfl, fun x hx => by
      rcases List.mem_cons.1 hx with rfl | hx
      · exact hq
      · exact hM x hx⟩
theorem good_enc {l : List S74} {r : Int × Int} (h : goodB l r = true) : ∃ M : List Pt, l = M.map encP ∧ (∀ q ∈ M, goodP q) ∧ M.length ≤ 60 ∧ sizesB r = true := by
  unfold goodB at h
  rw [Bool.and_eq_true, Bool.and_eq_true] at h
  obtain ⟨h1, h2, h3⟩ := h
  have h1 := of_decide_eq_true h1
  obtain ⟨M, e, hM⟩ := enc_all l (fun p hp => by
    obtain ⟨i, hi, rfl⟩ := List.getElem_of_mem hp
    have := pN_all l l.length 0 h2 i (by omega) (by omega)
    have e : rd_T74 l (i : Int) = l[i] := by unfold rd_T74; simp [List.getD, hi]
    rw [e] at this
    exact partB_enc this)
  exact ⟨M, e, hM, by have : l.length = M.length := by rw [e, List.length_map]
                      omega, h3⟩
theorem mass_le : ∀ {M : List Pt}, (∀ q ∈ M, goodP q) → mass M ≤ 300 * M.length
  | [], _ => Nat.le_refl _
  | q :: M, h => by
    have h1 := (h q List.mem_cons_self).2.1
    have h2 := mass_le (fun x hx => h x (List.mem_cons_of_mem _ hx))
    simp only [mass, List.length_cons]; omega
theorem css_mass : ∀ (M : List Pt), css M ≤ mass M
  | [] => Nat.le_refl _
  | q :: M => by
    have := css_mass M
    cases q <;> simp only [css, csN, mass, massP] <;> omega
theorem run_all {s : ByteArray} (hs : allB s) : ∀ {L : List Pt} {st v : ByteArray × Nat}, (∀ q ∈ L, goodP q) → allB st.1 → runP s L st = some v → allB v.1
  | [], st, v, _, h0, h => by obtain rfl := Option.some.inj h; exact h0
  | q :: L, st, v, hg, h0, h => by
    obtain ⟨u, h1, h2⟩ := Option.bind_eq_some_iff.1 (show (stepP s st q).bind (runP s L) = some v from h)
    refine run_all hs (fun x hx => hg x (List.mem_cons_of_mem _ hx)) ?_ h2
    cases q with
    | K n =>
      have h1' : (if st.2 + n ≤ s.size then some (st.1 ++ s.extract st.2 (st.2 + n), st.2 + n) else none) = some u := h1
      split at h1'
      · obtain rfl := Option.some.inj h1'
        exact allB_append h0 (allB_extract hs _ _)
      · cases h1'
    | W w =>
      obtain rfl := Option.some.inj (show some (st.1 ++ w, st.2) = some u from h1)
      exact allB_append h0 ((hg _ List.mem_cons_self).2.2 w rfl)
    | D d =>
      have h1' : (if st.2 + d.size ≤ s.size ∧ s.extract st.2 (st.2 + d.size) = d then some (st.1, st.2 + d.size) else none) = some u := h1
      split at h1'
      · obtain rfl := Option.some.inj h1'
        exact h0
      · cases h1'

theorem of_ite {c : Prop} [Decidable c] {α : Type} {x : Option α} {r : α} (h : (if c then x else none) = some r) : x = some r := by
  by_cases hc : c
  · rw [if_pos hc] at h; exact h
  · rw [if_neg hc] at h; cases h
theorem ap_j1 {x1 x6 : ByteArray} {x9 : Int} {L : List S74} {n i : Int} {f0 : Int} {f1 f2 r : ByteArray} : ∀ {k : Nat}, spec_l3Apply.j1 k x1 x6 x9 L n i true f0 f1 f2 = some (r, true) → False
  | 0, h => by simp only [spec_l3Apply.j1] at h; cases h
  | k + 1, h => by simp only [spec_l3Apply.j1, if_true] at h; cases h
theorem ap_run (t : ByteArray) (ht : t.size ≤ 300) (M : List Pt) (hM : M.length ≤ 1000) (hp : ∀ q ∈ M, goodP q) (r : ByteArray) : ∀ (d i a : Nat) (x6 : ByteArray), i + d = M.length → a ≤ t.size → ∀ k, spec_l3Apply.l0 k (t.extract a t.size) x6 (M.map encP) ((M.map encP).length : Int) (i : Int) = some (r, true) → runP t (M.drop i) (x6, a) = some (r, t.size) := by
  have hl : ((M.map encP).length : Int) = (M.length : Int) := by rw [List.length_map]
  intro d
  induction d with
  | zero =>
    intro i a x6 hi ha k h
    cases k with
    | zero => simp only [spec_l3Apply.l0] at h; cases h
    | succ k =>
      simp only [spec_l3Apply.l0] at h
      rw [if_neg (by omega)] at h
      have h1 := Option.some.inj h
      have h2 : x6 = r := congrArg Prod.fst h1
      have h3 : ((t.extract a t.size).toList == ([] : List UInt8)) = true := congrArg Prod.snd h1
      have h4 : (t.extract a t.size).size = 0 := (size0_toList _).1 (by simpa using h3)
      rw [rest_size] at h4
      rw [List.drop_of_length_le (by omega), h2, show a = t.size by omega]
      rfl
  | succ d ih =>
    intro i a x6 hi ha k h
    have hlt : i < M.length := by omega
    have hs := rest_size t a
    have hq := hp _ (List.getElem_mem hlt)
    rw [List.drop_eq_getElem_cons hlt]
    show (stepP t (x6, a) M[i]).bind (runP t (M.drop (i + 1))) = _
    cases k with
    | zero => simp only [spec_l3Apply.l0] at h; cases h
    | succ k =>
      simp only [spec_l3Apply.l0, rd_enc M i hlt] at h
      rw [if_pos (by omega), if_pos (by omega), if_pos (by omega)] at h
      have wi : Aside0 (wrap64 ((i : Int) + 1) = ((i + 1 : Nat) : Int)) := ⟨by rw [w64 (by omega) (by omega)]; omega⟩
      generalize M[i] = q at h hq ⊢
      obtain ⟨q1, q2, -⟩ := hq
      cases q with
      | K n =>
        have q2 : n ≤ 300 := q2
        have q1 : 0 < n := q1
        have z0 : (⟨#[]⟩ : ByteArray).size = 0 := rfl
        have wn : Aside0 (wrap64 ((n : Int) + ((⟨#[]⟩ : ByteArray).size : Int)) = (n : Int)) := ⟨by rw [z0]; rw [w64 (by omega) (by omega)]; omega⟩
        simp only [encP, wn.out, nil_toList, if_true] at h
        by_cases hle : (n : Int) > ((t.extract a t.size).size : Int)
        · rw [if_pos hle] at h; exact (ap_j1 h).elim
        · rw [if_neg hle] at h
          cases k with
          | zero => rw [spec_l3Apply.j1] at h; cases h
          | succ k =>
            rw [spec_l3Apply.j1, if_neg (by decide), if_pos (by omega)] at h
            have h := of_ite (of_ite (of_ite (of_ite h)))
            rw [Int.toNat_natCast, wi.out, ba_append_nil, ba_extract_end t a n (by omega), ba_extract_extract t a 0 n (by omega)] at h
            have := ih (i + 1) (a + n) _ (by omega) (by omega) k h
            show (if a + n ≤ t.size then some (x6 ++ t.extract a (a + n), a + n) else none).bind _ = _
            rw [if_pos (by omega), Option.bind_some]
            exact this
      | W w =>
        have z0 : (⟨#[]⟩ : ByteArray).size = 0 := rfl
        have wn : Aside0 (wrap64 ((0 : Int) + ((⟨#[]⟩ : ByteArray).size : Int)) = 0) := ⟨by rw [z0]; rw [w64 (by omega) (by omega)]; omega⟩
        simp only [encP, wn.out, nil_toList, if_true] at h
        rw [if_neg (by omega)] at h
        cases k with
        | zero => rw [spec_l3Apply.j1] at h; cases h
        | succ k =>
          rw [spec_l3Apply.j1, if_neg (by decide), if_neg (by omega)] at h
          have h := of_ite (of_ite (of_ite h))
          have e : (t.extract a t.size).extract (0 : Int).toNat (t.extract a t.size).size = t.extract a t.size := ba_extract_all _
          rw [wi.out, e] at h
          exact ih (i + 1) a _ (by omega) ha k h
      | D v =>
        have q2 : v.size ≤ 300 := q2
        have q1 : 0 < v.size := q1
        have hne : ¬ v.toList = [] := fun e => by have := (size0_toList v).1 e; omega
        have wn : Aside0 (wrap64 ((0 : Int) + (v.size : Int)) = (v.size : Int)) := ⟨by rw [w64 (by omega) (by omega)]; omega⟩
        simp only [encP, wn.out, if_neg hne, Int.toNat_natCast] at h
        by_cases hle : (v.size : Int) > ((t.extract a t.size).size : Int)
        · rw [if_pos hle] at h; exact (ap_j1 h).elim
        · rw [if_neg hle, if_pos (by omega), if_pos (by omega), ba_extract_extract t a 0 v.size (by omega)] at h
          cases hb : ((t.extract (a + 0) (a + v.size)).toList != v.toList) with
          | true => rw [hb] at h; exact (ap_j1 h).elim
          | false =>
            rw [hb] at h
            have he : t.extract a (a + v.size) = v := ba_of_toList (by simpa using hb)
            cases k with
            | zero => rw [spec_l3Apply.j1] at h; cases h
            | succ k =>
              rw [spec_l3Apply.j1, if_neg (by decide), if_neg (by omega)] at h
              have h := of_ite (of_ite (of_ite h))
              rw [Int.toNat_natCast, wi.out, ba_append_nil, ba_extract_end t a v.size (by omega)] at h
              have := ih (i + 1) (a + v.size) _ (by omega) (by omega) k h
              show (if a + v.size ≤ t.size ∧ t.extract a (a + v.size) = v then some (x6, a + v.size) else none).bind _ = _
              rw [if_pos ⟨by omega, he⟩, Option.bind_some]
              exact this

theorem cost_l (M : List Pt) (hM : M.length ≤ 1000000) : ∀ (d i x : Nat), i + d = M.length → x + css (M.drop i) ≤ 1000000000 → ∃ K, ∀ k, K ≤ k → spec_l9Cost.l0 k (x : Int) (M.map encP) ((M.map encP).length : Int) (i : Int) = some ((x + css (M.drop i) : Nat) : Int) := by
  have hl : ((M.map encP).length : Int) = (M.length : Int) := by rw [List.length_map]
  have z0 : (⟨#[]⟩ : ByteArray).size = 0 := rfl
  intro d
  induction d with
  | zero =>
    intro i x hi hx
    refine ⟨1, fun k hk => ?_⟩
    obtain ⟨k, rfl⟩ : ∃ m, k = m + 1 := ⟨k - 1, by omega⟩
    simp only [spec_l9Cost.l0]
    rw [if_neg (by omega), List.drop_of_length_le (by omega)]
    rfl
  | succ d ih =>
    intro i x hi hx
    have hlt : i < M.length := by omega
    have hcs : css (M.drop i) = csN M[i] + css (M.drop (i + 1)) := by rw [List.drop_eq_getElem_cons hlt, css]
    rw [hcs] at hx ⊢
    rw [← Nat.add_assoc]
    obtain ⟨K, hK⟩ := ih (i + 1) (x + csN M[i]) (by omega) (by omega)
    refine ⟨K + 1, fun k hk => ?_⟩
    obtain ⟨k, rfl⟩ : ∃ m, k = m + 1 := ⟨k - 1, by omega⟩
    have hr := hK k (by omega)
    have wi : Aside0 (wrap64 ((i : Int) + 1) = ((i + 1 : Nat) : Int)) := ⟨by rw [w64 (by omega) (by omega)]; omega⟩
    have e : Aside0 (wrap64 ((x : Int) + wrap64 (((encP M[i]).f1.size : Int) + ((encP M[i]).f2.size : Int))) = ((x + csN M[i] : Nat) : Int)) := ⟨by
      have e1 : (encP M[i]).f1.size + (encP M[i]).f2.size = csN M[i] := by
        cases M[i] <;> simp only [encP, csN] <;> omega
      rw [w64 (i := ((encP M[i]).f1.size : Int) + ((encP M[i]).f2.size : Int)) (by omega) (by omega), w64 (by omega) (by omega)]
      omega⟩
    rw [spec_l9Cost.l0, rd_enc M i hlt]
    rw [if_pos (by omega), if_pos (by omega), if_pos (by omega), wi.out, e.out]
    exact hr
theorem cost_ev (M : List Pt) (hM : M.length ≤ 1000000) (hc : css M ≤ 1000000000) : ∃ K, ∀ k, K ≤ k → spec_l9Cost.f k (M.map encP) = some (css M : Int) := by
  obtain ⟨K, h⟩ := cost_l M hM M.length 0 0 (by omega) (by rw [List.drop_zero]; omega)
  refine ⟨K, fun k hk => ?_⟩
  have e := h k hk
  rw [List.drop_zero, Nat.zero_add] at e
  unfold spec_l9Cost.f
  exact e

theorem u64_range (n : Int) : 0 ≤ IntKind.u64.wrap n ∧ IntKind.u64.wrap n < 18446744073709551616 := by
  have h : IntKind.u64.wrap n = n % 18446744073709551616 := by simp [IntKind.wrap, IntKind.bits, IntKind.signed]
  rw [h]; omega
theorem u64_and255 (n : Int) : 0 ≤ Go.bits .and .u64 (IntKind.u64.wrap n / 1099511627776) 255 ∧ Go.bits .and .u64 (IntKind.u64.wrap n / 1099511627776) 255 < 256 := by
  have h := u64_range n
  have e := bits_mask .u64 24 (by decide) (fun n h0 h1 => by
    have h : IntKind.u64.wrap n = n % 18446744073709551616 := by simp [IntKind.wrap, IntKind.bits, IntKind.signed]
    rw [h]; omega) 8 (by decide) (IntKind.u64.wrap n / 1099511627776) (by omega) (by omega)
  rw [show (255 : Int) = 2 ^ 8 - 1 from rfl, e]
  omega
def okCode (c : List Int) : Prop := ∀ x ∈ c, 0 ≤ x ∧ x < 256
theorem okCode_of {c : List Int} (h : ∀ x ∈ c, (Lit.int .u8 x).wf = true) : okCode c := by
  intro x hx
  have := h x hx
  simp [Lit.wf, IntKind.min, IntKind.max, IntKind.bits, IntKind.signed] at this
  omega
theorem okCode.rd {c : List Int} (h : okCode c) (i : Int) : 0 ≤ rd c i ∧ rd c i < 256 := by
  unfold Go.Proofs.YtpbelbckinpinaaW.PrintWords.rd
  rw [List.getD_eq_getElem?_getD]
  cases e : c[i.toNat]? with
  | none => simp
  | some x => simp; exact h x (List.mem_of_getElem? e)
theorem next_ev {c : List Int} (hc : okCode c) (a s : Int) (h0 : 0 ≤ a) (h1 : a ≤ 4000000000000000000) : ∃ r s', spec_l1Cur_next.f c a s = some (r, a + 1, s') ∧ 0 ≤ r ∧ r < 256 := by
  have hr := hc.rd a
  have hu := u64_and255
  unfold spec_l1Cur_next.f
  rw [w64 (by omega : -4611686018427387904 ≤ a + 1) (by omega)]
  by_cases c1 : a < (c.length : Int)
  · rw [if_pos c1, if_pos h0, if_pos (by omega), w64 (by omega) (by omega)]
    exact ⟨_, _, rfl, hr.1, hr.2⟩
  · rw [if_neg c1, if_neg (by omega)]
    refine ⟨_, _, rfl, ?_⟩
    have := hu (IntKind.u64.wrap (IntKind.u64.wrap (s * 6364136223846793005) + 0) + 1442695040888963407)
    rw [w64 (by omega) (by omega)]
    exact this
theorem pick_ev {c : List Int} (hc : okCode c) (a s n : Int) (h0 : 0 ≤ a) (h1 : a ≤ 3000000000000000000) (hn : 1 ≤ n) (hn2 : n ≤ 1000000000000) : ∃ r a' s', spec_l1Cur_pick.f c a s n = some (r, a', s') ∧ 0 ≤ r ∧ r < n ∧ a ≤ a' ∧ a' ≤ a + 2 := by
  unfold spec_l1Cur_pick.f
  by_cases c1 : n ≤ 1
  · rw [if_pos c1]; exact ⟨0, a, s, rfl, by omega, by omega, by omega, by omega⟩
  · obtain ⟨r, s1, e1, hr0, hr1⟩ := next_ev hc a s h0 (by omega)
    rw [if_neg c1, e1]
    simp only [Option.bind_some]
    by_cases c2 : n > 200
    · obtain ⟨r2, s2, e2, hr2, hr3⟩ := next_ev hc (a + 1) s1 (by omega) (by omega)
      rw [if_pos c2, e2]
      simp only [Option.bind_some]
      rw [if_neg (by omega), w64 (by omega : -4611686018427387904 ≤ r * 256) (by omega), w64 (by omega) (by omega)]
      refine ⟨_, _, _, rfl, ?_, ?_, by omega, by omega⟩
      · rw [Int.tmod_eq_emod_of_nonneg (by omega)]; exact Int.emod_nonneg _ (by omega)
      · rw [Int.tmod_eq_emod_of_nonneg (by omega)]; exact Int.emod_lt_of_pos _ (by omega)
    · rw [if_neg c2, if_neg (by omega)]
      refine ⟨_, _, _, rfl, ?_, ?_, by omega, by omega⟩
      · rw [Int.tmod_eq_emod_of_nonneg (by omega)]; exact Int.emod_nonneg _ (by omega)
      · rw [Int.tmod_eq_emod_of_nonneg (by omega)]; exact Int.emod_lt_of_pos _ (by omega)
theorem one_ev {c : List Int} (hc : okCode c) (a s n : Int) (h0 : 0 ≤ a) (h1 : a ≤ 3000000000000000000) (hn : 1 ≤ n) (hn2 : n ≤ 1000000000000) : ∃ r a' s', spec_l1Cur_one.f c a s n = some (r, a', s') ∧ a ≤ a' ∧ a' ≤ a + 2 := by
  obtain ⟨r, a', s', e, _, _, h2, h3⟩ := pick_ev hc a s n h0 h1 hn hn2
  unfold spec_l1Cur_one.f
  rw [e]
  exact ⟨_, _, _, rfl, h2, h3⟩

theorem of_ev {c : List Int} (hc : okCode c) (a s : Int) (l : List ByteArray) (M : Nat) (h0 : 0 ≤ a) (h1 : a ≤ 3000000000000000000) (hl : 0 < l.length) (hl2 : l.length ≤ 1000) (hM : ∀ x ∈ l, x.size ≤ M) : ∃ r a' s', spec_l1Cur_of.f c a s l = some (r, a', s') ∧ r ∈ l ∧ r.size ≤ M ∧ a ≤ a' ∧ a' ≤ a + 2 := by
  obtain ⟨r, a', s', e, h2, h3, h4, h5⟩ := pick_ev hc a s (l.length : Int) h0 h1 (by omega) (by omega)
  unfold spec_l1Cur_of.f
  rw [e]
  simp only [Option.bind_some]
  rw [if_pos h2, if_pos h3]
  have hm : rdOf ByteArray.empty l r ∈ l := by
    unfold rdOf
    rw [List.getD_eq_getElem?_getD, List.getElem?_eq_getElem (by omega : r.toNat < l.length)]
    simp
  exact ⟨_, _, _, rfl, hm, hM _ hm, h4, h5⟩

def cO : Nat → Int
  | 0 => 600
  | d + 1 => 60 * (cO d + 10)
def sO : Nat → Nat
  | 0 => 300
  | d + 1 => 60 * (sO d + 10)
def xO : Nat → Nat
  | 0 => 5
  | d + 1 => sO d + 10
def yO : Nat → Int
  | 0 => 10
  | d + 1 => cO d + 10
theorem cO_le (d : Nat) (h : d ≤ 3) : 0 ≤ cO d ∧ cO d ≤ 1000000000 := by
  rcases d with _ | _ | _ | _ | d <;> simp [cO] <;> omega
theorem sO_le (d : Nat) (h : d ≤ 3) : sO d ≤ 1000000000 := by
  rcases d with _ | _ | _ | _ | d <;> simp [sO] <;> omega
theorem size_app (a b : ByteArray) : (a ++ b).size = a.size + b.size := ByteArray.size_append
theorem inner_l {c : List Int} (hc : okCode c) (d : Nat) (hd : d ≤ 3)
    (IH : ∀ e : Nat, d = e + 1 → ∀ (a s n : Int), 0 ≤ a → a ≤ 2000000000000000000 + (3 - (e : Int)) * 1000000000000 → 0 ≤ n → n ≤ 60 → ∃ t a' s', t.size ≤ sO e ∧ a ≤ a' ∧ a' ≤ a + cO e ∧ ∃ K, ∀ k, K ≤ k → spec_l1Cur_inner.f k c a s n (e : Int) = some (t, a', s')) :
    ∀ (n : Nat) (t : ByteArray) (a s : Int), n ≤ 60 → 0 ≤ a → a ≤ 2000000000000000000 + (3 - (d : Int)) * 1000000000000 + (60 - (n : Int)) * 1000000000 → t.size + n * 1000000000 ≤ 60 * 1000000000 →
      ∃ t' a' s', t'.size ≤ t.size + n * (xO d) ∧ a ≤ a' ∧ a' ≤ a + n * (yO d) ∧ ∃ K, ∀ k, K ≤ k → spec_l1Cur_inner.l0 k (n : Int) (d : Int) t c a s = some (t', a', s') := by
  intro n
  induction n with
  | zero =>
    intro t a s hn h0 h1 ht
    refine ⟨t, a, s, by omega, by omega, by omega, 1, fun k hk => ?_⟩
    obtain ⟨k, rfl⟩ : ∃ m, k = m + 1 := ⟨k - 1, by omega⟩
    simp only [spec_l1Cur_inner.l0]
    rw [if_neg (by omega)]
  | succ n ih =>
    intro t a s hn h0 h1 ht
    have join : ∀ (u : ByteArray) (a1 s1 : Int), u.size ≤ (xO d) → a ≤ a1 → a1 ≤ a + (yO d) →
        ∃ t' a' s', t'.size ≤ t.size + (n + 1 : Nat) * (xO d) ∧ a ≤ a' ∧ a' ≤ a + ((n + 1 : Nat) : Int) * (yO d) ∧ ∃ K, ∀ k, K ≤ k → spec_l1Cur_inner.l0 k (n : Int) (d : Int) (t ++ u) c a1 s1 = some (t', a', s') := by
      intro u a1 s1 hu h2 h3
      have b1 : xO d ≤ 1000000000 := by
        cases d with
        | zero => simp [xO]
        | succ e => have := sO_le e (by omega); rcases e with _ | _ | _ | e <;> simp [xO, sO] <;> omega
      have b2 : yO d ≤ 1000000000 := by
        cases d with
        | zero => simp [yO]
        | succ e => rcases e with _ | _ | _ | e <;> simp [yO, cO] <;> omega
      generalize xO d = X at *
      generalize yO d = Y at *
      obtain ⟨t', a', s', g1, g2, g3, g4⟩ := ih (t ++ u) a1 s1 (by omega) (by omega) (by omega) (by rw [size_app]; omega)
      refine ⟨t', a', s', ?_, by omega, ?_, g4⟩
      · rw [size_app] at g1
        have : (n + 1) * X = n * X + X := Nat.succ_mul n X
        omega
      · have : ((n + 1 : Nat) : Int) * Y = (n : Int) * Y + Y := by rw [show ((n + 1 : Nat) : Int) = (n : Int) + 1 by omega, Int.add_mul, Int.one_mul]
        omega
    have plain : ∀ a1 s1 : Int, a ≤ a1 → a1 ≤ a + 2 → ∃ t' a' s', t'.size ≤ t.size + (n + 1 : Nat) * (xO d) ∧ a ≤ a' ∧ a' ≤ a + ((n + 1 : Nat) : Int) * (yO d) ∧ ∃ K, ∀ k, K ≤ k → spec_l1Cur_inner.j1 k ((n : Int) + 1) (d : Int) t false c a1 s1 = some (t', a', s') := by
      intro a1 s1 h2 h3
      obtain ⟨u, a2, s2, e, _, hu, h4, h5⟩ := of_ev hc a1 s1 ([(⟨#[97]⟩ : ByteArray), (⟨#[98]⟩ : ByteArray), (⟨#[97, 98]⟩ : ByteArray), (⟨#[120]⟩ : ByteArray), (⟨#[32]⟩ : ByteArray), (⟨#[111, 110, 101]⟩ : ByteArray), (⟨#[49]⟩ : ByteArray), (⟨#[122, 46]⟩ : ByteArray)] : List ByteArray) 3 (by omega) (by omega) (by simp) (by simp) (by decide)
      obtain ⟨t', a', s', g1, g2, g3, K, g4⟩ := join u a2 s2 (by cases d <;> simp [xO] <;> omega) (by omega) (by
        cases d with
        | zero => simp [yO]; omega
        | succ e => have := cO_le e (by omega); simp [yO]; omega)
      refine ⟨t', a', s', g1, g2, g3, K + 1, fun k hk => ?_⟩
      obtain ⟨k, rfl⟩ : ∃ m, k = m + 1 := ⟨k - 1, by omega⟩
      simp only [spec_l1Cur_inner.j1]
      rw [if_neg (by simp), e]
      simp only [Option.bind_some]
      rw [if_pos (by omega), w64 (by omega) (by omega), Int.add_sub_cancel]
      exact g4 k (by omega)
    cases d with
    | zero =>
      obtain ⟨t', a', s', g1, g2, g3, K, g4⟩ := plain a s (by omega) (by omega)
      refine ⟨t', a', s', g1, g2, g3, K + 1, fun k hk => ?_⟩
      obtain ⟨k, rfl⟩ : ∃ m, k = m + 1 := ⟨k - 1, by omega⟩
      simp only [spec_l1Cur_inner.l0]
      rw [if_pos (by omega), if_neg (by omega)]
      exact g4 k (by omega)
    | succ e =>
      obtain ⟨r, a1, s1, e1, h2, h3⟩ := one_ev hc a s 3 (by omega) (by omega) (by omega) (by omega)
      have hb := cO_le e (by omega)
      have hs := sO_le e (by omega)
      cases r with
      | false =>
        obtain ⟨t', a', s', g1, g2, g3, K, g4⟩ := plain a1 s1 (by omega) (by omega)
        refine ⟨t', a', s', g1, g2, g3, K + 1, fun k hk => ?_⟩
        obtain ⟨k, rfl⟩ : ∃ m, k = m + 1 := ⟨k - 1, by omega⟩
        simp only [spec_l1Cur_inner.l0]
        rw [if_pos (by omega), if_pos (by omega), e1]
        exact g4 k (by omega)
      | true =>
        obtain ⟨p1, a2, s2, e2, q1, q2, q3, q4⟩ := pick_ev hc a1 s1 4 (by omega) (by omega) (by omega) (by omega)
        obtain ⟨p2, a3, s3, e3, q5, q6, q7, q8⟩ := pick_ev hc a2 s2 4 (by omega) (by omega) (by omega) (by omega)
        obtain ⟨v, a4, s4, i1, i2, i3, K1, i4⟩ := IH e rfl a3 s3 p2 (by omega) (by omega) (by omega) (by omega)
        have one1 : (strOfNums [wrap64 (65 + p1) % 256]).size = 1 := rfl
        have lit1 : (⟨#[47]⟩ : ByteArray).size = 1 := rfl
        obtain ⟨t', a', s', g1, g2, g3, K, g4⟩ := join (strOfNums [wrap64 (65 + p1) % 256] ++ v ++ (⟨#[47]⟩ : ByteArray)) a4 s4 (by rw [size_app, size_app, one1, lit1]; simp [xO]; omega) (by omega) (by simp [yO]; omega)
        refine ⟨t', a', s', g1, g2, g3, max K K1 + 2, fun k hk => ?_⟩
        obtain ⟨k, rfl⟩ : ∃ m, k = m + 2 := ⟨k - 2, by omega⟩
        simp only [spec_l1Cur_inner.l0]
        rw [if_pos (by omega), if_pos (by omega), e1]
        simp only [Option.bind_some, spec_l1Cur_inner.j1, if_true]
        rw [e2]
        simp only [Option.bind_some]
        rw [e3]
        simp only [Option.bind_some]
        rw [w64 (by omega : -4611686018427387904 ≤ ((e + 1 : Nat) : Int) - 1) (by omega), show ((e + 1 : Nat) : Int) - 1 = (e : Int) by omega, i4 k (by omega)]
        simp only [Option.bind_some]
        rw [if_pos (by omega), if_pos (by rw [size_app]; omega), if_pos (by rw [size_app, size_app]; omega), w64 (by omega) (by omega), show ((n + 1 : Nat) : Int) - 1 = (n : Int) by omega]
        exact g4 k (by omega)
theorem inner_ev {c : List Int} (hc : okCode c) : ∀ (d : Nat), d ≤ 3 → ∀ (a s n : Int), 0 ≤ a → a ≤ 2000000000000000000 + (3 - (d : Int)) * 1000000000000 → 0 ≤ n → n ≤ 60 → ∃ t a' s', t.size ≤ sO d ∧ a ≤ a' ∧ a' ≤ a + cO d ∧ ∃ K, ∀ k, K ≤ k → spec_l1Cur_inner.f k c a s n (d : Int) = some (t, a', s') := by
  intro d
  induction d with
  | zero =>
    intro hd a s n h0 h1 h2 h3
    obtain ⟨m, rfl⟩ := Int.eq_ofNat_of_zero_le h2
    obtain ⟨t, a', s', g1, g2, g3, K, g4⟩ := inner_l hc 0 hd (fun e h => by omega) m (⟨#[]⟩ : ByteArray) a s (by omega) h0 (by omega) (by simp [ByteArray.size]; omega)
    simp only [show (⟨#[]⟩ : ByteArray).size = 0 from rfl] at g1 g3
    refine ⟨t, a', s', by simp only [sO, xO] at *; omega, g2, by simp only [cO, yO] at *; omega, K + 1, fun k hk => ?_⟩
    obtain ⟨k, rfl⟩ : ∃ m, k = m + 1 := ⟨k - 1, by omega⟩
    simp only [spec_l1Cur_inner.f]
    exact g4 k (by omega)
  | succ d ih =>
    intro hd a s n h0 h1 h2 h3
    obtain ⟨m, rfl⟩ := Int.eq_ofNat_of_zero_le h2
    have hb := cO_le d (by omega)
    obtain ⟨t, a', s', g1, g2, g3, K, g4⟩ := inner_l hc (d + 1) hd (fun e h => by
      have : e = d := by omega
      subst this; exact ih (by omega)) m (⟨#[]⟩ : ByteArray) a s (by omega) h0 (by omega) (by simp [ByteArray.size]; omega)
    simp only [show (⟨#[]⟩ : ByteArray).size = 0 from rfl] at g1 g3
    refine ⟨t, a', s', ?_, g2, ?_, K + 1, fun k hk => ?_⟩
    · simp only [sO, xO] at *
      have := Nat.mul_le_mul_right (sO d + 10) (by omega : m ≤ 60)
      omega
    · simp only [cO, yO] at *
      have := Int.mul_le_mul_of_nonneg_right (by omega : (m : Int) ≤ 60) (by omega : 0 ≤ cO d + 10)
      omega
    · obtain ⟨k, rfl⟩ : ∃ m, k = m + 1 := ⟨k - 1, by omega⟩
      simp only [spec_l1Cur_inner.f]
      exact g4 k (by omega)
theorem ext_size (s : ByteArray) (i j : Nat) : (s.extract i j).size ≤ s.size := by rw [ByteArray.size_extract]; omega
theorem spoilt_l {c : List Int} (hc : okCode c) (w : ByteArray) (hw : 0 < w.size) (hw2 : w.size ≤ 1000) : ∀ (n : Nat) (t : ByteArray) (a s : Int), n ≤ 3 → 0 ≤ a → a ≤ 2000000000000000000 + (3 - (n : Int)) * 10 → t.size + n ≤ 100000000000 →
    ∃ t' a' s', t'.size ≤ t.size + n ∧ a ≤ a' ∧ a' ≤ a + 10 * n ∧ ∃ K, ∀ k, K ≤ k → spec_l1Cur_spoilt.l0 k t w (n : Int) c a s = some (t', a', s') := by
  intro n
  induction n with
  | zero =>
    intro t a s hn h0 h1 ht
    refine ⟨t, a, s, by omega, by omega, by omega, 2, fun k hk => ?_⟩
    obtain ⟨k, rfl⟩ : ∃ m, k = m + 2 := ⟨k - 2, by omega⟩
    simp only [spec_l1Cur_spoilt.l0]
    rw [if_neg (by omega)]
    simp only [spec_l1Cur_spoilt.j1]
    rw [if_neg (by simp)]
  | succ n ih =>
    intro t a s hn h0 h1 ht
    by_cases hz : t.size = 0
    · refine ⟨t, a, s, by omega, by omega, by omega, 2, fun k hk => ?_⟩
      obtain ⟨k, rfl⟩ : ∃ m, k = m + 2 := ⟨k - 2, by omega⟩
      simp only [spec_l1Cur_spoilt.l0]
      rw [if_pos (by omega)]
      simp only [spec_l1Cur_spoilt.j1]
      rw [if_neg (by rw [decide_eq_true_eq]; omega)]
    · obtain ⟨p1, a1, s1, e1, q1, q2, q3, q4⟩ := pick_ev hc a s (t.size : Int) (by omega) (by omega) (by omega) (by omega)
      obtain ⟨p2, a2, s2, e2, q5, q6, q7, q8⟩ := pick_ev hc a1 s1 (w.size : Int) (by omega) (by omega) (by omega) (by omega)
      obtain ⟨p3, a3, s3, e3, q9, q10, q11, q12⟩ := pick_ev hc a2 s2 3 (by omega) (by omega) (by omega) (by omega)
      have one1 : (strOfNums [bt w p2]).size = 1 := rfl
      have x1 : (t.extract 0 p1.toNat).size = p1.toNat := by rw [ByteArray.size_extract]; omega
      have x2 : (t.extract p1.toNat t.size).size = t.size - p1.toNat := by rw [ByteArray.size_extract]; omega
      have x3 : (t.extract (p1 + 1).toNat t.size).size = t.size - (p1 + 1).toNat := by rw [ByteArray.size_extract]; omega
      have go : ∀ u : ByteArray, u.size ≤ t.size + 1 → ∃ t' a' s', t'.size ≤ t.size + (n + 1) ∧ a ≤ a' ∧ a' ≤ a + 10 * ((n + 1 : Nat) : Int) ∧ ∃ K, ∀ k, K ≤ k → spec_l1Cur_spoilt.l0 k u w (n : Int) c a3 s3 = some (t', a', s') := by
        intro u hu
        obtain ⟨t', a', s', g1, g2, g3, g4⟩ := ih u a3 s3 (by omega) (by omega) (by omega) (by omega)
        exact ⟨t', a', s', by omega, by omega, by omega, g4⟩
      have hn1 : ((n + 1 : Nat) : Int) - 1 = (n : Int) := by omega
      by_cases c1 : p3 = 0
      · obtain ⟨t', a', s', g1, g2, g3, K, g4⟩ := go (t.extract 0 p1.toNat ++ strOfNums [bt w p2] ++ t.extract p1.toNat t.size) (by rw [size_app, size_app, x1, x2, one1]; omega)
        refine ⟨t', a', s', g1, g2, g3, K + 2, fun k hk => ?_⟩
        obtain ⟨k, rfl⟩ : ∃ m, k = m + 2 := ⟨k - 2, by omega⟩
        simp only [spec_l1Cur_spoilt.l0]
        rw [if_pos (by omega)]
        simp only [spec_l1Cur_spoilt.j1]
        rw [if_pos (by simp; omega), e1]
        simp only [Option.bind_some]
        rw [e2]
        simp only [Option.bind_some]
        rw [if_pos q5, if_pos q6, e3]
        simp only [Option.bind_some]
        rw [if_pos c1, if_pos q1, if_pos (by omega), if_pos (by omega), if_pos (by rw [size_app]; omega), w64 (by omega) (by omega), hn1]
        exact g4 k (by omega)
      · by_cases c2 : p3 = 1
        · obtain ⟨t', a', s', g1, g2, g3, K, g4⟩ := go (t.extract 0 p1.toNat ++ strOfNums [bt w p2] ++ t.extract (p1 + 1).toNat t.size) (by rw [size_app, size_app, x1, x3, one1]; omega)
          refine ⟨t', a', s', g1, g2, g3, K + 2, fun k hk => ?_⟩
          obtain ⟨k, rfl⟩ : ∃ m, k = m + 2 := ⟨k - 2, by omega⟩
          simp only [spec_l1Cur_spoilt.l0]
          rw [if_pos (by omega)]
          simp only [spec_l1Cur_spoilt.j1]
          rw [if_pos (by simp; omega), e1]
          simp only [Option.bind_some]
          rw [e2]
          simp only [Option.bind_some]
          rw [if_pos q5, if_pos q6, e3]
          simp only [Option.bind_some]
          have hp1 : wrap64 (p1 + 1) = p1 + 1 := w64 (by omega) (by omega)
          rw [if_neg c1, if_pos c2, if_pos q1, if_pos (by omega), if_pos (by omega), hp1, if_pos (by omega), if_pos (by omega), if_pos (by rw [size_app]; omega), w64 (by omega) (by omega), hn1]
          exact g4 k (by omega)
        · obtain ⟨t', a', s', g1, g2, g3, K, g4⟩ := go (t.extract 0 p1.toNat ++ t.extract (p1 + 1).toNat t.size) (by rw [size_app, x1, x3]; omega)
          refine ⟨t', a', s', g1, g2, g3, K + 2, fun k hk => ?_⟩
          obtain ⟨k, rfl⟩ : ∃ m, k = m + 2 := ⟨k - 2, by omega⟩
          simp only [spec_l1Cur_spoilt.l0]
          rw [if_pos (by omega)]
          simp only [spec_l1Cur_spoilt.j1]
          rw [if_pos (by simp; omega), e1]
          simp only [Option.bind_some]
          rw [e2]
          simp only [Option.bind_some]
          rw [if_pos q5, if_pos q6, e3]
          simp only [Option.bind_some]
          have hp1 : wrap64 (p1 + 1) = p1 + 1 := w64 (by omega) (by omega)
          simp only [hp1]
          simp (disch := omega) only [if_pos, if_neg, w64, hn1]
          exact g4 k (by omega)
theorem spoilt_ev {c : List Int} (hc : okCode c) (a s : Int) (t w : ByteArray) (hw : 0 < w.size) (hw2 : w.size ≤ 1000) (h0 : 0 ≤ a) (h1 : a ≤ 1900000000000000000) (ht : t.size ≤ 90000000000) :
    ∃ t' a' s', t'.size ≤ t.size + 3 ∧ a ≤ a' ∧ a' ≤ a + 50 ∧ ∃ K, ∀ k, K ≤ k → spec_l1Cur_spoilt.f k c a s t w = some (t', a', s') := by
  obtain ⟨p1, a1, s1, e1, q1, q2, q3, q4⟩ := pick_ev hc a s 3 (by omega) (by omega) (by omega) (by omega)
  obtain ⟨m, rfl⟩ := Int.eq_ofNat_of_zero_le q1
  obtain ⟨t', a', s', g1, g2, g3, K, g4⟩ := spoilt_l hc w hw hw2 m t a1 s1 (by omega) (by omega) (by omega) (by omega)
  refine ⟨t', a', s', by omega, by omega, by omega, K, fun k hk => ?_⟩
  unfold spec_l1Cur_spoilt.f
  rw [e1]
  exact g4 k hk
theorem doc0_ev {c : List Int} (hc : okCode c) (a s : Int) (t : ByteArray) (h0 : 0 ≤ a) (h1 : a ≤ 1800000000000000000) (ht : t.size ≤ 1000000000) :
    ∃ t' a' s', t'.size ≤ 1000000010 ∧ a ≤ a' ∧ a' ≤ a + 100 ∧ ∃ K, ∀ k, K ≤ k → spec_l1Cur_doc.j0 k t c a s = some (t', a', s') := by
  obtain ⟨r, a1, s1, e1, h2, h3⟩ := one_ev hc a s 12 (by omega) (by omega) (by omega) (by omega)
  cases r with
  | false =>
    refine ⟨t, a1, s1, by omega, by omega, by omega, 1, fun k hk => ?_⟩
    obtain ⟨k, rfl⟩ : ∃ m, k = m + 1 := ⟨k - 1, by omega⟩
    simp only [spec_l1Cur_doc.j0]
    rw [e1]; simp
  | true =>
    obtain ⟨t', a', s', g1, g2, g3, K, g4⟩ := spoilt_ev hc a1 s1 t (⟨#[65, 47, 97, 90]⟩ : ByteArray) (by decide) (by decide) (by omega) (by omega) (by omega)
    refine ⟨t', a', s', by omega, by omega, by omega, K + 1, fun k hk => ?_⟩
    obtain ⟨k, rfl⟩ : ∃ m, k = m + 1 := ⟨k - 1, by omega⟩
    simp only [spec_l1Cur_doc.j0]
    rw [e1]
    simp only [Option.bind_some, if_true]
    rw [g4 k (by omega)]; rfl
theorem doc_ev {c : List Int} (hc : okCode c) (a s : Int) (h0 : 0 ≤ a) (h1 : a ≤ 1700000000000000000) :
    ∃ t' a' s', t'.size ≤ 1000000010 ∧ a ≤ a' ∧ a' ≤ a + 2000000200 ∧ ∃ K, ∀ k, K ≤ k → spec_l1Cur_doc.f k c a s = some (t', a', s') := by
  have hb := cO_le 3 (by omega)
  have hs := sO_le 3 (by omega)
  obtain ⟨p1, a1, s1, e1, q1, q2, q3, q4⟩ := pick_ev hc a s 7 (by omega) (by omega) (by omega) (by omega)
  obtain ⟨t2, a2, s2, i1, i2, i3, K1, i4⟩ := inner_ev hc 3 (by omega) a1 s1 p1 (by omega) (by omega) (by omega) (by omega)
  obtain ⟨p3, a3, s3, e3, r1, r2, r3, r4⟩ := pick_ev hc a2 s2 30 (by omega) (by omega) (by omega) (by omega)
  by_cases c1 : p3 = 0
  · obtain ⟨t4, a4, s4, j1, j2, j3, K2, j4⟩ := inner_ev hc 3 (by omega) a3 s3 60 (by omega) (by omega) (by omega) (by omega)
    obtain ⟨t', a', s', g1, g2, g3, K, g4⟩ := doc0_ev hc a4 s4 t4 (by omega) (by omega) (by omega)
    refine ⟨t', a', s', g1, by omega, by omega, max (max K K1) K2, fun k hk => ?_⟩
    unfold spec_l1Cur_doc.f
    have e5 := i4 k (by omega)
    have e6 := j4 k (by omega)
    have e7 := g4 k (by omega)
    simp only [Int.cast_ofNat_Int] at e5 e6
    rw [e1]; simp only [Option.bind_some]
    rw [e5]; simp only [Option.bind_some]
    rw [e3]; simp only [Option.bind_some]
    rw [if_pos c1, e6]; simp only [Option.bind_some]
    exact e7
  · by_cases c2 : p3 = 1
    · obtain ⟨u, a4, s4, e4, _, hu, h4, h5⟩ := of_ev hc a3 s3 ([(⟨#[65, 65, 65, 65, 65, 65, 65, 65, 65, 65, 65, 65, 47, 47, 47, 47, 47, 47, 47, 47, 47, 47, 47, 47]⟩ : ByteArray), (⟨#[65, 65, 65, 65, 65, 65, 65, 65, 65, 65, 65, 65, 65, 47, 47, 47, 47, 47, 47, 47, 47, 47, 47, 47, 47, 47]⟩ : ByteArray)] : List ByteArray) 30 (by omega) (by omega) (by simp) (by simp) (by decide)
      obtain ⟨t', a', s', g1, g2, g3, K, g4⟩ := doc0_ev hc a4 s4 u (by omega) (by omega) (by omega)
      refine ⟨t', a', s', g1, by omega, by omega, max K K1, fun k hk => ?_⟩
      unfold spec_l1Cur_doc.f
      have e5 := i4 k (by omega)
      have e7 := g4 k (by omega)
      simp only [Int.cast_ofNat_Int] at e5
      rw [e1]; simp only [Option.bind_some]
      rw [e5]; simp only [Option.bind_some]
      rw [e3]; simp only [Option.bind_some]
      rw [if_neg c1, if_pos c2, e4]; simp only [Option.bind_some]
      exact e7
    · obtain ⟨t', a', s', g1, g2, g3, K, g4⟩ := doc0_ev hc a3 s3 t2 (by omega) (by omega) (by omega)
      refine ⟨t', a', s', g1, by omega, by omega, max K K1, fun k hk => ?_⟩
      unfold spec_l1Cur_doc.f
      have e5 := i4 k (by omega)
      have e7 := g4 k (by omega)
      simp only [Int.cast_ofNat_Int] at e5
      rw [e1]; simp only [Option.bind_some]
      rw [e5]; simp only [Option.bind_some]
      rw [e3]; simp only [Option.bind_some]
      rw [if_neg c1, if_neg c2]
      exact e7

/-! a drawn change of a text: that the draw ends -/
def F64 (s : Int) : Int := (s * 6364136223846793005 + 1442695040888963407) % 18446744073709551616
theorem F64_range (s : Int) : 0 ≤ F64 s ∧ F64 s < 18446744073709551616 := by unfold F64; omega
theorem u64w (n : Int) : IntKind.u64.wrap n = n % 18446744073709551616 := by simp [IntKind.wrap, IntKind.bits, IntKind.signed]
theorem next_end {c : List Int} (a s : Int) (h0 : (c.length : Int) ≤ a) (h1 : 0 ≤ a) (h2 : a ≤ 4000000000000000000) : spec_l1Cur_next.f c a s = some (F64 s / 1099511627776 % 256, a + 1, F64 s) := by
  have hF : IntKind.u64.wrap (IntKind.u64.wrap (IntKind.u64.wrap (s * 6364136223846793005) + IntKind.u64.wrap 0) + 1442695040888963407) = F64 s := by
    rw [u64w, u64w, u64w, u64w]; unfold F64; omega
  have hF' : IntKind.u64.wrap (IntKind.u64.wrap (IntKind.u64.wrap (s * 6364136223846793005) + 0) + 1442695040888963407) = F64 s := by
    rw [u64w, u64w, u64w]; unfold F64; omega
  have hr := F64_range s
  have e := bits_mask .u64 24 (by decide) (fun n h0 h1 => by rw [u64w]; omega) 8 (by decide) (F64 s / 1099511627776) (by omega) (by omega)
  have e' : Go.bits .and .u64 (F64 s / 1099511627776) 255 = F64 s / 1099511627776 % 256 := e
  unfold spec_l1Cur_next.f
  rw [if_neg (by omega), w64 (i := a + 1) (by omega) (by omega), if_neg (by omega)]
  first | rw [hF] | rw [hF']
  rw [e', w64 (by omega) (by omega)]
theorem next_evR {c : List Int} (hc : okCode c) (a s : Int) (h0 : 0 ≤ a) (h1 : a ≤ 4000000000000000000) : ∃ r s', spec_l1Cur_next.f c a s = some (r, a + 1, s') ∧ 0 ≤ r ∧ r < 256 := by
  by_cases hl : (c.length : Int) ≤ a
  · have hr := F64_range s
    exact ⟨_, _, next_end a s hl h0 h1, by omega, by omega⟩
  · have hr := hc.rd a
    unfold spec_l1Cur_next.f
    rw [if_pos (by omega), if_pos h0, w64 (i := a + 1) (by omega) (by omega), if_pos (by omega), w64 (i := rd c a) (by omega) (by omega)]
    have := u64_range (IntKind.u64.wrap (IntKind.u64.wrap (s * 6364136223846793005) + IntKind.u64.wrap (rd c a)) + 1442695040888963407)
    exact ⟨_, _, rfl, hr.1, hr.2⟩
theorem pick_evR {c : List Int} (hc : okCode c) (a s n : Int) (h0 : 0 ≤ a) (h1 : a ≤ 3000000000000000000) (hn : 2 ≤ n) (hn2 : n ≤ 200) : ∃ r s', spec_l1Cur_pick.f c a s n = some (r, a + 1, s') ∧ 0 ≤ r ∧ r < n := by
  obtain ⟨r, s', e, g1, g2⟩ := next_evR hc a s h0 (by omega)
  unfold spec_l1Cur_pick.f
  rw [if_neg (by omega), e]
  simp only [Option.bind_some]
  rw [if_neg (by omega), if_neg (by omega)]
  refine ⟨_, _, rfl, ?_, ?_⟩
  · rw [Int.tmod_eq_emod_of_nonneg (by omega)]; exact Int.emod_nonneg _ (by omega)
  · rw [Int.tmod_eq_emod_of_nonneg (by omega)]; exact Int.emod_lt_of_pos _ (by omega)
theorem pick_end {c : List Int} (a s n : Int) (h0 : (c.length : Int) ≤ a) (h1 : 0 ≤ a) (h2 : a ≤ 4000000000000000000) (hn : 2 ≤ n) (hn2 : n ≤ 200) : spec_l1Cur_pick.f c a s n = some (F64 s / 1099511627776 % 256 % n, a + 1, F64 s) := by
  have hr := F64_range s
  unfold spec_l1Cur_pick.f
  rw [if_neg (by omega), next_end a s h0 h1 h2]
  simp only [Option.bind_some]
  rw [if_neg (by omega), if_neg (by omega), Int.tmod_eq_emod_of_nonneg (by omega)]
/-- What decides a step behind the code's end: two bits. -/
def cls (s : Int) : Int := F64 (F64 s) / 1099511627776 % 4
def G3 (s : Int) : Int := F64 (F64 (F64 s))
def itG : Nat → Int → Int
  | 0, s => s
  | n + 1, s => itG n (G3 s)
theorem itG_add : ∀ (m n : Nat) (s : Int), itG (m + n) s = itG n (itG m s)
  | 0, n, s => by rw [Nat.zero_add]; rfl
  | m + 1, n, s => by rw [show m + 1 + n = (m + n) + 1 by omega]; exact itG_add m n (G3 s)
/-- Alike but for multiples of 2^42. -/
def Cg (x y : Int) : Prop := ∃ q : Int, x = y + 4398046511104 * q
theorem Cg.trans {x y z : Int} (h : Cg x y) (k : Cg y z) : Cg x z := by
  obtain ⟨q, rfl⟩ := h
  obtain ⟨p, rfl⟩ := k
  exact ⟨p + q, by omega⟩
theorem Cg.lin {x y : Int} (h : Cg x y) (A B : Int) : Cg (A * x + B) (A * y + B) := by
  obtain ⟨q, rfl⟩ := h
  refine ⟨A * q, ?_⟩
  rw [Int.mul_add, Int.mul_left_comm A 4398046511104 q]
  omega
theorem Cg.red (A B x : Int) : Cg (A * x + B) (A % 4398046511104 * x + B % 4398046511104) := by
  refine ⟨A / 4398046511104 * x + B / 4398046511104, ?_⟩
  have h1 := Int.emod_add_mul_ediv A 4398046511104
  have h2 := Int.emod_add_mul_ediv B 4398046511104
  have h3 : A * x = A % 4398046511104 * x + 4398046511104 * (A / 4398046511104 * x) := by
    rw [← Int.mul_assoc, ← Int.add_mul, h1]
  omega
theorem F64_cg (x : Int) : Cg (F64 x) (6364136223846793005 * x + 1442695040888963407) := by
  unfold F64
  exact ⟨-(4194304 * ((x * 6364136223846793005 + 1442695040888963407) / 18446744073709551616)), by omega⟩
def aff : Nat → Int × Int
  | 0 => (1610380290293, 146808144153)
  | k + 1 => ((aff k).1 * (aff k).1 % 4398046511104, ((aff k).1 * (aff k).2 + (aff k).2) % 4398046511104)
theorem G3_cg (x : Int) : Cg (G3 x) ((aff 0).1 * x + (aff 0).2) := by
  unfold G3
  refine (F64_cg _).trans (((F64_cg _).lin _ _).trans ((((F64_cg x).lin _ _).lin _ _).trans ?_))
  exact ⟨58608227004328453506646594938727604003455258 * x + 13285981864689072521541670664646133922839966, by show 6364136223846793005 * (6364136223846793005 * (6364136223846793005 * x + 1442695040888963407) + 1442695040888963407) + 1442695040888963407 = 1610380290293 * x + 146808144153 + 4398046511104 * (58608227004328453506646594938727604003455258 * x + 13285981864689072521541670664646133922839966); omega⟩
theorem itG_cg : ∀ (k : Nat) (x : Int), Cg (itG (2 ^ k) x) ((aff k).1 * x + (aff k).2)
  | 0, x => G3_cg x
  | k + 1, x => by
    rw [Nat.pow_succ, Nat.mul_two, itG_add]
    refine (itG_cg k _).trans (((itG_cg k x).lin _ _).trans ?_)
    show Cg ((aff k).1 * ((aff k).1 * x + (aff k).2) + (aff k).2) ((aff k).1 * (aff k).1 % 4398046511104 * x + ((aff k).1 * (aff k).2 + (aff k).2) % 4398046511104)
    rw [Int.mul_add, ← Int.mul_assoc, Int.add_assoc]
    exact Cg.red _ _ x
theorem aff19 : aff 19 = (1304887820289, 2957227065344) := by decide +kernel
theorem aff20 : aff 20 = (2609775640577, 2615919247360) := by decide +kernel
theorem itG_F : ∀ (n : Nat) (s : Int), itG n (F64 s) = F64 (itG n s)
  | 0, _ => rfl
  | n + 1, s => itG_F n (G3 s)
theorem cls_it (n : Nat) (s : Int) : cls (itG n s) = itG n (F64 (F64 s)) / 1099511627776 % 4 := by
  unfold cls
  rw [itG_F, itG_F]
/-- Some step of the next 2^19 + 2^20 is none that puts. -/
theorem cls_soon (s : Int) : ∃ n, n ≤ 1572864 ∧ cls (itG n s) ≠ 1 := by
  by_cases h0 : cls (itG 0 s) = 1
  · by_cases h1 : cls (itG (2 ^ 19) s) = 1
    · by_cases h2 : cls (itG (2 ^ 20) s) = 1
      · refine ⟨2 ^ 19 + 2 ^ 20, by decide, fun h3 => ?_⟩
        rw [cls_it] at h0 h1 h2 h3
        rw [itG_add] at h3
        obtain ⟨q2, e2⟩ := itG_cg 19 (F64 (F64 s))
        obtain ⟨q3, e3⟩ := itG_cg 20 (F64 (F64 s))
        obtain ⟨q4, e4⟩ := itG_cg 20 (itG (2 ^ 19) (F64 (F64 s)))
        rw [aff19] at e2
        rw [aff20] at e3 e4
        have e0 : itG 0 (F64 (F64 s)) = F64 (F64 s) := rfl
        rw [e0] at h0
        generalize F64 (F64 s) = x at *
        generalize itG (2 ^ 20) (itG (2 ^ 19) x) = y4 at *
        generalize itG (2 ^ 19) x = y2 at *
        generalize itG (2 ^ 20) x = y3 at *
        simp only at e2 e3 e4
        clear e0
        have key : y4 - y2 - y3 + x = 2199023255552 + 4398046511104 * (774312967922 * x + 2609775640576 * q2 + q4 - q3 + 1754801623698) := by omega
        generalize (774312967922 * x + 2609775640576 * q2 + q4 - q3 + 1754801623698 : Int) = K at key
        clear e2 e3 e4
        omega
      · exact ⟨2 ^ 20, by decide, h2⟩
    · exact ⟨2 ^ 19, by decide, h1⟩
  · exact ⟨0, by decide, h0⟩
/-- A small part. -/
def smP (p : S74) : Prop := 0 ≤ p.f0 ∧ p.f0 ≤ 300 ∧ p.f1.size ≤ 4 ∧ p.f2.size ≤ 300
theorem smP_add {l : List S74} {p : S74} (h : ∀ q ∈ l, smP q) (hp : smP p) : ∀ q ∈ l ++ [p], smP q := by
  intro q hq
  rcases List.mem_append.mp hq with hq | hq
  · exact h q hq
  · rw [List.mem_singleton.mp hq]; exact hp
theorem of_pick {c : List Int} {a s r a' s' : Int} {l : List ByteArray} (n : Nat) (hn : l.length = n) (M : Nat) (hM : ∀ x ∈ l, x.size ≤ M) (e : spec_l1Cur_pick.f c a s (n : Int) = some (r, a', s')) (h0 : 0 ≤ r) (h1 : r < n) : ∃ x : ByteArray, x.size ≤ M ∧ spec_l1Cur_of.f c a s l = some (x, a', s') := by
  subst hn
  unfold spec_l1Cur_of.f
  rw [e]
  simp only [Option.bind_some]
  rw [if_pos h0, if_pos h1]
  have hm : rdOf ByteArray.empty l r ∈ l := by
    unfold rdOf
    rw [List.getD_eq_getElem?_getD, List.getElem?_eq_getElem (by omega : r.toNat < l.length)]
    simp
  exact ⟨_, hM _ hm, rfl⟩
theorem opOn_tail {c : List Int} (hc : okCode c) (t : ByteArray) (ht : t.size ≤ 300) (x5 : List S74) (x6 : Nat) (h6 : t.size ≤ x6) (a s : Int) (h0 : 0 ≤ a) (h1 : a ≤ 2000000000000000000) (hl : x5.length ≤ 1000000000) (hp : ∀ q ∈ x5, smP q) :
    ∃ r a' s', r.length ≤ x5.length + 1 ∧ (∀ q ∈ r, smP q) ∧ a ≤ a' ∧ a' ≤ a + 4 ∧ ∃ K, ∀ k, K ≤ k → spec_l1Cur_opOn.l0 k t x5 (x6 : Int) c a s = some (r, a', s') := by
  obtain ⟨b, a1, s1, e1, q1, q2⟩ := one_ev hc a s 3 h0 (by omega) (by omega) (by omega)
  cases b with
  | false =>
    refine ⟨x5, a1, s1, by omega, hp, q1, by omega, 1, fun k hk => ?_⟩
    obtain ⟨k, rfl⟩ : ∃ m, k = m + 1 := ⟨k - 1, by omega⟩
    simp only [spec_l1Cur_opOn.l0]
    rw [if_neg (by omega), e1]
    simp
  | true =>
    obtain ⟨v, a2, s2, e2, _, g3, g4, g5⟩ := of_ev hc a1 s1 [(⟨#[101, 110, 100]⟩ : ByteArray), (⟨#[46]⟩ : ByteArray)] 4 (by omega) (by omega) (by decide) (by decide) (by decide)
    refine ⟨x5 ++ [(⟨0, v, (⟨#[]⟩ : ByteArray)⟩ : S74)], a2, s2, by simp, smP_add hp ⟨by show (0 : Int) ≤ 0; omega, by show (0 : Int) ≤ 300; omega, g3, by show (⟨#[]⟩ : ByteArray).size ≤ 300; decide⟩, by omega, by omega, 1, fun k hk => ?_⟩
    obtain ⟨k, rfl⟩ : ∃ m, k = m + 1 := ⟨k - 1, by omega⟩
    simp only [spec_l1Cur_opOn.l0]
    rw [if_neg (by omega), e1]
    simp only [Option.bind_some, if_true]
    rw [e2]
    simp only [Option.bind_some]
    rw [if_pos (by omega)]
theorem opOn_first {c : List Int} (t : ByteArray) (ht : t.size ≤ 300) (x5 : List S74) (x6 : Nat) (h6 : x6 < t.size) (a s r1 a1 s1 : Int)
    (e1 : spec_l1Cur_pick.f c a s 5 = some (r1, a1, s1)) (g1 : 0 ≤ r1) (g2 : r1 < 5) :
    ∃ n : Nat, 1 ≤ n ∧ x6 + n ≤ t.size ∧ n ≤ 300 ∧ ∀ k, spec_l1Cur_opOn.l0 (k + 1) t x5 (x6 : Int) c a s = spec_l1Cur_opOn.j1 k t x5 (x6 : Int) (n : Int) c a1 s1 := by
  have w1 : wrap64 (1 + r1) = 1 + r1 := w64 (by omega) (by omega)
  have w2 : wrap64 ((t.size : Int) - (x6 : Int)) = (t.size : Int) - (x6 : Int) := w64 (by omega) (by omega)
  have c0 : (x6 : Int) < (t.size : Int) := by omega
  by_cases c1 : 1 + r1 > (t.size : Int) - (x6 : Int)
  · refine ⟨t.size - x6, by omega, by omega, by omega, fun k => ?_⟩
    have en : ((t.size - x6 : Nat) : Int) = (t.size : Int) - (x6 : Int) := by omega
    rw [en]
    simp only [spec_l1Cur_opOn.l0, if_pos c0, e1, Option.bind_some, w1, w2, if_pos c1]
  · refine ⟨(1 + r1).toNat, by omega, by omega, by omega, fun k => ?_⟩
    have en : (((1 + r1).toNat : Nat) : Int) = 1 + r1 := by omega
    rw [en]
    simp only [spec_l1Cur_opOn.l0, if_pos c0, e1, Option.bind_some, w1, w2, if_neg c1]
theorem opOn_put {c : List Int} (t : ByteArray) (x5 : List S74) (hl : x5.length ≤ 1000000000) (x6 x7 a1 s1 a2 s2 r3 a3 s3 : Int)
    (e2 : spec_l1Cur_pick.f c a1 s1 4 = some (1, a2, s2)) (e3 : spec_l1Cur_pick.f c a2 s2 5 = some (r3, a3, s3)) (g3 : 0 ≤ r3) (g4 : r3 < 5) :
    ∃ p, smP p ∧ ∀ k, spec_l1Cur_opOn.j1 (k + 1) t x5 x6 x7 c a1 s1 = spec_l1Cur_opOn.l0 k t (x5 ++ [p]) x6 c a3 s3 := by
  obtain ⟨v, hv, ev⟩ := of_pick (l := [(⟨#[120]⟩ : ByteArray), (⟨#[121, 121]⟩ : ByteArray), (⟨#[65, 47]⟩ : ByteArray), (⟨#[110, 101, 119]⟩ : ByteArray), (⟨#[66]⟩ : ByteArray)]) 5 rfl 4 (by decide) e3 g3 g4
  have c1 : x5.length < 3518437208883 := by omega
  have n0 : ¬ ((1 : Int) = 0) := by omega
  refine ⟨⟨0, v, (⟨#[]⟩ : ByteArray)⟩, ⟨by show (0 : Int) ≤ 0; omega, by show (0 : Int) ≤ 300; omega, hv, by show (⟨#[]⟩ : ByteArray).size ≤ 300; decide⟩, fun k => ?_⟩
  simp only [spec_l1Cur_opOn.j1, e2, Option.bind_some, if_neg n0, if_true, ev]
  exact if_pos c1
theorem opOn_go {c : List Int} (t : ByteArray) (ht : t.size ≤ 300) (x5 : List S74) (hl : x5.length ≤ 1000000000) (x6 n : Nat) (n1 : x6 + n ≤ t.size) (a1 s1 r2 a2 s2 : Int)
    (e2 : spec_l1Cur_pick.f c a1 s1 4 = some (r2, a2, s2)) (hr : r2 ≠ 1) :
    ∃ p, smP p ∧ ∀ k, spec_l1Cur_opOn.j1 (k + 1) t x5 (x6 : Int) (n : Int) c a1 s1 = spec_l1Cur_opOn.l0 k t (x5 ++ [p]) ((x6 + n : Nat) : Int) c a2 s2 := by
  have w1 : wrap64 ((x6 : Int) + (n : Int)) = ((x6 + n : Nat) : Int) := by rw [w64 (by omega) (by omega)]; omega
  have c1 : x5.length < 3518437208883 := by omega
  have c2 : (0 : Int) ≤ (x6 : Int) := by omega
  have c3 : (x6 : Int) ≤ ((x6 + n : Nat) : Int) := by omega
  have c4 : ((x6 + n : Nat) : Int) ≤ (t.size : Int) := by omega
  by_cases h0 : r2 = 0
  · refine ⟨⟨0, (⟨#[]⟩ : ByteArray), t.extract x6 (x6 + n)⟩, ⟨by show (0 : Int) ≤ 0; omega, by show (0 : Int) ≤ 300; omega, by show (⟨#[]⟩ : ByteArray).size ≤ 4; decide, by show (t.extract x6 (x6 + n)).size ≤ 300; have := ext_size t x6 (x6 + n); omega⟩, fun k => ?_⟩
    simp only [spec_l1Cur_opOn.j1, e2, Option.bind_some, if_pos h0, w1, if_pos c2, if_pos c3, if_pos c4, Int.toNat_natCast]
    exact if_pos c1
  · refine ⟨⟨(n : Int), (⟨#[]⟩ : ByteArray), (⟨#[]⟩ : ByteArray)⟩, ⟨by show (0 : Int) ≤ (n : Int); omega, by show (n : Int) ≤ 300; omega, by show (⟨#[]⟩ : ByteArray).size ≤ 4; decide, by show (⟨#[]⟩ : ByteArray).size ≤ 300; decide⟩, fun k => ?_⟩
    simp only [spec_l1Cur_opOn.j1, e2, Option.bind_some, if_neg h0, if_neg hr, w1]
    exact if_pos c1
/-- One round of the drawing of a change. -/
theorem opOn_step {c : List Int} (t : ByteArray) (ht : t.size ≤ 300) (x5 : List S74) (hl : x5.length ≤ 1000000000) (x6 : Nat) (h6 : x6 < t.size) (a s r1 a1 s1 r2 a2 s2 : Int)
    (e1 : spec_l1Cur_pick.f c a s 5 = some (r1, a1, s1)) (g1 : 0 ≤ r1) (g2 : r1 < 5) (e2 : spec_l1Cur_pick.f c a1 s1 4 = some (r2, a2, s2)) :
    (r2 = 1 → ∀ r3 a3 s3 : Int, spec_l1Cur_pick.f c a2 s2 5 = some (r3, a3, s3) → 0 ≤ r3 → r3 < 5 → ∃ p, smP p ∧ ∀ k, spec_l1Cur_opOn.l0 (k + 2) t x5 (x6 : Int) c a s = spec_l1Cur_opOn.l0 k t (x5 ++ [p]) (x6 : Int) c a3 s3) ∧
    (r2 ≠ 1 → ∃ p n, smP p ∧ 1 ≤ n ∧ x6 + n ≤ t.size ∧ ∀ k, spec_l1Cur_opOn.l0 (k + 2) t x5 (x6 : Int) c a s = spec_l1Cur_opOn.l0 k t (x5 ++ [p]) ((x6 + n : Nat) : Int) c a2 s2) := by
  obtain ⟨n, n1, n2, n3, en⟩ := opOn_first t ht x5 x6 h6 a s r1 a1 s1 e1 g1 g2
  constructor
  · intro hr r3 a3 s3 e3 g3 g4
    subst hr
    obtain ⟨p, p1, p2⟩ := opOn_put t x5 hl (x6 : Int) (n : Int) a1 s1 a2 s2 r3 a3 s3 e2 e3 g3 g4
    exact ⟨p, p1, fun k => (en (k + 1)).trans (p2 k)⟩
  · intro hr
    obtain ⟨p, p1, p2⟩ := opOn_go t ht x5 hl x6 n n2 a1 s1 r2 a2 s2 e2 hr
    exact ⟨p, n, p1, n1, n2, fun k => (en (k + 1)).trans (p2 k)⟩
/-- Behind the code's end: every byte is left behind at last. -/
theorem opOn_end {c : List Int} (hc : okCode c) (t : ByteArray) (ht : t.size ≤ 300) : ∀ (m : Nat), m ≤ 300 → ∀ (x5 : List S74) (x6 : Nat) (a s : Int), t.size - x6 ≤ m → (c.length : Int) ≤ a → 0 ≤ a → a + (m : Int) * 4718600 ≤ 1900000000000000000 → x5.length + m * 1572870 ≤ 900000000 → (∀ q ∈ x5, smP q) →
    ∃ r a' s', r.length ≤ x5.length + m * 1572870 + 1 ∧ (∀ q ∈ r, smP q) ∧ a ≤ a' ∧ a' ≤ a + (m : Int) * 4718600 + 4 ∧ ∃ K, ∀ k, K ≤ k → spec_l1Cur_opOn.l0 k t x5 (x6 : Int) c a s = some (r, a', s') := by
  intro m
  induction m with
  | zero =>
    intro hm x5 x6 a s hx hla h0 h1 hl hp
    obtain ⟨r, a', s', g1, g2, g3, g4, g5⟩ := opOn_tail hc t ht x5 x6 (by omega) a s h0 (by omega) (by omega) hp
    exact ⟨r, a', s', by omega, g2, g3, by omega, g5⟩
  | succ m ih =>
    intro hm x5 x6 a s hx hla h0 h1 hl hp
    by_cases h6 : t.size ≤ x6
    · obtain ⟨r, a', s', g1, g2, g3, g4, g5⟩ := opOn_tail hc t ht x5 x6 h6 a s h0 (by omega) (by omega) hp
      exact ⟨r, a', s', by omega, g2, g3, by omega, g5⟩
    · have puts : ∀ (n : Nat) (x5 : List S74) (a s : Int), cls (itG n s) ≠ 1 → (c.length : Int) ≤ a → 0 ≤ a → a + (m : Int) * 4718600 + 3 * (n : Int) + 3 ≤ 1900000000000000000 → x5.length + m * 1572870 + n + 1 ≤ 900000000 → (∀ q ∈ x5, smP q) →
          ∃ r a' s', r.length ≤ x5.length + m * 1572870 + n + 2 ∧ (∀ q ∈ r, smP q) ∧ a ≤ a' ∧ a' ≤ a + (m : Int) * 4718600 + 3 * (n : Int) + 7 ∧ ∃ K, ∀ k, K ≤ k → spec_l1Cur_opOn.l0 k t x5 (x6 : Int) c a s = some (r, a', s') := by
        intro n
        induction n with
        | zero =>
          intro x5 a s hn hla h0 h1 hl hp
          have e1 := pick_end (c := c) a s 5 hla h0 (by omega) (by omega) (by omega)
          have e2 := pick_end (c := c) (a + 1) (F64 s) 4 (by omega) (by omega) (by omega) (by omega) (by omega)
          obtain ⟨_, hB⟩ := opOn_step t ht x5 (by omega) x6 (by omega) a s _ _ _ _ _ _ e1 (by omega) (by omega) e2
          have hn' : cls s ≠ 1 := hn
          obtain ⟨p, n, p1, p2, p3, p4⟩ := hB (by unfold cls at hn'; clear hB; omega)
          clear hB
          obtain ⟨r, a', s', g1, g2, g3, g4, K, g5⟩ := ih (by omega) (x5 ++ [p]) (x6 + n) (a + 1 + 1) (F64 (F64 s)) (by omega) (by omega) (by omega) (by omega) (by rw [List.length_append, List.length_singleton]; omega) (smP_add hp p1)
          rw [List.length_append, List.length_singleton] at g1
          refine ⟨r, a', s', by omega, g2, by omega, by omega, K + 2, fun k hk => ?_⟩
          obtain ⟨k, rfl⟩ : ∃ q, k = q + 2 := ⟨k - 2, by omega⟩
          rw [p4]
          exact g5 k (by omega)
        | succ n ihn =>
          intro x5 a s hn hla h0 h1 hl hp
          have e1 := pick_end (c := c) a s 5 hla h0 (by omega) (by omega) (by omega)
          have e2 := pick_end (c := c) (a + 1) (F64 s) 4 (by omega) (by omega) (by omega) (by omega) (by omega)
          have e3 := pick_end (c := c) (a + 1 + 1) (F64 (F64 s)) 5 (by omega) (by omega) (by omega) (by omega) (by omega)
          obtain ⟨hA, hB⟩ := opOn_step t ht x5 (by omega) x6 (by omega) a s _ _ _ _ _ _ e1 (by omega) (by omega) e2
          by_cases hr : F64 (F64 s) / 1099511627776 % 256 % 4 = 1
          · obtain ⟨p, p1, p4⟩ := hA hr _ _ _ e3 (by clear hA hB; omega) (by clear hA hB; omega)
            clear hA hB
            obtain ⟨r, a', s', g1, g2, g3, g4, K, g5⟩ := ihn (x5 ++ [p]) (a + 1 + 1 + 1) (F64 (F64 (F64 s))) hn (by omega) (by omega) (by omega) (by rw [List.length_append, List.length_singleton]; omega) (smP_add hp p1)
            rw [List.length_append, List.length_singleton] at g1
            refine ⟨r, a', s', by omega, g2, by omega, by omega, K + 2, fun k hk => ?_⟩
            obtain ⟨k, rfl⟩ : ∃ q, k = q + 2 := ⟨k - 2, by omega⟩
            rw [p4]
            exact g5 k (by omega)
          · obtain ⟨p, n', p1, p2, p3, p4⟩ := hB hr
            clear hA hB
            obtain ⟨r, a', s', g1, g2, g3, g4, K, g5⟩ := ih (by omega) (x5 ++ [p]) (x6 + n') (a + 1 + 1) (F64 (F64 s)) (by omega) (by omega) (by omega) (by omega) (by rw [List.length_append, List.length_singleton]; omega) (smP_add hp p1)
            rw [List.length_append, List.length_singleton] at g1
            refine ⟨r, a', s', by omega, g2, by omega, by omega, K + 2, fun k hk => ?_⟩
            obtain ⟨k, rfl⟩ : ∃ q, k = q + 2 := ⟨k - 2, by omega⟩
            rw [p4]
            exact g5 k (by omega)
      obtain ⟨n, hn, hn2⟩ := cls_soon s
      obtain ⟨r, a', s', g1, g2, g3, g4, g5⟩ := puts n x5 a s hn2 hla h0 (by omega) (by omega) hp
      exact ⟨r, a', s', by omega, g2, g3, by omega, g5⟩
/-- A drawn change: the draw ends. -/
theorem opOn_l {c : List Int} (hc : okCode c) (t : ByteArray) (ht : t.size ≤ 300) (B m : Nat) (hB : B = 471861001) (hm : m = 300) : ∀ (w : Nat), w ≤ 1048576 → ∀ (x5 : List S74) (x6 : Nat) (a s : Int), (c.length : Int) ≤ a + (w : Int) → 0 ≤ a → a + 3 * (w : Int) ≤ 1700000000000000000 → x5.length + w ≤ 100000000 → (∀ q ∈ x5, smP q) →
    ∃ r a' s', r.length ≤ x5.length + w + B ∧ (∀ q ∈ r, smP q) ∧ a ≤ a' ∧ a' ≤ a + 3 * (w : Int) + 1415580004 ∧ ∃ K, ∀ k, K ≤ k → spec_l1Cur_opOn.l0 k t x5 (x6 : Int) c a s = some (r, a', s') := by
  intro w
  induction w with
  | zero =>
    intro hw x5 x6 a s hla h0 h1 hl hp
    obtain ⟨r, a', s', g1, g2, g3, g4, g5⟩ := opOn_end hc t ht m (by omega) x5 x6 a s (by omega) (by omega) h0 (by omega) (by omega) hp
    exact ⟨r, a', s', by omega, g2, g3, by omega, g5⟩
  | succ w ih =>
    intro hw x5 x6 a s hla h0 h1 hl hp
    by_cases h6 : t.size ≤ x6
    · obtain ⟨r, a', s', g1, g2, g3, g4, g5⟩ := opOn_tail hc t ht x5 x6 h6 a s h0 (by omega) (by omega) hp
      exact ⟨r, a', s', by omega, g2, g3, by omega, g5⟩
    · obtain ⟨r1, s1, e1, u1, u2⟩ := pick_evR hc a s 5 h0 (by omega) (by omega) (by omega)
      obtain ⟨r2, s2, e2, u3, u4⟩ := pick_evR hc (a + 1) s1 4 (by omega) (by omega) (by omega) (by omega)
      obtain ⟨r3, s3, e3, u5, u6⟩ := pick_evR hc (a + 1 + 1) s2 5 (by omega) (by omega) (by omega) (by omega)
      obtain ⟨hA, hBB⟩ := opOn_step t ht x5 (by omega) x6 (by omega) a s _ _ _ _ _ _ e1 u1 u2 e2
      by_cases hr : r2 = 1
      · obtain ⟨p, p1, p4⟩ := hA hr _ _ _ e3 u5 u6
        clear hA hBB
        obtain ⟨r, a', s', g1, g2, g3, g4, K, g5⟩ := ih (by omega) (x5 ++ [p]) x6 (a + 1 + 1 + 1) s3 (by omega) (by omega) (by omega) (by rw [List.length_append, List.length_singleton]; omega) (smP_add hp p1)
        rw [List.length_append, List.length_singleton] at g1
        refine ⟨r, a', s', by omega, g2, by omega, by omega, K + 2, fun k hk => ?_⟩
        obtain ⟨k, rfl⟩ : ∃ q, k = q + 2 := ⟨k - 2, by omega⟩
        rw [p4]
        exact g5 k (by omega)
      · obtain ⟨p, n', p1, p2, p3, p4⟩ := hBB hr
        clear hA hBB
        obtain ⟨r, a', s', g1, g2, g3, g4, K, g5⟩ := ih (by omega) (x5 ++ [p]) (x6 + n') (a + 1 + 1) s2 (by omega) (by omega) (by omega) (by rw [List.length_append, List.length_singleton]; omega) (smP_add hp p1)
        rw [List.length_append, List.length_singleton] at g1
        refine ⟨r, a', s', by omega, g2, by omega, by omega, K + 2, fun k hk => ?_⟩
        obtain ⟨k, rfl⟩ : ∃ q, k = q + 2 := ⟨k - 2, by omega⟩
        rw [p4]
        exact g5 k (by omega)
theorem opOn_ev {c : List Int} (hc : okCode c) (hcl : c.length ≤ 1048576) (t : ByteArray) (ht : t.size ≤ 300) (a s : Int) (h0 : 0 ≤ a) (h1 : a ≤ 1600000000000000000) :
    ∃ r a' s', r.length ≤ 500000000 ∧ (∀ q ∈ r, smP q) ∧ a ≤ a' ∧ a' ≤ a + 2000000000 ∧ ∃ K, ∀ k, K ≤ k → spec_l1Cur_opOn.f k c a s t = some (r, a', s') := by
  obtain ⟨w, hw⟩ : ∃ w : Nat, w = 1048576 := ⟨_, rfl⟩
  obtain ⟨B, hB⟩ : ∃ w : Nat, w = 471861001 := ⟨_, rfl⟩
  obtain ⟨m, hm⟩ : ∃ w : Nat, w = 300 := ⟨_, rfl⟩
  have hn : ([] : List S74).length = 0 := rfl
  obtain ⟨r, a', s', g1, g2, g3, g4, K, g5⟩ := opOn_l hc t ht B m hB hm w (by omega) ([] : List S74) 0 a s (by omega) h0 (by omega) (by omega) (fun q hq => by cases hq)
  refine ⟨r, a', s', by omega, g2, g3, by omega, K, fun k hk => ?_⟩
  unfold spec_l1Cur_opOn.f
  exact g5 k hk

theorem plainText_ev2 {c : List Int} (hc : okCode c) (a s : Int) (h0 : 0 ≤ a) (h1 : a ≤ 1600000000000000000) :
    ∃ t' a' s', t'.size ≤ 300 ∧ a ≤ a' ∧ a' ≤ a + 2000000300 ∧ ∃ K, ∀ k, K ≤ k → spec_l1Cur_plainText.f k c a s = some (t', a', s') := by
  obtain ⟨t, a1, s1, g1, g2, g3, K, g4⟩ := doc_ev hc a s h0 (by omega)
  obtain ⟨K2, h2⟩ := spec_GoodText_ev t (by omega)
  have lit4 : ((⟨#[116, 101, 120, 116]⟩ : ByteArray)).size = 4 := rfl
  cases hg : textB t with
  | false =>
    refine ⟨(⟨#[116, 101, 120, 116]⟩ : ByteArray), a1, s1, by omega, by omega, by omega, max K K2, fun k hk => ?_⟩
    unfold spec_l1Cur_plainText.f
    rw [g4 k (by omega)]; simp only [Option.bind_some]
    rw [h2 k (by omega), hg]; simp only [Option.bind_some]
    rw [if_neg (by simp), if_neg (by omega)]
  | true =>
    by_cases c1 : (t.size : Int) > 40
    · obtain ⟨r, a2, s2, e2, q1, q2⟩ := one_ev hc a1 s1 20 (by omega) (by omega) (by omega) (by omega)
      cases r with
      | true =>
        refine ⟨t, a2, s2, by have := textB_size hg; omega, by omega, by omega, max K K2, fun k hk => ?_⟩
        unfold spec_l1Cur_plainText.f
        rw [g4 k (by omega)]; simp only [Option.bind_some]
        rw [h2 k (by omega), hg]; simp only [Option.bind_some]
        rw [if_pos trivial, if_pos c1, e2]; simp
      | false =>
        have := ext_size t 0 40
        refine ⟨t.extract 0 40, a2, s2, by have := textB_size hg; omega, by omega, by omega, max K K2, fun k hk => ?_⟩
        unfold spec_l1Cur_plainText.f
        rw [g4 k (by omega)]; simp only [Option.bind_some]
        rw [h2 k (by omega), hg]; simp only [Option.bind_some]
        rw [if_pos trivial, if_pos c1, e2]; simp only [Option.bind_some]
        rw [if_neg (by simp), if_pos (by omega), if_pos (by omega)]
    · refine ⟨t, a1, s1, by have := textB_size hg; omega, by omega, by omega, max K K2, fun k hk => ?_⟩
      unfold spec_l1Cur_plainText.f
      rw [g4 k (by omega)]; simp only [Option.bind_some]
      rw [h2 k (by omega), hg]; simp only [Option.bind_some]
      rw [if_pos trivial, if_neg c1]

theorem rd_T61_mem {l : List S74} (i : Nat) (h : i < l.length) : rd_T74 l (i : Int) ∈ l := by
  unfold rd_T74
  rw [Int.toNat_natCast, List.getD_eq_getElem?_getD, List.getElem?_eq_getElem h]
  simp
theorem le_pred {K k : Nat} (h : K + 1 ≤ k) : ∃ m, k = m + 1 ∧ K ≤ m := ⟨k - 1, by omega, by omega⟩
theorem wrap_succ (i : Nat) (h : i ≤ 500000000) : wrap64 ((i : Int) + 1) = ((i + 1 : Nat) : Int) := by rw [w64 (by omega) (by omega)]; omega
theorem wrap_nat (n : Nat) (h : n ≤ 1000) : wrap64 (n : Int) = (n : Int) := w64 (by omega) (by omega)
theorem ap_bad (x1 x6 : ByteArray) (L : List S74) (x9 i f0 : Int) (f1 f2 : ByteArray) (k : Nat) : spec_l3Apply.j1 (k + 1) x1 x6 x9 L (L.length : Int) i true f0 f1 f2 = some ((⟨#[]⟩ : ByteArray), false) := by
  simp only [spec_l3Apply.j1, if_true]
theorem ap_keep (x1 x6 : ByteArray) (L : List S74) (i n : Nat) (hi : i ≤ 500000000) (f0 : Int) (f1 f2 : ByteArray) (k : Nat) (h0 : f0 > 0) (hn : n ≤ x1.size) (h1 : x6.size + n + f1.size ≤ 200000000000) :
    spec_l3Apply.j1 (k + 1) x1 x6 (n : Int) L (L.length : Int) (i : Int) false f0 f1 f2 = spec_l3Apply.l0 k (x1.extract n x1.size) (x6 ++ x1.extract 0 n ++ f1) L (L.length : Int) ((i + 1 : Nat) : Int) := by
  have z1 : (x1.extract 0 n).size = n := by rw [ByteArray.size_extract]; omega
  have z3 : (x6 ++ x1.extract 0 n).size = x6.size + n := by rw [size_app, z1]
  have b0 : (0 : Int) ≤ (n : Int) := by omega
  have hle : (n : Int) ≤ (x1.size : Int) := by omega
  have wi := wrap_succ i hi
  simp only [spec_l3Apply.j1, Bool.false_eq_true, if_false, if_pos h0, if_pos b0, if_pos hle, Int.toNat_natCast, wi, z1, z3]
  clear wi
  rw [if_pos (by omega), if_pos (by omega)]
theorem ap_put (x1 x6 : ByteArray) (L : List S74) (i n : Nat) (hi : i ≤ 500000000) (f0 : Int) (f1 f2 : ByteArray) (k : Nat) (h0 : ¬ f0 > 0) (hn : n ≤ x1.size) (h1 : x6.size + n + f1.size ≤ 200000000000) :
    spec_l3Apply.j1 (k + 1) x1 x6 (n : Int) L (L.length : Int) (i : Int) false f0 f1 f2 = spec_l3Apply.l0 k (x1.extract n x1.size) (x6 ++ f1) L (L.length : Int) ((i + 1 : Nat) : Int) := by
  have b0 : (0 : Int) ≤ (n : Int) := by omega
  have hle : (n : Int) ≤ (x1.size : Int) := by omega
  have wi := wrap_succ i hi
  simp only [spec_l3Apply.j1, Bool.false_eq_true, if_false, if_neg h0, if_pos b0, if_pos hle, Int.toNat_natCast, wi]
  clear wi
  rw [if_pos (by omega)]
/-- One part of a change: what is looked at is one of two. -/
theorem ap_step (x1 x6 : ByteArray) (L : List S74) (i n : Nat) (p : S74) (hi : i < L.length) (eP : rd_T74 L (i : Int) = p) (hn : p.f0 + (p.f2.size : Int) = (n : Int)) (hn2 : n ≤ 1000) :
    ∃ b : Bool, (b = false → n ≤ x1.size) ∧ ∀ k, spec_l3Apply.l0 (k + 1) x1 x6 L (L.length : Int) (i : Int) = spec_l3Apply.j1 k x1 x6 (n : Int) L (L.length : Int) (i : Int) b p.f0 p.f1 p.f2 := by
  have c0 : (i : Int) < (L.length : Int) := by omega
  have c1 : (0 : Int) ≤ (i : Int) := by omega
  have b0 : (0 : Int) ≤ (n : Int) := by omega
  by_cases c2 : (n : Int) > (x1.size : Int)
  · have wN := wrap_nat n hn2
    refine ⟨true, (fun h => by cases h), fun k => ?_⟩
    simp only [spec_l3Apply.l0, if_pos c0, if_pos c1, eP, hn, wN, if_pos c2]
  · have c3 : (n : Int) ≤ (x1.size : Int) := by omega
    have c5 : n ≤ x1.size := by omega
    by_cases c4 : p.f2.toList = ([] : List UInt8)
    · have wN := wrap_nat n hn2
      refine ⟨false, fun _ => c5, fun k => ?_⟩
      simp only [spec_l3Apply.l0, if_pos c0, if_pos c1, eP, hn, wN, if_neg c2, if_pos c4]
    · have wN := wrap_nat n hn2
      refine ⟨((x1.extract 0 n).toList != p.f2.toList), fun _ => c5, fun k => ?_⟩
      simp only [spec_l3Apply.l0, if_pos c0, if_pos c1, eP, hn, wN, if_neg c2, if_neg c4, if_pos b0, if_pos c3, Int.toNat_natCast]
/-- A change of small parts laid on a text: whatever it says, it says it. -/
theorem l3Apply_e (L : List S74) (B : Nat) (hB : B = 100000000000) (hL : L.length ≤ 500000000) (hp : ∀ q ∈ L, smP q) : ∀ (d i : Nat) (x1 x6 : ByteArray), i + d = L.length → x1.size ≤ 300 → x6.size + x1.size + 4 * d ≤ B →
    ∃ r, r.1.size ≤ x6.size + x1.size + 4 * d ∧ ∃ K, ∀ k, K ≤ k → spec_l3Apply.l0 k x1 x6 L (L.length : Int) (i : Int) = some r := by
  intro d
  induction d with
  | zero =>
    intro i x1 x6 hi h1 h6
    have c0 : ¬ ((i : Int) < (L.length : Int)) := by omega
    refine ⟨(x6, (x1.toList == ([] : List UInt8))), by show x6.size ≤ _; omega, 0 + 1, fun k hk => ?_⟩
    obtain ⟨k, rfl, hk⟩ := le_pred hk
    simp only [spec_l3Apply.l0, if_neg c0]
  | succ d ih =>
    intro i x1 x6 hi h1 h6
    have hq := hp _ (rd_T61_mem i (by omega : i < L.length))
    generalize eP : rd_T74 L (i : Int) = p at hq
    obtain ⟨q1, q2, q3, q4⟩ := hq
    obtain ⟨n, hn⟩ := Int.eq_ofNat_of_zero_le (by omega : 0 ≤ p.f0 + (p.f2.size : Int))
    obtain ⟨b, hb, e⟩ := ap_step x1 x6 L i n p (by omega) eP hn (by omega)
    cases b with
    | true =>
      refine ⟨((⟨#[]⟩ : ByteArray), false), Nat.zero_le _, 1 + 1, fun k hk => ?_⟩
      obtain ⟨k, rfl, hk2⟩ := le_pred hk
      obtain ⟨k, rfl, hk3⟩ := le_pred (K := 0) hk2
      rw [e]
      exact ap_bad _ _ _ _ _ _ _ _ _
    | false =>
      have hle := hb rfl
      clear hb
      have z1 : (x1.extract 0 n).size = n := by rw [ByteArray.size_extract]; omega
      have z2 : (x1.extract n x1.size).size = x1.size - n := by rw [ByteArray.size_extract]; omega
      by_cases hk0 : p.f0 > 0
      · have z4 : (x6 ++ x1.extract 0 n ++ p.f1).size = x6.size + n + p.f1.size := by rw [size_app, size_app, z1]
        obtain ⟨r, r1, K, r2⟩ := ih (i + 1) (x1.extract n x1.size) (x6 ++ x1.extract 0 n ++ p.f1) (by omega) (by omega) (by rw [z4, z2]; omega)
        rw [z4, z2] at r1
        have e2 := fun k => ap_keep x1 x6 L i n (by omega) p.f0 p.f1 p.f2 k hk0 hle (by omega)
        refine ⟨r, by omega, K + 1 + 1, fun k hk => ?_⟩
        obtain ⟨k, rfl, hk2⟩ := le_pred hk
        obtain ⟨k, rfl, hk3⟩ := le_pred hk2
        rw [e, e2]
        exact r2 k hk3
      · have z5 : (x6 ++ p.f1).size = x6.size + p.f1.size := size_app _ _
        obtain ⟨r, r1, K, r2⟩ := ih (i + 1) (x1.extract n x1.size) (x6 ++ p.f1) (by omega) (by omega) (by rw [z5, z2]; omega)
        rw [z5, z2] at r1
        have e2 := fun k => ap_put x1 x6 L i n (by omega) p.f0 p.f1 p.f2 k hk0 hle (by omega)
        refine ⟨r, by omega, K + 1 + 1, fun k hk => ?_⟩
        obtain ⟨k, rfl, hk2⟩ := le_pred hk
        obtain ⟨k, rfl, hk3⟩ := le_pred hk2
        rw [e, e2]
        exact r2 k hk3
theorem changed_ev {c : List Int} (hc : okCode c) (hcl : c.length ≤ 1048576) (t : ByteArray) (ht : t.size ≤ 300) (a s : Int) (h0 : 0 ≤ a) (h1 : a ≤ 1600000000000000000) :
    ∃ r a' s', r.size ≤ 10000000000 ∧ a ≤ a' ∧ a' ≤ a + 2000000000 ∧ ∃ K, ∀ k, K ≤ k → spec_l1Cur_changed.f k c a s t = some (r, a', s') := by
  obtain ⟨L, a', s', g1, g2, g3, g4, K, g5⟩ := opOn_ev hc hcl t ht a s h0 h1
  have z0 : (⟨#[]⟩ : ByteArray).size = 0 := rfl
  obtain ⟨B, hB⟩ : ∃ w : Nat, w = 100000000000 := ⟨_, rfl⟩
  obtain ⟨r, r1, K2, r2⟩ := l3Apply_e L B hB g1 g2 L.length 0 t (⟨#[]⟩ : ByteArray) (by omega) ht (by rw [z0]; omega)
  rw [z0] at r1
  refine ⟨r.1, a', s', by omega, g3, g4, max K K2, fun k hk => ?_⟩
  have e2 : spec_l3Apply.f k L t = some r := by
    unfold spec_l3Apply.f
    exact r2 k (by omega)
  simp only [spec_l1Cur_changed.f, g5 k (by omega), Option.bind_some, e2]
theorem twoTexts_ev {c : List Int} (hc : okCode c) (hcl : c.length ≤ 1048576) (a s : Int) (h0 : 0 ≤ a) (h1 : a ≤ 1000000000000000000) :
    ∃ x y a' s', x.size ≤ 300 ∧ y.size ≤ 10000000000 ∧ a ≤ a' ∧ a' ≤ a + 10000000000 ∧ ∃ K, ∀ k, K ≤ k → spec_l1Cur_twoTexts.f k c a s = some (x, y, a', s') := by
  obtain ⟨x, a1, s1, p1, p2, p3, K1, p4⟩ := plainText_ev2 hc a s h0 (by omega)
  obtain ⟨r, a2, s2, e2, r1, r2, r3, r4⟩ := pick_ev hc a1 s1 4 (by omega) (by omega) (by omega) (by omega)
  by_cases c0 : r = 0
  · obtain ⟨y, a3, s3, q1, q2, q3, K2, q4⟩ := plainText_ev2 hc a2 s2 (by omega) (by omega)
    refine ⟨x, y, a3, s3, p1, by omega, by omega, by omega, max K1 K2, fun k hk => ?_⟩
    simp only [spec_l1Cur_twoTexts.f, p4 k (by omega), Option.bind_some, e2, if_pos c0, q4 k (by omega)]
  · by_cases c1 : r = 1
    · refine ⟨x, x, a2, s2, p1, by omega, by omega, by omega, K1, fun k hk => ?_⟩
      simp only [spec_l1Cur_twoTexts.f, p4 k (by omega), Option.bind_some, e2, if_neg c0, if_pos c1]
    · obtain ⟨y, a3, s3, q1, q2, q3, K2, q4⟩ := changed_ev hc hcl x p1 a2 s2 (by omega) (by omega)
      refine ⟨x, y, a3, s3, p1, by omega, by omega, by omega, max K1 K2, fun k hk => ?_⟩
      simp only [spec_l1Cur_twoTexts.f, p4 k (by omega), Option.bind_some, e2, if_neg c0, if_neg c1, q4 k (by omega)]

theorem goodOp_ev (l : List S74) (hl : smallL l) : ∃ g, ∃ K, ∀ k, K ≤ k → impl_goodOp.f k l = some (if g then (l, true) else ([], false)) ∧ spec_GoodOp.f k l = some g ∧ impl_GoodOp.f k l = some g := by
  obtain ⟨r, K0, h0⟩ := spec_sizes_ev l hl.1
  obtain ⟨K1, h1⟩ := spec_GoodOp_ev l hl r K0 h0
  obtain ⟨K2, h2⟩ := impl_GoodOp_ev l hl r K0 h0
  refine ⟨goodB l r, K1 + K2, fun k hk => ⟨?_, h1 k (by omega), h2 k (by omega)⟩⟩
  unfold impl_goodOp.f
  rw [h2 k (by omega)]
  cases goodB l r <;> rfl
theorem DiffOps_ev2 (a b : ByteArray) (ha : a.size ≤ 140737488351232) (hb : b.size ≤ 140737488351232) : ∃ (L : List S74) (ok : Bool), smallL L ∧ L.length ≤ 1000 ∧
    ((textB a && textB b) = false → L = [] ∧ ok = false) ∧ (ok = true → (textB a && textB b) = true ∧ L = (diffR a b).reverse.map encP ∧ ∃ K, ∀ k, K ≤ k → impl_GoodOp.f k L = some true) ∧ ∃ K, ∀ k, K ≤ k → impl_DiffOps.f k a b = some (L, ok) ∧ spec_DiffOps.f k a b = some (L, ok) := by
  obtain ⟨K1, h1⟩ := impl_areTexts_ev a b ha hb
  obtain ⟨K2, h2⟩ := spec_l9Texts_ev a b ha hb
  have hs : a.size + b.size < 4611686018427387904 := by omega
  cases ht : textB a && textB b with
  | false =>
    refine ⟨[], false, ⟨Nat.zero_le _, fun x hx => by cases hx⟩, Nat.zero_le _, fun _ => ⟨rfl, rfl⟩, (fun h => by cases h), K1 + K2, fun k hk => ⟨?_, ?_⟩⟩
    · unfold impl_DiffOps.f
      rw [if_pos hs, h1 k (by omega), ht]; rfl
    · unfold spec_DiffOps.f
      rw [h2 k (by omega), ht]; rfl
  | true =>
    have ht' := ht
    simp only [Bool.and_eq_true] at ht'
    have hsa := textB_size ht'.1
    have hsb := textB_size ht'.2
    obtain ⟨i1, i2, i3⟩ := diffR_inv a b
    have hsm := enc_small (diffR a b) (by omega) (by omega)
    obtain ⟨g, K3, h3⟩ := goodOp_ev _ hsm
    obtain ⟨K4, h4⟩ := impl_common_ev a b hsa hsb
    obtain ⟨K5, h5⟩ := spec_l9Table_ev a b hsa hsb
    have e0 : mkL [] ⟨#[]⟩ ⟨#[]⟩ = [] := mkL_nil []
    have h6 := dif_ev a b hsa hsb (a.size + b.size + 1) [] ⟨#[]⟩ ⟨#[]⟩ 0 0 (by omega) (Nat.zero_le _) (Nat.zero_le _) trivial (by rw [e0]; intro x hx; cases hx) (by rw [e0]; simp only [totP]; omega) (by rw [e0]; simp only [List.length_nil]; omega)
    rw [e0] at h6
    obtain ⟨K7, h7⟩ := l9Diff_ev a b hsa hsb (a.size + b.size + 1) [] 0 0 (by omega) (Nat.zero_le _) (Nat.zero_le _) (fun x hx => by cases hx) (by simp only [totP]; omega) (by simp only [List.length_nil]; omega)
    refine ⟨if g then (diffR a b).reverse.map encP else [], g, ?_, ?_, (fun h => by cases h), (fun hg => ⟨rfl, by rw [hg]; rfl, K3, fun k hk => by subst hg; exact (h3 k hk).2.2⟩), K1 + K2 + K3 + K4 + K5 + K7, fun k hk => ⟨?_, ?_⟩⟩
    · cases g
      · exact ⟨Nat.zero_le _, fun x hx => by cases hx⟩
      · exact hsm
    · cases g
      · exact Nat.zero_le _
      · show ((diffR a b).reverse.map encP).length ≤ 1000
        simp; omega
    · unfold impl_DiffOps.f
      rw [if_pos hs, h1 k (by omega), ht, Option.bind_some, if_pos rfl, h4 k (by omega), Option.bind_some]
      have h6' : dif a b (tbl a b) (a.size + b.size + 1) [] ⟨#[]⟩ ⟨#[]⟩ 0 0 = some ((diffR a b).reverse.map encP) := h6
      rw [h6', Option.bind_some, (h3 k (by omega)).1]
      cases g <;> rfl
    · unfold spec_DiffOps.f spec_l9Diff.f
      have h7' : spec_l9Diff.l0 k a b (tbl a b) [] 0 0 = some ((diffR a b).reverse.map encP) := h7 k (by omega)
      rw [h2 k (by omega), ht, Option.bind_some, if_pos rfl, h5 k (by omega), Option.bind_some, h7', Option.bind_some, (h3 k (by omega)).2.1]
      cases g <;> rfl

theorem drawDist_ev {c : List Int} (hc : okCode c) (hcl : c.length ≤ 1048576) : ∃ x y, x.size ≤ 300 ∧ y.size ≤ 10000000000 ∧ ∃ K, ∀ k, K ≤ k → spec_DrawDistanceOf.f k c = some (x, y) := by
  obtain ⟨x, y, a', s', h1, h2, _, _, K, h3⟩ := twoTexts_ev hc hcl 0 0 (by omega) (by omega)
  refine ⟨x, y, h1, h2, K, fun k hk => ?_⟩
  simp only [spec_DrawDistanceOf.f, h3 k hk, Option.bind_some]
theorem wP_mass (q : Pt) : wP q = massP q := by cases q <;> rfl
theorem tot_mass : ∀ (L : List Pt), totP L = mass L
  | [] => rfl
  | q :: L => by simp only [totP, mass, wP_mass, tot_mass L]
theorem draw_ev {c : List Int} (hc : okCode c) (hcl : c.length ≤ 1048576) : ∃ (L : List S74) (t : ByteArray), L.length ≤ 500000000 ∧ (∀ q ∈ L, smP q) ∧ t.size ≤ 1000 ∧ ∃ K, ∀ k, K ≤ k → spec_DrawApplyOp.f k c = some (L, t) := by
  obtain ⟨t0, a1, s1, p1, p2, p3, K1, p4⟩ := plainText_ev2 hc 0 0 (by omega) (by omega)
  obtain ⟨L, a2, s2, g1, g2, g3, g4, K2, g5⟩ := opOn_ev hc hcl t0 p1 a1 s1 (by omega) (by omega)
  obtain ⟨q, a3, s3, e3, f1, f2⟩ := one_ev hc a2 s2 6 (by omega) (by omega) (by omega) (by omega)
  obtain ⟨t, a4, s4, i1, i2, i3, K3, i4⟩ := spoilt_ev hc a3 s3 t0 (⟨#[120, 65]⟩ : ByteArray) (by decide) (by decide) (by omega) (by omega) (by omega)
  cases q with
  | true =>
    refine ⟨L, t, g1, g2, by omega, K1 + K2 + K3, fun k hk => ?_⟩
    simp only [spec_DrawApplyOp.f, p4 k (by omega), g5 k (by omega), e3, i4 k (by omega), Option.bind_some, if_true]
  | false =>
    refine ⟨L, t0, g1, g2, by omega, K1 + K2, fun k hk => ?_⟩
    simp only [spec_DrawApplyOp.f, p4 k (by omega), g5 k (by omega), e3, Option.bind_some, Bool.false_eq_true, if_false]
theorem second_ev {c : List Int} (hc : okCode c) (hcl : c.length ≤ 1048576) : ∃ K, ∀ k, K ≤ k → laws_FnDiff.j1 (k + 3) c = some true := by
  obtain ⟨L, t, g1, g2, ht, K3, h3⟩ := draw_ev hc hcl
  have hsm : smallL L := ⟨by omega, fun x hx => by
    obtain ⟨_, _, q3, q4⟩ := g2 x hx
    exact ⟨by omega, by omega⟩⟩
  obtain ⟨r, K4, h4⟩ := spec_sizes_ev L hsm.1
  obtain ⟨K5, h5⟩ := spec_GoodOp_ev L hsm r K4 h4
  obtain ⟨K6, h6⟩ := impl_GoodOp_ev L hsm r K4 h4
  obtain ⟨cst, K7, h7⟩ := spec_cost_l L hsm.1 L.length 0 (by omega) 0
  obtain ⟨K8, h8⟩ := spec_GoodText_ev t (by omega)
  have es : ∀ k, K5 + K7 ≤ k → spec_CostOf.f k L = some (if goodB L r then (cst, true) else (0, false)) := by
    intro k hk
    have e5 : spec_l9Cost.f k L = some cst := h7 k (by omega)
    unfold spec_CostOf.f
    rw [h5 k (by omega), Option.bind_some]
    cases goodB L r
    · rfl
    · simp only [if_true]; rw [e5]; rfl
  have ei : ∀ k, K6 + K7 ≤ k → impl_CostOf.f k L = some (if goodB L r then (cst, true) else (0, false)) := by
    intro k hk
    have e5 := h7 k (by omega)
    unfold impl_CostOf.f
    rw [h6 k (by omega), Option.bind_some]
    cases goodB L r
    · rfl
    · simp only [if_true]; rw [impl_cost_same]; rw [show ((0 : Nat) : Int) = 0 from rfl] at e5; rw [e5]; rfl
  -- what is applied
  have ap : ∃ (v : ByteArray) (ok : Bool), (ok = true → goodB L r = true ∧ textB t = true ∧ textB v = true ∧ (t.size : Int) + (v.size : Int) - 2 * (lc t v 0 0 : Int) ≤ cst) ∧ ∃ K, ∀ k, K ≤ k → spec_ApplyOp.f (k + 1) L t = some (v, ok) := by
    cases hg : goodB L r with
    | false =>
      refine ⟨⟨#[]⟩, false, (fun h => by cases h), K5, fun k hk => ?_⟩
      unfold spec_ApplyOp.f
      rw [h5 (k + 1) (by omega), hg, Option.bind_some, if_neg (by decide), spec_ApplyOp.j0, if_pos rfl]
    | true =>
      cases htt : textB t with
      | false =>
        refine ⟨⟨#[]⟩, false, (fun h => by cases h), K5 + K8, fun k hk => ?_⟩
        unfold spec_ApplyOp.f
        rw [h5 (k + 1) (by omega), hg, Option.bind_some, if_pos rfl, h8 (k + 1) (by omega), htt, Option.bind_some, spec_ApplyOp.j0, if_pos (by rfl)]
      | true =>
        have hts := textB_size htt
        obtain ⟨B, hB⟩ : ∃ w : Nat, w = 100000000000 := ⟨_, rfl⟩
        have z0 : (⟨#[]⟩ : ByteArray).size = 0 := rfl
        obtain ⟨w, r1, K9, r2⟩ := l3Apply_e L B hB g1 g2 L.length 0 t (⟨#[]⟩ : ByteArray) (by omega) hts (by rw [z0]; omega)
        have e9 : ∀ k, K5 + K8 + K9 ≤ k → spec_ApplyOp.f (k + 1) L t = (if w.2 = true then some (w.1, true) else some ((⟨#[]⟩ : ByteArray), false)) := by
          intro k hk
          unfold spec_ApplyOp.f
          have e : spec_l3Apply.f k L t = some w := by unfold spec_l3Apply.f; exact r2 k (by omega)
          rw [h5 (k + 1) (by omega), hg, Option.bind_some, if_pos rfl, h8 (k + 1) (by omega), htt, Option.bind_some, spec_ApplyOp.j0, if_neg (by decide), e, Option.bind_some]
        obtain ⟨v, ok⟩ := w
        cases ok with
        | false => exact ⟨⟨#[]⟩, false, (fun h => by cases h), K5 + K8 + K9, fun k hk => by rw [e9 k hk, if_neg (by simp)]⟩
        | true =>
          refine ⟨v, true, (fun _ => ⟨rfl, rfl, ?_⟩), K5 + K8 + K9, fun k hk => by rw [e9 k hk, if_pos rfl]⟩
          obtain ⟨M, rfl, hM, hlen, hsz⟩ := good_enc hg
          have hmass := mass_le hM
          have hcss := css_mass M
          have hr2 := r2 K9 (Nat.le_refl _)
          have hrun := ap_run t hts M (by omega) hM v M.length 0 0 ⟨#[]⟩ (by omega) (Nat.zero_le _) K9 (by rw [ba_extract_all]; exact hr2)
          rw [List.drop_zero] at hrun
          obtain ⟨hle, hmk⟩ := least hrun
          have hall : allB v := run_all (st := ((⟨#[]⟩ : ByteArray), 0)) (v := (v, t.size)) ((textB_iff _).1 htt).1 hM (fun j hj => absurd (show j < 0 from hj) (Nat.not_lt_zero j)) hrun
          obtain ⟨Ka, ha⟩ := sizes2_ev M (by omega) (by omega)
          have er := ha (Ka + K4) (by omega)
          rw [h4 (Ka + K4) (by omega)] at er
          have er := Option.some.inj er
          have hv : v.size ≤ 300 := by
            unfold sizesB at hsz
            rw [er] at hsz
            split at hsz
            · have := of_decide_eq_true hsz
              simp only at this
              omega
            · cases hsz
          obtain ⟨Kb, hb⟩ := cost_ev M (by omega) (by omega)
          have ec := hb (Kb + K7) (by omega)
          have ec2 : spec_l9Cost.f (Kb + K7) (M.map encP) = some cst := h7 (Kb + K7) (by omega)
          rw [ec2] at ec
          have ec := Option.some.inj ec
          exact ⟨(textB_iff _).2 ⟨hall, hv⟩, by omega⟩
  obtain ⟨v, ok, hok, K9, h9⟩ := ap
  cases hb : ok with
  | false =>
    subst hb
    refine ⟨K3 + K5 + K6 + K7 + K9, fun k hk => ?_⟩
    rw [laws_FnDiff.j1, h3 (k + 2) (by omega), Option.bind_some, h9 (k + 1) (by omega), Option.bind_some, ei (k + 2) (by omega), Option.bind_some, es (k + 2) (by omega), Option.bind_some, bne_self_eq_false, if_neg (by decide), bne_self_eq_false, laws_FnDiff.j2, if_neg (by decide), if_neg (by simp)]
  | true =>
    subst hb
    obtain ⟨o1, o2, o3, o4⟩ := hok rfl
    obtain ⟨K10, h10⟩ := impl_DistanceOf_ev t v (by omega) (by have := textB_size o3; omega)
    refine ⟨K3 + K5 + K6 + K7 + K9 + K10, fun k hk => ?_⟩
    rw [laws_FnDiff.j1, h3 (k + 2) (by omega), Option.bind_some, h9 (k + 1) (by omega), Option.bind_some, ei (k + 2) (by omega), Option.bind_some, es (k + 2) (by omega), Option.bind_some, bne_self_eq_false, if_neg (by decide), bne_self_eq_false, laws_FnDiff.j2, if_neg (by decide), if_pos rfl, h10 (k + 1) (by omega), o2, o3, o1]
    simp only [Bool.and_self, if_true, Option.bind_some]
    rw [decide_eq_true o4]
theorem FnDiff : laws_FnDiff.Pure := by
  intro l m hl hb hw hl2 hb2 hw2
  have hc := okCode_of hw
  have hc2 := okCode_of hw2
  have hwr : Aside0 (wrap64 ((l.length : Int) + (m.length : Int)) = (l.length : Int) + (m.length : Int)) := ⟨w64 (by omega) (by omega)⟩
  by_cases hbig : (l.length : Int) + (m.length : Int) > 1048576
  · refine ⟨0, ?_⟩
    unfold laws_FnDiff.f
    rw [hwr.out, if_pos hbig]
  · obtain ⟨a, b, sa, sb, K1, h1⟩ := drawDist_ev hc (by omega)
    obtain ⟨L, ok, hL, hlen, -, hgood, K2, h2⟩ := DiffOps_ev2 a b (by omega) (by omega)
    obtain ⟨K3, h3⟩ := sameOps_ev L hL.1
    obtain ⟨K4, h4⟩ := second_ev hc2 (by omega)
    have core : ∃ K, ∀ k, K ≤ k → laws_FnDiff.j0 (k + 4) m a b L ok false = some true := by
      cases hb : ok with
      | false => exact ⟨K4, fun k hk => by rw [laws_FnDiff.j0, if_neg (by decide), if_neg (by decide)]; exact h4 k hk⟩
      | true =>
        obtain ⟨ht, rfl, Kg, hg⟩ := hgood hb
        have ht' := ht
        simp only [Bool.and_eq_true] at ht'
        have hsa := textB_size ht'.1
        have hsb := textB_size ht'.2
        obtain ⟨i1, i2, i3⟩ := diffR_inv a b
        rw [tot_mass] at i2
        have e0 : runP a ([] : List Pt).reverse (⟨#[]⟩, 0) = some (b.extract 0 0, 0) := by rw [ba_extract_same]; rfl
        obtain ⟨r1, r2⟩ := dP_run a b (a.size + b.size + 1) [] 0 0 (by omega) (Nat.zero_le _) (Nat.zero_le _) e0
        have r1 : runP a (diffR a b).reverse (⟨#[]⟩, 0) = some (b, a.size) := r1
        have r2 : css (diffR a b) + 2 * lc a b 0 0 = 0 + (a.size - 0) + (b.size - 0) := r2
        have hcr := css_rev (diffR a b)
        obtain ⟨K7, h7⟩ := applied a ht'.1 (diffR a b) (fun x hx => by have := i1 x hx; rw [wP_mass] at this; exact this) (by omega) b r1 (by omega) ⟨Kg, hg⟩
        obtain ⟨K8, h8⟩ := cost_ev (diffR a b).reverse (by rw [List.length_reverse]; omega) (by omega)
        obtain ⟨K9, h9⟩ := impl_DistanceOf_ev a b (by omega) (by omega)
        rw [ht] at h9
        refine ⟨K4 + K7 + K8 + K9 + Kg, fun k hk => ?_⟩
        have ei : impl_CostOf.f (k + 3) ((diffR a b).reverse.map encP) = some ((css (diffR a b).reverse : Int), true) := by
          have e8 := h8 (k + 3) (by omega)
          unfold spec_l9Cost.f at e8
          unfold impl_CostOf.f
          rw [hg (k + 3) (by omega), Option.bind_some, if_pos rfl, impl_cost_same, e8]
          rfl
        rw [laws_FnDiff.j0, if_neg (by decide), if_pos rfl, h7 (k + 3) (by omega), Option.bind_some, ei, Option.bind_some, h9 (k + 3) (by omega), Option.bind_some]
        simp only [if_true]
        rw [if_pos (by omega)]
        exact h4 k (by omega)
    obtain ⟨K5, h5⟩ := core
    refine ⟨K1 + K2 + K3 + K5 + 4, ?_⟩
    generalize hk : K1 + K2 + K3 + K5 = k
    have e1 := h1 (k + 4) (by omega)
    have e2 := h2 (k + 4) (by omega)
    have e3 := h3 (k + 4) (by omega)
    have e5 := h5 k (by omega)
    clear h1 h2 h3 h4 h5 hk
    unfold laws_FnDiff.f
    rw [hwr.out, if_neg hbig, spec_DrawDiffOps.f, e1, Option.bind_some, Option.bind_some]
    dsimp only
    rw [e2.1, Option.bind_some, e2.2, Option.bind_some]
    dsimp only
    rw [bne_self_eq_false, if_neg (by decide), e3, Option.bind_some]
    exact e5

end Go.Proofs.Ytpbelbckinpinaa.Pure
