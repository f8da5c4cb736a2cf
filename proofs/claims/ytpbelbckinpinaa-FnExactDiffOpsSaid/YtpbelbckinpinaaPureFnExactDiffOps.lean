/- DiffOps of the program answers as the reference's, for all texts, in memory of its own. -/
import Derived.Test.YtpbelbckinpinaaAFnExactDiffOpsx11
set_option linter.unusedVariables false
set_option linter.unusedSimpArgs false
namespace Go.Proofs.Ytpbelbckinpinaa.Pure
open Go.RowKit Go.Proofs.Ytpbelbckinpinaa.AFnExactDiffOps Go.Proofs.YtpbelbckinpinaaW.PrintWords Go.Proofs.YtpbelbckinpinaaW.PrintLast Go.Proofs.YtpbelbckinpinaaW.PrintMore

theorem w64 {i : Int} (h0 : -4611686018427387904 ≤ i) (h : i ≤ 4611686018427387904) : wrap64 i = i := by
  unfold wrap64; omega

def nmB (c : Int) : Bool := decide (65 ≤ c) && decide (c ≤ 70)
def plB (c : Int) : Bool := (decide (97 ≤ c) && decide (c ≤ 122)) || ((decide (48 ≤ c) && decide (c ≤ 57)) || (decide (c = 32) || (decide (c = 46) || decide (c = 44))))
def okB (c : Int) : Bool := nmB c || (plB c || decide (c = 47))
def okN (s : ByteArray) : Nat → Nat → Bool
  | 0, _ => true
  | d + 1, i => okB (bt s i) && okN s d (i + 1)
def textB (s : ByteArray) : Bool := okN s s.size 0 && decide (s.size ≤ 300)

theorem textB_size {s : ByteArray} (h : textB s = true) : s.size ≤ 300 := by
  unfold textB at h; simp at h; exact h.2

theorem impl_isName_eq (c : Int) : impl_isName.f c = some (nmB c) := by
  unfold impl_isName.f nmB
  by_cases h1 : c ≥ 65 <;> simp [h1] <;> omega
theorem impl_isPlain_eq (c : Int) : impl_isPlain.f c = some (plB c) := by
  unfold impl_isPlain.f plB
  by_cases h1 : 97 ≤ c <;> by_cases h2 : c ≤ 122 <;> by_cases h3 : 48 ≤ c <;> by_cases h4 : c ≤ 57 <;> by_cases h5 : c = 32 <;> by_cases h6 : c = 46 <;> simp [h1, h2, h3, h4, h5, h6] <;> rfl
theorem impl_GoodText_l (s : ByteArray) (hs : s.size ≤ 140737488351232) : ∀ (d i : Nat), i + d = s.size →
    ∃ K, ∀ k, K ≤ k → impl_GoodText.l0 k s (s.size : Int) (i : Int) = some (okN s d i && decide (s.size ≤ 300)) := by
  intro d
  induction d with
  | zero =>
    intro i hi
    refine ⟨1, fun k hk => ?_⟩
    obtain ⟨k, rfl⟩ : ∃ m, k = m + 1 := ⟨k - 1, by omega⟩
    simp only [impl_GoodText.l0]
    rw [if_neg (by omega)]
    simp [okN]
    omega
  | succ d ih =>
    intro i hi
    obtain ⟨K, hK⟩ := ih (i + 1) (by omega)
    refine ⟨K + 1, fun k hk => ?_⟩
    obtain ⟨k, rfl⟩ : ∃ m, k = m + 1 := ⟨k - 1, by omega⟩
    have hr := hK k (by omega)
    simp only [impl_GoodText.l0]
    rw [if_pos (by omega), if_pos (by omega), if_pos (by omega), impl_isName_eq, Option.bind_some, impl_isPlain_eq, Option.bind_some, w64 (by omega) (by omega)]
    have hc : ((i : Int) + 1) = ((i + 1 : Nat) : Int) := by omega
    rw [hc, hr]
    show _ = some ((okB (bt s i) && okN s d (i + 1)) && _)
    unfold okB
    cases nmB (bt s i) <;> cases plB (bt s i) <;> by_cases h : bt s i = 47 <;> simp [h]
theorem impl_GoodText_ev (s : ByteArray) (hs : s.size ≤ 140737488351232) : ∃ K, ∀ k, K ≤ k → impl_GoodText.f k s = some (textB s) := by
  obtain ⟨K, hK⟩ := impl_GoodText_l s hs s.size 0 (by omega)
  exact ⟨K, fun k hk => by unfold impl_GoodText.f; exact hK k hk⟩

theorem spec_l1Open_eq (c : Int) : spec_l1Open.f c = some (nmB c) := by
  unfold spec_l1Open.f nmB
  by_cases h1 : c ≥ 65 <;> simp [h1] <;> omega
theorem spec_l1Plain_eq (c : Int) : spec_l1Plain.f c = some (plB c) := by
  unfold spec_l1Plain.f plB
  by_cases h1 : 97 ≤ c <;> by_cases h2 : c ≤ 122 <;> by_cases h3 : 48 ≤ c <;> by_cases h4 : c ≤ 57 <;> by_cases h5 : c = 32 <;> by_cases h6 : c = 46 <;> simp [h1, h2, h3, h4, h5, h6] <;> rfl
theorem spec_l1Text_l (s : ByteArray) (hs : s.size ≤ 140737488351232) : ∀ (d i : Nat), i + d = s.size →
    ∃ K, ∀ k, K ≤ k → spec_l1Text.l0 k s (i : Int) = some (okN s d i) := by
  intro d
  induction d with
  | zero =>
    intro i hi
    refine ⟨1, fun k hk => ?_⟩
    obtain ⟨k, rfl⟩ : ∃ m, k = m + 1 := ⟨k - 1, by omega⟩
    simp only [spec_l1Text.l0]
    rw [if_neg (by omega)]
    simp [okN]
  | succ d ih =>
    intro i hi
    obtain ⟨K, hK⟩ := ih (i + 1) (by omega)
    refine ⟨K + 1, fun k hk => ?_⟩
    obtain ⟨k, rfl⟩ : ∃ m, k = m + 1 := ⟨k - 1, by omega⟩
    have hr := hK k (by omega)
    simp only [spec_l1Text.l0]
    rw [if_pos (by omega), if_pos (by omega), spec_l1Open_eq, Option.bind_some, spec_l1Plain_eq, Option.bind_some, w64 (by omega) (by omega)]
    have hc : ((i : Int) + 1) = ((i + 1 : Nat) : Int) := by omega
    rw [hc, hr]
    show _ = some (okB (bt s i) && okN s d (i + 1))
    unfold okB
    cases nmB (bt s i) <;> cases plB (bt s i) <;> by_cases h : bt s i = 47 <;> simp [h]
theorem spec_GoodText_ev (s : ByteArray) (hs : s.size ≤ 140737488351232) : ∃ K, ∀ k, K ≤ k → spec_GoodText.f k s = some (textB s) := by
  obtain ⟨K, hK⟩ := spec_l1Text_l s hs s.size 0 (by omega)
  refine ⟨K, fun k hk => ?_⟩
  have h := hK k hk
  unfold spec_GoodText.f spec_l1Text.f
  simp only [Int.cast_ofNat_Int] at h
  rw [h, Option.bind_some]
  unfold textB
  cases okN s s.size 0 <;> simp <;> omega

theorem impl_areTexts_ev (a b : ByteArray) (ha : a.size ≤ 140737488351232) (hb : b.size ≤ 140737488351232) : ∃ K, ∀ k, K ≤ k → impl_areTexts.f k a b = some (textB a && textB b) := by
  obtain ⟨K, hK⟩ := impl_GoodText_ev a ha
  obtain ⟨K', hK'⟩ := impl_GoodText_ev b hb
  refine ⟨max K K', fun k hk => ?_⟩
  have h1 := hK k (by omega)
  have h2 := hK' k (by omega)
  unfold impl_areTexts.f
  rw [h1, Option.bind_some, h2, Option.bind_some]
  cases textB a <;> simp
theorem spec_l9Texts_ev (a b : ByteArray) (ha : a.size ≤ 140737488351232) (hb : b.size ≤ 140737488351232) : ∃ K, ∀ k, K ≤ k → spec_l9Texts.f k a b = some (textB a && textB b) := by
  obtain ⟨K, hK⟩ := spec_GoodText_ev a ha
  obtain ⟨K', hK'⟩ := spec_GoodText_ev b hb
  refine ⟨max K K', fun k hk => ?_⟩
  have h1 := hK k (by omega)
  have h2 := hK' k (by omega)
  unfold spec_l9Texts.f
  rw [h1, Option.bind_some, h2, Option.bind_some]
  cases textB a <;> simp

def lcs : List Int → List Int → Nat
  | [], _ => 0
  | _ :: _, [] => 0
  | x :: xs, y :: ys => if x = y then lcs xs ys + 1 else max (lcs xs (y :: ys)) (lcs (x :: xs) ys)
termination_by xs ys => xs.length + ys.length
theorem lcs_nil (ys : List Int) : lcs [] ys = 0 := by rw [lcs]
theorem lcs_nil_right (xs : List Int) : lcs xs [] = 0 := by cases xs <;> rw [lcs]
theorem lcs_cons (x : Int) (xs : List Int) (y : Int) (ys : List Int) : lcs (x :: xs) (y :: ys) = if x = y then lcs xs ys + 1 else max (lcs xs (y :: ys)) (lcs (x :: xs) ys) := by rw [lcs]
theorem lcs_le : ∀ (n : Nat) (xs ys : List Int), xs.length + ys.length ≤ n → lcs xs ys ≤ xs.length := by
  intro n
  induction n with
  | zero => intro xs ys h; have : xs = [] := List.eq_nil_of_length_eq_zero (by omega)
            subst this; rw [lcs_nil]; omega
  | succ n ih =>
    intro xs ys h
    cases xs with
    | nil => rw [lcs_nil]; omega
    | cons x xs =>
      cases ys with
      | nil => rw [lcs_nil_right]; omega
      | cons y ys =>
        rw [lcs_cons]
        simp only [List.length_cons] at *
        have h1 := ih xs ys (by omega)
        have h2 := ih xs (y :: ys) (by simp only [List.length_cons]; omega)
        have h3 := ih (x :: xs) ys (by simp only [List.length_cons]; omega)
        simp only [List.length_cons] at h3
        split <;> omega
def BL (s : ByteArray) : List Int := (List.range s.size).map fun (i : Nat) => bt s (i : Int)
theorem BL_length (s : ByteArray) : (BL s).length = s.size := by unfold BL; simp
theorem BL_drop (s : ByteArray) (i : Nat) (h : i < s.size) : (BL s).drop i = bt s (i : Int) :: (BL s).drop (i + 1) := by
  rw [List.drop_eq_getElem_cons (by rw [BL_length]; exact h)]
  congr 1
  unfold BL; simp
theorem BL_drop_end (s : ByteArray) (i : Nat) (h : s.size ≤ i) : (BL s).drop i = [] := List.drop_of_length_le (by rw [BL_length]; exact h)
def lc (a b : ByteArray) (i j : Nat) : Nat := lcs ((BL a).drop i) ((BL b).drop j)
theorem lc_end_left (a b : ByteArray) (i j : Nat) (h : a.size ≤ i) : lc a b i j = 0 := by unfold lc; rw [BL_drop_end a i h, lcs_nil]
theorem lc_end_right (a b : ByteArray) (i j : Nat) (h : b.size ≤ j) : lc a b i j = 0 := by unfold lc; rw [BL_drop_end b j h, lcs_nil_right]
theorem lc_step (a b : ByteArray) (i j : Nat) (hi : i < a.size) (hj : j < b.size) : lc a b i j = if bt a (i : Int) = bt b (j : Int) then lc a b (i + 1) (j + 1) + 1 else max (lc a b (i + 1) j) (lc a b i (j + 1)) := by
  unfold lc
  rw [BL_drop a i hi, BL_drop b j hj, lcs_cons]
theorem lc_le (a b : ByteArray) (i j : Nat) : lc a b i j ≤ a.size := by
  have := lcs_le _ ((BL a).drop i) ((BL b).drop j) (Nat.le_refl _)
  unfold lc
  rw [List.length_drop, BL_length] at this
  omega
def RowIs (row : List Int) (n : Nat) (f : Nat → Nat) : Prop := row.length = n + 1 ∧ ∀ j : Nat, j ≤ n → rd row (j : Int) = (f j : Int)
def tbl (a b : ByteArray) : List (List Int) := (List.range (a.size + 1)).map fun i => (List.range (b.size + 1)).map fun j => (lc a b i j : Int)
theorem rd_get (l : List Int) (j : Nat) (h : j < l.length) : rd l (j : Int) = l[j] := by unfold rd; simp [List.getD, h]
theorem RowIs.eq {row : List Int} {n : Nat} {f : Nat → Nat} (h : RowIs row n f) : row = (List.range (n + 1)).map fun j => (f j : Int) := by
  apply List.ext_getElem
  · simp [h.1]
  · intro j h1 h2
    simp only [List.getElem_map, List.getElem_range]
    rw [← rd_get row j h1]; exact h.2 j (by have := h.1; omega)
theorem tbl_eq {a b : ByteArray} {t : List (List Int)} (hl : t.length = a.size + 1) (h : ∀ i : Nat, i ≤ a.size → RowIs (rd_L3 t (i : Int)) b.size (lc a b i)) : t = tbl a b := by
  unfold tbl
  apply List.ext_getElem
  · simp [hl]
  · intro i h1 h2
    simp only [List.getElem_map, List.getElem_range]
    rw [← (h i (by omega)).eq]
    unfold rd_L3; simp [List.getD, h1]
theorem tbl_get (a b : ByteArray) (i j : Nat) (hi : i ≤ a.size) (hj : j ≤ b.size) : rd (rd_L3 (tbl a b) (i : Int)) (j : Int) = (lc a b i j : Int) := by
  unfold rd rd_L3 tbl
  simp [List.getD, (by omega : i < a.size + 1), (by omega : j < b.size + 1)]
theorem tbl_length (a b : ByteArray) : (tbl a b).length = a.size + 1 := by simp [tbl]
theorem tbl_row_length (a b : ByteArray) (i : Nat) (hi : i ≤ a.size) : (rd_L3 (tbl a b) (i : Int)).length = b.size + 1 := by
  unfold rd_L3 tbl
  simp [List.getD, (by omega : i < a.size + 1)]
theorem rdL_set {t : List (List Int)} {i : Nat} {v : List Int} (h : i < t.length) (j : Nat) : rd_L3 (t.set i v) (j : Int) = if j = i then v else rd_L3 t (j : Int) := by
  unfold rd_L3
  simp only [Int.toNat_natCast, List.getD_eq_getElem?_getD]
  by_cases e : j = i
  · subst e; simp [h]
  · rw [List.getElem?_set_ne (by omega)]; simp [e]
theorem rdR_set {bs : List Int} {i : Nat} {v : Int} (h : i < bs.length) (j : Nat) : rd (bs.set i v) (j : Int) = if j = i then v else rd bs (j : Int) := by
  unfold rd
  simp only [Int.toNat_natCast, List.getD_eq_getElem?_getD]
  by_cases e : j = i
  · subst e; simp [h]
  · rw [List.getElem?_set_ne (by omega)]; simp [e]
theorem RowIs.zeros (n : Nat) (f : Nat → Nat) (h : ∀ j, j ≤ n → f j = 0) : RowIs (List.replicate (n + 1) 0) n f := by
  refine ⟨by simp, fun j hj => ?_⟩
  rw [h j hj]; unfold rd
  simp [List.getD, (by omega : j < n + 1)]

theorem impl_common_in (a b : ByteArray) (ha : a.size ≤ 300) (hb : b.size ≤ 300) (i : Nat) (hi : i < a.size)
    (H : ∀ t : List (List Int), t.length = a.size + 1 → (∀ r : Nat, i ≤ r → r ≤ a.size → RowIs (rd_L3 t (r : Int)) b.size (lc a b r)) → ∃ K, ∀ k, K ≤ k → impl_common.l0 k a b t ((i : Int) - 1) = some (tbl a b)) :
    ∀ (d : Nat) (t : List (List Int)), d ≤ b.size → t.length = a.size + 1 → (∀ r : Nat, i < r → r ≤ a.size → RowIs (rd_L3 t (r : Int)) b.size (lc a b r)) →
      (rd_L3 t (i : Int)).length = b.size + 1 → (∀ j : Nat, d ≤ j → j ≤ b.size → rd (rd_L3 t (i : Int)) (j : Int) = (lc a b i j : Int)) →
      ∃ K, ∀ k, K ≤ k → impl_common.l1 k a b t (i : Int) ((d : Int) - 1) = some (tbl a b) := by
  intro d
  induction d with
  | zero =>
    intro t hd hl hr hlen hrow
    obtain ⟨K, hK⟩ := H t hl (fun r h1 h2 => by
      by_cases e : r = i
      · subst e; exact ⟨hlen, fun j hj => hrow j (by omega) hj⟩
      · exact hr r (by omega) h2)
    refine ⟨K + 1, fun k hk => ?_⟩
    obtain ⟨k, rfl⟩ : ∃ m, k = m + 1 := ⟨k - 1, by omega⟩
    simp only [impl_common.l1]
    simp (disch := omega) only [w64, if_neg]
    exact hK k (by omega)
  | succ d ih =>
    intro t hd hl hr hlen hrow
    have hnext := hr (i + 1) (by omega) (by omega)
    have hs := lc_step a b i d hi (by omega)
    have hle1 := lc_le a b (i + 1) (d + 1)
    have hnl := hnext.1
    have hv1 := hnext.2 (d + 1) (by omega)
    have hv2 := hnext.2 d (by omega)
    have hv3 := hrow (d + 1) (by omega) (by omega)
    have c1 : ((i + 1 : Nat) : Int) = (i : Int) + 1 := by omega
    have c2 : ((d + 1 : Nat) : Int) = (d : Int) + 1 := by omega
    rw [c1] at hnl hv1 hv2
    rw [c2] at hv1 hv3
    obtain ⟨K, hK⟩ := ih (t.set i ((rd_L3 t (i : Int)).set d (lc a b i d : Int))) (by omega) (by simpa using hl)
      (fun r h1 h2 => by rw [rdL_set (by omega), if_neg (by omega)]; exact hr r h1 h2)
      (by rw [rdL_set (by omega), if_pos rfl, List.length_set]; exact hlen)
      (fun j h1 h2 => by
        rw [rdL_set (by omega), if_pos rfl, rdR_set (by omega)]
        by_cases e : j = d
        · rw [if_pos e, e]
        · rw [if_neg e]; exact hrow j (by omega) h2)
    refine ⟨K + 1, fun k hk => ?_⟩
    obtain ⟨k, rfl⟩ : ∃ m, k = m + 1 := ⟨k - 1, by omega⟩
    have hk' := hK k (by omega)
    simp only [impl_common.l1]
    rw [c2]
    simp only [Int.add_sub_cancel]
    by_cases c : bt a (i : Int) = bt b (d : Int)
    · rw [if_pos c] at hs
      have hs' : (lc a b i d : Int) = (lc a b (i + 1) (d + 1) : Int) + 1 := by omega
      rw [hs'] at hk'
      simp (disch := omega) only [w64, if_pos, Int.toNat_natCast, hv1]
      exact hk'
    · rw [if_neg c] at hs
      have hs' : mx (lc a b (i + 1) d : Int) (lc a b i (d + 1) : Int) = (lc a b i d : Int) := by unfold mx; omega
      simp (disch := omega) only [w64, if_pos, if_neg, Int.toNat_natCast, hv2, hv3, hs']
      exact hk'
theorem impl_common_out (a b : ByteArray) (ha : a.size ≤ 300) (hb : b.size ≤ 300) : ∀ (e : Nat) (t : List (List Int)), e ≤ a.size → t.length = a.size + 1 →
    (∀ r : Nat, e ≤ r → r ≤ a.size → RowIs (rd_L3 t (r : Int)) b.size (lc a b r)) → ∃ K, ∀ k, K ≤ k → impl_common.l0 k a b t ((e : Int) - 1) = some (tbl a b) := by
  intro e
  induction e with
  | zero =>
    intro t he hl hr
    refine ⟨1, fun k hk => ?_⟩
    obtain ⟨k, rfl⟩ : ∃ m, k = m + 1 := ⟨k - 1, by omega⟩
    simp only [impl_common.l0]
    rw [if_neg (by omega), tbl_eq hl (fun i hi => hr i (by omega) hi)]
  | succ e ih =>
    intro t he hl hr
    obtain ⟨K, hK⟩ := impl_common_in a b ha hb e (by omega) (fun t h1 h2 => ih t (by omega) h1 h2) b.size (t.set e (List.replicate (b.size + 1) 0)) (by omega) (by simpa using hl)
      (fun r h1 h2 => by rw [rdL_set (by omega), if_neg (by omega)]; exact hr r h1 h2)
      (by rw [rdL_set (by omega), if_pos rfl, List.length_replicate])
      (fun j h1 h2 => by
        rw [rdL_set (by omega), if_pos rfl, lc_end_right a b e j h1]
        unfold rd; simp [List.getD, (by omega : j < b.size + 1)])
    refine ⟨K + 1, fun k hk => ?_⟩
    obtain ⟨k, rfl⟩ : ∃ m, k = m + 1 := ⟨k - 1, by omega⟩
    have hk' := hK k (by omega)
    simp only [impl_common.l0]
    rw [show ((e + 1 : Nat) : Int) - 1 = (e : Int) by omega]
    simp (disch := omega) only [w64, if_pos, Int.toNat_natCast]
    exact hk'
theorem impl_common_ev (a b : ByteArray) (ha : a.size ≤ 300) (hb : b.size ≤ 300) : ∃ K, ∀ k, K ≤ k → impl_common.f k a b = some (tbl a b) := by
  obtain ⟨K, hK⟩ := impl_common_out a b ha hb a.size ((List.replicate (a.size + 1) ([] : List Int)).set a.size (List.replicate (b.size + 1) 0)) (by omega) (by simp)
    (fun r h1 h2 => by
      have : r = a.size := by omega
      subst this
      rw [rdL_set (by simp), if_pos rfl]
      exact RowIs.zeros _ _ (fun j _ => lc_end_left a b _ j (by omega)))
  refine ⟨K, fun k hk => ?_⟩
  have := hK k hk
  unfold impl_common.f
  simp (disch := omega) only [w64, if_pos, Option.bind_some]
  have e1 : ((b.size : Int) + 1).toNat = b.size + 1 := by omega
  have e2 : ((a.size : Int) + 1).toNat = a.size + 1 := by omega
  simp only [e1, e2, List.length_replicate, Int.toNat_natCast]
  rw [if_pos (by omega)]
  exact this

theorem spec_l9Table_in (a b : ByteArray) (ha : a.size ≤ 300) (hb : b.size ≤ 300) (i : Nat) (hi : i < a.size)
    (H : ∀ t : List (List Int), t.length = a.size + 1 → (∀ r : Nat, i ≤ r → r ≤ a.size → RowIs (rd_L3 t (r : Int)) b.size (lc a b r)) → (∀ r : Nat, r < i → rd_L3 t (r : Int) = List.replicate (b.size + 1) 0) →
      ∃ K, ∀ k, K ≤ k → spec_l9Table.l1 k a b t ((i : Int) - 1) = some (tbl a b)) :
    ∀ (d : Nat) (t : List (List Int)), d ≤ b.size → t.length = a.size + 1 → (∀ r : Nat, i < r → r ≤ a.size → RowIs (rd_L3 t (r : Int)) b.size (lc a b r)) → (∀ r : Nat, r < i → rd_L3 t (r : Int) = List.replicate (b.size + 1) 0) →
      (rd_L3 t (i : Int)).length = b.size + 1 → (∀ j : Nat, d ≤ j → j ≤ b.size → rd (rd_L3 t (i : Int)) (j : Int) = (lc a b i j : Int)) →
      ∃ K, ∀ k, K ≤ k → spec_l9Table.l2 k a b t (i : Int) ((d : Int) - 1) = some (tbl a b) := by
  intro d
  induction d with
  | zero =>
    intro t hd hl hr hz hlen hrow
    obtain ⟨K, hK⟩ := H t hl (fun r h1 h2 => by
      by_cases e : r = i
      · subst e; exact ⟨hlen, fun j hj => hrow j (by omega) hj⟩
      · exact hr r (by omega) h2) hz
    refine ⟨K + 1, fun k hk => ?_⟩
    obtain ⟨k, rfl⟩ : ∃ m, k = m + 1 := ⟨k - 1, by omega⟩
    simp only [spec_l9Table.l2]
    simp (disch := omega) only [w64, if_neg]
    exact hK k (by omega)
  | succ d ih =>
    intro t hd hl hr hz hlen hrow
    have hnext := hr (i + 1) (by omega) (by omega)
    have hs := lc_step a b i d hi (by omega)
    have hle1 := lc_le a b (i + 1) (d + 1)
    have hnl := hnext.1
    have hv1 := hnext.2 (d + 1) (by omega)
    have hv2 := hnext.2 d (by omega)
    have hv3 := hrow (d + 1) (by omega) (by omega)
    have c1 : ((i + 1 : Nat) : Int) = (i : Int) + 1 := by omega
    have c2 : ((d + 1 : Nat) : Int) = (d : Int) + 1 := by omega
    rw [c1] at hnl hv1 hv2
    rw [c2] at hv1 hv3
    obtain ⟨K, hK⟩ := ih (t.set i ((rd_L3 t (i : Int)).set d (lc a b i d : Int))) (by omega) (by simpa using hl)
      (fun r h1 h2 => by rw [rdL_set (by omega), if_neg (by omega)]; exact hr r h1 h2)
      (fun r h1 => by rw [rdL_set (by omega), if_neg (by omega)]; exact hz r h1)
      (by rw [rdL_set (by omega), if_pos rfl, List.length_set]; exact hlen)
      (fun j h1 h2 => by
        rw [rdL_set (by omega), if_pos rfl, rdR_set (by omega)]
        by_cases e : j = d
        · rw [if_pos e, e]
        · rw [if_neg e]; exact hrow j (by omega) h2)
    refine ⟨K + 1, fun k hk => ?_⟩
    obtain ⟨k, rfl⟩ : ∃ m, k = m + 1 := ⟨k - 1, by omega⟩
    have hk' := hK k (by omega)
    simp only [spec_l9Table.l2]
    rw [c2]
    simp only [Int.add_sub_cancel]
    by_cases c : bt a (i : Int) = bt b (d : Int)
    · rw [if_pos c] at hs
      have hs' : (lc a b i d : Int) = (lc a b (i + 1) (d + 1) : Int) + 1 := by omega
      rw [hs'] at hk'
      simp (disch := omega) only [w64, if_pos, Int.toNat_natCast, hv1]
      exact hk'
    · rw [if_neg c] at hs
      by_cases g : (lc a b (i + 1) d : Int) ≥ (lc a b i (d + 1) : Int)
      · have hs' : (lc a b i d : Int) = (lc a b (i + 1) d : Int) := by omega
        rw [hs'] at hk'
        simp (disch := omega) only [w64, if_pos, if_neg, Int.toNat_natCast, hv2, hv3]
        exact hk'
      · have hs' : (lc a b i d : Int) = (lc a b i (d + 1) : Int) := by omega
        rw [hs'] at hk'
        simp (disch := omega) only [w64, if_pos, if_neg, Int.toNat_natCast, hv2, hv3]
        exact hk'
theorem spec_l9Table_out (a b : ByteArray) (ha : a.size ≤ 300) (hb : b.size ≤ 300) : ∀ (e : Nat) (t : List (List Int)), e ≤ a.size → t.length = a.size + 1 →
    (∀ r : Nat, e ≤ r → r ≤ a.size → RowIs (rd_L3 t (r : Int)) b.size (lc a b r)) → (∀ r : Nat, r < e → rd_L3 t (r : Int) = List.replicate (b.size + 1) 0) → ∃ K, ∀ k, K ≤ k → spec_l9Table.l1 k a b t ((e : Int) - 1) = some (tbl a b) := by
  intro e
  induction e with
  | zero =>
    intro t he hl hr hz
    refine ⟨1, fun k hk => ?_⟩
    obtain ⟨k, rfl⟩ : ∃ m, k = m + 1 := ⟨k - 1, by omega⟩
    simp only [spec_l9Table.l1]
    rw [if_neg (by omega), tbl_eq hl (fun i hi => hr i (by omega) hi)]
  | succ e ih =>
    intro t he hl hr hz
    obtain ⟨K, hK⟩ := spec_l9Table_in a b ha hb e (by omega) (fun t h1 h2 h3 => ih t (by omega) h1 h2 h3) b.size t (by omega) hl
      (fun r h1 h2 => hr r (by omega) h2) (fun r h1 => hz r (by omega))
      (by rw [hz e (by omega), List.length_replicate])
      (fun j h1 h2 => by
        rw [hz e (by omega), lc_end_right a b e j h1]
        unfold rd; simp [List.getD, (by omega : j < b.size + 1)])
    refine ⟨K + 1, fun k hk => ?_⟩
    obtain ⟨k, rfl⟩ : ∃ m, k = m + 1 := ⟨k - 1, by omega⟩
    have hk' := hK k (by omega)
    simp only [spec_l9Table.l1]
    rw [show ((e + 1 : Nat) : Int) - 1 = (e : Int) by omega]
    simp (disch := omega) only [w64, if_pos, Int.toNat_natCast]
    exact hk'
theorem spec_l9Table_z (a b : ByteArray) (ha : a.size ≤ 300) (hb : b.size ≤ 300) : ∀ (d i : Nat) (t : List (List Int)), i + d = a.size + 1 → t.length = a.size + 1 →
    (∀ r : Nat, r < i → rd_L3 t (r : Int) = List.replicate (b.size + 1) 0) → ∃ K, ∀ k, K ≤ k → spec_l9Table.l0 k a b t ((a.size + 1 : Nat) : Int) (i : Int) = some (tbl a b) := by
  intro d
  induction d with
  | zero =>
    intro i t hi hl hz
    obtain ⟨K, hK⟩ := spec_l9Table_out a b ha hb a.size t (by omega) hl
      (fun r h1 h2 => by rw [hz r (by omega)]; exact RowIs.zeros _ _ (fun j _ => lc_end_left a b _ j (by omega))) (fun r h1 => hz r (by omega))
    refine ⟨K + 1, fun k hk => ?_⟩
    obtain ⟨k, rfl⟩ : ∃ m, k = m + 1 := ⟨k - 1, by omega⟩
    have hk' := hK k (by omega)
    simp only [spec_l9Table.l0]
    simp (disch := omega) only [w64, if_neg]
    exact hk'
  | succ d ih =>
    intro i t hi hl hz
    obtain ⟨K, hK⟩ := ih (i + 1) (t.set i (List.replicate (b.size + 1) 0)) (by omega) (by simpa using hl) (fun r h1 => by
      rw [rdL_set (by omega)]
      by_cases e : r = i
      · rw [if_pos e]
      · rw [if_neg e]; exact hz r (by omega))
    refine ⟨K + 1, fun k hk => ?_⟩
    obtain ⟨k, rfl⟩ : ∃ m, k = m + 1 := ⟨k - 1, by omega⟩
    have hk' := hK k (by omega)
    simp only [spec_l9Table.l0]
    simp (disch := omega) only [w64, if_pos, Int.toNat_natCast]
    have e1 : ((b.size : Int) + 1).toNat = b.size + 1 := by omega
    simp only [e1]
    rw [show (i : Int) + 1 = ((i + 1 : Nat) : Int) by omega]
    exact hk'
theorem spec_l9Table_ev (a b : ByteArray) (ha : a.size ≤ 300) (hb : b.size ≤ 300) : ∃ K, ∀ k, K ≤ k → spec_l9Table.f k a b = some (tbl a b) := by
  obtain ⟨K, hK⟩ := spec_l9Table_z a b ha hb (a.size + 1) 0 (List.replicate (a.size + 1) ([] : List Int)) (by omega) (by simp) (fun r h => by omega)
  refine ⟨K, fun k hk => ?_⟩
  have := hK k hk
  unfold spec_l9Table.f
  simp (disch := omega) only [w64, if_pos, Option.bind_some]
  have e2 : ((a.size : Int) + 1).toNat = a.size + 1 := by omega
  simp only [e2, List.length_replicate]
  exact this

theorem toList_data (s : ByteArray) : s.toList = s.data.toList := by
  have h : ∀ (n i : Nat) (r : List UInt8), s.size - i = n → ByteArray.toList.loop s i r = r.reverse ++ s.data.toList.drop i := by
    intro n
    induction n with
    | zero =>
      intro i r h
      unfold ByteArray.toList.loop
      rw [if_neg (by omega), List.drop_of_length_le (by rw [Array.length_toList]; show s.size ≤ i; omega)]; simp
    | succ n ih =>
      intro i r h
      have hi : i < s.size := by omega
      unfold ByteArray.toList.loop
      have e2 : s.data.toList.drop i = s.data.toList[i]'(by rw [Array.length_toList]; exact hi) :: s.data.toList.drop (i + 1) := List.drop_eq_getElem_cons (by rw [Array.length_toList]; exact hi)
      have e : s.get! i = s.data.toList[i]'(by rw [Array.length_toList]; exact hi) := by
        show s.data[i]! = _
        rw [getElem!_pos s.data i hi]; simp
      rw [if_pos hi, ih (i + 1) _ (by omega), e2, e, List.reverse_cons, List.append_assoc]; rfl
  unfold ByteArray.toList
  rw [h s.size 0 [] (by omega)]; simp
theorem bt_data (s : ByteArray) (i : Nat) (h : i < s.size) : bt s (i : Int) = ((s.data.toList[i]'(by rw [Array.length_toList]; exact h)).toNat : Int) := by
  unfold bt
  rw [dif_pos (by omega)]
  simp [ByteArray.getElem_eq_getElem_data]
theorem toList_eq_iff (a b : ByteArray) : a.toList = b.toList ↔ a.size = b.size ∧ ∀ j : Nat, j < a.size → bt a (j : Int) = bt b (j : Int) := by
  rw [toList_data, toList_data]
  constructor
  · intro h
    have hl : a.size = b.size := by
      have := congrArg List.length h
      rw [Array.length_toList, Array.length_toList] at this; exact this
    refine ⟨hl, fun j hj => ?_⟩
    rw [bt_data a j hj, bt_data b j (by omega)]
    simp only [h]
  · intro ⟨hl, h⟩
    apply List.ext_getElem
    · rw [Array.length_toList, Array.length_toList]; exact hl
    · intro j h1 h2
      rw [Array.length_toList] at h1 h2
      have := h j h1
      rw [bt_data a j h1, bt_data b j h2] at this
      have h3 : (a.data.toList[j]'(by rw [Array.length_toList]; exact h1)).toNat = (b.data.toList[j]'(by rw [Array.length_toList]; exact h2)).toNat := by omega
      exact UInt8.toNat_inj.mp h3
theorem bt_extract (s : ByteArray) (i j n : Nat) (hj : j ≤ s.size) (hn : i + n < j) : bt (s.extract i j) (n : Int) = bt s ((i + n : Nat) : Int) := by
  have h1 : n < (s.extract i j).size := by rw [ByteArray.size_extract]; omega
  unfold bt
  rw [dif_pos (by simpa using h1), dif_pos (by omega)]
  simp only [Int.toNat_natCast, ByteArray.getElem_extract]

/-! parts and changes -/
def small (x : S74) : Prop := x.f1.size ≤ 140737488351232 ∧ x.f2.size ≤ 140737488351232
def smallL (l : List S74) : Prop := l.length ≤ 3518437208780 ∧ ∀ x ∈ l, small x
theorem small_z : small z74 := ⟨by decide, by decide⟩
theorem small_rd {l : List S74} (h : smallL l) (i : Int) : small (rd_T74 l i) := by
  unfold rd_T74
  rw [List.getD_eq_getElem?_getD]
  cases e : l[i.toNat]? with
  | none => exact small_z
  | some x => exact h.2 x (List.mem_of_getElem? e)
def partB (a : Int) (b c : ByteArray) : Bool :=
  if a = 0 then (if b.toList = [] then (if c.toList = [] then false else textB c) else (if c.toList = [] then textB b else false))
  else (decide (1 ≤ a) && decide (a ≤ 300)) && (if b.toList = [] then c.toList == [] else false)
def pN (l : List S74) : Nat → Nat → Bool
  | 0, _ => true
  | d + 1, i => partB (rd_T74 l (i : Int)).f0 (rd_T74 l (i : Int)).f1 (rd_T74 l (i : Int)).f2 && pN l d (i + 1)
def sizesB (r : Int × Int) : Bool := if r.1 ≤ 300 then decide (r.2 ≤ 300) else false

theorem spec_l3Part_ev (a : Int) (b c : ByteArray) (hb : b.size ≤ 140737488351232) (hc : c.size ≤ 140737488351232) : ∃ K, ∀ k, K ≤ k → spec_l3Part.f k a b c = some (partB a b c) := by
  obtain ⟨K1, h1⟩ := spec_GoodText_ev b hb
  obtain ⟨K2, h2⟩ := spec_GoodText_ev c hc
  refine ⟨K1 + K2, fun k hk => ?_⟩
  unfold spec_l3Part.f partB spec_l1In.f
  rw [h1 k (by omega), h2 k (by omega)]
  by_cases e0 : a = 0
  · simp only [if_pos e0, Option.bind_some]
    by_cases e1 : b.toList = [] <;> by_cases e2 : c.toList = [] <;> simp [e1, e2]
  · simp only [if_neg e0]
    by_cases e1 : a ≥ 1
    · by_cases e2 : a ≤ 300
      · simp only [if_pos e1, Option.bind_some, decide_eq_true e2, if_pos, decide_eq_true e1, Bool.and_self, Bool.true_and]
        by_cases e3 : b.toList = [] <;> simp [e3]
      · simp [e1, e2]
    · simp only [if_neg e1, Option.bind_some]
      simp
      intro h
      omega
theorem spec_sizes_l (l : List S74) (hl : l.length ≤ 3518437208780) : ∀ (d i : Nat), i + d = l.length → ∀ a b : Int, ∃ r K, ∀ k, K ≤ k → spec_l3Sizes.l0 k a b l (l.length : Int) (i : Int) = some r := by
  intro d
  induction d with
  | zero =>
    intro i hi a b
    refine ⟨(a, b), 1, fun k hk => ?_⟩
    obtain ⟨k, rfl⟩ : ∃ m, k = m + 1 := ⟨k - 1, by omega⟩
    simp only [spec_l3Sizes.l0]
    rw [if_neg (by omega)]
  | succ d ih =>
    intro i hi a b
    obtain ⟨r, K, hK⟩ := ih (i + 1) (by omega) (wrap64 (a + (wrap64 (((rd_T74 l (i : Int)).f0) + (((rd_T74 l (i : Int)).f2).size : Int))))) (wrap64 (b + (wrap64 (((rd_T74 l (i : Int)).f0) + (((rd_T74 l (i : Int)).f1).size : Int)))))
    refine ⟨r, K + 1, fun k hk => ?_⟩
    obtain ⟨k, rfl⟩ : ∃ m, k = m + 1 := ⟨k - 1, by omega⟩
    have hr := hK k (by omega)
    simp only [spec_l3Sizes.l0]
    rw [if_pos (by omega), if_pos (by omega), if_pos (by omega), w64 (i := (i : Int) + 1) (by omega) (by omega)]
    exact hr
theorem spec_sizes_ev (l : List S74) (hl : l.length ≤ 3518437208780) : ∃ r K, ∀ k, K ≤ k → spec_l3Sizes.f k l = some r :=
  spec_sizes_l l hl l.length 0 (by omega) 0 0
theorem spec_GoodOp_l (l : List S74) (hl : smallL l) (r : Int × Int) (K0 : Nat) (h0 : ∀ k, K0 ≤ k → spec_l3Sizes.f k l = some r) : ∀ (d i : Nat), i + d = l.length → ∃ K, ∀ k, K ≤ k → spec_GoodOp.l0 k l l (l.length : Int) (i : Int) = some (pN l d i && sizesB r) := by
  have hl1 := hl.1
  intro d
  induction d with
  | zero =>
    intro i hi
    refine ⟨K0 + 1, fun k hk => ?_⟩
    obtain ⟨k, rfl⟩ : ∃ m, k = m + 1 := ⟨k - 1, by omega⟩
    simp only [spec_GoodOp.l0]
    rw [if_neg (by omega), h0 k (by omega), Option.bind_some]
    unfold sizesB pN
    by_cases e : r.1 ≤ 300 <;> simp [e]
  | succ d ih =>
    intro i hi
    obtain ⟨K, hK⟩ := ih (i + 1) (by omega)
    have hs := small_rd hl (i : Int)
    obtain ⟨K1, h1⟩ := spec_l3Part_ev (rd_T74 l (i : Int)).f0 _ _ hs.1 hs.2
    refine ⟨K + K1 + 1, fun k hk => ?_⟩
    obtain ⟨k, rfl⟩ : ∃ m, k = m + 1 := ⟨k - 1, by omega⟩
    have hr := hK k (by omega)
    simp only [spec_GoodOp.l0]
    rw [if_pos (by omega), if_pos (by omega), if_pos (by omega), h1 k (by omega), Option.bind_some, w64 (by omega) (by omega)]
    have hc : ((i : Int) + 1) = ((i + 1 : Nat) : Int) := by omega
    rw [hc, hr]
    rw [show pN l (d + 1) i = (partB (rd_T74 l (i : Int)).f0 (rd_T74 l (i : Int)).f1 (rd_T74 l (i : Int)).f2 && pN l d (i + 1)) from rfl]
    cases partB (rd_T74 l (i : Int)).f0 (rd_T74 l (i : Int)).f1 (rd_T74 l (i : Int)).f2 <;> simp
def goodB (l : List S74) (r : Int × Int) : Bool := decide (l.length ≤ 60) && (pN l l.length 0 && sizesB r)
theorem spec_GoodOp_ev (l : List S74) (hl : smallL l) (r : Int × Int) (K0 : Nat) (h0 : ∀ k, K0 ≤ k → spec_l3Sizes.f k l = some r) : ∃ K, ∀ k, K ≤ k → spec_GoodOp.f k l = some (goodB l r) := by
  obtain ⟨K, hK⟩ := spec_GoodOp_l l hl r K0 h0 l.length 0 (by omega)
  refine ⟨K, fun k hk => ?_⟩
  have h := hK k hk
  unfold spec_GoodOp.f goodB
  by_cases e : (l.length : Int) > 60
  · rw [if_pos e, decide_eq_false (by omega)]; rfl
  · rw [if_neg e, decide_eq_true (by omega), Bool.true_and]
    exact h

theorem impl_sizes_same (l : List S74) : ∀ k a b i, impl_sizes.l0 k a b l (l.length : Int) i = spec_l3Sizes.l0 k a b l (l.length : Int) i := by
  intro k
  induction k with
  | zero => intro a b i; rfl
  | succ k ih =>
    intro a b i
    simp only [impl_sizes.l0, spec_l3Sizes.l0, ih]
theorem impl_sizes_ev (l : List S74) (k : Nat) : impl_sizes.f k l = spec_l3Sizes.f k l := impl_sizes_same l k 0 0 0
theorem impl_isPart_ev (a : Int) (b c : ByteArray) (hb : b.size ≤ 140737488351232) (hc : c.size ≤ 140737488351232) : ∃ K, ∀ k, K ≤ k → impl_Part_isPart.f k a b c = some (partB a b c) := by
  obtain ⟨K1, h1⟩ := impl_GoodText_ev b hb
  obtain ⟨K2, h2⟩ := impl_GoodText_ev c hc
  refine ⟨K1 + K2, fun k hk => ?_⟩
  unfold impl_Part_isPart.f partB
  rw [h1 k (by omega), h2 k (by omega)]
  by_cases e0 : a = 0
  · simp only [if_pos e0, Option.bind_some]
    by_cases e1 : b.toList = [] <;> by_cases e2 : c.toList = [] <;> simp [e1, e2]
  · simp only [if_neg e0]
    by_cases e1 : a ≥ 1
    · by_cases e2 : a ≤ 300
      · simp only [if_pos e1, if_pos e2, decide_eq_true e2, decide_eq_true e1, Bool.and_self, Bool.true_and]
        by_cases e3 : b.toList = [] <;> simp [e3]
      · simp [e1, e2]
    · simp only [if_neg e1]
      simp
      intro h
      omega
theorem impl_Part_128_l (l : List S74) (hl : smallL l) : ∀ (d i : Nat), i + d = l.length → ∃ t : Int, decide (t ≥ 0) = !(pN l d i) ∧ ∃ K, ∀ k, K ≤ k → impl_Part_128.l0 k l (l.length : Int) (i : Int) = some t := by
  have hl1 := hl.1
  intro d
  induction d with
  | zero =>
    intro i hi
    refine ⟨-1, rfl, 1, fun k hk => ?_⟩
    obtain ⟨k, rfl⟩ : ∃ m, k = m + 1 := ⟨k - 1, by omega⟩
    simp only [impl_Part_128.l0]
    rw [if_neg (by omega)]
  | succ d ih =>
    intro i hi
    have hs := small_rd hl (i : Int)
    obtain ⟨K1, h1⟩ := impl_isPart_ev (rd_T74 l (i : Int)).f0 _ _ hs.1 hs.2
    cases hp : partB (rd_T74 l (i : Int)).f0 (rd_T74 l (i : Int)).f1 (rd_T74 l (i : Int)).f2 with
    | false =>
      refine ⟨(i : Int), by unfold pN; rw [hp]; simp, K1 + 1, fun k hk => ?_⟩
      obtain ⟨k, rfl⟩ : ∃ m, k = m + 1 := ⟨k - 1, by omega⟩
      simp only [impl_Part_128.l0, impl_GoodOp_1.f]
      rw [if_pos (by omega), if_pos (by omega), if_pos (by omega), h1 k (by omega), hp]
      rfl
    | true =>
      obtain ⟨t, ht, K, hK⟩ := ih (i + 1) (by omega)
      refine ⟨t, by unfold pN; rw [hp, ht, Bool.true_and], K + K1 + 1, fun k hk => ?_⟩
      obtain ⟨k, rfl⟩ : ∃ m, k = m + 1 := ⟨k - 1, by omega⟩
      have hr := hK k (by omega)
      simp only [impl_Part_128.l0, impl_GoodOp_1.f]
      rw [if_pos (by omega), if_pos (by omega), if_pos (by omega), h1 k (by omega), hp, w64 (by omega) (by omega)]
      exact hr
theorem impl_GoodOp_ev (l : List S74) (hl : smallL l) (r : Int × Int) (K0 : Nat) (h0 : ∀ k, K0 ≤ k → spec_l3Sizes.f k l = some r) : ∃ K, ∀ k, K ≤ k → impl_GoodOp.f k l = some (goodB l r) := by
  obtain ⟨t, ht, K, hK⟩ := impl_Part_128_l l hl l.length 0 (by omega)
  refine ⟨K + K0, fun k hk => ?_⟩
  have h : impl_Part_128.f k l = some t := hK k (by omega)
  unfold impl_GoodOp.f goodB impl_Part_95.f
  by_cases e : (l.length : Int) > 60
  · rw [if_pos e, decide_eq_false (by omega)]; rfl
  · rw [if_neg e, decide_eq_true (by omega), h, Bool.true_and]
    simp only [Option.bind_some, ht]
    rw [impl_sizes_ev, h0 k (by omega), Option.bind_some]
    unfold sizesB
    cases pN l l.length 0 <;> by_cases e1 : r.1 ≤ 300 <;> simp [e1]

theorem eqPartS_l (l : List S74) (hl : l.length ≤ 3518437208780) : ∀ (d i : Nat), i + d = l.length → ∃ K, ∀ k, K ≤ k → laws_eqPartS.l0 k l l (i : Int) = some true := by
  intro d
  induction d with
  | zero =>
    intro i hi
    refine ⟨1, fun k hk => ?_⟩
    obtain ⟨k, rfl⟩ : ∃ m, k = m + 1 := ⟨k - 1, by omega⟩
    simp only [laws_eqPartS.l0]
    rw [if_neg (by omega)]
  | succ d ih =>
    intro i hi
    obtain ⟨K, hK⟩ := ih (i + 1) (by omega)
    refine ⟨K + 1, fun k hk => ?_⟩
    obtain ⟨k, rfl⟩ : ∃ m, k = m + 1 := ⟨k - 1, by omega⟩
    simp only [laws_eqPartS.l0, laws_eqPart.f, if_true, Option.bind_some]
    rw [if_pos (by omega), if_pos (by omega), if_pos (by omega), w64 (by omega) (by omega)]
    exact hK k (by omega)
theorem eqPartS_ev (l : List S74) (hl : l.length ≤ 3518437208780) : ∃ K, ∀ k, K ≤ k → laws_eqPartS.f k l l = some true := by
  obtain ⟨K, hK⟩ := eqPartS_l l hl l.length 0 (by omega)
  exact ⟨K, fun k hk => by unfold laws_eqPartS.f; rw [if_pos rfl]; exact hK k hk⟩

/-! changes as lists of simple parts, and what they make -/
theorem ba_nil_append (a : ByteArray) : (⟨#[]⟩ : ByteArray) ++ a = a := by
  apply ByteArray.ext; simp [ByteArray.data_append]
theorem ba_append_nil (a : ByteArray) : a ++ (⟨#[]⟩ : ByteArray) = a := by
  apply ByteArray.ext; simp [ByteArray.data_append]
theorem ba_assoc (a b c : ByteArray) : a ++ b ++ c = a ++ (b ++ c) := by
  apply ByteArray.ext; simp [ByteArray.data_append]
theorem ba_of_toList {a b : ByteArray} (h : a.toList = b.toList) : a = b := by
  rw [toList_data, toList_data] at h
  apply ByteArray.ext
  exact Array.toList_inj.mp h
theorem ba_extract_extract (s : ByteArray) (a i j : Nat) (hj : a + j ≤ s.size) : (s.extract a s.size).extract i j = s.extract (a + i) (a + j) := by
  apply ByteArray.ext
  simp only [ByteArray.data_extract, Array.extract_extract]
  congr 1
  exact Nat.min_eq_left hj
theorem ba_extract_end (s : ByteArray) (a i : Nat) (hi : a + i ≤ s.size) : (s.extract a s.size).extract i (s.extract a s.size).size = s.extract (a + i) s.size := by
  have : (s.extract a s.size).size = s.size - a := by rw [ByteArray.size_extract]; omega
  rw [this, ba_extract_extract s a i (s.size - a) (by omega)]
  congr 1
  omega
theorem ba_extract_add (s : ByteArray) (a b c : Nat) (h1 : a ≤ b) (h2 : b ≤ c) : s.extract a b ++ s.extract b c = s.extract a c := by
  apply ByteArray.ext
  simp only [ByteArray.data_append, ByteArray.data_extract, Array.extract_append_extract]
  congr 1 <;> omega
theorem ba_extract_same (s : ByteArray) (a : Nat) : s.extract a a = ⟨#[]⟩ := by
  apply ByteArray.ext
  simp only [ByteArray.data_extract]
  apply Array.eq_empty_of_size_eq_zero
  simp
  omega
theorem ba_extract_all (s : ByteArray) : s.extract 0 s.size = s := by
  apply ByteArray.ext
  simp only [ByteArray.data_extract]
  exact Array.extract_size
inductive Pt
  | K (n : Nat)
  | W (w : ByteArray)
  | D (d : ByteArray)
def encP : Pt → S74
  | .K n => ⟨(n : Int), ⟨#[]⟩, ⟨#[]⟩⟩
  | .W w => ⟨0, w, ⟨#[]⟩⟩
  | .D d => ⟨0, ⟨#[]⟩, d⟩
/-- What stands in front lies reversed: the last part is the head. -/
def addP : List Pt → Pt → List Pt
  | .K a :: r, .K b => .K (a + b) :: r
  | .D a :: r, .D b => .D (a ++ b) :: r
  | .W a :: r, .W b => .W (a ++ b) :: r
  | .D d :: .W a :: r, .W b => .D d :: .W (a ++ b) :: r
  | .D d :: r, .W b => .D d :: .W b :: r
  | r, q => q :: r

def okP : Pt → Prop
  | .K n => 0 < n ∧ n ≤ 1000000
  | .W w => 0 < w.size ∧ w.size ≤ 1000000
  | .D d => 0 < d.size ∧ d.size ≤ 1000000
theorem nil_toList : (⟨#[]⟩ : ByteArray).toList = ([] : List UInt8) := by rw [toList_data]
theorem pos_toList {w : ByteArray} (h : 0 < w.size) : ¬ w.toList = ([] : List UInt8) := by
  rw [toList_data]
  intro e
  have := congrArg List.length e
  rw [Array.length_toList] at this
  have e2 : w.data.size = 0 := this
  have e3 : w.data.size = w.size := rfl
  omega
theorem rd_last (M : List S74) (x : S74) : rd_T74 (M ++ [x]) (M.length : Int) = x := by
  unfold rd_T74
  rw [Int.toNat_natCast, List.getD_eq_getElem?_getD, List.getElem?_append_right (Nat.le_refl _)]
  simp
theorem rd_last2 (M : List S74) (x y : S74) : rd_T74 (M ++ [x] ++ [y]) (M.length : Int) = x := by
  unfold rd_T74
  rw [Int.toNat_natCast, List.getD_eq_getElem?_getD, List.append_assoc, List.getElem?_append_right (Nat.le_refl _)]
  simp
theorem set_last (M : List S74) (x y : S74) : (M ++ [x]).set (M.length : Int).toNat y = M ++ [y] := by
  rw [Int.toNat_natCast, List.set_append_right _ _ (Nat.le_refl _)]
  simp
theorem set_last2 (M : List S74) (x z y : S74) : (M ++ [x] ++ [z]).set (M.length : Int).toNat y = M ++ [y] ++ [z] := by
  rw [Int.toNat_natCast, List.append_assoc, List.set_append_right _ _ (Nat.le_refl _)]
  simp
theorem idx1 (M : List S74) (x : S74) (h : M.length ≤ 1000000) : wrap64 (((M ++ [x]).length : Int) - 1) = (M.length : Int) := by
  rw [List.length_append, List.length_singleton, w64 (by omega) (by omega)]; omega
theorem idx2 (M : List S74) (x y : S74) (h : M.length ≤ 1000000) : wrap64 (((M ++ [x] ++ [y]).length : Int) - 2) = (M.length : Int) := by
  simp only [List.length_append, List.length_singleton]
  rw [w64 (by omega) (by omega)]; omega
theorem encP_rev (r : List Pt) (x : Pt) : (x :: r).reverse.map encP = r.reverse.map encP ++ [encP x] := by
  rw [List.reverse_cons, List.map_append]; rfl
theorem l3Add_0 (k : Nat) (q : Pt) (hq : okP q) : spec_l3Add.f (k + 5) [] (encP q).f0 (encP q).f1 (encP q).f2 = some [encP q] := by
  cases q with
  | K n => have h : ¬ n = 0 := by have := hq.1; omega
           simp [spec_l3Add.f, spec_l3Add.j0, encP, h]
  | W w => simp [spec_l3Add.f, spec_l3Add.j0, encP, pos_toList hq.1]
  | D d => simp [spec_l3Add.f, spec_l3Add.j0, encP, pos_toList hq.1, nil_toList]
theorem l3Add_K (k : Nat) (L : List S74) (N : Nat) (hL : L.length = N + 1) (hN : N ≤ 1000000) (x : S74) (hx : rd_T74 L (N : Int) = x) (n : Nat) (hn : 0 < n) :
    spec_l3Add.f (k + 5) L (n : Int) ⟨#[]⟩ ⟨#[]⟩ = if x.f0 > 0 then some (L.set N ⟨wrap64 (x.f0 + n), x.f1, x.f2⟩) else some (L ++ [⟨(n : Int), ⟨#[]⟩, ⟨#[]⟩⟩]) := by
  have hl : ¬ (L.length : Int) = 0 := by omega
  have hi : wrap64 ((L.length : Int) - 1) = (N : Int) := by rw [w64 (by omega) (by omega)]; omega
  have h0 : (0 : Int) ≤ (N : Int) := by omega
  have h1 : (N : Int) < (L.length : Int) := by omega
  have h2 : L.length < 3518437208883 := by omega
  have e0 : ¬ (n : Int) = 0 := by omega
  have e1 : (n : Int) > 0 := by omega
  simp only [spec_l3Add.f, if_neg e0, spec_l3Add.j0, Bool.false_eq_true, if_false, if_neg hl, hi, if_pos h0, if_pos h1, if_pos e1, hx, spec_l3Add.j1, spec_l3Add.j2, spec_l3Add.j3, spec_l3Add.j4, if_pos h2, nil_toList, if_true, Int.toNat_natCast, decide_eq_true_eq]
theorem l3Add_W (k : Nat) (L : List S74) (N : Nat) (hL : L.length = N + 1) (hN : N ≤ 1000000) (x : S74) (hx : rd_T74 L (N : Int) = x) (w : ByteArray) (hw : 0 < w.size) (hw2 : w.size ≤ 1000000) (hx2 : x.f1.size ≤ 1000000) (y : S74) (hy : 1 ≤ N → rd_T74 L ((N - 1 : Nat) : Int) = y) (hy2 : y.f1.size ≤ 1000000) :
    spec_l3Add.f (k + 5) L 0 w ⟨#[]⟩ = if x.f1.toList ≠ [] then some (L.set N ⟨x.f0, x.f1 ++ w, x.f2⟩) else if x.f2.toList ≠ [] then
      (if 1 ≤ N ∧ y.f1.toList ≠ [] then some (L.set (N - 1) ⟨y.f0, y.f1 ++ w, y.f2⟩) else some (L.set N ⟨0, w, ⟨#[]⟩⟩ ++ [x])) else some (L ++ [⟨0, w, ⟨#[]⟩⟩]) := by
  have hl : ¬ (L.length : Int) = 0 := by omega
  have hi : wrap64 ((L.length : Int) - 1) = (N : Int) := by rw [w64 (by omega) (by omega)]; omega
  have h0 : (0 : Int) ≤ (N : Int) := by omega
  have h1 : (N : Int) < (L.length : Int) := by omega
  have h2 : L.length < 3518437208883 := by omega
  have e1 : ¬ (0 : Int) > 0 := by omega
  have hw' := pos_toList hw
  have s1 : x.f1.size + w.size ≤ 9223372036854775807 := by omega
  have s2 : y.f1.size + w.size ≤ 9223372036854775807 := by omega
  simp only [spec_l3Add.f, if_neg hw', spec_l3Add.j0, Bool.false_eq_true, if_false, if_neg hl, hi, if_pos h0, if_pos h1, if_neg e1, hx, spec_l3Add.j1, spec_l3Add.j2, spec_l3Add.j3, nil_toList, if_true, Int.toNat_natCast, if_pos s1]
  by_cases c1 : x.f1.toList = []
  · simp only [c1, bne_self_eq_false, Bool.false_eq_true, if_false, ne_eq, not_true_eq_false, if_neg hw', spec_l3Add.j4]
    by_cases c2 : x.f2.toList = []
    · simp only [c2, bne_self_eq_false, Bool.false_eq_true, if_false, not_true_eq_false, if_pos h2]
    · have c2' : (x.f2.toList != []) = true := bne_iff_ne.mpr c2
      simp only [c2', if_true, not_false_eq_true, c2]
      by_cases c3 : 1 ≤ N
      · have hj : wrap64 ((L.length : Int) - 2) = ((N - 1 : Nat) : Int) := by rw [w64 (by omega) (by omega)]; omega
        have h3 : (0 : Int) ≤ ((N - 1 : Nat) : Int) := by omega
        have h4 : ((N - 1 : Nat) : Int) < (L.length : Int) := by omega
        have h5 : (L.length : Int) > 1 := by omega
        simp only [if_pos h5, hj, if_pos h3, if_pos h4, hy c3, hi, if_pos h0, if_pos h1, hx, Int.toNat_natCast, if_pos s2, c3, true_and, Option.bind_some, List.length_set, if_pos h2]
        by_cases c4 : y.f1.toList = []
        · simp [c4]
        · simp [c4]
      · have h5 : ¬ (L.length : Int) > 1 := by omega
        simp only [if_neg h5, hi, if_pos h0, if_pos h1, Int.toNat_natCast, c3, false_and, if_false, Option.bind_some, List.length_set, if_pos h2]
  · have c1' : (x.f1.toList != []) = true := bne_iff_ne.mpr c1
    simp only [c1', if_true, ne_eq, c1, not_false_eq_true]
theorem l3Add_D (k : Nat) (L : List S74) (N : Nat) (hL : L.length = N + 1) (hN : N ≤ 1000000) (x : S74) (hx : rd_T74 L (N : Int) = x) (d : ByteArray) (hd : 0 < d.size) (hd2 : d.size ≤ 1000000) (hx2 : x.f2.size ≤ 1000000) :
    spec_l3Add.f (k + 5) L 0 ⟨#[]⟩ d = if x.f2.toList ≠ [] then some (L.set N ⟨x.f0, x.f1, x.f2 ++ d⟩) else some (L ++ [⟨0, ⟨#[]⟩, d⟩]) := by
  have hl : ¬ (L.length : Int) = 0 := by omega
  have hi : wrap64 ((L.length : Int) - 1) = (N : Int) := by rw [w64 (by omega) (by omega)]; omega
  have h0 : (0 : Int) ≤ (N : Int) := by omega
  have h1 : (N : Int) < (L.length : Int) := by omega
  have h2 : L.length < 3518437208883 := by omega
  have e1 : ¬ (0 : Int) > 0 := by omega
  have hd' := pos_toList hd
  have hd'' : (d.toList == []) = false := beq_eq_false_iff_ne.mpr hd'
  have s1 : x.f2.size + d.size ≤ 9223372036854775807 := by omega
  simp only [spec_l3Add.f, nil_toList, if_true, hd'', spec_l3Add.j0, Bool.false_eq_true, if_false, if_neg hl, hi, if_pos h0, if_pos h1, if_neg e1, hx, spec_l3Add.j1, spec_l3Add.j2, spec_l3Add.j3, spec_l3Add.j4, if_neg hd', Int.toNat_natCast, if_pos s1, if_pos h2]
  by_cases c1 : x.f2.toList = []
  · simp [c1]
  · simp [c1]

theorem l3Add_nil (k : Nat) (L : List S74) : spec_l3Add.f (k + 5) L 0 ⟨#[]⟩ ⟨#[]⟩ = some L := by
  simp [spec_l3Add.f, spec_l3Add.j0, nil_toList]
theorem set_at (M : List S74) (x y : S74) : (M ++ [x]).set M.length y = M ++ [y] := by
  rw [List.set_append_right _ _ (Nat.le_refl _)]
  simp
theorem set_at2 (M : List S74) (x z y : S74) : (M ++ [x] ++ [z]).set M.length y = M ++ [y] ++ [z] := by
  rw [List.append_assoc, List.set_append_right _ _ (Nat.le_refl _)]
  simp
theorem l3Add_enc (k : Nat) (r : List Pt) (hr : r.length ≤ 1000000) (hok : ∀ x ∈ r, okP x) (q : Pt) (hq : okP q) :
    spec_l3Add.f (k + 5) (r.reverse.map encP) (encP q).f0 (encP q).f1 (encP q).f2 = some ((addP r q).reverse.map encP) := by
  match r with
  | [] => exact l3Add_0 k q hq
  | x :: r =>
    have hx := hok x (List.mem_cons_self)
    have hr' : r.length ≤ 1000000 := by simp at hr; omega
    rw [encP_rev]
    have hN : ((r.reverse.map encP).length) = r.length := by simp
    have hL : (r.reverse.map encP ++ [encP x]).length = r.length + 1 := by simp
    have hrd : rd_T74 (r.reverse.map encP ++ [encP x]) (r.length : Int) = encP x := by rw [← hN]; exact rd_last _ _
    have hset : ∀ y, (r.reverse.map encP ++ [encP x]).set r.length y = r.reverse.map encP ++ [y] := by intro y; rw [← hN]; exact set_at _ _ _
    have plain : ∀ q' : Pt, addP (x :: r) q' = q' :: x :: r → (addP (x :: r) q').reverse.map encP = r.reverse.map encP ++ [encP x] ++ [encP q'] := by
      intro q' h; rw [h, encP_rev, encP_rev]
    cases q with
    | K n =>
      rw [show (encP (.K n)).f0 = (n : Int) from rfl, show (encP (.K n)).f1 = ⟨#[]⟩ from rfl, show (encP (.K n)).f2 = ⟨#[]⟩ from rfl]
      rw [l3Add_K k _ r.length hL hr' (encP x) hrd n hq.1]
      cases x with
      | K m =>
        have h1 := hx.1
        have h2 := hx.2
        have h3 := hq.2
        rw [if_pos (show (encP (.K m)).f0 > 0 by show (m : Int) > 0; omega), hset]
        show _ = some ((Pt.K (m + n) :: r).reverse.map encP)
        rw [encP_rev]
        show some (_ ++ [(⟨wrap64 ((m : Int) + (n : Int)), ⟨#[]⟩, ⟨#[]⟩⟩ : S74)]) = some (_ ++ [(⟨((m + n : Nat) : Int), ⟨#[]⟩, ⟨#[]⟩⟩ : S74)])
        rw [w64 (by omega) (by omega)]
        rfl
      | W w =>
        rw [if_neg (show ¬ (encP (.W w)).f0 > 0 by show ¬ (0 : Int) > 0; omega), plain (.K n) rfl]; rfl
      | D d =>
        rw [if_neg (show ¬ (encP (.D d)).f0 > 0 by show ¬ (0 : Int) > 0; omega), plain (.K n) rfl]; rfl
    | W w =>
      rw [show (encP (.W w)).f0 = (0 : Int) from rfl, show (encP (.W w)).f1 = w from rfl, show (encP (.W w)).f2 = ⟨#[]⟩ from rfl]
      have hx1 : (encP x).f1.size ≤ 1000000 := by
        cases x with
        | K m => exact Nat.zero_le _
        | W a => exact hx.2
        | D d => exact Nat.zero_le _
      match r, hr', hN, hL, hrd, hset, plain, hok with
      | [], hr', hN, hL, hrd, hset, plain, hok =>
        rw [l3Add_W k _ 0 hL hr' (encP x) hrd w hq.1 hq.2 hx1 z74 (fun h => by omega) (by decide)]
        cases x with
        | K m => rw [if_neg (by simp [encP, nil_toList]), if_neg (by simp [encP, nil_toList]), plain (.W w) rfl]; rfl
        | W a => rw [if_pos (by exact pos_toList hx.1)]; rfl
        | D d => rw [if_neg (by simp [encP, nil_toList]), if_pos (by exact pos_toList hx.1), if_neg (by omega)]; rfl
      | y :: r, hr', hN, hL, hrd, hset, plain, hok =>
        have hy := hok y (List.mem_cons_of_mem _ List.mem_cons_self)
        have hy1 : (encP y).f1.size ≤ 1000000 := by
          cases y with
          | K m => exact Nat.zero_le _
          | W a => exact hy.2
          | D d => exact Nat.zero_le _
        have hN2 : ((r.reverse.map encP).length) = r.length := by simp
        have hrd2 : rd_T74 ((y :: r).reverse.map encP ++ [encP x]) (((y :: r).length - 1 : Nat) : Int) = encP y := by
          rw [encP_rev, List.length_cons, Nat.add_sub_cancel, ← hN2]; exact rd_last2 _ _ _
        have hset2 : ∀ z, ((y :: r).reverse.map encP ++ [encP x]).set ((y :: r).length - 1) z = r.reverse.map encP ++ [z] ++ [encP x] := by
          intro z; rw [encP_rev, List.length_cons, Nat.add_sub_cancel, ← hN2]; exact set_at2 _ _ _ _
        rw [l3Add_W k _ (y :: r).length hL hr' (encP x) hrd w hq.1 hq.2 hx1 (encP y) (fun _ => hrd2) hy1]
        cases x with
        | K m => rw [if_neg (by simp [encP, nil_toList]), if_neg (by simp [encP, nil_toList]), plain (.W w) rfl]; rfl
        | W a => rw [if_pos (by exact pos_toList hx.1), hset]; show _ = some ((Pt.W (a ++ w) :: y :: r).reverse.map encP); rw [encP_rev (y :: r) (Pt.W (a ++ w))]; rfl
        | D d =>
          rw [if_neg (by simp [encP, nil_toList]), if_pos (by exact pos_toList hx.1)]
          cases y with
          | K m =>
            rw [if_neg (by simp [encP, nil_toList]), hset]
            show _ = some ((Pt.D d :: Pt.W w :: Pt.K m :: r).reverse.map encP)
            rw [encP_rev (.W w :: .K m :: r) (.D d), encP_rev (.K m :: r) (.W w)]; rfl
          | W a =>
            rw [if_pos ⟨by simp, by exact pos_toList hy.1⟩, hset2]
            show _ = some ((Pt.D d :: Pt.W (a ++ w) :: r).reverse.map encP)
            rw [encP_rev (.W (a ++ w) :: r) (.D d), encP_rev r (.W (a ++ w))]; rfl
          | D b =>
            rw [if_neg (by simp [encP, nil_toList]), hset]
            show _ = some ((Pt.D d :: Pt.W w :: Pt.D b :: r).reverse.map encP)
            rw [encP_rev (.W w :: .D b :: r) (.D d), encP_rev (.D b :: r) (.W w)]; rfl
    | D d =>
      rw [show (encP (.D d)).f0 = (0 : Int) from rfl, show (encP (.D d)).f1 = ⟨#[]⟩ from rfl, show (encP (.D d)).f2 = d from rfl]
      have hx2 : (encP x).f2.size ≤ 1000000 := by
        cases x with
        | K m => exact Nat.zero_le _
        | W a => exact Nat.zero_le _
        | D d => exact hx.2
      rw [l3Add_D k _ r.length hL hr' (encP x) hrd d hq.1 hq.2 hx2]
      cases x with
      | K m => rw [if_neg (by simp [encP, nil_toList]), plain (.D d) rfl]; rfl
      | W a => rw [if_neg (by simp [encP, nil_toList]), plain (.D d) rfl]; rfl
      | D b =>
        rw [if_pos (by exact pos_toList hx.1), hset]
        show _ = some ((Pt.D (b ++ d) :: r).reverse.map encP)
        rw [encP_rev]; rfl

/-! a maker's state as a list of simple parts -/
def wP : Pt → Nat
  | .K n => n
  | .W w => w.size
  | .D d => d.size
def totP : List Pt → Nat
  | [] => 0
  | q :: r => wP q + totP r
theorem addP_tot (r : List Pt) (q : Pt) : totP (addP r q) = totP r + wP q := by
  unfold addP
  split <;> simp only [totP, wP, ByteArray.size_append] <;> omega
theorem addP_len (r : List Pt) (q : Pt) : (addP r q).length ≤ r.length + 1 := by
  unfold addP
  split <;> simp only [List.length_cons] <;> omega
def posP (r : List Pt) : Prop := ∀ x ∈ r, 0 < wP x
theorem posP_cons {q : Pt} {r : List Pt} : posP (q :: r) ↔ 0 < wP q ∧ posP r := by
  unfold posP
  simp only [List.mem_cons, forall_eq_or_imp]
theorem addP_pos (r : List Pt) (q : Pt) (hr : posP r) (hq : 0 < wP q) : posP (addP r q) := by
  unfold addP
  split <;> simp only [posP_cons, wP, ByteArray.size_append] at * <;> refine ⟨?_, ?_⟩ <;> first | omega | (simp_all; done) | (refine ⟨?_, ?_⟩ <;> first | omega | (simp_all; done)) | (simp_all; omega)
theorem wP_le_tot (r : List Pt) : ∀ x ∈ r, wP x ≤ totP r := by
  induction r with
  | nil => intro x hx; cases hx
  | cons q r ih =>
    intro x hx
    simp only [totP]
    rcases List.mem_cons.1 hx with rfl | hx
    · omega
    · have := ih x hx; omega
theorem okP_of {x : Pt} (h : 0 < wP x) (h2 : wP x ≤ 1000000) : okP x := by
  cases x <;> exact ⟨h, h2⟩
theorem ok_all {r : List Pt} (hp : posP r) (ht : totP r ≤ 1000000) : ∀ x ∈ r, okP x := fun x hx => okP_of (hp x hx) (Nat.le_trans (wP_le_tot r x hx) ht)
def wL (s : ByteArray) : List Pt := if s.toList = [] then [] else [.W s]
def dL (s : ByteArray) : List Pt := if s.toList = [] then [] else [.D s]
def mkL (r0 : List Pt) (put drop : ByteArray) : List Pt := dL drop ++ (wL put ++ r0)
def headK : List Pt → Prop
  | [] => True
  | .K n :: _ => 0 < n
  | _ => False
theorem size0_toList (s : ByteArray) : s.toList = [] ↔ s.size = 0 := by
  rw [toList_data]
  constructor
  · intro e
    have := congrArg List.length e
    rw [Array.length_toList] at this
    exact this
  · intro e
    apply List.eq_nil_of_length_eq_zero
    rw [Array.length_toList]
    exact e
theorem encL_append (a b : List Pt) : (a ++ b).reverse.map encP = b.reverse.map encP ++ a.reverse.map encP := by
  rw [List.reverse_append, List.map_append]
theorem ends_enc (r0 : List Pt) (put drop : ByteArray) : r0.reverse.map encP ++ ends put drop = (mkL r0 put drop).reverse.map encP := by
  unfold mkL ends wL dL
  rw [encL_append, encL_append, List.append_assoc]
  congr 1
  by_cases h1 : put.toList = [] <;> by_cases h2 : drop.toList = [] <;> simp [h1, h2, encP]
theorem addP_W (r0 : List Pt) (h : headK r0) (put drop w : ByteArray) (hw : 0 < w.size) : addP (mkL r0 put drop) (.W w) = mkL r0 (put ++ w) drop := by
  have e1 : ¬ (put ++ w).toList = [] := by rw [size0_toList, ByteArray.size_append]; omega
  unfold mkL wL dL
  rw [if_neg e1]
  by_cases h1 : put.toList = []
  · have hp : put = ⟨#[]⟩ := ba_of_toList (by rw [h1, nil_toList])
    have hpw : put ++ w = w := by rw [hp, ba_nil_append]
    rw [if_pos h1, hpw]
    by_cases h2 : drop.toList = []
    · rw [if_pos h2]
      match r0, h with
      | [], _ => rfl
      | .K n :: r, _ => rfl
    · rw [if_neg h2]
      match r0, h with
      | [], _ => rfl
      | .K n :: r, _ => rfl
  · rw [if_neg h1]
    by_cases h2 : drop.toList = []
    · rw [if_pos h2]; rfl
    · rw [if_neg h2]; rfl
theorem addP_D (r0 : List Pt) (h : headK r0) (put drop d : ByteArray) (hd : 0 < d.size) : addP (mkL r0 put drop) (.D d) = mkL r0 put (drop ++ d) := by
  have e1 : ¬ (drop ++ d).toList = [] := by rw [size0_toList, ByteArray.size_append]; omega
  unfold mkL wL dL
  rw [if_neg e1]
  by_cases h2 : drop.toList = []
  · have hp : drop = ⟨#[]⟩ := ba_of_toList (by rw [h2, nil_toList])
    have hpw : drop ++ d = d := by rw [hp, ba_nil_append]
    rw [if_pos h2, hpw]
    by_cases h1 : put.toList = []
    · rw [if_pos h1]
      match r0, h with
      | [], _ => rfl
      | .K n :: r, _ => rfl
    · rw [if_neg h1]; rfl
  · rw [if_neg h2]; rfl
theorem mkL_nil (r0 : List Pt) : mkL r0 ⟨#[]⟩ ⟨#[]⟩ = r0 := by
  unfold mkL wL dL
  simp only [if_pos nil_toList]; rfl
theorem addP_K_head (r0 : List Pt) (h : headK r0) (put drop : ByteArray) (n : Nat) (hn : 0 < n) : headK (addP (mkL r0 put drop) (.K n)) := by
  unfold mkL wL dL
  by_cases h1 : put.toList = [] <;> by_cases h2 : drop.toList = [] <;> simp only [h1, h2, if_true, if_false, List.nil_append, List.cons_append]
  · match r0, h with
    | [], _ => exact hn
    | .K m :: r, hm => show 0 < m + n; omega
  · exact hn
  · exact hn
  · exact hn
theorem kO_enc (r0 : List Pt) (h : headK r0) (put drop : ByteArray) (n : Nat) (hn : 0 < n) (hb : n ≤ 1000000) (ht : totP r0 ≤ 1000000) :
    kO (r0.reverse.map encP) put drop (n : Int) = (addP (mkL r0 put drop) (.K n)).reverse.map encP := by
  unfold kO keepO
  rw [if_neg (by omega), ends_enc]
  have key : ∀ (x : Pt) (r : List Pt), ((x :: r).reverse.map encP).length = r.length + 1 := by intro x r; simp
  have hlast : ∀ (x : Pt) (r : List Pt), rd_T74 ((x :: r).reverse.map encP) ((((x :: r).reverse.map encP).length : Int) - 1) = encP x := by
    intro x r
    rw [key, encP_rev, show (((r.length + 1 : Nat) : Int) - 1) = ((r.reverse.map encP).length : Int) by simp]
    exact rd_last _ _
  have add : ∀ (x : Pt) (r : List Pt), ¬ (encP x).f0 > 0 → (if 0 < ((x :: r).reverse.map encP).length ∧ (rd_T74 ((x :: r).reverse.map encP) ((((x :: r).reverse.map encP).length : Int) - 1)).f0 > 0 then ((x :: r).reverse.map encP).set (((x :: r).reverse.map encP).length - 1) ⟨wrap64 ((rd_T74 ((x :: r).reverse.map encP) ((((x :: r).reverse.map encP).length : Int) - 1)).f0 + (n : Int)), (rd_T74 ((x :: r).reverse.map encP) ((((x :: r).reverse.map encP).length : Int) - 1)).f1, (rd_T74 ((x :: r).reverse.map encP) ((((x :: r).reverse.map encP).length : Int) - 1)).f2⟩ else (x :: r).reverse.map encP ++ [⟨(n : Int), ⟨#[]⟩, ⟨#[]⟩⟩]) = (Pt.K n :: x :: r).reverse.map encP := by
    intro x r hx
    rw [hlast, if_neg (fun c => hx c.2), encP_rev (x :: r) (.K n)]; rfl
  have nz : ¬ (0 : Int) > 0 := by omega
  by_cases h1 : put.toList = [] <;> by_cases h2 : drop.toList = []
  · have e : mkL r0 put drop = r0 := by unfold mkL wL dL; rw [if_pos h1, if_pos h2]; rfl
    rw [e]
    match r0, h, ht with
    | [], _, _ => rfl
    | .K m :: r, hm, ht =>
      have hm' : 0 < m := hm
      have hmb : m ≤ 1000000 := by have : wP (.K m) ≤ totP (.K m :: r) := by simp only [totP]; omega
                                   simp only [wP] at this; omega
      rw [hlast, if_pos ⟨by rw [key]; omega, by show (m : Int) > 0; omega⟩, key, Nat.add_sub_cancel, encP_rev]
      have hl : (r.reverse.map encP).length = r.length := by simp
      rw [← hl, set_at]
      show _ ++ [(⟨wrap64 ((m : Int) + (n : Int)), ⟨#[]⟩, ⟨#[]⟩⟩ : S74)] = (Pt.K (m + n) :: r).reverse.map encP
      rw [w64 (by omega) (by omega), encP_rev]; rfl
  · have e : mkL r0 put drop = .D drop :: r0 := by unfold mkL wL dL; rw [if_pos h1, if_neg h2]; rfl
    rw [e, add (.D drop) r0 nz]; rfl
  · have e : mkL r0 put drop = .W put :: r0 := by unfold mkL wL dL; rw [if_neg h1, if_pos h2]; rfl
    rw [e, add (.W put) r0 nz]; rfl
  · have e : mkL r0 put drop = .D drop :: .W put :: r0 := by unfold mkL wL dL; rw [if_neg h1, if_neg h2]; rfl
    rw [e, add (.D drop) (.W put :: r0) nz]; rfl

/-! the least change, as a list of simple parts -/
def dP (a b : ByteArray) : Nat → List Pt → Nat → Nat → List Pt
  | 0, r, _, _ => r
  | d + 1, r, i, j =>
    if i < a.size ∨ j < b.size then
      (if i < a.size then
        (if j < b.size ∧ bt a (i : Int) = bt b (j : Int) then dP a b d (addP r (.K 1)) (i + 1) (j + 1)
        else (if lc a b (i + 1) j = lc a b i j then dP a b d (addP r (.D (a.extract i (i + 1)))) (i + 1) j
        else dP a b d (addP r (.W (b.extract j (j + 1)))) i (j + 1)))
      else dP a b d (addP r (.W (b.extract j (j + 1)))) i (j + 1))
    else r
theorem ext1 (s : ByteArray) (i : Nat) (h : i < s.size) : (s.extract i (i + 1)).size = 1 := by rw [ByteArray.size_extract]; omega
theorem tbl_get1 (a b : ByteArray) (i j : Nat) (hi : i + 1 ≤ a.size) (hj : j ≤ b.size) : rd (rd_L3 (tbl a b) ((i : Int) + 1)) (j : Int) = (lc a b (i + 1) j : Int) := by
  rw [show (i : Int) + 1 = ((i + 1 : Nat) : Int) by omega]
  exact tbl_get a b (i + 1) j hi hj
theorem tbl_row_length1 (a b : ByteArray) (i : Nat) (hi : i + 1 ≤ a.size) : (rd_L3 (tbl a b) ((i : Int) + 1)).length = b.size + 1 := by
  rw [show (i : Int) + 1 = ((i + 1 : Nat) : Int) by omega]
  exact tbl_row_length a b (i + 1) hi
theorem dP_inv (a b : ByteArray) : ∀ (d : Nat) (r : List Pt) (i j : Nat), i ≤ a.size → j ≤ b.size → posP r →
    posP (dP a b d r i j) ∧ totP (dP a b d r i j) ≤ totP r + (a.size - i) + (b.size - j) ∧ (dP a b d r i j).length ≤ r.length + (a.size - i) + (b.size - j) := by
  intro d
  induction d with
  | zero => intro r i j hi hj hp; unfold dP; exact ⟨hp, by omega, by omega⟩
  | succ d ih =>
    intro r i j hi hj hp
    unfold dP
    by_cases hx : i < a.size ∨ j < b.size
    · rw [if_pos hx]
      have put : j < b.size → posP (dP a b d (addP r (.W (b.extract j (j + 1)))) i (j + 1)) ∧ totP (dP a b d (addP r (.W (b.extract j (j + 1)))) i (j + 1)) ≤ totP r + (a.size - i) + (b.size - j) ∧ (dP a b d (addP r (.W (b.extract j (j + 1)))) i (j + 1)).length ≤ r.length + (a.size - i) + (b.size - j) := by
        intro hjb
        have hw : wP (.W (b.extract j (j + 1))) = 1 := ext1 b j hjb
        obtain ⟨h1, h2, h3⟩ := ih (addP r (.W (b.extract j (j + 1)))) i (j + 1) hi (by omega) (addP_pos r _ hp (by rw [hw]; omega))
        rw [addP_tot, hw] at h2
        have := addP_len r (.W (b.extract j (j + 1)))
        exact ⟨h1, by omega, by omega⟩
      by_cases hia : i < a.size
      · rw [if_pos hia]
        by_cases hk : j < b.size ∧ bt a (i : Int) = bt b (j : Int)
        · rw [if_pos hk]
          have hjb := hk.1
          obtain ⟨h1, h2, h3⟩ := ih (addP r (.K 1)) (i + 1) (j + 1) (by omega) (by omega) (addP_pos r _ hp (by show 0 < 1; omega))
          rw [addP_tot] at h2
          have := addP_len r (.K 1)
          simp only [wP] at h2
          exact ⟨h1, by omega, by omega⟩
        · rw [if_neg hk]
          by_cases he : lc a b (i + 1) j = lc a b i j
          · rw [if_pos he]
            have hw : wP (.D (a.extract i (i + 1))) = 1 := ext1 a i hia
            obtain ⟨h1, h2, h3⟩ := ih (addP r (.D (a.extract i (i + 1)))) (i + 1) j (by omega) hj (addP_pos r _ hp (by rw [hw]; omega))
            rw [addP_tot, hw] at h2
            have := addP_len r (.D (a.extract i (i + 1)))
            exact ⟨h1, by omega, by omega⟩
          · rw [if_neg he]
            refine put ?_
            by_cases hjb : j < b.size
            · exact hjb
            · exact absurd (by rw [lc_end_right a b _ j (by omega), lc_end_right a b _ j (by omega)]) he
      · rw [if_neg hia]
        exact put (hx.resolve_left hia)
    · rw [if_neg hx]; exact ⟨hp, by omega, by omega⟩
theorem dif_ev (a b : ByteArray) (ha : a.size ≤ 300) (hb : b.size ≤ 300) : ∀ (d : Nat) (r0 : List Pt) (put drop : ByteArray) (i j : Nat), (a.size - i) + (b.size - j) < d → i ≤ a.size → j ≤ b.size → headK r0 → posP (mkL r0 put drop) →
    totP (mkL r0 put drop) + (a.size - i) + (b.size - j) ≤ 1000 → (mkL r0 put drop).length + (a.size - i) + (b.size - j) ≤ 1000 →
    dif a b (tbl a b) d (r0.reverse.map encP) put drop i j = some ((dP a b d (mkL r0 put drop) i j).reverse.map encP) := by
  intro d
  induction d with
  | zero => intro r0 put drop i j hd; omega
  | succ d ih =>
    intro r0 put drop i j hd hi hj hh hp ht hlen
    have hr0 : r0.length ≤ (mkL r0 put drop).length := by unfold mkL; simp only [List.length_append]; omega
    have hpt : put.size ≤ totP (mkL r0 put drop) := by
      by_cases h1 : put.toList = []
      · have := (size0_toList put).1 h1; omega
      · exact wP_le_tot _ (.W put) (by unfold mkL wL; rw [if_neg h1]; simp)
    have hdt : drop.size ≤ totP (mkL r0 put drop) := by
      by_cases h1 : drop.toList = []
      · have := (size0_toList drop).1 h1; omega
      · exact wP_le_tot _ (.D drop) (by unfold mkL dL; rw [if_neg h1]; simp)
    have hrt : totP r0 ≤ totP (mkL r0 put drop) := by
      have : ∀ l : List Pt, totP r0 ≤ totP (l ++ r0) := by intro l; induction l with
        | nil => exact Nat.le_refl _
        | cons q l ih => simp only [List.cons_append, totP]; omega
      unfold mkL
      rw [← List.append_assoc]
      exact this _
    have hol : (r0.reverse.map encP).length = r0.length := by simp
    unfold dif dP
    by_cases hx : i < a.size ∨ j < b.size
    · rw [if_pos hx, if_pos hx, if_pos (by rw [hol]; omega)]
      have put' : j < b.size → dif a b (tbl a b) d (r0.reverse.map encP) (put ++ b.extract j (j + 1)) (drop ++ ⟨#[]⟩) i (j + 1) = some ((dP a b d (addP (mkL r0 put drop) (.W (b.extract j (j + 1)))) i (j + 1)).reverse.map encP) := by
        intro hjb
        have hw : wP (.W (b.extract j (j + 1))) = 1 := ext1 b j hjb
        have hw' : 0 < (b.extract j (j + 1)).size := by rw [ext1 b j hjb]; omega
        have hl := addP_len (mkL r0 put drop) (.W (b.extract j (j + 1)))
        have htt := addP_tot (mkL r0 put drop) (.W (b.extract j (j + 1)))
        have hpp := addP_pos (mkL r0 put drop) (.W (b.extract j (j + 1))) hp (by rw [hw]; omega)
        rw [addP_W r0 hh put drop _ hw'] at *
        rw [ba_append_nil]
        exact ih r0 (put ++ b.extract j (j + 1)) drop i (j + 1) (by omega) hi (by omega) hh hpp (by omega) (by omega)
      by_cases hia : i < a.size
      · rw [if_pos hia, if_pos hia]
        by_cases hk : j < b.size ∧ bt a (i : Int) = bt b (j : Int)
        · rw [if_pos hk, if_pos hk]
          have hjb := hk.1
          have hl := addP_len (mkL r0 put drop) (.K 1)
          have htt := addP_tot (mkL r0 put drop) (.K 1)
          have hpp := addP_pos (mkL r0 put drop) (.K 1) hp (by show 0 < 1; omega)
          have hhd := addP_K_head r0 hh put drop 1 (by omega)
          have hko := kO_enc r0 hh put drop 1 (by omega) (by omega) (by omega)
          simp only [wP] at htt
          rw [show ((1 : Nat) : Int) = 1 from rfl] at hko
          rw [hko]
          have := ih (addP (mkL r0 put drop) (.K 1)) ⟨#[]⟩ ⟨#[]⟩ (i + 1) (j + 1) (by omega) (by omega) (by omega) hhd (by rw [mkL_nil]; exact hpp) (by rw [mkL_nil]; omega) (by rw [mkL_nil]; omega)
          rw [mkL_nil] at this
          exact this
        · rw [if_neg hk, if_neg hk, if_pos ⟨by rw [tbl_length]; omega, by rw [tbl_row_length1 a b i (by omega)]; omega, by rw [tbl_row_length a b i (by omega)]; omega⟩, tbl_get1 a b i j (by omega) hj, tbl_get a b i j (by omega) hj]
          by_cases he : lc a b (i + 1) j = lc a b i j
          · rw [if_pos he, if_pos (by rw [he])]
            have hw : wP (.D (a.extract i (i + 1))) = 1 := ext1 a i hia
            have hw' : 0 < (a.extract i (i + 1)).size := by rw [ext1 a i hia]; omega
            have hl := addP_len (mkL r0 put drop) (.D (a.extract i (i + 1)))
            have htt := addP_tot (mkL r0 put drop) (.D (a.extract i (i + 1)))
            have hpp := addP_pos (mkL r0 put drop) (.D (a.extract i (i + 1))) hp (by rw [hw]; omega)
            rw [addP_D r0 hh put drop _ hw'] at *
            rw [ba_append_nil]
            exact ih r0 put (drop ++ a.extract i (i + 1)) (i + 1) j (by omega) (by omega) hj hh hpp (by omega) (by omega)
          · have hjb : j < b.size := by
              by_cases hjb : j < b.size
              · exact hjb
              · exact absurd (by rw [lc_end_right a b _ j (by omega), lc_end_right a b _ j (by omega)]) he
            rw [if_neg he, if_neg (by omega), if_pos hjb]
            exact put' hjb
      · rw [if_neg hia, if_neg hia]
        exact put' (hx.resolve_left hia)
    · rw [if_neg hx, if_neg hx, if_pos (by rw [hol]; omega), ends_enc]
theorem l9Diff_ev (a b : ByteArray) (ha : a.size ≤ 300) (hb : b.size ≤ 300) : ∀ (d : Nat) (r : List Pt) (i j : Nat), (a.size - i) + (b.size - j) < d → i ≤ a.size → j ≤ b.size → posP r →
    totP r + (a.size - i) + (b.size - j) ≤ 1000 → r.length + (a.size - i) + (b.size - j) ≤ 1000 →
    ∃ K, ∀ k, K ≤ k → spec_l9Diff.l0 k a b (tbl a b) (r.reverse.map encP) (i : Int) (j : Int) = some ((dP a b d r i j).reverse.map encP) := by
  intro d
  induction d with
  | zero => intro r i j hd; omega
  | succ d ih =>
    intro r i j hd hi hj hp ht hlen
    have hok := ok_all hp (by omega : totP r ≤ 1000000)
    have wi : Aside0 (wrap64 ((i : Int) + 1) = ((i + 1 : Nat) : Int)) := ⟨by rw [w64 (by omega) (by omega)]; omega⟩
    have wj : Aside0 (wrap64 ((j : Int) + 1) = ((j + 1 : Nat) : Int)) := ⟨by rw [w64 (by omega) (by omega)]; omega⟩
    unfold dP
    by_cases hx : i < a.size ∨ j < b.size
    · rw [if_pos hx]
      -- to the second test
      have go1 : ∀ (x : Bool) (res : Option (List S74)) (K : Nat), x = (decide (i < a.size) && (decide (j < b.size) && decide (bt a (i : Int) = bt b (j : Int)))) → (∀ k, K ≤ k → spec_l9Diff.j2 k a b (tbl a b) (r.reverse.map encP) (i : Int) (j : Int) x = res) → ∀ k, K + 2 ≤ k → spec_l9Diff.l0 k a b (tbl a b) (r.reverse.map encP) (i : Int) (j : Int) = res := by
        intro x res K hxe h k hk
        obtain ⟨k, rfl⟩ : ∃ m, k = m + 2 := ⟨k - 2, by omega⟩
        have hb1 : (if (i : Int) < (a.size : Int) then (spec_l9Diff.j1 (k + 1) a b (tbl a b) (r.reverse.map encP) (i : Int) (j : Int) true) else (spec_l9Diff.j1 (k + 1) a b (tbl a b) (r.reverse.map encP) (i : Int) (j : Int) (decide ((j : Int) < (b.size : Int))))) = spec_l9Diff.j1 (k + 1) a b (tbl a b) (r.reverse.map encP) (i : Int) (j : Int) true := by
          by_cases hia : i < a.size
          · rw [if_pos (by omega)]
          · rw [if_neg (by omega), decide_eq_true (by have := hx.resolve_left hia; omega)]
        simp only [spec_l9Diff.l0]
        rw [hb1]
        simp only [spec_l9Diff.j1, if_true]
        have hk' := h k (by omega)
        by_cases hia : i < a.size
        · rw [if_pos (by omega)]
          by_cases hjb : j < b.size
          · rw [if_pos (by omega), if_pos (by omega), if_pos (by omega)]
            rw [← hk', hxe]
            congr 1
            simp [hia, hjb]
            by_cases e : bt a (i : Int) = bt b (j : Int) <;> simp [e]
          · rw [if_neg (by omega), ← hk', hxe]
            congr 1
            simp [hjb]
        · rw [if_neg (by omega), ← hk', hxe]
          congr 1
          simp [hia]
      have put' : j < b.size → ∃ K, ∀ k, K ≤ k → spec_l9Diff.j3 k a b (tbl a b) (r.reverse.map encP) (i : Int) (j : Int) false = some ((dP a b d (addP r (.W (b.extract j (j + 1)))) i (j + 1)).reverse.map encP) := by
        intro hjb
        have hw : wP (.W (b.extract j (j + 1))) = 1 := ext1 b j hjb
        have hl := addP_len r (.W (b.extract j (j + 1)))
        have htt := addP_tot r (.W (b.extract j (j + 1)))
        have hpp := addP_pos r (.W (b.extract j (j + 1))) hp (by rw [hw]; omega)
        obtain ⟨K, hK⟩ := ih (addP r (.W (b.extract j (j + 1)))) i (j + 1) (by omega) hi (by omega) hpp (by omega) (by omega)
        refine ⟨K + 10, fun k hk => ?_⟩
        obtain ⟨k, rfl⟩ : ∃ m, k = m + 6 := ⟨k - 6, by omega⟩
        have ha3 := l3Add_enc k r (by omega) hok (.W (b.extract j (j + 1))) (okP_of (by rw [hw]; omega) (by rw [hw]; omega))
        simp only [spec_l9Diff.j3, Bool.false_eq_true, if_false, wj.out]
        rw [if_pos (by omega), if_pos (by omega), if_pos (by omega), Int.toNat_natCast, Int.toNat_natCast]
        simp only [encP] at ha3
        rw [ha3, Option.bind_some]
        exact hK (k + 5) (by omega)
      by_cases hia : i < a.size
      · rw [if_pos hia]
        by_cases hk : j < b.size ∧ bt a (i : Int) = bt b (j : Int)
        · rw [if_pos hk]
          have hjb := hk.1
          have hl := addP_len r (.K 1)
          have htt := addP_tot r (.K 1)
          have hpp := addP_pos r (.K 1) hp (by show 0 < 1; omega)
          simp only [wP] at htt
          obtain ⟨K, hK⟩ := ih (addP r (.K 1)) (i + 1) (j + 1) (by omega) (by omega) (by omega) hpp (by omega) (by omega)
          refine ⟨K + 12, go1 true _ (K + 10) (by simp [hia, hk.1, hk.2]) (fun k hk2 => ?_)⟩
          obtain ⟨k, rfl⟩ : ∃ m, k = m + 6 := ⟨k - 6, by omega⟩
          have ha3 := l3Add_enc k r (by omega) hok (.K 1) (okP_of (by show 0 < 1; omega) (by show 1 ≤ 1000000; omega))
          simp only [encP] at ha3
          rw [show ((1 : Nat) : Int) = 1 from rfl] at ha3
          simp only [spec_l9Diff.j2, if_true, wi.out, wj.out]
          rw [ha3, Option.bind_some]
          exact hK (k + 5) (by omega)
        · rw [if_neg hk]
          have hxf : false = (decide (i < a.size) && (decide (j < b.size) && decide (bt a (i : Int) = bt b (j : Int)))) := by
            by_cases hjb : j < b.size
            · have : ¬ bt a (i : Int) = bt b (j : Int) := fun e => hk ⟨hjb, e⟩
              simp [this]
            · simp [hjb]
          by_cases he : lc a b (i + 1) j = lc a b i j
          · rw [if_pos he]
            have hw : wP (.D (a.extract i (i + 1))) = 1 := ext1 a i hia
            have hl := addP_len r (.D (a.extract i (i + 1)))
            have htt := addP_tot r (.D (a.extract i (i + 1)))
            have hpp := addP_pos r (.D (a.extract i (i + 1))) hp (by rw [hw]; omega)
            obtain ⟨K, hK⟩ := ih (addP r (.D (a.extract i (i + 1)))) (i + 1) j (by omega) (by omega) hj hpp (by omega) (by omega)
            have j3 : ∀ k, K + 10 ≤ k → spec_l9Diff.j3 k a b (tbl a b) (r.reverse.map encP) (i : Int) (j : Int) true = some ((dP a b d (addP r (.D (a.extract i (i + 1)))) (i + 1) j).reverse.map encP) := by
              intro k hk2
              obtain ⟨k, rfl⟩ : ∃ m, k = m + 6 := ⟨k - 6, by omega⟩
              have ha3 := l3Add_enc k r (by omega) hok (.D (a.extract i (i + 1))) (okP_of (by rw [hw]; omega) (by rw [hw]; omega))
              simp only [encP] at ha3
              simp only [spec_l9Diff.j3, if_true, wi.out]
              rw [if_pos (by omega), if_pos (by omega), if_pos (by omega), Int.toNat_natCast, Int.toNat_natCast, ha3, Option.bind_some]
              exact hK (k + 5) (by omega)
            refine ⟨K + 13, go1 false _ (K + 11) hxf (fun k hk2 => ?_)⟩
            obtain ⟨k, rfl⟩ : ∃ m, k = m + 1 := ⟨k - 1, by omega⟩
            simp only [spec_l9Diff.j2, Bool.false_eq_true, if_false, wi.out]
            by_cases hjb : j = b.size
            · rw [if_pos (by omega)]
              exact j3 k (by omega)
            · rw [if_neg (by omega), if_pos (by omega), if_pos (by omega), if_pos (by rw [tbl_length]; omega), if_pos (by omega), if_pos (by rw [tbl_row_length a b (i + 1) (by omega)]; omega), if_pos (by omega), if_pos (by rw [tbl_length]; omega), if_pos (by rw [tbl_row_length a b i (by omega)]; omega), tbl_get a b (i + 1) j (by omega) hj, tbl_get a b i j (by omega) hj, he, beq_self_eq_true]
              exact j3 k (by omega)
          · have hjb : j < b.size := by
              by_cases hjb : j < b.size
              · exact hjb
              · exact absurd (by rw [lc_end_right a b _ j (by omega), lc_end_right a b _ j (by omega)]) he
            rw [if_neg he]
            obtain ⟨K, hK⟩ := put' hjb
            refine ⟨K + 13, go1 false _ (K + 11) hxf (fun k hk2 => ?_)⟩
            obtain ⟨k, rfl⟩ : ∃ m, k = m + 1 := ⟨k - 1, by omega⟩
            simp only [spec_l9Diff.j2, Bool.false_eq_true, if_false, wi.out]
            rw [if_neg (by omega), if_pos (by omega), if_pos (by omega), if_pos (by rw [tbl_length]; omega), if_pos (by omega), if_pos (by rw [tbl_row_length a b (i + 1) (by omega)]; omega), if_pos (by omega), if_pos (by rw [tbl_length]; omega), if_pos (by rw [tbl_row_length a b i (by omega)]; omega), tbl_get a b (i + 1) j (by omega) hj, tbl_get a b i j (by omega) hj, beq_eq_false_iff_ne.mpr (by omega)]
            exact hK k (by omega)
      · rw [if_neg hia]
        have hjb := hx.resolve_left hia
        obtain ⟨K, hK⟩ := put' hjb
        refine ⟨K + 13, go1 false _ (K + 11) (by simp [hia]) (fun k hk2 => ?_)⟩
        obtain ⟨k, rfl⟩ : ∃ m, k = m + 1 := ⟨k - 1, by omega⟩
        simp only [spec_l9Diff.j2, Bool.false_eq_true, if_false]
        rw [if_neg (by omega), if_neg (by omega)]
        exact hK k (by omega)
    · rw [if_neg hx]
      refine ⟨2, fun k hk => ?_⟩
      obtain ⟨k, rfl⟩ : ∃ m, k = m + 2 := ⟨k - 2, by omega⟩
      simp only [spec_l9Diff.l0]
      rw [if_neg (by omega), decide_eq_false (by omega)]
      simp only [spec_l9Diff.j1, Bool.false_eq_true, if_false]

/-! marks: what is written into a row of parts is read there again -/
def mT (n : Nat) : ByteArray := (laws_markText.f 100 (n : Int)).getD ⟨#[]⟩
theorem markText_l : ∀ (d n : Nat) (x : ByteArray), n < 10 ^ d → n ≤ 1000000000 → x.size + d ≤ 1000 → ∃ t, ∀ k, d < k → laws_markText.l0 k (n : Int) x = some t := by
  intro d
  induction d with
  | zero =>
    intro n x hn hnb hx
    have : n = 0 := by simpa using hn
    subst this
    refine ⟨(⟨#[109]⟩ : ByteArray) ++ x, fun k hk => ?_⟩
    obtain ⟨k, rfl⟩ : ∃ m, k = m + 1 := ⟨k - 1, by omega⟩
    simp only [laws_markText.l0]
    rw [if_neg (by omega), if_pos (by omega)]
  | succ d ih =>
    intro n x hn hnb hx
    by_cases h0 : n = 0
    · subst h0
      refine ⟨(⟨#[109]⟩ : ByteArray) ++ x, fun k hk => ?_⟩
      obtain ⟨k, rfl⟩ : ∃ m, k = m + 1 := ⟨k - 1, by omega⟩
      simp only [laws_markText.l0]
      rw [if_neg (by omega), if_pos (by omega)]
    · have hsz : ∀ c : Int, (strOfNums [c]).size = 1 := fun c => rfl
      obtain ⟨t, ht⟩ := ih (n / 10) (strOfNums [wrap64 (48 + Int.tmod (n : Int) 10) % 256] ++ x) (by rw [Nat.pow_succ] at hn; omega) (by omega) (by rw [ByteArray.size_append, hsz]; omega)
      refine ⟨t, fun k hk => ?_⟩
      obtain ⟨k, rfl⟩ : ∃ m, k = m + 1 := ⟨k - 1, by omega⟩
      simp only [laws_markText.l0]
      have hd : Int.tdiv (n : Int) 10 = ((n / 10 : Nat) : Int) := by rw [Int.tdiv_eq_ediv_of_nonneg (by omega)]; omega
      rw [if_pos (by omega), Option.bind_some, if_pos (by rw [hsz]; omega), hd]
      rw [w64 (by omega) (by omega)]
      exact ht k (by omega)
theorem mT_ev (n : Nat) (hn : n ≤ 1000000) (k : Nat) (hk : 100 ≤ k) : laws_markText.f k (n : Int) = some (mT n) := by
  by_cases h0 : n = 0
  · subst h0
    unfold mT laws_markText.f
    rfl
  · obtain ⟨t, ht⟩ := markText_l 10 n ⟨#[]⟩ (by omega) (by omega) (by show 0 + 10 ≤ 1000; omega)
    have e : ∀ k, 100 ≤ k → laws_markText.f k (n : Int) = some t := by
      intro k hk
      unfold laws_markText.f
      rw [if_neg (by omega)]
      exact ht k (by omega)
    unfold mT
    rw [e k hk, e 100 (Nat.le_refl _)]
    rfl
def mkE (i : Nat) : S74 := ⟨((1 + 3 * i : Nat) : Int), mT (2 + 3 * i), mT (3 + 3 * i)⟩
theorem rdT_set {t : List S74} {i : Nat} {v : S74} (h : i < t.length) (j : Nat) : rd_T74 (t.set i v) (j : Int) = if j = i then v else rd_T74 t (j : Int) := by
  unfold rd_T74
  simp only [Int.toNat_natCast, List.getD_eq_getElem?_getD]
  by_cases e : j = i
  · subst e; simp [h]
  · rw [List.getElem?_set_ne (by omega)]; simp [e]
theorem markPartS_l (m : Nat) (hm : m ≤ 100000) : ∀ (d i : Nat) (x : List S74), i + d = m → x.length = m → (∀ j, j < i → rd_T74 x (j : Int) = mkE j) → ∀ k, 200 + d ≤ k → laws_markPartS.l0 k x ((1 + 3 * i : Nat) : Int) (i : Int) = some (((1 + 3 * m : Nat) : Int), (List.range m).map mkE) := by
  intro d
  induction d with
  | zero =>
    intro i x hi hl hx k hk
    obtain ⟨k, rfl⟩ : ∃ m, k = m + 1 := ⟨k - 1, by omega⟩
    simp only [laws_markPartS.l0]
    have hi' : i = m := by omega
    subst hi'
    rw [if_neg (by omega)]
    have : x = (List.range i).map mkE := by
      apply List.ext_getElem
      · simp [hl]
      · intro j h1 h2
        simp only [List.getElem_map, List.getElem_range]
        rw [← hx j (by omega)]
        unfold rd_T74
        simp [List.getD, h1]
    rw [this]
  | succ d ih =>
    intro i x hi hl hx k hk
    obtain ⟨k, rfl⟩ : ∃ m, k = m + 1 := ⟨k - 1, by omega⟩
    have c1 : Aside0 (wrap64 (((1 + 3 * i : Nat) : Int) + 1) = ((2 + 3 * i : Nat) : Int)) := ⟨by rw [w64 (by omega) (by omega)]; omega⟩
    have c2 : Aside0 (wrap64 (((2 + 3 * i : Nat) : Int) + 1) = ((3 + 3 * i : Nat) : Int)) := ⟨by rw [w64 (by omega) (by omega)]; omega⟩
    have c3 : Aside0 (wrap64 (((3 + 3 * i : Nat) : Int) + 1) = ((1 + 3 * (i + 1) : Nat) : Int)) := ⟨by rw [w64 (by omega) (by omega)]; omega⟩
    have c4 : Aside0 (wrap64 ((i : Int) + 1) = ((i + 1 : Nat) : Int)) := ⟨by rw [w64 (by omega) (by omega)]; omega⟩
    simp only [laws_markPartS.l0]
    rw [if_pos (by omega), if_pos (by omega)]
    simp only [Option.bind_some, c1.out, c2.out, c3.out, c4.out, Int.toNat_natCast]
    rw [mT_ev _ (by omega) k (by omega)]
    simp only [Option.bind_some]
    rw [mT_ev _ (by omega) k (by omega)]
    simp only [Option.bind_some]
    have hlt : i < x.length := by omega
    simp only [rdT_set hlt, if_true, List.set_set]
    refine ih (i + 1) _ (by omega) (by simp [hl]) (fun j hj => ?_) k (by omega)
    rw [rdT_set hlt]
    by_cases e : j = i
    · rw [if_pos e, e]; rfl
    · rw [if_neg e]; exact hx j (by omega)
theorem heldPartS_l (m : Nat) (hm : m ≤ 100000) : ∀ (d i : Nat), i + d = m → ∀ k, 200 + d ≤ k → laws_heldPartS.l0 k ((List.range m).map mkE) ((1 + 3 * i : Nat) : Int) (i : Int) = some ((1 + 3 * m : Nat) : Int) := by
  intro d
  induction d with
  | zero =>
    intro i hi k hk
    obtain ⟨k, rfl⟩ : ∃ m, k = m + 1 := ⟨k - 1, by omega⟩
    simp only [laws_heldPartS.l0]
    have hi' : i = m := by omega
    subst hi'
    rw [if_neg (by simp)]
  | succ d ih =>
    intro i hi k hk
    obtain ⟨k, rfl⟩ : ∃ m, k = m + 1 := ⟨k - 1, by omega⟩
    have c1 : Aside0 (wrap64 (((1 + 3 * i : Nat) : Int) + 1) = ((2 + 3 * i : Nat) : Int)) := ⟨by rw [w64 (by omega) (by omega)]; omega⟩
    have c2 : Aside0 (wrap64 (((2 + 3 * i : Nat) : Int) + 1) = ((3 + 3 * i : Nat) : Int)) := ⟨by rw [w64 (by omega) (by omega)]; omega⟩
    have c3 : Aside0 (wrap64 (((3 + 3 * i : Nat) : Int) + 1) = ((1 + 3 * (i + 1) : Nat) : Int)) := ⟨by rw [w64 (by omega) (by omega)]; omega⟩
    have c4 : Aside0 (wrap64 ((i : Int) + 1) = ((i + 1 : Nat) : Int)) := ⟨by rw [w64 (by omega) (by omega)]; omega⟩
    have hr : rd_T74 ((List.range m).map mkE) (i : Int) = mkE i := by
      unfold rd_T74
      simp [List.getD, (by omega : i < m)]
    simp only [laws_heldPartS.l0]
    rw [if_pos (by simp; omega), if_pos (by omega), hr]
    simp only [mkE, if_true, c1.out, c2.out, c3.out, c4.out]
    rw [mT_ev _ (by omega) k (by omega)]
    simp only [Option.bind_some, if_true]
    rw [mT_ev _ (by omega) k (by omega)]
    simp only [Option.bind_some, if_true]
    exact ih (i + 1) (by omega) k (by omega)
theorem marks_ev (l : List S74) (hl : l.length ≤ 100000) : ∃ l' : List S74, ∃ c : Int, 0 ≤ c ∧ ∃ K, ∀ k, K ≤ k → laws_markPartS.f k l 1 = some (c, l') ∧ laws_heldPartS.f k l' 1 = some c := by
  refine ⟨(List.range l.length).map mkE, ((1 + 3 * l.length : Nat) : Int), by omega, 200 + l.length, fun k hk => ⟨?_, ?_⟩⟩
  · exact markPartS_l l.length hl l.length 0 l (by omega) rfl (fun j hj => by omega) k (by omega)
  · exact heldPartS_l l.length hl l.length 0 (by omega) k (by omega)

theorem enc_small (r : List Pt) (ht : totP r ≤ 1000000) (hl : r.length ≤ 1000000) : smallL (r.reverse.map encP) := by
  refine ⟨by simp; omega, fun x hx => ?_⟩
  obtain ⟨q, hq, rfl⟩ := List.mem_map.1 hx
  have := wP_le_tot r q (List.mem_reverse.1 hq)
  have z : (⟨#[]⟩ : ByteArray).size = 0 := rfl
  cases q with
  | K n => exact ⟨by show (⟨#[]⟩ : ByteArray).size ≤ _; omega, by show (⟨#[]⟩ : ByteArray).size ≤ _; omega⟩
  | W w => simp only [wP] at this; exact ⟨by show w.size ≤ _; omega, by show (⟨#[]⟩ : ByteArray).size ≤ _; omega⟩
  | D d => simp only [wP] at this; exact ⟨by show (⟨#[]⟩ : ByteArray).size ≤ _; omega, by show d.size ≤ _; omega⟩
/-- The change that is told: the parts, where they are good. -/
def diffR (a b : ByteArray) : List Pt := dP a b (a.size + b.size + 1) [] 0 0
theorem diffR_inv (a b : ByteArray) : posP (diffR a b) ∧ totP (diffR a b) ≤ a.size + b.size ∧ (diffR a b).length ≤ a.size + b.size := by
  obtain ⟨h1, h2, h3⟩ := dP_inv a b (a.size + b.size + 1) [] 0 0 (Nat.zero_le _) (Nat.zero_le _) (fun x hx => by cases hx)
  simp only [totP, List.length_nil] at h2 h3
  exact ⟨h1, by unfold diffR; omega, by unfold diffR; omega⟩
theorem goodOp_ev (l : List S74) (hl : smallL l) : ∃ g, ∃ K, ∀ k, K ≤ k → impl_goodOp.f k l = some (if g then (l, true) else ([], false)) ∧ spec_GoodOp.f k l = some g := by
  obtain ⟨r, K0, h0⟩ := spec_sizes_ev l hl.1
  obtain ⟨K1, h1⟩ := spec_GoodOp_ev l hl r K0 h0
  obtain ⟨K2, h2⟩ := impl_GoodOp_ev l hl r K0 h0
  refine ⟨goodB l r, K1 + K2, fun k hk => ⟨?_, h1 k (by omega)⟩⟩
  unfold impl_goodOp.f
  rw [h2 k (by omega)]
  cases goodB l r <;> rfl
theorem DiffOps_ev (a b : ByteArray) (ha : a.size ≤ 140737488351232) (hb : b.size ≤ 140737488351232) : ∃ (L : List S74) (ok : Bool), smallL L ∧ L.length ≤ 1000 ∧
    ((textB a && textB b) = false → L = [] ∧ ok = false) ∧ ((textB a && textB b) = true → ok = true → L = (diffR a b).reverse.map encP) ∧ ∃ K, ∀ k, K ≤ k → impl_DiffOps.f k a b = some (L, ok) ∧ spec_DiffOps.f k a b = some (L, ok) := by
  obtain ⟨K1, h1⟩ := impl_areTexts_ev a b ha hb
  obtain ⟨K2, h2⟩ := spec_l9Texts_ev a b ha hb
  have hs : a.size + b.size < 4611686018427387904 := by omega
  cases ht : textB a && textB b with
  | false =>
    refine ⟨[], false, ⟨Nat.zero_le _, fun x hx => by cases hx⟩, Nat.zero_le _, fun _ => ⟨rfl, rfl⟩, (fun h => by cases h), K1 + K2, fun k hk => ⟨?_, ?_⟩⟩
    · unfold impl_DiffOps.f
      rw [if_pos hs, h1 k (by omega), ht]; rfl
    · unfold spec_DiffOps.f
      rw [h2 k (by omega), ht]; rfl
  | true =>
    have ht' := ht
    simp only [Bool.and_eq_true] at ht'
    have hsa := textB_size ht'.1
    have hsb := textB_size ht'.2
    obtain ⟨i1, i2, i3⟩ := diffR_inv a b
    have hsm := enc_small (diffR a b) (by omega) (by omega)
    obtain ⟨g, K3, h3⟩ := goodOp_ev _ hsm
    obtain ⟨K4, h4⟩ := impl_common_ev a b hsa hsb
    obtain ⟨K5, h5⟩ := spec_l9Table_ev a b hsa hsb
    have e0 : mkL [] ⟨#[]⟩ ⟨#[]⟩ = [] := mkL_nil []
    have h6 := dif_ev a b hsa hsb (a.size + b.size + 1) [] ⟨#[]⟩ ⟨#[]⟩ 0 0 (by omega) (Nat.zero_le _) (Nat.zero_le _) trivial (by rw [e0]; intro x hx; cases hx) (by rw [e0]; simp only [totP]; omega) (by rw [e0]; simp only [List.length_nil]; omega)
    rw [e0] at h6
    obtain ⟨K7, h7⟩ := l9Diff_ev a b hsa hsb (a.size + b.size + 1) [] 0 0 (by omega) (Nat.zero_le _) (Nat.zero_le _) (fun x hx => by cases hx) (by simp only [totP]; omega) (by simp only [List.length_nil]; omega)
    refine ⟨if g then (diffR a b).reverse.map encP else [], g, ?_, ?_, (fun h => by cases h), (fun _ hg => by rw [hg]; rfl), K1 + K2 + K3 + K4 + K5 + K7, fun k hk => ⟨?_, ?_⟩⟩
    · cases g
      · exact ⟨Nat.zero_le _, fun x hx => by cases hx⟩
      · exact hsm
    · cases g
      · exact Nat.zero_le _
      · show ((diffR a b).reverse.map encP).length ≤ 1000
        simp; omega
    · unfold impl_DiffOps.f
      rw [if_pos hs, h1 k (by omega), ht, Option.bind_some, if_pos rfl, h4 k (by omega), Option.bind_some]
      have h6' : dif a b (tbl a b) (a.size + b.size + 1) [] ⟨#[]⟩ ⟨#[]⟩ 0 0 = some ((diffR a b).reverse.map encP) := h6
      rw [h6', Option.bind_some, (h3 k (by omega)).1]
      cases g <;> rfl
    · unfold spec_DiffOps.f spec_l9Diff.f
      have h7' : spec_l9Diff.l0 k a b (tbl a b) [] 0 0 = some ((diffR a b).reverse.map encP) := h7 k (by omega)
      rw [h2 k (by omega), ht, Option.bind_some, if_pos rfl, h5 k (by omega), Option.bind_some, h7', Option.bind_some, (h3 k (by omega)).2]
      cases g <;> rfl

theorem FnExactDiffOps : laws_FnExactDiffOps.Pure := by
  intro a b ha hb
  obtain ⟨L, ok, hL, hlen, -, -, K1, h1⟩ := DiffOps_ev a b ha hb
  obtain ⟨L', c, hc, K2, h2⟩ := marks_ev L (by omega)
  obtain ⟨K3, h3⟩ := eqPartS_ev L hL.1
  refine ⟨K1 + K2 + K3 + 2, ?_⟩
  obtain ⟨k, hk⟩ : ∃ k, k = K1 + K2 + K3 := ⟨_, rfl⟩
  rw [← hk]
  have a1 := h1 (k + 2) (by omega)
  have a2 := h1 (k + 1) (by omega)
  have b1 := h2 (k + 1) (by omega)
  have b2 := h2 k (by omega)
  have d1 := h3 (k + 2) (by omega)
  have d2 := h3 (k + 1) (by omega)
  have hc' : ¬ c < 0 := by omega
  unfold laws_FnExactDiffOps.f
  by_cases g1 : (a.size : Int) > 1048576
  · rw [if_pos g1]
  · by_cases g2 : (b.size : Int) > 1048576
    · rw [if_neg g1, if_pos g2]
    · rw [if_neg g1, if_neg g2, a1.2, Option.bind_some, a1.1, Option.bind_some, d1, Option.bind_some, if_pos rfl, bne_self_eq_false]
      simp only [laws_FnExactDiffOps.j0, Bool.false_eq_true, if_false]
      rw [b1.1, Option.bind_some, b1.2, Option.bind_some, if_neg hc', if_pos rfl, a2.1, Option.bind_some, d2, Option.bind_some, if_pos rfl, bne_self_eq_false]
      simp only [laws_FnExactDiffOps.j1, Bool.false_eq_true, if_false]
      rw [b2.2, Option.bind_some, if_neg hc', if_pos rfl]

end Go.Proofs.Ytpbelbckinpinaa.Pure
