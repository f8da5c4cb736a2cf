/- DistanceOf of the program answers as the reference's, for all texts. -/
import Derived.Test.YtnpnhdkchnfdlaaAFnExactDistanceOfx5
set_option linter.unusedVariables false
set_option linter.unusedSimpArgs false
namespace Go.Proofs.Ytnpnhdkchnfdlaa.Pure
open Go.RowKit Go.Proofs.Ytnpnhdkchnfdlaa.AFnExactDistanceOf Go.Proofs.YtnpnhdkchnfdlaaW.PrintWords Go.Proofs.YtnpnhdkchnfdlaaW.PrintLast Go.Proofs.YtnpnhdkchnfdlaaW.PrintMore

theorem w64 {i : Int} (h0 : -4611686018427387904 ≤ i) (h : i ≤ 4611686018427387904) : wrap64 i = i := by
  unfold wrap64; omega

def nmB (c : Int) : Bool := decide (65 ≤ c) && decide (c ≤ 70)
def plB (c : Int) : Bool := (decide (97 ≤ c) && decide (c ≤ 122)) || ((decide (48 ≤ c) && decide (c ≤ 57)) || (decide (c = 32) || (decide (c = 46) || decide (c = 44))))
def okB (c : Int) : Bool := nmB c || (plB c || decide (c = 47))
def okN (s : ByteArray) : Nat → Nat → Bool
  | 0, _ => true
  | d + 1, i => okB (bt s i) && okN s d (i + 1)
def textB (s : ByteArray) : Bool := okN s s.size 0 && decide (s.size ≤ 300)

theorem textB_size {s : ByteArray} (h : textB s = true) : s.size ≤ 300 := by
  unfold textB at h; simp at h; exact h.2

theorem impl_isName_eq (c : Int) : impl_isName.f c = some (nmB c) := by
  unfold impl_isName.f nmB
  by_cases h1 : c ≥ 65 <;> simp [h1] <;> omega
theorem impl_isPlain_eq (c : Int) : impl_isPlain.f c = some (plB c) := by
  unfold impl_isPlain.f plB
  by_cases h1 : 97 ≤ c <;> by_cases h2 : c ≤ 122 <;> by_cases h3 : 48 ≤ c <;> by_cases h4 : c ≤ 57 <;> by_cases h5 : c = 32 <;> by_cases h6 : c = 46 <;> simp [h1, h2, h3, h4, h5, h6] <;> rfl
theorem impl_GoodText_l (s : ByteArray) (hs : s.size ≤ 140737488351232) : ∀ (d i : Nat), i + d = s.size →
    ∃ K, ∀ k, K ≤ k → impl_GoodText.l0 k s (s.size : Int) (i : Int) = some (okN s d i && decide (s.size ≤ 300)) := by
  intro d
  induction d with
  | zero =>
    intro i hi
    refine ⟨1, fun k hk => ?_⟩
    obtain ⟨k, rfl⟩ : ∃ m, k = m + 1 := ⟨k - 1, by omega⟩
    simp only [impl_GoodText.l0]
    rw [if_neg (by omega)]
    simp [okN]
    omega
  | succ d ih =>
    intro i hi
    obtain ⟨K, hK⟩ := ih (i + 1) (by omega)
    refine ⟨K + 1, fun k hk => ?_⟩
    obtain ⟨k, rfl⟩ : ∃ m, k = m + 1 := ⟨k - 1, by omega⟩
    have hr := hK k (by omega)
    simp only [impl_GoodText.l0]
    rw [if_pos (by omega), if_pos (by omega), if_pos (by omega), impl_isName_eq, Option.bind_some, impl_isPlain_eq, Option.bind_some, w64 (by omega) (by omega)]
    have hc : ((i : Int) + 1) = ((i + 1 : Nat) : Int) := by omega
    rw [hc, hr]
    show _ = some ((okB (bt s i) && okN s d (i + 1)) && _)
    unfold okB
    cases nmB (bt s i) <;> cases plB (bt s i) <;> by_cases h : bt s i = 47 <;> simp [h]
theorem impl_GoodText_ev (s : ByteArray) (hs : s.size ≤ 140737488351232) : ∃ K, ∀ k, K ≤ k → impl_GoodText.f k s = some (textB s) := by
  obtain ⟨K, hK⟩ := impl_GoodText_l s hs s.size 0 (by omega)
  exact ⟨K, fun k hk => by unfold impl_GoodText.f; exact hK k hk⟩

theorem spec_l1Open_eq (c : Int) : spec_l1Open.f c = some (nmB c) := by
  unfold spec_l1Open.f nmB
  by_cases h1 : c ≥ 65 <;> simp [h1] <;> omega
theorem spec_l1Plain_eq (c : Int) : spec_l1Plain.f c = some (plB c) := by
  unfold spec_l1Plain.f plB
  by_cases h1 : 97 ≤ c <;> by_cases h2 : c ≤ 122 <;> by_cases h3 : 48 ≤ c <;> by_cases h4 : c ≤ 57 <;> by_cases h5 : c = 32 <;> by_cases h6 : c = 46 <;> simp [h1, h2, h3, h4, h5, h6] <;> rfl
theorem spec_l1Text_l (s : ByteArray) (hs : s.size ≤ 140737488351232) : ∀ (d i : Nat), i + d = s.size →
    ∃ K, ∀ k, K ≤ k → spec_l1Text.l0 k s (i : Int) = some (okN s d i) := by
  intro d
  induction d with
  | zero =>
    intro i hi
    refine ⟨1, fun k hk => ?_⟩
    obtain ⟨k, rfl⟩ : ∃ m, k = m + 1 := ⟨k - 1, by omega⟩
    simp only [spec_l1Text.l0]
    rw [if_neg (by omega)]
    simp [okN]
  | succ d ih =>
    intro i hi
    obtain ⟨K, hK⟩ := ih (i + 1) (by omega)
    refine ⟨K + 1, fun k hk => ?_⟩
    obtain ⟨k, rfl⟩ : ∃ m, k = m + 1 := ⟨k - 1, by omega⟩
    have hr := hK k (by omega)
    simp only [spec_l1Text.l0]
    rw [if_pos (by omega), if_pos (by omega), spec_l1Open_eq, Option.bind_some, spec_l1Plain_eq, Option.bind_some, w64 (by omega) (by omega)]
    have hc : ((i : Int) + 1) = ((i + 1 : Nat) : Int) := by omega
    rw [hc, hr]
    show _ = some (okB (bt s i) && okN s d (i + 1))
    unfold okB
    cases nmB (bt s i) <;> cases plB (bt s i) <;> by_cases h : bt s i = 47 <;> simp [h]
theorem spec_GoodText_ev (s : ByteArray) (hs : s.size ≤ 140737488351232) : ∃ K, ∀ k, K ≤ k → spec_GoodText.f k s = some (textB s) := by
  obtain ⟨K, hK⟩ := spec_l1Text_l s hs s.size 0 (by omega)
  refine ⟨K, fun k hk => ?_⟩
  have h := hK k hk
  unfold spec_GoodText.f spec_l1Text.f
  simp only [Int.cast_ofNat_Int] at h
  rw [h, Option.bind_some]
  unfold textB
  cases okN s s.size 0 <;> simp <;> omega

theorem impl_areTexts_ev (a b : ByteArray) (ha : a.size ≤ 140737488351232) (hb : b.size ≤ 140737488351232) : ∃ K, ∀ k, K ≤ k → impl_areTexts.f k a b = some (textB a && textB b) := by
  obtain ⟨K, hK⟩ := impl_GoodText_ev a ha
  obtain ⟨K', hK'⟩ := impl_GoodText_ev b hb
  refine ⟨max K K', fun k hk => ?_⟩
  have h1 := hK k (by omega)
  have h2 := hK' k (by omega)
  unfold impl_areTexts.f
  rw [h1, Option.bind_some, h2, Option.bind_some]
  cases textB a <;> simp
theorem spec_l9Texts_ev (a b : ByteArray) (ha : a.size ≤ 140737488351232) (hb : b.size ≤ 140737488351232) : ∃ K, ∀ k, K ≤ k → spec_l9Texts.f k a b = some (textB a && textB b) := by
  obtain ⟨K, hK⟩ := spec_GoodText_ev a ha
  obtain ⟨K', hK'⟩ := spec_GoodText_ev b hb
  refine ⟨max K K', fun k hk => ?_⟩
  have h1 := hK k (by omega)
  have h2 := hK' k (by omega)
  unfold spec_l9Texts.f
  rw [h1, Option.bind_some, h2, Option.bind_some]
  cases textB a <;> simp

def lcs : List Int → List Int → Nat
  | [], _ => 0
  | _ :: _, [] => 0
  | x :: xs, y :: ys => if x = y then lcs xs ys + 1 else max (lcs xs (y :: ys)) (lcs (x :: xs) ys)
termination_by xs ys => xs.length + ys.length
theorem lcs_nil (ys : List Int) : lcs [] ys = 0 := by rw [lcs]
theorem lcs_nil_right (xs : List Int) : lcs xs [] = 0 := by cases xs <;> rw [lcs]
theorem lcs_cons (x : Int) (xs : List Int) (y : Int) (ys : List Int) : lcs (x :: xs) (y :: ys) = if x = y then lcs xs ys + 1 else max (lcs xs (y :: ys)) (lcs (x :: xs) ys) := by rw [lcs]
theorem lcs_le : ∀ (n : Nat) (xs ys : List Int), xs.length + ys.length ≤ n → lcs xs ys ≤ xs.length := by
  intro n
  induction n with
  | zero => intro xs ys h; have : xs = [] := List.eq_nil_of_length_eq_zero (by omega)
            subst this; rw [lcs_nil]; omega
  | succ n ih =>
    intro xs ys h
    cases xs with
    | nil => rw [lcs_nil]; omega
    | cons x xs =>
      cases ys with
      | nil => rw [lcs_nil_right]; omega
      | cons y ys =>
        rw [lcs_cons]
        simp only [List.length_cons] at *
        have h1 := ih xs ys (by omega)
        have h2 := ih xs (y :: ys) (by simp only [List.length_cons]; omega)
        have h3 := ih (x :: xs) ys (by simp only [List.length_cons]; omega)
        simp only [List.length_cons] at h3
        split <;> omega
def BL (s : ByteArray) : List Int := (List.range s.size).map fun (i : Nat) => bt s (i : Int)
theorem BL_length (s : ByteArray) : (BL s).length = s.size := by unfold BL; simp
theorem BL_drop (s : ByteArray) (i : Nat) (h : i < s.size) : (BL s).drop i = bt s (i : Int) :: (BL s).drop (i + 1) := by
  rw [List.drop_eq_getElem_cons (by rw [BL_length]; exact h)]
  congr 1
  unfold BL; simp
theorem BL_drop_end (s : ByteArray) (i : Nat) (h : s.size ≤ i) : (BL s).drop i = [] := List.drop_of_length_le (by rw [BL_length]; exact h)
def lc (a b : ByteArray) (i j : Nat) : Nat := lcs ((BL a).drop i) ((BL b).drop j)
theorem lc_end_left (a b : ByteArray) (i j : Nat) (h : a.size ≤ i) : lc a b i j = 0 := by unfold lc; rw [BL_drop_end a i h, lcs_nil]
theorem lc_end_right (a b : ByteArray) (i j : Nat) (h : b.size ≤ j) : lc a b i j = 0 := by unfold lc; rw [BL_drop_end b j h, lcs_nil_right]
theorem lc_step (a b : ByteArray) (i j : Nat) (hi : i < a.size) (hj : j < b.size) : lc a b i j = if bt a (i : Int) = bt b (j : Int) then lc a b (i + 1) (j + 1) + 1 else max (lc a b (i + 1) j) (lc a b i (j + 1)) := by
  unfold lc
  rw [BL_drop a i hi, BL_drop b j hj, lcs_cons]
theorem lc_le (a b : ByteArray) (i j : Nat) : lc a b i j ≤ a.size := by
  have := lcs_le _ ((BL a).drop i) ((BL b).drop j) (Nat.le_refl _)
  unfold lc
  rw [List.length_drop, BL_length] at this
  omega
def RowIs (row : List Int) (n : Nat) (f : Nat → Nat) : Prop := row.length = n + 1 ∧ ∀ j : Nat, j ≤ n → rd row (j : Int) = (f j : Int)
def tbl (a b : ByteArray) : List (List Int) := (List.range (a.size + 1)).map fun i => (List.range (b.size + 1)).map fun j => (lc a b i j : Int)
theorem rd_get (l : List Int) (j : Nat) (h : j < l.length) : rd l (j : Int) = l[j] := by unfold rd; simp [List.getD, h]
theorem RowIs.eq {row : List Int} {n : Nat} {f : Nat → Nat} (h : RowIs row n f) : row = (List.range (n + 1)).map fun j => (f j : Int) := by
  apply List.ext_getElem
  · simp [h.1]
  · intro j h1 h2
    simp only [List.getElem_map, List.getElem_range]
    rw [← rd_get row j h1]; exact h.2 j (by have := h.1; omega)
theorem tbl_eq {a b : ByteArray} {t : List (List Int)} (hl : t.length = a.size + 1) (h : ∀ i : Nat, i ≤ a.size → RowIs (rd_L1 t (i : Int)) b.size (lc a b i)) : t = tbl a b := by
  unfold tbl
  apply List.ext_getElem
  · simp [hl]
  · intro i h1 h2
    simp only [List.getElem_map, List.getElem_range]
    rw [← (h i (by omega)).eq]
    unfold rd_L1; simp [List.getD, h1]
theorem tbl_get (a b : ByteArray) (i j : Nat) (hi : i ≤ a.size) (hj : j ≤ b.size) : rd (rd_L1 (tbl a b) (i : Int)) (j : Int) = (lc a b i j : Int) := by
  unfold rd rd_L1 tbl
  simp [List.getD, (by omega : i < a.size + 1), (by omega : j < b.size + 1)]
theorem tbl_length (a b : ByteArray) : (tbl a b).length = a.size + 1 := by simp [tbl]
theorem tbl_row_length (a b : ByteArray) (i : Nat) (hi : i ≤ a.size) : (rd_L1 (tbl a b) (i : Int)).length = b.size + 1 := by
  unfold rd_L1 tbl
  simp [List.getD, (by omega : i < a.size + 1)]
theorem rdL_set {t : List (List Int)} {i : Nat} {v : List Int} (h : i < t.length) (j : Nat) : rd_L1 (t.set i v) (j : Int) = if j = i then v else rd_L1 t (j : Int) := by
  unfold rd_L1
  simp only [Int.toNat_natCast, List.getD_eq_getElem?_getD]
  by_cases e : j = i
  · subst e; simp [h]
  · rw [List.getElem?_set_ne (by omega)]; simp [e]
theorem rdR_set {bs : List Int} {i : Nat} {v : Int} (h : i < bs.length) (j : Nat) : rd (bs.set i v) (j : Int) = if j = i then v else rd bs (j : Int) := by
  unfold rd
  simp only [Int.toNat_natCast, List.getD_eq_getElem?_getD]
  by_cases e : j = i
  · subst e; simp [h]
  · rw [List.getElem?_set_ne (by omega)]; simp [e]
theorem RowIs.zeros (n : Nat) (f : Nat → Nat) (h : ∀ j, j ≤ n → f j = 0) : RowIs (List.replicate (n + 1) 0) n f := by
  refine ⟨by simp, fun j hj => ?_⟩
  rw [h j hj]; unfold rd
  simp [List.getD, (by omega : j < n + 1)]

theorem impl_common_in (a b : ByteArray) (ha : a.size ≤ 300) (hb : b.size ≤ 300) (i : Nat) (hi : i < a.size)
    (H : ∀ t : List (List Int), t.length = a.size + 1 → (∀ r : Nat, i ≤ r → r ≤ a.size → RowIs (rd_L1 t (r : Int)) b.size (lc a b r)) → ∃ K, ∀ k, K ≤ k → impl_common.l0 k a b t ((i : Int) - 1) = some (tbl a b)) :
    ∀ (d : Nat) (t : List (List Int)), d ≤ b.size → t.length = a.size + 1 → (∀ r : Nat, i < r → r ≤ a.size → RowIs (rd_L1 t (r : Int)) b.size (lc a b r)) →
      (rd_L1 t (i : Int)).length = b.size + 1 → (∀ j : Nat, d ≤ j → j ≤ b.size → rd (rd_L1 t (i : Int)) (j : Int) = (lc a b i j : Int)) →
      ∃ K, ∀ k, K ≤ k → impl_common.l1 k a b t (i : Int) ((d : Int) - 1) = some (tbl a b) := by
  intro d
  induction d with
  | zero =>
    intro t hd hl hr hlen hrow
    obtain ⟨K, hK⟩ := H t hl (fun r h1 h2 => by
      by_cases e : r = i
      · subst e; exact ⟨hlen, fun j hj => hrow j (by omega) hj⟩
      · exact hr r (by omega) h2)
    refine ⟨K + 1, fun k hk => ?_⟩
    obtain ⟨k, rfl⟩ : ∃ m, k = m + 1 := ⟨k - 1, by omega⟩
    simp only [impl_common.l1]
    simp (disch := omega) only [w64, if_neg]
    exact hK k (by omega)
  | succ d ih =>
    intro t hd hl hr hlen hrow
    have hnext := hr (i + 1) (by omega) (by omega)
    have hs := lc_step a b i d hi (by omega)
    have hle1 := lc_le a b (i + 1) (d + 1)
    have hnl := hnext.1
    have hv1 := hnext.2 (d + 1) (by omega)
    have hv2 := hnext.2 d (by omega)
    have hv3 := hrow (d + 1) (by omega) (by omega)
    have c1 : ((i + 1 : Nat) : Int) = (i : Int) + 1 := by omega
    have c2 : ((d + 1 : Nat) : Int) = (d : Int) + 1 := by omega
    rw [c1] at hnl hv1 hv2
    rw [c2] at hv1 hv3
    obtain ⟨K, hK⟩ := ih (t.set i ((rd_L1 t (i : Int)).set d (lc a b i d : Int))) (by omega) (by simpa using hl)
      (fun r h1 h2 => by rw [rdL_set (by omega), if_neg (by omega)]; exact hr r h1 h2)
      (by rw [rdL_set (by omega), if_pos rfl, List.length_set]; exact hlen)
      (fun j h1 h2 => by
        rw [rdL_set (by omega), if_pos rfl, rdR_set (by omega)]
        by_cases e : j = d
        · rw [if_pos e, e]
        · rw [if_neg e]; exact hrow j (by omega) h2)
    refine ⟨K + 1, fun k hk => ?_⟩
    obtain ⟨k, rfl⟩ : ∃ m, k = m + 1 := ⟨k - 1, by omega⟩
    have hk' := hK k (by omega)
    simp only [impl_common.l1]
    rw [c2]
    simp only [Int.add_sub_cancel]
    by_cases c : bt a (i : Int) = bt b (d : Int)
    · rw [if_pos c] at hs
      have hs' : (lc a b i d : Int) = (lc a b (i + 1) (d + 1) : Int) + 1 := by omega
      rw [hs'] at hk'
      simp (disch := omega) only [w64, if_pos, Int.toNat_natCast, hv1]
      exact hk'
    · rw [if_neg c] at hs
      have hs' : mx (lc a b (i + 1) d : Int) (lc a b i (d + 1) : Int) = (lc a b i d : Int) := by unfold mx; omega
      simp (disch := omega) only [w64, if_pos, if_neg, Int.toNat_natCast, hv2, hv3, hs']
      exact hk'
theorem impl_common_out (a b : ByteArray) (ha : a.size ≤ 300) (hb : b.size ≤ 300) : ∀ (e : Nat) (t : List (List Int)), e ≤ a.size → t.length = a.size + 1 →
    (∀ r : Nat, e ≤ r → r ≤ a.size → RowIs (rd_L1 t (r : Int)) b.size (lc a b r)) → ∃ K, ∀ k, K ≤ k → impl_common.l0 k a b t ((e : Int) - 1) = some (tbl a b) := by
  intro e
  induction e with
  | zero =>
    intro t he hl hr
    refine ⟨1, fun k hk => ?_⟩
    obtain ⟨k, rfl⟩ : ∃ m, k = m + 1 := ⟨k - 1, by omega⟩
    simp only [impl_common.l0]
    rw [if_neg (by omega), tbl_eq hl (fun i hi => hr i (by omega) hi)]
  | succ e ih =>
    intro t he hl hr
    obtain ⟨K, hK⟩ := impl_common_in a b ha hb e (by omega) (fun t h1 h2 => ih t (by omega) h1 h2) b.size (t.set e (List.replicate (b.size + 1) 0)) (by omega) (by simpa using hl)
      (fun r h1 h2 => by rw [rdL_set (by omega), if_neg (by omega)]; exact hr r h1 h2)
      (by rw [rdL_set (by omega), if_pos rfl, List.length_replicate])
      (fun j h1 h2 => by
        rw [rdL_set (by omega), if_pos rfl, lc_end_right a b e j h1]
        unfold rd; simp [List.getD, (by omega : j < b.size + 1)])
    refine ⟨K + 1, fun k hk => ?_⟩
    obtain ⟨k, rfl⟩ : ∃ m, k = m + 1 := ⟨k - 1, by omega⟩
    have hk' := hK k (by omega)
    simp only [impl_common.l0]
    rw [show ((e + 1 : Nat) : Int) - 1 = (e : Int) by omega]
    simp (disch := omega) only [w64, if_pos, Int.toNat_natCast]
    exact hk'
theorem impl_common_ev (a b : ByteArray) (ha : a.size ≤ 300) (hb : b.size ≤ 300) : ∃ K, ∀ k, K ≤ k → impl_common.f k a b = some (tbl a b) := by
  obtain ⟨K, hK⟩ := impl_common_out a b ha hb a.size ((List.replicate (a.size + 1) ([] : List Int)).set a.size (List.replicate (b.size + 1) 0)) (by omega) (by simp)
    (fun r h1 h2 => by
      have : r = a.size := by omega
      subst this
      rw [rdL_set (by simp), if_pos rfl]
      exact RowIs.zeros _ _ (fun j _ => lc_end_left a b _ j (by omega)))
  refine ⟨K, fun k hk => ?_⟩
  have := hK k hk
  unfold impl_common.f
  simp (disch := omega) only [w64, if_pos, Option.bind_some]
  have e1 : ((b.size : Int) + 1).toNat = b.size + 1 := by omega
  have e2 : ((a.size : Int) + 1).toNat = a.size + 1 := by omega
  simp only [e1, e2, List.length_replicate, Int.toNat_natCast]
  rw [if_pos (by omega)]
  exact this

theorem spec_l9Table_in (a b : ByteArray) (ha : a.size ≤ 300) (hb : b.size ≤ 300) (i : Nat) (hi : i < a.size)
    (H : ∀ t : List (List Int), t.length = a.size + 1 → (∀ r : Nat, i ≤ r → r ≤ a.size → RowIs (rd_L1 t (r : Int)) b.size (lc a b r)) → (∀ r : Nat, r < i → rd_L1 t (r : Int) = List.replicate (b.size + 1) 0) →
      ∃ K, ∀ k, K ≤ k → spec_l9Table.l1 k a b t ((i : Int) - 1) = some (tbl a b)) :
    ∀ (d : Nat) (t : List (List Int)), d ≤ b.size → t.length = a.size + 1 → (∀ r : Nat, i < r → r ≤ a.size → RowIs (rd_L1 t (r : Int)) b.size (lc a b r)) → (∀ r : Nat, r < i → rd_L1 t (r : Int) = List.replicate (b.size + 1) 0) →
      (rd_L1 t (i : Int)).length = b.size + 1 → (∀ j : Nat, d ≤ j → j ≤ b.size → rd (rd_L1 t (i : Int)) (j : Int) = (lc a b i j : Int)) →
      ∃ K, ∀ k, K ≤ k → spec_l9Table.l2 k a b t (i : Int) ((d : Int) - 1) = some (tbl a b) := by
  intro d
  induction d with
  | zero =>
    intro t hd hl hr hz hlen hrow
    obtain ⟨K, hK⟩ := H t hl (fun r h1 h2 => by
      by_cases e : r = i
      · subst e; exact ⟨hlen, fun j hj => hrow j (by omega) hj⟩
      · exact hr r (by omega) h2) hz
    refine ⟨K + 1, fun k hk => ?_⟩
    obtain ⟨k, rfl⟩ : ∃ m, k = m + 1 := ⟨k - 1, by omega⟩
    simp only [spec_l9Table.l2]
    simp (disch := omega) only [w64, if_neg]
    exact hK k (by omega)
  | succ d ih =>
    intro t hd hl hr hz hlen hrow
    have hnext := hr (i + 1) (by omega) (by omega)
    have hs := lc_step a b i d hi (by omega)
    have hle1 := lc_le a b (i + 1) (d + 1)
    have hnl := hnext.1
    have hv1 := hnext.2 (d + 1) (by omega)
    have hv2 := hnext.2 d (by omega)
    have hv3 := hrow (d + 1) (by omega) (by omega)
    have c1 : ((i + 1 : Nat) : Int) = (i : Int) + 1 := by omega
    have c2 : ((d + 1 : Nat) : Int) = (d : Int) + 1 := by omega
    rw [c1] at hnl hv1 hv2
    rw [c2] at hv1 hv3
    obtain ⟨K, hK⟩ := ih (t.set i ((rd_L1 t (i : Int)).set d (lc a b i d : Int))) (by omega) (by simpa using hl)
      (fun r h1 h2 => by rw [rdL_set (by omega), if_neg (by omega)]; exact hr r h1 h2)
      (fun r h1 => by rw [rdL_set (by omega), if_neg (by omega)]; exact hz r h1)
      (by rw [rdL_set (by omega), if_pos rfl, List.length_set]; exact hlen)
      (fun j h1 h2 => by
        rw [rdL_set (by omega), if_pos rfl, rdR_set (by omega)]
        by_cases e : j = d
        · rw [if_pos e, e]
        · rw [if_neg e]; exact hrow j (by omega) h2)
    refine ⟨K + 1, fun k hk => ?_⟩
    obtain ⟨k, rfl⟩ : ∃ m, k = m + 1 := ⟨k - 1, by omega⟩
    have hk' := hK k (by omega)
    simp only [spec_l9Table.l2]
    rw [c2]
    simp only [Int.add_sub_cancel]
    by_cases c : bt a (i : Int) = bt b (d : Int)
    · rw [if_pos c] at hs
      have hs' : (lc a b i d : Int) = (lc a b (i + 1) (d + 1) : Int) + 1 := by omega
      rw [hs'] at hk'
      simp (disch := omega) only [w64, if_pos, Int.toNat_natCast, hv1]
      exact hk'
    · rw [if_neg c] at hs
      by_cases g : (lc a b (i + 1) d : Int) ≥ (lc a b i (d + 1) : Int)
      · have hs' : (lc a b i d : Int) = (lc a b (i + 1) d : Int) := by omega
        rw [hs'] at hk'
        simp (disch := omega) only [w64, if_pos, if_neg, Int.toNat_natCast, hv2, hv3]
        exact hk'
      · have hs' : (lc a b i d : Int) = (lc a b i (d + 1) : Int) := by omega
        rw [hs'] at hk'
        simp (disch := omega) only [w64, if_pos, if_neg, Int.toNat_natCast, hv2, hv3]
        exact hk'
theorem spec_l9Table_out (a b : ByteArray) (ha : a.size ≤ 300) (hb : b.size ≤ 300) : ∀ (e : Nat) (t : List (List Int)), e ≤ a.size → t.length = a.size + 1 →
    (∀ r : Nat, e ≤ r → r ≤ a.size → RowIs (rd_L1 t (r : Int)) b.size (lc a b r)) → (∀ r : Nat, r < e → rd_L1 t (r : Int) = List.replicate (b.size + 1) 0) → ∃ K, ∀ k, K ≤ k → spec_l9Table.l1 k a b t ((e : Int) - 1) = some (tbl a b) := by
  intro e
  induction e with
  | zero =>
    intro t he hl hr hz
    refine ⟨1, fun k hk => ?_⟩
    obtain ⟨k, rfl⟩ : ∃ m, k = m + 1 := ⟨k - 1, by omega⟩
    simp only [spec_l9Table.l1]
    rw [if_neg (by omega), tbl_eq hl (fun i hi => hr i (by omega) hi)]
  | succ e ih =>
    intro t he hl hr hz
    obtain ⟨K, hK⟩ := spec_l9Table_in a b ha hb e (by omega) (fun t h1 h2 h3 => ih t (by omega) h1 h2 h3) b.size t (by omega) hl
      (fun r h1 h2 => hr r (by omega) h2) (fun r h1 => hz r (by omega))
      (by rw [hz e (by omega), List.length_replicate])
      (fun j h1 h2 => by
        rw [hz e (by omega), lc_end_right a b e j h1]
        unfold rd; simp [List.getD, (by omega : j < b.size + 1)])
    refine ⟨K + 1, fun k hk => ?_⟩
    obtain ⟨k, rfl⟩ : ∃ m, k = m + 1 := ⟨k - 1, by omega⟩
    have hk' := hK k (by omega)
    simp only [spec_l9Table.l1]
    rw [show ((e + 1 : Nat) : Int) - 1 = (e : Int) by omega]
    simp (disch := omega) only [w64, if_pos, Int.toNat_natCast]
    exact hk'
theorem spec_l9Table_z (a b : ByteArray) (ha : a.size ≤ 300) (hb : b.size ≤ 300) : ∀ (d i : Nat) (t : List (List Int)), i + d = a.size + 1 → t.length = a.size + 1 →
    (∀ r : Nat, r < i → rd_L1 t (r : Int) = List.replicate (b.size + 1) 0) → ∃ K, ∀ k, K ≤ k → spec_l9Table.l0 k a b t ((a.size + 1 : Nat) : Int) (i : Int) = some (tbl a b) := by
  intro d
  induction d with
  | zero =>
    intro i t hi hl hz
    obtain ⟨K, hK⟩ := spec_l9Table_out a b ha hb a.size t (by omega) hl
      (fun r h1 h2 => by rw [hz r (by omega)]; exact RowIs.zeros _ _ (fun j _ => lc_end_left a b _ j (by omega))) (fun r h1 => hz r (by omega))
    refine ⟨K + 1, fun k hk => ?_⟩
    obtain ⟨k, rfl⟩ : ∃ m, k = m + 1 := ⟨k - 1, by omega⟩
    have hk' := hK k (by omega)
    simp only [spec_l9Table.l0]
    simp (disch := omega) only [w64, if_neg]
    exact hk'
  | succ d ih =>
    intro i t hi hl hz
    obtain ⟨K, hK⟩ := ih (i + 1) (t.set i (List.replicate (b.size + 1) 0)) (by omega) (by simpa using hl) (fun r h1 => by
      rw [rdL_set (by omega)]
      by_cases e : r = i
      · rw [if_pos e]
      · rw [if_neg e]; exact hz r (by omega))
    refine ⟨K + 1, fun k hk => ?_⟩
    obtain ⟨k, rfl⟩ : ∃ m, k = m + 1 := ⟨k - 1, by omega⟩
    have hk' := hK k (by omega)
    simp only [spec_l9Table.l0]
    simp (disch := omega) only [w64, if_pos, Int.toNat_natCast]
    have e1 : ((b.size : Int) + 1).toNat = b.size + 1 := by omega
    simp only [e1]
    rw [show (i : Int) + 1 = ((i + 1 : Nat) : Int) by omega]
    exact hk'
theorem spec_l9Table_ev (a b : ByteArray) (ha : a.size ≤ 300) (hb : b.size ≤ 300) : ∃ K, ∀ k, K ≤ k → spec_l9Table.f k a b = some (tbl a b) := by
  obtain ⟨K, hK⟩ := spec_l9Table_z a b ha hb (a.size + 1) 0 (List.replicate (a.size + 1) ([] : List Int)) (by omega) (by simp) (fun r h => by omega)
  refine ⟨K, fun k hk => ?_⟩
  have := hK k hk
  unfold spec_l9Table.f
  simp (disch := omega) only [w64, if_pos, Option.bind_some]
  have e2 : ((a.size : Int) + 1).toNat = a.size + 1 := by omega
  simp only [e2, List.length_replicate]
  exact this

theorem impl_DistanceOf_ev (a b : ByteArray) (ha : a.size ≤ 140737488351232) (hb : b.size ≤ 140737488351232) : ∃ K, ∀ k, K ≤ k →
    impl_DistanceOf.f k a b = some (if textB a && textB b then ((a.size : Int) + (b.size : Int) - 2 * (lc a b 0 0 : Int), true) else (0, false)) := by
  obtain ⟨K3, h3⟩ := impl_areTexts_ev a b ha hb
  cases ht : textB a && textB b with
  | false =>
    refine ⟨K3, fun k hk => ?_⟩
    unfold impl_DistanceOf.f
    rw [h3 k hk, ht]
    rfl
  | true =>
    have ht' := ht
    simp only [Bool.and_eq_true] at ht'
    have hsa := textB_size ht'.1
    have hsb := textB_size ht'.2
    obtain ⟨K1, h1⟩ := impl_common_ev a b hsa hsb
    refine ⟨max K1 K3, fun k hk => ?_⟩
    unfold impl_DistanceOf.f
    rw [h3 k (by omega), h1 k (by omega), ht]
    have hl := tbl_length a b
    have hr := tbl_row_length a b 0 (by omega)
    have hg := tbl_get a b 0 0 (by omega) (by omega)
    have hle := lc_le a b 0 0
    simp only [Int.cast_ofNat_Int] at hr hg
    simp only [Option.bind_some, if_true]
    rw [hg]
    simp (disch := omega) only [w64, if_pos]
theorem spec_DistanceOf_ev (a b : ByteArray) (ha : a.size ≤ 140737488351232) (hb : b.size ≤ 140737488351232) : ∃ K, ∀ k, K ≤ k →
    spec_DistanceOf.f k a b = some (if textB a && textB b then ((a.size : Int) + (b.size : Int) - 2 * (lc a b 0 0 : Int), true) else (0, false)) := by
  obtain ⟨K3, h3⟩ := spec_l9Texts_ev a b ha hb
  cases ht : textB a && textB b with
  | false =>
    refine ⟨K3, fun k hk => ?_⟩
    unfold spec_DistanceOf.f
    rw [h3 k hk, ht]
    rfl
  | true =>
    have ht' := ht
    simp only [Bool.and_eq_true] at ht'
    have hsa := textB_size ht'.1
    have hsb := textB_size ht'.2
    obtain ⟨K1, h1⟩ := spec_l9Table_ev a b hsa hsb
    refine ⟨max K1 K3, fun k hk => ?_⟩
    unfold spec_DistanceOf.f spec_l9Distance.f
    rw [h3 k (by omega), h1 k (by omega), ht]
    have hl := tbl_length a b
    have hr := tbl_row_length a b 0 (by omega)
    have hg := tbl_get a b 0 0 (by omega) (by omega)
    have hle := lc_le a b 0 0
    simp only [Int.cast_ofNat_Int] at hr hg
    simp only [Option.bind_some, if_true]
    rw [hg]
    simp (disch := omega) only [w64, if_pos, Option.bind_some]

theorem FnExactDistanceOf : laws_FnExactDistanceOf.Pure := by
  intro a b ha hb
  obtain ⟨K3, h3⟩ := impl_DistanceOf_ev a b ha hb
  obtain ⟨K4, h4⟩ := spec_DistanceOf_ev a b ha hb
  refine ⟨max K3 K4, ?_⟩
  unfold laws_FnExactDistanceOf.f
  rw [h3 _ (by omega), h4 _ (by omega)]
  simp only [Option.bind_some, bne_self_eq_false, Bool.false_eq_true, if_false, if_true]
  split
  · rfl
  · split <;> rfl

end Go.Proofs.Ytnpnhdkchnfdlaa.Pure
