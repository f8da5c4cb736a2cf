/- A longest text in common is within both and as long as the distance leaves, whichever is named first, for drawn texts. -/
import Derived.Test.YtibedlbjkaikiaaAFnCommonx10
set_option linter.unusedVariables false
set_option linter.unusedSimpArgs false
namespace Go.Proofs.Ytibedlbjkaikiaa.Pure
open Go.RowKit Go.Proofs.Ytibedlbjkaikiaa.AFnCommon Go.Proofs.YtibedlbjkaikiaaW.PrintWords Go.Proofs.YtibedlbjkaikiaaW.PrintLast Go.Proofs.YtibedlbjkaikiaaW.PrintMore

theorem w64 {i : Int} (h0 : -4611686018427387904 ≤ i) (h : i ≤ 4611686018427387904) : wrap64 i = i := by
 unfold wrap64; omega

def nmB (c : Int) : Bool := decide (65 ≤ c) && decide (c ≤ 70)
def plB (c : Int) : Bool := (decide (97 ≤ c) && decide (c ≤ 122)) || ((decide (48 ≤ c) && decide (c ≤ 57)) || (decide (c = 32) || (decide (c = 46) || decide (c = 44))))
def okB (c : Int) : Bool := nmB c || (plB c || decide (c = 47))
def okN (s : ByteArray) : Nat → Nat → Bool
 | 0, _ => true
 | d + 1, i => okB (bt s i) && okN s d (i + 1)
def textB (s : ByteArray) : Bool := okN s s.size 0 && decide (s.size ≤ 300)

theorem textB_size {s : ByteArray} (h : textB s = true) : s.size ≤ 300 := by
 unfold textB at h; simp at h; exact h.2

theorem impl_isName_eq (c : Int) : impl_isName.f c = some (nmB c) := by
 unfold impl_isName.f nmB
 by_cases h1 : c ≥ 65 <;> simp [h1] <;> omega
theorem impl_isPlain_eq (c : Int) : impl_isPlain.f c = some (plB c) := by
 unfold impl_isPlain.f plB
 by_cases h1 : 97 ≤ c <;> by_cases h2 : c ≤ 122 <;> by_cases h3 : 48 ≤ c <;> by_cases h4 : c ≤ 57 <;> by_cases h5 : c = 32 <;> by_cases h6 : c = 46 <;> simp [h1, h2, h3, h4, h5, h6] <;> rfl
theorem impl_GoodText_l (s : ByteArray) (hs : s.size ≤ 140737488351232) : ∀ (d i : Nat), i + d = s.size →
  ∃ K, ∀ k, K ≤ k → impl_GoodText.l0 k s (s.size : Int) (i : Int) = some (okN s d i && decide (s.size ≤ 300)) := by
 intro d
 induction d with
 | zero =>
  intro i hi
  refine ⟨1, fun k hk => ?_⟩
  obtain ⟨k, rfl⟩ : ∃ m, k = m + 1 := ⟨k - 1, by omega⟩
  simp only [impl_GoodText.l0]
  rw [if_neg (by omega)]
  simp [okN]
  omega
 | succ d ih =>
  intro i hi
  obtain ⟨K, hK⟩ := ih (i + 1) (by omega)
  refine ⟨K + 1, fun k hk => ?_⟩
  obtain ⟨k, rfl⟩ : ∃ m, k = m + 1 := ⟨k - 1, by omega⟩
  have hr := hK k (by omega)
  simp only [impl_GoodText.l0]
  rw [if_pos (by omega), if_pos (by omega), if_pos (by omega), impl_isName_eq, Option.bind_some, impl_isPlain_eq, Option.bind_some, w64 (by omega) (by omega)]
  have hc : ((i : Int) + 1) = ((i + 1 : Nat) : Int) := by omega
  rw [hc, hr]
  show _ = some ((okB (bt s i) && okN s d (i + 1)) && _)
  unfold okB
  cases nmB (bt s i) <;> cases plB (bt s i) <;> by_cases h : bt s i = 47 <;> simp [h]
theorem impl_GoodText_ev (s : ByteArray) (hs : s.size ≤ 140737488351232) : ∃ K, ∀ k, K ≤ k → impl_GoodText.f k s = some (textB s) := by
 obtain ⟨K, hK⟩ := impl_GoodText_l s hs s.size 0 (by omega)
 exact ⟨K, fun k hk => by unfold impl_GoodText.f; exact hK k hk⟩

theorem spec_l1Open_eq (c : Int) : spec_l1Open.f c = some (nmB c) := by
 unfold spec_l1Open.f nmB
 by_cases h1 : c ≥ 65 <;> simp [h1] <;> omega
theorem spec_l1Plain_eq (c : Int) : spec_l1Plain.f c = some (plB c) := by
 unfold spec_l1Plain.f plB
 by_cases h1 : 97 ≤ c <;> by_cases h2 : c ≤ 122 <;> by_cases h3 : 48 ≤ c <;> by_cases h4 : c ≤ 57 <;> by_cases h5 : c = 32 <;> by_cases h6 : c = 46 <;> simp [h1, h2, h3, h4, h5, h6] <;> rfl
theorem spec_l1Text_l (s : ByteArray) (hs : s.size ≤ 140737488351232) : ∀ (d i : Nat), i + d = s.size →
  ∃ K, ∀ k, K ≤ k → spec_l1Text.l0 k s (i : Int) = some (okN s d i) := by
 intro d
 induction d with
 | zero =>
  intro i hi
  refine ⟨1, fun k hk => ?_⟩
  obtain ⟨k, rfl⟩ : ∃ m, k = m + 1 := ⟨k - 1, by omega⟩
  simp only [spec_l1Text.l0]
  rw [if_neg (by omega)]
  simp [okN]
 | succ d ih =>
  intro i hi
  obtain ⟨K, hK⟩ := ih (i + 1) (by omega)
  refine ⟨K + 1, fun k hk => ?_⟩
  obtain ⟨k, rfl⟩ : ∃ m, k = m + 1 := ⟨k - 1, by omega⟩
  have hr := hK k (by omega)
  simp only [spec_l1Text.l0]
  rw [if_pos (by omega), if_pos (by omega), spec_l1Open_eq, Option.bind_some, spec_l1Plain_eq, Option.bind_some, w64 (by omega) (by omega)]
  have hc : ((i : Int) + 1) = ((i + 1 : Nat) : Int) := by omega
  rw [hc, hr]
  show _ = some (okB (bt s i) && okN s d (i + 1))
  unfold okB
  cases nmB (bt s i) <;> cases plB (bt s i) <;> by_cases h : bt s i = 47 <;> simp [h]
theorem spec_GoodText_ev (s : ByteArray) (hs : s.size ≤ 140737488351232) : ∃ K, ∀ k, K ≤ k → spec_GoodText.f k s = some (textB s) := by
 obtain ⟨K, hK⟩ := spec_l1Text_l s hs s.size 0 (by omega)
 refine ⟨K, fun k hk => ?_⟩
 have h := hK k hk
 unfold spec_GoodText.f spec_l1Text.f
 simp only [Int.cast_ofNat_Int] at h
 rw [h, Option.bind_some]
 unfold textB
 cases okN s s.size 0 <;> simp <;> omega

theorem impl_areTexts_ev (a b : ByteArray) (ha : a.size ≤ 140737488351232) (hb : b.size ≤ 140737488351232) : ∃ K, ∀ k, K ≤ k → impl_areTexts.f k a b = some (textB a && textB b) := by
 obtain ⟨K, hK⟩ := impl_GoodText_ev a ha
 obtain ⟨K', hK'⟩ := impl_GoodText_ev b hb
 refine ⟨max K K', fun k hk => ?_⟩
 have h1 := hK k (by omega)
 have h2 := hK' k (by omega)
 unfold impl_areTexts.f
 rw [h1, Option.bind_some, h2, Option.bind_some]
 cases textB a <;> simp
theorem spec_l9Texts_ev (a b : ByteArray) (ha : a.size ≤ 140737488351232) (hb : b.size ≤ 140737488351232) : ∃ K, ∀ k, K ≤ k → spec_l9Texts.f k a b = some (textB a && textB b) := by
 obtain ⟨K, hK⟩ := spec_GoodText_ev a ha
 obtain ⟨K', hK'⟩ := spec_GoodText_ev b hb
 refine ⟨max K K', fun k hk => ?_⟩
 have h1 := hK k (by omega)
 have h2 := hK' k (by omega)
 unfold spec_l9Texts.f
 rw [h1, Option.bind_some, h2, Option.bind_some]
 cases textB a <;> simp

def lcs : List Int → List Int → Nat
 | [], _ => 0
 | _ :: _, [] => 0
 | x :: xs, y :: ys => if x = y then lcs xs ys + 1 else max (lcs xs (y :: ys)) (lcs (x :: xs) ys)
termination_by xs ys => xs.length + ys.length
theorem lcs_nil (ys : List Int) : lcs [] ys = 0 := by rw [lcs]
theorem lcs_nil_right (xs : List Int) : lcs xs [] = 0 := by cases xs <;> rw [lcs]
theorem lcs_cons (x : Int) (xs : List Int) (y : Int) (ys : List Int) : lcs (x :: xs) (y :: ys) = if x = y then lcs xs ys + 1 else max (lcs xs (y :: ys)) (lcs (x :: xs) ys) := by rw [lcs]
theorem lcs_le : ∀ (n : Nat) (xs ys : List Int), xs.length + ys.length ≤ n → lcs xs ys ≤ xs.length := by
 intro n
 induction n with
 | zero =>
  intro xs ys h
  have : xs = [] := List.eq_nil_of_length_eq_zero (by omega)
  subst this; rw [lcs_nil]; omega
 | succ n ih =>
  intro xs ys h
  cases xs with
  | nil => rw [lcs_nil]; omega
  | cons x xs =>
   cases ys with
   | nil => rw [lcs_nil_right]; omega
   | cons y ys =>
    rw [lcs_cons]
    simp only [List.length_cons] at *
    have h1 := ih xs ys (by omega)
    have h2 := ih xs (y :: ys) (by simp only [List.length_cons]; omega)
    have h3 := ih (x :: xs) ys (by simp only [List.length_cons]; omega)
    simp only [List.length_cons] at h3
    split <;> omega
def BL (s : ByteArray) : List Int := (List.range s.size).map fun (i : Nat) => bt s (i : Int)
theorem BL_length (s : ByteArray) : (BL s).length = s.size := by unfold BL; simp
theorem BL_drop (s : ByteArray) (i : Nat) (h : i < s.size) : (BL s).drop i = bt s (i : Int) :: (BL s).drop (i + 1) := by
 rw [List.drop_eq_getElem_cons (by rw [BL_length]; exact h)]
 congr 1
 unfold BL; simp
theorem BL_drop_end (s : ByteArray) (i : Nat) (h : s.size ≤ i) : (BL s).drop i = [] := List.drop_of_length_le (by rw [BL_length]; exact h)
def lc (a b : ByteArray) (i j : Nat) : Nat := lcs ((BL a).drop i) ((BL b).drop j)
theorem lc_end_left (a b : ByteArray) (i j : Nat) (h : a.size ≤ i) : lc a b i j = 0 := by unfold lc; rw [BL_drop_end a i h, lcs_nil]
theorem lc_end_right (a b : ByteArray) (i j : Nat) (h : b.size ≤ j) : lc a b i j = 0 := by unfold lc; rw [BL_drop_end b j h, lcs_nil_right]
theorem lc_step (a b : ByteArray) (i j : Nat) (hi : i < a.size) (hj : j < b.size) : lc a b i j = if bt a (i : Int) = bt b (j : Int) then lc a b (i + 1) (j + 1) + 1 else max (lc a b (i + 1) j) (lc a b i (j + 1)) := by
 unfold lc
 rw [BL_drop a i hi, BL_drop b j hj, lcs_cons]
theorem lc_le (a b : ByteArray) (i j : Nat) : lc a b i j ≤ a.size := by
 have := lcs_le _ ((BL a).drop i) ((BL b).drop j) (Nat.le_refl _)
 unfold lc
 rw [List.length_drop, BL_length] at this
 omega
def RowIs (row : List Int) (n : Nat) (f : Nat → Nat) : Prop := row.length = n + 1 ∧ ∀ j : Nat, j ≤ n → rd row (j : Int) = (f j : Int)
def tbl (a b : ByteArray) : List (List Int) := (List.range (a.size + 1)).map fun i => (List.range (b.size + 1)).map fun j => (lc a b i j : Int)
theorem rd_get (l : List Int) (j : Nat) (h : j < l.length) : rd l (j : Int) = l[j] := by unfold rd; simp [List.getD, h]
theorem RowIs.eq {row : List Int} {n : Nat} {f : Nat → Nat} (h : RowIs row n f) : row = (List.range (n + 1)).map fun j => (f j : Int) := by
 apply List.ext_getElem
 ·simp [h.1]
 ·intro j h1 h2
  simp only [List.getElem_map, List.getElem_range]
  rw [← rd_get row j h1]; exact h.2 j (by have := h.1; omega)
theorem tbl_eq {a b : ByteArray} {t : List (List Int)} (hl : t.length = a.size + 1) (h : ∀ i : Nat, i ≤ a.size → RowIs (rd_L1 t (i : Int)) b.size (lc a b i)) : t = tbl a b := by
 unfold tbl
 apply List.ext_getElem
 ·simp [hl]
 ·intro i h1 h2
  simp only [List.getElem_map, List.getElem_range]
  rw [← (h i (by omega)).eq]
  unfold rd_L1; simp [List.getD, h1]
theorem tbl_get (a b : ByteArray) (i j : Nat) (hi : i ≤ a.size) (hj : j ≤ b.size) : rd (rd_L1 (tbl a b) (i : Int)) (j : Int) = (lc a b i j : Int) := by
 unfold rd rd_L1 tbl
 simp [List.getD, (by omega : i < a.size + 1), (by omega : j < b.size + 1)]
theorem tbl_length (a b : ByteArray) : (tbl a b).length = a.size + 1 := by simp [tbl]
theorem tbl_row_length (a b : ByteArray) (i : Nat) (hi : i ≤ a.size) : (rd_L1 (tbl a b) (i : Int)).length = b.size + 1 := by
 unfold rd_L1 tbl
 simp [List.getD, (by omega : i < a.size + 1)]
theorem rdL_set {t : List (List Int)} {i : Nat} {v : List Int} (h : i < t.length) (j : Nat) : rd_L1 (t.set i v) (j : Int) = if j = i then v else rd_L1 t (j : Int) := by
 unfold rd_L1
 simp only [Int.toNat_natCast, List.getD_eq_getElem?_getD]
 by_cases e : j = i
 ·subst e; simp [h]
 ·rw [List.getElem?_set_ne (by omega)]; simp [e]
theorem rdR_set {bs : List Int} {i : Nat} {v : Int} (h : i < bs.length) (j : Nat) : rd (bs.set i v) (j : Int) = if j = i then v else rd bs (j : Int) := by
 unfold rd
 simp only [Int.toNat_natCast, List.getD_eq_getElem?_getD]
 by_cases e : j = i
 ·subst e; simp [h]
 ·rw [List.getElem?_set_ne (by omega)]; simp [e]
theorem RowIs.zeros (n : Nat) (f : Nat → Nat) (h : ∀ j, j ≤ n → f j = 0) : RowIs (List.replicate (n + 1) 0) n f := by
 refine ⟨by simp, fun j hj => ?_⟩
 rw [h j hj]; unfold rd
 simp [List.getD, (by omega : j < n + 1)]

theorem impl_common_in (a b : ByteArray) (ha : a.size ≤ 300) (hb : b.size ≤ 300) (i : Nat) (hi : i < a.size)
  (H : ∀ t : List (List Int), t.length = a.size + 1 → (∀ r : Nat, i ≤ r → r ≤ a.size → RowIs (rd_L1 t (r : Int)) b.size (lc a b r)) → ∃ K, ∀ k, K ≤ k → impl_common.l0 k a b t ((i : Int) - 1) = some (tbl a b)) :
  ∀ (d : Nat) (t : List (List Int)), d ≤ b.size → t.length = a.size + 1 → (∀ r : Nat, i < r → r ≤ a.size → RowIs (rd_L1 t (r : Int)) b.size (lc a b r)) →
   (rd_L1 t (i : Int)).length = b.size + 1 → (∀ j : Nat, d ≤ j → j ≤ b.size → rd (rd_L1 t (i : Int)) (j : Int) = (lc a b i j : Int)) →
   ∃ K, ∀ k, K ≤ k → impl_common.l1 k a b t (i : Int) ((d : Int) - 1) = some (tbl a b) := by
 intro d
 induction d with
 | zero =>
  intro t hd hl hr hlen hrow
  obtain ⟨K, hK⟩ := H t hl (fun r h1 h2 => by
   by_cases e : r = i
   ·subst e; exact ⟨hlen, fun j hj => hrow j (by omega) hj⟩
   ·exact hr r (by omega) h2)
  refine ⟨K + 1, fun k hk => ?_⟩
  obtain ⟨k, rfl⟩ : ∃ m, k = m + 1 := ⟨k - 1, by omega⟩
  simp only [impl_common.l1]
  simp (disch := omega) only [w64, if_neg]
  exact hK k (by omega)
 | succ d ih =>
  intro t hd hl hr hlen hrow
  have hnext := hr (i + 1) (by omega) (by omega)
  have hs := lc_step a b i d hi (by omega)
  have hle1 := lc_le a b (i + 1) (d + 1)
  have hnl := hnext.1
  have hv1 := hnext.2 (d + 1) (by omega)
  have hv2 := hnext.2 d (by omega)
  have hv3 := hrow (d + 1) (by omega) (by omega)
  have c1 : ((i + 1 : Nat) : Int) = (i : Int) + 1 := by omega
  have c2 : ((d + 1 : Nat) : Int) = (d : Int) + 1 := by omega
  rw [c1] at hnl hv1 hv2
  rw [c2] at hv1 hv3
  obtain ⟨K, hK⟩ := ih (t.set i ((rd_L1 t (i : Int)).set d (lc a b i d : Int))) (by omega) (by simpa using hl)
   (fun r h1 h2 => by rw [rdL_set (by omega), if_neg (by omega)]; exact hr r h1 h2)
   (by rw [rdL_set (by omega), if_pos rfl, List.length_set]; exact hlen)
   (fun j h1 h2 => by
    rw [rdL_set (by omega), if_pos rfl, rdR_set (by omega)]
    by_cases e : j = d
    ·rw [if_pos e, e]
    ·rw [if_neg e]; exact hrow j (by omega) h2)
  refine ⟨K + 1, fun k hk => ?_⟩
  obtain ⟨k, rfl⟩ : ∃ m, k = m + 1 := ⟨k - 1, by omega⟩
  have hk' := hK k (by omega)
  simp only [impl_common.l1]
  rw [c2]
  simp only [Int.add_sub_cancel]
  by_cases c : bt a (i : Int) = bt b (d : Int)
  ·rw [if_pos c] at hs
   have hs' : (lc a b i d : Int) = (lc a b (i + 1) (d + 1) : Int) + 1 := by omega
   rw [hs'] at hk'
   simp (disch := omega) only [w64, if_pos, Int.toNat_natCast, hv1]
   exact hk'
  ·rw [if_neg c] at hs
   have hs' : mx (lc a b (i + 1) d : Int) (lc a b i (d + 1) : Int) = (lc a b i d : Int) := by unfold mx; omega
   simp (disch := omega) only [w64, if_pos, if_neg, Int.toNat_natCast, hv2, hv3, hs']
   exact hk'
theorem impl_common_out (a b : ByteArray) (ha : a.size ≤ 300) (hb : b.size ≤ 300) : ∀ (e : Nat) (t : List (List Int)), e ≤ a.size → t.length = a.size + 1 →
  (∀ r : Nat, e ≤ r → r ≤ a.size → RowIs (rd_L1 t (r : Int)) b.size (lc a b r)) → ∃ K, ∀ k, K ≤ k → impl_common.l0 k a b t ((e : Int) - 1) = some (tbl a b) := by
 intro e
 induction e with
 | zero =>
  intro t he hl hr
  refine ⟨1, fun k hk => ?_⟩
  obtain ⟨k, rfl⟩ : ∃ m, k = m + 1 := ⟨k - 1, by omega⟩
  simp only [impl_common.l0]
  rw [if_neg (by omega), tbl_eq hl (fun i hi => hr i (by omega) hi)]
 | succ e ih =>
  intro t he hl hr
  obtain ⟨K, hK⟩ := impl_common_in a b ha hb e (by omega) (fun t h1 h2 => ih t (by omega) h1 h2) b.size (t.set e (List.replicate (b.size + 1) 0)) (by omega) (by simpa using hl)
   (fun r h1 h2 => by rw [rdL_set (by omega), if_neg (by omega)]; exact hr r h1 h2)
   (by rw [rdL_set (by omega), if_pos rfl, List.length_replicate])
   (fun j h1 h2 => by
    rw [rdL_set (by omega), if_pos rfl, lc_end_right a b e j h1]
    unfold rd; simp [List.getD, (by omega : j < b.size + 1)])
  refine ⟨K + 1, fun k hk => ?_⟩
  obtain ⟨k, rfl⟩ : ∃ m, k = m + 1 := ⟨k - 1, by omega⟩
  have hk' := hK k (by omega)
  simp only [impl_common.l0]
  rw [show ((e + 1 : Nat) : Int) - 1 = (e : Int) by omega]
  simp (disch := omega) only [w64, if_pos, Int.toNat_natCast]
  exact hk'
theorem impl_common_ev (a b : ByteArray) (ha : a.size ≤ 300) (hb : b.size ≤ 300) : ∃ K, ∀ k, K ≤ k → impl_common.f k a b = some (tbl a b) := by
 obtain ⟨K, hK⟩ := impl_common_out a b ha hb a.size ((List.replicate (a.size + 1) ([] : List Int)).set a.size (List.replicate (b.size + 1) 0)) (by omega) (by simp)
  (fun r h1 h2 => by
   have : r = a.size := by omega
   subst this
   rw [rdL_set (by simp), if_pos rfl]
   exact RowIs.zeros _ _ (fun j _ => lc_end_left a b _ j (by omega)))
 refine ⟨K, fun k hk => ?_⟩
 have := hK k hk
 unfold impl_common.f
 simp (disch := omega) only [w64, if_pos, Option.bind_some]
 have e1 : ((b.size : Int) + 1).toNat = b.size + 1 := by omega
 have e2 : ((a.size : Int) + 1).toNat = a.size + 1 := by omega
 simp only [e1, e2, List.length_replicate, Int.toNat_natCast]
 rw [if_pos (by omega)]
 exact this

theorem spec_l9Table_in (a b : ByteArray) (ha : a.size ≤ 300) (hb : b.size ≤ 300) (i : Nat) (hi : i < a.size)
  (H : ∀ t : List (List Int), t.length = a.size + 1 → (∀ r : Nat, i ≤ r → r ≤ a.size → RowIs (rd_L1 t (r : Int)) b.size (lc a b r)) → (∀ r : Nat, r < i → rd_L1 t (r : Int) = List.replicate (b.size + 1) 0) →
   ∃ K, ∀ k, K ≤ k → spec_l9Table.l1 k a b t ((i : Int) - 1) = some (tbl a b)) :
  ∀ (d : Nat) (t : List (List Int)), d ≤ b.size → t.length = a.size + 1 → (∀ r : Nat, i < r → r ≤ a.size → RowIs (rd_L1 t (r : Int)) b.size (lc a b r)) → (∀ r : Nat, r < i → rd_L1 t (r : Int) = List.replicate (b.size + 1) 0) →
   (rd_L1 t (i : Int)).length = b.size + 1 → (∀ j : Nat, d ≤ j → j ≤ b.size → rd (rd_L1 t (i : Int)) (j : Int) = (lc a b i j : Int)) →
   ∃ K, ∀ k, K ≤ k → spec_l9Table.l2 k a b t (i : Int) ((d : Int) - 1) = some (tbl a b) := by
 intro d
 induction d with
 | zero =>
  intro t hd hl hr hz hlen hrow
  obtain ⟨K, hK⟩ := H t hl (fun r h1 h2 => by
   by_cases e : r = i
   ·subst e; exact ⟨hlen, fun j hj => hrow j (by omega) hj⟩
   ·exact hr r (by omega) h2) hz
  refine ⟨K + 1, fun k hk => ?_⟩
  obtain ⟨k, rfl⟩ : ∃ m, k = m + 1 := ⟨k - 1, by omega⟩
  simp only [spec_l9Table.l2]
  simp (disch := omega) only [w64, if_neg]
  exact hK k (by omega)
 | succ d ih =>
  intro t hd hl hr hz hlen hrow
  have hnext := hr (i + 1) (by omega) (by omega)
  have hs := lc_step a b i d hi (by omega)
  have hle1 := lc_le a b (i + 1) (d + 1)
  have hnl := hnext.1
  have hv1 := hnext.2 (d + 1) (by omega)
  have hv2 := hnext.2 d (by omega)
  have hv3 := hrow (d + 1) (by omega) (by omega)
  have c1 : ((i + 1 : Nat) : Int) = (i : Int) + 1 := by omega
  have c2 : ((d + 1 : Nat) : Int) = (d : Int) + 1 := by omega
  rw [c1] at hnl hv1 hv2
  rw [c2] at hv1 hv3
  obtain ⟨K, hK⟩ := ih (t.set i ((rd_L1 t (i : Int)).set d (lc a b i d : Int))) (by omega) (by simpa using hl)
   (fun r h1 h2 => by rw [rdL_set (by omega), if_neg (by omega)]; exact hr r h1 h2)
   (fun r h1 => by rw [rdL_set (by omega), if_neg (by omega)]; exact hz r h1)
   (by rw [rdL_set (by omega), if_pos rfl, List.length_set]; exact hlen)
   (fun j h1 h2 => by
    rw [rdL_set (by omega), if_pos rfl, rdR_set (by omega)]
    by_cases e : j = d
    ·rw [if_pos e, e]
    ·rw [if_neg e]; exact hrow j (by omega) h2)
  refine ⟨K + 1, fun k hk => ?_⟩
  obtain ⟨k, rfl⟩ : ∃ m, k = m + 1 := ⟨k - 1, by omega⟩
  have hk' := hK k (by omega)
  simp only [spec_l9Table.l2]
  rw [c2]
  simp only [Int.add_sub_cancel]
  by_cases c : bt a (i : Int) = bt b (d : Int)
  ·rw [if_pos c] at hs
   have hs' : (lc a b i d : Int) = (lc a b (i + 1) (d + 1) : Int) + 1 := by omega
   rw [hs'] at hk'
   simp (disch := omega) only [w64, if_pos, Int.toNat_natCast, hv1]
   exact hk'
  ·rw [if_neg c] at hs
   by_cases g : (lc a b (i + 1) d : Int) ≥ (lc a b i (d + 1) : Int)
   ·have hs' : (lc a b i d : Int) = (lc a b (i + 1) d : Int) := by omega
    rw [hs'] at hk'
    simp (disch := omega) only [w64, if_pos, if_neg, Int.toNat_natCast, hv2, hv3]
    exact hk'
   ·have hs' : (lc a b i d : Int) = (lc a b i (d + 1) : Int) := by omega
    rw [hs'] at hk'
    simp (disch := omega) only [w64, if_pos, if_neg, Int.toNat_natCast, hv2, hv3]
    exact hk'
theorem spec_l9Table_out (a b : ByteArray) (ha : a.size ≤ 300) (hb : b.size ≤ 300) : ∀ (e : Nat) (t : List (List Int)), e ≤ a.size → t.length = a.size + 1 →
  (∀ r : Nat, e ≤ r → r ≤ a.size → RowIs (rd_L1 t (r : Int)) b.size (lc a b r)) → (∀ r : Nat, r < e → rd_L1 t (r : Int) = List.replicate (b.size + 1) 0) → ∃ K, ∀ k, K ≤ k → spec_l9Table.l1 k a b t ((e : Int) - 1) = some (tbl a b) := by
 intro e
 induction e with
 | zero =>
  intro t he hl hr hz
  refine ⟨1, fun k hk => ?_⟩
  obtain ⟨k, rfl⟩ : ∃ m, k = m + 1 := ⟨k - 1, by omega⟩
  simp only [spec_l9Table.l1]
  rw [if_neg (by omega), tbl_eq hl (fun i hi => hr i (by omega) hi)]
 | succ e ih =>
  intro t he hl hr hz
  obtain ⟨K, hK⟩ := spec_l9Table_in a b ha hb e (by omega) (fun t h1 h2 h3 => ih t (by omega) h1 h2 h3) b.size t (by omega) hl
   (fun r h1 h2 => hr r (by omega) h2) (fun r h1 => hz r (by omega))
   (by rw [hz e (by omega), List.length_replicate])
   (fun j h1 h2 => by
    rw [hz e (by omega), lc_end_right a b e j h1]
    unfold rd; simp [List.getD, (by omega : j < b.size + 1)])
  refine ⟨K + 1, fun k hk => ?_⟩
  obtain ⟨k, rfl⟩ : ∃ m, k = m + 1 := ⟨k - 1, by omega⟩
  have hk' := hK k (by omega)
  simp only [spec_l9Table.l1]
  rw [show ((e + 1 : Nat) : Int) - 1 = (e : Int) by omega]
  simp (disch := omega) only [w64, if_pos, Int.toNat_natCast]
  exact hk'
theorem spec_l9Table_z (a b : ByteArray) (ha : a.size ≤ 300) (hb : b.size ≤ 300) : ∀ (d i : Nat) (t : List (List Int)), i + d = a.size + 1 → t.length = a.size + 1 →
  (∀ r : Nat, r < i → rd_L1 t (r : Int) = List.replicate (b.size + 1) 0) → ∃ K, ∀ k, K ≤ k → spec_l9Table.l0 k a b t ((a.size + 1 : Nat) : Int) (i : Int) = some (tbl a b) := by
 intro d
 induction d with
 | zero =>
  intro i t hi hl hz
  obtain ⟨K, hK⟩ := spec_l9Table_out a b ha hb a.size t (by omega) hl
   (fun r h1 h2 => by rw [hz r (by omega)]; exact RowIs.zeros _ _ (fun j _ => lc_end_left a b _ j (by omega))) (fun r h1 => hz r (by omega))
  refine ⟨K + 1, fun k hk => ?_⟩
  obtain ⟨k, rfl⟩ : ∃ m, k = m + 1 := ⟨k - 1, by omega⟩
  have hk' := hK k (by omega)
  simp only [spec_l9Table.l0]
  simp (disch := omega) only [w64, if_neg]
  exact hk'
 | succ d ih =>
  intro i t hi hl hz
  obtain ⟨K, hK⟩ := ih (i + 1) (t.set i (List.replicate (b.size + 1) 0)) (by omega) (by simpa using hl) (fun r h1 => by
   rw [rdL_set (by omega)]
   by_cases e : r = i
   ·rw [if_pos e]
   ·rw [if_neg e]; exact hz r (by omega))
  refine ⟨K + 1, fun k hk => ?_⟩
  obtain ⟨k, rfl⟩ : ∃ m, k = m + 1 := ⟨k - 1, by omega⟩
  have hk' := hK k (by omega)
  simp only [spec_l9Table.l0]
  simp (disch := omega) only [w64, if_pos, Int.toNat_natCast]
  have e1 : ((b.size : Int) + 1).toNat = b.size + 1 := by omega
  simp only [e1]
  rw [show (i : Int) + 1 = ((i + 1 : Nat) : Int) by omega]
  exact hk'
theorem spec_l9Table_ev (a b : ByteArray) (ha : a.size ≤ 300) (hb : b.size ≤ 300) : ∃ K, ∀ k, K ≤ k → spec_l9Table.f k a b = some (tbl a b) := by
 obtain ⟨K, hK⟩ := spec_l9Table_z a b ha hb (a.size + 1) 0 (List.replicate (a.size + 1) ([] : List Int)) (by omega) (by simp) (fun r h => by omega)
 refine ⟨K, fun k hk => ?_⟩
 have := hK k hk
 unfold spec_l9Table.f
 simp (disch := omega) only [w64, if_pos, Option.bind_some]
 have e2 : ((a.size : Int) + 1).toNat = a.size + 1 := by omega
 simp only [e2, List.length_replicate]
 exact this

theorem impl_DistanceOf_ev (a b : ByteArray) (ha : a.size ≤ 140737488351232) (hb : b.size ≤ 140737488351232) : ∃ K, ∀ k, K ≤ k →
  impl_DistanceOf.f k a b = some (if textB a && textB b then ((a.size : Int) + (b.size : Int) - 2 * (lc a b 0 0 : Int), true) else (0, false)) := by
 obtain ⟨K3, h3⟩ := impl_areTexts_ev a b ha hb
 cases ht : textB a && textB b with
 | false =>
  refine ⟨K3, fun k hk => ?_⟩
  unfold impl_DistanceOf.f
  rw [h3 k hk, ht]
  rfl
 | true =>
  have ht' := ht
  simp only [Bool.and_eq_true] at ht'
  have hsa := textB_size ht'.1
  have hsb := textB_size ht'.2
  obtain ⟨K1, h1⟩ := impl_common_ev a b hsa hsb
  refine ⟨max K1 K3, fun k hk => ?_⟩
  unfold impl_DistanceOf.f
  rw [h3 k (by omega), h1 k (by omega), ht]
  have hl := tbl_length a b
  have hr := tbl_row_length a b 0 (by omega)
  have hg := tbl_get a b 0 0 (by omega) (by omega)
  have hle := lc_le a b 0 0
  simp only [Int.cast_ofNat_Int] at hr hg
  simp only [Option.bind_some, if_true]
  rw [hg]
  simp (disch := omega) only [w64, if_pos]

def withN (a b : ByteArray) : Nat → Nat → Nat → Bool
 | 0, i, _ => decide (i = a.size)
 | d + 1, i, j => if i < a.size then (if bt a i = bt b j then withN a b d (i + 1) (j + 1) else withN a b d i (j + 1)) else decide (i = a.size)
theorem impl_IsWithin_l (a b : ByteArray) (ha : a.size ≤ 140737488351232) (hb : b.size ≤ 140737488351232) : ∀ (d i j : Nat), j + d = b.size → i ≤ a.size →
  ∃ K, ∀ k, K ≤ k → impl_IsWithin.l0 k a b (i : Int) (j : Int) = some (withN a b d i j, true) := by
 intro d
 induction d with
 | zero =>
  intro i j hj hi
  refine ⟨2, fun k hk => ?_⟩
  obtain ⟨k, rfl⟩ : ∃ m, k = m + 2 := ⟨k - 2, by omega⟩
  simp only [impl_IsWithin.l0]
  rw [if_neg (by omega)]
  simp only [impl_IsWithin.j1]
  simp [withN]
  rw [Bool.eq_iff_iff]; simp; omega
 | succ d ih =>
  intro i j hj hi
  by_cases hlt : i < a.size
  ·obtain ⟨K, hK⟩ := ih (i + 1) (j + 1) (by omega) (by omega)
   obtain ⟨K', hK'⟩ := ih i (j + 1) (by omega) (by omega)
   refine ⟨max K K' + 2, fun k hk => ?_⟩
   obtain ⟨k, rfl⟩ : ∃ m, k = m + 2 := ⟨k - 2, by omega⟩
   simp only [impl_IsWithin.l0]
   rw [if_pos (by omega)]
   simp only [impl_IsWithin.j1]
   rw [if_pos (by simp; omega), if_pos (by omega), if_pos (by omega), if_pos (by omega), if_pos (by omega), w64 (by omega) (by omega), w64 (by omega) (by omega)]
   have h1 := hK k (by omega)
   have h2 := hK' k (by omega)
   simp only [Int.natCast_add, Int.cast_ofNat_Int] at h1 h2
   rw [h1, h2]
   by_cases h : bt a i = bt b j <;> simp [withN, hlt, h]
  ·refine ⟨2, fun k hk => ?_⟩
   obtain ⟨k, rfl⟩ : ∃ m, k = m + 2 := ⟨k - 2, by omega⟩
   simp only [impl_IsWithin.l0]
   rw [if_pos (by omega)]
   simp only [impl_IsWithin.j1]
   rw [if_neg (by simp; omega)]
   simp [withN, hlt]
   rw [Bool.eq_iff_iff]; simp; omega

/-! a longest text in common, of several the least: what is picked -/
theorem lc_mono (a b : ByteArray) : ∀ (n i k : Nat), (a.size - i) + (b.size - k) ≤ n → lc a b (i + 1) k ≤ lc a b i k ∧ lc a b i (k + 1) ≤ lc a b i k ∧ lc a b i k ≤ lc a b (i + 1) k + 1 ∧ lc a b i k ≤ lc a b i (k + 1) + 1 := by
 intro n
 induction n with
 | zero =>
  intro i k h
  rw [lc_end_left a b i k (by omega), lc_end_left a b (i + 1) k (by omega), lc_end_left a b i (k + 1) (by omega)]
  omega
 | succ n ih =>
  intro i k h
  by_cases hi : i < a.size
  ·by_cases hk : k < b.size
   ·have s := lc_step a b i k hi hk
    obtain ⟨p1, p2, p3, p4⟩ := ih (i + 1) k (by omega)
    obtain ⟨q1, q2, q3, q4⟩ := ih i (k + 1) (by omega)
    by_cases e : bt a (i : Int) = bt b (k : Int)
    ·rw [if_pos e] at s; omega
    ·rw [if_neg e] at s; omega
   ·rw [lc_end_right a b i k (by omega), lc_end_right a b (i + 1) k (by omega), lc_end_right a b i (k + 1) (by omega)]
    omega
  ·rw [lc_end_left a b i k (by omega), lc_end_left a b (i + 1) k (by omega), lc_end_left a b i (k + 1) (by omega)]
   omega
theorem lc_left (a b : ByteArray) (k i : Nat) : ∀ (d : Nat), lc a b (i + d) k ≤ lc a b i k
 | 0 => Nat.le_refl _
 | d + 1 => Nat.le_trans (lc_mono a b _ (i + d) k (Nat.le_refl _)).1 (lc_left a b k i d)
theorem lc_right (a b : ByteArray) (i k : Nat) : ∀ (d : Nat), lc a b i (k + d) ≤ lc a b i k
 | 0 => Nat.le_refl _
 | d + 1 => Nat.le_trans (lc_mono a b _ i (k + d) (Nat.le_refl _)).2.1 (lc_right a b i k d)
theorem lc_anti {a b : ByteArray} {i i' k k' : Nat} (hi : i ≤ i') (hk : k ≤ k') : lc a b i' k' ≤ lc a b i k := by
 obtain ⟨d, rfl⟩ := Nat.exists_eq_add_of_le hi
 obtain ⟨e, rfl⟩ := Nat.exists_eq_add_of_le hk
 exact Nat.le_trans (lc_left a b _ i d) (lc_right a b i k e)
theorem lc_met {a b : ByteArray} {i k x y : Nat} (hi : i ≤ x) (hk : k ≤ y) (hx : x < a.size) (hy : y < b.size) (e : bt a (x : Int) = bt b (y : Int)) : lc a b (x + 1) (y + 1) + 1 ≤ lc a b i k := by
 have s := lc_step a b x y hx hy
 rw [if_pos e] at s
 have := lc_anti (a := a) (b := b) hi hk
 omega
/-- The first place from y on where the byte c stands, or the end. -/
def nxt (b : ByteArray) (c : Int) : Nat → Nat → Nat
 | 0, y => y
 | d + 1, y => if bt b (y : Int) = c then y else nxt b c d (y + 1)
def fy (b : ByteArray) (c : Int) (y : Nat) : Nat := nxt b c (b.size - y) y
theorem fy_end (b : ByteArray) (c : Int) (y : Nat) (h : b.size ≤ y) : fy b c y = y := by
 unfold fy
 rw [show b.size - y = 0 by omega]; rfl
theorem fy_here (b : ByteArray) (c : Int) (y : Nat) (h : y < b.size) (e : bt b (y : Int) = c) : fy b c y = y := by
 unfold fy
 obtain ⟨d, hd⟩ : ∃ d, b.size - y = d + 1 := ⟨b.size - y - 1, by omega⟩
 rw [hd, nxt, if_pos e]
theorem fy_next (b : ByteArray) (c : Int) (y : Nat) (h : y < b.size) (e : ¬ bt b (y : Int) = c) : fy b c y = fy b c (y + 1) := by
 unfold fy
 obtain ⟨d, hd⟩ : ∃ d, b.size - y = d + 1 := ⟨b.size - y - 1, by omega⟩
 rw [hd, nxt, if_neg e, show b.size - (y + 1) = d by omega]
theorem fy_spec (b : ByteArray) (c : Int) : ∀ (d y : Nat), b.size - y = d → y ≤ fy b c y ∧ (fy b c y < b.size → bt b (fy b c y : Int) = c) ∧ (y ≤ b.size → fy b c y ≤ b.size) := by
 intro d
 induction d with
 | zero => intro y hd; rw [fy_end b c y (by omega)]; exact ⟨Nat.le_refl _, fun h => by omega, fun h => h⟩
 | succ d ih =>
  intro y hd
  by_cases e : bt b (y : Int) = c
  ·rw [fy_here b c y (by omega) e]; exact ⟨Nat.le_refl _, fun _ => e, fun h => h⟩
  ·rw [fy_next b c y (by omega) e]
   obtain ⟨h1, h2, h3⟩ := ih (y + 1) (by omega)
   exact ⟨by omega, h2, fun _ => h3 (by omega)⟩
def qualB (a b : ByteArray) (i k x : Nat) : Bool := decide (fy b (bt a (x : Int)) k < b.size) && decide (lc a b (x + 1) (fy b (bt a (x : Int)) k + 1) + 1 = lc a b i k)
theorem exists_qual (a b : ByteArray) : ∀ (n i k : Nat), (a.size - i) + (b.size - k) ≤ n → 0 < lc a b i k → ∃ x, i ≤ x ∧ x < a.size ∧ qualB a b i k x = true := by
 intro n
 induction n with
 | zero => intro i k h h0; rw [lc_end_left a b i k (by omega)] at h0; omega
 | succ n ih =>
  intro i k h h0
  have hi : i < a.size := by
   by_cases hi : i < a.size
   ·exact hi
   ·rw [lc_end_left a b i k (by omega)] at h0; omega
  have hk : k < b.size := by
   by_cases hk : k < b.size
   ·exact hk
   ·rw [lc_end_right a b i k (by omega)] at h0; omega
  have s := lc_step a b i k hi hk
  by_cases e : bt a (i : Int) = bt b (k : Int)
  ·rw [if_pos e] at s
   refine ⟨i, Nat.le_refl _, hi, ?_⟩
   unfold qualB
   rw [fy_here b _ k hk e.symm, decide_eq_true hk, decide_eq_true s.symm]; rfl
  ·rw [if_neg e] at s
   by_cases e2 : lc a b (i + 1) k = lc a b i k
   ·obtain ⟨x, h1, h2, h3⟩ := ih (i + 1) k (by omega) (by omega)
    refine ⟨x, by omega, h2, ?_⟩
    unfold qualB at h3 ⊢
    rw [e2] at h3
    exact h3
   ·have e3 : lc a b i (k + 1) = lc a b i k := by
     have := (lc_mono a b _ i k (Nat.le_refl _)).1
     omega
    obtain ⟨x, h1, h2, h3⟩ := ih i (k + 1) (by omega) (by omega)
    refine ⟨x, h1, h2, ?_⟩
    unfold qualB at h3 ⊢
    rw [e3] at h3
    simp only [Bool.and_eq_true, decide_eq_true_eq] at h3 ⊢
    by_cases e4 : bt b (k : Int) = bt a (x : Int)
    ·rw [fy_here b _ k hk e4]
     have hf := fy_spec b (bt a (x : Int)) _ (k + 1) rfl
     have h5 := lc_anti (a := a) (b := b) (i := x + 1) (i' := x + 1) (k := k + 1) (k' := fy b (bt a (x : Int)) (k + 1) + 1) (Nat.le_refl _) (by omega)
     have h6 := lc_met (i := i) (k := k) h1 (Nat.le_refl _) h2 hk e4.symm
     exact ⟨hk, by omega⟩
    ·rw [fy_next b _ k hk e4]
     exact h3
def skipc (a : ByteArray) (cur : Option Nat) (x : Nat) : Bool := match cur with
 | none => false
 | some m => decide (bt a (x : Int) ≥ bt a (m : Int))
def pk (a b : ByteArray) (i k : Nat) : Nat → Nat → Option Nat → Option Nat
 | 0, _, cur => cur
 | d + 1, x, cur => if skipc a cur x then pk a b i k d (x + 1) cur else if qualB a b i k x then pk a b i k d (x + 1) (some x) else pk a b i k d (x + 1) cur
theorem pk_inv (a b : ByteArray) (i k : Nat) : ∀ (d x : Nat) (cur : Option Nat), x + d = a.size → i ≤ x → (∀ m, cur = some m → i ≤ m ∧ m < a.size ∧ qualB a b i k m = true) → (∀ m, pk a b i k d x cur = some m → i ≤ m ∧ m < a.size ∧ qualB a b i k m = true) ∧
  ((cur ≠ none ∨ ∃ z, x ≤ z ∧ z < a.size ∧ qualB a b i k z = true) → pk a b i k d x cur ≠ none) := by
 intro d
 induction d with
 | zero =>
  intro x cur hx hi hc
  refine ⟨hc, fun h => ?_⟩
  rcases h with h | ⟨z, h1, h2, _⟩
  ·exact h
  ·omega
 | succ d ih =>
  intro x cur hx hi hc
  have step : ∀ cur', (∀ m, cur' = some m → i ≤ m ∧ m < a.size ∧ qualB a b i k m = true) → ((cur ≠ none ∨ ∃ z, x ≤ z ∧ z < a.size ∧ qualB a b i k z = true) → cur' ≠ none ∨ ∃ z, x + 1 ≤ z ∧ z < a.size ∧ qualB a b i k z = true) →
    (∀ m, pk a b i k d (x + 1) cur' = some m → i ≤ m ∧ m < a.size ∧ qualB a b i k m = true) ∧ ((cur ≠ none ∨ ∃ z, x ≤ z ∧ z < a.size ∧ qualB a b i k z = true) → pk a b i k d (x + 1) cur' ≠ none) := by
   intro cur' h1 h2
   obtain ⟨g1, g2⟩ := ih (x + 1) cur' (by omega) (by omega) h1
   exact ⟨g1, fun h => g2 (h2 h)⟩
  unfold pk
  by_cases hs : skipc a cur x = true
  ·rw [if_pos hs]
   refine step cur hc (fun _ => .inl ?_)
   intro e
   rw [e] at hs
   cases hs
  ·rw [if_neg hs]
   by_cases hq : qualB a b i k x = true
   ·rw [if_pos hq]
    refine step (some x) (fun m hm => ?_) (fun _ => .inl (by simp))
    cases hm
    exact ⟨hi, by omega, hq⟩
   ·rw [if_neg hq]
    refine step cur hc (fun h => ?_)
    rcases h with h | ⟨z, h1, h2, h3⟩
    ·exact .inl h
    ·by_cases e : z = x
     ·subst e; exact absurd h3 hq
     ·exact .inr ⟨z, by omega, h2, h3⟩
def cRes (a b : ByteArray) : Nat → Nat → Nat → List Int
 | 0, _, _ => []
 | d + 1, i, k => if lc a b i k = 0 then [] else match pk a b i k (a.size - i) i none with
  | none => []
  | some m => bt a (m : Int) :: cRes a b d (m + 1) (fy b (bt a (m : Int)) k + 1)
theorem lc_pos {a b : ByteArray} {i k : Nat} (h : ¬ lc a b i k = 0) : i < a.size ∧ k < b.size := by
 constructor
 ·by_cases hi : i < a.size
  ·exact hi
  ·exact absurd (lc_end_left a b i k (by omega)) h
 ·by_cases hk : k < b.size
  ·exact hk
  ·exact absurd (lc_end_right a b i k (by omega)) h
/-- What is picked where something is in common. -/
theorem pk_some (a b : ByteArray) (i k : Nat) (h : ¬ lc a b i k = 0) : ∃ m, pk a b i k (a.size - i) i none = some m ∧ i ≤ m ∧ m < a.size ∧ fy b (bt a (m : Int)) k < b.size ∧ lc a b (m + 1) (fy b (bt a (m : Int)) k + 1) + 1 = lc a b i k := by
 obtain ⟨hi, hk⟩ := lc_pos h
 obtain ⟨g1, g2⟩ := pk_inv a b i k (a.size - i) i none (by omega) (Nat.le_refl _) (fun m hm => by cases hm)
 have hne := g2 (.inr (exists_qual a b _ i k (Nat.le_refl _) (by omega)))
 cases hp : pk a b i k (a.size - i) i none with
 | none => exact absurd hp hne
 | some m =>
  obtain ⟨h1, h2, h3⟩ := g1 m hp
  unfold qualB at h3
  simp only [Bool.and_eq_true, decide_eq_true_eq] at h3
  exact ⟨m, rfl, h1, h2, h3.1, h3.2⟩

theorem tblc (a b : ByteArray) (i j : Nat) (hi : i + 1 ≤ a.size) (hj : j + 1 ≤ b.size) : rd (rd_L1 (tbl a b) ((i : Int) + 1)) ((j : Int) + 1) = (lc a b (i + 1) (j + 1) : Int) := by
 rw [show (i : Int) + 1 = ((i + 1 : Nat) : Int) by omega, show (j : Int) + 1 = ((j + 1 : Nat) : Int) by omega]
 exact tbl_get a b (i + 1) (j + 1) hi hj
theorem tblrow1 (a b : ByteArray) (i : Nat) (hi : i + 1 ≤ a.size) : (rd_L1 (tbl a b) ((i : Int) + 1)).length = b.size + 1 := by
 rw [show (i : Int) + 1 = ((i + 1 : Nat) : Int) by omega]
 exact tbl_row_length a b (i + 1) hi
theorem cmY_ev (a b : ByteArray) (ha : a.size ≤ 300) (i j x : Nat) (hi : i < a.size) (hj : j < b.size) (hx : x < a.size) (bi bj : Int) : ∀ (d y : Nat), b.size - y < d → cmY a b (tbl a b) i j x bi bj d y = some (if fy b (bt a (x : Int)) y < b.size ∧ lc a b (x + 1) (fy b (bt a (x : Int)) y + 1) + 1 = lc a b i j then ((x : Int), (fy b (bt a (x : Int)) y : Int)) else (bi, bj)) := by
 intro d
 induction d with
 | zero => intro y hy; omega
 | succ d ih =>
  intro y hy
  unfold cmY
  by_cases hyb : y < b.size
  ·rw [if_pos hyb]
   by_cases e : bt b (y : Int) = bt a (x : Int)
   ·rw [if_pos e, fy_here b _ y hyb e, if_pos ⟨by rw [tbl_length]; omega, by rw [tblrow1 a b x (by omega)]; omega, by rw [tbl_length]; omega, by rw [tbl_row_length a b i (by omega)]; omega⟩, tblc a b x y (by omega) (by omega), tbl_get a b i j (by omega) (by omega)]
    have h1 := lc_le a b (x + 1) (y + 1)
    rw [w64 (by omega) (by omega)]
    by_cases e2 : lc a b (x + 1) (y + 1) + 1 = lc a b i j
    ·rw [if_pos (by omega), if_pos ⟨hyb, e2⟩]
    ·rw [if_neg (by omega), if_neg (fun h => e2 h.2)]
   ·rw [if_neg e, fy_next b _ y hyb e]
    exact ih (y + 1) (by omega)
  ·rw [if_neg hyb, if_neg (fun h => by rw [fy_end b _ y (by omega)] at h; exact hyb h.1)]
def encI (a b : ByteArray) (k : Nat) (cur : Option Nat) : Int × Int := match cur with
 | none => (-1, -1)
 | some m => ((m : Int), (fy b (bt a (m : Int)) k : Int))
def SeenOk (a b : ByteArray) (i k x : Nat) (cur : Option Nat) (seen : List Bool) : Prop := ∀ c : Int, 0 ≤ c → c ≤ 255 → rdB seen c = true → (∃ m, cur = some m ∧ bt a (m : Int) ≤ c) ∨ (∀ z, x ≤ z → z < a.size → bt a (z : Int) = c → qualB a b i k z = false)
theorem rdB_set (s : List Bool) (c z : Int) (hc : 0 ≤ c) (hz : 0 ≤ z) : rdB (s.set c.toNat true) z = true → z = c ∨ rdB s z = true := by
 unfold rdB
 intro h
 by_cases e : z.toNat = c.toNat
 ·exact .inl (by omega)
 ·right
  rw [List.getD_eq_getElem?_getD, List.getElem?_set_ne (by omega)] at h
  rw [List.getD_eq_getElem?_getD]
  exact h
theorem cmX_ev (a b : ByteArray) (ha : a.size ≤ 300) (i j : Nat) (hi : i < a.size) (hj : j < b.size) : ∀ (d x : Nat) (cur : Option Nat) (seen : List Bool), x + d = a.size → i ≤ x → (∀ m, cur = some m → m < a.size) → SeenOk a b i j x cur seen →
  ∀ f, d < f → cmX a b (tbl a b) i j f x (encI a b j cur).1 (encI a b j cur).2 seen = some (encI a b j (pk a b i j d x cur)) := by
 intro d
 induction d with
 | zero =>
  intro x cur seen hx hix hc hs f hf
  obtain ⟨f, rfl⟩ : ∃ m, f = m + 1 := ⟨f - 1, by omega⟩
  unfold cmX
  rw [if_neg (by omega)]; rfl
 | succ d ih =>
  intro x cur seen hx hix hc hs f hf
  obtain ⟨f, rfl⟩ : ∃ m, f = m + 1 := ⟨f - 1, by omega⟩
  have hxa : x < a.size := by omega
  have hr := bt_range a (x : Int)
  have weak : ∀ cur' : Option Nat, (∀ m : Nat, cur = some m → ∃ m' : Nat, cur' = some m' ∧ bt a (m' : Int) ≤ bt a (m : Int)) → SeenOk a b i j (x + 1) cur' seen := by
   intro cur' hm c h0 h1 h2
   rcases hs c h0 h1 h2 with ⟨m, e, h3⟩ | h3
   ·obtain ⟨m', e', h4⟩ := hm m e
    exact .inl ⟨m', e', by omega⟩
   ·exact .inr (fun z hz => h3 z (by omega))
  unfold cmX pk
  rw [if_pos hxa]
  have go : skipc a cur x = true ∨ (skipc a cur x = false ∧ qualB a b i j x = false) → cmX a b (tbl a b) i j f (x + 1) (encI a b j cur).1 (encI a b j cur).2 seen = some (encI a b j (if skipc a cur x = true then pk a b i j d (x + 1) cur else if qualB a b i j x = true then pk a b i j d (x + 1) (some x) else pk a b i j d (x + 1) cur)) := by
   intro h
   have e : (if skipc a cur x = true then pk a b i j d (x + 1) cur else if qualB a b i j x = true then pk a b i j d (x + 1) (some x) else pk a b i j d (x + 1) cur) = pk a b i j d (x + 1) cur := by
    rcases h with h | ⟨h1, h2⟩
    ·rw [if_pos h]
    ·rw [h1, h2]; rfl
   rw [e]
   exact ih (x + 1) cur seen (by omega) (by omega) hc (weak cur (fun m e => ⟨m, e, Int.le_refl _⟩)) f (by omega)
  by_cases hse : rdB seen (bt a (x : Int)) = true
  ·rw [if_pos hse]
   refine go ?_
   rcases hs _ hr.1 hr.2 hse with ⟨m, e, h3⟩ | h3
   ·left
    rw [e]
    exact decide_eq_true h3
   ·have := h3 x (Nat.le_refl _) hxa rfl
    cases h : skipc a cur x
    ·exact .inr ⟨rfl, this⟩
    ·exact .inl rfl
  ·rw [if_neg hse]
   have body : skipc a cur x = false → ((cmY a b (tbl a b) i j x (encI a b j cur).1 (encI a b j cur).2 (b.size + 1) j).bind fun p => cmX a b (tbl a b) i j f (x + 1) p.1 p.2 (seen.set (bt a (x : Int)).toNat true)) = some (encI a b j (if skipc a cur x = true then pk a b i j d (x + 1) cur else if qualB a b i j x = true then pk a b i j d (x + 1) (some x) else pk a b i j d (x + 1) cur)) := by
    intro hsk
    rw [hsk, cmY_ev a b ha i j x hi hj hxa _ _ (b.size + 1) j (by omega), Option.bind_some]
    simp only [Bool.false_eq_true, if_false]
    by_cases hq : fy b (bt a (x : Int)) j < b.size ∧ lc a b (x + 1) (fy b (bt a (x : Int)) j + 1) + 1 = lc a b i j
    ·have hqb : qualB a b i j x = true := by unfold qualB; rw [decide_eq_true hq.1, decide_eq_true hq.2]; rfl
     rw [if_pos hq, if_pos hqb]
     refine ih (x + 1) (some x) _ (by omega) (by omega) (fun m hm => by cases hm; exact hxa) (fun c h0 h1 h2 => ?_) f (by omega)
     rcases rdB_set seen _ c hr.1 h0 h2 with e | h2'
     ·exact .inl ⟨x, rfl, by omega⟩
     ·refine weak (some x) (fun m e => ⟨x, rfl, ?_⟩) c h0 h1 h2'
      rw [e] at hsk
      have := of_decide_eq_false hsk
      omega
    ·have hqb : qualB a b i j x = false := by
      unfold qualB
      by_cases h1 : fy b (bt a (x : Int)) j < b.size
      ·have : ¬ lc a b (x + 1) (fy b (bt a (x : Int)) j + 1) + 1 = lc a b i j := fun h2 => hq ⟨h1, h2⟩
       rw [decide_eq_false this, Bool.and_false]
      ·rw [decide_eq_false h1]; rfl
     rw [if_neg hq, hqb]
     simp only [Bool.false_eq_true, if_false]
     refine ih (x + 1) cur _ (by omega) (by omega) hc (fun c h0 h1 h2 => ?_) f (by omega)
     rcases rdB_set seen _ c hr.1 h0 h2 with e | h2'
     ·right
      intro z hz hza hzc
      unfold qualB
      rw [hzc, e]
      by_cases h1 : fy b (bt a (x : Int)) j < b.size
      ·have h3 := lc_anti (a := a) (b := b) (i := x + 1) (i' := z + 1) (k := fy b (bt a (x : Int)) j + 1) (k' := fy b (bt a (x : Int)) j + 1) (by omega) (Nat.le_refl _)
       have h4 := fy_spec b (bt a (x : Int)) _ j rfl
       have h5 := lc_met (i := i) (k := j) hix h4.1 hxa h1 (h4.2.1 h1).symm
       have h6 : ¬ lc a b (x + 1) (fy b (bt a (x : Int)) j + 1) + 1 = lc a b i j := fun h2 => hq ⟨h1, h2⟩
       rw [decide_eq_false (show ¬ lc a b (z + 1) (fy b (bt a (x : Int)) j + 1) + 1 = lc a b i j by omega), Bool.and_false]
      ·rw [decide_eq_false h1]; rfl
     ·exact weak cur (fun m e => ⟨m, e, Int.le_refl _⟩) c h0 h1 h2'
   cases cur with
   | none =>
    rw [if_neg (show ¬ (encI a b j none).1 ≥ 0 by show ¬ (-1 : Int) ≥ 0; omega)]
    exact body rfl
   | some m =>
    have hm := hc m rfl
    rw [if_pos (show (encI a b j (some m)).1 ≥ 0 by show (m : Int) ≥ 0; omega), if_pos (show (encI a b j (some m)).1 < (a.size : Int) by show (m : Int) < _; omega)]
    by_cases hge : bt a (x : Int) ≥ bt a (encI a b j (some m)).1
    ·rw [if_pos hge]
     exact go (.inl (decide_eq_true hge))
    ·rw [if_neg hge]
     exact body (decide_eq_false hge)
theorem cmO_ev (a b : ByteArray) (ha : a.size ≤ 300) (hb : b.size ≤ 300) : ∀ (d i j : Nat) (out : List Int), i ≤ a.size → j ≤ b.size → lc a b i j < d → out.length + lc a b i j ≤ 1000 → cmO a b (tbl a b) d out i j = some (out ++ cRes a b d i j) := by
 intro d
 induction d with
 | zero => intro i j out hi hj hd; omega
 | succ d ih =>
  intro i j out hi hj hd hl
  unfold cmO cRes
  rw [if_pos ⟨by rw [tbl_length]; omega, by rw [tbl_row_length a b i hi]; omega⟩, tbl_get a b i j hi hj]
  by_cases h0 : lc a b i j = 0
  ·rw [if_neg (by omega), if_pos h0, List.append_nil]
  ·rw [if_pos (by omega), if_neg h0]
   obtain ⟨hia, hjb⟩ := lc_pos h0
   obtain ⟨m, hm, h1, h2, h3, h4⟩ := pk_some a b i j h0
   have hX := cmX_ev a b ha i j hia hjb (a.size - i) i none (List.replicate 256 false) (by omega) (Nat.le_refl _) (fun m hm => by cases hm) (fun c h0 h1 h2 => by
    unfold rdB at h2
    rw [List.getD_eq_getElem?_getD, List.getElem?_replicate] at h2
    split at h2 <;> simp at h2) (a.size + 1) (by omega)
   have hX' : cmX a b (tbl a b) i j (a.size + 1) i (-1) (-1) (List.replicate 256 false) = some (encI a b j (pk a b i j (a.size - i) i none)) := hX
   rw [hX', hm, Option.bind_some]
   simp only [encI]
   refine (if_pos (show 0 ≤ (m : Int) ∧ (m : Int) < (a.size : Int) ∧ 0 ≤ (fy b (bt a (m : Int)) j : Int) ∧ (fy b (bt a (m : Int)) j : Int) < (b.size : Int) ∧ out.length < 140737488355327 from ⟨by omega, by omega, by omega, by omega, by omega⟩)).trans ?_
   have e1 : ((m : Int) + 1).toNat = m + 1 := by omega
   have e2 : ((fy b (bt a (m : Int)) j : Int) + 1).toNat = fy b (bt a (m : Int)) j + 1 := by omega
   rw [e1, e2, ih (m + 1) _ _ (by omega) (by omega) (by omega) (by simp; omega), List.append_assoc]; rfl
theorem impl_CommonOf_ev (a b : ByteArray) (hs : a.size ≤ 140737488351232) (hp : b.size ≤ 140737488351232) : ∃ K, ∀ k, K ≤ k → impl_CommonOf.f k a b = some (if textB a && textB b then (strOfNums (cRes a b (a.size + 1) 0 0), true) else (⟨#[]⟩, false)) := by
 obtain ⟨K1, h1⟩ := impl_areTexts_ev a b hs hp
 cases ht : textB a && textB b with
 | false =>
  refine ⟨K1, fun k hk => ?_⟩
  unfold impl_CommonOf.f
  rw [if_pos (by omega), h1 k hk, ht]; rfl
 | true =>
  have ht' := ht
  simp only [Bool.and_eq_true] at ht'
  have hsa := textB_size ht'.1
  have hsb := textB_size ht'.2
  obtain ⟨K2, h2⟩ := impl_common_ev a b hsa hsb
  refine ⟨K1 + K2, fun k hk => ?_⟩
  have hle := lc_le a b 0 0
  unfold impl_CommonOf.f
  rw [if_pos (by omega), h1 k (by omega), ht, Option.bind_some, if_pos rfl, h2 k (by omega), Option.bind_some, cmO_ev a b hsa hsb (a.size + 1) 0 0 [] (Nat.zero_le _) (Nat.zero_le _) (by omega) (by simp; omega), Option.bind_some, List.nil_append]; rfl

def encS (a b : ByteArray) (k : Nat) (cur : Option Nat) : Int × Int × Int := match cur with
 | none => (-1, 0, 0)
 | some m => (bt a (m : Int), ((m + 1 : Nat) : Int), ((fy b (bt a (m : Int)) k + 1 : Nat) : Int))
theorem spec_com_y (a b : ByteArray) (ha : a.size ≤ 300) (hb : b.size ≤ 300) (i j x : Nat) (out : List Int) (hi : i < a.size) (hj : j < b.size) (hx : x < a.size) (r : ByteArray × Bool) (s : Int × Int × Int) : ∀ (d y : Nat), b.size - y = d →
  (∃ K, ∀ k, K ≤ k → spec_CommonOf.l1 k a b (tbl a b) out (i : Int) (j : Int) (if fy b (bt a (x : Int)) y < b.size ∧ lc a b (x + 1) (fy b (bt a (x : Int)) y + 1) + 1 = lc a b i j then (bt a (x : Int), ((x + 1 : Nat) : Int), ((fy b (bt a (x : Int)) y + 1 : Nat) : Int)) else s).1 (if fy b (bt a (x : Int)) y < b.size ∧ lc a b (x + 1) (fy b (bt a (x : Int)) y + 1) + 1 = lc a b i j then (bt a (x : Int), ((x + 1 : Nat) : Int), ((fy b (bt a (x : Int)) y + 1 : Nat) : Int)) else s).2.1 (if fy b (bt a (x : Int)) y < b.size ∧ lc a b (x + 1) (fy b (bt a (x : Int)) y + 1) + 1 = lc a b i j then (bt a (x : Int), ((x + 1 : Nat) : Int), ((fy b (bt a (x : Int)) y + 1 : Nat) : Int)) else s).2.2 ((x + 1 : Nat) : Int) = some r) →
  ∃ K, ∀ k, K ≤ k → spec_CommonOf.l2 k a b (tbl a b) out (i : Int) (j : Int) s.1 s.2.1 s.2.2 (x : Int) (y : Int) = some r := by
 intro d
 induction d with
 | zero =>
  intro y hd H
  obtain ⟨K, hK⟩ := H
  have hy : b.size ≤ y := by omega
  refine ⟨K + 1, fun k hk => ?_⟩
  obtain ⟨k, rfl⟩ : ∃ m, k = m + 1 := ⟨k - 1, by omega⟩
  have h := hK k (by omega)
  rw [fy_end b _ y hy, if_neg (fun c => by omega)] at h
  simp only [spec_CommonOf.l2]
  rw [if_neg (by omega), w64 (by omega) (by omega)]
  exact h
 | succ d ih =>
  intro y hd H
  have hyb : y < b.size := by omega
  by_cases e : bt b (y : Int) = bt a (x : Int)
  ·obtain ⟨K, hK⟩ := H
   refine ⟨K + 1, fun k hk => ?_⟩
   obtain ⟨k, rfl⟩ : ∃ m, k = m + 1 := ⟨k - 1, by omega⟩
   have h := hK k (by omega)
   rw [fy_here b _ y hyb e] at h
   have hr := bt_range a (x : Int)
   have hle := lc_le a b i j
   have hle2 := lc_le a b (x + 1) (y + 1)
   simp only [spec_CommonOf.l2]
   rw [w64 (i := (x : Int) + 1) (by omega) (by omega), w64 (i := (y : Int) + 1) (by omega) (by omega)]
   rw [if_pos (by omega), if_pos (by omega), if_pos (by omega), if_pos (by omega), if_pos e, if_pos (by omega), if_pos (by rw [tbl_length]; omega), if_pos (by omega), if_pos (by rw [tblrow1 a b x (by omega)]; omega), if_pos (by omega), if_pos (by rw [tbl_length]; omega), if_pos (by omega), if_pos (by rw [tbl_row_length a b i (by omega)]; omega), tblc a b x y (by omega) (by omega), tbl_get a b i j (by omega) (by omega), w64 (i := (lc a b i j : Int) - 1) (by omega) (by omega), w64 (i := bt a (x : Int)) (by omega) (by omega)]
   rw [show (x : Int) + 1 = ((x + 1 : Nat) : Int) by omega, show (y : Int) + 1 = ((y + 1 : Nat) : Int) by omega]
   by_cases e2 : lc a b (x + 1) (y + 1) + 1 = lc a b i j
   ·rw [if_pos ⟨hyb, e2⟩] at h
    rw [if_pos (by omega)]
    exact h
   ·rw [if_neg (fun c => e2 c.2)] at h
    rw [if_neg (by omega)]
    exact h
  ·rw [fy_next b _ y hyb e] at H
   obtain ⟨K, hK⟩ := ih (y + 1) (by omega) H
   refine ⟨K + 1, fun k hk => ?_⟩
   obtain ⟨k, rfl⟩ : ∃ m, k = m + 1 := ⟨k - 1, by omega⟩
   have h := hK k (by omega)
   simp only [spec_CommonOf.l2]
   rw [if_pos (by omega), if_pos (by omega), if_pos (by omega), if_pos (by omega), if_neg e, w64 (i := (y : Int) + 1) (by omega) (by omega), show (y : Int) + 1 = ((y + 1 : Nat) : Int) by omega]
   exact h
theorem spec_com_x (a b : ByteArray) (ha : a.size ≤ 300) (hb : b.size ≤ 300) (i j : Nat) (out : List Int) (hout : out.length ≤ 1000) (hi : i < a.size) (hj : j < b.size) (r : ByteArray × Bool) : ∀ (d x : Nat) (cur : Option Nat), x + d = a.size →
  (∃ K, ∀ k, K ≤ k → spec_CommonOf.l0 k a b (tbl a b) (out ++ [(encS a b j (pk a b i j d x cur)).1 % 256]) (encS a b j (pk a b i j d x cur)).2.1 (encS a b j (pk a b i j d x cur)).2.2 = some r) →
  ∃ K, ∀ k, K ≤ k → spec_CommonOf.l1 k a b (tbl a b) out (i : Int) (j : Int) (encS a b j cur).1 (encS a b j cur).2.1 (encS a b j cur).2.2 (x : Int) = some r := by
 intro d
 induction d with
 | zero =>
  intro x cur hx H
  obtain ⟨K, hK⟩ := H
  refine ⟨K + 1, fun k hk => ?_⟩
  obtain ⟨k, rfl⟩ : ∃ m, k = m + 1 := ⟨k - 1, by omega⟩
  have h := hK k (by omega)
  simp only [spec_CommonOf.l1]
  rw [if_neg (by omega), if_pos (by omega)]
  exact h
 | succ d ih =>
  intro x cur hx H
  have hxa : x < a.size := by omega
  have hr := bt_range a (x : Int)
  have toj : ∀ (z : Bool), z = skipc a cur x → (∃ K, ∀ k, K ≤ k → spec_CommonOf.j2 k a b (tbl a b) out (i : Int) (j : Int) (encS a b j cur).1 (encS a b j cur).2.1 (encS a b j cur).2.2 (x : Int) z = some r) → ∃ K, ∀ k, K ≤ k → spec_CommonOf.l1 k a b (tbl a b) out (i : Int) (j : Int) (encS a b j cur).1 (encS a b j cur).2.1 (encS a b j cur).2.2 (x : Int) = some r := by
   intro z hz H2
   obtain ⟨K, hK⟩ := H2
   refine ⟨K + 1, fun k hk => ?_⟩
   obtain ⟨k, rfl⟩ : ∃ m, k = m + 1 := ⟨k - 1, by omega⟩
   have h := hK k (by omega)
   simp only [spec_CommonOf.l1]
   rw [if_pos (by omega)]
   cases cur with
   | none =>
    rw [if_neg (show ¬ (encS a b j none).1 ≥ 0 by show ¬ (-1 : Int) ≥ 0; omega)]
    rw [hz] at h
    exact h
   | some m =>
    have hm := bt_range a (m : Int)
    rw [if_pos (show (encS a b j (some m)).1 ≥ 0 by show bt a (m : Int) ≥ 0; omega), if_pos (by omega), w64 (i := bt a (x : Int)) (by omega) (by omega)]
    rw [hz] at h
    exact h
  unfold pk at H
  by_cases hs : skipc a cur x = true
  ·rw [if_pos hs] at H
   obtain ⟨K, hK⟩ := ih (x + 1) cur (by omega) H
   refine toj true hs.symm ⟨K + 1, fun k hk => ?_⟩
   obtain ⟨k, rfl⟩ : ∃ m, k = m + 1 := ⟨k - 1, by omega⟩
   have h := hK k (by omega)
   simp only [spec_CommonOf.j2, if_true]
   rw [w64 (by omega) (by omega), show (x : Int) + 1 = ((x + 1 : Nat) : Int) by omega]
   exact h
  ·rw [if_neg hs] at H
   replace hs := Bool.eq_false_iff.mpr hs
   have fin : ∃ K, ∀ k, K ≤ k → spec_CommonOf.l2 k a b (tbl a b) out (i : Int) (j : Int) (encS a b j cur).1 (encS a b j cur).2.1 (encS a b j cur).2.2 (x : Int) (j : Int) = some r := by
    refine spec_com_y a b ha hb i j x out hi hj hxa r (encS a b j cur) _ j rfl ?_
    by_cases hq : fy b (bt a (x : Int)) j < b.size ∧ lc a b (x + 1) (fy b (bt a (x : Int)) j + 1) + 1 = lc a b i j
    ·have hqb : qualB a b i j x = true := by unfold qualB; rw [decide_eq_true hq.1, decide_eq_true hq.2]; rfl
     rw [if_pos hqb] at H
     rw [if_pos hq]
     exact ih (x + 1) (some x) (by omega) H
    ·have hqb : ¬ qualB a b i j x = true := by
      unfold qualB
      simp only [Bool.and_eq_true, decide_eq_true_eq]
      exact hq
     rw [if_neg hqb] at H
     rw [if_neg hq]
     exact ih (x + 1) cur (by omega) H
   obtain ⟨K, hK⟩ := fin
   refine toj false hs.symm ⟨K + 1, fun k hk => ?_⟩
   obtain ⟨k, rfl⟩ : ∃ m, k = m + 1 := ⟨k - 1, by omega⟩
   have h := hK k (by omega)
   simp only [spec_CommonOf.j2, Bool.false_eq_true, if_false]
   exact h
theorem spec_com_o (a b : ByteArray) (ha : a.size ≤ 300) (hb : b.size ≤ 300) : ∀ (d i j : Nat) (out : List Int), i ≤ a.size → j ≤ b.size → lc a b i j < d → out.length + lc a b i j ≤ 1000 → ∃ K, ∀ k, K ≤ k → spec_CommonOf.l0 k a b (tbl a b) out (i : Int) (j : Int) = some (strOfNums (out ++ cRes a b d i j), true) := by
 intro d
 induction d with
 | zero => intro i j out hi hj hd; omega
 | succ d ih =>
  intro i j out hi hj hd hl
  unfold cRes
  by_cases h0 : lc a b i j = 0
  ·rw [if_pos h0, List.append_nil]
   refine ⟨1, fun k hk => ?_⟩
   obtain ⟨k, rfl⟩ : ∃ m, k = m + 1 := ⟨k - 1, by omega⟩
   simp only [spec_CommonOf.l0]
   rw [if_pos (by omega), if_pos (by rw [tbl_length]; omega), if_pos (by omega), if_pos (by rw [tbl_row_length a b i hi]; omega), tbl_get a b i j hi hj, if_neg (by omega)]
  ·rw [if_neg h0]
   obtain ⟨hia, hjb⟩ := lc_pos h0
   obtain ⟨m, hm, h1, h2, h3, h4⟩ := pk_some a b i j h0
   have hr := bt_range a (m : Int)
   rw [hm]
   have hI := ih (m + 1) (fy b (bt a (m : Int)) j + 1) (out ++ [bt a (m : Int)]) (by omega) (by omega) (by omega) (by simp; omega)
   rw [List.append_assoc] at hI
   obtain ⟨K, hK⟩ := spec_com_x a b ha hb i j out (by omega) hia hjb _ (a.size - i) i none (by omega) (by
    rw [hm]
    simp only [encS]
    rw [show bt a (m : Int) % 256 = bt a (m : Int) by omega]
    exact hI)
   refine ⟨K + 1, fun k hk => ?_⟩
   obtain ⟨k, rfl⟩ : ∃ m, k = m + 1 := ⟨k - 1, by omega⟩
   simp only [spec_CommonOf.l0]
   rw [if_pos (by omega), if_pos (by rw [tbl_length]; omega), if_pos (by omega), if_pos (by rw [tbl_row_length a b i hi]; omega), tbl_get a b i j hi hj, if_pos (by omega)]
   exact hK k (by omega)
theorem spec_CommonOf_ev (a b : ByteArray) (hs : a.size ≤ 140737488351232) (hp : b.size ≤ 140737488351232) : ∃ K, ∀ k, K ≤ k → spec_CommonOf.f k a b = some (if textB a && textB b then (strOfNums (cRes a b (a.size + 1) 0 0), true) else (⟨#[]⟩, false)) := by
 obtain ⟨K1, h1⟩ := spec_l9Texts_ev a b hs hp
 cases ht : textB a && textB b with
 | false =>
  refine ⟨K1, fun k hk => ?_⟩
  unfold spec_CommonOf.f
  rw [h1 k hk, ht]; rfl
 | true =>
  have ht' := ht
  simp only [Bool.and_eq_true] at ht'
  have hsa := textB_size ht'.1
  have hsb := textB_size ht'.2
  obtain ⟨K2, h2⟩ := spec_l9Table_ev a b hsa hsb
  have hle := lc_le a b 0 0
  obtain ⟨K3, h3⟩ := spec_com_o a b hsa hsb (a.size + 1) 0 0 [] (Nat.zero_le _) (Nat.zero_le _) (by omega) (by simp; omega)
  refine ⟨K1 + K2 + K3, fun k hk => ?_⟩
  unfold spec_CommonOf.f
  rw [h1 k (by omega), ht, Option.bind_some, if_pos rfl, h2 k (by omega), Option.bind_some]
  exact h3 k (by omega)

/-! a longest text in common: that it is within both, as long as can be, and the same from both sides -/
theorem lcs_comm : ∀ (n : Nat) (xs ys : List Int), xs.length + ys.length ≤ n → lcs xs ys = lcs ys xs := by
 intro n
 induction n with
 | zero =>
  intro xs ys h
  cases xs with
  | nil => rw [lcs_nil, lcs_nil_right]
  | cons x xs => simp at h
 | succ n ih =>
  intro xs ys h
  cases xs with
  | nil => rw [lcs_nil, lcs_nil_right]
  | cons x xs =>
   cases ys with
   | nil => rw [lcs_nil, lcs_nil_right]
   | cons y ys =>
    simp only [List.length_cons] at h
    rw [lcs_cons, lcs_cons, ih xs ys (by omega), ih xs (y :: ys) (by simp only [List.length_cons]; omega), ih (x :: xs) ys (by simp only [List.length_cons]; omega)]
    by_cases e : x = y
    ·rw [if_pos e, if_pos e.symm]
    ·rw [if_neg e, if_neg (fun h => e h.symm)]; exact Nat.max_comm _ _
theorem lc_comm (a b : ByteArray) (i k : Nat) : lc a b i k = lc b a k i := lcs_comm _ _ _ (Nat.le_refl _)
/-- What a picked place is: the least byte, and its first place. -/
theorem pk_least (a b : ByteArray) (i k : Nat) : ∀ (d x : Nat) (cur : Option Nat), x + d = a.size → i ≤ x →
  (∀ z, i ≤ z → z < x → qualB a b i k z = true → ∃ m, cur = some m ∧ bt a (m : Int) ≤ bt a (z : Int) ∧ (bt a (m : Int) = bt a (z : Int) → m ≤ z)) →
  (∀ m, cur = some m → m < x) →
  ∀ z, i ≤ z → z < a.size → qualB a b i k z = true → ∃ m, pk a b i k d x cur = some m ∧ bt a (m : Int) ≤ bt a (z : Int) ∧ (bt a (m : Int) = bt a (z : Int) → m ≤ z) := by
 intro d
 induction d with
 | zero =>
  intro x cur hx hi hc hm z h1 h2 h3
  exact hc z h1 (by omega) h3
 | succ d ih =>
  intro x cur hx hi hc hm z h1 h2 h3
  rw [pk]
  by_cases hs : skipc a cur x = true
  ·rw [if_pos hs]
   refine ih (x + 1) cur (by omega) (by omega) (fun z hz1 hz2 hz3 => ?_) (fun m h => by have := hm m h; omega) z h1 h2 h3
   by_cases e : z = x
   ·subst e
    cases hcur : cur with
    | none => rw [hcur] at hs; simp [skipc] at hs
    | some m =>
     rw [hcur] at hs
     simp only [skipc, decide_eq_true_eq] at hs
     have := hm m hcur
     exact ⟨m, rfl, hs, fun _ => by omega⟩
   ·exact hc z hz1 (by omega) hz3
  ·rw [if_neg hs]
   by_cases hq : qualB a b i k x = true
   ·rw [if_pos hq]
    refine ih (x + 1) (some x) (by omega) (by omega) (fun z hz1 hz2 hz3 => ?_) (fun m h => by cases h; omega) z h1 h2 h3
    refine ⟨x, rfl, ?_⟩
    by_cases e : z = x
    ·subst e; exact ⟨Int.le_refl _, fun _ => Nat.le_refl _⟩
    ·obtain ⟨m, g1, g2, g3⟩ := hc z hz1 (by omega) hz3
     rw [g1] at hs
     simp only [skipc, decide_eq_true_eq] at hs
     exact ⟨by omega, fun h => by omega⟩
   ·rw [if_neg hq]
    refine ih (x + 1) cur (by omega) (by omega) (fun z hz1 hz2 hz3 => ?_) (fun m h => by have := hm m h; omega) z h1 h2 h3
    by_cases e : z = x
    ·subst e; exact absurd hz3 hq
    ·exact hc z hz1 (by omega) hz3
theorem fy_first (a : ByteArray) (c : Int) : ∀ (d i m : Nat), a.size - i = d → i ≤ m → m < a.size → bt a (m : Int) = c → fy a c i ≤ m := by
 intro d
 induction d with
 | zero => intro i m hd h1 h2 h3; omega
 | succ d ih =>
  intro i m hd h1 h2 h3
  by_cases e : bt a (i : Int) = c
  ·rw [fy_here a c i (by omega) e]; exact h1
  ·rw [fy_next a c i (by omega) e]
   have hne : m ≠ i := fun h => e (by rw [← h]; exact h3)
   exact ih (i + 1) m (by omega) (by omega) h2 h3
/-- A byte that can come next. -/
def QC (a b : ByteArray) (i k : Nat) (c : Int) : Prop := fy a c i < a.size ∧ fy b c k < b.size ∧ lc a b (fy a c i + 1) (fy b c k + 1) + 1 = lc a b i k
theorem QC.comm {a b : ByteArray} {i k : Nat} {c : Int} (h : QC a b i k c) : QC b a k i c := by
 obtain ⟨h1, h2, h3⟩ := h
 exact ⟨h2, h1, by rw [lc_comm b a, lc_comm b a]; exact h3⟩
theorem QC.qual {a b : ByteArray} {i k : Nat} {c : Int} (h : QC a b i k c) : i ≤ fy a c i ∧ bt a (fy a c i : Int) = c ∧ qualB a b i k (fy a c i) = true := by
 obtain ⟨h1, h2, h3⟩ := h
 have hf := fy_spec a c _ i rfl
 have e := hf.2.1 h1
 refine ⟨hf.1, e, ?_⟩
 unfold qualB
 rw [e, decide_eq_true h2, decide_eq_true h3]; rfl
/-- What is picked: the least byte that can come next, at its first places. -/
theorem pk_is (a b : ByteArray) (i k : Nat) (h : ¬ lc a b i k = 0) : ∃ m, pk a b i k (a.size - i) i none = some m ∧ QC a b i k (bt a (m : Int)) ∧ m = fy a (bt a (m : Int)) i ∧ ∀ c, QC a b i k c → bt a (m : Int) ≤ c := by
 obtain ⟨m, e, h1, h2, h3, h4⟩ := pk_some a b i k h
 have least := pk_least a b i k (a.size - i) i none (by have := (lc_pos h).1; omega) (Nat.le_refl _) (fun z hz1 hz2 _ => by omega) (fun m hm => by cases hm)
 have hf := fy_first a (bt a (m : Int)) _ i m rfl h1 h2 rfl
 have hs := fy_spec a (bt a (m : Int)) _ i rfl
 have hq : QC a b i k (bt a (m : Int)) := by
  refine ⟨by omega, h3, ?_⟩
  have e5 := hs.2.1 (by omega)
  have h5 := lc_anti (a := a) (b := b) (i := fy a (bt a (m : Int)) i + 1) (i' := m + 1) (k := fy b (bt a (m : Int)) k + 1) (k' := fy b (bt a (m : Int)) k + 1) (by omega) (Nat.le_refl _)
  have hb := fy_spec b (bt a (m : Int)) _ k rfl
  have h6 := lc_met (a := a) (b := b) hs.1 hb.1 (by omega) h3 (e5.trans (hb.2.1 h3).symm)
  omega
 refine ⟨m, e, hq, ?_, fun c hc => ?_⟩
 ·obtain ⟨q1, q2, q3⟩ := hq.qual
  obtain ⟨m', g1, g2, g3⟩ := least _ q1 hq.1 q3
  rw [e] at g1
  cases g1
  have := g3 q2.symm
  omega
 ·obtain ⟨q1, q2, q3⟩ := hc.qual
  obtain ⟨m', g1, g2, g3⟩ := least _ q1 hc.1 q3
  rw [e] at g1
  cases g1
  rw [q2] at g2
  exact g2
theorem cRes_comm (a b : ByteArray) : ∀ (d e i k : Nat), lc a b i k < d → lc a b i k < e → cRes a b d i k = cRes b a e k i := by
 intro d
 induction d with
 | zero => intro e i k h; omega
 | succ d ih =>
  intro e i k h he
  obtain ⟨e, rfl⟩ : ∃ n, e = n + 1 := ⟨e - 1, by omega⟩
  rw [cRes, cRes]
  by_cases h0 : lc a b i k = 0
  ·rw [if_pos h0, if_pos (by rw [lc_comm]; exact h0)]
  ·have h0' : ¬ lc b a k i = 0 := by rw [lc_comm]; exact h0
   rw [if_neg h0, if_neg h0']
   obtain ⟨m, e1, q1, f1, l1⟩ := pk_is a b i k h0
   obtain ⟨n, e2, q2, f2, l2⟩ := pk_is b a k i h0'
   rw [e1, e2]
   have h1 := l1 _ q2.comm
   have h2 := l2 _ q1.comm
   have hc : bt a (m : Int) = bt b (n : Int) := by omega
   have hl := q1.2.2
   rw [← f1] at hl
   have fm : fy a (bt b (n : Int)) i = m := by rw [← hc]; exact f1.symm
   have fn : fy b (bt a (m : Int)) k = n := by rw [hc]; exact f2.symm
   show bt a (m : Int) :: cRes a b d (m + 1) (fy b (bt a (m : Int)) k + 1) = bt b (n : Int) :: cRes b a e (n + 1) (fy a (bt b (n : Int)) i + 1)
   rw [fn] at hl
   rw [fm, fn, hc, ih e (m + 1) (n + 1) (by omega) (by omega)]
theorem cRes_len (a b : ByteArray) : ∀ (d i k : Nat), lc a b i k < d → (cRes a b d i k).length = lc a b i k := by
 intro d
 induction d with
 | zero => intro i k h; omega
 | succ d ih =>
  intro i k h
  rw [cRes]
  by_cases h0 : lc a b i k = 0
  ·rw [if_pos h0, h0]; rfl
  ·rw [if_neg h0]
   obtain ⟨m, e1, h1, h2, h3, h4⟩ := pk_some a b i k h0
   rw [e1]
   show (bt a (m : Int) :: cRes a b d (m + 1) (fy b (bt a (m : Int)) k + 1)).length = _
   rw [List.length_cons, ih _ _ (by omega)]
   omega
/-- A run of bytes stands within a text behind a place. -/
def SubF (t : ByteArray) : List Int → Nat → Prop
 | [], _ => True
 | c :: L, j => ∃ y, j ≤ y ∧ y < t.size ∧ bt t (y : Int) = c ∧ SubF t L (y + 1)
theorem SubF.mono {t : ByteArray} : ∀ {L : List Int} {j j' : Nat}, SubF t L j' → j ≤ j' → SubF t L j
 | [], _, _, _, _ => trivial
 | c :: L, j, j', ⟨y, h1, h2, h3, h4⟩, h => ⟨y, by omega, h2, h3, h4⟩
theorem cRes_left (a b : ByteArray) : ∀ (d i k : Nat), SubF a (cRes a b d i k) i := by
 intro d
 induction d with
 | zero => intro i k; exact trivial
 | succ d ih =>
  intro i k
  rw [cRes]
  by_cases h0 : lc a b i k = 0
  ·rw [if_pos h0]; exact trivial
  ·rw [if_neg h0]
   obtain ⟨m, e1, h1, h2, h3, h4⟩ := pk_some a b i k h0
   rw [e1]
   exact ⟨m, h1, h2, rfl, ih _ _⟩
theorem cRes_byte (a b : ByteArray) : ∀ (d i k : Nat), ∀ c ∈ cRes a b d i k, 0 ≤ c ∧ c ≤ 255 := by
 intro d
 induction d with
 | zero => intro i k c h; cases h
 | succ d ih =>
  intro i k c h
  rw [cRes] at h
  by_cases h0 : lc a b i k = 0
  ·rw [if_pos h0] at h; cases h
  ·rw [if_neg h0] at h
   obtain ⟨m, e1, h1, h2, h3, h4⟩ := pk_some a b i k h0
   rw [e1] at h
   rcases List.mem_cons.mp h with rfl | h
   ·exact bt_range a (m : Int)
   ·exact ih _ _ c h
/-- Who walks through a text byte by byte finds what stands within it. -/
theorem withN_ok (s t : ByteArray) : ∀ (d i j : Nat), j + d = t.size → i ≤ s.size → SubF t ((BL s).drop i) j → withN s t d i j = true := by
 intro d
 induction d with
 | zero =>
  intro i j hj hi h
  rw [withN]
  by_cases hs : i < s.size
  ·rw [BL_drop s i hs] at h
   obtain ⟨y, h1, h2, _⟩ := h
   omega
  ·exact decide_eq_true (by omega)
 | succ d ih =>
  intro i j hj hi h
  rw [withN]
  by_cases hs : i < s.size
  ·rw [if_pos hs]
   rw [BL_drop s i hs] at h
   obtain ⟨y, h1, h2, h3, h4⟩ := h
   by_cases e : bt s (i : Int) = bt t (j : Int)
   ·rw [if_pos e]
    exact ih (i + 1) (j + 1) (by omega) (by omega) (h4.mono (by omega))
   ·rw [if_neg e]
    refine ih i (j + 1) (by omega) hi ?_
    rw [BL_drop s i hs]
    have : y ≠ j := fun h => e (by rw [← h]; exact h3.symm)
    exact ⟨y, by omega, h2, h3, h4⟩
  ·rw [if_neg hs]; exact decide_eq_true (by omega)
theorem bt_nums (xs : List Int) (h : ∀ c ∈ xs, 0 ≤ c ∧ c ≤ 255) (j : Nat) (hj : j < xs.length) : bt (strOfNums xs) (j : Int) = xs[j] := by
 have hs : j < (strOfNums xs).size := by rw [strOfNums_size]; exact hj
 have hr := h _ (List.getElem_mem hj)
 unfold bt
 rw [dif_pos (by rw [Int.toNat_natCast]; exact hs)]
 simp only [Int.toNat_natCast, ByteArray.getElem_eq_getElem_data, strOfNums]
 simp
 omega
theorem BL_nums (xs : List Int) (h : ∀ c ∈ xs, 0 ≤ c ∧ c ≤ 255) : BL (strOfNums xs) = xs := by
 apply List.ext_getElem
 ·rw [BL_length, strOfNums_size]
 ·intro j h1 h2
  simp only [BL, List.getElem_map, List.getElem_range]
  exact bt_nums xs h j h2
theorem okN_at (s : ByteArray) : ∀ (d i : Nat), okN s d i = true → ∀ j, i ≤ j → j < i + d → okB (bt s (j : Int)) = true := by
 intro d
 induction d with
 | zero => intro i h j h1 h2; omega
 | succ d ih =>
  intro i h j h1 h2
  rw [okN, Bool.and_eq_true] at h
  by_cases e : j = i
  ·subst e; exact h.1
  ·exact ih (i + 1) h.2 j (by omega) (by omega)
theorem okN_of (s : ByteArray) : ∀ (d i : Nat), (∀ j : Nat, i ≤ j → j < i + d → okB (bt s (j : Int)) = true) → okN s d i = true := by
 intro d
 induction d with
 | zero => intro i h; rfl
 | succ d ih =>
  intro i h
  rw [okN, Bool.and_eq_true]
  exact ⟨h i (Nat.le_refl _) (by omega), ih (i + 1) (fun j h1 h2 => h j (by omega) (by omega))⟩
theorem cRes_okB (a b : ByteArray) (ha : textB a = true) : ∀ (d i k : Nat), ∀ c ∈ cRes a b d i k, okB c = true := by
 intro d
 induction d with
 | zero => intro i k c h; cases h
 | succ d ih =>
  intro i k c h
  rw [cRes] at h
  by_cases h0 : lc a b i k = 0
  ·rw [if_pos h0] at h; cases h
  ·rw [if_neg h0] at h
   obtain ⟨m, e1, h1, h2, h3, h4⟩ := pk_some a b i k h0
   rw [e1] at h
   rcases List.mem_cons.mp h with rfl | h
   ·unfold textB at ha
    rw [Bool.and_eq_true] at ha
    exact okN_at a _ 0 ha.1 m (by omega) (by omega)
   ·exact ih _ _ c h
theorem cRes_text (a b : ByteArray) (ha : textB a = true) : textB (strOfNums (cRes a b (a.size + 1) 0 0)) = true := by
 have hl := cRes_len a b (a.size + 1) 0 0 (by have := lc_le a b 0 0; omega)
 have h0 := lc_le a b 0 0
 have h1 := textB_size ha
 have hb := cRes_byte a b (a.size + 1) 0 0
 have ho := cRes_okB a b ha (a.size + 1) 0 0
 generalize cRes a b (a.size + 1) 0 0 = L at *
 unfold textB
 rw [Bool.and_eq_true, strOfNums_size]
 refine ⟨okN_of _ _ 0 (fun j _ hj => ?_), decide_eq_true (by omega)⟩
 rw [bt_nums L hb j (by omega)]
 exact ho _ (List.getElem_mem _)
/-- It is within the one and within the other. -/
theorem cRes_within (a b : ByteArray) : withN (strOfNums (cRes a b (a.size + 1) 0 0)) a a.size 0 0 = true ∧ withN (strOfNums (cRes a b (a.size + 1) 0 0)) b b.size 0 0 = true := by
 have hb := cRes_byte a b (a.size + 1) 0 0
 have h1 := cRes_left a b (a.size + 1) 0 0
 have h2 := cRes_left b a (b.size + 1) 0 0
 have e := cRes_comm a b (a.size + 1) (b.size + 1) 0 0 (by have := lc_le a b 0 0; omega) (by have := lc_le b a 0 0; rw [lc_comm]; omega)
 rw [← e] at h2
 generalize cRes a b (a.size + 1) 0 0 = L at *
 refine ⟨withN_ok _ a _ 0 0 (by omega) (by omega) ?_, withN_ok _ b _ 0 0 (by omega) (by omega) ?_⟩
 ·rw [BL_nums L hb, List.drop_zero]; exact h1
 ·rw [BL_nums L hb, List.drop_zero]; exact h2

theorem u64_range (n : Int) : 0 ≤ IntKind.u64.wrap n ∧ IntKind.u64.wrap n < 18446744073709551616 := by
 have h : IntKind.u64.wrap n = n % 18446744073709551616 := by simp [IntKind.wrap, IntKind.bits, IntKind.signed]
 rw [h]; omega
theorem u64_and255 (n : Int) : 0 ≤ Go.bits .and .u64 (IntKind.u64.wrap n / 1099511627776) 255 ∧ Go.bits .and .u64 (IntKind.u64.wrap n / 1099511627776) 255 < 256 := by
 have h := u64_range n
 have e := bits_mask .u64 24 (by decide) (fun n h0 h1 => by
  have h : IntKind.u64.wrap n = n % 18446744073709551616 := by simp [IntKind.wrap, IntKind.bits, IntKind.signed]
  rw [h]; omega) 8 (by decide) (IntKind.u64.wrap n / 1099511627776) (by omega) (by omega)
 rw [show (255 : Int) = 2 ^ 8 - 1 from rfl, e]
 omega
def okCode (c : List Int) : Prop := ∀ x ∈ c, 0 ≤ x ∧ x < 256
theorem okCode_of {c : List Int} (h : ∀ x ∈ c, (Lit.int .u8 x).wf = true) : okCode c := by
 intro x hx
 have := h x hx
 simp [Lit.wf, IntKind.min, IntKind.max, IntKind.bits, IntKind.signed] at this
 omega
theorem okCode.rd {c : List Int} (h : okCode c) (i : Int) : 0 ≤ rd c i ∧ rd c i < 256 := by
 unfold Go.Proofs.YtibedlbjkaikiaaW.PrintWords.rd
 rw [List.getD_eq_getElem?_getD]
 cases e : c[i.toNat]? with
 | none => simp
 | some x => simp; exact h x (List.mem_of_getElem? e)
theorem next_ev {c : List Int} (hc : okCode c) (a s : Int) (h0 : 0 ≤ a) (h1 : a ≤ 4000000000000000000) : ∃ r s', spec_l1Cur_next.f c a s = some (r, a + 1, s') ∧ 0 ≤ r ∧ r < 256 := by
 have hr := hc.rd a
 have hu := u64_and255
 unfold spec_l1Cur_next.f
 rw [w64 (by omega : -4611686018427387904 ≤ a + 1) (by omega)]
 by_cases c1 : a < (c.length : Int)
 ·rw [if_pos c1, if_pos h0, if_pos (by omega), w64 (by omega) (by omega)]
  exact ⟨_, _, rfl, hr.1, hr.2⟩
 ·rw [if_neg c1, if_neg (by omega)]
  refine ⟨_, _, rfl, ?_⟩
  have := hu (IntKind.u64.wrap (IntKind.u64.wrap (s * 6364136223846793005) + 0) + 1442695040888963407)
  rw [w64 (by omega) (by omega)]
  exact this
theorem pick_ev {c : List Int} (hc : okCode c) (a s n : Int) (h0 : 0 ≤ a) (h1 : a ≤ 3000000000000000000) (hn : 1 ≤ n) (hn2 : n ≤ 1000000000000) : ∃ r a' s', spec_l1Cur_pick.f c a s n = some (r, a', s') ∧ 0 ≤ r ∧ r < n ∧ a ≤ a' ∧ a' ≤ a + 2 := by
 unfold spec_l1Cur_pick.f
 by_cases c1 : n ≤ 1
 ·rw [if_pos c1]; exact ⟨0, a, s, rfl, by omega, by omega, by omega, by omega⟩
 ·obtain ⟨r, s1, e1, hr0, hr1⟩ := next_ev hc a s h0 (by omega)
  rw [if_neg c1, e1]
  simp only [Option.bind_some]
  by_cases c2 : n > 200
  ·obtain ⟨r2, s2, e2, hr2, hr3⟩ := next_ev hc (a + 1) s1 (by omega) (by omega)
   rw [if_pos c2, e2]
   simp only [Option.bind_some]
   rw [if_neg (by omega), w64 (by omega : -4611686018427387904 ≤ r * 256) (by omega), w64 (by omega) (by omega)]
   refine ⟨_, _, _, rfl, ?_, ?_, by omega, by omega⟩
   ·rw [Int.tmod_eq_emod_of_nonneg (by omega)]; exact Int.emod_nonneg _ (by omega)
   ·rw [Int.tmod_eq_emod_of_nonneg (by omega)]; exact Int.emod_lt_of_pos _ (by omega)
  ·rw [if_neg c2, if_neg (by omega)]
   refine ⟨_, _, _, rfl, ?_, ?_, by omega, by omega⟩
   ·rw [Int.tmod_eq_emod_of_nonneg (by omega)]; exact Int.emod_nonneg _ (by omega)
   ·rw [Int.tmod_eq_emod_of_nonneg (by omega)]; exact Int.emod_lt_of_pos _ (by omega)
theorem one_ev {c : List Int} (hc : okCode c) (a s n : Int) (h0 : 0 ≤ a) (h1 : a ≤ 3000000000000000000) (hn : 1 ≤ n) (hn2 : n ≤ 1000000000000) : ∃ r a' s', spec_l1Cur_one.f c a s n = some (r, a', s') ∧ a ≤ a' ∧ a' ≤ a + 2 := by
 obtain ⟨r, a', s', e, _, _, h2, h3⟩ := pick_ev hc a s n h0 h1 hn hn2
 unfold spec_l1Cur_one.f
 rw [e]
 exact ⟨_, _, _, rfl, h2, h3⟩

theorem of_ev {c : List Int} (hc : okCode c) (a s : Int) (l : List ByteArray) (M : Nat) (h0 : 0 ≤ a) (h1 : a ≤ 3000000000000000000) (hl : 0 < l.length) (hl2 : l.length ≤ 1000) (hM : ∀ x ∈ l, x.size ≤ M) : ∃ r a' s', spec_l1Cur_of.f c a s l = some (r, a', s') ∧ r ∈ l ∧ r.size ≤ M ∧ a ≤ a' ∧ a' ≤ a + 2 := by
 obtain ⟨r, a', s', e, h2, h3, h4, h5⟩ := pick_ev hc a s (l.length : Int) h0 h1 (by omega) (by omega)
 unfold spec_l1Cur_of.f
 rw [e]
 simp only [Option.bind_some]
 rw [if_pos h2, if_pos h3]
 have hm : rdOf ByteArray.empty l r ∈ l := by
  unfold rdOf
  rw [List.getD_eq_getElem?_getD, List.getElem?_eq_getElem (by omega : r.toNat < l.length)]
  simp
 exact ⟨_, _, _, rfl, hm, hM _ hm, h4, h5⟩

def cO : Nat → Int
 | 0 => 600
 | d + 1 => 60 * (cO d + 10)
def sO : Nat → Nat
 | 0 => 300
 | d + 1 => 60 * (sO d + 10)
def xO : Nat → Nat
 | 0 => 5
 | d + 1 => sO d + 10
def yO : Nat → Int
 | 0 => 10
 | d + 1 => cO d + 10
theorem cO_le (d : Nat) (h : d ≤ 3) : 0 ≤ cO d ∧ cO d ≤ 1000000000 := by
 rcases d with _ | _ | _ | _ | d <;> simp [cO] <;> omega
theorem sO_le (d : Nat) (h : d ≤ 3) : sO d ≤ 1000000000 := by
 rcases d with _ | _ | _ | _ | d <;> simp [sO] <;> omega
theorem size_app (a b : ByteArray) : (a ++ b).size = a.size + b.size := ByteArray.size_append
theorem inner_l {c : List Int} (hc : okCode c) (d : Nat) (hd : d ≤ 3)
  (IH : ∀ e : Nat, d = e + 1 → ∀ (a s n : Int), 0 ≤ a → a ≤ 2000000000000000000 + (3 - (e : Int)) * 1000000000000 → 0 ≤ n → n ≤ 60 → ∃ t a' s', t.size ≤ sO e ∧ a ≤ a' ∧ a' ≤ a + cO e ∧ ∃ K, ∀ k, K ≤ k → spec_l1Cur_inner.f k c a s n (e : Int) = some (t, a', s')) :
  ∀ (n : Nat) (t : ByteArray) (a s : Int), n ≤ 60 → 0 ≤ a → a ≤ 2000000000000000000 + (3 - (d : Int)) * 1000000000000 + (60 - (n : Int)) * 1000000000 → t.size + n * 1000000000 ≤ 60 * 1000000000 →
   ∃ t' a' s', t'.size ≤ t.size + n * (xO d) ∧ a ≤ a' ∧ a' ≤ a + n * (yO d) ∧ ∃ K, ∀ k, K ≤ k → spec_l1Cur_inner.l0 k (n : Int) (d : Int) t c a s = some (t', a', s') := by
 intro n
 induction n with
 | zero =>
  intro t a s hn h0 h1 ht
  refine ⟨t, a, s, by omega, by omega, by omega, 1, fun k hk => ?_⟩
  obtain ⟨k, rfl⟩ : ∃ m, k = m + 1 := ⟨k - 1, by omega⟩
  simp only [spec_l1Cur_inner.l0]
  rw [if_neg (by omega)]
 | succ n ih =>
  intro t a s hn h0 h1 ht
  have join : ∀ (u : ByteArray) (a1 s1 : Int), u.size ≤ (xO d) → a ≤ a1 → a1 ≤ a + (yO d) →
    ∃ t' a' s', t'.size ≤ t.size + (n + 1 : Nat) * (xO d) ∧ a ≤ a' ∧ a' ≤ a + ((n + 1 : Nat) : Int) * (yO d) ∧ ∃ K, ∀ k, K ≤ k → spec_l1Cur_inner.l0 k (n : Int) (d : Int) (t ++ u) c a1 s1 = some (t', a', s') := by
   intro u a1 s1 hu h2 h3
   have b1 : xO d ≤ 1000000000 := by
    cases d with
    | zero => simp [xO]
    | succ e => have := sO_le e (by omega); rcases e with _ | _ | _ | e <;> simp [xO, sO] <;> omega
   have b2 : yO d ≤ 1000000000 := by
    cases d with
    | zero => simp [yO]
    | succ e => rcases e with _ | _ | _ | e <;> simp [yO, cO] <;> omega
   generalize xO d = X at *
   generalize yO d = Y at *
   obtain ⟨t', a', s', g1, g2, g3, g4⟩ := ih (t ++ u) a1 s1 (by omega) (by omega) (by omega) (by rw [size_app]; omega)
   refine ⟨t', a', s', ?_, by omega, ?_, g4⟩
   ·rw [size_app] at g1
    have : (n + 1) * X = n * X + X := Nat.succ_mul n X
    omega
   ·have : ((n + 1 : Nat) : Int) * Y = (n : Int) * Y + Y := by rw [show ((n + 1 : Nat) : Int) = (n : Int) + 1 by omega, Int.add_mul, Int.one_mul]
    omega
  have plain : ∀ a1 s1 : Int, a ≤ a1 → a1 ≤ a + 2 → ∃ t' a' s', t'.size ≤ t.size + (n + 1 : Nat) * (xO d) ∧ a ≤ a' ∧ a' ≤ a + ((n + 1 : Nat) : Int) * (yO d) ∧ ∃ K, ∀ k, K ≤ k → spec_l1Cur_inner.j1 k ((n : Int) + 1) (d : Int) t false c a1 s1 = some (t', a', s') := by
   intro a1 s1 h2 h3
   obtain ⟨u, a2, s2, e, _, hu, h4, h5⟩ := of_ev hc a1 s1 ([(⟨#[97]⟩ : ByteArray), (⟨#[98]⟩ : ByteArray), (⟨#[97, 98]⟩ : ByteArray), (⟨#[120]⟩ : ByteArray), (⟨#[32]⟩ : ByteArray), (⟨#[111, 110, 101]⟩ : ByteArray), (⟨#[49]⟩ : ByteArray), (⟨#[122, 46]⟩ : ByteArray)] : List ByteArray) 3 (by omega) (by omega) (by simp) (by simp) (by decide)
   obtain ⟨t', a', s', g1, g2, g3, K, g4⟩ := join u a2 s2 (by cases d <;> simp [xO] <;> omega) (by omega) (by
    cases d with
    | zero => simp [yO]; omega
    | succ e => have := cO_le e (by omega); simp [yO]; omega)
   refine ⟨t', a', s', g1, g2, g3, K + 1, fun k hk => ?_⟩
   obtain ⟨k, rfl⟩ : ∃ m, k = m + 1 := ⟨k - 1, by omega⟩
   simp only [spec_l1Cur_inner.j1]
   rw [if_neg (by simp), e]
   simp only [Option.bind_some]
   rw [if_pos (by omega), w64 (by omega) (by omega), Int.add_sub_cancel]
   exact g4 k (by omega)
  cases d with
  | zero =>
   obtain ⟨t', a', s', g1, g2, g3, K, g4⟩ := plain a s (by omega) (by omega)
   refine ⟨t', a', s', g1, g2, g3, K + 1, fun k hk => ?_⟩
   obtain ⟨k, rfl⟩ : ∃ m, k = m + 1 := ⟨k - 1, by omega⟩
   simp only [spec_l1Cur_inner.l0]
   rw [if_pos (by omega), if_neg (by omega)]
   exact g4 k (by omega)
  | succ e =>
   obtain ⟨r, a1, s1, e1, h2, h3⟩ := one_ev hc a s 3 (by omega) (by omega) (by omega) (by omega)
   have hb := cO_le e (by omega)
   have hs := sO_le e (by omega)
   cases r with
   | false =>
    obtain ⟨t', a', s', g1, g2, g3, K, g4⟩ := plain a1 s1 (by omega) (by omega)
    refine ⟨t', a', s', g1, g2, g3, K + 1, fun k hk => ?_⟩
    obtain ⟨k, rfl⟩ : ∃ m, k = m + 1 := ⟨k - 1, by omega⟩
    simp only [spec_l1Cur_inner.l0]
    rw [if_pos (by omega), if_pos (by omega), e1]
    exact g4 k (by omega)
   | true =>
    obtain ⟨p1, a2, s2, e2, q1, q2, q3, q4⟩ := pick_ev hc a1 s1 4 (by omega) (by omega) (by omega) (by omega)
    obtain ⟨p2, a3, s3, e3, q5, q6, q7, q8⟩ := pick_ev hc a2 s2 4 (by omega) (by omega) (by omega) (by omega)
    obtain ⟨v, a4, s4, i1, i2, i3, K1, i4⟩ := IH e rfl a3 s3 p2 (by omega) (by omega) (by omega) (by omega)
    have one1 : (strOfNums [wrap64 (65 + p1) % 256]).size = 1 := rfl
    have lit1 : (⟨#[47]⟩ : ByteArray).size = 1 := rfl
    obtain ⟨t', a', s', g1, g2, g3, K, g4⟩ := join (strOfNums [wrap64 (65 + p1) % 256] ++ v ++ (⟨#[47]⟩ : ByteArray)) a4 s4 (by rw [size_app, size_app, one1, lit1]; simp [xO]; omega) (by omega) (by simp [yO]; omega)
    refine ⟨t', a', s', g1, g2, g3, max K K1 + 2, fun k hk => ?_⟩
    obtain ⟨k, rfl⟩ : ∃ m, k = m + 2 := ⟨k - 2, by omega⟩
    simp only [spec_l1Cur_inner.l0]
    rw [if_pos (by omega), if_pos (by omega), e1]
    simp only [Option.bind_some, spec_l1Cur_inner.j1, if_true]
    rw [e2]
    simp only [Option.bind_some]
    rw [e3]
    simp only [Option.bind_some]
    rw [w64 (by omega : -4611686018427387904 ≤ ((e + 1 : Nat) : Int) - 1) (by omega), show ((e + 1 : Nat) : Int) - 1 = (e : Int) by omega, i4 k (by omega)]
    simp only [Option.bind_some]
    rw [if_pos (by omega), if_pos (by rw [size_app]; omega), if_pos (by rw [size_app, size_app]; omega), w64 (by omega) (by omega), show ((n + 1 : Nat) : Int) - 1 = (n : Int) by omega]
    exact g4 k (by omega)
theorem inner_ev {c : List Int} (hc : okCode c) : ∀ (d : Nat), d ≤ 3 → ∀ (a s n : Int), 0 ≤ a → a ≤ 2000000000000000000 + (3 - (d : Int)) * 1000000000000 → 0 ≤ n → n ≤ 60 → ∃ t a' s', t.size ≤ sO d ∧ a ≤ a' ∧ a' ≤ a + cO d ∧ ∃ K, ∀ k, K ≤ k → spec_l1Cur_inner.f k c a s n (d : Int) = some (t, a', s') := by
 intro d
 induction d with
 | zero =>
  intro hd a s n h0 h1 h2 h3
  obtain ⟨m, rfl⟩ := Int.eq_ofNat_of_zero_le h2
  obtain ⟨t, a', s', g1, g2, g3, K, g4⟩ := inner_l hc 0 hd (fun e h => by omega) m (⟨#[]⟩ : ByteArray) a s (by omega) h0 (by omega) (by simp [ByteArray.size]; omega)
  simp only [show (⟨#[]⟩ : ByteArray).size = 0 from rfl] at g1 g3
  refine ⟨t, a', s', by simp only [sO, xO] at *; omega, g2, by simp only [cO, yO] at *; omega, K + 1, fun k hk => ?_⟩
  obtain ⟨k, rfl⟩ : ∃ m, k = m + 1 := ⟨k - 1, by omega⟩
  simp only [spec_l1Cur_inner.f]
  exact g4 k (by omega)
 | succ d ih =>
  intro hd a s n h0 h1 h2 h3
  obtain ⟨m, rfl⟩ := Int.eq_ofNat_of_zero_le h2
  have hb := cO_le d (by omega)
  obtain ⟨t, a', s', g1, g2, g3, K, g4⟩ := inner_l hc (d + 1) hd (fun e h => by
   have : e = d := by omega
   subst this; exact ih (by omega)) m (⟨#[]⟩ : ByteArray) a s (by omega) h0 (by omega) (by simp [ByteArray.size]; omega)
  simp only [show (⟨#[]⟩ : ByteArray).size = 0 from rfl] at g1 g3
  refine ⟨t, a', s', ?_, g2, ?_, K + 1, fun k hk => ?_⟩
  ·simp only [sO, xO] at *
   have := Nat.mul_le_mul_right (sO d + 10) (by omega : m ≤ 60)
   omega
  ·simp only [cO, yO] at *
   have := Int.mul_le_mul_of_nonneg_right (by omega : (m : Int) ≤ 60) (by omega : 0 ≤ cO d + 10)
   omega
  ·obtain ⟨k, rfl⟩ : ∃ m, k = m + 1 := ⟨k - 1, by omega⟩
   simp only [spec_l1Cur_inner.f]
   exact g4 k (by omega)
theorem ext_size (s : ByteArray) (i j : Nat) : (s.extract i j).size ≤ s.size := by rw [ByteArray.size_extract]; omega
theorem spoilt_l {c : List Int} (hc : okCode c) (w : ByteArray) (hw : 0 < w.size) (hw2 : w.size ≤ 1000) : ∀ (n : Nat) (t : ByteArray) (a s : Int), n ≤ 3 → 0 ≤ a → a ≤ 2000000000000000000 + (3 - (n : Int)) * 10 → t.size + n ≤ 100000000000 →
  ∃ t' a' s', t'.size ≤ t.size + n ∧ a ≤ a' ∧ a' ≤ a + 10 * n ∧ ∃ K, ∀ k, K ≤ k → spec_l1Cur_spoilt.l0 k t w (n : Int) c a s = some (t', a', s') := by
 intro n
 induction n with
 | zero =>
  intro t a s hn h0 h1 ht
  refine ⟨t, a, s, by omega, by omega, by omega, 2, fun k hk => ?_⟩
  obtain ⟨k, rfl⟩ : ∃ m, k = m + 2 := ⟨k - 2, by omega⟩
  simp only [spec_l1Cur_spoilt.l0]
  rw [if_neg (by omega)]
  simp only [spec_l1Cur_spoilt.j1]
  rw [if_neg (by simp)]
 | succ n ih =>
  intro t a s hn h0 h1 ht
  by_cases hz : t.size = 0
  ·refine ⟨t, a, s, by omega, by omega, by omega, 2, fun k hk => ?_⟩
   obtain ⟨k, rfl⟩ : ∃ m, k = m + 2 := ⟨k - 2, by omega⟩
   simp only [spec_l1Cur_spoilt.l0]
   rw [if_pos (by omega)]
   simp only [spec_l1Cur_spoilt.j1]
   rw [if_neg (by rw [decide_eq_true_eq]; omega)]
  ·obtain ⟨p1, a1, s1, e1, q1, q2, q3, q4⟩ := pick_ev hc a s (t.size : Int) (by omega) (by omega) (by omega) (by omega)
   obtain ⟨p2, a2, s2, e2, q5, q6, q7, q8⟩ := pick_ev hc a1 s1 (w.size : Int) (by omega) (by omega) (by omega) (by omega)
   obtain ⟨p3, a3, s3, e3, q9, q10, q11, q12⟩ := pick_ev hc a2 s2 3 (by omega) (by omega) (by omega) (by omega)
   have one1 : (strOfNums [bt w p2]).size = 1 := rfl
   have x1 : (t.extract 0 p1.toNat).size = p1.toNat := by rw [ByteArray.size_extract]; omega
   have x2 : (t.extract p1.toNat t.size).size = t.size - p1.toNat := by rw [ByteArray.size_extract]; omega
   have x3 : (t.extract (p1 + 1).toNat t.size).size = t.size - (p1 + 1).toNat := by rw [ByteArray.size_extract]; omega
   have go : ∀ u : ByteArray, u.size ≤ t.size + 1 → ∃ t' a' s', t'.size ≤ t.size + (n + 1) ∧ a ≤ a' ∧ a' ≤ a + 10 * ((n + 1 : Nat) : Int) ∧ ∃ K, ∀ k, K ≤ k → spec_l1Cur_spoilt.l0 k u w (n : Int) c a3 s3 = some (t', a', s') := by
    intro u hu
    obtain ⟨t', a', s', g1, g2, g3, g4⟩ := ih u a3 s3 (by omega) (by omega) (by omega) (by omega)
    exact ⟨t', a', s', by omega, by omega, by omega, g4⟩
   have hn1 : ((n + 1 : Nat) : Int) - 1 = (n : Int) := by omega
   by_cases c1 : p3 = 0
   ·obtain ⟨t', a', s', g1, g2, g3, K, g4⟩ := go (t.extract 0 p1.toNat ++ strOfNums [bt w p2] ++ t.extract p1.toNat t.size) (by rw [size_app, size_app, x1, x2, one1]; omega)
    refine ⟨t', a', s', g1, g2, g3, K + 2, fun k hk => ?_⟩
    obtain ⟨k, rfl⟩ : ∃ m, k = m + 2 := ⟨k - 2, by omega⟩
    simp only [spec_l1Cur_spoilt.l0]
    rw [if_pos (by omega)]
    simp only [spec_l1Cur_spoilt.j1]
    rw [if_pos (by simp; omega), e1]
    simp only [Option.bind_some]
    rw [e2]
    simp only [Option.bind_some]
    rw [if_pos q5, if_pos q6, e3]
    simp only [Option.bind_some]
    rw [if_pos c1, if_pos q1, if_pos (by omega), if_pos (by omega), if_pos (by rw [size_app]; omega), w64 (by omega) (by omega), hn1]
    exact g4 k (by omega)
   ·by_cases c2 : p3 = 1
    ·obtain ⟨t', a', s', g1, g2, g3, K, g4⟩ := go (t.extract 0 p1.toNat ++ strOfNums [bt w p2] ++ t.extract (p1 + 1).toNat t.size) (by rw [size_app, size_app, x1, x3, one1]; omega)
     refine ⟨t', a', s', g1, g2, g3, K + 2, fun k hk => ?_⟩
     obtain ⟨k, rfl⟩ : ∃ m, k = m + 2 := ⟨k - 2, by omega⟩
     simp only [spec_l1Cur_spoilt.l0]
     rw [if_pos (by omega)]
     simp only [spec_l1Cur_spoilt.j1]
     rw [if_pos (by simp; omega), e1]
     simp only [Option.bind_some]
     rw [e2]
     simp only [Option.bind_some]
     rw [if_pos q5, if_pos q6, e3]
     simp only [Option.bind_some]
     have hp1 : wrap64 (p1 + 1) = p1 + 1 := w64 (by omega) (by omega)
     rw [if_neg c1, if_pos c2, if_pos q1, if_pos (by omega), if_pos (by omega), hp1, if_pos (by omega), if_pos (by omega), if_pos (by rw [size_app]; omega), w64 (by omega) (by omega), hn1]
     exact g4 k (by omega)
    ·obtain ⟨t', a', s', g1, g2, g3, K, g4⟩ := go (t.extract 0 p1.toNat ++ t.extract (p1 + 1).toNat t.size) (by rw [size_app, x1, x3]; omega)
     refine ⟨t', a', s', g1, g2, g3, K + 2, fun k hk => ?_⟩
     obtain ⟨k, rfl⟩ : ∃ m, k = m + 2 := ⟨k - 2, by omega⟩
     simp only [spec_l1Cur_spoilt.l0]
     rw [if_pos (by omega)]
     simp only [spec_l1Cur_spoilt.j1]
     rw [if_pos (by simp; omega), e1]
     simp only [Option.bind_some]
     rw [e2]
     simp only [Option.bind_some]
     rw [if_pos q5, if_pos q6, e3]
     simp only [Option.bind_some]
     have hp1 : wrap64 (p1 + 1) = p1 + 1 := w64 (by omega) (by omega)
     simp only [hp1]
     simp (disch := omega) only [if_pos, if_neg, w64, hn1]
     exact g4 k (by omega)
theorem spoilt_ev {c : List Int} (hc : okCode c) (a s : Int) (t w : ByteArray) (hw : 0 < w.size) (hw2 : w.size ≤ 1000) (h0 : 0 ≤ a) (h1 : a ≤ 1900000000000000000) (ht : t.size ≤ 90000000000) :
  ∃ t' a' s', t'.size ≤ t.size + 3 ∧ a ≤ a' ∧ a' ≤ a + 50 ∧ ∃ K, ∀ k, K ≤ k → spec_l1Cur_spoilt.f k c a s t w = some (t', a', s') := by
 obtain ⟨p1, a1, s1, e1, q1, q2, q3, q4⟩ := pick_ev hc a s 3 (by omega) (by omega) (by omega) (by omega)
 obtain ⟨m, rfl⟩ := Int.eq_ofNat_of_zero_le q1
 obtain ⟨t', a', s', g1, g2, g3, K, g4⟩ := spoilt_l hc w hw hw2 m t a1 s1 (by omega) (by omega) (by omega) (by omega)
 refine ⟨t', a', s', by omega, by omega, by omega, K, fun k hk => ?_⟩
 unfold spec_l1Cur_spoilt.f
 rw [e1]
 exact g4 k hk
theorem doc0_ev {c : List Int} (hc : okCode c) (a s : Int) (t : ByteArray) (h0 : 0 ≤ a) (h1 : a ≤ 1800000000000000000) (ht : t.size ≤ 1000000000) :
  ∃ t' a' s', t'.size ≤ 1000000010 ∧ a ≤ a' ∧ a' ≤ a + 100 ∧ ∃ K, ∀ k, K ≤ k → spec_l1Cur_doc.j0 k t c a s = some (t', a', s') := by
 obtain ⟨r, a1, s1, e1, h2, h3⟩ := one_ev hc a s 12 (by omega) (by omega) (by omega) (by omega)
 cases r with
 | false =>
  refine ⟨t, a1, s1, by omega, by omega, by omega, 1, fun k hk => ?_⟩
  obtain ⟨k, rfl⟩ : ∃ m, k = m + 1 := ⟨k - 1, by omega⟩
  simp only [spec_l1Cur_doc.j0]
  rw [e1]; simp
 | true =>
  obtain ⟨t', a', s', g1, g2, g3, K, g4⟩ := spoilt_ev hc a1 s1 t (⟨#[65, 47, 97, 90]⟩ : ByteArray) (by decide) (by decide) (by omega) (by omega) (by omega)
  refine ⟨t', a', s', by omega, by omega, by omega, K + 1, fun k hk => ?_⟩
  obtain ⟨k, rfl⟩ : ∃ m, k = m + 1 := ⟨k - 1, by omega⟩
  simp only [spec_l1Cur_doc.j0]
  rw [e1]
  simp only [Option.bind_some, if_true]
  rw [g4 k (by omega)]; rfl
theorem doc_ev {c : List Int} (hc : okCode c) (a s : Int) (h0 : 0 ≤ a) (h1 : a ≤ 1700000000000000000) :
  ∃ t' a' s', t'.size ≤ 1000000010 ∧ a ≤ a' ∧ a' ≤ a + 2000000200 ∧ ∃ K, ∀ k, K ≤ k → spec_l1Cur_doc.f k c a s = some (t', a', s') := by
 have hb := cO_le 3 (by omega)
 have hs := sO_le 3 (by omega)
 obtain ⟨p1, a1, s1, e1, q1, q2, q3, q4⟩ := pick_ev hc a s 7 (by omega) (by omega) (by omega) (by omega)
 obtain ⟨t2, a2, s2, i1, i2, i3, K1, i4⟩ := inner_ev hc 3 (by omega) a1 s1 p1 (by omega) (by omega) (by omega) (by omega)
 obtain ⟨p3, a3, s3, e3, r1, r2, r3, r4⟩ := pick_ev hc a2 s2 30 (by omega) (by omega) (by omega) (by omega)
 by_cases c1 : p3 = 0
 ·obtain ⟨t4, a4, s4, j1, j2, j3, K2, j4⟩ := inner_ev hc 3 (by omega) a3 s3 60 (by omega) (by omega) (by omega) (by omega)
  obtain ⟨t', a', s', g1, g2, g3, K, g4⟩ := doc0_ev hc a4 s4 t4 (by omega) (by omega) (by omega)
  refine ⟨t', a', s', g1, by omega, by omega, max (max K K1) K2, fun k hk => ?_⟩
  unfold spec_l1Cur_doc.f
  have e5 := i4 k (by omega)
  have e6 := j4 k (by omega)
  have e7 := g4 k (by omega)
  simp only [Int.cast_ofNat_Int] at e5 e6
  rw [e1]; simp only [Option.bind_some]
  rw [e5]; simp only [Option.bind_some]
  rw [e3]; simp only [Option.bind_some]
  rw [if_pos c1, e6]; simp only [Option.bind_some]
  exact e7
 ·by_cases c2 : p3 = 1
  ·obtain ⟨u, a4, s4, e4, _, hu, h4, h5⟩ := of_ev hc a3 s3 ([(⟨#[65, 65, 65, 65, 65, 65, 65, 65, 65, 65, 65, 65, 47, 47, 47, 47, 47, 47, 47, 47, 47, 47, 47, 47]⟩ : ByteArray), (⟨#[65, 65, 65, 65, 65, 65, 65, 65, 65, 65, 65, 65, 65, 47, 47, 47, 47, 47, 47, 47, 47, 47, 47, 47, 47, 47]⟩ : ByteArray)] : List ByteArray) 30 (by omega) (by omega) (by simp) (by simp) (by decide)
   obtain ⟨t', a', s', g1, g2, g3, K, g4⟩ := doc0_ev hc a4 s4 u (by omega) (by omega) (by omega)
   refine ⟨t', a', s', g1, by omega, by omega, max K K1, fun k hk => ?_⟩
   unfold spec_l1Cur_doc.f
   have e5 := i4 k (by omega)
   have e7 := g4 k (by omega)
   simp only [Int.cast_ofNat_Int] at e5
   rw [e1]; simp only [Option.bind_some]
   rw [e5]; simp only [Option.bind_some]
   rw [e3]; simp only [Option.bind_some]
   rw [if_neg c1, if_pos c2, e4]; simp only [Option.bind_some]
   exact e7
  ·obtain ⟨t', a', s', g1, g2, g3, K, g4⟩ := doc0_ev hc a3 s3 t2 (by omega) (by omega) (by omega)
   refine ⟨t', a', s', g1, by omega, by omega, max K K1, fun k hk => ?_⟩
   unfold spec_l1Cur_doc.f
   have e5 := i4 k (by omega)
   have e7 := g4 k (by omega)
   simp only [Int.cast_ofNat_Int] at e5
   rw [e1]; simp only [Option.bind_some]
   rw [e5]; simp only [Option.bind_some]
   rw [e3]; simp only [Option.bind_some]
   rw [if_neg c1, if_neg c2]
   exact e7

/-! a drawn change of a text: that the draw ends -/
def F64 (s : Int) : Int := (s * 6364136223846793005 + 1442695040888963407) % 18446744073709551616
theorem F64_range (s : Int) : 0 ≤ F64 s ∧ F64 s < 18446744073709551616 := by unfold F64; omega
theorem u64w (n : Int) : IntKind.u64.wrap n = n % 18446744073709551616 := by simp [IntKind.wrap, IntKind.bits, IntKind.signed]
theorem next_end {c : List Int} (a s : Int) (h0 : (c.length : Int) ≤ a) (h1 : 0 ≤ a) (h2 : a ≤ 4000000000000000000) : spec_l1Cur_next.f c a s = some (F64 s / 1099511627776 % 256, a + 1, F64 s) := by
 have hF : IntKind.u64.wrap (IntKind.u64.wrap (IntKind.u64.wrap (s * 6364136223846793005) + IntKind.u64.wrap 0) + 1442695040888963407) = F64 s := by
  rw [u64w, u64w, u64w, u64w]; unfold F64; omega
 have hF' : IntKind.u64.wrap (IntKind.u64.wrap (IntKind.u64.wrap (s * 6364136223846793005) + 0) + 1442695040888963407) = F64 s := by
  rw [u64w, u64w, u64w]; unfold F64; omega
 have hr := F64_range s
 have e := bits_mask .u64 24 (by decide) (fun n h0 h1 => by rw [u64w]; omega) 8 (by decide) (F64 s / 1099511627776) (by omega) (by omega)
 have e' : Go.bits .and .u64 (F64 s / 1099511627776) 255 = F64 s / 1099511627776 % 256 := e
 unfold spec_l1Cur_next.f
 rw [if_neg (by omega), w64 (i := a + 1) (by omega) (by omega), if_neg (by omega)]
 first | rw [hF] | rw [hF']
 rw [e', w64 (by omega) (by omega)]
theorem next_evR {c : List Int} (hc : okCode c) (a s : Int) (h0 : 0 ≤ a) (h1 : a ≤ 4000000000000000000) : ∃ r s', spec_l1Cur_next.f c a s = some (r, a + 1, s') ∧ 0 ≤ r ∧ r < 256 := by
 by_cases hl : (c.length : Int) ≤ a
 ·have hr := F64_range s
  exact ⟨_, _, next_end a s hl h0 h1, by omega, by omega⟩
 ·have hr := hc.rd a
  unfold spec_l1Cur_next.f
  rw [if_pos (by omega), if_pos h0, w64 (i := a + 1) (by omega) (by omega), if_pos (by omega), w64 (i := rd c a) (by omega) (by omega)]
  have := u64_range (IntKind.u64.wrap (IntKind.u64.wrap (s * 6364136223846793005) + IntKind.u64.wrap (rd c a)) + 1442695040888963407)
  exact ⟨_, _, rfl, hr.1, hr.2⟩
theorem pick_evR {c : List Int} (hc : okCode c) (a s n : Int) (h0 : 0 ≤ a) (h1 : a ≤ 3000000000000000000) (hn : 2 ≤ n) (hn2 : n ≤ 200) : ∃ r s', spec_l1Cur_pick.f c a s n = some (r, a + 1, s') ∧ 0 ≤ r ∧ r < n := by
 obtain ⟨r, s', e, g1, g2⟩ := next_evR hc a s h0 (by omega)
 unfold spec_l1Cur_pick.f
 rw [if_neg (by omega), e]
 simp only [Option.bind_some]
 rw [if_neg (by omega), if_neg (by omega)]
 refine ⟨_, _, rfl, ?_, ?_⟩
 ·rw [Int.tmod_eq_emod_of_nonneg (by omega)]; exact Int.emod_nonneg _ (by omega)
 ·rw [Int.tmod_eq_emod_of_nonneg (by omega)]; exact Int.emod_lt_of_pos _ (by omega)
theorem pick_end {c : List Int} (a s n : Int) (h0 : (c.length : Int) ≤ a) (h1 : 0 ≤ a) (h2 : a ≤ 4000000000000000000) (hn : 2 ≤ n) (hn2 : n ≤ 200) : spec_l1Cur_pick.f c a s n = some (F64 s / 1099511627776 % 256 % n, a + 1, F64 s) := by
 have hr := F64_range s
 unfold spec_l1Cur_pick.f
 rw [if_neg (by omega), next_end a s h0 h1 h2]
 simp only [Option.bind_some]
 rw [if_neg (by omega), if_neg (by omega), Int.tmod_eq_emod_of_nonneg (by omega)]
/-- What decides a step behind the code's end: two bits. -/
def cls (s : Int) : Int := F64 (F64 s) / 1099511627776 % 4
def G3 (s : Int) : Int := F64 (F64 (F64 s))
def itG : Nat → Int → Int
 | 0, s => s
 | n + 1, s => itG n (G3 s)
theorem itG_add : ∀ (m n : Nat) (s : Int), itG (m + n) s = itG n (itG m s)
 | 0, n, s => by rw [Nat.zero_add]; rfl
 | m + 1, n, s => by rw [show m + 1 + n = (m + n) + 1 by omega]; exact itG_add m n (G3 s)
/-- Alike but for multiples of 2^42. -/
def Cg (x y : Int) : Prop := ∃ q : Int, x = y + 4398046511104 * q
theorem Cg.trans {x y z : Int} (h : Cg x y) (k : Cg y z) : Cg x z := by
 obtain ⟨q, rfl⟩ := h
 obtain ⟨p, rfl⟩ := k
 exact ⟨p + q, by omega⟩
theorem Cg.lin {x y : Int} (h : Cg x y) (A B : Int) : Cg (A * x + B) (A * y + B) := by
 obtain ⟨q, rfl⟩ := h
 refine ⟨A * q, ?_⟩
 rw [Int.mul_add, Int.mul_left_comm A 4398046511104 q]
 omega
theorem Cg.red (A B x : Int) : Cg (A * x + B) (A % 4398046511104 * x + B % 4398046511104) := by
 refine ⟨A / 4398046511104 * x + B / 4398046511104, ?_⟩
 have h1 := Int.emod_add_mul_ediv A 4398046511104
 have h2 := Int.emod_add_mul_ediv B 4398046511104
 have h3 : A * x = A % 4398046511104 * x + 4398046511104 * (A / 4398046511104 * x) := by
  rw [← Int.mul_assoc, ← Int.add_mul, h1]
 omega
theorem F64_cg (x : Int) : Cg (F64 x) (6364136223846793005 * x + 1442695040888963407) := by
 unfold F64
 exact ⟨-(4194304 * ((x * 6364136223846793005 + 1442695040888963407) / 18446744073709551616)), by omega⟩
def aff : Nat → Int × Int
 | 0 => (1610380290293, 146808144153)
 | k + 1 => ((aff k).1 * (aff k).1 % 4398046511104, ((aff k).1 * (aff k).2 + (aff k).2) % 4398046511104)
theorem G3_cg (x : Int) : Cg (G3 x) ((aff 0).1 * x + (aff 0).2) := by
 unfold G3
 refine (F64_cg _).trans (((F64_cg _).lin _ _).trans ((((F64_cg x).lin _ _).lin _ _).trans ?_))
 exact ⟨58608227004328453506646594938727604003455258 * x + 13285981864689072521541670664646133922839966, by show 6364136223846793005 * (6364136223846793005 * (6364136223846793005 * x + 1442695040888963407) + 1442695040888963407) + 1442695040888963407 = 1610380290293 * x + 146808144153 + 4398046511104 * (58608227004328453506646594938727604003455258 * x + 13285981864689072521541670664646133922839966); omega⟩
theorem itG_cg : ∀ (k : Nat) (x : Int), Cg (itG (2 ^ k) x) ((aff k).1 * x + (aff k).2)
 | 0, x => G3_cg x
 | k + 1, x => by
  rw [Nat.pow_succ, Nat.mul_two, itG_add]
  refine (itG_cg k _).trans (((itG_cg k x).lin _ _).trans ?_)
  show Cg ((aff k).1 * ((aff k).1 * x + (aff k).2) + (aff k).2) ((aff k).1 * (aff k).1 % 4398046511104 * x + ((aff k).1 * (aff k).2 + (aff k).2) % 4398046511104)
  rw [Int.mul_add, ← Int.mul_assoc, Int.add_assoc]
  exact Cg.red _ _ x
theorem aff19 : aff 19 = (1304887820289, 2957227065344) := by decide +kernel
theorem aff20 : aff 20 = (2609775640577, 2615919247360) := by decide +kernel
theorem itG_F : ∀ (n : Nat) (s : Int), itG n (F64 s) = F64 (itG n s)
 | 0, _ => rfl
 | n + 1, s => itG_F n (G3 s)
theorem cls_it (n : Nat) (s : Int) : cls (itG n s) = itG n (F64 (F64 s)) / 1099511627776 % 4 := by
 unfold cls
 rw [itG_F, itG_F]
/-- Some step of the next 2^19 + 2^20 is none that puts. -/
theorem cls_soon (s : Int) : ∃ n, n ≤ 1572864 ∧ cls (itG n s) ≠ 1 := by
 by_cases h0 : cls (itG 0 s) = 1
 ·by_cases h1 : cls (itG (2 ^ 19) s) = 1
  ·by_cases h2 : cls (itG (2 ^ 20) s) = 1
   ·refine ⟨2 ^ 19 + 2 ^ 20, by decide, fun h3 => ?_⟩
    rw [cls_it] at h0 h1 h2 h3
    rw [itG_add] at h3
    obtain ⟨q2, e2⟩ := itG_cg 19 (F64 (F64 s))
    obtain ⟨q3, e3⟩ := itG_cg 20 (F64 (F64 s))
    obtain ⟨q4, e4⟩ := itG_cg 20 (itG (2 ^ 19) (F64 (F64 s)))
    rw [aff19] at e2
    rw [aff20] at e3 e4
    have e0 : itG 0 (F64 (F64 s)) = F64 (F64 s) := rfl
    rw [e0] at h0
    generalize F64 (F64 s) = x at *
    generalize itG (2 ^ 20) (itG (2 ^ 19) x) = y4 at *
    generalize itG (2 ^ 19) x = y2 at *
    generalize itG (2 ^ 20) x = y3 at *
    simp only at e2 e3 e4
    clear e0
    have key : y4 - y2 - y3 + x = 2199023255552 + 4398046511104 * (774312967922 * x + 2609775640576 * q2 + q4 - q3 + 1754801623698) := by omega
    generalize (774312967922 * x + 2609775640576 * q2 + q4 - q3 + 1754801623698 : Int) = K at key
    clear e2 e3 e4
    omega
   ·exact ⟨2 ^ 20, by decide, h2⟩
  ·exact ⟨2 ^ 19, by decide, h1⟩
 ·exact ⟨0, by decide, h0⟩
/-- A small part. -/
def smP (p : S61) : Prop := 0 ≤ p.f0 ∧ p.f0 ≤ 300 ∧ p.f1.size ≤ 4 ∧ p.f2.size ≤ 300
theorem smP_add {l : List S61} {p : S61} (h : ∀ q ∈ l, smP q) (hp : smP p) : ∀ q ∈ l ++ [p], smP q := by
 intro q hq
 rcases List.mem_append.mp hq with hq | hq
 ·exact h q hq
 ·rw [List.mem_singleton.mp hq]; exact hp
theorem of_pick {c : List Int} {a s r a' s' : Int} {l : List ByteArray} (n : Nat) (hn : l.length = n) (M : Nat) (hM : ∀ x ∈ l, x.size ≤ M) (e : spec_l1Cur_pick.f c a s (n : Int) = some (r, a', s')) (h0 : 0 ≤ r) (h1 : r < n) : ∃ x : ByteArray, x.size ≤ M ∧ spec_l1Cur_of.f c a s l = some (x, a', s') := by
 subst hn
 unfold spec_l1Cur_of.f
 rw [e]
 simp only [Option.bind_some]
 rw [if_pos h0, if_pos h1]
 have hm : rdOf ByteArray.empty l r ∈ l := by
  unfold rdOf
  rw [List.getD_eq_getElem?_getD, List.getElem?_eq_getElem (by omega : r.toNat < l.length)]
  simp
 exact ⟨_, hM _ hm, rfl⟩
theorem opOn_tail {c : List Int} (hc : okCode c) (t : ByteArray) (ht : t.size ≤ 300) (x5 : List S61) (x6 : Nat) (h6 : t.size ≤ x6) (a s : Int) (h0 : 0 ≤ a) (h1 : a ≤ 2000000000000000000) (hl : x5.length ≤ 1000000000) (hp : ∀ q ∈ x5, smP q) :
  ∃ r a' s', r.length ≤ x5.length + 1 ∧ (∀ q ∈ r, smP q) ∧ a ≤ a' ∧ a' ≤ a + 4 ∧ ∃ K, ∀ k, K ≤ k → spec_l1Cur_opOn.l0 k t x5 (x6 : Int) c a s = some (r, a', s') := by
 obtain ⟨b, a1, s1, e1, q1, q2⟩ := one_ev hc a s 3 h0 (by omega) (by omega) (by omega)
 cases b with
 | false =>
  refine ⟨x5, a1, s1, by omega, hp, q1, by omega, 1, fun k hk => ?_⟩
  obtain ⟨k, rfl⟩ : ∃ m, k = m + 1 := ⟨k - 1, by omega⟩
  simp only [spec_l1Cur_opOn.l0]
  rw [if_neg (by omega), e1]
  simp
 | true =>
  obtain ⟨v, a2, s2, e2, _, g3, g4, g5⟩ := of_ev hc a1 s1 [(⟨#[101, 110, 100]⟩ : ByteArray), (⟨#[46]⟩ : ByteArray)] 4 (by omega) (by omega) (by decide) (by decide) (by decide)
  refine ⟨x5 ++ [(⟨0, v, (⟨#[]⟩ : ByteArray)⟩ : S61)], a2, s2, by simp, smP_add hp ⟨by show (0 : Int) ≤ 0; omega, by show (0 : Int) ≤ 300; omega, g3, by show (⟨#[]⟩ : ByteArray).size ≤ 300; decide⟩, by omega, by omega, 1, fun k hk => ?_⟩
  obtain ⟨k, rfl⟩ : ∃ m, k = m + 1 := ⟨k - 1, by omega⟩
  simp only [spec_l1Cur_opOn.l0]
  rw [if_neg (by omega), e1]
  simp only [Option.bind_some, if_true]
  rw [e2]
  simp only [Option.bind_some]
  rw [if_pos (by omega)]
theorem opOn_first {c : List Int} (t : ByteArray) (ht : t.size ≤ 300) (x5 : List S61) (x6 : Nat) (h6 : x6 < t.size) (a s r1 a1 s1 : Int)
  (e1 : spec_l1Cur_pick.f c a s 5 = some (r1, a1, s1)) (g1 : 0 ≤ r1) (g2 : r1 < 5) :
  ∃ n : Nat, 1 ≤ n ∧ x6 + n ≤ t.size ∧ n ≤ 300 ∧ ∀ k, spec_l1Cur_opOn.l0 (k + 1) t x5 (x6 : Int) c a s = spec_l1Cur_opOn.j1 k t x5 (x6 : Int) (n : Int) c a1 s1 := by
 have w1 : wrap64 (1 + r1) = 1 + r1 := w64 (by omega) (by omega)
 have w2 : wrap64 ((t.size : Int) - (x6 : Int)) = (t.size : Int) - (x6 : Int) := w64 (by omega) (by omega)
 have c0 : (x6 : Int) < (t.size : Int) := by omega
 by_cases c1 : 1 + r1 > (t.size : Int) - (x6 : Int)
 ·refine ⟨t.size - x6, by omega, by omega, by omega, fun k => ?_⟩
  have en : ((t.size - x6 : Nat) : Int) = (t.size : Int) - (x6 : Int) := by omega
  rw [en]
  simp only [spec_l1Cur_opOn.l0, if_pos c0, e1, Option.bind_some, w1, w2, if_pos c1]
 ·refine ⟨(1 + r1).toNat, by omega, by omega, by omega, fun k => ?_⟩
  have en : (((1 + r1).toNat : Nat) : Int) = 1 + r1 := by omega
  rw [en]
  simp only [spec_l1Cur_opOn.l0, if_pos c0, e1, Option.bind_some, w1, w2, if_neg c1]
theorem opOn_put {c : List Int} (t : ByteArray) (x5 : List S61) (hl : x5.length ≤ 1000000000) (x6 x7 a1 s1 a2 s2 r3 a3 s3 : Int)
  (e2 : spec_l1Cur_pick.f c a1 s1 4 = some (1, a2, s2)) (e3 : spec_l1Cur_pick.f c a2 s2 5 = some (r3, a3, s3)) (g3 : 0 ≤ r3) (g4 : r3 < 5) :
  ∃ p, smP p ∧ ∀ k, spec_l1Cur_opOn.j1 (k + 1) t x5 x6 x7 c a1 s1 = spec_l1Cur_opOn.l0 k t (x5 ++ [p]) x6 c a3 s3 := by
 obtain ⟨v, hv, ev⟩ := of_pick (l := [(⟨#[120]⟩ : ByteArray), (⟨#[121, 121]⟩ : ByteArray), (⟨#[65, 47]⟩ : ByteArray), (⟨#[110, 101, 119]⟩ : ByteArray), (⟨#[66]⟩ : ByteArray)]) 5 rfl 4 (by decide) e3 g3 g4
 have c1 : x5.length < 3518437208883 := by omega
 have n0 : ¬ ((1 : Int) = 0) := by omega
 refine ⟨⟨0, v, (⟨#[]⟩ : ByteArray)⟩, ⟨by show (0 : Int) ≤ 0; omega, by show (0 : Int) ≤ 300; omega, hv, by show (⟨#[]⟩ : ByteArray).size ≤ 300; decide⟩, fun k => ?_⟩
 simp only [spec_l1Cur_opOn.j1, e2, Option.bind_some, if_neg n0, if_true, ev]
 exact if_pos c1
theorem opOn_go {c : List Int} (t : ByteArray) (ht : t.size ≤ 300) (x5 : List S61) (hl : x5.length ≤ 1000000000) (x6 n : Nat) (n1 : x6 + n ≤ t.size) (a1 s1 r2 a2 s2 : Int)
  (e2 : spec_l1Cur_pick.f c a1 s1 4 = some (r2, a2, s2)) (hr : r2 ≠ 1) :
  ∃ p, smP p ∧ ∀ k, spec_l1Cur_opOn.j1 (k + 1) t x5 (x6 : Int) (n : Int) c a1 s1 = spec_l1Cur_opOn.l0 k t (x5 ++ [p]) ((x6 + n : Nat) : Int) c a2 s2 := by
 have w1 : wrap64 ((x6 : Int) + (n : Int)) = ((x6 + n : Nat) : Int) := by rw [w64 (by omega) (by omega)]; omega
 have c1 : x5.length < 3518437208883 := by omega
 have c2 : (0 : Int) ≤ (x6 : Int) := by omega
 have c3 : (x6 : Int) ≤ ((x6 + n : Nat) : Int) := by omega
 have c4 : ((x6 + n : Nat) : Int) ≤ (t.size : Int) := by omega
 by_cases h0 : r2 = 0
 ·refine ⟨⟨0, (⟨#[]⟩ : ByteArray), t.extract x6 (x6 + n)⟩, ⟨by show (0 : Int) ≤ 0; omega, by show (0 : Int) ≤ 300; omega, by show (⟨#[]⟩ : ByteArray).size ≤ 4; decide, by show (t.extract x6 (x6 + n)).size ≤ 300; have := ext_size t x6 (x6 + n); omega⟩, fun k => ?_⟩
  simp only [spec_l1Cur_opOn.j1, e2, Option.bind_some, if_pos h0, w1, if_pos c2, if_pos c3, if_pos c4, Int.toNat_natCast]
  exact if_pos c1
 ·refine ⟨⟨(n : Int), (⟨#[]⟩ : ByteArray), (⟨#[]⟩ : ByteArray)⟩, ⟨by show (0 : Int) ≤ (n : Int); omega, by show (n : Int) ≤ 300; omega, by show (⟨#[]⟩ : ByteArray).size ≤ 4; decide, by show (⟨#[]⟩ : ByteArray).size ≤ 300; decide⟩, fun k => ?_⟩
  simp only [spec_l1Cur_opOn.j1, e2, Option.bind_some, if_neg h0, if_neg hr, w1]
  exact if_pos c1
/-- One round of the drawing of a change. -/
theorem opOn_step {c : List Int} (t : ByteArray) (ht : t.size ≤ 300) (x5 : List S61) (hl : x5.length ≤ 1000000000) (x6 : Nat) (h6 : x6 < t.size) (a s r1 a1 s1 r2 a2 s2 : Int)
  (e1 : spec_l1Cur_pick.f c a s 5 = some (r1, a1, s1)) (g1 : 0 ≤ r1) (g2 : r1 < 5) (e2 : spec_l1Cur_pick.f c a1 s1 4 = some (r2, a2, s2)) :
  (r2 = 1 → ∀ r3 a3 s3 : Int, spec_l1Cur_pick.f c a2 s2 5 = some (r3, a3, s3) → 0 ≤ r3 → r3 < 5 → ∃ p, smP p ∧ ∀ k, spec_l1Cur_opOn.l0 (k + 2) t x5 (x6 : Int) c a s = spec_l1Cur_opOn.l0 k t (x5 ++ [p]) (x6 : Int) c a3 s3) ∧
  (r2 ≠ 1 → ∃ p n, smP p ∧ 1 ≤ n ∧ x6 + n ≤ t.size ∧ ∀ k, spec_l1Cur_opOn.l0 (k + 2) t x5 (x6 : Int) c a s = spec_l1Cur_opOn.l0 k t (x5 ++ [p]) ((x6 + n : Nat) : Int) c a2 s2) := by
 obtain ⟨n, n1, n2, n3, en⟩ := opOn_first t ht x5 x6 h6 a s r1 a1 s1 e1 g1 g2
 constructor
 ·intro hr r3 a3 s3 e3 g3 g4
  subst hr
  obtain ⟨p, p1, p2⟩ := opOn_put t x5 hl (x6 : Int) (n : Int) a1 s1 a2 s2 r3 a3 s3 e2 e3 g3 g4
  exact ⟨p, p1, fun k => (en (k + 1)).trans (p2 k)⟩
 ·intro hr
  obtain ⟨p, p1, p2⟩ := opOn_go t ht x5 hl x6 n n2 a1 s1 r2 a2 s2 e2 hr
  exact ⟨p, n, p1, n1, n2, fun k => (en (k + 1)).trans (p2 k)⟩
/-- Behind the code's end: every byte is left behind at last. -/
theorem opOn_end {c : List Int} (hc : okCode c) (t : ByteArray) (ht : t.size ≤ 300) : ∀ (m : Nat), m ≤ 300 → ∀ (x5 : List S61) (x6 : Nat) (a s : Int), t.size - x6 ≤ m → (c.length : Int) ≤ a → 0 ≤ a → a + (m : Int) * 4718600 ≤ 1900000000000000000 → x5.length + m * 1572870 ≤ 900000000 → (∀ q ∈ x5, smP q) →
  ∃ r a' s', r.length ≤ x5.length + m * 1572870 + 1 ∧ (∀ q ∈ r, smP q) ∧ a ≤ a' ∧ a' ≤ a + (m : Int) * 4718600 + 4 ∧ ∃ K, ∀ k, K ≤ k → spec_l1Cur_opOn.l0 k t x5 (x6 : Int) c a s = some (r, a', s') := by
 intro m
 induction m with
 | zero =>
  intro hm x5 x6 a s hx hla h0 h1 hl hp
  obtain ⟨r, a', s', g1, g2, g3, g4, g5⟩ := opOn_tail hc t ht x5 x6 (by omega) a s h0 (by omega) (by omega) hp
  exact ⟨r, a', s', by omega, g2, g3, by omega, g5⟩
 | succ m ih =>
  intro hm x5 x6 a s hx hla h0 h1 hl hp
  by_cases h6 : t.size ≤ x6
  ·obtain ⟨r, a', s', g1, g2, g3, g4, g5⟩ := opOn_tail hc t ht x5 x6 h6 a s h0 (by omega) (by omega) hp
   exact ⟨r, a', s', by omega, g2, g3, by omega, g5⟩
  ·have puts : ∀ (n : Nat) (x5 : List S61) (a s : Int), cls (itG n s) ≠ 1 → (c.length : Int) ≤ a → 0 ≤ a → a + (m : Int) * 4718600 + 3 * (n : Int) + 3 ≤ 1900000000000000000 → x5.length + m * 1572870 + n + 1 ≤ 900000000 → (∀ q ∈ x5, smP q) →
     ∃ r a' s', r.length ≤ x5.length + m * 1572870 + n + 2 ∧ (∀ q ∈ r, smP q) ∧ a ≤ a' ∧ a' ≤ a + (m : Int) * 4718600 + 3 * (n : Int) + 7 ∧ ∃ K, ∀ k, K ≤ k → spec_l1Cur_opOn.l0 k t x5 (x6 : Int) c a s = some (r, a', s') := by
    intro n
    induction n with
    | zero =>
     intro x5 a s hn hla h0 h1 hl hp
     have e1 := pick_end (c := c) a s 5 hla h0 (by omega) (by omega) (by omega)
     have e2 := pick_end (c := c) (a + 1) (F64 s) 4 (by omega) (by omega) (by omega) (by omega) (by omega)
     obtain ⟨_, hB⟩ := opOn_step t ht x5 (by omega) x6 (by omega) a s _ _ _ _ _ _ e1 (by omega) (by omega) e2
     have hn' : cls s ≠ 1 := hn
     obtain ⟨p, n, p1, p2, p3, p4⟩ := hB (by unfold cls at hn'; clear hB; omega)
     clear hB
     obtain ⟨r, a', s', g1, g2, g3, g4, K, g5⟩ := ih (by omega) (x5 ++ [p]) (x6 + n) (a + 1 + 1) (F64 (F64 s)) (by omega) (by omega) (by omega) (by omega) (by rw [List.length_append, List.length_singleton]; omega) (smP_add hp p1)
     rw [List.length_append, List.length_singleton] at g1
     refine ⟨r, a', s', by omega, g2, by omega, by omega, K + 2, fun k hk => ?_⟩
     obtain ⟨k, rfl⟩ : ∃ q, k = q + 2 := ⟨k - 2, by omega⟩
     rw [p4]
     exact g5 k (by omega)
    | succ n ihn =>
     intro x5 a s hn hla h0 h1 hl hp
     have e1 := pick_end (c := c) a s 5 hla h0 (by omega) (by omega) (by omega)
     have e2 := pick_end (c := c) (a + 1) (F64 s) 4 (by omega) (by omega) (by omega) (by omega) (by omega)
     have e3 := pick_end (c := c) (a + 1 + 1) (F64 (F64 s)) 5 (by omega) (by omega) (by omega) (by omega) (by omega)
     obtain ⟨hA, hB⟩ := opOn_step t ht x5 (by omega) x6 (by omega) a s _ _ _ _ _ _ e1 (by omega) (by omega) e2
     by_cases hr : F64 (F64 s) / 1099511627776 % 256 % 4 = 1
     ·obtain ⟨p, p1, p4⟩ := hA hr _ _ _ e3 (by clear hA hB; omega) (by clear hA hB; omega)
      clear hA hB
      obtain ⟨r, a', s', g1, g2, g3, g4, K, g5⟩ := ihn (x5 ++ [p]) (a + 1 + 1 + 1) (F64 (F64 (F64 s))) hn (by omega) (by omega) (by omega) (by rw [List.length_append, List.length_singleton]; omega) (smP_add hp p1)
      rw [List.length_append, List.length_singleton] at g1
      refine ⟨r, a', s', by omega, g2, by omega, by omega, K + 2, fun k hk => ?_⟩
      obtain ⟨k, rfl⟩ : ∃ q, k = q + 2 := ⟨k - 2, by omega⟩
      rw [p4]
      exact g5 k (by omega)
     ·obtain ⟨p, n', p1, p2, p3, p4⟩ := hB hr
      clear hA hB
      obtain ⟨r, a', s', g1, g2, g3, g4, K, g5⟩ := ih (by omega) (x5 ++ [p]) (x6 + n') (a + 1 + 1) (F64 (F64 s)) (by omega) (by omega) (by omega) (by omega) (by rw [List.length_append, List.length_singleton]; omega) (smP_add hp p1)
      rw [List.length_append, List.length_singleton] at g1
      refine ⟨r, a', s', by omega, g2, by omega, by omega, K + 2, fun k hk => ?_⟩
      obtain ⟨k, rfl⟩ : ∃ q, k = q + 2 := ⟨k - 2, by omega⟩
      rw [p4]
      exact g5 k (by omega)
   obtain ⟨n, hn, hn2⟩ := cls_soon s
   obtain ⟨r, a', s', g1, g2, g3, g4, g5⟩ := puts n x5 a s hn2 hla h0 (by omega) (by omega) hp
   exact ⟨r, a', s', by omega, g2, g3, by omega, g5⟩
/-- A drawn change: the draw ends. -/
theorem opOn_l {c : List Int} (hc : okCode c) (t : ByteArray) (ht : t.size ≤ 300) (B m : Nat) (hB : B = 471861001) (hm : m = 300) : ∀ (w : Nat), w ≤ 1048576 → ∀ (x5 : List S61) (x6 : Nat) (a s : Int), (c.length : Int) ≤ a + (w : Int) → 0 ≤ a → a + 3 * (w : Int) ≤ 1700000000000000000 → x5.length + w ≤ 100000000 → (∀ q ∈ x5, smP q) →
  ∃ r a' s', r.length ≤ x5.length + w + B ∧ (∀ q ∈ r, smP q) ∧ a ≤ a' ∧ a' ≤ a + 3 * (w : Int) + 1415580004 ∧ ∃ K, ∀ k, K ≤ k → spec_l1Cur_opOn.l0 k t x5 (x6 : Int) c a s = some (r, a', s') := by
 intro w
 induction w with
 | zero =>
  intro hw x5 x6 a s hla h0 h1 hl hp
  obtain ⟨r, a', s', g1, g2, g3, g4, g5⟩ := opOn_end hc t ht m (by omega) x5 x6 a s (by omega) (by omega) h0 (by omega) (by omega) hp
  exact ⟨r, a', s', by omega, g2, g3, by omega, g5⟩
 | succ w ih =>
  intro hw x5 x6 a s hla h0 h1 hl hp
  by_cases h6 : t.size ≤ x6
  ·obtain ⟨r, a', s', g1, g2, g3, g4, g5⟩ := opOn_tail hc t ht x5 x6 h6 a s h0 (by omega) (by omega) hp
   exact ⟨r, a', s', by omega, g2, g3, by omega, g5⟩
  ·obtain ⟨r1, s1, e1, u1, u2⟩ := pick_evR hc a s 5 h0 (by omega) (by omega) (by omega)
   obtain ⟨r2, s2, e2, u3, u4⟩ := pick_evR hc (a + 1) s1 4 (by omega) (by omega) (by omega) (by omega)
   obtain ⟨r3, s3, e3, u5, u6⟩ := pick_evR hc (a + 1 + 1) s2 5 (by omega) (by omega) (by omega) (by omega)
   obtain ⟨hA, hBB⟩ := opOn_step t ht x5 (by omega) x6 (by omega) a s _ _ _ _ _ _ e1 u1 u2 e2
   by_cases hr : r2 = 1
   ·obtain ⟨p, p1, p4⟩ := hA hr _ _ _ e3 u5 u6
    clear hA hBB
    obtain ⟨r, a', s', g1, g2, g3, g4, K, g5⟩ := ih (by omega) (x5 ++ [p]) x6 (a + 1 + 1 + 1) s3 (by omega) (by omega) (by omega) (by rw [List.length_append, List.length_singleton]; omega) (smP_add hp p1)
    rw [List.length_append, List.length_singleton] at g1
    refine ⟨r, a', s', by omega, g2, by omega, by omega, K + 2, fun k hk => ?_⟩
    obtain ⟨k, rfl⟩ : ∃ q, k = q + 2 := ⟨k - 2, by omega⟩
    rw [p4]
    exact g5 k (by omega)
   ·obtain ⟨p, n', p1, p2, p3, p4⟩ := hBB hr
    clear hA hBB
    obtain ⟨r, a', s', g1, g2, g3, g4, K, g5⟩ := ih (by omega) (x5 ++ [p]) (x6 + n') (a + 1 + 1) s2 (by omega) (by omega) (by omega) (by rw [List.length_append, List.length_singleton]; omega) (smP_add hp p1)
    rw [List.length_append, List.length_singleton] at g1
    refine ⟨r, a', s', by omega, g2, by omega, by omega, K + 2, fun k hk => ?_⟩
    obtain ⟨k, rfl⟩ : ∃ q, k = q + 2 := ⟨k - 2, by omega⟩
    rw [p4]
    exact g5 k (by omega)
theorem opOn_ev {c : List Int} (hc : okCode c) (hcl : c.length ≤ 1048576) (t : ByteArray) (ht : t.size ≤ 300) (a s : Int) (h0 : 0 ≤ a) (h1 : a ≤ 1600000000000000000) :
  ∃ r a' s', r.length ≤ 500000000 ∧ (∀ q ∈ r, smP q) ∧ a ≤ a' ∧ a' ≤ a + 2000000000 ∧ ∃ K, ∀ k, K ≤ k → spec_l1Cur_opOn.f k c a s t = some (r, a', s') := by
 obtain ⟨w, hw⟩ : ∃ w : Nat, w = 1048576 := ⟨_, rfl⟩
 obtain ⟨B, hB⟩ : ∃ w : Nat, w = 471861001 := ⟨_, rfl⟩
 obtain ⟨m, hm⟩ : ∃ w : Nat, w = 300 := ⟨_, rfl⟩
 have hn : ([] : List S61).length = 0 := rfl
 obtain ⟨r, a', s', g1, g2, g3, g4, K, g5⟩ := opOn_l hc t ht B m hB hm w (by omega) ([] : List S61) 0 a s (by omega) h0 (by omega) (by omega) (fun q hq => by cases hq)
 refine ⟨r, a', s', by omega, g2, g3, by omega, K, fun k hk => ?_⟩
 unfold spec_l1Cur_opOn.f
 exact g5 k hk

theorem plainText_ev2 {c : List Int} (hc : okCode c) (a s : Int) (h0 : 0 ≤ a) (h1 : a ≤ 1600000000000000000) :
  ∃ t' a' s', t'.size ≤ 300 ∧ a ≤ a' ∧ a' ≤ a + 2000000300 ∧ ∃ K, ∀ k, K ≤ k → spec_l1Cur_plainText.f k c a s = some (t', a', s') := by
 obtain ⟨t, a1, s1, g1, g2, g3, K, g4⟩ := doc_ev hc a s h0 (by omega)
 obtain ⟨K2, h2⟩ := spec_GoodText_ev t (by omega)
 have lit4 : ((⟨#[116, 101, 120, 116]⟩ : ByteArray)).size = 4 := rfl
 cases hg : textB t with
 | false =>
  refine ⟨(⟨#[116, 101, 120, 116]⟩ : ByteArray), a1, s1, by omega, by omega, by omega, max K K2, fun k hk => ?_⟩
  unfold spec_l1Cur_plainText.f
  rw [g4 k (by omega)]; simp only [Option.bind_some]
  rw [h2 k (by omega), hg]; simp only [Option.bind_some]
  rw [if_neg (by simp), if_neg (by omega)]
 | true =>
  by_cases c1 : (t.size : Int) > 40
  ·obtain ⟨r, a2, s2, e2, q1, q2⟩ := one_ev hc a1 s1 20 (by omega) (by omega) (by omega) (by omega)
   cases r with
   | true =>
    refine ⟨t, a2, s2, by have := textB_size hg; omega, by omega, by omega, max K K2, fun k hk => ?_⟩
    unfold spec_l1Cur_plainText.f
    rw [g4 k (by omega)]; simp only [Option.bind_some]
    rw [h2 k (by omega), hg]; simp only [Option.bind_some]
    rw [if_pos trivial, if_pos c1, e2]; simp
   | false =>
    have := ext_size t 0 40
    refine ⟨t.extract 0 40, a2, s2, by have := textB_size hg; omega, by omega, by omega, max K K2, fun k hk => ?_⟩
    unfold spec_l1Cur_plainText.f
    rw [g4 k (by omega)]; simp only [Option.bind_some]
    rw [h2 k (by omega), hg]; simp only [Option.bind_some]
    rw [if_pos trivial, if_pos c1, e2]; simp only [Option.bind_some]
    rw [if_neg (by simp), if_pos (by omega), if_pos (by omega)]
  ·refine ⟨t, a1, s1, by have := textB_size hg; omega, by omega, by omega, max K K2, fun k hk => ?_⟩
   unfold spec_l1Cur_plainText.f
   rw [g4 k (by omega)]; simp only [Option.bind_some]
   rw [h2 k (by omega), hg]; simp only [Option.bind_some]
   rw [if_pos trivial, if_neg c1]

theorem rd_T61_mem {l : List S61} (i : Nat) (h : i < l.length) : rd_T61 l (i : Int) ∈ l := by
 unfold rd_T61
 rw [Int.toNat_natCast, List.getD_eq_getElem?_getD, List.getElem?_eq_getElem h]
 simp
theorem le_pred {K k : Nat} (h : K + 1 ≤ k) : ∃ m, k = m + 1 ∧ K ≤ m := ⟨k - 1, by omega, by omega⟩
theorem wrap_succ (i : Nat) (h : i ≤ 500000000) : wrap64 ((i : Int) + 1) = ((i + 1 : Nat) : Int) := by rw [w64 (by omega) (by omega)]; omega
theorem wrap_nat (n : Nat) (h : n ≤ 1000) : wrap64 (n : Int) = (n : Int) := w64 (by omega) (by omega)
theorem ap_bad (x1 x6 : ByteArray) (L : List S61) (x9 i f0 : Int) (f1 f2 : ByteArray) (k : Nat) : spec_l3Apply.j1 (k + 1) x1 x6 x9 L (L.length : Int) i true f0 f1 f2 = some ((⟨#[]⟩ : ByteArray), false) := by
 simp only [spec_l3Apply.j1, if_true]
theorem ap_keep (x1 x6 : ByteArray) (L : List S61) (i n : Nat) (hi : i ≤ 500000000) (f0 : Int) (f1 f2 : ByteArray) (k : Nat) (h0 : f0 > 0) (hn : n ≤ x1.size) (h1 : x6.size + n + f1.size ≤ 200000000000) :
  spec_l3Apply.j1 (k + 1) x1 x6 (n : Int) L (L.length : Int) (i : Int) false f0 f1 f2 = spec_l3Apply.l0 k (x1.extract n x1.size) (x6 ++ x1.extract 0 n ++ f1) L (L.length : Int) ((i + 1 : Nat) : Int) := by
 have z1 : (x1.extract 0 n).size = n := by rw [ByteArray.size_extract]; omega
 have z3 : (x6 ++ x1.extract 0 n).size = x6.size + n := by rw [size_app, z1]
 have b0 : (0 : Int) ≤ (n : Int) := by omega
 have hle : (n : Int) ≤ (x1.size : Int) := by omega
 have wi := wrap_succ i hi
 simp only [spec_l3Apply.j1, Bool.false_eq_true, if_false, if_pos h0, if_pos b0, if_pos hle, Int.toNat_natCast, wi, z1, z3]
 clear wi
 rw [if_pos (by omega), if_pos (by omega)]
theorem ap_put (x1 x6 : ByteArray) (L : List S61) (i n : Nat) (hi : i ≤ 500000000) (f0 : Int) (f1 f2 : ByteArray) (k : Nat) (h0 : ¬ f0 > 0) (hn : n ≤ x1.size) (h1 : x6.size + n + f1.size ≤ 200000000000) :
  spec_l3Apply.j1 (k + 1) x1 x6 (n : Int) L (L.length : Int) (i : Int) false f0 f1 f2 = spec_l3Apply.l0 k (x1.extract n x1.size) (x6 ++ f1) L (L.length : Int) ((i + 1 : Nat) : Int) := by
 have b0 : (0 : Int) ≤ (n : Int) := by omega
 have hle : (n : Int) ≤ (x1.size : Int) := by omega
 have wi := wrap_succ i hi
 simp only [spec_l3Apply.j1, Bool.false_eq_true, if_false, if_neg h0, if_pos b0, if_pos hle, Int.toNat_natCast, wi]
 clear wi
 rw [if_pos (by omega)]
/-- One part of a change: what is looked at is one of two. -/
theorem ap_step (x1 x6 : ByteArray) (L : List S61) (i n : Nat) (p : S61) (hi : i < L.length) (eP : rd_T61 L (i : Int) = p) (hn : p.f0 + (p.f2.size : Int) = (n : Int)) (hn2 : n ≤ 1000) :
  ∃ b : Bool, (b = false → n ≤ x1.size) ∧ ∀ k, spec_l3Apply.l0 (k + 1) x1 x6 L (L.length : Int) (i : Int) = spec_l3Apply.j1 k x1 x6 (n : Int) L (L.length : Int) (i : Int) b p.f0 p.f1 p.f2 := by
 have c0 : (i : Int) < (L.length : Int) := by omega
 have c1 : (0 : Int) ≤ (i : Int) := by omega
 have b0 : (0 : Int) ≤ (n : Int) := by omega
 by_cases c2 : (n : Int) > (x1.size : Int)
 ·have wN := wrap_nat n hn2
  refine ⟨true, (fun h => by cases h), fun k => ?_⟩
  simp only [spec_l3Apply.l0, if_pos c0, if_pos c1, eP, hn, wN, if_pos c2]
 ·have c3 : (n : Int) ≤ (x1.size : Int) := by omega
  have c5 : n ≤ x1.size := by omega
  by_cases c4 : p.f2.toList = ([] : List UInt8)
  ·have wN := wrap_nat n hn2
   refine ⟨false, fun _ => c5, fun k => ?_⟩
   simp only [spec_l3Apply.l0, if_pos c0, if_pos c1, eP, hn, wN, if_neg c2, if_pos c4]
  ·have wN := wrap_nat n hn2
   refine ⟨((x1.extract 0 n).toList != p.f2.toList), fun _ => c5, fun k => ?_⟩
   simp only [spec_l3Apply.l0, if_pos c0, if_pos c1, eP, hn, wN, if_neg c2, if_neg c4, if_pos b0, if_pos c3, Int.toNat_natCast]
/-- A change of small parts laid on a text: whatever it says, it says it. -/
theorem l3Apply_e (L : List S61) (B : Nat) (hB : B = 100000000000) (hL : L.length ≤ 500000000) (hp : ∀ q ∈ L, smP q) : ∀ (d i : Nat) (x1 x6 : ByteArray), i + d = L.length → x1.size ≤ 300 → x6.size + x1.size + 4 * d ≤ B →
  ∃ r, r.1.size ≤ x6.size + x1.size + 4 * d ∧ ∃ K, ∀ k, K ≤ k → spec_l3Apply.l0 k x1 x6 L (L.length : Int) (i : Int) = some r := by
 intro d
 induction d with
 | zero =>
  intro i x1 x6 hi h1 h6
  have c0 : ¬ ((i : Int) < (L.length : Int)) := by omega
  refine ⟨(x6, (x1.toList == ([] : List UInt8))), by show x6.size ≤ _; omega, 0 + 1, fun k hk => ?_⟩
  obtain ⟨k, rfl, hk⟩ := le_pred hk
  simp only [spec_l3Apply.l0, if_neg c0]
 | succ d ih =>
  intro i x1 x6 hi h1 h6
  have hq := hp _ (rd_T61_mem i (by omega : i < L.length))
  generalize eP : rd_T61 L (i : Int) = p at hq
  obtain ⟨q1, q2, q3, q4⟩ := hq
  obtain ⟨n, hn⟩ := Int.eq_ofNat_of_zero_le (by omega : 0 ≤ p.f0 + (p.f2.size : Int))
  obtain ⟨b, hb, e⟩ := ap_step x1 x6 L i n p (by omega) eP hn (by omega)
  cases b with
  | true =>
   refine ⟨((⟨#[]⟩ : ByteArray), false), Nat.zero_le _, 1 + 1, fun k hk => ?_⟩
   obtain ⟨k, rfl, hk2⟩ := le_pred hk
   obtain ⟨k, rfl, hk3⟩ := le_pred (K := 0) hk2
   rw [e]
   exact ap_bad _ _ _ _ _ _ _ _ _
  | false =>
   have hle := hb rfl
   clear hb
   have z1 : (x1.extract 0 n).size = n := by rw [ByteArray.size_extract]; omega
   have z2 : (x1.extract n x1.size).size = x1.size - n := by rw [ByteArray.size_extract]; omega
   by_cases hk0 : p.f0 > 0
   ·have z4 : (x6 ++ x1.extract 0 n ++ p.f1).size = x6.size + n + p.f1.size := by rw [size_app, size_app, z1]
    obtain ⟨r, r1, K, r2⟩ := ih (i + 1) (x1.extract n x1.size) (x6 ++ x1.extract 0 n ++ p.f1) (by omega) (by omega) (by rw [z4, z2]; omega)
    rw [z4, z2] at r1
    have e2 := fun k => ap_keep x1 x6 L i n (by omega) p.f0 p.f1 p.f2 k hk0 hle (by omega)
    refine ⟨r, by omega, K + 1 + 1, fun k hk => ?_⟩
    obtain ⟨k, rfl, hk2⟩ := le_pred hk
    obtain ⟨k, rfl, hk3⟩ := le_pred hk2
    rw [e, e2]
    exact r2 k hk3
   ·have z5 : (x6 ++ p.f1).size = x6.size + p.f1.size := size_app _ _
    obtain ⟨r, r1, K, r2⟩ := ih (i + 1) (x1.extract n x1.size) (x6 ++ p.f1) (by omega) (by omega) (by rw [z5, z2]; omega)
    rw [z5, z2] at r1
    have e2 := fun k => ap_put x1 x6 L i n (by omega) p.f0 p.f1 p.f2 k hk0 hle (by omega)
    refine ⟨r, by omega, K + 1 + 1, fun k hk => ?_⟩
    obtain ⟨k, rfl, hk2⟩ := le_pred hk
    obtain ⟨k, rfl, hk3⟩ := le_pred hk2
    rw [e, e2]
    exact r2 k hk3
theorem changed_ev {c : List Int} (hc : okCode c) (hcl : c.length ≤ 1048576) (t : ByteArray) (ht : t.size ≤ 300) (a s : Int) (h0 : 0 ≤ a) (h1 : a ≤ 1600000000000000000) :
  ∃ r a' s', r.size ≤ 10000000000 ∧ a ≤ a' ∧ a' ≤ a + 2000000000 ∧ ∃ K, ∀ k, K ≤ k → spec_l1Cur_changed.f k c a s t = some (r, a', s') := by
 obtain ⟨L, a', s', g1, g2, g3, g4, K, g5⟩ := opOn_ev hc hcl t ht a s h0 h1
 have z0 : (⟨#[]⟩ : ByteArray).size = 0 := rfl
 obtain ⟨B, hB⟩ : ∃ w : Nat, w = 100000000000 := ⟨_, rfl⟩
 obtain ⟨r, r1, K2, r2⟩ := l3Apply_e L B hB g1 g2 L.length 0 t (⟨#[]⟩ : ByteArray) (by omega) ht (by rw [z0]; omega)
 rw [z0] at r1
 refine ⟨r.1, a', s', by omega, g3, g4, max K K2, fun k hk => ?_⟩
 have e2 : spec_l3Apply.f k L t = some r := by
  unfold spec_l3Apply.f
  exact r2 k (by omega)
 simp only [spec_l1Cur_changed.f, g5 k (by omega), Option.bind_some, e2]
theorem twoTexts_ev {c : List Int} (hc : okCode c) (hcl : c.length ≤ 1048576) (a s : Int) (h0 : 0 ≤ a) (h1 : a ≤ 1000000000000000000) :
  ∃ x y a' s', x.size ≤ 300 ∧ y.size ≤ 10000000000 ∧ a ≤ a' ∧ a' ≤ a + 10000000000 ∧ ∃ K, ∀ k, K ≤ k → spec_l1Cur_twoTexts.f k c a s = some (x, y, a', s') := by
 obtain ⟨x, a1, s1, p1, p2, p3, K1, p4⟩ := plainText_ev2 hc a s h0 (by omega)
 obtain ⟨r, a2, s2, e2, r1, r2, r3, r4⟩ := pick_ev hc a1 s1 4 (by omega) (by omega) (by omega) (by omega)
 by_cases c0 : r = 0
 ·obtain ⟨y, a3, s3, q1, q2, q3, K2, q4⟩ := plainText_ev2 hc a2 s2 (by omega) (by omega)
  refine ⟨x, y, a3, s3, p1, by omega, by omega, by omega, max K1 K2, fun k hk => ?_⟩
  simp only [spec_l1Cur_twoTexts.f, p4 k (by omega), Option.bind_some, e2, if_pos c0, q4 k (by omega)]
 ·by_cases c1 : r = 1
  ·refine ⟨x, x, a2, s2, p1, by omega, by omega, by omega, K1, fun k hk => ?_⟩
   simp only [spec_l1Cur_twoTexts.f, p4 k (by omega), Option.bind_some, e2, if_neg c0, if_pos c1]
  ·obtain ⟨y, a3, s3, q1, q2, q3, K2, q4⟩ := changed_ev hc hcl x p1 a2 s2 (by omega) (by omega)
   refine ⟨x, y, a3, s3, p1, by omega, by omega, by omega, max K1 K2, fun k hk => ?_⟩
   simp only [spec_l1Cur_twoTexts.f, p4 k (by omega), Option.bind_some, e2, if_neg c0, if_neg c1, q4 k (by omega)]

theorem drawCommon_ev {c : List Int} (hc : okCode c) (hcl : c.length ≤ 1048576) : ∃ x y, x.size ≤ 300 ∧ y.size ≤ 10000000000 ∧ ∃ K, ∀ k, K ≤ k → spec_DrawCommonOf.f k c = some (x, y) := by
 obtain ⟨x, y, a', s', h1, h2, _, _, K, h3⟩ := twoTexts_ev hc hcl 0 0 (by omega) (by omega)
 refine ⟨x, y, h1, h2, K, fun k hk => ?_⟩
 simp only [spec_DrawCommonOf.f, spec_DrawDistanceOf.f, h3 k hk, Option.bind_some]
theorem impl_IsWithin_ev (a b : ByteArray) (ha : a.size ≤ 140737488351232) (hb : b.size ≤ 140737488351232) (ta : textB a = true) (tb : textB b = true) : ∃ K, ∀ k, K ≤ k → impl_IsWithin.f k a b = some (withN a b b.size 0 0, true) := by
 obtain ⟨K1, h1⟩ := impl_IsWithin_l a b ha hb b.size 0 0 (by omega) (by omega)
 obtain ⟨K3, h3⟩ := impl_areTexts_ev a b ha hb
 refine ⟨max K1 K3, fun k hk => ?_⟩
 have e1 := h1 k (by omega)
 have e3 := h3 k (by omega)
 simp only [Int.cast_ofNat_Int] at e1
 unfold impl_IsWithin.f
 rw [e3, ta, tb]
 simp only [Option.bind_some, Bool.and_self, if_true]
 exact e1
theorem FnCommon : laws_FnCommon.Pure := by
 intro l hl hb hw
 have hc := okCode_of hw
 by_cases hbig : (l.length : Int) > 1048576
 ·refine ⟨0, ?_⟩
  unfold laws_FnCommon.f
  rw [if_pos hbig]
 ·obtain ⟨a, b, sa, sb, K1, h1⟩ := drawCommon_ev hc (by omega)
  obtain ⟨K2, h2⟩ := impl_CommonOf_ev a b (by omega) (by omega)
  obtain ⟨K3, h3⟩ := spec_CommonOf_ev a b (by omega) (by omega)
  cases ht : textB a && textB b with
  | false =>
   refine ⟨max (max K1 K2) K3 + 1, ?_⟩
   have e1 := h1 (max (max K1 K2) K3 + 1) (by omega)
   have e2 := h2 (max (max K1 K2) K3 + 1) (by omega)
   have e3 := h3 (max (max K1 K2) K3 + 1) (by omega)
   rw [ht] at e2 e3
   simp only [Bool.false_eq_true, if_false] at e2 e3
   generalize max (max K1 K2) K3 = k at *
   unfold laws_FnCommon.f
   rw [if_neg hbig, e1]
   simp only [Option.bind_some]
   rw [e2]
   simp only [Option.bind_some]
   rw [e3]
   simp [laws_FnCommon.j0]
  | true =>
   have ht' := ht
   simp only [Bool.and_eq_true] at ht'
   have za := textB_size ht'.1
   have zb := textB_size ht'.2
   have hq := lc_le a b 0 0
   have hq2 := lc_le b a 0 0
   rw [lc_comm] at hq2
   have tS := cRes_text a b ht'.1
   have eC := cRes_comm a b (a.size + 1) (b.size + 1) 0 0 (by omega) (by omega)
   have eL := cRes_len a b (a.size + 1) 0 0 (by omega)
   obtain ⟨w1, w2⟩ := cRes_within a b
   have zS : (strOfNums (cRes a b (a.size + 1) 0 0)).size = lc a b 0 0 := by rw [strOfNums_size]; exact eL
   obtain ⟨K4, h4⟩ := impl_CommonOf_ev b a (by omega) (by omega)
   rw [← eC] at h4
   generalize strOfNums (cRes a b (a.size + 1) 0 0) = S at *
   obtain ⟨K5, h5⟩ := impl_IsWithin_ev S a (by omega) (by omega) tS ht'.1
   obtain ⟨K6, h6⟩ := impl_IsWithin_ev S b (by omega) (by omega) tS ht'.2
   obtain ⟨K7, h7⟩ := impl_DistanceOf_ev a b (by omega) (by omega)
   have hB : ∃ K, K1 ≤ K ∧ K2 ≤ K ∧ K3 ≤ K ∧ K4 ≤ K ∧ K5 ≤ K ∧ K6 ≤ K ∧ K7 ≤ K := ⟨K1 + K2 + K3 + K4 + K5 + K6 + K7, by omega, by omega, by omega, by omega, by omega, by omega, by omega⟩
   obtain ⟨k, b1, b2, b3, b4, b5, b6, b7⟩ := hB
   refine ⟨k + 1, ?_⟩
   have e1 := h1 (k + 1) (by omega)
   have e2 := h2 (k + 1) (by omega)
   have e3 := h3 (k + 1) (by omega)
   have e4 := h4 k (by omega)
   have e5 := h5 k (by omega)
   have e6 := h6 k (by omega)
   have e7 := h7 k (by omega)
   rw [ht] at e2 e3 e7
   rw [Bool.and_comm, ht] at e4
   simp only [if_true] at e2 e3 e4 e7
   rw [w1] at e5
   rw [w2] at e6
   have f1 : wrap64 (2 * (S.size : Int)) = 2 * (lc a b 0 0 : Int) := by rw [zS, w64 (by omega) (by omega)]
   have f2 : wrap64 (wrap64 ((a.size : Int) + (b.size : Int)) - ((a.size : Int) + (b.size : Int) - 2 * (lc a b 0 0 : Int))) = 2 * (lc a b 0 0 : Int) := by
    rw [w64 (i := (a.size : Int) + (b.size : Int)) (by omega) (by omega), w64 (by omega) (by omega)]
    omega
   clear h1 h2 h3 h4 h5 h6 h7 b1 b2 b3 b4 b5 b6 b7
   unfold laws_FnCommon.f
   rw [if_neg hbig, e1]
   simp only [Option.bind_some]
   rw [e2]
   simp only [Option.bind_some]
   rw [e3]
   simp only [Option.bind_some, bne_self_eq_false, Bool.false_eq_true, if_false, laws_FnCommon.j0, if_true, e5, e6, e7, e4, f1, f2, beq_self_eq_true]

end Go.Proofs.Ytibedlbjkaikiaa.Pure
