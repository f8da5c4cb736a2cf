/- How far texts are apart is a distance, for drawn texts. -/
import Derived.Test.YtibedlbjkaikiaaAFnMetricx12
set_option linter.unusedVariables false
set_option linter.unusedSimpArgs false
namespace Go.Proofs.Ytibedlbjkaikiaa.Pure
open Go.RowKit Go.Proofs.Ytibedlbjkaikiaa.AFnMetric Go.Proofs.YtibedlbjkaikiaaW.PrintWords Go.Proofs.YtibedlbjkaikiaaW.PrintLast Go.Proofs.YtibedlbjkaikiaaW.PrintMore

theorem w64 {i : Int} (h0 : -4611686018427387904 ≤ i) (h : i ≤ 4611686018427387904) : wrap64 i = i := by
 unfold wrap64; omega

def nmB (c : Int) : Bool := decide (65 ≤ c) && decide (c ≤ 70)
def plB (c : Int) : Bool := (decide (97 ≤ c) && decide (c ≤ 122)) || ((decide (48 ≤ c) && decide (c ≤ 57)) || (decide (c = 32) || (decide (c = 46) || decide (c = 44))))
def okB (c : Int) : Bool := nmB c || (plB c || decide (c = 47))
def okN (s : ByteArray) : Nat → Nat → Bool
 | 0, _ => true
 | d + 1, i => okB (bt s i) && okN s d (i + 1)
def textB (s : ByteArray) : Bool := okN s s.size 0 && decide (s.size ≤ 300)

theorem textB_size {s : ByteArray} (h : textB s = true) : s.size ≤ 300 := by
 unfold textB at h; simp at h; exact h.2

theorem impl_isName_eq (c : Int) : impl_isName.f c = some (nmB c) := by
 unfold impl_isName.f nmB
 by_cases h1 : c ≥ 65 <;> simp [h1] <;> omega
theorem impl_isPlain_eq (c : Int) : impl_isPlain.f c = some (plB c) := by
 unfold impl_isPlain.f plB
 by_cases h1 : 97 ≤ c <;> by_cases h2 : c ≤ 122 <;> by_cases h3 : 48 ≤ c <;> by_cases h4 : c ≤ 57 <;> by_cases h5 : c = 32 <;> by_cases h6 : c = 46 <;> simp [h1, h2, h3, h4, h5, h6] <;> rfl
theorem impl_GoodText_l (s : ByteArray) (hs : s.size ≤ 140737488351232) : ∀ (d i : Nat), i + d = s.size →
  ∃ K, ∀ k, K ≤ k → impl_GoodText.l0 k s (s.size : Int) (i : Int) = some (okN s d i && decide (s.size ≤ 300)) := by
 intro d
 induction d with
 | zero =>
  intro i hi
  refine ⟨1, fun k hk => ?_⟩
  obtain ⟨k, rfl⟩ : ∃ m, k = m + 1 := ⟨k - 1, by omega⟩
  simp only [impl_GoodText.l0]
  rw [if_neg (by omega)]
  simp [okN]
  omega
 | succ d ih =>
  intro i hi
  obtain ⟨K, hK⟩ := ih (i + 1) (by omega)
  refine ⟨K + 1, fun k hk => ?_⟩
  obtain ⟨k, rfl⟩ : ∃ m, k = m + 1 := ⟨k - 1, by omega⟩
  have hr := hK k (by omega)
  simp only [impl_GoodText.l0]
  rw [if_pos (by omega), if_pos (by omega), if_pos (by omega), impl_isName_eq, Option.bind_some, impl_isPlain_eq, Option.bind_some, w64 (by omega) (by omega)]
  have hc : ((i : Int) + 1) = ((i + 1 : Nat) : Int) := by omega
  rw [hc, hr]
  show _ = some ((okB (bt s i) && okN s d (i + 1)) && _)
  unfold okB
  cases nmB (bt s i) <;> cases plB (bt s i) <;> by_cases h : bt s i = 47 <;> simp [h]
theorem impl_GoodText_ev (s : ByteArray) (hs : s.size ≤ 140737488351232) : ∃ K, ∀ k, K ≤ k → impl_GoodText.f k s = some (textB s) := by
 obtain ⟨K, hK⟩ := impl_GoodText_l s hs s.size 0 (by omega)
 exact ⟨K, fun k hk => by unfold impl_GoodText.f; exact hK k hk⟩

theorem spec_l1Open_eq (c : Int) : spec_l1Open.f c = some (nmB c) := by
 unfold spec_l1Open.f nmB
 by_cases h1 : c ≥ 65 <;> simp [h1] <;> omega
theorem spec_l1Plain_eq (c : Int) : spec_l1Plain.f c = some (plB c) := by
 unfold spec_l1Plain.f plB
 by_cases h1 : 97 ≤ c <;> by_cases h2 : c ≤ 122 <;> by_cases h3 : 48 ≤ c <;> by_cases h4 : c ≤ 57 <;> by_cases h5 : c = 32 <;> by_cases h6 : c = 46 <;> simp [h1, h2, h3, h4, h5, h6] <;> rfl
theorem spec_l1Text_l (s : ByteArray) (hs : s.size ≤ 140737488351232) : ∀ (d i : Nat), i + d = s.size →
  ∃ K, ∀ k, K ≤ k → spec_l1Text.l0 k s (i : Int) = some (okN s d i) := by
 intro d
 induction d with
 | zero =>
  intro i hi
  refine ⟨1, fun k hk => ?_⟩
  obtain ⟨k, rfl⟩ : ∃ m, k = m + 1 := ⟨k - 1, by omega⟩
  simp only [spec_l1Text.l0]
  rw [if_neg (by omega)]
  simp [okN]
 | succ d ih =>
  intro i hi
  obtain ⟨K, hK⟩ := ih (i + 1) (by omega)
  refine ⟨K + 1, fun k hk => ?_⟩
  obtain ⟨k, rfl⟩ : ∃ m, k = m + 1 := ⟨k - 1, by omega⟩
  have hr := hK k (by omega)
  simp only [spec_l1Text.l0]
  rw [if_pos (by omega), if_pos (by omega), spec_l1Open_eq, Option.bind_some, spec_l1Plain_eq, Option.bind_some, w64 (by omega) (by omega)]
  have hc : ((i : Int) + 1) = ((i + 1 : Nat) : Int) := by omega
  rw [hc, hr]
  show _ = some (okB (bt s i) && okN s d (i + 1))
  unfold okB
  cases nmB (bt s i) <;> cases plB (bt s i) <;> by_cases h : bt s i = 47 <;> simp [h]
theorem spec_GoodText_ev (s : ByteArray) (hs : s.size ≤ 140737488351232) : ∃ K, ∀ k, K ≤ k → spec_GoodText.f k s = some (textB s) := by
 obtain ⟨K, hK⟩ := spec_l1Text_l s hs s.size 0 (by omega)
 refine ⟨K, fun k hk => ?_⟩
 have h := hK k hk
 unfold spec_GoodText.f spec_l1Text.f
 simp only [Int.cast_ofNat_Int] at h
 rw [h, Option.bind_some]
 unfold textB
 cases okN s s.size 0 <;> simp <;> omega

theorem impl_areTexts_ev (a b : ByteArray) (ha : a.size ≤ 140737488351232) (hb : b.size ≤ 140737488351232) : ∃ K, ∀ k, K ≤ k → impl_areTexts.f k a b = some (textB a && textB b) := by
 obtain ⟨K, hK⟩ := impl_GoodText_ev a ha
 obtain ⟨K', hK'⟩ := impl_GoodText_ev b hb
 refine ⟨max K K', fun k hk => ?_⟩
 have h1 := hK k (by omega)
 have h2 := hK' k (by omega)
 unfold impl_areTexts.f
 rw [h1, Option.bind_some, h2, Option.bind_some]
 cases textB a <;> simp
theorem spec_l9Texts_ev (a b : ByteArray) (ha : a.size ≤ 140737488351232) (hb : b.size ≤ 140737488351232) : ∃ K, ∀ k, K ≤ k → spec_l9Texts.f k a b = some (textB a && textB b) := by
 obtain ⟨K, hK⟩ := spec_GoodText_ev a ha
 obtain ⟨K', hK'⟩ := spec_GoodText_ev b hb
 refine ⟨max K K', fun k hk => ?_⟩
 have h1 := hK k (by omega)
 have h2 := hK' k (by omega)
 unfold spec_l9Texts.f
 rw [h1, Option.bind_some, h2, Option.bind_some]
 cases textB a <;> simp

def lcs : List Int → List Int → Nat
 | [], _ => 0
 | _ :: _, [] => 0
 | x :: xs, y :: ys => if x = y then lcs xs ys + 1 else max (lcs xs (y :: ys)) (lcs (x :: xs) ys)
termination_by xs ys => xs.length + ys.length
theorem lcs_nil (ys : List Int) : lcs [] ys = 0 := by rw [lcs]
theorem lcs_nil_right (xs : List Int) : lcs xs [] = 0 := by cases xs <;> rw [lcs]
theorem lcs_cons (x : Int) (xs : List Int) (y : Int) (ys : List Int) : lcs (x :: xs) (y :: ys) = if x = y then lcs xs ys + 1 else max (lcs xs (y :: ys)) (lcs (x :: xs) ys) := by rw [lcs]
theorem lcs_le : ∀ (n : Nat) (xs ys : List Int), xs.length + ys.length ≤ n → lcs xs ys ≤ xs.length := by
 intro n
 induction n with
 | zero =>
  intro xs ys h
  have : xs = [] := List.eq_nil_of_length_eq_zero (by omega)
  subst this; rw [lcs_nil]; omega
 | succ n ih =>
  intro xs ys h
  cases xs with
  | nil => rw [lcs_nil]; omega
  | cons x xs =>
   cases ys with
   | nil => rw [lcs_nil_right]; omega
   | cons y ys =>
    rw [lcs_cons]
    simp only [List.length_cons] at *
    have h1 := ih xs ys (by omega)
    have h2 := ih xs (y :: ys) (by simp only [List.length_cons]; omega)
    have h3 := ih (x :: xs) ys (by simp only [List.length_cons]; omega)
    simp only [List.length_cons] at h3
    split <;> omega
def BL (s : ByteArray) : List Int := (List.range s.size).map fun (i : Nat) => bt s (i : Int)
theorem BL_length (s : ByteArray) : (BL s).length = s.size := by unfold BL; simp
theorem BL_drop (s : ByteArray) (i : Nat) (h : i < s.size) : (BL s).drop i = bt s (i : Int) :: (BL s).drop (i + 1) := by
 rw [List.drop_eq_getElem_cons (by rw [BL_length]; exact h)]
 congr 1
 unfold BL; simp
theorem BL_drop_end (s : ByteArray) (i : Nat) (h : s.size ≤ i) : (BL s).drop i = [] := List.drop_of_length_le (by rw [BL_length]; exact h)
def lc (a b : ByteArray) (i j : Nat) : Nat := lcs ((BL a).drop i) ((BL b).drop j)
theorem lc_end_left (a b : ByteArray) (i j : Nat) (h : a.size ≤ i) : lc a b i j = 0 := by unfold lc; rw [BL_drop_end a i h, lcs_nil]
theorem lc_end_right (a b : ByteArray) (i j : Nat) (h : b.size ≤ j) : lc a b i j = 0 := by unfold lc; rw [BL_drop_end b j h, lcs_nil_right]
theorem lc_step (a b : ByteArray) (i j : Nat) (hi : i < a.size) (hj : j < b.size) : lc a b i j = if bt a (i : Int) = bt b (j : Int) then lc a b (i + 1) (j + 1) + 1 else max (lc a b (i + 1) j) (lc a b i (j + 1)) := by
 unfold lc
 rw [BL_drop a i hi, BL_drop b j hj, lcs_cons]
theorem lc_le (a b : ByteArray) (i j : Nat) : lc a b i j ≤ a.size := by
 have := lcs_le _ ((BL a).drop i) ((BL b).drop j) (Nat.le_refl _)
 unfold lc
 rw [List.length_drop, BL_length] at this
 omega
def RowIs (row : List Int) (n : Nat) (f : Nat → Nat) : Prop := row.length = n + 1 ∧ ∀ j : Nat, j ≤ n → rd row (j : Int) = (f j : Int)
def tbl (a b : ByteArray) : List (List Int) := (List.range (a.size + 1)).map fun i => (List.range (b.size + 1)).map fun j => (lc a b i j : Int)
theorem rd_get (l : List Int) (j : Nat) (h : j < l.length) : rd l (j : Int) = l[j] := by unfold rd; simp [List.getD, h]
theorem RowIs.eq {row : List Int} {n : Nat} {f : Nat → Nat} (h : RowIs row n f) : row = (List.range (n + 1)).map fun j => (f j : Int) := by
 apply List.ext_getElem
 ·simp [h.1]
 ·intro j h1 h2
  simp only [List.getElem_map, List.getElem_range]
  rw [← rd_get row j h1]; exact h.2 j (by have := h.1; omega)
theorem tbl_eq {a b : ByteArray} {t : List (List Int)} (hl : t.length = a.size + 1) (h : ∀ i : Nat, i ≤ a.size → RowIs (rd_L4 t (i : Int)) b.size (lc a b i)) : t = tbl a b := by
 unfold tbl
 apply List.ext_getElem
 ·simp [hl]
 ·intro i h1 h2
  simp only [List.getElem_map, List.getElem_range]
  rw [← (h i (by omega)).eq]
  unfold rd_L4; simp [List.getD, h1]
theorem tbl_get (a b : ByteArray) (i j : Nat) (hi : i ≤ a.size) (hj : j ≤ b.size) : rd (rd_L4 (tbl a b) (i : Int)) (j : Int) = (lc a b i j : Int) := by
 unfold rd rd_L4 tbl
 simp [List.getD, (by omega : i < a.size + 1), (by omega : j < b.size + 1)]
theorem tbl_length (a b : ByteArray) : (tbl a b).length = a.size + 1 := by simp [tbl]
theorem tbl_row_length (a b : ByteArray) (i : Nat) (hi : i ≤ a.size) : (rd_L4 (tbl a b) (i : Int)).length = b.size + 1 := by
 unfold rd_L4 tbl
 simp [List.getD, (by omega : i < a.size + 1)]
theorem rdL_set {t : List (List Int)} {i : Nat} {v : List Int} (h : i < t.length) (j : Nat) : rd_L4 (t.set i v) (j : Int) = if j = i then v else rd_L4 t (j : Int) := by
 unfold rd_L4
 simp only [Int.toNat_natCast, List.getD_eq_getElem?_getD]
 by_cases e : j = i
 ·subst e; simp [h]
 ·rw [List.getElem?_set_ne (by omega)]; simp [e]
theorem rdR_set {bs : List Int} {i : Nat} {v : Int} (h : i < bs.length) (j : Nat) : rd (bs.set i v) (j : Int) = if j = i then v else rd bs (j : Int) := by
 unfold rd
 simp only [Int.toNat_natCast, List.getD_eq_getElem?_getD]
 by_cases e : j = i
 ·subst e; simp [h]
 ·rw [List.getElem?_set_ne (by omega)]; simp [e]
theorem RowIs.zeros (n : Nat) (f : Nat → Nat) (h : ∀ j, j ≤ n → f j = 0) : RowIs (List.replicate (n + 1) 0) n f := by
 refine ⟨by simp, fun j hj => ?_⟩
 rw [h j hj]; unfold rd
 simp [List.getD, (by omega : j < n + 1)]

theorem impl_common_in (a b : ByteArray) (ha : a.size ≤ 300) (hb : b.size ≤ 300) (i : Nat) (hi : i < a.size)
  (H : ∀ t : List (List Int), t.length = a.size + 1 → (∀ r : Nat, i ≤ r → r ≤ a.size → RowIs (rd_L4 t (r : Int)) b.size (lc a b r)) → ∃ K, ∀ k, K ≤ k → impl_common.l0 k a b t ((i : Int) - 1) = some (tbl a b)) :
  ∀ (d : Nat) (t : List (List Int)), d ≤ b.size → t.length = a.size + 1 → (∀ r : Nat, i < r → r ≤ a.size → RowIs (rd_L4 t (r : Int)) b.size (lc a b r)) →
   (rd_L4 t (i : Int)).length = b.size + 1 → (∀ j : Nat, d ≤ j → j ≤ b.size → rd (rd_L4 t (i : Int)) (j : Int) = (lc a b i j : Int)) →
   ∃ K, ∀ k, K ≤ k → impl_common.l1 k a b t (i : Int) ((d : Int) - 1) = some (tbl a b) := by
 intro d
 induction d with
 | zero =>
  intro t hd hl hr hlen hrow
  obtain ⟨K, hK⟩ := H t hl (fun r h1 h2 => by
   by_cases e : r = i
   ·subst e; exact ⟨hlen, fun j hj => hrow j (by omega) hj⟩
   ·exact hr r (by omega) h2)
  refine ⟨K + 1, fun k hk => ?_⟩
  obtain ⟨k, rfl⟩ : ∃ m, k = m + 1 := ⟨k - 1, by omega⟩
  simp only [impl_common.l1]
  simp (disch := omega) only [w64, if_neg]
  exact hK k (by omega)
 | succ d ih =>
  intro t hd hl hr hlen hrow
  have hnext := hr (i + 1) (by omega) (by omega)
  have hs := lc_step a b i d hi (by omega)
  have hle1 := lc_le a b (i + 1) (d + 1)
  have hnl := hnext.1
  have hv1 := hnext.2 (d + 1) (by omega)
  have hv2 := hnext.2 d (by omega)
  have hv3 := hrow (d + 1) (by omega) (by omega)
  have c1 : ((i + 1 : Nat) : Int) = (i : Int) + 1 := by omega
  have c2 : ((d + 1 : Nat) : Int) = (d : Int) + 1 := by omega
  rw [c1] at hnl hv1 hv2
  rw [c2] at hv1 hv3
  obtain ⟨K, hK⟩ := ih (t.set i ((rd_L4 t (i : Int)).set d (lc a b i d : Int))) (by omega) (by simpa using hl)
   (fun r h1 h2 => by rw [rdL_set (by omega), if_neg (by omega)]; exact hr r h1 h2)
   (by rw [rdL_set (by omega), if_pos rfl, List.length_set]; exact hlen)
   (fun j h1 h2 => by
    rw [rdL_set (by omega), if_pos rfl, rdR_set (by omega)]
    by_cases e : j = d
    ·rw [if_pos e, e]
    ·rw [if_neg e]; exact hrow j (by omega) h2)
  refine ⟨K + 1, fun k hk => ?_⟩
  obtain ⟨k, rfl⟩ : ∃ m, k = m + 1 := ⟨k - 1, by omega⟩
  have hk' := hK k (by omega)
  simp only [impl_common.l1]
  rw [c2]
  simp only [Int.add_sub_cancel]
  by_cases c : bt a (i : Int) = bt b (d : Int)
  ·rw [if_pos c] at hs
   have hs' : (lc a b i d : Int) = (lc a b (i + 1) (d + 1) : Int) + 1 := by omega
   rw [hs'] at hk'
   simp (disch := omega) only [w64, if_pos, Int.toNat_natCast, hv1]
   exact hk'
  ·rw [if_neg c] at hs
   have hs' : mx (lc a b (i + 1) d : Int) (lc a b i (d + 1) : Int) = (lc a b i d : Int) := by unfold mx; omega
   simp (disch := omega) only [w64, if_pos, if_neg, Int.toNat_natCast, hv2, hv3, hs']
   exact hk'
theorem impl_common_out (a b : ByteArray) (ha : a.size ≤ 300) (hb : b.size ≤ 300) : ∀ (e : Nat) (t : List (List Int)), e ≤ a.size → t.length = a.size + 1 →
  (∀ r : Nat, e ≤ r → r ≤ a.size → RowIs (rd_L4 t (r : Int)) b.size (lc a b r)) → ∃ K, ∀ k, K ≤ k → impl_common.l0 k a b t ((e : Int) - 1) = some (tbl a b) := by
 intro e
 induction e with
 | zero =>
  intro t he hl hr
  refine ⟨1, fun k hk => ?_⟩
  obtain ⟨k, rfl⟩ : ∃ m, k = m + 1 := ⟨k - 1, by omega⟩
  simp only [impl_common.l0]
  rw [if_neg (by omega), tbl_eq hl (fun i hi => hr i (by omega) hi)]
 | succ e ih =>
  intro t he hl hr
  obtain ⟨K, hK⟩ := impl_common_in a b ha hb e (by omega) (fun t h1 h2 => ih t (by omega) h1 h2) b.size (t.set e (List.replicate (b.size + 1) 0)) (by omega) (by simpa using hl)
   (fun r h1 h2 => by rw [rdL_set (by omega), if_neg (by omega)]; exact hr r h1 h2)
   (by rw [rdL_set (by omega), if_pos rfl, List.length_replicate])
   (fun j h1 h2 => by
    rw [rdL_set (by omega), if_pos rfl, lc_end_right a b e j h1]
    unfold rd; simp [List.getD, (by omega : j < b.size + 1)])
  refine ⟨K + 1, fun k hk => ?_⟩
  obtain ⟨k, rfl⟩ : ∃ m, k = m + 1 := ⟨k - 1, by omega⟩
  have hk' := hK k (by omega)
  simp only [impl_common.l0]
  rw [show ((e + 1 : Nat) : Int) - 1 = (e : Int) by omega]
  simp (disch := omega) only [w64, if_pos, Int.toNat_natCast]
  exact hk'
theorem impl_common_ev (a b : ByteArray) (ha : a.size ≤ 300) (hb : b.size ≤ 300) : ∃ K, ∀ k, K ≤ k → impl_common.f k a b = some (tbl a b) := by
 obtain ⟨K, hK⟩ := impl_common_out a b ha hb a.size ((List.replicate (a.size + 1) ([] : List Int)).set a.size (List.replicate (b.size + 1) 0)) (by omega) (by simp)
  (fun r h1 h2 => by
   have : r = a.size := by omega
   subst this
   rw [rdL_set (by simp), if_pos rfl]
   exact RowIs.zeros _ _ (fun j _ => lc_end_left a b _ j (by omega)))
 refine ⟨K, fun k hk => ?_⟩
 have := hK k hk
 unfold impl_common.f
 simp (disch := omega) only [w64, if_pos, Option.bind_some]
 have e1 : ((b.size : Int) + 1).toNat = b.size + 1 := by omega
 have e2 : ((a.size : Int) + 1).toNat = a.size + 1 := by omega
 simp only [e1, e2, List.length_replicate, Int.toNat_natCast]
 rw [if_pos (by omega)]
 exact this

theorem spec_l9Table_in (a b : ByteArray) (ha : a.size ≤ 300) (hb : b.size ≤ 300) (i : Nat) (hi : i < a.size)
  (H : ∀ t : List (List Int), t.length = a.size + 1 → (∀ r : Nat, i ≤ r → r ≤ a.size → RowIs (rd_L4 t (r : Int)) b.size (lc a b r)) → (∀ r : Nat, r < i → rd_L4 t (r : Int) = List.replicate (b.size + 1) 0) →
   ∃ K, ∀ k, K ≤ k → spec_l9Table.l1 k a b t ((i : Int) - 1) = some (tbl a b)) :
  ∀ (d : Nat) (t : List (List Int)), d ≤ b.size → t.length = a.size + 1 → (∀ r : Nat, i < r → r ≤ a.size → RowIs (rd_L4 t (r : Int)) b.size (lc a b r)) → (∀ r : Nat, r < i → rd_L4 t (r : Int) = List.replicate (b.size + 1) 0) →
   (rd_L4 t (i : Int)).length = b.size + 1 → (∀ j : Nat, d ≤ j → j ≤ b.size → rd (rd_L4 t (i : Int)) (j : Int) = (lc a b i j : Int)) →
   ∃ K, ∀ k, K ≤ k → spec_l9Table.l2 k a b t (i : Int) ((d : Int) - 1) = some (tbl a b) := by
 intro d
 induction d with
 | zero =>
  intro t hd hl hr hz hlen hrow
  obtain ⟨K, hK⟩ := H t hl (fun r h1 h2 => by
   by_cases e : r = i
   ·subst e; exact ⟨hlen, fun j hj => hrow j (by omega) hj⟩
   ·exact hr r (by omega) h2) hz
  refine ⟨K + 1, fun k hk => ?_⟩
  obtain ⟨k, rfl⟩ : ∃ m, k = m + 1 := ⟨k - 1, by omega⟩
  simp only [spec_l9Table.l2]
  simp (disch := omega) only [w64, if_neg]
  exact hK k (by omega)
 | succ d ih =>
  intro t hd hl hr hz hlen hrow
  have hnext := hr (i + 1) (by omega) (by omega)
  have hs := lc_step a b i d hi (by omega)
  have hle1 := lc_le a b (i + 1) (d + 1)
  have hnl := hnext.1
  have hv1 := hnext.2 (d + 1) (by omega)
  have hv2 := hnext.2 d (by omega)
  have hv3 := hrow (d + 1) (by omega) (by omega)
  have c1 : ((i + 1 : Nat) : Int) = (i : Int) + 1 := by omega
  have c2 : ((d + 1 : Nat) : Int) = (d : Int) + 1 := by omega
  rw [c1] at hnl hv1 hv2
  rw [c2] at hv1 hv3
  obtain ⟨K, hK⟩ := ih (t.set i ((rd_L4 t (i : Int)).set d (lc a b i d : Int))) (by omega) (by simpa using hl)
   (fun r h1 h2 => by rw [rdL_set (by omega), if_neg (by omega)]; exact hr r h1 h2)
   (fun r h1 => by rw [rdL_set (by omega), if_neg (by omega)]; exact hz r h1)
   (by rw [rdL_set (by omega), if_pos rfl, List.length_set]; exact hlen)
   (fun j h1 h2 => by
    rw [rdL_set (by omega), if_pos rfl, rdR_set (by omega)]
    by_cases e : j = d
    ·rw [if_pos e, e]
    ·rw [if_neg e]; exact hrow j (by omega) h2)
  refine ⟨K + 1, fun k hk => ?_⟩
  obtain ⟨k, rfl⟩ : ∃ m, k = m + 1 := ⟨k - 1, by omega⟩
  have hk' := hK k (by omega)
  simp only [spec_l9Table.l2]
  rw [c2]
  simp only [Int.add_sub_cancel]
  by_cases c : bt a (i : Int) = bt b (d : Int)
  ·rw [if_pos c] at hs
   have hs' : (lc a b i d : Int) = (lc a b (i + 1) (d + 1) : Int) + 1 := by omega
   rw [hs'] at hk'
   simp (disch := omega) only [w64, if_pos, Int.toNat_natCast, hv1]
   exact hk'
  ·rw [if_neg c] at hs
   by_cases g : (lc a b (i + 1) d : Int) ≥ (lc a b i (d + 1) : Int)
   ·have hs' : (lc a b i d : Int) = (lc a b (i + 1) d : Int) := by omega
    rw [hs'] at hk'
    simp (disch := omega) only [w64, if_pos, if_neg, Int.toNat_natCast, hv2, hv3]
    exact hk'
   ·have hs' : (lc a b i d : Int) = (lc a b i (d + 1) : Int) := by omega
    rw [hs'] at hk'
    simp (disch := omega) only [w64, if_pos, if_neg, Int.toNat_natCast, hv2, hv3]
    exact hk'
theorem spec_l9Table_out (a b : ByteArray) (ha : a.size ≤ 300) (hb : b.size ≤ 300) : ∀ (e : Nat) (t : List (List Int)), e ≤ a.size → t.length = a.size + 1 →
  (∀ r : Nat, e ≤ r → r ≤ a.size → RowIs (rd_L4 t (r : Int)) b.size (lc a b r)) → (∀ r : Nat, r < e → rd_L4 t (r : Int) = List.replicate (b.size + 1) 0) → ∃ K, ∀ k, K ≤ k → spec_l9Table.l1 k a b t ((e : Int) - 1) = some (tbl a b) := by
 intro e
 induction e with
 | zero =>
  intro t he hl hr hz
  refine ⟨1, fun k hk => ?_⟩
  obtain ⟨k, rfl⟩ : ∃ m, k = m + 1 := ⟨k - 1, by omega⟩
  simp only [spec_l9Table.l1]
  rw [if_neg (by omega), tbl_eq hl (fun i hi => hr i (by omega) hi)]
 | succ e ih =>
  intro t he hl hr hz
  obtain ⟨K, hK⟩ := spec_l9Table_in a b ha hb e (by omega) (fun t h1 h2 h3 => ih t (by omega) h1 h2 h3) b.size t (by omega) hl
   (fun r h1 h2 => hr r (by omega) h2) (fun r h1 => hz r (by omega))
   (by rw [hz e (by omega), List.length_replicate])
   (fun j h1 h2 => by
    rw [hz e (by omega), lc_end_right a b e j h1]
    unfold rd; simp [List.getD, (by omega : j < b.size + 1)])
  refine ⟨K + 1, fun k hk => ?_⟩
  obtain ⟨k, rfl⟩ : ∃ m, k = m + 1 := ⟨k - 1, by omega⟩
  have hk' := hK k (by omega)
  simp only [spec_l9Table.l1]
  rw [show ((e + 1 : Nat) : Int) - 1 = (e : Int) by omega]
  simp (disch := omega) only [w64, if_pos, Int.toNat_natCast]
  exact hk'
theorem spec_l9Table_z (a b : ByteArray) (ha : a.size ≤ 300) (hb : b.size ≤ 300) : ∀ (d i : Nat) (t : List (List Int)), i + d = a.size + 1 → t.length = a.size + 1 →
  (∀ r : Nat, r < i → rd_L4 t (r : Int) = List.replicate (b.size + 1) 0) → ∃ K, ∀ k, K ≤ k → spec_l9Table.l0 k a b t ((a.size + 1 : Nat) : Int) (i : Int) = some (tbl a b) := by
 intro d
 induction d with
 | zero =>
  intro i t hi hl hz
  obtain ⟨K, hK⟩ := spec_l9Table_out a b ha hb a.size t (by omega) hl
   (fun r h1 h2 => by rw [hz r (by omega)]; exact RowIs.zeros _ _ (fun j _ => lc_end_left a b _ j (by omega))) (fun r h1 => hz r (by omega))
  refine ⟨K + 1, fun k hk => ?_⟩
  obtain ⟨k, rfl⟩ : ∃ m, k = m + 1 := ⟨k - 1, by omega⟩
  have hk' := hK k (by omega)
  simp only [spec_l9Table.l0]
  simp (disch := omega) only [w64, if_neg]
  exact hk'
 | succ d ih =>
  intro i t hi hl hz
  obtain ⟨K, hK⟩ := ih (i + 1) (t.set i (List.replicate (b.size + 1) 0)) (by omega) (by simpa using hl) (fun r h1 => by
   rw [rdL_set (by omega)]
   by_cases e : r = i
   ·rw [if_pos e]
   ·rw [if_neg e]; exact hz r (by omega))
  refine ⟨K + 1, fun k hk => ?_⟩
  obtain ⟨k, rfl⟩ : ∃ m, k = m + 1 := ⟨k - 1, by omega⟩
  have hk' := hK k (by omega)
  simp only [spec_l9Table.l0]
  simp (disch := omega) only [w64, if_pos, Int.toNat_natCast]
  have e1 : ((b.size : Int) + 1).toNat = b.size + 1 := by omega
  simp only [e1]
  rw [show (i : Int) + 1 = ((i + 1 : Nat) : Int) by omega]
  exact hk'
theorem spec_l9Table_ev (a b : ByteArray) (ha : a.size ≤ 300) (hb : b.size ≤ 300) : ∃ K, ∀ k, K ≤ k → spec_l9Table.f k a b = some (tbl a b) := by
 obtain ⟨K, hK⟩ := spec_l9Table_z a b ha hb (a.size + 1) 0 (List.replicate (a.size + 1) ([] : List Int)) (by omega) (by simp) (fun r h => by omega)
 refine ⟨K, fun k hk => ?_⟩
 have := hK k hk
 unfold spec_l9Table.f
 simp (disch := omega) only [w64, if_pos, Option.bind_some]
 have e2 : ((a.size : Int) + 1).toNat = a.size + 1 := by omega
 simp only [e2, List.length_replicate]
 exact this

theorem impl_DistanceOf_ev (a b : ByteArray) (ha : a.size ≤ 140737488351232) (hb : b.size ≤ 140737488351232) : ∃ K, ∀ k, K ≤ k →
  impl_DistanceOf.f k a b = some (if textB a && textB b then ((a.size : Int) + (b.size : Int) - 2 * (lc a b 0 0 : Int), true) else (0, false)) := by
 obtain ⟨K3, h3⟩ := impl_areTexts_ev a b ha hb
 cases ht : textB a && textB b with
 | false =>
  refine ⟨K3, fun k hk => ?_⟩
  unfold impl_DistanceOf.f
  rw [h3 k hk, ht]
  rfl
 | true =>
  have ht' := ht
  simp only [Bool.and_eq_true] at ht'
  have hsa := textB_size ht'.1
  have hsb := textB_size ht'.2
  obtain ⟨K1, h1⟩ := impl_common_ev a b hsa hsb
  refine ⟨max K1 K3, fun k hk => ?_⟩
  unfold impl_DistanceOf.f
  rw [h3 k (by omega), h1 k (by omega), ht]
  have hl := tbl_length a b
  have hr := tbl_row_length a b 0 (by omega)
  have hg := tbl_get a b 0 0 (by omega) (by omega)
  have hle := lc_le a b 0 0
  simp only [Int.cast_ofNat_Int] at hr hg
  simp only [Option.bind_some, if_true]
  rw [hg]
  simp (disch := omega) only [w64, if_pos]
theorem spec_DistanceOf_ev (a b : ByteArray) (ha : a.size ≤ 140737488351232) (hb : b.size ≤ 140737488351232) : ∃ K, ∀ k, K ≤ k →
  spec_DistanceOf.f k a b = some (if textB a && textB b then ((a.size : Int) + (b.size : Int) - 2 * (lc a b 0 0 : Int), true) else (0, false)) := by
 obtain ⟨K3, h3⟩ := spec_l9Texts_ev a b ha hb
 cases ht : textB a && textB b with
 | false =>
  refine ⟨K3, fun k hk => ?_⟩
  unfold spec_DistanceOf.f
  rw [h3 k hk, ht]
  rfl
 | true =>
  have ht' := ht
  simp only [Bool.and_eq_true] at ht'
  have hsa := textB_size ht'.1
  have hsb := textB_size ht'.2
  obtain ⟨K1, h1⟩ := spec_l9Table_ev a b hsa hsb
  refine ⟨max K1 K3, fun k hk => ?_⟩
  unfold spec_DistanceOf.f spec_l9Distance.f
  rw [h3 k (by omega), h1 k (by omega), ht]
  have hl := tbl_length a b
  have hr := tbl_row_length a b 0 (by omega)
  have hg := tbl_get a b 0 0 (by omega) (by omega)
  have hle := lc_le a b 0 0
  simp only [Int.cast_ofNat_Int] at hr hg
  simp only [Option.bind_some, if_true]
  rw [hg]
  simp (disch := omega) only [w64, if_pos, Option.bind_some]

def edr (f : Nat → Nat) (i : Nat) (x : Nat → Bool) : Nat → Nat
 | 0 => i + 1
 | j + 1 => min (min (if x j = true then f j else f j + 1) (f (j + 1) + 1)) (edr f i x j + 1)
def ed (a b : ByteArray) : Nat → Nat → Nat
 | 0, j => j
 | i + 1, j => edr (ed a b i) i (fun j => decide (bt a (i : Int) = bt b (j : Int))) j
theorem ed_le (a b : ByteArray) : ∀ (i j : Nat), ed a b i j ≤ i + j := by
 intro i
 induction i with
 | zero => intro j; simp [ed]
 | succ i ih =>
  intro j
  induction j with
  | zero => simp [ed, edr]
  | succ j jh =>
   have := ih j
   simp only [ed, edr] at *
   omega
theorem ed_step (a b : ByteArray) (i j : Nat) : ed a b (i + 1) (j + 1) = min (min (if bt a (i : Int) = bt b (j : Int) then ed a b i j else ed a b i j + 1) (ed a b i (j + 1) + 1)) (ed a b (i + 1) j + 1) := by
 simp only [ed, edr, decide_eq_true_eq]
theorem ed_zero (a b : ByteArray) (i : Nat) : ed a b i 0 = i := by cases i <;> simp [ed, edr]
theorem erd_set {bs : List Int} {i : Nat} {v : Int} (h : i < bs.length) (j : Nat) : rd (bs.set i v) (j : Int) = if j = i then v else rd bs (j : Int) := by
 unfold rd
 simp only [Int.toNat_natCast, List.getD_eq_getElem?_getD]
 by_cases e : j = i
 ·subst e; simp [h]
 ·rw [List.getElem?_set_ne (by omega)]; simp [e]
theorem erd_app {bs : List Int} {v : Int} (j : Nat) : rd (bs ++ [v]) (j : Int) = if j < bs.length then rd bs (j : Int) else if j = bs.length then v else 0 := by
 unfold rd
 simp only [Int.toNat_natCast, List.getD_eq_getElem?_getD]
 by_cases e : j < bs.length
 ·rw [if_pos e, List.getElem?_append_left e]
 ·rw [if_neg e, List.getElem?_append_right (by omega)]
  by_cases e2 : j = bs.length
  ·simp [e2]
  ·rw [if_neg e2, List.getElem?_eq_none (by simp; omega)]; rfl
theorem impl_EditsOf_in (a b : ByteArray) (ha : a.size ≤ 300) (hb : b.size ≤ 300) (i : Nat) (hi : i < a.size) (row : List Int) (hl : row.length = b.size + 1) (hr : ∀ j : Nat, j ≤ b.size → rd row (j : Int) = (ed a b i j : Int)) (r : Int × Bool)
  (H : ∀ t : List Int, t.length = b.size + 1 → (∀ j : Nat, j ≤ b.size → rd t (j : Int) = (ed a b (i + 1) j : Int)) → ∃ K, ∀ k, K ≤ k → impl_EditsOf.l1 k a b t (a.size : Int) ((i : Int) + 1) = some r) :
  ∀ (d j : Nat) (nx : List Int), j + d = b.size → nx.length = j + 1 → (∀ q : Nat, q ≤ j → rd nx (q : Int) = (ed a b (i + 1) q : Int)) →
   ∃ K, ∀ k, K ≤ k → impl_EditsOf.l2 k a b row (i : Int) nx (a.size : Int) (i : Int) (b.size : Int) (j : Int) = some r := by
 intro d
 induction d with
 | zero =>
  intro j nx hj hn hq
  obtain ⟨K, hK⟩ := H nx (by omega) (fun q h => hq q (by omega))
  refine ⟨K + 1, fun k hk => ?_⟩
  obtain ⟨k, rfl⟩ : ∃ m, k = m + 1 := ⟨k - 1, by omega⟩
  have hk' := hK k (by omega)
  simp only [impl_EditsOf.l2]
  simp (disch := omega) only [w64, if_neg]
  exact hk'
 | succ d ih =>
  intro j nx hj hn hq
  have hs := ed_step a b i j
  have b1 := ed_le a b i j
  have b2 := ed_le a b i (j + 1)
  have b3 := ed_le a b (i + 1) j
  have v1 := hr j (by omega)
  have v2 := hr (j + 1) (by omega)
  have v3 := hq j (by omega)
  obtain ⟨K, hK⟩ := ih (j + 1) (nx ++ [(ed a b (i + 1) (j + 1) : Int)]) (by omega) (by simp [hn]) (fun q h => by
   rw [erd_app, hn]
   by_cases e : q < j + 1
   ·rw [if_pos e]; exact hq q (by omega)
   ·have : q = j + 1 := by omega
    rw [if_neg e, if_pos this, this])
  have c2 : ((j + 1 : Nat) : Int) = (j : Int) + 1 := by omega
  rw [c2] at v2
  refine ⟨K + 1, fun k hk => ?_⟩
  obtain ⟨k, rfl⟩ : ∃ m, k = m + 1 := ⟨k - 1, by omega⟩
  have hk' := hK k (by omega)
  rw [c2] at hk'
  simp only [impl_EditsOf.l2]
  by_cases c : bt a (i : Int) = bt b (j : Int)
  ·rw [if_pos c] at hs
   simp (disch := omega) only [w64, if_pos, v1, v2, v3]
   have e : mn (mn (ed a b i j : Int) ((ed a b i (j + 1) : Int) + 1)) ((ed a b (i + 1) j : Int) + 1) = (ed a b (i + 1) (j + 1) : Int) := by unfold mn; omega
   rw [e]; exact hk'
  ·rw [if_neg c] at hs
   simp (disch := omega) only [w64, if_pos, if_neg, v1, v2, v3]
   have e : mn (mn ((ed a b i j : Int) + 1) ((ed a b i (j + 1) : Int) + 1)) ((ed a b (i + 1) j : Int) + 1) = (ed a b (i + 1) (j + 1) : Int) := by unfold mn; omega
   rw [e]; exact hk'
theorem impl_EditsOf_out (a b : ByteArray) (ha : a.size ≤ 300) (hb : b.size ≤ 300) : ∀ (d i : Nat) (row : List Int), i + d = a.size → row.length = b.size + 1 → (∀ j : Nat, j ≤ b.size → rd row (j : Int) = (ed a b i j : Int)) →
  ∃ K, ∀ k, K ≤ k → impl_EditsOf.l1 k a b row (a.size : Int) (i : Int) = some ((ed a b a.size b.size : Int), true) := by
 intro d
 induction d with
 | zero =>
  intro i row hi hl hr
  refine ⟨1, fun k hk => ?_⟩
  obtain ⟨k, rfl⟩ : ∃ m, k = m + 1 := ⟨k - 1, by omega⟩
  have v := hr b.size (by omega)
  have : i = a.size := by omega
  subst this
  simp only [impl_EditsOf.l1]
  simp (disch := omega) only [if_neg, if_pos, v]
 | succ d ih =>
  intro i row hi hl hr
  obtain ⟨K, hK⟩ := impl_EditsOf_in a b ha hb i (by omega) row hl hr ((ed a b a.size b.size : Int), true) (fun t h1 h2 => ih (i + 1) t (by omega) h1 h2) b.size 0 [((i : Int) + 1)] (by omega) rfl (fun q h => by
   have : q = 0 := by omega
   subst this
   rw [ed_zero]; simp [rd])
  refine ⟨K + 1, fun k hk => ?_⟩
  obtain ⟨k, rfl⟩ : ∃ m, k = m + 1 := ⟨k - 1, by omega⟩
  have hk' := hK k (by omega)
  simp only [impl_EditsOf.l1]
  simp (disch := omega) only [w64, if_pos]
  exact hk'
theorem impl_EditsOf_z (a b : ByteArray) (ha : a.size ≤ 300) (hb : b.size ≤ 300) : ∀ (d i : Nat) (row : List Int), i + d = b.size + 1 → row.length = b.size + 1 → (∀ j : Nat, j < i → rd row (j : Int) = (j : Int)) →
  ∃ K, ∀ k, K ≤ k → impl_EditsOf.l0 k a b row ((b.size + 1 : Nat) : Int) (i : Int) = some ((ed a b a.size b.size : Int), true) := by
 intro d
 induction d with
 | zero =>
  intro i row hi hl hr
  obtain ⟨K, hK⟩ := impl_EditsOf_out a b ha hb a.size 0 row (by omega) hl (fun j h => by rw [hr j (by omega)]; simp [ed])
  refine ⟨K + 1, fun k hk => ?_⟩
  obtain ⟨k, rfl⟩ : ∃ m, k = m + 1 := ⟨k - 1, by omega⟩
  have hk' := hK k (by omega)
  simp only [impl_EditsOf.l0]
  simp (disch := omega) only [if_neg]
  exact hk'
 | succ d ih =>
  intro i row hi hl hr
  obtain ⟨K, hK⟩ := ih (i + 1) (row.set i (i : Int)) (by omega) (by simpa using hl) (fun j h => by
   rw [erd_set (by omega)]
   by_cases e : j = i
   ·rw [if_pos e, e]
   ·rw [if_neg e]; exact hr j (by omega))
  refine ⟨K + 1, fun k hk => ?_⟩
  obtain ⟨k, rfl⟩ : ∃ m, k = m + 1 := ⟨k - 1, by omega⟩
  have hk' := hK k (by omega)
  simp only [impl_EditsOf.l0]
  simp (disch := omega) only [w64, if_pos, Int.toNat_natCast]
  rw [show (i : Int) + 1 = ((i + 1 : Nat) : Int) by omega]
  exact hk'
theorem spec_EditsOf_in (a b : ByteArray) (ha : a.size ≤ 300) (hb : b.size ≤ 300) (i : Nat) (hi : i < a.size) (r : Int × Bool)
  (H : ∀ t : List Int, t.length = b.size + 1 → (∀ j : Nat, j ≤ b.size → rd t (j : Int) = (ed a b (i + 1) j : Int)) → ∃ K, ∀ k, K ≤ k → spec_EditsOf.l1 k a b t ((i : Int) + 1 + 1) = some r) :
  ∀ (d j : Nat) (row : List Int), j + d = b.size → row.length = b.size + 1 → (∀ q : Nat, q ≤ j → rd row (q : Int) = (ed a b (i + 1) q : Int)) → (∀ q : Nat, j < q → q ≤ b.size → rd row (q : Int) = (ed a b i q : Int)) →
   ∃ K, ∀ k, K ≤ k → spec_EditsOf.l2 k a b row ((i : Int) + 1) (ed a b i j : Int) ((j : Int) + 1) = some r := by
 intro d
 induction d with
 | zero =>
  intro j row hj hn hq hq2
  obtain ⟨K, hK⟩ := H row (by omega) (fun q h => hq q (by omega))
  refine ⟨K + 1, fun k hk => ?_⟩
  obtain ⟨k, rfl⟩ : ∃ m, k = m + 1 := ⟨k - 1, by omega⟩
  have hk' := hK k (by omega)
  simp only [spec_EditsOf.l2]
  simp (disch := omega) only [w64, if_neg]
  exact hk'
 | succ d ih =>
  intro j row hj hn hq hq2
  have hs := ed_step a b i j
  have b1 := ed_le a b i j
  have b2 := ed_le a b i (j + 1)
  have b3 := ed_le a b (i + 1) j
  have v2 := hq2 (j + 1) (by omega) (by omega)
  have v3 := hq j (by omega)
  obtain ⟨K, hK⟩ := ih (j + 1) (row.set (j + 1) (ed a b (i + 1) (j + 1) : Int)) (by omega) (by simp [hn]) (fun q h => by
   rw [erd_set (by omega)]
   by_cases e : q = j + 1
   ·rw [if_pos e, e]
   ·rw [if_neg e]; exact hq q (by omega)) (fun q h1 h2 => by
   rw [erd_set (by omega), if_neg (by omega)]; exact hq2 q (by omega) h2)
  have c2 : ((j + 1 : Nat) : Int) = (j : Int) + 1 := by omega
  have c3 : ((j : Int) + 1).toNat = j + 1 := by omega
  rw [c2] at v2
  refine ⟨K + 2, fun k hk => ?_⟩
  obtain ⟨k, rfl⟩ : ∃ m, k = m + 2 := ⟨k - 2, by omega⟩
  have hk' := hK k (by omega)
  rw [c2] at hk'
  simp only [spec_EditsOf.l2]
  simp (disch := omega) only [w64, if_pos, Int.add_sub_cancel]
  by_cases c : bt a (i : Int) = bt b (j : Int)
  ·rw [if_pos c] at hs
   simp (disch := omega) only [if_pos]
   simp only [spec_EditsOf.j3]
   simp (disch := omega) only [w64, if_pos, v2, v3, Int.add_sub_cancel, c3]
   by_cases g1 : (ed a b i (j + 1) : Int) + 1 < (ed a b i j : Int)
   ·by_cases g2 : (ed a b (i + 1) j : Int) + 1 < (ed a b i (j + 1) : Int) + 1
    ·have e : (ed a b (i + 1) (j + 1) : Int) = (ed a b (i + 1) j : Int) + 1 := by omega
     rw [e] at hk'; rw [if_pos g1, if_pos g2]; exact hk'
    ·have e : (ed a b (i + 1) (j + 1) : Int) = (ed a b i (j + 1) : Int) + 1 := by omega
     rw [e] at hk'; rw [if_pos g1, if_neg g2]; exact hk'
   ·by_cases g2 : (ed a b (i + 1) j : Int) + 1 < (ed a b i j : Int)
    ·have e : (ed a b (i + 1) (j + 1) : Int) = (ed a b (i + 1) j : Int) + 1 := by omega
     rw [e] at hk'; rw [if_neg g1, if_pos g2]; exact hk'
    ·have e : (ed a b (i + 1) (j + 1) : Int) = (ed a b i j : Int) := by omega
     rw [e] at hk'; rw [if_neg g1, if_neg g2]; exact hk'
  ·rw [if_neg c] at hs
   simp (disch := omega) only [if_neg]
   simp only [spec_EditsOf.j3]
   simp (disch := omega) only [w64, if_pos, v2, v3, Int.add_sub_cancel, c3]
   by_cases g1 : (ed a b i (j + 1) : Int) + 1 < (ed a b i j : Int) + 1
   ·by_cases g2 : (ed a b (i + 1) j : Int) + 1 < (ed a b i (j + 1) : Int) + 1
    ·have e : (ed a b (i + 1) (j + 1) : Int) = (ed a b (i + 1) j : Int) + 1 := by omega
     rw [e] at hk'; rw [if_pos g1, if_pos g2]; exact hk'
    ·have e : (ed a b (i + 1) (j + 1) : Int) = (ed a b i (j + 1) : Int) + 1 := by omega
     rw [e] at hk'; rw [if_pos g1, if_neg g2]; exact hk'
   ·by_cases g2 : (ed a b (i + 1) j : Int) + 1 < (ed a b i j : Int) + 1
    ·have e : (ed a b (i + 1) (j + 1) : Int) = (ed a b (i + 1) j : Int) + 1 := by omega
     rw [e] at hk'; rw [if_neg g1, if_pos g2]; exact hk'
    ·have e : (ed a b (i + 1) (j + 1) : Int) = (ed a b i j : Int) + 1 := by omega
     rw [e] at hk'; rw [if_neg g1, if_neg g2]; exact hk'
theorem spec_EditsOf_out (a b : ByteArray) (ha : a.size ≤ 300) (hb : b.size ≤ 300) : ∀ (d i : Nat) (row : List Int), i + d = a.size → row.length = b.size + 1 → (∀ j : Nat, j ≤ b.size → rd row (j : Int) = (ed a b i j : Int)) →
  ∃ K, ∀ k, K ≤ k → spec_EditsOf.l1 k a b row ((i : Int) + 1) = some ((ed a b a.size b.size : Int), true) := by
 intro d
 induction d with
 | zero =>
  intro i row hi hl hr
  refine ⟨1, fun k hk => ?_⟩
  obtain ⟨k, rfl⟩ : ∃ m, k = m + 1 := ⟨k - 1, by omega⟩
  have v := hr b.size (by omega)
  have : i = a.size := by omega
  subst this
  simp only [spec_EditsOf.l1]
  simp (disch := omega) only [if_neg, if_pos, v]
 | succ d ih =>
  intro i row hi hl hr
  have v0 := hr 0 (by omega)
  obtain ⟨K, hK⟩ := spec_EditsOf_in a b ha hb i (by omega) ((ed a b a.size b.size : Int), true) (fun t h1 h2 => by
    have := ih (i + 1) t (by omega) h1 h2
    rw [show ((i + 1 : Nat) : Int) = (i : Int) + 1 by omega] at this
    exact this) b.size 0 (row.set 0 ((i : Int) + 1)) (by omega) (by simpa using hl) (fun q h => by
   have : q = 0 := by omega
   subst this
   rw [erd_set (by omega), if_pos rfl, ed_zero]; omega) (fun q h1 h2 => by rw [erd_set (by omega), if_neg (by omega)]; exact hr q h2)
  refine ⟨K + 1, fun k hk => ?_⟩
  obtain ⟨k, rfl⟩ : ∃ m, k = m + 1 := ⟨k - 1, by omega⟩
  have hk' := hK k (by omega)
  simp only [Int.cast_ofNat_Int] at v0 hk'
  simp only [spec_EditsOf.l1]
  simp (disch := omega) only [w64, if_pos, v0]
  exact hk'
theorem spec_EditsOf_z (a b : ByteArray) (ha : a.size ≤ 300) (hb : b.size ≤ 300) : ∀ (d i : Nat) (row : List Int), i + d = b.size + 1 → row.length = b.size + 1 → (∀ j : Nat, j < i → rd row (j : Int) = (j : Int)) →
  ∃ K, ∀ k, K ≤ k → spec_EditsOf.l0 k a b row ((b.size + 1 : Nat) : Int) (i : Int) = some ((ed a b a.size b.size : Int), true) := by
 intro d
 induction d with
 | zero =>
  intro i row hi hl hr
  obtain ⟨K, hK⟩ := spec_EditsOf_out a b ha hb a.size 0 row (by omega) hl (fun j h => by rw [hr j (by omega)]; simp [ed])
  refine ⟨K + 1, fun k hk => ?_⟩
  obtain ⟨k, rfl⟩ : ∃ m, k = m + 1 := ⟨k - 1, by omega⟩
  have hk' := hK k (by omega)
  simp only [spec_EditsOf.l0]
  simp (disch := omega) only [if_neg]
  exact hk'
 | succ d ih =>
  intro i row hi hl hr
  obtain ⟨K, hK⟩ := ih (i + 1) (row.set i (i : Int)) (by omega) (by simpa using hl) (fun j h => by
   rw [erd_set (by omega)]
   by_cases e : j = i
   ·rw [if_pos e, e]
   ·rw [if_neg e]; exact hr j (by omega))
  refine ⟨K + 1, fun k hk => ?_⟩
  obtain ⟨k, rfl⟩ : ∃ m, k = m + 1 := ⟨k - 1, by omega⟩
  have hk' := hK k (by omega)
  simp only [spec_EditsOf.l0]
  simp (disch := omega) only [w64, if_pos, Int.toNat_natCast]
  rw [show (i : Int) + 1 = ((i + 1 : Nat) : Int) by omega]
  exact hk'

/-! a longest text in common, of several the least: what is picked -/
theorem lc_mono (a b : ByteArray) : ∀ (n i k : Nat), (a.size - i) + (b.size - k) ≤ n → lc a b (i + 1) k ≤ lc a b i k ∧ lc a b i (k + 1) ≤ lc a b i k ∧ lc a b i k ≤ lc a b (i + 1) k + 1 ∧ lc a b i k ≤ lc a b i (k + 1) + 1 := by
 intro n
 induction n with
 | zero =>
  intro i k h
  rw [lc_end_left a b i k (by omega), lc_end_left a b (i + 1) k (by omega), lc_end_left a b i (k + 1) (by omega)]
  omega
 | succ n ih =>
  intro i k h
  by_cases hi : i < a.size
  ·by_cases hk : k < b.size
   ·have s := lc_step a b i k hi hk
    obtain ⟨p1, p2, p3, p4⟩ := ih (i + 1) k (by omega)
    obtain ⟨q1, q2, q3, q4⟩ := ih i (k + 1) (by omega)
    by_cases e : bt a (i : Int) = bt b (k : Int)
    ·rw [if_pos e] at s; omega
    ·rw [if_neg e] at s; omega
   ·rw [lc_end_right a b i k (by omega), lc_end_right a b (i + 1) k (by omega), lc_end_right a b i (k + 1) (by omega)]
    omega
  ·rw [lc_end_left a b i k (by omega), lc_end_left a b (i + 1) k (by omega), lc_end_left a b i (k + 1) (by omega)]
   omega
theorem lc_left (a b : ByteArray) (k i : Nat) : ∀ (d : Nat), lc a b (i + d) k ≤ lc a b i k
 | 0 => Nat.le_refl _
 | d + 1 => Nat.le_trans (lc_mono a b _ (i + d) k (Nat.le_refl _)).1 (lc_left a b k i d)
theorem lc_right (a b : ByteArray) (i k : Nat) : ∀ (d : Nat), lc a b i (k + d) ≤ lc a b i k
 | 0 => Nat.le_refl _
 | d + 1 => Nat.le_trans (lc_mono a b _ i (k + d) (Nat.le_refl _)).2.1 (lc_right a b i k d)
theorem lc_anti {a b : ByteArray} {i i' k k' : Nat} (hi : i ≤ i') (hk : k ≤ k') : lc a b i' k' ≤ lc a b i k := by
 obtain ⟨d, rfl⟩ := Nat.exists_eq_add_of_le hi
 obtain ⟨e, rfl⟩ := Nat.exists_eq_add_of_le hk
 exact Nat.le_trans (lc_left a b _ i d) (lc_right a b i k e)

/-! a longest text in common: that it is within both, as long as can be, and the same from both sides -/
theorem lcs_comm : ∀ (n : Nat) (xs ys : List Int), xs.length + ys.length ≤ n → lcs xs ys = lcs ys xs := by
 intro n
 induction n with
 | zero =>
  intro xs ys h
  cases xs with
  | nil => rw [lcs_nil, lcs_nil_right]
  | cons x xs => simp at h
 | succ n ih =>
  intro xs ys h
  cases xs with
  | nil => rw [lcs_nil, lcs_nil_right]
  | cons x xs =>
   cases ys with
   | nil => rw [lcs_nil, lcs_nil_right]
   | cons y ys =>
    simp only [List.length_cons] at h
    rw [lcs_cons, lcs_cons, ih xs ys (by omega), ih xs (y :: ys) (by simp only [List.length_cons]; omega), ih (x :: xs) ys (by simp only [List.length_cons]; omega)]
    by_cases e : x = y
    ·rw [if_pos e, if_pos e.symm]
    ·rw [if_neg e, if_neg (fun h => e h.symm)]; exact Nat.max_comm _ _
theorem lc_comm (a b : ByteArray) (i k : Nat) : lc a b i k = lc b a k i := lcs_comm _ _ _ (Nat.le_refl _)

theorem toList_data (s : ByteArray) : s.toList = s.data.toList := by
 have h : ∀ (n i : Nat) (r : List UInt8), s.size - i = n → ByteArray.toList.loop s i r = r.reverse ++ s.data.toList.drop i := by
  intro n
  induction n with
  | zero =>
   intro i r h
   unfold ByteArray.toList.loop
   rw [if_neg (by omega), List.drop_of_length_le (by rw [Array.length_toList]; show s.size ≤ i; omega)]; simp
  | succ n ih =>
   intro i r h
   have hi : i < s.size := by omega
   unfold ByteArray.toList.loop
   have e2 : s.data.toList.drop i = s.data.toList[i]'(by rw [Array.length_toList]; exact hi) :: s.data.toList.drop (i + 1) := List.drop_eq_getElem_cons (by rw [Array.length_toList]; exact hi)
   have e : s.get! i = s.data.toList[i]'(by rw [Array.length_toList]; exact hi) := by
    show s.data[i]! = _
    rw [getElem!_pos s.data i hi]; simp
   rw [if_pos hi, ih (i + 1) _ (by omega), e2, e, List.reverse_cons, List.append_assoc]; rfl
 unfold ByteArray.toList
 rw [h s.size 0 [] (by omega)]; simp
theorem bt_data (s : ByteArray) (i : Nat) (h : i < s.size) : bt s (i : Int) = ((s.data.toList[i]'(by rw [Array.length_toList]; exact h)).toNat : Int) := by
 unfold bt
 rw [dif_pos (by omega)]
 simp [ByteArray.getElem_eq_getElem_data]
theorem toList_eq_iff (a b : ByteArray) : a.toList = b.toList ↔ a.size = b.size ∧ ∀ j : Nat, j < a.size → bt a (j : Int) = bt b (j : Int) := by
 rw [toList_data, toList_data]
 constructor
 ·intro h
  have hl : a.size = b.size := by
   have := congrArg List.length h
   rw [Array.length_toList, Array.length_toList] at this; exact this
  refine ⟨hl, fun j hj => ?_⟩
  rw [bt_data a j hj, bt_data b j (by omega)]
  simp only [h]
 ·intro ⟨hl, h⟩
  apply List.ext_getElem
  ·rw [Array.length_toList, Array.length_toList]; exact hl
  ·intro j h1 h2
   rw [Array.length_toList] at h1 h2
   have := h j h1
   rw [bt_data a j h1, bt_data b j h2] at this
   have h3 : (a.data.toList[j]'(by rw [Array.length_toList]; exact h1)).toNat = (b.data.toList[j]'(by rw [Array.length_toList]; exact h2)).toNat := by omega
   exact UInt8.toNat_inj.mp h3
theorem bt_extract (s : ByteArray) (i j n : Nat) (hj : j ≤ s.size) (hn : i + n < j) : bt (s.extract i j) (n : Int) = bt s ((i + n : Nat) : Int) := by
 have h1 : n < (s.extract i j).size := by rw [ByteArray.size_extract]; omega
 unfold bt
 rw [dif_pos (by simpa using h1), dif_pos (by omega)]
 simp only [Int.toNat_natCast, ByteArray.getElem_extract]

/-! the two distances are metrics: what no text in between makes longer -/
theorem lc_rest (a b : ByteArray) (i j : Nat) : lc a b i j ≤ a.size - i := by
 have h := lcs_le _ ((BL a).drop i) ((BL b).drop j) (Nat.le_refl _)
 rw [List.length_drop, BL_length] at h
 exact h
theorem lc_tri (a b c : ByteArray) : ∀ (n i j k : Nat), (a.size - i) + (b.size - j) + (c.size - k) ≤ n → lc a b i j + lc b c j k ≤ (b.size - j) + lc a c i k := by
 intro n
 induction n with
 | zero =>
  intro i j k h
  rw [lc_end_left a b i j (by omega), lc_end_left b c j k (by omega)]
  omega
 | succ n ih =>
  intro i j k h
  by_cases hi : i < a.size
  ·by_cases hj : j < b.size
   ·by_cases hk : k < c.size
    ·have s1 := lc_step a b i j hi hj
     have s2 := lc_step b c j k hj hk
     have s3 := lc_step a c i k hi hk
     have m1 := lc_mono a b _ i j (Nat.le_refl _)
     have m2 := lc_mono b c _ j k (Nat.le_refl _)
     have m3 := lc_mono a c _ i k (Nat.le_refl _)
     have h1 := ih (i + 1) (j + 1) (k + 1) (by omega)
     have h2 := ih i (j + 1) k (by omega)
     have h3 := ih i j (k + 1) (by omega)
     have h4 := ih (i + 1) j k (by omega)
     by_cases e1 : bt a (i : Int) = bt b (j : Int)
     ·by_cases e2 : bt b (j : Int) = bt c (k : Int)
      ·rw [if_pos e1] at s1
       rw [if_pos e2] at s2
       rw [if_pos (e1.trans e2)] at s3
       omega
      ·rw [if_neg e2] at s2
       clear s1 s3
       omega
     ·rw [if_neg e1] at s1
      clear s2 s3
      omega
    ·rw [lc_end_right b c j k (by omega)]
     have := lc_rest b a j i
     rw [lc_comm b a] at this
     omega
   ·rw [lc_end_right a b i j (by omega), lc_end_left b c j k (by omega)]
    omega
  ·rw [lc_end_left a b i j (by omega)]
   have := lc_rest b c j k
   omega
theorem ed_zero_left (a b : ByteArray) (j : Nat) : ed a b 0 j = j := rfl
theorem ed_ge (a b : ByteArray) : ∀ (n i j : Nat), i + j ≤ n → j ≤ ed a b i j + i ∧ i ≤ ed a b i j + j := by
 intro n
 induction n with
 | zero =>
  intro i j h
  omega
 | succ n ih =>
  intro i j h
  cases i with
  | zero => rw [ed_zero_left]; omega
  | succ i =>
   cases j with
   | zero => rw [ed_zero]; omega
   | succ j =>
    have s := ed_step a b i j
    have h1 := ih i j (by omega)
    have h2 := ih i (j + 1) (by omega)
    have h3 := ih (i + 1) j (by omega)
    by_cases e : bt a (i : Int) = bt b (j : Int)
    ·rw [if_pos e] at s; omega
    ·rw [if_neg e] at s; omega
theorem ed_tri (a b c : ByteArray) : ∀ (n i j k : Nat), i + j + k ≤ n → ed a c i k ≤ ed a b i j + ed b c j k := by
 intro n
 induction n with
 | zero =>
  intro i j k h
  have : ed a c i k ≤ i + k := ed_le a c i k
  omega
 | succ n ih =>
  intro i j k h
  cases i with
  | zero => rw [ed_zero_left, ed_zero_left]; have := ed_ge b c _ j k (Nat.le_refl _); omega
  | succ i =>
   cases k with
   | zero => rw [ed_zero, ed_zero]; have := ed_ge a b _ (i + 1) j (Nat.le_refl _); omega
   | succ k =>
    cases j with
    | zero => rw [ed_zero, ed_zero_left]; exact ed_le a c _ _
    | succ j =>
     have s1 := ed_step a b i j
     have s2 := ed_step b c j k
     have s3 := ed_step a c i k
     have h1 := ih i j k (by omega)
     have h2 := ih i (j + 1) (k + 1) (by omega)
     have h3 := ih (i + 1) (j + 1) k (by omega)
     have h4 := ih (i + 1) j (k + 1) (by omega)
     have h5 := ih (i + 1) j k (by omega)
     have h6 := ih i j (k + 1) (by omega)
     by_cases e1 : bt a (i : Int) = bt b (j : Int)
     ·by_cases e2 : bt b (j : Int) = bt c (k : Int)
      ·rw [if_pos e1] at s1
       rw [if_pos e2] at s2
       rw [if_pos (e1.trans e2)] at s3
       omega
      ·rw [if_pos e1] at s1
       rw [if_neg e2] at s2
       by_cases e3 : bt a (i : Int) = bt c (k : Int)
       ·rw [if_pos e3] at s3; omega
       ·rw [if_neg e3] at s3; omega
     ·rw [if_neg e1] at s1
      by_cases e2 : bt b (j : Int) = bt c (k : Int)
      ·rw [if_pos e2] at s2
       by_cases e3 : bt a (i : Int) = bt c (k : Int)
       ·rw [if_pos e3] at s3; omega
       ·rw [if_neg e3] at s3; omega
      ·rw [if_neg e2] at s2
       by_cases e3 : bt a (i : Int) = bt c (k : Int)
       ·rw [if_pos e3] at s3; omega
       ·rw [if_neg e3] at s3; omega
theorem ed_comm (a b : ByteArray) : ∀ (n i j : Nat), i + j ≤ n → ed a b i j = ed b a j i := by
 intro n
 induction n with
 | zero =>
  intro i j h
  obtain rfl : i = 0 := by omega
  obtain rfl : j = 0 := by omega
  rfl
 | succ n ih =>
  intro i j h
  cases i with
  | zero => rw [ed_zero_left, ed_zero]
  | succ i =>
   cases j with
   | zero => rw [ed_zero_left, ed_zero]
   | succ j =>
    have s := ed_step a b i j
    have t := ed_step b a j i
    rw [ih i j (by omega), ih i (j + 1) (by omega), ih (i + 1) j (by omega)] at s
    by_cases e : bt a (i : Int) = bt b (j : Int)
    ·rw [if_pos e] at s; rw [if_pos e.symm] at t; omega
    ·rw [if_neg e] at s; rw [if_neg (fun h => e h.symm)] at t; omega
theorem ed_down (a b : ByteArray) (i j : Nat) : ed a b (i + 1) j ≤ ed a b i j + 1 ∧ ed a b i (j + 1) ≤ ed a b i j + 1 := by
 constructor
 ·cases j with
  | zero => rw [ed_zero, ed_zero]; omega
  | succ j => have t := ed_step a b i j; omega
 ·cases i with
  | zero => rw [ed_zero_left, ed_zero_left]; omega
  | succ i => have t := ed_step a b i j; omega
theorem ed_le_ld (a b : ByteArray) : ∀ (n i j : Nat), i ≤ a.size → j ≤ b.size → (a.size - i) + (b.size - j) ≤ n → ed a b a.size b.size + 2 * lc a b i j ≤ ed a b i j + ((a.size - i) + (b.size - j)) := by
 intro n
 induction n with
 | zero =>
  intro i j hi hj h
  obtain rfl : i = a.size := by omega
  obtain rfl : j = b.size := by omega
  rw [lc_end_left a b _ _ (Nat.le_refl _)]
  omega
 | succ n ih =>
  intro i j hi hj h
  by_cases hi2 : i < a.size
  ·by_cases hj2 : j < b.size
   ·have s := lc_step a b i j hi2 hj2
    have t := ed_step a b i j
    have u := ed_down a b i j
    by_cases e : bt a (i : Int) = bt b (j : Int)
    ·rw [if_pos e] at s
     rw [if_pos e] at t
     have h1 := ih (i + 1) (j + 1) (by omega) (by omega) (by omega)
     omega
    ·rw [if_neg e] at s
     have h1 := ih (i + 1) j (by omega) (by omega) (by omega)
     have h2 := ih i (j + 1) (by omega) (by omega) (by omega)
     clear t
     omega
   ·have u := ed_down a b i j
    have h1 := ih (i + 1) j (by omega) (by omega) (by omega)
    rw [lc_end_right a b i j (by omega)]
    rw [lc_end_right a b (i + 1) j (by omega)] at h1
    omega
  ·by_cases hj2 : j < b.size
   ·have u := ed_down a b i j
    have h1 := ih i (j + 1) (by omega) (by omega) (by omega)
    rw [lc_end_left a b i j (by omega)]
    rw [lc_end_left a b i (j + 1) (by omega)] at h1
    omega
   ·obtain rfl : i = a.size := by omega
    obtain rfl : j = b.size := by omega
    rw [lc_end_left a b _ _ (Nat.le_refl _)]
    omega
theorem ld_le_ed (a b : ByteArray) : ∀ (n i j : Nat), i ≤ a.size → j ≤ b.size → i + j ≤ n → i + j + 2 * lc a b i j ≤ 2 * lc a b 0 0 + 2 * ed a b i j := by
 intro n
 induction n with
 | zero =>
  intro i j _ _ h
  obtain rfl : i = 0 := by omega
  obtain rfl : j = 0 := by omega
  omega
 | succ n ih =>
  intro i j hi hj h
  cases i with
  | zero =>
   have := lc_anti (a := a) (b := b) (i := 0) (i' := 0) (k := 0) (k' := j) (by omega) (by omega)
   rw [ed_zero_left]; omega
  | succ i =>
   cases j with
   | zero =>
    have := lc_anti (a := a) (b := b) (i := 0) (i' := i + 1) (k := 0) (k' := 0) (by omega) (by omega)
    rw [ed_zero]; omega
   | succ j =>
    have s := lc_step a b i j (by omega) (by omega)
    have t := ed_step a b i j
    have h1 := ih i j (by omega) (by omega) (by omega)
    have h2 := ih i (j + 1) (by omega) (by omega) (by omega)
    have h3 := ih (i + 1) j (by omega) (by omega) (by omega)
    have m1 := (lc_mono a b _ i (j + 1) (Nat.le_refl _)).1
    have m2 := (lc_mono a b _ (i + 1) j (Nat.le_refl _)).2.1
    have m3 := (lc_mono a b _ i j (Nat.le_refl _)).1
    by_cases e : bt a (i : Int) = bt b (j : Int)
    ·rw [if_pos e] at s t
     omega
    ·rw [if_neg e] at t
     clear s
     omega
theorem lc_full (a b : ByteArray) (hs : a.size = b.size) : ∀ (d i : Nat), a.size - i = d → lc a b i i = a.size - i → ∀ j : Nat, i ≤ j → j < a.size → bt a (j : Int) = bt b (j : Int) := by
 intro d
 induction d with
 | zero => intro i hd h j h1 h2; omega
 | succ d ih =>
  intro i hd h j h1 h2
  have s := lc_step a b i i (by omega) (by omega)
  by_cases e : bt a (i : Int) = bt b (i : Int)
  ·rw [if_pos e] at s
   by_cases ej : j = i
   ·subst ej; exact e
   ·exact ih (i + 1) (by omega) (by omega) j (by omega) h2
  ·rw [if_neg e] at s
   have r1 := lc_rest a b (i + 1) i
   have r2 := lc_rest b a (i + 1) i
   rw [lc_comm b a] at r2
   omega
theorem lc_same (a b : ByteArray) (hs : a.size = b.size) (h : ∀ j : Nat, j < a.size → bt a (j : Int) = bt b (j : Int)) : ∀ (d i : Nat), a.size - i = d → lc a b i i = a.size - i := by
 intro d
 induction d with
 | zero => intro i hd; rw [lc_end_left a b i i (by omega)]; omega
 | succ d ih =>
  intro i hd
  rw [lc_step a b i i (by omega) (by omega), if_pos (h i (by omega)), ih (i + 1) (by omega)]
  omega
/-- Nothing lies between two texts just if they are the same. -/
theorem ld_zero (a b : ByteArray) : a.size + b.size = 2 * lc a b 0 0 ↔ (a.size = b.size ∧ ∀ j : Nat, j < a.size → bt a (j : Int) = bt b (j : Int)) := by
 have r1 := lc_rest a b 0 0
 have r2 := lc_rest b a 0 0
 rw [lc_comm b a] at r2
 constructor
 ·intro h
  exact ⟨by omega, fun j hj => lc_full a b (by omega) _ 0 rfl (by omega) j (by omega) hj⟩
 ·intro ⟨h1, h2⟩
  rw [lc_same a b h1 h2 _ 0 rfl]
  omega
/-- The two distances: each is at most the other one, or its double. -/
theorem two_dist (a b : ByteArray) : ed a b a.size b.size + 2 * lc a b 0 0 ≤ a.size + b.size ∧ a.size + b.size ≤ 2 * lc a b 0 0 + 2 * ed a b a.size b.size := by
 have h1 := ed_le_ld a b _ 0 0 (by omega) (by omega) (Nat.le_refl _)
 have h2 := ld_le_ed a b _ a.size b.size (by omega) (by omega) (Nat.le_refl _)
 rw [ed_zero] at h1
 rw [lc_end_left a b _ _ (Nat.le_refl _)] at h2
 omega

theorem u64_range (n : Int) : 0 ≤ IntKind.u64.wrap n ∧ IntKind.u64.wrap n < 18446744073709551616 := by
 have h : IntKind.u64.wrap n = n % 18446744073709551616 := by simp [IntKind.wrap, IntKind.bits, IntKind.signed]
 rw [h]; omega
theorem u64_and255 (n : Int) : 0 ≤ Go.bits .and .u64 (IntKind.u64.wrap n / 1099511627776) 255 ∧ Go.bits .and .u64 (IntKind.u64.wrap n / 1099511627776) 255 < 256 := by
 have h := u64_range n
 have e := bits_mask .u64 24 (by decide) (fun n h0 h1 => by
  have h : IntKind.u64.wrap n = n % 18446744073709551616 := by simp [IntKind.wrap, IntKind.bits, IntKind.signed]
  rw [h]; omega) 8 (by decide) (IntKind.u64.wrap n / 1099511627776) (by omega) (by omega)
 rw [show (255 : Int) = 2 ^ 8 - 1 from rfl, e]
 omega
def okCode (c : List Int) : Prop := ∀ x ∈ c, 0 ≤ x ∧ x < 256
theorem okCode_of {c : List Int} (h : ∀ x ∈ c, (Lit.int .u8 x).wf = true) : okCode c := by
 intro x hx
 have := h x hx
 simp [Lit.wf, IntKind.min, IntKind.max, IntKind.bits, IntKind.signed] at this
 omega
theorem okCode.rd {c : List Int} (h : okCode c) (i : Int) : 0 ≤ rd c i ∧ rd c i < 256 := by
 unfold Go.Proofs.YtibedlbjkaikiaaW.PrintWords.rd
 rw [List.getD_eq_getElem?_getD]
 cases e : c[i.toNat]? with
 | none => simp
 | some x => simp; exact h x (List.mem_of_getElem? e)
theorem next_ev {c : List Int} (hc : okCode c) (a s : Int) (h0 : 0 ≤ a) (h1 : a ≤ 4000000000000000000) : ∃ r s', spec_l1Cur_next.f c a s = some (r, a + 1, s') ∧ 0 ≤ r ∧ r < 256 := by
 have hr := hc.rd a
 have hu := u64_and255
 unfold spec_l1Cur_next.f
 rw [w64 (by omega : -4611686018427387904 ≤ a + 1) (by omega)]
 by_cases c1 : a < (c.length : Int)
 ·rw [if_pos c1, if_pos h0, if_pos (by omega), w64 (by omega) (by omega)]
  exact ⟨_, _, rfl, hr.1, hr.2⟩
 ·rw [if_neg c1, if_neg (by omega)]
  refine ⟨_, _, rfl, ?_⟩
  have := hu (IntKind.u64.wrap (IntKind.u64.wrap (s * 6364136223846793005) + 0) + 1442695040888963407)
  rw [w64 (by omega) (by omega)]
  exact this
theorem pick_ev {c : List Int} (hc : okCode c) (a s n : Int) (h0 : 0 ≤ a) (h1 : a ≤ 3000000000000000000) (hn : 1 ≤ n) (hn2 : n ≤ 1000000000000) : ∃ r a' s', spec_l1Cur_pick.f c a s n = some (r, a', s') ∧ 0 ≤ r ∧ r < n ∧ a ≤ a' ∧ a' ≤ a + 2 := by
 unfold spec_l1Cur_pick.f
 by_cases c1 : n ≤ 1
 ·rw [if_pos c1]; exact ⟨0, a, s, rfl, by omega, by omega, by omega, by omega⟩
 ·obtain ⟨r, s1, e1, hr0, hr1⟩ := next_ev hc a s h0 (by omega)
  rw [if_neg c1, e1]
  simp only [Option.bind_some]
  by_cases c2 : n > 200
  ·obtain ⟨r2, s2, e2, hr2, hr3⟩ := next_ev hc (a + 1) s1 (by omega) (by omega)
   rw [if_pos c2, e2]
   simp only [Option.bind_some]
   rw [if_neg (by omega), w64 (by omega : -4611686018427387904 ≤ r * 256) (by omega), w64 (by omega) (by omega)]
   refine ⟨_, _, _, rfl, ?_, ?_, by omega, by omega⟩
   ·rw [Int.tmod_eq_emod_of_nonneg (by omega)]; exact Int.emod_nonneg _ (by omega)
   ·rw [Int.tmod_eq_emod_of_nonneg (by omega)]; exact Int.emod_lt_of_pos _ (by omega)
  ·rw [if_neg c2, if_neg (by omega)]
   refine ⟨_, _, _, rfl, ?_, ?_, by omega, by omega⟩
   ·rw [Int.tmod_eq_emod_of_nonneg (by omega)]; exact Int.emod_nonneg _ (by omega)
   ·rw [Int.tmod_eq_emod_of_nonneg (by omega)]; exact Int.emod_lt_of_pos _ (by omega)
theorem one_ev {c : List Int} (hc : okCode c) (a s n : Int) (h0 : 0 ≤ a) (h1 : a ≤ 3000000000000000000) (hn : 1 ≤ n) (hn2 : n ≤ 1000000000000) : ∃ r a' s', spec_l1Cur_one.f c a s n = some (r, a', s') ∧ a ≤ a' ∧ a' ≤ a + 2 := by
 obtain ⟨r, a', s', e, _, _, h2, h3⟩ := pick_ev hc a s n h0 h1 hn hn2
 unfold spec_l1Cur_one.f
 rw [e]
 exact ⟨_, _, _, rfl, h2, h3⟩

theorem of_ev {c : List Int} (hc : okCode c) (a s : Int) (l : List ByteArray) (M : Nat) (h0 : 0 ≤ a) (h1 : a ≤ 3000000000000000000) (hl : 0 < l.length) (hl2 : l.length ≤ 1000) (hM : ∀ x ∈ l, x.size ≤ M) : ∃ r a' s', spec_l1Cur_of.f c a s l = some (r, a', s') ∧ r ∈ l ∧ r.size ≤ M ∧ a ≤ a' ∧ a' ≤ a + 2 := by
 obtain ⟨r, a', s', e, h2, h3, h4, h5⟩ := pick_ev hc a s (l.length : Int) h0 h1 (by omega) (by omega)
 unfold spec_l1Cur_of.f
 rw [e]
 simp only [Option.bind_some]
 rw [if_pos h2, if_pos h3]
 have hm : rdOf ByteArray.empty l r ∈ l := by
  unfold rdOf
  rw [List.getD_eq_getElem?_getD, List.getElem?_eq_getElem (by omega : r.toNat < l.length)]
  simp
 exact ⟨_, _, _, rfl, hm, hM _ hm, h4, h5⟩

def cO : Nat → Int
 | 0 => 600
 | d + 1 => 60 * (cO d + 10)
def sO : Nat → Nat
 | 0 => 300
 | d + 1 => 60 * (sO d + 10)
def xO : Nat → Nat
 | 0 => 5
 | d + 1 => sO d + 10
def yO : Nat → Int
 | 0 => 10
 | d + 1 => cO d + 10
theorem cO_le (d : Nat) (h : d ≤ 3) : 0 ≤ cO d ∧ cO d ≤ 1000000000 := by
 rcases d with _ | _ | _ | _ | d <;> simp [cO] <;> omega
theorem sO_le (d : Nat) (h : d ≤ 3) : sO d ≤ 1000000000 := by
 rcases d with _ | _ | _ | _ | d <;> simp [sO] <;> omega
theorem size_app (a b : ByteArray) : (a ++ b).size = a.size + b.size := ByteArray.size_append
theorem inner_l {c : List Int} (hc : okCode c) (d : Nat) (hd : d ≤ 3)
  (IH : ∀ e : Nat, d = e + 1 → ∀ (a s n : Int), 0 ≤ a → a ≤ 2000000000000000000 + (3 - (e : Int)) * 1000000000000 → 0 ≤ n → n ≤ 60 → ∃ t a' s', t.size ≤ sO e ∧ a ≤ a' ∧ a' ≤ a + cO e ∧ ∃ K, ∀ k, K ≤ k → spec_l1Cur_inner.f k c a s n (e : Int) = some (t, a', s')) :
  ∀ (n : Nat) (t : ByteArray) (a s : Int), n ≤ 60 → 0 ≤ a → a ≤ 2000000000000000000 + (3 - (d : Int)) * 1000000000000 + (60 - (n : Int)) * 1000000000 → t.size + n * 1000000000 ≤ 60 * 1000000000 →
   ∃ t' a' s', t'.size ≤ t.size + n * (xO d) ∧ a ≤ a' ∧ a' ≤ a + n * (yO d) ∧ ∃ K, ∀ k, K ≤ k → spec_l1Cur_inner.l0 k (n : Int) (d : Int) t c a s = some (t', a', s') := by
 intro n
 induction n with
 | zero =>
  intro t a s hn h0 h1 ht
  refine ⟨t, a, s, by omega, by omega, by omega, 1, fun k hk => ?_⟩
  obtain ⟨k, rfl⟩ : ∃ m, k = m + 1 := ⟨k - 1, by omega⟩
  simp only [spec_l1Cur_inner.l0]
  rw [if_neg (by omega)]
 | succ n ih =>
  intro t a s hn h0 h1 ht
  have join : ∀ (u : ByteArray) (a1 s1 : Int), u.size ≤ (xO d) → a ≤ a1 → a1 ≤ a + (yO d) →
    ∃ t' a' s', t'.size ≤ t.size + (n + 1 : Nat) * (xO d) ∧ a ≤ a' ∧ a' ≤ a + ((n + 1 : Nat) : Int) * (yO d) ∧ ∃ K, ∀ k, K ≤ k → spec_l1Cur_inner.l0 k (n : Int) (d : Int) (t ++ u) c a1 s1 = some (t', a', s') := by
   intro u a1 s1 hu h2 h3
   have b1 : xO d ≤ 1000000000 := by
    cases d with
    | zero => simp [xO]
    | succ e => have := sO_le e (by omega); rcases e with _ | _ | _ | e <;> simp [xO, sO] <;> omega
   have b2 : yO d ≤ 1000000000 := by
    cases d with
    | zero => simp [yO]
    | succ e => rcases e with _ | _ | _ | e <;> simp [yO, cO] <;> omega
   generalize xO d = X at *
   generalize yO d = Y at *
   obtain ⟨t', a', s', g1, g2, g3, g4⟩ := ih (t ++ u) a1 s1 (by omega) (by omega) (by omega) (by rw [size_app]; omega)
   refine ⟨t', a', s', ?_, by omega, ?_, g4⟩
   ·rw [size_app] at g1
    have : (n + 1) * X = n * X + X := Nat.succ_mul n X
    omega
   ·have : ((n + 1 : Nat) : Int) * Y = (n : Int) * Y + Y := by rw [show ((n + 1 : Nat) : Int) = (n : Int) + 1 by omega, Int.add_mul, Int.one_mul]
    omega
  have plain : ∀ a1 s1 : Int, a ≤ a1 → a1 ≤ a + 2 → ∃ t' a' s', t'.size ≤ t.size + (n + 1 : Nat) * (xO d) ∧ a ≤ a' ∧ a' ≤ a + ((n + 1 : Nat) : Int) * (yO d) ∧ ∃ K, ∀ k, K ≤ k → spec_l1Cur_inner.j1 k ((n : Int) + 1) (d : Int) t false c a1 s1 = some (t', a', s') := by
   intro a1 s1 h2 h3
   obtain ⟨u, a2, s2, e, _, hu, h4, h5⟩ := of_ev hc a1 s1 ([(⟨#[97]⟩ : ByteArray), (⟨#[98]⟩ : ByteArray), (⟨#[97, 98]⟩ : ByteArray), (⟨#[120]⟩ : ByteArray), (⟨#[32]⟩ : ByteArray), (⟨#[111, 110, 101]⟩ : ByteArray), (⟨#[49]⟩ : ByteArray), (⟨#[122, 46]⟩ : ByteArray)] : List ByteArray) 3 (by omega) (by omega) (by simp) (by simp) (by decide)
   obtain ⟨t', a', s', g1, g2, g3, K, g4⟩ := join u a2 s2 (by cases d <;> simp [xO] <;> omega) (by omega) (by
    cases d with
    | zero => simp [yO]; omega
    | succ e => have := cO_le e (by omega); simp [yO]; omega)
   refine ⟨t', a', s', g1, g2, g3, K + 1, fun k hk => ?_⟩
   obtain ⟨k, rfl⟩ : ∃ m, k = m + 1 := ⟨k - 1, by omega⟩
   simp only [spec_l1Cur_inner.j1]
   rw [if_neg (by simp), e]
   simp only [Option.bind_some]
   rw [if_pos (by omega), w64 (by omega) (by omega), Int.add_sub_cancel]
   exact g4 k (by omega)
  cases d with
  | zero =>
   obtain ⟨t', a', s', g1, g2, g3, K, g4⟩ := plain a s (by omega) (by omega)
   refine ⟨t', a', s', g1, g2, g3, K + 1, fun k hk => ?_⟩
   obtain ⟨k, rfl⟩ : ∃ m, k = m + 1 := ⟨k - 1, by omega⟩
   simp only [spec_l1Cur_inner.l0]
   rw [if_pos (by omega), if_neg (by omega)]
   exact g4 k (by omega)
  | succ e =>
   obtain ⟨r, a1, s1, e1, h2, h3⟩ := one_ev hc a s 3 (by omega) (by omega) (by omega) (by omega)
   have hb := cO_le e (by omega)
   have hs := sO_le e (by omega)
   cases r with
   | false =>
    obtain ⟨t', a', s', g1, g2, g3, K, g4⟩ := plain a1 s1 (by omega) (by omega)
    refine ⟨t', a', s', g1, g2, g3, K + 1, fun k hk => ?_⟩
    obtain ⟨k, rfl⟩ : ∃ m, k = m + 1 := ⟨k - 1, by omega⟩
    simp only [spec_l1Cur_inner.l0]
    rw [if_pos (by omega), if_pos (by omega), e1]
    exact g4 k (by omega)
   | true =>
    obtain ⟨p1, a2, s2, e2, q1, q2, q3, q4⟩ := pick_ev hc a1 s1 4 (by omega) (by omega) (by omega) (by omega)
    obtain ⟨p2, a3, s3, e3, q5, q6, q7, q8⟩ := pick_ev hc a2 s2 4 (by omega) (by omega) (by omega) (by omega)
    obtain ⟨v, a4, s4, i1, i2, i3, K1, i4⟩ := IH e rfl a3 s3 p2 (by omega) (by omega) (by omega) (by omega)
    have one1 : (strOfNums [wrap64 (65 + p1) % 256]).size = 1 := rfl
    have lit1 : (⟨#[47]⟩ : ByteArray).size = 1 := rfl
    obtain ⟨t', a', s', g1, g2, g3, K, g4⟩ := join (strOfNums [wrap64 (65 + p1) % 256] ++ v ++ (⟨#[47]⟩ : ByteArray)) a4 s4 (by rw [size_app, size_app, one1, lit1]; simp [xO]; omega) (by omega) (by simp [yO]; omega)
    refine ⟨t', a', s', g1, g2, g3, max K K1 + 2, fun k hk => ?_⟩
    obtain ⟨k, rfl⟩ : ∃ m, k = m + 2 := ⟨k - 2, by omega⟩
    simp only [spec_l1Cur_inner.l0]
    rw [if_pos (by omega), if_pos (by omega), e1]
    simp only [Option.bind_some, spec_l1Cur_inner.j1, if_true]
    rw [e2]
    simp only [Option.bind_some]
    rw [e3]
    simp only [Option.bind_some]
    rw [w64 (by omega : -4611686018427387904 ≤ ((e + 1 : Nat) : Int) - 1) (by omega), show ((e + 1 : Nat) : Int) - 1 = (e : Int) by omega, i4 k (by omega)]
    simp only [Option.bind_some]
    rw [if_pos (by omega), if_pos (by rw [size_app]; omega), if_pos (by rw [size_app, size_app]; omega), w64 (by omega) (by omega), show ((n + 1 : Nat) : Int) - 1 = (n : Int) by omega]
    exact g4 k (by omega)
theorem inner_ev {c : List Int} (hc : okCode c) : ∀ (d : Nat), d ≤ 3 → ∀ (a s n : Int), 0 ≤ a → a ≤ 2000000000000000000 + (3 - (d : Int)) * 1000000000000 → 0 ≤ n → n ≤ 60 → ∃ t a' s', t.size ≤ sO d ∧ a ≤ a' ∧ a' ≤ a + cO d ∧ ∃ K, ∀ k, K ≤ k → spec_l1Cur_inner.f k c a s n (d : Int) = some (t, a', s') := by
 intro d
 induction d with
 | zero =>
  intro hd a s n h0 h1 h2 h3
  obtain ⟨m, rfl⟩ := Int.eq_ofNat_of_zero_le h2
  obtain ⟨t, a', s', g1, g2, g3, K, g4⟩ := inner_l hc 0 hd (fun e h => by omega) m (⟨#[]⟩ : ByteArray) a s (by omega) h0 (by omega) (by simp [ByteArray.size]; omega)
  simp only [show (⟨#[]⟩ : ByteArray).size = 0 from rfl] at g1 g3
  refine ⟨t, a', s', by simp only [sO, xO] at *; omega, g2, by simp only [cO, yO] at *; omega, K + 1, fun k hk => ?_⟩
  obtain ⟨k, rfl⟩ : ∃ m, k = m + 1 := ⟨k - 1, by omega⟩
  simp only [spec_l1Cur_inner.f]
  exact g4 k (by omega)
 | succ d ih =>
  intro hd a s n h0 h1 h2 h3
  obtain ⟨m, rfl⟩ := Int.eq_ofNat_of_zero_le h2
  have hb := cO_le d (by omega)
  obtain ⟨t, a', s', g1, g2, g3, K, g4⟩ := inner_l hc (d + 1) hd (fun e h => by
   have : e = d := by omega
   subst this; exact ih (by omega)) m (⟨#[]⟩ : ByteArray) a s (by omega) h0 (by omega) (by simp [ByteArray.size]; omega)
  simp only [show (⟨#[]⟩ : ByteArray).size = 0 from rfl] at g1 g3
  refine ⟨t, a', s', ?_, g2, ?_, K + 1, fun k hk => ?_⟩
  ·simp only [sO, xO] at *
   have := Nat.mul_le_mul_right (sO d + 10) (by omega : m ≤ 60)
   omega
  ·simp only [cO, yO] at *
   have := Int.mul_le_mul_of_nonneg_right (by omega : (m : Int) ≤ 60) (by omega : 0 ≤ cO d + 10)
   omega
  ·obtain ⟨k, rfl⟩ : ∃ m, k = m + 1 := ⟨k - 1, by omega⟩
   simp only [spec_l1Cur_inner.f]
   exact g4 k (by omega)
theorem ext_size (s : ByteArray) (i j : Nat) : (s.extract i j).size ≤ s.size := by rw [ByteArray.size_extract]; omega
theorem spoilt_l {c : List Int} (hc : okCode c) (w : ByteArray) (hw : 0 < w.size) (hw2 : w.size ≤ 1000) : ∀ (n : Nat) (t : ByteArray) (a s : Int), n ≤ 3 → 0 ≤ a → a ≤ 2000000000000000000 + (3 - (n : Int)) * 10 → t.size + n ≤ 100000000000 →
  ∃ t' a' s', t'.size ≤ t.size + n ∧ a ≤ a' ∧ a' ≤ a + 10 * n ∧ ∃ K, ∀ k, K ≤ k → spec_l1Cur_spoilt.l0 k t w (n : Int) c a s = some (t', a', s') := by
 intro n
 induction n with
 | zero =>
  intro t a s hn h0 h1 ht
  refine ⟨t, a, s, by omega, by omega, by omega, 2, fun k hk => ?_⟩
  obtain ⟨k, rfl⟩ : ∃ m, k = m + 2 := ⟨k - 2, by omega⟩
  simp only [spec_l1Cur_spoilt.l0]
  rw [if_neg (by omega)]
  simp only [spec_l1Cur_spoilt.j1]
  rw [if_neg (by simp)]
 | succ n ih =>
  intro t a s hn h0 h1 ht
  by_cases hz : t.size = 0
  ·refine ⟨t, a, s, by omega, by omega, by omega, 2, fun k hk => ?_⟩
   obtain ⟨k, rfl⟩ : ∃ m, k = m + 2 := ⟨k - 2, by omega⟩
   simp only [spec_l1Cur_spoilt.l0]
   rw [if_pos (by omega)]
   simp only [spec_l1Cur_spoilt.j1]
   rw [if_neg (by rw [decide_eq_true_eq]; omega)]
  ·obtain ⟨p1, a1, s1, e1, q1, q2, q3, q4⟩ := pick_ev hc a s (t.size : Int) (by omega) (by omega) (by omega) (by omega)
   obtain ⟨p2, a2, s2, e2, q5, q6, q7, q8⟩ := pick_ev hc a1 s1 (w.size : Int) (by omega) (by omega) (by omega) (by omega)
   obtain ⟨p3, a3, s3, e3, q9, q10, q11, q12⟩ := pick_ev hc a2 s2 3 (by omega) (by omega) (by omega) (by omega)
   have one1 : (strOfNums [bt w p2]).size = 1 := rfl
   have x1 : (t.extract 0 p1.toNat).size = p1.toNat := by rw [ByteArray.size_extract]; omega
   have x2 : (t.extract p1.toNat t.size).size = t.size - p1.toNat := by rw [ByteArray.size_extract]; omega
   have x3 : (t.extract (p1 + 1).toNat t.size).size = t.size - (p1 + 1).toNat := by rw [ByteArray.size_extract]; omega
   have go : ∀ u : ByteArray, u.size ≤ t.size + 1 → ∃ t' a' s', t'.size ≤ t.size + (n + 1) ∧ a ≤ a' ∧ a' ≤ a + 10 * ((n + 1 : Nat) : Int) ∧ ∃ K, ∀ k, K ≤ k → spec_l1Cur_spoilt.l0 k u w (n : Int) c a3 s3 = some (t', a', s') := by
    intro u hu
    obtain ⟨t', a', s', g1, g2, g3, g4⟩ := ih u a3 s3 (by omega) (by omega) (by omega) (by omega)
    exact ⟨t', a', s', by omega, by omega, by omega, g4⟩
   have hn1 : ((n + 1 : Nat) : Int) - 1 = (n : Int) := by omega
   by_cases c1 : p3 = 0
   ·obtain ⟨t', a', s', g1, g2, g3, K, g4⟩ := go (t.extract 0 p1.toNat ++ strOfNums [bt w p2] ++ t.extract p1.toNat t.size) (by rw [size_app, size_app, x1, x2, one1]; omega)
    refine ⟨t', a', s', g1, g2, g3, K + 2, fun k hk => ?_⟩
    obtain ⟨k, rfl⟩ : ∃ m, k = m + 2 := ⟨k - 2, by omega⟩
    simp only [spec_l1Cur_spoilt.l0]
    rw [if_pos (by omega)]
    simp only [spec_l1Cur_spoilt.j1]
    rw [if_pos (by simp; omega), e1]
    simp only [Option.bind_some]
    rw [e2]
    simp only [Option.bind_some]
    rw [if_pos q5, if_pos q6, e3]
    simp only [Option.bind_some]
    rw [if_pos c1, if_pos q1, if_pos (by omega), if_pos (by omega), if_pos (by rw [size_app]; omega), w64 (by omega) (by omega), hn1]
    exact g4 k (by omega)
   ·by_cases c2 : p3 = 1
    ·obtain ⟨t', a', s', g1, g2, g3, K, g4⟩ := go (t.extract 0 p1.toNat ++ strOfNums [bt w p2] ++ t.extract (p1 + 1).toNat t.size) (by rw [size_app, size_app, x1, x3, one1]; omega)
     refine ⟨t', a', s', g1, g2, g3, K + 2, fun k hk => ?_⟩
     obtain ⟨k, rfl⟩ : ∃ m, k = m + 2 := ⟨k - 2, by omega⟩
     simp only [spec_l1Cur_spoilt.l0]
     rw [if_pos (by omega)]
     simp only [spec_l1Cur_spoilt.j1]
     rw [if_pos (by simp; omega), e1]
     simp only [Option.bind_some]
     rw [e2]
     simp only [Option.bind_some]
     rw [if_pos q5, if_pos q6, e3]
     simp only [Option.bind_some]
     have hp1 : wrap64 (p1 + 1) = p1 + 1 := w64 (by omega) (by omega)
     rw [if_neg c1, if_pos c2, if_pos q1, if_pos (by omega), if_pos (by omega), hp1, if_pos (by omega), if_pos (by omega), if_pos (by rw [size_app]; omega), w64 (by omega) (by omega), hn1]
     exact g4 k (by omega)
    ·obtain ⟨t', a', s', g1, g2, g3, K, g4⟩ := go (t.extract 0 p1.toNat ++ t.extract (p1 + 1).toNat t.size) (by rw [size_app, x1, x3]; omega)
     refine ⟨t', a', s', g1, g2, g3, K + 2, fun k hk => ?_⟩
     obtain ⟨k, rfl⟩ : ∃ m, k = m + 2 := ⟨k - 2, by omega⟩
     simp only [spec_l1Cur_spoilt.l0]
     rw [if_pos (by omega)]
     simp only [spec_l1Cur_spoilt.j1]
     rw [if_pos (by simp; omega), e1]
     simp only [Option.bind_some]
     rw [e2]
     simp only [Option.bind_some]
     rw [if_pos q5, if_pos q6, e3]
     simp only [Option.bind_some]
     have hp1 : wrap64 (p1 + 1) = p1 + 1 := w64 (by omega) (by omega)
     simp only [hp1]
     simp (disch := omega) only [if_pos, if_neg, w64, hn1]
     exact g4 k (by omega)
theorem spoilt_ev {c : List Int} (hc : okCode c) (a s : Int) (t w : ByteArray) (hw : 0 < w.size) (hw2 : w.size ≤ 1000) (h0 : 0 ≤ a) (h1 : a ≤ 1900000000000000000) (ht : t.size ≤ 90000000000) :
  ∃ t' a' s', t'.size ≤ t.size + 3 ∧ a ≤ a' ∧ a' ≤ a + 50 ∧ ∃ K, ∀ k, K ≤ k → spec_l1Cur_spoilt.f k c a s t w = some (t', a', s') := by
 obtain ⟨p1, a1, s1, e1, q1, q2, q3, q4⟩ := pick_ev hc a s 3 (by omega) (by omega) (by omega) (by omega)
 obtain ⟨m, rfl⟩ := Int.eq_ofNat_of_zero_le q1
 obtain ⟨t', a', s', g1, g2, g3, K, g4⟩ := spoilt_l hc w hw hw2 m t a1 s1 (by omega) (by omega) (by omega) (by omega)
 refine ⟨t', a', s', by omega, by omega, by omega, K, fun k hk => ?_⟩
 unfold spec_l1Cur_spoilt.f
 rw [e1]
 exact g4 k hk
theorem doc0_ev {c : List Int} (hc : okCode c) (a s : Int) (t : ByteArray) (h0 : 0 ≤ a) (h1 : a ≤ 1800000000000000000) (ht : t.size ≤ 1000000000) :
  ∃ t' a' s', t'.size ≤ 1000000010 ∧ a ≤ a' ∧ a' ≤ a + 100 ∧ ∃ K, ∀ k, K ≤ k → spec_l1Cur_doc.j0 k t c a s = some (t', a', s') := by
 obtain ⟨r, a1, s1, e1, h2, h3⟩ := one_ev hc a s 12 (by omega) (by omega) (by omega) (by omega)
 cases r with
 | false =>
  refine ⟨t, a1, s1, by omega, by omega, by omega, 1, fun k hk => ?_⟩
  obtain ⟨k, rfl⟩ : ∃ m, k = m + 1 := ⟨k - 1, by omega⟩
  simp only [spec_l1Cur_doc.j0]
  rw [e1]; simp
 | true =>
  obtain ⟨t', a', s', g1, g2, g3, K, g4⟩ := spoilt_ev hc a1 s1 t (⟨#[65, 47, 97, 90]⟩ : ByteArray) (by decide) (by decide) (by omega) (by omega) (by omega)
  refine ⟨t', a', s', by omega, by omega, by omega, K + 1, fun k hk => ?_⟩
  obtain ⟨k, rfl⟩ : ∃ m, k = m + 1 := ⟨k - 1, by omega⟩
  simp only [spec_l1Cur_doc.j0]
  rw [e1]
  simp only [Option.bind_some, if_true]
  rw [g4 k (by omega)]; rfl
theorem doc_ev {c : List Int} (hc : okCode c) (a s : Int) (h0 : 0 ≤ a) (h1 : a ≤ 1700000000000000000) :
  ∃ t' a' s', t'.size ≤ 1000000010 ∧ a ≤ a' ∧ a' ≤ a + 2000000200 ∧ ∃ K, ∀ k, K ≤ k → spec_l1Cur_doc.f k c a s = some (t', a', s') := by
 have hb := cO_le 3 (by omega)
 have hs := sO_le 3 (by omega)
 obtain ⟨p1, a1, s1, e1, q1, q2, q3, q4⟩ := pick_ev hc a s 7 (by omega) (by omega) (by omega) (by omega)
 obtain ⟨t2, a2, s2, i1, i2, i3, K1, i4⟩ := inner_ev hc 3 (by omega) a1 s1 p1 (by omega) (by omega) (by omega) (by omega)
 obtain ⟨p3, a3, s3, e3, r1, r2, r3, r4⟩ := pick_ev hc a2 s2 30 (by omega) (by omega) (by omega) (by omega)
 by_cases c1 : p3 = 0
 ·obtain ⟨t4, a4, s4, j1, j2, j3, K2, j4⟩ := inner_ev hc 3 (by omega) a3 s3 60 (by omega) (by omega) (by omega) (by omega)
  obtain ⟨t', a', s', g1, g2, g3, K, g4⟩ := doc0_ev hc a4 s4 t4 (by omega) (by omega) (by omega)
  refine ⟨t', a', s', g1, by omega, by omega, max (max K K1) K2, fun k hk => ?_⟩
  unfold spec_l1Cur_doc.f
  have e5 := i4 k (by omega)
  have e6 := j4 k (by omega)
  have e7 := g4 k (by omega)
  simp only [Int.cast_ofNat_Int] at e5 e6
  rw [e1]; simp only [Option.bind_some]
  rw [e5]; simp only [Option.bind_some]
  rw [e3]; simp only [Option.bind_some]
  rw [if_pos c1, e6]; simp only [Option.bind_some]
  exact e7
 ·by_cases c2 : p3 = 1
  ·obtain ⟨u, a4, s4, e4, _, hu, h4, h5⟩ := of_ev hc a3 s3 ([(⟨#[65, 65, 65, 65, 65, 65, 65, 65, 65, 65, 65, 65, 47, 47, 47, 47, 47, 47, 47, 47, 47, 47, 47, 47]⟩ : ByteArray), (⟨#[65, 65, 65, 65, 65, 65, 65, 65, 65, 65, 65, 65, 65, 47, 47, 47, 47, 47, 47, 47, 47, 47, 47, 47, 47, 47]⟩ : ByteArray)] : List ByteArray) 30 (by omega) (by omega) (by simp) (by simp) (by decide)
   obtain ⟨t', a', s', g1, g2, g3, K, g4⟩ := doc0_ev hc a4 s4 u (by omega) (by omega) (by omega)
   refine ⟨t', a', s', g1, by omega, by omega, max K K1, fun k hk => ?_⟩
   unfold spec_l1Cur_doc.f
   have e5 := i4 k (by omega)
   have e7 := g4 k (by omega)
   simp only [Int.cast_ofNat_Int] at e5
   rw [e1]; simp only [Option.bind_some]
   rw [e5]; simp only [Option.bind_some]
   rw [e3]; simp only [Option.bind_some]
   rw [if_neg c1, if_pos c2, e4]; simp only [Option.bind_some]
   exact e7
  ·obtain ⟨t', a', s', g1, g2, g3, K, g4⟩ := doc0_ev hc a3 s3 t2 (by omega) (by omega) (by omega)
   refine ⟨t', a', s', g1, by omega, by omega, max K K1, fun k hk => ?_⟩
   unfold spec_l1Cur_doc.f
   have e5 := i4 k (by omega)
   have e7 := g4 k (by omega)
   simp only [Int.cast_ofNat_Int] at e5
   rw [e1]; simp only [Option.bind_some]
   rw [e5]; simp only [Option.bind_some]
   rw [e3]; simp only [Option.bind_some]
   rw [if_neg c1, if_neg c2]
   exact e7

/-! a drawn change of a text: that the draw ends -/
def F64 (s : Int) : Int := (s * 6364136223846793005 + 1442695040888963407) % 18446744073709551616
theorem F64_range (s : Int) : 0 ≤ F64 s ∧ F64 s < 18446744073709551616 := by unfold F64; omega
theorem u64w (n : Int) : IntKind.u64.wrap n = n % 18446744073709551616 := by simp [IntKind.wrap, IntKind.bits, IntKind.signed]
theorem next_end {c : List Int} (a s : Int) (h0 : (c.length : Int) ≤ a) (h1 : 0 ≤ a) (h2 : a ≤ 4000000000000000000) : spec_l1Cur_next.f c a s = some (F64 s / 1099511627776 % 256, a + 1, F64 s) := by
 have hF : IntKind.u64.wrap (IntKind.u64.wrap (IntKind.u64.wrap (s * 6364136223846793005) + IntKind.u64.wrap 0) + 1442695040888963407) = F64 s := by
  rw [u64w, u64w, u64w, u64w]; unfold F64; omega
 have hF' : IntKind.u64.wrap (IntKind.u64.wrap (IntKind.u64.wrap (s * 6364136223846793005) + 0) + 1442695040888963407) = F64 s := by
  rw [u64w, u64w, u64w]; unfold F64; omega
 have hr := F64_range s
 have e := bits_mask .u64 24 (by decide) (fun n h0 h1 => by rw [u64w]; omega) 8 (by decide) (F64 s / 1099511627776) (by omega) (by omega)
 have e' : Go.bits .and .u64 (F64 s / 1099511627776) 255 = F64 s / 1099511627776 % 256 := e
 unfold spec_l1Cur_next.f
 rw [if_neg (by omega), w64 (i := a + 1) (by omega) (by omega), if_neg (by omega)]
 first | rw [hF] | rw [hF']
 rw [e', w64 (by omega) (by omega)]
theorem next_evR {c : List Int} (hc : okCode c) (a s : Int) (h0 : 0 ≤ a) (h1 : a ≤ 4000000000000000000) : ∃ r s', spec_l1Cur_next.f c a s = some (r, a + 1, s') ∧ 0 ≤ r ∧ r < 256 := by
 by_cases hl : (c.length : Int) ≤ a
 ·have hr := F64_range s
  exact ⟨_, _, next_end a s hl h0 h1, by omega, by omega⟩
 ·have hr := hc.rd a
  unfold spec_l1Cur_next.f
  rw [if_pos (by omega), if_pos h0, w64 (i := a + 1) (by omega) (by omega), if_pos (by omega), w64 (i := rd c a) (by omega) (by omega)]
  have := u64_range (IntKind.u64.wrap (IntKind.u64.wrap (s * 6364136223846793005) + IntKind.u64.wrap (rd c a)) + 1442695040888963407)
  exact ⟨_, _, rfl, hr.1, hr.2⟩
theorem pick_evR {c : List Int} (hc : okCode c) (a s n : Int) (h0 : 0 ≤ a) (h1 : a ≤ 3000000000000000000) (hn : 2 ≤ n) (hn2 : n ≤ 200) : ∃ r s', spec_l1Cur_pick.f c a s n = some (r, a + 1, s') ∧ 0 ≤ r ∧ r < n := by
 obtain ⟨r, s', e, g1, g2⟩ := next_evR hc a s h0 (by omega)
 unfold spec_l1Cur_pick.f
 rw [if_neg (by omega), e]
 simp only [Option.bind_some]
 rw [if_neg (by omega), if_neg (by omega)]
 refine ⟨_, _, rfl, ?_, ?_⟩
 ·rw [Int.tmod_eq_emod_of_nonneg (by omega)]; exact Int.emod_nonneg _ (by omega)
 ·rw [Int.tmod_eq_emod_of_nonneg (by omega)]; exact Int.emod_lt_of_pos _ (by omega)
theorem pick_end {c : List Int} (a s n : Int) (h0 : (c.length : Int) ≤ a) (h1 : 0 ≤ a) (h2 : a ≤ 4000000000000000000) (hn : 2 ≤ n) (hn2 : n ≤ 200) : spec_l1Cur_pick.f c a s n = some (F64 s / 1099511627776 % 256 % n, a + 1, F64 s) := by
 have hr := F64_range s
 unfold spec_l1Cur_pick.f
 rw [if_neg (by omega), next_end a s h0 h1 h2]
 simp only [Option.bind_some]
 rw [if_neg (by omega), if_neg (by omega), Int.tmod_eq_emod_of_nonneg (by omega)]
/-- What decides a step behind the code's end: two bits. -/
def cls (s : Int) : Int := F64 (F64 s) / 1099511627776 % 4
def G3 (s : Int) : Int := F64 (F64 (F64 s))
def itG : Nat → Int → Int
 | 0, s => s
 | n + 1, s => itG n (G3 s)
theorem itG_add : ∀ (m n : Nat) (s : Int), itG (m + n) s = itG n (itG m s)
 | 0, n, s => by rw [Nat.zero_add]; rfl
 | m + 1, n, s => by rw [show m + 1 + n = (m + n) + 1 by omega]; exact itG_add m n (G3 s)
/-- Alike but for multiples of 2^42. -/
def Cg (x y : Int) : Prop := ∃ q : Int, x = y + 4398046511104 * q
theorem Cg.trans {x y z : Int} (h : Cg x y) (k : Cg y z) : Cg x z := by
 obtain ⟨q, rfl⟩ := h
 obtain ⟨p, rfl⟩ := k
 exact ⟨p + q, by omega⟩
theorem Cg.lin {x y : Int} (h : Cg x y) (A B : Int) : Cg (A * x + B) (A * y + B) := by
 obtain ⟨q, rfl⟩ := h
 refine ⟨A * q, ?_⟩
 rw [Int.mul_add, Int.mul_left_comm A 4398046511104 q]
 omega
theorem Cg.red (A B x : Int) : Cg (A * x + B) (A % 4398046511104 * x + B % 4398046511104) := by
 refine ⟨A / 4398046511104 * x + B / 4398046511104, ?_⟩
 have h1 := Int.emod_add_mul_ediv A 4398046511104
 have h2 := Int.emod_add_mul_ediv B 4398046511104
 have h3 : A * x = A % 4398046511104 * x + 4398046511104 * (A / 4398046511104 * x) := by
  rw [← Int.mul_assoc, ← Int.add_mul, h1]
 omega
theorem F64_cg (x : Int) : Cg (F64 x) (6364136223846793005 * x + 1442695040888963407) := by
 unfold F64
 exact ⟨-(4194304 * ((x * 6364136223846793005 + 1442695040888963407) / 18446744073709551616)), by omega⟩
def aff : Nat → Int × Int
 | 0 => (1610380290293, 146808144153)
 | k + 1 => ((aff k).1 * (aff k).1 % 4398046511104, ((aff k).1 * (aff k).2 + (aff k).2) % 4398046511104)
theorem G3_cg (x : Int) : Cg (G3 x) ((aff 0).1 * x + (aff 0).2) := by
 unfold G3
 refine (F64_cg _).trans (((F64_cg _).lin _ _).trans ((((F64_cg x).lin _ _).lin _ _).trans ?_))
 exact ⟨58608227004328453506646594938727604003455258 * x + 13285981864689072521541670664646133922839966, by show 6364136223846793005 * (6364136223846793005 * (6364136223846793005 * x + 1442695040888963407) + 1442695040888963407) + 1442695040888963407 = 1610380290293 * x + 146808144153 + 4398046511104 * (58608227004328453506646594938727604003455258 * x + 13285981864689072521541670664646133922839966); omega⟩
theorem itG_cg : ∀ (k : Nat) (x : Int), Cg (itG (2 ^ k) x) ((aff k).1 * x + (aff k).2)
 | 0, x => G3_cg x
 | k + 1, x => by
  rw [Nat.pow_succ, Nat.mul_two, itG_add]
  refine (itG_cg k _).trans (((itG_cg k x).lin _ _).trans ?_)
  show Cg ((aff k).1 * ((aff k).1 * x + (aff k).2) + (aff k).2) ((aff k).1 * (aff k).1 % 4398046511104 * x + ((aff k).1 * (aff k).2 + (aff k).2) % 4398046511104)
  rw [Int.mul_add, ← Int.mul_assoc, Int.add_assoc]
  exact Cg.red _ _ x
theorem aff19 : aff 19 = (1304887820289, 2957227065344) := by decide +kernel
theorem aff20 : aff 20 = (2609775640577, 2615919247360) := by decide +kernel
theorem itG_F : ∀ (n : Nat) (s : Int), itG n (F64 s) = F64 (itG n s)
 | 0, _ => rfl
 | n + 1, s => itG_F n (G3 s)
theorem cls_it (n : Nat) (s : Int) : cls (itG n s) = itG n (F64 (F64 s)) / 1099511627776 % 4 := by
 unfold cls
 rw [itG_F, itG_F]
/-- Some step of the next 2^19 + 2^20 is none that puts. -/
theorem cls_soon (s : Int) : ∃ n, n ≤ 1572864 ∧ cls (itG n s) ≠ 1 := by
 by_cases h0 : cls (itG 0 s) = 1
 ·by_cases h1 : cls (itG (2 ^ 19) s) = 1
  ·by_cases h2 : cls (itG (2 ^ 20) s) = 1
   ·refine ⟨2 ^ 19 + 2 ^ 20, by decide, fun h3 => ?_⟩
    rw [cls_it] at h0 h1 h2 h3
    rw [itG_add] at h3
    obtain ⟨q2, e2⟩ := itG_cg 19 (F64 (F64 s))
    obtain ⟨q3, e3⟩ := itG_cg 20 (F64 (F64 s))
    obtain ⟨q4, e4⟩ := itG_cg 20 (itG (2 ^ 19) (F64 (F64 s)))
    rw [aff19] at e2
    rw [aff20] at e3 e4
    have e0 : itG 0 (F64 (F64 s)) = F64 (F64 s) := rfl
    rw [e0] at h0
    generalize F64 (F64 s) = x at *
    generalize itG (2 ^ 20) (itG (2 ^ 19) x) = y4 at *
    generalize itG (2 ^ 19) x = y2 at *
    generalize itG (2 ^ 20) x = y3 at *
    simp only at e2 e3 e4
    clear e0
    have key : y4 - y2 - y3 + x = 2199023255552 + 4398046511104 * (774312967922 * x + 2609775640576 * q2 + q4 - q3 + 1754801623698) := by omega
    generalize (774312967922 * x + 2609775640576 * q2 + q4 - q3 + 1754801623698 : Int) = K at key
    clear e2 e3 e4
    omega
   ·exact ⟨2 ^ 20, by decide, h2⟩
  ·exact ⟨2 ^ 19, by decide, h1⟩
 ·exact ⟨0, by decide, h0⟩
/-- A small part. -/
def smP (p : S61) : Prop := 0 ≤ p.f0 ∧ p.f0 ≤ 300 ∧ p.f1.size ≤ 4 ∧ p.f2.size ≤ 300
theorem smP_add {l : List S61} {p : S61} (h : ∀ q ∈ l, smP q) (hp : smP p) : ∀ q ∈ l ++ [p], smP q := by
 intro q hq
 rcases List.mem_append.mp hq with hq | hq
 ·exact h q hq
 ·rw [List.mem_singleton.mp hq]; exact hp
theorem of_pick {c : List Int} {a s r a' s' : Int} {l : List ByteArray} (n : Nat) (hn : l.length = n) (M : Nat) (hM : ∀ x ∈ l, x.size ≤ M) (e : spec_l1Cur_pick.f c a s (n : Int) = some (r, a', s')) (h0 : 0 ≤ r) (h1 : r < n) : ∃ x : ByteArray, x.size ≤ M ∧ spec_l1Cur_of.f c a s l = some (x, a', s') := by
 subst hn
 unfold spec_l1Cur_of.f
 rw [e]
 simp only [Option.bind_some]
 rw [if_pos h0, if_pos h1]
 have hm : rdOf ByteArray.empty l r ∈ l := by
  unfold rdOf
  rw [List.getD_eq_getElem?_getD, List.getElem?_eq_getElem (by omega : r.toNat < l.length)]
  simp
 exact ⟨_, hM _ hm, rfl⟩
theorem opOn_tail {c : List Int} (hc : okCode c) (t : ByteArray) (ht : t.size ≤ 300) (x5 : List S61) (x6 : Nat) (h6 : t.size ≤ x6) (a s : Int) (h0 : 0 ≤ a) (h1 : a ≤ 2000000000000000000) (hl : x5.length ≤ 1000000000) (hp : ∀ q ∈ x5, smP q) :
  ∃ r a' s', r.length ≤ x5.length + 1 ∧ (∀ q ∈ r, smP q) ∧ a ≤ a' ∧ a' ≤ a + 4 ∧ ∃ K, ∀ k, K ≤ k → spec_l1Cur_opOn.l0 k t x5 (x6 : Int) c a s = some (r, a', s') := by
 obtain ⟨b, a1, s1, e1, q1, q2⟩ := one_ev hc a s 3 h0 (by omega) (by omega) (by omega)
 cases b with
 | false =>
  refine ⟨x5, a1, s1, by omega, hp, q1, by omega, 1, fun k hk => ?_⟩
  obtain ⟨k, rfl⟩ : ∃ m, k = m + 1 := ⟨k - 1, by omega⟩
  simp only [spec_l1Cur_opOn.l0]
  rw [if_neg (by omega), e1]
  simp
 | true =>
  obtain ⟨v, a2, s2, e2, _, g3, g4, g5⟩ := of_ev hc a1 s1 [(⟨#[101, 110, 100]⟩ : ByteArray), (⟨#[46]⟩ : ByteArray)] 4 (by omega) (by omega) (by decide) (by decide) (by decide)
  refine ⟨x5 ++ [(⟨0, v, (⟨#[]⟩ : ByteArray)⟩ : S61)], a2, s2, by simp, smP_add hp ⟨by show (0 : Int) ≤ 0; omega, by show (0 : Int) ≤ 300; omega, g3, by show (⟨#[]⟩ : ByteArray).size ≤ 300; decide⟩, by omega, by omega, 1, fun k hk => ?_⟩
  obtain ⟨k, rfl⟩ : ∃ m, k = m + 1 := ⟨k - 1, by omega⟩
  simp only [spec_l1Cur_opOn.l0]
  rw [if_neg (by omega), e1]
  simp only [Option.bind_some, if_true]
  rw [e2]
  simp only [Option.bind_some]
  rw [if_pos (by omega)]
theorem opOn_first {c : List Int} (t : ByteArray) (ht : t.size ≤ 300) (x5 : List S61) (x6 : Nat) (h6 : x6 < t.size) (a s r1 a1 s1 : Int)
  (e1 : spec_l1Cur_pick.f c a s 5 = some (r1, a1, s1)) (g1 : 0 ≤ r1) (g2 : r1 < 5) :
  ∃ n : Nat, 1 ≤ n ∧ x6 + n ≤ t.size ∧ n ≤ 300 ∧ ∀ k, spec_l1Cur_opOn.l0 (k + 1) t x5 (x6 : Int) c a s = spec_l1Cur_opOn.j1 k t x5 (x6 : Int) (n : Int) c a1 s1 := by
 have w1 : wrap64 (1 + r1) = 1 + r1 := w64 (by omega) (by omega)
 have w2 : wrap64 ((t.size : Int) - (x6 : Int)) = (t.size : Int) - (x6 : Int) := w64 (by omega) (by omega)
 have c0 : (x6 : Int) < (t.size : Int) := by omega
 by_cases c1 : 1 + r1 > (t.size : Int) - (x6 : Int)
 ·refine ⟨t.size - x6, by omega, by omega, by omega, fun k => ?_⟩
  have en : ((t.size - x6 : Nat) : Int) = (t.size : Int) - (x6 : Int) := by omega
  rw [en]
  simp only [spec_l1Cur_opOn.l0, if_pos c0, e1, Option.bind_some, w1, w2, if_pos c1]
 ·refine ⟨(1 + r1).toNat, by omega, by omega, by omega, fun k => ?_⟩
  have en : (((1 + r1).toNat : Nat) : Int) = 1 + r1 := by omega
  rw [en]
  simp only [spec_l1Cur_opOn.l0, if_pos c0, e1, Option.bind_some, w1, w2, if_neg c1]
theorem opOn_put {c : List Int} (t : ByteArray) (x5 : List S61) (hl : x5.length ≤ 1000000000) (x6 x7 a1 s1 a2 s2 r3 a3 s3 : Int)
  (e2 : spec_l1Cur_pick.f c a1 s1 4 = some (1, a2, s2)) (e3 : spec_l1Cur_pick.f c a2 s2 5 = some (r3, a3, s3)) (g3 : 0 ≤ r3) (g4 : r3 < 5) :
  ∃ p, smP p ∧ ∀ k, spec_l1Cur_opOn.j1 (k + 1) t x5 x6 x7 c a1 s1 = spec_l1Cur_opOn.l0 k t (x5 ++ [p]) x6 c a3 s3 := by
 obtain ⟨v, hv, ev⟩ := of_pick (l := [(⟨#[120]⟩ : ByteArray), (⟨#[121, 121]⟩ : ByteArray), (⟨#[65, 47]⟩ : ByteArray), (⟨#[110, 101, 119]⟩ : ByteArray), (⟨#[66]⟩ : ByteArray)]) 5 rfl 4 (by decide) e3 g3 g4
 have c1 : x5.length < 3518437208883 := by omega
 have n0 : ¬ ((1 : Int) = 0) := by omega
 refine ⟨⟨0, v, (⟨#[]⟩ : ByteArray)⟩, ⟨by show (0 : Int) ≤ 0; omega, by show (0 : Int) ≤ 300; omega, hv, by show (⟨#[]⟩ : ByteArray).size ≤ 300; decide⟩, fun k => ?_⟩
 simp only [spec_l1Cur_opOn.j1, e2, Option.bind_some, if_neg n0, if_true, ev]
 exact if_pos c1
theorem opOn_go {c : List Int} (t : ByteArray) (ht : t.size ≤ 300) (x5 : List S61) (hl : x5.length ≤ 1000000000) (x6 n : Nat) (n1 : x6 + n ≤ t.size) (a1 s1 r2 a2 s2 : Int)
  (e2 : spec_l1Cur_pick.f c a1 s1 4 = some (r2, a2, s2)) (hr : r2 ≠ 1) :
  ∃ p, smP p ∧ ∀ k, spec_l1Cur_opOn.j1 (k + 1) t x5 (x6 : Int) (n : Int) c a1 s1 = spec_l1Cur_opOn.l0 k t (x5 ++ [p]) ((x6 + n : Nat) : Int) c a2 s2 := by
 have w1 : wrap64 ((x6 : Int) + (n : Int)) = ((x6 + n : Nat) : Int) := by rw [w64 (by omega) (by omega)]; omega
 have c1 : x5.length < 3518437208883 := by omega
 have c2 : (0 : Int) ≤ (x6 : Int) := by omega
 have c3 : (x6 : Int) ≤ ((x6 + n : Nat) : Int) := by omega
 have c4 : ((x6 + n : Nat) : Int) ≤ (t.size : Int) := by omega
 by_cases h0 : r2 = 0
 ·refine ⟨⟨0, (⟨#[]⟩ : ByteArray), t.extract x6 (x6 + n)⟩, ⟨by show (0 : Int) ≤ 0; omega, by show (0 : Int) ≤ 300; omega, by show (⟨#[]⟩ : ByteArray).size ≤ 4; decide, by show (t.extract x6 (x6 + n)).size ≤ 300; have := ext_size t x6 (x6 + n); omega⟩, fun k => ?_⟩
  simp only [spec_l1Cur_opOn.j1, e2, Option.bind_some, if_pos h0, w1, if_pos c2, if_pos c3, if_pos c4, Int.toNat_natCast]
  exact if_pos c1
 ·refine ⟨⟨(n : Int), (⟨#[]⟩ : ByteArray), (⟨#[]⟩ : ByteArray)⟩, ⟨by show (0 : Int) ≤ (n : Int); omega, by show (n : Int) ≤ 300; omega, by show (⟨#[]⟩ : ByteArray).size ≤ 4; decide, by show (⟨#[]⟩ : ByteArray).size ≤ 300; decide⟩, fun k => ?_⟩
  simp only [spec_l1Cur_opOn.j1, e2, Option.bind_some, if_neg h0, if_neg hr, w1]
  exact if_pos c1
/-- One round of the drawing of a change. -/
theorem opOn_step {c : List Int} (t : ByteArray) (ht : t.size ≤ 300) (x5 : List S61) (hl : x5.length ≤ 1000000000) (x6 : Nat) (h6 : x6 < t.size) (a s r1 a1 s1 r2 a2 s2 : Int)
  (e1 : spec_l1Cur_pick.f c a s 5 = some (r1, a1, s1)) (g1 : 0 ≤ r1) (g2 : r1 < 5) (e2 : spec_l1Cur_pick.f c a1 s1 4 = some (r2, a2, s2)) :
  (r2 = 1 → ∀ r3 a3 s3 : Int, spec_l1Cur_pick.f c a2 s2 5 = some (r3, a3, s3) → 0 ≤ r3 → r3 < 5 → ∃ p, smP p ∧ ∀ k, spec_l1Cur_opOn.l0 (k + 2) t x5 (x6 : Int) c a s = spec_l1Cur_opOn.l0 k t (x5 ++ [p]) (x6 : Int) c a3 s3) ∧
  (r2 ≠ 1 → ∃ p n, smP p ∧ 1 ≤ n ∧ x6 + n ≤ t.size ∧ ∀ k, spec_l1Cur_opOn.l0 (k + 2) t x5 (x6 : Int) c a s = spec_l1Cur_opOn.l0 k t (x5 ++ [p]) ((x6 + n : Nat) : Int) c a2 s2) := by
 obtain ⟨n, n1, n2, n3, en⟩ := opOn_first t ht x5 x6 h6 a s r1 a1 s1 e1 g1 g2
 constructor
 ·intro hr r3 a3 s3 e3 g3 g4
  subst hr
  obtain ⟨p, p1, p2⟩ := opOn_put t x5 hl (x6 : Int) (n : Int) a1 s1 a2 s2 r3 a3 s3 e2 e3 g3 g4
  exact ⟨p, p1, fun k => (en (k + 1)).trans (p2 k)⟩
 ·intro hr
  obtain ⟨p, p1, p2⟩ := opOn_go t ht x5 hl x6 n n2 a1 s1 r2 a2 s2 e2 hr
  exact ⟨p, n, p1, n1, n2, fun k => (en (k + 1)).trans (p2 k)⟩
/-- Behind the code's end: every byte is left behind at last. -/
theorem opOn_end {c : List Int} (hc : okCode c) (t : ByteArray) (ht : t.size ≤ 300) : ∀ (m : Nat), m ≤ 300 → ∀ (x5 : List S61) (x6 : Nat) (a s : Int), t.size - x6 ≤ m → (c.length : Int) ≤ a → 0 ≤ a → a + (m : Int) * 4718600 ≤ 1900000000000000000 → x5.length + m * 1572870 ≤ 900000000 → (∀ q ∈ x5, smP q) →
  ∃ r a' s', r.length ≤ x5.length + m * 1572870 + 1 ∧ (∀ q ∈ r, smP q) ∧ a ≤ a' ∧ a' ≤ a + (m : Int) * 4718600 + 4 ∧ ∃ K, ∀ k, K ≤ k → spec_l1Cur_opOn.l0 k t x5 (x6 : Int) c a s = some (r, a', s') := by
 intro m
 induction m with
 | zero =>
  intro hm x5 x6 a s hx hla h0 h1 hl hp
  obtain ⟨r, a', s', g1, g2, g3, g4, g5⟩ := opOn_tail hc t ht x5 x6 (by omega) a s h0 (by omega) (by omega) hp
  exact ⟨r, a', s', by omega, g2, g3, by omega, g5⟩
 | succ m ih =>
  intro hm x5 x6 a s hx hla h0 h1 hl hp
  by_cases h6 : t.size ≤ x6
  ·obtain ⟨r, a', s', g1, g2, g3, g4, g5⟩ := opOn_tail hc t ht x5 x6 h6 a s h0 (by omega) (by omega) hp
   exact ⟨r, a', s', by omega, g2, g3, by omega, g5⟩
  ·have puts : ∀ (n : Nat) (x5 : List S61) (a s : Int), cls (itG n s) ≠ 1 → (c.length : Int) ≤ a → 0 ≤ a → a + (m : Int) * 4718600 + 3 * (n : Int) + 3 ≤ 1900000000000000000 → x5.length + m * 1572870 + n + 1 ≤ 900000000 → (∀ q ∈ x5, smP q) →
     ∃ r a' s', r.length ≤ x5.length + m * 1572870 + n + 2 ∧ (∀ q ∈ r, smP q) ∧ a ≤ a' ∧ a' ≤ a + (m : Int) * 4718600 + 3 * (n : Int) + 7 ∧ ∃ K, ∀ k, K ≤ k → spec_l1Cur_opOn.l0 k t x5 (x6 : Int) c a s = some (r, a', s') := by
    intro n
    induction n with
    | zero =>
     intro x5 a s hn hla h0 h1 hl hp
     have e1 := pick_end (c := c) a s 5 hla h0 (by omega) (by omega) (by omega)
     have e2 := pick_end (c := c) (a + 1) (F64 s) 4 (by omega) (by omega) (by omega) (by omega) (by omega)
     obtain ⟨_, hB⟩ := opOn_step t ht x5 (by omega) x6 (by omega) a s _ _ _ _ _ _ e1 (by omega) (by omega) e2
     have hn' : cls s ≠ 1 := hn
     obtain ⟨p, n, p1, p2, p3, p4⟩ := hB (by unfold cls at hn'; clear hB; omega)
     clear hB
     obtain ⟨r, a', s', g1, g2, g3, g4, K, g5⟩ := ih (by omega) (x5 ++ [p]) (x6 + n) (a + 1 + 1) (F64 (F64 s)) (by omega) (by omega) (by omega) (by omega) (by rw [List.length_append, List.length_singleton]; omega) (smP_add hp p1)
     rw [List.length_append, List.length_singleton] at g1
     refine ⟨r, a', s', by omega, g2, by omega, by omega, K + 2, fun k hk => ?_⟩
     obtain ⟨k, rfl⟩ : ∃ q, k = q + 2 := ⟨k - 2, by omega⟩
     rw [p4]
     exact g5 k (by omega)
    | succ n ihn =>
     intro x5 a s hn hla h0 h1 hl hp
     have e1 := pick_end (c := c) a s 5 hla h0 (by omega) (by omega) (by omega)
     have e2 := pick_end (c := c) (a + 1) (F64 s) 4 (by omega) (by omega) (by omega) (by omega) (by omega)
     have e3 := pick_end (c := c) (a + 1 + 1) (F64 (F64 s)) 5 (by omega) (by omega) (by omega) (by omega) (by omega)
     obtain ⟨hA, hB⟩ := opOn_step t ht x5 (by omega) x6 (by omega) a s _ _ _ _ _ _ e1 (by omega) (by omega) e2
     by_cases hr : F64 (F64 s) / 1099511627776 % 256 % 4 = 1
     ·obtain ⟨p, p1, p4⟩ := hA hr _ _ _ e3 (by clear hA hB; omega) (by clear hA hB; omega)
      clear hA hB
      obtain ⟨r, a', s', g1, g2, g3, g4, K, g5⟩ := ihn (x5 ++ [p]) (a + 1 + 1 + 1) (F64 (F64 (F64 s))) hn (by omega) (by omega) (by omega) (by rw [List.length_append, List.length_singleton]; omega) (smP_add hp p1)
      rw [List.length_append, List.length_singleton] at g1
      refine ⟨r, a', s', by omega, g2, by omega, by omega, K + 2, fun k hk => ?_⟩
      obtain ⟨k, rfl⟩ : ∃ q, k = q + 2 := ⟨k - 2, by omega⟩
      rw [p4]
      exact g5 k (by omega)
     ·obtain ⟨p, n', p1, p2, p3, p4⟩ := hB hr
      clear hA hB
      obtain ⟨r, a', s', g1, g2, g3, g4, K, g5⟩ := ih (by omega) (x5 ++ [p]) (x6 + n') (a + 1 + 1) (F64 (F64 s)) (by omega) (by omega) (by omega) (by omega) (by rw [List.length_append, List.length_singleton]; omega) (smP_add hp p1)
      rw [List.length_append, List.length_singleton] at g1
      refine ⟨r, a', s', by omega, g2, by omega, by omega, K + 2, fun k hk => ?_⟩
      obtain ⟨k, rfl⟩ : ∃ q, k = q + 2 := ⟨k - 2, by omega⟩
      rw [p4]
      exact g5 k (by omega)
   obtain ⟨n, hn, hn2⟩ := cls_soon s
   obtain ⟨r, a', s', g1, g2, g3, g4, g5⟩ := puts n x5 a s hn2 hla h0 (by omega) (by omega) hp
   exact ⟨r, a', s', by omega, g2, g3, by omega, g5⟩
/-- A drawn change: the draw ends. -/
theorem opOn_l {c : List Int} (hc : okCode c) (t : ByteArray) (ht : t.size ≤ 300) (B m : Nat) (hB : B = 471861001) (hm : m = 300) : ∀ (w : Nat), w ≤ 1048576 → ∀ (x5 : List S61) (x6 : Nat) (a s : Int), (c.length : Int) ≤ a + (w : Int) → 0 ≤ a → a + 3 * (w : Int) ≤ 1700000000000000000 → x5.length + w ≤ 100000000 → (∀ q ∈ x5, smP q) →
  ∃ r a' s', r.length ≤ x5.length + w + B ∧ (∀ q ∈ r, smP q) ∧ a ≤ a' ∧ a' ≤ a + 3 * (w : Int) + 1415580004 ∧ ∃ K, ∀ k, K ≤ k → spec_l1Cur_opOn.l0 k t x5 (x6 : Int) c a s = some (r, a', s') := by
 intro w
 induction w with
 | zero =>
  intro hw x5 x6 a s hla h0 h1 hl hp
  obtain ⟨r, a', s', g1, g2, g3, g4, g5⟩ := opOn_end hc t ht m (by omega) x5 x6 a s (by omega) (by omega) h0 (by omega) (by omega) hp
  exact ⟨r, a', s', by omega, g2, g3, by omega, g5⟩
 | succ w ih =>
  intro hw x5 x6 a s hla h0 h1 hl hp
  by_cases h6 : t.size ≤ x6
  ·obtain ⟨r, a', s', g1, g2, g3, g4, g5⟩ := opOn_tail hc t ht x5 x6 h6 a s h0 (by omega) (by omega) hp
   exact ⟨r, a', s', by omega, g2, g3, by omega, g5⟩
  ·obtain ⟨r1, s1, e1, u1, u2⟩ := pick_evR hc a s 5 h0 (by omega) (by omega) (by omega)
   obtain ⟨r2, s2, e2, u3, u4⟩ := pick_evR hc (a + 1) s1 4 (by omega) (by omega) (by omega) (by omega)
   obtain ⟨r3, s3, e3, u5, u6⟩ := pick_evR hc (a + 1 + 1) s2 5 (by omega) (by omega) (by omega) (by omega)
   obtain ⟨hA, hBB⟩ := opOn_step t ht x5 (by omega) x6 (by omega) a s _ _ _ _ _ _ e1 u1 u2 e2
   by_cases hr : r2 = 1
   ·obtain ⟨p, p1, p4⟩ := hA hr _ _ _ e3 u5 u6
    clear hA hBB
    obtain ⟨r, a', s', g1, g2, g3, g4, K, g5⟩ := ih (by omega) (x5 ++ [p]) x6 (a + 1 + 1 + 1) s3 (by omega) (by omega) (by omega) (by rw [List.length_append, List.length_singleton]; omega) (smP_add hp p1)
    rw [List.length_append, List.length_singleton] at g1
    refine ⟨r, a', s', by omega, g2, by omega, by omega, K + 2, fun k hk => ?_⟩
    obtain ⟨k, rfl⟩ : ∃ q, k = q + 2 := ⟨k - 2, by omega⟩
    rw [p4]
    exact g5 k (by omega)
   ·obtain ⟨p, n', p1, p2, p3, p4⟩ := hBB hr
    clear hA hBB
    obtain ⟨r, a', s', g1, g2, g3, g4, K, g5⟩ := ih (by omega) (x5 ++ [p]) (x6 + n') (a + 1 + 1) s2 (by omega) (by omega) (by omega) (by rw [List.length_append, List.length_singleton]; omega) (smP_add hp p1)
    rw [List.length_append, List.length_singleton] at g1
    refine ⟨r, a', s', by omega, g2, by omega, by omega, K + 2, fun k hk => ?_⟩
    obtain ⟨k, rfl⟩ : ∃ q, k = q + 2 := ⟨k - 2, by omega⟩
    rw [p4]
    exact g5 k (by omega)
theorem opOn_ev {c : List Int} (hc : okCode c) (hcl : c.length ≤ 1048576) (t : ByteArray) (ht : t.size ≤ 300) (a s : Int) (h0 : 0 ≤ a) (h1 : a ≤ 1600000000000000000) :
  ∃ r a' s', r.length ≤ 500000000 ∧ (∀ q ∈ r, smP q) ∧ a ≤ a' ∧ a' ≤ a + 2000000000 ∧ ∃ K, ∀ k, K ≤ k → spec_l1Cur_opOn.f k c a s t = some (r, a', s') := by
 obtain ⟨w, hw⟩ : ∃ w : Nat, w = 1048576 := ⟨_, rfl⟩
 obtain ⟨B, hB⟩ : ∃ w : Nat, w = 471861001 := ⟨_, rfl⟩
 obtain ⟨m, hm⟩ : ∃ w : Nat, w = 300 := ⟨_, rfl⟩
 have hn : ([] : List S61).length = 0 := rfl
 obtain ⟨r, a', s', g1, g2, g3, g4, K, g5⟩ := opOn_l hc t ht B m hB hm w (by omega) ([] : List S61) 0 a s (by omega) h0 (by omega) (by omega) (fun q hq => by cases hq)
 refine ⟨r, a', s', by omega, g2, g3, by omega, K, fun k hk => ?_⟩
 unfold spec_l1Cur_opOn.f
 exact g5 k hk

theorem plainText_ev2 {c : List Int} (hc : okCode c) (a s : Int) (h0 : 0 ≤ a) (h1 : a ≤ 1600000000000000000) :
  ∃ t' a' s', t'.size ≤ 300 ∧ a ≤ a' ∧ a' ≤ a + 2000000300 ∧ ∃ K, ∀ k, K ≤ k → spec_l1Cur_plainText.f k c a s = some (t', a', s') := by
 obtain ⟨t, a1, s1, g1, g2, g3, K, g4⟩ := doc_ev hc a s h0 (by omega)
 obtain ⟨K2, h2⟩ := spec_GoodText_ev t (by omega)
 have lit4 : ((⟨#[116, 101, 120, 116]⟩ : ByteArray)).size = 4 := rfl
 cases hg : textB t with
 | false =>
  refine ⟨(⟨#[116, 101, 120, 116]⟩ : ByteArray), a1, s1, by omega, by omega, by omega, max K K2, fun k hk => ?_⟩
  unfold spec_l1Cur_plainText.f
  rw [g4 k (by omega)]; simp only [Option.bind_some]
  rw [h2 k (by omega), hg]; simp only [Option.bind_some]
  rw [if_neg (by simp), if_neg (by omega)]
 | true =>
  by_cases c1 : (t.size : Int) > 40
  ·obtain ⟨r, a2, s2, e2, q1, q2⟩ := one_ev hc a1 s1 20 (by omega) (by omega) (by omega) (by omega)
   cases r with
   | true =>
    refine ⟨t, a2, s2, by have := textB_size hg; omega, by omega, by omega, max K K2, fun k hk => ?_⟩
    unfold spec_l1Cur_plainText.f
    rw [g4 k (by omega)]; simp only [Option.bind_some]
    rw [h2 k (by omega), hg]; simp only [Option.bind_some]
    rw [if_pos trivial, if_pos c1, e2]; simp
   | false =>
    have := ext_size t 0 40
    refine ⟨t.extract 0 40, a2, s2, by have := textB_size hg; omega, by omega, by omega, max K K2, fun k hk => ?_⟩
    unfold spec_l1Cur_plainText.f
    rw [g4 k (by omega)]; simp only [Option.bind_some]
    rw [h2 k (by omega), hg]; simp only [Option.bind_some]
    rw [if_pos trivial, if_pos c1, e2]; simp only [Option.bind_some]
    rw [if_neg (by simp), if_pos (by omega), if_pos (by omega)]
  ·refine ⟨t, a1, s1, by have := textB_size hg; omega, by omega, by omega, max K K2, fun k hk => ?_⟩
   unfold spec_l1Cur_plainText.f
   rw [g4 k (by omega)]; simp only [Option.bind_some]
   rw [h2 k (by omega), hg]; simp only [Option.bind_some]
   rw [if_pos trivial, if_neg c1]

theorem rd_T61_mem {l : List S61} (i : Nat) (h : i < l.length) : rd_T61 l (i : Int) ∈ l := by
 unfold rd_T61
 rw [Int.toNat_natCast, List.getD_eq_getElem?_getD, List.getElem?_eq_getElem h]
 simp
theorem le_pred {K k : Nat} (h : K + 1 ≤ k) : ∃ m, k = m + 1 ∧ K ≤ m := ⟨k - 1, by omega, by omega⟩
theorem wrap_succ (i : Nat) (h : i ≤ 500000000) : wrap64 ((i : Int) + 1) = ((i + 1 : Nat) : Int) := by rw [w64 (by omega) (by omega)]; omega
theorem wrap_nat (n : Nat) (h : n ≤ 1000) : wrap64 (n : Int) = (n : Int) := w64 (by omega) (by omega)
theorem ap_bad (x1 x6 : ByteArray) (L : List S61) (x9 i f0 : Int) (f1 f2 : ByteArray) (k : Nat) : spec_l3Apply.j1 (k + 1) x1 x6 x9 L (L.length : Int) i true f0 f1 f2 = some ((⟨#[]⟩ : ByteArray), false) := by
 simp only [spec_l3Apply.j1, if_true]
theorem ap_keep (x1 x6 : ByteArray) (L : List S61) (i n : Nat) (hi : i ≤ 500000000) (f0 : Int) (f1 f2 : ByteArray) (k : Nat) (h0 : f0 > 0) (hn : n ≤ x1.size) (h1 : x6.size + n + f1.size ≤ 200000000000) :
  spec_l3Apply.j1 (k + 1) x1 x6 (n : Int) L (L.length : Int) (i : Int) false f0 f1 f2 = spec_l3Apply.l0 k (x1.extract n x1.size) (x6 ++ x1.extract 0 n ++ f1) L (L.length : Int) ((i + 1 : Nat) : Int) := by
 have z1 : (x1.extract 0 n).size = n := by rw [ByteArray.size_extract]; omega
 have z3 : (x6 ++ x1.extract 0 n).size = x6.size + n := by rw [size_app, z1]
 have b0 : (0 : Int) ≤ (n : Int) := by omega
 have hle : (n : Int) ≤ (x1.size : Int) := by omega
 have wi := wrap_succ i hi
 simp only [spec_l3Apply.j1, Bool.false_eq_true, if_false, if_pos h0, if_pos b0, if_pos hle, Int.toNat_natCast, wi, z1, z3]
 clear wi
 rw [if_pos (by omega), if_pos (by omega)]
theorem ap_put (x1 x6 : ByteArray) (L : List S61) (i n : Nat) (hi : i ≤ 500000000) (f0 : Int) (f1 f2 : ByteArray) (k : Nat) (h0 : ¬ f0 > 0) (hn : n ≤ x1.size) (h1 : x6.size + n + f1.size ≤ 200000000000) :
  spec_l3Apply.j1 (k + 1) x1 x6 (n : Int) L (L.length : Int) (i : Int) false f0 f1 f2 = spec_l3Apply.l0 k (x1.extract n x1.size) (x6 ++ f1) L (L.length : Int) ((i + 1 : Nat) : Int) := by
 have b0 : (0 : Int) ≤ (n : Int) := by omega
 have hle : (n : Int) ≤ (x1.size : Int) := by omega
 have wi := wrap_succ i hi
 simp only [spec_l3Apply.j1, Bool.false_eq_true, if_false, if_neg h0, if_pos b0, if_pos hle, Int.toNat_natCast, wi]
 clear wi
 rw [if_pos (by omega)]
/-- One part of a change: what is looked at is one of two. -/
theorem ap_step (x1 x6 : ByteArray) (L : List S61) (i n : Nat) (p : S61) (hi : i < L.length) (eP : rd_T61 L (i : Int) = p) (hn : p.f0 + (p.f2.size : Int) = (n : Int)) (hn2 : n ≤ 1000) :
  ∃ b : Bool, (b = false → n ≤ x1.size) ∧ ∀ k, spec_l3Apply.l0 (k + 1) x1 x6 L (L.length : Int) (i : Int) = spec_l3Apply.j1 k x1 x6 (n : Int) L (L.length : Int) (i : Int) b p.f0 p.f1 p.f2 := by
 have c0 : (i : Int) < (L.length : Int) := by omega
 have c1 : (0 : Int) ≤ (i : Int) := by omega
 have b0 : (0 : Int) ≤ (n : Int) := by omega
 by_cases c2 : (n : Int) > (x1.size : Int)
 ·have wN := wrap_nat n hn2
  refine ⟨true, (fun h => by cases h), fun k => ?_⟩
  simp only [spec_l3Apply.l0, if_pos c0, if_pos c1, eP, hn, wN, if_pos c2]
 ·have c3 : (n : Int) ≤ (x1.size : Int) := by omega
  have c5 : n ≤ x1.size := by omega
  by_cases c4 : p.f2.toList = ([] : List UInt8)
  ·have wN := wrap_nat n hn2
   refine ⟨false, fun _ => c5, fun k => ?_⟩
   simp only [spec_l3Apply.l0, if_pos c0, if_pos c1, eP, hn, wN, if_neg c2, if_pos c4]
  ·have wN := wrap_nat n hn2
   refine ⟨((x1.extract 0 n).toList != p.f2.toList), fun _ => c5, fun k => ?_⟩
   simp only [spec_l3Apply.l0, if_pos c0, if_pos c1, eP, hn, wN, if_neg c2, if_neg c4, if_pos b0, if_pos c3, Int.toNat_natCast]
/-- A change of small parts laid on a text: whatever it says, it says it. -/
theorem l3Apply_e (L : List S61) (B : Nat) (hB : B = 100000000000) (hL : L.length ≤ 500000000) (hp : ∀ q ∈ L, smP q) : ∀ (d i : Nat) (x1 x6 : ByteArray), i + d = L.length → x1.size ≤ 300 → x6.size + x1.size + 4 * d ≤ B →
  ∃ r, r.1.size ≤ x6.size + x1.size + 4 * d ∧ ∃ K, ∀ k, K ≤ k → spec_l3Apply.l0 k x1 x6 L (L.length : Int) (i : Int) = some r := by
 intro d
 induction d with
 | zero =>
  intro i x1 x6 hi h1 h6
  have c0 : ¬ ((i : Int) < (L.length : Int)) := by omega
  refine ⟨(x6, (x1.toList == ([] : List UInt8))), by show x6.size ≤ _; omega, 0 + 1, fun k hk => ?_⟩
  obtain ⟨k, rfl, hk⟩ := le_pred hk
  simp only [spec_l3Apply.l0, if_neg c0]
 | succ d ih =>
  intro i x1 x6 hi h1 h6
  have hq := hp _ (rd_T61_mem i (by omega : i < L.length))
  generalize eP : rd_T61 L (i : Int) = p at hq
  obtain ⟨q1, q2, q3, q4⟩ := hq
  obtain ⟨n, hn⟩ := Int.eq_ofNat_of_zero_le (by omega : 0 ≤ p.f0 + (p.f2.size : Int))
  obtain ⟨b, hb, e⟩ := ap_step x1 x6 L i n p (by omega) eP hn (by omega)
  cases b with
  | true =>
   refine ⟨((⟨#[]⟩ : ByteArray), false), Nat.zero_le _, 1 + 1, fun k hk => ?_⟩
   obtain ⟨k, rfl, hk2⟩ := le_pred hk
   obtain ⟨k, rfl, hk3⟩ := le_pred (K := 0) hk2
   rw [e]
   exact ap_bad _ _ _ _ _ _ _ _ _
  | false =>
   have hle := hb rfl
   clear hb
   have z1 : (x1.extract 0 n).size = n := by rw [ByteArray.size_extract]; omega
   have z2 : (x1.extract n x1.size).size = x1.size - n := by rw [ByteArray.size_extract]; omega
   by_cases hk0 : p.f0 > 0
   ·have z4 : (x6 ++ x1.extract 0 n ++ p.f1).size = x6.size + n + p.f1.size := by rw [size_app, size_app, z1]
    obtain ⟨r, r1, K, r2⟩ := ih (i + 1) (x1.extract n x1.size) (x6 ++ x1.extract 0 n ++ p.f1) (by omega) (by omega) (by rw [z4, z2]; omega)
    rw [z4, z2] at r1
    have e2 := fun k => ap_keep x1 x6 L i n (by omega) p.f0 p.f1 p.f2 k hk0 hle (by omega)
    refine ⟨r, by omega, K + 1 + 1, fun k hk => ?_⟩
    obtain ⟨k, rfl, hk2⟩ := le_pred hk
    obtain ⟨k, rfl, hk3⟩ := le_pred hk2
    rw [e, e2]
    exact r2 k hk3
   ·have z5 : (x6 ++ p.f1).size = x6.size + p.f1.size := size_app _ _
    obtain ⟨r, r1, K, r2⟩ := ih (i + 1) (x1.extract n x1.size) (x6 ++ p.f1) (by omega) (by omega) (by rw [z5, z2]; omega)
    rw [z5, z2] at r1
    have e2 := fun k => ap_put x1 x6 L i n (by omega) p.f0 p.f1 p.f2 k hk0 hle (by omega)
    refine ⟨r, by omega, K + 1 + 1, fun k hk => ?_⟩
    obtain ⟨k, rfl, hk2⟩ := le_pred hk
    obtain ⟨k, rfl, hk3⟩ := le_pred hk2
    rw [e, e2]
    exact r2 k hk3
theorem changed_ev {c : List Int} (hc : okCode c) (hcl : c.length ≤ 1048576) (t : ByteArray) (ht : t.size ≤ 300) (a s : Int) (h0 : 0 ≤ a) (h1 : a ≤ 1600000000000000000) :
  ∃ r a' s', r.size ≤ 10000000000 ∧ a ≤ a' ∧ a' ≤ a + 2000000000 ∧ ∃ K, ∀ k, K ≤ k → spec_l1Cur_changed.f k c a s t = some (r, a', s') := by
 obtain ⟨L, a', s', g1, g2, g3, g4, K, g5⟩ := opOn_ev hc hcl t ht a s h0 h1
 have z0 : (⟨#[]⟩ : ByteArray).size = 0 := rfl
 obtain ⟨B, hB⟩ : ∃ w : Nat, w = 100000000000 := ⟨_, rfl⟩
 obtain ⟨r, r1, K2, r2⟩ := l3Apply_e L B hB g1 g2 L.length 0 t (⟨#[]⟩ : ByteArray) (by omega) ht (by rw [z0]; omega)
 rw [z0] at r1
 refine ⟨r.1, a', s', by omega, g3, g4, max K K2, fun k hk => ?_⟩
 have e2 : spec_l3Apply.f k L t = some r := by
  unfold spec_l3Apply.f
  exact r2 k (by omega)
 simp only [spec_l1Cur_changed.f, g5 k (by omega), Option.bind_some, e2]
theorem twoTexts_ev {c : List Int} (hc : okCode c) (hcl : c.length ≤ 1048576) (a s : Int) (h0 : 0 ≤ a) (h1 : a ≤ 1000000000000000000) :
  ∃ x y a' s', x.size ≤ 300 ∧ y.size ≤ 10000000000 ∧ a ≤ a' ∧ a' ≤ a + 10000000000 ∧ ∃ K, ∀ k, K ≤ k → spec_l1Cur_twoTexts.f k c a s = some (x, y, a', s') := by
 obtain ⟨x, a1, s1, p1, p2, p3, K1, p4⟩ := plainText_ev2 hc a s h0 (by omega)
 obtain ⟨r, a2, s2, e2, r1, r2, r3, r4⟩ := pick_ev hc a1 s1 4 (by omega) (by omega) (by omega) (by omega)
 by_cases c0 : r = 0
 ·obtain ⟨y, a3, s3, q1, q2, q3, K2, q4⟩ := plainText_ev2 hc a2 s2 (by omega) (by omega)
  refine ⟨x, y, a3, s3, p1, by omega, by omega, by omega, max K1 K2, fun k hk => ?_⟩
  simp only [spec_l1Cur_twoTexts.f, p4 k (by omega), Option.bind_some, e2, if_pos c0, q4 k (by omega)]
 ·by_cases c1 : r = 1
  ·refine ⟨x, x, a2, s2, p1, by omega, by omega, by omega, K1, fun k hk => ?_⟩
   simp only [spec_l1Cur_twoTexts.f, p4 k (by omega), Option.bind_some, e2, if_neg c0, if_pos c1]
  ·obtain ⟨y, a3, s3, q1, q2, q3, K2, q4⟩ := changed_ev hc hcl x p1 a2 s2 (by omega) (by omega)
   refine ⟨x, y, a3, s3, p1, by omega, by omega, by omega, max K1 K2, fun k hk => ?_⟩
   simp only [spec_l1Cur_twoTexts.f, p4 k (by omega), Option.bind_some, e2, if_neg c0, if_neg c1, q4 k (by omega)]

theorem drawDist_ev {c : List Int} (hc : okCode c) (hcl : c.length ≤ 1048576) : ∃ x y, x.size ≤ 300 ∧ y.size ≤ 10000000000 ∧ ∃ K, ∀ k, K ≤ k → spec_DrawDistanceOf.f k c = some (x, y) := by
 obtain ⟨x, y, a', s', h1, h2, _, _, K, h3⟩ := twoTexts_ev hc hcl 0 0 (by omega) (by omega)
 refine ⟨x, y, h1, h2, K, fun k hk => ?_⟩
 simp only [spec_DrawDistanceOf.f, h3 k hk, Option.bind_some]
theorem edits_ev (a b : ByteArray) (ha : a.size ≤ 140737488351232) (hb : b.size ≤ 140737488351232) : ∃ K, ∀ k, K ≤ k →
  impl_EditsOf.f k a b = some (if textB a && textB b then ((ed a b a.size b.size : Int), true) else (0, false)) ∧ spec_EditsOf.f k a b = some (if textB a && textB b then ((ed a b a.size b.size : Int), true) else (0, false)) := by
 obtain ⟨K3, h3⟩ := impl_areTexts_ev a b ha hb
 obtain ⟨K4, h4⟩ := spec_l9Texts_ev a b ha hb
 cases ht : textB a && textB b with
 | false =>
  refine ⟨max K3 K4, fun k hk => ?_⟩
  unfold impl_EditsOf.f spec_EditsOf.f
  rw [h3 k (by omega), h4 k (by omega), ht]
  simp only [Option.bind_some, Bool.false_eq_true, if_false, and_self]
 | true =>
  have ht' := ht
  simp only [Bool.and_eq_true] at ht'
  have hsa := textB_size ht'.1
  have hsb := textB_size ht'.2
  obtain ⟨K1, h1⟩ := impl_EditsOf_z a b hsa hsb (b.size + 1) 0 (List.replicate (b.size + 1) 0) (by omega) (by simp) (fun j h => by omega)
  obtain ⟨K2, h2⟩ := spec_EditsOf_z a b hsa hsb (b.size + 1) 0 (List.replicate (b.size + 1) 0) (by omega) (by simp) (fun j h => by omega)
  refine ⟨max (max K1 K2) (max K3 K4), fun k hk => ?_⟩
  have e1 := h1 k (by omega)
  have e2 := h2 k (by omega)
  unfold impl_EditsOf.f spec_EditsOf.f
  rw [h3 k (by omega), h4 k (by omega), ht]
  have e : ((b.size : Int) + 1).toNat = b.size + 1 := by omega
  have hw : wrap64 ((b.size : Int) + 1) = (b.size : Int) + 1 := w64 (by omega) (by omega)
  have hM : b.size + 1 ≤ 35184372088832 := by omega
  rw [hw]
  generalize (35184372088832 : Nat) = M at *
  simp only [Option.bind_some, if_true, e]
  refine ⟨?_, ?_⟩
  ·rw [if_pos (by omega), if_pos hM, List.length_replicate]; exact e1
  ·rw [if_pos (by omega), if_pos hM, List.length_replicate]; exact e2
theorem ed_zero_iff (a b : ByteArray) : ed a b a.size b.size = 0 ↔ (a.size = b.size ∧ ∀ j : Nat, j < a.size → bt a (j : Int) = bt b (j : Int)) := by
 rw [← ld_zero]
 have h := two_dist a b
 have r1 := lc_rest a b 0 0
 have r2 := lc_rest b a 0 0
 rw [lc_comm b a] at r2
 omega
theorem beq_of_iff {p : Bool} {n : Int} (h : n = 0 ↔ p = true) : ((n == 0) == p) = true := by
 rw [beq_iff_eq, Bool.eq_iff_iff, beq_iff_eq]; exact h
theorem metric_core (a b c : ByteArray) (ta : textB a = true) (tb : textB b = true) (tc : textB c = true) (D E : Int) (hD : D = (a.size : Int) + (b.size : Int) - 2 * (lc a b 0 0 : Int)) (hE : E = (ed a b a.size b.size : Int)) :
  ∃ K, ∀ k, K ≤ k → laws_FnMetric.j1 (k + 1) a b c D E false = some true := by
 have za := textB_size ta
 have zb := textB_size tb
 have zc := textB_size tc
 obtain ⟨K1, h1⟩ := impl_DistanceOf_ev b a (by omega) (by omega)
 obtain ⟨K2, h2⟩ := impl_DistanceOf_ev a c (by omega) (by omega)
 obtain ⟨K3, h3⟩ := impl_DistanceOf_ev c b (by omega) (by omega)
 obtain ⟨K4, h4⟩ := edits_ev b a (by omega) (by omega)
 obtain ⟨K5, h5⟩ := edits_ev a c (by omega) (by omega)
 obtain ⟨K6, h6⟩ := edits_ev c b (by omega) (by omega)
 refine ⟨K1 + K2 + K3 + K4 + K5 + K6, fun k hk => ?_⟩
 have e1 := h1 k (by omega)
 have e2 := h2 k (by omega)
 have e3 := h3 k (by omega)
 have e4 := (h4 k (by omega)).1
 have e5 := (h5 k (by omega)).1
 have e6 := (h6 k (by omega)).1
 clear h1 h2 h3 h4 h5 h6 hk
 rw [ta, tb] at e1 e4
 rw [ta, tc] at e2 e5
 rw [tc, tb] at e3 e6
 simp only [Bool.and_self, if_true] at e1 e2 e3 e4 e5 e6
 have t1 := lc_tri a c b _ 0 0 0 (Nat.le_refl _)
 have t2 := ed_tri a c b _ a.size c.size b.size (Nat.le_refl _)
 have t3 := two_dist a b
 have r1 := lc_rest a b 0 0
 have r2 := lc_rest a c 0 0
 have r3 := lc_rest c b 0 0
 have q1 := lc_rest b a 0 0
 rw [lc_comm b a] at q1
 have q2 := ed_le a b a.size b.size
 have q3 := ed_le a c a.size c.size
 have q4 := ed_le c b c.size b.size
 have z1 : (D = 0) ↔ (a.toList == b.toList) = true := by
  rw [beq_iff_eq, toList_eq_iff, ← ld_zero]; omega
 have z2 : (E = 0) ↔ (a.toList == b.toList) = true := by
  rw [beq_iff_eq, toList_eq_iff, ← ed_zero_iff]; omega
 rw [lc_comm b a] at e1
 rw [ed_comm b a _ b.size a.size (Nat.le_refl _)] at e4
 have f1 : (b.size : Int) + (a.size : Int) - 2 * (lc a b 0 0 : Int) = D := by omega
 rw [f1] at e1
 rw [← hE] at e4
 have w1 : Aside0 (wrap64 ((a.size : Int) + (c.size : Int) - 2 * (lc a c 0 0 : Int) + ((c.size : Int) + (b.size : Int) - 2 * (lc c b 0 0 : Int))) = (a.size : Int) + (c.size : Int) - 2 * (lc a c 0 0 : Int) + ((c.size : Int) + (b.size : Int) - 2 * (lc c b 0 0 : Int))) := ⟨w64 (by omega) (by omega)⟩
 have w2 : Aside0 (wrap64 ((ed a c a.size c.size : Int) + (ed c b c.size b.size : Int)) = (ed a c a.size c.size : Int) + (ed c b c.size b.size : Int)) := ⟨w64 (by omega) (by omega)⟩
 have w3 : Aside0 (wrap64 (2 * E) = 2 * E) := ⟨w64 (by omega) (by omega)⟩
 have b1 := beq_of_iff z1
 have b2 := beq_of_iff z2
 have c1 : D ≤ (a.size : Int) + (c.size : Int) - 2 * (lc a c 0 0 : Int) + ((c.size : Int) + (b.size : Int) - 2 * (lc c b 0 0 : Int)) := by omega
 have c2 : E ≤ (ed a c a.size c.size : Int) + (ed c b c.size b.size : Int) := by omega
 have c3 : E ≤ D := by omega
 have c4 : D ≤ 2 * E := by omega
 simp only [laws_FnMetric.j1, Bool.false_eq_true, if_false, e1, e2, e3, e4, e5, e6, Option.bind_some, if_true]
 rw [w1.out, w2.out, w3.out, if_pos b1, if_pos b2, if_pos c1, if_pos c2, if_pos c3, decide_eq_true c4]
theorem FnMetric : laws_FnMetric.Pure := by
 intro l m hl hb hw hl2 hb2 hw2
 have hc := okCode_of hw
 have hc2 := okCode_of hw2
 have hwr : wrap64 ((l.length : Int) + (m.length : Int)) = (l.length : Int) + (m.length : Int) := w64 (by omega) (by omega)
 by_cases hbig : (l.length : Int) + (m.length : Int) > 1048576
 ·refine ⟨0, ?_⟩
  unfold laws_FnMetric.f
  rw [hwr, if_pos hbig]
 ·obtain ⟨a, b, sa, sb, K1, h1⟩ := drawDist_ev hc (by omega)
  obtain ⟨c, c', sc, sc', K2, h2⟩ := drawDist_ev hc2 (by omega)
  obtain ⟨K3, h3⟩ := impl_DistanceOf_ev a b (by omega) (by omega)
  obtain ⟨K4, h4⟩ := spec_DistanceOf_ev a b (by omega) (by omega)
  obtain ⟨K5, h5⟩ := edits_ev a b (by omega) (by omega)
  obtain ⟨K6, h6⟩ := spec_GoodText_ev c (by omega)
  cases ht : textB a && textB b with
  | false =>
   refine ⟨K1 + K2 + K3 + K4 + K5 + K6 + 2, ?_⟩
   generalize hk : K1 + K2 + K3 + K4 + K5 + K6 = k
   have e1 := h1 (k + 2) (by omega)
   have e2 := h2 (k + 2) (by omega)
   have e3 := h3 (k + 2) (by omega)
   have e4 := h4 (k + 2) (by omega)
   have e5 := h5 (k + 2) (by omega)
   rw [ht] at e3 e4 e5
   simp only [Bool.false_eq_true, if_false] at e3 e4 e5
   clear h1 h2 h3 h4 h5 h6 hk
   unfold laws_FnMetric.f
   simp only [hwr, if_neg hbig, e1, Option.bind_some, spec_DrawEditsOf.f, e2, e3, e4, e5.1, e5.2, bne_self_eq_false, Bool.false_eq_true, if_false, if_true, laws_FnMetric.j0, laws_FnMetric.j1]
  | true =>
   have ht' := ht
   simp only [Bool.and_eq_true] at ht'
   obtain ⟨D, hD⟩ : ∃ D : Int, D = (a.size : Int) + (b.size : Int) - 2 * (lc a b 0 0 : Int) := ⟨_, rfl⟩
   obtain ⟨E, hE⟩ : ∃ E : Int, E = (ed a b a.size b.size : Int) := ⟨_, rfl⟩
   have core : ∃ K, ∀ k, K ≤ k → laws_FnMetric.j1 (k + 1) a b c D E (!(textB c)) = some true := by
    cases tc : textB c with
    | false => exact ⟨0, fun k _ => by simp only [Bool.not_false, laws_FnMetric.j1, if_true]⟩
    | true => exact metric_core a b c ht'.1 ht'.2 tc D E hD hE
   obtain ⟨K7, h7⟩ := core
   refine ⟨K1 + K2 + K3 + K4 + K5 + K6 + K7 + 2, ?_⟩
   generalize hk : K1 + K2 + K3 + K4 + K5 + K6 + K7 = k
   have e1 := h1 (k + 2) (by omega)
   have e2 := h2 (k + 2) (by omega)
   have e3 := h3 (k + 2) (by omega)
   have e4 := h4 (k + 2) (by omega)
   have e5 := h5 (k + 2) (by omega)
   have e6 := h6 (k + 1) (by omega)
   have e7 := h7 k (by omega)
   rw [ht] at e3 e4 e5
   simp only [if_true] at e3 e4 e5
   rw [← hD] at e3 e4
   rw [← hE] at e5
   clear h1 h2 h3 h4 h5 h6 h7 hk hD hE
   unfold laws_FnMetric.f
   simp only [hwr, if_neg hbig, e1, Option.bind_some, spec_DrawEditsOf.f, e2, e3, e4, e5.1, e5.2, bne_self_eq_false, Bool.false_eq_true, if_false, if_true, laws_FnMetric.j0, e6]
   exact e7

end Go.Proofs.Ytibedlbjkaikiaa.Pure
