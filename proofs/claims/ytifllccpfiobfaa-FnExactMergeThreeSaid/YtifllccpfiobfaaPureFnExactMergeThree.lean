/- MergeThree of the program answers as the reference, for all texts. -/
import Derived.Test.YtifllccpfiobfaaAFnExactMergeThreex15
set_option linter.unusedVariables false
set_option linter.unusedSimpArgs false
namespace Go.Proofs.Ytifllccpfiobfaa.Pure
open Go.RowKit Go.Proofs.Ytifllccpfiobfaa.AFnExactMergeThree Go.Proofs.YtifllccpfiobfaaW.PrintWords Go.Proofs.YtifllccpfiobfaaW.PrintLast Go.Proofs.YtifllccpfiobfaaW.PrintMore
theorem O_ {p : Prop} (h : p := by omega) : p := h
theorem bs_ : type_of% @Option.bind_some := @Option.bind_some
theorem tN_ : type_of% @Int.toNat_natCast := @Int.toNat_natCast
theorem zE_ : type_of% @ByteArray.size_extract := @ByteArray.size_extract
theorem zA_ : type_of% @ByteArray.size_append := @ByteArray.size_append
theorem lA_ : type_of% @List.length_append := @List.length_append
theorem lS_ : type_of% @List.length_singleton := @List.length_singleton
theorem ip_ : type_of% @if_pos := @if_pos
theorem iN_ : type_of% @if_neg := @if_neg
theorem lM_ : type_of% @List.length_map := @List.length_map

theorem w64 {i : Int} (h0 : -4611686018427387904 ≤ i) (h : i ≤ 4611686018427387904) : wrap64 i = i := by
 unfold wrap64; omega
def nmB (c : Int) : Bool := decide (65 ≤ c) && decide (c ≤ 70)
def plB (c : Int) : Bool := (decide (97 ≤ c) && decide (c ≤ 122)) || ((decide (48 ≤ c) && decide (c ≤ 57)) || (decide (c = 32) || (decide (c = 46) || decide (c = 44))))
def okB (c : Int) : Bool := nmB c || (plB c || decide (c = 47))
def okN (s : ByteArray) : Nat → Nat → Bool
 | 0, _ => true
 | d + 1, i => okB (bt s i) && okN s d (i + 1)
def textB (s : ByteArray) : Bool := okN s s.size 0 && decide (s.size ≤ 300)
theorem textB_size {s : ByteArray} (h : textB s = true) : s.size ≤ 300 := by
 unfold textB at h; simp at h; exact h.2
theorem impl_isName_eq (c : Int) : impl_isName.f c = some (nmB c) := by
 unfold impl_isName.f nmB
 by_cases h1 : c ≥ 65 <;> simp [h1] <;> omega
theorem impl_isPlain_eq (c : Int) : impl_isPlain.f c = some (plB c) := by
 unfold impl_isPlain.f plB
 by_cases h1 : 97 ≤ c <;> by_cases h2 : c ≤ 122 <;> by_cases h3 : 48 ≤ c <;> by_cases h4 : c ≤ 57 <;> by_cases h5 : c = 32 <;> by_cases h6 : c = 46 <;> simp [h1, h2, h3, h4, h5, h6] <;> rfl
theorem impl_GoodText_l (s : ByteArray) (hs : s.size ≤ 140737488351232) : ∀ (d i : Nat), i + d = s.size →
  ∃ K, ∀ k, K ≤ k → impl_GoodText.l0 k s (s.size : Int) (i : Int) = some (okN s d i && decide (s.size ≤ 300)) := by
 intro d
 induction d with
 | zero =>
  intro i hi
  refine ⟨1, fun k hk => ?_⟩
  obtain ⟨k, rfl⟩ : ∃ m, k = m + 1 := ⟨k - 1, O_⟩
  simp only [impl_GoodText.l0]
  rw [iN_ O_]
  simp [okN]
  omega
 | succ d ih =>
  intro i hi
  obtain ⟨K, hK⟩ := ih (i + 1) O_
  refine ⟨K + 1, fun k hk => ?_⟩
  obtain ⟨k, rfl⟩ : ∃ m, k = m + 1 := ⟨k - 1, O_⟩
  have hr := hK k O_
  simp only [impl_GoodText.l0]
  rw [ip_ O_, ip_ O_, ip_ O_, impl_isName_eq, bs_, impl_isPlain_eq, bs_, w64 O_ O_]
  have hc : ((i : Int) + 1) = ((i + 1 : Nat) : Int) := by omega
  rw [hc, hr]
  show _ = some ((okB (bt s i) && okN s d (i + 1)) && _)
  unfold okB
  cases nmB (bt s i) <;> cases plB (bt s i) <;> by_cases h : bt s i = 47 <;> simp [h]
theorem impl_GoodText_ev (s : ByteArray) (hs : s.size ≤ 140737488351232) : ∃ K, ∀ k, K ≤ k → impl_GoodText.f k s = some (textB s) := by
 obtain ⟨K, hK⟩ := impl_GoodText_l s hs s.size 0 O_
 exact ⟨K, fun k hk => by unfold impl_GoodText.f; exact hK k hk⟩
theorem spec_l1Open_eq (c : Int) : spec_l1Open.f c = some (nmB c) := by
 unfold spec_l1Open.f nmB
 by_cases h1 : c ≥ 65 <;> simp [h1] <;> omega
theorem spec_l1Plain_eq (c : Int) : spec_l1Plain.f c = some (plB c) := by
 unfold spec_l1Plain.f plB
 by_cases h1 : 97 ≤ c <;> by_cases h2 : c ≤ 122 <;> by_cases h3 : 48 ≤ c <;> by_cases h4 : c ≤ 57 <;> by_cases h5 : c = 32 <;> by_cases h6 : c = 46 <;> simp [h1, h2, h3, h4, h5, h6] <;> rfl
theorem spec_l1Text_l (s : ByteArray) (hs : s.size ≤ 140737488351232) : ∀ (d i : Nat), i + d = s.size →
  ∃ K, ∀ k, K ≤ k → spec_l1Text.l0 k s (i : Int) = some (okN s d i) := by
 intro d
 induction d with
 | zero =>
  intro i hi
  refine ⟨1, fun k hk => ?_⟩
  obtain ⟨k, rfl⟩ : ∃ m, k = m + 1 := ⟨k - 1, O_⟩
  simp only [spec_l1Text.l0]
  rw [iN_ O_]
  simp [okN]
 | succ d ih =>
  intro i hi
  obtain ⟨K, hK⟩ := ih (i + 1) O_
  refine ⟨K + 1, fun k hk => ?_⟩
  obtain ⟨k, rfl⟩ : ∃ m, k = m + 1 := ⟨k - 1, O_⟩
  have hr := hK k O_
  simp only [spec_l1Text.l0]
  rw [ip_ O_, ip_ O_, spec_l1Open_eq, bs_, spec_l1Plain_eq, bs_, w64 O_ O_]
  have hc : ((i : Int) + 1) = ((i + 1 : Nat) : Int) := by omega
  rw [hc, hr]
  show _ = some (okB (bt s i) && okN s d (i + 1))
  unfold okB
  cases nmB (bt s i) <;> cases plB (bt s i) <;> by_cases h : bt s i = 47 <;> simp [h]
theorem spec_GoodText_ev (s : ByteArray) (hs : s.size ≤ 140737488351232) : ∃ K, ∀ k, K ≤ k → spec_GoodText.f k s = some (textB s) := by
 obtain ⟨K, hK⟩ := spec_l1Text_l s hs s.size 0 O_
 refine ⟨K, fun k hk => ?_⟩
 have h := hK k hk
 unfold spec_GoodText.f spec_l1Text.f
 simp only [Int.cast_ofNat_Int] at h
 rw [h, bs_]
 unfold textB
 cases okN s s.size 0 <;> simp <;> omega
theorem impl_areTexts_ev (a b : ByteArray) (ha : a.size ≤ 140737488351232) (hb : b.size ≤ 140737488351232) : ∃ K, ∀ k, K ≤ k → impl_areTexts.f k a b = some (textB a && textB b) := by
 obtain ⟨K, hK⟩ := impl_GoodText_ev a ha
 obtain ⟨K', hK'⟩ := impl_GoodText_ev b hb
 refine ⟨max K K', fun k hk => ?_⟩
 have h1 := hK k O_
 have h2 := hK' k O_
 unfold impl_areTexts.f
 rw [h1, bs_, h2, bs_]
 cases textB a <;> simp
theorem spec_l9Texts_ev (a b : ByteArray) (ha : a.size ≤ 140737488351232) (hb : b.size ≤ 140737488351232) : ∃ K, ∀ k, K ≤ k → spec_l9Texts.f k a b = some (textB a && textB b) := by
 obtain ⟨K, hK⟩ := spec_GoodText_ev a ha
 obtain ⟨K', hK'⟩ := spec_GoodText_ev b hb
 refine ⟨max K K', fun k hk => ?_⟩
 have h1 := hK k O_
 have h2 := hK' k O_
 unfold spec_l9Texts.f
 rw [h1, bs_, h2, bs_]
 cases textB a <;> simp
def lcs : List Int → List Int → Nat
 | [], _ => 0
 | _ :: _, [] => 0
 | x :: xs, y :: ys => if x = y then lcs xs ys + 1 else max (lcs xs (y :: ys)) (lcs (x :: xs) ys)
termination_by xs ys => xs.length + ys.length
theorem lcs_nil (ys : List Int) : lcs [] ys = 0 := by rw [lcs]
theorem lcs_nil_right (xs : List Int) : lcs xs [] = 0 := by cases xs <;> rw [lcs]
theorem lcs_cons (x : Int) (xs : List Int) (y : Int) (ys : List Int) : lcs (x :: xs) (y :: ys) = if x = y then lcs xs ys + 1 else max (lcs xs (y :: ys)) (lcs (x :: xs) ys) := by rw [lcs]
theorem lcs_le : ∀ (n : Nat) (xs ys : List Int), xs.length + ys.length ≤ n → lcs xs ys ≤ xs.length := by
 intro n
 induction n with
 | zero =>
  intro xs ys h
  have : xs = [] := List.eq_nil_of_length_eq_zero O_
  subst this; rw [lcs_nil]; omega
 | succ n ih =>
  intro xs ys h
  cases xs with
  | nil => rw [lcs_nil]; omega
  | cons x xs =>
   cases ys with
   | nil => rw [lcs_nil_right]; omega
   | cons y ys =>
    rw [lcs_cons]
    simp only [List.length_cons] at *
    have h1 := ih xs ys O_
    have h2 := ih xs (y :: ys) (by simp only [List.length_cons]; omega)
    have h3 := ih (x :: xs) ys (by simp only [List.length_cons]; omega)
    simp only [List.length_cons] at h3
    split <;> omega
def BL (s : ByteArray) : List Int := (List.range s.size).map fun (i : Nat) => bt s (i : Int)
theorem BL_length (s : ByteArray) : (BL s).length = s.size := by unfold BL; simp
theorem BL_drop (s : ByteArray) (i : Nat) (h : i < s.size) : (BL s).drop i = bt s (i : Int) :: (BL s).drop (i + 1) := by
 rw [List.drop_eq_getElem_cons (by rw [BL_length]; exact h)]
 congr 1
 unfold BL; simp
theorem BL_drop_end (s : ByteArray) (i : Nat) (h : s.size ≤ i) : (BL s).drop i = [] := List.drop_of_length_le (by rw [BL_length]; exact h)
def lc (a b : ByteArray) (i j : Nat) : Nat := lcs ((BL a).drop i) ((BL b).drop j)
theorem lc_end_left (a b : ByteArray) (i j : Nat) (h : a.size ≤ i) : lc a b i j = 0 := by unfold lc; rw [BL_drop_end a i h, lcs_nil]
theorem lc_end_right (a b : ByteArray) (i j : Nat) (h : b.size ≤ j) : lc a b i j = 0 := by unfold lc; rw [BL_drop_end b j h, lcs_nil_right]
theorem lc_step (a b : ByteArray) (i j : Nat) (hi : i < a.size) (hj : j < b.size) : lc a b i j = if bt a (i : Int) = bt b (j : Int) then lc a b (i + 1) (j + 1) + 1 else max (lc a b (i + 1) j) (lc a b i (j + 1)) := by
 unfold lc
 rw [BL_drop a i hi, BL_drop b j hj, lcs_cons]
theorem lc_le (a b : ByteArray) (i j : Nat) : lc a b i j ≤ a.size := by
 have := lcs_le _ ((BL a).drop i) ((BL b).drop j) (Nat.le_refl _)
 unfold lc
 rw [List.length_drop, BL_length] at this
 omega
def RowIs (row : List Int) (n : Nat) (f : Nat → Nat) : Prop := row.length = n + 1 ∧ ∀ j : Nat, j ≤ n → rd row (j : Int) = (f j : Int)
def tbl (a b : ByteArray) : List (List Int) := (List.range (a.size + 1)).map fun i => (List.range (b.size + 1)).map fun j => (lc a b i j : Int)
theorem rd_get (l : List Int) (j : Nat) (h : j < l.length) : rd l (j : Int) = l[j] := by unfold rd; simp [List.getD, h]
theorem RowIs.eq {row : List Int} {n : Nat} {f : Nat → Nat} (h : RowIs row n f) : row = (List.range (n + 1)).map fun j => (f j : Int) := by
 apply List.ext_getElem
 ·simp [h.1]
 ·intro j h1 h2
  simp only [List.getElem_map, List.getElem_range]
  rw [← rd_get row j h1]; exact h.2 j (by have := h.1; omega)
theorem tbl_eq {a b : ByteArray} {t : List (List Int)} (hl : t.length = a.size + 1) (h : ∀ i : Nat, i ≤ a.size → RowIs (rd_L1 t (i : Int)) b.size (lc a b i)) : t = tbl a b := by
 unfold tbl
 apply List.ext_getElem
 ·simp [hl]
 ·intro i h1 h2
  simp only [List.getElem_map, List.getElem_range]
  rw [← (h i O_).eq]
  unfold rd_L1; simp [List.getD, h1]
theorem tbl_get (a b : ByteArray) (i j : Nat) (hi : i ≤ a.size) (hj : j ≤ b.size) : rd (rd_L1 (tbl a b) (i : Int)) (j : Int) = (lc a b i j : Int) := by
 unfold rd rd_L1 tbl
 simp [List.getD, (by omega : i < a.size + 1), (by omega : j < b.size + 1)]
theorem tbl_length (a b : ByteArray) : (tbl a b).length = a.size + 1 := by simp [tbl]
theorem tbl_row_length (a b : ByteArray) (i : Nat) (hi : i ≤ a.size) : (rd_L1 (tbl a b) (i : Int)).length = b.size + 1 := by
 unfold rd_L1 tbl
 simp [List.getD, (by omega : i < a.size + 1)]
theorem rdL_set {t : List (List Int)} {i : Nat} {v : List Int} (h : i < t.length) (j : Nat) : rd_L1 (t.set i v) (j : Int) = if j = i then v else rd_L1 t (j : Int) := by
 unfold rd_L1
 simp only [tN_, List.getD_eq_getElem?_getD]
 by_cases e : j = i
 ·subst e; simp [h]
 ·rw [List.getElem?_set_ne O_]; simp [e]
theorem rdR_set {bs : List Int} {i : Nat} {v : Int} (h : i < bs.length) (j : Nat) : rd (bs.set i v) (j : Int) = if j = i then v else rd bs (j : Int) := by
 unfold rd
 simp only [tN_, List.getD_eq_getElem?_getD]
 by_cases e : j = i
 ·subst e; simp [h]
 ·rw [List.getElem?_set_ne O_]; simp [e]
theorem RowIs.zeros (n : Nat) (f : Nat → Nat) (h : ∀ j, j ≤ n → f j = 0) : RowIs (List.replicate (n + 1) 0) n f := by
 refine ⟨by simp, fun j hj => ?_⟩
 rw [h j hj]; unfold rd
 simp [List.getD, (by omega : j < n + 1)]
theorem impl_common_in (a b : ByteArray) (ha : a.size ≤ 300) (hb : b.size ≤ 300) (i : Nat) (hi : i < a.size)
  (H : ∀ t : List (List Int), t.length = a.size + 1 → (∀ r : Nat, i ≤ r → r ≤ a.size → RowIs (rd_L1 t (r : Int)) b.size (lc a b r)) → ∃ K, ∀ k, K ≤ k → impl_common.l0 k a b t ((i : Int) - 1) = some (tbl a b)) :
  ∀ (d : Nat) (t : List (List Int)), d ≤ b.size → t.length = a.size + 1 → (∀ r : Nat, i < r → r ≤ a.size → RowIs (rd_L1 t (r : Int)) b.size (lc a b r)) →
   (rd_L1 t (i : Int)).length = b.size + 1 → (∀ j : Nat, d ≤ j → j ≤ b.size → rd (rd_L1 t (i : Int)) (j : Int) = (lc a b i j : Int)) →
   ∃ K, ∀ k, K ≤ k → impl_common.l1 k a b t (i : Int) ((d : Int) - 1) = some (tbl a b) := by
 intro d
 induction d with
 | zero =>
  intro t hd hl hr hlen hrow
  obtain ⟨K, hK⟩ := H t hl (fun r h1 h2 => by
   by_cases e : r = i
   ·subst e; exact ⟨hlen, fun j hj => hrow j O_ hj⟩
   ·exact hr r O_ h2)
  refine ⟨K + 1, fun k hk => ?_⟩
  obtain ⟨k, rfl⟩ : ∃ m, k = m + 1 := ⟨k - 1, O_⟩
  simp only [impl_common.l1]
  simp (disch := omega) only [w64, iN_]
  exact hK k O_
 | succ d ih =>
  intro t hd hl hr hlen hrow
  have hnext := hr (i + 1) O_ O_
  have hs := lc_step a b i d hi O_
  have hle1 := lc_le a b (i + 1) (d + 1)
  have hnl := hnext.1
  have hv1 := hnext.2 (d + 1) O_
  have hv2 := hnext.2 d O_
  have hv3 := hrow (d + 1) O_ O_
  have c1 : ((i + 1 : Nat) : Int) = (i : Int) + 1 := by omega
  have c2 : ((d + 1 : Nat) : Int) = (d : Int) + 1 := by omega
  rw [c1] at hnl hv1 hv2
  rw [c2] at hv1 hv3
  obtain ⟨K, hK⟩ := ih (t.set i ((rd_L1 t (i : Int)).set d (lc a b i d : Int))) O_ (by simpa using hl)
   (fun r h1 h2 => by rw [rdL_set O_, iN_ O_]; exact hr r h1 h2)
   (by rw [rdL_set O_, ip_ rfl, List.length_set]; exact hlen)
   (fun j h1 h2 => by
    rw [rdL_set O_, ip_ rfl, rdR_set O_]
    by_cases e : j = d
    ·rw [ip_ e, e]
    ·rw [iN_ e]; exact hrow j O_ h2)
  refine ⟨K + 1, fun k hk => ?_⟩
  obtain ⟨k, rfl⟩ : ∃ m, k = m + 1 := ⟨k - 1, O_⟩
  have hk' := hK k O_
  simp only [impl_common.l1]
  rw [c2]
  simp only [Int.add_sub_cancel]
  by_cases c : bt a (i : Int) = bt b (d : Int)
  ·rw [ip_ c] at hs
   have hs' : (lc a b i d : Int) = (lc a b (i + 1) (d + 1) : Int) + 1 := by omega
   rw [hs'] at hk'
   simp (disch := omega) only [w64, ip_, tN_, hv1]
   exact hk'
  ·rw [iN_ c] at hs
   have hs' : mx (lc a b (i + 1) d : Int) (lc a b i (d + 1) : Int) = (lc a b i d : Int) := by unfold mx; omega
   simp (disch := omega) only [w64, ip_, iN_, tN_, hv2, hv3, hs']
   exact hk'
theorem impl_common_out (a b : ByteArray) (ha : a.size ≤ 300) (hb : b.size ≤ 300) : ∀ (e : Nat) (t : List (List Int)), e ≤ a.size → t.length = a.size + 1 →
  (∀ r : Nat, e ≤ r → r ≤ a.size → RowIs (rd_L1 t (r : Int)) b.size (lc a b r)) → ∃ K, ∀ k, K ≤ k → impl_common.l0 k a b t ((e : Int) - 1) = some (tbl a b) := by
 intro e
 induction e with
 | zero =>
  intro t he hl hr
  refine ⟨1, fun k hk => ?_⟩
  obtain ⟨k, rfl⟩ : ∃ m, k = m + 1 := ⟨k - 1, O_⟩
  simp only [impl_common.l0]
  rw [iN_ O_, tbl_eq hl (fun i hi => hr i O_ hi)]
 | succ e ih =>
  intro t he hl hr
  obtain ⟨K, hK⟩ := impl_common_in a b ha hb e O_ (fun t h1 h2 => ih t O_ h1 h2) b.size (t.set e (List.replicate (b.size + 1) 0)) O_ (by simpa using hl)
   (fun r h1 h2 => by rw [rdL_set O_, iN_ O_]; exact hr r h1 h2)
   (by rw [rdL_set O_, ip_ rfl, List.length_replicate])
   (fun j h1 h2 => by
    rw [rdL_set O_, ip_ rfl, lc_end_right a b e j h1]
    unfold rd; simp [List.getD, (by omega : j < b.size + 1)])
  refine ⟨K + 1, fun k hk => ?_⟩
  obtain ⟨k, rfl⟩ : ∃ m, k = m + 1 := ⟨k - 1, O_⟩
  have hk' := hK k O_
  simp only [impl_common.l0]
  rw [show ((e + 1 : Nat) : Int) - 1 = (e : Int) by omega]
  simp (disch := omega) only [w64, ip_, tN_]
  exact hk'
theorem impl_common_ev (a b : ByteArray) (ha : a.size ≤ 300) (hb : b.size ≤ 300) : ∃ K, ∀ k, K ≤ k → impl_common.f k a b = some (tbl a b) := by
 obtain ⟨K, hK⟩ := impl_common_out a b ha hb a.size ((List.replicate (a.size + 1) ([] : List Int)).set a.size (List.replicate (b.size + 1) 0)) O_ (by simp)
  (fun r h1 h2 => by
   have : r = a.size := by omega
   subst this
   rw [rdL_set (by simp), ip_ rfl]
   exact RowIs.zeros _ _ (fun j _ => lc_end_left a b _ j O_))
 refine ⟨K, fun k hk => ?_⟩
 have := hK k hk
 unfold impl_common.f
 simp (disch := omega) only [w64, ip_, bs_]
 have e1 : ((b.size : Int) + 1).toNat = b.size + 1 := by omega
 have e2 : ((a.size : Int) + 1).toNat = a.size + 1 := by omega
 simp only [e1, e2, List.length_replicate, tN_]
 rw [ip_ O_]
 exact this
theorem spec_l9Table_in (a b : ByteArray) (ha : a.size ≤ 300) (hb : b.size ≤ 300) (i : Nat) (hi : i < a.size)
  (H : ∀ t : List (List Int), t.length = a.size + 1 → (∀ r : Nat, i ≤ r → r ≤ a.size → RowIs (rd_L1 t (r : Int)) b.size (lc a b r)) → (∀ r : Nat, r < i → rd_L1 t (r : Int) = List.replicate (b.size + 1) 0) →
   ∃ K, ∀ k, K ≤ k → spec_l9Table.l1 k a b t ((i : Int) - 1) = some (tbl a b)) :
  ∀ (d : Nat) (t : List (List Int)), d ≤ b.size → t.length = a.size + 1 → (∀ r : Nat, i < r → r ≤ a.size → RowIs (rd_L1 t (r : Int)) b.size (lc a b r)) → (∀ r : Nat, r < i → rd_L1 t (r : Int) = List.replicate (b.size + 1) 0) →
   (rd_L1 t (i : Int)).length = b.size + 1 → (∀ j : Nat, d ≤ j → j ≤ b.size → rd (rd_L1 t (i : Int)) (j : Int) = (lc a b i j : Int)) →
   ∃ K, ∀ k, K ≤ k → spec_l9Table.l2 k a b t (i : Int) ((d : Int) - 1) = some (tbl a b) := by
 intro d
 induction d with
 | zero =>
  intro t hd hl hr hz hlen hrow
  obtain ⟨K, hK⟩ := H t hl (fun r h1 h2 => by
   by_cases e : r = i
   ·subst e; exact ⟨hlen, fun j hj => hrow j O_ hj⟩
   ·exact hr r O_ h2) hz
  refine ⟨K + 1, fun k hk => ?_⟩
  obtain ⟨k, rfl⟩ : ∃ m, k = m + 1 := ⟨k - 1, O_⟩
  simp only [spec_l9Table.l2]
  simp (disch := omega) only [w64, iN_]
  exact hK k O_
 | succ d ih =>
  intro t hd hl hr hz hlen hrow
  have hnext := hr (i + 1) O_ O_
  have hs := lc_step a b i d hi O_
  have hle1 := lc_le a b (i + 1) (d + 1)
  have hnl := hnext.1
  have hv1 := hnext.2 (d + 1) O_
  have hv2 := hnext.2 d O_
  have hv3 := hrow (d + 1) O_ O_
  have c1 : ((i + 1 : Nat) : Int) = (i : Int) + 1 := by omega
  have c2 : ((d + 1 : Nat) : Int) = (d : Int) + 1 := by omega
  rw [c1] at hnl hv1 hv2
  rw [c2] at hv1 hv3
  obtain ⟨K, hK⟩ := ih (t.set i ((rd_L1 t (i : Int)).set d (lc a b i d : Int))) O_ (by simpa using hl)
   (fun r h1 h2 => by rw [rdL_set O_, iN_ O_]; exact hr r h1 h2)
   (fun r h1 => by rw [rdL_set O_, iN_ O_]; exact hz r h1)
   (by rw [rdL_set O_, ip_ rfl, List.length_set]; exact hlen)
   (fun j h1 h2 => by
    rw [rdL_set O_, ip_ rfl, rdR_set O_]
    by_cases e : j = d
    ·rw [ip_ e, e]
    ·rw [iN_ e]; exact hrow j O_ h2)
  refine ⟨K + 1, fun k hk => ?_⟩
  obtain ⟨k, rfl⟩ : ∃ m, k = m + 1 := ⟨k - 1, O_⟩
  have hk' := hK k O_
  simp only [spec_l9Table.l2]
  rw [c2]
  simp only [Int.add_sub_cancel]
  by_cases c : bt a (i : Int) = bt b (d : Int)
  ·rw [ip_ c] at hs
   have hs' : (lc a b i d : Int) = (lc a b (i + 1) (d + 1) : Int) + 1 := by omega
   rw [hs'] at hk'
   simp (disch := omega) only [w64, ip_, tN_, hv1]
   exact hk'
  ·rw [iN_ c] at hs
   by_cases g : (lc a b (i + 1) d : Int) ≥ (lc a b i (d + 1) : Int)
   ·have hs' : (lc a b i d : Int) = (lc a b (i + 1) d : Int) := by omega
    rw [hs'] at hk'
    simp (disch := omega) only [w64, ip_, iN_, tN_, hv2, hv3]
    exact hk'
   ·have hs' : (lc a b i d : Int) = (lc a b i (d + 1) : Int) := by omega
    rw [hs'] at hk'
    simp (disch := omega) only [w64, ip_, iN_, tN_, hv2, hv3]
    exact hk'
theorem spec_l9Table_out (a b : ByteArray) (ha : a.size ≤ 300) (hb : b.size ≤ 300) : ∀ (e : Nat) (t : List (List Int)), e ≤ a.size → t.length = a.size + 1 →
  (∀ r : Nat, e ≤ r → r ≤ a.size → RowIs (rd_L1 t (r : Int)) b.size (lc a b r)) → (∀ r : Nat, r < e → rd_L1 t (r : Int) = List.replicate (b.size + 1) 0) → ∃ K, ∀ k, K ≤ k → spec_l9Table.l1 k a b t ((e : Int) - 1) = some (tbl a b) := by
 intro e
 induction e with
 | zero =>
  intro t he hl hr hz
  refine ⟨1, fun k hk => ?_⟩
  obtain ⟨k, rfl⟩ : ∃ m, k = m + 1 := ⟨k - 1, O_⟩
  simp only [spec_l9Table.l1]
  rw [iN_ O_, tbl_eq hl (fun i hi => hr i O_ hi)]
 | succ e ih =>
  intro t he hl hr hz
  obtain ⟨K, hK⟩ := spec_l9Table_in a b ha hb e O_ (fun t h1 h2 h3 => ih t O_ h1 h2 h3) b.size t O_ hl
   (fun r h1 h2 => hr r O_ h2) (fun r h1 => hz r O_)
   (by rw [hz e O_, List.length_replicate])
   (fun j h1 h2 => by
    rw [hz e O_, lc_end_right a b e j h1]
    unfold rd; simp [List.getD, (by omega : j < b.size + 1)])
  refine ⟨K + 1, fun k hk => ?_⟩
  obtain ⟨k, rfl⟩ : ∃ m, k = m + 1 := ⟨k - 1, O_⟩
  have hk' := hK k O_
  simp only [spec_l9Table.l1]
  rw [show ((e + 1 : Nat) : Int) - 1 = (e : Int) by omega]
  simp (disch := omega) only [w64, ip_, tN_]
  exact hk'
theorem spec_l9Table_z (a b : ByteArray) (ha : a.size ≤ 300) (hb : b.size ≤ 300) : ∀ (d i : Nat) (t : List (List Int)), i + d = a.size + 1 → t.length = a.size + 1 →
  (∀ r : Nat, r < i → rd_L1 t (r : Int) = List.replicate (b.size + 1) 0) → ∃ K, ∀ k, K ≤ k → spec_l9Table.l0 k a b t ((a.size + 1 : Nat) : Int) (i : Int) = some (tbl a b) := by
 intro d
 induction d with
 | zero =>
  intro i t hi hl hz
  obtain ⟨K, hK⟩ := spec_l9Table_out a b ha hb a.size t O_ hl
   (fun r h1 h2 => by rw [hz r O_]; exact RowIs.zeros _ _ (fun j _ => lc_end_left a b _ j O_)) (fun r h1 => hz r O_)
  refine ⟨K + 1, fun k hk => ?_⟩
  obtain ⟨k, rfl⟩ : ∃ m, k = m + 1 := ⟨k - 1, O_⟩
  have hk' := hK k O_
  simp only [spec_l9Table.l0]
  simp (disch := omega) only [w64, iN_]
  exact hk'
 | succ d ih =>
  intro i t hi hl hz
  obtain ⟨K, hK⟩ := ih (i + 1) (t.set i (List.replicate (b.size + 1) 0)) O_ (by simpa using hl) (fun r h1 => by
   rw [rdL_set O_]
   by_cases e : r = i
   ·rw [ip_ e]
   ·rw [iN_ e]; exact hz r O_)
  refine ⟨K + 1, fun k hk => ?_⟩
  obtain ⟨k, rfl⟩ : ∃ m, k = m + 1 := ⟨k - 1, O_⟩
  have hk' := hK k O_
  simp only [spec_l9Table.l0]
  simp (disch := omega) only [w64, ip_, tN_]
  have e1 : ((b.size : Int) + 1).toNat = b.size + 1 := by omega
  simp only [e1]
  rw [show (i : Int) + 1 = ((i + 1 : Nat) : Int) by omega]
  exact hk'
theorem spec_l9Table_ev (a b : ByteArray) (ha : a.size ≤ 300) (hb : b.size ≤ 300) : ∃ K, ∀ k, K ≤ k → spec_l9Table.f k a b = some (tbl a b) := by
 obtain ⟨K, hK⟩ := spec_l9Table_z a b ha hb (a.size + 1) 0 (List.replicate (a.size + 1) ([] : List Int)) O_ (by simp) (fun r h => by omega)
 refine ⟨K, fun k hk => ?_⟩
 have := hK k hk
 unfold spec_l9Table.f
 simp (disch := omega) only [w64, ip_, bs_]
 have e2 : ((a.size : Int) + 1).toNat = a.size + 1 := by omega
 simp only [e2, List.length_replicate]
 exact this
theorem toList_data (s : ByteArray) : s.toList = s.data.toList := by
 have h : ∀ (n i : Nat) (r : List UInt8), s.size - i = n → ByteArray.toList.loop s i r = r.reverse ++ s.data.toList.drop i := by
  intro n
  induction n with
  | zero =>
   intro i r h
   unfold ByteArray.toList.loop
   rw [iN_ O_, List.drop_of_length_le (by rw [Array.length_toList]; show s.size ≤ i; omega)]; simp
  | succ n ih =>
   intro i r h
   have hi : i < s.size := by omega
   unfold ByteArray.toList.loop
   have e2 : s.data.toList.drop i = s.data.toList[i]'(by rw [Array.length_toList]; exact hi) :: s.data.toList.drop (i + 1) := List.drop_eq_getElem_cons (by rw [Array.length_toList]; exact hi)
   have e : s.get! i = s.data.toList[i]'(by rw [Array.length_toList]; exact hi) := by
    show s.data[i]! = _
    rw [getElem!_pos s.data i hi]; simp
   rw [ip_ hi, ih (i + 1) _ O_, e2, e, List.reverse_cons, List.append_assoc]; rfl
 unfold ByteArray.toList
 rw [h s.size 0 [] O_]; simp
theorem bt_data (s : ByteArray) (i : Nat) (h : i < s.size) : bt s (i : Int) = ((s.data.toList[i]'(by rw [Array.length_toList]; exact h)).toNat : Int) := by
 unfold bt
 rw [dif_pos O_]
 simp [ByteArray.getElem_eq_getElem_data]
theorem toList_eq_iff (a b : ByteArray) : a.toList = b.toList ↔ a.size = b.size ∧ ∀ j : Nat, j < a.size → bt a (j : Int) = bt b (j : Int) := by
 rw [toList_data, toList_data]
 constructor
 ·intro h
  have hl : a.size = b.size := by
   have := congrArg List.length h
   rw [Array.length_toList, Array.length_toList] at this; exact this
  refine ⟨hl, fun j hj => ?_⟩
  rw [bt_data a j hj, bt_data b j O_]
  simp only [h]
 ·intro ⟨hl, h⟩
  apply List.ext_getElem
  ·rw [Array.length_toList, Array.length_toList]; exact hl
  ·intro j h1 h2
   rw [Array.length_toList] at h1 h2
   have := h j h1
   rw [bt_data a j h1, bt_data b j h2] at this
   have h3 : (a.data.toList[j]'(by rw [Array.length_toList]; exact h1)).toNat = (b.data.toList[j]'(by rw [Array.length_toList]; exact h2)).toNat := by omega
   exact UInt8.toNat_inj.mp h3
theorem bt_extract (s : ByteArray) (i j n : Nat) (hj : j ≤ s.size) (hn : i + n < j) : bt (s.extract i j) (n : Int) = bt s ((i + n : Nat) : Int) := by
 have h1 : n < (s.extract i j).size := by rw [zE_]; omega
 unfold bt
 rw [dif_pos (by simpa using h1), dif_pos O_]
 simp only [tN_, ByteArray.getElem_extract]
def small (x : S44) : Prop := x.f1.size ≤ 140737488351232 ∧ x.f2.size ≤ 140737488351232
def smallL (l : List S44) : Prop := l.length ≤ 3518437208780 ∧ ∀ x ∈ l, small x
theorem small_z : small z44 := ⟨by decide, by decide⟩
theorem small_rd {l : List S44} (h : smallL l) (i : Int) : small (rd_T44 l i) := by
 unfold rd_T44
 rw [List.getD_eq_getElem?_getD]
 cases e : l[i.toNat]? with
 | none => exact small_z
 | some x => exact h.2 x (List.mem_of_getElem? e)
def partB (a : Int) (b c : ByteArray) : Bool :=
 if a = 0 then (if b.toList = [] then (if c.toList = [] then false else textB c) else (if c.toList = [] then textB b else false))
 else (decide (1 ≤ a) && decide (a ≤ 300)) && (if b.toList = [] then c.toList == [] else false)
def pN (l : List S44) : Nat → Nat → Bool
 | 0, _ => true
 | d + 1, i => partB (rd_T44 l (i : Int)).f0 (rd_T44 l (i : Int)).f1 (rd_T44 l (i : Int)).f2 && pN l d (i + 1)
def sizesB (r : Int × Int) : Bool := if r.1 ≤ 300 then decide (r.2 ≤ 300) else false
theorem spec_l3Part_ev (a : Int) (b c : ByteArray) (hb : b.size ≤ 140737488351232) (hc : c.size ≤ 140737488351232) : ∃ K, ∀ k, K ≤ k → spec_l3Part.f k a b c = some (partB a b c) := by
 obtain ⟨K1, h1⟩ := spec_GoodText_ev b hb
 obtain ⟨K2, h2⟩ := spec_GoodText_ev c hc
 refine ⟨K1 + K2, fun k hk => ?_⟩
 unfold spec_l3Part.f partB spec_l1In.f
 rw [h1 k O_, h2 k O_]
 by_cases e0 : a = 0
 ·simp only [ip_ e0, bs_]
  by_cases e1 : b.toList = [] <;> by_cases e2 : c.toList = [] <;> simp [e1, e2]
 ·simp only [iN_ e0]
  by_cases e1 : a ≥ 1
  ·by_cases e2 : a ≤ 300
   ·simp only [ip_ e1, bs_, decide_eq_true e2, ip_, decide_eq_true e1, Bool.and_self, Bool.true_and]
    by_cases e3 : b.toList = [] <;> simp [e3]
   ·simp [e1, e2]
  ·simp only [iN_ e1, bs_]
   simp
   intro h
   omega
theorem spec_sizes_l (l : List S44) (hl : l.length ≤ 3518437208780) : ∀ (d i : Nat), i + d = l.length → ∀ a b : Int, ∃ r K, ∀ k, K ≤ k → spec_l3Sizes.l0 k a b l (l.length : Int) (i : Int) = some r := by
 intro d
 induction d with
 | zero =>
  intro i hi a b
  refine ⟨(a, b), 1, fun k hk => ?_⟩
  obtain ⟨k, rfl⟩ : ∃ m, k = m + 1 := ⟨k - 1, O_⟩
  simp only [spec_l3Sizes.l0]
  rw [iN_ O_]
 | succ d ih =>
  intro i hi a b
  obtain ⟨r, K, hK⟩ := ih (i + 1) O_ (wrap64 (a + (wrap64 (((rd_T44 l (i : Int)).f0) + (((rd_T44 l (i : Int)).f2).size : Int))))) (wrap64 (b + (wrap64 (((rd_T44 l (i : Int)).f0) + (((rd_T44 l (i : Int)).f1).size : Int)))))
  refine ⟨r, K + 1, fun k hk => ?_⟩
  obtain ⟨k, rfl⟩ : ∃ m, k = m + 1 := ⟨k - 1, O_⟩
  have hr := hK k O_
  simp only [spec_l3Sizes.l0]
  rw [ip_ O_, ip_ O_, ip_ O_, w64 (i := (i : Int) + 1) O_ O_]
  exact hr
theorem spec_sizes_ev (l : List S44) (hl : l.length ≤ 3518437208780) : ∃ r K, ∀ k, K ≤ k → spec_l3Sizes.f k l = some r :=
 spec_sizes_l l hl l.length 0 O_ 0 0
theorem spec_GoodOp_l (l : List S44) (hl : smallL l) (r : Int × Int) (K0 : Nat) (h0 : ∀ k, K0 ≤ k → spec_l3Sizes.f k l = some r) : ∀ (d i : Nat), i + d = l.length → ∃ K, ∀ k, K ≤ k → spec_GoodOp.l0 k l l (l.length : Int) (i : Int) = some (pN l d i && sizesB r) := by
 have hl1 := hl.1
 intro d
 induction d with
 | zero =>
  intro i hi
  refine ⟨K0 + 1, fun k hk => ?_⟩
  obtain ⟨k, rfl⟩ : ∃ m, k = m + 1 := ⟨k - 1, O_⟩
  simp only [spec_GoodOp.l0]
  rw [iN_ O_, h0 k O_, bs_]
  unfold sizesB pN
  by_cases e : r.1 ≤ 300 <;> simp [e]
 | succ d ih =>
  intro i hi
  obtain ⟨K, hK⟩ := ih (i + 1) O_
  have hs := small_rd hl (i : Int)
  obtain ⟨K1, h1⟩ := spec_l3Part_ev (rd_T44 l (i : Int)).f0 _ _ hs.1 hs.2
  refine ⟨K + K1 + 1, fun k hk => ?_⟩
  obtain ⟨k, rfl⟩ : ∃ m, k = m + 1 := ⟨k - 1, O_⟩
  have hr := hK k O_
  simp only [spec_GoodOp.l0]
  rw [ip_ O_, ip_ O_, ip_ O_, h1 k O_, bs_, w64 O_ O_]
  have hc : ((i : Int) + 1) = ((i + 1 : Nat) : Int) := by omega
  rw [hc, hr]
  rw [show pN l (d + 1) i = (partB (rd_T44 l (i : Int)).f0 (rd_T44 l (i : Int)).f1 (rd_T44 l (i : Int)).f2 && pN l d (i + 1)) from rfl]
  cases partB (rd_T44 l (i : Int)).f0 (rd_T44 l (i : Int)).f1 (rd_T44 l (i : Int)).f2 <;> simp
def goodB (l : List S44) (r : Int × Int) : Bool := decide (l.length ≤ 60) && (pN l l.length 0 && sizesB r)
theorem spec_GoodOp_ev (l : List S44) (hl : smallL l) (r : Int × Int) (K0 : Nat) (h0 : ∀ k, K0 ≤ k → spec_l3Sizes.f k l = some r) : ∃ K, ∀ k, K ≤ k → spec_GoodOp.f k l = some (goodB l r) := by
 obtain ⟨K, hK⟩ := spec_GoodOp_l l hl r K0 h0 l.length 0 O_
 refine ⟨K, fun k hk => ?_⟩
 have h := hK k hk
 unfold spec_GoodOp.f goodB
 by_cases e : (l.length : Int) > 60
 ·rw [ip_ e, decide_eq_false O_]; rfl
 ·rw [iN_ e, decide_eq_true O_, Bool.true_and]
  exact h
theorem impl_sizes_same (l : List S44) : ∀ k a b i, impl_sizes.l0 k a b l (l.length : Int) i = spec_l3Sizes.l0 k a b l (l.length : Int) i := by
 intro k
 induction k with
 | zero => intro a b i; rfl
 | succ k ih =>
  intro a b i
  simp only [impl_sizes.l0, spec_l3Sizes.l0, ih]
theorem impl_sizes_ev (l : List S44) (k : Nat) : impl_sizes.f k l = spec_l3Sizes.f k l := impl_sizes_same l k 0 0 0
theorem impl_isPart_ev (a : Int) (b c : ByteArray) (hb : b.size ≤ 140737488351232) (hc : c.size ≤ 140737488351232) : ∃ K, ∀ k, K ≤ k → impl_Part_isPart.f k a b c = some (partB a b c) := by
 obtain ⟨K1, h1⟩ := impl_GoodText_ev b hb
 obtain ⟨K2, h2⟩ := impl_GoodText_ev c hc
 refine ⟨K1 + K2, fun k hk => ?_⟩
 unfold impl_Part_isPart.f partB
 rw [h1 k O_, h2 k O_]
 by_cases e0 : a = 0
 ·simp only [ip_ e0, bs_]
  by_cases e1 : b.toList = [] <;> by_cases e2 : c.toList = [] <;> simp [e1, e2]
 ·simp only [iN_ e0]
  by_cases e1 : a ≥ 1
  ·by_cases e2 : a ≤ 300
   ·simp only [ip_ e1, ip_ e2, decide_eq_true e2, decide_eq_true e1, Bool.and_self, Bool.true_and]
    by_cases e3 : b.toList = [] <;> simp [e3]
   ·simp [e1, e2]
  ·simp only [iN_ e1]
   simp
   intro h
   omega
theorem impl_Part_58_l (l : List S44) (hl : smallL l) : ∀ (d i : Nat), i + d = l.length → ∃ t : Int, decide (t ≥ 0) = !(pN l d i) ∧ ∃ K, ∀ k, K ≤ k → impl_Part_58.l0 k l (l.length : Int) (i : Int) = some t := by
 have hl1 := hl.1
 intro d
 induction d with
 | zero =>
  intro i hi
  refine ⟨-1, rfl, 1, fun k hk => ?_⟩
  obtain ⟨k, rfl⟩ : ∃ m, k = m + 1 := ⟨k - 1, O_⟩
  simp only [impl_Part_58.l0]
  rw [iN_ O_]
 | succ d ih =>
  intro i hi
  have hs := small_rd hl (i : Int)
  obtain ⟨K1, h1⟩ := impl_isPart_ev (rd_T44 l (i : Int)).f0 _ _ hs.1 hs.2
  cases hp : partB (rd_T44 l (i : Int)).f0 (rd_T44 l (i : Int)).f1 (rd_T44 l (i : Int)).f2 with
  | false =>
   refine ⟨(i : Int), by unfold pN; rw [hp]; simp, K1 + 1, fun k hk => ?_⟩
   obtain ⟨k, rfl⟩ : ∃ m, k = m + 1 := ⟨k - 1, O_⟩
   simp only [impl_Part_58.l0, impl_GoodOp_1.f]
   rw [ip_ O_, ip_ O_, ip_ O_, h1 k O_, hp]
   rfl
  | true =>
   obtain ⟨t, ht, K, hK⟩ := ih (i + 1) O_
   refine ⟨t, by unfold pN; rw [hp, ht, Bool.true_and], K + K1 + 1, fun k hk => ?_⟩
   obtain ⟨k, rfl⟩ : ∃ m, k = m + 1 := ⟨k - 1, O_⟩
   have hr := hK k O_
   simp only [impl_Part_58.l0, impl_GoodOp_1.f]
   rw [ip_ O_, ip_ O_, ip_ O_, h1 k O_, hp, w64 O_ O_]
   exact hr
theorem impl_GoodOp_ev (l : List S44) (hl : smallL l) (r : Int × Int) (K0 : Nat) (h0 : ∀ k, K0 ≤ k → spec_l3Sizes.f k l = some r) : ∃ K, ∀ k, K ≤ k → impl_GoodOp.f k l = some (goodB l r) := by
 obtain ⟨t, ht, K, hK⟩ := impl_Part_58_l l hl l.length 0 O_
 refine ⟨K + K0, fun k hk => ?_⟩
 have h : impl_Part_58.f k l = some t := hK k O_
 unfold impl_GoodOp.f goodB impl_Part_46.f
 by_cases e : (l.length : Int) > 60
 ·rw [ip_ e, decide_eq_false O_]; rfl
 ·rw [iN_ e, decide_eq_true O_, h, Bool.true_and]
  simp only [bs_, ht]
  rw [impl_sizes_ev, h0 k O_, bs_]
  unfold sizesB
  cases pN l l.length 0 <;> by_cases e1 : r.1 ≤ 300 <;> simp [e1]
theorem ba_nil_append (a : ByteArray) : (⟨#[]⟩ : ByteArray) ++ a = a := by
 apply ByteArray.ext; simp [ByteArray.data_append]
theorem ba_append_nil (a : ByteArray) : a ++ (⟨#[]⟩ : ByteArray) = a := by
 apply ByteArray.ext; simp [ByteArray.data_append]
theorem ba_assoc (a b c : ByteArray) : a ++ b ++ c = a ++ (b ++ c) := by
 apply ByteArray.ext; simp [ByteArray.data_append]
theorem ba_of_toList {a b : ByteArray} (h : a.toList = b.toList) : a = b := by
 rw [toList_data, toList_data] at h
 apply ByteArray.ext
 exact Array.toList_inj.mp h
theorem ba_extract_extract (s : ByteArray) (a i j : Nat) (hj : a + j ≤ s.size) : (s.extract a s.size).extract i j = s.extract (a + i) (a + j) := by
 apply ByteArray.ext
 simp only [ByteArray.data_extract, Array.extract_extract]
 congr 1
 exact Nat.min_eq_left hj
theorem ba_extract_end (s : ByteArray) (a i : Nat) (hi : a + i ≤ s.size) : (s.extract a s.size).extract i (s.extract a s.size).size = s.extract (a + i) s.size := by
 have : (s.extract a s.size).size = s.size - a := by rw [zE_]; omega
 rw [this, ba_extract_extract s a i (s.size - a) O_]
 congr 1
 omega
theorem ba_extract_add (s : ByteArray) (a b c : Nat) (h1 : a ≤ b) (h2 : b ≤ c) : s.extract a b ++ s.extract b c = s.extract a c := by
 apply ByteArray.ext
 simp only [ByteArray.data_append, ByteArray.data_extract, Array.extract_append_extract]
 congr 1 <;> omega
theorem ba_extract_same (s : ByteArray) (a : Nat) : s.extract a a = ⟨#[]⟩ := by
 apply ByteArray.ext
 simp only [ByteArray.data_extract]
 apply Array.eq_empty_of_size_eq_zero
 simp
 omega
theorem ba_extract_all (s : ByteArray) : s.extract 0 s.size = s := by
 apply ByteArray.ext
 simp only [ByteArray.data_extract]
 exact Array.extract_size
inductive Pt
 | K (n : Nat)
 | W (w : ByteArray)
 | D (d : ByteArray)
def encP : Pt → S44
 | .K n => ⟨(n : Int), ⟨#[]⟩, ⟨#[]⟩⟩
 | .W w => ⟨0, w, ⟨#[]⟩⟩
 | .D d => ⟨0, ⟨#[]⟩, d⟩
def stepP (s : ByteArray) (st : ByteArray × Nat) : Pt → Option (ByteArray × Nat)
 | .K n => if st.2 + n ≤ s.size then some (st.1 ++ s.extract st.2 (st.2 + n), st.2 + n) else none
 | .W w => some (st.1 ++ w, st.2)
 | .D d => if st.2 + d.size ≤ s.size ∧ s.extract st.2 (st.2 + d.size) = d then some (st.1, st.2 + d.size) else none
def runP (s : ByteArray) : List Pt → ByteArray × Nat → Option (ByteArray × Nat)
 | [], st => some st
 | q :: l, st => (stepP s st q).bind (runP s l)
theorem runP_append (s : ByteArray) : ∀ (a b : List Pt) (st : ByteArray × Nat), runP s (a ++ b) st = (runP s a st).bind (runP s b)
 | [], b, st => rfl
 | q :: a, b, st => by
  show (stepP s st q).bind (runP s (a ++ b)) = ((stepP s st q).bind (runP s a)).bind (runP s b)
  cases stepP s st q with
  | none => rfl
  | some t => exact runP_append s a b t
def addP : List Pt → Pt → List Pt
 | .K a :: r, .K b => .K (a + b) :: r
 | .D a :: r, .D b => .D (a ++ b) :: r
 | .W a :: r, .W b => .W (a ++ b) :: r
 | .D d :: .W a :: r, .W b => .D d :: .W (a ++ b) :: r
 | .D d :: r, .W b => .D d :: .W b :: r
 | r, q => q :: r
theorem runP_snoc (s : ByteArray) (a : List Pt) (q : Pt) (st : ByteArray × Nat) : runP s (a ++ [q]) st = (runP s a st).bind fun t => stepP s t q := by
 rw [runP_append]
 cases runP s a st with
 | none => rfl
 | some t => show (stepP s t q).bind (fun u => some u) = stepP s t q; cases stepP s t q <;> rfl
theorem merge_last (s : ByteArray) (r : List Pt) (x y z : Pt) (hm : ∀ t u v, stepP s t x = some u → stepP s u y = some v → stepP s t z = some v) (st v : ByteArray × Nat) (h : (runP s (x :: r).reverse st).bind (fun t => stepP s t y) = some v) : runP s (z :: r).reverse st = some v := by
 rw [List.reverse_cons, runP_snoc] at h ⊢
 obtain ⟨u, hu, hv⟩ := Option.bind_eq_some_iff.mp h
 obtain ⟨t, ht, hx⟩ := Option.bind_eq_some_iff.mp hu
 rw [ht]
 exact hm t u v hx hv
theorem runP_add (s : ByteArray) (r : List Pt) (q : Pt) (st v : ByteArray × Nat) (h : (runP s r.reverse st).bind (fun t => stepP s t q) = some v) : runP s (addP r q).reverse st = some v := by
 have plain : runP s (q :: r).reverse st = some v := by rw [List.reverse_cons, runP_snoc]; exact h
 have swap : ∀ (d b : ByteArray) (r' : List Pt), r = .D d :: r' → q = .W b → (runP s (.W b :: r').reverse st).bind (fun t => stepP s t (.D d)) = some v := by
  intro d b r' hr hq
  subst hr; subst hq
  rw [List.reverse_cons, runP_snoc] at h ⊢
  obtain ⟨u, hu, hv⟩ := Option.bind_eq_some_iff.mp h
  obtain ⟨t, ht, hx⟩ := Option.bind_eq_some_iff.mp hu
  rw [ht]
  simp only [stepP] at hx hv ⊢
  split at hx
  ·rename_i c
   cases hx
   simp only [bs_]
   rw [ip_ c]
   exact hv
  ·cases hx
 match r, q with
 | .K a :: r, .K b =>
  refine merge_last s r (.K a) (.K b) (.K (a + b)) (fun t u v h1 h2 => ?_) st v h
  simp only [stepP] at h1 h2 ⊢
  split at h1
  ·cases h1
   simp only at h2
   split at h2
   ·cases h2
    rw [ip_ O_, ba_assoc, ba_extract_add s _ _ _ O_ O_, Nat.add_assoc]
   ·cases h2
  ·cases h1
 | .D a :: r, .D b =>
  refine merge_last s r (.D a) (.D b) (.D (a ++ b)) (fun t u v h1 h2 => ?_) st v h
  simp only [stepP] at h1 h2 ⊢
  split at h1
  ·rename_i c1
   cases h1
   simp only at h2
   split at h2
   ·rename_i c2
    cases h2
    rw [ip_, zA_, Nat.add_assoc]
    rw [zA_]
    refine ⟨O_, ?_⟩
    rw [← ba_extract_add s t.2 (t.2 + a.size) _ O_ O_, c1.2, ← Nat.add_assoc, c2.2]
   ·cases h2
  ·cases h1
 | .W a :: r, .W b =>
  refine merge_last s r (.W a) (.W b) (.W (a ++ b)) (fun t u v h1 h2 => ?_) st v h
  simp only [stepP] at h1 h2 ⊢
  cases h1
  cases h2
  rw [ba_assoc]
 | .D d :: .W a :: r, .W b =>
  have h' := swap d b (.W a :: r) rfl rfl
  show runP s (.D d :: .W (a ++ b) :: r).reverse st = some v
  rw [List.reverse_cons, runP_snoc]
  obtain ⟨u, hu, hv⟩ := Option.bind_eq_some_iff.mp h'
  rw [List.reverse_cons, runP_snoc] at hu
  rw [merge_last s r (.W a) (.W b) (.W (a ++ b)) (fun t u v h1 h2 => by simp only [stepP] at h1 h2 ⊢; cases h1; cases h2; rw [ba_assoc]) st u hu]
  exact hv
 | .D d :: [], .W b =>
  have h' := swap d b [] rfl rfl
  show runP s (.D d :: .W b :: []).reverse st = some v
  rw [List.reverse_cons, runP_snoc]; exact h'
 | .D d :: .K a :: r, .W b =>
  have h' := swap d b (.K a :: r) rfl rfl
  show runP s (.D d :: .W b :: .K a :: r).reverse st = some v
  rw [List.reverse_cons, runP_snoc]; exact h'
 | .D d :: .D a :: r, .W b =>
  have h' := swap d b (.D a :: r) rfl rfl
  show runP s (.D d :: .W b :: .D a :: r).reverse st = some v
  rw [List.reverse_cons, runP_snoc]; exact h'
 | [], .K b => exact plain
 | [], .W b => exact plain
 | [], .D b => exact plain
 | .K a :: r, .W b => exact plain
 | .K a :: r, .D b => exact plain
 | .W a :: r, .K b => exact plain
 | .W a :: r, .D b => exact plain
 | .D a :: r, .K b => exact plain
def okP : Pt → Prop
 | .K n => 0 < n ∧ n ≤ 1000000
 | .W w => 0 < w.size ∧ w.size ≤ 1000000
 | .D d => 0 < d.size ∧ d.size ≤ 1000000
theorem nil_toList : (⟨#[]⟩ : ByteArray).toList = ([] : List UInt8) := by rw [toList_data]
theorem pos_toList {w : ByteArray} (h : 0 < w.size) : ¬ w.toList = ([] : List UInt8) := by
 rw [toList_data]
 intro e
 have := congrArg List.length e
 rw [Array.length_toList] at this
 have e2 : w.data.size = 0 := this
 have e3 : w.data.size = w.size := rfl
 omega
theorem rd_last (M : List S44) (x : S44) : rd_T44 (M ++ [x]) (M.length : Int) = x := by
 unfold rd_T44
 rw [tN_, List.getD_eq_getElem?_getD, List.getElem?_append_right (Nat.le_refl _)]
 simp
theorem rd_last2 (M : List S44) (x y : S44) : rd_T44 (M ++ [x] ++ [y]) (M.length : Int) = x := by
 unfold rd_T44
 rw [tN_, List.getD_eq_getElem?_getD, List.append_assoc, List.getElem?_append_right (Nat.le_refl _)]
 simp
theorem set_last (M : List S44) (x y : S44) : (M ++ [x]).set (M.length : Int).toNat y = M ++ [y] := by
 rw [tN_, List.set_append_right _ _ (Nat.le_refl _)]
 simp
theorem set_last2 (M : List S44) (x z y : S44) : (M ++ [x] ++ [z]).set (M.length : Int).toNat y = M ++ [y] ++ [z] := by
 rw [tN_, List.append_assoc, List.set_append_right _ _ (Nat.le_refl _)]
 simp
theorem idx1 (M : List S44) (x : S44) (h : M.length ≤ 1000000) : wrap64 (((M ++ [x]).length : Int) - 1) = (M.length : Int) := by
 rw [lA_, lS_, w64 O_ O_]; omega
theorem idx2 (M : List S44) (x y : S44) (h : M.length ≤ 1000000) : wrap64 (((M ++ [x] ++ [y]).length : Int) - 2) = (M.length : Int) := by
 simp only [lA_, lS_]
 rw [w64 O_ O_]; omega
theorem encP_rev (r : List Pt) (x : Pt) : (x :: r).reverse.map encP = r.reverse.map encP ++ [encP x] := by
 rw [List.reverse_cons, List.map_append]; rfl
theorem l3Add_0 (k : Nat) (q : Pt) (hq : okP q) : spec_l3Add.f (k + 5) [] (encP q).f0 (encP q).f1 (encP q).f2 = some [encP q] := by
 cases q with
 | K n =>
  have h : ¬ n = 0 := by have := hq.1; omega
  simp [spec_l3Add.f, spec_l3Add.j0, encP, h]
 | W w => simp [spec_l3Add.f, spec_l3Add.j0, encP, pos_toList hq.1]
 | D d => simp [spec_l3Add.f, spec_l3Add.j0, encP, pos_toList hq.1, nil_toList]
theorem l3Add_K (k : Nat) (L : List S44) (N : Nat) (hL : L.length = N + 1) (hN : N ≤ 1000000) (x : S44) (hx : rd_T44 L (N : Int) = x) (n : Nat) (hn : 0 < n) :
  spec_l3Add.f (k + 5) L (n : Int) ⟨#[]⟩ ⟨#[]⟩ = if x.f0 > 0 then some (L.set N ⟨wrap64 (x.f0 + n), x.f1, x.f2⟩) else some (L ++ [⟨(n : Int), ⟨#[]⟩, ⟨#[]⟩⟩]) := by
 have hl : ¬ (L.length : Int) = 0 := by omega
 have hi : wrap64 ((L.length : Int) - 1) = (N : Int) := by rw [w64 O_ O_]; omega
 have h0 : (0 : Int) ≤ (N : Int) := by omega
 have h1 : (N : Int) < (L.length : Int) := by omega
 have h2 : L.length < 3518437208883 := by omega
 have e0 : ¬ (n : Int) = 0 := by omega
 have e1 : (n : Int) > 0 := by omega
 simp only [spec_l3Add.f, iN_ e0, spec_l3Add.j0, Bool.false_eq_true, if_false, iN_ hl, hi, ip_ h0, ip_ h1, ip_ e1, hx, spec_l3Add.j1, spec_l3Add.j2, spec_l3Add.j3, spec_l3Add.j4, ip_ h2, nil_toList, if_true, tN_, decide_eq_true_eq]
theorem l3Add_W (k : Nat) (L : List S44) (N : Nat) (hL : L.length = N + 1) (hN : N ≤ 1000000) (x : S44) (hx : rd_T44 L (N : Int) = x) (w : ByteArray) (hw : 0 < w.size) (hw2 : w.size ≤ 1000000) (hx2 : x.f1.size ≤ 1000000) (y : S44) (hy : 1 ≤ N → rd_T44 L ((N - 1 : Nat) : Int) = y) (hy2 : y.f1.size ≤ 1000000) :
  spec_l3Add.f (k + 5) L 0 w ⟨#[]⟩ = if x.f1.toList ≠ [] then some (L.set N ⟨x.f0, x.f1 ++ w, x.f2⟩) else if x.f2.toList ≠ [] then
   (if 1 ≤ N ∧ y.f1.toList ≠ [] then some (L.set (N - 1) ⟨y.f0, y.f1 ++ w, y.f2⟩) else some (L.set N ⟨0, w, ⟨#[]⟩⟩ ++ [x])) else some (L ++ [⟨0, w, ⟨#[]⟩⟩]) := by
 have hl : ¬ (L.length : Int) = 0 := by omega
 have hi : wrap64 ((L.length : Int) - 1) = (N : Int) := by rw [w64 O_ O_]; omega
 have h0 : (0 : Int) ≤ (N : Int) := by omega
 have h1 : (N : Int) < (L.length : Int) := by omega
 have h2 : L.length < 3518437208883 := by omega
 have e1 : ¬ (0 : Int) > 0 := by omega
 have hw' := pos_toList hw
 have s1 : x.f1.size + w.size ≤ 9223372036854775807 := by omega
 have s2 : y.f1.size + w.size ≤ 9223372036854775807 := by omega
 simp only [spec_l3Add.f, iN_ hw', spec_l3Add.j0, Bool.false_eq_true, if_false, iN_ hl, hi, ip_ h0, ip_ h1, iN_ e1, hx, spec_l3Add.j1, spec_l3Add.j2, spec_l3Add.j3, nil_toList, if_true, tN_, ip_ s1]
 by_cases c1 : x.f1.toList = []
 ·simp only [c1, bne_self_eq_false, Bool.false_eq_true, if_false, ne_eq, not_true_eq_false, iN_ hw', spec_l3Add.j4]
  by_cases c2 : x.f2.toList = []
  ·simp only [c2, bne_self_eq_false, Bool.false_eq_true, if_false, not_true_eq_false, ip_ h2]
  ·have c2' : (x.f2.toList != []) = true := bne_iff_ne.mpr c2
   simp only [c2', if_true, not_false_eq_true, c2]
   by_cases c3 : 1 ≤ N
   ·have hj : wrap64 ((L.length : Int) - 2) = ((N - 1 : Nat) : Int) := by rw [w64 O_ O_]; omega
    have h3 : (0 : Int) ≤ ((N - 1 : Nat) : Int) := by omega
    have h4 : ((N - 1 : Nat) : Int) < (L.length : Int) := by omega
    have h5 : (L.length : Int) > 1 := by omega
    simp only [ip_ h5, hj, ip_ h3, ip_ h4, hy c3, hi, ip_ h0, ip_ h1, hx, tN_, ip_ s2, c3, true_and, bs_, List.length_set, ip_ h2]
    by_cases c4 : y.f1.toList = []
    ·simp [c4]
    ·simp [c4]
   ·have h5 : ¬ (L.length : Int) > 1 := by omega
    simp only [iN_ h5, hi, ip_ h0, ip_ h1, tN_, c3, false_and, if_false, bs_, List.length_set, ip_ h2]
 ·have c1' : (x.f1.toList != []) = true := bne_iff_ne.mpr c1
  simp only [c1', if_true, ne_eq, c1, not_false_eq_true]
theorem l3Add_D (k : Nat) (L : List S44) (N : Nat) (hL : L.length = N + 1) (hN : N ≤ 1000000) (x : S44) (hx : rd_T44 L (N : Int) = x) (d : ByteArray) (hd : 0 < d.size) (hd2 : d.size ≤ 1000000) (hx2 : x.f2.size ≤ 1000000) :
  spec_l3Add.f (k + 5) L 0 ⟨#[]⟩ d = if x.f2.toList ≠ [] then some (L.set N ⟨x.f0, x.f1, x.f2 ++ d⟩) else some (L ++ [⟨0, ⟨#[]⟩, d⟩]) := by
 have hl : ¬ (L.length : Int) = 0 := by omega
 have hi : wrap64 ((L.length : Int) - 1) = (N : Int) := by rw [w64 O_ O_]; omega
 have h0 : (0 : Int) ≤ (N : Int) := by omega
 have h1 : (N : Int) < (L.length : Int) := by omega
 have h2 : L.length < 3518437208883 := by omega
 have e1 : ¬ (0 : Int) > 0 := by omega
 have hd' := pos_toList hd
 have hd'' : (d.toList == []) = false := beq_eq_false_iff_ne.mpr hd'
 have s1 : x.f2.size + d.size ≤ 9223372036854775807 := by omega
 simp only [spec_l3Add.f, nil_toList, if_true, hd'', spec_l3Add.j0, Bool.false_eq_true, if_false, iN_ hl, hi, ip_ h0, ip_ h1, iN_ e1, hx, spec_l3Add.j1, spec_l3Add.j2, spec_l3Add.j3, spec_l3Add.j4, iN_ hd', tN_, ip_ s1, ip_ h2]
 by_cases c1 : x.f2.toList = []
 ·simp [c1]
 ·simp [c1]
theorem l3Add_nil (k : Nat) (L : List S44) : spec_l3Add.f (k + 5) L 0 ⟨#[]⟩ ⟨#[]⟩ = some L := by
 simp [spec_l3Add.f, spec_l3Add.j0, nil_toList]
theorem set_at (M : List S44) (x y : S44) : (M ++ [x]).set M.length y = M ++ [y] := by
 rw [List.set_append_right _ _ (Nat.le_refl _)]
 simp
theorem set_at2 (M : List S44) (x z y : S44) : (M ++ [x] ++ [z]).set M.length y = M ++ [y] ++ [z] := by
 rw [List.append_assoc, List.set_append_right _ _ (Nat.le_refl _)]
 simp
theorem l3Add_enc (k : Nat) (r : List Pt) (hr : r.length ≤ 1000000) (hok : ∀ x ∈ r, okP x) (q : Pt) (hq : okP q) :
  spec_l3Add.f (k + 5) (r.reverse.map encP) (encP q).f0 (encP q).f1 (encP q).f2 = some ((addP r q).reverse.map encP) := by
 match r with
 | [] => exact l3Add_0 k q hq
 | x :: r =>
  have hx := hok x (List.mem_cons_self)
  have hr' : r.length ≤ 1000000 := by simp at hr; omega
  rw [encP_rev]
  have hN : ((r.reverse.map encP).length) = r.length := by simp
  have hL : (r.reverse.map encP ++ [encP x]).length = r.length + 1 := by simp
  have hrd : rd_T44 (r.reverse.map encP ++ [encP x]) (r.length : Int) = encP x := by rw [← hN]; exact rd_last _ _
  have hset : ∀ y, (r.reverse.map encP ++ [encP x]).set r.length y = r.reverse.map encP ++ [y] := by intro y; rw [← hN]; exact set_at _ _ _
  have plain : ∀ q' : Pt, addP (x :: r) q' = q' :: x :: r → (addP (x :: r) q').reverse.map encP = r.reverse.map encP ++ [encP x] ++ [encP q'] := by
   intro q' h; rw [h, encP_rev, encP_rev]
  cases q with
  | K n =>
   rw [show (encP (.K n)).f0 = (n : Int) from rfl, show (encP (.K n)).f1 = ⟨#[]⟩ from rfl, show (encP (.K n)).f2 = ⟨#[]⟩ from rfl]
   rw [l3Add_K k _ r.length hL hr' (encP x) hrd n hq.1]
   cases x with
   | K m =>
    have h1 := hx.1
    have h2 := hx.2
    have h3 := hq.2
    rw [ip_ (show (encP (.K m)).f0 > 0 by show (m : Int) > 0; omega), hset]
    show _ = some ((Pt.K (m + n) :: r).reverse.map encP)
    rw [encP_rev]
    show some (_ ++ [(⟨wrap64 ((m : Int) + (n : Int)), ⟨#[]⟩, ⟨#[]⟩⟩ : S44)]) = some (_ ++ [(⟨((m + n : Nat) : Int), ⟨#[]⟩, ⟨#[]⟩⟩ : S44)])
    rw [w64 O_ O_]
    rfl
   | W w =>
    rw [iN_ (show ¬ (encP (.W w)).f0 > 0 by show ¬ (0 : Int) > 0; omega), plain (.K n) rfl]; rfl
   | D d =>
    rw [iN_ (show ¬ (encP (.D d)).f0 > 0 by show ¬ (0 : Int) > 0; omega), plain (.K n) rfl]; rfl
  | W w =>
   rw [show (encP (.W w)).f0 = (0 : Int) from rfl, show (encP (.W w)).f1 = w from rfl, show (encP (.W w)).f2 = ⟨#[]⟩ from rfl]
   have hx1 : (encP x).f1.size ≤ 1000000 := by
    cases x with
    | K m => exact Nat.zero_le _
    | W a => exact hx.2
    | D d => exact Nat.zero_le _
   match r, hr', hN, hL, hrd, hset, plain, hok with
   | [], hr', hN, hL, hrd, hset, plain, hok =>
    rw [l3Add_W k _ 0 hL hr' (encP x) hrd w hq.1 hq.2 hx1 z44 (fun h => by omega) (by decide)]
    cases x with
    | K m => rw [iN_ (by simp [encP, nil_toList]), iN_ (by simp [encP, nil_toList]), plain (.W w) rfl]; rfl
    | W a => rw [ip_ (by exact pos_toList hx.1)]; rfl
    | D d => rw [iN_ (by simp [encP, nil_toList]), ip_ (by exact pos_toList hx.1), iN_ O_]; rfl
   | y :: r, hr', hN, hL, hrd, hset, plain, hok =>
    have hy := hok y (List.mem_cons_of_mem _ List.mem_cons_self)
    have hy1 : (encP y).f1.size ≤ 1000000 := by
     cases y with
     | K m => exact Nat.zero_le _
     | W a => exact hy.2
     | D d => exact Nat.zero_le _
    have hN2 : ((r.reverse.map encP).length) = r.length := by simp
    have hrd2 : rd_T44 ((y :: r).reverse.map encP ++ [encP x]) (((y :: r).length - 1 : Nat) : Int) = encP y := by
     rw [encP_rev, List.length_cons, Nat.add_sub_cancel, ← hN2]; exact rd_last2 _ _ _
    have hset2 : ∀ z, ((y :: r).reverse.map encP ++ [encP x]).set ((y :: r).length - 1) z = r.reverse.map encP ++ [z] ++ [encP x] := by
     intro z; rw [encP_rev, List.length_cons, Nat.add_sub_cancel, ← hN2]; exact set_at2 _ _ _ _
    rw [l3Add_W k _ (y :: r).length hL hr' (encP x) hrd w hq.1 hq.2 hx1 (encP y) (fun _ => hrd2) hy1]
    cases x with
    | K m => rw [iN_ (by simp [encP, nil_toList]), iN_ (by simp [encP, nil_toList]), plain (.W w) rfl]; rfl
    | W a => rw [ip_ (by exact pos_toList hx.1), hset]; show _ = some ((Pt.W (a ++ w) :: y :: r).reverse.map encP); rw [encP_rev (y :: r) (Pt.W (a ++ w))]; rfl
    | D d =>
     rw [iN_ (by simp [encP, nil_toList]), ip_ (by exact pos_toList hx.1)]
     cases y with
     | K m =>
      rw [iN_ (by simp [encP, nil_toList]), hset]
      show _ = some ((Pt.D d :: Pt.W w :: Pt.K m :: r).reverse.map encP)
      rw [encP_rev (.W w :: .K m :: r) (.D d), encP_rev (.K m :: r) (.W w)]; rfl
     | W a =>
      rw [ip_ ⟨by simp, by exact pos_toList hy.1⟩, hset2]
      show _ = some ((Pt.D d :: Pt.W (a ++ w) :: r).reverse.map encP)
      rw [encP_rev (.W (a ++ w) :: r) (.D d), encP_rev r (.W (a ++ w))]; rfl
     | D b =>
      rw [iN_ (by simp [encP, nil_toList]), hset]
      show _ = some ((Pt.D d :: Pt.W w :: Pt.D b :: r).reverse.map encP)
      rw [encP_rev (.W w :: .D b :: r) (.D d), encP_rev (.D b :: r) (.W w)]; rfl
  | D d =>
   rw [show (encP (.D d)).f0 = (0 : Int) from rfl, show (encP (.D d)).f1 = ⟨#[]⟩ from rfl, show (encP (.D d)).f2 = d from rfl]
   have hx2 : (encP x).f2.size ≤ 1000000 := by
    cases x with
    | K m => exact Nat.zero_le _
    | W a => exact Nat.zero_le _
    | D d => exact hx.2
   rw [l3Add_D k _ r.length hL hr' (encP x) hrd d hq.1 hq.2 hx2]
   cases x with
   | K m => rw [iN_ (by simp [encP, nil_toList]), plain (.D d) rfl]; rfl
   | W a => rw [iN_ (by simp [encP, nil_toList]), plain (.D d) rfl]; rfl
   | D b =>
    rw [ip_ (by exact pos_toList hx.1), hset]
    show _ = some ((Pt.D (b ++ d) :: r).reverse.map encP)
    rw [encP_rev]; rfl
def massP : Pt → Nat
 | .K n => n
 | .W w => w.size
 | .D d => d.size
def mass : List Pt → Nat
 | [] => 0
 | q :: r => massP q + mass r
theorem mass_add (r : List Pt) (q : Pt) : mass (addP r q) = mass r + massP q := by
 unfold addP
 split <;> simp [mass, massP, zA_] <;> omega
theorem pos_add (r : List Pt) (q : Pt) (hr : ∀ x ∈ r, 0 < massP x) (hq : 0 < massP q) : ∀ x ∈ addP r q, 0 < massP x := by
 unfold addP
 split <;> simp [massP, zA_] at hr hq ⊢ <;> simp_all <;> omega
theorem mass_mem {r : List Pt} {x : Pt} (h : x ∈ r) : massP x ≤ mass r := by
 induction r with
 | nil => simp at h
 | cons y r ih =>
  rcases List.mem_cons.mp h with rfl | h
  ·simp [mass]
  ·have := ih h; simp only [mass]; omega
theorem mass_len {r : List Pt} (hr : ∀ x ∈ r, 0 < massP x) : r.length ≤ mass r := by
 induction r with
 | nil => simp
 | cons y r ih =>
  have h1 := ih (fun x hx => hr x (List.mem_cons_of_mem _ hx))
  have h2 := hr y List.mem_cons_self
  simp only [mass, List.length_cons]; omega
theorem okP_of {x : Pt} (h0 : 0 < massP x) (h1 : massP x ≤ 1000000) : okP x := by
 cases x <;> exact ⟨h0, h1⟩
def addQ (r : List Pt) (q : Pt) : List Pt := if massP q = 0 then r else addP r q
theorem mass_addQ (r : List Pt) (q : Pt) : mass (addQ r q) = mass r + massP q := by
 unfold addQ
 split
 ·omega
 ·exact mass_add r q
theorem pos_addQ (r : List Pt) (q : Pt) (hr : ∀ x ∈ r, 0 < massP x) : ∀ x ∈ addQ r q, 0 < massP x := by
 unfold addQ
 split
 ·exact hr
 ·exact pos_add r q hr O_
theorem size0_eq {a : ByteArray} (h : a.size = 0) : a = ⟨#[]⟩ := by
 apply ByteArray.ext
 exact Array.eq_empty_of_size_eq_zero h
theorem l3AddQ (k : Nat) (r : List Pt) (hr : ∀ x ∈ r, 0 < massP x) (q : Pt) (hm : mass r + massP q ≤ 1000000) :
  spec_l3Add.f (k + 5) (r.reverse.map encP) (encP q).f0 (encP q).f1 (encP q).f2 = some ((addQ r q).reverse.map encP) := by
 unfold addQ
 split
 ·rename_i h
  have : encP q = ⟨0, ⟨#[]⟩, ⟨#[]⟩⟩ := by
   cases q with
   | K n => have : n = 0 := h; subst this; rfl
   | W w => rw [size0_eq (a := w) h]; rfl
   | D d => rw [size0_eq (a := d) h]; rfl
  rw [this]
  exact l3Add_nil k _
 ·refine l3Add_enc k r ?_ ?_ q (okP_of O_ O_)
  ·have := mass_len hr; omega
  ·intro x hx
   have := mass_mem hx
   exact okP_of (hr x hx) O_
def T (s w : ByteArray) (m : Nat) : Nat → List Nat → ByteArray
 | a, [] => s.extract a s.size
 | a, k :: ks => s.extract a k ++ w ++ T s w m (k + m) ks
def ch (s p : ByteArray) : Nat → List Nat → Prop
 | a, [] => a ≤ s.size
 | a, k :: ks => a ≤ k ∧ k + p.size ≤ s.size ∧ s.extract k (k + p.size) = p ∧ ch s p (k + p.size) ks
def apN (m : Nat) : Nat → List Nat → List Nat
 | _, [] => []
 | a, k :: l => if a ≤ k then k :: apN m (k + m) l else apN m a l
theorem ch_ap (s p : ByteArray) : ∀ (l : List Nat) (a : Nat), a ≤ s.size → (∀ k ∈ l, k + p.size ≤ s.size ∧ s.extract k (k + p.size) = p) → ch s p a (apN p.size a l)
 | [], a, ha, _ => ha
 | k :: l, a, ha, h => by
  have hk := h k List.mem_cons_self
  have hl : ∀ k ∈ l, k + p.size ≤ s.size ∧ s.extract k (k + p.size) = p := fun x hx => h x (List.mem_cons_of_mem _ hx)
  unfold apN
  split
  ·rename_i c
   exact ⟨c, hk.1, hk.2, ch_ap s p l _ hk.1 hl⟩
  ·exact ch_ap s p l a ha hl
theorem ch_le {s p : ByteArray} : ∀ {l : List Nat} {a : Nat}, ch s p a l → a ≤ s.size
 | [], _, h => h
 | k :: l, a, h => by have h1 := h.1; have h2 := h.2.1; omega
theorem apN_len (m : Nat) : ∀ (l : List Nat) (a : Nat), (apN m a l).length ≤ l.length
 | [], _ => Nat.le_refl _
 | k :: l, a => by
  unfold apN
  split
  ·have := apN_len m l (k + m); simp; omega
  ·have := apN_len m l a; simp; omega
theorem rd_cast (ks : List Nat) (i : Nat) (h : i < ks.length) : rd (ks.map fun a : Nat => (a : Int)) (i : Int) = (ks[i] : Int) := by
 unfold rd
 rw [tN_, List.getD_eq_getElem?_getD, List.getElem?_map, List.getElem?_eq_getElem h]
 rfl
def wP : Pt → Nat
 | .K n => n
 | .W w => w.size
 | .D d => d.size
def totP : List Pt → Nat
 | [] => 0
 | q :: r => wP q + totP r
theorem addP_tot (r : List Pt) (q : Pt) : totP (addP r q) = totP r + wP q := by
 unfold addP
 split <;> simp only [totP, wP, zA_] <;> omega
theorem addP_len (r : List Pt) (q : Pt) : (addP r q).length ≤ r.length + 1 := by
 unfold addP
 split <;> simp only [List.length_cons] <;> omega
def posP (r : List Pt) : Prop := ∀ x ∈ r, 0 < wP x
theorem posP_cons {q : Pt} {r : List Pt} : posP (q :: r) ↔ 0 < wP q ∧ posP r := by
 unfold posP
 simp only [List.mem_cons, forall_eq_or_imp]
theorem addP_pos (r : List Pt) (q : Pt) (hr : posP r) (hq : 0 < wP q) : posP (addP r q) := by
 unfold addP
 split <;> simp only [posP_cons, wP, zA_] at * <;> refine ⟨?_, ?_⟩ <;> first | omega | (simp_all; done) | (refine ⟨?_, ?_⟩ <;> first | omega | (simp_all; done)) | (simp_all; omega)
theorem wP_le_tot (r : List Pt) : ∀ x ∈ r, wP x ≤ totP r := by
 induction r with
 | nil => intro x hx; cases hx
 | cons q r ih =>
  intro x hx
  simp only [totP]
  rcases List.mem_cons.1 hx with rfl | hx
  ·omega
  ·have := ih x hx; omega
theorem okP_ofw {x : Pt} (h : 0 < wP x) (h2 : wP x ≤ 1000000) : okP x := by
 cases x <;> exact ⟨h, h2⟩
theorem ok_all {r : List Pt} (hp : posP r) (ht : totP r ≤ 1000000) : ∀ x ∈ r, okP x := fun x hx => okP_ofw (hp x hx) (Nat.le_trans (wP_le_tot r x hx) ht)
def wL (s : ByteArray) : List Pt := if s.toList = [] then [] else [.W s]
def dL (s : ByteArray) : List Pt := if s.toList = [] then [] else [.D s]
def mkL (r0 : List Pt) (put drop : ByteArray) : List Pt := dL drop ++ (wL put ++ r0)
def headK : List Pt → Prop
 | [] => True
 | .K n :: _ => 0 < n
 | _ => False
theorem size0_toList (s : ByteArray) : s.toList = [] ↔ s.size = 0 := by
 rw [toList_data]
 constructor
 ·intro e
  have := congrArg List.length e
  rw [Array.length_toList] at this
  exact this
 ·intro e
  apply List.eq_nil_of_length_eq_zero
  rw [Array.length_toList]
  exact e
theorem encL_append (a b : List Pt) : (a ++ b).reverse.map encP = b.reverse.map encP ++ a.reverse.map encP := by
 rw [List.reverse_append, List.map_append]
theorem ends_enc (r0 : List Pt) (put drop : ByteArray) : r0.reverse.map encP ++ ends put drop = (mkL r0 put drop).reverse.map encP := by
 unfold mkL ends wL dL
 rw [encL_append, encL_append, List.append_assoc]
 congr 1
 by_cases h1 : put.toList = [] <;> by_cases h2 : drop.toList = [] <;> simp [h1, h2, encP]
theorem addP_W (r0 : List Pt) (h : headK r0) (put drop w : ByteArray) (hw : 0 < w.size) : addP (mkL r0 put drop) (.W w) = mkL r0 (put ++ w) drop := by
 have e1 : ¬ (put ++ w).toList = [] := by rw [size0_toList, zA_]; omega
 unfold mkL wL dL
 rw [iN_ e1]
 by_cases h1 : put.toList = []
 ·have hp : put = ⟨#[]⟩ := ba_of_toList (by rw [h1, nil_toList])
  have hpw : put ++ w = w := by rw [hp, ba_nil_append]
  rw [ip_ h1, hpw]
  by_cases h2 : drop.toList = []
  ·rw [ip_ h2]
   match r0, h with
   | [], _ => rfl
   | .K n :: r, _ => rfl
  ·rw [iN_ h2]
   match r0, h with
   | [], _ => rfl
   | .K n :: r, _ => rfl
 ·rw [iN_ h1]
  by_cases h2 : drop.toList = []
  ·rw [ip_ h2]; rfl
  ·rw [iN_ h2]; rfl
theorem addP_D (r0 : List Pt) (h : headK r0) (put drop d : ByteArray) (hd : 0 < d.size) : addP (mkL r0 put drop) (.D d) = mkL r0 put (drop ++ d) := by
 have e1 : ¬ (drop ++ d).toList = [] := by rw [size0_toList, zA_]; omega
 unfold mkL wL dL
 rw [iN_ e1]
 by_cases h2 : drop.toList = []
 ·have hp : drop = ⟨#[]⟩ := ba_of_toList (by rw [h2, nil_toList])
  have hpw : drop ++ d = d := by rw [hp, ba_nil_append]
  rw [ip_ h2, hpw]
  by_cases h1 : put.toList = []
  ·rw [ip_ h1]
   match r0, h with
   | [], _ => rfl
   | .K n :: r, _ => rfl
  ·rw [iN_ h1]; rfl
 ·rw [iN_ h2]; rfl
theorem mkL_nil (r0 : List Pt) : mkL r0 ⟨#[]⟩ ⟨#[]⟩ = r0 := by
 unfold mkL wL dL
 simp only [ip_ nil_toList]; rfl
theorem addP_K_head (r0 : List Pt) (h : headK r0) (put drop : ByteArray) (n : Nat) (hn : 0 < n) : headK (addP (mkL r0 put drop) (.K n)) := by
 unfold mkL wL dL
 by_cases h1 : put.toList = [] <;> by_cases h2 : drop.toList = [] <;> simp only [h1, h2, if_true, if_false, List.nil_append, List.cons_append]
 ·match r0, h with
  | [], _ => exact hn
  | .K m :: r, hm => show 0 < m + n; omega
 ·exact hn
 ·exact hn
 ·exact hn
theorem kO_enc (r0 : List Pt) (h : headK r0) (put drop : ByteArray) (n : Nat) (hn : 0 < n) (hb : n ≤ 1000000) (ht : totP r0 ≤ 1000000) :
  kO (r0.reverse.map encP) put drop (n : Int) = (addP (mkL r0 put drop) (.K n)).reverse.map encP := by
 unfold kO keepO
 rw [iN_ O_, ends_enc]
 have key : ∀ (x : Pt) (r : List Pt), ((x :: r).reverse.map encP).length = r.length + 1 := by intro x r; simp
 have hlast : ∀ (x : Pt) (r : List Pt), rd_T44 ((x :: r).reverse.map encP) ((((x :: r).reverse.map encP).length : Int) - 1) = encP x := by
  intro x r
  rw [key, encP_rev, show (((r.length + 1 : Nat) : Int) - 1) = ((r.reverse.map encP).length : Int) by simp]
  exact rd_last _ _
 have add : ∀ (x : Pt) (r : List Pt), ¬ (encP x).f0 > 0 → (if 0 < ((x :: r).reverse.map encP).length ∧ (rd_T44 ((x :: r).reverse.map encP) ((((x :: r).reverse.map encP).length : Int) - 1)).f0 > 0 then ((x :: r).reverse.map encP).set (((x :: r).reverse.map encP).length - 1) ⟨wrap64 ((rd_T44 ((x :: r).reverse.map encP) ((((x :: r).reverse.map encP).length : Int) - 1)).f0 + (n : Int)), (rd_T44 ((x :: r).reverse.map encP) ((((x :: r).reverse.map encP).length : Int) - 1)).f1, (rd_T44 ((x :: r).reverse.map encP) ((((x :: r).reverse.map encP).length : Int) - 1)).f2⟩ else (x :: r).reverse.map encP ++ [⟨(n : Int), ⟨#[]⟩, ⟨#[]⟩⟩]) = (Pt.K n :: x :: r).reverse.map encP := by
  intro x r hx
  rw [hlast, iN_ (fun c => hx c.2), encP_rev (x :: r) (.K n)]; rfl
 have nz : ¬ (0 : Int) > 0 := by omega
 by_cases h1 : put.toList = [] <;> by_cases h2 : drop.toList = []
 ·have e : mkL r0 put drop = r0 := by unfold mkL wL dL; rw [ip_ h1, ip_ h2]; rfl
  rw [e]
  match r0, h, ht with
  | [], _, _ => rfl
  | .K m :: r, hm, ht =>
   have hm' : 0 < m := hm
   have hmb : m ≤ 1000000 := by have : wP (.K m) ≤ totP (.K m :: r) := (by simp only [totP]; omega); simp only [wP] at this; omega
   rw [hlast, ip_ ⟨by rw [key]; omega, by show (m : Int) > 0; omega⟩, key, Nat.add_sub_cancel, encP_rev]
   have hl : (r.reverse.map encP).length = r.length := by simp
   rw [← hl, set_at]
   show _ ++ [(⟨wrap64 ((m : Int) + (n : Int)), ⟨#[]⟩, ⟨#[]⟩⟩ : S44)] = (Pt.K (m + n) :: r).reverse.map encP
   rw [w64 O_ O_, encP_rev]; rfl
 ·have e : mkL r0 put drop = .D drop :: r0 := by unfold mkL wL dL; rw [ip_ h1, iN_ h2]; rfl
  rw [e, add (.D drop) r0 nz]; rfl
 ·have e : mkL r0 put drop = .W put :: r0 := by unfold mkL wL dL; rw [iN_ h1, ip_ h2]; rfl
  rw [e, add (.W put) r0 nz]; rfl
 ·have e : mkL r0 put drop = .D drop :: .W put :: r0 := by unfold mkL wL dL; rw [iN_ h1, iN_ h2]; rfl
  rw [e, add (.D drop) (.W put :: r0) nz]; rfl
def dP (a b : ByteArray) : Nat → List Pt → Nat → Nat → List Pt
 | 0, r, _, _ => r
 | d + 1, r, i, j =>
  if i < a.size ∨ j < b.size then
   (if i < a.size then
    (if j < b.size ∧ bt a (i : Int) = bt b (j : Int) then dP a b d (addP r (.K 1)) (i + 1) (j + 1)
    else (if lc a b (i + 1) j = lc a b i j then dP a b d (addP r (.D (a.extract i (i + 1)))) (i + 1) j
    else dP a b d (addP r (.W (b.extract j (j + 1)))) i (j + 1)))
   else dP a b d (addP r (.W (b.extract j (j + 1)))) i (j + 1))
  else r
theorem ext1 (s : ByteArray) (i : Nat) (h : i < s.size) : (s.extract i (i + 1)).size = 1 := by rw [zE_]; omega
theorem tbl_get1 (a b : ByteArray) (i j : Nat) (hi : i + 1 ≤ a.size) (hj : j ≤ b.size) : rd (rd_L1 (tbl a b) ((i : Int) + 1)) (j : Int) = (lc a b (i + 1) j : Int) := by
 rw [show (i : Int) + 1 = ((i + 1 : Nat) : Int) by omega]
 exact tbl_get a b (i + 1) j hi hj
theorem tbl_row_length1 (a b : ByteArray) (i : Nat) (hi : i + 1 ≤ a.size) : (rd_L1 (tbl a b) ((i : Int) + 1)).length = b.size + 1 := by
 rw [show (i : Int) + 1 = ((i + 1 : Nat) : Int) by omega]
 exact tbl_row_length a b (i + 1) hi
theorem dP_inv (a b : ByteArray) : ∀ (d : Nat) (r : List Pt) (i j : Nat), i ≤ a.size → j ≤ b.size → posP r →
  posP (dP a b d r i j) ∧ totP (dP a b d r i j) ≤ totP r + (a.size - i) + (b.size - j) ∧ (dP a b d r i j).length ≤ r.length + (a.size - i) + (b.size - j) := by
 intro d
 induction d with
 | zero => intro r i j hi hj hp; unfold dP; exact ⟨hp, O_, O_⟩
 | succ d ih =>
  intro r i j hi hj hp
  unfold dP
  by_cases hx : i < a.size ∨ j < b.size
  ·rw [ip_ hx]
   have put : j < b.size → posP (dP a b d (addP r (.W (b.extract j (j + 1)))) i (j + 1)) ∧ totP (dP a b d (addP r (.W (b.extract j (j + 1)))) i (j + 1)) ≤ totP r + (a.size - i) + (b.size - j) ∧ (dP a b d (addP r (.W (b.extract j (j + 1)))) i (j + 1)).length ≤ r.length + (a.size - i) + (b.size - j) := by
    intro hjb
    have hw : wP (.W (b.extract j (j + 1))) = 1 := ext1 b j hjb
    obtain ⟨h1, h2, h3⟩ := ih (addP r (.W (b.extract j (j + 1)))) i (j + 1) hi O_ (addP_pos r _ hp (by rw [hw]; omega))
    rw [addP_tot, hw] at h2
    have := addP_len r (.W (b.extract j (j + 1)))
    exact ⟨h1, O_, O_⟩
   by_cases hia : i < a.size
   ·rw [ip_ hia]
    by_cases hk : j < b.size ∧ bt a (i : Int) = bt b (j : Int)
    ·rw [ip_ hk]
     have hjb := hk.1
     obtain ⟨h1, h2, h3⟩ := ih (addP r (.K 1)) (i + 1) (j + 1) O_ O_ (addP_pos r _ hp (by show 0 < 1; omega))
     rw [addP_tot] at h2
     have := addP_len r (.K 1)
     simp only [wP] at h2
     exact ⟨h1, O_, O_⟩
    ·rw [iN_ hk]
     by_cases he : lc a b (i + 1) j = lc a b i j
     ·rw [ip_ he]
      have hw : wP (.D (a.extract i (i + 1))) = 1 := ext1 a i hia
      obtain ⟨h1, h2, h3⟩ := ih (addP r (.D (a.extract i (i + 1)))) (i + 1) j O_ hj (addP_pos r _ hp (by rw [hw]; omega))
      rw [addP_tot, hw] at h2
      have := addP_len r (.D (a.extract i (i + 1)))
      exact ⟨h1, O_, O_⟩
     ·rw [iN_ he]
      refine put ?_
      by_cases hjb : j < b.size
      ·exact hjb
      ·exact absurd (by rw [lc_end_right a b _ j O_, lc_end_right a b _ j O_]) he
   ·rw [iN_ hia]
    exact put (hx.resolve_left hia)
  ·rw [iN_ hx]; exact ⟨hp, O_, O_⟩
theorem dif_ev (a b : ByteArray) (ha : a.size ≤ 300) (hb : b.size ≤ 300) : ∀ (d : Nat) (r0 : List Pt) (put drop : ByteArray) (i j : Nat), (a.size - i) + (b.size - j) < d → i ≤ a.size → j ≤ b.size → headK r0 → posP (mkL r0 put drop) →
  totP (mkL r0 put drop) + (a.size - i) + (b.size - j) ≤ 1000 → (mkL r0 put drop).length + (a.size - i) + (b.size - j) ≤ 1000 →
  dif a b (tbl a b) d (r0.reverse.map encP) put drop i j = some ((dP a b d (mkL r0 put drop) i j).reverse.map encP) := by
 intro d
 induction d with
 | zero => intro r0 put drop i j hd; omega
 | succ d ih =>
  intro r0 put drop i j hd hi hj hh hp ht hlen
  have hr0 : r0.length ≤ (mkL r0 put drop).length := by unfold mkL; simp only [lA_]; omega
  have hpt : put.size ≤ totP (mkL r0 put drop) := by
   by_cases h1 : put.toList = []
   ·have := (size0_toList put).1 h1; omega
   ·exact wP_le_tot _ (.W put) (by unfold mkL wL; rw [iN_ h1]; simp)
  have hdt : drop.size ≤ totP (mkL r0 put drop) := by
   by_cases h1 : drop.toList = []
   ·have := (size0_toList drop).1 h1; omega
   ·exact wP_le_tot _ (.D drop) (by unfold mkL dL; rw [iN_ h1]; simp)
  have hrt : totP r0 ≤ totP (mkL r0 put drop) := by
   have : ∀ l : List Pt, totP r0 ≤ totP (l ++ r0) := by intro l; induction l with
    | nil => exact Nat.le_refl _
    | cons q l ih => simp only [List.cons_append, totP]; omega
   unfold mkL
   rw [← List.append_assoc]
   exact this _
  have hol : (r0.reverse.map encP).length = r0.length := by simp
  unfold dif dP
  by_cases hx : i < a.size ∨ j < b.size
  ·rw [ip_ hx, ip_ hx, ip_ (by rw [hol]; omega)]
   have put' : j < b.size → dif a b (tbl a b) d (r0.reverse.map encP) (put ++ b.extract j (j + 1)) (drop ++ ⟨#[]⟩) i (j + 1) = some ((dP a b d (addP (mkL r0 put drop) (.W (b.extract j (j + 1)))) i (j + 1)).reverse.map encP) := by
    intro hjb
    have hw : wP (.W (b.extract j (j + 1))) = 1 := ext1 b j hjb
    have hw' : 0 < (b.extract j (j + 1)).size := by rw [ext1 b j hjb]; omega
    have hl := addP_len (mkL r0 put drop) (.W (b.extract j (j + 1)))
    have htt := addP_tot (mkL r0 put drop) (.W (b.extract j (j + 1)))
    have hpp := addP_pos (mkL r0 put drop) (.W (b.extract j (j + 1))) hp (by rw [hw]; omega)
    rw [addP_W r0 hh put drop _ hw'] at *
    rw [ba_append_nil]
    exact ih r0 (put ++ b.extract j (j + 1)) drop i (j + 1) O_ hi O_ hh hpp O_ O_
   by_cases hia : i < a.size
   ·rw [ip_ hia, ip_ hia]
    by_cases hk : j < b.size ∧ bt a (i : Int) = bt b (j : Int)
    ·rw [ip_ hk, ip_ hk]
     have hjb := hk.1
     have hl := addP_len (mkL r0 put drop) (.K 1)
     have htt := addP_tot (mkL r0 put drop) (.K 1)
     have hpp := addP_pos (mkL r0 put drop) (.K 1) hp (by show 0 < 1; omega)
     have hhd := addP_K_head r0 hh put drop 1 O_
     have hko := kO_enc r0 hh put drop 1 O_ O_ O_
     simp only [wP] at htt
     rw [show ((1 : Nat) : Int) = 1 from rfl] at hko
     rw [hko]
     have := ih (addP (mkL r0 put drop) (.K 1)) ⟨#[]⟩ ⟨#[]⟩ (i + 1) (j + 1) O_ O_ O_ hhd (by rw [mkL_nil]; exact hpp) (by rw [mkL_nil]; omega) (by rw [mkL_nil]; omega)
     rw [mkL_nil] at this
     exact this
    ·rw [iN_ hk, iN_ hk, ip_ ⟨by rw [tbl_length]; omega, by rw [tbl_row_length1 a b i O_]; omega, by rw [tbl_row_length a b i O_]; omega⟩, tbl_get1 a b i j O_ hj, tbl_get a b i j O_ hj]
     by_cases he : lc a b (i + 1) j = lc a b i j
     ·rw [ip_ he, ip_ (by rw [he])]
      have hw : wP (.D (a.extract i (i + 1))) = 1 := ext1 a i hia
      have hw' : 0 < (a.extract i (i + 1)).size := by rw [ext1 a i hia]; omega
      have hl := addP_len (mkL r0 put drop) (.D (a.extract i (i + 1)))
      have htt := addP_tot (mkL r0 put drop) (.D (a.extract i (i + 1)))
      have hpp := addP_pos (mkL r0 put drop) (.D (a.extract i (i + 1))) hp (by rw [hw]; omega)
      rw [addP_D r0 hh put drop _ hw'] at *
      rw [ba_append_nil]
      exact ih r0 put (drop ++ a.extract i (i + 1)) (i + 1) j O_ O_ hj hh hpp O_ O_
     ·have hjb : j < b.size := by
       by_cases hjb : j < b.size
       ·exact hjb
       ·exact absurd (by rw [lc_end_right a b _ j O_, lc_end_right a b _ j O_]) he
      rw [iN_ he, iN_ O_, ip_ hjb]
      exact put' hjb
   ·rw [iN_ hia, iN_ hia]
    exact put' (hx.resolve_left hia)
  ·rw [iN_ hx, iN_ hx, ip_ (by rw [hol]; omega), ends_enc]
theorem l9Diff_ev (a b : ByteArray) (ha : a.size ≤ 300) (hb : b.size ≤ 300) : ∀ (d : Nat) (r : List Pt) (i j : Nat), (a.size - i) + (b.size - j) < d → i ≤ a.size → j ≤ b.size → posP r →
  totP r + (a.size - i) + (b.size - j) ≤ 1000 → r.length + (a.size - i) + (b.size - j) ≤ 1000 →
  ∃ K, ∀ k, K ≤ k → spec_l9Diff.l0 k a b (tbl a b) (r.reverse.map encP) (i : Int) (j : Int) = some ((dP a b d r i j).reverse.map encP) := by
 intro d
 induction d with
 | zero => intro r i j hd; omega
 | succ d ih =>
  intro r i j hd hi hj hp ht hlen
  have hok := ok_all hp (by omega : totP r ≤ 1000000)
  have wi : Aside0 (wrap64 ((i : Int) + 1) = ((i + 1 : Nat) : Int)) := ⟨by rw [w64 O_ O_]; omega⟩
  have wj : Aside0 (wrap64 ((j : Int) + 1) = ((j + 1 : Nat) : Int)) := ⟨by rw [w64 O_ O_]; omega⟩
  unfold dP
  by_cases hx : i < a.size ∨ j < b.size
  ·rw [ip_ hx]
   have go1 : ∀ (x : Bool) (res : Option (List S44)) (K : Nat), x = (decide (i < a.size) && (decide (j < b.size) && decide (bt a (i : Int) = bt b (j : Int)))) → (∀ k, K ≤ k → spec_l9Diff.j2 k a b (tbl a b) (r.reverse.map encP) (i : Int) (j : Int) x = res) → ∀ k, K + 2 ≤ k → spec_l9Diff.l0 k a b (tbl a b) (r.reverse.map encP) (i : Int) (j : Int) = res := by
    intro x res K hxe h k hk
    obtain ⟨k, rfl⟩ : ∃ m, k = m + 2 := ⟨k - 2, O_⟩
    have hb1 : (if (i : Int) < (a.size : Int) then (spec_l9Diff.j1 (k + 1) a b (tbl a b) (r.reverse.map encP) (i : Int) (j : Int) true) else (spec_l9Diff.j1 (k + 1) a b (tbl a b) (r.reverse.map encP) (i : Int) (j : Int) (decide ((j : Int) < (b.size : Int))))) = spec_l9Diff.j1 (k + 1) a b (tbl a b) (r.reverse.map encP) (i : Int) (j : Int) true := by
     by_cases hia : i < a.size
     ·rw [ip_ O_]
     ·rw [iN_ O_, decide_eq_true (by have := hx.resolve_left hia; omega)]
    simp only [spec_l9Diff.l0]
    rw [hb1]
    simp only [spec_l9Diff.j1, if_true]
    have hk' := h k O_
    by_cases hia : i < a.size
    ·rw [ip_ O_]
     by_cases hjb : j < b.size
     ·rw [ip_ O_, ip_ O_, ip_ O_]
      rw [← hk', hxe]
      congr 1
      simp [hia, hjb]
      by_cases e : bt a (i : Int) = bt b (j : Int) <;> simp [e]
     ·rw [iN_ O_, ← hk', hxe]
      congr 1
      simp [hjb]
    ·rw [iN_ O_, ← hk', hxe]
     congr 1
     simp [hia]
   have put' : j < b.size → ∃ K, ∀ k, K ≤ k → spec_l9Diff.j3 k a b (tbl a b) (r.reverse.map encP) (i : Int) (j : Int) false = some ((dP a b d (addP r (.W (b.extract j (j + 1)))) i (j + 1)).reverse.map encP) := by
    intro hjb
    have hw : wP (.W (b.extract j (j + 1))) = 1 := ext1 b j hjb
    have hl := addP_len r (.W (b.extract j (j + 1)))
    have htt := addP_tot r (.W (b.extract j (j + 1)))
    have hpp := addP_pos r (.W (b.extract j (j + 1))) hp (by rw [hw]; omega)
    obtain ⟨K, hK⟩ := ih (addP r (.W (b.extract j (j + 1)))) i (j + 1) O_ hi O_ hpp O_ O_
    refine ⟨K + 10, fun k hk => ?_⟩
    obtain ⟨k, rfl⟩ : ∃ m, k = m + 6 := ⟨k - 6, O_⟩
    have ha3 := l3Add_enc k r O_ hok (.W (b.extract j (j + 1))) (okP_ofw (by rw [hw]; omega) (by rw [hw]; omega))
    simp only [spec_l9Diff.j3, Bool.false_eq_true, if_false, wj.out]
    rw [ip_ O_, ip_ O_, ip_ O_, tN_, tN_]
    simp only [encP] at ha3
    rw [ha3, bs_]
    exact hK (k + 5) O_
   by_cases hia : i < a.size
   ·rw [ip_ hia]
    by_cases hk : j < b.size ∧ bt a (i : Int) = bt b (j : Int)
    ·rw [ip_ hk]
     have hjb := hk.1
     have hl := addP_len r (.K 1)
     have htt := addP_tot r (.K 1)
     have hpp := addP_pos r (.K 1) hp (by show 0 < 1; omega)
     simp only [wP] at htt
     obtain ⟨K, hK⟩ := ih (addP r (.K 1)) (i + 1) (j + 1) O_ O_ O_ hpp O_ O_
     refine ⟨K + 12, go1 true _ (K + 10) (by simp [hia, hk.1, hk.2]) (fun k hk2 => ?_)⟩
     obtain ⟨k, rfl⟩ : ∃ m, k = m + 6 := ⟨k - 6, O_⟩
     have ha3 := l3Add_enc k r O_ hok (.K 1) (okP_ofw (by show 0 < 1; omega) (by show 1 ≤ 1000000; omega))
     simp only [encP] at ha3
     rw [show ((1 : Nat) : Int) = 1 from rfl] at ha3
     simp only [spec_l9Diff.j2, if_true, wi.out, wj.out]
     rw [ha3, bs_]
     exact hK (k + 5) O_
    ·rw [iN_ hk]
     have hxf : false = (decide (i < a.size) && (decide (j < b.size) && decide (bt a (i : Int) = bt b (j : Int)))) := by
      by_cases hjb : j < b.size
      ·have : ¬ bt a (i : Int) = bt b (j : Int) := fun e => hk ⟨hjb, e⟩
       simp [this]
      ·simp [hjb]
     by_cases he : lc a b (i + 1) j = lc a b i j
     ·rw [ip_ he]
      have hw : wP (.D (a.extract i (i + 1))) = 1 := ext1 a i hia
      have hl := addP_len r (.D (a.extract i (i + 1)))
      have htt := addP_tot r (.D (a.extract i (i + 1)))
      have hpp := addP_pos r (.D (a.extract i (i + 1))) hp (by rw [hw]; omega)
      obtain ⟨K, hK⟩ := ih (addP r (.D (a.extract i (i + 1)))) (i + 1) j O_ O_ hj hpp O_ O_
      have j3 : ∀ k, K + 10 ≤ k → spec_l9Diff.j3 k a b (tbl a b) (r.reverse.map encP) (i : Int) (j : Int) true = some ((dP a b d (addP r (.D (a.extract i (i + 1)))) (i + 1) j).reverse.map encP) := by
       intro k hk2
       obtain ⟨k, rfl⟩ : ∃ m, k = m + 6 := ⟨k - 6, O_⟩
       have ha3 := l3Add_enc k r O_ hok (.D (a.extract i (i + 1))) (okP_ofw (by rw [hw]; omega) (by rw [hw]; omega))
       simp only [encP] at ha3
       simp only [spec_l9Diff.j3, if_true, wi.out]
       rw [ip_ O_, ip_ O_, ip_ O_, tN_, tN_, ha3, bs_]
       exact hK (k + 5) O_
      refine ⟨K + 13, go1 false _ (K + 11) hxf (fun k hk2 => ?_)⟩
      obtain ⟨k, rfl⟩ : ∃ m, k = m + 1 := ⟨k - 1, O_⟩
      simp only [spec_l9Diff.j2, Bool.false_eq_true, if_false, wi.out]
      by_cases hjb : j = b.size
      ·rw [ip_ O_]
       exact j3 k O_
      ·rw [iN_ O_, ip_ O_, ip_ O_, ip_ (by rw [tbl_length]; omega), ip_ O_, ip_ (by rw [tbl_row_length a b (i + 1) O_]; omega), ip_ O_, ip_ (by rw [tbl_length]; omega), ip_ (by rw [tbl_row_length a b i O_]; omega), tbl_get a b (i + 1) j O_ hj, tbl_get a b i j O_ hj, he, beq_self_eq_true]
       exact j3 k O_
     ·have hjb : j < b.size := by
       by_cases hjb : j < b.size
       ·exact hjb
       ·exact absurd (by rw [lc_end_right a b _ j O_, lc_end_right a b _ j O_]) he
      rw [iN_ he]
      obtain ⟨K, hK⟩ := put' hjb
      refine ⟨K + 13, go1 false _ (K + 11) hxf (fun k hk2 => ?_)⟩
      obtain ⟨k, rfl⟩ : ∃ m, k = m + 1 := ⟨k - 1, O_⟩
      simp only [spec_l9Diff.j2, Bool.false_eq_true, if_false, wi.out]
      rw [iN_ O_, ip_ O_, ip_ O_, ip_ (by rw [tbl_length]; omega), ip_ O_, ip_ (by rw [tbl_row_length a b (i + 1) O_]; omega), ip_ O_, ip_ (by rw [tbl_length]; omega), ip_ (by rw [tbl_row_length a b i O_]; omega), tbl_get a b (i + 1) j O_ hj, tbl_get a b i j O_ hj, beq_eq_false_iff_ne.mpr O_]
      exact hK k O_
   ·rw [iN_ hia]
    have hjb := hx.resolve_left hia
    obtain ⟨K, hK⟩ := put' hjb
    refine ⟨K + 13, go1 false _ (K + 11) (by simp [hia]) (fun k hk2 => ?_)⟩
    obtain ⟨k, rfl⟩ : ∃ m, k = m + 1 := ⟨k - 1, O_⟩
    simp only [spec_l9Diff.j2, Bool.false_eq_true, if_false]
    rw [iN_ O_, iN_ O_]
    exact hK k O_
  ·rw [iN_ hx]
   refine ⟨2, fun k hk => ?_⟩
   obtain ⟨k, rfl⟩ : ∃ m, k = m + 2 := ⟨k - 2, O_⟩
   simp only [spec_l9Diff.l0]
   rw [iN_ O_, decide_eq_false O_]
   simp only [spec_l9Diff.j1, Bool.false_eq_true, if_false]
def mkN : Pt → Nat
 | .K n => n
 | .W w => w.size
 | .D _ => 0
def mks : List Pt → Nat
 | [] => 0
 | q :: r => mkN q + mks r
theorem mks_add (r : List Pt) (q : Pt) : mks (addP r q) = mks r + mkN q := by
 unfold addP
 split <;> simp [mks, mkN, zA_] <;> omega
theorem mks_addQ (r : List Pt) (q : Pt) : mks (addQ r q) = mks r + mkN q := by
 unfold addQ
 split
 ·rename_i h
  have : mkN q = 0 := by cases q <;> simp_all [mkN, massP]
  omega
 ·exact mks_add r q
theorem mks_fold : ∀ (L r : List Pt), mks (L.foldl addQ r) = mks r + mks L
 | [], r => by simp [mks]
 | q :: L, r => by rw [List.foldl_cons, mks_fold L, mks_addQ]; simp only [mks]; omega
theorem mks_append : ∀ (a b : List Pt), mks (a ++ b) = mks a + mks b
 | [], b => by simp [mks]
 | q :: a, b => by rw [List.cons_append]; simp only [mks]; rw [mks_append a b]; omega
theorem mks_rev : ∀ (a : List Pt), mks a.reverse = mks a
 | [] => rfl
 | q :: a => by rw [List.reverse_cons, mks_append, mks_rev a]; simp only [mks]; omega
theorem mass_append : ∀ (a b : List Pt), mass (a ++ b) = mass a + mass b
 | [], b => by simp [mass]
 | q :: a, b => by rw [List.cons_append]; simp only [mass]; rw [mass_append a b]; omega
theorem mass_rev : ∀ (a : List Pt), mass a.reverse = mass a
 | [] => rfl
 | q :: a => by rw [List.reverse_cons, mass_append, mass_rev a]; simp only [mass]; omega
theorem enc_small (r : List Pt) (ht : totP r ≤ 1000000) (hl : r.length ≤ 1000000) : smallL (r.reverse.map encP) := by
 refine ⟨by simp; omega, fun x hx => ?_⟩
 obtain ⟨q, hq, rfl⟩ := List.mem_map.1 hx
 have := wP_le_tot r q (List.mem_reverse.1 hq)
 have z : (⟨#[]⟩ : ByteArray).size = 0 := rfl
 cases q with
 | K n => exact ⟨by show (⟨#[]⟩ : ByteArray).size ≤ _; omega, by show (⟨#[]⟩ : ByteArray).size ≤ _; omega⟩
 | W w => simp only [wP] at this; exact ⟨by show w.size ≤ _; omega, by show (⟨#[]⟩ : ByteArray).size ≤ _; omega⟩
 | D d => simp only [wP] at this; exact ⟨by show (⟨#[]⟩ : ByteArray).size ≤ _; omega, by show d.size ≤ _; omega⟩
def diffR (a b : ByteArray) : List Pt := dP a b (a.size + b.size + 1) [] 0 0
theorem diffR_inv (a b : ByteArray) : posP (diffR a b) ∧ totP (diffR a b) ≤ a.size + b.size ∧ (diffR a b).length ≤ a.size + b.size := by
 obtain ⟨h1, h2, h3⟩ := dP_inv a b (a.size + b.size + 1) [] 0 0 (Nat.zero_le _) (Nat.zero_le _) (fun x hx => by cases hx)
 simp only [totP, List.length_nil] at h2 h3
 exact ⟨h1, by unfold diffR; omega, by unfold diffR; omega⟩
theorem tot_mass : ∀ r : List Pt, totP r = mass r
 | [] => rfl
 | q :: r => by simp only [totP, mass, tot_mass r]; cases q <;> rfl
def tkN : Pt → Nat
 | .K n => n
 | .W _ => 0
 | .D d => d.size
def tks : List Pt → Nat
 | [] => 0
 | q :: r => tkN q + tks r
def kcut (n : Nat) : Pt → Pt
 | .K _ => .K n
 | .D d => .D (d.extract 0 n)
 | .W w => .W w
def krst (n : Nat) : Pt → List Pt
 | .K a => if n = a then [] else [.K (a - n)]
 | .D d => if n = d.size then [] else [.D (d.extract n d.size)]
 | .W _ => []
theorem krst_K (n a : Nat) : krst n (.K a) = if n = a then [] else [.K (a - n)] := rfl
theorem krst_D (n : Nat) (d : ByteArray) : krst n (.D d) = if n = d.size then [] else [.D (d.extract n d.size)] := rfl
theorem kcut_K (n a : Nat) : kcut n (.K a) = .K n := rfl
theorem kcut_D (n : Nat) (d : ByteArray) : kcut n (.D d) = .D (d.extract 0 n) := rfl
def isK : Pt → Prop
 | .K _ => True
 | _ => False
instance : DecidablePred isK := fun q => match q with | .K _ => isTrue trivial | .W _ => isFalse id | .D _ => isFalse id
def notW : Pt → Prop
 | .W _ => False
 | _ => True
theorem tk_notW {q : Pt} (h : notW q) : tkN q = massP q := by cases q <;> first | rfl | exact h.elim
theorem tks_append : ∀ (a b : List Pt), tks (a ++ b) = tks a + tks b
 | [], b => by simp [tks]
 | q :: a, b => by simp only [List.cons_append, tks, tks_append a b]; omega
theorem krst_tks (n : Nat) (q : Pt) (h : notW q) (hn : n ≤ massP q) : tks (krst n q) = massP q - n ∧ mass (krst n q) = massP q - n ∧ (krst n q).length ≤ 1 ∧ (∀ x ∈ krst n q, 0 < massP x) := by
 cases q with
 | W w => exact h.elim
 | K a =>
  have hn' : n ≤ a := hn
  rw [krst_K]
  by_cases e : n = a
  ·rw [ip_ e]; subst e
   exact ⟨by show 0 = n - n; omega, by show 0 = n - n; omega, Nat.zero_le _, fun x hx => by cases hx⟩
  ·rw [iN_ e]
   refine ⟨rfl, rfl, Nat.le_refl _, fun x hx => ?_⟩
   obtain rfl := List.mem_singleton.1 hx
   show 0 < a - n; omega
 | D d =>
  have hn' : n ≤ d.size := hn
  rw [krst_D]
  by_cases e : n = d.size
  ·rw [ip_ e]
   exact ⟨by show 0 = d.size - n; omega, by show 0 = d.size - n; omega, Nat.zero_le _, fun x hx => by cases hx⟩
  ·have hs : (d.extract n d.size).size = d.size - n := by rw [zE_]; omega
   rw [iN_ e]
   refine ⟨by show (d.extract n d.size).size + 0 = _; rw [hs]; rfl, by show (d.extract n d.size).size + 0 = _; rw [hs]; rfl, Nat.le_refl _, fun x hx => ?_⟩
   obtain rfl := List.mem_singleton.1 hx
   show 0 < (d.extract n d.size).size; omega
theorem kcut_mass (n : Nat) (q : Pt) (h : notW q) (hn : n ≤ massP q) : massP (kcut n q) = n := by
 cases q with
 | W w => exact h.elim
 | K a => rfl
 | D d =>
  have hn' : n ≤ d.size := hn
  show (d.extract 0 n).size = n
  rw [zE_]; omega
theorem psz_enc (q : Pt) (h : massP q ≤ 1000000) : psz (encP q) = (massP q : Int) := by
 cases q with
 | K a =>
  have h' : a ≤ 1000000 := h
  show wrap64 (wrap64 ((a : Int) + 0) + 0) = (a : Int)
  have e : wrap64 ((a : Int) + 0) = (a : Int) := (w64 O_ O_).trans O_
  rw [e, w64 O_ O_]; omega
 | W w =>
  have h' : w.size ≤ 1000000 := h
  show wrap64 (wrap64 (0 + (w.size : Int)) + 0) = (w.size : Int)
  have e : wrap64 (0 + (w.size : Int)) = (w.size : Int) := (w64 O_ O_).trans O_
  rw [e, w64 O_ O_]; omega
 | D w =>
  have h' : w.size ≤ 1000000 := h
  show wrap64 (wrap64 (0 + 0) + (w.size : Int)) = (w.size : Int)
  have e : wrap64 ((0 : Int) + 0) = 0 := (w64 O_ O_).trans O_
  rw [e, w64 O_ O_]; omega
theorem ext_nil (d : ByteArray) (n : Nat) (hn : n ≤ d.size) : (d.extract n d.size).toList = [] ↔ n = d.size := by
 rw [size0_toList, zE_]; omega
theorem cutf_enc (n : Nat) (q : Pt) (l : List Pt) (hw : notW q) (h0 : 0 < n) (hn : n ≤ massP q) (hm : massP q ≤ 1000000) (hl : l.length ≤ 1000000) : cutf n ((q :: l).map encP) = some (encP (kcut n q), (krst n q ++ l).map encP) := by
 have hl' : (l.map encP).length ≤ 1000000000 := by rw [lM_]; omega
 cases q with
 | W w => exact hw.elim
 | K a =>
  have hn' : n ≤ a := hn
  have hm' : a ≤ 1000000 := hm
  show cutf n ((⟨(a : Int), ⟨#[]⟩, ⟨#[]⟩⟩ : S44) :: l.map encP) = _
  unfold cutf
  dsimp only
  rw [ip_ ⟨rfl, hl'⟩, ip_ O_, ip_ ⟨rfl, O_, h0, O_⟩]
  rw [krst_K, kcut_K]
  by_cases e : n = a
  ·rw [ip_ e, ip_ O_]; rfl
  ·rw [iN_ e, iN_ O_, show (a : Int) - (n : Int) = ((a - n : Nat) : Int) by omega]; rfl
 | D d =>
  have hn' : n ≤ d.size := hn
  have hm' : d.size ≤ 1000000 := hm
  show cutf n ((⟨0, ⟨#[]⟩, d⟩ : S44) :: l.map encP) = _
  unfold cutf
  dsimp only
  rw [ip_ ⟨rfl, hl'⟩, iN_ O_, ip_ ⟨rfl, hn', O_⟩]
  rw [krst_D, kcut_D]
  by_cases e : n = d.size
  ·rw [ip_ e, ip_ ((ext_nil d n hn').2 e)]; rfl
  ·rw [iN_ e, iN_ (fun c => e ((ext_nil d n hn').1 c))]; rfl
theorem takef_enc (n : Nat) (q : Pt) (l : List Pt) (hw : notW q) (h0 : 0 < n) (hn : n ≤ massP q) (hm : massP q ≤ 1000000) (hl : l.length ≤ 1000000) : takef (n : Int) ((q :: l).map encP) = some (encP (kcut n q), (krst n q ++ l).map encP) := by
 have hl' : (l.map encP).length ≤ 1000000000 := by rw [lM_]; omega
 have hz := psz_enc q hm
 rw [List.map_cons]
 unfold takef
 dsimp only
 rw [hz]
 cases q with
 | W w => exact hw.elim
 | K a =>
  have hn' : n ≤ a := hn
  have hm' : a ≤ 1000000 := hm
  rw [krst_K, kcut_K]
  by_cases e : n = a
  ·rw [ip_ (by show (n : Int) = (a : Int); omega), ip_ e, e]; rfl
  ·rw [iN_ (by show ¬ (n : Int) = (a : Int); omega), iN_ e, ip_ ⟨rfl, hl', O_⟩]
   refine (ip_ (show (0 : Int) < (a : Int) by omega)).trans ((ip_ (show _ ∧ _ ∧ _ from ⟨rfl, by show (a : Int) ≤ _; omega, by show (n : Int) < (a : Int); omega⟩)).trans ?_)
   rw [show (encP (.K a)).f0 - (n : Int) = ((a - n : Nat) : Int) by show (a : Int) - (n : Int) = _; omega]; rfl
 | D d =>
  have hn' : n ≤ d.size := hn
  have hm' : d.size ≤ 1000000 := hm
  rw [krst_D, kcut_D]
  by_cases e : n = d.size
  ·rw [ip_ (by show (n : Int) = (d.size : Int); omega), ip_ e, e, ba_extract_all]; rfl
  ·rw [iN_ (by show ¬ (n : Int) = (d.size : Int); omega), iN_ e, ip_ ⟨rfl, hl', O_⟩]
   refine (iN_ (show ¬ (0 : Int) < 0 by omega)).trans ((ip_ (show _ ∧ _ ∧ _ from ⟨rfl, by show (n : Int) < (d.size : Int); omega, by show d.size ≤ _; omega⟩)).trans ?_)
   rw [tN_]; rfl
def MSt (s : MS) (r : List Pt) : Prop := ∃ r0 put drop, s = ⟨r0.reverse.map encP, put, drop⟩ ∧ headK r0 ∧ mkL r0 put drop = r ∧ ∀ x ∈ r, 0 < massP x
theorem ms0_st : MSt ms0 [] := ⟨[], ⟨#[]⟩, ⟨#[]⟩, rfl, trivial, mkL_nil [], fun x hx => by cases hx⟩
theorem mkL_le (r0 : List Pt) (put drop : ByteArray) : mass r0 ≤ mass (mkL r0 put drop) ∧ put.size ≤ mass (mkL r0 put drop) ∧ drop.size ≤ mass (mkL r0 put drop) ∧ r0.length ≤ (mkL r0 put drop).length := by
 have hrt : ∀ l : List Pt, mass r0 ≤ mass (l ++ r0) := by
  intro l
  induction l with
  | nil => exact Nat.le_refl _
  | cons q l ih => simp only [List.cons_append, mass]; omega
 refine ⟨?_, ?_, ?_, ?_⟩
 ·unfold mkL; rw [← List.append_assoc]; exact hrt _
 ·by_cases h1 : put.toList = []
  ·have := (size0_toList put).1 h1; omega
  ·exact mass_mem (x := .W put) (by unfold mkL wL; rw [iN_ h1]; simp)
 ·by_cases h1 : drop.toList = []
  ·have := (size0_toList drop).1 h1; omega
  ·exact mass_mem (x := .D drop) (by unfold mkL dL; rw [iN_ h1]; simp)
 ·unfold mkL; simp only [lA_]; omega
theorem mK_st {s : MS} {r : List Pt} (h : MSt s r) (n : Nat) (hn : 0 < n) (hm : mass r + n ≤ 1000000) : ∃ s', mK s (n : Int) = some s' ∧ MSt s' (addP r (.K n)) := by
 obtain ⟨r0, put, drop, rfl, hh, rfl, hp⟩ := h
 obtain ⟨b1, b2, b3, b4⟩ := mkL_le r0 put drop
 have hln := mass_len hp
 have hi : ¬ ((n : Nat) : Int) = 0 := by omega
 have hol : (r0.reverse.map encP).length = r0.length := by simp
 have e1 : kS put (n : Int) = ⟨#[]⟩ := iN_ hi
 have e2 : kS drop (n : Int) = ⟨#[]⟩ := iN_ hi
 have e3 := kO_enc r0 hh put drop n hn O_ (by have : totP r0 = mass r0 := tot_mass r0; omega)
 refine ⟨⟨(addP (mkL r0 put drop) (.K n)).reverse.map encP, ⟨#[]⟩, ⟨#[]⟩⟩, ?_, _, _, _, rfl, addP_K_head r0 hh put drop n hn, mkL_nil _, pos_add _ _ hp hn⟩
 unfold mK
 rw [ip_ (by show (r0.reverse.map encP).length + 3 ≤ _; omega)]
 show some (⟨kO (r0.reverse.map encP) put drop (n : Int), kS put (n : Int), kS drop (n : Int)⟩ : MS) = _
 rw [e1, e2, e3]
theorem mT_st {s : MS} {r : List Pt} (h : MSt s r) (q : Pt) (hq : 0 < massP q) (hm : mass r + massP q ≤ 1000000) : ∃ s', mT s (encP q) = some s' ∧ MSt s' (addP r q) := by
 obtain ⟨r0, put, drop, rfl, hh, rfl, hp⟩ := h
 obtain ⟨b1, b2, b3, b4⟩ := mkL_le r0 put drop
 have hln := mass_len hp
 have hol : (r0.reverse.map encP).length = r0.length := by simp
 have z : (⟨#[]⟩ : ByteArray).size = 0 := rfl
 cases q with
 | K n =>
  have hq' : 0 < n := hq
  have hm' : mass (mkL r0 put drop) + n ≤ 1000000 := hm
  have hi : ¬ ((n : Nat) : Int) = 0 := by omega
  have e1 : kS put (encP (.K n)).f0 = ⟨#[]⟩ := iN_ hi
  have e2 : kS drop (encP (.K n)).f0 = ⟨#[]⟩ := iN_ hi
  have e3 : kO (r0.reverse.map encP) put drop (encP (.K n)).f0 = (addP (mkL r0 put drop) (.K n)).reverse.map encP := kO_enc r0 hh put drop n hq' O_ (by have : totP r0 = mass r0 := tot_mass r0; omega)
  refine ⟨⟨(addP (mkL r0 put drop) (.K n)).reverse.map encP, ⟨#[]⟩, ⟨#[]⟩⟩, ?_, _, _, _, rfl, addP_K_head r0 hh put drop n hq', mkL_nil _, pos_add _ _ hp hq⟩
  unfold mT
  dsimp only
  rw [e1, e2, e3, show (encP (.K n)).f1 = ⟨#[]⟩ from rfl, show (encP (.K n)).f2 = ⟨#[]⟩ from rfl, ip_ ⟨O_, O_, O_⟩, ba_append_nil]
 | W w =>
  have hq' : 0 < w.size := hq
  have hm' : mass (mkL r0 put drop) + w.size ≤ 1000000 := hm
  have e1 : kS put (encP (.W w)).f0 = put := rfl
  have e2 : kS drop (encP (.W w)).f0 = drop := rfl
  have e3 : kO (r0.reverse.map encP) put drop (encP (.W w)).f0 = r0.reverse.map encP := rfl
  have e4 := addP_W r0 hh put drop w hq'
  refine ⟨⟨r0.reverse.map encP, put ++ w, drop⟩, ?_, r0, put ++ w, drop, rfl, hh, e4.symm, pos_add _ _ hp hq⟩
  unfold mT
  dsimp only
  rw [e1, e2, e3, show (encP (.W w)).f1 = w from rfl, show (encP (.W w)).f2 = ⟨#[]⟩ from rfl, ip_ ⟨O_, O_, O_⟩, ba_append_nil]
 | D w =>
  have hq' : 0 < w.size := hq
  have hm' : mass (mkL r0 put drop) + w.size ≤ 1000000 := hm
  have e1 : kS put (encP (.D w)).f0 = put := rfl
  have e2 : kS drop (encP (.D w)).f0 = drop := rfl
  have e3 : kO (r0.reverse.map encP) put drop (encP (.D w)).f0 = r0.reverse.map encP := rfl
  have e4 := addP_D r0 hh put drop w hq'
  refine ⟨⟨r0.reverse.map encP, put, drop ++ w⟩, ?_, r0, put, drop ++ w, rfl, hh, e4.symm, pos_add _ _ hp hq⟩
  unfold mT
  dsimp only
  rw [e1, e2, e3, show (encP (.D w)).f1 = ⟨#[]⟩ from rfl, show (encP (.D w)).f2 = w from rfl, ip_ ⟨O_, O_, O_⟩, ba_append_nil]
theorem mE_st {s : MS} {r : List Pt} (h : MSt s r) (hm : mass r ≤ 1000000) : mE s = some (r.reverse.map encP) := by
 obtain ⟨r0, put, drop, rfl, hh, rfl, hp⟩ := h
 obtain ⟨b1, b2, b3, b4⟩ := mkL_le r0 put drop
 have hln := mass_len hp
 have hol : (r0.reverse.map encP).length = r0.length := by simp
 unfold mE
 dsimp only
 rw [ip_ O_, ends_enc]
theorem enc_K (n : Nat) : encP (.K n) = ⟨(n : Int), ⟨#[]⟩, ⟨#[]⟩⟩ := rfl
theorem enc_W (w : ByteArray) : encP (.W w) = ⟨0, w, ⟨#[]⟩⟩ := rfl
theorem rd_enc (q : Pt) (l : List Pt) : rd_T44 ((q :: l).map encP) 0 = encP q := rfl
theorem enc_f1_nil {q : Pt} (h : notW q) : (encP q).f1.toList = [] := by
 cases q with
 | W w => exact h.elim
 | K a => exact nil_toList
 | D d => exact nil_toList
theorem head_notW (xs : List Pt) (h : ∀ w l, xs ≠ .W w :: l) : (rd_T44 (xs.map encP) 0).f1.toList = [] := by
 cases xs with
 | nil => exact nil_toList
 | cons q l =>
  rw [rd_enc]
  refine enc_f1_nil ?_
  cases q with
  | W w => exact (h w l rfl).elim
  | K a => trivial
  | D d => trivial
theorem isK_f0 (n : Nat) (q : Pt) (hw : notW q) (h0 : 0 < n) : (0 < (encP (kcut n q)).f0) ↔ isK q := by
 cases q with
 | W w => exact hw.elim
 | K a => exact ⟨fun _ => trivial, fun _ => by show (0 : Int) < (n : Int); omega⟩
 | D d => exact ⟨fun h => absurd h (by show ¬ (0 : Int) < 0; omega), fun h => h.elim⟩
theorem pos_app {a b : List Pt} (ha : ∀ x ∈ a, 0 < massP x) (hb : ∀ x ∈ b, 0 < massP x) : ∀ x ∈ a ++ b, 0 < massP x := fun x hx => (List.mem_append.1 hx).elim (ha x) (hb x)
theorem mass_app : ∀ (a b : List Pt), mass (a ++ b) = mass a + mass b
 | [], b => by simp [mass]
 | q :: a, b => by simp only [List.cons_append, mass, mass_app a b]; omega
theorem l3AddS (k : Nat) (hk : 5 ≤ k) (r : List Pt) (hr : ∀ x ∈ r, 0 < massP x) (q : Pt) (hq : 0 < massP q) (hm : mass r + massP q ≤ 1000000) :
  spec_l3Add.f k (r.reverse.map encP) (encP q).f0 (encP q).f1 (encP q).f2 = some ((addP r q).reverse.map encP) := by
 obtain ⟨k, rfl⟩ : ∃ m, k = m + 5 := ⟨k - 5, O_⟩
 have := l3AddQ k r hr q hm
 unfold addQ at this
 rw [iN_ O_] at this
 exact this
theorem takef_W (w : ByteArray) (l : List Pt) : takef (psz (encP (.W w))) ((.W w :: l : List Pt).map encP) = some (encP (.W w), l.map encP) := by
 rw [List.map_cons]
 unfold takef
 dsimp only
 rw [ip_ rfl]
def TrOut (j0 : Nat) (xs ys : List Pt) (m o : MS) (ra rb : List Pt) : Prop := ∃ ra' rb' m' o', MSt m' ra' ∧ MSt o' rb' ∧ mass ra' ≤ mass ra + mass xs + mass ys ∧ mass rb' ≤ mass rb + mass xs + mass ys ∧
  (∀ j, j0 < j → itr j (xs.map encP) (ys.map encP) m o = some (m', o')) ∧ (∀ k j, 5 ≤ k → j0 < j → str k j (xs.map encP) (ys.map encP) (ra.reverse.map encP) (rb.reverse.map encP) = some (ra'.reverse.map encP, rb'.reverse.map encP))
theorem tr_both : ∀ (N : Nat) (xs ys ra rb : List Pt) (m o : MS), xs.length + ys.length + tks xs + tks ys ≤ N → (∀ x ∈ xs, 0 < massP x) → (∀ x ∈ ys, 0 < massP x) → tks xs = tks ys →
  mass ra + mass xs + mass ys ≤ 1000000 → mass rb + mass xs + mass ys ≤ 1000000 → MSt m ra → MSt o rb → TrOut N xs ys m o ra rb := by
 intro N
 induction N with
 | zero =>
  intro xs ys ra rb m o hN hx hy ht hA hB hm ho
  obtain rfl : xs = [] := List.eq_nil_of_length_eq_zero O_
  obtain rfl : ys = [] := List.eq_nil_of_length_eq_zero O_
  refine ⟨ra, rb, m, o, hm, ho, O_, O_, fun j hj => ?_, fun k j hk hj => ?_⟩
  ·obtain ⟨j, rfl⟩ : ∃ i, j = i + 1 := ⟨j - 1, O_⟩
   rfl
  ·obtain ⟨j, rfl⟩ : ∃ i, j = i + 1 := ⟨j - 1, O_⟩
   rfl
 | succ N ih =>
  intro xs ys ra rb m o hN hx hy ht hA hB hm ho
  have pa : ∀ x ∈ ra, 0 < massP x := by obtain ⟨_, _, _, _, _, _, h⟩ := hm; exact h
  have pb : ∀ x ∈ rb, 0 < massP x := by obtain ⟨_, _, _, _, _, _, h⟩ := ho; exact h
  by_cases hxw : ∃ w l, xs = .W w :: l
  ·obtain ⟨w, l, rfl⟩ := hxw
   have hw0 : 0 < w.size := hx (.W w) List.mem_cons_self
   have hwn : ¬ (encP (.W w)).f1.toList = [] := by show ¬ w.toList = []; rw [size0_toList]; omega
   have hx' : ∀ x ∈ l, 0 < massP x := fun x h => hx x (List.mem_cons_of_mem _ h)
   have e1 : mass (.W w :: l) = w.size + mass l := rfl
   have e2 : tks (.W w :: l) = tks l := by show 0 + tks l = _; omega
   have e3 : (Pt.W w :: l).length = l.length + 1 := List.length_cons
   rw [e1] at hA hB
   rw [e2] at ht hN
   rw [e3] at hN
   obtain ⟨m1, hm1, hm1'⟩ := mT_st hm (.W w) hw0 (by show mass ra + w.size ≤ _; omega)
   obtain ⟨o1, ho1, ho1'⟩ := mK_st ho w.size hw0 O_
   have a1 := mass_add ra (.W w)
   have a2 := mass_add rb (.K w.size)
   have a1' : mass (addP ra (.W w)) = mass ra + w.size := a1
   have a2' : mass (addP rb (.K w.size)) = mass rb + w.size := a2
   obtain ⟨ra', rb', m', o', q1, q2, q3, q4, q5, q6⟩ := ih l ys (addP ra (.W w)) (addP rb (.K w.size)) m1 o1 O_ hx' hy ht O_ O_ hm1' ho1'
   refine ⟨ra', rb', m', o', q1, q2, by rw [e1]; omega, by rw [e1]; omega, fun j hj => ?_, fun k j hk hj => ?_⟩
   ·obtain ⟨j, rfl⟩ : ∃ i, j = i + 1 := ⟨j - 1, O_⟩
    unfold itr
    rw [ip_ (Or.inl (by simp)), rd_enc, ip_ hwn, hm1, bs_]
    rw [show (encP (.W w)).f1 = w from rfl, ho1, bs_]
    exact q5 j O_
   ·obtain ⟨j, rfl⟩ : ∃ i, j = i + 1 := ⟨j - 1, O_⟩
    unfold str
    rw [ip_ (Or.inl (by simp)), rd_enc, ip_ hwn, takef_W, bs_]
    dsimp only
    rw [l3AddS k hk ra pa (.W w) hw0 (by show mass ra + w.size ≤ _; omega), bs_]
    have := l3AddS k hk rb pb (.K w.size) hw0 (by show mass rb + w.size ≤ _; omega)
    rw [enc_K] at this
    rw [show (encP (.W w)).f1 = w from rfl, this, bs_]
    exact q6 k j hk O_
  have hxn := head_notW xs (fun w l e => hxw ⟨w, l, e⟩)
  by_cases hyw : ∃ w l, ys = .W w :: l
  ·obtain ⟨w, l, rfl⟩ := hyw
   have hw0 : 0 < w.size := hy (.W w) List.mem_cons_self
   have hwn : ¬ (encP (.W w)).f1.toList = [] := by show ¬ w.toList = []; rw [size0_toList]; omega
   have hy' : ∀ x ∈ l, 0 < massP x := fun x h => hy x (List.mem_cons_of_mem _ h)
   have e1 : mass (.W w :: l) = w.size + mass l := rfl
   have e2 : tks (.W w :: l) = tks l := by show 0 + tks l = _; omega
   have e3 : (Pt.W w :: l).length = l.length + 1 := List.length_cons
   rw [e1] at hA hB
   rw [e2] at ht hN
   rw [e3] at hN
   obtain ⟨o1, ho1, ho1'⟩ := mT_st ho (.W w) hw0 (by show mass rb + w.size ≤ _; omega)
   obtain ⟨m1, hm1, hm1'⟩ := mK_st hm w.size hw0 O_
   have a1' : mass (addP rb (.W w)) = mass rb + w.size := mass_add rb (.W w)
   have a2' : mass (addP ra (.K w.size)) = mass ra + w.size := mass_add ra (.K w.size)
   obtain ⟨ra', rb', m', o', q1, q2, q3, q4, q5, q6⟩ := ih xs l (addP ra (.K w.size)) (addP rb (.W w)) m1 o1 O_ hx hy' ht O_ O_ hm1' ho1'
   refine ⟨ra', rb', m', o', q1, q2, by rw [e1]; omega, by rw [e1]; omega, fun j hj => ?_, fun k j hk hj => ?_⟩
   ·obtain ⟨j, rfl⟩ : ∃ i, j = i + 1 := ⟨j - 1, O_⟩
    unfold itr
    rw [ip_ (Or.inr (by simp)), iN_ (by simpa using hxn), rd_enc, ip_ hwn, ho1, bs_]
    rw [show (encP (.W w)).f1 = w from rfl, hm1, bs_]
    exact q5 j O_
   ·obtain ⟨j, rfl⟩ : ∃ i, j = i + 1 := ⟨j - 1, O_⟩
    unfold str
    rw [ip_ (Or.inr (by simp)), iN_ (by simpa using hxn), rd_enc, ip_ hwn, takef_W, bs_]
    dsimp only
    rw [l3AddS k hk rb pb (.W w) hw0 (by show mass rb + w.size ≤ _; omega), bs_]
    have := l3AddS k hk ra pa (.K w.size) hw0 (by show mass ra + w.size ≤ _; omega)
    rw [enc_K] at this
    rw [show (encP (.W w)).f1 = w from rfl, this, bs_]
    exact q6 k j hk O_
  have hyn := head_notW ys (fun w l e => hyw ⟨w, l, e⟩)
  cases xs with
  | nil =>
   cases ys with
   | nil =>
    refine ⟨ra, rb, m, o, hm, ho, O_, O_, fun j hj => ?_, fun k j hk hj => ?_⟩
    ·obtain ⟨j, rfl⟩ : ∃ i, j = i + 1 := ⟨j - 1, O_⟩
     rfl
    ·obtain ⟨j, rfl⟩ : ∃ i, j = i + 1 := ⟨j - 1, O_⟩
     rfl
   | cons y l =>
    exfalso
    have hn : notW y := by cases y with
     | W w => exact (hyw ⟨w, l, rfl⟩).elim
     | K a => trivial
     | D d => trivial
    have := hy y List.mem_cons_self
    have e : tks (y :: l) = tkN y + tks l := rfl
    rw [e, tk_notW hn] at ht
    have e0 : tks [] = 0 := rfl
    omega
  | cons x lx =>
   have hnx : notW x := by cases x with
    | W w => exact (hxw ⟨w, lx, rfl⟩).elim
    | K a => trivial
    | D d => trivial
   have hx0 := hx x List.mem_cons_self
   cases ys with
   | nil =>
    exfalso
    have e : tks (x :: lx) = tkN x + tks lx := rfl
    rw [e, tk_notW hnx] at ht
    have e0 : tks [] = 0 := rfl
    omega
   | cons y ly =>
    have hny : notW y := by cases y with
     | W w => exact (hyw ⟨w, ly, rfl⟩).elim
     | K a => trivial
     | D d => trivial
    have hy0 := hy y List.mem_cons_self
    have hx' : ∀ z ∈ lx, 0 < massP z := fun z h => hx z (List.mem_cons_of_mem _ h)
    have hy' : ∀ z ∈ ly, 0 < massP z := fun z h => hy z (List.mem_cons_of_mem _ h)
    have e1 : mass (x :: lx) = massP x + mass lx := rfl
    have e2 : mass (y :: ly) = massP y + mass ly := rfl
    have t1 : tks (x :: lx) = massP x + tks lx := by show tkN x + tks lx = _; rw [tk_notW hnx]
    have t2 : tks (y :: ly) = massP y + tks ly := by show tkN y + tks ly = _; rw [tk_notW hny]
    have n1 : (x :: lx).length = lx.length + 1 := List.length_cons
    have n2 : (y :: ly).length = ly.length + 1 := List.length_cons
    have l1 := mass_len hx'
    have l2 := mass_len hy'
    rw [e1, e2] at hA hB
    rw [t1, t2] at ht hN
    rw [n1, n2] at hN
    obtain ⟨n, hn⟩ : ∃ n, n = min (massP x) (massP y) := ⟨_, rfl⟩
    have hn0 : 0 < n := by omega
    have hnx1 : n ≤ massP x := by omega
    have hny1 : n ≤ massP y := by omega
    have zx := psz_enc x O_
    have zy := psz_enc y O_
    have hmin : (if psz (encP y) < psz (encP x) then psz (encP y) else psz (encP x)) = (n : Int) := by rw [zx, zy]; split <;> omega
    obtain ⟨k1, k2, k3, k4⟩ := krst_tks n x hnx hnx1
    obtain ⟨j1, j2, j3, j4⟩ := krst_tks n y hny hny1
    have cx := cutf_enc n x lx hnx hn0 hnx1 O_ O_
    have cy := cutf_enc n y ly hny hn0 hny1 O_ O_
    have tx := takef_enc n x lx hnx hn0 hnx1 O_ O_
    have ty := takef_enc n y ly hny hn0 hny1 O_ O_
    have mx := kcut_mass n x hnx hnx1
    have my := kcut_mass n y hny hny1
    have ra2 : ∃ ra2 m2, MSt m2 ra2 ∧ mass ra2 ≤ mass ra + n ∧ (if 0 < (encP (kcut n y)).f0 then mT m (encP (kcut n x)) else some m) = some m2 ∧
      (∀ k, 5 ≤ k → (if 0 < (encP (kcut n y)).f0 then spec_l3Add.f k (ra.reverse.map encP) (encP (kcut n x)).f0 (encP (kcut n x)).f1 (encP (kcut n x)).f2 else some (ra.reverse.map encP)) = some (ra2.reverse.map encP)) := by
     by_cases hk : 0 < (encP (kcut n y)).f0
     ·obtain ⟨m2, h1, h2⟩ := mT_st hm (kcut n x) O_ O_
      have := mass_add ra (kcut n x)
      exact ⟨_, m2, h2, O_, by rw [ip_ hk, h1], fun k hk5 => by rw [ip_ hk, l3AddS k hk5 ra pa (kcut n x) O_ O_]⟩
     ·exact ⟨ra, m, hm, O_, by rw [iN_ hk], fun k hk5 => by rw [iN_ hk]⟩
    have rb2 : ∃ rb2 o2, MSt o2 rb2 ∧ mass rb2 ≤ mass rb + n ∧ (if 0 < (encP (kcut n x)).f0 then mT o (encP (kcut n y)) else some o) = some o2 ∧
      (∀ k, 5 ≤ k → (if 0 < (encP (kcut n x)).f0 then spec_l3Add.f k (rb.reverse.map encP) (encP (kcut n y)).f0 (encP (kcut n y)).f1 (encP (kcut n y)).f2 else some (rb.reverse.map encP)) = some (rb2.reverse.map encP)) := by
     by_cases hk : 0 < (encP (kcut n x)).f0
     ·obtain ⟨o2, h1, h2⟩ := mT_st ho (kcut n y) O_ O_
      have := mass_add rb (kcut n y)
      exact ⟨_, o2, h2, O_, by rw [ip_ hk, h1], fun k hk5 => by rw [ip_ hk, l3AddS k hk5 rb pb (kcut n y) O_ O_]⟩
     ·exact ⟨rb, o, ho, O_, by rw [iN_ hk], fun k hk5 => by rw [iN_ hk]⟩
    obtain ⟨ra2, m2, u1, u2, u3, u4⟩ := ra2
    obtain ⟨rb2, o2, v1, v2, v3, v4⟩ := rb2
    have mxs : mass (krst n x ++ lx) = massP x - n + mass lx := by rw [mass_app, k2]
    have mys : mass (krst n y ++ ly) = massP y - n + mass ly := by rw [mass_app, j2]
    have txs : tks (krst n x ++ lx) = massP x - n + tks lx := by rw [tks_append, k1]
    have tys : tks (krst n y ++ ly) = massP y - n + tks ly := by rw [tks_append, j1]
    obtain ⟨ra', rb', m', o', q1, q2, q3, q4, q5, q6⟩ := ih (krst n x ++ lx) (krst n y ++ ly) ra2 rb2 m2 o2 (by rw [lA_, lA_, txs, tys]; omega) (pos_app k4 hx') (pos_app j4 hy') (by rw [txs, tys]; omega) (by rw [mxs, mys]; omega) (by rw [mxs, mys]; omega) u1 v1
    rw [mxs, mys] at q3 q4
    refine ⟨ra', rb', m', o', q1, q2, by rw [e1, e2]; omega, by rw [e1, e2]; omega, fun j hj => ?_, fun k j hk hj => ?_⟩
    ·obtain ⟨j, rfl⟩ : ∃ i, j = i + 1 := ⟨j - 1, O_⟩
     unfold itr
     rw [ip_ (Or.inl (by simp)), iN_ (by simpa using hxn), iN_ (by simpa using hyn), rd_enc, rd_enc]
     rw [show impl_Part_size.f (encP x).f0 (encP x).f1 (encP x).f2 = some (psz (encP x)) from rfl, show impl_Part_size.f (encP y).f0 (encP y).f1 (encP y).f2 = some (psz (encP y)) from rfl, bs_, bs_]
     rw [show mn (psz (encP x)) (psz (encP y)) = (n : Int) from hmin, ip_ O_, tN_, cx, bs_, cy, bs_]
     dsimp only
     rw [u3, bs_, v3, bs_]
     exact q5 j O_
    ·obtain ⟨j, rfl⟩ : ∃ i, j = i + 1 := ⟨j - 1, O_⟩
     unfold str
     rw [ip_ (Or.inl (by simp)), iN_ (by simpa using hxn), iN_ (by simpa using hyn), ip_ ⟨by simp, by simp⟩, rd_enc, rd_enc, hmin, tx, bs_, ty, bs_]
     dsimp only
     rw [u4 k hk, bs_, v4 k hk, bs_]
     exact q6 k j hk O_
theorem rd_at (L : List Pt) (i : Nat) (h : i < L.length) : rd_T44 (L.map encP) (i : Int) = encP L[i] := by
 unfold rd_T44
 rw [tN_, List.getD_eq_getElem?_getD, List.getElem?_eq_getElem (by rw [lM_]; exact h), Option.getD_some, List.getElem_map]
theorem fold_pos : ∀ (L r : List Pt), (∀ x ∈ L, 0 < massP x) → (∀ x ∈ r, 0 < massP x) → (∀ x ∈ L.foldl addP r, 0 < massP x) ∧ mass (L.foldl addP r) = mass r + mass L
 | [], r, _, hr => ⟨hr, by simp [mass]⟩
 | q :: L, r, hL, hr => by
  obtain ⟨h1, h2⟩ := fold_pos L (addP r q) (fun x h => hL x (List.mem_cons_of_mem _ h)) (pos_add r q hr (hL q List.mem_cons_self))
  exact ⟨h1, by rw [List.foldl_cons, h2, mass_add]; simp only [mass]; omega⟩
theorem nrm_st : ∀ (L : List Pt) (s : MS) (r : List Pt), (∀ x ∈ L, 0 < massP x) → MSt s r → mass r + mass L ≤ 1000000 → nrm (L.map encP) s.out s.put s.drop = some ((L.foldl addP r).reverse.map encP)
 | [], s, r, _, hs, hm => by
  have e0 : mass ([] : List Pt) = 0 := rfl
  have := mE_st hs O_
  unfold mE at this
  rw [List.map_nil]
  unfold nrm
  exact this
 | q :: L, s, r, hL, hs, hm => by
  have e0 : mass (q :: L) = massP q + mass L := rfl
  have hq := hL q List.mem_cons_self
  obtain ⟨s', h1, h2⟩ := mT_st hs q hq O_
  unfold mT at h1
  rw [List.map_cons]
  unfold nrm
  split at h1
  case isFalse => cases h1
  case isTrue hc =>
  obtain rfl := Option.some.inj h1
  rw [ip_ hc]
  exact nrm_st L _ _ (fun x h => hL x (List.mem_cons_of_mem _ h)) h2 (by rw [mass_add]; omega)
def nf (L : List Pt) : List Pt := (L.foldl addP []).reverse
theorem nf_pos {L : List Pt} (hL : ∀ x ∈ L, 0 < massP x) : ∀ x ∈ nf L, 0 < massP x := fun x hx => (fold_pos L [] hL (fun x h => by cases h)).1 x (List.mem_reverse.1 hx)
theorem mass_revA : ∀ r : List Pt, mass r.reverse = mass r
 | [] => rfl
 | q :: r => by rw [List.reverse_cons, mass_app, mass_revA r]; simp only [mass]; omega
theorem nf_mass {L : List Pt} (hL : ∀ x ∈ L, 0 < massP x) : mass (nf L) = mass L := by
 unfold nf
 rw [mass_revA, (fold_pos L [] hL (fun x h => by cases h)).2]
 simp [mass]
theorem normalI_ev (L : List Pt) (hL : ∀ x ∈ L, 0 < massP x) (hm : mass L ≤ 1000000) : impl_normal.f (L.map encP) = some ((nf L).map encP) :=
 nrm_st L ms0 [] hL ms0_st (by simp only [mass]; omega)
theorem normalS_l (L : List Pt) (hL : ∀ x ∈ L, 0 < massP x) (hl : L.length ≤ 1000000) : ∀ (d i : Nat) (r : List Pt), i + d = L.length → (∀ x ∈ r, 0 < massP x) → mass r + mass (L.drop i) ≤ 1000000 →
  ∀ k, d + 6 ≤ k → spec_l3Normal.l0 k (r.reverse.map encP) (L.map encP) ((L.map encP).length : Int) (i : Int) = some (((L.drop i).foldl addP r).reverse.map encP) := by
 intro d
 induction d with
 | zero =>
  intro i r hi hr hm k hk
  obtain ⟨k, rfl⟩ : ∃ m, k = m + 1 := ⟨k - 1, O_⟩
  unfold spec_l3Normal.l0
  rw [lM_, iN_ O_, List.drop_of_length_le O_]
  rfl
 | succ d ih =>
  intro i r hi hr hm k hk
  have hil : i < L.length := by omega
  obtain ⟨k, rfl⟩ : ∃ m, k = m + 1 := ⟨k - 1, O_⟩
  have hd := List.drop_eq_getElem_cons hil
  rw [hd] at hm ⊢
  have e0 : mass (L[i] :: L.drop (i + 1)) = massP L[i] + mass (L.drop (i + 1)) := rfl
  rw [e0] at hm
  have hq := hL L[i] (List.getElem_mem hil)
  unfold spec_l3Normal.l0
  rw [lM_, ip_ O_, ip_ O_, ip_ O_, rd_at L i hil, l3AddS k O_ r hr L[i] hq O_, bs_, w64 O_ O_]
  have := ih (i + 1) (addP r L[i]) O_ (pos_add r _ hr hq) (by rw [mass_add]; omega) k O_
  rw [lM_, show ((i + 1 : Nat) : Int) = (i : Int) + 1 by omega] at this
  rw [this, List.foldl_cons]
theorem normalS_ev (L : List Pt) (hL : ∀ x ∈ L, 0 < massP x) (hm : mass L ≤ 1000000) : ∀ k, L.length + 6 ≤ k → spec_l3Normal.f k (L.map encP) = some ((nf L).map encP) := fun k hk => by
 have hl := mass_len hL
 have := normalS_l L hL O_ L.length 0 [] O_ (fun x h => by cases h) (by rw [List.drop_zero]; simp only [mass]; omega) k hk
 rw [List.drop_zero] at this
 exact this
def drp : List Pt → List Int
 | [] => []
 | .K n :: l => List.replicate n 0 ++ drp l
 | .W _ :: l => drp l
 | .D d :: l => bytesOf d ++ drp l
theorem drp_len : ∀ L : List Pt, (drp L).length = tks L
 | [] => rfl
 | .K n :: l => by simp only [drp, lA_, List.length_replicate, drp_len l]; rfl
 | .W w :: l => by simp only [drp, drp_len l]; show _ = 0 + tks l; omega
 | .D d :: l => by simp only [drp, lA_, bytesOf_length, drp_len l]; rfl
theorem drp_app : ∀ a b : List Pt, drp (a ++ b) = drp a ++ drp b
 | [], b => rfl
 | .K n :: a, b => by simp only [List.cons_append, drp, drp_app a b, List.append_assoc]
 | .W w :: a, b => by simp only [List.cons_append, drp, drp_app a b]
 | .D d :: a, b => by simp only [List.cons_append, drp, drp_app a b, List.append_assoc]
theorem bytesOf_app (a b : ByteArray) : bytesOf (a ++ b) = bytesOf a ++ bytesOf b := by
 unfold bytesOf
 rw [ByteArray.data_append, Array.toList_append, List.map_append]
theorem drp_add (r : List Pt) (q : Pt) : drp (addP r q).reverse = drp r.reverse ++ drp [q] := by
 unfold addP
 split <;> simp only [List.reverse_cons, drp_app, drp, List.append_nil, List.append_assoc, bytesOf_app, List.replicate_append_replicate, List.nil_append]
theorem drp_fold : ∀ (L r : List Pt), drp (L.foldl addP r).reverse = drp r.reverse ++ drp L
 | [], r => by simp [drp]
 | q :: L, r => by
  rw [List.foldl_cons, drp_fold L, drp_add, List.append_assoc, ← drp_app]; rfl
theorem drp_nf (L : List Pt) : drp (nf L) = drp L := by
 unfold nf
 rw [drp_fold]; rfl
theorem tks_nf (L : List Pt) : tks (nf L) = tks L := by rw [← drp_len, drp_nf, drp_len]
theorem tks_le : ∀ L : List Pt, tks L ≤ mass L
 | [] => Nat.le_refl _
 | q :: l => by
  have := tks_le l
  have h : tkN q ≤ massP q := by cases q <;> first | exact Nat.le_refl _ | exact Nat.zero_le _
  simp only [tks, mass]; omega
theorem bytes_l (L : List Pt) (hl : L.length ≤ 1000000) : ∀ (d i : Nat) (acc : List Int), i + d = L.length → acc.length + tks (L.drop i) ≤ 1000000000 →
  ∀ k, d < k → spec_l4Bytes.l0 k acc (L.map encP) ((L.map encP).length : Int) (i : Int) = some (acc ++ drp (L.drop i)) := by
 intro d
 induction d with
 | zero =>
  intro i acc hi hm k hk
  obtain ⟨k, rfl⟩ : ∃ m, k = m + 1 := ⟨k - 1, O_⟩
  unfold spec_l4Bytes.l0
  rw [lM_, iN_ O_, List.drop_of_length_le O_]
  show some acc = some (acc ++ [])
  rw [List.append_nil]
 | succ d ih =>
  intro i acc hi hm k hk
  have hil : i < L.length := by omega
  obtain ⟨k, rfl⟩ : ∃ m, k = m + 1 := ⟨k - 1, O_⟩
  have hd := List.drop_eq_getElem_cons hil
  rw [hd] at hm ⊢
  have e0 : tks (L[i] :: L.drop (i + 1)) = tkN L[i] + tks (L.drop (i + 1)) := rfl
  rw [e0] at hm
  unfold spec_l4Bytes.l0
  rw [lM_, ip_ O_, ip_ O_, ip_ O_, rd_at L i hil]
  have key : ∀ (n : Nat) (s : ByteArray), tkN L[i] = n + s.size → drp (L[i] :: L.drop (i + 1)) = List.replicate n 0 ++ (bytesOf s ++ drp (L.drop (i + 1))) → (encP L[i]).f0 = (n : Int) → (encP L[i]).f2 = s →
    (if 0 ≤ (encP L[i]).f0 then (if acc.length + ((encP L[i]).f0 : Int).toNat < 140737488355328 then ((some (acc ++ List.replicate ((encP L[i]).f0 : Int).toNat 0 : List Int)).bind fun y => (if y.length + ((encP L[i]).f2).size < 140737488355328 then (spec_l4Bytes.l0 k (y ++ bytesOf ((encP L[i]).f2)) (L.map encP) (L.length : Int) (wrap64 ((i : Int) + 1))) else none)) else none) else none) = some (acc ++ drp (L[i] :: L.drop (i + 1))) := by
   intro n s hn hdr h0 h2
   rw [h0, h2, tN_, ip_ O_, ip_ O_, bs_, ip_ (by rw [lA_, List.length_replicate]; omega), w64 O_ O_, hdr]
   have := ih (i + 1) ((acc ++ List.replicate n 0) ++ bytesOf s) O_ (by rw [lA_, lA_, List.length_replicate, bytesOf_length]; omega) k O_
   rw [lM_, show ((i + 1 : Nat) : Int) = (i : Int) + 1 by omega] at this
   rw [this, List.append_assoc, List.append_assoc]
  cases hq : L[i] with
  | K n =>
   rw [hq] at key
   exact key n ⟨#[]⟩ rfl rfl rfl rfl
  | W w =>
   rw [hq] at key
   exact key 0 ⟨#[]⟩ rfl rfl rfl rfl
  | D w =>
   rw [hq] at key
   exact key 0 w (by show w.size = 0 + w.size; omega) rfl rfl rfl
theorem bytes_ev (L : List Pt) (hl : L.length ≤ 1000000) (hm : mass L ≤ 1000000) : ∀ k, L.length < k → spec_l4Bytes.f k (L.map encP) = some (drp L) := fun k hk => by
 have := tks_le L
 have := bytes_l L hl L.length 0 [] O_ (by rw [List.drop_zero]; simp only [List.length_nil]; omega) k hk
 rw [List.drop_zero] at this
 exact this
theorem dropped_same (l : List S44) (n : Int) : ∀ (k : Nat) (acc : List Int) (i : Int), impl_dropped.l0 k acc l n i = spec_l4Bytes.l0 k acc l n i := by
 intro k
 induction k with
 | zero => intro acc i; rfl
 | succ k ih =>
  intro acc i
  unfold impl_dropped.l0 spec_l4Bytes.l0
  simp only [ih]
theorem dropped_ev (k : Nat) (l : List S44) : impl_dropped.f k l = spec_l4Bytes.f k l := dropped_same l _ k [] 0
def rn : Nat → List Pt → List Int
 | _, [] => []
 | c, .K n :: l => List.replicate n 0 ++ rn c l
 | c, .W _ :: l => rn c l
 | c, .D d :: l => List.replicate d.size ((c : Int) + 1) ++ rn (c + 1) l
theorem rn_len : ∀ (c : Nat) (L : List Pt), (rn c L).length = tks L
 | _, [] => rfl
 | c, .K n :: l => by simp only [rn, lA_, List.length_replicate, rn_len c l]; rfl
 | c, .W w :: l => by simp only [rn, rn_len c l]; show _ = 0 + tks l; omega
 | c, .D d :: l => by simp only [rn, lA_, List.length_replicate, rn_len (c + 1) l]; rfl
def bad : Pt → Pt → Prop
 | .D _, .D _ => True
 | .D _, .W _ => True
 | _, _ => False
def okR : List Pt → Prop
 | b :: a :: r => ¬ bad a b ∧ okR (a :: r)
 | _ => True
def okF : List Pt → Prop
 | a :: b :: l => ¬ bad a b ∧ okF (b :: l)
 | _ => True
theorem okF_snoc : ∀ (l : List Pt) (a b : Pt), okF (l ++ [a]) → ¬ bad a b → okF (l ++ [a] ++ [b])
 | [], a, b, _, h => ⟨h, trivial⟩
 | [x], a, b, h1, h => ⟨h1.1, h, trivial⟩
 | x :: y :: l, a, b, h1, h => ⟨h1.1, okF_snoc (y :: l) a b h1.2 h⟩
theorem okR_F : ∀ r : List Pt, okR r → okF r.reverse
 | [], _ => trivial
 | [a], _ => trivial
 | b :: a :: r, h => by
  have := okR_F (a :: r) h.2
  rw [List.reverse_cons] at this
  rw [List.reverse_cons, List.reverse_cons]
  exact okF_snoc _ a b this h.1
theorem okR_tail {q : Pt} {r : List Pt} (h : okR (q :: r)) : okR r := by
 cases r with
 | nil => trivial
 | cons a r => exact h.2
theorem okR_swap {q q' : Pt} {r : List Pt} (h : okR (q :: r)) (hb : ∀ a, bad a q' → bad a q) : okR (q' :: r) := by
 cases r with
 | nil => trivial
 | cons a r => exact ⟨fun c => h.1 (hb a c), h.2⟩
theorem bad_W {a : Pt} {u v : ByteArray} (h : bad a (.W u)) : bad a (.W v) := by cases a <;> first | exact h.elim | trivial
theorem bad_D {a : Pt} {u v : ByteArray} (h : bad a (.D u)) : bad a (.D v) := by cases a <;> first | exact h.elim | trivial
theorem okR_add (r : List Pt) (q : Pt) (h : okR r) : okR (addP r q) := by
 unfold addP
 split
 ·exact okR_swap h (fun a c => by cases a <;> exact c.elim)
 ·exact okR_swap h (fun a c => bad_D c)
 ·exact okR_swap h (fun a c => bad_W c)
 ·rename_i d a w r
  exact ⟨fun c => c.elim, okR_swap (okR_tail h) (fun x c => bad_W c)⟩
 ·rename_i d r w hr
  refine ⟨fun c => c.elim, ?_⟩
  cases r with
  | nil => trivial
  | cons a r =>
   refine ⟨fun c => ?_, okR_tail h⟩
   cases a with
   | K n => exact c.elim
   | W u => exact c.elim
   | D u => exact h.1 trivial
 ·rename_i h1 h2 h3 h4 h5
  cases r with
  | nil => trivial
  | cons a r =>
   refine ⟨fun c => ?_, h⟩
   cases a with
   | K n => exact c.elim
   | W u => exact c.elim
   | D u =>
    cases q with
    | K n => exact c.elim
    | W w => exact h5 _ _ _ rfl rfl
    | D w => exact h2 _ _ _ rfl rfl
theorem okR_fold : ∀ (L r : List Pt), okR r → okR (L.foldl addP r)
 | [], _, h => h
 | q :: L, r, h => okR_fold L _ (okR_add r q h)
theorem okF_nf (L : List Pt) : okF (nf L) := okR_F _ (okR_fold L [] trivial)
def nzD (r : List Pt) : Prop := ∀ d, Pt.D d ∈ r → ∀ j : Nat, j < d.size → bt d (j : Int) ≠ 0
theorem bt_get (s : ByteArray) (i : Nat) (h : i < s.size) : (bytesOf s)[i]? = some (bt s (i : Int)) := by
 unfold bytesOf
 rw [List.getElem?_map, List.getElem?_eq_getElem (by rw [Array.length_toList]; exact h), Option.map_some, bt_data s i h]
theorem bt_app (a b : ByteArray) (j : Nat) (h : j < (a ++ b).size) : bt (a ++ b) (j : Int) = if j < a.size then bt a (j : Int) else bt b ((j - a.size : Nat) : Int) := by
 have h0 := bt_get (a ++ b) j h
 rw [bytesOf_app] at h0
 by_cases h1 : j < a.size
 ·rw [List.getElem?_append_left (by rw [bytesOf_length]; exact h1), bt_get a j h1] at h0
  rw [ip_ h1]
  exact (Option.some.inj h0).symm
 ·rw [List.getElem?_append_right (by rw [bytesOf_length]; omega), bytesOf_length, bt_get b _ (by rw [zA_] at h; omega)] at h0
  rw [iN_ h1]
  exact (Option.some.inj h0).symm
theorem nz_app {a b : ByteArray} (ha : ∀ j : Nat, j < a.size → bt a (j : Int) ≠ 0) (hb : ∀ j : Nat, j < b.size → bt b (j : Int) ≠ 0) : ∀ j : Nat, j < (a ++ b).size → bt (a ++ b) (j : Int) ≠ 0 := fun j hj => by
 rw [bt_app a b j hj]
 split
 ·exact ha j (by assumption)
 ·exact hb _ (by rw [zA_] at hj; omega)
theorem nzD_add (r : List Pt) (q : Pt) (h : nzD r) (hq : nzD [q]) : nzD (addP r q) := by
 unfold addP
 split
 ·intro d hd; exact h d (by simp at hd ⊢; exact hd)
 ·rename_i a r b
  intro d hd
  rcases List.mem_cons.1 hd with e | hd
  ·injection e with e
   subst e
   exact nz_app (h a (by simp)) (hq b (by simp))
  ·exact h d (List.mem_cons_of_mem _ hd)
 ·intro d hd; exact h d (by simp at hd ⊢; exact hd)
 ·intro d hd; exact h d (by simp at hd ⊢; exact hd)
 ·intro d hd; exact h d (by simp at hd ⊢; exact hd)
 ·intro d hd
  rcases List.mem_cons.1 hd with e | hd
  ·exact hq d (by rw [← e]; simp)
  ·exact h d hd
theorem nzD_fold : ∀ (L r : List Pt), nzD L → nzD r → nzD (L.foldl addP r)
 | [], _, _, h => h
 | q :: L, r, hL, h => nzD_fold L _ (fun d hd => hL d (List.mem_cons_of_mem _ hd)) (nzD_add r q h (fun d hd => hL d (by rw [List.mem_singleton.1 hd]; exact List.mem_cons_self)))
theorem nzD_nf {L : List Pt} (h : nzD L) : nzD (nf L) := fun d hd => nzD_fold L [] h (fun d hd => by cases hd) d (List.mem_reverse.1 hd)
def gD (l : List Int) (i : Nat) : Int := l.getD i 0
theorem gD_l (a b : List Int) (i : Nat) (h : i < a.length) : gD (a ++ b) i = gD a i := by
 unfold gD
 rw [List.getD_eq_getElem?_getD, List.getD_eq_getElem?_getD, List.getElem?_append_left h]
theorem gD_r (a b : List Int) (i : Nat) (h : a.length ≤ i) : gD (a ++ b) i = gD b (i - a.length) := by
 unfold gD
 rw [List.getD_eq_getElem?_getD, List.getD_eq_getElem?_getD, List.getElem?_append_right h]
theorem gD_rep (n : Nat) (v : Int) (i : Nat) (h : i < n) : gD (List.replicate n v) i = v := by
 unfold gD
 rw [List.getD_eq_getElem?_getD, List.getElem?_replicate, ip_ h]; rfl
theorem gD_bytes (d : ByteArray) (i : Nat) (h : i < d.size) : gD (bytesOf d) i = bt d (i : Int) := by
 unfold gD
 rw [List.getD_eq_getElem?_getD, bt_get d i h]; rfl
theorem hit_iff : ∀ (L : List Pt) (c : Nat), okF L → nzD L → (∀ x ∈ L, 0 < massP x) → ∀ i : Nat, i + 1 < tks L →
  ((gD (drp L) i ≠ 0 ∧ gD (drp L) (i + 1) ≠ 0) ↔ (gD (rn c L) i > 0 ∧ gD (rn c L) i = gD (rn c L) (i + 1)))
 | [], _, _, _, _, i, hi => by simp [tks] at hi
 | .W w :: l, c, hf, hz, hp, i, hi => by
  have hf' : okF l := by
   cases l with
   | nil => trivial
   | cons a l => exact hf.2
  have e : tks (.W w :: l) = 0 + tks l := rfl
  exact hit_iff l c hf' (fun d hd => hz d (List.mem_cons_of_mem _ hd)) (fun x hx => hp x (List.mem_cons_of_mem _ hx)) i O_
 | .K n :: l, c, hf, hz, hp, i, hi => by
  have hf' : okF l := by
   cases l with
   | nil => trivial
   | cons a l => exact hf.2
  have e : tks (.K n :: l) = n + tks l := rfl
  have hr : (List.replicate n (0 : Int)).length = n := List.length_replicate
  show (gD (List.replicate n 0 ++ drp l) i ≠ 0 ∧ gD (List.replicate n 0 ++ drp l) (i + 1) ≠ 0) ↔ (gD (List.replicate n 0 ++ rn c l) i > 0 ∧ gD (List.replicate n 0 ++ rn c l) i = gD (List.replicate n 0 ++ rn c l) (i + 1))
  by_cases h1 : i < n
  ·rw [gD_l _ _ i O_, gD_l _ (rn c l) i O_, gD_rep n 0 i h1]
   exact ⟨fun h => absurd rfl h.1, fun h => absurd h.1 O_⟩
  ·rw [gD_r _ _ i O_, gD_r _ _ (i + 1) O_, gD_r _ (rn c l) i O_, gD_r _ (rn c l) (i + 1) O_, hr, show i + 1 - n = (i - n) + 1 by omega]
   exact hit_iff l c hf' (fun d hd => hz d (List.mem_cons_of_mem _ hd)) (fun x hx => hp x (List.mem_cons_of_mem _ hx)) (i - n) O_
 | .D d :: l, c, hf, hz, hp, i, hi => by
  have hf' : okF l := by
   cases l with
   | nil => trivial
   | cons a l => exact hf.2
  have e : tks (.D d :: l) = d.size + tks l := rfl
  have hb : (bytesOf d).length = d.size := bytesOf_length d
  have hr : (List.replicate d.size ((c : Int) + 1)).length = d.size := List.length_replicate
  have hdz := hz d List.mem_cons_self
  show (gD (bytesOf d ++ drp l) i ≠ 0 ∧ gD (bytesOf d ++ drp l) (i + 1) ≠ 0) ↔ (gD (List.replicate d.size ((c : Int) + 1) ++ rn (c + 1) l) i > 0 ∧ gD (List.replicate d.size ((c : Int) + 1) ++ rn (c + 1) l) i = gD (List.replicate d.size ((c : Int) + 1) ++ rn (c + 1) l) (i + 1))
  by_cases h1 : i < d.size
  ·by_cases h2 : i + 1 < d.size
   ·rw [gD_l _ _ i O_, gD_l _ _ (i + 1) O_, gD_l _ (rn (c + 1) l) i O_, gD_l _ (rn (c + 1) l) (i + 1) O_, gD_rep _ _ _ h1, gD_rep _ _ _ h2, gD_bytes d i h1, gD_bytes d (i + 1) h2]
    exact ⟨fun _ => ⟨O_, rfl⟩, fun _ => ⟨hdz i h1, hdz (i + 1) h2⟩⟩
   ·rw [gD_l _ (rn (c + 1) l) i O_, gD_rep _ _ _ h1, gD_r _ _ (i + 1) O_, gD_r _ (rn (c + 1) l) (i + 1) O_, hb, hr, show i + 1 - d.size = 0 by omega]
    cases l with
    | nil => have : tks ([] : List Pt) = 0 := rfl; omega
    | cons q l =>
     cases q with
     | D u => exact absurd trivial hf.1
     | W u => exact absurd trivial hf.1
     | K n =>
      have hn : 0 < n := hp (.K n) (by simp)
      have z1 : gD (drp (.K n :: l)) 0 = 0 := by show gD (List.replicate n 0 ++ drp l) 0 = 0; rw [gD_l _ _ 0 (by rw [List.length_replicate]; exact hn), gD_rep _ _ _ hn]
      have z2 : gD (rn (c + 1) (.K n :: l)) 0 = 0 := by show gD (List.replicate n 0 ++ rn (c + 1) l) 0 = 0; rw [gD_l _ _ 0 (by rw [List.length_replicate]; exact hn), gD_rep _ _ _ hn]
      rw [z1, z2]
      exact ⟨fun h => absurd rfl h.2, fun h => by have := h.2; omega⟩
  ·rw [gD_r _ _ i O_, gD_r _ _ (i + 1) O_, gD_r _ (rn (c + 1) l) i O_, gD_r _ (rn (c + 1) l) (i + 1) O_, hb, hr, show i + 1 - d.size = (i - d.size) + 1 by omega]
   exact hit_iff l (c + 1) hf' (fun d hd => hz d (List.mem_cons_of_mem _ hd)) (fun x hx => hp x (List.mem_cons_of_mem _ hx)) (i - d.size) O_
theorem rd_gD (l : List Int) (i : Nat) : rd l (i : Int) = gD l i := by
 unfold rd gD
 rw [tN_]
theorem within_same (x y : List Int) (hl : y.length = x.length) (hx : x.length ≤ 1000000) (hpq : ∀ i : Nat, i + 1 < x.length → ((gD x i ≠ 0 ∧ gD x (i + 1) ≠ 0) ↔ (gD y i > 0 ∧ gD y i = gD y (i + 1)))) (l : List S44) (n : Int) :
  ∀ (k : Nat) (c at_ i : Int), spec_l4Within.l0 k x y c at_ l n i = impl_putsWithin.l0 k x c at_ l n i := by
 intro k
 induction k with
 | zero => intro c at_ i; rfl
 | succ k ih =>
  intro c at_ i
  unfold spec_l4Within.l0 impl_putsWithin.l0
  by_cases h1 : i < n
  ·rw [ip_ h1, ip_ h1]
   by_cases h2 : 0 ≤ i
   ·rw [ip_ h2, ip_ h2]
    by_cases h3 : i < (l.length : Int)
    ·rw [ip_ h3, ip_ h3]
     by_cases h4 : (rd_T44 l i).f1.toList = []
     ·rw [ip_ h4, ip_ h4, ih]
     ·rw [iN_ h4, iN_ h4]
      by_cases h5 : at_ > 0
      ·rw [ip_ h5, ip_ h5]
       by_cases h6 : at_ < (x.length : Int)
       ·obtain ⟨j, rfl⟩ : ∃ j : Nat, at_ = ((j + 1 : Nat) : Int) := ⟨(at_ - 1).toNat, O_⟩
        have hw : wrap64 (((j + 1 : Nat) : Int) - 1) = (j : Int) := (w64 O_ O_).trans O_
        have hj := hpq j O_
        have g1 : (0 : Int) ≤ (j : Int) := by omega
        have g2 : (j : Int) < (x.length : Int) := by omega
        have g3 : (j : Int) < (y.length : Int) := by omega
        have g4 : (0 : Int) ≤ ((j + 1 : Nat) : Int) := by omega
        have g5 : ((j + 1 : Nat) : Int) < (y.length : Int) := by omega
        rw [ip_ h6, ip_ h6]
        simp only [hw, rd_gD, ip_ g1, ip_ g2, ip_ g3, ip_ g4, ip_ g5, ih]
        by_cases c1 : gD x j = 0
        ·rw [ip_ c1]
         by_cases d1 : gD y j > 0
         ·rw [ip_ d1]
          by_cases d2 : gD y j = gD y (j + 1)
          ·exact absurd c1 (hj.2 ⟨d1, d2⟩).1
          ·rw [iN_ d2]
         ·rw [iN_ d1]
        ·rw [iN_ c1]
         by_cases c2 : gD x (j + 1) = 0
         ·rw [ip_ c2]
          by_cases d1 : gD y j > 0
          ·rw [ip_ d1]
           by_cases d2 : gD y j = gD y (j + 1)
           ·exact absurd c2 (hj.2 ⟨d1, d2⟩).2
           ·rw [iN_ d2]
          ·rw [iN_ d1]
         ·obtain ⟨d1, d2⟩ := hj.1 ⟨c1, c2⟩
          rw [iN_ c2, ip_ d1, ip_ d2]
       ·rw [iN_ h6, iN_ h6, ih]
      ·rw [iN_ h5, iN_ h5, ih]
    ·rw [iN_ h3, iN_ h3]
   ·rw [iN_ h2, iN_ h2]
  ·rw [iN_ h1, iN_ h1]
theorem puts_l (x : List Int) (hx : x.length ≤ 1000000) (l : List S44) (hl : l.length ≤ 1000000) : ∀ (d i : Nat) (c at_ : Int), i + d = l.length → ∃ r, ∀ k, d < k → impl_putsWithin.l0 k x c at_ l (l.length : Int) (i : Int) = some r := by
 intro d
 induction d with
 | zero =>
  intro i c at_ hi
  refine ⟨c, fun k hk => ?_⟩
  obtain ⟨k, rfl⟩ : ∃ m, k = m + 1 := ⟨k - 1, O_⟩
  unfold impl_putsWithin.l0
  rw [iN_ O_]
 | succ d ih =>
  intro i c at_ hi
  have hi1 : wrap64 ((i : Int) + 1) = ((i + 1 : Nat) : Int) := (w64 O_ O_).trans O_
  have next : ∀ c' at', ∃ r, ∀ k, d < k → impl_putsWithin.l0 k x c' at' l (l.length : Int) (wrap64 ((i : Int) + 1)) = some r := fun c' at' => by rw [hi1]; exact ih (i + 1) c' at' O_
  by_cases h4 : (rd_T44 l (i : Int)).f1.toList = []
  ·obtain ⟨r, hr⟩ := next c (wrap64 (at_ + (wrap64 ((rd_T44 l (i : Int)).f0 + ((rd_T44 l (i : Int)).f2.size : Int)))))
   refine ⟨r, fun k hk => ?_⟩
   obtain ⟨k, rfl⟩ : ∃ m, k = m + 1 := ⟨k - 1, O_⟩
   unfold impl_putsWithin.l0
   rw [ip_ O_, ip_ O_, ip_ O_, ip_ h4, hr k O_]
  ·obtain ⟨r, hr⟩ := next c (wrap64 (at_ + (wrap64 ((rd_T44 l (i : Int)).f0 + ((rd_T44 l (i : Int)).f2.size : Int)))))
   obtain ⟨r2, hr2⟩ := next (wrap64 (c + 1)) (wrap64 (at_ + (wrap64 ((rd_T44 l (i : Int)).f0 + ((rd_T44 l (i : Int)).f2.size : Int)))))
   by_cases h5 : at_ > 0 ∧ at_ < (x.length : Int) ∧ rd x (at_ - 1) ≠ 0 ∧ rd x at_ ≠ 0
   ·refine ⟨r2, fun k hk => ?_⟩
    obtain ⟨k, rfl⟩ : ∃ m, k = m + 1 := ⟨k - 1, O_⟩
    have hw : wrap64 (at_ - 1) = at_ - 1 := w64 O_ O_
    unfold impl_putsWithin.l0
    rw [ip_ O_, ip_ O_, ip_ O_, iN_ h4, ip_ h5.1, ip_ h5.2.1, hw, ip_ O_, ip_ O_, iN_ h5.2.2.1, ip_ O_, iN_ h5.2.2.2, hr2 k O_]
   ·refine ⟨r, fun k hk => ?_⟩
    obtain ⟨k, rfl⟩ : ∃ m, k = m + 1 := ⟨k - 1, O_⟩
    unfold impl_putsWithin.l0
    rw [ip_ O_, ip_ O_, ip_ O_, iN_ h4]
    by_cases a1 : at_ > 0
    ·rw [ip_ a1]
     by_cases a2 : at_ < (x.length : Int)
     ·have hw : wrap64 (at_ - 1) = at_ - 1 := w64 O_ O_
      rw [ip_ a2, hw, ip_ O_, ip_ O_]
      by_cases a3 : rd x (at_ - 1) = 0
      ·rw [ip_ a3, hr k O_]
      ·by_cases a4 : rd x at_ = 0
       ·rw [iN_ a3, ip_ O_, ip_ a4, hr k O_]
       ·exact absurd ⟨a1, a2, a3, a4⟩ h5
     ·rw [iN_ a2, hr k O_]
    ·rw [iN_ a1, hr k O_]
theorem tl_nil {s : ByteArray} : s.toList = [] ↔ s.size = 0 := size0_toList s
def PK (p : S44) : Prop := (p.f0 = 0 ∧ p.f1.toList = [] ∧ p.f2.toList ≠ [] ∧ textB p.f2 = true) ∨ (p.f0 = 0 ∧ p.f1.toList ≠ [] ∧ p.f2.toList = [] ∧ textB p.f1 = true) ∨ (1 ≤ p.f0 ∧ p.f0 ≤ 300 ∧ p.f1.toList = [] ∧ p.f2.toList = [])
theorem partB_PK {p : S44} (h : partB p.f0 p.f1 p.f2 = true) : PK p := by
 unfold partB at h
 by_cases h0 : p.f0 = 0
 ·rw [ip_ h0] at h
  by_cases h1 : p.f1.toList = []
  ·rw [ip_ h1] at h
   by_cases h2 : p.f2.toList = []
   ·rw [ip_ h2] at h; cases h
   ·rw [iN_ h2] at h; exact .inl ⟨h0, h1, h2, h⟩
  ·rw [iN_ h1] at h
   by_cases h2 : p.f2.toList = []
   ·rw [ip_ h2] at h; exact .inr (.inl ⟨h0, h1, h2, h⟩)
   ·rw [iN_ h2] at h; cases h
 ·rw [iN_ h0] at h
  by_cases h1 : p.f1.toList = []
  ·rw [ip_ h1] at h
   simp only [Bool.and_eq_true, decide_eq_true_eq, beq_iff_eq] at h
   exact .inr (.inr ⟨h.1.1, h.1.2, h1, h.2⟩)
  ·rw [iN_ h1] at h
   simp at h
theorem PK_bd {p : S44} (h : PK p) : 0 ≤ p.f0 ∧ p.f0 ≤ 300 ∧ p.f1.size ≤ 300 ∧ p.f2.size ≤ 300 := by
 rcases h with ⟨a, b, c, d⟩ | ⟨a, b, c, d⟩ | ⟨a, b, c, d⟩
 ·have := textB_size d; have := tl_nil.1 b; omega
 ·have := textB_size d; have := tl_nil.1 c; omega
 ·have := tl_nil.1 c; have := tl_nil.1 d; omega
theorem rdP (l : List S44) (i : Nat) (h : i < l.length) : rd_T44 l (i : Int) = l[i] := by
 unfold rd_T44
 rw [tN_, List.getD_eq_getElem?_getD, List.getElem?_eq_getElem h]; rfl
theorem pN_PK (l : List S44) : ∀ (d i : Nat), i + d = l.length → pN l d i = true → ∀ j (hj : j < l.length), i ≤ j → PK l[j] := by
 intro d
 induction d with
 | zero => intro i hi h j hj hij; omega
 | succ d ih =>
  intro i hi h j hj hij
  have h' : (partB (rd_T44 l (i : Int)).f0 (rd_T44 l (i : Int)).f1 (rd_T44 l (i : Int)).f2 && pN l d (i + 1)) = true := h
  rw [Bool.and_eq_true] at h'
  by_cases e : j = i
  ·subst e
   have := partB_PK h'.1
   rw [rdP l j hj] at this
   exact this
  ·exact ih (i + 1) O_ h'.2 j hj O_
def sB : List S44 → Int
 | [] => 0
 | p :: ps => p.f0 + (p.f2.size : Int) + sB ps
def sA : List S44 → Int
 | [] => 0
 | p :: ps => p.f0 + (p.f1.size : Int) + sA ps
def mt : List S44 → ByteArray → Bool
 | [], _ => true
 | p :: ps, t => ((p.f2.toList == []) || ((t.extract 0 p.f2.size).toList == p.f2.toList)) && mt ps (t.extract (p.f0.toNat + p.f2.size) t.size)
theorem s_bd : ∀ (l : List S44), (∀ p ∈ l, PK p) → 0 ≤ sB l ∧ sB l ≤ 600 * l.length ∧ 0 ≤ sA l ∧ sA l ≤ 600 * l.length
 | [], _ => by simp [sB, sA]
 | p :: ps, h => by
  have h1 := PK_bd (h p List.mem_cons_self)
  have h2 := s_bd ps (fun q hq => h q (List.mem_cons_of_mem _ hq))
  simp only [sB, sA, List.length_cons]
  omega
theorem sizes_l (l : List S44) (hl : l.length ≤ 60) (hp : ∀ p ∈ l, PK p) : ∀ (d i : Nat) (a b : Int), i + d = l.length → 0 ≤ a → a ≤ 1000000000 → 0 ≤ b → b ≤ 1000000000 → a + sB (l.drop i) ≤ 1000000000 → b + sA (l.drop i) ≤ 1000000000 → ∀ k, d < k → spec_l3Sizes.l0 k a b l (l.length : Int) (i : Int) = some (a + sB (l.drop i), b + sA (l.drop i)) := by
 intro d
 induction d with
 | zero =>
  intro i a b hi _ _ _ _ _ _ k hk
  obtain ⟨k, rfl⟩ : ∃ m, k = m + 1 := ⟨k - 1, O_⟩
  simp only [spec_l3Sizes.l0]
  rw [iN_ O_, List.drop_of_length_le O_]
  simp [sB, sA]
 | succ d ih =>
  intro i a b hi h1 h2 h3 h4 h5 h6 k hk
  obtain ⟨k, rfl⟩ : ∃ m, k = m + 1 := ⟨k - 1, O_⟩
  have hil : i < l.length := by omega
  have hq := PK_bd (hp l[i] (List.getElem_mem hil))
  have hs := s_bd (l.drop (i + 1)) (fun p hp' => hp p (List.mem_of_mem_drop hp'))
  rw [List.drop_eq_getElem_cons hil] at h5 h6 ⊢
  simp only [sB, sA] at h5 h6 ⊢
  simp only [spec_l3Sizes.l0]
  rw [ip_ O_, ip_ O_, ip_ O_, rdP l i hil, w64 (i := l[i].f0 + (l[i].f2.size : Int)) O_ O_, w64 (i := l[i].f0 + (l[i].f1.size : Int)) O_ O_, w64 O_ O_, w64 O_ O_, w64 O_ O_, show ((i : Int) + 1) = ((i + 1 : Nat) : Int) by omega]
  rw [ih (i + 1) _ _ O_ O_ O_ O_ O_ O_ O_ k O_]
  congr 2 <;> omega
theorem sizes_of (l : List S44) (hl : l.length ≤ 60) (hp : ∀ p ∈ l, PK p) (k : Nat) (hk : l.length < k) : spec_l3Sizes.f k l = some (sB l, sA l) := by
 have hs := s_bd l hp
 have h := sizes_l l hl hp l.length 0 0 0 O_ O_ O_ O_ O_ (by rw [List.drop_zero]; omega) (by rw [List.drop_zero]; omega) k hk
 rw [List.drop_zero, Int.zero_add, Int.zero_add] at h
 exact h
theorem nil_dec (s : ByteArray) : (s.toList == ([] : List UInt8)) = decide ((0 : Int) = (s.size : Int)) := by
 rw [Bool.eq_iff_iff, beq_iff_eq, decide_eq_true_eq, tl_nil]
 omega
theorem ex_size (s : ByteArray) (a : Nat) : (s.extract a s.size).size = s.size - a := by rw [zE_]; omega
theorem ex_all (s : ByteArray) : s.extract 0 s.size = s := by simp
theorem ex_zero (s : ByteArray) : (s.extract 0 0).toList = [] := tl_nil.2 (by rw [zE_]; omega)
theorem specApply_l (l : List S44) (hl : l.length ≤ 60) (hp : ∀ p ∈ l, PK p) : ∀ (d i : Nat) (s o : ByteArray), i + d = l.length → s.size ≤ 1000 → o.size + 2000 * d ≤ 1000000000 → ∃ a, ∀ k, 2 * d < k → spec_l3Apply.l0 k s o l (l.length : Int) (i : Int) = some (a, decide (sB (l.drop i) = (s.size : Int)) && mt (l.drop i) s) := by
 intro d
 induction d with
 | zero =>
  intro i s o hi hs ho
  refine ⟨o, fun k hk => ?_⟩
  obtain ⟨k, rfl⟩ : ∃ m, k = m + 1 := ⟨k - 1, O_⟩
  simp only [spec_l3Apply.l0]
  rw [iN_ O_, List.drop_of_length_le O_, nil_dec]
  show some (o, decide ((0 : Int) = s.size)) = some (o, decide ((0 : Int) = s.size) && true)
  rw [Bool.and_true]
 | succ d ih =>
  intro i s o hi hs ho
  have hil : i < l.length := by omega
  have hpk := hp l[i] (List.getElem_mem hil)
  have hq := PK_bd hpk
  have hbd := s_bd (l.drop (i + 1)) (fun p hp' => hp p (List.mem_of_mem_drop hp'))
  rw [List.drop_eq_getElem_cons hil, show ∀ ps, sB (l[i] :: ps) = l[i].f0 + (l[i].f2.size : Int) + sB ps from fun _ => rfl, show ∀ ps, mt (l[i] :: ps) s = (((l[i].f2.toList == []) || ((s.extract 0 l[i].f2.size).toList == l[i].f2.toList)) && mt ps (s.extract (l[i].f0.toNat + l[i].f2.size) s.size)) from fun _ => rfl]
  have hi1 : ((i : Int) + 1) = ((i + 1 : Nat) : Int) := by omega
  have hw : wrap64 (l[i].f0 + (l[i].f2.size : Int)) = l[i].f0 + (l[i].f2.size : Int) := w64 O_ O_
  obtain ⟨n, hn⟩ : ∃ n : Nat, l[i].f0 + (l[i].f2.size : Int) = (n : Int) := ⟨(l[i].f0 + (l[i].f2.size : Int)).toNat, O_⟩
  have hnn : l[i].f0.toNat + l[i].f2.size = n := by omega
  by_cases hle : s.size < n
  ·refine ⟨⟨#[]⟩, fun k hk => ?_⟩
   obtain ⟨k, rfl⟩ : ∃ m, k = m + 1 + 1 := ⟨k - 2, O_⟩
   rw [show decide (l[i].f0 + (l[i].f2.size : Int) + sB (l.drop (i + 1)) = (s.size : Int)) = false from decide_eq_false O_, Bool.false_and]
   simp only [spec_l3Apply.l0]
   rw [ip_ O_, ip_ O_, ip_ O_, rdP l i hil, hw, ip_ O_]
   simp only [spec_l3Apply.j1, if_true]
  ·obtain ⟨o2, ho2⟩ : ∃ o2, o2 = if l[i].f0 > 0 then (o ++ s.extract 0 n) ++ l[i].f1 else o ++ l[i].f1 := ⟨_, rfl⟩
   have hz2 : o2.size ≤ o.size + 1300 := by
    rw [ho2]
    split <;> simp only [zA_, zE_] <;> omega
   have hsz := ex_size s n
   obtain ⟨a, hK⟩ := ih (i + 1) (s.extract n s.size) o2 O_ O_ O_
   have hJ : ∀ k, 2 * d < k → spec_l3Apply.j1 (k + 1) s o (n : Int) l (l.length : Int) (i : Int) false l[i].f0 l[i].f1 l[i].f2 = some (a, decide (sB (l.drop (i + 1)) = ((s.extract n s.size).size : Int)) && mt (l.drop (i + 1)) (s.extract n s.size)) := fun k hk => by
    have h := hK k hk
    have hx : (s.extract 0 n).size = n := by rw [zE_]; omega
    simp only [spec_l3Apply.j1]
    rw [iN_ (by simp)]
    by_cases h0 : l[i].f0 > 0
    ·rw [ip_ h0] at ho2
     rw [ip_ h0, ip_ O_, ip_ O_, tN_, ip_ O_, ip_ (by rw [zA_]; omega), w64 O_ O_, hi1, ← ho2, h]
    ·rw [iN_ h0] at ho2
     rw [iN_ h0, ip_ O_, ip_ O_, ip_ O_, tN_, w64 O_ O_, hi1, ← ho2, h]
   have hdec : decide (l[i].f0 + (l[i].f2.size : Int) + sB (l.drop (i + 1)) = (s.size : Int)) = decide (sB (l.drop (i + 1)) = ((s.extract n s.size).size : Int)) := by
    rw [hsz, decide_eq_decide]; omega
   rw [hdec, hnn]
   by_cases h2 : l[i].f2.toList = []
   ·refine ⟨a, fun k hk => ?_⟩
    obtain ⟨k, rfl⟩ : ∃ m, k = m + 1 + 1 := ⟨k - 2, O_⟩
    simp only [spec_l3Apply.l0]
    rw [ip_ O_, ip_ O_, ip_ O_, rdP l i hil, hw, hn, iN_ O_, ip_ h2, hJ k O_]
    simp [h2]
   ·have h0 : l[i].f0 = 0 := by
     rcases hpk with h | h | h
     ·exact h.1
     ·exact h.1
     ·exact absurd h.2.2.2 h2
    have hn2 : n = l[i].f2.size := by omega
    by_cases he : (s.extract 0 n).toList = l[i].f2.toList
    ·refine ⟨a, fun k hk => ?_⟩
     obtain ⟨k, rfl⟩ : ∃ m, k = m + 1 + 1 := ⟨k - 2, O_⟩
     simp only [spec_l3Apply.l0]
     rw [ip_ O_, ip_ O_, ip_ O_, rdP l i hil, hw, hn, iN_ O_, iN_ h2, ip_ O_, ip_ O_, tN_, show ((s.extract 0 n).toList != l[i].f2.toList) = false from bne_eq_false_iff_eq.2 he, hJ k O_, ← hn2, show ((s.extract 0 n).toList == l[i].f2.toList) = true from beq_iff_eq.2 he, Bool.or_true, Bool.true_and]
    ·refine ⟨⟨#[]⟩, fun k hk => ?_⟩
     obtain ⟨k, rfl⟩ : ∃ m, k = m + 1 + 1 := ⟨k - 2, O_⟩
     simp only [spec_l3Apply.l0]
     rw [ip_ O_, ip_ O_, ip_ O_, rdP l i hil, hw, hn, iN_ O_, iN_ h2, ip_ O_, ip_ O_, tN_, show ((s.extract 0 n).toList != l[i].f2.toList) = true from bne_iff_ne.2 he, ← hn2, show ((s.extract 0 n).toList == l[i].f2.toList) = false from beq_eq_false_iff_ne.2 he, show (l[i].f2.toList == []) = false from beq_eq_false_iff_ne.2 h2]
     simp only [spec_l3Apply.j1, if_true, Bool.or_self, Bool.false_and, Bool.and_false]
theorem implApply_l (l : List S44) (hl : l.length ≤ 60) (hp : ∀ p ∈ l, PK p) : ∀ (d i : Nat) (s o : ByteArray), i + d = l.length → s.size ≤ 1000 → o.size + 2000 * d ≤ 1000000000 → sB (l.drop i) = (s.size : Int) → ∃ a, ∀ k, d < k → impl_ApplyOp.l0 k s o l (l.length : Int) (i : Int) = some (a, mt (l.drop i) s) := by
 intro d
 induction d with
 | zero =>
  intro i s o hi hs ho hB
  refine ⟨o, fun k hk => ?_⟩
  obtain ⟨k, rfl⟩ : ∃ m, k = m + 1 := ⟨k - 1, O_⟩
  simp only [impl_ApplyOp.l0]
  rw [iN_ O_, List.drop_of_length_le O_]
  rfl
 | succ d ih =>
  intro i s o hi hs ho hB
  have hil : i < l.length := by omega
  have hpk := hp l[i] (List.getElem_mem hil)
  have hq := PK_bd hpk
  have hbd := s_bd (l.drop (i + 1)) (fun p hp' => hp p (List.mem_of_mem_drop hp'))
  rw [List.drop_eq_getElem_cons hil] at hB ⊢
  simp only [sB] at hB
  simp only [mt]
  have hi1 : ((i : Int) + 1) = ((i + 1 : Nat) : Int) := by omega
  have hw : wrap64 (l[i].f0 + (l[i].f2.size : Int)) = l[i].f0 + (l[i].f2.size : Int) := w64 O_ O_
  obtain ⟨n, hn⟩ : ∃ n : Nat, l[i].f0 + (l[i].f2.size : Int) = (n : Int) := ⟨(l[i].f0 + (l[i].f2.size : Int)).toNat, O_⟩
  have hnn : l[i].f0.toNat + l[i].f2.size = n := by omega
  have hsz := ex_size s n
  have hOr : ((l[i].f2.toList == []) || ((s.extract 0 l[i].f2.size).toList == l[i].f2.toList)) = ((s.extract 0 l[i].f2.size).toList == l[i].f2.toList) := by
   by_cases h2 : l[i].f2.toList = []
   ·rw [h2, tl_nil.1 h2, ex_zero]; rfl
   ·rw [show (l[i].f2.toList == []) = false from beq_eq_false_iff_ne.2 h2, Bool.false_or]
  rw [hOr, hnn]
  obtain ⟨o2, ho2⟩ : ∃ o2, o2 = o ++ (s.extract 0 l[i].f0.toNat ++ l[i].f1) := ⟨_, rfl⟩
  have hx : (s.extract 0 l[i].f0.toNat).size = l[i].f0.toNat := by rw [zE_]; omega
  have hz2 : o2.size ≤ o.size + 1300 := by
   rw [ho2]
   simp only [zA_, hx]
   omega
  obtain ⟨a, hK⟩ := ih (i + 1) (s.extract n s.size) o2 O_ O_ O_ (by rw [hsz]; omega)
  by_cases he : (s.extract 0 l[i].f2.size).toList = l[i].f2.toList
  ·refine ⟨a, fun k hk => ?_⟩
   obtain ⟨k, rfl⟩ : ∃ m, k = m + 1 := ⟨k - 1, O_⟩
   simp only [impl_ApplyOp.l0]
   rw [ip_ O_, ip_ O_, ip_ O_, rdP l i hil, ip_ O_, ip_ O_, tN_, ip_ he, ip_ O_, ip_ O_, ip_ O_, ip_ (by rw [zA_]; omega), hw, hn, ip_ O_, ip_ O_, tN_, w64 O_ O_, hi1, ← ho2, hK k O_, show ((s.extract 0 l[i].f2.size).toList == l[i].f2.toList) = true from beq_iff_eq.2 he, Bool.true_and]
  ·refine ⟨⟨#[]⟩, fun k hk => ?_⟩
   obtain ⟨k, rfl⟩ : ∃ m, k = m + 1 := ⟨k - 1, O_⟩
   simp only [impl_ApplyOp.l0]
   rw [ip_ O_, ip_ O_, ip_ O_, rdP l i hil, ip_ O_, ip_ O_, tN_, iN_ he, show ((s.extract 0 l[i].f2.size).toList == l[i].f2.toList) = false from beq_eq_false_iff_ne.2 he, Bool.false_and]
def apF : List S44 → ByteArray → ByteArray → ByteArray
 | [], _, o => o
 | p :: ps, s, o => apF ps (s.extract (p.f0.toNat + p.f2.size) s.size) (o ++ (s.extract 0 p.f0.toNat ++ p.f1))
theorem implApply_f (l : List S44) (hl : l.length ≤ 60) (hp : ∀ p ∈ l, PK p) : ∀ (d i : Nat) (s o : ByteArray), i + d = l.length → s.size ≤ 1000 → o.size + 2000 * d ≤ 1000000000 → sB (l.drop i) = (s.size : Int) → mt (l.drop i) s = true → ∀ k, d < k → impl_ApplyOp.l0 k s o l (l.length : Int) (i : Int) = some (apF (l.drop i) s o, true) := by
 intro d
 induction d with
 | zero =>
  intro i s o hi hs ho hB hmt k hk
  obtain ⟨k, rfl⟩ : ∃ m, k = m + 1 := ⟨k - 1, O_⟩
  simp only [impl_ApplyOp.l0]
  rw [iN_ O_, List.drop_of_length_le O_]
  rfl
 | succ d ih =>
  intro i s o hi hs ho hB hmt k hk
  have hil : i < l.length := by omega
  have hpk := hp l[i] (List.getElem_mem hil)
  have hq := PK_bd hpk
  have hbd := s_bd (l.drop (i + 1)) (fun p hp' => hp p (List.mem_of_mem_drop hp'))
  rw [List.drop_eq_getElem_cons hil] at hB hmt ⊢
  simp only [sB] at hB
  simp only [mt, Bool.and_eq_true] at hmt
  simp only [apF]
  have hi1 : ((i : Int) + 1) = ((i + 1 : Nat) : Int) := by omega
  have hw : wrap64 (l[i].f0 + (l[i].f2.size : Int)) = l[i].f0 + (l[i].f2.size : Int) := w64 O_ O_
  obtain ⟨n, hn⟩ : ∃ n : Nat, l[i].f0 + (l[i].f2.size : Int) = (n : Int) := ⟨(l[i].f0 + (l[i].f2.size : Int)).toNat, O_⟩
  have hnn : l[i].f0.toNat + l[i].f2.size = n := by omega
  have hsz := ex_size s n
  rw [hnn] at hmt ⊢
  have he : (s.extract 0 l[i].f2.size).toList = l[i].f2.toList := by
   by_cases h2 : l[i].f2.toList = []
   ·rw [h2, tl_nil.1 h2, ex_zero]
   ·have := hmt.1
    rw [show (l[i].f2.toList == []) = false from beq_eq_false_iff_ne.2 h2, Bool.false_or] at this
    exact beq_iff_eq.1 this
  obtain ⟨o2, ho2⟩ : ∃ o2, o2 = o ++ (s.extract 0 l[i].f0.toNat ++ l[i].f1) := ⟨_, rfl⟩
  have hx : (s.extract 0 l[i].f0.toNat).size = l[i].f0.toNat := by rw [zE_]; omega
  have hz2 : o2.size ≤ o.size + 1300 := by
   rw [ho2]
   simp only [zA_, hx]
   omega
  have hK := ih (i + 1) (s.extract n s.size) o2 O_ O_ O_ (by rw [hsz]; omega) hmt.2
  obtain ⟨k, rfl⟩ : ∃ m, k = m + 1 := ⟨k - 1, O_⟩
  simp only [impl_ApplyOp.l0]
  rw [ip_ O_, ip_ O_, ip_ O_, rdP l i hil, ip_ O_, ip_ O_, tN_, ip_ he, ip_ O_, ip_ O_, ip_ O_, ip_ (by rw [zA_]; omega), hw, hn, ip_ O_, ip_ O_, tN_, w64 O_ O_, hi1, ← ho2, hK k O_]
theorem specApply_f (l : List S44) (hl : l.length ≤ 60) (hp : ∀ p ∈ l, PK p) : ∀ (d i : Nat) (s o : ByteArray), i + d = l.length → s.size ≤ 1000 → o.size + 2000 * d ≤ 1000000000 → sB (l.drop i) = (s.size : Int) → mt (l.drop i) s = true → ∀ k, 2 * d < k → spec_l3Apply.l0 k s o l (l.length : Int) (i : Int) = some (apF (l.drop i) s o, true) := by
 intro d
 induction d with
 | zero =>
  intro i s o hi hs ho hB hmt k hk
  obtain ⟨k, rfl⟩ : ∃ m, k = m + 1 := ⟨k - 1, O_⟩
  rw [List.drop_of_length_le O_] at hB ⊢
  have hB' : (0 : Int) = (s.size : Int) := hB
  simp only [spec_l3Apply.l0]
  rw [iN_ O_, nil_dec, decide_eq_true hB']
  rfl
 | succ d ih =>
  intro i s o hi hs ho hB hmt k hk
  have hil : i < l.length := by omega
  have hpk := hp l[i] (List.getElem_mem hil)
  have hq := PK_bd hpk
  have hbd := s_bd (l.drop (i + 1)) (fun p hp' => hp p (List.mem_of_mem_drop hp'))
  rw [List.drop_eq_getElem_cons hil] at hB hmt ⊢
  simp only [sB] at hB
  simp only [mt, Bool.and_eq_true] at hmt
  simp only [apF]
  have hi1 : ((i : Int) + 1) = ((i + 1 : Nat) : Int) := by omega
  have hw : wrap64 (l[i].f0 + (l[i].f2.size : Int)) = l[i].f0 + (l[i].f2.size : Int) := w64 O_ O_
  obtain ⟨n, hn⟩ : ∃ n : Nat, l[i].f0 + (l[i].f2.size : Int) = (n : Int) := ⟨(l[i].f0 + (l[i].f2.size : Int)).toNat, O_⟩
  have hnn : l[i].f0.toNat + l[i].f2.size = n := by omega
  have hsz := ex_size s n
  rw [hnn] at hmt ⊢
  have hx : (s.extract 0 l[i].f0.toNat).size = l[i].f0.toNat := by rw [zE_]; omega
  obtain ⟨o2, ho2⟩ : ∃ o2, o2 = o ++ (s.extract 0 l[i].f0.toNat ++ l[i].f1) := ⟨_, rfl⟩
  have hz2 : o2.size ≤ o.size + 1300 := by
   rw [ho2]
   simp only [zA_, hx]
   omega
  have hK := ih (i + 1) (s.extract n s.size) o2 O_ O_ O_ (by rw [hsz]; omega) hmt.2
  obtain ⟨k, rfl⟩ : ∃ m, k = m + 1 + 1 := ⟨k - 2, O_⟩
  have hj : spec_l3Apply.j1 (k + 1) s o (n : Int) l (l.length : Int) (i : Int) false l[i].f0 l[i].f1 l[i].f2 = some (apF (l.drop (i + 1)) (s.extract n s.size) o2, true) := by
   simp only [spec_l3Apply.j1]
   rw [iN_ (by simp)]
   have h := hK k O_
   by_cases h0 : l[i].f0 > 0
   ·have h2 : l[i].f2.size = 0 := by
     rcases hpk with h | h | h
     ·omega
     ·omega
     ·exact tl_nil.1 h.2.2.2
    have e0 : l[i].f0.toNat = n := by omega
    rw [e0, ← ba_assoc] at ho2
    have hx0 : (s.extract 0 n).size = n := by rw [zE_]; omega
    rw [ip_ h0, ip_ O_, ip_ O_, tN_, ip_ O_, ip_ (by rw [zA_]; omega), w64 O_ O_, hi1, ← ho2, h]
   ·have e0 : l[i].f0.toNat = 0 := by omega
    rw [e0, ba_extract_same, ba_nil_append] at ho2
    rw [iN_ h0, ip_ O_, ip_ O_, ip_ O_, tN_, w64 O_ O_, hi1, ← ho2, h]
  rw [← ho2]
  simp only [spec_l3Apply.l0]
  by_cases h2 : l[i].f2.toList = []
  ·rw [ip_ O_, ip_ O_, ip_ O_, rdP l i hil, hw, hn, iN_ O_, ip_ h2, hj]
  ·have h0 : l[i].f0 = 0 := by
    rcases hpk with h | h | h
    ·exact h.1
    ·exact h.1
    ·exact absurd h.2.2.2 h2
   have hn2 : n = l[i].f2.size := by omega
   have he : (s.extract 0 n).toList = l[i].f2.toList := by
    have := hmt.1
    rw [show (l[i].f2.toList == []) = false from beq_eq_false_iff_ne.2 h2, Bool.false_or, ← hn2] at this
    exact beq_iff_eq.1 this
   rw [ip_ O_, ip_ O_, ip_ O_, rdP l i hil, hw, hn, iN_ O_, iN_ h2, ip_ O_, ip_ O_, tN_, show ((s.extract 0 n).toList != l[i].f2.toList) = false from bne_eq_false_iff_eq.2 he, hj]
theorem apF_size : ∀ (l : List S44), (∀ p ∈ l, PK p) → ∀ (s o : ByteArray), (apF l s o).size ≤ o.size + s.size * l.length + 300 * l.length
 | [], _, s, o => by simp [apF]
 | p :: ps, h, s, o => by
  have h1 := PK_bd (h p List.mem_cons_self)
  have h2 := apF_size ps (fun q hq => h q (List.mem_cons_of_mem _ hq)) (s.extract (p.f0.toNat + p.f2.size) s.size) (o ++ (s.extract 0 p.f0.toNat ++ p.f1))
  simp only [apF, List.length_cons]
  have e1 : (s.extract (p.f0.toNat + p.f2.size) s.size).size ≤ s.size := by rw [zE_]; omega
  have e2 : (s.extract 0 p.f0.toNat).size ≤ s.size := by rw [zE_]; omega
  have e3 := Nat.mul_le_mul_right ps.length e1
  rw [zA_, zA_] at h2
  rw [Nat.mul_add, Nat.mul_add]
  omega
def allB (b : ByteArray) : Prop := ∀ j : Nat, j < b.size → okB (bt b (j : Int)) = true
theorem okN_iff (b : ByteArray) : ∀ (d i : Nat), okN b d i = true ↔ ∀ j : Nat, i ≤ j → j < i + d → okB (bt b (j : Int)) = true
 | 0, i => by simp [okN]; intro j h1 h2; omega
 | d + 1, i => by
  simp only [okN, Bool.and_eq_true, okN_iff b d (i + 1)]
  constructor
  ·intro ⟨h1, h2⟩ j hj hj2
   by_cases e : j = i
   ·subst e; exact h1
   ·exact h2 j O_ O_
  ·intro h
   exact ⟨h i (Nat.le_refl _) O_, fun j h1 h2 => h j O_ O_⟩
theorem textB_iff (b : ByteArray) : textB b = true ↔ allB b ∧ b.size ≤ 300 := by
 unfold textB allB
 rw [Bool.and_eq_true, okN_iff, decide_eq_true_eq]
 constructor
 ·intro ⟨h1, h2⟩; exact ⟨fun j hj => h1 j (Nat.zero_le _) O_, h2⟩
 ·intro ⟨h1, h2⟩; exact ⟨fun j _ hj => h1 j O_, h2⟩
theorem allB_data (b : ByteArray) : allB b ↔ ∀ x ∈ b.data.toList, okB (x.toNat : Int) = true := by
 unfold allB
 constructor
 ·intro h x hx
  obtain ⟨j, hj, rfl⟩ := List.mem_iff_getElem.mp hx
  have hj' : j < b.size := by rw [Array.length_toList] at hj; exact hj
  have := h j hj'
  rw [bt_data b j hj'] at this
  exact this
 ·intro h j hj
  rw [bt_data b j hj]
  exact h _ (List.getElem_mem _)
theorem allB_append {a b : ByteArray} (ha : allB a) (hb : allB b) : allB (a ++ b) := by
 rw [allB_data] at ha hb ⊢
 intro x hx
 rw [ByteArray.data_append, Array.toList_append] at hx
 rcases List.mem_append.mp hx with h | h
 ·exact ha x h
 ·exact hb x h
theorem allB_extract {a : ByteArray} (ha : allB a) (i j : Nat) : allB (a.extract i j) := by
 rw [allB_data] at ha ⊢
 intro x hx
 rw [ByteArray.data_extract, Array.toList_extract] at hx
 exact ha x (List.mem_of_mem_drop (List.mem_of_mem_take (by simpa [List.extract] using hx)))
theorem same_same (x y : List Int) (n : Int) : ∀ (k : Nat) (i : Int), impl_SameTexts.l0 k y x n i = spec_l4Same.l0 k x y n i := by
 intro k
 induction k with
 | zero => intro i; rfl
 | succ k ih =>
  intro i
  unfold impl_SameTexts.l0 spec_l4Same.l0
  simp only [ih]
theorem same_l (x y : List Int) (hl : y.length = x.length) (hx : x.length ≤ 1000000) : ∀ (d i : Nat), i + d = x.length → ∃ b, ∀ k, d < k → spec_l4Same.l0 k x y (x.length : Int) (i : Int) = some (b, true) := by
 intro d
 induction d with
 | zero =>
  intro i hi
  refine ⟨true, fun k hk => ?_⟩
  obtain ⟨k, rfl⟩ : ∃ m, k = m + 1 := ⟨k - 1, O_⟩
  unfold spec_l4Same.l0
  rw [iN_ O_]
 | succ d ih =>
  intro i hi
  have hi1 : wrap64 ((i : Int) + 1) = ((i + 1 : Nat) : Int) := (w64 O_ O_).trans O_
  obtain ⟨b, hb⟩ := ih (i + 1) O_
  by_cases c : rd x (i : Int) = 0 ∨ rd y (i : Int) = 0 ∨ rd x (i : Int) = rd y (i : Int)
  ·refine ⟨b, fun k hk => ?_⟩
   obtain ⟨k, rfl⟩ : ∃ m, k = m + 1 := ⟨k - 1, O_⟩
   unfold spec_l4Same.l0
   rw [ip_ O_, ip_ O_, ip_ O_, hi1]
   by_cases c1 : rd x (i : Int) = 0
   ·rw [ip_ c1, hb k O_]
   ·rw [iN_ c1, ip_ O_]
    by_cases c2 : rd y (i : Int) = 0
    ·rw [ip_ c2, hb k O_]
    ·rw [iN_ c2, ip_ O_, hb k O_]
  ·refine ⟨false, fun k hk => ?_⟩
   obtain ⟨k, rfl⟩ : ∃ m, k = m + 1 := ⟨k - 1, O_⟩
   unfold spec_l4Same.l0
   rw [ip_ O_, ip_ O_, ip_ O_, iN_ O_, ip_ O_, iN_ O_, iN_ O_]
theorem clash_same (x y : List Int) (n : Int) : ∀ (k : Nat) (c i : Int), impl_ClashesOf.l0 k y c x n i = spec_ClashesOf.l0 k c x y n i := by
 intro k
 induction k with
 | zero => intro c i; rfl
 | succ k ih =>
  intro c i
  unfold impl_ClashesOf.l0 spec_ClashesOf.l0
  simp only [ih]
theorem clash_l (x y : List Int) (hl : y.length = x.length) (hx : x.length ≤ 1000000) : ∀ (d i : Nat) (c : Int), i + d = x.length → ∃ r, ∀ k, d < k → spec_ClashesOf.l0 k c x y (x.length : Int) (i : Int) = some (r, true) := by
 intro d
 induction d with
 | zero =>
  intro i c hi
  refine ⟨c, fun k hk => ?_⟩
  obtain ⟨k, rfl⟩ : ∃ m, k = m + 1 := ⟨k - 1, O_⟩
  unfold spec_ClashesOf.l0
  rw [iN_ O_]
 | succ d ih =>
  intro i c hi
  have hi1 : wrap64 ((i : Int) + 1) = ((i + 1 : Nat) : Int) := (w64 O_ O_).trans O_
  by_cases c0 : rd x (i : Int) = 0 ∨ rd y (i : Int) = 0
  ·obtain ⟨b, hb⟩ := ih (i + 1) c O_
   refine ⟨b, fun k hk => ?_⟩
   obtain ⟨k, rfl⟩ : ∃ m, k = m + 1 := ⟨k - 1, O_⟩
   unfold spec_ClashesOf.l0
   rw [ip_ O_, ip_ O_, ip_ O_, hi1]
   by_cases c1 : rd x (i : Int) = 0
   ·rw [ip_ c1, hb k O_]
   ·rw [iN_ c1, ip_ O_, ip_ O_, hb k O_]
  ·obtain ⟨b, hb⟩ := ih (i + 1) (wrap64 (c + 1)) O_
   refine ⟨b, fun k hk => ?_⟩
   obtain ⟨k, rfl⟩ : ∃ m, k = m + 1 := ⟨k - 1, O_⟩
   unfold spec_ClashesOf.l0
   rw [ip_ O_, ip_ O_, ip_ O_, hi1, iN_ O_, ip_ O_, iN_ O_, hb k O_]
theorem runs_l1 (L : List S44) (n i : Int) (f0 : Int) (f1 d : ByteArray) (run : Int) (hd : d.size ≤ 1000000) (r : List Int) : ∀ (e j : Nat) (acc : List Int), j + e = d.size → acc.length + e ≤ 1000000000 →
  (∃ K, ∀ k, K ≤ k → spec_l4Runs.l0 k (acc ++ List.replicate e run) run L n (wrap64 (i + 1)) = some r) → ∃ K, ∀ k, K ≤ k → spec_l4Runs.l1 k acc run (j : Int) L n i f0 f1 d = some r := by
 intro e
 induction e with
 | zero =>
  intro j acc hj ha ⟨K, hK⟩
  refine ⟨K + 1, fun k hk => ?_⟩
  obtain ⟨k, rfl⟩ : ∃ m, k = m + 1 := ⟨k - 1, O_⟩
  unfold spec_l4Runs.l1
  rw [iN_ O_]
  have := hK k O_
  rwa [List.replicate_zero, List.append_nil] at this
 | succ e ih =>
  intro j acc hj ha ⟨K, hK⟩
  obtain ⟨K2, h2⟩ := ih (j + 1) (acc ++ [run]) O_ (by rw [lA_, lS_]; omega) ⟨K, fun k hk => by rw [List.append_assoc]; exact hK k hk⟩
  refine ⟨K2 + 1, fun k hk => ?_⟩
  obtain ⟨k, rfl⟩ : ∃ m, k = m + 1 := ⟨k - 1, O_⟩
  unfold spec_l4Runs.l1
  rw [ip_ O_, ip_ O_, show wrap64 ((j : Int) + 1) = ((j + 1 : Nat) : Int) from (w64 O_ O_).trans O_]
  exact h2 k O_
theorem runs_l (L : List Pt) (hl : L.length ≤ 1000000) (hp : ∀ x ∈ L, 0 < massP x) (hmx : ∀ x ∈ L, massP x ≤ 1000000) : ∀ (d i c : Nat) (acc : List Int), i + d = L.length → acc.length + tks (L.drop i) ≤ 1000000000 → c + d ≤ 1000000000 →
  ∃ K, ∀ k, K ≤ k → spec_l4Runs.l0 k acc (c : Int) (L.map encP) ((L.map encP).length : Int) (i : Int) = some (acc ++ rn c (L.drop i)) := by
 intro d
 induction d with
 | zero =>
  intro i c acc hi hm hc
  refine ⟨1, fun k hk => ?_⟩
  obtain ⟨k, rfl⟩ : ∃ m, k = m + 1 := ⟨k - 1, O_⟩
  unfold spec_l4Runs.l0
  rw [lM_, iN_ O_, List.drop_of_length_le O_]
  show some acc = some (acc ++ [])
  rw [List.append_nil]
 | succ d ih =>
  intro i c acc hi hm hc
  have hil : i < L.length := by omega
  have hd := List.drop_eq_getElem_cons hil
  rw [hd] at hm ⊢
  have e0 : tks (L[i] :: L.drop (i + 1)) = tkN L[i] + tks (L.drop (i + 1)) := rfl
  rw [e0] at hm
  have hi1 : wrap64 ((i : Int) + 1) = ((i + 1 : Nat) : Int) := (w64 O_ O_).trans O_
  have hpos := hp L[i] (List.getElem_mem hil)
  have hmax := hmx L[i] (List.getElem_mem hil)
  have hrd := rd_at L i hil
  cases hq : L[i] with
  | K n =>
   rw [hq] at hm hrd
   have hm' : acc.length + (n + tks (L.drop (i + 1))) ≤ 1000000000 := hm
   have hN := ih (i + 1) c (acc ++ List.replicate n 0) O_ (by rw [lA_, List.length_replicate]; omega) O_
   rw [← hi1] at hN
   obtain ⟨K, hK⟩ := runs_l1 (L.map encP) ((L.map encP).length : Int) (i : Int) (n : Int) ⟨#[]⟩ ⟨#[]⟩ (c : Int) (by decide) _ 0 0 (acc ++ List.replicate n 0) rfl (by rw [lA_, List.length_replicate]; omega) (by
    obtain ⟨K, hK⟩ := hN
    exact ⟨K, fun k hk => by rw [List.replicate_zero, List.append_nil]; exact hK k hk⟩)
   refine ⟨K + 2, fun k hk => ?_⟩
   obtain ⟨k, rfl⟩ : ∃ m, k = m + 1 + 1 := ⟨k - 2, O_⟩
   have := hK k O_
   unfold spec_l4Runs.l0
   rw [ip_ (by rw [lM_]; omega), ip_ O_, ip_ (by rw [lM_]; omega), hrd]
   refine (ip_ (show 0 ≤ (encP (.K n)).f0 by show (0 : Int) ≤ (n : Int); omega)).trans ?_
   show (if acc.length + (n : Int).toNat < 17592186044416 then ((some (acc ++ List.replicate (n : Int).toNat 0 : List Int)).bind fun y => (if (⟨#[]⟩ : ByteArray).toList = ([] : List UInt8) then spec_l4Runs.j1 (k + 1) y (c : Int) (L.map encP) ((L.map encP).length : Int) (i : Int) (n : Int) ⟨#[]⟩ ⟨#[]⟩ else spec_l4Runs.j1 (k + 1) y (wrap64 ((c : Int) + 1)) (L.map encP) ((L.map encP).length : Int) (i : Int) (n : Int) ⟨#[]⟩ ⟨#[]⟩)) else none) = _
   rw [tN_, ip_ O_, bs_, ip_ nil_toList]
   unfold spec_l4Runs.j1
   refine Eq.trans this ?_
   rw [List.append_assoc]; rfl
  | W w =>
   rw [hq] at hm hrd
   have hm' : acc.length + (0 + tks (L.drop (i + 1))) ≤ 1000000000 := hm
   have hN := ih (i + 1) c acc O_ O_ O_
   rw [← hi1] at hN
   obtain ⟨K, hK⟩ := runs_l1 (L.map encP) ((L.map encP).length : Int) (i : Int) 0 w ⟨#[]⟩ (c : Int) (by decide) _ 0 0 acc rfl O_ (by
    obtain ⟨K, hK⟩ := hN
    exact ⟨K, fun k hk => by rw [List.replicate_zero, List.append_nil]; exact hK k hk⟩)
   refine ⟨K + 2, fun k hk => ?_⟩
   obtain ⟨k, rfl⟩ : ∃ m, k = m + 1 + 1 := ⟨k - 2, O_⟩
   have := hK k O_
   unfold spec_l4Runs.l0
   rw [ip_ (by rw [lM_]; omega), ip_ O_, ip_ (by rw [lM_]; omega), hrd]
   refine (ip_ (show 0 ≤ (encP (.W w)).f0 by show (0 : Int) ≤ 0; omega)).trans ?_
   show (if acc.length + (0 : Int).toNat < 17592186044416 then ((some (acc ++ List.replicate (0 : Int).toNat 0 : List Int)).bind fun y => (if (⟨#[]⟩ : ByteArray).toList = ([] : List UInt8) then spec_l4Runs.j1 (k + 1) y (c : Int) (L.map encP) ((L.map encP).length : Int) (i : Int) 0 w ⟨#[]⟩ else spec_l4Runs.j1 (k + 1) y (wrap64 ((c : Int) + 1)) (L.map encP) ((L.map encP).length : Int) (i : Int) 0 w ⟨#[]⟩)) else none) = _
   rw [show (0 : Int).toNat = 0 from rfl, ip_ O_, bs_, ip_ nil_toList, List.replicate_zero, List.append_nil]
   unfold spec_l4Runs.j1
   exact this
  | D w =>
   rw [hq] at hm hrd hpos hmax
   have hpos' : 0 < w.size := hpos
   have hmax' : w.size ≤ 1000000 := hmax
   have hm' : acc.length + (w.size + tks (L.drop (i + 1))) ≤ 1000000000 := hm
   have hN := ih (i + 1) (c + 1) (acc ++ List.replicate w.size ((c + 1 : Nat) : Int)) O_ (by rw [lA_, List.length_replicate]; omega) O_
   rw [← hi1] at hN
   obtain ⟨K, hK⟩ := runs_l1 (L.map encP) ((L.map encP).length : Int) (i : Int) 0 ⟨#[]⟩ w ((c + 1 : Nat) : Int) hmax' _ w.size 0 acc O_ O_ hN
   refine ⟨K + 2, fun k hk => ?_⟩
   obtain ⟨k, rfl⟩ : ∃ m, k = m + 1 + 1 := ⟨k - 2, O_⟩
   have := hK k O_
   unfold spec_l4Runs.l0
   rw [ip_ (by rw [lM_]; omega), ip_ O_, ip_ (by rw [lM_]; omega), hrd]
   refine (ip_ (show 0 ≤ (encP (.D w)).f0 by show (0 : Int) ≤ 0; omega)).trans ?_
   show (if acc.length + (0 : Int).toNat < 17592186044416 then ((some (acc ++ List.replicate (0 : Int).toNat 0 : List Int)).bind fun y => (if w.toList = ([] : List UInt8) then spec_l4Runs.j1 (k + 1) y (c : Int) (L.map encP) ((L.map encP).length : Int) (i : Int) 0 ⟨#[]⟩ w else spec_l4Runs.j1 (k + 1) y (wrap64 ((c : Int) + 1)) (L.map encP) ((L.map encP).length : Int) (i : Int) 0 ⟨#[]⟩ w)) else none) = _
   rw [show (0 : Int).toNat = 0 from rfl, ip_ O_, bs_, iN_ (by rw [size0_toList]; omega), List.replicate_zero, List.append_nil, show wrap64 ((c : Int) + 1) = ((c + 1 : Nat) : Int) from (w64 O_ O_).trans O_]
   unfold spec_l4Runs.j1
   refine Eq.trans this ?_
   rw [List.append_assoc]; rfl
theorem runs_ev (L : List Pt) (hp : ∀ x ∈ L, 0 < massP x) (hm : mass L ≤ 1000000) : ∃ K, ∀ k, K ≤ k → spec_l4Runs.f k (L.map encP) = some (rn 0 (nf L)) := by
 have hl := mass_len hp
 have np := nf_pos hp
 have nm := nf_mass hp
 have nl := mass_len np
 have nt := tks_le (nf L)
 obtain ⟨K, hK⟩ := runs_l (nf L) O_ np (fun x hx => by have := mass_mem hx; omega) (nf L).length 0 0 [] O_ (by rw [List.drop_zero]; simp only [List.length_nil]; omega) O_
 refine ⟨K + (L.length + 6), fun k hk => ?_⟩
 unfold spec_l4Runs.f
 rw [normalS_ev L hp hm k O_, bs_]
 have := hK k O_
 rw [List.drop_zero, List.nil_append] at this
 exact this
theorem within_ev (X Y : List Pt) (hX : ∀ x ∈ X, 0 < massP x) (hY : ∀ x ∈ Y, 0 < massP x) (mX : mass X ≤ 1000000) (mY : mass Y ≤ 1000000) (hz : nzD Y) : ∃ r K, ∀ k, K ≤ k → spec_l4Within.f k (X.map encP) (Y.map encP) = some r ∧ impl_putsWithin.f k ((nf X).map encP) (drp Y) = some r := by
 have lY := mass_len hY
 have lX := mass_len (nf_pos hX)
 have nX := nf_mass hX
 have tY := tks_le Y
 obtain ⟨K1, h1⟩ := runs_ev Y hY mY
 obtain ⟨r, hr⟩ := puts_l (drp Y) (by rw [drp_len]; omega) ((nf X).map encP) (by rw [lM_]; omega) (nf X).length 0 0 0 (by rw [lM_]; omega)
 have hlen : (rn 0 (nf Y)).length = (drp Y).length := by rw [rn_len, tks_nf, drp_len]
 have hpq : ∀ i : Nat, i + 1 < (drp Y).length → ((gD (drp Y) i ≠ 0 ∧ gD (drp Y) (i + 1) ≠ 0) ↔ (gD (rn 0 (nf Y)) i > 0 ∧ gD (rn 0 (nf Y)) i = gD (rn 0 (nf Y)) (i + 1))) := fun i hi => by
  have := hit_iff (nf Y) 0 (okF_nf Y) (nzD_nf hz) (nf_pos hY) i (by rw [tks_nf, ← drp_len]; exact hi)
  rw [drp_nf] at this
  exact this
 refine ⟨r, K1 + (X.length + 6) + (Y.length + 6) + (nf X).length + 6, fun k hk => ?_⟩
 have hi := hr k O_
 refine ⟨?_, hi⟩
 unfold spec_l4Within.f
 rw [bytes_ev Y O_ mY k O_, bs_, h1 k O_, bs_, normalS_ev X hX mX k O_, bs_]
 rw [within_same (drp Y) (rn 0 (nf Y)) hlen (by rw [drp_len]; omega) hpq]
 exact hi
theorem good_all (l : List S44) (hl : smallL l) : ∃ g, (g = true → l.length ≤ 60 ∧ ∀ p ∈ l, PK p) ∧ ∃ K, ∀ k, K ≤ k → impl_GoodOp.f k l = some g ∧ spec_GoodOp.f k l = some g ∧ impl_goodOp.f k l = some (if g then (l, true) else ([], false)) := by
 obtain ⟨r, K0, h0⟩ := spec_sizes_ev l hl.1
 obtain ⟨K1, h1⟩ := spec_GoodOp_ev l hl r K0 h0
 obtain ⟨K2, h2⟩ := impl_GoodOp_ev l hl r K0 h0
 refine ⟨goodB l r, fun hg => ?_, K1 + K2, fun k hk => ⟨h2 k O_, h1 k O_, ?_⟩⟩
 ·unfold goodB at hg
  simp only [Bool.and_eq_true, decide_eq_true_eq] at hg
  refine ⟨hg.1, fun p hp => ?_⟩
  obtain ⟨j, hj, rfl⟩ := List.mem_iff_getElem.1 hp
  exact pN_PK l l.length 0 O_ hg.2.1 j hj (Nat.zero_le _)
 ·unfold impl_goodOp.f
  rw [h2 k O_]
  cases goodB l r <;> rfl
theorem okB0 : okB 0 = false := by decide
theorem pk_nz {X : List Pt} (h : ∀ p ∈ X.map encP, PK p) : nzD X := fun d hd j hj hc => by
 rcases h (encP (.D d)) (List.mem_map_of_mem hd) with ⟨_, _, _, a⟩ | ⟨_, a, _⟩ | ⟨a, _⟩
 ·have := (textB_iff d).1 a
  have := this.1 j hj
  rw [hc, okB0] at this
  cases this
 ·exact a nil_toList
 ·exact absurd a (by show ¬ (1 : Int) ≤ 0; omega)
theorem tr_ev (X Y : List Pt) (hX : ∀ x ∈ X, 0 < massP x) (hY : ∀ x ∈ Y, 0 < massP x) (mX : mass X ≤ 100000) (mY : mass Y ≤ 100000) (zX : nzD X) (zY : nzD Y) (K0 : Nat)
  (gX : ∀ k, K0 ≤ k → impl_GoodOp.f k (X.map encP) = some true ∧ spec_GoodOp.f k (X.map encP) = some true) (gY : ∀ k, K0 ≤ k → impl_GoodOp.f k (Y.map encP) = some true ∧ spec_GoodOp.f k (Y.map encP) = some true) :
  ∃ A B ok c cok, (ok = true → ((B.length ≤ 60 ∧ ∀ p ∈ B, PK p) ∧ ∃ K, ∀ k, K ≤ k → impl_GoodOp.f k B = some true) ∧ cok = true) ∧ (ok = false → B = []) ∧ ∃ K, ∀ k, K ≤ k →
   impl_TransformOps.f k (X.map encP) (Y.map encP) = some (A, B, ok) ∧ spec_TransformOps.f k (X.map encP) (Y.map encP) = some (A, B, ok) ∧ impl_ClashesOf.f k (X.map encP) (Y.map encP) = some (c, cok) ∧ spec_ClashesOf.f k (X.map encP) (Y.map encP) = some (c, cok) := by
 have lX := mass_len hX
 have lY := mass_len hY
 have bX : ∀ k, X.length < k → spec_l4Bytes.f k (X.map encP) = some (drp X) := bytes_ev X O_ O_
 have bY : ∀ k, Y.length < k → spec_l4Bytes.f k (Y.map encP) = some (drp Y) := bytes_ev Y O_ O_
 have tX := tks_le X
 have tY := tks_le Y
 have dX := drp_len X
 have dY := drp_len Y
 have cmp : ∃ s1 s2, (s1 = true → s2 = true → tks X = tks Y) ∧ ∀ k, K0 + mass X + mass Y + 5 ≤ k → spec_l4Same.f k (X.map encP) (Y.map encP) = some (s1, s2) ∧ impl_SameTexts.f k (X.map encP) (Y.map encP) = some (s1, s2) := by
  by_cases ht : tks X = tks Y
  ·obtain ⟨b, hb⟩ := same_l (drp X) (drp Y) O_ O_ (drp X).length 0 O_
   refine ⟨b, true, fun _ _ => ht, fun k hk => ?_⟩
   have heq : ((drp X).length : Int) = ((drp Y).length : Int) := by omega
   constructor
   ·unfold spec_l4Same.f
    rw [bX k O_, bs_, bY k O_, bs_, ip_ heq]
    exact hb k O_
   ·obtain ⟨k, rfl⟩ : ∃ m, k = m + 1 := ⟨k - 1, O_⟩
    unfold impl_SameTexts.f
    rw [(gX (k + 1) O_).1, bs_, ip_ rfl, (gY (k + 1) O_).1, bs_]
    simp only [impl_SameTexts.j0, Bool.not_true, Bool.false_eq_true, if_false]
    rw [dropped_ev, dropped_ev, bX k O_, bs_, bY k O_, bs_, ip_ heq, same_same]
    exact hb k O_
  ·refine ⟨false, false, (fun h => by cases h), fun k hk => ?_⟩
   have hne : ¬ ((drp X).length : Int) = ((drp Y).length : Int) := by omega
   constructor
   ·unfold spec_l4Same.f
    rw [bX k O_, bs_, bY k O_, bs_, iN_ hne]
   ·obtain ⟨k, rfl⟩ : ∃ m, k = m + 1 := ⟨k - 1, O_⟩
    unfold impl_SameTexts.f
    rw [(gX (k + 1) O_).1, bs_, ip_ rfl, (gY (k + 1) O_).1, bs_]
    simp only [impl_SameTexts.j0, Bool.not_true, Bool.false_eq_true, if_false]
    rw [dropped_ev, dropped_ev, bX k O_, bs_, bY k O_, bs_, iN_ hne]
 obtain ⟨s1, s2, hs, cmp⟩ := cmp
 by_cases hok : s1 = true ∧ s2 = true
 case neg =>
  refine ⟨[], [], false, 0, false, (fun h => by cases h), fun _ => rfl, K0 + mass X + mass Y + 10, fun k hk => ⟨?_, ?_, ?_, ?_⟩⟩
  ·unfold impl_TransformOps.f
   rw [(cmp k O_).2, bs_, iN_ (fun c => hok ⟨c.2, c.1⟩)]
  ·obtain ⟨k, rfl⟩ : ∃ m, k = m + 1 := ⟨k - 1, O_⟩
   unfold spec_TransformOps.f
   rw [(gX (k + 1) O_).2, bs_, ip_ rfl, (gY (k + 1) O_).2, bs_]
   simp only [spec_TransformOps.j0, Bool.not_true, Bool.false_eq_true, if_false]
   unfold spec_l4Transform.f
   rw [(cmp k O_).1, bs_, iN_ hok, bs_, iN_ (by simp)]
  ·obtain ⟨k, rfl⟩ : ∃ m, k = m + 1 := ⟨k - 1, O_⟩
   unfold impl_ClashesOf.f
   rw [(cmp (k + 1) O_).2, bs_]
   cases s2 with
   | false => rw [iN_ (by simp)]; simp only [impl_ClashesOf.j0, if_true]
   | true =>
    cases s1 with
    | true => exact absurd ⟨rfl, rfl⟩ hok
    | false => rw [ip_ rfl]; simp only [impl_ClashesOf.j0, Bool.not_false, if_true]
  ·obtain ⟨k, rfl⟩ : ∃ m, k = m + 1 + 1 := ⟨k - 2, O_⟩
   unfold spec_ClashesOf.f
   rw [(gX (k + 1 + 1) O_).2, bs_, ip_ rfl, (gY (k + 1 + 1) O_).2, bs_]
   simp only [spec_ClashesOf.j0, Bool.not_true, Bool.false_eq_true, if_false]
   rw [(cmp (k + 1) O_).1, bs_]
   cases s1 with
   | false => rw [iN_ (by simp)]; simp only [spec_ClashesOf.j1, if_true]
   | true =>
    cases s2 with
    | true => exact absurd ⟨rfl, rfl⟩ hok
    | false => rw [ip_ rfl]; simp only [spec_ClashesOf.j1, Bool.not_false, if_true]
 case pos =>
 obtain ⟨rfl, rfl⟩ := hok
 have ht := hs rfl rfl
 have nX := nf_pos hX
 have nY := nf_pos hY
 have nmX := nf_mass hX
 have nmY := nf_mass hY
 have e0 : mass ([] : List Pt) = 0 := rfl
 obtain ⟨ra, rb, m', o', q1, q2, q3, q4, q5, q6⟩ := tr_both _ (nf X) (nf Y) [] [] ms0 ms0 (Nat.le_refl _) nX nY (by rw [tks_nf, tks_nf]; exact ht) O_ O_ ms0_st ms0_st
 have pa : ∀ x ∈ ra, 0 < massP x := by obtain ⟨_, _, _, _, _, _, h⟩ := q1; exact h
 have pb : ∀ x ∈ rb, 0 < massP x := by obtain ⟨_, _, _, _, _, _, h⟩ := q2; exact h
 have la := mass_len pa
 have lb := mass_len pb
 have lnX := mass_len nX
 have lnY := mass_len nY
 have tnX := tks_le (nf X)
 have tnY := tks_le (nf Y)
 have ma := mE_st q1 O_
 have mb := mE_st q2 O_
 obtain ⟨ga, ha, Ka, hKa⟩ := good_all (ra.reverse.map encP) (enc_small ra (by rw [tot_mass]; omega) O_)
 obtain ⟨gb, hb, Kb, hKb⟩ := good_all (rb.reverse.map encP) (enc_small rb (by rw [tot_mass]; omega) O_)
 obtain ⟨w1, W1, hw1⟩ := within_ev X Y hX hY O_ O_ zY
 obtain ⟨w2, W2, hw2⟩ := within_ev Y X hY hX O_ O_ zX
 obtain ⟨c, hc⟩ := clash_l (drp X) (drp Y) O_ O_ (drp X).length 0 (wrap64 (w1 + w2)) O_
 refine ⟨if ga && gb then ra.reverse.map encP else [], if ga && gb then rb.reverse.map encP else [], ga && gb, c, true, fun h => ⟨?_, rfl⟩, fun h => by rw [h]; rfl, K0 + Ka + Kb + W1 + W2 + mass X + mass Y + 2000000, fun k hk => ⟨?_, ?_, ?_, ?_⟩⟩
 ·rw [h]
  simp only [Bool.and_eq_true] at h
  rw [h.2] at hKb
  exact ⟨hb h.2, Kb, fun k hk => (hKb k hk).1⟩
 ·unfold impl_TransformOps.f
  rw [(cmp k O_).2, bs_, ip_ ⟨rfl, rfl⟩, ip_ ⟨by rw [lM_]; omega, by rw [lM_]; omega⟩, normalI_ev X hX O_, bs_, normalI_ev Y hY O_, bs_, q5 k O_, bs_]
  dsimp only
  rw [ma, bs_, (hKa k O_).2.2, bs_, mb, bs_, (hKb k O_).2.2, bs_]
  cases ga <;> cases gb <;> rfl
 ·obtain ⟨k, rfl⟩ : ∃ m, k = m + 1 := ⟨k - 1, O_⟩
  unfold spec_TransformOps.f
  rw [(gX (k + 1) O_).2, bs_, ip_ rfl, (gY (k + 1) O_).2, bs_]
  simp only [spec_TransformOps.j0, Bool.not_true, Bool.false_eq_true, if_false]
  unfold spec_l4Transform.f
  have h6 := q6 k k O_ O_
  have h6' : str k k ((nf X).map encP) ((nf Y).map encP) [] [] = some (ra.reverse.map encP, rb.reverse.map encP) := h6
  rw [(cmp k O_).1, bs_, ip_ ⟨rfl, rfl⟩, ip_ ⟨by rw [lM_]; omega, by rw [lM_]; omega⟩, normalS_ev X hX O_ k O_, bs_, normalS_ev Y hY O_ k O_, bs_, h6', bs_, bs_, ip_ rfl]
  dsimp only
  rw [(hKa k O_).2.1, bs_, (hKb k O_).2.1, bs_]
  cases ga <;> cases gb <;> rfl
 ·obtain ⟨k, rfl⟩ : ∃ m, k = m + 1 := ⟨k - 1, O_⟩
  unfold impl_ClashesOf.f
  rw [(cmp (k + 1) O_).2, bs_, ip_ rfl]
  simp only [impl_ClashesOf.j0, Bool.not_true, Bool.false_eq_true, if_false]
  rw [dropped_ev, dropped_ev, bX k O_, bs_, bY k O_, bs_, normalI_ev X hX O_, bs_, (hw1 k O_).2, bs_, normalI_ev Y hY O_, bs_, (hw2 k O_).2, bs_, clash_same]
  exact hc k O_
 ·obtain ⟨k, rfl⟩ : ∃ m, k = m + 1 + 1 := ⟨k - 2, O_⟩
  unfold spec_ClashesOf.f
  rw [(gX (k + 1 + 1) O_).2, bs_, ip_ rfl, (gY (k + 1 + 1) O_).2, bs_]
  simp only [spec_ClashesOf.j0, Bool.not_true, Bool.false_eq_true, if_false]
  rw [(cmp (k + 1) O_).1, bs_, ip_ rfl]
  simp only [spec_ClashesOf.j1, Bool.not_true, Bool.false_eq_true, if_false]
  rw [(hw1 k O_).1, bs_, (hw2 k O_).1, bs_, bX k O_, bs_, bY k O_, bs_]
  exact hc k O_
theorem w_mass (x : Pt) : wP x = massP x := by cases x <;> rfl
theorem DiffOps_ev2 (a b : ByteArray) (ha : a.size ≤ 140737488351232) (hb : b.size ≤ 140737488351232) : ∃ g, ((textB a && textB b) = false → g = false) ∧
  (g = true → (∀ p ∈ (diffR a b).reverse.map encP, PK p) ∧ (∀ x ∈ (diffR a b).reverse, 0 < massP x) ∧ mass (diffR a b).reverse ≤ 100000 ∧ ∃ K, ∀ k, K ≤ k → impl_GoodOp.f k ((diffR a b).reverse.map encP) = some true ∧ spec_GoodOp.f k ((diffR a b).reverse.map encP) = some true) ∧
  ∃ K, ∀ k, K ≤ k → impl_DiffOps.f k a b = some (if g then ((diffR a b).reverse.map encP, true) else ([], false)) ∧ spec_DiffOps.f k a b = some (if g then ((diffR a b).reverse.map encP, true) else ([], false)) := by
 obtain ⟨K1, h1⟩ := impl_areTexts_ev a b ha hb
 obtain ⟨K2, h2⟩ := spec_l9Texts_ev a b ha hb
 have hs : a.size + b.size < 4611686018427387904 := by omega
 cases ht : textB a && textB b with
 | false =>
  refine ⟨false, fun _ => rfl, (fun h => by cases h), K1 + K2, fun k hk => ⟨?_, ?_⟩⟩
  ·unfold impl_DiffOps.f
   rw [ip_ hs, h1 k O_, ht]; rfl
  ·unfold spec_DiffOps.f
   rw [h2 k O_, ht]; rfl
 | true =>
  have ht' := ht
  simp only [Bool.and_eq_true] at ht'
  have hsa := textB_size ht'.1
  have hsb := textB_size ht'.2
  obtain ⟨i1, i2, i3⟩ := diffR_inv a b
  have hsm := enc_small (diffR a b) O_ O_
  obtain ⟨g, hg, K3, h3⟩ := good_all _ hsm
  obtain ⟨K4, h4⟩ := impl_common_ev a b hsa hsb
  obtain ⟨K5, h5⟩ := spec_l9Table_ev a b hsa hsb
  have e0 : mkL [] ⟨#[]⟩ ⟨#[]⟩ = [] := mkL_nil []
  have h6 := dif_ev a b hsa hsb (a.size + b.size + 1) [] ⟨#[]⟩ ⟨#[]⟩ 0 0 O_ (Nat.zero_le _) (Nat.zero_le _) trivial (by rw [e0]; intro x hx; cases hx) (by rw [e0]; simp only [totP]; omega) (by rw [e0]; simp only [List.length_nil]; omega)
  rw [e0] at h6
  obtain ⟨K7, h7⟩ := l9Diff_ev a b hsa hsb (a.size + b.size + 1) [] 0 0 O_ (Nat.zero_le _) (Nat.zero_le _) (fun x hx => by cases hx) (by simp only [totP]; omega) (by simp only [List.length_nil]; omega)
  refine ⟨g, (fun h => by cases h), fun e => ⟨(hg e).2, fun x hx => ?_, ?_, K3, fun k hk => ?_⟩, K1 + K2 + K3 + K4 + K5 + K7, fun k hk => ⟨?_, ?_⟩⟩
  ·rw [← w_mass]; exact i1 x (List.mem_reverse.1 hx)
  ·rw [mass_revA, ← tot_mass]; omega
  ·rw [e] at h3; exact ⟨(h3 k hk).1, (h3 k hk).2.1⟩
  ·unfold impl_DiffOps.f
   rw [ip_ hs, h1 k O_, ht, bs_, ip_ rfl, h4 k O_, bs_]
   have h6' : dif a b (tbl a b) (a.size + b.size + 1) [] ⟨#[]⟩ ⟨#[]⟩ 0 0 = some ((diffR a b).reverse.map encP) := h6
   rw [h6', bs_, (h3 k O_).2.2]
  ·unfold spec_DiffOps.f spec_l9Diff.f
   have h7' : spec_l9Diff.l0 k a b (tbl a b) [] 0 0 = some ((diffR a b).reverse.map encP) := h7 k O_
   rw [h2 k O_, ht, bs_, ip_ rfl, h5 k O_, bs_, h7', bs_, (h3 k O_).2.1]
   cases g <;> rfl
theorem apply_ev (B : List S44) (hB : B.length ≤ 60) (hp : ∀ p ∈ B, PK p) (s : ByteArray) (hs : s.size ≤ 300) (ts : textB s = true) (K0 : Nat) (hg : ∀ k, K0 ≤ k → impl_GoodOp.f k B = some true) :
  ∃ t fits, t.size ≤ 140737488351232 ∧ ∃ t' K, (fits = true → t' = t) ∧ ∀ k, K ≤ k → impl_ApplyOp.f k B s = some (t', fits) ∧ ∃ t2, (fits = true → t2 = t) ∧ spec_l3Apply.f k B s = some (t2, fits) := by
 obtain ⟨K1, h1⟩ := impl_GoodText_ev s O_
 have hsz : ∀ k, B.length < k → impl_sizes.f k B = some (sB B, sA B) := fun k hk => by rw [impl_sizes_ev]; exact sizes_of B hB hp k hk
 have hbs : (apF B s ⟨#[]⟩).size ≤ 140737488351232 := by
  have := apF_size B hp s ⟨#[]⟩
  have z : (⟨#[]⟩ : ByteArray).size = 0 := rfl
  have := Nat.mul_le_mul hs hB
  omega
 have z0 : (⟨#[]⟩ : ByteArray).size = 0 := rfl
 by_cases hc : sB B = (s.size : Int)
 ·by_cases hm : mt B s = true
  ·refine ⟨apF B s ⟨#[]⟩, true, hbs, apF B s ⟨#[]⟩, K0 + K1 + 200, fun _ => rfl, fun k hk => ⟨?_, _, fun _ => rfl, ?_⟩⟩
   ·obtain ⟨k, rfl⟩ : ∃ m, k = m + 1 := ⟨k - 1, O_⟩
    unfold impl_ApplyOp.f
    rw [hg (k + 1) O_, bs_, ip_ rfl, h1 (k + 1) O_, ts, bs_]
    simp only [impl_ApplyOp.j0, Bool.not_true, Bool.false_eq_true, if_false]
    rw [hsz k O_, bs_, ip_ hc]
    exact implApply_f B hB hp B.length 0 s ⟨#[]⟩ O_ O_ O_ (by rw [List.drop_zero]; exact hc) (by rw [List.drop_zero]; exact hm) k O_
   ·unfold spec_l3Apply.f
    exact specApply_f B hB hp B.length 0 s ⟨#[]⟩ O_ O_ O_ (by rw [List.drop_zero]; exact hc) (by rw [List.drop_zero]; exact hm) k O_
  ·have hm' : mt B s = false := by simpa using hm
   obtain ⟨a1, ha1⟩ := implApply_l B hB hp B.length 0 s ⟨#[]⟩ O_ O_ O_ (by rw [List.drop_zero]; exact hc)
   obtain ⟨a2, ha2⟩ := specApply_l B hB hp B.length 0 s ⟨#[]⟩ O_ O_ O_
   rw [List.drop_zero, hm'] at ha1
   rw [List.drop_zero, hm', Bool.and_false] at ha2
   refine ⟨⟨#[]⟩, false, by decide, a1, K0 + K1 + 200, (fun h => by cases h), fun k hk => ⟨?_, a2, (fun h => by cases h), ?_⟩⟩
   ·obtain ⟨k, rfl⟩ : ∃ m, k = m + 1 := ⟨k - 1, O_⟩
    unfold impl_ApplyOp.f
    rw [hg (k + 1) O_, bs_, ip_ rfl, h1 (k + 1) O_, ts, bs_]
    simp only [impl_ApplyOp.j0, Bool.not_true, Bool.false_eq_true, if_false]
    rw [hsz k O_, bs_, ip_ hc]
    exact ha1 k O_
   ·unfold spec_l3Apply.f
    exact ha2 k O_
 ·obtain ⟨a2, ha2⟩ := specApply_l B hB hp B.length 0 s ⟨#[]⟩ O_ O_ O_
  rw [List.drop_zero, decide_eq_false hc, Bool.false_and] at ha2
  refine ⟨⟨#[]⟩, false, by decide, ⟨#[]⟩, K0 + K1 + 200, (fun h => by cases h), fun k hk => ⟨?_, a2, (fun h => by cases h), ?_⟩⟩
  ·obtain ⟨k, rfl⟩ : ∃ m, k = m + 1 := ⟨k - 1, O_⟩
   unfold impl_ApplyOp.f
   rw [hg (k + 1) O_, bs_, ip_ rfl, h1 (k + 1) O_, ts, bs_]
   simp only [impl_ApplyOp.j0, Bool.not_true, Bool.false_eq_true, if_false]
   rw [hsz k O_, bs_, iN_ hc]
  ·unfold spec_l3Apply.f
   exact ha2 k O_
theorem merge_ev (a0 a1 a2 : ByteArray) (s0 : a0.size ≤ 140737488351232) (s1 : a1.size ≤ 140737488351232) (s2 : a2.size ≤ 140737488351232) : ∃ t c b K, ∀ k, K ≤ k → impl_MergeThree.f k a0 a1 a2 = some (t, c, b) ∧ spec_MergeThree.f k a0 a1 a2 = some (t, c, b) := by
 obtain ⟨g1, n1, f1, K1, h1⟩ := DiffOps_ev2 a0 a1 s0 s1
 obtain ⟨g2, n2, f2, K2, h2⟩ := DiffOps_ev2 a0 a2 s0 s2
 obtain ⟨K3, h3⟩ := spec_GoodText_ev a0 s0
 obtain ⟨K4, h4⟩ := spec_l9Texts_ev a1 a2 s1 s2
 by_cases hg : g1 = true ∧ g2 = true
 case neg =>
  refine ⟨⟨#[]⟩, 0, false, K1 + K2 + K3 + K4 + 5, fun k hk => ⟨?_, ?_⟩⟩
  ·obtain ⟨k, rfl⟩ : ∃ m, k = m + 1 := ⟨k - 1, O_⟩
   unfold impl_MergeThree.f
   rw [(h1 (k + 1) O_).1, bs_, (h2 (k + 1) O_).1, bs_]
   cases g1 with
   | false => simp only [Bool.false_eq_true, if_false, impl_MergeThree.j0, if_true]
   | true =>
    cases g2 with
    | true => exact absurd ⟨rfl, rfl⟩ hg
    | false => simp only [Bool.false_eq_true, if_false, impl_MergeThree.j0, if_true, Bool.not_false]
  ·obtain ⟨k, rfl⟩ : ∃ m, k = m + 1 := ⟨k - 1, O_⟩
   unfold spec_MergeThree.f
   rw [h3 (k + 1) O_, bs_]
   cases t0 : textB a0 with
   | false => rw [iN_ (by simp)]
   | true =>
    rw [ip_ rfl, h4 (k + 1) O_, bs_]
    cases t12 : textB a1 && textB a2 with
    | false => rw [iN_ (by simp)]
    | true =>
     rw [ip_ rfl]
     unfold spec_l10Merge.f
     rw [(h1 (k + 1) O_).2, bs_, (h2 (k + 1) O_).2, bs_]
     cases g1 with
     | false => simp only [Bool.false_eq_true, if_false, spec_l10Merge.j0, if_true, bs_]
     | true =>
      cases g2 with
      | true => exact absurd ⟨rfl, rfl⟩ hg
      | false => simp only [Bool.false_eq_true, if_false, spec_l10Merge.j0, if_true, Bool.not_false, bs_]
 case pos =>
 obtain ⟨rfl, rfl⟩ := hg
 have t1 : (textB a0 && textB a1) = true := by
  cases e : textB a0 && textB a1 with
  | false => exact absurd (n1 e) (by simp)
  | true => rfl
 have t2 : (textB a0 && textB a2) = true := by
  cases e : textB a0 && textB a2 with
  | false => exact absurd (n2 e) (by simp)
  | true => rfl
 simp only [Bool.and_eq_true] at t1 t2
 obtain ⟨p1, x1, m1, L1, l1⟩ := f1 rfl
 obtain ⟨p2, x2, m2, L2, l2⟩ := f2 rfl
 obtain ⟨A, B, ok, c, cok, o1, o2, K5, h5⟩ := tr_ev _ _ x1 x2 m1 m2 (pk_nz p1) (pk_nz p2) (L1 + L2) (fun k hk => l1 k O_) (fun k hk => l2 k O_)
 have z1 := textB_size t1.2
 simp only [if_true] at h1 h2
 cases ok with
 | false =>
  obtain rfl := o2 rfl
  have hs : ∀ k, 1 ≤ k → ∃ b, spec_l3Apply.f k [] a1 = some (⟨#[]⟩, b) := fun k hk => by
   obtain ⟨k, rfl⟩ : ∃ m, k = m + 1 := ⟨k - 1, O_⟩
   exact ⟨_, rfl⟩
  refine ⟨⟨#[]⟩, 0, false, K1 + K2 + K3 + K4 + K5 + 5, fun k hk => ⟨?_, ?_⟩⟩
  ·obtain ⟨k, rfl⟩ : ∃ m, k = m + 1 := ⟨k - 1, O_⟩
   unfold impl_MergeThree.f
   rw [(h1 (k + 1) O_).1, bs_, (h2 (k + 1) O_).1, bs_, ip_ rfl]
   simp only [impl_MergeThree.j0, Bool.not_true, Bool.false_eq_true, if_false]
   rw [(h5 k O_).1, bs_, iN_ (by simp)]
  ·obtain ⟨k, rfl⟩ : ∃ m, k = m + 1 := ⟨k - 1, O_⟩
   unfold spec_MergeThree.f spec_l10Merge.f
   rw [h3 (k + 1) O_, t1.1, bs_, ip_ rfl, h4 (k + 1) O_, t1.2, t2.2, bs_, Bool.and_self, ip_ rfl, (h1 (k + 1) O_).2, bs_, (h2 (k + 1) O_).2, bs_, ip_ rfl]
   simp only [spec_l10Merge.j0, Bool.not_true, Bool.false_eq_true, if_false]
   obtain ⟨b, hb⟩ := hs k O_
   rw [(h5 k O_).2.1, bs_, (h5 k O_).2.2.2, bs_]
   dsimp only
   rw [hb, bs_, iN_ (by simp), bs_]
 | true =>
  obtain ⟨⟨⟨oB, pB⟩, KB, hKB⟩, rfl⟩ := o1 rfl
  obtain ⟨t, fits, zt, t', K6, e1, h6⟩ := apply_ev B oB pB a1 z1 t1.2 KB hKB
  have out : ∃ r1 r2 r3 K, ∀ k, K ≤ k → (if fits = true then ((impl_GoodText.f k t').bind fun lV => if lV = true then some (t', c, true) else some ((⟨#[]⟩ : ByteArray), 0, false)) else some ((⟨#[]⟩ : ByteArray), 0, false)) = some (r1, r2, r3) ∧
    ∀ t2, (fits = true → t2 = t) → (if fits = true then ((spec_GoodText.f k t2).bind fun lZ => if lZ = true then some (t2, c, true) else some ((⟨#[]⟩ : ByteArray), 0, false)) else some ((⟨#[]⟩ : ByteArray), 0, false)) = some (r1, r2, r3) := by
   cases fits with
   | false => exact ⟨⟨#[]⟩, 0, false, 0, fun k hk => ⟨by rw [iN_ (by simp)], fun t2 _ => by rw [iN_ (by simp)]⟩⟩
   | true =>
    obtain rfl := e1 rfl
    obtain ⟨K7, h7⟩ := impl_GoodText_ev t' zt
    obtain ⟨K8, h8⟩ := spec_GoodText_ev t' zt
    cases ht : textB t' with
    | false => exact ⟨⟨#[]⟩, 0, false, K7 + K8, fun k hk => ⟨by rw [ip_ rfl, h7 k O_, ht]; rfl, fun t2 h2' => by rw [h2' rfl, ip_ rfl, h8 k O_, ht]; rfl⟩⟩
    | true => exact ⟨t', c, true, K7 + K8, fun k hk => ⟨by rw [ip_ rfl, h7 k O_, ht]; rfl, fun t2 h2' => by rw [h2' rfl, ip_ rfl, h8 k O_, ht]; rfl⟩⟩
  obtain ⟨r1, r2, r3, K7, h7⟩ := out
  refine ⟨r1, r2, r3, K1 + K2 + K3 + K4 + K5 + K6 + K7 + 5, fun k hk => ⟨?_, ?_⟩⟩
  ·obtain ⟨k, rfl⟩ : ∃ m, k = m + 1 := ⟨k - 1, O_⟩
   unfold impl_MergeThree.f
   rw [(h1 (k + 1) O_).1, bs_, (h2 (k + 1) O_).1, bs_, ip_ rfl]
   simp only [impl_MergeThree.j0, Bool.not_true, Bool.false_eq_true, if_false]
   rw [(h5 k O_).1, bs_, ip_ rfl, (h5 k O_).2.2.1, bs_, ip_ rfl]
   dsimp only
   rw [(h6 k O_).1, bs_]
   exact (h7 k O_).1
  ·obtain ⟨k, rfl⟩ : ∃ m, k = m + 1 := ⟨k - 1, O_⟩
   unfold spec_MergeThree.f spec_l10Merge.f
   rw [h3 (k + 1) O_, t1.1, bs_, ip_ rfl, h4 (k + 1) O_, t1.2, t2.2, bs_, Bool.and_self, ip_ rfl, (h1 (k + 1) O_).2, bs_, (h2 (k + 1) O_).2, bs_, ip_ rfl]
   simp only [spec_l10Merge.j0, Bool.not_true, Bool.false_eq_true, if_false]
   obtain ⟨t2', e2, h8⟩ := (h6 k O_).2
   rw [(h5 k O_).2.1, bs_, (h5 k O_).2.2.2, bs_]
   dsimp only
   rw [h8, bs_, ip_ rfl]
   dsimp only
   rw [(h7 k O_).2 t2' e2, bs_]
theorem FnExactMergeThree : laws_FnExactMergeThree.Pure := by
 intro a0 a1 a2 s0 s1 s2
 obtain ⟨t, c, b, K, h⟩ := merge_ev a0 a1 a2 s0 s1 s2
 refine ⟨K, ?_⟩
 unfold laws_FnExactMergeThree.f
 rw [(h K (Nat.le_refl _)).1, (h K (Nat.le_refl _)).2]
 simp only [bs_, if_true, bne_self_eq_false, Bool.false_eq_true, if_false]
 split
 ·rfl
 ·split
  ·rfl
  ·split <;> rfl
end Go.Proofs.Ytifllccpfiobfaa.Pure
