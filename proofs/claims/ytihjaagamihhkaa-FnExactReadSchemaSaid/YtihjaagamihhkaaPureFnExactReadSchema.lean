/- ReadSchema of the program answers as the reference, for all texts. -/
import Derived.Test.YtihjaagamihhkaaAFnExactReadSchemax9
set_option linter.unusedVariables false
set_option linter.unusedSimpArgs false
namespace Go.Proofs.Ytihjaagamihhkaa.Pure
open Go.RowKit Go.Proofs.Ytihjaagamihhkaa.AFnExactReadSchema Go.Proofs.YtihjaagamihhkaaW.PrintWords Go.Proofs.YtihjaagamihhkaaW.PrintLast Go.Proofs.YtihjaagamihhkaaW.PrintMore

theorem w64 {i : Int} (h0 : -4611686018427387904 ≤ i) (h : i ≤ 4611686018427387904) : wrap64 i = i := by
  unfold wrap64; omega

def nmB (c : Int) : Bool := decide (65 ≤ c) && decide (c ≤ 70)
def plB (c : Int) : Bool := (decide (97 ≤ c) && decide (c ≤ 122)) || ((decide (48 ≤ c) && decide (c ≤ 57)) || (decide (c = 32) || (decide (c = 46) || decide (c = 44))))
def okB (c : Int) : Bool := nmB c || (plB c || decide (c = 47))
def okN (s : ByteArray) : Nat → Nat → Bool
  | 0, _ => true
  | d + 1, i => okB (bt s i) && okN s d (i + 1)
def textB (s : ByteArray) : Bool := okN s s.size 0 && decide (s.size ≤ 300)

theorem textB_size {s : ByteArray} (h : textB s = true) : s.size ≤ 300 := by
  unfold textB at h; simp at h; exact h.2

theorem toList_data (s : ByteArray) : s.toList = s.data.toList := by
  have h : ∀ (n i : Nat) (r : List UInt8), s.size - i = n → ByteArray.toList.loop s i r = r.reverse ++ s.data.toList.drop i := by
    intro n
    induction n with
    | zero =>
      intro i r h
      unfold ByteArray.toList.loop
      rw [if_neg (by omega), List.drop_of_length_le (by rw [Array.length_toList]; show s.size ≤ i; omega)]; simp
    | succ n ih =>
      intro i r h
      have hi : i < s.size := by omega
      unfold ByteArray.toList.loop
      have e2 : s.data.toList.drop i = s.data.toList[i]'(by rw [Array.length_toList]; exact hi) :: s.data.toList.drop (i + 1) := List.drop_eq_getElem_cons (by rw [Array.length_toList]; exact hi)
      have e : s.get! i = s.data.toList[i]'(by rw [Array.length_toList]; exact hi) := by
        show s.data[i]! = _
        rw [getElem!_pos s.data i hi]; simp
      rw [if_pos hi, ih (i + 1) _ (by omega), e2, e, List.reverse_cons, List.append_assoc]; rfl
  unfold ByteArray.toList
  rw [h s.size 0 [] (by omega)]; simp
theorem bt_data (s : ByteArray) (i : Nat) (h : i < s.size) : bt s (i : Int) = ((s.data.toList[i]'(by rw [Array.length_toList]; exact h)).toNat : Int) := by
  unfold bt
  rw [dif_pos (by omega)]
  simp [ByteArray.getElem_eq_getElem_data]
theorem toList_eq_iff (a b : ByteArray) : a.toList = b.toList ↔ a.size = b.size ∧ ∀ j : Nat, j < a.size → bt a (j : Int) = bt b (j : Int) := by
  rw [toList_data, toList_data]
  constructor
  · intro h
    have hl : a.size = b.size := by
      have := congrArg List.length h
      rw [Array.length_toList, Array.length_toList] at this; exact this
    refine ⟨hl, fun j hj => ?_⟩
    rw [bt_data a j hj, bt_data b j (by omega)]
    simp only [h]
  · intro ⟨hl, h⟩
    apply List.ext_getElem
    · rw [Array.length_toList, Array.length_toList]; exact hl
    · intro j h1 h2
      rw [Array.length_toList] at h1 h2
      have := h j h1
      rw [bt_data a j h1, bt_data b j h2] at this
      have h3 : (a.data.toList[j]'(by rw [Array.length_toList]; exact h1)).toNat = (b.data.toList[j]'(by rw [Array.length_toList]; exact h2)).toNat := by omega
      exact UInt8.toNat_inj.mp h3
theorem bt_extract (s : ByteArray) (i j n : Nat) (hj : j ≤ s.size) (hn : i + n < j) : bt (s.extract i j) (n : Int) = bt s ((i + n : Nat) : Int) := by
  have h1 : n < (s.extract i j).size := by rw [ByteArray.size_extract]; omega
  unfold bt
  rw [dif_pos (by simpa using h1), dif_pos (by omega)]
  simp only [Int.toNat_natCast, ByteArray.getElem_extract]

/-! expressions: both readers answer alike -/
theorem tl_emp {s : ByteArray} : s.toList = [] ↔ s.size = 0 := by
  rw [toList_data]
  exact List.length_eq_zero_iff.symm
theorem iN_at (s : ByteArray) (a : Nat) (h : a ≤ s.size) : iN (s.extract a s.size) = sN s (a : Int) := by
  unfold iN sN
  have hz : (s.extract a s.size).size = s.size - a := by rw [ByteArray.size_extract]; omega
  by_cases c : a < s.size
  · rw [if_neg (fun e => by have := tl_emp.1 e; omega), if_pos (by omega)]
    exact bt_extract s a s.size 0 (Nat.le_refl _) (by omega)
  · rw [if_pos (tl_emp.2 (by omega)), if_neg (by omega)]
theorem ex_ex (s : ByteArray) (a : Nat) : (s.extract a s.size).extract 1 (s.extract a s.size).size = s.extract (a + 1) s.size := by
  have hz : (s.extract a s.size).size = s.size - a := by rw [ByteArray.size_extract]; omega
  rw [hz, ByteArray.extract_extract]
  congr 1
  omega
theorem sN_lt {s : ByteArray} {a : Nat} (h : sN s (a : Int) ≠ 0) : a < s.size := by
  unfold sN at h
  by_cases c : (a : Int) < (s.size : Int)
  · omega
  · rw [if_neg c] at h; exact absurd rfl h
theorem suf_ne {c : Int} (h : sufB c = true) : c ≠ 0 := by rintro rfl; exact absurd h (by decide)
theorem suf_both {s : ByteArray} (hs : s.size ≤ 1000000000) : ∀ (d a : Nat), a + d = s.size → ∃ a2, a ≤ a2 ∧ a2 ≤ s.size ∧ ∀ k, d < k → iSuf k (s.extract a s.size) = some (s.extract a2 s.size) ∧ sSuf k s (a : Int) false = some (a2 : Int) := by
  intro d
  induction d with
  | zero =>
    intro a h
    refine ⟨a, Nat.le_refl _, by omega, fun k hk => ?_⟩
    obtain ⟨k, rfl⟩ : ∃ m, k = m + 1 := ⟨k - 1, by omega⟩
    have hn : sN s (a : Int) = 0 := by unfold sN; rw [if_neg (by omega)]
    simp only [iSuf, sSuf]
    rw [iN_at s a (by omega), hn, if_neg (by decide), if_neg (by simp), if_pos (by omega), if_neg (by decide)]
    exact ⟨rfl, rfl⟩
  | succ d ih =>
    intro a h
    by_cases c : sufB (sN s (a : Int)) = true
    · obtain ⟨a2, h1, h2, h3⟩ := ih (a + 1) (by omega)
      refine ⟨a2, by omega, h2, fun k hk => ?_⟩
      obtain ⟨k, rfl⟩ : ∃ m, k = m + 1 := ⟨k - 1, by omega⟩
      simp only [iSuf, sSuf]
      rw [iN_at s a (by omega), if_pos c, if_neg (by simp), if_pos (by omega), if_pos c, ex_ex, w64 (by omega) (by omega), show (a : Int) + 1 = ((a + 1 : Nat) : Int) from by omega]
      exact h3 k (by omega)
    · refine ⟨a, Nat.le_refl _, by omega, fun k hk => ?_⟩
      obtain ⟨k, rfl⟩ : ∃ m, k = m + 1 := ⟨k - 1, by omega⟩
      simp only [iSuf, sSuf]
      rw [iN_at s a (by omega), if_neg c, if_neg (by simp), if_pos (by omega), if_neg c]
      exact ⟨rfl, rfl⟩
theorem sSuf_bad (k : Nat) (hk : 0 < k) (s : ByteArray) (a : Int) : sSuf k s a true = some a := by
  obtain ⟨k, rfl⟩ : ∃ m, k = m + 1 := ⟨k - 1, by omega⟩
  simp only [sSuf]
  rw [if_pos trivial]
theorem sRow_bad (k : Nat) (hk : 0 < k) (s : ByteArray) (a d : Int) (m : Nat) : sRow k s a true d m = some (a, true, d) := by
  obtain ⟨k, rfl⟩ : ∃ m, k = m + 1 := ⟨k - 1, by omega⟩
  simp only [sRow]
  rw [if_neg (by simp), Bool.true_or]
theorem sRows_bad (k : Nat) (hk : 0 < k) (s : ByteArray) (a d : Int) (m : Nat) : sRows k s a true d m = some (a, true, d) := by
  obtain ⟨k, rfl⟩ : ∃ m, k = m + 1 := ⟨k - 1, by omega⟩
  simp only [sRows]
  rw [if_neg (by simp)]
/-- A row has ended badly: the program's reader stands at nothing or at a byte of nought, the reference's knows it. -/
def Bad (ok : Bool) (r : ByteArray) : Prop := ok = false ∨ (r.toList ≠ [] ∧ iN r = 0)
abbrev XB (s : ByteArray) (n x : Int) : Prop := 0 ≤ x ∧ x ≤ (s.size : Int) + 40 - n
def POne (s : ByteArray) (a : Nat) (n : Int) : Prop :=
  (∃ (r1 : ByteArray) (a2 K : Nat), a < a2 ∧ a2 ≤ s.size ∧ ∀ k, K ≤ k → iAtom k (s.extract a s.size) n = some (true, r1, n) ∧ iSuf k r1 = some (s.extract a2 s.size) ∧ sOne k s (a : Int) false (n + 1) = some ((a2 : Int), false, n + 1)) ∨
  (∃ (r1 : ByteArray) (n1 x d : Int) (K : Nat), XB s n x ∧ ∀ k, K ≤ k → iAtom k (s.extract a s.size) n = some (false, r1, n1) ∧ sOne k s (a : Int) false (n + 1) = some (x, true, d))
def PRow (s : ByteArray) (a : Nat) (n : Int) (m : Nat) : Prop :=
  (∃ (a2 K : Nat), a ≤ a2 ∧ (m = 0 → a < a2) ∧ a2 ≤ s.size ∧ (a2 < s.size → sN s (a2 : Int) ≠ 0) ∧ ∀ k, K ≤ k → iRow k (s.extract a s.size) n m = some (true, s.extract a2 s.size, n) ∧ sRow k s (a : Int) false (n + 1) m = some ((a2 : Int), false, n + 1)) ∨
  (∃ (ok : Bool) (r1 : ByteArray) (n1 x d : Int) (K : Nat), Bad ok r1 ∧ XB s n x ∧ ∀ k, K ≤ k → iRow k (s.extract a s.size) n m = some (ok, r1, n1) ∧ sRow k s (a : Int) false (n + 1) m = some (x, true, d))
def PPar (s : ByteArray) (a : Nat) (n : Int) (m : Nat) : Prop :=
  (∃ (a2 K : Nat), a < a2 ∧ a2 ≤ s.size ∧ (a2 < s.size → sN s (a2 : Int) ≠ 0) ∧ ∀ k, K ≤ k → iParted k (s.extract a s.size) n m = some (true, s.extract a2 s.size, n) ∧ ((sRow k s (a : Int) false (n + 1) 0).bind fun o => sRows k s o.1 o.2.1 o.2.2 m) = some ((a2 : Int), false, n + 1)) ∨
  (∃ (ok : Bool) (r1 : ByteArray) (n1 x d : Int) (K : Nat), Bad ok r1 ∧ XB s n x ∧ ∀ k, K ≤ k → iParted k (s.extract a s.size) n m = some (ok, r1, n1) ∧ ((sRow k s (a : Int) false (n + 1) 0).bind fun o => sRows k s o.1 o.2.1 o.2.2 m) = some (x, true, d))
theorem one_both {s : ByteArray} (hs : s.size ≤ 1000000000) (a : Nat) (ha : a < s.size) (n : Int) (h0 : 0 ≤ n) (h1 : n ≤ 19) (ih : ∀ n' : Int, 0 ≤ n' → n' ≤ 19 → PPar s (a + 1) n' 0) : POne s a n := by
  have hN := iN_at s a (by omega)
  by_cases c1 : (symB (sN s (a : Int)) || (decide (sN s (a : Int) = 46) || (decide (sN s (a : Int) = 45) || decide (sN s (a : Int) = 33)))) = true
  · obtain ⟨a2, g1, g2, g3⟩ := suf_both hs (s.size - (a + 1)) (a + 1) (by omega)
    refine .inl ⟨s.extract (a + 1) s.size, a2, s.size + 2, by omega, g2, fun k hk => ?_⟩
    have g := g3 k (by omega)
    refine ⟨?_, g.1, ?_⟩
    · obtain ⟨k, rfl⟩ : ∃ m, k = m + 1 := ⟨k - 1, by omega⟩
      simp only [iAtom]
      rw [hN, if_pos c1, ex_ex]
    · obtain ⟨k, rfl⟩ : ∃ m, k = m + 1 := ⟨k - 1, by omega⟩
      have g := g3 k (by omega)
      simp only [sOne]
      rw [if_pos (by omega), if_pos c1, w64 (by omega) (by omega), show (a : Int) + 1 = ((a + 1 : Nat) : Int) from by omega, g.2, Option.bind_some]
  by_cases c2 : sN s (a : Int) = 40
  · by_cases c3 : n = 19
    · subst c3
      refine .inr ⟨s.extract a s.size, 19, ((a + 1 : Nat) : Int) + 1, wrap64 (19 + 1 + 1 - 1), 3, ⟨by omega, by omega⟩, fun k hk => ⟨?_, ?_⟩⟩
      · obtain ⟨k, rfl⟩ : ∃ m, k = m + 1 := ⟨k - 1, by omega⟩
        simp only [iAtom]
        rw [hN, if_neg c1, if_neg (fun h => h c2), if_pos trivial]
      · obtain ⟨k, rfl⟩ : ∃ m, k = m + 2 := ⟨k - 2, by omega⟩
        simp only [sOne]
        rw [if_pos (show (0 : Int) ≤ (a : Int) by omega), if_neg c1, if_pos c2, w64 (i := (a : Int) + 1) (by omega) (by omega)]
        simp only [sEither]
        rw [w64 (i := 19 + 1 + 1) (by omega) (by omega), show (false || decide ((19 : Int) + 1 + 1 > 20)) = true from rfl, sRow_bad k (by omega), Option.bind_some]
        show ((sRows k s _ true _ 0).bind _).bind _ = _
        rw [sRows_bad k (by omega), Option.bind_some, Option.bind_some]
        show (if 0 ≤ (a : Int) + 1 then ((sSuf (k + 1) s (wrap64 ((a : Int) + 1 + 1)) true).bind _) else none) = _
        rw [if_pos (by omega), sSuf_bad (k + 1) (by omega), Option.bind_some, w64 (by omega) (by omega), show ((a + 1 : Nat) : Int) + 1 = (a : Int) + 1 + 1 from by omega]
        rfl
    · have hI : ∀ k, iAtom (k + 1) (s.extract a s.size) n = (iParted k (s.extract (a + 1) s.size) (n + 1) 0).bind fun o => if o.1 = false then some o else if iN o.2.1 ≠ 41 then some (false, o.2.1, o.2.2) else some (true, o.2.1.extract 1 o.2.1.size, wrap64 (o.2.2 - 1)) := fun k => by
        simp only [iAtom]
        rw [hN, if_neg c1, if_neg (fun h => h c2), if_neg c3, ex_ex, w64 (by omega) (by omega)]
      have hE : ∀ k, sOne (k + 2) s (a : Int) false (n + 1) = (((sRow k s ((a + 1 : Nat) : Int) false (n + 1 + 1) 0).bind fun o => sRows k s o.1 o.2.1 o.2.2 0).bind fun q => some (q.1, q.2.1, wrap64 (q.2.2 - 1))).bind fun o => if 0 ≤ o.1 then ((sSuf (k + 1) s (wrap64 (o.1 + 1)) (o.2.1 || decide (sN s o.1 ≠ 41))).bind fun x => some (x, o.2.1 || decide (sN s o.1 ≠ 41), o.2.2)) else none := fun k => by
        simp only [sOne]
        rw [if_pos (show (0 : Int) ≤ (a : Int) by omega), if_neg c1, if_pos c2, w64 (i := (a : Int) + 1) (by omega) (by omega)]
        simp only [sEither]
        rw [w64 (i := n + 1 + 1) (by omega) (by omega), decide_eq_false (by omega), Bool.or_self, show (a : Int) + 1 = ((a + 1 : Nat) : Int) from by omega]
        simp only [Option.bind_assoc]
      rcases ih (n + 1) (by omega) (by omega) with ⟨a2, K, p1, p2, p3, p4⟩ | ⟨ok, r1, n1, x, d, K, p1, ⟨hx0, hx1⟩, p2⟩
      · have hN2 := iN_at s a2 p2
        by_cases c4 : sN s (a2 : Int) = 41
        · have hlt : a2 < s.size := sN_lt (by rw [c4]; decide)
          obtain ⟨a3, g1, g2, g3⟩ := suf_both hs (s.size - (a2 + 1)) (a2 + 1) (by omega)
          refine .inl ⟨s.extract (a2 + 1) s.size, a3, K + s.size + 3, by omega, g2, fun k hk => ⟨?_, (g3 k (by omega)).1, ?_⟩⟩
          · obtain ⟨k, rfl⟩ : ∃ m, k = m + 1 := ⟨k - 1, by omega⟩
            rw [hI, (p4 k (by omega)).1, Option.bind_some, if_neg (by simp), if_neg (fun h => h (hN2.trans c4)), ex_ex, show n + 1 - 1 = n from by omega, w64 (by omega) (by omega)]
          · obtain ⟨k, rfl⟩ : ∃ m, k = m + 2 := ⟨k - 2, by omega⟩
            rw [hE, (p4 k (by omega)).2, Option.bind_some, Option.bind_some]
            show (if 0 ≤ (a2 : Int) then ((sSuf (k + 1) s (wrap64 ((a2 : Int) + 1)) (false || decide (sN s (a2 : Int) ≠ 41))).bind _) else none) = _
            rw [if_pos (by omega), c4, show (false || decide ((41 : Int) ≠ 41)) = false from rfl, w64 (i := (a2 : Int) + 1) (by omega) (by omega), show (a2 : Int) + 1 = ((a2 + 1 : Nat) : Int) from by omega, (g3 (k + 1) (by omega)).2, Option.bind_some, w64 (i := n + 1 + 1 - 1) (by omega) (by omega), show n + 1 + 1 - 1 = n + 1 from by omega]
        · refine .inr ⟨s.extract a2 s.size, n + 1, (a2 : Int) + 1, n + 1, K + 3, ⟨by omega, by omega⟩, fun k hk => ⟨?_, ?_⟩⟩
          rotate_left
          · obtain ⟨k, rfl⟩ : ∃ m, k = m + 2 := ⟨k - 2, by omega⟩
            rw [hE, (p4 k (by omega)).2, Option.bind_some, Option.bind_some]
            show (if 0 ≤ (a2 : Int) then ((sSuf (k + 1) s (wrap64 ((a2 : Int) + 1)) (false || decide (sN s (a2 : Int) ≠ 41))).bind _) else none) = _
            rw [if_pos (by omega), decide_eq_true c4, Bool.or_true, sSuf_bad (k + 1) (by omega), Option.bind_some, w64 (i := (a2 : Int) + 1) (by omega) (by omega), w64 (i := n + 1 + 1 - 1) (by omega) (by omega), show n + 1 + 1 - 1 = n + 1 from by omega]
          · obtain ⟨k, rfl⟩ : ∃ m, k = m + 1 := ⟨k - 1, by omega⟩
            rw [hI, (p4 k (by omega)).1, Option.bind_some, if_neg (by simp), if_pos (fun h => c4 (hN2.symm.trans h))]
      · have hb : ∃ x' d', XB s n x' ∧ ∀ k, K + 3 ≤ k → sOne k s (a : Int) false (n + 1) = some (x', true, d') := by
          refine ⟨wrap64 (x + 1), wrap64 (d - 1), by rw [w64 (by omega) (by omega)]; exact ⟨by omega, by omega⟩, fun k hk => ?_⟩
          obtain ⟨k, rfl⟩ : ∃ m, k = m + 2 := ⟨k - 2, by omega⟩
          rw [hE, (p2 k (by omega)).2, Option.bind_some, Option.bind_some]
          show (if 0 ≤ x then ((sSuf (k + 1) s (wrap64 (x + 1)) (true || _)).bind _) else none) = _
          rw [if_pos hx0, Bool.true_or, sSuf_bad (k + 1) (by omega), Option.bind_some]
        obtain ⟨x', d', hxb, hb⟩ := hb
        cases ok with
        | false =>
          refine .inr ⟨r1, n1, x', d', K + 3, hxb, fun k hk => ⟨?_, hb k hk⟩⟩
          obtain ⟨k, rfl⟩ : ∃ m, k = m + 1 := ⟨k - 1, by omega⟩
          rw [hI, (p2 k (by omega)).1, Option.bind_some, if_pos rfl]
        | true =>
          refine .inr ⟨r1, n1, x', d', K + 3, hxb, fun k hk => ⟨?_, hb k hk⟩⟩
          obtain ⟨k, rfl⟩ : ∃ m, k = m + 1 := ⟨k - 1, by omega⟩
          have h0 : iN r1 = 0 := by
            rcases p1 with p1 | p1
            · cases p1
            · exact p1.2
          rw [hI, (p2 k (by omega)).1, Option.bind_some, if_neg (by simp), if_pos (by show iN r1 ≠ 41; rw [h0]; decide)]
  · refine .inr ⟨s.extract a s.size, n, (a : Int) + 1, n + 1, 1, ⟨by omega, by omega⟩, fun k hk => ?_⟩
    obtain ⟨k, rfl⟩ : ∃ m, k = m + 1 := ⟨k - 1, by omega⟩
    constructor
    · simp only [iAtom]
      rw [hN, if_neg c1, if_pos c2]
    · simp only [sOne]
      rw [if_pos (show (0 : Int) ≤ (a : Int) by omega), if_neg c1, if_neg c2, w64 (by omega) (by omega)]
theorem row_both {s : ByteArray} (hs : s.size ≤ 1000000000) : ∀ (e a : Nat), a + e = s.size → (∀ a' (n' : Int), a < a' → a' ≤ s.size → 0 ≤ n' → n' ≤ 19 → PPar s a' n' 0) → ∀ (n : Int) (m : Nat), 0 ≤ n → n ≤ 19 → m + e ≤ 1000000000 → PRow s a n m := by
  intro e
  induction e using Nat.strongRecOn with
  | ind e ihe =>
    intro a hae ihP n m h0 h1 hm
    have hN := iN_at s a (by omega)
    by_cases c0 : sN s (a : Int) = 0
    · -- the program's reader stops here
      have hI : ∀ k, 0 < k → iRow k (s.extract a s.size) n m = some (decide (m ≠ 0), s.extract a s.size, n) := fun k hk => by
        obtain ⟨k, rfl⟩ : ∃ m, k = m + 1 := ⟨k - 1, by omega⟩
        simp only [iRow]
        rw [hN, if_neg (fun h => h.1 c0)]
      by_cases ca : a < s.size
      · refine .inr ⟨decide (m ≠ 0), s.extract a s.size, n, (a : Int) + 1, n + 1, 3, .inr ⟨fun h => ?_, hN.trans c0⟩, ⟨by omega, by omega⟩, fun k hk => ⟨hI k (by omega), ?_⟩⟩
        · have := tl_emp.1 h
          rw [ByteArray.size_extract] at this
          omega
        · obtain ⟨k, rfl⟩ : ∃ m, k = m + 2 := ⟨k - 2, by omega⟩
          simp only [sRow]
          rw [if_pos ⟨trivial, by omega⟩, if_pos (show (0 : Int) ≤ (a : Int) by omega), if_pos ⟨by rw [c0]; decide, by rw [c0]; decide⟩]
          simp only [sOne]
          rw [if_pos (show (0 : Int) ≤ (a : Int) by omega), c0, if_neg (by decide), if_neg (by decide), Option.bind_some]
          rw [if_pos (by omega)]
          show sRow (k + 1) s (wrap64 ((a : Int) + 1)) true (n + 1) (m + 1) = _
          rw [sRow_bad (k + 1) (by omega), w64 (by omega) (by omega)]
      · by_cases cm : m = 0
        · refine .inr ⟨false, s.extract a s.size, n, (a : Int), n + 1, 1, .inl rfl, ⟨by omega, by omega⟩, fun k hk => ⟨by rw [hI k (by omega), cm]; rfl, ?_⟩⟩
          obtain ⟨k, rfl⟩ : ∃ m, k = m + 1 := ⟨k - 1, by omega⟩
          simp only [sRow]
          rw [if_neg (fun h => ca (by have := h.2; omega)), cm]
          rfl
        · refine .inl ⟨a, 1, Nat.le_refl _, fun h => absurd h cm, by omega, fun h => absurd h ca, fun k hk => ⟨by rw [hI k (by omega), decide_eq_true cm], ?_⟩⟩
          obtain ⟨k, rfl⟩ : ∃ m, k = m + 1 := ⟨k - 1, by omega⟩
          simp only [sRow]
          rw [if_neg (fun h => ca (by have := h.2; omega)), decide_eq_false cm]
          rfl
    · have ca := sN_lt c0
      by_cases c1 : sN s (a : Int) ≠ 124 ∧ sN s (a : Int) ≠ 41
      · have hI : ∀ k, iRow (k + 1) (s.extract a s.size) n m = (iAtom k (s.extract a s.size) n).bind fun o => if o.1 = false then some o else (iSuf k o.2.1).bind fun r => if m < 1000000000000 then iRow k r o.2.2 (m + 1) else none := fun k => by
          simp only [iRow]
          rw [hN, if_pos ⟨c0, c1.1, c1.2⟩]
        have hS : ∀ k, sRow (k + 1) s (a : Int) false (n + 1) m = (sOne k s (a : Int) false (n + 1)).bind fun o => if m < 1000000000000 then sRow k s o.1 o.2.1 o.2.2 (m + 1) else none := fun k => by
          simp only [sRow]
          rw [if_pos ⟨trivial, by omega⟩, if_pos (show (0 : Int) ≤ (a : Int) by omega), if_pos ⟨c1.1, c1.2⟩]
        rcases one_both hs a ca n h0 h1 (fun n' q0 q1 => ihP (a + 1) n' (by omega) (by omega) q0 q1) with ⟨r1, a2, K, p1, p2, p3⟩ | ⟨r1, n1, x, d, K, hxb, p1⟩
        · rcases ihe (s.size - a2) (by omega) a2 (by omega) (fun a' n' q => ihP a' n' (by omega)) n (m + 1) h0 h1 (by omega) with ⟨a3, K2, g1, g2, g3, g4, g5⟩ | ⟨ok, r2, n2, x, d, K2, g1, hxb, g2⟩
          · refine .inl ⟨a3, K + K2 + 1, by omega, fun _ => by omega, g3, g4, fun k hk => ?_⟩
            obtain ⟨k, rfl⟩ : ∃ m, k = m + 1 := ⟨k - 1, by omega⟩
            have p := p3 k (by omega)
            rw [hI, hS, p.1, p.2.2, Option.bind_some, if_neg (by simp), Option.bind_some, p.2.1, Option.bind_some, if_pos (by omega), if_pos (by omega)]
            exact g5 k (by omega)
          · refine .inr ⟨ok, r2, n2, x, d, K + K2 + 1, g1, hxb, fun k hk => ?_⟩
            obtain ⟨k, rfl⟩ : ∃ m, k = m + 1 := ⟨k - 1, by omega⟩
            have p := p3 k (by omega)
            rw [hI, hS, p.1, p.2.2, Option.bind_some, if_neg (by simp), Option.bind_some, p.2.1, Option.bind_some, if_pos (by omega), if_pos (by omega)]
            exact g2 k (by omega)
        · refine .inr ⟨false, r1, n1, x, d, K + 2, .inl rfl, hxb, fun k hk => ?_⟩
          obtain ⟨k, rfl⟩ : ∃ m, k = m + 1 := ⟨k - 1, by omega⟩
          have p := p1 k (by omega)
          rw [hI, hS, p.1, p.2, Option.bind_some, if_pos rfl, Option.bind_some, if_pos (by omega)]
          exact ⟨rfl, sRow_bad k (by omega) s x d (m + 1)⟩
      · have hI : ∀ k, 0 < k → iRow k (s.extract a s.size) n m = some (decide (m ≠ 0), s.extract a s.size, n) := fun k hk => by
          obtain ⟨k, rfl⟩ : ∃ m, k = m + 1 := ⟨k - 1, by omega⟩
          simp only [iRow]
          rw [hN, if_neg (fun h => c1 h.2)]
        have hS : ∀ k, 0 < k → sRow k s (a : Int) false (n + 1) m = some ((a : Int), false || decide (m = 0), n + 1) := fun k hk => by
          obtain ⟨k, rfl⟩ : ∃ m, k = m + 1 := ⟨k - 1, by omega⟩
          simp only [sRow]
          rw [if_pos ⟨trivial, by omega⟩, if_pos (show (0 : Int) ≤ (a : Int) by omega), if_neg c1]
        by_cases cm : m = 0
        · exact .inr ⟨false, s.extract a s.size, n, (a : Int), n + 1, 1, .inl rfl, ⟨by omega, by omega⟩, fun k hk => ⟨by rw [hI k (by omega), cm]; rfl, by rw [hS k (by omega), cm]; rfl⟩⟩
        · exact .inl ⟨a, 1, Nat.le_refl _, fun h => absurd h cm, by omega, fun _ => c0, fun k hk => ⟨by rw [hI k (by omega), decide_eq_true cm], by rw [hS k (by omega), decide_eq_false cm]; rfl⟩⟩
theorem par_both {s : ByteArray} (hs : s.size ≤ 1000000000) : ∀ (e a : Nat), a + e = s.size → ∀ (n : Int) (m : Nat), 0 ≤ n → n ≤ 19 → m + e ≤ 1000000000 → PPar s a n m := by
  intro e
  induction e using Nat.strongRecOn with
  | ind e ihe =>
    intro a hae n m h0 h1 hm
    have hP : ∀ a' (n' : Int), a < a' → a' ≤ s.size → 0 ≤ n' → n' ≤ 19 → PPar s a' n' 0 := fun a' n' q1 q2 q3 q4 => ihe (s.size - a') (by omega) a' (by omega) n' 0 q3 q4 (by omega)
    rcases row_both hs e a hae hP n 0 h0 h1 (by omega) with ⟨a2, K, p1, p2, p3, p4, p5⟩ | ⟨ok, r1, n1, x, d, K, p1, hxb, p2⟩
    · have hN := iN_at s a2 p3
      have hlt := p2 rfl
      by_cases c : sN s (a2 : Int) = 124
      · have ca := sN_lt (s := s) (a := a2) (by rw [c]; decide)
        have hS : ∀ k, K ≤ k → ((sRow (k + 1) s (a : Int) false (n + 1) 0).bind fun o => sRows (k + 1) s o.1 o.2.1 o.2.2 m) = ((sRow k s ((a2 + 1 : Nat) : Int) false (n + 1) 0).bind fun o => sRows k s o.1 o.2.1 o.2.2 (m + 1)) := fun k hk => by
          rw [(p5 (k + 1) (by omega)).2, Option.bind_some]
          simp only [sRows]
          rw [if_pos trivial, if_pos (show (0 : Int) ≤ (a2 : Int) by omega), if_pos c, w64 (by omega) (by omega), show (a2 : Int) + 1 = ((a2 + 1 : Nat) : Int) from by omega]
          simp only [if_pos (show m < 1000000000000 from by omega)]
        have hI : ∀ k, K ≤ k → iParted (k + 1) (s.extract a s.size) n m = iParted k (s.extract (a2 + 1) s.size) n (m + 1) := fun k hk => by
          simp only [iParted]
          rw [(p5 k (by omega)).1, Option.bind_some, if_neg (by simp), if_pos (show m < 1000000000000 by omega), if_pos (hN.trans c), ex_ex]
        rcases ihe (s.size - (a2 + 1)) (by omega) (a2 + 1) (by omega) n (m + 1) h0 h1 (by omega) with ⟨a3, K2, g1, g2, g3, g4⟩ | ⟨ok, r2, n2, x, d, K2, g1, hxb, g2⟩
        · refine .inl ⟨a3, K + K2 + 1, by omega, g2, g3, fun k hk => ?_⟩
          obtain ⟨k, rfl⟩ : ∃ m, k = m + 1 := ⟨k - 1, by omega⟩
          rw [hS k (by omega), hI k (by omega)]
          exact g4 k (by omega)
        · refine .inr ⟨ok, r2, n2, x, d, K + K2 + 1, g1, hxb, fun k hk => ?_⟩
          obtain ⟨k, rfl⟩ : ∃ m, k = m + 1 := ⟨k - 1, by omega⟩
          rw [hS k (by omega), hI k (by omega)]
          exact g2 k (by omega)
      · refine .inl ⟨a2, K + 1, hlt, p3, p4, fun k hk => ?_⟩
        obtain ⟨k, rfl⟩ : ∃ m, k = m + 1 := ⟨k - 1, by omega⟩
        rw [(p5 (k + 1) (by omega)).2, Option.bind_some]
        simp only [iParted, sRows]
        rw [(p5 k (by omega)).1, Option.bind_some, if_neg (by simp), if_pos (show m < 1000000000000 by omega), if_neg (fun h => c (hN.symm.trans h)), if_pos trivial, if_pos (show (0 : Int) ≤ (a2 : Int) by omega), if_neg c]
        exact ⟨rfl, rfl⟩
    · have hS : ∀ k, K ≤ k → 0 < k → ((sRow k s (a : Int) false (n + 1) 0).bind fun o => sRows k s o.1 o.2.1 o.2.2 m) = some (x, true, d) := fun k hk hk0 => by
        rw [(p2 k hk).2, Option.bind_some]
        exact sRows_bad k hk0 s x d m
      cases ok with
      | false =>
        refine .inr ⟨false, r1, n1, x, d, K + 1, .inl rfl, hxb, fun k hk => ⟨?_, hS k (by omega) (by omega)⟩⟩
        obtain ⟨k, rfl⟩ : ∃ m, k = m + 1 := ⟨k - 1, by omega⟩
        simp only [iParted]
        rw [(p2 k (by omega)).1, Option.bind_some, if_pos rfl]
      | true =>
        have hb : r1.toList ≠ [] ∧ iN r1 = 0 := by
          rcases p1 with p1 | p1
          · cases p1
          · exact p1
        refine .inr ⟨true, r1, n1, x, d, K + 1, .inr hb, hxb, fun k hk => ⟨?_, hS k (by omega) (by omega)⟩⟩
        obtain ⟨k, rfl⟩ : ∃ m, k = m + 1 := ⟨k - 1, by omega⟩
        simp only [iParted]
        rw [(p2 k (by omega)).1, Option.bind_some, if_neg (by simp), if_pos (show m < 1000000000000 by omega), if_neg (by rw [hb.2]; decide)]
/-- Both readers at the whole: they answer alike whether it is good. -/
theorem read_both {s : ByteArray} (hs : s.size ≤ 1000000000) : ∃ (ok : Bool) (r : ByteArray) (n x d : Int) (b : Bool) (K : Nat), (∀ k, K ≤ k → iParted k s 0 0 = some (ok, r, n) ∧ sEither k s 0 false 0 = some (x, b, d)) ∧ (ok && decide (r.toList = [])) = (!b && decide (x = (s.size : Int))) := by
  have he : s.extract 0 s.size = s := by simp
  have hE : ∀ k, sEither (k + 1) s 0 false 0 = ((sRow k s ((0 : Nat) : Int) false (0 + 1) 0).bind fun o => sRows k s o.1 o.2.1 o.2.2 0).bind fun q => some (q.1, q.2.1, wrap64 (q.2.2 - 1)) := fun k => by
    simp only [sEither]
    rw [w64 (i := 0 + 1) (by omega) (by omega), show (false || decide ((0 : Int) + 1 > 20)) = false from rfl, Option.bind_assoc]
    rfl
  rcases par_both hs s.size 0 (by omega) 0 0 (by omega) (by omega) (by omega) with ⟨a2, K, p1, p2, p3, p4⟩ | ⟨ok, r1, n1, x, d, K, p1, hxb, p2⟩
  · rw [he] at p4
    refine ⟨true, s.extract a2 s.size, 0, (a2 : Int), 0, false, K + 1, fun k hk => ⟨(p4 k (by omega)).1, ?_⟩, ?_⟩
    · obtain ⟨k, rfl⟩ : ∃ m, k = m + 1 := ⟨k - 1, by omega⟩
      rw [hE, (p4 k (by omega)).2, Option.bind_some, w64 (i := 0 + 1 - 1) (by omega) (by omega)]
      rfl
    · rw [Bool.true_and, Bool.not_false, Bool.true_and]
      have hz : (s.extract a2 s.size).size = s.size - a2 := by rw [ByteArray.size_extract]; omega
      apply decide_eq_decide.2
      rw [tl_emp]
      omega
  · rw [he] at p2
    refine ⟨ok, r1, n1, x, wrap64 (d - 1), true, K + 1, fun k hk => ⟨(p2 k (by omega)).1, ?_⟩, ?_⟩
    · obtain ⟨k, rfl⟩ : ∃ m, k = m + 1 := ⟨k - 1, by omega⟩
      rw [hE, (p2 k (by omega)).2, Option.bind_some]
    · rcases p1 with rfl | ⟨p1, -⟩
      · rfl
      · rw [decide_eq_false p1, Bool.and_false]; rfl

/-! schemas: both answer alike -/
theorem rd38 (l : List S38) (i : Nat) (h : i < l.length) : rd_T38 l (i : Int) = l[i] := by
  unfold rd_T38
  rw [Int.toNat_natCast, List.getD_eq_getElem?_getD, List.getElem?_eq_getElem h]; rfl
theorem eqRule_l (l : List S38) (hl : l.length ≤ 1000000000) : ∀ (d i : Nat), i + d = l.length → ∀ k, d < k → laws_eqRuleS.l0 k l l (i : Int) = some true := by
  intro d
  induction d with
  | zero =>
    intro i hi k hk
    obtain ⟨k, rfl⟩ : ∃ m, k = m + 1 := ⟨k - 1, by omega⟩
    simp only [laws_eqRuleS.l0]
    rw [if_neg (by omega)]
  | succ d ih =>
    intro i hi k hk
    obtain ⟨k, rfl⟩ : ∃ m, k = m + 1 := ⟨k - 1, by omega⟩
    simp only [laws_eqRuleS.l0]
    unfold laws_eqRule.f
    rw [if_pos (by omega), if_pos (by omega), if_pos (by omega), if_pos rfl, if_pos rfl, Option.bind_some, if_pos rfl, w64 (by omega) (by omega), show (i : Int) + 1 = ((i + 1 : Nat) : Int) from by omega]
    exact ih (i + 1) (by omega) k (by omega)
theorem eqRuleS_self (l : List S38) (hl : l.length ≤ 1000000000) (k : Nat) (hk : l.length < k) : laws_eqRuleS.f k l l = some true := by
  unfold laws_eqRuleS.f
  rw [if_pos rfl]
  exact eqRule_l l hl l.length 0 (by omega) k hk
theorem expr_both (s : ByteArray) (hs : s.size ≤ 1000000000) : ∃ (b : Bool) (K : Nat), ∀ k, K ≤ k → spec_GoodExpr.f k s = some b ∧ impl_GoodExpr.f k s = some b := by
  obtain ⟨ok, r, n, x, d, b, K, h1, h2⟩ := read_both hs
  refine ⟨(!b && decide (x = (s.size : Int))) && inB (s.size : Int), K, fun k hk => ⟨?_, ?_⟩⟩
  · unfold spec_GoodExpr.f
    rw [(h1 k hk).2, Option.bind_some, Bool.and_assoc]
  · unfold impl_GoodExpr.f inB
    by_cases c1 : (s.size : Int) < 1
    · rw [if_pos c1, decide_eq_false (show ¬ (1 : Int) ≤ (s.size : Int) by omega), Bool.false_and, Bool.and_false]
    · rw [if_neg c1, decide_eq_true (show (1 : Int) ≤ (s.size : Int) by omega), Bool.true_and]
      by_cases c2 : (s.size : Int) > 60
      · rw [if_pos c2, decide_eq_false (show ¬ (s.size : Int) ≤ 60 by omega), Bool.and_false]
      · rw [if_neg c2, decide_eq_true (show (s.size : Int) ≤ 60 by omega), Bool.and_true, (h1 k hk).1, Option.bind_some, h2]
theorem exprs_both (l : List S38) (hl : ∀ x ∈ l, x.f1.size ≤ 1000000000) : ∃ K, ∀ x ∈ l, ∃ b : Bool, ∀ k, K ≤ k → spec_GoodExpr.f k x.f1 = some b ∧ impl_GoodExpr.f k x.f1 = some b := by
  induction l with
  | nil => exact ⟨0, fun x hx => (by cases hx)⟩
  | cons y l ih =>
    obtain ⟨K, h⟩ := ih (fun x hx => hl x (List.mem_cons_of_mem _ hx))
    obtain ⟨b, K2, h2⟩ := expr_both y.f1 (hl y (List.mem_cons_self ..))
    refine ⟨K + K2, fun x hx => ?_⟩
    rcases List.mem_cons.1 hx with rfl | hx
    · exact ⟨b, fun k hk => h2 k (by omega)⟩
    · obtain ⟨b', h'⟩ := h x hx
      exact ⟨b', fun k hk => h' k (by omega)⟩
theorem name_both (s : ByteArray) : ∃ b : Bool, spec_l1Name.f s = some b ∧ impl_isNameText.f s = some b := by
  unfold spec_l1Name.f impl_isNameText.f spec_l1Open.f impl_isName.f
  by_cases c : (s.size : Int) = 1
  · rw [if_pos c, if_pos (by omega)]
    by_cases c2 : bt s 0 ≥ 65
    · rw [if_pos c2]; exact ⟨_, rfl, rfl⟩
    · rw [if_neg c2]; exact ⟨_, rfl, rfl⟩
  · rw [if_neg c]; exact ⟨_, rfl, rfl⟩
theorem schema_l (l : List S38) (hl : l.length ≤ 1000000000) (K : Nat) (hK : ∀ x ∈ l, ∃ b : Bool, ∀ k, K ≤ k → spec_GoodExpr.f k x.f1 = some b ∧ impl_GoodExpr.f k x.f1 = some b) : ∀ (d i : Nat), i + d = l.length → ∃ b : Bool, ∀ k, K + d < k → spec_GoodSchema.l0 k l l (l.length : Int) (i : Int) = some (b && decide ((l.length : Int) ≤ 7)) ∧ impl_GoodSchema.l0 k l l (l.length : Int) (i : Int) = some b := by
  intro d
  induction d with
  | zero =>
    intro i hi
    refine ⟨true, fun k hk => ?_⟩
    obtain ⟨k, rfl⟩ : ∃ m, k = m + 1 := ⟨k - 1, by omega⟩
    simp only [spec_GoodSchema.l0, impl_GoodSchema.l0]
    rw [if_neg (by omega), if_neg (by omega), Bool.true_and]
    exact ⟨rfl, rfl⟩
  | succ d ih =>
    intro i hi
    obtain ⟨b, hb⟩ := ih (i + 1) (by omega)
    obtain ⟨e, he⟩ := hK l[i] (List.getElem_mem ..)
    obtain ⟨n, n1, n2⟩ := name_both l[i].f0
    have hstep : ∃ c : Bool, ∀ k, K + d + 1 < k + 1 →
        (if (i : Int) > 0 then (if 0 ≤ (wrap64 ((i : Int) - 1)) then (if (wrap64 ((i : Int) - 1)) < (l.length : Int) then (if ((Op.bytesLess (((rd_T38 l (wrap64 ((i : Int) - 1))).f0).toList) (((rd_T38 l (i : Int)).f0).toList)) = true) then (spec_GoodSchema.l0 k l l (l.length : Int) (wrap64 ((i : Int) + 1))) else (some false)) else (none)) else (none)) else (spec_GoodSchema.l0 k l l (l.length : Int) (wrap64 ((i : Int) + 1)))) = some (c && decide ((l.length : Int) ≤ 7)) ∧
        (if (i : Int) > 0 then (if 0 ≤ (wrap64 ((i : Int) - 1)) then (if (wrap64 ((i : Int) - 1)) < (l.length : Int) then (if ((Op.bytesLess (((rd_T38 l (wrap64 ((i : Int) - 1))).f0).toList) (((rd_T38 l (i : Int)).f0).toList)) = true) then (impl_GoodSchema.l0 k l l (l.length : Int) (wrap64 ((i : Int) + 1))) else (some false)) else (none)) else (none)) else (impl_GoodSchema.l0 k l l (l.length : Int) (wrap64 ((i : Int) + 1)))) = some c := by
      rw [w64 (i := (i : Int) + 1) (by omega) (by omega), show (i : Int) + 1 = ((i + 1 : Nat) : Int) from by omega]
      by_cases c0 : (i : Int) > 0
      · rw [w64 (i := (i : Int) - 1) (by omega) (by omega)]
        by_cases c1 : (Op.bytesLess (((rd_T38 l ((i : Int) - 1)).f0).toList) (((rd_T38 l (i : Int)).f0).toList)) = true
        · refine ⟨b, fun k hk => ?_⟩
          rw [if_pos c0, if_pos (by omega), if_pos (by omega), if_pos c1, if_pos c0, if_pos (by omega), if_pos (by omega), if_pos c1]
          exact hb k (by omega)
        · refine ⟨false, fun k hk => ?_⟩
          rw [if_pos c0, if_pos (by omega), if_pos (by omega), if_neg c1, if_pos c0, if_pos (by omega), if_pos (by omega), if_neg c1, Bool.false_and]
          exact ⟨rfl, rfl⟩
      · refine ⟨b, fun k hk => ?_⟩
        rw [if_neg c0, if_neg c0]
        exact hb k (by omega)
    obtain ⟨c, hc⟩ := hstep
    have hr := rd38 l i (by omega)
    by_cases q : l[i].f0.toList = ([45] : List UInt8)
    · cases e with
      | false =>
        refine ⟨false, fun k hk => ?_⟩
        obtain ⟨k, rfl⟩ : ∃ m, k = m + 1 := ⟨k - 1, by omega⟩
        simp only [spec_GoodSchema.l0, impl_GoodSchema.l0]
        rw [if_pos (by omega), if_pos (by omega), if_pos (by omega), hr, if_pos q, (he k (by omega)).1, Option.bind_some, if_neg (by simp), if_pos (by omega), if_pos (by omega), if_pos (by omega), if_pos q, (he k (by omega)).2, Option.bind_some, if_neg (by simp), Bool.false_and]
        exact ⟨rfl, rfl⟩
      | true =>
        refine ⟨c, fun k hk => ?_⟩
        obtain ⟨k, rfl⟩ : ∃ m, k = m + 1 := ⟨k - 1, by omega⟩
        have h := hc k (by omega)
        rw [hr] at h
        simp only [spec_GoodSchema.l0, impl_GoodSchema.l0]
        refine ⟨?_, ?_⟩
        · rw [if_pos (by omega), if_pos (by omega), if_pos (by omega), hr, if_pos q, (he k (by omega)).1, Option.bind_some, if_pos rfl]
          exact h.1
        · rw [if_pos (by omega), if_pos (by omega), if_pos (by omega), hr, if_pos q, (he k (by omega)).2, Option.bind_some, if_pos rfl]
          exact h.2
    · cases n with
      | false =>
        refine ⟨false, fun k hk => ?_⟩
        obtain ⟨k, rfl⟩ : ∃ m, k = m + 1 := ⟨k - 1, by omega⟩
        simp only [spec_GoodSchema.l0, impl_GoodSchema.l0]
        rw [if_pos (by omega), if_pos (by omega), if_pos (by omega), hr, if_neg q, n1, Option.bind_some, if_neg (by simp), if_pos (by omega), if_pos (by omega), if_pos (by omega), if_neg q, n2, Option.bind_some, if_neg (by simp), Bool.false_and]
        exact ⟨rfl, rfl⟩
      | true =>
        cases e with
        | false =>
          refine ⟨false, fun k hk => ?_⟩
          obtain ⟨k, rfl⟩ : ∃ m, k = m + 1 := ⟨k - 1, by omega⟩
          simp only [spec_GoodSchema.l0, impl_GoodSchema.l0]
          rw [if_pos (by omega), if_pos (by omega), if_pos (by omega), hr, if_neg q, n1, Option.bind_some, if_pos rfl, (he k (by omega)).1, Option.bind_some, if_neg (by simp), if_pos (by omega), if_pos (by omega), if_pos (by omega), if_neg q, n2, Option.bind_some, if_pos rfl, (he k (by omega)).2, Option.bind_some, if_neg (by simp), Bool.false_and]
          exact ⟨rfl, rfl⟩
        | true =>
          refine ⟨c, fun k hk => ?_⟩
          obtain ⟨k, rfl⟩ : ∃ m, k = m + 1 := ⟨k - 1, by omega⟩
          have h := hc k (by omega)
          rw [hr] at h
          simp only [spec_GoodSchema.l0, impl_GoodSchema.l0]
          refine ⟨?_, ?_⟩
          · rw [if_pos (by omega), if_pos (by omega), if_pos (by omega), hr, if_neg q, n1, Option.bind_some, if_pos rfl, (he k (by omega)).1, Option.bind_some, if_pos rfl]
            exact h.1
          · rw [if_pos (by omega), if_pos (by omega), if_pos (by omega), hr, if_neg q, n2, Option.bind_some, if_pos rfl, (he k (by omega)).2, Option.bind_some, if_pos rfl]
            exact h.2
theorem schema_both (l : List S38) (hl : l.length ≤ 1000000000) (hs : ∀ x ∈ l, x.f1.size ≤ 1000000000) : ∃ (b : Bool) (K : Nat), ∀ k, K ≤ k → spec_GoodSchema.f k l = some b ∧ impl_GoodSchema.f k l = some b := by
  obtain ⟨K, hK⟩ := exprs_both l hs
  obtain ⟨b, hb⟩ := schema_l l hl K hK l.length 0 (by omega)
  refine ⟨b && decide ((l.length : Int) ≤ 7), K + l.length + 1, fun k hk => ?_⟩
  have h := hb k (by omega)
  unfold spec_GoodSchema.f impl_GoodSchema.f
  refine ⟨h.1, ?_⟩
  by_cases c : (l.length : Int) > 7
  · rw [if_pos c, decide_eq_false (by omega), Bool.and_false]
  · rw [if_neg c, decide_eq_true (by omega), Bool.and_true]
    exact h.2

/-! schemas: a bad name spoils the row -/
def nb (s : ByteArray) : Prop := s.toList ≠ ([45] : List UInt8) ∧ spec_l1Name.f s = some false ∧ impl_isNameText.f s = some false
theorem schema_bad_l (l : List S38) (hl : l.length ≤ 1000000000) (K : Nat) (hK : ∀ x ∈ l, ∃ b : Bool, ∀ k, K ≤ k → spec_GoodExpr.f k x.f1 = some b ∧ impl_GoodExpr.f k x.f1 = some b) : ∀ (d i : Nat), i + d = l.length → (∃ (j : Nat) (hj : j < l.length), i ≤ j ∧ nb l[j].f0) → ∀ k, K + d < k → spec_GoodSchema.l0 k l l (l.length : Int) (i : Int) = some false ∧ impl_GoodSchema.l0 k l l (l.length : Int) (i : Int) = some false := by
  intro d
  induction d with
  | zero =>
    rintro i hi ⟨j, hj, hij, -⟩
    omega
  | succ d ih =>
    rintro i hi ⟨j, hj, hij, hb⟩ k hk
    obtain ⟨k, rfl⟩ : ∃ m, k = m + 1 := ⟨k - 1, by omega⟩
    obtain ⟨e, he⟩ := hK l[i] (List.getElem_mem ..)
    have hr := rd38 l i (by omega)
    by_cases hbi : nb l[i].f0
    · simp only [spec_GoodSchema.l0, impl_GoodSchema.l0]
      refine ⟨?_, ?_⟩
      · rw [if_pos (by omega), if_pos (by omega), if_pos (by omega), hr, if_neg hbi.1, hbi.2.1, Option.bind_some, if_neg (by simp)]
      · rw [if_pos (by omega), if_pos (by omega), if_pos (by omega), hr, if_neg hbi.1, hbi.2.2, Option.bind_some, if_neg (by simp)]
    · have hj2 : i + 1 ≤ j := by
        by_cases c : i = j
        · subst c; exact absurd hb hbi
        · omega
      have hR := ih (i + 1) (by omega) ⟨j, hj, hj2, hb⟩ k (by omega)
      obtain ⟨n, n1, n2⟩ := name_both l[i].f0
      have w1 : wrap64 ((i : Int) + 1) = ((i + 1 : Nat) : Int) := by rw [w64 (by omega) (by omega)]; omega
      have hS1 : (if (i : Int) > 0 then (if 0 ≤ (wrap64 ((i : Int) - 1)) then (if (wrap64 ((i : Int) - 1)) < (l.length : Int) then (if ((Op.bytesLess (((rd_T38 l (wrap64 ((i : Int) - 1))).f0).toList) ((l[i].f0).toList)) = true) then (spec_GoodSchema.l0 k l l (l.length : Int) (wrap64 ((i : Int) + 1))) else (some false)) else (none)) else (none)) else (spec_GoodSchema.l0 k l l (l.length : Int) (wrap64 ((i : Int) + 1)))) = some false := by
        rw [w1, hR.1]
        by_cases c0 : (i : Int) > 0
        · rw [if_pos c0, w64 (by omega) (by omega), if_pos (by omega), if_pos (by omega)]
          split <;> rfl
        · rw [if_neg c0]
      have hS2 : (if (i : Int) > 0 then (if 0 ≤ (wrap64 ((i : Int) - 1)) then (if (wrap64 ((i : Int) - 1)) < (l.length : Int) then (if ((Op.bytesLess (((rd_T38 l (wrap64 ((i : Int) - 1))).f0).toList) ((l[i].f0).toList)) = true) then (impl_GoodSchema.l0 k l l (l.length : Int) (wrap64 ((i : Int) + 1))) else (some false)) else (none)) else (none)) else (impl_GoodSchema.l0 k l l (l.length : Int) (wrap64 ((i : Int) + 1)))) = some false := by
        rw [w1, hR.2]
        by_cases c0 : (i : Int) > 0
        · rw [if_pos c0, w64 (by omega) (by omega), if_pos (by omega), if_pos (by omega)]
          split <;> rfl
        · rw [if_neg c0]
      simp only [spec_GoodSchema.l0, impl_GoodSchema.l0]
      rw [hr]
      refine ⟨?_, ?_⟩
      · rw [if_pos (by omega), if_pos (by omega), if_pos (by omega)]
        by_cases q : l[i].f0.toList = ([45] : List UInt8)
        · rw [if_pos q, (he k (by omega)).1, Option.bind_some]
          cases e with
          | false => rw [if_neg (by simp)]
          | true => rw [if_pos rfl]; exact hS1
        · rw [if_neg q, n1, Option.bind_some]
          cases n with
          | false => rw [if_neg (by simp)]
          | true =>
            rw [if_pos rfl, (he k (by omega)).1, Option.bind_some]
            cases e with
            | false => rw [if_neg (by simp)]
            | true => rw [if_pos rfl]; exact hS1
      · rw [if_pos (by omega), if_pos (by omega), if_pos (by omega)]
        by_cases q : l[i].f0.toList = ([45] : List UInt8)
        · rw [if_pos q, (he k (by omega)).2, Option.bind_some]
          cases e with
          | false => rw [if_neg (by simp)]
          | true => rw [if_pos rfl]; exact hS2
        · rw [if_neg q, n2, Option.bind_some]
          cases n with
          | false => rw [if_neg (by simp)]
          | true =>
            rw [if_pos rfl, (he k (by omega)).2, Option.bind_some]
            cases e with
            | false => rw [if_neg (by simp)]
            | true => rw [if_pos rfl]; exact hS2
theorem schema_bad (l : List S38) (hl : l.length ≤ 1000000000) (hs : ∀ x ∈ l, x.f1.size ≤ 1000000000) (hb : ∃ x ∈ l, nb x.f0) : ∃ K, ∀ k, K ≤ k → spec_GoodSchema.f k l = some false ∧ impl_GoodSchema.f k l = some false := by
  obtain ⟨K, hK⟩ := exprs_both l hs
  refine ⟨K + l.length + 1, fun k hk => ?_⟩
  obtain ⟨x, hx, hb⟩ := hb
  obtain ⟨j, hj, rfl⟩ := List.getElem_of_mem hx
  have h := schema_bad_l l hl K hK l.length 0 (by omega) ⟨j, hj, Nat.zero_le _, hb⟩ k (by omega)
  unfold spec_GoodSchema.f impl_GoodSchema.f
  refine ⟨h.1, ?_⟩
  by_cases c : (l.length : Int) > 7
  · rw [if_pos c]
  · rw [if_neg c]; exact h.2
theorem schema_long (l : List S38) (hl : l.length ≤ 1000000000) (hs : ∀ x ∈ l, x.f1.size ≤ 1000000000) (h7 : 7 < l.length) : ∃ K, ∀ k, K ≤ k → spec_GoodSchema.f k l = some false := by
  obtain ⟨b, K, h⟩ := schema_both l hl hs
  refine ⟨K, fun k hk => ?_⟩
  have h2 := (h k hk).2
  unfold impl_GoodSchema.f at h2
  rw [if_pos (by omega)] at h2
  obtain rfl := Option.some.inj h2
  exact (h k hk).1
theorem btP1 {p : ByteArray} (hp : p.size = 1) : p.data.toList = [(bt p 0).toNat.toUInt8] := by
  have h : (0 : Int).toNat < p.size := by rw [hp]; decide
  have e := bt_at p 0 h
  have hl : p.data.toList.length = 1 := by rw [Array.length_toList]; exact hp
  obtain ⟨x, hx⟩ := List.length_eq_one_iff.1 hl
  rw [hx, ← e]
  have hg : p[(0 : Int).toNat]'h = x := by
    have : p.data.toList[0]'(by rw [hl]; decide) = x := by simp [hx]
    have t2 : p.data[0]'(by have := hl; rw [Array.length_toList] at this; omega) = x := by simpa using this
    exact t2
  rw [hg]
  simp
/-- A name that is not one byte, or is the sign of equality, is bad. -/
theorem nb_size {s : ByteArray} (h : s.size ≠ 1) : nb s := by
  refine ⟨fun e => h ?_, ?_, ?_⟩
  · have := congrArg List.length e
    rw [toList_data, Array.length_toList] at this
    exact this
  · unfold spec_l1Name.f; rw [if_neg (by omega)]
  · unfold impl_isNameText.f; rw [if_neg (by omega)]
theorem nb_eq {s : ByteArray} (h : s.size = 1) (he : bt s 0 = 61) : nb s := by
  refine ⟨fun e => ?_, ?_, ?_⟩
  · have hd : s.data.toList = [45] := by rw [← toList_data]; exact e
    have h2 := btP1 h
    rw [hd, he] at h2
    exact absurd h2 (by decide)
  · unfold spec_l1Name.f spec_l1Open.f; rw [if_pos (by omega), if_pos (by omega), he]; rfl
  · unfold impl_isNameText.f impl_isName.f; rw [if_pos (by omega), if_pos (by omega), he]; rfl

/-! schemas read -/
theorem fi_len (c : UInt8) : ∀ l : List UInt8, fi l c ≤ l.length
  | [] => Nat.le_refl _
  | b :: l => by
    have := fi_len c l
    unfold fi
    split
    · exact Nat.zero_le _
    · rw [List.length_cons]; omega
theorem fi_before (c : UInt8) : ∀ (l : List UInt8) (j : Nat) (hj : j < fi l c) (h : j < l.length), l[j] ≠ c
  | [], j, hj, h => by cases h
  | b :: l, j, hj, h => by
    unfold fi at hj
    split at hj
    · omega
    · next hb =>
      cases j with
      | zero => exact hb
      | succ j => exact fi_before c l j (by omega) (by rw [List.length_cons] at h; omega)
theorem fi_at (c : UInt8) : ∀ (l : List UInt8) (h : fi l c < l.length), l[fi l c] = c
  | [], h => by cases h
  | b :: l, h => by
    by_cases hb : b = c
    · have e : fi (b :: l) c = 0 := by unfold fi; rw [if_pos hb]
      simp only [e]
      exact hb
    · have e : fi (b :: l) c = fi l c + 1 := by
        conv => lhs; unfold fi
        rw [if_neg hb]
      have h2 : fi l c < l.length := by rw [e, List.length_cons] at h; omega
      simp only [e, List.getElem_cons_succ]
      exact fi_at c l h2
theorem fiB_le (s : ByteArray) (c : Int) : fiB s c ≤ s.size := by
  have := fi_len c.toNat.toUInt8 s.data.toList
  rw [Array.length_toList] at this
  exact this
theorem u8_eq (x : UInt8) (c : Int) (h0 : 0 ≤ c) (h1 : c ≤ 255) : x = c.toNat.toUInt8 ↔ (x.toNat : Int) = c := by
  constructor
  · rintro rfl
    have : c.toNat.toUInt8.toNat = c.toNat := by simp; omega
    rw [this]; omega
  · intro h
    apply UInt8.toNat_inj.1
    have : c.toNat.toUInt8.toNat = c.toNat := by simp; omega
    rw [this]; omega
theorem fiB_before (s : ByteArray) (c : Int) (h0 : 0 ≤ c) (h1 : c ≤ 255) (j : Nat) (hj : j < fiB s c) : bt s (j : Int) ≠ c := by
  have hl := fiB_le s c
  rw [bt_data s j (by omega)]
  intro e
  exact fi_before c.toNat.toUInt8 s.data.toList j hj (by rw [Array.length_toList]; show j < s.size; omega) ((u8_eq _ c h0 h1).2 e)
theorem fiB_at (s : ByteArray) (c : Int) (h0 : 0 ≤ c) (h1 : c ≤ 255) (h : fiB s c < s.size) : bt s (fiB s c : Int) = c := by
  rw [bt_data s _ h]
  exact (u8_eq _ c h0 h1).1 (fi_at c.toNat.toUInt8 s.data.toList (by rw [Array.length_toList]; exact h))
theorem cut_yes (s p : ByteArray) (c : Int) (hp : p.size = 1) (hc : bt p 0 = c) (hs : s.size ≤ 1000000000000000) (h : fiB s c < s.size) : strings_Cut.f s p = some (s.extract 0 (fiB s c), s.extract (fiB s c + 1) s.size, true) := by
  unfold strings_Cut.f
  rw [if_pos ⟨hp, hs⟩, hc, if_pos h]
theorem cut_no (s p : ByteArray) (c : Int) (hp : p.size = 1) (hc : bt p 0 = c) (hs : s.size ≤ 1000000000000000) (h : ¬ fiB s c < s.size) : strings_Cut.f s p = some (s, (⟨#[]⟩ : ByteArray), false) := by
  unfold strings_Cut.f
  rw [if_pos ⟨hp, hs⟩, hc, if_neg h]
theorem p59 : bt (⟨#[59]⟩ : ByteArray) 0 = 59 := by decide
theorem p61 : bt (⟨#[61]⟩ : ByteArray) 0 = 61 := by decide
theorem rd_scan (x4 : List S38) (x5 : ByteArray) (hs : x5.size ≤ 1000000000) : ∀ (d i : Nat), i + d = fiB x5 59 → ∀ k, spec_ReadSchema.l1 (k + d) x4 x5 (i : Int) = spec_ReadSchema.l1 k x4 x5 (fiB x5 59 : Int) := by
  intro d
  induction d with
  | zero =>
    intro i hi k
    rw [show i = fiB x5 59 by omega, Nat.add_zero]
  | succ d ih =>
    intro i hi k
    have hl := fiB_le x5 59
    have hb := fiB_before x5 59 (by omega) (by omega) i (by omega)
    rw [← ih (i + 1) (by omega) k, show k + (d + 1) = (k + d) + 1 from by omega]
    conv => lhs; unfold spec_ReadSchema.l1
    rw [if_pos (by omega), if_pos (by omega), if_neg hb, w64 (by omega) (by omega), show (i : Int) + 1 = ((i + 1 : Nat) : Int) from by omega]
theorem rd_T1 (x4 : List S38) (x5 : ByteArray) (hs : x5.size ≤ 1000000000) (h : ¬ fiB x5 59 < x5.size) (k : Nat) : spec_ReadSchema.l1 (k + 1) x4 x5 (fiB x5 59 : Int) = some ([], false) := by
  have hl := fiB_le x5 59
  unfold spec_ReadSchema.l1
  rw [if_neg (by omega)]
  by_cases c : (fiB x5 59 : Int) < 2
  · rw [if_pos c]
  · rw [if_neg c, if_pos (by omega)]
theorem rd_T2 (x4 : List S38) (x5 : ByteArray) (hs : x5.size ≤ 1000000000) (h : fiB x5 59 < x5.size) (h2 : fiB x5 59 < 2) (k : Nat) : spec_ReadSchema.l1 (k + 1) x4 x5 (fiB x5 59 : Int) = some ([], false) := by
  have hb := fiB_at x5 59 (by omega) (by omega) h
  unfold spec_ReadSchema.l1
  rw [if_pos (by omega), if_pos (by omega), if_pos hb, if_pos (by omega)]
theorem rd_T3 (x4 : List S38) (x5 : ByteArray) (hs : x5.size ≤ 1000000000) (h : fiB x5 59 < x5.size) (h2 : 2 ≤ fiB x5 59) (h3 : bt x5 1 ≠ 61) (k : Nat) : spec_ReadSchema.l1 (k + 1) x4 x5 (fiB x5 59 : Int) = some ([], false) := by
  have hb := fiB_at x5 59 (by omega) (by omega) h
  unfold spec_ReadSchema.l1
  rw [if_pos (by omega), if_pos (by omega), if_pos hb, if_neg (by omega), if_neg (by omega), if_pos (by omega), if_neg h3]
theorem rd_T4 (x4 : List S38) (x5 : ByteArray) (hs : x5.size ≤ 1000000000) (h : fiB x5 59 < x5.size) (h2 : 2 ≤ fiB x5 59) (h3 : bt x5 1 = 61) (h4 : x4.length ≤ 1000000000) (k : Nat) : spec_ReadSchema.l1 (k + 1) x4 x5 (fiB x5 59 : Int) = spec_ReadSchema.l0 k (x4 ++ [(⟨x5.extract 0 1, x5.extract 2 (fiB x5 59)⟩ : S38)]) (x5.extract (fiB x5 59 + 1) x5.size) := by
  have hb := fiB_at x5 59 (by omega) (by omega) h
  conv => lhs; unfold spec_ReadSchema.l1
  rw [if_pos (by omega), if_pos (by omega), if_pos hb, if_neg (by omega), if_neg (by omega), if_pos (by omega), if_pos h3, if_pos (by omega), if_pos (by omega), if_pos (by omega), if_pos (by omega), if_pos (by omega), w64 (by omega) (by omega), if_pos (by omega), if_pos (by omega), Int.toNat_natCast, show ((fiB x5 59 : Int) + 1).toNat = fiB x5 59 + 1 from by omega]
/-- One round of the reference's loop, at a rest that is not empty and few rules. -/
theorem rd_spec (x4 : List S38) (x5 : ByteArray) (hs : x5.size ≤ 1000000000) (he : x5.toList ≠ []) (h7 : x4.length ≤ 7) (k : Nat) : spec_ReadSchema.l0 (k + 2 + fiB x5 59) x4 x5 = spec_ReadSchema.l1 k x4 x5 (fiB x5 59 : Int) := by
  rw [show k + 2 + fiB x5 59 = (k + fiB x5 59 + 1) + 1 from by omega]
  simp only [spec_ReadSchema.l0]
  rw [if_neg he, decide_eq_true (by omega)]
  simp only [spec_ReadSchema.j1]
  rw [if_pos trivial]
  have := rd_scan x4 x5 hs (fiB x5 59) 0 (by omega) k
  exact this
theorem rd_spec8 (x4 : List S38) (x5 : ByteArray) (he : x5.toList ≠ []) (h7 : 7 < x4.length) (k : Nat) : spec_ReadSchema.l0 (k + 2) x4 x5 = (spec_GoodSchema.f k x4).bind fun c => if c = true then (if x5.toList = ([] : List UInt8) then some (x4, true) else some ([], false)) else some ([], false) := by
  simp only [spec_ReadSchema.l0]
  rw [if_neg he, decide_eq_false (by omega)]
  simp only [spec_ReadSchema.j1]
  rw [if_neg (by simp)]
theorem rd_spec0 (x4 : List S38) (x5 : ByteArray) (he : x5.toList = []) (k : Nat) : spec_ReadSchema.l0 (k + 2) x4 x5 = (spec_GoodSchema.f k x4).bind fun c => if c = true then some (x4, true) else some ([], false) := by
  simp only [spec_ReadSchema.l0]
  rw [if_pos he]
  simp only [spec_ReadSchema.j1]
  rw [if_neg (by simp), if_pos he]

/-! schemas read: both answer alike -/
def SzL (l : List S38) : Prop := ∀ x ∈ l, x.f1.size ≤ 1048576
def BadL (l : List S38) : Prop := ∃ x ∈ l, nb x.f0
theorem SzL_snoc {l : List S38} (h : SzL l) (a b : ByteArray) (hb : b.size ≤ 1048576) : SzL (l ++ [⟨a, b⟩]) := by
  intro x hx
  rcases List.mem_append.1 hx with hx | hx
  · exact h x hx
  · rw [List.mem_singleton.1 hx]; exact hb
theorem SzL_9 {l : List S38} (h : SzL l) : ∀ x ∈ l, x.f1.size ≤ 1000000000 := fun x hx => by have := h x hx; omega
theorem BadL_left {l : List S38} (h : BadL l) (y : S38) : BadL (l ++ [y]) := by
  obtain ⟨x, hx, hb⟩ := h
  exact ⟨x, List.mem_append.2 (.inl hx), hb⟩
theorem BadL_new (l : List S38) (a b : ByteArray) (h : nb a) : BadL (l ++ [⟨a, b⟩]) := ⟨_, List.mem_append.2 (.inr (List.mem_singleton.2 rfl)), h⟩
theorem ex_sz (s : ByteArray) (a b : Nat) : (s.extract a b).size ≤ s.size := by rw [ByteArray.size_extract]; omega
theorem impl_step (x4 : List S38) (x5 : ByteArray) (hs : x5.size ≤ 1048576) (he : x5.toList ≠ []) (h7 : x4.length ≤ 7) (k : Nat) : impl_ReadSchema.l0 (k + 1) x4 x5 = if fiB x5 59 < x5.size then (if fiB (x5.extract 0 (fiB x5 59)) 61 < (x5.extract 0 (fiB x5 59)).size then (if x4.length = 7 then some ([], false) else impl_ReadSchema.l0 k (x4 ++ [⟨(x5.extract 0 (fiB x5 59)).extract 0 (fiB (x5.extract 0 (fiB x5 59)) 61), (x5.extract 0 (fiB x5 59)).extract (fiB (x5.extract 0 (fiB x5 59)) 61 + 1) (x5.extract 0 (fiB x5 59)).size⟩]) (x5.extract (fiB x5 59 + 1) x5.size)) else some ([], false)) else some ([], false) := by
  have hz := ex_sz x5 0 (fiB x5 59)
  simp only [impl_ReadSchema.l0]
  rw [if_neg he]
  by_cases h : fiB x5 59 < x5.size
  · rw [if_pos h, cut_yes x5 _ 59 rfl p59 (by omega) h, Option.bind_some]
    by_cases h2 : fiB (x5.extract 0 (fiB x5 59)) 61 < (x5.extract 0 (fiB x5 59)).size
    · rw [if_pos h2]
      show ((strings_Cut.f (x5.extract 0 (fiB x5 59)) _).bind _) = _
      rw [cut_yes _ _ 61 rfl p61 (by omega) h2, Option.bind_some, if_pos rfl, if_pos rfl]
      by_cases c : x4.length = 7
      · rw [if_pos c, if_pos (by omega)]
      · rw [if_neg c, if_neg (by omega), if_pos (by omega)]
    · rw [if_neg h2]
      show ((strings_Cut.f (x5.extract 0 (fiB x5 59)) _).bind _) = _
      rw [cut_no _ _ 61 rfl p61 (by omega) h2, Option.bind_some, if_pos rfl, if_neg (by simp)]
  · rw [if_neg h, cut_no x5 _ 59 rfl p59 (by omega) h, Option.bind_some]
    show ((strings_Cut.f x5 _).bind _) = _
    by_cases h2 : fiB x5 61 < x5.size
    · rw [cut_yes _ _ 61 rfl p61 (by omega) h2, Option.bind_some, if_neg (by simp)]
    · rw [cut_no _ _ 61 rfl p61 (by omega) h2, Option.bind_some, if_neg (by simp)]
theorem after_lt (x5 : ByteArray) (h : fiB x5 59 < x5.size) : (x5.extract (fiB x5 59 + 1) x5.size).size < x5.size := by rw [ByteArray.size_extract]; omega
theorem impl_bad : ∀ (N : Nat) (x4 : List S38) (x5 : ByteArray), x5.size ≤ N → x5.size ≤ 1048576 → x4.length ≤ 7 → SzL x4 → BadL x4 → ∃ K, ∀ k, K ≤ k → impl_ReadSchema.l0 k x4 x5 = some ([], false) := by
  intro N
  induction N with
  | zero =>
    intro x4 x5 hN hs h7 hS hB
    obtain ⟨K, h⟩ := schema_bad x4 (by omega) (SzL_9 hS) hB
    refine ⟨K + 1, fun k hk => ?_⟩
    obtain ⟨k, rfl⟩ : ∃ m, k = m + 1 := ⟨k - 1, by omega⟩
    simp only [impl_ReadSchema.l0]
    rw [if_pos (tl_emp.2 (by omega)), (h k (by omega)).2, Option.bind_some, if_neg (by simp)]
  | succ N ih =>
    intro x4 x5 hN hs h7 hS hB
    by_cases he : x5.toList = []
    · exact ih x4 x5 (by rw [tl_emp.1 he]; omega) hs h7 hS hB
    · have hst := impl_step x4 x5 hs he h7
      by_cases h : fiB x5 59 < x5.size
      · by_cases h2 : fiB (x5.extract 0 (fiB x5 59)) 61 < (x5.extract 0 (fiB x5 59)).size
        · by_cases c : x4.length = 7
          · refine ⟨1, fun k hk => ?_⟩
            obtain ⟨k, rfl⟩ : ∃ m, k = m + 1 := ⟨k - 1, by omega⟩
            rw [hst, if_pos h, if_pos h2, if_pos c]
          · have ha := after_lt x5 h
            obtain ⟨K, hK⟩ := ih (x4 ++ [⟨(x5.extract 0 (fiB x5 59)).extract 0 (fiB (x5.extract 0 (fiB x5 59)) 61), (x5.extract 0 (fiB x5 59)).extract (fiB (x5.extract 0 (fiB x5 59)) 61 + 1) (x5.extract 0 (fiB x5 59)).size⟩]) (x5.extract (fiB x5 59 + 1) x5.size) (by omega) (by omega) (by rw [List.length_append, List.length_singleton]; omega) (SzL_snoc hS _ _ (by have h1 := ex_sz (x5.extract 0 (fiB x5 59)) (fiB (x5.extract 0 (fiB x5 59)) 61 + 1) (x5.extract 0 (fiB x5 59)).size; have h2 := ex_sz x5 0 (fiB x5 59); omega)) (BadL_left hB _)
            refine ⟨K + 1, fun k hk => ?_⟩
            obtain ⟨k, rfl⟩ : ∃ m, k = m + 1 := ⟨k - 1, by omega⟩
            rw [hst, if_pos h, if_pos h2, if_neg c]
            exact hK k (by omega)
        · refine ⟨1, fun k hk => ?_⟩
          obtain ⟨k, rfl⟩ : ∃ m, k = m + 1 := ⟨k - 1, by omega⟩
          rw [hst, if_pos h, if_neg h2]
      · refine ⟨1, fun k hk => ?_⟩
        obtain ⟨k, rfl⟩ : ∃ m, k = m + 1 := ⟨k - 1, by omega⟩
        rw [hst, if_neg h]
theorem spec_bad : ∀ (N : Nat) (x4 : List S38) (x5 : ByteArray), x5.size ≤ N → x5.size ≤ 1048576 → x4.length ≤ 8 → SzL x4 → (BadL x4 ∨ 7 < x4.length) → ∃ K, ∀ k, K ≤ k → spec_ReadSchema.l0 k x4 x5 = some ([], false) := by
  intro N
  induction N with
  | zero =>
    intro x4 x5 hN hs h8 hS hB
    have hG : ∃ K, ∀ k, K ≤ k → spec_GoodSchema.f k x4 = some false := by
      rcases hB with hB | hB
      · obtain ⟨K, h⟩ := schema_bad x4 (by omega) (SzL_9 hS) hB
        exact ⟨K, fun k hk => (h k hk).1⟩
      · exact schema_long x4 (by omega) (SzL_9 hS) hB
    obtain ⟨K, h⟩ := hG
    refine ⟨K + 2, fun k hk => ?_⟩
    obtain ⟨k, rfl⟩ : ∃ m, k = m + 2 := ⟨k - 2, by omega⟩
    rw [rd_spec0 x4 x5 (tl_emp.2 (by omega)), h k (by omega), Option.bind_some, if_neg (by simp)]
  | succ N ih =>
    intro x4 x5 hN hs h8 hS hB
    by_cases he : x5.toList = []
    · exact ih x4 x5 (by rw [tl_emp.1 he]; omega) hs h8 hS hB
    · by_cases h7 : 7 < x4.length
      · obtain ⟨K, h⟩ := schema_long x4 (by omega) (SzL_9 hS) h7
        refine ⟨K + 2, fun k hk => ?_⟩
        obtain ⟨k, rfl⟩ : ∃ m, k = m + 2 := ⟨k - 2, by omega⟩
        rw [rd_spec8 x4 x5 he h7, h k (by omega), Option.bind_some, if_neg (by simp)]
      · have hB' : BadL x4 := hB.resolve_right h7
        have hst := rd_spec x4 x5 (by omega) he (by omega)
        have fin : ∀ (P : ∀ k, spec_ReadSchema.l1 (k + 1) x4 x5 (fiB x5 59 : Int) = some ([], false)), ∃ K, ∀ k, K ≤ k → spec_ReadSchema.l0 k x4 x5 = some ([], false) := fun P => by
          refine ⟨1 + 2 + fiB x5 59, fun k hk => ?_⟩
          obtain ⟨k, rfl⟩ : ∃ m, k = (m + 1) + 2 + fiB x5 59 := ⟨k - (1 + 2 + fiB x5 59), by omega⟩
          rw [hst, P]
        by_cases h : fiB x5 59 < x5.size
        · by_cases h2 : fiB x5 59 < 2
          · exact fin (fun k => rd_T2 x4 x5 (by omega) h h2 k)
          · by_cases h3 : bt x5 1 = 61
            · have ha := after_lt x5 h
              obtain ⟨K, hK⟩ := ih (x4 ++ [⟨x5.extract 0 1, x5.extract 2 (fiB x5 59)⟩]) (x5.extract (fiB x5 59 + 1) x5.size) (by omega) (by omega) (by rw [List.length_append, List.length_singleton]; omega) (SzL_snoc hS _ _ (by have := ex_sz x5 2 (fiB x5 59); omega)) (.inl (BadL_left hB' _))
              refine ⟨K + 1 + 2 + fiB x5 59, fun k hk => ?_⟩
              obtain ⟨k, rfl⟩ : ∃ m, k = (m + 1) + 2 + fiB x5 59 := ⟨k - (1 + 2 + fiB x5 59), by omega⟩
              rw [hst, rd_T4 x4 x5 (by omega) h (by omega) h3 (by omega)]
              exact hK k (by omega)
            · exact fin (fun k => rd_T3 x4 x5 (by omega) h (by omega) h3 k)
        · exact fin (fun k => rd_T1 x4 x5 (by omega) h k)
set_option maxHeartbeats 1000000 in
theorem read_l : ∀ (N : Nat) (x4 : List S38) (x5 : ByteArray), x5.size ≤ N → x5.size ≤ 1048576 → x4.length ≤ 7 → SzL x4 → ∃ (r : List S38 × Bool) (K : Nat), r.1.length ≤ 7 ∧ ∀ k, K ≤ k → spec_ReadSchema.l0 k x4 x5 = some r ∧ impl_ReadSchema.l0 k x4 x5 = some r := by
  intro N
  induction N with
  | zero =>
    intro x4 x5 hN hs h7 hS
    obtain ⟨b, K, h⟩ := schema_both x4 (by omega) (SzL_9 hS)
    have he : x5.toList = [] := tl_emp.2 (by omega)
    cases b with
    | false =>
      refine ⟨([], false), K + 2, Nat.zero_le _, fun k hk => ?_⟩
      obtain ⟨k, rfl⟩ : ∃ m, k = m + 2 := ⟨k - 2, by omega⟩
      rw [rd_spec0 x4 x5 he, (h k (by omega)).1, Option.bind_some, if_neg (by simp)]
      simp only [impl_ReadSchema.l0]
      rw [if_pos he, (h (k + 1) (by omega)).2, Option.bind_some, if_neg (by simp)]
      exact ⟨by first | rfl | trivial, by first | rfl | trivial⟩
    | true =>
      refine ⟨(x4, true), K + 2, h7, fun k hk => ?_⟩
      obtain ⟨k, rfl⟩ : ∃ m, k = m + 2 := ⟨k - 2, by omega⟩
      rw [rd_spec0 x4 x5 he, (h k (by omega)).1, Option.bind_some, if_pos rfl]
      simp only [impl_ReadSchema.l0]
      rw [if_pos he, (h (k + 1) (by omega)).2, Option.bind_some, if_pos rfl]
      exact ⟨by first | rfl | trivial, by first | rfl | trivial⟩
  | succ N ih =>
    intro x4 x5 hN hs h7 hS
    by_cases he : x5.toList = []
    · exact ih x4 x5 (by rw [tl_emp.1 he]; omega) hs h7 hS
    have hst := impl_step x4 x5 hs he h7
    have hsp := rd_spec x4 x5 (by omega) he h7
    obtain ⟨n, hn⟩ : ∃ n, fiB x5 59 = n := ⟨_, rfl⟩
    have bothF : (∃ K, ∀ k, K ≤ k → spec_ReadSchema.l0 k x4 x5 = some ([], false)) → (∃ K, ∀ k, K ≤ k → impl_ReadSchema.l0 k x4 x5 = some ([], false)) → ∃ (r : List S38 × Bool) (K : Nat), r.1.length ≤ 7 ∧ ∀ k, K ≤ k → spec_ReadSchema.l0 k x4 x5 = some r ∧ impl_ReadSchema.l0 k x4 x5 = some r := fun ⟨K1, a⟩ ⟨K2, b⟩ => ⟨([], false), K1 + K2, Nat.zero_le _, fun k hk => ⟨a k (by omega), b k (by omega)⟩⟩
    have finS : (∀ k, spec_ReadSchema.l1 (k + 1) x4 x5 (fiB x5 59 : Int) = some ([], false)) → ∃ K, ∀ k, K ≤ k → spec_ReadSchema.l0 k x4 x5 = some ([], false) := fun P => by
      refine ⟨1 + 2 + fiB x5 59, fun k hk => ?_⟩
      obtain ⟨k, rfl⟩ : ∃ m, k = (m + 1) + 2 + fiB x5 59 := ⟨k - (1 + 2 + fiB x5 59), by omega⟩
      rw [hsp, P]
    have finI : (∀ k, impl_ReadSchema.l0 (k + 1) x4 x5 = some ([], false)) → ∃ K, ∀ k, K ≤ k → impl_ReadSchema.l0 k x4 x5 = some ([], false) := fun P => by
      refine ⟨1, fun k hk => ?_⟩
      obtain ⟨k, rfl⟩ : ∃ m, k = m + 1 := ⟨k - 1, by omega⟩
      exact P k
    by_cases h : fiB x5 59 < x5.size
    case neg => exact bothF (finS (fun k => rd_T1 x4 x5 (by omega) h k)) (finI (fun k => by rw [hst, if_neg h]))
    have hline : (x5.extract 0 (fiB x5 59)).size = fiB x5 59 := by rw [ByteArray.size_extract]; omega
    have hbt : ∀ j : Nat, j < fiB x5 59 → bt (x5.extract 0 (fiB x5 59)) (j : Int) = bt x5 (j : Int) := fun j hj => by
      have := bt_extract x5 0 (fiB x5 59) j (by omega) (by omega)
      rw [Nat.zero_add] at this
      exact this
    have hm := fiB_le (x5.extract 0 (fiB x5 59)) 61
    by_cases h2 : fiB (x5.extract 0 (fiB x5 59)) 61 < (x5.extract 0 (fiB x5 59)).size
    case neg =>
      refine bothF (finS (fun k => ?_)) (finI (fun k => by rw [hst, if_pos h, if_neg h2]))
      by_cases q : fiB x5 59 < 2
      · exact rd_T2 x4 x5 (by omega) h q k
      · refine rd_T3 x4 x5 (by omega) h (by omega) (fun e => ?_) k
        have h1 := fiB_before (x5.extract 0 (fiB x5 59)) 61 (by omega) (by omega) 1 (by omega)
        exact h1 ((hbt 1 (by omega)).trans e)
    have ha := after_lt x5 h
    have hz1 := ex_sz (x5.extract 0 (fiB x5 59)) (fiB (x5.extract 0 (fiB x5 59)) 61 + 1) (x5.extract 0 (fiB x5 59)).size
    have hz2 := ex_sz x5 0 (fiB x5 59)
    have hz3 := ex_sz x5 2 (fiB x5 59)
    by_cases c7 : x4.length = 7
    · refine bothF ?_ (finI (fun k => by rw [hst, if_pos h, if_pos h2, if_pos c7]))
      by_cases q : fiB x5 59 < 2
      · exact finS (fun k => rd_T2 x4 x5 (by omega) h q k)
      · by_cases h3 : bt x5 1 = 61
        · obtain ⟨K, hK⟩ := spec_bad x5.size (x4 ++ [⟨x5.extract 0 1, x5.extract 2 (fiB x5 59)⟩]) (x5.extract (fiB x5 59 + 1) x5.size) (by omega) (by omega) (by rw [List.length_append, List.length_singleton]; omega) (SzL_snoc hS _ _ (by omega)) (.inr (by rw [List.length_append, List.length_singleton]; omega))
          refine ⟨K + 1 + 2 + fiB x5 59, fun k hk => ?_⟩
          obtain ⟨k, rfl⟩ : ∃ m, k = (m + 1) + 2 + fiB x5 59 := ⟨k - (1 + 2 + fiB x5 59), by omega⟩
          rw [hsp, rd_T4 x4 x5 (by omega) h (by omega) h3 (by omega)]
          exact hK k (by omega)
        · exact finS (fun k => rd_T3 x4 x5 (by omega) h (by omega) h3 k)
    have implBad : nb ((x5.extract 0 (fiB x5 59)).extract 0 (fiB (x5.extract 0 (fiB x5 59)) 61)) → ∃ K, ∀ k, K ≤ k → impl_ReadSchema.l0 k x4 x5 = some ([], false) := fun hb => by
      obtain ⟨K, hK⟩ := impl_bad x5.size (x4 ++ [⟨(x5.extract 0 (fiB x5 59)).extract 0 (fiB (x5.extract 0 (fiB x5 59)) 61), (x5.extract 0 (fiB x5 59)).extract (fiB (x5.extract 0 (fiB x5 59)) 61 + 1) (x5.extract 0 (fiB x5 59)).size⟩]) (x5.extract (fiB x5 59 + 1) x5.size) (by omega) (by omega) (by rw [List.length_append, List.length_singleton]; omega) (SzL_snoc hS _ _ (by omega)) (BadL_new _ _ _ hb)
      refine ⟨K + 1, fun k hk => ?_⟩
      obtain ⟨k, rfl⟩ : ∃ m, k = m + 1 := ⟨k - 1, by omega⟩
      rw [hst, if_pos h, if_pos h2, if_neg c7]
      exact hK k (by omega)
    have hnm : ((x5.extract 0 (fiB x5 59)).extract 0 (fiB (x5.extract 0 (fiB x5 59)) 61)).size = fiB (x5.extract 0 (fiB x5 59)) 61 := by rw [ByteArray.size_extract]; omega
    have hat := fiB_at (x5.extract 0 (fiB x5 59)) 61 (by omega) (by omega) h2
    by_cases q : fiB x5 59 < 2
    · exact bothF (finS (fun k => rd_T2 x4 x5 (by omega) h q k)) (implBad (nb_size (by omega)))
    by_cases h3 : bt x5 1 = 61
    case neg =>
      refine bothF (finS (fun k => rd_T3 x4 x5 (by omega) h (by omega) h3 k)) (implBad (nb_size (fun e => ?_)))
      rw [hnm] at e
      rw [e] at hat
      exact h3 ((hbt 1 (by omega)).symm.trans hat)
    by_cases m0 : fiB (x5.extract 0 (fiB x5 59)) 61 = 0
    · refine bothF ?_ (implBad (nb_size (by omega)))
      rw [m0] at hat
      have h61 : bt (x5.extract 0 1) 0 = 61 := by
        have := bt_extract x5 0 1 0 (by omega) (by omega)
        have h0 := hbt 0 (by omega)
        exact this.trans (h0.symm.trans hat)
      obtain ⟨K, hK⟩ := spec_bad x5.size (x4 ++ [⟨x5.extract 0 1, x5.extract 2 (fiB x5 59)⟩]) (x5.extract (fiB x5 59 + 1) x5.size) (by omega) (by omega) (by rw [List.length_append, List.length_singleton]; omega) (SzL_snoc hS _ _ (by omega)) (.inl (BadL_new _ _ _ (nb_eq (by rw [ByteArray.size_extract]; omega) h61)))
      refine ⟨K + 1 + 2 + fiB x5 59, fun k hk => ?_⟩
      obtain ⟨k, rfl⟩ : ∃ m, k = (m + 1) + 2 + fiB x5 59 := ⟨k - (1 + 2 + fiB x5 59), by omega⟩
      rw [hsp, rd_T4 x4 x5 (by omega) h (by omega) h3 (by omega)]
      exact hK k (by omega)
    · have m1 : fiB (x5.extract 0 (fiB x5 59)) 61 = 1 := by
        by_cases c : 1 < fiB (x5.extract 0 (fiB x5 59)) 61
        · have h1 := fiB_before (x5.extract 0 (fiB x5 59)) 61 (by omega) (by omega) 1 c
          exact absurd ((hbt 1 (by omega)).trans h3) h1
        · omega
      have e1 : (x5.extract 0 (fiB x5 59)).extract 0 1 = x5.extract 0 1 := by
        rw [ByteArray.extract_extract, Nat.zero_add, Nat.zero_add, Nat.min_eq_left (by omega)]
      have e2 : (x5.extract 0 (fiB x5 59)).extract (1 + 1) (x5.extract 0 (fiB x5 59)).size = x5.extract 2 (fiB x5 59) := by
        rw [hline, ByteArray.extract_extract, Nat.zero_add, Nat.zero_add, Nat.min_self]
      obtain ⟨r, K, hr, hK⟩ := ih (x4 ++ [⟨x5.extract 0 1, x5.extract 2 (fiB x5 59)⟩]) (x5.extract (fiB x5 59 + 1) x5.size) (by omega) (by omega) (by rw [List.length_append, List.length_singleton]; omega) (SzL_snoc hS _ _ (by omega))
      refine ⟨r, K + 1 + 2 + fiB x5 59, hr, fun k hk => ⟨?_, ?_⟩⟩
      · obtain ⟨k, rfl⟩ : ∃ m, k = (m + 1) + 2 + fiB x5 59 := ⟨k - (1 + 2 + fiB x5 59), by omega⟩
        rw [hsp, rd_T4 x4 x5 (by omega) h (by omega) h3 (by omega)]
        exact (hK k (by omega)).1
      · obtain ⟨k, rfl⟩ : ∃ m, k = m + 1 := ⟨k - 1, by omega⟩
        rw [hst, if_pos h, if_pos h2, if_neg c7, m1, e1, e2]
        exact (hK k (by omega)).2

/-! ropes: marks: what is written is read there again -/
def mT (n : Nat) : ByteArray := (laws_markText.f 100 (n : Int)).getD ⟨#[]⟩
theorem markText_l : ∀ (d n : Nat) (x : ByteArray), n < 10 ^ d → n ≤ 1000000000 → x.size + d ≤ 1000 → ∃ t, ∀ k, d < k → laws_markText.l0 k (n : Int) x = some t := by
  intro d
  induction d with
  | zero =>
    intro n x hn hnb hx
    have : n = 0 := by simpa using hn
    subst this
    refine ⟨(⟨#[109]⟩ : ByteArray) ++ x, fun k hk => ?_⟩
    obtain ⟨k, rfl⟩ : ∃ m, k = m + 1 := ⟨k - 1, by omega⟩
    simp only [laws_markText.l0]
    rw [if_neg (by omega), if_pos (by omega)]
  | succ d ih =>
    intro n x hn hnb hx
    by_cases h0 : n = 0
    · subst h0
      refine ⟨(⟨#[109]⟩ : ByteArray) ++ x, fun k hk => ?_⟩
      obtain ⟨k, rfl⟩ : ∃ m, k = m + 1 := ⟨k - 1, by omega⟩
      simp only [laws_markText.l0]
      rw [if_neg (by omega), if_pos (by omega)]
    · have hsz : ∀ c : Int, (strOfNums [c]).size = 1 := fun c => rfl
      obtain ⟨t, ht⟩ := ih (n / 10) (strOfNums [wrap64 (48 + Int.tmod (n : Int) 10) % 256] ++ x) (by rw [Nat.pow_succ] at hn; omega) (by omega) (by rw [ByteArray.size_append, hsz]; omega)
      refine ⟨t, fun k hk => ?_⟩
      obtain ⟨k, rfl⟩ : ∃ m, k = m + 1 := ⟨k - 1, by omega⟩
      simp only [laws_markText.l0]
      have hd : Int.tdiv (n : Int) 10 = ((n / 10 : Nat) : Int) := by rw [Int.tdiv_eq_ediv_of_nonneg (by omega)]; omega
      rw [if_pos (by omega), Option.bind_some, if_pos (by rw [hsz]; omega), hd]
      rw [w64 (by omega) (by omega)]
      exact ht k (by omega)
theorem mT_ev (n : Nat) (hn : n ≤ 1000000000) (k : Nat) (hk : 100 ≤ k) : laws_markText.f k (n : Int) = some (mT n) := by
  by_cases h0 : n = 0
  · subst h0
    unfold mT laws_markText.f
    rfl
  · obtain ⟨t, ht⟩ := markText_l 10 n ⟨#[]⟩ (by omega) (by omega) (by show 0 + 10 ≤ 1000; omega)
    have e : ∀ k, 100 ≤ k → laws_markText.f k (n : Int) = some t := by
      intro k hk
      unfold laws_markText.f
      rw [if_neg (by omega)]
      exact ht k (by omega)
    unfold mT
    rw [e k hk, e 100 (Nat.le_refl _)]
    rfl

/-! schemas read: marks, and the law -/
def mkR (s i : Nat) : S38 := ⟨mT (s + 2 * i), mT (s + 2 * i + 1)⟩
theorem rd38q {l : List S38} {i : Nat} {v : S38} (h : l[i]? = some v) : rd_T38 l (i : Int) = v := by
  unfold rd_T38
  rw [Int.toNat_natCast, List.getD_eq_getElem?_getD, h]; rfl
theorem markRule_l (s m : Nat) (hs : s ≤ 1000) (hm : m ≤ 1000) : ∀ (d i : Nat) (x : List S38), i + d = m → x.length = m → (∀ j, j < i → x[j]? = some (mkR s j)) → ∃ y : List S38, y.length = m ∧ (∀ j, j < m → y[j]? = some (mkR s j)) ∧ ∀ k, 200 + d ≤ k → laws_markRuleS.l0 k x ((s + 2 * i : Nat) : Int) (i : Int) = some (((s + 2 * m : Nat) : Int), y) := by
  intro d
  induction d with
  | zero =>
    intro i x hi hx hp
    refine ⟨x, hx, fun j hj => hp j (by omega), fun k hk => ?_⟩
    obtain ⟨k, rfl⟩ : ∃ m, k = m + 1 := ⟨k - 1, by omega⟩
    simp only [laws_markRuleS.l0]
    rw [if_neg (by omega), show i = m by omega]
  | succ d ih =>
    intro i x hi hx hp
    have hil : i < x.length := by omega
    obtain ⟨y, h1, h2, h3⟩ := ih (i + 1) (x.set i (mkR s i)) (by omega) (by rw [List.length_set]; exact hx) (fun j hj => by
      rw [List.getElem?_set]
      by_cases e : i = j
      · subst e; rw [if_pos rfl, if_pos hil]
      · rw [if_neg e]; exact hp j (by omega))
    refine ⟨y, h1, h2, fun k hk => ?_⟩
    obtain ⟨k, rfl⟩ : ∃ m, k = m + 1 := ⟨k - 1, by omega⟩
    simp only [laws_markRuleS.l0]
    have e1 := mT_ev (s + 2 * i) (by omega) k (by omega)
    have e2 := mT_ev (s + 2 * i + 1) (by omega) k (by omega)
    have w1 : wrap64 (((s + 2 * i : Nat) : Int) + 1) = ((s + 2 * i + 1 : Nat) : Int) := by rw [w64 (by omega) (by omega)]; omega
    have w2 : wrap64 (((s + 2 * i + 1 : Nat) : Int) + 1) = ((s + 2 * (i + 1) : Nat) : Int) := by rw [w64 (by omega) (by omega)]; omega
    have w3 : wrap64 ((i : Int) + 1) = ((i + 1 : Nat) : Int) := by rw [w64 (by omega) (by omega)]; omega
    rw [if_pos (by omega), e1, Option.bind_some, if_pos (by omega), Option.bind_some, w1, e2, Option.bind_some, w2, w3, Int.toNat_natCast]
    have e3 : rd_T38 (x.set i (⟨mT (s + 2 * i), (rd_T38 x (i : Int)).f1⟩ : S38)) (i : Int) = ⟨mT (s + 2 * i), (rd_T38 x (i : Int)).f1⟩ := rd38q (by rw [List.getElem?_set, if_pos rfl, if_pos hil])
    rw [e3, List.set_set]
    exact h3 k (by omega)
theorem heldRule_l (s m : Nat) (hs : s ≤ 1000) (hm : m ≤ 1000) (y : List S38) (hy : y.length = m) (hp : ∀ j, j < m → y[j]? = some (mkR s j)) : ∀ (d i : Nat), i + d = m → ∀ k, 200 + d ≤ k → laws_heldRuleS.l0 k y ((s + 2 * i : Nat) : Int) (i : Int) = some ((s + 2 * m : Nat) : Int) := by
  intro d
  induction d with
  | zero =>
    intro i hi k hk
    obtain ⟨k, rfl⟩ : ∃ m, k = m + 1 := ⟨k - 1, by omega⟩
    simp only [laws_heldRuleS.l0]
    rw [if_neg (by omega), show i = m by omega]
  | succ d ih =>
    intro i hi k hk
    obtain ⟨k, rfl⟩ : ∃ m, k = m + 1 := ⟨k - 1, by omega⟩
    simp only [laws_heldRuleS.l0]
    have e1 := mT_ev (s + 2 * i) (by omega) k (by omega)
    have e2 := mT_ev (s + 2 * i + 1) (by omega) k (by omega)
    have w1 : wrap64 (((s + 2 * i : Nat) : Int) + 1) = ((s + 2 * i + 1 : Nat) : Int) := by rw [w64 (by omega) (by omega)]; omega
    have w2 : wrap64 (((s + 2 * i + 1 : Nat) : Int) + 1) = ((s + 2 * (i + 1) : Nat) : Int) := by rw [w64 (by omega) (by omega)]; omega
    have w3 : wrap64 ((i : Int) + 1) = ((i + 1 : Nat) : Int) := by rw [w64 (by omega) (by omega)]; omega
    rw [if_pos (by omega), if_pos (by omega), e1, Option.bind_some, rd38q (hp i (by omega)), if_pos (show (mkR s i).f0.toList = (mT (s + 2 * i)).toList from rfl), w1, e2, Option.bind_some, if_pos (show (mkR s i).f1.toList = (mT (s + 2 * i + 1)).toList from rfl), w2, w3]
    exact ih (i + 1) (by omega) k (by omega)
theorem FnExactReadSchema : laws_FnExactReadSchema.Pure := by
  intro a0 hG
  by_cases hl : (a0.size : Int) > 1048576
  · exact ⟨0, by unfold laws_FnExactReadSchema.f; rw [if_pos hl]⟩
  obtain ⟨r, K, hr, hK⟩ := read_l a0.size [] a0 (Nat.le_refl _) (by omega) (Nat.zero_le _) (fun x hx => by cases hx)
  obtain ⟨y, y1, y2, y3⟩ := markRule_l 1 r.1.length (by omega) (by omega) r.1.length 0 r.1 (by omega) rfl (fun j hj => by omega)
  have hh := heldRule_l 1 r.1.length (by omega) (by omega) y y1 y2 r.1.length 0 (by omega)
  refine ⟨K + r.1.length + 300, ?_⟩
  unfold laws_FnExactReadSchema.f spec_ReadSchema.f impl_ReadSchema.f
  rw [if_neg hl, (hK _ (by omega)).1, Option.bind_some, (hK _ (by omega)).2, Option.bind_some, eqRuleS_self _ (by omega) _ (by omega), Option.bind_some, if_pos rfl, bne_self_eq_false, show K + r.1.length + 300 = (K + r.1.length + 298) + 1 + 1 from rfl]
  simp only [laws_FnExactReadSchema.j0]
  unfold laws_markRuleS.f laws_heldRuleS.f impl_ReadSchema.f
  have m1 : laws_markRuleS.l0 (K + r.1.length + 298 + 1) r.1 1 0 = some (((1 + 2 * r.1.length : Nat) : Int), y) := y3 _ (by omega)
  have m2 : laws_heldRuleS.l0 (K + r.1.length + 298 + 1) y 1 0 = some ((1 + 2 * r.1.length : Nat) : Int) := hh _ (by omega)
  have m3 : laws_heldRuleS.l0 (K + r.1.length + 298) y 1 0 = some ((1 + 2 * r.1.length : Nat) : Int) := hh _ (by omega)
  rw [if_neg (by simp), m1, Option.bind_some]
  show ((laws_heldRuleS.l0 (K + r.1.length + 298 + 1) y 1 0).bind _) = _
  rw [m2, Option.bind_some, if_neg (by omega), if_pos rfl, (hK _ (by omega)).2, Option.bind_some, eqRuleS_self _ (by omega) _ (by omega), Option.bind_some, if_pos rfl, bne_self_eq_false]
  simp only [laws_FnExactReadSchema.j1]
  unfold laws_heldRuleS.f
  rw [if_neg (by simp)]
  show ((laws_heldRuleS.l0 (K + r.1.length + 298) y 1 0).bind _) = _
  rw [m3, Option.bind_some, if_neg (by omega), if_pos rfl]

end Go.Proofs.Ytihjaagamihhkaa.Pure
