/- SchemaText of the program answers as the reference, for all rows of rules. -/
import Derived.Test.YtihjaagamihhkaaAFnExactSchemaTextx8
set_option linter.unusedVariables false
set_option linter.unusedSimpArgs false
namespace Go.Proofs.Ytihjaagamihhkaa.Pure
open Go.RowKit Go.Proofs.Ytihjaagamihhkaa.AFnExactSchemaText Go.Proofs.YtihjaagamihhkaaW.PrintWords Go.Proofs.YtihjaagamihhkaaW.PrintLast Go.Proofs.YtihjaagamihhkaaW.PrintMore

theorem w64 {i : Int} (h0 : -4611686018427387904 ≤ i) (h : i ≤ 4611686018427387904) : wrap64 i = i := by
  unfold wrap64; omega

def nmB (c : Int) : Bool := decide (65 ≤ c) && decide (c ≤ 70)
def plB (c : Int) : Bool := (decide (97 ≤ c) && decide (c ≤ 122)) || ((decide (48 ≤ c) && decide (c ≤ 57)) || (decide (c = 32) || (decide (c = 46) || decide (c = 44))))
def okB (c : Int) : Bool := nmB c || (plB c || decide (c = 47))
def okN (s : ByteArray) : Nat → Nat → Bool
  | 0, _ => true
  | d + 1, i => okB (bt s i) && okN s d (i + 1)
def textB (s : ByteArray) : Bool := okN s s.size 0 && decide (s.size ≤ 300)

theorem textB_size {s : ByteArray} (h : textB s = true) : s.size ≤ 300 := by
  unfold textB at h; simp at h; exact h.2

theorem toList_data (s : ByteArray) : s.toList = s.data.toList := by
  have h : ∀ (n i : Nat) (r : List UInt8), s.size - i = n → ByteArray.toList.loop s i r = r.reverse ++ s.data.toList.drop i := by
    intro n
    induction n with
    | zero =>
      intro i r h
      unfold ByteArray.toList.loop
      rw [if_neg (by omega), List.drop_of_length_le (by rw [Array.length_toList]; show s.size ≤ i; omega)]; simp
    | succ n ih =>
      intro i r h
      have hi : i < s.size := by omega
      unfold ByteArray.toList.loop
      have e2 : s.data.toList.drop i = s.data.toList[i]'(by rw [Array.length_toList]; exact hi) :: s.data.toList.drop (i + 1) := List.drop_eq_getElem_cons (by rw [Array.length_toList]; exact hi)
      have e : s.get! i = s.data.toList[i]'(by rw [Array.length_toList]; exact hi) := by
        show s.data[i]! = _
        rw [getElem!_pos s.data i hi]; simp
      rw [if_pos hi, ih (i + 1) _ (by omega), e2, e, List.reverse_cons, List.append_assoc]; rfl
  unfold ByteArray.toList
  rw [h s.size 0 [] (by omega)]; simp
theorem bt_data (s : ByteArray) (i : Nat) (h : i < s.size) : bt s (i : Int) = ((s.data.toList[i]'(by rw [Array.length_toList]; exact h)).toNat : Int) := by
  unfold bt
  rw [dif_pos (by omega)]
  simp [ByteArray.getElem_eq_getElem_data]
theorem toList_eq_iff (a b : ByteArray) : a.toList = b.toList ↔ a.size = b.size ∧ ∀ j : Nat, j < a.size → bt a (j : Int) = bt b (j : Int) := by
  rw [toList_data, toList_data]
  constructor
  · intro h
    have hl : a.size = b.size := by
      have := congrArg List.length h
      rw [Array.length_toList, Array.length_toList] at this; exact this
    refine ⟨hl, fun j hj => ?_⟩
    rw [bt_data a j hj, bt_data b j (by omega)]
    simp only [h]
  · intro ⟨hl, h⟩
    apply List.ext_getElem
    · rw [Array.length_toList, Array.length_toList]; exact hl
    · intro j h1 h2
      rw [Array.length_toList] at h1 h2
      have := h j h1
      rw [bt_data a j h1, bt_data b j h2] at this
      have h3 : (a.data.toList[j]'(by rw [Array.length_toList]; exact h1)).toNat = (b.data.toList[j]'(by rw [Array.length_toList]; exact h2)).toNat := by omega
      exact UInt8.toNat_inj.mp h3
theorem bt_extract (s : ByteArray) (i j n : Nat) (hj : j ≤ s.size) (hn : i + n < j) : bt (s.extract i j) (n : Int) = bt s ((i + n : Nat) : Int) := by
  have h1 : n < (s.extract i j).size := by rw [ByteArray.size_extract]; omega
  unfold bt
  rw [dif_pos (by simpa using h1), dif_pos (by omega)]
  simp only [Int.toNat_natCast, ByteArray.getElem_extract]

/-! expressions: both readers answer alike -/
theorem tl_emp {s : ByteArray} : s.toList = [] ↔ s.size = 0 := by
  rw [toList_data]
  exact List.length_eq_zero_iff.symm
theorem iN_at (s : ByteArray) (a : Nat) (h : a ≤ s.size) : iN (s.extract a s.size) = sN s (a : Int) := by
  unfold iN sN
  have hz : (s.extract a s.size).size = s.size - a := by rw [ByteArray.size_extract]; omega
  by_cases c : a < s.size
  · rw [if_neg (fun e => by have := tl_emp.1 e; omega), if_pos (by omega)]
    exact bt_extract s a s.size 0 (Nat.le_refl _) (by omega)
  · rw [if_pos (tl_emp.2 (by omega)), if_neg (by omega)]
theorem ex_ex (s : ByteArray) (a : Nat) : (s.extract a s.size).extract 1 (s.extract a s.size).size = s.extract (a + 1) s.size := by
  have hz : (s.extract a s.size).size = s.size - a := by rw [ByteArray.size_extract]; omega
  rw [hz, ByteArray.extract_extract]
  congr 1
  omega
theorem sN_lt {s : ByteArray} {a : Nat} (h : sN s (a : Int) ≠ 0) : a < s.size := by
  unfold sN at h
  by_cases c : (a : Int) < (s.size : Int)
  · omega
  · rw [if_neg c] at h; exact absurd rfl h
theorem suf_ne {c : Int} (h : sufB c = true) : c ≠ 0 := by rintro rfl; exact absurd h (by decide)
theorem suf_both {s : ByteArray} (hs : s.size ≤ 1000000000) : ∀ (d a : Nat), a + d = s.size → ∃ a2, a ≤ a2 ∧ a2 ≤ s.size ∧ ∀ k, d < k → iSuf k (s.extract a s.size) = some (s.extract a2 s.size) ∧ sSuf k s (a : Int) false = some (a2 : Int) := by
  intro d
  induction d with
  | zero =>
    intro a h
    refine ⟨a, Nat.le_refl _, by omega, fun k hk => ?_⟩
    obtain ⟨k, rfl⟩ : ∃ m, k = m + 1 := ⟨k - 1, by omega⟩
    have hn : sN s (a : Int) = 0 := by unfold sN; rw [if_neg (by omega)]
    simp only [iSuf, sSuf]
    rw [iN_at s a (by omega), hn, if_neg (by decide), if_neg (by simp), if_pos (by omega), if_neg (by decide)]
    exact ⟨rfl, rfl⟩
  | succ d ih =>
    intro a h
    by_cases c : sufB (sN s (a : Int)) = true
    · obtain ⟨a2, h1, h2, h3⟩ := ih (a + 1) (by omega)
      refine ⟨a2, by omega, h2, fun k hk => ?_⟩
      obtain ⟨k, rfl⟩ : ∃ m, k = m + 1 := ⟨k - 1, by omega⟩
      simp only [iSuf, sSuf]
      rw [iN_at s a (by omega), if_pos c, if_neg (by simp), if_pos (by omega), if_pos c, ex_ex, w64 (by omega) (by omega), show (a : Int) + 1 = ((a + 1 : Nat) : Int) from by omega]
      exact h3 k (by omega)
    · refine ⟨a, Nat.le_refl _, by omega, fun k hk => ?_⟩
      obtain ⟨k, rfl⟩ : ∃ m, k = m + 1 := ⟨k - 1, by omega⟩
      simp only [iSuf, sSuf]
      rw [iN_at s a (by omega), if_neg c, if_neg (by simp), if_pos (by omega), if_neg c]
      exact ⟨rfl, rfl⟩
theorem sSuf_bad (k : Nat) (hk : 0 < k) (s : ByteArray) (a : Int) : sSuf k s a true = some a := by
  obtain ⟨k, rfl⟩ : ∃ m, k = m + 1 := ⟨k - 1, by omega⟩
  simp only [sSuf]
  rw [if_pos trivial]
theorem sRow_bad (k : Nat) (hk : 0 < k) (s : ByteArray) (a d : Int) (m : Nat) : sRow k s a true d m = some (a, true, d) := by
  obtain ⟨k, rfl⟩ : ∃ m, k = m + 1 := ⟨k - 1, by omega⟩
  simp only [sRow]
  rw [if_neg (by simp), Bool.true_or]
theorem sRows_bad (k : Nat) (hk : 0 < k) (s : ByteArray) (a d : Int) (m : Nat) : sRows k s a true d m = some (a, true, d) := by
  obtain ⟨k, rfl⟩ : ∃ m, k = m + 1 := ⟨k - 1, by omega⟩
  simp only [sRows]
  rw [if_neg (by simp)]
/-- A row has ended badly: the program's reader stands at nothing or at a byte of nought, the reference's knows it. -/
def Bad (ok : Bool) (r : ByteArray) : Prop := ok = false ∨ (r.toList ≠ [] ∧ iN r = 0)
abbrev XB (s : ByteArray) (n x : Int) : Prop := 0 ≤ x ∧ x ≤ (s.size : Int) + 40 - n
def POne (s : ByteArray) (a : Nat) (n : Int) : Prop :=
  (∃ (r1 : ByteArray) (a2 K : Nat), a < a2 ∧ a2 ≤ s.size ∧ ∀ k, K ≤ k → iAtom k (s.extract a s.size) n = some (true, r1, n) ∧ iSuf k r1 = some (s.extract a2 s.size) ∧ sOne k s (a : Int) false (n + 1) = some ((a2 : Int), false, n + 1)) ∨
  (∃ (r1 : ByteArray) (n1 x d : Int) (K : Nat), XB s n x ∧ ∀ k, K ≤ k → iAtom k (s.extract a s.size) n = some (false, r1, n1) ∧ sOne k s (a : Int) false (n + 1) = some (x, true, d))
def PRow (s : ByteArray) (a : Nat) (n : Int) (m : Nat) : Prop :=
  (∃ (a2 K : Nat), a ≤ a2 ∧ (m = 0 → a < a2) ∧ a2 ≤ s.size ∧ (a2 < s.size → sN s (a2 : Int) ≠ 0) ∧ ∀ k, K ≤ k → iRow k (s.extract a s.size) n m = some (true, s.extract a2 s.size, n) ∧ sRow k s (a : Int) false (n + 1) m = some ((a2 : Int), false, n + 1)) ∨
  (∃ (ok : Bool) (r1 : ByteArray) (n1 x d : Int) (K : Nat), Bad ok r1 ∧ XB s n x ∧ ∀ k, K ≤ k → iRow k (s.extract a s.size) n m = some (ok, r1, n1) ∧ sRow k s (a : Int) false (n + 1) m = some (x, true, d))
def PPar (s : ByteArray) (a : Nat) (n : Int) (m : Nat) : Prop :=
  (∃ (a2 K : Nat), a < a2 ∧ a2 ≤ s.size ∧ (a2 < s.size → sN s (a2 : Int) ≠ 0) ∧ ∀ k, K ≤ k → iParted k (s.extract a s.size) n m = some (true, s.extract a2 s.size, n) ∧ ((sRow k s (a : Int) false (n + 1) 0).bind fun o => sRows k s o.1 o.2.1 o.2.2 m) = some ((a2 : Int), false, n + 1)) ∨
  (∃ (ok : Bool) (r1 : ByteArray) (n1 x d : Int) (K : Nat), Bad ok r1 ∧ XB s n x ∧ ∀ k, K ≤ k → iParted k (s.extract a s.size) n m = some (ok, r1, n1) ∧ ((sRow k s (a : Int) false (n + 1) 0).bind fun o => sRows k s o.1 o.2.1 o.2.2 m) = some (x, true, d))
theorem one_both {s : ByteArray} (hs : s.size ≤ 1000000000) (a : Nat) (ha : a < s.size) (n : Int) (h0 : 0 ≤ n) (h1 : n ≤ 19) (ih : ∀ n' : Int, 0 ≤ n' → n' ≤ 19 → PPar s (a + 1) n' 0) : POne s a n := by
  have hN := iN_at s a (by omega)
  by_cases c1 : (symB (sN s (a : Int)) || (decide (sN s (a : Int) = 46) || (decide (sN s (a : Int) = 45) || decide (sN s (a : Int) = 33)))) = true
  · obtain ⟨a2, g1, g2, g3⟩ := suf_both hs (s.size - (a + 1)) (a + 1) (by omega)
    refine .inl ⟨s.extract (a + 1) s.size, a2, s.size + 2, by omega, g2, fun k hk => ?_⟩
    have g := g3 k (by omega)
    refine ⟨?_, g.1, ?_⟩
    · obtain ⟨k, rfl⟩ : ∃ m, k = m + 1 := ⟨k - 1, by omega⟩
      simp only [iAtom]
      rw [hN, if_pos c1, ex_ex]
    · obtain ⟨k, rfl⟩ : ∃ m, k = m + 1 := ⟨k - 1, by omega⟩
      have g := g3 k (by omega)
      simp only [sOne]
      rw [if_pos (by omega), if_pos c1, w64 (by omega) (by omega), show (a : Int) + 1 = ((a + 1 : Nat) : Int) from by omega, g.2, Option.bind_some]
  by_cases c2 : sN s (a : Int) = 40
  · by_cases c3 : n = 19
    · subst c3
      refine .inr ⟨s.extract a s.size, 19, ((a + 1 : Nat) : Int) + 1, wrap64 (19 + 1 + 1 - 1), 3, ⟨by omega, by omega⟩, fun k hk => ⟨?_, ?_⟩⟩
      · obtain ⟨k, rfl⟩ : ∃ m, k = m + 1 := ⟨k - 1, by omega⟩
        simp only [iAtom]
        rw [hN, if_neg c1, if_neg (fun h => h c2), if_pos trivial]
      · obtain ⟨k, rfl⟩ : ∃ m, k = m + 2 := ⟨k - 2, by omega⟩
        simp only [sOne]
        rw [if_pos (show (0 : Int) ≤ (a : Int) by omega), if_neg c1, if_pos c2, w64 (i := (a : Int) + 1) (by omega) (by omega)]
        simp only [sEither]
        rw [w64 (i := 19 + 1 + 1) (by omega) (by omega), show (false || decide ((19 : Int) + 1 + 1 > 20)) = true from rfl, sRow_bad k (by omega), Option.bind_some]
        show ((sRows k s _ true _ 0).bind _).bind _ = _
        rw [sRows_bad k (by omega), Option.bind_some, Option.bind_some]
        show (if 0 ≤ (a : Int) + 1 then ((sSuf (k + 1) s (wrap64 ((a : Int) + 1 + 1)) true).bind _) else none) = _
        rw [if_pos (by omega), sSuf_bad (k + 1) (by omega), Option.bind_some, w64 (by omega) (by omega), show ((a + 1 : Nat) : Int) + 1 = (a : Int) + 1 + 1 from by omega]
        rfl
    · have hI : ∀ k, iAtom (k + 1) (s.extract a s.size) n = (iParted k (s.extract (a + 1) s.size) (n + 1) 0).bind fun o => if o.1 = false then some o else if iN o.2.1 ≠ 41 then some (false, o.2.1, o.2.2) else some (true, o.2.1.extract 1 o.2.1.size, wrap64 (o.2.2 - 1)) := fun k => by
        simp only [iAtom]
        rw [hN, if_neg c1, if_neg (fun h => h c2), if_neg c3, ex_ex, w64 (by omega) (by omega)]
      have hE : ∀ k, sOne (k + 2) s (a : Int) false (n + 1) = (((sRow k s ((a + 1 : Nat) : Int) false (n + 1 + 1) 0).bind fun o => sRows k s o.1 o.2.1 o.2.2 0).bind fun q => some (q.1, q.2.1, wrap64 (q.2.2 - 1))).bind fun o => if 0 ≤ o.1 then ((sSuf (k + 1) s (wrap64 (o.1 + 1)) (o.2.1 || decide (sN s o.1 ≠ 41))).bind fun x => some (x, o.2.1 || decide (sN s o.1 ≠ 41), o.2.2)) else none := fun k => by
        simp only [sOne]
        rw [if_pos (show (0 : Int) ≤ (a : Int) by omega), if_neg c1, if_pos c2, w64 (i := (a : Int) + 1) (by omega) (by omega)]
        simp only [sEither]
        rw [w64 (i := n + 1 + 1) (by omega) (by omega), decide_eq_false (by omega), Bool.or_self, show (a : Int) + 1 = ((a + 1 : Nat) : Int) from by omega]
        simp only [Option.bind_assoc]
      rcases ih (n + 1) (by omega) (by omega) with ⟨a2, K, p1, p2, p3, p4⟩ | ⟨ok, r1, n1, x, d, K, p1, ⟨hx0, hx1⟩, p2⟩
      · have hN2 := iN_at s a2 p2
        by_cases c4 : sN s (a2 : Int) = 41
        · have hlt : a2 < s.size := sN_lt (by rw [c4]; decide)
          obtain ⟨a3, g1, g2, g3⟩ := suf_both hs (s.size - (a2 + 1)) (a2 + 1) (by omega)
          refine .inl ⟨s.extract (a2 + 1) s.size, a3, K + s.size + 3, by omega, g2, fun k hk => ⟨?_, (g3 k (by omega)).1, ?_⟩⟩
          · obtain ⟨k, rfl⟩ : ∃ m, k = m + 1 := ⟨k - 1, by omega⟩
            rw [hI, (p4 k (by omega)).1, Option.bind_some, if_neg (by simp), if_neg (fun h => h (hN2.trans c4)), ex_ex, show n + 1 - 1 = n from by omega, w64 (by omega) (by omega)]
          · obtain ⟨k, rfl⟩ : ∃ m, k = m + 2 := ⟨k - 2, by omega⟩
            rw [hE, (p4 k (by omega)).2, Option.bind_some, Option.bind_some]
            show (if 0 ≤ (a2 : Int) then ((sSuf (k + 1) s (wrap64 ((a2 : Int) + 1)) (false || decide (sN s (a2 : Int) ≠ 41))).bind _) else none) = _
            rw [if_pos (by omega), c4, show (false || decide ((41 : Int) ≠ 41)) = false from rfl, w64 (i := (a2 : Int) + 1) (by omega) (by omega), show (a2 : Int) + 1 = ((a2 + 1 : Nat) : Int) from by omega, (g3 (k + 1) (by omega)).2, Option.bind_some, w64 (i := n + 1 + 1 - 1) (by omega) (by omega), show n + 1 + 1 - 1 = n + 1 from by omega]
        · refine .inr ⟨s.extract a2 s.size, n + 1, (a2 : Int) + 1, n + 1, K + 3, ⟨by omega, by omega⟩, fun k hk => ⟨?_, ?_⟩⟩
          rotate_left
          · obtain ⟨k, rfl⟩ : ∃ m, k = m + 2 := ⟨k - 2, by omega⟩
            rw [hE, (p4 k (by omega)).2, Option.bind_some, Option.bind_some]
            show (if 0 ≤ (a2 : Int) then ((sSuf (k + 1) s (wrap64 ((a2 : Int) + 1)) (false || decide (sN s (a2 : Int) ≠ 41))).bind _) else none) = _
            rw [if_pos (by omega), decide_eq_true c4, Bool.or_true, sSuf_bad (k + 1) (by omega), Option.bind_some, w64 (i := (a2 : Int) + 1) (by omega) (by omega), w64 (i := n + 1 + 1 - 1) (by omega) (by omega), show n + 1 + 1 - 1 = n + 1 from by omega]
          · obtain ⟨k, rfl⟩ : ∃ m, k = m + 1 := ⟨k - 1, by omega⟩
            rw [hI, (p4 k (by omega)).1, Option.bind_some, if_neg (by simp), if_pos (fun h => c4 (hN2.symm.trans h))]
      · have hb : ∃ x' d', XB s n x' ∧ ∀ k, K + 3 ≤ k → sOne k s (a : Int) false (n + 1) = some (x', true, d') := by
          refine ⟨wrap64 (x + 1), wrap64 (d - 1), by rw [w64 (by omega) (by omega)]; exact ⟨by omega, by omega⟩, fun k hk => ?_⟩
          obtain ⟨k, rfl⟩ : ∃ m, k = m + 2 := ⟨k - 2, by omega⟩
          rw [hE, (p2 k (by omega)).2, Option.bind_some, Option.bind_some]
          show (if 0 ≤ x then ((sSuf (k + 1) s (wrap64 (x + 1)) (true || _)).bind _) else none) = _
          rw [if_pos hx0, Bool.true_or, sSuf_bad (k + 1) (by omega), Option.bind_some]
        obtain ⟨x', d', hxb, hb⟩ := hb
        cases ok with
        | false =>
          refine .inr ⟨r1, n1, x', d', K + 3, hxb, fun k hk => ⟨?_, hb k hk⟩⟩
          obtain ⟨k, rfl⟩ : ∃ m, k = m + 1 := ⟨k - 1, by omega⟩
          rw [hI, (p2 k (by omega)).1, Option.bind_some, if_pos rfl]
        | true =>
          refine .inr ⟨r1, n1, x', d', K + 3, hxb, fun k hk => ⟨?_, hb k hk⟩⟩
          obtain ⟨k, rfl⟩ : ∃ m, k = m + 1 := ⟨k - 1, by omega⟩
          have h0 : iN r1 = 0 := by
            rcases p1 with p1 | p1
            · cases p1
            · exact p1.2
          rw [hI, (p2 k (by omega)).1, Option.bind_some, if_neg (by simp), if_pos (by show iN r1 ≠ 41; rw [h0]; decide)]
  · refine .inr ⟨s.extract a s.size, n, (a : Int) + 1, n + 1, 1, ⟨by omega, by omega⟩, fun k hk => ?_⟩
    obtain ⟨k, rfl⟩ : ∃ m, k = m + 1 := ⟨k - 1, by omega⟩
    constructor
    · simp only [iAtom]
      rw [hN, if_neg c1, if_pos c2]
    · simp only [sOne]
      rw [if_pos (show (0 : Int) ≤ (a : Int) by omega), if_neg c1, if_neg c2, w64 (by omega) (by omega)]
theorem row_both {s : ByteArray} (hs : s.size ≤ 1000000000) : ∀ (e a : Nat), a + e = s.size → (∀ a' (n' : Int), a < a' → a' ≤ s.size → 0 ≤ n' → n' ≤ 19 → PPar s a' n' 0) → ∀ (n : Int) (m : Nat), 0 ≤ n → n ≤ 19 → m + e ≤ 1000000000 → PRow s a n m := by
  intro e
  induction e using Nat.strongRecOn with
  | ind e ihe =>
    intro a hae ihP n m h0 h1 hm
    have hN := iN_at s a (by omega)
    by_cases c0 : sN s (a : Int) = 0
    · -- the program's reader stops here
      have hI : ∀ k, 0 < k → iRow k (s.extract a s.size) n m = some (decide (m ≠ 0), s.extract a s.size, n) := fun k hk => by
        obtain ⟨k, rfl⟩ : ∃ m, k = m + 1 := ⟨k - 1, by omega⟩
        simp only [iRow]
        rw [hN, if_neg (fun h => h.1 c0)]
      by_cases ca : a < s.size
      · refine .inr ⟨decide (m ≠ 0), s.extract a s.size, n, (a : Int) + 1, n + 1, 3, .inr ⟨fun h => ?_, hN.trans c0⟩, ⟨by omega, by omega⟩, fun k hk => ⟨hI k (by omega), ?_⟩⟩
        · have := tl_emp.1 h
          rw [ByteArray.size_extract] at this
          omega
        · obtain ⟨k, rfl⟩ : ∃ m, k = m + 2 := ⟨k - 2, by omega⟩
          simp only [sRow]
          rw [if_pos ⟨trivial, by omega⟩, if_pos (show (0 : Int) ≤ (a : Int) by omega), if_pos ⟨by rw [c0]; decide, by rw [c0]; decide⟩]
          simp only [sOne]
          rw [if_pos (show (0 : Int) ≤ (a : Int) by omega), c0, if_neg (by decide), if_neg (by decide), Option.bind_some]
          rw [if_pos (by omega)]
          show sRow (k + 1) s (wrap64 ((a : Int) + 1)) true (n + 1) (m + 1) = _
          rw [sRow_bad (k + 1) (by omega), w64 (by omega) (by omega)]
      · by_cases cm : m = 0
        · refine .inr ⟨false, s.extract a s.size, n, (a : Int), n + 1, 1, .inl rfl, ⟨by omega, by omega⟩, fun k hk => ⟨by rw [hI k (by omega), cm]; rfl, ?_⟩⟩
          obtain ⟨k, rfl⟩ : ∃ m, k = m + 1 := ⟨k - 1, by omega⟩
          simp only [sRow]
          rw [if_neg (fun h => ca (by have := h.2; omega)), cm]
          rfl
        · refine .inl ⟨a, 1, Nat.le_refl _, fun h => absurd h cm, by omega, fun h => absurd h ca, fun k hk => ⟨by rw [hI k (by omega), decide_eq_true cm], ?_⟩⟩
          obtain ⟨k, rfl⟩ : ∃ m, k = m + 1 := ⟨k - 1, by omega⟩
          simp only [sRow]
          rw [if_neg (fun h => ca (by have := h.2; omega)), decide_eq_false cm]
          rfl
    · have ca := sN_lt c0
      by_cases c1 : sN s (a : Int) ≠ 124 ∧ sN s (a : Int) ≠ 41
      · have hI : ∀ k, iRow (k + 1) (s.extract a s.size) n m = (iAtom k (s.extract a s.size) n).bind fun o => if o.1 = false then some o else (iSuf k o.2.1).bind fun r => if m < 1000000000000 then iRow k r o.2.2 (m + 1) else none := fun k => by
          simp only [iRow]
          rw [hN, if_pos ⟨c0, c1.1, c1.2⟩]
        have hS : ∀ k, sRow (k + 1) s (a : Int) false (n + 1) m = (sOne k s (a : Int) false (n + 1)).bind fun o => if m < 1000000000000 then sRow k s o.1 o.2.1 o.2.2 (m + 1) else none := fun k => by
          simp only [sRow]
          rw [if_pos ⟨trivial, by omega⟩, if_pos (show (0 : Int) ≤ (a : Int) by omega), if_pos ⟨c1.1, c1.2⟩]
        rcases one_both hs a ca n h0 h1 (fun n' q0 q1 => ihP (a + 1) n' (by omega) (by omega) q0 q1) with ⟨r1, a2, K, p1, p2, p3⟩ | ⟨r1, n1, x, d, K, hxb, p1⟩
        · rcases ihe (s.size - a2) (by omega) a2 (by omega) (fun a' n' q => ihP a' n' (by omega)) n (m + 1) h0 h1 (by omega) with ⟨a3, K2, g1, g2, g3, g4, g5⟩ | ⟨ok, r2, n2, x, d, K2, g1, hxb, g2⟩
          · refine .inl ⟨a3, K + K2 + 1, by omega, fun _ => by omega, g3, g4, fun k hk => ?_⟩
            obtain ⟨k, rfl⟩ : ∃ m, k = m + 1 := ⟨k - 1, by omega⟩
            have p := p3 k (by omega)
            rw [hI, hS, p.1, p.2.2, Option.bind_some, if_neg (by simp), Option.bind_some, p.2.1, Option.bind_some, if_pos (by omega), if_pos (by omega)]
            exact g5 k (by omega)
          · refine .inr ⟨ok, r2, n2, x, d, K + K2 + 1, g1, hxb, fun k hk => ?_⟩
            obtain ⟨k, rfl⟩ : ∃ m, k = m + 1 := ⟨k - 1, by omega⟩
            have p := p3 k (by omega)
            rw [hI, hS, p.1, p.2.2, Option.bind_some, if_neg (by simp), Option.bind_some, p.2.1, Option.bind_some, if_pos (by omega), if_pos (by omega)]
            exact g2 k (by omega)
        · refine .inr ⟨false, r1, n1, x, d, K + 2, .inl rfl, hxb, fun k hk => ?_⟩
          obtain ⟨k, rfl⟩ : ∃ m, k = m + 1 := ⟨k - 1, by omega⟩
          have p := p1 k (by omega)
          rw [hI, hS, p.1, p.2, Option.bind_some, if_pos rfl, Option.bind_some, if_pos (by omega)]
          exact ⟨rfl, sRow_bad k (by omega) s x d (m + 1)⟩
      · have hI : ∀ k, 0 < k → iRow k (s.extract a s.size) n m = some (decide (m ≠ 0), s.extract a s.size, n) := fun k hk => by
          obtain ⟨k, rfl⟩ : ∃ m, k = m + 1 := ⟨k - 1, by omega⟩
          simp only [iRow]
          rw [hN, if_neg (fun h => c1 h.2)]
        have hS : ∀ k, 0 < k → sRow k s (a : Int) false (n + 1) m = some ((a : Int), false || decide (m = 0), n + 1) := fun k hk => by
          obtain ⟨k, rfl⟩ : ∃ m, k = m + 1 := ⟨k - 1, by omega⟩
          simp only [sRow]
          rw [if_pos ⟨trivial, by omega⟩, if_pos (show (0 : Int) ≤ (a : Int) by omega), if_neg c1]
        by_cases cm : m = 0
        · exact .inr ⟨false, s.extract a s.size, n, (a : Int), n + 1, 1, .inl rfl, ⟨by omega, by omega⟩, fun k hk => ⟨by rw [hI k (by omega), cm]; rfl, by rw [hS k (by omega), cm]; rfl⟩⟩
        · exact .inl ⟨a, 1, Nat.le_refl _, fun h => absurd h cm, by omega, fun _ => c0, fun k hk => ⟨by rw [hI k (by omega), decide_eq_true cm], by rw [hS k (by omega), decide_eq_false cm]; rfl⟩⟩
theorem par_both {s : ByteArray} (hs : s.size ≤ 1000000000) : ∀ (e a : Nat), a + e = s.size → ∀ (n : Int) (m : Nat), 0 ≤ n → n ≤ 19 → m + e ≤ 1000000000 → PPar s a n m := by
  intro e
  induction e using Nat.strongRecOn with
  | ind e ihe =>
    intro a hae n m h0 h1 hm
    have hP : ∀ a' (n' : Int), a < a' → a' ≤ s.size → 0 ≤ n' → n' ≤ 19 → PPar s a' n' 0 := fun a' n' q1 q2 q3 q4 => ihe (s.size - a') (by omega) a' (by omega) n' 0 q3 q4 (by omega)
    rcases row_both hs e a hae hP n 0 h0 h1 (by omega) with ⟨a2, K, p1, p2, p3, p4, p5⟩ | ⟨ok, r1, n1, x, d, K, p1, hxb, p2⟩
    · have hN := iN_at s a2 p3
      have hlt := p2 rfl
      by_cases c : sN s (a2 : Int) = 124
      · have ca := sN_lt (s := s) (a := a2) (by rw [c]; decide)
        have hS : ∀ k, K ≤ k → ((sRow (k + 1) s (a : Int) false (n + 1) 0).bind fun o => sRows (k + 1) s o.1 o.2.1 o.2.2 m) = ((sRow k s ((a2 + 1 : Nat) : Int) false (n + 1) 0).bind fun o => sRows k s o.1 o.2.1 o.2.2 (m + 1)) := fun k hk => by
          rw [(p5 (k + 1) (by omega)).2, Option.bind_some]
          simp only [sRows]
          rw [if_pos trivial, if_pos (show (0 : Int) ≤ (a2 : Int) by omega), if_pos c, w64 (by omega) (by omega), show (a2 : Int) + 1 = ((a2 + 1 : Nat) : Int) from by omega]
          simp only [if_pos (show m < 1000000000000 from by omega)]
        have hI : ∀ k, K ≤ k → iParted (k + 1) (s.extract a s.size) n m = iParted k (s.extract (a2 + 1) s.size) n (m + 1) := fun k hk => by
          simp only [iParted]
          rw [(p5 k (by omega)).1, Option.bind_some, if_neg (by simp), if_pos (show m < 1000000000000 by omega), if_pos (hN.trans c), ex_ex]
        rcases ihe (s.size - (a2 + 1)) (by omega) (a2 + 1) (by omega) n (m + 1) h0 h1 (by omega) with ⟨a3, K2, g1, g2, g3, g4⟩ | ⟨ok, r2, n2, x, d, K2, g1, hxb, g2⟩
        · refine .inl ⟨a3, K + K2 + 1, by omega, g2, g3, fun k hk => ?_⟩
          obtain ⟨k, rfl⟩ : ∃ m, k = m + 1 := ⟨k - 1, by omega⟩
          rw [hS k (by omega), hI k (by omega)]
          exact g4 k (by omega)
        · refine .inr ⟨ok, r2, n2, x, d, K + K2 + 1, g1, hxb, fun k hk => ?_⟩
          obtain ⟨k, rfl⟩ : ∃ m, k = m + 1 := ⟨k - 1, by omega⟩
          rw [hS k (by omega), hI k (by omega)]
          exact g2 k (by omega)
      · refine .inl ⟨a2, K + 1, hlt, p3, p4, fun k hk => ?_⟩
        obtain ⟨k, rfl⟩ : ∃ m, k = m + 1 := ⟨k - 1, by omega⟩
        rw [(p5 (k + 1) (by omega)).2, Option.bind_some]
        simp only [iParted, sRows]
        rw [(p5 k (by omega)).1, Option.bind_some, if_neg (by simp), if_pos (show m < 1000000000000 by omega), if_neg (fun h => c (hN.symm.trans h)), if_pos trivial, if_pos (show (0 : Int) ≤ (a2 : Int) by omega), if_neg c]
        exact ⟨rfl, rfl⟩
    · have hS : ∀ k, K ≤ k → 0 < k → ((sRow k s (a : Int) false (n + 1) 0).bind fun o => sRows k s o.1 o.2.1 o.2.2 m) = some (x, true, d) := fun k hk hk0 => by
        rw [(p2 k hk).2, Option.bind_some]
        exact sRows_bad k hk0 s x d m
      cases ok with
      | false =>
        refine .inr ⟨false, r1, n1, x, d, K + 1, .inl rfl, hxb, fun k hk => ⟨?_, hS k (by omega) (by omega)⟩⟩
        obtain ⟨k, rfl⟩ : ∃ m, k = m + 1 := ⟨k - 1, by omega⟩
        simp only [iParted]
        rw [(p2 k (by omega)).1, Option.bind_some, if_pos rfl]
      | true =>
        have hb : r1.toList ≠ [] ∧ iN r1 = 0 := by
          rcases p1 with p1 | p1
          · cases p1
          · exact p1
        refine .inr ⟨true, r1, n1, x, d, K + 1, .inr hb, hxb, fun k hk => ⟨?_, hS k (by omega) (by omega)⟩⟩
        obtain ⟨k, rfl⟩ : ∃ m, k = m + 1 := ⟨k - 1, by omega⟩
        simp only [iParted]
        rw [(p2 k (by omega)).1, Option.bind_some, if_neg (by simp), if_pos (show m < 1000000000000 by omega), if_neg (by rw [hb.2]; decide)]
/-- Both readers at the whole: they answer alike whether it is good. -/
theorem read_both {s : ByteArray} (hs : s.size ≤ 1000000000) : ∃ (ok : Bool) (r : ByteArray) (n x d : Int) (b : Bool) (K : Nat), (∀ k, K ≤ k → iParted k s 0 0 = some (ok, r, n) ∧ sEither k s 0 false 0 = some (x, b, d)) ∧ (ok && decide (r.toList = [])) = (!b && decide (x = (s.size : Int))) := by
  have he : s.extract 0 s.size = s := by simp
  have hE : ∀ k, sEither (k + 1) s 0 false 0 = ((sRow k s ((0 : Nat) : Int) false (0 + 1) 0).bind fun o => sRows k s o.1 o.2.1 o.2.2 0).bind fun q => some (q.1, q.2.1, wrap64 (q.2.2 - 1)) := fun k => by
    simp only [sEither]
    rw [w64 (i := 0 + 1) (by omega) (by omega), show (false || decide ((0 : Int) + 1 > 20)) = false from rfl, Option.bind_assoc]
    rfl
  rcases par_both hs s.size 0 (by omega) 0 0 (by omega) (by omega) (by omega) with ⟨a2, K, p1, p2, p3, p4⟩ | ⟨ok, r1, n1, x, d, K, p1, hxb, p2⟩
  · rw [he] at p4
    refine ⟨true, s.extract a2 s.size, 0, (a2 : Int), 0, false, K + 1, fun k hk => ⟨(p4 k (by omega)).1, ?_⟩, ?_⟩
    · obtain ⟨k, rfl⟩ : ∃ m, k = m + 1 := ⟨k - 1, by omega⟩
      rw [hE, (p4 k (by omega)).2, Option.bind_some, w64 (i := 0 + 1 - 1) (by omega) (by omega)]
      rfl
    · rw [Bool.true_and, Bool.not_false, Bool.true_and]
      have hz : (s.extract a2 s.size).size = s.size - a2 := by rw [ByteArray.size_extract]; omega
      apply decide_eq_decide.2
      rw [tl_emp]
      omega
  · rw [he] at p2
    refine ⟨ok, r1, n1, x, wrap64 (d - 1), true, K + 1, fun k hk => ⟨(p2 k (by omega)).1, ?_⟩, ?_⟩
    · obtain ⟨k, rfl⟩ : ∃ m, k = m + 1 := ⟨k - 1, by omega⟩
      rw [hE, (p2 k (by omega)).2, Option.bind_some]
    · rcases p1 with rfl | ⟨p1, -⟩
      · rfl
      · rw [decide_eq_false p1, Bool.and_false]; rfl

/-! schemas: rows of rules, measured, turned and compared -/
theorem szRule_ev (a b : ByteArray) (z : Int) (h0 : 0 ≤ z) (h1 : z ≤ 1048576) (ha : a.size ≤ 140737488351232) (hb : b.size ≤ 140737488351232) : ∃ r, laws_szRule.f a b z = some r ∧ r ≤ 1048576 ∧ (0 ≤ r → a.size ≤ 1048576 ∧ b.size ≤ 1048576) := by
  unfold laws_szRule.f
  rw [w64 (i := z - (a.size : Int)) (by omega) (by omega)]
  by_cases c : z - (a.size : Int) < 0
  · rw [if_pos c]; exact ⟨-1, rfl, by omega, fun h => by omega⟩
  · rw [if_neg c, w64 (by omega) (by omega)]
    by_cases c2 : z - (a.size : Int) - (b.size : Int) < 0
    · rw [if_pos c2]; exact ⟨-1, rfl, by omega, fun h => by omega⟩
    · rw [if_neg c2]; exact ⟨_, rfl, by omega, fun h => by omega⟩
theorem rd37 (l : List S37) (i : Nat) (h : i < l.length) : rd_T37 l (i : Int) = l[i] := by
  unfold rd_T37
  rw [Int.toNat_natCast, List.getD_eq_getElem?_getD, List.getElem?_eq_getElem h]; rfl
theorem rd38 (l : List S38) (i : Nat) (h : i < l.length) : rd_T38 l (i : Int) = l[i] := by
  unfold rd_T38
  rw [Int.toNat_natCast, List.getD_eq_getElem?_getD, List.getElem?_eq_getElem h]; rfl
theorem szRuleS_l (l : List S37) (hl : l.length ≤ 1000000000) (hg : ∀ x ∈ l, x.f0.size ≤ 140737488351232 ∧ x.f1.size ≤ 140737488351232) : ∀ (d i : Nat) (z : Int), i + d = l.length → 0 ≤ z → z ≤ 1048576 → ∃ r, (0 ≤ r → ∀ j (hj : j < l.length), i ≤ j → l[j].f0.size ≤ 1048576 ∧ l[j].f1.size ≤ 1048576) ∧ ∀ k, d < k → laws_szRuleS.l0 k l z (i : Int) = some r := by
  intro d
  induction d with
  | zero =>
    intro i z hi h0 h1
    refine ⟨z, fun _ j hj hij => by omega, fun k hk => ?_⟩
    obtain ⟨k, rfl⟩ : ∃ m, k = m + 1 := ⟨k - 1, by omega⟩
    simp only [laws_szRuleS.l0]
    rw [if_neg (by omega)]
  | succ d ih =>
    intro i z hi h0 h1
    have hx := hg l[i] (List.getElem_mem ..)
    obtain ⟨r, e, r1, r2⟩ := szRule_ev l[i].f0 l[i].f1 z h0 h1 hx.1 hx.2
    have hs : ∀ k, laws_szRuleS.l0 (k + 1) l z (i : Int) = if r < 0 then some (-1) else laws_szRuleS.l0 k l r ((i + 1 : Nat) : Int) := fun k => by
      simp only [laws_szRuleS.l0]
      rw [if_pos (by omega), if_pos (by omega), rd37 l i (by omega), e, Option.bind_some, w64 (by omega) (by omega), show (i : Int) + 1 = ((i + 1 : Nat) : Int) from by omega]
    by_cases c : r < 0
    · refine ⟨-1, fun h => by omega, fun k hk => ?_⟩
      obtain ⟨k, rfl⟩ : ∃ m, k = m + 1 := ⟨k - 1, by omega⟩
      rw [hs, if_pos c]
    · obtain ⟨r', g1, g2⟩ := ih (i + 1) r (by omega) (by omega) r1
      refine ⟨r', fun h j hj hij => ?_, fun k hk => ?_⟩
      · by_cases e2 : i = j
        · subst e2; exact r2 (by omega)
        · exact g1 h j hj (by omega)
      · obtain ⟨k, rfl⟩ : ∃ m, k = m + 1 := ⟨k - 1, by omega⟩
        rw [hs, if_neg c]
        exact g2 k (by omega)
theorem szRuleS_ev (l : List S37) (hl : l.length ≤ 1000000000000000) (hg : ∀ x ∈ l, x.f0.size ≤ 140737488351232 ∧ x.f1.size ≤ 140737488351232) : ∃ r, (0 ≤ r → l.length ≤ 1048576 ∧ ∀ x ∈ l, x.f0.size ≤ 1048576 ∧ x.f1.size ≤ 1048576) ∧ ∀ k, l.length < k → laws_szRuleS.f k l 1048576 = some r := by
  by_cases c : (1048576 : Int) - (l.length : Int) < 0
  · refine ⟨-1, fun h => by omega, fun k hk => ?_⟩
    unfold laws_szRuleS.f
    rw [w64 (by omega) (by omega), if_pos c]
  · obtain ⟨r, h1, h2⟩ := szRuleS_l l (by omega) hg l.length 0 (1048576 - (l.length : Int)) (by omega) (by omega) (by omega)
    refine ⟨r, fun h => ⟨by omega, fun x hx => ?_⟩, fun k hk => ?_⟩
    · obtain ⟨j, hj, rfl⟩ := List.getElem_of_mem hx
      exact h1 h j hj (Nat.zero_le _)
    · unfold laws_szRuleS.f
      rw [w64 (by omega) (by omega), if_neg c]
      exact h2 k hk
def cvR (x : S37) : S38 := ⟨x.f0, x.f1⟩
theorem toRule_l (l : List S37) (hl : l.length ≤ 1000000000) : ∀ (d i : Nat), i + d = l.length → ∀ k, d < k → laws_toRuleS.l0 k l ((l.take i).map cvR ++ List.replicate d z38) (i : Int) = some (l.map cvR) := by
  intro d
  induction d with
  | zero =>
    intro i hi k hk
    obtain ⟨k, rfl⟩ : ∃ m, k = m + 1 := ⟨k - 1, by omega⟩
    simp only [laws_toRuleS.l0]
    rw [if_neg (by omega), List.replicate_zero, List.append_nil, List.take_of_length_le (by omega)]
  | succ d ih =>
    intro i hi k hk
    obtain ⟨k, rfl⟩ : ∃ m, k = m + 1 := ⟨k - 1, by omega⟩
    have hlen : ((l.take i).map cvR ++ List.replicate (d + 1) z38).length = l.length := by
      rw [List.length_append, List.length_map, List.length_take, List.length_replicate]; omega
    have hti : ((l.take i).map cvR).length = i := by rw [List.length_map, List.length_take]; omega
    simp only [laws_toRuleS.l0]
    rw [if_pos (by omega), if_pos (by omega), rd37 l i (by omega)]
    unfold laws_toRule.f
    rw [Option.bind_some, if_pos (by omega), Int.toNat_natCast, w64 (by omega) (by omega), show (i : Int) + 1 = ((i + 1 : Nat) : Int) from by omega]
    have e : ((l.take i).map cvR ++ List.replicate (d + 1) z38).set i (⟨l[i].f0, l[i].f1⟩ : S38) = (l.take (i + 1)).map cvR ++ List.replicate d z38 := by
      rw [List.set_append_right (h := by omega), hti, Nat.sub_self, List.replicate_succ, List.set_cons_zero, List.take_succ_eq_append_getElem (by omega), List.map_append, List.append_assoc]
      rfl
    show laws_toRuleS.l0 k l (((l.take i).map cvR ++ List.replicate (d + 1) z38).set i (⟨l[i].f0, l[i].f1⟩ : S38)) ((i + 1 : Nat) : Int) = _
    rw [e]
    exact ih (i + 1) (by omega) k (by omega)
theorem toRuleS_ev (l : List S37) (hl : l.length ≤ 1000000000) (k : Nat) (hk : l.length < k) : laws_toRuleS.f k l = some (l.map cvR) := by
  unfold laws_toRuleS.f
  rw [if_pos (by omega), Int.toNat_natCast, if_pos (by omega)]
  have := toRule_l l hl l.length 0 (by omega) k hk
  rw [List.take_zero, List.map_nil, List.nil_append] at this
  exact this
theorem eqRule_l (l : List S38) (hl : l.length ≤ 1000000000) : ∀ (d i : Nat), i + d = l.length → ∀ k, d < k → laws_eqRuleS.l0 k l l (i : Int) = some true := by
  intro d
  induction d with
  | zero =>
    intro i hi k hk
    obtain ⟨k, rfl⟩ : ∃ m, k = m + 1 := ⟨k - 1, by omega⟩
    simp only [laws_eqRuleS.l0]
    rw [if_neg (by omega)]
  | succ d ih =>
    intro i hi k hk
    obtain ⟨k, rfl⟩ : ∃ m, k = m + 1 := ⟨k - 1, by omega⟩
    simp only [laws_eqRuleS.l0]
    unfold laws_eqRule.f
    rw [if_pos (by omega), if_pos (by omega), if_pos (by omega), if_pos rfl, if_pos rfl, Option.bind_some, if_pos rfl, w64 (by omega) (by omega), show (i : Int) + 1 = ((i + 1 : Nat) : Int) from by omega]
    exact ih (i + 1) (by omega) k (by omega)
theorem eqRuleS_self (l : List S38) (hl : l.length ≤ 1000000000) (k : Nat) (hk : l.length < k) : laws_eqRuleS.f k l l = some true := by
  unfold laws_eqRuleS.f
  rw [if_pos rfl]
  exact eqRule_l l hl l.length 0 (by omega) k hk
theorem expr_both (s : ByteArray) (hs : s.size ≤ 1000000000) : ∃ (b : Bool) (K : Nat), ∀ k, K ≤ k → spec_GoodExpr.f k s = some b ∧ impl_GoodExpr.f k s = some b := by
  obtain ⟨ok, r, n, x, d, b, K, h1, h2⟩ := read_both hs
  refine ⟨(!b && decide (x = (s.size : Int))) && inB (s.size : Int), K, fun k hk => ⟨?_, ?_⟩⟩
  · unfold spec_GoodExpr.f
    rw [(h1 k hk).2, Option.bind_some, Bool.and_assoc]
  · unfold impl_GoodExpr.f inB
    by_cases c1 : (s.size : Int) < 1
    · rw [if_pos c1, decide_eq_false (show ¬ (1 : Int) ≤ (s.size : Int) by omega), Bool.false_and, Bool.and_false]
    · rw [if_neg c1, decide_eq_true (show (1 : Int) ≤ (s.size : Int) by omega), Bool.true_and]
      by_cases c2 : (s.size : Int) > 60
      · rw [if_pos c2, decide_eq_false (show ¬ (s.size : Int) ≤ 60 by omega), Bool.and_false]
      · rw [if_neg c2, decide_eq_true (show (s.size : Int) ≤ 60 by omega), Bool.and_true, (h1 k hk).1, Option.bind_some, h2]
theorem exprs_both (l : List S38) (hl : ∀ x ∈ l, x.f1.size ≤ 1000000000) : ∃ K, ∀ x ∈ l, ∃ b : Bool, ∀ k, K ≤ k → spec_GoodExpr.f k x.f1 = some b ∧ impl_GoodExpr.f k x.f1 = some b := by
  induction l with
  | nil => exact ⟨0, fun x hx => (by cases hx)⟩
  | cons y l ih =>
    obtain ⟨K, h⟩ := ih (fun x hx => hl x (List.mem_cons_of_mem _ hx))
    obtain ⟨b, K2, h2⟩ := expr_both y.f1 (hl y (List.mem_cons_self ..))
    refine ⟨K + K2, fun x hx => ?_⟩
    rcases List.mem_cons.1 hx with rfl | hx
    · exact ⟨b, fun k hk => h2 k (by omega)⟩
    · obtain ⟨b', h'⟩ := h x hx
      exact ⟨b', fun k hk => h' k (by omega)⟩
theorem name_both (s : ByteArray) : ∃ b : Bool, spec_l1Name.f s = some b ∧ impl_isNameText.f s = some b := by
  unfold spec_l1Name.f impl_isNameText.f spec_l1Open.f impl_isName.f
  by_cases c : (s.size : Int) = 1
  · rw [if_pos c, if_pos (by omega)]
    by_cases c2 : bt s 0 ≥ 65
    · rw [if_pos c2]; exact ⟨_, rfl, rfl⟩
    · rw [if_neg c2]; exact ⟨_, rfl, rfl⟩
  · rw [if_neg c]; exact ⟨_, rfl, rfl⟩
theorem schema_l (l : List S38) (hl : l.length ≤ 1000000000) (K : Nat) (hK : ∀ x ∈ l, ∃ b : Bool, ∀ k, K ≤ k → spec_GoodExpr.f k x.f1 = some b ∧ impl_GoodExpr.f k x.f1 = some b) : ∀ (d i : Nat), i + d = l.length → ∃ b : Bool, ∀ k, K + d < k → spec_GoodSchema.l0 k l l (l.length : Int) (i : Int) = some (b && decide ((l.length : Int) ≤ 7)) ∧ impl_GoodSchema.l0 k l l (l.length : Int) (i : Int) = some b := by
  intro d
  induction d with
  | zero =>
    intro i hi
    refine ⟨true, fun k hk => ?_⟩
    obtain ⟨k, rfl⟩ : ∃ m, k = m + 1 := ⟨k - 1, by omega⟩
    simp only [spec_GoodSchema.l0, impl_GoodSchema.l0]
    rw [if_neg (by omega), if_neg (by omega), Bool.true_and]
    exact ⟨rfl, rfl⟩
  | succ d ih =>
    intro i hi
    obtain ⟨b, hb⟩ := ih (i + 1) (by omega)
    obtain ⟨e, he⟩ := hK l[i] (List.getElem_mem ..)
    obtain ⟨n, n1, n2⟩ := name_both l[i].f0
    have hstep : ∃ c : Bool, ∀ k, K + d + 1 < k + 1 →
        (if (i : Int) > 0 then (if 0 ≤ (wrap64 ((i : Int) - 1)) then (if (wrap64 ((i : Int) - 1)) < (l.length : Int) then (if ((Op.bytesLess (((rd_T38 l (wrap64 ((i : Int) - 1))).f0).toList) (((rd_T38 l (i : Int)).f0).toList)) = true) then (spec_GoodSchema.l0 k l l (l.length : Int) (wrap64 ((i : Int) + 1))) else (some false)) else (none)) else (none)) else (spec_GoodSchema.l0 k l l (l.length : Int) (wrap64 ((i : Int) + 1)))) = some (c && decide ((l.length : Int) ≤ 7)) ∧
        (if (i : Int) > 0 then (if 0 ≤ (wrap64 ((i : Int) - 1)) then (if (wrap64 ((i : Int) - 1)) < (l.length : Int) then (if ((Op.bytesLess (((rd_T38 l (wrap64 ((i : Int) - 1))).f0).toList) (((rd_T38 l (i : Int)).f0).toList)) = true) then (impl_GoodSchema.l0 k l l (l.length : Int) (wrap64 ((i : Int) + 1))) else (some false)) else (none)) else (none)) else (impl_GoodSchema.l0 k l l (l.length : Int) (wrap64 ((i : Int) + 1)))) = some c := by
      rw [w64 (i := (i : Int) + 1) (by omega) (by omega), show (i : Int) + 1 = ((i + 1 : Nat) : Int) from by omega]
      by_cases c0 : (i : Int) > 0
      · rw [w64 (i := (i : Int) - 1) (by omega) (by omega)]
        by_cases c1 : (Op.bytesLess (((rd_T38 l ((i : Int) - 1)).f0).toList) (((rd_T38 l (i : Int)).f0).toList)) = true
        · refine ⟨b, fun k hk => ?_⟩
          rw [if_pos c0, if_pos (by omega), if_pos (by omega), if_pos c1, if_pos c0, if_pos (by omega), if_pos (by omega), if_pos c1]
          exact hb k (by omega)
        · refine ⟨false, fun k hk => ?_⟩
          rw [if_pos c0, if_pos (by omega), if_pos (by omega), if_neg c1, if_pos c0, if_pos (by omega), if_pos (by omega), if_neg c1, Bool.false_and]
          exact ⟨rfl, rfl⟩
      · refine ⟨b, fun k hk => ?_⟩
        rw [if_neg c0, if_neg c0]
        exact hb k (by omega)
    obtain ⟨c, hc⟩ := hstep
    have hr := rd38 l i (by omega)
    by_cases q : l[i].f0.toList = ([45] : List UInt8)
    · cases e with
      | false =>
        refine ⟨false, fun k hk => ?_⟩
        obtain ⟨k, rfl⟩ : ∃ m, k = m + 1 := ⟨k - 1, by omega⟩
        simp only [spec_GoodSchema.l0, impl_GoodSchema.l0]
        rw [if_pos (by omega), if_pos (by omega), if_pos (by omega), hr, if_pos q, (he k (by omega)).1, Option.bind_some, if_neg (by simp), if_pos (by omega), if_pos (by omega), if_pos (by omega), if_pos q, (he k (by omega)).2, Option.bind_some, if_neg (by simp), Bool.false_and]
        exact ⟨rfl, rfl⟩
      | true =>
        refine ⟨c, fun k hk => ?_⟩
        obtain ⟨k, rfl⟩ : ∃ m, k = m + 1 := ⟨k - 1, by omega⟩
        have h := hc k (by omega)
        rw [hr] at h
        simp only [spec_GoodSchema.l0, impl_GoodSchema.l0]
        refine ⟨?_, ?_⟩
        · rw [if_pos (by omega), if_pos (by omega), if_pos (by omega), hr, if_pos q, (he k (by omega)).1, Option.bind_some, if_pos rfl]
          exact h.1
        · rw [if_pos (by omega), if_pos (by omega), if_pos (by omega), hr, if_pos q, (he k (by omega)).2, Option.bind_some, if_pos rfl]
          exact h.2
    · cases n with
      | false =>
        refine ⟨false, fun k hk => ?_⟩
        obtain ⟨k, rfl⟩ : ∃ m, k = m + 1 := ⟨k - 1, by omega⟩
        simp only [spec_GoodSchema.l0, impl_GoodSchema.l0]
        rw [if_pos (by omega), if_pos (by omega), if_pos (by omega), hr, if_neg q, n1, Option.bind_some, if_neg (by simp), if_pos (by omega), if_pos (by omega), if_pos (by omega), if_neg q, n2, Option.bind_some, if_neg (by simp), Bool.false_and]
        exact ⟨rfl, rfl⟩
      | true =>
        cases e with
        | false =>
          refine ⟨false, fun k hk => ?_⟩
          obtain ⟨k, rfl⟩ : ∃ m, k = m + 1 := ⟨k - 1, by omega⟩
          simp only [spec_GoodSchema.l0, impl_GoodSchema.l0]
          rw [if_pos (by omega), if_pos (by omega), if_pos (by omega), hr, if_neg q, n1, Option.bind_some, if_pos rfl, (he k (by omega)).1, Option.bind_some, if_neg (by simp), if_pos (by omega), if_pos (by omega), if_pos (by omega), if_neg q, n2, Option.bind_some, if_pos rfl, (he k (by omega)).2, Option.bind_some, if_neg (by simp), Bool.false_and]
          exact ⟨rfl, rfl⟩
        | true =>
          refine ⟨c, fun k hk => ?_⟩
          obtain ⟨k, rfl⟩ : ∃ m, k = m + 1 := ⟨k - 1, by omega⟩
          have h := hc k (by omega)
          rw [hr] at h
          simp only [spec_GoodSchema.l0, impl_GoodSchema.l0]
          refine ⟨?_, ?_⟩
          · rw [if_pos (by omega), if_pos (by omega), if_pos (by omega), hr, if_neg q, n1, Option.bind_some, if_pos rfl, (he k (by omega)).1, Option.bind_some, if_pos rfl]
            exact h.1
          · rw [if_pos (by omega), if_pos (by omega), if_pos (by omega), hr, if_neg q, n2, Option.bind_some, if_pos rfl, (he k (by omega)).2, Option.bind_some, if_pos rfl]
            exact h.2
theorem schema_both (l : List S38) (hl : l.length ≤ 1000000000) (hs : ∀ x ∈ l, x.f1.size ≤ 1000000000) : ∃ (b : Bool) (K : Nat), ∀ k, K ≤ k → spec_GoodSchema.f k l = some b ∧ impl_GoodSchema.f k l = some b := by
  obtain ⟨K, hK⟩ := exprs_both l hs
  obtain ⟨b, hb⟩ := schema_l l hl K hK l.length 0 (by omega)
  refine ⟨b && decide ((l.length : Int) ≤ 7), K + l.length + 1, fun k hk => ?_⟩
  have h := hb k (by omega)
  unfold spec_GoodSchema.f impl_GoodSchema.f
  refine ⟨h.1, ?_⟩
  by_cases c : (l.length : Int) > 7
  · rw [if_pos c, decide_eq_false (by omega), Bool.and_false]
  · rw [if_neg c, decide_eq_true (by omega), Bool.and_true]
    exact h.2

/-! schemas as texts -/
theorem rtx_size (a b : ByteArray) : (((a ++ (⟨#[61]⟩ : ByteArray)) ++ b) ++ (⟨#[59]⟩ : ByteArray)).size = a.size + b.size + 2 := by
  rw [ByteArray.size_append, ByteArray.size_append, ByteArray.size_append]
  show a.size + 1 + b.size + 1 = _
  omega
theorem rtx_1 (a : ByteArray) : (a ++ (⟨#[61]⟩ : ByteArray)).size = a.size + 1 := by rw [ByteArray.size_append]; rfl
theorem text_l (l : List S38) (hl : l.length ≤ 1000000000) (hs : ∀ x ∈ l, x.f0.size ≤ 1048576 ∧ x.f1.size ≤ 1048576) : ∀ (d i : Nat) (x : ByteArray), i + d = l.length → x.size + d * 3000000 ≤ 1000000000000000000 → ∃ r, ∀ k, d < k → spec_l7Text.l0 k x l (l.length : Int) (i : Int) = some r ∧ impl_SchemaText.l0 k x l (l.length : Int) (i : Int) = some (r, true) := by
  intro d
  induction d with
  | zero =>
    intro i x hi hx
    refine ⟨x, fun k hk => ?_⟩
    obtain ⟨k, rfl⟩ : ∃ m, k = m + 1 := ⟨k - 1, by omega⟩
    simp only [spec_l7Text.l0, impl_SchemaText.l0]
    rw [if_neg (by omega), if_neg (by omega)]
    exact ⟨rfl, rfl⟩
  | succ d ih =>
    intro i x hi hx
    have hr := rd38 l i (by omega)
    have hz := hs l[i] (List.getElem_mem ..)
    have s1 := rtx_1 l[i].f0
    have s2 : ((l[i].f0 ++ (⟨#[61]⟩ : ByteArray)) ++ l[i].f1).size = l[i].f0.size + 1 + l[i].f1.size := by rw [ByteArray.size_append, s1]
    have s3 := rtx_size l[i].f0 l[i].f1
    obtain ⟨r, h⟩ := ih (i + 1) (x ++ (((l[i].f0 ++ (⟨#[61]⟩ : ByteArray)) ++ l[i].f1) ++ (⟨#[59]⟩ : ByteArray))) (by omega) (by rw [ByteArray.size_append, s3]; omega)
    refine ⟨r, fun k hk => ?_⟩
    obtain ⟨k, rfl⟩ : ∃ m, k = m + 1 := ⟨k - 1, by omega⟩
    simp only [spec_l7Text.l0, impl_SchemaText.l0]
    refine ⟨?_, ?_⟩
    · rw [if_pos (by omega), if_pos (by omega), if_pos (by omega), hr, if_pos (by omega), if_pos (by omega), if_pos (by omega), if_pos (by omega), w64 (by omega) (by omega), show (i : Int) + 1 = ((i + 1 : Nat) : Int) from by omega]
      exact (h k (by omega)).1
    · rw [if_pos (by omega), if_pos (by omega), if_pos (by omega), hr, if_pos (by omega), if_pos (by omega), if_pos (by omega), if_pos (by omega), w64 (by omega) (by omega), show (i : Int) + 1 = ((i + 1 : Nat) : Int) from by omega]
      exact (h k (by omega)).2
theorem FnExactSchemaText : laws_FnExactSchemaText.Pure := by
  intro l hG
  obtain ⟨hG1, hG2, hG3⟩ := hG
  obtain ⟨r, h1, h2⟩ := szRuleS_ev l (by omega) (fun x hx => hG3 x hx)
  by_cases hr : r < 0
  · refine ⟨l.length + 1, ?_⟩
    unfold laws_FnExactSchemaText.f
    rw [h2 _ (by omega), Option.bind_some, if_pos hr]
  · obtain ⟨h3, h4⟩ := h1 (by omega)
    have hl : (l.map cvR).length = l.length := List.length_map ..
    have hsz : ∀ x ∈ l.map cvR, x.f0.size ≤ 1048576 ∧ x.f1.size ≤ 1048576 := fun x hx => by
      obtain ⟨y, hy, rfl⟩ := List.mem_map.1 hx
      exact h4 y hy
    obtain ⟨b, K, hK⟩ := schema_both (l.map cvR) (by omega) (fun x hx => by have := (hsz x hx).2; omega)
    obtain ⟨t, ht⟩ := text_l (l.map cvR) (by omega) hsz (l.map cvR).length 0 ⟨#[]⟩ (by omega) (by show 0 + _ ≤ _; omega)
    have hS : ∃ q : ByteArray × Bool, ∀ k, K + l.length + 1 ≤ k → spec_SchemaText.f k (l.map cvR) = some q ∧ impl_SchemaText.f k (l.map cvR) = some q := by
      cases b with
      | false =>
        refine ⟨(⟨#[]⟩, false), fun k hk => ⟨?_, ?_⟩⟩
        · unfold spec_SchemaText.f
          rw [(hK k (by omega)).1, Option.bind_some, if_neg (by simp)]
        · unfold impl_SchemaText.f
          rw [(hK k (by omega)).2, Option.bind_some, if_neg (by simp)]
      | true =>
        refine ⟨(t, true), fun k hk => ⟨?_, ?_⟩⟩
        · unfold spec_SchemaText.f spec_l7Text.f
          rw [(hK k (by omega)).1, Option.bind_some, if_pos rfl, show spec_l7Text.l0 k ⟨#[]⟩ (l.map cvR) ((l.map cvR).length : Int) 0 = some t from (ht k (by omega)).1, Option.bind_some]
        · unfold impl_SchemaText.f
          rw [(hK k (by omega)).2, Option.bind_some, if_pos rfl]
          exact (ht k (by omega)).2
    obtain ⟨q, hq⟩ := hS
    refine ⟨K + l.length + 2, ?_⟩
    unfold laws_FnExactSchemaText.f
    rw [h2 _ (by omega), Option.bind_some, if_neg hr, toRuleS_ev l (by omega) _ (by omega), Option.bind_some, (hq _ (by omega)).1, Option.bind_some, Option.bind_some, (hq _ (by omega)).2, Option.bind_some, if_pos rfl, bne_self_eq_false]
    simp only [laws_FnExactSchemaText.j0]
    rw [if_neg (by simp), toRuleS_ev l (by omega) _ (by omega), Option.bind_some, eqRuleS_self _ (by omega) _ (by omega), Option.bind_some, if_pos rfl]

end Go.Proofs.Ytihjaagamihhkaa.Pure
