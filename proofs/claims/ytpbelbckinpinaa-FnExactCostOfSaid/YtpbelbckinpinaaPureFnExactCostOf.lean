/- CostOf of the program answers as the reference's, for all changes. -/
import Derived.Test.YtpbelbckinpinaaAFnExactCostOfx4
set_option linter.unusedVariables false
set_option linter.unusedSimpArgs false
namespace Go.Proofs.Ytpbelbckinpinaa.Pure
open Go.RowKit Go.Proofs.Ytpbelbckinpinaa.AFnExactCostOf Go.Proofs.YtpbelbckinpinaaW.PrintWords Go.Proofs.YtpbelbckinpinaaW.PrintLast Go.Proofs.YtpbelbckinpinaaW.PrintMore

theorem w64 {i : Int} (h0 : -4611686018427387904 ≤ i) (h : i ≤ 4611686018427387904) : wrap64 i = i := by
  unfold wrap64; omega

def nmB (c : Int) : Bool := decide (65 ≤ c) && decide (c ≤ 70)
def plB (c : Int) : Bool := (decide (97 ≤ c) && decide (c ≤ 122)) || ((decide (48 ≤ c) && decide (c ≤ 57)) || (decide (c = 32) || (decide (c = 46) || decide (c = 44))))
def okB (c : Int) : Bool := nmB c || (plB c || decide (c = 47))
def okN (s : ByteArray) : Nat → Nat → Bool
  | 0, _ => true
  | d + 1, i => okB (bt s i) && okN s d (i + 1)
def textB (s : ByteArray) : Bool := okN s s.size 0 && decide (s.size ≤ 300)

theorem textB_size {s : ByteArray} (h : textB s = true) : s.size ≤ 300 := by
  unfold textB at h; simp at h; exact h.2

theorem impl_isName_eq (c : Int) : impl_isName.f c = some (nmB c) := by
  unfold impl_isName.f nmB
  by_cases h1 : c ≥ 65 <;> simp [h1] <;> omega
theorem impl_isPlain_eq (c : Int) : impl_isPlain.f c = some (plB c) := by
  unfold impl_isPlain.f plB
  by_cases h1 : 97 ≤ c <;> by_cases h2 : c ≤ 122 <;> by_cases h3 : 48 ≤ c <;> by_cases h4 : c ≤ 57 <;> by_cases h5 : c = 32 <;> by_cases h6 : c = 46 <;> simp [h1, h2, h3, h4, h5, h6] <;> rfl
theorem impl_GoodText_l (s : ByteArray) (hs : s.size ≤ 140737488351232) : ∀ (d i : Nat), i + d = s.size →
    ∃ K, ∀ k, K ≤ k → impl_GoodText.l0 k s (s.size : Int) (i : Int) = some (okN s d i && decide (s.size ≤ 300)) := by
  intro d
  induction d with
  | zero =>
    intro i hi
    refine ⟨1, fun k hk => ?_⟩
    obtain ⟨k, rfl⟩ : ∃ m, k = m + 1 := ⟨k - 1, by omega⟩
    simp only [impl_GoodText.l0]
    rw [if_neg (by omega)]
    simp [okN]
    omega
  | succ d ih =>
    intro i hi
    obtain ⟨K, hK⟩ := ih (i + 1) (by omega)
    refine ⟨K + 1, fun k hk => ?_⟩
    obtain ⟨k, rfl⟩ : ∃ m, k = m + 1 := ⟨k - 1, by omega⟩
    have hr := hK k (by omega)
    simp only [impl_GoodText.l0]
    rw [if_pos (by omega), if_pos (by omega), if_pos (by omega), impl_isName_eq, Option.bind_some, impl_isPlain_eq, Option.bind_some, w64 (by omega) (by omega)]
    have hc : ((i : Int) + 1) = ((i + 1 : Nat) : Int) := by omega
    rw [hc, hr]
    show _ = some ((okB (bt s i) && okN s d (i + 1)) && _)
    unfold okB
    cases nmB (bt s i) <;> cases plB (bt s i) <;> by_cases h : bt s i = 47 <;> simp [h]
theorem impl_GoodText_ev (s : ByteArray) (hs : s.size ≤ 140737488351232) : ∃ K, ∀ k, K ≤ k → impl_GoodText.f k s = some (textB s) := by
  obtain ⟨K, hK⟩ := impl_GoodText_l s hs s.size 0 (by omega)
  exact ⟨K, fun k hk => by unfold impl_GoodText.f; exact hK k hk⟩

theorem spec_l1Open_eq (c : Int) : spec_l1Open.f c = some (nmB c) := by
  unfold spec_l1Open.f nmB
  by_cases h1 : c ≥ 65 <;> simp [h1] <;> omega
theorem spec_l1Plain_eq (c : Int) : spec_l1Plain.f c = some (plB c) := by
  unfold spec_l1Plain.f plB
  by_cases h1 : 97 ≤ c <;> by_cases h2 : c ≤ 122 <;> by_cases h3 : 48 ≤ c <;> by_cases h4 : c ≤ 57 <;> by_cases h5 : c = 32 <;> by_cases h6 : c = 46 <;> simp [h1, h2, h3, h4, h5, h6] <;> rfl
theorem spec_l1Text_l (s : ByteArray) (hs : s.size ≤ 140737488351232) : ∀ (d i : Nat), i + d = s.size →
    ∃ K, ∀ k, K ≤ k → spec_l1Text.l0 k s (i : Int) = some (okN s d i) := by
  intro d
  induction d with
  | zero =>
    intro i hi
    refine ⟨1, fun k hk => ?_⟩
    obtain ⟨k, rfl⟩ : ∃ m, k = m + 1 := ⟨k - 1, by omega⟩
    simp only [spec_l1Text.l0]
    rw [if_neg (by omega)]
    simp [okN]
  | succ d ih =>
    intro i hi
    obtain ⟨K, hK⟩ := ih (i + 1) (by omega)
    refine ⟨K + 1, fun k hk => ?_⟩
    obtain ⟨k, rfl⟩ : ∃ m, k = m + 1 := ⟨k - 1, by omega⟩
    have hr := hK k (by omega)
    simp only [spec_l1Text.l0]
    rw [if_pos (by omega), if_pos (by omega), spec_l1Open_eq, Option.bind_some, spec_l1Plain_eq, Option.bind_some, w64 (by omega) (by omega)]
    have hc : ((i : Int) + 1) = ((i + 1 : Nat) : Int) := by omega
    rw [hc, hr]
    show _ = some (okB (bt s i) && okN s d (i + 1))
    unfold okB
    cases nmB (bt s i) <;> cases plB (bt s i) <;> by_cases h : bt s i = 47 <;> simp [h]
theorem spec_GoodText_ev (s : ByteArray) (hs : s.size ≤ 140737488351232) : ∃ K, ∀ k, K ≤ k → spec_GoodText.f k s = some (textB s) := by
  obtain ⟨K, hK⟩ := spec_l1Text_l s hs s.size 0 (by omega)
  refine ⟨K, fun k hk => ?_⟩
  have h := hK k hk
  unfold spec_GoodText.f spec_l1Text.f
  simp only [Int.cast_ofNat_Int] at h
  rw [h, Option.bind_some]
  unfold textB
  cases okN s s.size 0 <;> simp <;> omega

/-! parts and changes -/
def small (x : S74) : Prop := x.f1.size ≤ 140737488351232 ∧ x.f2.size ≤ 140737488351232
def smallL (l : List S74) : Prop := l.length ≤ 3518437208780 ∧ ∀ x ∈ l, small x
theorem small_z : small z74 := ⟨by decide, by decide⟩
theorem small_rd {l : List S74} (h : smallL l) (i : Int) : small (rd_T74 l i) := by
  unfold rd_T74
  rw [List.getD_eq_getElem?_getD]
  cases e : l[i.toNat]? with
  | none => exact small_z
  | some x => exact h.2 x (List.mem_of_getElem? e)
def partB (a : Int) (b c : ByteArray) : Bool :=
  if a = 0 then (if b.toList = [] then (if c.toList = [] then false else textB c) else (if c.toList = [] then textB b else false))
  else (decide (1 ≤ a) && decide (a ≤ 300)) && (if b.toList = [] then c.toList == [] else false)
def pN (l : List S74) : Nat → Nat → Bool
  | 0, _ => true
  | d + 1, i => partB (rd_T74 l (i : Int)).f0 (rd_T74 l (i : Int)).f1 (rd_T74 l (i : Int)).f2 && pN l d (i + 1)
def sizesB (r : Int × Int) : Bool := if r.1 ≤ 300 then decide (r.2 ≤ 300) else false

theorem spec_l3Part_ev (a : Int) (b c : ByteArray) (hb : b.size ≤ 140737488351232) (hc : c.size ≤ 140737488351232) : ∃ K, ∀ k, K ≤ k → spec_l3Part.f k a b c = some (partB a b c) := by
  obtain ⟨K1, h1⟩ := spec_GoodText_ev b hb
  obtain ⟨K2, h2⟩ := spec_GoodText_ev c hc
  refine ⟨K1 + K2, fun k hk => ?_⟩
  unfold spec_l3Part.f partB spec_l1In.f
  rw [h1 k (by omega), h2 k (by omega)]
  by_cases e0 : a = 0
  · simp only [if_pos e0, Option.bind_some]
    by_cases e1 : b.toList = [] <;> by_cases e2 : c.toList = [] <;> simp [e1, e2]
  · simp only [if_neg e0]
    by_cases e1 : a ≥ 1
    · by_cases e2 : a ≤ 300
      · simp only [if_pos e1, Option.bind_some, decide_eq_true e2, if_pos, decide_eq_true e1, Bool.and_self, Bool.true_and]
        by_cases e3 : b.toList = [] <;> simp [e3]
      · simp [e1, e2]
    · simp only [if_neg e1, Option.bind_some]
      simp
      intro h
      omega
theorem spec_sizes_l (l : List S74) (hl : l.length ≤ 3518437208780) : ∀ (d i : Nat), i + d = l.length → ∀ a b : Int, ∃ r K, ∀ k, K ≤ k → spec_l3Sizes.l0 k a b l (l.length : Int) (i : Int) = some r := by
  intro d
  induction d with
  | zero =>
    intro i hi a b
    refine ⟨(a, b), 1, fun k hk => ?_⟩
    obtain ⟨k, rfl⟩ : ∃ m, k = m + 1 := ⟨k - 1, by omega⟩
    simp only [spec_l3Sizes.l0]
    rw [if_neg (by omega)]
  | succ d ih =>
    intro i hi a b
    obtain ⟨r, K, hK⟩ := ih (i + 1) (by omega) (wrap64 (a + (wrap64 (((rd_T74 l (i : Int)).f0) + (((rd_T74 l (i : Int)).f2).size : Int))))) (wrap64 (b + (wrap64 (((rd_T74 l (i : Int)).f0) + (((rd_T74 l (i : Int)).f1).size : Int)))))
    refine ⟨r, K + 1, fun k hk => ?_⟩
    obtain ⟨k, rfl⟩ : ∃ m, k = m + 1 := ⟨k - 1, by omega⟩
    have hr := hK k (by omega)
    simp only [spec_l3Sizes.l0]
    rw [if_pos (by omega), if_pos (by omega), if_pos (by omega), w64 (i := (i : Int) + 1) (by omega) (by omega)]
    exact hr
theorem spec_sizes_ev (l : List S74) (hl : l.length ≤ 3518437208780) : ∃ r K, ∀ k, K ≤ k → spec_l3Sizes.f k l = some r :=
  spec_sizes_l l hl l.length 0 (by omega) 0 0
theorem spec_GoodOp_l (l : List S74) (hl : smallL l) (r : Int × Int) (K0 : Nat) (h0 : ∀ k, K0 ≤ k → spec_l3Sizes.f k l = some r) : ∀ (d i : Nat), i + d = l.length → ∃ K, ∀ k, K ≤ k → spec_GoodOp.l0 k l l (l.length : Int) (i : Int) = some (pN l d i && sizesB r) := by
  have hl1 := hl.1
  intro d
  induction d with
  | zero =>
    intro i hi
    refine ⟨K0 + 1, fun k hk => ?_⟩
    obtain ⟨k, rfl⟩ : ∃ m, k = m + 1 := ⟨k - 1, by omega⟩
    simp only [spec_GoodOp.l0]
    rw [if_neg (by omega), h0 k (by omega), Option.bind_some]
    unfold sizesB pN
    by_cases e : r.1 ≤ 300 <;> simp [e]
  | succ d ih =>
    intro i hi
    obtain ⟨K, hK⟩ := ih (i + 1) (by omega)
    have hs := small_rd hl (i : Int)
    obtain ⟨K1, h1⟩ := spec_l3Part_ev (rd_T74 l (i : Int)).f0 _ _ hs.1 hs.2
    refine ⟨K + K1 + 1, fun k hk => ?_⟩
    obtain ⟨k, rfl⟩ : ∃ m, k = m + 1 := ⟨k - 1, by omega⟩
    have hr := hK k (by omega)
    simp only [spec_GoodOp.l0]
    rw [if_pos (by omega), if_pos (by omega), if_pos (by omega), h1 k (by omega), Option.bind_some, w64 (by omega) (by omega)]
    have hc : ((i : Int) + 1) = ((i + 1 : Nat) : Int) := by omega
    rw [hc, hr]
    rw [show pN l (d + 1) i = (partB (rd_T74 l (i : Int)).f0 (rd_T74 l (i : Int)).f1 (rd_T74 l (i : Int)).f2 && pN l d (i + 1)) from rfl]
    cases partB (rd_T74 l (i : Int)).f0 (rd_T74 l (i : Int)).f1 (rd_T74 l (i : Int)).f2 <;> simp
def goodB (l : List S74) (r : Int × Int) : Bool := decide (l.length ≤ 60) && (pN l l.length 0 && sizesB r)
theorem spec_GoodOp_ev (l : List S74) (hl : smallL l) (r : Int × Int) (K0 : Nat) (h0 : ∀ k, K0 ≤ k → spec_l3Sizes.f k l = some r) : ∃ K, ∀ k, K ≤ k → spec_GoodOp.f k l = some (goodB l r) := by
  obtain ⟨K, hK⟩ := spec_GoodOp_l l hl r K0 h0 l.length 0 (by omega)
  refine ⟨K, fun k hk => ?_⟩
  have h := hK k hk
  unfold spec_GoodOp.f goodB
  by_cases e : (l.length : Int) > 60
  · rw [if_pos e, decide_eq_false (by omega)]; rfl
  · rw [if_neg e, decide_eq_true (by omega), Bool.true_and]
    exact h

theorem impl_sizes_same (l : List S74) : ∀ k a b i, impl_sizes.l0 k a b l (l.length : Int) i = spec_l3Sizes.l0 k a b l (l.length : Int) i := by
  intro k
  induction k with
  | zero => intro a b i; rfl
  | succ k ih =>
    intro a b i
    simp only [impl_sizes.l0, spec_l3Sizes.l0, ih]
theorem impl_sizes_ev (l : List S74) (k : Nat) : impl_sizes.f k l = spec_l3Sizes.f k l := impl_sizes_same l k 0 0 0
theorem impl_isPart_ev (a : Int) (b c : ByteArray) (hb : b.size ≤ 140737488351232) (hc : c.size ≤ 140737488351232) : ∃ K, ∀ k, K ≤ k → impl_Part_isPart.f k a b c = some (partB a b c) := by
  obtain ⟨K1, h1⟩ := impl_GoodText_ev b hb
  obtain ⟨K2, h2⟩ := impl_GoodText_ev c hc
  refine ⟨K1 + K2, fun k hk => ?_⟩
  unfold impl_Part_isPart.f partB
  rw [h1 k (by omega), h2 k (by omega)]
  by_cases e0 : a = 0
  · simp only [if_pos e0, Option.bind_some]
    by_cases e1 : b.toList = [] <;> by_cases e2 : c.toList = [] <;> simp [e1, e2]
  · simp only [if_neg e0]
    by_cases e1 : a ≥ 1
    · by_cases e2 : a ≤ 300
      · simp only [if_pos e1, if_pos e2, decide_eq_true e2, decide_eq_true e1, Bool.and_self, Bool.true_and]
        by_cases e3 : b.toList = [] <;> simp [e3]
      · simp [e1, e2]
    · simp only [if_neg e1]
      simp
      intro h
      omega
theorem impl_Part_128_l (l : List S74) (hl : smallL l) : ∀ (d i : Nat), i + d = l.length → ∃ t : Int, decide (t ≥ 0) = !(pN l d i) ∧ ∃ K, ∀ k, K ≤ k → impl_Part_128.l0 k l (l.length : Int) (i : Int) = some t := by
  have hl1 := hl.1
  intro d
  induction d with
  | zero =>
    intro i hi
    refine ⟨-1, rfl, 1, fun k hk => ?_⟩
    obtain ⟨k, rfl⟩ : ∃ m, k = m + 1 := ⟨k - 1, by omega⟩
    simp only [impl_Part_128.l0]
    rw [if_neg (by omega)]
  | succ d ih =>
    intro i hi
    have hs := small_rd hl (i : Int)
    obtain ⟨K1, h1⟩ := impl_isPart_ev (rd_T74 l (i : Int)).f0 _ _ hs.1 hs.2
    cases hp : partB (rd_T74 l (i : Int)).f0 (rd_T74 l (i : Int)).f1 (rd_T74 l (i : Int)).f2 with
    | false =>
      refine ⟨(i : Int), by unfold pN; rw [hp]; simp, K1 + 1, fun k hk => ?_⟩
      obtain ⟨k, rfl⟩ : ∃ m, k = m + 1 := ⟨k - 1, by omega⟩
      simp only [impl_Part_128.l0, impl_GoodOp_1.f]
      rw [if_pos (by omega), if_pos (by omega), if_pos (by omega), h1 k (by omega), hp]
      rfl
    | true =>
      obtain ⟨t, ht, K, hK⟩ := ih (i + 1) (by omega)
      refine ⟨t, by unfold pN; rw [hp, ht, Bool.true_and], K + K1 + 1, fun k hk => ?_⟩
      obtain ⟨k, rfl⟩ : ∃ m, k = m + 1 := ⟨k - 1, by omega⟩
      have hr := hK k (by omega)
      simp only [impl_Part_128.l0, impl_GoodOp_1.f]
      rw [if_pos (by omega), if_pos (by omega), if_pos (by omega), h1 k (by omega), hp, w64 (by omega) (by omega)]
      exact hr
theorem impl_GoodOp_ev (l : List S74) (hl : smallL l) (r : Int × Int) (K0 : Nat) (h0 : ∀ k, K0 ≤ k → spec_l3Sizes.f k l = some r) : ∃ K, ∀ k, K ≤ k → impl_GoodOp.f k l = some (goodB l r) := by
  obtain ⟨t, ht, K, hK⟩ := impl_Part_128_l l hl l.length 0 (by omega)
  refine ⟨K + K0, fun k hk => ?_⟩
  have h : impl_Part_128.f k l = some t := hK k (by omega)
  unfold impl_GoodOp.f goodB impl_Part_95.f
  by_cases e : (l.length : Int) > 60
  · rw [if_pos e, decide_eq_false (by omega)]; rfl
  · rw [if_neg e, decide_eq_true (by omega), h, Bool.true_and]
    simp only [Option.bind_some, ht]
    rw [impl_sizes_ev, h0 k (by omega), Option.bind_some]
    unfold sizesB
    cases pN l l.length 0 <;> by_cases e1 : r.1 ≤ 300 <;> simp [e1]

theorem szPartS_l (l : List S71) (hl : l.length ≤ 3518437208780) : ∀ (d i : Nat), i + d = l.length → ∀ a : Int, ∃ r K, ∀ k, K ≤ k → laws_szPartS.l0 k l a (i : Int) = some r := by
  intro d
  induction d with
  | zero =>
    intro i hi a
    refine ⟨a, 1, fun k hk => ?_⟩
    obtain ⟨k, rfl⟩ : ∃ m, k = m + 1 := ⟨k - 1, by omega⟩
    simp only [laws_szPartS.l0]
    rw [if_neg (by omega)]
  | succ d ih =>
    intro i hi a
    have hz : ∀ x y z, ∃ t, laws_szPart.f x y z a = some t := by
      intro x y z
      unfold laws_szPart.f
      split
      · exact ⟨_, rfl⟩
      · split <;> exact ⟨_, rfl⟩
    obtain ⟨t, ht⟩ := hz ((rd_T71 l (i : Int)).f0) ((rd_T71 l (i : Int)).f1) ((rd_T71 l (i : Int)).f2)
    by_cases e : t < 0
    · refine ⟨-1, 1, fun k hk => ?_⟩
      obtain ⟨k, rfl⟩ : ∃ m, k = m + 1 := ⟨k - 1, by omega⟩
      simp only [laws_szPartS.l0]
      rw [if_pos (by omega), if_pos (by omega), ht, Option.bind_some, if_pos e]
    · obtain ⟨r, K, hK⟩ := ih (i + 1) (by omega) t
      refine ⟨r, K + 1, fun k hk => ?_⟩
      obtain ⟨k, rfl⟩ : ∃ m, k = m + 1 := ⟨k - 1, by omega⟩
      simp only [laws_szPartS.l0]
      rw [if_pos (by omega), if_pos (by omega), ht, Option.bind_some, if_neg e, w64 (by omega) (by omega)]
      exact hK k (by omega)
theorem szPartS_ev (l : List S71) (hl : l.length ≤ 3518437208780) (a : Int) : ∃ r K, ∀ k, K ≤ k → laws_szPartS.f k l a = some r := by
  unfold laws_szPartS.f
  split
  · exact ⟨-1, 0, fun _ _ => rfl⟩
  · exact szPartS_l l hl l.length 0 (by omega) _
def smallA (l : List S71) : Prop := l.length ≤ 3518437208780 ∧ ∀ x ∈ l, x.f1.size ≤ 140737488351232 ∧ x.f2.size ≤ 140737488351232
theorem smallA_rd {l : List S71} (h : smallA l) (i : Int) : (rd_T71 l i).f1.size ≤ 140737488351232 ∧ (rd_T71 l i).f2.size ≤ 140737488351232 := by
  unfold rd_T71
  rw [List.getD_eq_getElem?_getD]
  cases e : l[i.toNat]? with
  | none => exact ⟨by decide, by decide⟩
  | some x => exact h.2 x (List.mem_of_getElem? e)
theorem toPartS_l (l : List S71) (hl : smallA l) : ∀ (d i : Nat), i + d = l.length → ∀ x : List S74, x.length = l.length → (∀ y ∈ x, small y) → ∃ m, smallL m ∧ m.length = l.length ∧ ∃ K, ∀ k, K ≤ k → laws_toPartS.l0 k l x (i : Int) = some m := by
  have hl1 := hl.1
  intro d
  induction d with
  | zero =>
    intro i hi x hx hs
    refine ⟨x, ⟨by omega, hs⟩, hx, 1, fun k hk => ?_⟩
    obtain ⟨k, rfl⟩ : ∃ m, k = m + 1 := ⟨k - 1, by omega⟩
    simp only [laws_toPartS.l0]
    rw [if_neg (by omega)]
  | succ d ih =>
    intro i hi x hx hs
    have hr := smallA_rd hl (i : Int)
    obtain ⟨m, hm, hml, K, hK⟩ := ih (i + 1) (by omega) (x.set (i : Int).toNat ⟨(rd_T71 l (i : Int)).f0, (rd_T71 l (i : Int)).f1, (rd_T71 l (i : Int)).f2⟩) (by rw [List.length_set]; exact hx) (fun y hy => by
      rcases List.mem_or_eq_of_mem_set hy with h | h
      · exact hs y h
      · rw [h]; exact hr)
    refine ⟨m, hm, hml, K + 1, fun k hk => ?_⟩
    obtain ⟨k, rfl⟩ : ∃ m, k = m + 1 := ⟨k - 1, by omega⟩
    simp only [laws_toPartS.l0, laws_toPart.f, Option.bind_some]
    rw [if_pos (by omega), if_pos (by omega), if_pos (by omega), w64 (by omega) (by omega)]
    exact hK k (by omega)
theorem toPartS_ev (l : List S71) (hl : smallA l) : ∃ m, smallL m ∧ m.length = l.length ∧ ∃ K, ∀ k, K ≤ k → laws_toPartS.f k l = some m := by
  have hl1 := hl.1
  obtain ⟨m, hm, hml, K, hK⟩ := toPartS_l l hl l.length 0 (by omega) (List.replicate ((l.length : Int) : Int).toNat z74) (by simp) (fun y hy => by rw [List.eq_of_mem_replicate hy]; exact small_z)
  refine ⟨m, hm, hml, K, fun k hk => ?_⟩
  unfold laws_toPartS.f
  rw [if_pos (by omega), if_pos (by rw [Int.toNat_natCast]; omega)]
  exact hK k hk
theorem eqPartS_l (l : List S74) (hl : l.length ≤ 3518437208780) : ∀ (d i : Nat), i + d = l.length → ∃ K, ∀ k, K ≤ k → laws_eqPartS.l0 k l l (i : Int) = some true := by
  intro d
  induction d with
  | zero =>
    intro i hi
    refine ⟨1, fun k hk => ?_⟩
    obtain ⟨k, rfl⟩ : ∃ m, k = m + 1 := ⟨k - 1, by omega⟩
    simp only [laws_eqPartS.l0]
    rw [if_neg (by omega)]
  | succ d ih =>
    intro i hi
    obtain ⟨K, hK⟩ := ih (i + 1) (by omega)
    refine ⟨K + 1, fun k hk => ?_⟩
    obtain ⟨k, rfl⟩ : ∃ m, k = m + 1 := ⟨k - 1, by omega⟩
    simp only [laws_eqPartS.l0, laws_eqPart.f, if_true, Option.bind_some]
    rw [if_pos (by omega), if_pos (by omega), if_pos (by omega), w64 (by omega) (by omega)]
    exact hK k (by omega)
theorem eqPartS_ev (l : List S74) (hl : l.length ≤ 3518437208780) : ∃ K, ∀ k, K ≤ k → laws_eqPartS.f k l l = some true := by
  obtain ⟨K, hK⟩ := eqPartS_l l hl l.length 0 (by omega)
  exact ⟨K, fun k hk => by unfold laws_eqPartS.f; rw [if_pos rfl]; exact hK k hk⟩

theorem spec_cost_l (l : List S74) (hl : l.length ≤ 3518437208780) : ∀ (d i : Nat), i + d = l.length → ∀ a : Int, ∃ r K, ∀ k, K ≤ k → spec_l9Cost.l0 k a l (l.length : Int) (i : Int) = some r := by
  intro d
  induction d with
  | zero =>
    intro i hi a
    refine ⟨a, 1, fun k hk => ?_⟩
    obtain ⟨k, rfl⟩ : ∃ m, k = m + 1 := ⟨k - 1, by omega⟩
    simp only [spec_l9Cost.l0]
    rw [if_neg (by omega)]
  | succ d ih =>
    intro i hi a
    obtain ⟨r, K, hK⟩ := ih (i + 1) (by omega) (wrap64 (a + (wrap64 ((((rd_T74 l (i : Int)).f1).size : Int) + (((rd_T74 l (i : Int)).f2).size : Int)))))
    refine ⟨r, K + 1, fun k hk => ?_⟩
    obtain ⟨k, rfl⟩ : ∃ m, k = m + 1 := ⟨k - 1, by omega⟩
    have hr := hK k (by omega)
    simp only [spec_l9Cost.l0]
    rw [if_pos (by omega), if_pos (by omega), if_pos (by omega), w64 (i := (i : Int) + 1) (by omega) (by omega)]
    exact hr
theorem impl_cost_same (l : List S74) : ∀ k a i, impl_CostOf.l0 k a l (l.length : Int) i = (spec_l9Cost.l0 k a l (l.length : Int) i).bind fun r => some (r, true) := by
  intro k
  induction k with
  | zero => intro a i; rfl
  | succ k ih =>
    intro a i
    simp only [impl_CostOf.l0, spec_l9Cost.l0]
    split
    · split
      · exact ih _ _
      · rfl
    · rfl
theorem FnExactCostOf : laws_FnExactCostOf.Pure := by
  intro l hG
  obtain ⟨_, hl2, hg⟩ := hG
  have hl : l.length ≤ 3518437208780 := by omega
  obtain ⟨t, K0, h0⟩ := szPartS_ev l hl 1048576
  obtain ⟨m, hm, hml, K1, h1⟩ := toPartS_ev l ⟨hl, fun x hx => (hg x hx).2⟩
  obtain ⟨r, K2, h2⟩ := spec_sizes_ev m hm.1
  obtain ⟨K3, h3⟩ := spec_GoodOp_ev m hm r K2 h2
  obtain ⟨K4, h4⟩ := impl_GoodOp_ev m hm r K2 h2
  obtain ⟨c, K5, h5⟩ := spec_cost_l m hm.1 m.length 0 (by omega) 0
  obtain ⟨K6, h6⟩ := eqPartS_ev m hm.1
  have key : ∀ k, K0 + K1 + K2 + K3 + K4 + K5 + K6 ≤ k → laws_FnExactCostOf.f (k + 1) l = some true := by
    intro k hk
    have e5 : spec_l9Cost.f (k + 1) m = some c := h5 (k + 1) (by omega)
    have es : spec_CostOf.f (k + 1) m = some (if goodB m r then (c, true) else (0, false)) := by
      unfold spec_CostOf.f
      rw [h3 (k + 1) (by omega), Option.bind_some]
      cases goodB m r
      · rfl
      · simp only [if_true]; rw [e5]; rfl
    have ei : impl_CostOf.f (k + 1) m = some (if goodB m r then (c, true) else (0, false)) := by
      unfold impl_CostOf.f
      rw [h4 (k + 1) (by omega), Option.bind_some]
      cases goodB m r
      · rfl
      · simp only [if_true]; rw [impl_cost_same]; unfold spec_l9Cost.f at e5; rw [e5]; rfl
    unfold laws_FnExactCostOf.f
    rw [h0 (k + 1) (by omega), Option.bind_some]
    split
    · rfl
    · rw [h1 (k + 1) (by omega), Option.bind_some, es, Option.bind_some, Option.bind_some, ei, Option.bind_some]
      rw [if_pos rfl]
      simp only [laws_FnExactCostOf.j0, bne_self_eq_false]
      rw [if_neg (by decide), h1 k (by omega), Option.bind_some, h6 k (by omega)]
      rfl
  exact ⟨_, key _ (Nat.le_refl _)⟩

end Go.Proofs.Ytpbelbckinpinaa.Pure
