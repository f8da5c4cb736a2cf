/- The change that a command is compiled to makes what the command makes, and touches nothing beyond its reach, for drawn documents and commands. -/
import Derived.Test.YtmigfgcpdelnfaaAFnCommandsx20
set_option linter.unusedVariables false
set_option linter.unusedSimpArgs false
namespace Go.Proofs.Ytmigfgcpdelnfaa.Pure
open Go.RowKit Go.Proofs.Ytmigfgcpdelnfaa.AFnCommands Go.Proofs.YtmigfgcpdelnfaaW.PrintWords Go.Proofs.YtmigfgcpdelnfaaW.PrintLast Go.Proofs.YtmigfgcpdelnfaaW.PrintMore
theorem O_ {p : Prop} (h : p := by omega) : p := h
theorem bs_ : type_of% @Option.bind_some := @Option.bind_some
theorem tN_ : type_of% @Int.toNat_natCast := @Int.toNat_natCast
theorem zE_ : type_of% @ByteArray.size_extract := @ByteArray.size_extract
theorem zA_ : type_of% @ByteArray.size_append := @ByteArray.size_append
theorem lA_ : type_of% @List.length_append := @List.length_append
theorem lS_ : type_of% @List.length_singleton := @List.length_singleton
theorem ip_ : type_of% @if_pos := @if_pos
theorem iN_ : type_of% @if_neg := @if_neg
theorem lM_ : type_of% @List.length_map := @List.length_map

theorem w64 {i : Int} (h0 : -4611686018427387904 ≤ i) (h : i ≤ 4611686018427387904) : wrap64 i = i := by
 unfold wrap64; omega
def nmB (c : Int) : Bool := decide (65 ≤ c) && decide (c ≤ 70)
def plB (c : Int) : Bool := (decide (97 ≤ c) && decide (c ≤ 122)) || ((decide (48 ≤ c) && decide (c ≤ 57)) || (decide (c = 32) || (decide (c = 46) || decide (c = 44))))
def okB (c : Int) : Bool := nmB c || (plB c || decide (c = 47))
def okN (s : ByteArray) : Nat → Nat → Bool
 | 0, _ => true
 | d + 1, i => okB (bt s i) && okN s d (i + 1)
def textB (s : ByteArray) : Bool := okN s s.size 0 && decide (s.size ≤ 300)
theorem textB_size {s : ByteArray} (h : textB s = true) : s.size ≤ 300 := by
 unfold textB at h; simp at h; exact h.2
theorem impl_isName_eq (c : Int) : impl_isName.f c = some (nmB c) := by
 unfold impl_isName.f nmB
 by_cases h1 : c ≥ 65 <;> simp [h1] <;> omega
theorem impl_isPlain_eq (c : Int) : impl_isPlain.f c = some (plB c) := by
 unfold impl_isPlain.f plB
 by_cases h1 : 97 ≤ c <;> by_cases h2 : c ≤ 122 <;> by_cases h3 : 48 ≤ c <;> by_cases h4 : c ≤ 57 <;> by_cases h5 : c = 32 <;> by_cases h6 : c = 46 <;> simp [h1, h2, h3, h4, h5, h6] <;> rfl
theorem impl_GoodText_l (s : ByteArray) (hs : s.size ≤ 140737488351232) : ∀ (d i : Nat), i + d = s.size →
  ∃ K, ∀ k, K ≤ k → impl_GoodText.l0 k s (s.size : Int) (i : Int) = some (okN s d i && decide (s.size ≤ 300)) := by
 intro d
 induction d with
 | zero =>
  intro i hi
  refine ⟨1, fun k hk => ?_⟩
  obtain ⟨k, rfl⟩ : ∃ m, k = m + 1 := ⟨k - 1, O_⟩
  simp only [impl_GoodText.l0]
  rw [iN_ O_]
  simp [okN]
  omega
 | succ d ih =>
  intro i hi
  obtain ⟨K, hK⟩ := ih (i + 1) O_
  refine ⟨K + 1, fun k hk => ?_⟩
  obtain ⟨k, rfl⟩ : ∃ m, k = m + 1 := ⟨k - 1, O_⟩
  have hr := hK k O_
  simp only [impl_GoodText.l0]
  rw [ip_ O_, ip_ O_, ip_ O_, impl_isName_eq, bs_, impl_isPlain_eq, bs_, w64 O_ O_]
  have hc : ((i : Int) + 1) = ((i + 1 : Nat) : Int) := by omega
  rw [hc, hr]
  show _ = some ((okB (bt s i) && okN s d (i + 1)) && _)
  unfold okB
  cases nmB (bt s i) <;> cases plB (bt s i) <;> by_cases h : bt s i = 47 <;> simp [h]
theorem impl_GoodText_ev (s : ByteArray) (hs : s.size ≤ 140737488351232) : ∃ K, ∀ k, K ≤ k → impl_GoodText.f k s = some (textB s) := by
 obtain ⟨K, hK⟩ := impl_GoodText_l s hs s.size 0 O_
 exact ⟨K, fun k hk => by unfold impl_GoodText.f; exact hK k hk⟩
theorem spec_l1Open_eq (c : Int) : spec_l1Open.f c = some (nmB c) := by
 unfold spec_l1Open.f nmB
 by_cases h1 : c ≥ 65 <;> simp [h1] <;> omega
theorem spec_l1Plain_eq (c : Int) : spec_l1Plain.f c = some (plB c) := by
 unfold spec_l1Plain.f plB
 by_cases h1 : 97 ≤ c <;> by_cases h2 : c ≤ 122 <;> by_cases h3 : 48 ≤ c <;> by_cases h4 : c ≤ 57 <;> by_cases h5 : c = 32 <;> by_cases h6 : c = 46 <;> simp [h1, h2, h3, h4, h5, h6] <;> rfl
theorem spec_l1Text_l (s : ByteArray) (hs : s.size ≤ 140737488351232) : ∀ (d i : Nat), i + d = s.size →
  ∃ K, ∀ k, K ≤ k → spec_l1Text.l0 k s (i : Int) = some (okN s d i) := by
 intro d
 induction d with
 | zero =>
  intro i hi
  refine ⟨1, fun k hk => ?_⟩
  obtain ⟨k, rfl⟩ : ∃ m, k = m + 1 := ⟨k - 1, O_⟩
  simp only [spec_l1Text.l0]
  rw [iN_ O_]
  simp [okN]
 | succ d ih =>
  intro i hi
  obtain ⟨K, hK⟩ := ih (i + 1) O_
  refine ⟨K + 1, fun k hk => ?_⟩
  obtain ⟨k, rfl⟩ : ∃ m, k = m + 1 := ⟨k - 1, O_⟩
  have hr := hK k O_
  simp only [spec_l1Text.l0]
  rw [ip_ O_, ip_ O_, spec_l1Open_eq, bs_, spec_l1Plain_eq, bs_, w64 O_ O_]
  have hc : ((i : Int) + 1) = ((i + 1 : Nat) : Int) := by omega
  rw [hc, hr]
  show _ = some (okB (bt s i) && okN s d (i + 1))
  unfold okB
  cases nmB (bt s i) <;> cases plB (bt s i) <;> by_cases h : bt s i = 47 <;> simp [h]
theorem spec_GoodText_ev (s : ByteArray) (hs : s.size ≤ 140737488351232) : ∃ K, ∀ k, K ≤ k → spec_GoodText.f k s = some (textB s) := by
 obtain ⟨K, hK⟩ := spec_l1Text_l s hs s.size 0 O_
 refine ⟨K, fun k hk => ?_⟩
 have h := hK k hk
 unfold spec_GoodText.f spec_l1Text.f
 simp only [Int.cast_ofNat_Int] at h
 rw [h, bs_]
 unfold textB
 cases okN s s.size 0 <;> simp <;> omega
theorem toList_data (s : ByteArray) : s.toList = s.data.toList := by
 have h : ∀ (n i : Nat) (r : List UInt8), s.size - i = n → ByteArray.toList.loop s i r = r.reverse ++ s.data.toList.drop i := by
  intro n
  induction n with
  | zero =>
   intro i r h
   unfold ByteArray.toList.loop
   rw [iN_ O_, List.drop_of_length_le (by rw [Array.length_toList]; show s.size ≤ i; omega)]; simp
  | succ n ih =>
   intro i r h
   have hi : i < s.size := by omega
   unfold ByteArray.toList.loop
   have e2 : s.data.toList.drop i = s.data.toList[i]'(by rw [Array.length_toList]; exact hi) :: s.data.toList.drop (i + 1) := List.drop_eq_getElem_cons (by rw [Array.length_toList]; exact hi)
   have e : s.get! i = s.data.toList[i]'(by rw [Array.length_toList]; exact hi) := by
    show s.data[i]! = _
    rw [getElem!_pos s.data i hi]; simp
   rw [ip_ hi, ih (i + 1) _ O_, e2, e, List.reverse_cons, List.append_assoc]; rfl
 unfold ByteArray.toList
 rw [h s.size 0 [] O_]; simp
theorem bt_data (s : ByteArray) (i : Nat) (h : i < s.size) : bt s (i : Int) = ((s.data.toList[i]'(by rw [Array.length_toList]; exact h)).toNat : Int) := by
 unfold bt
 rw [dif_pos O_]
 simp [ByteArray.getElem_eq_getElem_data]
theorem toList_eq_iff (a b : ByteArray) : a.toList = b.toList ↔ a.size = b.size ∧ ∀ j : Nat, j < a.size → bt a (j : Int) = bt b (j : Int) := by
 rw [toList_data, toList_data]
 constructor
 ·intro h
  have hl : a.size = b.size := by
   have := congrArg List.length h
   rw [Array.length_toList, Array.length_toList] at this; exact this
  refine ⟨hl, fun j hj => ?_⟩
  rw [bt_data a j hj, bt_data b j O_]
  simp only [h]
 ·intro ⟨hl, h⟩
  apply List.ext_getElem
  ·rw [Array.length_toList, Array.length_toList]; exact hl
  ·intro j h1 h2
   rw [Array.length_toList] at h1 h2
   have := h j h1
   rw [bt_data a j h1, bt_data b j h2] at this
   have h3 : (a.data.toList[j]'(by rw [Array.length_toList]; exact h1)).toNat = (b.data.toList[j]'(by rw [Array.length_toList]; exact h2)).toNat := by omega
   exact UInt8.toNat_inj.mp h3
theorem bt_extract (s : ByteArray) (i j n : Nat) (hj : j ≤ s.size) (hn : i + n < j) : bt (s.extract i j) (n : Int) = bt s ((i + n : Nat) : Int) := by
 have h1 : n < (s.extract i j).size := by rw [zE_]; omega
 unfold bt
 rw [dif_pos (by simpa using h1), dif_pos O_]
 simp only [tN_, ByteArray.getElem_extract]
def small (x : S61) : Prop := x.f1.size ≤ 140737488351232 ∧ x.f2.size ≤ 140737488351232
def smallL (l : List S61) : Prop := l.length ≤ 3518437208780 ∧ ∀ x ∈ l, small x
theorem small_z : small z61 := ⟨by decide, by decide⟩
theorem small_rd {l : List S61} (h : smallL l) (i : Int) : small (rd_T61 l i) := by
 unfold rd_T61
 rw [List.getD_eq_getElem?_getD]
 cases e : l[i.toNat]? with
 | none => exact small_z
 | some x => exact h.2 x (List.mem_of_getElem? e)
def partB (a : Int) (b c : ByteArray) : Bool :=
 if a = 0 then (if b.toList = [] then (if c.toList = [] then false else textB c) else (if c.toList = [] then textB b else false))
 else (decide (1 ≤ a) && decide (a ≤ 300)) && (if b.toList = [] then c.toList == [] else false)
def pN (l : List S61) : Nat → Nat → Bool
 | 0, _ => true
 | d + 1, i => partB (rd_T61 l (i : Int)).f0 (rd_T61 l (i : Int)).f1 (rd_T61 l (i : Int)).f2 && pN l d (i + 1)
def sizesB (r : Int × Int) : Bool := if r.1 ≤ 300 then decide (r.2 ≤ 300) else false
theorem spec_l3Part_ev (a : Int) (b c : ByteArray) (hb : b.size ≤ 140737488351232) (hc : c.size ≤ 140737488351232) : ∃ K, ∀ k, K ≤ k → spec_l3Part.f k a b c = some (partB a b c) := by
 obtain ⟨K1, h1⟩ := spec_GoodText_ev b hb
 obtain ⟨K2, h2⟩ := spec_GoodText_ev c hc
 refine ⟨K1 + K2, fun k hk => ?_⟩
 unfold spec_l3Part.f partB spec_l1In.f
 rw [h1 k O_, h2 k O_]
 by_cases e0 : a = 0
 ·simp only [ip_ e0, bs_]
  by_cases e1 : b.toList = [] <;> by_cases e2 : c.toList = [] <;> simp [e1, e2]
 ·simp only [iN_ e0]
  by_cases e1 : a ≥ 1
  ·by_cases e2 : a ≤ 300
   ·simp only [ip_ e1, bs_, decide_eq_true e2, ip_, decide_eq_true e1, Bool.and_self, Bool.true_and]
    by_cases e3 : b.toList = [] <;> simp [e3]
   ·simp [e1, e2]
  ·simp only [iN_ e1, bs_]
   simp
   intro h
   omega
theorem spec_sizes_l (l : List S61) (hl : l.length ≤ 3518437208780) : ∀ (d i : Nat), i + d = l.length → ∀ a b : Int, ∃ r K, ∀ k, K ≤ k → spec_l3Sizes.l0 k a b l (l.length : Int) (i : Int) = some r := by
 intro d
 induction d with
 | zero =>
  intro i hi a b
  refine ⟨(a, b), 1, fun k hk => ?_⟩
  obtain ⟨k, rfl⟩ : ∃ m, k = m + 1 := ⟨k - 1, O_⟩
  simp only [spec_l3Sizes.l0]
  rw [iN_ O_]
 | succ d ih =>
  intro i hi a b
  obtain ⟨r, K, hK⟩ := ih (i + 1) O_ (wrap64 (a + (wrap64 (((rd_T61 l (i : Int)).f0) + (((rd_T61 l (i : Int)).f2).size : Int))))) (wrap64 (b + (wrap64 (((rd_T61 l (i : Int)).f0) + (((rd_T61 l (i : Int)).f1).size : Int)))))
  refine ⟨r, K + 1, fun k hk => ?_⟩
  obtain ⟨k, rfl⟩ : ∃ m, k = m + 1 := ⟨k - 1, O_⟩
  have hr := hK k O_
  simp only [spec_l3Sizes.l0]
  rw [ip_ O_, ip_ O_, ip_ O_, w64 (i := (i : Int) + 1) O_ O_]
  exact hr
theorem spec_sizes_ev (l : List S61) (hl : l.length ≤ 3518437208780) : ∃ r K, ∀ k, K ≤ k → spec_l3Sizes.f k l = some r :=
 spec_sizes_l l hl l.length 0 O_ 0 0
theorem spec_GoodOp_l (l : List S61) (hl : smallL l) (r : Int × Int) (K0 : Nat) (h0 : ∀ k, K0 ≤ k → spec_l3Sizes.f k l = some r) : ∀ (d i : Nat), i + d = l.length → ∃ K, ∀ k, K ≤ k → spec_GoodOp.l0 k l l (l.length : Int) (i : Int) = some (pN l d i && sizesB r) := by
 have hl1 := hl.1
 intro d
 induction d with
 | zero =>
  intro i hi
  refine ⟨K0 + 1, fun k hk => ?_⟩
  obtain ⟨k, rfl⟩ : ∃ m, k = m + 1 := ⟨k - 1, O_⟩
  simp only [spec_GoodOp.l0]
  rw [iN_ O_, h0 k O_, bs_]
  unfold sizesB pN
  by_cases e : r.1 ≤ 300 <;> simp [e]
 | succ d ih =>
  intro i hi
  obtain ⟨K, hK⟩ := ih (i + 1) O_
  have hs := small_rd hl (i : Int)
  obtain ⟨K1, h1⟩ := spec_l3Part_ev (rd_T61 l (i : Int)).f0 _ _ hs.1 hs.2
  refine ⟨K + K1 + 1, fun k hk => ?_⟩
  obtain ⟨k, rfl⟩ : ∃ m, k = m + 1 := ⟨k - 1, O_⟩
  have hr := hK k O_
  simp only [spec_GoodOp.l0]
  rw [ip_ O_, ip_ O_, ip_ O_, h1 k O_, bs_, w64 O_ O_]
  have hc : ((i : Int) + 1) = ((i + 1 : Nat) : Int) := by omega
  rw [hc, hr]
  rw [show pN l (d + 1) i = (partB (rd_T61 l (i : Int)).f0 (rd_T61 l (i : Int)).f1 (rd_T61 l (i : Int)).f2 && pN l d (i + 1)) from rfl]
  cases partB (rd_T61 l (i : Int)).f0 (rd_T61 l (i : Int)).f1 (rd_T61 l (i : Int)).f2 <;> simp
def goodB (l : List S61) (r : Int × Int) : Bool := decide (l.length ≤ 60) && (pN l l.length 0 && sizesB r)
theorem spec_GoodOp_ev (l : List S61) (hl : smallL l) (r : Int × Int) (K0 : Nat) (h0 : ∀ k, K0 ≤ k → spec_l3Sizes.f k l = some r) : ∃ K, ∀ k, K ≤ k → spec_GoodOp.f k l = some (goodB l r) := by
 obtain ⟨K, hK⟩ := spec_GoodOp_l l hl r K0 h0 l.length 0 O_
 refine ⟨K, fun k hk => ?_⟩
 have h := hK k hk
 unfold spec_GoodOp.f goodB
 by_cases e : (l.length : Int) > 60
 ·rw [ip_ e, decide_eq_false O_]; rfl
 ·rw [iN_ e, decide_eq_true O_, Bool.true_and]
  exact h
theorem impl_sizes_same (l : List S61) : ∀ k a b i, impl_sizes.l0 k a b l (l.length : Int) i = spec_l3Sizes.l0 k a b l (l.length : Int) i := by
 intro k
 induction k with
 | zero => intro a b i; rfl
 | succ k ih =>
  intro a b i
  simp only [impl_sizes.l0, spec_l3Sizes.l0, ih]
theorem impl_sizes_ev (l : List S61) (k : Nat) : impl_sizes.f k l = spec_l3Sizes.f k l := impl_sizes_same l k 0 0 0
theorem impl_isPart_ev (a : Int) (b c : ByteArray) (hb : b.size ≤ 140737488351232) (hc : c.size ≤ 140737488351232) : ∃ K, ∀ k, K ≤ k → impl_Part_isPart.f k a b c = some (partB a b c) := by
 obtain ⟨K1, h1⟩ := impl_GoodText_ev b hb
 obtain ⟨K2, h2⟩ := impl_GoodText_ev c hc
 refine ⟨K1 + K2, fun k hk => ?_⟩
 unfold impl_Part_isPart.f partB
 rw [h1 k O_, h2 k O_]
 by_cases e0 : a = 0
 ·simp only [ip_ e0, bs_]
  by_cases e1 : b.toList = [] <;> by_cases e2 : c.toList = [] <;> simp [e1, e2]
 ·simp only [iN_ e0]
  by_cases e1 : a ≥ 1
  ·by_cases e2 : a ≤ 300
   ·simp only [ip_ e1, ip_ e2, decide_eq_true e2, decide_eq_true e1, Bool.and_self, Bool.true_and]
    by_cases e3 : b.toList = [] <;> simp [e3]
   ·simp [e1, e2]
  ·simp only [iN_ e1]
   simp
   intro h
   omega
theorem impl_Part_82_l (l : List S61) (hl : smallL l) : ∀ (d i : Nat), i + d = l.length → ∃ t : Int, decide (t ≥ 0) = !(pN l d i) ∧ ∃ K, ∀ k, K ≤ k → impl_Part_82.l0 k l (l.length : Int) (i : Int) = some t := by
 have hl1 := hl.1
 intro d
 induction d with
 | zero =>
  intro i hi
  refine ⟨-1, rfl, 1, fun k hk => ?_⟩
  obtain ⟨k, rfl⟩ : ∃ m, k = m + 1 := ⟨k - 1, O_⟩
  simp only [impl_Part_82.l0]
  rw [iN_ O_]
 | succ d ih =>
  intro i hi
  have hs := small_rd hl (i : Int)
  obtain ⟨K1, h1⟩ := impl_isPart_ev (rd_T61 l (i : Int)).f0 _ _ hs.1 hs.2
  cases hp : partB (rd_T61 l (i : Int)).f0 (rd_T61 l (i : Int)).f1 (rd_T61 l (i : Int)).f2 with
  | false =>
   refine ⟨(i : Int), by unfold pN; rw [hp]; simp, K1 + 1, fun k hk => ?_⟩
   obtain ⟨k, rfl⟩ : ∃ m, k = m + 1 := ⟨k - 1, O_⟩
   simp only [impl_Part_82.l0, impl_GoodOp_1.f]
   rw [ip_ O_, ip_ O_, ip_ O_, h1 k O_, hp]
   rfl
  | true =>
   obtain ⟨t, ht, K, hK⟩ := ih (i + 1) O_
   refine ⟨t, by unfold pN; rw [hp, ht, Bool.true_and], K + K1 + 1, fun k hk => ?_⟩
   obtain ⟨k, rfl⟩ : ∃ m, k = m + 1 := ⟨k - 1, O_⟩
   have hr := hK k O_
   simp only [impl_Part_82.l0, impl_GoodOp_1.f]
   rw [ip_ O_, ip_ O_, ip_ O_, h1 k O_, hp, w64 O_ O_]
   exact hr
theorem impl_GoodOp_ev (l : List S61) (hl : smallL l) (r : Int × Int) (K0 : Nat) (h0 : ∀ k, K0 ≤ k → spec_l3Sizes.f k l = some r) : ∃ K, ∀ k, K ≤ k → impl_GoodOp.f k l = some (goodB l r) := by
 obtain ⟨t, ht, K, hK⟩ := impl_Part_82_l l hl l.length 0 O_
 refine ⟨K + K0, fun k hk => ?_⟩
 have h : impl_Part_82.f k l = some t := hK k O_
 unfold impl_GoodOp.f goodB impl_Part_64.f
 by_cases e : (l.length : Int) > 60
 ·rw [ip_ e, decide_eq_false O_]; rfl
 ·rw [iN_ e, decide_eq_true O_, h, Bool.true_and]
  simp only [bs_, ht]
  rw [impl_sizes_ev, h0 k O_, bs_]
  unfold sizesB
  cases pN l l.length 0 <;> by_cases e1 : r.1 ≤ 300 <;> simp [e1]
theorem ba_nil_append (a : ByteArray) : (⟨#[]⟩ : ByteArray) ++ a = a := by
 apply ByteArray.ext; simp [ByteArray.data_append]
theorem ba_append_nil (a : ByteArray) : a ++ (⟨#[]⟩ : ByteArray) = a := by
 apply ByteArray.ext; simp [ByteArray.data_append]
theorem ba_assoc (a b c : ByteArray) : a ++ b ++ c = a ++ (b ++ c) := by
 apply ByteArray.ext; simp [ByteArray.data_append]
theorem ba_of_toList {a b : ByteArray} (h : a.toList = b.toList) : a = b := by
 rw [toList_data, toList_data] at h
 apply ByteArray.ext
 exact Array.toList_inj.mp h
theorem ba_extract_extract (s : ByteArray) (a i j : Nat) (hj : a + j ≤ s.size) : (s.extract a s.size).extract i j = s.extract (a + i) (a + j) := by
 apply ByteArray.ext
 simp only [ByteArray.data_extract, Array.extract_extract]
 congr 1
 exact Nat.min_eq_left hj
theorem ba_extract_end (s : ByteArray) (a i : Nat) (hi : a + i ≤ s.size) : (s.extract a s.size).extract i (s.extract a s.size).size = s.extract (a + i) s.size := by
 have : (s.extract a s.size).size = s.size - a := by rw [zE_]; omega
 rw [this, ba_extract_extract s a i (s.size - a) O_]
 congr 1
 omega
theorem ba_extract_add (s : ByteArray) (a b c : Nat) (h1 : a ≤ b) (h2 : b ≤ c) : s.extract a b ++ s.extract b c = s.extract a c := by
 apply ByteArray.ext
 simp only [ByteArray.data_append, ByteArray.data_extract, Array.extract_append_extract]
 congr 1 <;> omega
theorem ba_extract_same (s : ByteArray) (a : Nat) : s.extract a a = ⟨#[]⟩ := by
 apply ByteArray.ext
 simp only [ByteArray.data_extract]
 apply Array.eq_empty_of_size_eq_zero
 simp
 omega
theorem ba_extract_all (s : ByteArray) : s.extract 0 s.size = s := by
 apply ByteArray.ext
 simp only [ByteArray.data_extract]
 exact Array.extract_size
inductive Pt
 | K (n : Nat)
 | W (w : ByteArray)
 | D (d : ByteArray)
def encP : Pt → S61
 | .K n => ⟨(n : Int), ⟨#[]⟩, ⟨#[]⟩⟩
 | .W w => ⟨0, w, ⟨#[]⟩⟩
 | .D d => ⟨0, ⟨#[]⟩, d⟩
def stepP (s : ByteArray) (st : ByteArray × Nat) : Pt → Option (ByteArray × Nat)
 | .K n => if st.2 + n ≤ s.size then some (st.1 ++ s.extract st.2 (st.2 + n), st.2 + n) else none
 | .W w => some (st.1 ++ w, st.2)
 | .D d => if st.2 + d.size ≤ s.size ∧ s.extract st.2 (st.2 + d.size) = d then some (st.1, st.2 + d.size) else none
def runP (s : ByteArray) : List Pt → ByteArray × Nat → Option (ByteArray × Nat)
 | [], st => some st
 | q :: l, st => (stepP s st q).bind (runP s l)
theorem runP_append (s : ByteArray) : ∀ (a b : List Pt) (st : ByteArray × Nat), runP s (a ++ b) st = (runP s a st).bind (runP s b)
 | [], b, st => rfl
 | q :: a, b, st => by
  show (stepP s st q).bind (runP s (a ++ b)) = ((stepP s st q).bind (runP s a)).bind (runP s b)
  cases stepP s st q with
  | none => rfl
  | some t => exact runP_append s a b t
def addP : List Pt → Pt → List Pt
 | .K a :: r, .K b => .K (a + b) :: r
 | .D a :: r, .D b => .D (a ++ b) :: r
 | .W a :: r, .W b => .W (a ++ b) :: r
 | .D d :: .W a :: r, .W b => .D d :: .W (a ++ b) :: r
 | .D d :: r, .W b => .D d :: .W b :: r
 | r, q => q :: r
theorem runP_snoc (s : ByteArray) (a : List Pt) (q : Pt) (st : ByteArray × Nat) : runP s (a ++ [q]) st = (runP s a st).bind fun t => stepP s t q := by
 rw [runP_append]
 cases runP s a st with
 | none => rfl
 | some t => show (stepP s t q).bind (fun u => some u) = stepP s t q; cases stepP s t q <;> rfl
theorem merge_last (s : ByteArray) (r : List Pt) (x y z : Pt) (hm : ∀ t u v, stepP s t x = some u → stepP s u y = some v → stepP s t z = some v) (st v : ByteArray × Nat) (h : (runP s (x :: r).reverse st).bind (fun t => stepP s t y) = some v) : runP s (z :: r).reverse st = some v := by
 rw [List.reverse_cons, runP_snoc] at h ⊢
 obtain ⟨u, hu, hv⟩ := Option.bind_eq_some_iff.mp h
 obtain ⟨t, ht, hx⟩ := Option.bind_eq_some_iff.mp hu
 rw [ht]
 exact hm t u v hx hv
theorem runP_add (s : ByteArray) (r : List Pt) (q : Pt) (st v : ByteArray × Nat) (h : (runP s r.reverse st).bind (fun t => stepP s t q) = some v) : runP s (addP r q).reverse st = some v := by
 have plain : runP s (q :: r).reverse st = some v := by rw [List.reverse_cons, runP_snoc]; exact h
 have swap : ∀ (d b : ByteArray) (r' : List Pt), r = .D d :: r' → q = .W b → (runP s (.W b :: r').reverse st).bind (fun t => stepP s t (.D d)) = some v := by
  intro d b r' hr hq
  subst hr; subst hq
  rw [List.reverse_cons, runP_snoc] at h ⊢
  obtain ⟨u, hu, hv⟩ := Option.bind_eq_some_iff.mp h
  obtain ⟨t, ht, hx⟩ := Option.bind_eq_some_iff.mp hu
  rw [ht]
  simp only [stepP] at hx hv ⊢
  split at hx
  ·rename_i c
   cases hx
   simp only [bs_]
   rw [ip_ c]
   exact hv
  ·cases hx
 match r, q with
 | .K a :: r, .K b =>
  refine merge_last s r (.K a) (.K b) (.K (a + b)) (fun t u v h1 h2 => ?_) st v h
  simp only [stepP] at h1 h2 ⊢
  split at h1
  ·cases h1
   simp only at h2
   split at h2
   ·cases h2
    rw [ip_ O_, ba_assoc, ba_extract_add s _ _ _ O_ O_, Nat.add_assoc]
   ·cases h2
  ·cases h1
 | .D a :: r, .D b =>
  refine merge_last s r (.D a) (.D b) (.D (a ++ b)) (fun t u v h1 h2 => ?_) st v h
  simp only [stepP] at h1 h2 ⊢
  split at h1
  ·rename_i c1
   cases h1
   simp only at h2
   split at h2
   ·rename_i c2
    cases h2
    rw [ip_, zA_, Nat.add_assoc]
    rw [zA_]
    refine ⟨O_, ?_⟩
    rw [← ba_extract_add s t.2 (t.2 + a.size) _ O_ O_, c1.2, ← Nat.add_assoc, c2.2]
   ·cases h2
  ·cases h1
 | .W a :: r, .W b =>
  refine merge_last s r (.W a) (.W b) (.W (a ++ b)) (fun t u v h1 h2 => ?_) st v h
  simp only [stepP] at h1 h2 ⊢
  cases h1
  cases h2
  rw [ba_assoc]
 | .D d :: .W a :: r, .W b =>
  have h' := swap d b (.W a :: r) rfl rfl
  show runP s (.D d :: .W (a ++ b) :: r).reverse st = some v
  rw [List.reverse_cons, runP_snoc]
  obtain ⟨u, hu, hv⟩ := Option.bind_eq_some_iff.mp h'
  rw [List.reverse_cons, runP_snoc] at hu
  rw [merge_last s r (.W a) (.W b) (.W (a ++ b)) (fun t u v h1 h2 => by simp only [stepP] at h1 h2 ⊢; cases h1; cases h2; rw [ba_assoc]) st u hu]
  exact hv
 | .D d :: [], .W b =>
  have h' := swap d b [] rfl rfl
  show runP s (.D d :: .W b :: []).reverse st = some v
  rw [List.reverse_cons, runP_snoc]; exact h'
 | .D d :: .K a :: r, .W b =>
  have h' := swap d b (.K a :: r) rfl rfl
  show runP s (.D d :: .W b :: .K a :: r).reverse st = some v
  rw [List.reverse_cons, runP_snoc]; exact h'
 | .D d :: .D a :: r, .W b =>
  have h' := swap d b (.D a :: r) rfl rfl
  show runP s (.D d :: .W b :: .D a :: r).reverse st = some v
  rw [List.reverse_cons, runP_snoc]; exact h'
 | [], .K b => exact plain
 | [], .W b => exact plain
 | [], .D b => exact plain
 | .K a :: r, .W b => exact plain
 | .K a :: r, .D b => exact plain
 | .W a :: r, .K b => exact plain
 | .W a :: r, .D b => exact plain
 | .D a :: r, .K b => exact plain
def okP : Pt → Prop
 | .K n => 0 < n ∧ n ≤ 4000000
 | .W w => 0 < w.size ∧ w.size ≤ 4000000
 | .D d => 0 < d.size ∧ d.size ≤ 4000000
theorem nil_toList : (⟨#[]⟩ : ByteArray).toList = ([] : List UInt8) := by rw [toList_data]
theorem pos_toList {w : ByteArray} (h : 0 < w.size) : ¬ w.toList = ([] : List UInt8) := by
 rw [toList_data]
 intro e
 have := congrArg List.length e
 rw [Array.length_toList] at this
 have e2 : w.data.size = 0 := this
 have e3 : w.data.size = w.size := rfl
 omega
theorem rd_last (M : List S61) (x : S61) : rd_T61 (M ++ [x]) (M.length : Int) = x := by
 unfold rd_T61
 rw [tN_, List.getD_eq_getElem?_getD, List.getElem?_append_right (Nat.le_refl _)]
 simp
theorem rd_last2 (M : List S61) (x y : S61) : rd_T61 (M ++ [x] ++ [y]) (M.length : Int) = x := by
 unfold rd_T61
 rw [tN_, List.getD_eq_getElem?_getD, List.append_assoc, List.getElem?_append_right (Nat.le_refl _)]
 simp
theorem encP_rev (r : List Pt) (x : Pt) : (x :: r).reverse.map encP = r.reverse.map encP ++ [encP x] := by
 rw [List.reverse_cons, List.map_append]; rfl
theorem l3Add_0 (k : Nat) (q : Pt) (hq : okP q) : spec_l3Add.f (k + 5) [] (encP q).f0 (encP q).f1 (encP q).f2 = some [encP q] := by
 cases q with
 | K n =>
  have h : ¬ n = 0 := by have := hq.1; omega
  simp [spec_l3Add.f, spec_l3Add.j0, encP, h]
 | W w => simp [spec_l3Add.f, spec_l3Add.j0, encP, pos_toList hq.1]
 | D d => simp [spec_l3Add.f, spec_l3Add.j0, encP, pos_toList hq.1, nil_toList]
theorem l3Add_K (k : Nat) (L : List S61) (N : Nat) (hL : L.length = N + 1) (hN : N ≤ 4000000) (x : S61) (hx : rd_T61 L (N : Int) = x) (n : Nat) (hn : 0 < n) :
  spec_l3Add.f (k + 5) L (n : Int) ⟨#[]⟩ ⟨#[]⟩ = if x.f0 > 0 then some (L.set N ⟨wrap64 (x.f0 + n), x.f1, x.f2⟩) else some (L ++ [⟨(n : Int), ⟨#[]⟩, ⟨#[]⟩⟩]) := by
 have hl : ¬ (L.length : Int) = 0 := by omega
 have hi : wrap64 ((L.length : Int) - 1) = (N : Int) := by rw [w64 O_ O_]; omega
 have h0 : (0 : Int) ≤ (N : Int) := by omega
 have h1 : (N : Int) < (L.length : Int) := by omega
 have h2 : L.length < 3518437208883 := by omega
 have e0 : ¬ (n : Int) = 0 := by omega
 have e1 : (n : Int) > 0 := by omega
 simp only [spec_l3Add.f, iN_ e0, spec_l3Add.j0, Bool.false_eq_true, if_false, iN_ hl, hi, ip_ h0, ip_ h1, ip_ e1, hx, spec_l3Add.j1, spec_l3Add.j2, spec_l3Add.j3, spec_l3Add.j4, ip_ h2, nil_toList, if_true, tN_, decide_eq_true_eq]
theorem l3Add_W (k : Nat) (L : List S61) (N : Nat) (hL : L.length = N + 1) (hN : N ≤ 4000000) (x : S61) (hx : rd_T61 L (N : Int) = x) (w : ByteArray) (hw : 0 < w.size) (hw2 : w.size ≤ 4000000) (hx2 : x.f1.size ≤ 4000000) (y : S61) (hy : 1 ≤ N → rd_T61 L ((N - 1 : Nat) : Int) = y) (hy2 : y.f1.size ≤ 4000000) :
  spec_l3Add.f (k + 5) L 0 w ⟨#[]⟩ = if x.f1.toList ≠ [] then some (L.set N ⟨x.f0, x.f1 ++ w, x.f2⟩) else if x.f2.toList ≠ [] then
   (if 1 ≤ N ∧ y.f1.toList ≠ [] then some (L.set (N - 1) ⟨y.f0, y.f1 ++ w, y.f2⟩) else some (L.set N ⟨0, w, ⟨#[]⟩⟩ ++ [x])) else some (L ++ [⟨0, w, ⟨#[]⟩⟩]) := by
 have hl : ¬ (L.length : Int) = 0 := by omega
 have hi : wrap64 ((L.length : Int) - 1) = (N : Int) := by rw [w64 O_ O_]; omega
 have h0 : (0 : Int) ≤ (N : Int) := by omega
 have h1 : (N : Int) < (L.length : Int) := by omega
 have h2 : L.length < 3518437208883 := by omega
 have e1 : ¬ (0 : Int) > 0 := by omega
 have hw' := pos_toList hw
 have s1 : x.f1.size + w.size ≤ 9223372036854775807 := by omega
 have s2 : y.f1.size + w.size ≤ 9223372036854775807 := by omega
 simp only [spec_l3Add.f, iN_ hw', spec_l3Add.j0, Bool.false_eq_true, if_false, iN_ hl, hi, ip_ h0, ip_ h1, iN_ e1, hx, spec_l3Add.j1, spec_l3Add.j2, spec_l3Add.j3, nil_toList, if_true, tN_, ip_ s1]
 by_cases c1 : x.f1.toList = []
 ·simp only [c1, bne_self_eq_false, Bool.false_eq_true, if_false, ne_eq, not_true_eq_false, iN_ hw', spec_l3Add.j4]
  by_cases c2 : x.f2.toList = []
  ·simp only [c2, bne_self_eq_false, Bool.false_eq_true, if_false, not_true_eq_false, ip_ h2]
  ·have c2' : (x.f2.toList != []) = true := bne_iff_ne.mpr c2
   simp only [c2', if_true, not_false_eq_true, c2]
   by_cases c3 : 1 ≤ N
   ·have hj : wrap64 ((L.length : Int) - 2) = ((N - 1 : Nat) : Int) := by rw [w64 O_ O_]; omega
    have h3 : (0 : Int) ≤ ((N - 1 : Nat) : Int) := by omega
    have h4 : ((N - 1 : Nat) : Int) < (L.length : Int) := by omega
    have h5 : (L.length : Int) > 1 := by omega
    simp only [ip_ h5, hj, ip_ h3, ip_ h4, hy c3, hi, ip_ h0, ip_ h1, hx, tN_, ip_ s2, c3, true_and, bs_, List.length_set, ip_ h2]
    by_cases c4 : y.f1.toList = []
    ·simp [c4]
    ·simp [c4]
   ·have h5 : ¬ (L.length : Int) > 1 := by omega
    simp only [iN_ h5, hi, ip_ h0, ip_ h1, tN_, c3, false_and, if_false, bs_, List.length_set, ip_ h2]
 ·have c1' : (x.f1.toList != []) = true := bne_iff_ne.mpr c1
  simp only [c1', if_true, ne_eq, c1, not_false_eq_true]
theorem l3Add_D (k : Nat) (L : List S61) (N : Nat) (hL : L.length = N + 1) (hN : N ≤ 4000000) (x : S61) (hx : rd_T61 L (N : Int) = x) (d : ByteArray) (hd : 0 < d.size) (hd2 : d.size ≤ 4000000) (hx2 : x.f2.size ≤ 4000000) :
  spec_l3Add.f (k + 5) L 0 ⟨#[]⟩ d = if x.f2.toList ≠ [] then some (L.set N ⟨x.f0, x.f1, x.f2 ++ d⟩) else some (L ++ [⟨0, ⟨#[]⟩, d⟩]) := by
 have hl : ¬ (L.length : Int) = 0 := by omega
 have hi : wrap64 ((L.length : Int) - 1) = (N : Int) := by rw [w64 O_ O_]; omega
 have h0 : (0 : Int) ≤ (N : Int) := by omega
 have h1 : (N : Int) < (L.length : Int) := by omega
 have h2 : L.length < 3518437208883 := by omega
 have e1 : ¬ (0 : Int) > 0 := by omega
 have hd' := pos_toList hd
 have hd'' : (d.toList == []) = false := beq_eq_false_iff_ne.mpr hd'
 have s1 : x.f2.size + d.size ≤ 9223372036854775807 := by omega
 simp only [spec_l3Add.f, nil_toList, if_true, hd'', spec_l3Add.j0, Bool.false_eq_true, if_false, iN_ hl, hi, ip_ h0, ip_ h1, iN_ e1, hx, spec_l3Add.j1, spec_l3Add.j2, spec_l3Add.j3, spec_l3Add.j4, iN_ hd', tN_, ip_ s1, ip_ h2]
 by_cases c1 : x.f2.toList = []
 ·simp [c1]
 ·simp [c1]
theorem l3Add_nil (k : Nat) (L : List S61) : spec_l3Add.f (k + 5) L 0 ⟨#[]⟩ ⟨#[]⟩ = some L := by
 simp [spec_l3Add.f, spec_l3Add.j0, nil_toList]
theorem set_at (M : List S61) (x y : S61) : (M ++ [x]).set M.length y = M ++ [y] := by
 rw [List.set_append_right _ _ (Nat.le_refl _)]
 simp
theorem set_at2 (M : List S61) (x z y : S61) : (M ++ [x] ++ [z]).set M.length y = M ++ [y] ++ [z] := by
 rw [List.append_assoc, List.set_append_right _ _ (Nat.le_refl _)]
 simp
theorem l3Add_enc (k : Nat) (r : List Pt) (hr : r.length ≤ 4000000) (hok : ∀ x ∈ r, okP x) (q : Pt) (hq : okP q) :
  spec_l3Add.f (k + 5) (r.reverse.map encP) (encP q).f0 (encP q).f1 (encP q).f2 = some ((addP r q).reverse.map encP) := by
 match r with
 | [] => exact l3Add_0 k q hq
 | x :: r =>
  have hx := hok x (List.mem_cons_self)
  have hr' : r.length ≤ 4000000 := by simp at hr; omega
  rw [encP_rev]
  have hN : ((r.reverse.map encP).length) = r.length := by simp
  have hL : (r.reverse.map encP ++ [encP x]).length = r.length + 1 := by simp
  have hrd : rd_T61 (r.reverse.map encP ++ [encP x]) (r.length : Int) = encP x := by rw [← hN]; exact rd_last _ _
  have hset : ∀ y, (r.reverse.map encP ++ [encP x]).set r.length y = r.reverse.map encP ++ [y] := by intro y; rw [← hN]; exact set_at _ _ _
  have plain : ∀ q' : Pt, addP (x :: r) q' = q' :: x :: r → (addP (x :: r) q').reverse.map encP = r.reverse.map encP ++ [encP x] ++ [encP q'] := by
   intro q' h; rw [h, encP_rev, encP_rev]
  cases q with
  | K n =>
   rw [show (encP (.K n)).f0 = (n : Int) from rfl, show (encP (.K n)).f1 = ⟨#[]⟩ from rfl, show (encP (.K n)).f2 = ⟨#[]⟩ from rfl]
   rw [l3Add_K k _ r.length hL hr' (encP x) hrd n hq.1]
   cases x with
   | K m =>
    have h1 := hx.1
    have h2 := hx.2
    have h3 := hq.2
    rw [ip_ (show (encP (.K m)).f0 > 0 by show (m : Int) > 0; omega), hset]
    show _ = some ((Pt.K (m + n) :: r).reverse.map encP)
    rw [encP_rev]
    show some (_ ++ [(⟨wrap64 ((m : Int) + (n : Int)), ⟨#[]⟩, ⟨#[]⟩⟩ : S61)]) = some (_ ++ [(⟨((m + n : Nat) : Int), ⟨#[]⟩, ⟨#[]⟩⟩ : S61)])
    rw [w64 O_ O_]
    rfl
   | W w =>
    rw [iN_ (show ¬ (encP (.W w)).f0 > 0 by show ¬ (0 : Int) > 0; omega), plain (.K n) rfl]; rfl
   | D d =>
    rw [iN_ (show ¬ (encP (.D d)).f0 > 0 by show ¬ (0 : Int) > 0; omega), plain (.K n) rfl]; rfl
  | W w =>
   rw [show (encP (.W w)).f0 = (0 : Int) from rfl, show (encP (.W w)).f1 = w from rfl, show (encP (.W w)).f2 = ⟨#[]⟩ from rfl]
   have hx1 : (encP x).f1.size ≤ 4000000 := by
    cases x with
    | K m => exact Nat.zero_le _
    | W a => exact hx.2
    | D d => exact Nat.zero_le _
   match r, hr', hN, hL, hrd, hset, plain, hok with
   | [], hr', hN, hL, hrd, hset, plain, hok =>
    rw [l3Add_W k _ 0 hL hr' (encP x) hrd w hq.1 hq.2 hx1 z61 (fun h => by omega) (by decide)]
    cases x with
    | K m => rw [iN_ (by simp [encP, nil_toList]), iN_ (by simp [encP, nil_toList]), plain (.W w) rfl]; rfl
    | W a => rw [ip_ (by exact pos_toList hx.1)]; rfl
    | D d => rw [iN_ (by simp [encP, nil_toList]), ip_ (by exact pos_toList hx.1), iN_ O_]; rfl
   | y :: r, hr', hN, hL, hrd, hset, plain, hok =>
    have hy := hok y (List.mem_cons_of_mem _ List.mem_cons_self)
    have hy1 : (encP y).f1.size ≤ 4000000 := by
     cases y with
     | K m => exact Nat.zero_le _
     | W a => exact hy.2
     | D d => exact Nat.zero_le _
    have hN2 : ((r.reverse.map encP).length) = r.length := by simp
    have hrd2 : rd_T61 ((y :: r).reverse.map encP ++ [encP x]) (((y :: r).length - 1 : Nat) : Int) = encP y := by
     rw [encP_rev, List.length_cons, Nat.add_sub_cancel, ← hN2]; exact rd_last2 _ _ _
    have hset2 : ∀ z, ((y :: r).reverse.map encP ++ [encP x]).set ((y :: r).length - 1) z = r.reverse.map encP ++ [z] ++ [encP x] := by
     intro z; rw [encP_rev, List.length_cons, Nat.add_sub_cancel, ← hN2]; exact set_at2 _ _ _ _
    rw [l3Add_W k _ (y :: r).length hL hr' (encP x) hrd w hq.1 hq.2 hx1 (encP y) (fun _ => hrd2) hy1]
    cases x with
    | K m => rw [iN_ (by simp [encP, nil_toList]), iN_ (by simp [encP, nil_toList]), plain (.W w) rfl]; rfl
    | W a => rw [ip_ (by exact pos_toList hx.1), hset]; show _ = some ((Pt.W (a ++ w) :: y :: r).reverse.map encP); rw [encP_rev (y :: r) (Pt.W (a ++ w))]; rfl
    | D d =>
     rw [iN_ (by simp [encP, nil_toList]), ip_ (by exact pos_toList hx.1)]
     cases y with
     | K m =>
      rw [iN_ (by simp [encP, nil_toList]), hset]
      show _ = some ((Pt.D d :: Pt.W w :: Pt.K m :: r).reverse.map encP)
      rw [encP_rev (.W w :: .K m :: r) (.D d), encP_rev (.K m :: r) (.W w)]; rfl
     | W a =>
      rw [ip_ ⟨by simp, by exact pos_toList hy.1⟩, hset2]
      show _ = some ((Pt.D d :: Pt.W (a ++ w) :: r).reverse.map encP)
      rw [encP_rev (.W (a ++ w) :: r) (.D d), encP_rev r (.W (a ++ w))]; rfl
     | D b =>
      rw [iN_ (by simp [encP, nil_toList]), hset]
      show _ = some ((Pt.D d :: Pt.W w :: Pt.D b :: r).reverse.map encP)
      rw [encP_rev (.W w :: .D b :: r) (.D d), encP_rev (.D b :: r) (.W w)]; rfl
  | D d =>
   rw [show (encP (.D d)).f0 = (0 : Int) from rfl, show (encP (.D d)).f1 = ⟨#[]⟩ from rfl, show (encP (.D d)).f2 = d from rfl]
   have hx2 : (encP x).f2.size ≤ 4000000 := by
    cases x with
    | K m => exact Nat.zero_le _
    | W a => exact Nat.zero_le _
    | D d => exact hx.2
   rw [l3Add_D k _ r.length hL hr' (encP x) hrd d hq.1 hq.2 hx2]
   cases x with
   | K m => rw [iN_ (by simp [encP, nil_toList]), plain (.D d) rfl]; rfl
   | W a => rw [iN_ (by simp [encP, nil_toList]), plain (.D d) rfl]; rfl
   | D b =>
    rw [ip_ (by exact pos_toList hx.1), hset]
    show _ = some ((Pt.D (b ++ d) :: r).reverse.map encP)
    rw [encP_rev]; rfl
def massP : Pt → Nat
 | .K n => n
 | .W w => w.size
 | .D d => d.size
def mass : List Pt → Nat
 | [] => 0
 | q :: r => massP q + mass r
theorem mass_add (r : List Pt) (q : Pt) : mass (addP r q) = mass r + massP q := by
 unfold addP
 split <;> simp [mass, massP, zA_] <;> omega
theorem pos_add (r : List Pt) (q : Pt) (hr : ∀ x ∈ r, 0 < massP x) (hq : 0 < massP q) : ∀ x ∈ addP r q, 0 < massP x := by
 unfold addP
 split <;> simp [massP, zA_] at hr hq ⊢ <;> simp_all <;> omega
theorem mass_mem {r : List Pt} {x : Pt} (h : x ∈ r) : massP x ≤ mass r := by
 induction r with
 | nil => simp at h
 | cons y r ih =>
  rcases List.mem_cons.mp h with rfl | h
  ·simp [mass]
  ·have := ih h; simp only [mass]; omega
theorem mass_len {r : List Pt} (hr : ∀ x ∈ r, 0 < massP x) : r.length ≤ mass r := by
 induction r with
 | nil => simp
 | cons y r ih =>
  have h1 := ih (fun x hx => hr x (List.mem_cons_of_mem _ hx))
  have h2 := hr y List.mem_cons_self
  simp only [mass, List.length_cons]; omega
theorem okP_of {x : Pt} (h0 : 0 < massP x) (h1 : massP x ≤ 4000000) : okP x := by
 cases x <;> exact ⟨h0, h1⟩
def addQ (r : List Pt) (q : Pt) : List Pt := if massP q = 0 then r else addP r q
theorem mass_addQ (r : List Pt) (q : Pt) : mass (addQ r q) = mass r + massP q := by
 unfold addQ
 split
 ·omega
 ·exact mass_add r q
theorem pos_addQ (r : List Pt) (q : Pt) (hr : ∀ x ∈ r, 0 < massP x) : ∀ x ∈ addQ r q, 0 < massP x := by
 unfold addQ
 split
 ·exact hr
 ·exact pos_add r q hr O_
theorem size0_eq {a : ByteArray} (h : a.size = 0) : a = ⟨#[]⟩ := by
 apply ByteArray.ext
 exact Array.eq_empty_of_size_eq_zero h
theorem l3AddQ (k : Nat) (r : List Pt) (hr : ∀ x ∈ r, 0 < massP x) (q : Pt) (hm : mass r + massP q ≤ 4000000) :
  spec_l3Add.f (k + 5) (r.reverse.map encP) (encP q).f0 (encP q).f1 (encP q).f2 = some ((addQ r q).reverse.map encP) := by
 unfold addQ
 split
 ·rename_i h
  have : encP q = ⟨0, ⟨#[]⟩, ⟨#[]⟩⟩ := by
   cases q with
   | K n => have : n = 0 := h; subst this; rfl
   | W w => rw [size0_eq (a := w) h]; rfl
   | D d => rw [size0_eq (a := d) h]; rfl
  rw [this]
  exact l3Add_nil k _
 ·refine l3Add_enc k r ?_ ?_ q (okP_of O_ O_)
  ·have := mass_len hr; omega
  ·intro x hx
   have := mass_mem hx
   exact okP_of (hr x hx) O_
def T (s w : ByteArray) (m : Nat) : Nat → List Nat → ByteArray
 | a, [] => s.extract a s.size
 | a, k :: ks => s.extract a k ++ w ++ T s w m (k + m) ks
def ch (s p : ByteArray) : Nat → List Nat → Prop
 | a, [] => a ≤ s.size
 | a, k :: ks => a ≤ k ∧ k + p.size ≤ s.size ∧ s.extract k (k + p.size) = p ∧ ch s p (k + p.size) ks
def wL (s : ByteArray) : List Pt := if s.toList = [] then [] else [.W s]
def dL (s : ByteArray) : List Pt := if s.toList = [] then [] else [.D s]
def mkL (r0 : List Pt) (put drop : ByteArray) : List Pt := dL drop ++ (wL put ++ r0)
def headK : List Pt → Prop
 | [] => True
 | .K n :: _ => 0 < n
 | _ => False
theorem size0_toList (s : ByteArray) : s.toList = [] ↔ s.size = 0 := by
 rw [toList_data]
 constructor
 ·intro e
  have := congrArg List.length e
  rw [Array.length_toList] at this
  exact this
 ·intro e
  apply List.eq_nil_of_length_eq_zero
  rw [Array.length_toList]
  exact e
theorem encL_append (a b : List Pt) : (a ++ b).reverse.map encP = b.reverse.map encP ++ a.reverse.map encP := by
 rw [List.reverse_append, List.map_append]
theorem ends_enc (r0 : List Pt) (put drop : ByteArray) : r0.reverse.map encP ++ ends put drop = (mkL r0 put drop).reverse.map encP := by
 unfold mkL ends wL dL
 rw [encL_append, encL_append, List.append_assoc]
 congr 1
 by_cases h1 : put.toList = [] <;> by_cases h2 : drop.toList = [] <;> simp [h1, h2, encP]
theorem addP_W (r0 : List Pt) (h : headK r0) (put drop w : ByteArray) (hw : 0 < w.size) : addP (mkL r0 put drop) (.W w) = mkL r0 (put ++ w) drop := by
 have e1 : ¬ (put ++ w).toList = [] := by rw [size0_toList, zA_]; omega
 unfold mkL wL dL
 rw [iN_ e1]
 by_cases h1 : put.toList = []
 ·have hp : put = ⟨#[]⟩ := ba_of_toList (by rw [h1, nil_toList])
  have hpw : put ++ w = w := by rw [hp, ba_nil_append]
  rw [ip_ h1, hpw]
  by_cases h2 : drop.toList = []
  ·rw [ip_ h2]
   match r0, h with
   | [], _ => rfl
   | .K n :: r, _ => rfl
  ·rw [iN_ h2]
   match r0, h with
   | [], _ => rfl
   | .K n :: r, _ => rfl
 ·rw [iN_ h1]
  by_cases h2 : drop.toList = []
  ·rw [ip_ h2]; rfl
  ·rw [iN_ h2]; rfl
theorem addP_D (r0 : List Pt) (h : headK r0) (put drop d : ByteArray) (hd : 0 < d.size) : addP (mkL r0 put drop) (.D d) = mkL r0 put (drop ++ d) := by
 have e1 : ¬ (drop ++ d).toList = [] := by rw [size0_toList, zA_]; omega
 unfold mkL wL dL
 rw [iN_ e1]
 by_cases h2 : drop.toList = []
 ·have hp : drop = ⟨#[]⟩ := ba_of_toList (by rw [h2, nil_toList])
  have hpw : drop ++ d = d := by rw [hp, ba_nil_append]
  rw [ip_ h2, hpw]
  by_cases h1 : put.toList = []
  ·rw [ip_ h1]
   match r0, h with
   | [], _ => rfl
   | .K n :: r, _ => rfl
  ·rw [iN_ h1]; rfl
 ·rw [iN_ h2]; rfl
theorem mkL_nil (r0 : List Pt) : mkL r0 ⟨#[]⟩ ⟨#[]⟩ = r0 := by
 unfold mkL wL dL
 simp only [ip_ nil_toList]; rfl
theorem addP_K_head (r0 : List Pt) (h : headK r0) (put drop : ByteArray) (n : Nat) (hn : 0 < n) : headK (addP (mkL r0 put drop) (.K n)) := by
 unfold mkL wL dL
 by_cases h1 : put.toList = [] <;> by_cases h2 : drop.toList = [] <;> simp only [h1, h2, if_true, if_false, List.nil_append, List.cons_append]
 ·match r0, h with
  | [], _ => exact hn
  | .K m :: r, hm => show 0 < m + n; omega
 ·exact hn
 ·exact hn
 ·exact hn
theorem kO_enc (r0 : List Pt) (h : headK r0) (put drop : ByteArray) (n : Nat) (hn : 0 < n) (hb : n ≤ 4000000) (ht : mass r0 ≤ 4000000) :
  kO (r0.reverse.map encP) put drop (n : Int) = (addP (mkL r0 put drop) (.K n)).reverse.map encP := by
 unfold kO keepO
 rw [iN_ O_, ends_enc]
 have key : ∀ (x : Pt) (r : List Pt), ((x :: r).reverse.map encP).length = r.length + 1 := by intro x r; simp
 have hlast : ∀ (x : Pt) (r : List Pt), rd_T61 ((x :: r).reverse.map encP) ((((x :: r).reverse.map encP).length : Int) - 1) = encP x := by
  intro x r
  rw [key, encP_rev, show (((r.length + 1 : Nat) : Int) - 1) = ((r.reverse.map encP).length : Int) by simp]
  exact rd_last _ _
 have add : ∀ (x : Pt) (r : List Pt), ¬ (encP x).f0 > 0 → (if 0 < ((x :: r).reverse.map encP).length ∧ (rd_T61 ((x :: r).reverse.map encP) ((((x :: r).reverse.map encP).length : Int) - 1)).f0 > 0 then ((x :: r).reverse.map encP).set (((x :: r).reverse.map encP).length - 1) ⟨wrap64 ((rd_T61 ((x :: r).reverse.map encP) ((((x :: r).reverse.map encP).length : Int) - 1)).f0 + (n : Int)), (rd_T61 ((x :: r).reverse.map encP) ((((x :: r).reverse.map encP).length : Int) - 1)).f1, (rd_T61 ((x :: r).reverse.map encP) ((((x :: r).reverse.map encP).length : Int) - 1)).f2⟩ else (x :: r).reverse.map encP ++ [⟨(n : Int), ⟨#[]⟩, ⟨#[]⟩⟩]) = (Pt.K n :: x :: r).reverse.map encP := by
  intro x r hx
  rw [hlast, iN_ (fun c => hx c.2), encP_rev (x :: r) (.K n)]; rfl
 have nz : ¬ (0 : Int) > 0 := by omega
 by_cases h1 : put.toList = [] <;> by_cases h2 : drop.toList = []
 ·have e : mkL r0 put drop = r0 := by unfold mkL wL dL; rw [ip_ h1, ip_ h2]; rfl
  rw [e]
  match r0, h, ht with
  | [], _, _ => rfl
  | .K m :: r, hm, ht =>
   have hm' : 0 < m := hm
   have hmb : m ≤ 4000000 := by
    have : massP (.K m) ≤ mass (.K m :: r) := by simp only [mass]; omega
    simp only [massP] at this; omega
   rw [hlast, ip_ ⟨by rw [key]; omega, by show (m : Int) > 0; omega⟩, key, Nat.add_sub_cancel, encP_rev]
   have hl : (r.reverse.map encP).length = r.length := by simp
   rw [← hl, set_at]
   show _ ++ [(⟨wrap64 ((m : Int) + (n : Int)), ⟨#[]⟩, ⟨#[]⟩⟩ : S61)] = (Pt.K (m + n) :: r).reverse.map encP
   rw [w64 O_ O_, encP_rev]; rfl
 ·have e : mkL r0 put drop = .D drop :: r0 := by unfold mkL wL dL; rw [ip_ h1, iN_ h2]; rfl
  rw [e, add (.D drop) r0 nz]; rfl
 ·have e : mkL r0 put drop = .W put :: r0 := by unfold mkL wL dL; rw [iN_ h1, ip_ h2]; rfl
  rw [e, add (.W put) r0 nz]; rfl
 ·have e : mkL r0 put drop = .D drop :: .W put :: r0 := by unfold mkL wL dL; rw [iN_ h1, iN_ h2]; rfl
  rw [e, add (.D drop) (.W put :: r0) nz]; rfl
theorem nrm_ev : ∀ (L : List Pt) (r0 : List Pt) (put drop : ByteArray), headK r0 → (∀ x ∈ mkL r0 put drop, 0 < massP x) → mass (mkL r0 put drop) + mass L ≤ 4000000 → nrm (L.map encP) (r0.reverse.map encP) put drop = some ((L.foldl addQ (mkL r0 put drop)).reverse.map encP)
 | L, r0, put, drop, hh, hpos, hm => by
  have hr0 : r0.length ≤ (mkL r0 put drop).length := by unfold mkL; simp only [lA_]; omega
  have hln := mass_len hpos
  have hol : (r0.reverse.map encP).length = r0.length := by simp
  have hpt : put.size ≤ mass (mkL r0 put drop) := by
   by_cases h1 : put.toList = []
   ·have := (size0_toList put).1 h1; omega
   ·exact mass_mem (x := .W put) (by unfold mkL wL; rw [iN_ h1]; simp)
  have hdt : drop.size ≤ mass (mkL r0 put drop) := by
   by_cases h1 : drop.toList = []
   ·have := (size0_toList drop).1 h1; omega
   ·exact mass_mem (x := .D drop) (by unfold mkL dL; rw [iN_ h1]; simp)
  have hrt : mass r0 ≤ mass (mkL r0 put drop) := by
   have : ∀ l : List Pt, mass r0 ≤ mass (l ++ r0) := by intro l; induction l with
    | nil => exact Nat.le_refl _
    | cons q l ih => simp only [List.cons_append, mass]; omega
   unfold mkL
   rw [← List.append_assoc]
   exact this _
  have z : (⟨#[]⟩ : ByteArray).size = 0 := rfl
  match L with
  | [] =>
   show (if (r0.reverse.map encP).length + 3 ≤ 3518437208883 then some ((r0.reverse.map encP) ++ ends put drop) else none) = _
   rw [ip_ (by rw [hol]; omega), ends_enc]; rfl
  | .K n :: L =>
   have hn : n + mass L ≤ 4000000 := by simp only [mass, massP] at hm; omega
   have hm' : mass (mkL r0 put drop) + (n + mass L) ≤ 4000000 := hm
   rw [List.map_cons, List.foldl_cons]
   unfold nrm
   by_cases h0 : n = 0
   ·subst h0
    have e1 : kS put (encP (.K 0)).f0 = put := rfl
    have e2 : kS drop (encP (.K 0)).f0 = drop := rfl
    have e3 : kO (r0.reverse.map encP) put drop (encP (.K 0)).f0 = r0.reverse.map encP := rfl
    have e4 : (encP (.K 0)).f1 = ⟨#[]⟩ := rfl
    have e5 : (encP (.K 0)).f2 = ⟨#[]⟩ := rfl
    have e6 : addQ (mkL r0 put drop) (.K 0) = mkL r0 put drop := ip_ rfl
    rw [e1, e2, e3, e4, e5, e6, ip_ ⟨by rw [hol]; omega, O_, O_⟩, ba_append_nil, ba_append_nil]
    exact nrm_ev L r0 put drop hh hpos O_
   ·have hi : ¬ ((n : Nat) : Int) = 0 := by omega
    have e1 : kS put (encP (.K n)).f0 = ⟨#[]⟩ := iN_ hi
    have e2 : kS drop (encP (.K n)).f0 = ⟨#[]⟩ := iN_ hi
    have e3 : kO (r0.reverse.map encP) put drop (encP (.K n)).f0 = (addP (mkL r0 put drop) (.K n)).reverse.map encP := kO_enc r0 hh put drop n O_ O_ O_
    have e4 : (encP (.K n)).f1 = ⟨#[]⟩ := rfl
    have e5 : (encP (.K n)).f2 = ⟨#[]⟩ := rfl
    have e6 : addQ (mkL r0 put drop) (.K n) = addP (mkL r0 put drop) (.K n) := iN_ h0
    have hmm := mass_add (mkL r0 put drop) (.K n)
    have hpp := pos_add (mkL r0 put drop) (.K n) hpos (by show 0 < n; omega)
    have hhd := addP_K_head r0 hh put drop n O_
    simp only [massP] at hmm
    rw [e1, e2, e3, e4, e5, e6, ip_ ⟨by rw [hol]; omega, O_, O_⟩, ba_append_nil]
    have := nrm_ev L (addP (mkL r0 put drop) (.K n)) ⟨#[]⟩ ⟨#[]⟩ hhd (by rw [mkL_nil]; exact hpp) (by rw [mkL_nil]; omega)
    rw [mkL_nil] at this
    exact this
  | .W w :: L =>
   have hm' : mass (mkL r0 put drop) + (w.size + mass L) ≤ 4000000 := hm
   rw [List.map_cons, List.foldl_cons]
   unfold nrm
   have e1 : kS put (encP (.W w)).f0 = put := rfl
   have e2 : kS drop (encP (.W w)).f0 = drop := rfl
   have e3 : kO (r0.reverse.map encP) put drop (encP (.W w)).f0 = r0.reverse.map encP := rfl
   have e4 : (encP (.W w)).f1 = w := rfl
   have e5 : (encP (.W w)).f2 = ⟨#[]⟩ := rfl
   rw [e1, e2, e3, e4, e5, ip_ ⟨by rw [hol]; omega, O_, O_⟩, ba_append_nil]
   by_cases h0 : w.size = 0
   ·have e6 : addQ (mkL r0 put drop) (.W w) = mkL r0 put drop := ip_ h0
    rw [e6, size0_eq h0, ba_append_nil]
    exact nrm_ev L r0 put drop hh hpos O_
   ·have e6 : addQ (mkL r0 put drop) (.W w) = addP (mkL r0 put drop) (.W w) := iN_ h0
    have hmm := mass_add (mkL r0 put drop) (.W w)
    have hpp := pos_add (mkL r0 put drop) (.W w) hpos (by show 0 < w.size; omega)
    simp only [massP] at hmm
    rw [addP_W r0 hh put drop w O_] at e6 hmm hpp
    rw [e6]
    exact nrm_ev L r0 (put ++ w) drop hh hpp O_
  | .D w :: L =>
   have hm' : mass (mkL r0 put drop) + (w.size + mass L) ≤ 4000000 := hm
   rw [List.map_cons, List.foldl_cons]
   unfold nrm
   have e1 : kS put (encP (.D w)).f0 = put := rfl
   have e2 : kS drop (encP (.D w)).f0 = drop := rfl
   have e3 : kO (r0.reverse.map encP) put drop (encP (.D w)).f0 = r0.reverse.map encP := rfl
   have e4 : (encP (.D w)).f1 = ⟨#[]⟩ := rfl
   have e5 : (encP (.D w)).f2 = w := rfl
   rw [e1, e2, e3, e4, e5, ip_ ⟨by rw [hol]; omega, O_, O_⟩, ba_append_nil]
   by_cases h0 : w.size = 0
   ·have e6 : addQ (mkL r0 put drop) (.D w) = mkL r0 put drop := ip_ h0
    rw [e6, size0_eq h0, ba_append_nil]
    exact nrm_ev L r0 put drop hh hpos O_
   ·have e6 : addQ (mkL r0 put drop) (.D w) = addP (mkL r0 put drop) (.D w) := iN_ h0
    have hmm := mass_add (mkL r0 put drop) (.D w)
    have hpp := pos_add (mkL r0 put drop) (.D w) hpos (by show 0 < w.size; omega)
    simp only [massP] at hmm
    rw [addP_D r0 hh put drop w O_] at e6 hmm hpp
    rw [e6]
    exact nrm_ev L r0 put (drop ++ w) hh hpp O_
theorem normal_ev (L : List Pt) (hm : mass L ≤ 4000000) : impl_normal.f (L.map encP) = some ((L.foldl addQ []).reverse.map encP) := by
 have e0 : mkL [] ⟨#[]⟩ ⟨#[]⟩ = [] := mkL_nil []
 have := nrm_ev L [] ⟨#[]⟩ ⟨#[]⟩ trivial (by rw [e0]; intro x hx; cases hx) (by rw [e0]; simp only [mass]; omega)
 rw [e0] at this
 exact this
theorem fold_inv : ∀ (L r : List Pt), (∀ x ∈ r, 0 < massP x) → (∀ x ∈ L.foldl addQ r, 0 < massP x) ∧ mass (L.foldl addQ r) = mass r + mass L
 | [], r, hr => ⟨hr, by simp [mass]⟩
 | q :: L, r, hr => by
  obtain ⟨h1, h2⟩ := fold_inv L (addQ r q) (pos_addQ r q hr)
  exact ⟨h1, by rw [List.foldl_cons, h2, mass_addQ]; simp only [mass]; omega⟩
theorem stepP_mono {s : ByteArray} {q : Pt} {st v : ByteArray × Nat} (h : stepP s st q = some v) (ha : st.2 ≤ s.size) : st.1.size ≤ v.1.size ∧ v.2 ≤ s.size := by
 cases q with
 | K n =>
  simp only [stepP] at h
  split at h
  ·cases h; simp only [zA_]; omega
  ·cases h
 | W w => simp only [stepP] at h; cases h; simp only [zA_]; omega
 | D d =>
  simp only [stepP] at h
  split at h
  ·cases h; simp only; omega
  ·cases h
theorem runP_mono {s : ByteArray} : ∀ {l : List Pt} {st v : ByteArray × Nat}, runP s l st = some v → st.2 ≤ s.size → st.1.size ≤ v.1.size ∧ v.2 ≤ s.size
 | [], st, v, h, ha => by
  have : st = v := Option.some.inj h
  subst this
  exact ⟨Nat.le_refl _, ha⟩
 | q :: l, st, v, h, ha => by
  obtain ⟨u, hu, hv⟩ := Option.bind_eq_some_iff.mp h
  have h1 := stepP_mono hu ha
  have h2 := runP_mono hv h1.2
  omega
theorem rd_enc (L : List Pt) (i : Nat) (h : i < L.length) : rd_T61 (L.map encP) (i : Int) = encP L[i] := by
 unfold rd_T61
 rw [tN_, List.getD_eq_getElem?_getD, List.getElem?_map, List.getElem?_eq_getElem h]
 rfl
theorem rest_size (s : ByteArray) (a : Nat) : (s.extract a s.size).size = s.size - a := by rw [zE_]; omega
theorem l3Apply_l (s : ByteArray) (hs : s.size ≤ 300) (L : List Pt) (hL : L.length ≤ 4000000) (hpos : ∀ x ∈ L, 0 < massP x) (hmx : ∀ x ∈ L, massP x ≤ 4000000) (v : ByteArray × Nat) (hv : v.1.size ≤ 1000000000) :
  ∀ (d i : Nat) (a : Nat) (out : ByteArray), i + d = L.length → a ≤ s.size → runP s (L.drop i) (out, a) = some v →
  ∃ K, ∀ k, K ≤ k → spec_l3Apply.l0 k (s.extract a s.size) out (L.map encP) ((L.map encP).length : Int) (i : Int) = some (v.1, (s.extract v.2 s.size).toList == ([] : List UInt8)) := by
 intro d
 induction d with
 | zero =>
  intro i a out hi ha hr
  rw [List.drop_of_length_le O_] at hr
  have : (out, a) = v := Option.some.inj hr
  subst this
  refine ⟨1, fun k hk => ?_⟩
  obtain ⟨k, rfl⟩ : ∃ m, k = m + 1 := ⟨k - 1, O_⟩
  simp only [spec_l3Apply.l0]
  rw [iN_ (by simp; omega)]
 | succ d ih =>
  intro i a out hi ha hr
  have hil : i < L.length := by omega
  rw [List.drop_eq_getElem_cons hil] at hr
  have hx := hpos _ (List.getElem_mem hil)
  have hx2 := hmx _ (List.getElem_mem hil)
  have hrd := rd_enc L i hil
  generalize L[i] = q at hr hx hx2 hrd
  obtain ⟨u, hu, hr'⟩ := Option.bind_eq_some_iff.mp hr
  have hmo := runP_mono hr' (stepP_mono hu ha).2
  obtain ⟨K, hK⟩ := ih (i + 1) u.2 u.1 O_ (stepP_mono hu ha).2 hr'
  have hsz := rest_size s a
  refine ⟨K + 2, fun k hk => ?_⟩
  obtain ⟨k, rfl⟩ : ∃ m, k = m + 2 := ⟨k - 2, O_⟩
  have hk' := hK k O_
  obtain ⟨k1, hk1⟩ : ∃ m, m = k + 1 := ⟨_, rfl⟩
  rw [show k + 2 = k1 + 1 by omega]
  simp only [spec_l3Apply.l0, hrd]
  rw [ip_ (by simp; omega), ip_ O_, ip_ (by simp; omega)]
  rw [hk1]
  obtain ⟨k0, hk0⟩ : ∃ m, m = k := ⟨_, rfl⟩
  rw [← hk0] at hk' ⊢
  cases q with
  | K n =>
   simp only [stepP] at hu
   split at hu
   ·rename_i c
    cases hu
    simp only at hk' c hmo
    have hn0 : 0 < n := hx
    simp only [encP, show (⟨#[]⟩ : ByteArray).size = 0 from rfl, Int.add_zero, Int.natCast_zero]
    rw [w64 (i := (n : Int)) (by have : n ≤ 4000000 := hx2; omega) (by have : n ≤ 4000000 := hx2; omega), iN_ (by rw [hsz]; omega), ip_ nil_toList]
    simp only [spec_l3Apply.j1, Bool.false_eq_true, if_false]
    have e1 : (s.extract a s.size).extract 0 (n : Int).toNat = s.extract a (a + n) := by rw [tN_, ba_extract_extract s a 0 n c]; rfl
    have e2 : (s.extract a s.size).extract (n : Int).toNat (s.extract a s.size).size = s.extract (a + n) s.size := by rw [tN_]; exact ba_extract_end s a n c
    have e3 := hmo.1
    rw [zA_] at e3
    rw [ip_ O_, ip_ O_, ip_ (by rw [hsz]; omega), e1, ip_ O_, ip_ (by rw [zA_, show (⟨#[]⟩ : ByteArray).size = 0 from rfl]; omega), e2, ba_append_nil, w64 (i := (i : Int) + 1) O_ O_]
    exact hk'
   ·cases hu
  | W w =>
   simp only [stepP] at hu
   cases hu
   simp only at hk' hmo
   simp only [encP, show (⟨#[]⟩ : ByteArray).size = 0 from rfl, Int.natCast_zero, Int.add_zero]
   rw [w64 (i := (0 : Int)) O_ O_, iN_ (by rw [hsz]; omega), ip_ nil_toList]
   simp only [spec_l3Apply.j1, Bool.false_eq_true, if_false]
   have e2 : (s.extract a s.size).extract (0 : Int).toNat (s.extract a s.size).size = s.extract a s.size := ba_extract_all _
   have e3 := hmo.1
   rw [zA_] at e3
   rw [iN_ O_, ip_ O_, ip_ O_, ip_ (by rw [hsz]; omega), e2, w64 (i := (i : Int) + 1) O_ O_]
   exact hk'
  | D dd =>
   simp only [stepP] at hu
   split at hu
   ·rename_i c
    cases hu
    simp only at hk' c hmo
    have hd0 : 0 < dd.size := hx
    have hd1 : dd.size ≤ 4000000 := hx2
    have c1 := c.1
    simp only [encP, Int.zero_add]
    have e1 : (s.extract a s.size).extract 0 (dd.size : Int).toNat = dd := by rw [tN_, ba_extract_extract s a 0 dd.size c1]; exact c.2
    have e2 : (s.extract a s.size).extract (dd.size : Int).toNat (s.extract a s.size).size = s.extract (a + dd.size) s.size := by rw [tN_]; exact ba_extract_end s a dd.size c1
    have e3 := hmo.1
    rw [w64 (i := (dd.size : Int)) O_ O_, iN_ (by rw [hsz]; omega), iN_ (pos_toList hd0), ip_ O_, ip_ (by rw [hsz]; omega), e1]
    simp only [spec_l3Apply.j1, bne_self_eq_false, Bool.false_eq_true, if_false]
    rw [iN_ O_, ip_ (by rw [show (⟨#[]⟩ : ByteArray).size = 0 from rfl]; omega), ip_ O_, ip_ (by rw [hsz]; omega), e2, ba_append_nil, w64 (i := (i : Int) + 1) O_ O_]
    exact hk'
   ·cases hu
def dst (c : Int) : Int := if nmB c = true then 1 else if c = 47 then -1 else 0
def dp (s : ByteArray) : Nat → Int
 | 0 => 0
 | i + 1 => dp s i + dst (bt s (i : Int))
def Mate (s : ByteArray) (a b : Nat) : Prop := a < b ∧ b < s.size ∧ nmB (bt s (a : Int)) = true ∧ bt s (b : Int) = 47 ∧ dp s (b + 1) = dp s a ∧ ∀ j, a < j → j ≤ b → dp s a < dp s j
def Bal (s : ByteArray) : Prop := (∀ j, j ≤ s.size → 0 ≤ dp s j ∧ dp s j ≤ 12) ∧ dp s s.size = 0
theorem nmB_47 : nmB 47 = false := rfl
theorem dp_open {s : ByteArray} {i : Nat} (h : nmB (bt s (i : Int)) = true) : dp s (i + 1) = dp s i + 1 := by
 show dp s i + dst _ = _
 unfold dst; rw [ip_ h]
theorem dp_close {s : ByteArray} {i : Nat} (h : bt s (i : Int) = 47) : dp s (i + 1) = dp s i - 1 := by
 show dp s i + dst _ = _
 unfold dst; rw [h, nmB_47, iN_ (by simp), ip_ rfl]; rfl
theorem dp_else {s : ByteArray} {i : Nat} (h : nmB (bt s (i : Int)) = false) (h2 : bt s (i : Int) ≠ 47) : dp s (i + 1) = dp s i := by
 show dp s i + dst _ = _
 unfold dst; rw [h, iN_ (by simp), iN_ h2]; omega
theorem dp_step (s : ByteArray) (i : Nat) : dp s (i + 1) ≤ dp s i + 1 ∧ dp s i - 1 ≤ dp s (i + 1) := by
 show dp s i + dst _ ≤ _ ∧ _ ≤ dp s i + dst _
 unfold dst
 split
 ·omega
 ·split <;> omega
theorem Mate.right {s : ByteArray} {a b b' : Nat} (h : Mate s a b) (h' : Mate s a b') : b = b' := by
 obtain ⟨h1, _, _, _, h2, h3⟩ := h
 obtain ⟨k1, _, _, _, k2, k3⟩ := h'
 by_cases e : b = b'
 ·exact e
 ·exfalso
  by_cases l : b < b'
  ·have := k3 (b + 1) O_ O_; omega
  ·have := h3 (b' + 1) O_ O_; omega
theorem Mate.left {s : ByteArray} {a a' b : Nat} (h : Mate s a b) (h' : Mate s a' b) : a = a' := by
 obtain ⟨h1, _, _, _, h2, h3⟩ := h
 obtain ⟨k1, _, _, _, k2, k3⟩ := h'
 by_cases e : a = a'
 ·exact e
 ·exfalso
  by_cases l : a < a'
  ·have := h3 a' O_ O_; omega
  ·have := k3 a O_ O_; omega
theorem mate_ex_ {s : ByteArray} (hb : Bal s) {a : Nat} (ho : nmB (bt s (a : Int)) = true) (ha : a < s.size) : ∀ (d i : Nat), i + d = s.size → a < i → (∀ j, a < j → j ≤ i → dp s a < dp s j) → ∃ b, Mate s a b := by
 intro d
 induction d with
 | zero =>
  intro i hi hai h
  obtain rfl : i = s.size := by omega
  have h1 := h s.size hai (Nat.le_refl _)
  have h2 := (hb.1 a O_).1
  have h3 := hb.2
  omega
 | succ d ih =>
  intro i hi hai h
  have hs := dp_step s i
  have hi0 := h i hai (Nat.le_refl _)
  by_cases e : dp s (i + 1) = dp s a
  ·refine ⟨i, hai, O_, ho, ?_, e, h⟩
   cases hn : nmB (bt s (i : Int)) with
   | true => have := dp_open hn; omega
   | false =>
    by_cases h47 : bt s (i : Int) = 47
    ·exact h47
    ·have := dp_else hn h47; omega
  ·exact ih (i + 1) O_ O_ (fun j h1 h2 => by
    by_cases ej : j = i + 1
    ·subst ej; omega
    ·exact h j h1 O_)
theorem mate_ex {s : ByteArray} (hb : Bal s) {a : Nat} (ho : nmB (bt s (a : Int)) = true) (ha : a < s.size) : ∃ b, Mate s a b :=
 mate_ex_ hb ho ha (s.size - (a + 1)) (a + 1) O_ O_ (fun j h1 h2 => by
  obtain rfl : j = a + 1 := by omega
  have := dp_open ho; omega)
theorem mate_exl_ {s : ByteArray} (hb : Bal s) {b : Nat} (hc : bt s (b : Int) = 47) (hbs : b < s.size) : ∀ (d i : Nat), i = d → i ≤ b → (∀ j, i < j → j ≤ b → dp s (b + 1) < dp s j) → dp s (b + 1) < dp s i ∨ (dp s i = dp s (b + 1) ∧ i < b) → ∃ a, Mate s a b := by
 intro d
 induction d with
 | zero =>
  intro i hi hib h hh
  subst hi
  have h0 := (hb.1 (b + 1) O_).1
  rcases hh with hh | ⟨hh, hlt⟩
  ·exfalso
   have : dp s 0 = 0 := rfl
   omega
  ·have h1 := h 1 O_ O_
   have hs := dp_step s 0
   refine ⟨0, hlt, hbs, ?_, hc, hh.symm, fun j h2 h3 => by rw [hh]; exact h j h2 h3⟩
   cases hn : nmB (bt s ((0 : Nat) : Int)) with
   | true => rfl
   | false =>
    by_cases h47 : bt s ((0 : Nat) : Int) = 47
    ·have := dp_close h47; simp only [Nat.zero_add] at this; omega
    ·have := dp_else hn h47; simp only [Nat.zero_add] at this; omega
 | succ d ih =>
  intro i hi hib h hh
  subst hi
  rcases hh with hh | ⟨hh, hlt⟩
  ·have hs := dp_step s d
   refine ih d rfl O_ (fun j h1 h2 => ?_) ?_
   ·by_cases ej : j = d + 1
    ·subst ej; exact hh
    ·exact h j O_ h2
   ·by_cases e : dp s d = dp s (b + 1)
    ·exact .inr ⟨e, O_⟩
    ·exact .inl O_
  ·have h1 := h (d + 1 + 1) O_ O_
   have hs := dp_step s (d + 1)
   refine ⟨d + 1, hlt, hbs, ?_, hc, hh.symm, fun j h2 h3 => by rw [hh]; exact h j h2 h3⟩
   cases hn : nmB (bt s ((d + 1 : Nat) : Int)) with
   | true => rfl
   | false =>
    by_cases h47 : bt s ((d + 1 : Nat) : Int) = 47
    ·have := dp_close h47; omega
    ·have := dp_else hn h47; omega
theorem mate_exl {s : ByteArray} (hb : Bal s) {b : Nat} (hc : bt s (b : Int) = 47) (hbs : b < s.size) : ∃ a, Mate s a b :=
 mate_exl_ hb hc hbs b b rfl (Nat.le_refl _) (fun j h1 h2 => by omega) (.inl (by have := dp_close hc; omega))
theorem okN_at {s : ByteArray} : ∀ (d i : Nat), okN s d i = true → ∀ j, i ≤ j → j < i + d → okB (bt s (j : Int)) = true := by
 intro d
 induction d with
 | zero => intro i h j h1 h2; omega
 | succ d ih =>
  intro i h j h1 h2
  unfold okN at h
  rw [Bool.and_eq_true] at h
  by_cases e : j = i
  ·subst e; exact h.1
  ·exact ih (i + 1) h.2 j O_ O_
theorem okN_of {s : ByteArray} : ∀ (d i : Nat), (∀ j, i ≤ j → j < i + d → okB (bt s (j : Int)) = true) → okN s d i = true := by
 intro d
 induction d with
 | zero => intro i h; rfl
 | succ d ih =>
  intro i h
  unfold okN
  rw [Bool.and_eq_true]
  exact ⟨h i O_ O_, ih (i + 1) (fun j h1 h2 => h j O_ O_)⟩
theorem textB_at {s : ByteArray} (h : textB s = true) (j : Nat) (hj : j < s.size) : okB (bt s (j : Int)) = true := by
 unfold textB at h
 rw [Bool.and_eq_true] at h
 exact okN_at s.size 0 h.1 j O_ O_
theorem textB_of {s : ByteArray} (h : ∀ j, j < s.size → okB (bt s (j : Int)) = true) (hs : s.size ≤ 300) : textB s = true := by
 unfold textB
 rw [Bool.and_eq_true]
 exact ⟨okN_of s.size 0 (fun j _ hj => h j O_), by simpa using hs⟩
theorem textB_extract {s : ByteArray} (h : textB s = true) (a b : Nat) (hb : b ≤ s.size) : textB (s.extract a b) = true := by
 have hz := textB_size h
 have hz2 : (s.extract a b).size = b - a := by rw [zE_]; omega
 refine textB_of (fun j hj => ?_) O_
 rw [bt_extract s a b j hb O_]
 exact textB_at h _ O_
theorem nmH_nmB (c : Int) : nmH c = nmB c := by
 unfold nmH; rw [impl_isName_eq]; rfl
structure Inv (s : ByteArray) (i : Nat) (st : List Int) (m : List (Int × Int)) : Prop where
 len : (st.length : Int) = dp s i
 stk : ∀ t, t < st.length → ∃ p : Nat, rd st (t : Int) = (p : Int) ∧ p < i ∧ nmB (bt s (p : Int)) = true ∧ dp s p = (t : Int) ∧ ∀ j, p < j → j ≤ i → (t : Int) < dp s j
 bd : ∀ j, j ≤ i → 0 ≤ dp s j ∧ dp s j ≤ 12
 lks : ∀ a b : Int, lk m a = some b ↔ ∃ p q : Nat, Mate s p q ∧ q < i ∧ ((a = (p : Int) ∧ b = (q : Int)) ∨ (a = (q : Int) ∧ b = (p : Int)))
theorem rd_app_left (xs ys : List Int) (t : Nat) (h : t < xs.length) : rd (xs ++ ys) (t : Int) = rd xs (t : Int) := by
 unfold rd
 rw [tN_, List.getD_eq_getElem?_getD, List.getD_eq_getElem?_getD, List.getElem?_append_left h]
theorem rd_app_one (xs : List Int) (x : Int) : rd (xs ++ [x]) (xs.length : Int) = x := by
 unfold rd
 rw [tN_, List.getD_eq_getElem?_getD, List.getElem?_append_right (Nat.le_refl _)]
 simp
theorem rd_take (xs : List Int) (n t : Nat) (h : t < n) : rd (xs.take n) (t : Int) = rd xs (t : Int) := by
 unfold rd
 rw [tN_, List.getD_eq_getElem?_getD, List.getD_eq_getElem?_getD, List.getElem?_take_of_lt h]
theorem Inv.start (s : ByteArray) : Inv s 0 [] [] := by
 refine ⟨rfl, fun t h => by simp at h, fun j h => ?_, fun a b => ⟨fun h => (by cases h), fun ⟨p, q, _, h, _⟩ => O_⟩⟩
 obtain rfl : j = 0 := by omega
 show 0 ≤ (0 : Int) ∧ (0 : Int) ≤ 12
 omega
theorem Inv.bd_next {s : ByteArray} {i : Nat} {st : List Int} {m : List (Int × Int)} (h : Inv s i st m) (h0 : 0 ≤ dp s (i + 1)) (h1 : dp s (i + 1) ≤ 12) : ∀ j, j ≤ i + 1 → 0 ≤ dp s j ∧ dp s j ≤ 12 := by
 intro j hj
 by_cases e : j = i + 1
 ·subst e; exact ⟨h0, h1⟩
 ·exact h.bd j O_
theorem Inv.lks_next {s : ByteArray} {i : Nat} {st : List Int} {m : List (Int × Int)} (h : Inv s i st m) (hn : bt s (i : Int) ≠ 47) : ∀ a b : Int, lk m a = some b ↔ ∃ p q : Nat, Mate s p q ∧ q < i + 1 ∧ ((a = (p : Int) ∧ b = (q : Int)) ∨ (a = (q : Int) ∧ b = (p : Int))) := by
 intro a b
 rw [h.lks a b]
 constructor
 ·rintro ⟨p, q, h1, h2, h3⟩; exact ⟨p, q, h1, O_, h3⟩
 ·rintro ⟨p, q, h1, h2, h3⟩
  refine ⟨p, q, h1, ?_, h3⟩
  have h4 := h1.2.2.2.1
  by_cases e : q = i
  ·subst e; exact absurd h4 hn
  ·omega
theorem Inv.opens {s : ByteArray} {i : Nat} {st : List Int} {m : List (Int × Int)} (h : Inv s i st m) (ho : nmB (bt s (i : Int)) = true) (hl : st.length + 1 ≤ 12) : Inv s (i + 1) (st ++ [(i : Int)]) m := by
 have e := dp_open ho
 have hlen := h.len
 have h47 : bt s (i : Int) ≠ 47 := fun x => by rw [x, nmB_47] at ho; cases ho
 refine ⟨?_, ?_, h.bd_next O_ O_, h.lks_next h47⟩
 ·rw [lA_, lS_]; omega
 ·intro t ht
  rw [lA_, lS_] at ht
  by_cases et : t = st.length
  ·subst et
   refine ⟨i, rd_app_one st _, O_, ho, O_, fun j h1 h2 => ?_⟩
   obtain rfl : j = i + 1 := by omega
   omega
  ·obtain ⟨p, h1, h2, h3, h4, h5⟩ := h.stk t O_
   refine ⟨p, by rw [rd_app_left st _ t O_]; exact h1, O_, h3, h4, fun j g1 g2 => ?_⟩
   by_cases ej : j = i + 1
   ·subst ej; omega
   ·exact h5 j g1 O_
theorem Inv.plain {s : ByteArray} {i : Nat} {st : List Int} {m : List (Int × Int)} (h : Inv s i st m) (hn : nmB (bt s (i : Int)) = false) (h47 : bt s (i : Int) ≠ 47) : Inv s (i + 1) st m := by
 have e := dp_else hn h47
 have hlen := h.len
 have hb := h.bd i (Nat.le_refl _)
 refine ⟨O_, ?_, h.bd_next O_ O_, h.lks_next h47⟩
 intro t ht
 obtain ⟨p, h1, h2, h3, h4, h5⟩ := h.stk t ht
 refine ⟨p, h1, O_, h3, h4, fun j g1 g2 => ?_⟩
 by_cases ej : j = i + 1
 ·subst ej; omega
 ·exact h5 j g1 O_
theorem lk_cons2 (m : List (Int × Int)) (p i a : Int) : lk ((p, i) :: (i, p) :: m) a = if p = a then some i else if i = a then some p else lk m a := rfl
theorem Inv.closes {s : ByteArray} {i : Nat} {st : List Int} {m : List (Int × Int)} (h : Inv s i st m) (hi : i < s.size) (h47 : bt s (i : Int) = 47) (hl : st.length ≠ 0) :
  Inv s (i + 1) (st.take (st.length - 1)) ((rd st ((st.length : Int) - 1), (i : Int)) :: ((i : Int), rd st ((st.length : Int) - 1)) :: m) := by
 have e := dp_close h47
 have hlen := h.len
 obtain ⟨p, h1, h2, h3, h4, h5⟩ := h.stk (st.length - 1) O_
 have hc : (((st.length - 1 : Nat)) : Int) = (st.length : Int) - 1 := by omega
 rw [hc] at h1 h4 h5
 rw [h1]
 have hb := h.bd i (Nat.le_refl _)
 have hM : Mate s p i := ⟨h2, hi, h3, h47, O_, fun j g1 g2 => by have := h5 j g1 g2; omega⟩
 refine ⟨?_, ?_, h.bd_next O_ O_, ?_⟩
 ·rw [List.length_take]; omega
 ·intro t ht
  rw [List.length_take] at ht
  obtain ⟨p', k1, k2, k3, k4, k5⟩ := h.stk t O_
  refine ⟨p', by rw [rd_take st _ t O_]; exact k1, O_, k3, k4, fun j g1 g2 => ?_⟩
  by_cases ej : j = i + 1
  ·subst ej; omega
  ·exact k5 j g1 O_
 ·intro a b
  rw [lk_cons2]
  constructor
  ·intro hh
   by_cases ea : (p : Int) = a
   ·rw [ip_ ea] at hh
    obtain rfl := Option.some.inj hh
    exact ⟨p, i, hM, O_, .inl ⟨ea.symm, rfl⟩⟩
   ·rw [iN_ ea] at hh
    by_cases eb : (i : Int) = a
    ·rw [ip_ eb] at hh
     obtain rfl := Option.some.inj hh
     exact ⟨p, i, hM, O_, .inr ⟨eb.symm, rfl⟩⟩
    ·rw [iN_ eb] at hh
     obtain ⟨p', q', g1, g2, g3⟩ := (h.lks a b).1 hh
     exact ⟨p', q', g1, O_, g3⟩
  ·rintro ⟨p', q', g1, g2, g3⟩
   by_cases eq : q' = i
   ·subst eq
    obtain rfl := g1.left hM
    rcases g3 with ⟨rfl, rfl⟩ | ⟨rfl, rfl⟩
    ·rw [ip_ rfl]
    ·rw [iN_ O_, ip_ rfl]
   ·have hold := (h.lks a b).2 ⟨p', q', g1, O_, g3⟩
    have g4 := g1.1
    have gp : bt s (p' : Int) ≠ 47 := fun x => by have := g1.2.2.1; rw [x, nmB_47] at this; cases this
    have gq := g1.2.2.2.1
    rcases g3 with ⟨rfl, rfl⟩ | ⟨rfl, rfl⟩
    ·rw [iN_ (fun x => by
      have : p = p' := by omega
      subst this
      exact eq (g1.right hM)), iN_ O_]
     exact hold
    ·rw [iN_ (fun x => by
      have : p = q' := by omega
      subst this
      rw [gq, nmB_47] at h3; cases h3), iN_ O_]
     exact hold
theorem mtc_spec (s : ByteArray) : ∀ (d i : Nat) (st : List Int) (m : List (Int × Int)), i + d = s.size → Inv s i st m →
  ((mtc s d i st m).2 = true ↔ Bal s) ∧ ((mtc s d i st m).2 = true → ∀ a b : Int, lk (mtc s d i st m).1 a = some b ↔ ∃ p q : Nat, Mate s p q ∧ ((a = (p : Int) ∧ b = (q : Int)) ∨ (a = (q : Int) ∧ b = (p : Int)))) := by
 intro d
 induction d with
 | zero =>
  intro i st m hi h
  obtain rfl : i = s.size := by omega
  have hlen := h.len
  refine ⟨?_, fun _ a b => ?_⟩
  ·show decide (st.length = 0) = true ↔ _
   rw [decide_eq_true_iff]
   exact ⟨fun e => ⟨h.bd, O_⟩, fun e => by have := e.2; omega⟩
  ·show lk m a = some b ↔ _
   rw [h.lks a b]
   exact ⟨fun ⟨p, q, h1, _, h3⟩ => ⟨p, q, h1, h3⟩, fun ⟨p, q, h1, h3⟩ => ⟨p, q, h1, h1.2.1, h3⟩⟩
 | succ d ih =>
  intro i st m hi h
  have hlen := h.len
  unfold mtc
  rw [nmH_nmB]
  cases ho : nmB (bt s (i : Int)) with
  | true =>
   rw [ip_ rfl]
   have e := dp_open ho
   by_cases hl : 12 < st.length + 1
   ·rw [ip_ hl]
    exact ⟨⟨fun x => (by cases x), fun x => (by have := x.1 (i + 1) O_; omega)⟩, fun x => (by cases x)⟩
   ·rw [iN_ hl]
    exact ih (i + 1) _ _ O_ (h.opens ho O_)
  | false =>
   rw [iN_ (by simp)]
   by_cases h47 : bt s (i : Int) = 47
   ·rw [ip_ h47]
    have e := dp_close h47
    by_cases hl : st.length = 0
    ·rw [ip_ hl]
     exact ⟨⟨fun x => (by cases x), fun x => (by have := x.1 (i + 1) O_; omega)⟩, fun x => (by cases x)⟩
    ·rw [iN_ hl]
     exact ih (i + 1) _ _ O_ (h.closes O_ h47 hl)
   ·rw [iN_ h47]
    exact ih (i + 1) _ _ O_ (h.plain ho h47)
def balB (s : ByteArray) : Bool := (mtc s s.size 0 [] []).2
def docB (s : ByteArray) : Bool := textB s && balB s
theorem balB_iff (s : ByteArray) : balB s = true ↔ Bal s := (mtc_spec s s.size 0 [] [] O_ (Inv.start s)).1
theorem mtc_lk {s : ByteArray} (h : balB s = true) (a b : Int) : lk (mtc s s.size 0 [] []).1 a = some b ↔ ∃ p q : Nat, Mate s p q ∧ ((a = (p : Int) ∧ b = (q : Int)) ∨ (a = (q : Int) ∧ b = (p : Int))) :=
 (mtc_spec s s.size 0 [] [] O_ (Inv.start s)).2 h a b
theorem docB_iff (s : ByteArray) : docB s = true ↔ textB s = true ∧ Bal s := by
 unfold docB; rw [Bool.and_eq_true, balB_iff]
theorem impl_matches_ev (s : ByteArray) (hs : s.size ≤ 140737488351232) : ∃ K, ∀ k, K ≤ k → impl_matches.f k s = some (if textB s = true then mtc s s.size 0 [] [] else ([], false)) := by
 obtain ⟨K, hK⟩ := impl_GoodText_ev s hs
 refine ⟨K, fun k hk => ?_⟩
 unfold impl_matches.f
 rw [hK k hk, bs_]
 cases ht : textB s with
 | false => simp
 | true => have := textB_size ht; rw [ip_ rfl, ip_ rfl, ip_ this]
theorem impl_GoodDoc_ev (s : ByteArray) (hs : s.size ≤ 140737488351232) : ∃ K, ∀ k, K ≤ k → impl_GoodDoc.f k s = some (docB s) := by
 obtain ⟨K, hK⟩ := impl_matches_ev s hs
 refine ⟨K, fun k hk => ?_⟩
 unfold impl_GoodDoc.f docB
 rw [hK k hk, bs_]
 cases textB s <;> rfl
theorem impl_MatchOf_no (s : ByteArray) (hs : s.size ≤ 140737488351232) (a : Int) (hw : (Lit.int .i64 a).wf = true) (h : docB s = false) : ∃ K, ∀ k, K ≤ k → impl_MatchOf.f k s a = some (0, false) := by
 obtain ⟨K, hK⟩ := impl_matches_ev s hs
 refine ⟨K, fun k hk => ?_⟩
 unfold impl_MatchOf.f
 rw [hK k hk, ip_ hw, bs_]
 unfold docB at h
 cases ht : textB s with
 | false => simp
 | true =>
  rw [ht, Bool.true_and] at h
  unfold balB at h
  rw [ip_ rfl, h]
  simp
theorem impl_MatchOf_yes (s : ByteArray) (hs : s.size ≤ 140737488351232) (a : Int) (hw : (Lit.int .i64 a).wf = true) (h : docB s = true) : ∃ o : Option Int, (∀ b, o = some b ↔ ∃ p q : Nat, Mate s p q ∧ ((a = (p : Int) ∧ b = (q : Int)) ∨ (a = (q : Int) ∧ b = (p : Int)))) ∧ ∃ K, ∀ k, K ≤ k → impl_MatchOf.f k s a = some (o.getD 0, o.isSome) := by
 obtain ⟨K, hK⟩ := impl_matches_ev s hs
 unfold docB at h
 rw [Bool.and_eq_true] at h
 refine ⟨lk (mtc s s.size 0 [] []).1 a, fun b => mtc_lk h.2 a b, K, fun k hk => ?_⟩
 have h2 := h.2
 unfold balB at h2
 unfold impl_MatchOf.f
 rw [hK k hk, ip_ hw, bs_, h.1, ip_ rfl, h2, ip_ rfl]
theorem natS (i : Nat) : ((i : Int) + 1) = ((i + 1 : Nat) : Int) := by omega
theorem balanced_l (s : ByteArray) (hs : s.size ≤ 140737488351232) : ∀ (d i : Nat), i + d = s.size → (∀ j, j ≤ i → 0 ≤ dp s j ∧ dp s j ≤ 12) →
  ∃ B : Bool, (B = true ↔ Bal s) ∧ ∃ K, ∀ k, K ≤ k → spec_l1Balanced.l0 k s (dp s i) (i : Int) = some B := by
 intro d
 induction d with
 | zero =>
  intro i hi hb
  obtain rfl : i = s.size := by omega
  refine ⟨(dp s s.size == 0), ?_, 1, fun k hk => ?_⟩
  ·rw [beq_iff_eq]; exact ⟨fun e => ⟨hb, e⟩, fun e => e.2⟩
  ·obtain ⟨k, rfl⟩ : ∃ m, k = m + 1 := ⟨k - 1, O_⟩
   simp only [spec_l1Balanced.l0]
   rw [iN_ O_]
 | succ d ih =>
  intro i hi hb
  have hbi := hb i (Nat.le_refl _)
  have hst := dp_step s i
  by_cases hin : 0 ≤ dp s (i + 1) ∧ dp s (i + 1) ≤ 12
  ·obtain ⟨B, hB, K, hK⟩ := ih (i + 1) O_ (fun j hj => by
    by_cases e : j = i + 1
    ·subst e; exact hin
    ·exact hb j O_)
   refine ⟨B, hB, K + 2, fun k hk => ?_⟩
   obtain ⟨k, rfl⟩ : ∃ m, k = m + 2 := ⟨k - 2, O_⟩
   have hr := hK k O_
   simp only [spec_l1Balanced.l0]
   rw [ip_ O_, ip_ O_, spec_l1Open_eq, bs_]
   cases ho : nmB (bt s (i : Int)) with
   | true =>
    have e := dp_open ho
    have h47 : bt s (i : Int) ≠ 47 := fun x => by rw [x, nmB_47] at ho; cases ho
    rw [ip_ rfl]
    simp only [spec_l1Balanced.j1]
    rw [ip_ O_, ip_ O_, iN_ h47, w64 O_ O_, iN_ O_, iN_ O_, w64 O_ O_, ← e, natS]
    exact hr
   | false =>
    rw [iN_ (by simp)]
    simp only [spec_l1Balanced.j1]
    by_cases h47 : bt s (i : Int) = 47
    ·have e := dp_close h47
     rw [ip_ O_, ip_ O_, ip_ h47, w64 O_ O_, iN_ O_, iN_ O_, w64 O_ O_, ← e, natS]
     exact hr
    ·have e := dp_else ho h47
     rw [ip_ O_, ip_ O_, iN_ h47, iN_ O_, iN_ O_, w64 O_ O_, ← e, natS]
     exact hr
  ·refine ⟨false, ⟨fun x => (by cases x), fun x => absurd (x.1 (i + 1) O_) hin⟩, 2, fun k hk => ?_⟩
   obtain ⟨k, rfl⟩ : ∃ m, k = m + 2 := ⟨k - 2, O_⟩
   simp only [spec_l1Balanced.l0]
   rw [ip_ O_, ip_ O_, spec_l1Open_eq, bs_]
   cases ho : nmB (bt s (i : Int)) with
   | true =>
    have e := dp_open ho
    have h47 : bt s (i : Int) ≠ 47 := fun x => by rw [x, nmB_47] at ho; cases ho
    rw [ip_ rfl]
    simp only [spec_l1Balanced.j1]
    rw [ip_ O_, ip_ O_, iN_ h47, w64 O_ O_, iN_ O_, ip_ O_]
   | false =>
    rw [iN_ (by simp)]
    simp only [spec_l1Balanced.j1]
    by_cases h47 : bt s (i : Int) = 47
    ·have e := dp_close h47
     rw [ip_ O_, ip_ O_, ip_ h47, w64 O_ O_, ip_ O_]
    ·have e := dp_else ho h47
     omega
theorem spec_l1Balanced_ev (s : ByteArray) (hs : s.size ≤ 140737488351232) : ∃ K, ∀ k, K ≤ k → spec_l1Balanced.f k s = some (balB s) := by
 obtain ⟨B, hB, K, hK⟩ := balanced_l s hs s.size 0 O_ (fun j hj => by
  obtain rfl : j = 0 := by omega
  show 0 ≤ (0 : Int) ∧ (0 : Int) ≤ 12
  omega)
 have e : B = balB s := by rw [Bool.eq_iff_iff, hB, balB_iff]
 subst e
 exact ⟨K, fun k hk => by unfold spec_l1Balanced.f; exact hK k hk⟩
theorem spec_GoodDoc_ev (s : ByteArray) (hs : s.size ≤ 140737488351232) : ∃ K, ∀ k, K ≤ k → spec_GoodDoc.f k s = some (docB s) := by
 obtain ⟨K, hK⟩ := spec_GoodText_ev s hs
 obtain ⟨K', hK'⟩ := spec_l1Balanced_ev s hs
 refine ⟨max K K', fun k hk => ?_⟩
 unfold spec_GoodDoc.f docB
 rw [hK k O_, hK' k O_, bs_]
 cases textB s <;> simp
theorem spec_match_fwd {s : ByteArray} (hs : s.size ≤ 140737488351232) {a b : Nat} (hm : Mate s a b) (hbal : Bal s) : ∀ (d i : Nat), i + d = b → a < i →
  ∃ K, ∀ k, K ≤ k → spec_l1Match.l0 k s 1 (dp s i - dp s a) (i : Int) = some (b : Int) := by
 obtain ⟨hab, hbs, ho, hc, he, hin⟩ := hm
 have hA := hbal.1 a O_
 intro d
 induction d with
 | zero =>
  intro i hi hai
  obtain rfl : i = b := by omega
  refine ⟨3, fun k hk => ?_⟩
  obtain ⟨k, rfl⟩ : ∃ m, k = m + 3 := ⟨k - 3, O_⟩
  have e := dp_close hc
  have hI := hbal.1 i O_
  simp only [spec_l1Match.l0]
  rw [ip_ O_]
  simp only [spec_l1Match.j2]
  rw [ip_ (by simp; omega), ip_ O_, ip_ O_, spec_l1Open_eq, bs_, hc, nmB_47, iN_ (by simp)]
  simp only [spec_l1Match.j3]
  rw [ip_ O_, ip_ O_, ip_ hc, w64 O_ O_, ip_ O_]
 | succ d ih =>
  intro i hi hai
  obtain ⟨K, hK⟩ := ih (i + 1) O_ O_
  refine ⟨K + 3, fun k hk => ?_⟩
  obtain ⟨k, rfl⟩ : ∃ m, k = m + 3 := ⟨k - 3, O_⟩
  have hr := hK k O_
  have hI := hbal.1 i O_
  have hI1 := hbal.1 (i + 1) O_
  have hJ := hin (i + 1) O_ O_
  simp only [spec_l1Match.l0]
  rw [ip_ O_]
  simp only [spec_l1Match.j2]
  rw [ip_ (by simp; omega), ip_ O_, ip_ O_, spec_l1Open_eq, bs_]
  cases hn : nmB (bt s (i : Int)) with
  | true =>
   have e := dp_open hn
   have h47 : bt s (i : Int) ≠ 47 := fun x => by rw [x, nmB_47] at hn; cases hn
   rw [ip_ rfl]
   simp only [spec_l1Match.j3]
   rw [ip_ O_, ip_ O_, iN_ h47, w64 O_ O_, iN_ O_, w64 O_ O_, natS, show dp s i - dp s a + 1 = dp s (i + 1) - dp s a by omega]
   exact hr
  | false =>
   rw [iN_ (by simp)]
   simp only [spec_l1Match.j3]
   by_cases h47 : bt s (i : Int) = 47
   ·have e := dp_close h47
    rw [ip_ O_, ip_ O_, ip_ h47, w64 O_ O_, iN_ O_, w64 O_ O_, natS, show dp s i - dp s a - 1 = dp s (i + 1) - dp s a by omega]
    exact hr
   ·have e := dp_else hn h47
    rw [ip_ O_, ip_ O_, iN_ h47, iN_ O_, w64 O_ O_, natS, ← e]
    exact hr
theorem spec_l1Match_open {s : ByteArray} (hs : s.size ≤ 140737488351232) {a b : Nat} (hm : Mate s a b) (hbal : Bal s) : ∃ K, ∀ k, K ≤ k → spec_l1Match.f k s (a : Int) = some (b : Int) := by
 obtain ⟨K, hK⟩ := spec_match_fwd hs hm hbal (b - (a + 1)) (a + 1) (by have := hm.1; omega) O_
 obtain ⟨hab, hbs, ho, hc, he, hin⟩ := hm
 have e := dp_open ho
 have h47 : bt s (a : Int) ≠ 47 := fun x => by rw [x, nmB_47] at ho; cases ho
 refine ⟨K + 4, fun k hk => ?_⟩
 obtain ⟨k, rfl⟩ : ∃ m, k = m + 4 := ⟨k - 4, O_⟩
 have hr := hK k O_
 unfold spec_l1Match.f
 rw [ip_ O_, ip_ O_, iN_ h47]
 simp only [spec_l1Match.j0, spec_l1Match.l0]
 rw [ip_ O_]
 simp only [spec_l1Match.j2]
 rw [ip_ (by simp; omega), ip_ O_, ip_ O_, spec_l1Open_eq, bs_, ho, ip_ rfl]
 simp only [spec_l1Match.j3]
 rw [ip_ O_, ip_ O_, iN_ h47, w64 O_ O_, iN_ O_, w64 O_ O_, natS, show (0 : Int) + 1 = dp s (a + 1) - dp s a by omega]
 exact hr
theorem impl_beginsAt_no (s : ByteArray) (hs : s.size ≤ 140737488351232) (a : Int) (hw : (Lit.int .i64 a).wf = true) (h : ¬ (docB s = true ∧ ∃ i : Nat, a = (i : Int) ∧ i < s.size ∧ nmB (bt s (i : Int)) = true)) : ∃ K, ∀ k, K ≤ k → impl_beginsAt.f k s a = some (0, false) := by
 cases hd : docB s with
 | false =>
  obtain ⟨K, hK⟩ := impl_MatchOf_no s hs a hw hd
  refine ⟨K, fun k hk => ?_⟩
  unfold impl_beginsAt.f
  rw [hK k hk]; simp
 | true =>
  obtain ⟨o, ho, K, hK⟩ := impl_MatchOf_yes s hs a hw hd
  refine ⟨K, fun k hk => ?_⟩
  unfold impl_beginsAt.f
  rw [hK k hk]
  cases o with
  | none => simp
  | some b =>
   obtain ⟨p, q, h1, h2⟩ := (ho b).1 rfl
   have := h1.1
   rcases h2 with ⟨rfl, rfl⟩ | ⟨rfl, rfl⟩
   ·exact absurd ⟨hd, p, rfl, by have := h1.2.1; omega, h1.2.2.1⟩ h
   ·simp; omega
theorem impl_beginsAt_yes (s : ByteArray) (hs : s.size ≤ 140737488351232) (hd : docB s = true) {a b : Nat} (hm : Mate s a b) : ∃ K, ∀ k, K ≤ k → impl_beginsAt.f k s (a : Int) = some ((b : Int), true) := by
 have hw : (Lit.int .i64 (a : Int)).wf = true := WalkArith.wf_i64 (by have := hm.1; have := hm.2.1; omega)
 obtain ⟨o, ho, K, hK⟩ := impl_MatchOf_yes s hs (a : Int) hw hd
 obtain rfl : o = some (b : Int) := (ho b).2 ⟨a, b, hm, .inl ⟨rfl, rfl⟩⟩
 refine ⟨K, fun k hk => ?_⟩
 unfold impl_beginsAt.f
 rw [hK k hk]
 have := hm.1
 simp; omega
theorem stepP_zero {s : ByteArray} {st : ByteArray × Nat} {q : Pt} (h : massP q = 0) (ha : st.2 ≤ s.size) : stepP s st q = some st := by
 cases q with
 | K n =>
  obtain rfl : n = 0 := h
  show (if st.2 + 0 ≤ s.size then some (st.1 ++ s.extract st.2 (st.2 + 0), st.2 + 0) else none) = _
  rw [Nat.add_zero, ip_ ha, ba_extract_same, ba_append_nil]
 | W w =>
  obtain rfl := size0_eq (show w.size = 0 from h)
  show some (st.1 ++ _, st.2) = _
  rw [ba_append_nil]
 | D d =>
  obtain rfl := size0_eq (show d.size = 0 from h)
  show (if st.2 + 0 ≤ s.size ∧ s.extract st.2 (st.2 + 0) = ⟨#[]⟩ then some (st.1, st.2 + 0) else none) = _
  rw [Nat.add_zero, ip_ ⟨ha, ba_extract_same _ _⟩]
theorem runP_addQ {s : ByteArray} {r : List Pt} {q : Pt} {st u v : ByteArray × Nat} (h1 : runP s r.reverse st = some u) (ha : st.2 ≤ s.size) (h2 : stepP s u q = some v) : runP s (addQ r q).reverse st = some v := by
 unfold addQ
 by_cases hq : massP q = 0
 ·rw [ip_ hq]
  have := stepP_zero (s := s) (st := u) hq (runP_mono h1 ha).2
  rw [this] at h2
  rw [h1]; exact h2
 ·rw [iN_ hq]
  exact runP_add s r q st v (by rw [h1]; exact h2)
theorem runP_fold {s : ByteArray} : ∀ (L r : List Pt) (st u v : ByteArray × Nat), st.2 ≤ s.size → runP s r.reverse st = some u → runP s L u = some v → runP s (L.foldl addQ r).reverse st = some v
 | [], r, st, u, v, ha, h1, h2 => by
  have : u = v := Option.some.inj h2
  subst this; exact h1
 | q :: L, r, st, u, v, ha, h1, h2 => by
  obtain ⟨u2, h3, h4⟩ := Option.bind_eq_some_iff.1 (show (stepP s u q).bind (runP s L) = some v from h2)
  exact runP_fold L (addQ r q) st u2 v ha (runP_addQ h1 ha h3) h4
theorem mass_cons (q : Pt) (L : List Pt) : mass (q :: L) = massP q + mass L := by
 first | rfl | (simp only [mass]; omega)
theorem normalS_l (L : List Pt) : ∀ (d i : Nat) (r : List Pt), i + d = L.length → L.length ≤ 100 → (∀ x ∈ r, 0 < massP x) → mass r + mass (L.drop i) ≤ 4000000 →
  ∃ K, ∀ k, K ≤ k → spec_l3Normal.l0 k (r.reverse.map encP) (L.map encP) ((L.map encP).length : Int) (i : Int) = some (((L.drop i).foldl addQ r).reverse.map encP) := by
 intro d
 induction d with
 | zero =>
  intro i r hi hL hr hm
  refine ⟨1, fun k hk => ?_⟩
  obtain ⟨k, rfl⟩ : ∃ m, k = m + 1 := ⟨k - 1, O_⟩
  simp only [spec_l3Normal.l0]
  rw [iN_ (by rw [lM_]; omega), List.drop_of_length_le O_]
  rfl
 | succ d ih =>
  intro i r hi hL hr hm
  have hdr := List.drop_eq_getElem_cons (show i < L.length by omega)
  rw [hdr, mass_cons] at hm
  obtain ⟨K, hK⟩ := ih (i + 1) (addQ r L[i]) O_ hL (pos_addQ r _ hr) (by rw [mass_addQ]; omega)
  refine ⟨K + 6, fun k hk => ?_⟩
  obtain ⟨k, rfl⟩ : ∃ m, k = m + 1 := ⟨k - 1, O_⟩
  have hr2 := hK k O_
  simp only [spec_l3Normal.l0]
  obtain ⟨j, rfl⟩ : ∃ m, k = m + 5 := ⟨k - 5, O_⟩
  have ha := l3AddQ j r hr L[i] O_
  rw [ip_ (by rw [lM_]; omega), ip_ O_, ip_ (by rw [lM_]; omega), rd_enc L i O_, ha, bs_, w64 O_ O_, show ((i : Int) + 1) = ((i + 1 : Nat) : Int) by omega, hr2, hdr, List.foldl_cons]
def encF (L : List Pt) : List S61 := (L.foldl addQ []).reverse.map encP
theorem normalS_ev (L : List Pt) (hL : L.length ≤ 100) (hm : mass L ≤ 4000000) : ∃ K, ∀ k, K ≤ k → spec_l3Normal.f k (L.map encP) = some (encF L) := by
 obtain ⟨K, hK⟩ := normalS_l L L.length 0 [] O_ hL (fun x hx => by cases hx) (by rw [List.drop_zero]; show 0 + _ ≤ _; omega)
 exact ⟨K, fun k hk => by unfold spec_l3Normal.f; exact hK k hk⟩
def splL (s : ByteArray) (a b : Nat) (w : ByteArray) : List Pt := if (s.extract a b).toList = w.toList then [.K s.size] else [.K a, .W w, .D (s.extract a b), .K (s.size - b)]
theorem addK (k : Nat) (r : List Pt) (hr : ∀ x ∈ r, 0 < massP x) (n : Nat) (hm : mass r + n ≤ 4000000) : spec_l3Add.f (k + 5) (r.reverse.map encP) (n : Int) ⟨#[]⟩ ⟨#[]⟩ = some ((addQ r (.K n)).reverse.map encP) := l3AddQ k r hr (.K n) hm
theorem addW (k : Nat) (r : List Pt) (hr : ∀ x ∈ r, 0 < massP x) (w : ByteArray) (hm : mass r + w.size ≤ 4000000) : spec_l3Add.f (k + 5) (r.reverse.map encP) 0 w ⟨#[]⟩ = some ((addQ r (.W w)).reverse.map encP) := l3AddQ k r hr (.W w) hm
theorem addD (k : Nat) (r : List Pt) (hr : ∀ x ∈ r, 0 < massP x) (w : ByteArray) (hm : mass r + w.size ≤ 4000000) : spec_l3Add.f (k + 5) (r.reverse.map encP) 0 ⟨#[]⟩ w = some ((addQ r (.D w)).reverse.map encP) := l3AddQ k r hr (.D w) hm
theorem splice_ev (s : ByteArray) (a b : Nat) (w : ByteArray) (hs : s.size ≤ 300) (hab : a ≤ b) (hb : b ≤ s.size) (hw : w.size ≤ 1048576) : ∃ K, ∀ k, K ≤ k → spec_l3Splice.f k s (a : Int) (b : Int) w = some (encF (splL s a b w)) := by
 have hex : (s.extract a b).size ≤ 300 := by rw [zE_]; omega
 refine ⟨5, fun k hk => ?_⟩
 obtain ⟨k, rfl⟩ : ∃ m, k = m + 5 := ⟨k - 5, O_⟩
 unfold spec_l3Splice.f splL
 rw [ip_ O_, ip_ O_, ip_ O_]
 simp only [tN_]
 have p0 : ∀ x ∈ ([] : List Pt), 0 < massP x := fun x hx => by cases hx
 have m0 : mass [] = 0 := rfl
 by_cases h : (s.extract a b).toList = w.toList
 ·rw [ip_ h, ip_ h]
  have e1 := addK k [] p0 s.size O_
  rw [show ([] : List S61) = ([] : List Pt).reverse.map encP from rfl, e1]; rfl
 ·rw [iN_ h, iN_ h]
  have p1 := pos_addQ [] (.K a) p0
  have m1 : mass (addQ [] (.K a)) = a := by rw [mass_addQ]; show 0 + a = a; omega
  have p2 := pos_addQ _ (.W w) p1
  have m2 : mass (addQ (addQ [] (.K a)) (.W w)) = a + w.size := by rw [mass_addQ, m1]; rfl
  have p3 := pos_addQ _ (.D (s.extract a b)) p2
  have m3 : mass (addQ (addQ (addQ [] (.K a)) (.W w)) (.D (s.extract a b))) = a + w.size + (s.extract a b).size := by rw [mass_addQ, m2]; rfl
  have e1 := addK k [] p0 a O_
  have e2 := addW k _ p1 w O_
  have e3 := addD k _ p2 (s.extract a b) O_
  have e4 := addK k _ p3 (s.size - b) O_
  rw [show ([] : List S61) = ([] : List Pt).reverse.map encP from rfl, e1, bs_, e2, bs_, e3, bs_, w64 O_ O_, show ((s.size : Int) - (b : Int)) = ((s.size - b : Nat) : Int) by omega, e4]; rfl
theorem apply_ev (s : ByteArray) (hs : s.size ≤ 300) (L : List Pt) (t : ByteArray) (hm : mass L ≤ 4000000) (hr : runP s L (⟨#[]⟩, 0) = some (t, s.size)) (ht : t.size ≤ 1000000000) : ∃ K, ∀ k, K ≤ k → spec_l3Apply.f k (encF L) s = some (t, true) := by
 obtain ⟨f1, f2⟩ := fold_inv L [] (fun x hx => by cases hx)
 have f3 : mass (L.foldl addQ []) = mass L := by rw [f2]; show 0 + _ = _; omega
 have hl := mass_len f1
 have hrun := runP_fold L [] (⟨#[]⟩, 0) (⟨#[]⟩, 0) (t, s.size) (Nat.zero_le _) rfl hr
 obtain ⟨K, hK⟩ := l3Apply_l s hs (L.foldl addQ []).reverse (by rw [List.length_reverse]; omega) (fun x hx => f1 x (List.mem_reverse.1 hx)) (fun x hx => by
  have := mass_mem (List.mem_reverse.1 hx); omega) (t, s.size) ht (L.foldl addQ []).reverse.length 0 0 ⟨#[]⟩ O_ (Nat.zero_le _) hrun
 refine ⟨K, fun k hk => ?_⟩
 have := hK k hk
 rw [ba_extract_all, ba_extract_same] at this
 unfold spec_l3Apply.f encF
 show spec_l3Apply.l0 k s ⟨#[]⟩ _ _ ((0 : Nat) : Int) = _
 rw [this, nil_toList]; rfl
theorem do_l (s : ByteArray) (hs : s.size ≤ 300) (X : List S61) (NX : List S61) (hX : impl_normal.f X = some NX) (L : List Pt) (hL : L.length ≤ 100) (hmx : ∀ x ∈ L, massP x ≤ 4000000) (v : ByteArray × Nat) (hv : v.1.size ≤ 1000000000) :
  ∀ (d i : Nat) (a : Nat) (out : ByteArray), i + d = L.length → a ≤ s.size → runP s (L.drop i) (out, a) = some v →
  ∃ K, ∀ k, K ≤ k → impl_Command_do.l0 k X out (s.extract a s.size) (L.map encP) ((L.map encP).length : Int) (i : Int) = some (if docB v.1 = true then (v.1, NX, true) else (⟨#[]⟩, [], false)) := by
 intro d
 induction d with
 | zero =>
  intro i a out hi ha h
  rw [List.drop_of_length_le O_] at h
  obtain rfl := Option.some.inj h
  obtain ⟨K, hK⟩ := impl_GoodDoc_ev out (by show out.size ≤ _; have : out.size ≤ 1000000000 := hv; omega)
  refine ⟨K + 1, fun k hk => ?_⟩
  obtain ⟨k, rfl⟩ : ∃ m, k = m + 1 := ⟨k - 1, O_⟩
  simp only [impl_Command_do.l0]
  rw [iN_ (by rw [lM_]; omega), hK k O_, bs_]
  cases docB out with
  | true => rw [ip_ rfl, hX]; rfl
  | false => rfl
 | succ d ih =>
  intro i a out hi ha h
  have hdr := List.drop_eq_getElem_cons (show i < L.length by omega)
  rw [hdr] at h
  obtain ⟨u, h1, h2⟩ := Option.bind_eq_some_iff.1 (show (stepP s (out, a) L[i]).bind (runP s (L.drop (i + 1))) = some v from h)
  have hmono := stepP_mono h1 ha
  have hm2 := runP_mono h2 hmono.2
  obtain ⟨K, hK⟩ := ih (i + 1) u.2 u.1 O_ hmono.2 h2
  have hre := rd_enc L i O_
  have hsz := rest_size s a
  have hq := hmx L[i] (List.getElem_mem _)
  have z0 : (⟨#[]⟩ : ByteArray).size = 0 := rfl
  refine ⟨K + 1, fun k hk => ?_⟩
  obtain ⟨k, rfl⟩ : ∃ m, k = m + 1 := ⟨k - 1, O_⟩
  have hr := hK k O_
  have hc : ((i : Int) + 1) = ((i + 1 : Nat) : Int) := by omega
  simp only [impl_Command_do.l0]
  rw [ip_ (by rw [lM_]; omega), ip_ O_, ip_ (by rw [lM_]; omega), hre]
  generalize hg : L[i] = q at h1 hq
  cases q with
  | K n =>
   have h1' : (if a + n ≤ s.size then some (out ++ s.extract a (a + n), a + n) else none) = some u := h1
   by_cases hn : a + n ≤ s.size
   ·rw [ip_ hn] at h1'
    obtain rfl := Option.some.inj h1'
    simp only [encP, z0, Int.ofNat_zero, Int.add_zero, tN_]
    rw [w64 (i := (n : Int)) O_ O_]
    simp only [tN_, ba_append_nil]
    have e1 : ((s.extract a s.size).extract 0 n) = s.extract a (a + n) := by rw [ba_extract_extract s a 0 n hn, Nat.add_zero]
    have e2 : ((s.extract a s.size).extract n (s.extract a s.size).size) = s.extract (a + n) s.size := ba_extract_end s a n hn
    have e3 : (s.extract a (a + n)).size = n := by rw [zE_]; omega
    have e4 : out.size ≤ 1000000000 := by have : out.size ≤ _ := hmono.1; omega
    rw [e1, e2, e3, ip_ O_, ip_ O_, ip_ O_, ip_ O_, ip_ O_, ip_ O_, w64 O_ O_, hc]
    exact hr
   ·rw [iN_ hn] at h1'; cases h1'
  | W w =>
   obtain rfl := Option.some.inj (show some (out ++ w, a) = some u from h1)
   have hw : w.size ≤ 4000000 := hq
   simp only [encP, z0, Int.ofNat_zero, Int.add_zero, Int.toNat_zero]
   rw [w64 (i := (0 : Int)) O_ O_]
   simp only [Int.toNat_zero, ba_extract_same, ba_nil_append, z0]
   have e2 : ((s.extract a s.size).extract 0 (s.extract a s.size).size) = s.extract a s.size := ba_extract_all _
   have e4 : out.size ≤ 1000000000 := by have : out.size ≤ _ := hmono.1; omega
   rw [e2, ip_ O_, ip_ O_, ip_ O_, ip_ O_, ip_ O_, ip_ O_, w64 O_ O_, hc]
   exact hr
  | D w =>
   have h1' : (if a + w.size ≤ s.size ∧ s.extract a (a + w.size) = w then some (out, a + w.size) else none) = some u := h1
   by_cases hn : a + w.size ≤ s.size ∧ s.extract a (a + w.size) = w
   ·rw [ip_ hn] at h1'
    obtain rfl := Option.some.inj h1'
    simp only [encP, z0, Int.zero_add, Int.toNat_zero]
    rw [w64 (i := (w.size : Int)) O_ O_]
    simp only [tN_, ba_extract_same, ba_nil_append, ba_append_nil, z0]
    have e2 : ((s.extract a s.size).extract w.size (s.extract a s.size).size) = s.extract (a + w.size) s.size := ba_extract_end s a w.size hn.1
    have e4 : out.size ≤ 1000000000 := by have : out.size ≤ _ := hmono.1; omega
    rw [e2, ip_ O_, ip_ O_, ip_ O_, ip_ O_, ip_ O_, ip_ O_, w64 O_ O_, hc]
    exact hr
   ·rw [iN_ hn] at h1'; cases h1'
def CmdIs (s : ByteArray) (kd at_ tz : Int) (w : ByteArray) (o : Option (List Pt × ByteArray)) : Prop :=
 (∃ X : List S61, ∃ K, ∀ k, K ≤ k → impl_Command_parts.f k kd at_ tz w s = some (match o with | none => (X, false) | some p => (p.1.map encP, true))) ∧
 (∃ Y : List S61, ∃ K, ∀ k, K ≤ k → spec_l8Op.f k s kd at_ tz w = some (match o with | none => (Y, false) | some p => (encF p.1, true))) ∧
 (∀ p, o = some p → runP s p.1 (⟨#[]⟩, 0) = some (p.2, s.size) ∧ mass p.1 ≤ 2000 ∧ p.1.length ≤ 10)
theorem massP_mem {L : List Pt} {x : Pt} (h : x ∈ L) : massP x ≤ mass L := mass_mem h
theorem run_size {s : ByteArray} : ∀ {L : List Pt} {st v : ByteArray × Nat}, runP s L st = some v → v.1.size ≤ st.1.size + mass L
 | [], st, v, h => by
  obtain rfl := Option.some.inj h
  show _ ≤ _ + 0; omega
 | q :: L, st, v, h => by
  obtain ⟨u, h1, h2⟩ := Option.bind_eq_some_iff.1 (show (stepP s st q).bind (runP s L) = some v from h)
  have := run_size h2
  have hq : u.1.size ≤ st.1.size + massP q := by
   cases q with
   | K n =>
    have h1' : (if st.2 + n ≤ s.size then some (st.1 ++ s.extract st.2 (st.2 + n), st.2 + n) else none) = some u := h1
    split at h1'
    ·obtain rfl := Option.some.inj h1'
     rw [zA_, zE_]; show _ ≤ _ + n; omega
    ·cases h1'
   | W w =>
    obtain rfl := Option.some.inj (show some (st.1 ++ w, st.2) = some u from h1)
    rw [zA_]; exact Nat.le_refl _
   | D d =>
    have h1' : (if st.2 + d.size ≤ s.size ∧ s.extract st.2 (st.2 + d.size) = d then some (st.1, st.2 + d.size) else none) = some u := h1
    split at h1'
    ·obtain rfl := Option.some.inj h1'
     show st.1.size ≤ _; omega
    ·cases h1'
  rw [mass_cons]; omega
def doI : Option (List Pt × ByteArray) → ByteArray × List S61 × Bool
 | none => (⟨#[]⟩, [], false)
 | some p => if docB p.2 = true then (p.2, encF p.1, true) else (⟨#[]⟩, [], false)
def doS (Y : List S61) (T : ByteArray) : Option (List Pt × ByteArray) → List S61 × ByteArray × Bool
 | none => (Y, T, false)
 | some p => (encF p.1, p.2, docB p.2)
theorem do_ev {s : ByteArray} (hd : docB s = true) {kd at_ tz : Int} {w : ByteArray} {o : Option (List Pt × ByteArray)} (h0 : 0 ≤ at_) (h1 : at_ ≤ (s.size : Int)) (hto : kd = 2 ∨ kd = 3 ∨ kd = 7 → 0 ≤ tz ∧ tz ≤ (s.size : Int)) (h : CmdIs s kd at_ tz w o) :
  (∃ K, ∀ k, K ≤ k → impl_Command_do.f k kd at_ tz w s = some (doI o)) ∧
  (∃ Y T, ∃ K, ∀ k, K ≤ k → spec_l8Do.f k s kd at_ tz w = some (doS Y T o)) := by
 have hz := textB_size ((docB_iff s).1 hd).1
 obtain ⟨⟨X, K1, hX⟩, ⟨Y, K2, hY⟩, hr⟩ := h
 obtain ⟨K3, h3⟩ := impl_GoodDoc_ev s O_
 constructor
 ·-- the program
  have hpl : ∀ x : Int, 0 ≤ x → x ≤ (s.size : Int) → impl_hasPlace.f s x = some true := fun x hx hx2 => by
   unfold impl_hasPlace.f; rw [ip_ hx, decide_eq_true hx2]
  have hend : ∃ R K, R = doI o ∧ ∀ k, K ≤ k → impl_Command_do.j1 k s false kd at_ tz w = some R := by
   cases o with
   | none =>
    refine ⟨_, K1 + 1, rfl, fun k hk => ?_⟩
    obtain ⟨k, rfl⟩ : ∃ m, k = m + 1 := ⟨k - 1, O_⟩
    simp only [impl_Command_do.j1]
    rw [iN_ (by simp), hX k O_]
    simp [doI]
   | some p =>
    obtain ⟨r1, r2, r3⟩ := hr p rfl
    have hsz := run_size r1
    have hsz' : p.2.size ≤ 0 + mass p.1 := hsz
    have hN := normal_ev p.1 O_
    obtain ⟨K4, h4⟩ := do_l s hz (p.1.map encP) (encF p.1) hN p.1 O_ (fun x hx => by have := massP_mem hx; omega) (p.2, s.size) (by show p.2.size ≤ _; omega) p.1.length 0 0 ⟨#[]⟩ O_ (Nat.zero_le _) r1
    refine ⟨_, K1 + K4 + 1, rfl, fun k hk => ?_⟩
    obtain ⟨k, rfl⟩ : ∃ m, k = m + 1 := ⟨k - 1, O_⟩
    have e4 := h4 k O_
    rw [ba_extract_all] at e4
    simp only [impl_Command_do.j1]
    rw [iN_ (by simp), hX k O_]
    simp only [bs_, if_true]
    exact e4
  obtain ⟨R, K5, rfl, h5⟩ := hend
  refine ⟨K3 + K5 + 1, fun k hk => ?_⟩
  obtain ⟨k, rfl⟩ : ∃ m, k = m + 1 := ⟨k - 1, O_⟩
  have hj : ∀ b : Bool, (b = true → kd = 2 ∨ kd = 3 ∨ kd = 7) → impl_Command_do.j0 (k + 1) s b kd at_ tz w = impl_Command_do.j1 k s false kd at_ tz w := fun b hb => by
   simp only [impl_Command_do.j0]
   rw [h3 k O_, hd, bs_, ip_ rfl, hpl at_ h0 h1, bs_, ip_ rfl]
   cases b with
   | false => rw [iN_ (by simp)]
   | true =>
    obtain ⟨g1, g2⟩ := hto (hb rfl)
    rw [ip_ rfl, hpl tz g1 g2, bs_]; rfl
  unfold impl_Command_do.f
  by_cases c2 : kd = 2
  ·rw [ip_ c2, hj true (fun _ => .inl c2)]; exact h5 k O_
  ·rw [iN_ c2]
   by_cases c3 : kd = 3
   ·rw [ip_ c3, hj true (fun _ => .inr (.inl c3))]; exact h5 k O_
   ·rw [iN_ c3, hj (kd == 7) (fun e => .inr (.inr (beq_iff_eq.1 e)))]; exact h5 k O_
 ·cases o with
  | none =>
   refine ⟨[], ⟨#[]⟩, K2, fun k hk => ?_⟩
   unfold spec_l8Do.f
   rw [hY k hk]; simp [doS]
  | some p =>
   obtain ⟨r1, r2, r3⟩ := hr p rfl
   have hsz := run_size r1
   have hsz' : p.2.size ≤ 0 + mass p.1 := hsz
   obtain ⟨K4, h4⟩ := apply_ev s hz p.1 p.2 O_ r1 O_
   obtain ⟨K5, h5⟩ := spec_GoodDoc_ev p.2 O_
   refine ⟨[], ⟨#[]⟩, K2 + K4 + K5, fun k hk => ?_⟩
   unfold spec_l8Do.f
   rw [hY k O_]
   simp only [bs_, if_true]
   rw [h4 k O_]
   simp only [bs_]
   rw [h5 k O_]; rfl
theorem keepTo_eq (a b : Int) (h0 : -10000 ≤ b - a) (h1 : b - a ≤ 10000) : impl_keepTo.f a b = some (b - a, ⟨#[]⟩, ⟨#[]⟩) := by
 unfold impl_keepTo.f; rw [w64 O_ O_]
theorem in_eq (a b c : Int) : spec_l1In.f a b c = some (decide (b ≤ a) && decide (a ≤ c)) := by
 unfold spec_l1In.f
 by_cases h : a ≥ b
 ·rw [ip_ h, decide_eq_true (show b ≤ a from h)]; simp
 ·rw [iN_ h, decide_eq_false (show ¬ b ≤ a from h)]; simp
def nameT (w : ByteArray) : Bool := decide (w.size = 1) && nmB (bt w 0)
theorem isNameText_eq (w : ByteArray) : impl_isNameText.f w = some (nameT w) := by
 unfold impl_isNameText.f nameT
 by_cases h : w.size = 1
 ·rw [ip_ O_, ip_ O_, impl_isName_eq, decide_eq_true h]; simp
 ·rw [iN_ O_, decide_eq_false h]; simp
theorem l1Name_eq (w : ByteArray) : spec_l1Name.f w = some (nameT w) := by
 unfold spec_l1Name.f nameT
 by_cases h : w.size = 1
 ·rw [ip_ O_, ip_ O_, spec_l1Open_eq, decide_eq_true h]; simp
 ·rw [iN_ O_, decide_eq_false h]; simp
theorem fold_zero (q : Pt) (h : massP q = 0) (L r : List Pt) : (q :: L).foldl addQ r = L.foldl addQ r := by
 rw [List.foldl_cons]
 show L.foldl addQ (addQ r q) = _
 unfold addQ
 rw [ip_ h]
theorem encF_D0 (a b : Nat) (w : ByteArray) : encF [.K a, .W w, .D ⟨#[]⟩, .K b] = encF [.K a, .W w, .K b] := by
 unfold encF
 rw [List.foldl_cons, List.foldl_cons, fold_zero (.D ⟨#[]⟩) rfl]; rfl
theorem encF_W0 (a b : Nat) (d : ByteArray) : encF [.K a, .W ⟨#[]⟩, .D d, .K b] = encF [.K a, .D d, .K b] := by
 unfold encF
 rw [List.foldl_cons, fold_zero (.W ⟨#[]⟩) rfl]; rfl
theorem run_K {s : ByteArray} {t : ByteArray} {a n : Nat} (h : a + n ≤ s.size) (L : List Pt) : runP s (.K n :: L) (t, a) = runP s L (t ++ s.extract a (a + n), a + n) := by
 show (if a + n ≤ s.size then some (t ++ s.extract a (a + n), a + n) else none).bind (runP s L) = _
 rw [ip_ h]; rfl
theorem run_W {s : ByteArray} {t : ByteArray} {a : Nat} (w : ByteArray) (L : List Pt) : runP s (.W w :: L) (t, a) = runP s L (t ++ w, a) := rfl
theorem run_D {s : ByteArray} {t : ByteArray} {a b : Nat} (hab : a ≤ b) (hb : b ≤ s.size) (L : List Pt) : runP s (.D (s.extract a b) :: L) (t, a) = runP s L (t, b) := by
 have e : (s.extract a b).size = b - a := by rw [zE_]; omega
 show (if a + (s.extract a b).size ≤ s.size ∧ s.extract a (a + (s.extract a b).size) = s.extract a b then some (t, a + (s.extract a b).size) else none).bind (runP s L) = _
 rw [e, show a + (b - a) = b by omega, ip_ ⟨hb, rfl⟩]; rfl
theorem run_nil {s : ByteArray} {st : ByteArray × Nat} : runP s [] st = some st := rfl
def putT (s : ByteArray) (a b : Nat) (w : ByteArray) : ByteArray := s.extract 0 a ++ w ++ s.extract b s.size
theorem run_put {s : ByteArray} {a b : Nat} {w : ByteArray} (hab : a ≤ b) (hb : b ≤ s.size) : runP s [.K a, .W w, .D (s.extract a b), .K (s.size - b)] (⟨#[]⟩, 0) = some (putT s a b w, s.size) := by
 rw [run_K O_, run_W, Nat.zero_add, run_D hab hb, run_K O_, run_nil, show b + (s.size - b) = s.size by omega, ba_nil_append]; rfl
theorem run_ins {s : ByteArray} {a : Nat} {w : ByteArray} (ha : a ≤ s.size) : runP s [.K a, .W w, .K (s.size - a)] (⟨#[]⟩, 0) = some (putT s a a w, s.size) := by
 rw [run_K O_, run_W, Nat.zero_add, run_K O_, run_nil, show a + (s.size - a) = s.size by omega, ba_nil_append]; rfl
theorem run_del {s : ByteArray} {a b : Nat} (hab : a ≤ b) (hb : b ≤ s.size) : runP s [.K a, .D (s.extract a b), .K (s.size - b)] (⟨#[]⟩, 0) = some (putT s a b ⟨#[]⟩, s.size) := by
 rw [run_K O_, Nat.zero_add, run_D hab hb, run_K O_, run_nil, show b + (s.size - b) = s.size by omega, ba_nil_append]
 unfold putT; rw [ba_append_nil]
theorem splL_ne {s : ByteArray} {a b : Nat} {w : ByteArray} (h : ¬ (s.extract a b).toList = w.toList) : splL s a b w = [.K a, .W w, .D (s.extract a b), .K (s.size - b)] := iN_ h
theorem ex_nil (s : ByteArray) (a : Nat) : (s.extract a a).toList = ([] : List UInt8) := by rw [ba_extract_same, nil_toList]
theorem ex_ne {s : ByteArray} {a b : Nat} (hab : a < b) (hb : b ≤ s.size) : ¬ (s.extract a b).toList = (⟨#[]⟩ : ByteArray).toList := by
 rw [nil_toList]
 exact pos_toList (by rw [zE_]; omega)
theorem encF_ins {s : ByteArray} {a : Nat} {w : ByteArray} (hw : ¬ w.toList = ([] : List UInt8)) : encF (splL s a a w) = encF [.K a, .W w, .K (s.size - a)] := by
 rw [splL_ne (by rw [ex_nil]; exact fun e => hw e.symm), ba_extract_same, encF_D0]
theorem encF_del {s : ByteArray} {a b : Nat} (hab : a < b) (hb : b ≤ s.size) : encF (splL s a b ⟨#[]⟩) = encF [.K a, .D (s.extract a b), .K (s.size - b)] := by
 rw [splL_ne (ex_ne hab hb), encF_W0]
theorem mass3 (x y z : Pt) : mass [x, y, z] = massP x + massP y + massP z := by rw [mass_cons, mass_cons, mass_cons]; show _ + (_ + (_ + 0)) = _; omega
theorem mass4 (x y z u : Pt) : mass [x, y, z, u] = massP x + massP y + massP z + massP u := by rw [mass_cons, mass3]; omega
theorem mass5 (x y z u v : Pt) : mass [x, y, z, u, v] = massP x + massP y + massP z + massP u + massP v := by rw [mass_cons, mass4]; omega
theorem ex_size (s : ByteArray) (a b : Nat) (hb : b ≤ s.size) : (s.extract a b).size = b - a := by rw [zE_]; omega
theorem cmd_ins (s : ByteArray) (hs : s.size ≤ 300) (a : Nat) (ha : a ≤ s.size) (tz : Int) (w : ByteArray) (hw : w.size ≤ 1048576) : ∃ o, CmdIs s 1 (a : Int) tz w o := by
 obtain ⟨K1, h1⟩ := splice_ev s a a w hs (Nat.le_refl _) ha hw
 obtain ⟨K2, h2⟩ := impl_GoodText_ev w O_
 obtain ⟨K3, h3⟩ := spec_GoodText_ev w O_
 have k1 := keepTo_eq 0 (a : Int) O_ O_
 have k2 := keepTo_eq (a : Int) (s.size : Int) O_ O_
 rw [Int.sub_zero] at k1
 have hI : ∀ k, max K2 0 ≤ k → impl_Command_parts.f k 1 (a : Int) tz w s = some ([⟨(a : Int), ⟨#[]⟩, ⟨#[]⟩⟩, ⟨0, w, ⟨#[]⟩⟩, ⟨(s.size : Int) - (a : Int), ⟨#[]⟩, ⟨#[]⟩⟩], if w.toList = [] then false else textB w) := fun k hk => by
  unfold impl_Command_parts.f
  rw [ip_ rfl, k1, bs_, k2, bs_]
  simp only [bs_]
  by_cases hn : w.toList = []
  ·rw [ip_ hn, ip_ hn]
  ·rw [iN_ hn, iN_ hn, h2 k O_]; rfl
 have hS : ∀ k, max K1 K3 ≤ k → spec_l8Op.f k s 1 (a : Int) tz w = some (encF (splL s a a w), if w.toList = [] then false else textB w) := fun k hk => by
  unfold spec_l8Op.f
  rw [in_eq, bs_, decide_eq_true O_, decide_eq_true O_, Bool.and_self, ip_ rfl, ip_ rfl, h1 k O_, bs_]
  by_cases hn : w.toList = []
  ·rw [ip_ hn, ip_ hn]
  ·rw [iN_ hn, iN_ hn, h3 k O_]; rfl
 by_cases hgood : (if w.toList = [] then false else textB w) = true
 ·rw [hgood] at hI hS
  have hn : ¬ w.toList = [] := fun e => by rw [ip_ e] at hgood; cases hgood
  rw [iN_ hn] at hgood
  have hz := textB_size hgood
  refine ⟨some ([.K a, .W w, .K (s.size - a)], putT s a a w), ⟨[], max K2 0, fun k hk => ?_⟩, ⟨[], max K1 K3, fun k hk => ?_⟩, fun p hp => ?_⟩
  ·rw [hI k hk]
   show some ([_, _, _], true) = some ([encP (.K a), encP (.W w), encP (.K (s.size - a))], true)
   simp only [encP]
   rw [show ((s.size : Int) - (a : Int)) = ((s.size - a : Nat) : Int) by omega]
  ·rw [hS k hk, encF_ins hn]
  ·obtain rfl := Option.some.inj hp
   exact ⟨run_ins ha, by rw [mass3]; show a + w.size + (s.size - a) ≤ _; omega, by simp⟩
 ·rw [Bool.eq_false_iff.mpr hgood] at hI hS
  exact ⟨none, ⟨_, _, hI⟩, ⟨_, _, hS⟩, fun p hp => by cases hp⟩
theorem in_true {a b c : Int} (h : b ≤ a) (h2 : a ≤ c) : spec_l1In.f a b c = some true := by rw [in_eq, decide_eq_true h, decide_eq_true h2]; rfl
theorem in_false {a b c : Int} (h : ¬ (b ≤ a ∧ a ≤ c)) : spec_l1In.f a b c = some false := by
 rw [in_eq]
 by_cases h1 : b ≤ a
 ·rw [decide_eq_true h1, decide_eq_false (fun h2 => h ⟨h1, h2⟩)]; rfl
 ·rw [decide_eq_false h1]; rfl
theorem docB_sub {s : ByteArray} (ht : textB s = true) (a b : Nat) (hb : b ≤ s.size) : docB (s.extract a b) = balB (s.extract a b) := by
 unfold docB; rw [textB_extract ht a b hb]; rfl
theorem cmd_rem (s : ByteArray) (ht : textB s = true) (a b : Nat) (ha : a ≤ s.size) (hb : b ≤ s.size) (w : ByteArray) : ∃ o, CmdIs s 2 (a : Int) (b : Int) w o := by
 have hs := textB_size ht
 by_cases hab : a < b
 ·obtain ⟨K1, h1⟩ := splice_ev s a b ⟨#[]⟩ hs O_ hb (Nat.zero_le _)
  obtain ⟨K2, h2⟩ := impl_GoodDoc_ev (s.extract a b) (by have := ex_size s a b hb; omega)
  obtain ⟨K3, h3⟩ := spec_l1Balanced_ev (s.extract a b) (by have := ex_size s a b hb; omega)
  rw [docB_sub ht a b hb] at h2
  have k1 := keepTo_eq 0 (a : Int) O_ O_
  have k2 := keepTo_eq (b : Int) (s.size : Int) O_ O_
  rw [Int.sub_zero] at k1
  have hI : ∀ k, K2 + 1 ≤ k → impl_Command_parts.f k 2 (a : Int) (b : Int) w s = some (if balB (s.extract a b) = true then ([⟨(a : Int), ⟨#[]⟩, ⟨#[]⟩⟩, ⟨0, ⟨#[]⟩, s.extract a b⟩, ⟨(s.size : Int) - (b : Int), ⟨#[]⟩, ⟨#[]⟩⟩], true) else ([], false)) := fun k hk => by
   obtain ⟨k, rfl⟩ : ∃ m, k = m + 1 := ⟨k - 1, O_⟩
   unfold impl_Command_parts.f
   simp only [tN_]
   rw [iN_ O_, ip_ (by trivial), iN_ O_, ip_ O_, ip_ O_, ip_ O_, h2 (k + 1) O_, bs_]
   simp only [impl_Command_parts.j0]
   cases balB (s.extract a b) with
   | true =>
    simp only [Bool.not_true, Bool.false_eq_true, if_false, if_true, k1, k2, bs_, tN_]
    rw [ip_ O_, ip_ O_, ip_ O_]
   | false => simp
  have hS : ∀ k, K1 + K3 + 2 ≤ k → spec_l8Op.f k s 2 (a : Int) (b : Int) w = some (if balB (s.extract a b) = true then (encF (splL s a b ⟨#[]⟩), true) else ([], false)) := fun k hk => by
   obtain ⟨k, rfl⟩ : ∃ m, k = m + 2 := ⟨k - 2, O_⟩
   unfold spec_l8Op.f
   rw [in_true O_ O_, bs_, ip_ rfl, iN_ O_, ip_ rfl]
   simp only [spec_l8Op.j0]
   rw [ip_ (by trivial), in_true O_ O_, bs_, ip_ rfl, ip_ O_, ip_ O_, ip_ O_]
   simp only [tN_]
   rw [h3 (k + 1) O_, bs_]
   simp only [spec_l8Op.j1]
   cases balB (s.extract a b) with
   | true =>
    rw [iN_ (by simp), ip_ (by trivial), h1 k O_, bs_, decide_eq_true O_]; rfl
   | false => simp
  cases hb2 : balB (s.extract a b) with
  | true =>
   rw [hb2] at hI hS
   refine ⟨some ([.K a, .D (s.extract a b), .K (s.size - b)], putT s a b ⟨#[]⟩), ⟨[], K2 + 1, fun k hk => ?_⟩, ⟨[], K1 + K3 + 2, fun k hk => ?_⟩, fun p hp => ?_⟩
   ·rw [hI k hk, ip_ rfl]
    show some ([_, _, _], true) = some ([encP (.K a), encP (.D (s.extract a b)), encP (.K (s.size - b))], true)
    simp only [encP]
    rw [show ((s.size : Int) - (b : Int)) = ((s.size - b : Nat) : Int) by omega]
   ·rw [hS k hk, ip_ rfl, encF_del hab hb]
   ·obtain rfl := Option.some.inj hp
    refine ⟨run_del O_ hb, ?_, by simp⟩
    rw [mass3]; have := ex_size s a b hb; show a + (s.extract a b).size + (s.size - b) ≤ _; omega
  | false =>
   rw [hb2] at hI hS
   exact ⟨none, ⟨[], _, hI⟩, ⟨[], _, hS⟩, fun p hp => by cases hp⟩
 ·have hI : ∀ k, 1 ≤ k → impl_Command_parts.f k 2 (a : Int) (b : Int) w s = some ([], false) := fun k hk => by
   obtain ⟨k, rfl⟩ : ∃ m, k = m + 1 := ⟨k - 1, O_⟩
   unfold impl_Command_parts.f
   rw [iN_ O_, ip_ rfl, ip_ O_]
   simp only [impl_Command_parts.j0]; simp
  by_cases hle : a = b
  ·subst hle
   obtain ⟨K1, h1⟩ := splice_ev s a a ⟨#[]⟩ hs (Nat.le_refl _) hb (Nat.zero_le _)
   obtain ⟨K3, h3⟩ := spec_l1Balanced_ev (s.extract a a) (by have := ex_size s a a hb; omega)
   refine ⟨none, ⟨[], 1, hI⟩, ⟨if balB (s.extract a a) = true then encF (splL s a a ⟨#[]⟩) else [], K1 + K3 + 2, fun k hk => ?_⟩, fun p hp => by cases hp⟩
   obtain ⟨k, rfl⟩ : ∃ m, k = m + 2 := ⟨k - 2, O_⟩
   unfold spec_l8Op.f
   rw [in_true O_ O_, bs_, ip_ rfl, iN_ O_, ip_ rfl]
   simp only [spec_l8Op.j0]
   rw [ip_ (by trivial), in_true O_ O_, bs_, ip_ rfl, ip_ O_, ip_ O_, ip_ O_]
   simp only [tN_]
   rw [h3 (k + 1) O_, bs_]
   simp only [spec_l8Op.j1]
   cases balB (s.extract a a) with
   | true => rw [iN_ (by simp), ip_ (by trivial), h1 k O_, bs_, decide_eq_false O_]; rfl
   | false => simp
  ·refine ⟨none, ⟨[], 1, hI⟩, ⟨[], 2, fun k hk => ?_⟩, fun p hp => by cases hp⟩
   obtain ⟨k, rfl⟩ : ∃ m, k = m + 2 := ⟨k - 2, O_⟩
   unfold spec_l8Op.f
   rw [in_true O_ O_, bs_, ip_ rfl, iN_ O_, ip_ rfl]
   simp only [spec_l8Op.j0]
   rw [ip_ (by trivial), in_false O_, bs_, iN_ (by simp)]
   simp only [spec_l8Op.j1]; simp
theorem sub_cast {a b : Nat} (h : a ≤ b) : ((b : Int) - (a : Int)) = ((b - a : Nat) : Int) := by omega
def wrapT (s : ByteArray) (a b : Nat) (w : ByteArray) : ByteArray := s.extract 0 a ++ w ++ s.extract a b ++ ⟨#[47]⟩ ++ s.extract b s.size
theorem run_wrap {s : ByteArray} {a b : Nat} {w : ByteArray} (hab : a ≤ b) (hb : b ≤ s.size) : runP s [.K a, .W w, .K (b - a), .W ⟨#[47]⟩, .K (s.size - b)] (⟨#[]⟩, 0) = some (wrapT s a b w, s.size) := by
 rw [run_K O_, run_W, Nat.zero_add, run_K O_, run_W, run_K O_, run_nil, show a + (b - a) = b by omega, show b + (s.size - b) = s.size by omega, ba_nil_append]; rfl
theorem nameT_size {w : ByteArray} (h : nameT w = true) : w.size = 1 := by
 unfold nameT at h; rw [Bool.and_eq_true] at h; exact of_decide_eq_true h.1
theorem cmd_wrap (s : ByteArray) (ht : textB s = true) (a b : Nat) (ha : a ≤ s.size) (hb : b ≤ s.size) (w : ByteArray) : ∃ o, CmdIs s 3 (a : Int) (b : Int) w o := by
 have hs := textB_size ht
 by_cases hab : a ≤ b
 ·obtain ⟨K2, h2⟩ := impl_GoodDoc_ev (s.extract a b) (by have := ex_size s a b hb; omega)
  obtain ⟨K3, h3⟩ := spec_l1Balanced_ev (s.extract a b) (by have := ex_size s a b hb; omega)
  rw [docB_sub ht a b hb] at h2
  have k1 := keepTo_eq 0 (a : Int) O_ O_
  have k3 := keepTo_eq (a : Int) (b : Int) O_ O_
  have k2 := keepTo_eq (b : Int) (s.size : Int) O_ O_
  rw [Int.sub_zero] at k1
  have hI : ∀ k, K2 + 1 ≤ k → impl_Command_parts.f k 3 (a : Int) (b : Int) w s = some (if (balB (s.extract a b) && nameT w) = true then ([Pt.K a, .W w, .K (b - a), .W ⟨#[47]⟩, .K (s.size - b)].map encP, true) else ([], false)) := fun k hk => by
   obtain ⟨k, rfl⟩ : ∃ m, k = m + 1 := ⟨k - 1, O_⟩
   unfold impl_Command_parts.f
   rw [iN_ O_, iN_ O_, ip_ rfl, iN_ O_, ip_ O_, ip_ O_, ip_ O_]
   simp only [tN_]
   rw [h2 (k + 1) O_, bs_, isNameText_eq, bs_]
   simp only [impl_Command_parts.j1]
   cases balB (s.extract a b) with
   | true =>
    cases nameT w with
    | true =>
     simp only [Bool.not_true, Bool.false_eq_true, if_false, if_true, k1, k2, k3, bs_, Bool.and_self, List.map_cons, List.map_nil, encP]
     rw [sub_cast hab, sub_cast hb]
    | false => simp
   | false => simp
  have hS0 : ∃ K, ∀ k, K ≤ k → spec_l8Op.f k s 3 (a : Int) (b : Int) w = some (if (balB (s.extract a b) && nameT w) = true then (encF [Pt.K a, .W w, .K (b - a), .W ⟨#[47]⟩, .K (s.size - b)], true) else ([], false)) := by
   cases hb2 : balB (s.extract a b) && nameT w with
   | true =>
    rw [Bool.and_eq_true] at hb2
    have hn := nameT_size hb2.2
    obtain ⟨K4, h4⟩ := normalS_ev [Pt.K a, .W w, .K (b - a), .W ⟨#[47]⟩, .K (s.size - b)] (by simp) (by rw [mass5]; show a + w.size + (b - a) + 1 + (s.size - b) ≤ _; omega)
    simp only [List.map_cons, List.map_nil, encP] at h4
    refine ⟨K3 + K4 + 2, fun k hk => ?_⟩
    obtain ⟨k, rfl⟩ : ∃ m, k = m + 2 := ⟨k - 2, O_⟩
    have e4 := h4 k O_
    unfold spec_l8Op.f
    rw [in_true O_ O_, bs_, ip_ rfl, iN_ O_, iN_ O_]
    simp only [spec_l8Op.j0]
    rw [ip_ (by trivial), in_true O_ O_, bs_, ip_ rfl, ip_ O_, ip_ O_, ip_ O_]
    simp only [tN_]
    rw [h3 (k + 1) O_, bs_, hb2.1]
    simp only [spec_l8Op.j1]
    rw [iN_ (by simp), iN_ O_, l1Name_eq, bs_, hb2.2, ip_ rfl, w64 O_ O_, w64 O_ O_, sub_cast hab, sub_cast hb, e4]; rfl
   | false =>
    refine ⟨K3 + 2, fun k hk => ?_⟩
    obtain ⟨k, rfl⟩ : ∃ m, k = m + 2 := ⟨k - 2, O_⟩
    unfold spec_l8Op.f
    rw [in_true O_ O_, bs_, ip_ rfl, iN_ O_, iN_ O_]
    simp only [spec_l8Op.j0]
    rw [ip_ (by trivial), in_true O_ O_, bs_, ip_ rfl, ip_ O_, ip_ O_, ip_ O_]
    simp only [tN_]
    rw [h3 (k + 1) O_, bs_]
    simp only [spec_l8Op.j1]
    cases hb3 : balB (s.extract a b) with
    | false => simp
    | true =>
     rw [hb3, Bool.true_and] at hb2
     rw [iN_ (by simp), iN_ O_, l1Name_eq, hb2]; simp
  obtain ⟨K5, hS⟩ := hS0
  cases hb2 : balB (s.extract a b) && nameT w with
  | true =>
   rw [hb2] at hI hS
   rw [Bool.and_eq_true] at hb2
   have hn := nameT_size hb2.2
   refine ⟨some ([.K a, .W w, .K (b - a), .W ⟨#[47]⟩, .K (s.size - b)], wrapT s a b w), ⟨[], _, hI⟩, ⟨[], _, hS⟩, fun p hp => ?_⟩
   obtain rfl := Option.some.inj hp
   exact ⟨run_wrap hab hb, by rw [mass5]; show a + w.size + (b - a) + 1 + (s.size - b) ≤ _; omega, by simp⟩
  | false =>
   rw [hb2] at hI hS
   exact ⟨none, ⟨[], _, hI⟩, ⟨[], _, hS⟩, fun p hp => by cases hp⟩
 ·refine ⟨none, ⟨[], 1, fun k hk => ?_⟩, ⟨[], 2, fun k hk => ?_⟩, fun p hp => by cases hp⟩
  ·obtain ⟨k, rfl⟩ : ∃ m, k = m + 1 := ⟨k - 1, O_⟩
   unfold impl_Command_parts.f
   rw [iN_ O_, iN_ O_, ip_ rfl, ip_ O_]
   simp only [impl_Command_parts.j1]; simp
  ·obtain ⟨k, rfl⟩ : ∃ m, k = m + 2 := ⟨k - 2, O_⟩
   unfold spec_l8Op.f
   rw [in_true O_ O_, bs_, ip_ rfl, iN_ O_, iN_ O_]
   simp only [spec_l8Op.j0]
   rw [ip_ (by trivial), in_false O_, bs_, iN_ (by simp)]
   simp only [spec_l8Op.j1]; simp
structure Stk (s : ByteArray) (i : Nat) (st : List Int) : Prop where
 len : (st.length : Int) = dp s i
 stk : ∀ t, t < st.length → ∃ p : Nat, rd st (t : Int) = (p : Int) ∧ p < i ∧ nmB (bt s (p : Int)) = true ∧ dp s p = (t : Int) ∧ ∀ j, p < j → j ≤ i → (t : Int) < dp s j
theorem around_l (s : ByteArray) (hs : s.size ≤ 300) (hb : Bal s) (n : Nat) (hn : n ≤ s.size) : ∀ (d i : Nat) (st : List Int), i + d = n → Stk s i st →
  ∃ st', Stk s n st' ∧ ∃ K, ∀ k, K ≤ k → impl_around.l0 k s st (n : Int) (i : Int) = some st' := by
 intro d
 induction d with
 | zero =>
  intro i st hi h
  obtain rfl : i = n := by omega
  refine ⟨st, h, 1, fun k hk => ?_⟩
  obtain ⟨k, rfl⟩ : ∃ m, k = m + 1 := ⟨k - 1, O_⟩
  simp only [impl_around.l0]
  rw [iN_ O_]
 | succ d ih =>
  intro i st hi h
  have hlen := h.len
  have hbi := hb.1 i O_
  have hbi1 := hb.1 (i + 1) O_
  cases ho : nmB (bt s (i : Int)) with
  | true =>
   have e := dp_open ho
   obtain ⟨st', h1, K, hK⟩ := ih (i + 1) (st ++ [(i : Int)]) O_ ⟨by rw [lA_, lS_]; omega, fun t ht => by
    rw [lA_, lS_] at ht
    by_cases et : t = st.length
    ·subst et
     refine ⟨i, rd_app_one st _, O_, ho, O_, fun j h1 h2 => ?_⟩
     obtain rfl : j = i + 1 := by omega
     omega
    ·obtain ⟨p, h1, h2, h3, h4, h5⟩ := h.stk t O_
     refine ⟨p, by rw [rd_app_left st _ t O_]; exact h1, O_, h3, h4, fun j g1 g2 => ?_⟩
     by_cases ej : j = i + 1
     ·subst ej; omega
     ·exact h5 j g1 O_⟩
   refine ⟨st', h1, K + 1, fun k hk => ?_⟩
   obtain ⟨k, rfl⟩ : ∃ m, k = m + 1 := ⟨k - 1, O_⟩
   simp only [impl_around.l0]
   rw [ip_ O_, ip_ O_, ip_ O_, impl_isName_eq, bs_, ho, ip_ rfl, ip_ O_, w64 O_ O_, natS]
   exact hK k O_
  | false =>
   by_cases h47 : bt s (i : Int) = 47
   ·have e := dp_close h47
    obtain ⟨st', h1, K, hK⟩ := ih (i + 1) (st.take (st.length - 1)) O_ ⟨by rw [List.length_take]; omega, fun t ht => by
     rw [List.length_take] at ht
     obtain ⟨p', k1, k2, k3, k4, k5⟩ := h.stk t O_
     refine ⟨p', by rw [rd_take st _ t O_]; exact k1, O_, k3, k4, fun j g1 g2 => ?_⟩
     by_cases ej : j = i + 1
     ·subst ej; omega
     ·exact k5 j g1 O_⟩
    refine ⟨st', h1, K + 1, fun k hk => ?_⟩
    obtain ⟨k, rfl⟩ : ∃ m, k = m + 1 := ⟨k - 1, O_⟩
    simp only [impl_around.l0]
    rw [ip_ O_, ip_ O_, ip_ O_, impl_isName_eq, bs_, ho, iN_ (by simp), ip_ h47, w64 (i := (st.length : Int) - 1) O_ O_, ip_ O_, ip_ O_, w64 O_ O_, natS, show ((st.length : Int) - 1).toNat = st.length - 1 by omega]
    exact hK k O_
   ·have e := dp_else ho h47
    obtain ⟨st', h1, K, hK⟩ := ih (i + 1) st O_ ⟨O_, fun t ht => by
     obtain ⟨p', k1, k2, k3, k4, k5⟩ := h.stk t ht
     refine ⟨p', k1, O_, k3, k4, fun j g1 g2 => ?_⟩
     by_cases ej : j = i + 1
     ·subst ej; omega
     ·exact k5 j g1 O_⟩
    refine ⟨st', h1, K + 1, fun k hk => ?_⟩
    obtain ⟨k, rfl⟩ : ∃ m, k = m + 1 := ⟨k - 1, O_⟩
    simp only [impl_around.l0]
    rw [ip_ O_, ip_ O_, ip_ O_, impl_isName_eq, bs_, ho, iN_ (by simp), iN_ h47, w64 O_ O_, natS]
    exact hK k O_
theorem around_ev (s : ByteArray) (hs : s.size ≤ 300) (hb : Bal s) (n : Nat) (hn : n ≤ s.size) : ∃ st', Stk s n st' ∧ ∃ K, ∀ k, K ≤ k → impl_around.f k s (n : Int) = some st' := by
 obtain ⟨st', h, K, hK⟩ := around_l s hs hb n hn n 0 [] O_ ⟨rfl, fun t ht => by simp at ht⟩
 exact ⟨st', h, K, fun k hk => by unfold impl_around.f; exact hK k hk⟩
def slashT (s : ByteArray) (p : Nat) : ByteArray := (⟨#[47]⟩ : ByteArray) ++ s.extract p (p + 1)
theorem slashT_size (s : ByteArray) (p : Nat) (hp : p < s.size) : (slashT s p).size = 2 := by
 unfold slashT
 rw [zA_, ex_size s p (p + 1) O_]
 show 1 + _ = 2; omega
theorem split_back (s : ByteArray) (hs : s.size ≤ 300) (hb : Bal s) (n : Nat) (hn : n ≤ s.size) : ∀ (d : Nat), d ≤ n → (∀ j, d ≤ j → j ≤ n → dp s n ≤ dp s j) →
  (∃ p : Nat, p < d ∧ nmB (bt s (p : Int)) = true ∧ dp s (p + 1) = dp s n ∧ (∀ j, p < j → j ≤ n → dp s n ≤ dp s j) ∧ ∃ K, ∀ k, K ≤ k → spec_l8Split.l0 k s (n : Int) (dp s d - dp s n) ((d : Int) - 1) = some (encF (splL s n n (slashT s p)), true)) ∨
  ((∀ j, j ≤ n → dp s n ≤ dp s j) ∧ ∃ K, ∀ k, K ≤ k → spec_l8Split.l0 k s (n : Int) (dp s d - dp s n) ((d : Int) - 1) = some ([], false)) := by
 intro d
 induction d with
 | zero =>
  intro hd h
  refine .inr ⟨fun j hj => h j O_ hj, 1, fun k hk => ?_⟩
  obtain ⟨k, rfl⟩ : ∃ m, k = m + 1 := ⟨k - 1, O_⟩
  simp only [spec_l8Split.l0]
  rw [iN_ O_]
 | succ d ih =>
  intro hd h
  have hc : (((d + 1 : Nat) : Int) - 1) = (d : Int) := by omega
  have hd1 := h (d + 1) (Nat.le_refl _) hd
  have hbn := hb.1 n hn
  have hbd := hb.1 d O_
  have hbd1 := hb.1 (d + 1) O_
  rw [hc]
  cases ho : nmB (bt s (d : Int)) with
  | true =>
   have e := dp_open ho
   have h47 : bt s (d : Int) ≠ 47 := fun x => by rw [x, nmB_47] at ho; cases ho
   by_cases hz : dp s (d + 1) = dp s n
   ·obtain ⟨K, hK⟩ := splice_ev s n n (slashT s d) hs (Nat.le_refl _) hn (by have := slashT_size s d O_; omega)
    refine .inl ⟨d, O_, ho, hz, fun j h1 h2 => h j O_ h2, K + 2, fun k hk => ?_⟩
    obtain ⟨k, rfl⟩ : ∃ m, k = m + 2 := ⟨k - 2, O_⟩
    simp only [spec_l8Split.l0]
    rw [ip_ O_, ip_ O_, ip_ O_, iN_ h47]
    simp only [spec_l8Split.j1]
    rw [w64 (i := (d : Int) + 1) O_ O_, natS]
    simp only [tN_]
    rw [ip_ O_, ip_ O_, spec_l1Open_eq, bs_, ho, ip_ rfl, ip_ O_, ip_ O_, ip_ O_, ex_size s d (d + 1) O_, ip_ O_]
    have := hK k O_
    unfold slashT at this
    rw [this]; rfl
   ·rcases ih O_ (fun j h1 h2 => by
     by_cases ej : j = d
     ·subst ej; omega
     ·exact h j O_ h2) with ⟨p, g1, g2, g3, g4, K, hK⟩ | ⟨g4, K, hK⟩
    ·refine .inl ⟨p, O_, g2, g3, g4, K + 2, fun k hk => ?_⟩
     obtain ⟨k, rfl⟩ : ∃ m, k = m + 2 := ⟨k - 2, O_⟩
     simp only [spec_l8Split.l0]
     rw [ip_ O_, ip_ O_, ip_ O_, iN_ h47]
     simp only [spec_l8Split.j1]
     rw [ip_ O_, ip_ O_, spec_l1Open_eq, bs_, ho, ip_ rfl, iN_ O_, w64 O_ O_, w64 O_ O_, show dp s (d + 1) - dp s n - 1 = dp s d - dp s n by omega]
     exact hK k O_
    ·refine .inr ⟨g4, K + 2, fun k hk => ?_⟩
     obtain ⟨k, rfl⟩ : ∃ m, k = m + 2 := ⟨k - 2, O_⟩
     simp only [spec_l8Split.l0]
     rw [ip_ O_, ip_ O_, ip_ O_, iN_ h47]
     simp only [spec_l8Split.j1]
     rw [ip_ O_, ip_ O_, spec_l1Open_eq, bs_, ho, ip_ rfl, iN_ O_, w64 O_ O_, w64 O_ O_, show dp s (d + 1) - dp s n - 1 = dp s d - dp s n by omega]
     exact hK k O_
  | false =>
   have hge : dp s (d + 1) ≤ dp s d := by
    by_cases h47 : bt s (d : Int) = 47
    ·have := dp_close h47; omega
    ·have := dp_else ho h47; omega
   have step : ∀ k, spec_l8Split.l0 (k + 2) s (n : Int) (dp s (d + 1) - dp s n) (d : Int) = spec_l8Split.l0 k s (n : Int) (dp s d - dp s n) ((d : Int) - 1) := fun k => by
    rw [spec_l8Split.l0]
    rw [ip_ O_, ip_ O_, ip_ O_]
    by_cases h47 : bt s (d : Int) = 47
    ·have e := dp_close h47
     rw [ip_ h47, spec_l8Split.j1, ip_ O_, ip_ O_, spec_l1Open_eq, bs_, ho, iN_ (by simp), w64 O_ O_, w64 O_ O_, show dp s (d + 1) - dp s n + 1 = dp s d - dp s n by omega]
    ·have e := dp_else ho h47
     rw [iN_ h47, spec_l8Split.j1, ip_ O_, ip_ O_, spec_l1Open_eq, bs_, ho, iN_ (by simp), w64 O_ O_, e]
   rcases ih O_ (fun j h1 h2 => by
     by_cases ej : j = d
     ·subst ej; omega
     ·exact h j O_ h2) with ⟨p, g1, g2, g3, g4, K, hK⟩ | ⟨g4, K, hK⟩
   ·refine .inl ⟨p, O_, g2, g3, g4, K + 2, fun k hk => ?_⟩
    obtain ⟨k, rfl⟩ : ∃ m, k = m + 2 := ⟨k - 2, O_⟩
    rw [step]; exact hK k O_
   ·refine .inr ⟨g4, K + 2, fun k hk => ?_⟩
    obtain ⟨k, rfl⟩ : ∃ m, k = m + 2 := ⟨k - 2, O_⟩
    rw [step]; exact hK k O_
theorem cmd_split (s : ByteArray) (hd : docB s = true) (a : Nat) (ha : a ≤ s.size) (tz : Int) (w : ByteArray) : ∃ o, CmdIs s 5 (a : Int) tz w o := by
 obtain ⟨ht, hb⟩ := (docB_iff s).1 hd
 have hs := textB_size ht
 obtain ⟨st, hst, K1, h1⟩ := around_ev s hs hb a ha
 have hlen := hst.len
 have hba := hb.1 a ha
 have k1 := keepTo_eq 0 (a : Int) O_ O_
 have k2 := keepTo_eq (a : Int) (s.size : Int) O_ O_
 rw [Int.sub_zero] at k1
 have hsp := split_back s hs hb a ha a (Nat.le_refl _) (fun j g1 g2 => by
  obtain rfl : j = a := by omega
  exact Int.le_refl _)
 rw [show dp s a - dp s a = 0 by omega] at hsp
 have hop : ∀ k, spec_l8Op.f (k + 1) s 5 (a : Int) tz w = (spec_l8Split.l0 k s (a : Int) 0 ((a : Int) - 1)).bind fun b => some (b.1, b.2) := fun k => by
  unfold spec_l8Op.f
  rw [in_true O_ O_, bs_, ip_ rfl, iN_ O_, iN_ O_]
  simp only [spec_l8Op.j0]
  rw [iN_ (by simp), ip_ (by trivial)]
  unfold spec_l8Split.f
  rw [w64 O_ O_]
 by_cases h0 : st.length = 0
 ·have hz : dp s a = 0 := by omega
  refine ⟨none, ⟨[], K1, fun k hk => ?_⟩, ?_, fun p hp => by cases hp⟩
  ·unfold impl_Command_parts.f
   rw [iN_ O_, iN_ O_, iN_ O_, ip_ rfl, h1 k hk, bs_, ip_ O_]
  ·rcases hsp with ⟨p, g1, g2, g3, g4, K, hK⟩ | ⟨g4, K, hK⟩
   ·exfalso
    have := dp_open g2
    have := (hb.1 p O_).1
    omega
   ·refine ⟨[], K + 1, fun k hk => ?_⟩
    obtain ⟨k, rfl⟩ : ∃ m, k = m + 1 := ⟨k - 1, O_⟩
    rw [hop, hK k O_]; rfl
 ·obtain ⟨p, q1, q2, q3, q4, q5⟩ := hst.stk (st.length - 1) O_
  have hc : (((st.length - 1 : Nat)) : Int) = (st.length : Int) - 1 := by omega
  rw [hc] at q1 q4 q5
  have hsl : (slashT s p).size = 2 := slashT_size s p O_
  have hne : ¬ (slashT s p).toList = ([] : List UInt8) := pos_toList O_
  refine ⟨some ([.K a, .W (slashT s p), .K (s.size - a)], putT s a a (slashT s p)), ⟨[], K1, fun k hk => ?_⟩, ?_, fun x hx => ?_⟩
  ·unfold impl_Command_parts.f
   rw [iN_ O_, iN_ O_, iN_ O_, ip_ rfl, h1 k hk, bs_, iN_ O_, w64 (i := (st.length : Int) - 1) O_ O_, ip_ O_, ip_ O_, k1, bs_, q1, w64 (i := (p : Int) + 1) O_ O_, natS]
   simp only [tN_]
   rw [ip_ O_, ip_ O_, ip_ O_, ex_size s p (p + 1) O_, ip_ O_, k2, bs_]
   simp only [List.map_cons, List.map_nil, encP]
   rw [sub_cast ha]; rfl
  ·rcases hsp with ⟨p', g1, g2, g3, g4, K, hK⟩ | ⟨g4, K, hK⟩
   ·have e' := dp_open g2
    have hpp : p' = p := by
     by_cases e : p' = p
     ·exact e
     ·exfalso
      by_cases l : p < p'
      ·have := q5 p' l O_; omega
      ·have := g4 p O_ O_; omega
    subst hpp
    refine ⟨[], K + 1, fun k hk => ?_⟩
    obtain ⟨k, rfl⟩ : ∃ m, k = m + 1 := ⟨k - 1, O_⟩
    rw [hop, hK k O_, encF_ins hne]; rfl
   ·exfalso
    have := g4 0 O_
    have h00 : dp s 0 = 0 := rfl
    omega
  ·obtain rfl := Option.some.inj hx
   exact ⟨run_ins ha, by rw [mass3]; show a + (slashT s p).size + (s.size - a) ≤ _; omega, by simp⟩
theorem spec_match_bwd {s : ByteArray} (hs : s.size ≤ 140737488351232) {a b : Nat} (hm : Mate s a b) (hbal : Bal s) : ∀ (d i : Nat), i = a + d → i ≤ b →
  ∃ K, ∀ k, K ≤ k → spec_l1Match.l0 k s (-1) (dp s (i + 1) - dp s (b + 1)) (i : Int) = some (a : Int) := by
 obtain ⟨hab, hbs, ho, hc, he, hin⟩ := hm
 have hA := hbal.1 a O_
 intro d
 induction d with
 | zero =>
  intro i hi hib
  obtain rfl : i = a := by omega
  refine ⟨3, fun k hk => ?_⟩
  obtain ⟨k, rfl⟩ : ∃ m, k = m + 3 := ⟨k - 3, O_⟩
  have e := dp_open ho
  have h47 : bt s (i : Int) ≠ 47 := fun x => by rw [x, nmB_47] at ho; cases ho
  simp only [spec_l1Match.l0]
  rw [ip_ O_]
  simp only [spec_l1Match.j2]
  rw [ip_ (by simp; omega), ip_ O_, ip_ O_, spec_l1Open_eq, bs_, ho, ip_ rfl]
  simp only [spec_l1Match.j3]
  rw [ip_ O_, ip_ O_, iN_ h47, w64 O_ O_, ip_ O_]
 | succ d ih =>
  intro i hi hib
  obtain ⟨i, rfl⟩ : ∃ m, i = m + 1 := ⟨i - 1, O_⟩
  obtain ⟨K, hK⟩ := ih i O_ O_
  refine ⟨K + 3, fun k hk => ?_⟩
  obtain ⟨k, rfl⟩ : ∃ m, k = m + 3 := ⟨k - 3, O_⟩
  have hr := hK k O_
  have hI := hbal.1 (i + 1) O_
  have hI1 := hbal.1 (i + 1 + 1) O_
  have hJ := hin (i + 1) O_ O_
  have hcast : (((i + 1 : Nat) : Int) + -1) = (i : Int) := by omega
  simp only [spec_l1Match.l0]
  rw [ip_ O_]
  simp only [spec_l1Match.j2]
  rw [ip_ (by simp; omega), ip_ O_, ip_ O_, spec_l1Open_eq, bs_]
  cases hn : nmB (bt s ((i + 1 : Nat) : Int)) with
  | true =>
   have e := dp_open hn
   have h47 : bt s ((i + 1 : Nat) : Int) ≠ 47 := fun x => by rw [x, nmB_47] at hn; cases hn
   rw [ip_ rfl]
   simp only [spec_l1Match.j3]
   rw [ip_ O_, ip_ O_, iN_ h47, w64 O_ O_, iN_ O_, w64 O_ O_, hcast, show dp s (i + 1 + 1) - dp s (b + 1) + -1 = dp s (i + 1) - dp s (b + 1) by omega]
   exact hr
  | false =>
   rw [iN_ (by simp)]
   simp only [spec_l1Match.j3]
   by_cases h47 : bt s ((i + 1 : Nat) : Int) = 47
   ·have e := dp_close h47
    rw [ip_ O_, ip_ O_, ip_ h47, w64 O_ O_, iN_ O_, w64 O_ O_, hcast, show dp s (i + 1 + 1) - dp s (b + 1) - -1 = dp s (i + 1) - dp s (b + 1) by omega]
    exact hr
   ·have e := dp_else hn h47
    rw [ip_ O_, ip_ O_, iN_ h47, iN_ O_, w64 O_ O_, hcast, e]
    exact hr
theorem spec_l1Match_close {s : ByteArray} (hs : s.size ≤ 140737488351232) {a b : Nat} (hm : Mate s a b) (hbal : Bal s) : ∃ K, ∀ k, K ≤ k → spec_l1Match.f k s (b : Int) = some (a : Int) := by
 obtain ⟨K, hK⟩ := spec_match_bwd hs hm hbal (b - a) b (by have := hm.1; omega) (Nat.le_refl _)
 have hc := hm.2.2.2.1
 have hbs := hm.2.1
 refine ⟨K + 1, fun k hk => ?_⟩
 obtain ⟨k, rfl⟩ : ∃ m, k = m + 1 := ⟨k - 1, O_⟩
 have hr := hK k O_
 unfold spec_l1Match.f
 rw [ip_ O_, ip_ O_, ip_ hc]
 simp only [spec_l1Match.j0]
 rw [show dp s (b + 1) - dp s (b + 1) = 0 by omega] at hr
 exact hr
theorem cmd_join (s : ByteArray) (hd : docB s = true) (a : Nat) (ha : a ≤ s.size) (tz : Int) (w : ByteArray) : ∃ o, CmdIs s 6 (a : Int) tz w o := by
 obtain ⟨ht, hb⟩ := (docB_iff s).1 hd
 have hs := textB_size ht
 have hopS : ∀ k, spec_l8Op.f (k + 1) s 6 (a : Int) tz w = spec_l8Op.j0 (k + 1) s 6 false 6 (a : Int) tz w := fun k => by
  unfold spec_l8Op.f
  rw [in_true O_ O_, bs_, ip_ rfl, iN_ O_, iN_ O_]; rfl
 by_cases h0 : a = 0
 ·subst h0
  refine ⟨none, ⟨[], 1, fun k hk => ?_⟩, ⟨[], 1, fun k hk => ?_⟩, fun p hp => by cases hp⟩
  ·obtain ⟨k, rfl⟩ : ∃ m, k = m + 1 := ⟨k - 1, O_⟩
   unfold impl_Command_parts.f
   rw [iN_ O_, iN_ O_, iN_ O_, iN_ O_, ip_ rfl, ip_ O_]
   simp only [impl_Command_parts.j2]; simp
  ·obtain ⟨k, rfl⟩ : ∃ m, k = m + 1 := ⟨k - 1, O_⟩
   rw [hopS]; simp [spec_l8Op.j0]
 ·by_cases hn : a = s.size
  ·refine ⟨none, ⟨[], 1, fun k hk => ?_⟩, ⟨[], 1, fun k hk => ?_⟩, fun p hp => by cases hp⟩
   ·obtain ⟨k, rfl⟩ : ∃ m, k = m + 1 := ⟨k - 1, O_⟩
    unfold impl_Command_parts.f
    rw [iN_ O_, iN_ O_, iN_ O_, iN_ O_, ip_ rfl, iN_ O_, ip_ O_]
    simp only [impl_Command_parts.j2]; simp
   ·obtain ⟨k, rfl⟩ : ∃ m, k = m + 1 := ⟨k - 1, O_⟩
    rw [hopS]
    simp only [spec_l8Op.j0]
    rw [iN_ (by simp), iN_ O_, ip_ (by trivial), iN_ O_, ip_ O_]
  ·obtain ⟨c, rfl⟩ : ∃ c, a = c + 1 := ⟨a - 1, O_⟩
   have hcc : (((c + 1 : Nat) : Int) - 1) = (c : Int) := by omega
   have hw1 : wrap64 (((c + 1 : Nat) : Int) - 1) = (c : Int) := by rw [hcc, w64 O_ O_]
   have hw2 : wrap64 (((c + 1 : Nat) : Int) + 1) = ((c + 2 : Nat) : Int) := by rw [w64 O_ O_]; omega
   have hI0 : ∀ k, impl_Command_parts.f k 6 ((c + 1 : Nat) : Int) tz w s = (if bt s (c : Int) = 47 then impl_Command_parts.j2 k s (s.size : Int) ((c + 1 : Nat) : Int) (!nmB (bt s ((c + 1 : Nat) : Int))) else impl_Command_parts.j2 k s (s.size : Int) ((c + 1 : Nat) : Int) true) := fun k => by
    unfold impl_Command_parts.f
    rw [iN_ O_, iN_ O_, iN_ O_, iN_ O_, ip_ rfl, iN_ O_, iN_ O_, hw1, ip_ O_, ip_ O_]
    by_cases h47 : bt s (c : Int) = 47
    ·rw [ip_ h47, ip_ h47, ip_ O_, ip_ O_, impl_isName_eq, bs_]
    ·rw [iN_ h47, iN_ h47]
   have hS0 : ∀ k, spec_l8Op.f (k + 1) s 6 ((c + 1 : Nat) : Int) tz w = (if bt s (c : Int) = 47 then (if nmB (bt s ((c + 1 : Nat) : Int)) = true then ((spec_l1Match.f k s (c : Int)).bind fun t197 => (if 0 ≤ t197 then (if t197 < (s.size : Int) then (if (bt s t197) = (bt s ((c + 1 : Nat) : Int)) then ((spec_l3Splice.f k s (c : Int) ((c + 2 : Nat) : Int) (⟨#[]⟩ : ByteArray)).bind fun t198 => (some (t198, true))) else (some ([], false))) else (none)) else (none))) else some ([], false)) else some ([], false)) := fun k => by
    rw [hopS]
    simp only [spec_l8Op.j0]
    rw [iN_ (by simp), iN_ O_, ip_ (by trivial), iN_ O_, iN_ O_, hw1, hw2, ip_ O_, ip_ O_]
    by_cases h47 : bt s (c : Int) = 47
    ·rw [ip_ h47, ip_ h47, ip_ O_, ip_ O_, spec_l1Open_eq, bs_]
    ·rw [iN_ h47, iN_ h47]
   by_cases h47 : bt s (c : Int) = 47
   ·cases hnm : nmB (bt s ((c + 1 : Nat) : Int)) with
    | false =>
     refine ⟨none, ⟨[], 1, fun k hk => ?_⟩, ⟨[], 1, fun k hk => ?_⟩, fun p hp => by cases hp⟩
     ·obtain ⟨k, rfl⟩ : ∃ m, k = m + 1 := ⟨k - 1, O_⟩
      rw [hI0, ip_ h47, hnm]; simp [impl_Command_parts.j2]
     ·obtain ⟨k, rfl⟩ : ∃ m, k = m + 1 := ⟨k - 1, O_⟩
      rw [hS0, ip_ h47, hnm]; simp
    | true =>
     obtain ⟨p, hm⟩ := mate_exl hb h47 O_
     have hp1 := hm.1
     have hwf : (Lit.int .i64 (c : Int)).wf = true := WalkArith.wf_i64 O_
     obtain ⟨o, ho, K1, h1⟩ := impl_MatchOf_yes s O_ (c : Int) hwf hd
     obtain rfl : o = some (p : Int) := (ho p).2 ⟨p, c, hm, .inr ⟨rfl, rfl⟩⟩
     obtain ⟨K2, h2⟩ := spec_l1Match_close O_ hm hb
     by_cases heq : bt s (p : Int) = bt s ((c + 1 : Nat) : Int)
     ·obtain ⟨K3, h3⟩ := splice_ev s c (c + 2) ⟨#[]⟩ hs O_ O_ (Nat.zero_le _)
      have k1 := keepTo_eq 0 (c : Int) O_ O_
      have k2 := keepTo_eq ((c + 2 : Nat) : Int) (s.size : Int) O_ O_
      rw [Int.sub_zero] at k1
      refine ⟨some ([.K c, .D (s.extract c (c + 2)), .K (s.size - (c + 2))], putT s c (c + 2) ⟨#[]⟩), ⟨[], K1 + 1, fun k hk => ?_⟩, ⟨[], K2 + K3 + 1, fun k hk => ?_⟩, fun x hx => ?_⟩
      ·obtain ⟨k, rfl⟩ : ∃ m, k = m + 1 := ⟨k - 1, O_⟩
       rw [hI0, ip_ h47, hnm]
       simp only [impl_Command_parts.j2, Bool.not_true, Bool.false_eq_true, if_false]
       rw [hw1, hw2, h1 k O_]
       simp only [bs_, Option.getD_some, tN_]
       rw [ip_ O_, ip_ O_, ip_ O_, ip_ O_, ip_ heq, k1, bs_, ip_ O_, ip_ O_, ip_ O_, k2, bs_]
       simp only [List.map_cons, List.map_nil, encP]
       rw [sub_cast (by omega : c + 2 ≤ s.size)]
      ·obtain ⟨k, rfl⟩ : ∃ m, k = m + 1 := ⟨k - 1, O_⟩
       rw [hS0, ip_ h47, hnm, ip_ rfl, h2 k O_, bs_, ip_ O_, ip_ O_, ip_ heq, h3 k O_, bs_, encF_del O_ O_]
      ·obtain rfl := Option.some.inj hx
       refine ⟨run_del O_ O_, ?_, by simp⟩
       rw [mass3]; have := ex_size s c (c + 2) O_; show c + (s.extract c (c + 2)).size + (s.size - (c + 2)) ≤ _; omega
     ·refine ⟨none, ⟨[], K1 + 1, fun k hk => ?_⟩, ⟨[], K2 + 1, fun k hk => ?_⟩, fun x hx => by cases hx⟩
      ·obtain ⟨k, rfl⟩ : ∃ m, k = m + 1 := ⟨k - 1, O_⟩
       rw [hI0, ip_ h47, hnm]
       simp only [impl_Command_parts.j2, Bool.not_true, Bool.false_eq_true, if_false]
       rw [hw1, h1 k O_]
       simp only [bs_, Option.getD_some]
       rw [ip_ O_, ip_ O_, ip_ O_, ip_ O_, iN_ heq]
      ·obtain ⟨k, rfl⟩ : ∃ m, k = m + 1 := ⟨k - 1, O_⟩
       rw [hS0, ip_ h47, hnm, ip_ rfl, h2 k O_, bs_, ip_ O_, ip_ O_, iN_ heq]
   ·refine ⟨none, ⟨[], 1, fun k hk => ?_⟩, ⟨[], 1, fun k hk => ?_⟩, fun p hp => by cases hp⟩
    ·obtain ⟨k, rfl⟩ : ∃ m, k = m + 1 := ⟨k - 1, O_⟩
     rw [hI0, iN_ h47]; simp [impl_Command_parts.j2]
    ·obtain ⟨k, rfl⟩ : ∃ m, k = m + 1 := ⟨k - 1, O_⟩
     rw [hS0, iN_ h47]
theorem ext_47 {s : ByteArray} {b : Nat} (hb : b < s.size) (h : bt s (b : Int) = 47) : s.extract b (b + 1) = (⟨#[47]⟩ : ByteArray) := by
 apply ba_of_toList
 rw [toList_eq_iff]
 have e1 : (s.extract b (b + 1)).size = 1 := by rw [zE_]; omega
 refine ⟨e1, fun j hj => ?_⟩
 obtain rfl : j = 0 := by omega
 rw [bt_extract s b (b + 1) 0 O_ O_, Nat.add_zero, h]; rfl
def unwT (s : ByteArray) (a b : Nat) : ByteArray := s.extract 0 a ++ s.extract (a + 1) b ++ s.extract (b + 1) s.size
def movT (s : ByteArray) (a e c : Nat) : ByteArray := if c < a then s.extract 0 c ++ s.extract a e ++ s.extract c a ++ s.extract e s.size else s.extract 0 a ++ s.extract e c ++ s.extract a e ++ s.extract c s.size
theorem run_unw {s : ByteArray} {a b : Nat} (hab : a < b) (hb : b < s.size) (h47 : bt s (b : Int) = 47) : runP s [.K a, .D (s.extract a (a + 1)), .K (b - (a + 1)), .D ⟨#[47]⟩, .K (s.size - (b + 1))] (⟨#[]⟩, 0) = some (unwT s a b, s.size) := by
 rw [← ext_47 hb h47, run_K O_, Nat.zero_add, run_D O_ O_, run_K O_, show a + 1 + (b - (a + 1)) = b by omega, run_D O_ O_, run_K O_, run_nil, show b + 1 + (s.size - (b + 1)) = s.size by omega, ba_nil_append]; rfl
theorem run_mov1 {s : ByteArray} {a e c : Nat} (h1 : c < a) (h2 : a ≤ e) (h3 : e ≤ s.size) : runP s [.K c, .W (s.extract a e), .K (a - c), .D (s.extract a e), .K (s.size - e)] (⟨#[]⟩, 0) = some (movT s a e c, s.size) := by
 unfold movT
 rw [ip_ h1, run_K O_, run_W, Nat.zero_add, run_K O_, show c + (a - c) = a by omega, run_D h2 h3, run_K O_, run_nil, show e + (s.size - e) = s.size by omega, ba_nil_append]
theorem run_mov2 {s : ByteArray} {a e c : Nat} (h1 : a ≤ e) (h2 : e ≤ c) (h3 : c ≤ s.size) : runP s [.K a, .D (s.extract a e), .K (c - e), .W (s.extract a e), .K (s.size - c)] (⟨#[]⟩, 0) = some (movT s a e c, s.size) := by
 unfold movT
 rw [iN_ O_, run_K O_, Nat.zero_add, run_D h1 O_, run_K O_, run_W, show e + (c - e) = c by omega, run_K O_, run_nil, show c + (s.size - c) = s.size by omega, ba_nil_append]
theorem elI (s : ByteArray) (a : Nat) (tz : Int) (w : ByteArray) (kd : Int) (n1 : kd ≠ 1) (n2 : kd ≠ 2) (n3 : kd ≠ 3) (n5 : kd ≠ 5) (n6 : kd ≠ 6) : ∀ k, impl_Command_parts.f k kd (a : Int) tz w s = (impl_Command_onElement.f k kd (a : Int) tz w s).bind fun x => some (x.1, x.2) := fun k => by
  unfold impl_Command_parts.f
  rw [iN_ n1, iN_ n2, iN_ n3, iN_ n5, iN_ n6]
theorem elS (s : ByteArray) (hd : docB s = true) (a : Nat) (ha : a ≤ s.size) (tz : Int) (w : ByteArray) (hs : s.size ≤ 300) (kd : Int) (n1 : kd ≠ 1) (n2 : kd ≠ 2) (n3 : kd ≠ 3) (n5 : kd ≠ 5) (n6 : kd ≠ 6) : ∀ k, spec_l8Op.f (k + 1) s kd (a : Int) tz w = spec_l8Op.j2 k s (!(decide (a < s.size) && nmB (bt s (a : Int)))) kd (a : Int) tz w := fun k => by
  unfold spec_l8Op.f
  rw [in_true O_ O_, bs_, ip_ rfl, iN_ n1, iN_ n2]
  simp only [spec_l8Op.j0]
  rw [iN_ (by simpa using n3), iN_ n5, iN_ n6]
  by_cases hn : a = s.size
  ·rw [ip_ O_, decide_eq_false O_]; rfl
  ·rw [iN_ O_, ip_ O_, ip_ O_, spec_l1Open_eq, bs_, decide_eq_true O_, Bool.true_and]
theorem cmd_unw (s : ByteArray) (hd : docB s = true) (a : Nat) (ha : a ≤ s.size) (tz : Int) (w : ByteArray) (b : Nat) (hm : Mate s a b) : ∃ o, CmdIs s 4 (a : Int) tz w o := by
 obtain ⟨ht, hb⟩ := (docB_iff s).1 hd
 have hs := textB_size ht
 have hop : a < s.size ∧ nmB (bt s (a : Int)) = true := ⟨by have := hm.1; have := hm.2.1; omega, hm.2.2.1⟩
 have hI0 := elI s a tz w 4 (by decide) (by decide) (by decide) (by decide) (by decide)
 have hS0 := elS s hd a ha tz w hs 4 (by decide) (by decide) (by decide) (by decide) (by decide)
 obtain ⟨K1, h1⟩ := impl_beginsAt_yes s O_ hd hm
 obtain ⟨K2, h2⟩ := spec_l1Match_open O_ hm hb
 have hab := hm.1
 have hbs := hm.2.1
 have h47 := hm.2.2.2.1
 have hS1 : ∀ k, spec_l8Op.f (k + 1) s 4 (a : Int) tz w = spec_l8Op.j2 k s false 4 (a : Int) tz w := fun k => by
  rw [hS0, decide_eq_true hop.1, hop.2]; rfl
 have WA : Aside0 (wrap64 ((a : Int) + 1) = ((a + 1 : Nat) : Int)) := ⟨by rw [w64 O_ O_]; omega⟩
 have WB : Aside0 (wrap64 ((b : Int) + 1) = ((b + 1 : Nat) : Int)) := ⟨by rw [w64 O_ O_]; omega⟩
 have k0 := keepTo_eq 0 (a : Int) O_ O_
 rw [Int.sub_zero] at k0
 have ex1 := ex_size s a (a + 1) O_
 have hL : ([⟨(a : Int), ⟨#[]⟩, ⟨#[]⟩⟩, ⟨0, ⟨#[]⟩, s.extract a (a + 1)⟩, ⟨(b : Int) - ((a + 1 : Nat) : Int), ⟨#[]⟩, ⟨#[]⟩⟩, ⟨0, ⟨#[]⟩, ⟨#[47]⟩⟩, ⟨(s.size : Int) - ((b + 1 : Nat) : Int), ⟨#[]⟩, ⟨#[]⟩⟩] : List S61) = [Pt.K a, .D (s.extract a (a + 1)), .K (b - (a + 1)), .D ⟨#[47]⟩, .K (s.size - (b + 1))].map encP := by
  simp only [List.map_cons, List.map_nil, encP]
  rw [sub_cast (by omega : a + 1 ≤ b), sub_cast (by omega : b + 1 ≤ s.size)]
 have k2 := keepTo_eq ((a + 1 : Nat) : Int) (b : Int) O_ O_
 have k3 := keepTo_eq ((b + 1 : Nat) : Int) (s.size : Int) O_ O_
 have hm5 : mass [Pt.K a, .D (s.extract a (a + 1)), .K (b - (a + 1)), .D ⟨#[47]⟩, .K (s.size - (b + 1))] ≤ 2000 := by
  rw [mass5]; show a + (s.extract a (a + 1)).size + (b - (a + 1)) + 1 + (s.size - (b + 1)) ≤ _; omega
 obtain ⟨K4, h4⟩ := normalS_ev [Pt.K a, .D (s.extract a (a + 1)), .K (b - (a + 1)), .D ⟨#[47]⟩, .K (s.size - (b + 1))] (by simp) O_
 refine ⟨some ([Pt.K a, .D (s.extract a (a + 1)), .K (b - (a + 1)), .D ⟨#[47]⟩, .K (s.size - (b + 1))], unwT s a b), ⟨[], K1, fun k hk => ?_⟩, ⟨[], K2 + K4 + 2, fun k hk => ?_⟩, fun p hp => ?_⟩
 rotate_left 2
 ·obtain rfl := Option.some.inj hp
  exact ⟨run_unw hab hbs h47, hm5, by simp⟩
 ·rw [hI0]
  unfold impl_Command_onElement.f
  rw [h1 k hk, bs_, ip_ rfl]
  dsimp only
  rw [ip_ rfl]
  rw [WA.out, WB.out, k0, k2, k3]
  simp only [bs_, tN_]
  rw [ip_ O_, ip_ O_, ip_ O_, hL] <;> rfl
 ·obtain ⟨k, rfl⟩ : ∃ m, k = m + 2 := ⟨k - 2, O_⟩
  rw [hS1]
  simp only [spec_l8Op.j2]
  rw [iN_ (by simp), h2 k O_, bs_, ip_ (by trivial), WA.out]
  simp only [tN_]
  have e1 : Aside0 (wrap64 (wrap64 ((b : Int) - (a : Int)) - 1) = (b : Int) - ((a + 1 : Nat) : Int)) := ⟨by rw [w64 (i := (b : Int) - (a : Int)) O_ O_, w64 O_ O_]; omega⟩
  have e2 : Aside0 (wrap64 (wrap64 ((s.size : Int) - (b : Int)) - 1) = (s.size : Int) - ((b + 1 : Nat) : Int)) := ⟨by rw [w64 (i := (s.size : Int) - (b : Int)) O_ O_, w64 O_ O_]; omega⟩
  rw [e1.out, e2.out]
  clear e1 e2
  rw [ip_ O_, ip_ O_, ip_ O_, hL, h4 k O_]; rfl
theorem cmd_nam (s : ByteArray) (hd : docB s = true) (a : Nat) (ha : a ≤ s.size) (tz : Int) (w : ByteArray) (b : Nat) (hm : Mate s a b) (hw : w.size ≤ 1048576) : ∃ o, CmdIs s 8 (a : Int) tz w o := by
 obtain ⟨ht, hb⟩ := (docB_iff s).1 hd
 have hs := textB_size ht
 have hop : a < s.size ∧ nmB (bt s (a : Int)) = true := ⟨by have := hm.1; have := hm.2.1; omega, hm.2.2.1⟩
 have hI0 := elI s a tz w 8 (by decide) (by decide) (by decide) (by decide) (by decide)
 have hS0 := elS s hd a ha tz w hs 8 (by decide) (by decide) (by decide) (by decide) (by decide)
 obtain ⟨K1, h1⟩ := impl_beginsAt_yes s O_ hd hm
 obtain ⟨K2, h2⟩ := spec_l1Match_open O_ hm hb
 have hab := hm.1
 have hbs := hm.2.1
 have h47 := hm.2.2.2.1
 have hS1 : ∀ k, spec_l8Op.f (k + 1) s 8 (a : Int) tz w = spec_l8Op.j2 k s false 8 (a : Int) tz w := fun k => by
  rw [hS0, decide_eq_true hop.1, hop.2]; rfl
 have WA : Aside0 (wrap64 ((a : Int) + 1) = ((a + 1 : Nat) : Int)) := ⟨by rw [w64 O_ O_]; omega⟩
 have WB : Aside0 (wrap64 ((b : Int) + 1) = ((b + 1 : Nat) : Int)) := ⟨by rw [w64 O_ O_]; omega⟩
 have k0 := keepTo_eq 0 (a : Int) O_ O_
 rw [Int.sub_zero] at k0
 have ex1 := ex_size s a (a + 1) O_
 have hL : ([⟨(a : Int), ⟨#[]⟩, ⟨#[]⟩⟩, ⟨0, w, ⟨#[]⟩⟩, ⟨0, ⟨#[]⟩, s.extract a (a + 1)⟩, ⟨(s.size : Int) - ((a + 1 : Nat) : Int), ⟨#[]⟩, ⟨#[]⟩⟩] : List S61) = [Pt.K a, .W w, .D (s.extract a (a + 1)), .K (s.size - (a + 1))].map encP := by
  simp only [List.map_cons, List.map_nil, encP]
  rw [sub_cast (by omega : a + 1 ≤ s.size)]
 have k2 := keepTo_eq ((a + 1 : Nat) : Int) (s.size : Int) O_ O_
 have hI : ∀ k, K1 ≤ k → impl_Command_parts.f k 8 (a : Int) tz w s = some ([Pt.K a, .W w, .D (s.extract a (a + 1)), .K (s.size - (a + 1))].map encP, nameT w && (w.toList != (s.extract a (a + 1)).toList)) := fun k hk => by
  rw [hI0]
  unfold impl_Command_onElement.f
  rw [h1 k hk, bs_, ip_ rfl]
  dsimp only
  rw [iN_ (by decide), ip_ rfl, WA.out, k0, k2, isNameText_eq]
  simp only [bs_, tN_]
  rw [ip_ O_, ip_ O_, ip_ O_, hL]
  cases nameT w <;> simp
 obtain ⟨K4, h4⟩ := splice_ev s a (a + 1) w hs O_ O_ hw
 have hS : ∀ k, K2 + K4 + 2 ≤ k → spec_l8Op.f k s 8 (a : Int) tz w = some (if nameT w = true then (encF (splL s a (a + 1) w), (w.toList != (s.extract a (a + 1)).toList)) else ([], false)) := fun k hk => by
  obtain ⟨k, rfl⟩ : ∃ m, k = m + 2 := ⟨k - 2, O_⟩
  rw [hS1]
  simp only [spec_l8Op.j2]
  rw [iN_ (by simp), h2 k O_, bs_, iN_ O_, ip_ (by trivial), l1Name_eq, bs_, WA.out]
  cases hn : nameT w with
  | false => simp
  | true =>
   rw [ip_ rfl, ip_ rfl, h4 k O_]
   simp only [bs_, tN_]
   rw [ip_ O_, ip_ O_, ip_ O_]
 cases hn : nameT w with
 | false =>
  rw [hn] at hI hS
  exact ⟨none, ⟨_, _, hI⟩, ⟨[], _, hS⟩, fun p hp => by cases hp⟩
 | true =>
  rw [hn] at hI hS
  by_cases hne : w.toList = (s.extract a (a + 1)).toList
  ·have e : (w.toList != (s.extract a (a + 1)).toList) = false := bne_eq_false_iff_eq.mpr hne
   rw [e] at hI hS
   exact ⟨none, ⟨_, _, hI⟩, ⟨_, _, hS⟩, fun p hp => by cases hp⟩
  ·have e : (w.toList != (s.extract a (a + 1)).toList) = true := bne_iff_ne.mpr hne
   rw [e] at hI hS
   have hws := nameT_size hn
   refine ⟨some ([.K a, .W w, .D (s.extract a (a + 1)), .K (s.size - (a + 1))], putT s a (a + 1) w), ⟨[], _, hI⟩, ⟨[], K2 + K4 + 2, fun k hk => ?_⟩, fun p hp => ?_⟩
   ·rw [hS k hk, ip_ rfl, splL_ne (fun x => hne x.symm)] <;> rfl
   ·obtain rfl := Option.some.inj hp
    refine ⟨run_put O_ O_, ?_, by simp⟩
    rw [mass4]; show a + w.size + (s.extract a (a + 1)).size + (s.size - (a + 1)) ≤ _; omega
theorem cmd_mov (s : ByteArray) (hd : docB s = true) (a : Nat) (ha : a ≤ s.size) (tz : Int) (w : ByteArray) (b : Nat) (hm : Mate s a b) (z0 : 0 ≤ tz) (z1 : tz ≤ (s.size : Int)) : ∃ o, CmdIs s 7 (a : Int) tz w o := by
 obtain ⟨ht, hb⟩ := (docB_iff s).1 hd
 have hs := textB_size ht
 have hop : a < s.size ∧ nmB (bt s (a : Int)) = true := ⟨by have := hm.1; have := hm.2.1; omega, hm.2.2.1⟩
 have hI0 := elI s a tz w 7 (by decide) (by decide) (by decide) (by decide) (by decide)
 have hS0 := elS s hd a ha tz w hs 7 (by decide) (by decide) (by decide) (by decide) (by decide)
 obtain ⟨K1, h1⟩ := impl_beginsAt_yes s O_ hd hm
 obtain ⟨K2, h2⟩ := spec_l1Match_open O_ hm hb
 have hab := hm.1
 have hbs := hm.2.1
 have h47 := hm.2.2.2.1
 have hS1 : ∀ k, spec_l8Op.f (k + 1) s 7 (a : Int) tz w = spec_l8Op.j2 k s false 7 (a : Int) tz w := fun k => by
  rw [hS0, decide_eq_true hop.1, hop.2]; rfl
 have WA : Aside0 (wrap64 ((a : Int) + 1) = ((a + 1 : Nat) : Int)) := ⟨by rw [w64 O_ O_]; omega⟩
 have WB : Aside0 (wrap64 ((b : Int) + 1) = ((b + 1 : Nat) : Int)) := ⟨by rw [w64 O_ O_]; omega⟩
 have k0 := keepTo_eq 0 (a : Int) O_ O_
 rw [Int.sub_zero] at k0
 have ex1 := ex_size s a (a + 1) O_
 obtain ⟨c, rfl⟩ := Int.eq_ofNat_of_zero_le z0
 have ex2 := ex_size s a (b + 1) O_
 have hIe : ∀ k, K1 ≤ k → impl_Command_parts.f k 7 (a : Int) (c : Int) w s = (if (c : Int) < (a : Int) then some ([⟨(c : Int), ⟨#[]⟩, ⟨#[]⟩⟩, ⟨0, s.extract a (b + 1), ⟨#[]⟩⟩, ⟨(a : Int) - (c : Int), ⟨#[]⟩, ⟨#[]⟩⟩, ⟨0, ⟨#[]⟩, s.extract a (b + 1)⟩, ⟨(s.size : Int) - ((b + 1 : Nat) : Int), ⟨#[]⟩, ⟨#[]⟩⟩], true) else some ([⟨(a : Int), ⟨#[]⟩, ⟨#[]⟩⟩, ⟨0, ⟨#[]⟩, s.extract a (b + 1)⟩, ⟨(c : Int) - ((b + 1 : Nat) : Int), ⟨#[]⟩, ⟨#[]⟩⟩, ⟨0, s.extract a (b + 1), ⟨#[]⟩⟩, ⟨(s.size : Int) - (c : Int), ⟨#[]⟩, ⟨#[]⟩⟩], decide ((c : Int) > ((b + 1 : Nat) : Int)))) := fun k hk => by
  rw [hI0]
  unfold impl_Command_onElement.f
  rw [h1 k hk, bs_, ip_ rfl]
  dsimp only
  rw [iN_ (by decide), iN_ (by decide), ip_ rfl, WB.out]
  have q0 := keepTo_eq 0 (c : Int) O_ O_
  rw [Int.sub_zero] at q0
  have q1 := keepTo_eq (c : Int) (a : Int) O_ O_
  have q2 := keepTo_eq ((b + 1 : Nat) : Int) (s.size : Int) O_ O_
  have q3 := keepTo_eq ((b + 1 : Nat) : Int) (c : Int) O_ O_
  have q4 := keepTo_eq (c : Int) (s.size : Int) O_ O_
  rw [q0, q1, q2, q3, q4, k0]
  simp only [bs_, tN_]
  rw [ip_ O_, ip_ O_, ip_ O_]
  split <;> rfl
 have hSe : ∀ k, K2 + 3 ≤ k → spec_l8Op.f k s 7 (a : Int) (c : Int) w = (spec_l8Move.f (k - 2) s (a : Int) ((b + 1 : Nat) : Int) (c : Int)).bind fun x => some (x.1, x.2) := fun k hk => by
  obtain ⟨k, rfl⟩ : ∃ m, k = m + 2 := ⟨k - 2, O_⟩
  rw [hS1]
  simp only [spec_l8Op.j2]
  rw [iN_ (by simp), h2 k O_, bs_, iN_ O_, iN_ O_, ip_ (by trivial), WB.out]; rfl
 by_cases hca : c < a
 ·have hL : ([⟨(c : Int), ⟨#[]⟩, ⟨#[]⟩⟩, ⟨0, s.extract a (b + 1), ⟨#[]⟩⟩, ⟨(a : Int) - (c : Int), ⟨#[]⟩, ⟨#[]⟩⟩, ⟨0, ⟨#[]⟩, s.extract a (b + 1)⟩, ⟨(s.size : Int) - ((b + 1 : Nat) : Int), ⟨#[]⟩, ⟨#[]⟩⟩] : List S61) = [Pt.K c, .W (s.extract a (b + 1)), .K (a - c), .D (s.extract a (b + 1)), .K (s.size - (b + 1))].map encP := by
   simp only [List.map_cons, List.map_nil, encP]
   rw [sub_cast (by omega : c ≤ a), sub_cast (by omega : b + 1 ≤ s.size)]
  have hm5 : mass [Pt.K c, .W (s.extract a (b + 1)), .K (a - c), .D (s.extract a (b + 1)), .K (s.size - (b + 1))] ≤ 2000 := by
   rw [mass5]; show c + (s.extract a (b + 1)).size + (a - c) + (s.extract a (b + 1)).size + (s.size - (b + 1)) ≤ _; omega
  obtain ⟨K4, h4⟩ := normalS_ev [Pt.K c, .W (s.extract a (b + 1)), .K (a - c), .D (s.extract a (b + 1)), .K (s.size - (b + 1))] (by simp) O_
  refine ⟨some ([Pt.K c, .W (s.extract a (b + 1)), .K (a - c), .D (s.extract a (b + 1)), .K (s.size - (b + 1))], movT s a (b + 1) c), ⟨[], K1, fun k hk => ?_⟩, ⟨[], K2 + K4 + 3, fun k hk => ?_⟩, fun p hp => ?_⟩
  rotate_left 2
  ·obtain rfl := Option.some.inj hp
   exact ⟨run_mov1 hca O_ O_, hm5, by simp⟩
  ·rw [hIe k hk, ip_ O_, hL] <;> rfl
  ·rw [hSe k O_]
   obtain ⟨k, rfl⟩ : ∃ m, k = m + 3 := ⟨k - 3, O_⟩
   rw [show k + 3 - 2 = k + 1 by omega]
   unfold spec_l8Move.f
   rw [in_true O_ O_, bs_, ip_ rfl, in_false O_, bs_]
   simp only [spec_l8Move.j0]
   rw [iN_ (by simp), ip_ O_, ip_ O_, ip_ O_, ip_ O_, w64 O_ O_, w64 O_ O_]
   simp only [tN_]
   rw [hL, h4 k O_]; rfl
 ·by_cases hce : b + 1 < c
  ·have hL : ([⟨(a : Int), ⟨#[]⟩, ⟨#[]⟩⟩, ⟨0, ⟨#[]⟩, s.extract a (b + 1)⟩, ⟨(c : Int) - ((b + 1 : Nat) : Int), ⟨#[]⟩, ⟨#[]⟩⟩, ⟨0, s.extract a (b + 1), ⟨#[]⟩⟩, ⟨(s.size : Int) - (c : Int), ⟨#[]⟩, ⟨#[]⟩⟩] : List S61) = [Pt.K a, .D (s.extract a (b + 1)), .K (c - (b + 1)), .W (s.extract a (b + 1)), .K (s.size - c)].map encP := by
    simp only [List.map_cons, List.map_nil, encP]
    rw [sub_cast (by omega : b + 1 ≤ c), sub_cast (by omega : c ≤ s.size)]
   have hm5 : mass [Pt.K a, .D (s.extract a (b + 1)), .K (c - (b + 1)), .W (s.extract a (b + 1)), .K (s.size - c)] ≤ 2000 := by
    rw [mass5]; show a + (s.extract a (b + 1)).size + (c - (b + 1)) + (s.extract a (b + 1)).size + (s.size - c) ≤ _; omega
   obtain ⟨K4, h4⟩ := normalS_ev [Pt.K a, .D (s.extract a (b + 1)), .K (c - (b + 1)), .W (s.extract a (b + 1)), .K (s.size - c)] (by simp) O_
   refine ⟨some ([Pt.K a, .D (s.extract a (b + 1)), .K (c - (b + 1)), .W (s.extract a (b + 1)), .K (s.size - c)], movT s a (b + 1) c), ⟨[], K1, fun k hk => ?_⟩, ⟨[], K2 + K4 + 3, fun k hk => ?_⟩, fun p hp => ?_⟩
   rotate_left 2
   ·obtain rfl := Option.some.inj hp
    exact ⟨run_mov2 O_ O_ O_, hm5, by simp⟩
   ·rw [hIe k hk, iN_ O_, hL, decide_eq_true O_] <;> rfl
   ·rw [hSe k O_]
    obtain ⟨k, rfl⟩ : ∃ m, k = m + 3 := ⟨k - 3, O_⟩
    rw [show k + 3 - 2 = k + 1 by omega]
    unfold spec_l8Move.f
    rw [in_true O_ O_, bs_, ip_ rfl, in_false O_, bs_]
    simp only [spec_l8Move.j0]
    rw [iN_ (by simp), ip_ O_, ip_ O_, ip_ O_, iN_ O_, w64 O_ O_, w64 O_ O_]
    simp only [tN_]
    rw [hL, h4 k O_]; rfl
  ·refine ⟨none, ⟨_, K1, fun k hk => by rw [hIe k hk, iN_ O_, decide_eq_false O_]⟩, ⟨[], K2 + 3, fun k hk => ?_⟩, fun p hp => by cases hp⟩
   rw [hSe k O_]
   obtain ⟨k, rfl⟩ : ∃ m, k = m + 3 := ⟨k - 3, O_⟩
   rw [show k + 3 - 2 = k + 1 by omega]
   unfold spec_l8Move.f
   rw [in_true O_ O_, bs_, ip_ rfl, in_true O_ O_, bs_]
   simp [spec_l8Move.j0]
theorem cmd_oth (s : ByteArray) (hd : docB s = true) (a : Nat) (ha : a ≤ s.size) (tz : Int) (w : ByteArray) (b : Nat) (hm : Mate s a b) (kd : Int) (n1 : kd ≠ 1) (n2 : kd ≠ 2) (n3 : kd ≠ 3) (n5 : kd ≠ 5) (n6 : kd ≠ 6) (c4 : kd ≠ 4) (c8 : kd ≠ 8) (c7 : kd ≠ 7) : ∃ o, CmdIs s kd (a : Int) tz w o := by
 obtain ⟨ht, hb⟩ := (docB_iff s).1 hd
 have hs := textB_size ht
 have hop : a < s.size ∧ nmB (bt s (a : Int)) = true := ⟨by have := hm.1; have := hm.2.1; omega, hm.2.2.1⟩
 have hI0 := elI s a tz w kd n1 n2 n3 n5 n6
 have hS0 := elS s hd a ha tz w hs kd n1 n2 n3 n5 n6
 obtain ⟨K1, h1⟩ := impl_beginsAt_yes s O_ hd hm
 obtain ⟨K2, h2⟩ := spec_l1Match_open O_ hm hb
 have hab := hm.1
 have hbs := hm.2.1
 have h47 := hm.2.2.2.1
 have hS1 : ∀ k, spec_l8Op.f (k + 1) s kd (a : Int) tz w = spec_l8Op.j2 k s false kd (a : Int) tz w := fun k => by
  rw [hS0, decide_eq_true hop.1, hop.2]; rfl
 have WA : Aside0 (wrap64 ((a : Int) + 1) = ((a + 1 : Nat) : Int)) := ⟨by rw [w64 O_ O_]; omega⟩
 have WB : Aside0 (wrap64 ((b : Int) + 1) = ((b + 1 : Nat) : Int)) := ⟨by rw [w64 O_ O_]; omega⟩
 have k0 := keepTo_eq 0 (a : Int) O_ O_
 rw [Int.sub_zero] at k0
 have ex1 := ex_size s a (a + 1) O_
 refine ⟨none, ⟨[], K1, fun k hk => ?_⟩, ⟨[], K2 + 2, fun k hk => ?_⟩, fun p hp => by cases hp⟩
 ·rw [hI0]
  unfold impl_Command_onElement.f
  rw [h1 k hk, bs_, ip_ rfl]
  dsimp only
  rw [iN_ c4, iN_ c8, iN_ c7]; rfl
 ·obtain ⟨k, rfl⟩ : ∃ m, k = m + 2 := ⟨k - 2, O_⟩
  rw [hS1]
  simp only [spec_l8Op.j2]
  rw [iN_ (by simp), h2 k O_, bs_, iN_ c4, iN_ c8, iN_ c7]
theorem cmd_shut (s : ByteArray) (hd : docB s = true) (a : Nat) (ha : a ≤ s.size) (tz : Int) (w : ByteArray) (hop : ¬ (a < s.size ∧ nmB (bt s (a : Int)) = true)) (kd : Int) (n1 : kd ≠ 1) (n2 : kd ≠ 2) (n3 : kd ≠ 3) (n5 : kd ≠ 5) (n6 : kd ≠ 6) : ∃ o, CmdIs s kd (a : Int) tz w o := by
 obtain ⟨ht, hb⟩ := (docB_iff s).1 hd
 have hs := textB_size ht
 have hI0 := elI s a tz w kd n1 n2 n3 n5 n6
 have hS0 := elS s hd a ha tz w hs kd n1 n2 n3 n5 n6
 have hwf : (Lit.int .i64 (a : Int)).wf = true := WalkArith.wf_i64 O_
 obtain ⟨K1, h1⟩ := impl_beginsAt_no s O_ (a : Int) hwf (fun ⟨_, i, e, g1, g2⟩ => by
  have : a = i := by omega
  subst this
  exact hop ⟨g1, g2⟩)
 refine ⟨none, ⟨[], K1, fun k hk => ?_⟩, ⟨[], 2, fun k hk => ?_⟩, fun p hp => by cases hp⟩
 ·rw [hI0]
  unfold impl_Command_onElement.f
  rw [h1 k hk]; simp
 ·obtain ⟨k, rfl⟩ : ∃ m, k = m + 2 := ⟨k - 2, O_⟩
  have e : (decide (a < s.size) && nmB (bt s (a : Int))) = false := by
   cases hx : (decide (a < s.size) && nmB (bt s (a : Int))) with
   | false => rfl
   | true => rw [Bool.and_eq_true] at hx; exact absurd ⟨of_decide_eq_true hx.1, hx.2⟩ hop
  rw [hS0, e]
  simp [spec_l8Op.j2]
theorem cmd_elem (s : ByteArray) (hd : docB s = true) (a : Nat) (ha : a ≤ s.size) (tz : Int) (w : ByteArray) (hw : w.size ≤ 1048576) (kd : Int) (n1 : kd ≠ 1) (n2 : kd ≠ 2) (n3 : kd ≠ 3) (n5 : kd ≠ 5) (n6 : kd ≠ 6) (htz : kd = 7 → 0 ≤ tz ∧ tz ≤ (s.size : Int)) : ∃ o, CmdIs s kd (a : Int) tz w o := by
 obtain ⟨ht, hb⟩ := (docB_iff s).1 hd
 by_cases hop : a < s.size ∧ nmB (bt s (a : Int)) = true
 ·obtain ⟨b, hm⟩ := mate_ex hb hop.2 hop.1
  by_cases c4 : kd = 4
  ·subst c4; exact cmd_unw s hd a ha tz w b hm
  ·by_cases c8 : kd = 8
   ·subst c8; exact cmd_nam s hd a ha tz w b hm hw
   ·by_cases c7 : kd = 7
    ·subst c7; exact cmd_mov s hd a ha tz w b hm (htz rfl).1 (htz rfl).2
    ·exact cmd_oth s hd a ha tz w b hm kd n1 n2 n3 n5 n6 c4 c8 c7
 ·exact cmd_shut s hd a ha tz w hop kd n1 n2 n3 n5 n6
theorem cmd_ex (s : ByteArray) (hd : docB s = true) (kd at_ tz : Int) (w : ByteArray) (hw : w.size ≤ 1048576) (h0 : 0 ≤ at_) (h1 : at_ ≤ (s.size : Int)) (htz : kd = 2 ∨ kd = 3 ∨ kd = 7 → 0 ≤ tz ∧ tz ≤ (s.size : Int)) : ∃ o, CmdIs s kd at_ tz w o := by
 obtain ⟨ht, hb⟩ := (docB_iff s).1 hd
 have hs := textB_size ht
 obtain ⟨a, rfl⟩ := Int.eq_ofNat_of_zero_le h0
 by_cases c1 : kd = 1
 ·subst c1; exact cmd_ins s hs a O_ tz w hw
 ·by_cases c2 : kd = 2
  ·subst c2
   obtain ⟨z0, z1⟩ := htz (.inl rfl)
   obtain ⟨b, rfl⟩ := Int.eq_ofNat_of_zero_le z0
   exact cmd_rem s ht a b O_ O_ w
  ·by_cases c3 : kd = 3
   ·subst c3
    obtain ⟨z0, z1⟩ := htz (.inr (.inl rfl))
    obtain ⟨b, rfl⟩ := Int.eq_ofNat_of_zero_le z0
    exact cmd_wrap s ht a b O_ O_ w
   ·by_cases c5 : kd = 5
    ·subst c5; exact cmd_split s hd a O_ tz w
    ·by_cases c6 : kd = 6
     ·subst c6; exact cmd_join s hd a O_ tz w
     ·exact cmd_elem s hd a O_ tz w hw kd c1 c2 c3 c5 c6 (fun e => htz (.inr (.inr e)))
theorem place_no {s : ByteArray} {x : Int} (h : ¬ (0 ≤ x ∧ x ≤ (s.size : Int))) : impl_hasPlace.f s x = some false := by
 unfold impl_hasPlace.f
 by_cases h0 : x ≥ 0
 ·rw [ip_ h0, decide_eq_false (fun h1 => h ⟨h0, h1⟩)]
 ·rw [iN_ h0]
theorem place_yes {s : ByteArray} {x : Int} (h : 0 ≤ x ∧ x ≤ (s.size : Int)) : impl_hasPlace.f s x = some true := by
 unfold impl_hasPlace.f
 rw [ip_ h.1, decide_eq_true h.2]
theorem do_stop {s : ByteArray} (hs : s.size ≤ 140737488351232) (kd at_ tz : Int) (w : ByteArray) (h : docB s = false ∨ ¬ (0 ≤ at_ ∧ at_ ≤ (s.size : Int)) ∨ ((kd = 2 ∨ kd = 3 ∨ kd = 7) ∧ ¬ (0 ≤ tz ∧ tz ≤ (s.size : Int)))) : ∃ K, ∀ k, K ≤ k → impl_Command_do.f k kd at_ tz w s = some (doI none) := by
 obtain ⟨K, hK⟩ := impl_GoodDoc_ev s hs
 refine ⟨K + 2, fun k hk => ?_⟩
 obtain ⟨k, rfl⟩ : ∃ m, k = m + 2 := ⟨k - 2, O_⟩
 have hj1 : impl_Command_do.j1 (k + 1) s true kd at_ tz w = some (doI none) := by
  simp only [impl_Command_do.j1]; rw [ip_ (by trivial)]; rfl
 have hj : ∀ b : Bool, (b = true ↔ (kd = 2 ∨ kd = 3 ∨ kd = 7)) → impl_Command_do.j0 (k + 2) s b kd at_ tz w = some (doI none) := fun b hb => by
  have e := hK (k + 1) O_
  rw [impl_Command_do.j0, e, bs_]
  cases hd : docB s with
  | false => rw [iN_ (by simp)]; exact hj1
  | true =>
   rw [ip_ rfl]
   by_cases hp : 0 ≤ at_ ∧ at_ ≤ (s.size : Int)
   ·rw [place_yes hp, bs_, ip_ rfl]
    rcases h with h | h | h
    ·rw [hd] at h; cases h
    ·exact absurd hp h
    ·rw [ip_ (hb.2 h.1), place_no h.2, bs_]; exact hj1
   ·rw [place_no hp, bs_, iN_ (by simp)]; exact hj1
 unfold impl_Command_do.f
 by_cases c2 : kd = 2
 ·rw [ip_ c2]; exact hj true (by simp [c2])
 ·rw [iN_ c2]
  by_cases c3 : kd = 3
  ·rw [ip_ c3]; exact hj true (by simp [c3])
  ·rw [iN_ c3]; exact hj (kd == 7) (by rw [beq_iff_eq]; simp [c2, c3])
theorem op_stop {s : ByteArray} (hd : docB s = true) (kd at_ tz : Int) (w : ByteArray) (h : ¬ (0 ≤ at_ ∧ at_ ≤ (s.size : Int)) ∨ ((kd = 2 ∨ kd = 3 ∨ kd = 7) ∧ ¬ (0 ≤ tz ∧ tz ≤ (s.size : Int)))) : ∃ K, ∀ k, K ≤ k → spec_l8Op.f k s kd at_ tz w = some ([], false) := by
 obtain ⟨ht, hb⟩ := (docB_iff s).1 hd
 have hs := textB_size ht
 by_cases hp : 0 ≤ at_ ∧ at_ ≤ (s.size : Int)
 ·rcases h with h | ⟨hk, hz⟩
  ·exact absurd hp h
  ·obtain ⟨a, rfl⟩ := Int.eq_ofNat_of_zero_le hp.1
   have h23 : ∀ k (x : Int), spec_l8Op.j0 (k + 2) s x true kd (a : Int) tz w = some ([], false) := fun k x => by
    rw [spec_l8Op.j0, ip_ rfl, in_false O_, bs_, iN_ (by simp), spec_l8Op.j1, ip_ rfl]
   by_cases c2 : kd = 2
   ·subst c2
    refine ⟨2, fun k hk => ?_⟩
    obtain ⟨k, rfl⟩ : ∃ m, k = m + 2 := ⟨k - 2, O_⟩
    unfold spec_l8Op.f
    rw [in_true O_ O_, bs_, ip_ rfl, iN_ (by decide), ip_ rfl]
    exact h23 k 2
   ·by_cases c3 : kd = 3
    ·subst c3
     refine ⟨2, fun k hk => ?_⟩
     obtain ⟨k, rfl⟩ : ∃ m, k = m + 2 := ⟨k - 2, O_⟩
     unfold spec_l8Op.f
     rw [in_true O_ O_, bs_, ip_ rfl, iN_ (by decide), iN_ (by decide)]
     exact h23 k 3
    ·have c7 : kd = 7 := by rcases hk with hk | hk | hk <;> omega
     subst c7
     by_cases hop : a < s.size ∧ nmB (bt s (a : Int)) = true
     ·obtain ⟨b, hm⟩ := mate_ex hb hop.2 hop.1
      have hab := hm.1
      have hbs := hm.2.1
      obtain ⟨K2, h2⟩ := spec_l1Match_open O_ hm hb
      refine ⟨K2 + 3, fun k hk => ?_⟩
      obtain ⟨k, rfl⟩ : ∃ m, k = m + 3 := ⟨k - 3, O_⟩
      rw [elS s hd a O_ tz w hs 7 (by decide) (by decide) (by decide) (by decide) (by decide) (k + 2), decide_eq_true hop.1, hop.2]
      rw [spec_l8Op.j2, iN_ (by simp), h2 (k + 1) O_, bs_, iN_ (by decide), iN_ (by decide), ip_ rfl]
      unfold spec_l8Move.f
      rw [in_false hz, bs_, iN_ (by simp), spec_l8Move.j0, ip_ rfl]; rfl
     ·refine ⟨2, fun k hk => ?_⟩
      obtain ⟨k, rfl⟩ : ∃ m, k = m + 2 := ⟨k - 2, O_⟩
      have e : (decide (a < s.size) && nmB (bt s (a : Int))) = false := by
       cases hx : (decide (a < s.size) && nmB (bt s (a : Int))) with
       | false => rfl
       | true => rw [Bool.and_eq_true] at hx; exact absurd ⟨of_decide_eq_true hx.1, hx.2⟩ hop
      rw [elS s hd a O_ tz w hs 7 (by decide) (by decide) (by decide) (by decide) (by decide) (k + 1), e, Bool.not_false, spec_l8Op.j2, ip_ rfl]
 ·refine ⟨0, fun k hk => ?_⟩
  unfold spec_l8Op.f
  rw [in_false hp, bs_, iN_ (by simp)]
theorem do_all {s : ByteArray} (hd : docB s = true) (kd at_ tz : Int) (w : ByteArray) (hw : w.size ≤ 1048576) : ∃ o : Option (List Pt × ByteArray),
  (∃ K, ∀ k, K ≤ k → impl_Command_do.f k kd at_ tz w s = some (doI o)) ∧ (∃ Y T, ∃ K, ∀ k, K ≤ k → spec_l8Do.f k s kd at_ tz w = some (doS Y T o)) ∧
  (∀ p, o = some p → CmdIs s kd at_ tz w o ∧ 0 ≤ at_ ∧ at_ ≤ (s.size : Int)) := by
 have hz := textB_size ((docB_iff s).1 hd).1
 by_cases h : ¬ (0 ≤ at_ ∧ at_ ≤ (s.size : Int)) ∨ ((kd = 2 ∨ kd = 3 ∨ kd = 7) ∧ ¬ (0 ≤ tz ∧ tz ≤ (s.size : Int)))
 ·obtain ⟨K, hK⟩ := op_stop hd kd at_ tz w h
  refine ⟨none, do_stop O_ kd at_ tz w (.inr h), ⟨[], ⟨#[]⟩, K, fun k hk => ?_⟩, fun p hp => by cases hp⟩
  unfold spec_l8Do.f
  rw [hK k hk, bs_, iN_ (by simp)]; rfl
 ·have hp : 0 ≤ at_ ∧ at_ ≤ (s.size : Int) := Decidable.byContradiction fun x => h (.inl x)
  have htz : kd = 2 ∨ kd = 3 ∨ kd = 7 → 0 ≤ tz ∧ tz ≤ (s.size : Int) := fun hk => Decidable.byContradiction fun x => h (.inr ⟨hk, x⟩)
  obtain ⟨o, ho⟩ := cmd_ex s hd kd at_ tz w hw hp.1 hp.2 htz
  obtain ⟨h1, h2⟩ := do_ev hd hp.1 hp.2 htz ho
  exact ⟨o, h1, h2, fun p _ => ⟨ho, hp⟩⟩
theorem reach_front (s t : ByteArray) (hs : s.size ≤ 300) (ht : t.size ≤ 300) (n : Nat) (hn1 : n ≤ s.size) (hn2 : n ≤ t.size) (hn3 : n = s.size ∨ n = t.size) : ∀ d i, i + d = n → ∃ a, i ≤ a ∧ a ≤ n ∧
  (∀ r, (∃ K, ∀ k, K ≤ k → impl_ReachOf.j1 k s t (n : Int) (a : Int) 0 = some r) → ∃ K, ∀ k, K ≤ k → impl_ReachOf.l0 k s t (n : Int) (i : Int) 0 = some r) ∧
  (∀ j, i ≤ j → j < a → bt s (j : Int) = bt t (j : Int)) := by
 intro d
 induction d with
 | zero =>
  intro i hi
  refine ⟨i, Nat.le_refl _, O_, ?_, fun j h1 h2 => by omega⟩
  ·rintro r ⟨K, hK⟩
   refine ⟨K + 1, fun k hk => ?_⟩
   obtain ⟨k, rfl⟩ : ∃ m, k = m + 1 := ⟨k - 1, O_⟩
   simp only [impl_ReachOf.l0]
   rw [iN_ O_]
   exact hK k O_
 | succ d ih =>
  intro i hi
  by_cases hb : bt s (i : Int) = bt t (i : Int)
  ·obtain ⟨a, h1, h2, h3, h5⟩ := ih (i + 1) O_
   refine ⟨a, O_, h2, fun r hr => ?_, fun j q1 q2 => ?_⟩
   ·obtain ⟨K, hK⟩ := h3 r hr
    refine ⟨K + 1, fun k hk => ?_⟩
    obtain ⟨k, rfl⟩ : ∃ m, k = m + 1 := ⟨k - 1, O_⟩
    simp only [impl_ReachOf.l0]
    rw [ip_ O_, ip_ O_, ip_ O_, ip_ O_, ip_ hb, w64 O_ O_]
    exact hK k O_
   ·by_cases e : j = i
    ·rw [e]; exact hb
    ·exact h5 j O_ q2
  ·refine ⟨i, Nat.le_refl _, O_, ?_, fun j h1 h2 => by omega⟩
   ·rintro r ⟨K, hK⟩
    refine ⟨K + 1, fun k hk => ?_⟩
    obtain ⟨k, rfl⟩ : ∃ m, k = m + 1 := ⟨k - 1, O_⟩
    simp only [impl_ReachOf.l0]
    rw [ip_ O_, ip_ O_, ip_ O_, ip_ O_, iN_ hb]
    exact hK k O_
theorem reach_back (s t : ByteArray) (hs : s.size ≤ 300) (ht : t.size ≤ 300) (n a : Nat) (hn1 : n ≤ s.size) (hn2 : n ≤ t.size) (hn3 : n = s.size ∨ n = t.size) (ha : a ≤ n) : ∀ d j, j + d = n - a → ∃ b, j ≤ b ∧ b ≤ n - a ∧
  (∃ K, ∀ k, K ≤ k → impl_ReachOf.l1 k s t (n : Int) (a : Int) (j : Int) = some ((a : Int), (b : Int), true)) ∧ (∀ q, j ≤ q → q < b → bt s ((s.size - 1 - q : Nat) : Int) = bt t ((t.size - 1 - q : Nat) : Int)) := by
 intro d
 induction d with
 | zero =>
  intro j hj
  refine ⟨j, Nat.le_refl _, O_, ⟨1, fun k hk => ?_⟩, fun q h1 h2 => by omega⟩
  ·obtain ⟨k, rfl⟩ : ∃ m, k = m + 1 := ⟨k - 1, O_⟩
   simp only [impl_ReachOf.l1]
   rw [w64 O_ O_, iN_ O_]
 | succ d ih =>
  intro j hj
  have e1 : wrap64 ((s.size : Int) - 1) = (s.size : Int) - 1 := w64 O_ O_
  have e2 : wrap64 ((t.size : Int) - 1) = (t.size : Int) - 1 := w64 O_ O_
  have e3 : wrap64 ((s.size : Int) - 1 - (j : Int)) = ((s.size - 1 - j : Nat) : Int) := (w64 O_ O_).trans O_
  have e4 : wrap64 ((t.size : Int) - 1 - (j : Int)) = ((t.size - 1 - j : Nat) : Int) := (w64 O_ O_).trans O_
  have e5 : wrap64 ((n : Int) - (a : Int)) = (n : Int) - (a : Int) := w64 O_ O_
  have e6 : wrap64 ((s.size : Int) - (a : Int)) = (s.size : Int) - (a : Int) := w64 O_ O_
  have e7 : wrap64 ((t.size : Int) - (a : Int)) = (t.size : Int) - (a : Int) := w64 O_ O_
  have e8 : wrap64 ((j : Int) + 1) = ((j + 1 : Nat) : Int) := (w64 O_ O_).trans O_
  have q1 : ((s.size - 1 - j : Nat) : Int) < (s.size : Int) := by clear e1 e2 e3 e4 e5 e6 e7 e8; omega
  have q2 : ((t.size - 1 - j : Nat) : Int) < (t.size : Int) := by clear e1 e2 e3 e4 e5 e6 e7 e8; omega
  have q3 : (j : Int) < (n : Int) - (a : Int) := by clear e1 e2 e3 e4 e5 e6 e7 e8; omega
  have q4 : (j : Int) < (s.size : Int) - (a : Int) := by clear e1 e2 e3 e4 e5 e6 e7 e8; omega
  have q5 : (j : Int) < (t.size : Int) - (a : Int) := by clear e1 e2 e3 e4 e5 e6 e7 e8; omega
  by_cases hb : bt s ((s.size - 1 - j : Nat) : Int) = bt t ((t.size - 1 - j : Nat) : Int)
  ·obtain ⟨b, h1, h2, ⟨K1, h3⟩, h5⟩ := ih (j + 1) (by clear e1 e2 e3 e4 e5 e6 e7 e8; omega)
   refine ⟨b, by clear e1 e2 e3 e4 e5 e6 e7 e8; omega, h2, ⟨K1 + 1, fun k hk => ?_⟩, fun q p1 p2 => ?_⟩
   ·obtain ⟨k, rfl⟩ : ∃ m, k = m + 1 := ⟨k - 1, by clear e1 e2 e3 e4 e5 e6 e7 e8; omega⟩
    simp only [impl_ReachOf.l1]
    rw [e5, ip_ q3, e1, e2, e3, e4, ip_ (Int.natCast_nonneg _), ip_ q1, ip_ (Int.natCast_nonneg _), ip_ q2, ip_ hb, e8]
    exact h3 k (by clear e1 e2 e3 e4 e5 e6 e7 e8; omega)
   ·by_cases e : q = j
    ·rw [e]; exact hb
    ·exact h5 q (by clear e1 e2 e3 e4 e5 e6 e7 e8; omega) p2
  ·refine ⟨j, Nat.le_refl _, by clear e1 e2 e3 e4 e5 e6 e7 e8; omega, ⟨1, fun k hk => ?_⟩, fun q h1 h2 => absurd h2 (by clear e1 e2 e3 e4 e5 e6 e7 e8; omega)⟩
   ·obtain ⟨k, rfl⟩ : ∃ m, k = m + 1 := ⟨k - 1, by clear e1 e2 e3 e4 e5 e6 e7 e8; omega⟩
    simp only [impl_ReachOf.l1]
    rw [e5, ip_ q3, e1, e2, e3, e4, ip_ (Int.natCast_nonneg _), ip_ q1, ip_ (Int.natCast_nonneg _), ip_ q2, iN_ hb]
theorem reach_ev (s t : ByteArray) (hs : s.size ≤ 300) (ht : t.size ≤ 300) : ∃ a b : Nat, a + b ≤ s.size ∧ a + b ≤ t.size ∧ (∃ K, ∀ k, K ≤ k → impl_ReachOf.l0 k s t (mn (s.size : Int) (t.size : Int)) 0 0 = some ((a : Int), (b : Int), true)) ∧
  (∀ j, j < a → bt s (j : Int) = bt t (j : Int)) ∧ (∀ q, q < b → bt s ((s.size - 1 - q : Nat) : Int) = bt t ((t.size - 1 - q : Nat) : Int)) := by
 obtain ⟨n, hn, hn1, hn2, hn3⟩ : ∃ n : Nat, mn (s.size : Int) (t.size : Int) = (n : Int) ∧ n ≤ s.size ∧ n ≤ t.size ∧ (n = s.size ∨ n = t.size) := by
  unfold mn
  split
  ·exact ⟨t.size, rfl, O_, O_, .inr rfl⟩
  ·exact ⟨s.size, rfl, O_, O_, .inl rfl⟩
 rw [hn]
 obtain ⟨a, -, h2, h3, h5⟩ := reach_front s t hs ht n hn1 hn2 hn3 n 0 O_
 obtain ⟨b, -, g2, ⟨K1, g3⟩, g5⟩ := reach_back s t hs ht n a hn1 hn2 hn3 h2 (n - a) 0 O_
 refine ⟨a, b, O_, O_, h3 _ ⟨K1 + 1, fun k hk => ?_⟩, fun j hj => h5 j (Nat.zero_le _) hj, fun q hq => g5 q (Nat.zero_le _) hq⟩
 ·obtain ⟨k, rfl⟩ : ∃ m, k = m + 1 := ⟨k - 1, O_⟩
  simp only [impl_ReachOf.j1]
  exact g3 k O_
theorem len_ne {α : Type} {a b : List α} (h : a = b) (hl : a.length ≠ b.length) : False := hl (congrArg List.length h)
theorem nfK {r : List Pt} {a : Nat} (c : Nat) (h : addP r (.K a) = .K a :: r) : addP r (.K c) = .K c :: r := by
 match r with
 | [] => rfl
 | .K x :: r => exact (len_ne (show Pt.K (x + a) :: r = .K a :: .K x :: r from h) (by simp)).elim
 | .W x :: r => rfl
 | .D x :: r => rfl
theorem nfD {r : List Pt} {a : ByteArray} (c : ByteArray) (h : addP r (.D a) = .D a :: r) : addP r (.D c) = .D c :: r := by
 match r with
 | [] => rfl
 | .K x :: r => rfl
 | .W x :: r => rfl
 | .D x :: r => exact (len_ne (show Pt.D (x ++ a) :: r = .D a :: .D x :: r from h) (by simp)).elim
theorem nfW {r : List Pt} {a : ByteArray} (c : ByteArray) (h : addP r (.W a) = .W a :: r) : addP r (.W c) = .W c :: r := by
 match r with
 | [] => rfl
 | .K x :: r => rfl
 | .W x :: r => exact (len_ne (show Pt.W (x ++ a) :: r = .W a :: .W x :: r from h) (by simp)).elim
 | .D x :: .W y :: r => injection (show Pt.D x :: .W (y ++ a) :: r = .W a :: .D x :: .W y :: r from h) with h1; cases h1
 | .D x :: .K y :: r => injection (show Pt.D x :: .W a :: .K y :: r = .W a :: .D x :: .K y :: r from h) with h1; cases h1
 | .D x :: .D y :: r => injection (show Pt.D x :: .W a :: .D y :: r = .W a :: .D x :: .D y :: r from h) with h1; cases h1
 | [.D x] => injection (show [Pt.D x, .W a] = [.W a, .D x] from h) with h1; cases h1
def nfP : List Pt → Prop
 | [] => True
 | x :: r => addP r x = x :: r ∧ 0 < massP x ∧ nfP r
theorem nfP_add {r : List Pt} {q : Pt} (h : nfP r) (hq : 0 < massP q) : nfP (addP r q) := by
 match r, q with
 | [], .K b => exact ⟨rfl, hq, trivial⟩
 | [], .W b => exact ⟨rfl, hq, trivial⟩
 | [], .D b => exact ⟨rfl, hq, trivial⟩
 | .K a :: r, .K b => exact ⟨nfK _ h.1, by show 0 < a + b; have : 0 < b := hq; omega, h.2.2⟩
 | .K a :: r, .W b => exact ⟨rfl, hq, h⟩
 | .K a :: r, .D b => exact ⟨rfl, hq, h⟩
 | .W a :: r, .K b => exact ⟨rfl, hq, h⟩
 | .W a :: r, .W b => exact ⟨nfW _ h.1, by show 0 < (a ++ b).size; have : 0 < b.size := hq; rw [zA_]; omega, h.2.2⟩
 | .W a :: r, .D b => exact ⟨rfl, hq, h⟩
 | .D a :: r, .K b => exact ⟨rfl, hq, h⟩
 | .D a :: r, .D b => exact ⟨nfD _ h.1, by show 0 < (a ++ b).size; have : 0 < b.size := hq; rw [zA_]; omega, h.2.2⟩
 | .D a :: .W c :: r, .W b => exact ⟨rfl, h.2.1, nfW _ h.2.2.1, by show 0 < (c ++ b).size; have : 0 < b.size := hq; rw [zA_]; omega, h.2.2.2.2⟩
 | [.D a], .W b => exact ⟨rfl, h.2.1, rfl, hq, trivial⟩
 | .D a :: .K c :: r, .W b => exact ⟨rfl, h.2.1, rfl, hq, h.2.2⟩
 | .D a :: .D c :: r, .W b => exact (len_ne (show Pt.D (c ++ a) :: r = .D a :: .D c :: r from h.1) (by simp)).elim
theorem nfP_fold : ∀ (L r : List Pt), nfP r → nfP (L.foldl addQ r)
 | [], r, h => h
 | q :: L, r, h => by
  rw [List.foldl_cons]
  refine nfP_fold L _ ?_
  unfold addQ
  split
  ·exact h
  ·exact nfP_add h O_
theorem nfP_self : ∀ (R : List Pt), nfP R → R.reverse.foldl addQ [] = R
 | [], _ => rfl
 | x :: R, h => by
  have h1 := h.2.1
  rw [List.reverse_cons, List.foldl_append, nfP_self R h.2.2, List.foldl_cons, List.foldl_nil]
  unfold addQ
  rw [iN_ O_, h.1]
def mkN : Pt → Nat
 | .K n => n
 | .W w => w.size
 | .D _ => 0
def mks : List Pt → Nat
 | [] => 0
 | q :: r => mkN q + mks r
theorem mass_append : ∀ (a b : List Pt), mass (a ++ b) = mass a + mass b
 | [], b => by simp [mass]
 | q :: a, b => by rw [List.cons_append]; simp only [mass]; rw [mass_append a b]; omega
theorem mass_rev : ∀ (a : List Pt), mass a.reverse = mass a
 | [] => rfl
 | q :: a => by rw [List.reverse_cons, mass_append, mass_rev a]; simp only [mass]; omega
def kdN : Pt → Nat
 | .K n => n
 | .W _ => 0
 | .D d => d.size
def kds : List Pt → Nat
 | [] => 0
 | q :: r => kdN q + kds r
theorem run_kds {s : ByteArray} : ∀ {L : List Pt} {st v : ByteArray × Nat}, runP s L st = some v → v.2 = st.2 + kds L
 | [], st, v, h => by obtain rfl := Option.some.inj h; rfl
 | q :: L, st, v, h => by
  obtain ⟨u, h1, h2⟩ := Option.bind_eq_some_iff.1 (show (stepP s st q).bind (runP s L) = some v from h)
  have e := run_kds h2
  have hq : u.2 = st.2 + kdN q := by
   cases q with
   | K n =>
    have h1' : (if st.2 + n ≤ s.size then some (st.1 ++ s.extract st.2 (st.2 + n), st.2 + n) else none) = some u := h1
    split at h1'
    ·obtain rfl := Option.some.inj h1'; rfl
    ·cases h1'
   | W w => obtain rfl := Option.some.inj (show some (st.1 ++ w, st.2) = some u from h1); rfl
   | D d =>
    have h1' : (if st.2 + d.size ≤ s.size ∧ s.extract st.2 (st.2 + d.size) = d then some (st.1, st.2 + d.size) else none) = some u := h1
    split at h1'
    ·obtain rfl := Option.some.inj h1'; rfl
    ·cases h1'
  show v.2 = st.2 + (kdN q + kds L)
  omega
theorem sizes2_l (L : List Pt) (hL : L.length ≤ 1000000) : ∀ (d i x y : Nat), i + d = L.length → x + mass (L.drop i) ≤ 10000000 → y + mass (L.drop i) ≤ 10000000 → ∃ K, ∀ k, K ≤ k → spec_l3Sizes.l0 k (x : Int) (y : Int) (L.map encP) ((L.map encP).length : Int) (i : Int) = some (((x + kds (L.drop i) : Nat) : Int), ((y + mks (L.drop i) : Nat) : Int)) := by
 intro d
 induction d with
 | zero =>
  intro i x y hi hx hy
  refine ⟨1, fun k hk => ?_⟩
  obtain ⟨k, rfl⟩ : ∃ m, k = m + 1 := ⟨k - 1, O_⟩
  simp only [spec_l3Sizes.l0]
  rw [iN_ (by simp; omega), List.drop_of_length_le O_]
  simp [mks, kds]
 | succ d ih =>
  intro i x y hi hx hy
  have hil : i < L.length := by omega
  have hrd := rd_enc L i hil
  rw [List.drop_eq_getElem_cons hil] at hx hy ⊢
  simp only [mass, mks, kds] at hx hy ⊢
  generalize L[i] = q at hx hy hrd ⊢
  have h1 : kdN q ≤ massP q ∧ (encP q).f0 + ((encP q).f2.size : Int) = (kdN q : Int) := by
   have z : (⟨#[]⟩ : ByteArray).size = 0 := rfl
   cases q with
   | K n => exact ⟨Nat.le_refl _, by show (n : Int) + ((⟨#[]⟩ : ByteArray).size : Int) = (n : Int); omega⟩
   | W w => exact ⟨Nat.zero_le _, by show (0 : Int) + ((⟨#[]⟩ : ByteArray).size : Int) = ((0 : Nat) : Int); omega⟩
   | D w => exact ⟨Nat.le_refl _, by show (0 : Int) + (w.size : Int) = (w.size : Int); omega⟩
  have h2 : (encP q).f0 + ((encP q).f1.size : Int) = (mkN q : Int) ∧ mkN q ≤ massP q := by
   have z : (⟨#[]⟩ : ByteArray).size = 0 := rfl
   cases q with
   | K n => exact ⟨by show (n : Int) + ((⟨#[]⟩ : ByteArray).size : Int) = (n : Int); omega, Nat.le_refl _⟩
   | W w => exact ⟨by show (0 : Int) + (w.size : Int) = (w.size : Int); omega, Nat.le_refl _⟩
   | D w => exact ⟨by show (0 : Int) + ((⟨#[]⟩ : ByteArray).size : Int) = ((0 : Nat) : Int); omega, Nat.zero_le _⟩
  obtain ⟨hk1, hk2⟩ := h1
  obtain ⟨K, hK⟩ := ih (i + 1) (x + kdN q) (y + mkN q) O_ O_ O_
  refine ⟨K + 1, fun k hk => ?_⟩
  obtain ⟨k, rfl⟩ : ∃ m, k = m + 1 := ⟨k - 1, O_⟩
  have hr := hK k O_
  simp only [spec_l3Sizes.l0]
  rw [ip_ (by simp; omega), ip_ O_, ip_ (by simp; omega), hrd, hk2, h2.1]
  rw [w64 (i := (kdN q : Int)) O_ O_, w64 (i := (x : Int) + (kdN q : Int)) O_ O_, w64 (i := (mkN q : Int)) O_ O_, w64 (i := (y : Int) + (mkN q : Int)) O_ O_, w64 (i := (i : Int) + 1) O_ O_]
  rw [show (x : Int) + (kdN q : Int) = ((x + kdN q : Nat) : Int) by omega, show (y : Int) + (mkN q : Int) = ((y + mkN q : Nat) : Int) by omega, show (i : Int) + 1 = ((i + 1 : Nat) : Int) by omega, hr, Nat.add_assoc, Nat.add_assoc]
theorem sizes2_ev (L : List Pt) (hL : L.length ≤ 1000000) (hm : mass L ≤ 1000000) : ∃ K, ∀ k, K ≤ k → spec_l3Sizes.f k (L.map encP) = some ((kds L : Int), (mks L : Int)) := by
 obtain ⟨K, hK⟩ := sizes2_l L hL L.length 0 0 0 O_ (by rw [List.drop_zero]; omega) (by rw [List.drop_zero]; omega)
 refine ⟨K, fun k hk => ?_⟩
 have := hK k hk
 rw [List.drop_zero, Nat.zero_add, Nat.zero_add] at this
 exact this
theorem apI_l (s : ByteArray) (hs : s.size ≤ 300) (L : List Pt) (hL : L.length ≤ 1000000) (hmx : ∀ x ∈ L, massP x ≤ 1000000) (v : ByteArray × Nat) (hv : v.1.size ≤ 1000000000) :
  ∀ (d i : Nat) (a : Nat) (out : ByteArray), i + d = L.length → a ≤ s.size → runP s (L.drop i) (out, a) = some v →
  ∃ K, ∀ k, K ≤ k → impl_ApplyOp.l0 k (s.extract a s.size) out (L.map encP) ((L.map encP).length : Int) (i : Int) = some (v.1, true) := by
 intro d
 induction d with
 | zero =>
  intro i a out hi ha h
  rw [List.drop_of_length_le O_] at h
  obtain rfl := Option.some.inj h
  refine ⟨1, fun k hk => ?_⟩
  obtain ⟨k, rfl⟩ : ∃ m, k = m + 1 := ⟨k - 1, O_⟩
  simp only [impl_ApplyOp.l0]
  rw [iN_ (by rw [lM_]; omega)]
 | succ d ih =>
  intro i a out hi ha h
  have hdr := List.drop_eq_getElem_cons (show i < L.length by omega)
  rw [hdr] at h
  obtain ⟨u, h1, h2⟩ := Option.bind_eq_some_iff.1 (show (stepP s (out, a) L[i]).bind (runP s (L.drop (i + 1))) = some v from h)
  have hmono := stepP_mono h1 ha
  have hm2 := runP_mono h2 hmono.2
  obtain ⟨K, hK⟩ := ih (i + 1) u.2 u.1 O_ hmono.2 h2
  have hre := rd_enc L i O_
  have hsz := rest_size s a
  have hq := hmx L[i] (List.getElem_mem _)
  have z0 : (⟨#[]⟩ : ByteArray).size = 0 := rfl
  have hR : ∃ R, R = s.extract a s.size := ⟨_, rfl⟩
  refine ⟨K + 1, fun k hk => ?_⟩
  obtain ⟨k, rfl⟩ : ∃ m, k = m + 1 := ⟨k - 1, O_⟩
  have hr := hK k O_
  have hc : ((i : Int) + 1) = ((i + 1 : Nat) : Int) := by omega
  have e4 : out.size ≤ 1000000000 := by have : out.size ≤ _ := hmono.1; omega
  simp only [impl_ApplyOp.l0]
  rw [ip_ (by rw [lM_]; omega), ip_ O_, ip_ (by rw [lM_]; omega), hre]
  generalize hg : L[i] = q at h1 hq
  cases q with
  | K n =>
   have h1' : (if a + n ≤ s.size then some (out ++ s.extract a (a + n), a + n) else none) = some u := h1
   by_cases hn : a + n ≤ s.size
   ·rw [ip_ hn] at h1'
    obtain rfl := Option.some.inj h1'
    have e1 : ((s.extract a s.size).extract 0 n) = s.extract a (a + n) := by rw [ba_extract_extract s a 0 n hn, Nat.add_zero]
    have e2 : ((s.extract a s.size).extract n (s.extract a s.size).size) = s.extract (a + n) s.size := ba_extract_end s a n hn
    have e3 : (s.extract a (a + n)).size = n := by rw [zE_]; omega
    rw [show (encP (.K n)).f2 = (⟨#[]⟩ : ByteArray) from rfl, show (encP (.K n)).f1 = (⟨#[]⟩ : ByteArray) from rfl, show (encP (.K n)).f0 = (n : Int) from rfl, z0, ip_ O_, ip_ O_, show ((0 : Nat) : Int).toNat = 0 from rfl, ba_extract_same, ip_ rfl, ip_ O_, ip_ O_, tN_, e1, e3, ip_ O_, ba_append_nil, e3, ip_ O_, show (n : Int) + ((0 : Nat) : Int) = (n : Int) by omega, w64 (i := (n : Int)) O_ O_, ip_ O_, ip_ O_, tN_, e2, w64 O_ O_, hc]
    exact hr
   ·rw [iN_ hn] at h1'; cases h1'
  | W w =>
   obtain rfl := Option.some.inj (show some (out ++ w, a) = some u from h1)
   have hw : w.size ≤ 1000000 := hq
   have e2 : ((s.extract a s.size).extract 0 (s.extract a s.size).size) = s.extract a s.size := ba_extract_all _
   rw [show (encP (.W w)).f2 = (⟨#[]⟩ : ByteArray) from rfl, show (encP (.W w)).f1 = w from rfl, show (encP (.W w)).f0 = (0 : Int) from rfl, z0, ip_ O_, ip_ O_, show ((0 : Nat) : Int).toNat = 0 from rfl, ba_extract_same, ip_ rfl, ip_ O_, ip_ O_, show ((0 : Int)).toNat = 0 from rfl, ba_extract_same, z0, ip_ O_, ba_nil_append, ip_ O_, show (0 : Int) + ((0 : Nat) : Int) = 0 by omega, w64 (i := (0 : Int)) O_ O_, ip_ O_, ip_ O_, show ((0 : Int)).toNat = 0 from rfl, e2, w64 O_ O_, hc]
   exact hr
  | D w =>
   have h1' : (if a + w.size ≤ s.size ∧ s.extract a (a + w.size) = w then some (out, a + w.size) else none) = some u := h1
   by_cases hn : a + w.size ≤ s.size ∧ s.extract a (a + w.size) = w
   ·rw [ip_ hn] at h1'
    obtain rfl := Option.some.inj h1'
    have e1 : ((s.extract a s.size).extract 0 w.size) = w := by rw [ba_extract_extract s a 0 w.size hn.1, Nat.add_zero]; exact hn.2
    have e2 : ((s.extract a s.size).extract w.size (s.extract a s.size).size) = s.extract (a + w.size) s.size := ba_extract_end s a w.size hn.1
    rw [show (encP (.D w)).f2 = w from rfl, show (encP (.D w)).f1 = (⟨#[]⟩ : ByteArray) from rfl, show (encP (.D w)).f0 = (0 : Int) from rfl, z0, ip_ O_, ip_ O_, tN_, e1, ip_ rfl, ip_ O_, ip_ O_, show ((0 : Int)).toNat = 0 from rfl, ba_extract_same, z0, ip_ O_, ba_append_nil, ba_append_nil, z0, ip_ O_, Int.zero_add, w64 (i := (w.size : Int)) O_ O_, ip_ O_, ip_ O_, tN_, e2, w64 O_ O_, hc]
    exact hr
   ·rw [iN_ hn] at h1'; cases h1'
theorem applied (s : ByteArray) (ts : textB s = true) (R : List Pt) (hp : ∀ x ∈ R, 0 < massP x) (hm : mass R ≤ 1000000) (t : ByteArray) (hr : runP s R.reverse (⟨#[]⟩, 0) = some (t, s.size)) (ht : t.size ≤ 1000000000) (hg : ∃ K, ∀ k, K ≤ k → impl_GoodOp.f k (R.reverse.map encP) = some true) : ∃ K, ∀ k, K ≤ k → impl_ApplyOp.f k (R.reverse.map encP) s = some (t, true) := by
 have hs := textB_size ts
 have hlen := mass_len hp
 obtain ⟨K1, h1⟩ := hg
 obtain ⟨K2, h2⟩ := impl_GoodText_ev s O_
 obtain ⟨K3, h3⟩ := sizes2_ev R.reverse (by rw [List.length_reverse]; omega) (by rw [mass_rev]; omega)
 have hk := run_kds hr
 obtain ⟨K4, h4⟩ := apI_l s hs R.reverse (by rw [List.length_reverse]; omega) (fun x hx => by have := mass_mem (List.mem_reverse.1 hx); omega) (t, s.size) ht R.reverse.length 0 0 ⟨#[]⟩ O_ (Nat.zero_le _) hr
 refine ⟨K1 + K2 + K3 + K4 + 1, fun k hk' => ?_⟩
 have e4 := h4 (k - 1) O_
 rw [ba_extract_all] at e4
 unfold impl_ApplyOp.f
 rw [h1 k O_, bs_, ip_ rfl, h2 k O_, ts, bs_]
 obtain ⟨k, rfl⟩ : ∃ m, k = m + 1 := ⟨k - 1, O_⟩
 rw [impl_ApplyOp.j0, iN_ (by simp), impl_sizes_ev, h3 k O_, bs_, ip_ (by
  have : s.size = 0 + kds R.reverse := hk
  show (kds R.reverse : Int) = _
  omega)]
 exact e4
theorem sameOps_l (l : List S61) (hl : l.length ≤ 3518437208780) : ∀ (d i : Nat), i + d = l.length → ∃ K, ∀ k, K ≤ k → laws_sameOps.l0 k l l (l.length : Int) (i : Int) = some true := by
 intro d
 induction d with
 | zero =>
  intro i hi
  refine ⟨1, fun k hk => ?_⟩
  obtain ⟨k, rfl⟩ : ∃ m, k = m + 1 := ⟨k - 1, O_⟩
  simp only [laws_sameOps.l0]
  rw [iN_ O_]
 | succ d ih =>
  intro i hi
  obtain ⟨K, hK⟩ := ih (i + 1) O_
  refine ⟨K + 1, fun k hk => ?_⟩
  obtain ⟨k, rfl⟩ : ∃ m, k = m + 1 := ⟨k - 1, O_⟩
  simp only [laws_sameOps.l0]
  rw [ip_ O_, ip_ O_, ip_ O_, ip_ O_, iN_ (by simp), w64 O_ O_, show ((i : Int) + 1) = ((i + 1 : Nat) : Int) by omega]
  exact hK k O_
theorem sameOps_ev (l : List S61) (hl : l.length ≤ 3518437208780) : ∃ K, ∀ k, K ≤ k → laws_sameOps.f k l l = some true := by
 obtain ⟨K, hK⟩ := sameOps_l l hl l.length 0 O_
 exact ⟨K, fun k hk => by unfold laws_sameOps.f; rw [ip_ rfl]; exact hK k hk⟩
theorem encF_small {L : List Pt} (hm : mass L ≤ 2000) : smallL (encF L) ∧ (encF L).length ≤ 2000 := by
 obtain ⟨f1, f2⟩ := fold_inv L [] (fun x hx => by cases hx)
 have f3 : mass (L.foldl addQ []) = mass L := by rw [f2]; show 0 + _ = _; omega
 have hl := mass_len f1
 have hlen : (encF L).length ≤ 2000 := by unfold encF; rw [lM_, List.length_reverse]; omega
 refine ⟨⟨O_, fun x hx => ?_⟩, hlen⟩
 unfold encF at hx
 obtain ⟨q, hq, rfl⟩ := List.mem_map.1 hx
 have := mass_mem (List.mem_reverse.1 hq)
 have z : (⟨#[]⟩ : ByteArray).size = 0 := rfl
 cases q with
 | K n => exact ⟨by show (⟨#[]⟩ : ByteArray).size ≤ _; omega, by show (⟨#[]⟩ : ByteArray).size ≤ _; omega⟩
 | W w => simp only [massP] at this; exact ⟨by show w.size ≤ _; omega, by show (⟨#[]⟩ : ByteArray).size ≤ _; omega⟩
 | D d => simp only [massP] at this; exact ⟨by show (⟨#[]⟩ : ByteArray).size ≤ _; omega, by show d.size ≤ _; omega⟩
theorem u64_range (n : Int) : 0 ≤ IntKind.u64.wrap n ∧ IntKind.u64.wrap n < 18446744073709551616 := by
 have h : IntKind.u64.wrap n = n % 18446744073709551616 := by simp [IntKind.wrap, IntKind.bits, IntKind.signed]
 rw [h]; omega
theorem u64_and255 (n : Int) : 0 ≤ Go.bits .and .u64 (IntKind.u64.wrap n / 1099511627776) 255 ∧ Go.bits .and .u64 (IntKind.u64.wrap n / 1099511627776) 255 < 256 := by
 have h := u64_range n
 have e := bits_mask .u64 24 (by decide) (fun n h0 h1 => by
  have h : IntKind.u64.wrap n = n % 18446744073709551616 := by simp [IntKind.wrap, IntKind.bits, IntKind.signed]
  rw [h]; omega) 8 (by decide) (IntKind.u64.wrap n / 1099511627776) O_ O_
 rw [show (255 : Int) = 2 ^ 8 - 1 from rfl, e]
 omega
def okCode (c : List Int) : Prop := ∀ x ∈ c, 0 ≤ x ∧ x < 256
theorem okCode_of {c : List Int} (h : ∀ x ∈ c, (Lit.int .u8 x).wf = true) : okCode c := by
 intro x hx
 have := h x hx
 simp [Lit.wf, IntKind.min, IntKind.max, IntKind.bits, IntKind.signed] at this
 omega
theorem okCode.rd {c : List Int} (h : okCode c) (i : Int) : 0 ≤ rd c i ∧ rd c i < 256 := by
 unfold Go.Proofs.YtmigfgcpdelnfaaW.PrintWords.rd
 rw [List.getD_eq_getElem?_getD]
 cases e : c[i.toNat]? with
 | none => simp
 | some x => simp; exact h x (List.mem_of_getElem? e)
theorem next_ev {c : List Int} (hc : okCode c) (a s : Int) (h0 : 0 ≤ a) (h1 : a ≤ 4000000000000000000) : ∃ r s', spec_l1Cur_next.f c a s = some (r, a + 1, s') ∧ 0 ≤ r ∧ r < 256 := by
 have hr := hc.rd a
 have hu := u64_and255
 unfold spec_l1Cur_next.f
 rw [w64 (by omega : -4611686018427387904 ≤ a + 1) O_]
 by_cases c1 : a < (c.length : Int)
 ·rw [ip_ c1, ip_ h0, ip_ O_, w64 O_ O_]
  exact ⟨_, _, rfl, hr.1, hr.2⟩
 ·rw [iN_ c1, iN_ O_]
  refine ⟨_, _, rfl, ?_⟩
  have := hu (IntKind.u64.wrap (IntKind.u64.wrap (s * 6364136223846793005) + 0) + 1442695040888963407)
  rw [w64 O_ O_]
  exact this
theorem pick_ev {c : List Int} (hc : okCode c) (a s n : Int) (h0 : 0 ≤ a) (h1 : a ≤ 3000000000000000000) (hn : 1 ≤ n) (hn2 : n ≤ 1000000000000) : ∃ r a' s', spec_l1Cur_pick.f c a s n = some (r, a', s') ∧ 0 ≤ r ∧ r < n ∧ a ≤ a' ∧ a' ≤ a + 2 := by
 unfold spec_l1Cur_pick.f
 by_cases c1 : n ≤ 1
 ·rw [ip_ c1]; exact ⟨0, a, s, rfl, O_, O_, O_, O_⟩
 ·obtain ⟨r, s1, e1, hr0, hr1⟩ := next_ev hc a s h0 O_
  rw [iN_ c1, e1]
  simp only [bs_]
  by_cases c2 : n > 200
  ·obtain ⟨r2, s2, e2, hr2, hr3⟩ := next_ev hc (a + 1) s1 O_ O_
   rw [ip_ c2, e2]
   simp only [bs_]
   rw [iN_ O_, w64 (by omega : -4611686018427387904 ≤ r * 256) O_, w64 O_ O_]
   refine ⟨_, _, _, rfl, ?_, ?_, O_, O_⟩
   ·rw [Int.tmod_eq_emod_of_nonneg O_]; exact Int.emod_nonneg _ O_
   ·rw [Int.tmod_eq_emod_of_nonneg O_]; exact Int.emod_lt_of_pos _ O_
  ·rw [iN_ c2, iN_ O_]
   refine ⟨_, _, _, rfl, ?_, ?_, O_, O_⟩
   ·rw [Int.tmod_eq_emod_of_nonneg O_]; exact Int.emod_nonneg _ O_
   ·rw [Int.tmod_eq_emod_of_nonneg O_]; exact Int.emod_lt_of_pos _ O_
theorem one_ev {c : List Int} (hc : okCode c) (a s n : Int) (h0 : 0 ≤ a) (h1 : a ≤ 3000000000000000000) (hn : 1 ≤ n) (hn2 : n ≤ 1000000000000) : ∃ r a' s', spec_l1Cur_one.f c a s n = some (r, a', s') ∧ a ≤ a' ∧ a' ≤ a + 2 := by
 obtain ⟨r, a', s', e, _, _, h2, h3⟩ := pick_ev hc a s n h0 h1 hn hn2
 unfold spec_l1Cur_one.f
 rw [e]
 exact ⟨_, _, _, rfl, h2, h3⟩
theorem of_ev {c : List Int} (hc : okCode c) (a s : Int) (l : List ByteArray) (M : Nat) (h0 : 0 ≤ a) (h1 : a ≤ 3000000000000000000) (hl : 0 < l.length) (hl2 : l.length ≤ 1000) (hM : ∀ x ∈ l, x.size ≤ M) : ∃ r a' s', spec_l1Cur_of.f c a s l = some (r, a', s') ∧ r ∈ l ∧ r.size ≤ M ∧ a ≤ a' ∧ a' ≤ a + 2 := by
 obtain ⟨r, a', s', e, h2, h3, h4, h5⟩ := pick_ev hc a s (l.length : Int) h0 h1 O_ O_
 unfold spec_l1Cur_of.f
 rw [e]
 simp only [bs_]
 rw [ip_ h2, ip_ h3]
 have hm : rdOf ByteArray.empty l r ∈ l := by
  unfold rdOf
  rw [List.getD_eq_getElem?_getD, List.getElem?_eq_getElem (by omega : r.toNat < l.length)]
  simp
 exact ⟨_, _, _, rfl, hm, hM _ hm, h4, h5⟩
def cO : Nat → Int
 | 0 => 600
 | d + 1 => 60 * (cO d + 10)
def sO : Nat → Nat
 | 0 => 300
 | d + 1 => 60 * (sO d + 10)
def xO : Nat → Nat
 | 0 => 5
 | d + 1 => sO d + 10
def yO : Nat → Int
 | 0 => 10
 | d + 1 => cO d + 10
theorem cO_le (d : Nat) (h : d ≤ 3) : 0 ≤ cO d ∧ cO d ≤ 1000000000 := by
 rcases d with _ | _ | _ | _ | d <;> simp [cO] <;> omega
theorem sO_le (d : Nat) (h : d ≤ 3) : sO d ≤ 1000000000 := by
 rcases d with _ | _ | _ | _ | d <;> simp [sO] <;> omega
theorem size_app (a b : ByteArray) : (a ++ b).size = a.size + b.size := zA_
theorem inner_l {c : List Int} (hc : okCode c) (d : Nat) (hd : d ≤ 3)
  (IH : ∀ e : Nat, d = e + 1 → ∀ (a s n : Int), 0 ≤ a → a ≤ 2000000000000000000 + (3 - (e : Int)) * 1000000000000 → 0 ≤ n → n ≤ 60 → ∃ t a' s', t.size ≤ sO e ∧ a ≤ a' ∧ a' ≤ a + cO e ∧ ∃ K, ∀ k, K ≤ k → spec_l1Cur_inner.f k c a s n (e : Int) = some (t, a', s')) :
  ∀ (n : Nat) (t : ByteArray) (a s : Int), n ≤ 60 → 0 ≤ a → a ≤ 2000000000000000000 + (3 - (d : Int)) * 1000000000000 + (60 - (n : Int)) * 1000000000 → t.size + n * 1000000000 ≤ 60 * 1000000000 →
   ∃ t' a' s', t'.size ≤ t.size + n * (xO d) ∧ a ≤ a' ∧ a' ≤ a + n * (yO d) ∧ ∃ K, ∀ k, K ≤ k → spec_l1Cur_inner.l0 k (n : Int) (d : Int) t c a s = some (t', a', s') := by
 intro n
 induction n with
 | zero =>
  intro t a s hn h0 h1 ht
  refine ⟨t, a, s, O_, O_, O_, 1, fun k hk => ?_⟩
  obtain ⟨k, rfl⟩ : ∃ m, k = m + 1 := ⟨k - 1, O_⟩
  simp only [spec_l1Cur_inner.l0]
  rw [iN_ O_]
 | succ n ih =>
  intro t a s hn h0 h1 ht
  have join : ∀ (u : ByteArray) (a1 s1 : Int), u.size ≤ (xO d) → a ≤ a1 → a1 ≤ a + (yO d) →
    ∃ t' a' s', t'.size ≤ t.size + (n + 1 : Nat) * (xO d) ∧ a ≤ a' ∧ a' ≤ a + ((n + 1 : Nat) : Int) * (yO d) ∧ ∃ K, ∀ k, K ≤ k → spec_l1Cur_inner.l0 k (n : Int) (d : Int) (t ++ u) c a1 s1 = some (t', a', s') := by
   intro u a1 s1 hu h2 h3
   have b1 : xO d ≤ 1000000000 := by
    cases d with
    | zero => simp [xO]
    | succ e => have := sO_le e O_; rcases e with _ | _ | _ | e <;> simp [xO, sO] <;> omega
   have b2 : yO d ≤ 1000000000 := by
    cases d with
    | zero => simp [yO]
    | succ e => rcases e with _ | _ | _ | e <;> simp [yO, cO] <;> omega
   generalize xO d = X at *
   generalize yO d = Y at *
   obtain ⟨t', a', s', g1, g2, g3, g4⟩ := ih (t ++ u) a1 s1 O_ O_ O_ (by rw [size_app]; omega)
   refine ⟨t', a', s', ?_, O_, ?_, g4⟩
   ·rw [size_app] at g1
    have : (n + 1) * X = n * X + X := Nat.succ_mul n X
    omega
   ·have : ((n + 1 : Nat) : Int) * Y = (n : Int) * Y + Y := by rw [show ((n + 1 : Nat) : Int) = (n : Int) + 1 by omega, Int.add_mul, Int.one_mul]
    omega
  have plain : ∀ a1 s1 : Int, a ≤ a1 → a1 ≤ a + 2 → ∃ t' a' s', t'.size ≤ t.size + (n + 1 : Nat) * (xO d) ∧ a ≤ a' ∧ a' ≤ a + ((n + 1 : Nat) : Int) * (yO d) ∧ ∃ K, ∀ k, K ≤ k → spec_l1Cur_inner.j1 k ((n : Int) + 1) (d : Int) t false c a1 s1 = some (t', a', s') := by
   intro a1 s1 h2 h3
   obtain ⟨u, a2, s2, e, _, hu, h4, h5⟩ := of_ev hc a1 s1 ([(⟨#[97]⟩ : ByteArray), (⟨#[98]⟩ : ByteArray), (⟨#[97, 98]⟩ : ByteArray), (⟨#[120]⟩ : ByteArray), (⟨#[32]⟩ : ByteArray), (⟨#[111, 110, 101]⟩ : ByteArray), (⟨#[49]⟩ : ByteArray), (⟨#[122, 46]⟩ : ByteArray)] : List ByteArray) 3 O_ O_ (by simp) (by simp) (by decide)
   obtain ⟨t', a', s', g1, g2, g3, K, g4⟩ := join u a2 s2 (by cases d <;> simp [xO] <;> omega) O_ (by
    cases d with
    | zero => simp [yO]; omega
    | succ e => have := cO_le e O_; simp [yO]; omega)
   refine ⟨t', a', s', g1, g2, g3, K + 1, fun k hk => ?_⟩
   obtain ⟨k, rfl⟩ : ∃ m, k = m + 1 := ⟨k - 1, O_⟩
   simp only [spec_l1Cur_inner.j1]
   rw [iN_ (by simp), e]
   simp only [bs_]
   rw [ip_ O_, w64 O_ O_, Int.add_sub_cancel]
   exact g4 k O_
  cases d with
  | zero =>
   obtain ⟨t', a', s', g1, g2, g3, K, g4⟩ := plain a s O_ O_
   refine ⟨t', a', s', g1, g2, g3, K + 1, fun k hk => ?_⟩
   obtain ⟨k, rfl⟩ : ∃ m, k = m + 1 := ⟨k - 1, O_⟩
   simp only [spec_l1Cur_inner.l0]
   rw [ip_ O_, iN_ O_]
   exact g4 k O_
  | succ e =>
   obtain ⟨r, a1, s1, e1, h2, h3⟩ := one_ev hc a s 3 O_ O_ O_ O_
   have hb := cO_le e O_
   have hs := sO_le e O_
   cases r with
   | false =>
    obtain ⟨t', a', s', g1, g2, g3, K, g4⟩ := plain a1 s1 O_ O_
    refine ⟨t', a', s', g1, g2, g3, K + 1, fun k hk => ?_⟩
    obtain ⟨k, rfl⟩ : ∃ m, k = m + 1 := ⟨k - 1, O_⟩
    simp only [spec_l1Cur_inner.l0]
    rw [ip_ O_, ip_ O_, e1]
    exact g4 k O_
   | true =>
    obtain ⟨p1, a2, s2, e2, q1, q2, q3, q4⟩ := pick_ev hc a1 s1 4 O_ O_ O_ O_
    obtain ⟨p2, a3, s3, e3, q5, q6, q7, q8⟩ := pick_ev hc a2 s2 4 O_ O_ O_ O_
    obtain ⟨v, a4, s4, i1, i2, i3, K1, i4⟩ := IH e rfl a3 s3 p2 O_ O_ O_ O_
    have one1 : (strOfNums [wrap64 (65 + p1) % 256]).size = 1 := rfl
    have lit1 : (⟨#[47]⟩ : ByteArray).size = 1 := rfl
    obtain ⟨t', a', s', g1, g2, g3, K, g4⟩ := join (strOfNums [wrap64 (65 + p1) % 256] ++ v ++ (⟨#[47]⟩ : ByteArray)) a4 s4 (by rw [size_app, size_app, one1, lit1]; simp [xO]; omega) O_ (by simp [yO]; omega)
    refine ⟨t', a', s', g1, g2, g3, max K K1 + 2, fun k hk => ?_⟩
    obtain ⟨k, rfl⟩ : ∃ m, k = m + 2 := ⟨k - 2, O_⟩
    simp only [spec_l1Cur_inner.l0]
    rw [ip_ O_, ip_ O_, e1]
    simp only [bs_, spec_l1Cur_inner.j1, if_true]
    rw [e2]
    simp only [bs_]
    rw [e3]
    simp only [bs_]
    rw [w64 (by omega : -4611686018427387904 ≤ ((e + 1 : Nat) : Int) - 1) O_, show ((e + 1 : Nat) : Int) - 1 = (e : Int) by omega, i4 k O_]
    simp only [bs_]
    rw [ip_ O_, ip_ (by rw [size_app]; omega), ip_ (by rw [size_app, size_app]; omega), w64 O_ O_, show ((n + 1 : Nat) : Int) - 1 = (n : Int) by omega]
    exact g4 k O_
theorem inner_ev {c : List Int} (hc : okCode c) : ∀ (d : Nat), d ≤ 3 → ∀ (a s n : Int), 0 ≤ a → a ≤ 2000000000000000000 + (3 - (d : Int)) * 1000000000000 → 0 ≤ n → n ≤ 60 → ∃ t a' s', t.size ≤ sO d ∧ a ≤ a' ∧ a' ≤ a + cO d ∧ ∃ K, ∀ k, K ≤ k → spec_l1Cur_inner.f k c a s n (d : Int) = some (t, a', s') := by
 intro d
 induction d with
 | zero =>
  intro hd a s n h0 h1 h2 h3
  obtain ⟨m, rfl⟩ := Int.eq_ofNat_of_zero_le h2
  obtain ⟨t, a', s', g1, g2, g3, K, g4⟩ := inner_l hc 0 hd (fun e h => by omega) m (⟨#[]⟩ : ByteArray) a s O_ h0 O_ (by simp [ByteArray.size]; omega)
  simp only [show (⟨#[]⟩ : ByteArray).size = 0 from rfl] at g1 g3
  refine ⟨t, a', s', by simp only [sO, xO] at *; omega, g2, by simp only [cO, yO] at *; omega, K + 1, fun k hk => ?_⟩
  obtain ⟨k, rfl⟩ : ∃ m, k = m + 1 := ⟨k - 1, O_⟩
  simp only [spec_l1Cur_inner.f]
  exact g4 k O_
 | succ d ih =>
  intro hd a s n h0 h1 h2 h3
  obtain ⟨m, rfl⟩ := Int.eq_ofNat_of_zero_le h2
  have hb := cO_le d O_
  obtain ⟨t, a', s', g1, g2, g3, K, g4⟩ := inner_l hc (d + 1) hd (fun e h => by
   have : e = d := by omega
   subst this; exact ih O_) m (⟨#[]⟩ : ByteArray) a s O_ h0 O_ (by simp [ByteArray.size]; omega)
  simp only [show (⟨#[]⟩ : ByteArray).size = 0 from rfl] at g1 g3
  refine ⟨t, a', s', ?_, g2, ?_, K + 1, fun k hk => ?_⟩
  ·simp only [sO, xO] at *
   have := Nat.mul_le_mul_right (sO d + 10) (by omega : m ≤ 60)
   omega
  ·simp only [cO, yO] at *
   have := Int.mul_le_mul_of_nonneg_right (by omega : (m : Int) ≤ 60) (by omega : 0 ≤ cO d + 10)
   omega
  ·obtain ⟨k, rfl⟩ : ∃ m, k = m + 1 := ⟨k - 1, O_⟩
   simp only [spec_l1Cur_inner.f]
   exact g4 k O_
theorem spoilt_l {c : List Int} (hc : okCode c) (w : ByteArray) (hw : 0 < w.size) (hw2 : w.size ≤ 1000) : ∀ (n : Nat) (t : ByteArray) (a s : Int), n ≤ 3 → 0 ≤ a → a ≤ 2000000000000000000 + (3 - (n : Int)) * 10 → t.size + n ≤ 100000000000 →
  ∃ t' a' s', t'.size ≤ t.size + n ∧ a ≤ a' ∧ a' ≤ a + 10 * n ∧ ∃ K, ∀ k, K ≤ k → spec_l1Cur_spoilt.l0 k t w (n : Int) c a s = some (t', a', s') := by
 intro n
 induction n with
 | zero =>
  intro t a s hn h0 h1 ht
  refine ⟨t, a, s, O_, O_, O_, 2, fun k hk => ?_⟩
  obtain ⟨k, rfl⟩ : ∃ m, k = m + 2 := ⟨k - 2, O_⟩
  simp only [spec_l1Cur_spoilt.l0]
  rw [iN_ O_]
  simp only [spec_l1Cur_spoilt.j1]
  rw [iN_ (by simp)]
 | succ n ih =>
  intro t a s hn h0 h1 ht
  by_cases hz : t.size = 0
  ·refine ⟨t, a, s, O_, O_, O_, 2, fun k hk => ?_⟩
   obtain ⟨k, rfl⟩ : ∃ m, k = m + 2 := ⟨k - 2, O_⟩
   simp only [spec_l1Cur_spoilt.l0]
   rw [ip_ O_]
   simp only [spec_l1Cur_spoilt.j1]
   rw [iN_ (by rw [decide_eq_true_eq]; omega)]
  ·obtain ⟨p1, a1, s1, e1, q1, q2, q3, q4⟩ := pick_ev hc a s (t.size : Int) O_ O_ O_ O_
   obtain ⟨p2, a2, s2, e2, q5, q6, q7, q8⟩ := pick_ev hc a1 s1 (w.size : Int) O_ O_ O_ O_
   obtain ⟨p3, a3, s3, e3, q9, q10, q11, q12⟩ := pick_ev hc a2 s2 3 O_ O_ O_ O_
   have one1 : (strOfNums [bt w p2]).size = 1 := rfl
   have x1 : (t.extract 0 p1.toNat).size = p1.toNat := by rw [zE_]; omega
   have x2 : (t.extract p1.toNat t.size).size = t.size - p1.toNat := by rw [zE_]; omega
   have x3 : (t.extract (p1 + 1).toNat t.size).size = t.size - (p1 + 1).toNat := by rw [zE_]; omega
   have go : ∀ u : ByteArray, u.size ≤ t.size + 1 → ∃ t' a' s', t'.size ≤ t.size + (n + 1) ∧ a ≤ a' ∧ a' ≤ a + 10 * ((n + 1 : Nat) : Int) ∧ ∃ K, ∀ k, K ≤ k → spec_l1Cur_spoilt.l0 k u w (n : Int) c a3 s3 = some (t', a', s') := by
    intro u hu
    obtain ⟨t', a', s', g1, g2, g3, g4⟩ := ih u a3 s3 O_ O_ O_ O_
    exact ⟨t', a', s', O_, O_, O_, g4⟩
   have hn1 : ((n + 1 : Nat) : Int) - 1 = (n : Int) := by omega
   by_cases c1 : p3 = 0
   ·obtain ⟨t', a', s', g1, g2, g3, K, g4⟩ := go (t.extract 0 p1.toNat ++ strOfNums [bt w p2] ++ t.extract p1.toNat t.size) (by rw [size_app, size_app, x1, x2, one1]; omega)
    refine ⟨t', a', s', g1, g2, g3, K + 2, fun k hk => ?_⟩
    obtain ⟨k, rfl⟩ : ∃ m, k = m + 2 := ⟨k - 2, O_⟩
    simp only [spec_l1Cur_spoilt.l0]
    rw [ip_ O_]
    simp only [spec_l1Cur_spoilt.j1]
    rw [ip_ (by simp; omega), e1]
    simp only [bs_]
    rw [e2]
    simp only [bs_]
    rw [ip_ q5, ip_ q6, e3]
    simp only [bs_]
    rw [ip_ c1, ip_ q1, ip_ O_, ip_ O_, ip_ (by rw [size_app]; omega), w64 O_ O_, hn1]
    exact g4 k O_
   ·by_cases c2 : p3 = 1
    ·obtain ⟨t', a', s', g1, g2, g3, K, g4⟩ := go (t.extract 0 p1.toNat ++ strOfNums [bt w p2] ++ t.extract (p1 + 1).toNat t.size) (by rw [size_app, size_app, x1, x3, one1]; omega)
     refine ⟨t', a', s', g1, g2, g3, K + 2, fun k hk => ?_⟩
     obtain ⟨k, rfl⟩ : ∃ m, k = m + 2 := ⟨k - 2, O_⟩
     simp only [spec_l1Cur_spoilt.l0]
     rw [ip_ O_]
     simp only [spec_l1Cur_spoilt.j1]
     rw [ip_ (by simp; omega), e1]
     simp only [bs_]
     rw [e2]
     simp only [bs_]
     rw [ip_ q5, ip_ q6, e3]
     simp only [bs_]
     have hp1 : wrap64 (p1 + 1) = p1 + 1 := w64 O_ O_
     rw [iN_ c1, ip_ c2, ip_ q1, ip_ O_, ip_ O_, hp1, ip_ O_, ip_ O_, ip_ (by rw [size_app]; omega), w64 O_ O_, hn1]
     exact g4 k O_
    ·obtain ⟨t', a', s', g1, g2, g3, K, g4⟩ := go (t.extract 0 p1.toNat ++ t.extract (p1 + 1).toNat t.size) (by rw [size_app, x1, x3]; omega)
     refine ⟨t', a', s', g1, g2, g3, K + 2, fun k hk => ?_⟩
     obtain ⟨k, rfl⟩ : ∃ m, k = m + 2 := ⟨k - 2, O_⟩
     simp only [spec_l1Cur_spoilt.l0]
     rw [ip_ O_]
     simp only [spec_l1Cur_spoilt.j1]
     rw [ip_ (by simp; omega), e1]
     simp only [bs_]
     rw [e2]
     simp only [bs_]
     rw [ip_ q5, ip_ q6, e3]
     simp only [bs_]
     have hp1 : wrap64 (p1 + 1) = p1 + 1 := w64 O_ O_
     simp only [hp1]
     simp (disch := omega) only [ip_, iN_, w64, hn1]
     exact g4 k O_
theorem spoilt_ev {c : List Int} (hc : okCode c) (a s : Int) (t w : ByteArray) (hw : 0 < w.size) (hw2 : w.size ≤ 1000) (h0 : 0 ≤ a) (h1 : a ≤ 1900000000000000000) (ht : t.size ≤ 90000000000) :
  ∃ t' a' s', t'.size ≤ t.size + 3 ∧ a ≤ a' ∧ a' ≤ a + 50 ∧ ∃ K, ∀ k, K ≤ k → spec_l1Cur_spoilt.f k c a s t w = some (t', a', s') := by
 obtain ⟨p1, a1, s1, e1, q1, q2, q3, q4⟩ := pick_ev hc a s 3 O_ O_ O_ O_
 obtain ⟨m, rfl⟩ := Int.eq_ofNat_of_zero_le q1
 obtain ⟨t', a', s', g1, g2, g3, K, g4⟩ := spoilt_l hc w hw hw2 m t a1 s1 O_ O_ O_ O_
 refine ⟨t', a', s', O_, O_, O_, K, fun k hk => ?_⟩
 unfold spec_l1Cur_spoilt.f
 rw [e1]
 exact g4 k hk
theorem doc0_ev {c : List Int} (hc : okCode c) (a s : Int) (t : ByteArray) (h0 : 0 ≤ a) (h1 : a ≤ 1800000000000000000) (ht : t.size ≤ 1000000000) :
  ∃ t' a' s', t'.size ≤ 1000000010 ∧ a ≤ a' ∧ a' ≤ a + 100 ∧ ∃ K, ∀ k, K ≤ k → spec_l1Cur_doc.j0 k t c a s = some (t', a', s') := by
 obtain ⟨r, a1, s1, e1, h2, h3⟩ := one_ev hc a s 12 O_ O_ O_ O_
 cases r with
 | false =>
  refine ⟨t, a1, s1, O_, O_, O_, 1, fun k hk => ?_⟩
  obtain ⟨k, rfl⟩ : ∃ m, k = m + 1 := ⟨k - 1, O_⟩
  simp only [spec_l1Cur_doc.j0]
  rw [e1]; simp
 | true =>
  obtain ⟨t', a', s', g1, g2, g3, K, g4⟩ := spoilt_ev hc a1 s1 t (⟨#[65, 47, 97, 90]⟩ : ByteArray) (by decide) (by decide) O_ O_ O_
  refine ⟨t', a', s', O_, O_, O_, K + 1, fun k hk => ?_⟩
  obtain ⟨k, rfl⟩ : ∃ m, k = m + 1 := ⟨k - 1, O_⟩
  simp only [spec_l1Cur_doc.j0]
  rw [e1]
  simp only [bs_, if_true]
  rw [g4 k O_]; rfl
theorem doc_ev {c : List Int} (hc : okCode c) (a s : Int) (h0 : 0 ≤ a) (h1 : a ≤ 1700000000000000000) :
  ∃ t' a' s', t'.size ≤ 1000000010 ∧ a ≤ a' ∧ a' ≤ a + 2000000200 ∧ ∃ K, ∀ k, K ≤ k → spec_l1Cur_doc.f k c a s = some (t', a', s') := by
 have hb := cO_le 3 O_
 have hs := sO_le 3 O_
 obtain ⟨p1, a1, s1, e1, q1, q2, q3, q4⟩ := pick_ev hc a s 7 O_ O_ O_ O_
 obtain ⟨t2, a2, s2, i1, i2, i3, K1, i4⟩ := inner_ev hc 3 O_ a1 s1 p1 O_ O_ O_ O_
 obtain ⟨p3, a3, s3, e3, r1, r2, r3, r4⟩ := pick_ev hc a2 s2 30 O_ O_ O_ O_
 by_cases c1 : p3 = 0
 ·obtain ⟨t4, a4, s4, j1, j2, j3, K2, j4⟩ := inner_ev hc 3 O_ a3 s3 60 O_ O_ O_ O_
  obtain ⟨t', a', s', g1, g2, g3, K, g4⟩ := doc0_ev hc a4 s4 t4 O_ O_ O_
  refine ⟨t', a', s', g1, O_, O_, max (max K K1) K2, fun k hk => ?_⟩
  unfold spec_l1Cur_doc.f
  have e5 := i4 k O_
  have e6 := j4 k O_
  have e7 := g4 k O_
  simp only [Int.cast_ofNat_Int] at e5 e6
  rw [e1]; simp only [bs_]
  rw [e5]; simp only [bs_]
  rw [e3]; simp only [bs_]
  rw [ip_ c1, e6]; simp only [bs_]
  exact e7
 ·by_cases c2 : p3 = 1
  ·obtain ⟨u, a4, s4, e4, _, hu, h4, h5⟩ := of_ev hc a3 s3 ([(⟨#[65, 65, 65, 65, 65, 65, 65, 65, 65, 65, 65, 65, 47, 47, 47, 47, 47, 47, 47, 47, 47, 47, 47, 47]⟩ : ByteArray), (⟨#[65, 65, 65, 65, 65, 65, 65, 65, 65, 65, 65, 65, 65, 47, 47, 47, 47, 47, 47, 47, 47, 47, 47, 47, 47, 47]⟩ : ByteArray)] : List ByteArray) 30 O_ O_ (by simp) (by simp) (by decide)
   obtain ⟨t', a', s', g1, g2, g3, K, g4⟩ := doc0_ev hc a4 s4 u O_ O_ O_
   refine ⟨t', a', s', g1, O_, O_, max K K1, fun k hk => ?_⟩
   unfold spec_l1Cur_doc.f
   have e5 := i4 k O_
   have e7 := g4 k O_
   simp only [Int.cast_ofNat_Int] at e5
   rw [e1]; simp only [bs_]
   rw [e5]; simp only [bs_]
   rw [e3]; simp only [bs_]
   rw [iN_ c1, ip_ c2, e4]; simp only [bs_]
   exact e7
  ·obtain ⟨t', a', s', g1, g2, g3, K, g4⟩ := doc0_ev hc a3 s3 t2 O_ O_ O_
   refine ⟨t', a', s', g1, O_, O_, max K K1, fun k hk => ?_⟩
   unfold spec_l1Cur_doc.f
   have e5 := i4 k O_
   have e7 := g4 k O_
   simp only [Int.cast_ofNat_Int] at e5
   rw [e1]; simp only [bs_]
   rw [e5]; simp only [bs_]
   rw [e3]; simp only [bs_]
   rw [iN_ c1, iN_ c2]
   exact e7
theorem cmd5_ev {c : List Int} (hc : okCode c) (a st kd at_ tz : Int) (w : ByteArray) (h0 : 0 ≤ a) (h1 : a ≤ 2000000000000000000) (hw : w.size ≤ 3) : ∃ r, r.2.2.2.1.size ≤ 3 ∧ ∀ k, 1 ≤ k → spec_l1Cur_command.j5 k c a st kd at_ tz w = some r := by
 obtain ⟨b, a1, s1, e1, g1, g2⟩ := one_ev hc a st 40 h0 O_ O_ O_
 cases b with
 | false =>
  refine ⟨(kd, at_, tz, w, a1, s1), hw, fun k hk => ?_⟩
  obtain ⟨k, rfl⟩ : ∃ m, k = m + 1 := ⟨k - 1, O_⟩
  simp only [spec_l1Cur_command.j5]
  rw [e1, bs_, iN_ (by simp)]
 | true =>
  obtain ⟨r2, a2, s2, e2, -, -, g3, g4⟩ := pick_ev hc a1 s1 11 O_ O_ O_ O_
  obtain ⟨r3, a3, s3, e3, -, -, g5, g6⟩ := pick_ev hc a2 s2 9 O_ O_ O_ O_
  obtain ⟨r4, a4, s4, e4, -, -, g7, g8⟩ := pick_ev hc a3 s3 9 O_ O_ O_ O_
  obtain ⟨r5, a5, s5, e5, -, g9, -⟩ := of_ev hc a4 s4 ([(⟨#[]⟩ : ByteArray), (⟨#[90]⟩ : ByteArray), (⟨#[65]⟩ : ByteArray)]) 3 O_ O_ (by decide) (by decide) (by intro x hx; simp at hx; rcases hx with rfl | rfl | rfl <;> decide)
  refine ⟨(wrap64 (r2 - 1), wrap64 (r3 - 1), wrap64 (r4 - 1), r5, a5, s5), g9, fun k hk => ?_⟩
  obtain ⟨k, rfl⟩ : ∃ m, k = m + 1 := ⟨k - 1, O_⟩
  simp only [spec_l1Cur_command.j5]
  rw [e1, bs_, ip_ rfl, e2, bs_, e3, bs_, e4, bs_, e5, bs_]
theorem cmd4_ev {c : List Int} (hc : okCode c) (a st kd at_ tz : Int) (w s : ByteArray) (hs : s.size ≤ 10000000000) (l : List Int) (b : Bool) (hl : l.length ≤ 10000000000) (hb : b = true → 0 < l.length) (h0 : 0 ≤ a) (h1 : a ≤ 1900000000000000000) (hw : w.size ≤ 3) : ∃ r, r.2.2.2.1.size ≤ 3 ∧ ∀ k, 2 ≤ k → spec_l1Cur_command.j4 k s l b c a st kd at_ tz w = some r := by
 have e0 : wrap64 ((s.size : Int) + 1) = (s.size : Int) + 1 := w64 O_ O_
 cases b with
 | false =>
  obtain ⟨r1, a1, s1, e1, -, -, g1, g2⟩ := pick_ev hc a st ((s.size : Int) + 1) h0 O_ O_ O_
  obtain ⟨r, g3, h⟩ := cmd5_ev hc a1 s1 kd at_ r1 w O_ O_ hw
  refine ⟨r, g3, fun k hk => ?_⟩
  obtain ⟨k, rfl⟩ : ∃ m, k = m + 1 := ⟨k - 1, O_⟩
  simp only [spec_l1Cur_command.j4]
  rw [iN_ (by simp), e0, e1, bs_, h k O_]
 | true =>
  have hl' := hb rfl
  obtain ⟨r1, a1, s1, e1, q1, q2, g1, g2⟩ := pick_ev hc a st (l.length : Int) h0 O_ O_ O_
  obtain ⟨r2, a2, s2, e2, -, -, g3, g4⟩ := pick_ev hc a1 s1 ((s.size : Int) + 1) O_ O_ O_ O_
  obtain ⟨r, g5, h⟩ := cmd5_ev hc a2 s2 kd (rd l r1) r2 w O_ O_ hw
  refine ⟨r, g5, fun k hk => ?_⟩
  obtain ⟨k, rfl⟩ : ∃ m, k = m + 1 := ⟨k - 1, O_⟩
  simp only [spec_l1Cur_command.j4]
  rw [ip_ trivial, e1, bs_, ip_ q1, ip_ q2, e0, e2, bs_, h k O_]
theorem cmd0_l {c : List Int} (hc : okCode c) (a st kd at_ tz : Int) (w s : ByteArray) (hs : s.size ≤ 10000000000) (h0 : 0 ≤ a) (h1 : a ≤ 1850000000000000000) (hw : w.size ≤ 3) : ∀ (d i : Nat) (x : List Int), i + d = s.size → x.length ≤ i → ∃ r, r.2.2.2.1.size ≤ 3 ∧ ∀ k, d + 4 ≤ k → spec_l1Cur_command.l0 k s x (i : Int) c a st kd at_ tz w = some r := by
 intro d
 induction d with
 | zero =>
  intro i x hi hx
  by_cases hl : 0 < x.length
  ·obtain ⟨b, a1, s1, e1, g1, g2⟩ := one_ev hc a st 8 h0 O_ O_ O_
   obtain ⟨r, g3, h⟩ := cmd4_ev hc a1 s1 kd at_ tz w s hs x (!b) O_ (fun _ => hl) O_ O_ hw
   refine ⟨r, g3, fun k hk => ?_⟩
   obtain ⟨k, rfl⟩ : ∃ m, k = m + 1 := ⟨k - 1, O_⟩
   simp only [spec_l1Cur_command.l0]
   rw [iN_ O_, ip_ O_, e1, bs_, h k O_]
  ·obtain ⟨r, g3, h⟩ := cmd4_ev hc a st kd at_ tz w s hs x false O_ (fun h => by cases h) h0 O_ hw
   refine ⟨r, g3, fun k hk => ?_⟩
   obtain ⟨k, rfl⟩ : ∃ m, k = m + 1 := ⟨k - 1, O_⟩
   simp only [spec_l1Cur_command.l0]
   rw [iN_ O_, iN_ O_, h k O_]
 | succ d ih =>
  intro i x hi hx
  have e2 : Aside0 (wrap64 ((i : Int) + 1) = ((i + 1 : Nat) : Int)) := ⟨by rw [w64 O_ O_]; omega⟩
  obtain ⟨r1, g1, k1⟩ := ih (i + 1) x O_ O_
  obtain ⟨r2, g2, k2⟩ := ih (i + 1) (x ++ [(i : Int)]) O_ (by rw [lA_, lS_]; omega)
  have hlt : (i : Int) < (s.size : Int) := by omega
  have hnn : 0 ≤ (i : Int) := by omega
  have hxl : x.length < 17592186044416 := by omega
  cases ho : nmB (bt s (i : Int)) with
  | false =>
   refine ⟨r1, g1, fun k hk => ?_⟩
   obtain ⟨k, rfl⟩ : ∃ m, k = m + 1 := ⟨k - 1, O_⟩
   simp only [spec_l1Cur_command.l0]
   rw [ip_ hlt, ip_ hnn, spec_l1Open_eq, ho, bs_, iN_ (by simp), e2.out, k1 k O_]
  | true =>
   by_cases h6 : kd = 6
   ·by_cases hp : (i : Int) > 0
    ·have e3 : Aside0 (wrap64 ((i : Int) - 1) = (i : Int) - 1) := ⟨w64 O_ O_⟩
     have hq0 : 0 ≤ (i : Int) - 1 := by omega
     have hq1 : (i : Int) - 1 < (s.size : Int) := by omega
     by_cases h47 : bt s ((i : Int) - 1) = 47
     ·refine ⟨r2, g2, fun k hk => ?_⟩
      obtain ⟨k, rfl⟩ : ∃ m, k = m + 1 := ⟨k - 1, O_⟩
      simp only [spec_l1Cur_command.l0]
      rw [ip_ hlt, ip_ hnn, spec_l1Open_eq, ho, bs_, ip_ rfl, ip_ h6, ip_ hp, e3.out, ip_ hq0, ip_ hq1, ip_ h47, ip_ hxl, e2.out, k2 k O_]
     ·refine ⟨r1, g1, fun k hk => ?_⟩
      obtain ⟨k, rfl⟩ : ∃ m, k = m + 1 := ⟨k - 1, O_⟩
      simp only [spec_l1Cur_command.l0]
      rw [ip_ hlt, ip_ hnn, spec_l1Open_eq, ho, bs_, ip_ rfl, ip_ h6, ip_ hp, e3.out, ip_ hq0, ip_ hq1, iN_ h47, e2.out, k1 k O_]
    ·refine ⟨r1, g1, fun k hk => ?_⟩
     obtain ⟨k, rfl⟩ : ∃ m, k = m + 1 := ⟨k - 1, O_⟩
     simp only [spec_l1Cur_command.l0]
     rw [ip_ hlt, ip_ hnn, spec_l1Open_eq, ho, bs_, ip_ rfl, ip_ h6, iN_ hp, e2.out, k1 k O_]
   ·refine ⟨r2, g2, fun k hk => ?_⟩
    obtain ⟨k, rfl⟩ : ∃ m, k = m + 1 := ⟨k - 1, O_⟩
    simp only [spec_l1Cur_command.l0]
    rw [ip_ hlt, ip_ hnn, spec_l1Open_eq, ho, bs_, ip_ rfl, iN_ h6, ip_ hxl, e2.out, k2 k O_]
theorem cmd1_ev {c : List Int} (hc : okCode c) (a st kd at_ tz : Int) (w s : ByteArray) (hs : s.size ≤ 10000000000) (b : Bool) (hb : b = true → ∃ r K, ∀ k, K ≤ k → spec_l1Match.f k s at_ = some r) (h0 : 0 ≤ a) (h1 : a ≤ 1850000000000000000) (hw : w.size ≤ 3) : ∃ r K, r.2.2.2.1.size ≤ 3 ∧ ∀ k, K ≤ k → spec_l1Cur_command.j1 k s b c a st kd at_ tz w = some r := by
 cases b with
 | false =>
  obtain ⟨r1, a1, s1, e1, -, -, g1, g2⟩ := pick_ev hc a st 4 h0 O_ O_ O_
  obtain ⟨r, g3, h⟩ := cmd5_ev hc a1 s1 kd at_ (wrap64 (at_ + r1)) w O_ O_ hw
  refine ⟨r, 2, g3, fun k hk => ?_⟩
  obtain ⟨k, rfl⟩ : ∃ m, k = m + 1 := ⟨k - 1, O_⟩
  simp only [spec_l1Cur_command.j1]
  rw [iN_ (by simp), e1, bs_, h k O_]
 | true =>
  obtain ⟨r1, K, hK⟩ := hb rfl
  obtain ⟨r, g3, h⟩ := cmd5_ev hc a st kd at_ (wrap64 (r1 + 1)) w h0 O_ hw
  refine ⟨r, K + 2, g3, fun k hk => ?_⟩
  obtain ⟨k, rfl⟩ : ∃ m, k = m + 1 := ⟨k - 1, O_⟩
  simp only [spec_l1Cur_command.j1]
  rw [ip_ trivial, hK k O_, bs_, h k O_]
theorem cmd2_ev {c : List Int} (hc : okCode c) (a st kd at_ tz : Int) (w s : ByteArray) (hs : s.size ≤ 10000000000) (b : Bool) (h0 : 0 ≤ a) (h1 : a ≤ 1850000000000000000) (hw : w.size ≤ 3) : ∃ r K, r.2.2.2.1.size ≤ 3 ∧ ∀ k, K ≤ k → spec_l1Cur_command.j2 k s b c a st kd at_ tz w = some r := by
 cases b with
 | false =>
  obtain ⟨r, g3, h⟩ := cmd5_ev hc a st kd at_ tz w h0 O_ hw
  refine ⟨r, 2, g3, fun k hk => ?_⟩
  obtain ⟨k, rfl⟩ : ∃ m, k = m + 1 := ⟨k - 1, O_⟩
  simp only [spec_l1Cur_command.j2]
  rw [iN_ (by simp), h k O_]
 | true =>
  obtain ⟨r, g3, h⟩ := cmd0_l hc a st kd at_ tz w s hs h0 h1 hw s.size 0 [] O_ (Nat.le_refl _)
  refine ⟨r, s.size + 5, g3, fun k hk => ?_⟩
  obtain ⟨k, rfl⟩ : ∃ m, k = m + 1 := ⟨k - 1, O_⟩
  simp only [spec_l1Cur_command.j2]
  rw [ip_ trivial]
  exact h k O_
theorem cmdJ0_ev {c : List Int} (hc : okCode c) (a st kd tz q : Int) (at_ : Nat) (w s : ByteArray) (hs : s.size ≤ 10000000000) (b : Bool) (h0 : 0 ≤ a) (h1 : a ≤ 1840000000000000000) (hw : w.size ≤ 3) : ∃ r K, r.2.2.2.1.size ≤ 3 ∧ ∀ k, K ≤ k → spec_l1Cur_command.j0 k s q b c a st kd (at_ : Int) tz w = some r := by
 cases b with
 | true =>
  obtain ⟨rf, Kf, gf, hf⟩ := cmd1_ev hc a st kd (at_ : Int) tz w s hs false (fun h => by cases h) h0 O_ hw
  by_cases hlt : (at_ : Int) < (s.size : Int)
  ·cases ho : nmB (bt s (at_ : Int)) with
   | false =>
    refine ⟨rf, Kf + 1, gf, fun k hk => ?_⟩
    obtain ⟨k, rfl⟩ : ∃ m, k = m + 1 := ⟨k - 1, O_⟩
    simp only [spec_l1Cur_command.j0]
    rw [ip_ trivial, ip_ hlt, ip_ O_, spec_l1Open_eq, ho, bs_, iN_ (by simp), hf k O_]
   | true =>
    obtain ⟨K1, hK1⟩ := spec_GoodDoc_ev s O_
    cases hd : docB s with
    | false =>
     refine ⟨rf, Kf + K1 + 1, gf, fun k hk => ?_⟩
     obtain ⟨k, rfl⟩ : ∃ m, k = m + 1 := ⟨k - 1, O_⟩
     simp only [spec_l1Cur_command.j0]
     rw [ip_ trivial, ip_ hlt, ip_ O_, spec_l1Open_eq, ho, bs_, ip_ rfl, hK1 k O_, hd, bs_, iN_ (by simp), hf k O_]
    | true =>
     obtain ⟨ht, hbal⟩ := (docB_iff s).1 hd
     obtain ⟨b, hm⟩ := mate_ex hbal ho O_
     obtain ⟨K2, hK2⟩ := spec_l1Match_open O_ hm hbal
     obtain ⟨v, a1, s1, e1, g1, g2⟩ := one_ev hc a st 2 h0 O_ O_ O_
     obtain ⟨r, K3, g3, h3⟩ := cmd1_ev hc a1 s1 kd (at_ : Int) tz w s hs v (fun _ => ⟨_, K2, hK2⟩) O_ O_ hw
     refine ⟨r, K1 + K3 + 1, g3, fun k hk => ?_⟩
     obtain ⟨k, rfl⟩ : ∃ m, k = m + 1 := ⟨k - 1, O_⟩
     simp only [spec_l1Cur_command.j0]
     rw [ip_ trivial, ip_ hlt, ip_ O_, spec_l1Open_eq, ho, bs_, ip_ rfl, hK1 k O_, hd, bs_, ip_ rfl, e1, bs_, h3 k O_]
  ·refine ⟨rf, Kf + 1, gf, fun k hk => ?_⟩
   obtain ⟨k, rfl⟩ : ∃ m, k = m + 1 := ⟨k - 1, O_⟩
   simp only [spec_l1Cur_command.j0]
   rw [ip_ trivial, iN_ hlt, hf k O_]
 | false =>
  obtain ⟨r1, K1, g1, k1⟩ := cmd2_ev hc a st kd (at_ : Int) tz w s hs (q == 4) h0 O_ hw
  obtain ⟨r2, K2, g2, k2⟩ := cmd2_ev hc a st kd (at_ : Int) tz w s hs (q == 8) h0 O_ hw
  obtain ⟨r3, K3, g3, k3⟩ := cmd2_ev hc a st kd (at_ : Int) tz w s hs (q == 7) h0 O_ hw
  obtain ⟨r4, K4, g4, k4⟩ := cmd2_ev hc a st kd (at_ : Int) tz w s hs (q == 6) h0 O_ hw
  by_cases q4 : q = 4
  ·refine ⟨r1, K1 + 1, g1, fun k hk => ?_⟩
   obtain ⟨k, rfl⟩ : ∃ m, k = m + 1 := ⟨k - 1, O_⟩
   simp only [spec_l1Cur_command.j0]
   rw [iN_ (by simp), ip_ q4, k1 k O_]
  ·by_cases q8 : q = 8
   ·refine ⟨r2, K2 + 1, g2, fun k hk => ?_⟩
    obtain ⟨k, rfl⟩ : ∃ m, k = m + 1 := ⟨k - 1, O_⟩
    simp only [spec_l1Cur_command.j0]
    rw [iN_ (by simp), iN_ q4, ip_ q8, k2 k O_]
   ·by_cases q7 : q = 7
    ·refine ⟨r3, K3 + 1, g3, fun k hk => ?_⟩
     obtain ⟨k, rfl⟩ : ∃ m, k = m + 1 := ⟨k - 1, O_⟩
     simp only [spec_l1Cur_command.j0]
     rw [iN_ (by simp), iN_ q4, iN_ q8, ip_ q7, k3 k O_]
    ·refine ⟨r4, K4 + 1, g4, fun k hk => ?_⟩
     obtain ⟨k, rfl⟩ : ∃ m, k = m + 1 := ⟨k - 1, O_⟩
     simp only [spec_l1Cur_command.j0]
     rw [iN_ (by simp), iN_ q4, iN_ q8, iN_ q7, k4 k O_]
theorem command_ev {c : List Int} (hc : okCode c) (a st : Int) (s : ByteArray) (hs : s.size ≤ 10000000000) (h0 : 0 ≤ a) (h1 : a ≤ 1800000000000000000) : ∃ r K, r.2.2.2.1.size ≤ 3 ∧ ∀ k, K ≤ k → spec_l1Cur_command.f k c a st s = some r := by
 have e0 : wrap64 ((s.size : Int) + 1) = (s.size : Int) + 1 := w64 O_ O_
 obtain ⟨r1, a1, s1, e1, -, -, g1, g2⟩ := pick_ev hc a st 8 h0 O_ O_ O_
 obtain ⟨r2, a2, s2, e2, q1, q2, g3, g4⟩ := pick_ev hc a1 s1 ((s.size : Int) + 1) O_ O_ O_ O_
 obtain ⟨w, a3, s3, e3, -, g5, g6, g7⟩ := of_ev hc a2 s2 ([(⟨#[65]⟩ : ByteArray), (⟨#[66]⟩ : ByteArray), (⟨#[120]⟩ : ByteArray), (⟨#[67]⟩ : ByteArray), (⟨#[65, 121, 47]⟩ : ByteArray)]) 3 O_ O_ (by decide) (by decide) (by intro x hx; simp at hx; rcases hx with rfl | rfl | rfl | rfl | rfl <;> decide)
 have e4 : r2 = ((r2.toNat : Nat) : Int) := by omega
 by_cases h2 : wrap64 (1 + r1) = 2
 ·obtain ⟨r, K, g8, h⟩ := cmdJ0_ev hc a3 s3 (wrap64 (1 + r1)) r2 (wrap64 (1 + r1)) r2.toNat w s hs (wrap64 (1 + r1) == 2) O_ O_ g5
  rw [← e4] at h
  refine ⟨r, K, g8, fun k hk => ?_⟩
  unfold spec_l1Cur_command.f
  rw [e1, bs_, e0, e2, bs_, e3, bs_, ip_ h2, h k hk]
 ·obtain ⟨r, K, g8, h⟩ := cmdJ0_ev hc a3 s3 (wrap64 (1 + r1)) r2 (wrap64 (1 + r1)) r2.toNat w s hs (wrap64 (1 + r1) == 3) O_ O_ g5
  rw [← e4] at h
  refine ⟨r, K, g8, fun k hk => ?_⟩
  unfold spec_l1Cur_command.f
  rw [e1, bs_, e0, e2, bs_, e3, bs_, iN_ h2, h k hk]
theorem ext_same {s t : ByteArray} {i j n : Nat} (hi : i + n ≤ s.size) (hj : j + n ≤ t.size) (h : ∀ x, x < n → bt s ((i + x : Nat) : Int) = bt t ((j + x : Nat) : Int)) : (s.extract i (i + n)).toList = (t.extract j (j + n)).toList := by
 refine (toList_eq_iff _ _).2 ⟨by rw [zE_, zE_]; omega, fun x hx => ?_⟩
 rw [zE_] at hx
 rw [bt_extract s i (i + n) x hi O_, bt_extract t j (j + n) x hj O_]
 exact h x O_
theorem NormalOp_ev (p : List Pt) (hm : mass p ≤ 2000) (hg : ∃ K, ∀ k, K ≤ k → impl_GoodOp.f k (encF p) = some true) : ∃ K, ∀ k, K ≤ k → impl_NormalOp.f k (encF p) = some (encF p, true) := by
 obtain ⟨K, hK⟩ := hg
 obtain ⟨f1, f2⟩ := fold_inv p [] (fun x hx => by cases hx)
 have f3 : mass (p.foldl addQ []) = mass p := by rw [f2]; show 0 + _ = _; omega
 have hn := normal_ev (p.foldl addQ []).reverse (by rw [mass_rev]; omega)
 rw [nfP_self _ (nfP_fold p [] trivial)] at hn
 refine ⟨K, fun k hk => ?_⟩
 unfold impl_NormalOp.f
 rw [hK k hk, bs_, ip_ rfl]
 show (impl_normal.f ((p.foldl addQ []).reverse.map encP)).bind _ = _
 rw [hn]; rfl
theorem ApplyOp_ev {s : ByteArray} (ts : textB s = true) (p : List Pt) (hm : mass p ≤ 2000) (t : ByteArray) (hr : runP s p (⟨#[]⟩, 0) = some (t, s.size)) (hg : ∃ K, ∀ k, K ≤ k → impl_GoodOp.f k (encF p) = some true) : ∃ K, ∀ k, K ≤ k → impl_ApplyOp.f k (encF p) s = some (t, true) := by
 obtain ⟨f1, f2⟩ := fold_inv p [] (fun x hx => by cases hx)
 have f3 : mass (p.foldl addQ []) = mass p := by rw [f2]; show 0 + _ = _; omega
 have ht := run_size hr
 have ht2 : t.size ≤ 0 + mass p := ht
 exact applied s ts (p.foldl addQ []) f1 O_ t (runP_fold p [] (⟨#[]⟩, 0) (⟨#[]⟩, 0) (t, s.size) (Nat.zero_le _) rfl hr) O_ hg
theorem cmd_three (s : ByteArray) (hs : s.size ≤ 140737488351232) (kd at_ tz : Int) (w : ByteArray) (hw : w.size ≤ 1048576) : ∃ (t : ByteArray) (one : Bool) (L : List S61) (ok : Bool), L.length ≤ 2000 ∧
  (∃ K, ∀ k, K ≤ k → impl_CompileCommand.f k s kd at_ tz w = some (L, ok) ∧ spec_CompileCommand.f k s kd at_ tz w = some (L, ok) ∧ impl_DoCommand.f k s kd at_ tz w = some (t, one) ∧ spec_DoCommand.f k s kd at_ tz w = some (t, one)) ∧
  (one = false → t = ⟨#[]⟩ ∧ ok = false) ∧ (one = true → docB s = true ∧ docB t = true) ∧
  (ok = true → ∃ K, ∀ k, K ≤ k → impl_ApplyOp.f k L s = some (t, true) ∧ impl_NormalOp.f k L = some (L, true)) := by
 obtain ⟨K0, h0⟩ := spec_GoodDoc_ev s hs
 cases hd : docB s with
 | false =>
  obtain ⟨K, hK⟩ := do_stop hs kd at_ tz w (.inl hd)
  refine ⟨⟨#[]⟩, false, [], false, Nat.zero_le _, ⟨K0 + K, fun k hk => ⟨?_, ?_, ?_, ?_⟩⟩, fun _ => ⟨rfl, rfl⟩, fun h => (by cases h), fun h => (by cases h)⟩
  ·unfold impl_CompileCommand.f
   rw [hK k O_]; rfl
  ·unfold spec_CompileCommand.f
   rw [h0 k O_, hd, bs_, iN_ (by simp)]
  ·unfold impl_DoCommand.f
   rw [hK k O_]; rfl
  ·unfold spec_DoCommand.f
   rw [h0 k O_, hd, bs_, iN_ (by simp)]
 | true =>
  obtain ⟨o, ⟨K1, h1⟩, ⟨Y, T, K2, h2⟩, ho⟩ := do_all hd kd at_ tz w hw
  cases o with
  | none =>
   refine ⟨⟨#[]⟩, false, [], false, Nat.zero_le _, ⟨K0 + K1 + K2, fun k hk => ⟨?_, ?_, ?_, ?_⟩⟩, fun _ => ⟨rfl, rfl⟩, fun h => (by cases h), fun h => (by cases h)⟩
   ·unfold impl_CompileCommand.f
    rw [h1 k O_]; rfl
   ·unfold spec_CompileCommand.f
    rw [h0 k O_, hd, bs_, ip_ rfl, h2 k O_]; rfl
   ·unfold impl_DoCommand.f
    rw [h1 k O_]; rfl
   ·unfold spec_DoCommand.f
    rw [h0 k O_, hd, bs_, ip_ rfl, h2 k O_]; rfl
  | some p =>
   obtain ⟨hrun, hmass, -⟩ := (ho p rfl).1.2.2 p rfl
   obtain ⟨hsm, hlen⟩ := encF_small hmass
   cases hp : docB p.2 with
   | false =>
    refine ⟨⟨#[]⟩, false, [], false, Nat.zero_le _, ⟨K0 + K1 + K2, fun k hk => ⟨?_, ?_, ?_, ?_⟩⟩, fun _ => ⟨rfl, rfl⟩, fun h => (by cases h), fun h => (by cases h)⟩
    ·unfold impl_CompileCommand.f
     rw [h1 k O_, bs_]
     simp [doI, hp]
    ·unfold spec_CompileCommand.f
     rw [h0 k O_, hd, bs_, ip_ rfl, h2 k O_, bs_]
     simp [doS, hp]
    ·unfold impl_DoCommand.f
     rw [h1 k O_, bs_]
     simp [doI, hp]
    ·unfold spec_DoCommand.f
     rw [h0 k O_, hd, bs_, ip_ rfl, h2 k O_, bs_]
     simp [doS, hp]
   | true =>
    obtain ⟨r, K4, h4⟩ := spec_sizes_ev (encF p.1) hsm.1
    obtain ⟨K5, h5⟩ := spec_GoodOp_ev (encF p.1) hsm r K4 h4
    obtain ⟨K6, h6⟩ := impl_GoodOp_ev (encF p.1) hsm r K4 h4
    generalize goodB (encF p.1) r = g at h5 h6
    have e : doI (some p) = (p.2, encF p.1, true) := by simp [doI, hp]
    have e' : doS Y T (some p) = (encF p.1, p.2, true) := by simp [doS, hp]
    refine ⟨p.2, true, if g then encF p.1 else [], g, by cases g <;> simp only [if_true, Bool.false_eq_true, if_false] <;> first | exact hlen | exact Nat.zero_le _, ⟨K0 + K1 + K2 + K5 + K6, fun k hk => ⟨?_, ?_, ?_, ?_⟩⟩, fun h => (by cases h), fun _ => ⟨rfl, hp⟩, fun hg => ?_⟩
    ·unfold impl_CompileCommand.f
     rw [h1 k O_, bs_, e]
     dsimp only
     rw [ip_ rfl]
     unfold impl_goodOp.f
     rw [h6 k O_]
     cases g <;> rfl
    ·unfold spec_CompileCommand.f
     rw [h0 k O_, hd, bs_, ip_ rfl, h2 k O_, bs_, e']
     dsimp only
     rw [ip_ rfl, h5 k O_, bs_]
     cases g <;> rfl
    ·unfold impl_DoCommand.f
     rw [h1 k O_, bs_, e]
    ·unfold spec_DoCommand.f
     rw [h0 k O_, hd, bs_, ip_ rfl, h2 k O_, bs_, e']
     rfl
    ·subst hg
     have hgo : ∃ K, ∀ k, K ≤ k → impl_GoodOp.f k (encF p.1) = some true := ⟨K6, h6⟩
     obtain ⟨K7, h7⟩ := ApplyOp_ev ((docB_iff s).1 hd).1 p.1 hmass p.2 hrun hgo
     obtain ⟨K8, h8⟩ := NormalOp_ev p.1 hmass hgo
     exact ⟨K7 + K8, fun k hk => ⟨h7 k O_, h8 k O_⟩⟩
theorem ReachOf_three (s : ByteArray) (hs : s.size ≤ 140737488351232) (kd at_ tz : Int) (w : ByteArray) (t : ByteArray) (one : Bool) (K0 : Nat) (h0 : ∀ k, K0 ≤ k → impl_DoCommand.f k s kd at_ tz w = some (t, one)) (h1 : one = true → docB s = true ∧ docB t = true) :
  ∃ a b : Nat, (∃ K, ∀ k, K ≤ k → impl_ReachOf.f k s kd at_ tz w = some ((a : Int), (b : Int), one)) ∧ (one = true → a + b ≤ s.size ∧ a + b ≤ t.size ∧ (s.extract 0 a).toList = (t.extract 0 a).toList ∧ (s.extract (s.size - b) s.size).toList = (t.extract (t.size - b) t.size).toList) := by
 cases one with
 | false =>
  refine ⟨0, 0, ⟨K0, fun k hk => ?_⟩, fun h => (by cases h)⟩
  unfold impl_ReachOf.f
  rw [h0 k hk]; rfl
 | true =>
  obtain ⟨d1, d2⟩ := h1 rfl
  have z1 := textB_size ((docB_iff s).1 d1).1
  have z2 := textB_size ((docB_iff t).1 d2).1
  obtain ⟨a, b, b1, b2, ⟨K1, e1⟩, q1, q2⟩ := reach_ev s t z1 z2
  refine ⟨a, b, ⟨K0 + K1, fun k hk => ?_⟩, fun _ => ⟨b1, b2, ?_, ?_⟩⟩
  ·unfold impl_ReachOf.f
   rw [h0 k O_, bs_, ip_ rfl, e1 k O_]
  ·have := ext_same (s := s) (t := t) (i := 0) (j := 0) (n := a) O_ O_ (fun x hx => by rw [Nat.zero_add]; exact q1 x hx)
   rw [Nat.zero_add] at this
   exact this
  ·have := ext_same (s := s) (t := t) (i := s.size - b) (j := t.size - b) (n := b) O_ O_ (fun x hx => by
    have := q2 (b - 1 - x) O_
    rw [show s.size - 1 - (b - 1 - x) = s.size - b + x by omega, show t.size - 1 - (b - 1 - x) = t.size - b + x by omega] at this
    exact this)
   rw [show s.size - b + b = s.size by omega, show t.size - b + b = t.size by omega] at this
   exact this
theorem FnCommands : laws_FnCommands.Pure := by
 intro l hl hm hw
 by_cases hbig : (l.length : Int) > 1048576
 ·exact ⟨0, by unfold laws_FnCommands.f; rw [ip_ hbig]⟩
 have hc := okCode_of hw
 obtain ⟨s, a1, s1, d1, d2, d3, K1, e1⟩ := doc_ev hc 0 0 O_ O_
 obtain ⟨⟨kd, at_, tz, w, a2, s2⟩, K2, d4, e2⟩ := command_ev hc a1 s1 s O_ O_ O_
 have d4' : w.size ≤ 3 := d4
 obtain ⟨t, one, L, ok, hL, ⟨K3, e3⟩, f1, f2, f3⟩ := cmd_three s O_ kd at_ tz w O_
 obtain ⟨a, b, ⟨K4, e4⟩, g1⟩ := ReachOf_three s O_ kd at_ tz w t one K3 (fun k hk => (e3 k hk).2.2.1) f2
 obtain ⟨K5, e5⟩ := sameOps_ev L O_
 obtain ⟨K6, e6⟩ := impl_GoodDoc_ev t (by
  cases one with
  | false => rw [(f1 rfl).1]; exact Nat.zero_le _
  | true => have := textB_size ((docB_iff t).1 (f2 rfl).2).1; omega)
 have f4 : ∃ K7, ok = true → ∀ k, K7 ≤ k → impl_ApplyOp.f k L s = some (t, true) ∧ impl_NormalOp.f k L = some (L, true) := by
  cases ok with
  | false => exact ⟨0, fun h => (by cases h)⟩
  | true => obtain ⟨K, h⟩ := f3 rfl; exact ⟨K, fun _ => h⟩
 obtain ⟨K7, e7⟩ := f4
 obtain ⟨K, hK⟩ : ∃ K, K = K1 + K2 + K3 + K4 + K5 + K6 + K7 := ⟨_, rfl⟩
 refine ⟨K + 2, ?_⟩
 unfold laws_FnCommands.f
 have hdr : spec_DrawCompileCommand.f (K + 2) l = some (s, kd, at_, tz, w) := by
  unfold spec_DrawCompileCommand.f
  rw [e1 _ O_, bs_]
  dsimp only
  rw [e2 _ O_, bs_]
 rw [iN_ hbig, hdr, bs_]
 dsimp only
 rw [(e3 _ O_).1, bs_, (e3 _ O_).2.1, bs_, (e3 _ O_).2.2.1, bs_, (e3 _ O_).2.2.2, bs_, e4 _ O_, bs_]
 dsimp only
 rw [bne_self_eq_false, iN_ (by simp), e5 _ O_, bs_, ip_ rfl, bne_self_eq_false, iN_ (by simp), ip_ rfl]
 rw [show (K + 2) = (K + 1) + 1 from rfl, laws_FnCommands.j0, iN_ (by simp)]
 cases one with
 | false =>
  obtain ⟨rfl, rfl⟩ := f1 rfl
  rw [iN_ (by simp), ip_ nil_toList]; rfl
 | true =>
  obtain ⟨q1, q2, q3, q4⟩ := g1 rfl
  have z1 := textB_size ((docB_iff s).1 (f2 rfl).1).1
  have z2 := textB_size ((docB_iff t).1 (f2 rfl).2).1
  have w1 : Aside0 (wrap64 ((a : Int) + (b : Int)) = ((a + b : Nat) : Int)) := ⟨by rw [w64 O_ O_]; omega⟩
  have w2 : Aside0 (wrap64 ((s.size : Int) - (b : Int)) = ((s.size - b : Nat) : Int)) := ⟨by rw [w64 O_ O_]; omega⟩
  have w3 : Aside0 (wrap64 ((t.size : Int) - (b : Int)) = ((t.size - b : Nat) : Int)) := ⟨by rw [w64 O_ O_]; omega⟩
  rw [ip_ rfl, w1.out, iN_ O_, iN_ O_, ip_ O_, ip_ O_, ip_ O_, tN_, ip_ q3, w2.out, ip_ O_, ip_ O_, w3.out, ip_ O_, ip_ O_, tN_, tN_, ip_ q4, e6 _ O_, (f2 rfl).2, bs_]
  rw [laws_FnCommands.j1, iN_ (by simp)]
  cases ok with
  | false => rfl
  | true =>
   rw [ip_ rfl, (e7 rfl _ O_).1, bs_, (e7 rfl _ O_).2, bs_]
   dsimp only
   rw [ip_ rfl, ip_ rfl, ip_ rfl, e5 _ O_, bs_]
end Go.Proofs.Ytmigfgcpdelnfaa.Pure
