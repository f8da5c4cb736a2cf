/- Marks stay good behind a change, what is marked has the style, and what is cut has not, for all bytes that marks and changes are drawn from. -/
import Derived.Test.YtjbllgdehpomiaaAFnMarksx30
set_option linter.unusedVariables false
set_option linter.unusedSimpArgs false
namespace Go.Proofs.Ytjbllgdehpomiaa.Pure
open Go.RowKit Go.Proofs.Ytjbllgdehpomiaa.AFnMarks Go.Proofs.YtjbllgdehpomiaaW.PrintWords Go.Proofs.YtjbllgdehpomiaaW.PrintLast Go.Proofs.YtjbllgdehpomiaaW.PrintMore
theorem k1_ (k : Nat) (h : 0 < k := by omega) : ∃ m, k = m + 1 := ⟨k - 1, by omega⟩
theorem O_ {p : Prop} (h : p := by omega) : p := h
theorem bs_ : type_of% @Option.bind_some := @Option.bind_some
theorem tN_ : type_of% @Int.toNat_natCast := @Int.toNat_natCast
theorem zE_ : type_of% @ByteArray.size_extract := @ByteArray.size_extract
theorem zA_ : type_of% @ByteArray.size_append := @ByteArray.size_append
theorem lA_ : type_of% @List.length_append := @List.length_append
theorem lS_ : type_of% @List.length_singleton := @List.length_singleton
theorem ip_ : type_of% @if_pos := @if_pos
theorem iN_ : type_of% @if_neg := @if_neg
theorem lM_ : type_of% @List.length_map := @List.length_map

theorem w64 {i : Int} (h0 : -4611686018427387904 ≤ i) (h : i ≤ 4611686018427387904) : wrap64 i = i := by
 unfold wrap64; omega
def nmB (c : Int) : Bool := decide (65 ≤ c) && decide (c ≤ 70)
def plB (c : Int) : Bool := (decide (97 ≤ c) && decide (c ≤ 122)) || ((decide (48 ≤ c) && decide (c ≤ 57)) || (decide (c = 32) || (decide (c = 46) || decide (c = 44))))
def okB (c : Int) : Bool := nmB c || (plB c || decide (c = 47))
def okN (s : ByteArray) : Nat → Nat → Bool
 | 0, _ => true
 | d + 1, i => okB (bt s i) && okN s d (i + 1)
def textB (s : ByteArray) : Bool := okN s s.size 0 && decide (s.size ≤ 300)
theorem textB_size {s : ByteArray} (h : textB s = true) : s.size ≤ 300 := by
 unfold textB at h; simp at h; exact h.2
theorem impl_isName_eq (c : Int) : impl_isName.f c = some (nmB c) := by
 unfold impl_isName.f nmB
 by_cases h1 : c ≥ 65 <;> simp [h1] <;> omega
theorem impl_isPlain_eq (c : Int) : impl_isPlain.f c = some (plB c) := by
 unfold impl_isPlain.f plB
 by_cases h1 : 97 ≤ c <;> by_cases h2 : c ≤ 122 <;> by_cases h3 : 48 ≤ c <;> by_cases h4 : c ≤ 57 <;> by_cases h5 : c = 32 <;> by_cases h6 : c = 46 <;> simp [h1, h2, h3, h4, h5, h6] <;> rfl
theorem impl_GoodText_l (s : ByteArray) (hs : s.size ≤ 140737488351232) : ∀ (d i : Nat), i + d = s.size →
  ∃ K, ∀ k, K ≤ k → impl_GoodText.l0 k s (s.size : Int) (i : Int) = some (okN s d i && decide (s.size ≤ 300)) := by
 intro d
 induction d with
 | zero =>
  intro i hi
  refine ⟨1, fun k hk => ?_⟩
  obtain ⟨k, rfl⟩ := k1_ k
  simp only [impl_GoodText.l0]
  rw [iN_ O_]
  simp [okN]
  omega
 | succ d ih =>
  intro i hi
  obtain ⟨K, hK⟩ := ih (i + 1) O_
  refine ⟨K + 1, fun k hk => ?_⟩
  obtain ⟨k, rfl⟩ := k1_ k
  have hr := hK k O_
  simp only [impl_GoodText.l0]
  rw [ip_ O_, ip_ O_, ip_ O_, impl_isName_eq, bs_, impl_isPlain_eq, bs_, w64 O_ O_]
  have hc : ((i : Int) + 1) = ((i + 1 : Nat) : Int) := by omega
  rw [hc, hr]
  show _ = some ((okB (bt s i) && okN s d (i + 1)) && _)
  unfold okB
  cases nmB (bt s i) <;> cases plB (bt s i) <;> by_cases h : bt s i = 47 <;> simp [h]
theorem impl_GoodText_ev (s : ByteArray) (hs : s.size ≤ 140737488351232) : ∃ K, ∀ k, K ≤ k → impl_GoodText.f k s = some (textB s) := by
 obtain ⟨K, hK⟩ := impl_GoodText_l s hs s.size 0 O_
 exact ⟨K, fun k hk => by unfold impl_GoodText.f; exact hK k hk⟩
theorem spec_l1Open_eq (c : Int) : spec_l1Open.f c = some (nmB c) := by
 unfold spec_l1Open.f nmB
 by_cases h1 : c ≥ 65 <;> simp [h1] <;> omega
theorem spec_l1Plain_eq (c : Int) : spec_l1Plain.f c = some (plB c) := by
 unfold spec_l1Plain.f plB
 by_cases h1 : 97 ≤ c <;> by_cases h2 : c ≤ 122 <;> by_cases h3 : 48 ≤ c <;> by_cases h4 : c ≤ 57 <;> by_cases h5 : c = 32 <;> by_cases h6 : c = 46 <;> simp [h1, h2, h3, h4, h5, h6] <;> rfl
theorem spec_l1Text_l (s : ByteArray) (hs : s.size ≤ 140737488351232) : ∀ (d i : Nat), i + d = s.size →
  ∃ K, ∀ k, K ≤ k → spec_l1Text.l0 k s (i : Int) = some (okN s d i) := by
 intro d
 induction d with
 | zero =>
  intro i hi
  refine ⟨1, fun k hk => ?_⟩
  obtain ⟨k, rfl⟩ := k1_ k
  simp only [spec_l1Text.l0]
  rw [iN_ O_]
  simp [okN]
 | succ d ih =>
  intro i hi
  obtain ⟨K, hK⟩ := ih (i + 1) O_
  refine ⟨K + 1, fun k hk => ?_⟩
  obtain ⟨k, rfl⟩ := k1_ k
  have hr := hK k O_
  simp only [spec_l1Text.l0]
  rw [ip_ O_, ip_ O_, spec_l1Open_eq, bs_, spec_l1Plain_eq, bs_, w64 O_ O_]
  have hc : ((i : Int) + 1) = ((i + 1 : Nat) : Int) := by omega
  rw [hc, hr]
  show _ = some (okB (bt s i) && okN s d (i + 1))
  unfold okB
  cases nmB (bt s i) <;> cases plB (bt s i) <;> by_cases h : bt s i = 47 <;> simp [h]
theorem spec_GoodText_ev (s : ByteArray) (hs : s.size ≤ 140737488351232) : ∃ K, ∀ k, K ≤ k → spec_GoodText.f k s = some (textB s) := by
 obtain ⟨K, hK⟩ := spec_l1Text_l s hs s.size 0 O_
 refine ⟨K, fun k hk => ?_⟩
 have h := hK k hk
 unfold spec_GoodText.f spec_l1Text.f
 simp only [Int.cast_ofNat_Int] at h
 rw [h, bs_]
 unfold textB
 cases okN s s.size 0 <;> simp <;> omega
theorem toList_data (s : ByteArray) : s.toList = s.data.toList := by
 have h : ∀ (n i : Nat) (r : List UInt8), s.size - i = n → ByteArray.toList.loop s i r = r.reverse ++ s.data.toList.drop i := by
  intro n
  induction n with
  | zero =>
   intro i r h
   unfold ByteArray.toList.loop
   rw [iN_ O_, List.drop_of_length_le (by rw [Array.length_toList]; show s.size ≤ i; omega)]; simp
  | succ n ih =>
   intro i r h
   have hi : i < s.size := by omega
   unfold ByteArray.toList.loop
   have e2 : s.data.toList.drop i = s.data.toList[i]'(by rw [Array.length_toList]; exact hi) :: s.data.toList.drop (i + 1) := List.drop_eq_getElem_cons (by rw [Array.length_toList]; exact hi)
   have e : s.get! i = s.data.toList[i]'(by rw [Array.length_toList]; exact hi) := by
    show s.data[i]! = _
    rw [getElem!_pos s.data i hi]; simp
   rw [ip_ hi, ih (i + 1) _ O_, e2, e, List.reverse_cons, List.append_assoc]; rfl
 unfold ByteArray.toList
 rw [h s.size 0 [] O_]; simp
theorem bt_data (s : ByteArray) (i : Nat) (h : i < s.size) : bt s (i : Int) = ((s.data.toList[i]'(by rw [Array.length_toList]; exact h)).toNat : Int) := by
 unfold bt
 rw [dif_pos O_]
 simp [ByteArray.getElem_eq_getElem_data]
def allB (b : ByteArray) : Prop := ∀ j : Nat, j < b.size → okB (bt b (j : Int)) = true
theorem okN_iff (b : ByteArray) : ∀ (d i : Nat), okN b d i = true ↔ ∀ j : Nat, i ≤ j → j < i + d → okB (bt b (j : Int)) = true
 | 0, i => by simp [okN]; intro j h1 h2; omega
 | d + 1, i => by
  simp only [okN, Bool.and_eq_true, okN_iff b d (i + 1)]
  constructor
  ·intro ⟨h1, h2⟩ j hj hj2
   by_cases e : j = i
   ·subst e; exact h1
   ·exact h2 j O_ O_
  ·intro h
   exact ⟨h i (Nat.le_refl _) O_, fun j h1 h2 => h j O_ O_⟩
theorem textB_iff (b : ByteArray) : textB b = true ↔ allB b ∧ b.size ≤ 300 := by
 unfold textB allB
 rw [Bool.and_eq_true, okN_iff, decide_eq_true_eq]
 constructor
 ·intro ⟨h1, h2⟩; exact ⟨fun j hj => h1 j (Nat.zero_le _) O_, h2⟩
 ·intro ⟨h1, h2⟩; exact ⟨fun j _ hj => h1 j O_, h2⟩
def small (x : S68) : Prop := x.f1.size ≤ 140737488351232 ∧ x.f2.size ≤ 140737488351232
def smallL (l : List S68) : Prop := l.length ≤ 3518437208780 ∧ ∀ x ∈ l, small x
theorem small_z : small z68 := ⟨by decide, by decide⟩
theorem small_rd {l : List S68} (h : smallL l) (i : Int) : small (sp l i) := by
 unfold sp
 rw [List.getD_eq_getElem?_getD]
 cases e : l[i.toNat]? with
 | none => exact small_z
 | some x => exact h.2 x (List.mem_of_getElem? e)
def partB (a : Int) (b c : ByteArray) : Bool :=
 if a = 0 then (if b.toList = [] then (if c.toList = [] then false else textB c) else (if c.toList = [] then textB b else false))
 else (decide (1 ≤ a) && decide (a ≤ 300)) && (if b.toList = [] then c.toList == [] else false)
def pN (l : List S68) : Nat → Nat → Bool
 | 0, _ => true
 | d + 1, i => partB (sp l (i : Int)).f0 (sp l (i : Int)).f1 (sp l (i : Int)).f2 && pN l d (i + 1)
def sizesB (r : Int × Int) : Bool := if r.1 ≤ 300 then decide (r.2 ≤ 300) else false
theorem spec_l3Part_ev (a : Int) (b c : ByteArray) (hb : b.size ≤ 140737488351232) (hc : c.size ≤ 140737488351232) : ∃ K, ∀ k, K ≤ k → spec_l3Part.f k a b c = some (partB a b c) := by
 obtain ⟨K1, h1⟩ := spec_GoodText_ev b hb
 obtain ⟨K2, h2⟩ := spec_GoodText_ev c hc
 refine ⟨K1 + K2, fun k hk => ?_⟩
 unfold spec_l3Part.f partB spec_l1In.f
 rw [h1 k O_, h2 k O_]
 by_cases e0 : a = 0
 ·simp only [ip_ e0, bs_]
  by_cases e1 : b.toList = [] <;> by_cases e2 : c.toList = [] <;> simp [e1, e2]
 ·simp only [iN_ e0]
  by_cases e1 : a ≥ 1
  ·by_cases e2 : a ≤ 300
   ·simp only [ip_ e1, bs_, decide_eq_true e2, ip_, decide_eq_true e1, Bool.and_self, Bool.true_and]
    by_cases e3 : b.toList = [] <;> simp [e3]
   ·simp [e1, e2]
  ·simp only [iN_ e1, bs_]
   simp
   intro h
   omega
theorem spec_sizes_l (l : List S68) (hl : l.length ≤ 3518437208780) : ∀ (d i : Nat), i + d = l.length → ∀ a b : Int, ∃ r K, ∀ k, K ≤ k → spec_l3Sizes.l0 k a b l (l.length : Int) (i : Int) = some r := by
 intro d
 induction d with
 | zero =>
  intro i hi a b
  refine ⟨(a, b), 1, fun k hk => ?_⟩
  obtain ⟨k, rfl⟩ := k1_ k
  simp only [spec_l3Sizes.l0]
  rw [iN_ O_]
 | succ d ih =>
  intro i hi a b
  obtain ⟨r, K, hK⟩ := ih (i + 1) O_ (wrap64 (a + (wrap64 (((sp l (i : Int)).f0) + (((sp l (i : Int)).f2).size : Int))))) (wrap64 (b + (wrap64 (((sp l (i : Int)).f0) + (((sp l (i : Int)).f1).size : Int)))))
  refine ⟨r, K + 1, fun k hk => ?_⟩
  obtain ⟨k, rfl⟩ := k1_ k
  have hr := hK k O_
  simp only [spec_l3Sizes.l0]
  rw [ip_ O_, ip_ O_, ip_ O_, w64 (i := (i : Int) + 1) O_ O_]
  exact hr
theorem spec_sizes_ev (l : List S68) (hl : l.length ≤ 3518437208780) : ∃ r K, ∀ k, K ≤ k → spec_l3Sizes.f k l = some r :=
 spec_sizes_l l hl l.length 0 O_ 0 0
theorem spec_GoodOp_l (l : List S68) (hl : smallL l) (r : Int × Int) (K0 : Nat) (h0 : ∀ k, K0 ≤ k → spec_l3Sizes.f k l = some r) : ∀ (d i : Nat), i + d = l.length → ∃ K, ∀ k, K ≤ k → spec_GoodOp.l0 k l l (l.length : Int) (i : Int) = some (pN l d i && sizesB r) := by
 have hl1 := hl.1
 intro d
 induction d with
 | zero =>
  intro i hi
  refine ⟨K0 + 1, fun k hk => ?_⟩
  obtain ⟨k, rfl⟩ := k1_ k
  simp only [spec_GoodOp.l0]
  rw [iN_ O_, h0 k O_, bs_]
  unfold sizesB pN
  by_cases e : r.1 ≤ 300 <;> simp [e]
 | succ d ih =>
  intro i hi
  obtain ⟨K, hK⟩ := ih (i + 1) O_
  have hs := small_rd hl (i : Int)
  obtain ⟨K1, h1⟩ := spec_l3Part_ev (sp l (i : Int)).f0 _ _ hs.1 hs.2
  refine ⟨K + K1 + 1, fun k hk => ?_⟩
  obtain ⟨k, rfl⟩ := k1_ k
  have hr := hK k O_
  simp only [spec_GoodOp.l0]
  rw [ip_ O_, ip_ O_, ip_ O_, h1 k O_, bs_, w64 O_ O_]
  have hc : ((i : Int) + 1) = ((i + 1 : Nat) : Int) := by omega
  rw [hc, hr]
  rw [show pN l (d + 1) i = (partB (sp l (i : Int)).f0 (sp l (i : Int)).f1 (sp l (i : Int)).f2 && pN l d (i + 1)) from rfl]
  cases partB (sp l (i : Int)).f0 (sp l (i : Int)).f1 (sp l (i : Int)).f2 <;> simp
def goodB (l : List S68) (r : Int × Int) : Bool := decide (l.length ≤ 60) && (pN l l.length 0 && sizesB r)
theorem spec_GoodOp_ev (l : List S68) (hl : smallL l) (r : Int × Int) (K0 : Nat) (h0 : ∀ k, K0 ≤ k → spec_l3Sizes.f k l = some r) : ∃ K, ∀ k, K ≤ k → spec_GoodOp.f k l = some (goodB l r) := by
 obtain ⟨K, hK⟩ := spec_GoodOp_l l hl r K0 h0 l.length 0 O_
 refine ⟨K, fun k hk => ?_⟩
 have h := hK k hk
 unfold spec_GoodOp.f goodB
 by_cases e : (l.length : Int) > 60
 ·rw [ip_ e, decide_eq_false O_]; rfl
 ·rw [iN_ e, decide_eq_true O_, Bool.true_and]
  exact h
theorem impl_sizes_same (l : List S68) : ∀ k a b i, impl_sizes.l0 k a b l (l.length : Int) i = spec_l3Sizes.l0 k a b l (l.length : Int) i := by
 intro k
 induction k with
 | zero => intro a b i; rfl
 | succ k ih =>
  intro a b i
  simp only [impl_sizes.l0, spec_l3Sizes.l0, ih]
theorem impl_sizes_ev (l : List S68) (k : Nat) : impl_sizes.f k l = spec_l3Sizes.f k l := impl_sizes_same l k 0 0 0
theorem impl_isPart_ev (a : Int) (b c : ByteArray) (hb : b.size ≤ 140737488351232) (hc : c.size ≤ 140737488351232) : ∃ K, ∀ k, K ≤ k → impl_Part_isPart.f k a b c = some (partB a b c) := by
 obtain ⟨K1, h1⟩ := impl_GoodText_ev b hb
 obtain ⟨K2, h2⟩ := impl_GoodText_ev c hc
 refine ⟨K1 + K2, fun k hk => ?_⟩
 unfold impl_Part_isPart.f partB
 rw [h1 k O_, h2 k O_]
 by_cases e0 : a = 0
 ·simp only [ip_ e0, bs_]
  by_cases e1 : b.toList = [] <;> by_cases e2 : c.toList = [] <;> simp [e1, e2]
 ·simp only [iN_ e0]
  by_cases e1 : a ≥ 1
  ·by_cases e2 : a ≤ 300
   ·simp only [ip_ e1, ip_ e2, decide_eq_true e2, decide_eq_true e1, Bool.and_self, Bool.true_and]
    by_cases e3 : b.toList = [] <;> simp [e3]
   ·simp [e1, e2]
  ·simp only [iN_ e1]
   simp
   intro h
   omega
theorem impl_Part_66_l (l : List S68) (hl : smallL l) : ∀ (d i : Nat), i + d = l.length → ∃ t : Int, decide (t ≥ 0) = !(pN l d i) ∧ ∃ K, ∀ k, K ≤ k → impl_Part_66.l0 k l (l.length : Int) (i : Int) = some t := by
 have hl1 := hl.1
 intro d
 induction d with
 | zero =>
  intro i hi
  refine ⟨-1, rfl, 1, fun k hk => ?_⟩
  obtain ⟨k, rfl⟩ := k1_ k
  simp only [impl_Part_66.l0]
  rw [iN_ O_]
 | succ d ih =>
  intro i hi
  have hs := small_rd hl (i : Int)
  obtain ⟨K1, h1⟩ := impl_isPart_ev (sp l (i : Int)).f0 _ _ hs.1 hs.2
  cases hp : partB (sp l (i : Int)).f0 (sp l (i : Int)).f1 (sp l (i : Int)).f2 with
  | false =>
   refine ⟨(i : Int), by unfold pN; rw [hp]; simp, K1 + 1, fun k hk => ?_⟩
   obtain ⟨k, rfl⟩ := k1_ k
   simp only [impl_Part_66.l0, impl_GoodOp_1.f]
   rw [ip_ O_, ip_ O_, ip_ O_, h1 k O_, hp]
   rfl
  | true =>
   obtain ⟨t, ht, K, hK⟩ := ih (i + 1) O_
   refine ⟨t, by unfold pN; rw [hp, ht, Bool.true_and], K + K1 + 1, fun k hk => ?_⟩
   obtain ⟨k, rfl⟩ := k1_ k
   have hr := hK k O_
   simp only [impl_Part_66.l0, impl_GoodOp_1.f]
   rw [ip_ O_, ip_ O_, ip_ O_, h1 k O_, hp, w64 O_ O_]
   exact hr
theorem impl_GoodOp_ev (l : List S68) (hl : smallL l) (r : Int × Int) (K0 : Nat) (h0 : ∀ k, K0 ≤ k → spec_l3Sizes.f k l = some r) : ∃ K, ∀ k, K ≤ k → impl_GoodOp.f k l = some (goodB l r) := by
 obtain ⟨t, ht, K, hK⟩ := impl_Part_66_l l hl l.length 0 O_
 refine ⟨K + K0, fun k hk => ?_⟩
 have h : impl_Part_66.f k l = some t := hK k O_
 unfold impl_GoodOp.f goodB impl_Part_53.f
 by_cases e : (l.length : Int) > 60
 ·rw [ip_ e, decide_eq_false O_]; rfl
 ·rw [iN_ e, decide_eq_true O_, h, Bool.true_and]
  simp only [bs_, ht]
  rw [impl_sizes_ev, h0 k O_, bs_]
  unfold sizesB
  cases pN l l.length 0 <;> by_cases e1 : r.1 ≤ 300 <;> simp [e1]
theorem ba_nil_append (a : ByteArray) : (⟨#[]⟩ : ByteArray) ++ a = a := by
 apply ByteArray.ext; simp [ByteArray.data_append]
theorem ba_append_nil (a : ByteArray) : a ++ (⟨#[]⟩ : ByteArray) = a := by
 apply ByteArray.ext; simp [ByteArray.data_append]
theorem ba_of_toList {a b : ByteArray} (h : a.toList = b.toList) : a = b := by
 rw [toList_data, toList_data] at h
 apply ByteArray.ext
 exact Array.toList_inj.mp h
inductive Pt
 | K (n : Nat)
 | W (w : ByteArray)
 | D (d : ByteArray)
def encP : Pt → S68
 | .K n => ⟨(n : Int), ⟨#[]⟩, ⟨#[]⟩⟩
 | .W w => ⟨0, w, ⟨#[]⟩⟩
 | .D d => ⟨0, ⟨#[]⟩, d⟩
def addP : List Pt → Pt → List Pt
 | .K a :: r, .K b => .K (a + b) :: r
 | .D a :: r, .D b => .D (a ++ b) :: r
 | .W a :: r, .W b => .W (a ++ b) :: r
 | .D d :: .W a :: r, .W b => .D d :: .W (a ++ b) :: r
 | .D d :: r, .W b => .D d :: .W b :: r
 | r, q => q :: r
def okP : Pt → Prop
 | .K n => 0 < n ∧ n ≤ 1000000
 | .W w => 0 < w.size ∧ w.size ≤ 1000000
 | .D d => 0 < d.size ∧ d.size ≤ 1000000
theorem nil_toList : (⟨#[]⟩ : ByteArray).toList = ([] : List UInt8) := by rw [toList_data]
theorem pos_toList {w : ByteArray} (h : 0 < w.size) : ¬ w.toList = ([] : List UInt8) := by
 rw [toList_data]
 intro e
 have := congrArg List.length e
 rw [Array.length_toList] at this
 have e2 : w.data.size = 0 := this
 have e3 : w.data.size = w.size := rfl
 omega
theorem rd_last (M : List S68) (x : S68) : sp (M ++ [x]) (M.length : Int) = x := by
 unfold sp
 rw [tN_, List.getD_eq_getElem?_getD, List.getElem?_append_right (Nat.le_refl _)]
 simp
theorem rd_last2 (M : List S68) (x y : S68) : sp (M ++ [x] ++ [y]) (M.length : Int) = x := by
 unfold sp
 rw [tN_, List.getD_eq_getElem?_getD, List.append_assoc, List.getElem?_append_right (Nat.le_refl _)]
 simp
theorem encP_rev (r : List Pt) (x : Pt) : (x :: r).reverse.map encP = r.reverse.map encP ++ [encP x] := by
 rw [List.reverse_cons, List.map_append]; rfl
theorem l3Add_0 (k : Nat) (q : Pt) (hq : okP q) : spec_l3Add.f (k + 5) [] (encP q).f0 (encP q).f1 (encP q).f2 = some [encP q] := by
 cases q with
 | K n =>
  have h : ¬ n = 0 := by have := hq.1; omega
  simp [spec_l3Add.f, spec_l3Add.j0, encP, h]
 | W w => simp [spec_l3Add.f, spec_l3Add.j0, encP, pos_toList hq.1]
 | D d => simp [spec_l3Add.f, spec_l3Add.j0, encP, pos_toList hq.1, nil_toList]
theorem l3Add_K (k : Nat) (L : List S68) (N : Nat) (hL : L.length = N + 1) (hN : N ≤ 1000000) (x : S68) (hx : sp L (N : Int) = x) (n : Nat) (hn : 0 < n) :
  spec_l3Add.f (k + 5) L (n : Int) ⟨#[]⟩ ⟨#[]⟩ = if x.f0 > 0 then some (L.set N ⟨wrap64 (x.f0 + n), x.f1, x.f2⟩) else some (L ++ [⟨(n : Int), ⟨#[]⟩, ⟨#[]⟩⟩]) := by
 have hl : ¬ (L.length : Int) = 0 := by omega
 have hi : wrap64 ((L.length : Int) - 1) = (N : Int) := by rw [w64 O_ O_]; omega
 have h0 : (0 : Int) ≤ (N : Int) := by omega
 have h1 : (N : Int) < (L.length : Int) := by omega
 have h2 : L.length < 3518437208883 := by omega
 have e0 : ¬ (n : Int) = 0 := by omega
 have e1 : (n : Int) > 0 := by omega
 simp only [spec_l3Add.f, iN_ e0, spec_l3Add.j0, Bool.false_eq_true, if_false, iN_ hl, hi, ip_ h0, ip_ h1, ip_ e1, hx, spec_l3Add.j1, spec_l3Add.j2, spec_l3Add.j3, spec_l3Add.j4, ip_ h2, nil_toList, if_true, tN_, decide_eq_true_eq]
theorem l3Add_W (k : Nat) (L : List S68) (N : Nat) (hL : L.length = N + 1) (hN : N ≤ 1000000) (x : S68) (hx : sp L (N : Int) = x) (w : ByteArray) (hw : 0 < w.size) (hw2 : w.size ≤ 1000000) (hx2 : x.f1.size ≤ 1000000) (y : S68) (hy : 1 ≤ N → sp L ((N - 1 : Nat) : Int) = y) (hy2 : y.f1.size ≤ 1000000) :
  spec_l3Add.f (k + 5) L 0 w ⟨#[]⟩ = if x.f1.toList ≠ [] then some (L.set N ⟨x.f0, x.f1 ++ w, x.f2⟩) else if x.f2.toList ≠ [] then
   (if 1 ≤ N ∧ y.f1.toList ≠ [] then some (L.set (N - 1) ⟨y.f0, y.f1 ++ w, y.f2⟩) else some (L.set N ⟨0, w, ⟨#[]⟩⟩ ++ [x])) else some (L ++ [⟨0, w, ⟨#[]⟩⟩]) := by
 have hl : ¬ (L.length : Int) = 0 := by omega
 have hi : wrap64 ((L.length : Int) - 1) = (N : Int) := by rw [w64 O_ O_]; omega
 have h0 : (0 : Int) ≤ (N : Int) := by omega
 have h1 : (N : Int) < (L.length : Int) := by omega
 have h2 : L.length < 3518437208883 := by omega
 have e1 : ¬ (0 : Int) > 0 := by omega
 have hw' := pos_toList hw
 have s1 : x.f1.size + w.size ≤ 9223372036854775807 := by omega
 have s2 : y.f1.size + w.size ≤ 9223372036854775807 := by omega
 simp only [spec_l3Add.f, iN_ hw', spec_l3Add.j0, Bool.false_eq_true, if_false, iN_ hl, hi, ip_ h0, ip_ h1, iN_ e1, hx, spec_l3Add.j1, spec_l3Add.j2, spec_l3Add.j3, nil_toList, if_true, tN_, ip_ s1]
 by_cases c1 : x.f1.toList = []
 ·simp only [c1, bne_self_eq_false, Bool.false_eq_true, if_false, ne_eq, not_true_eq_false, iN_ hw', spec_l3Add.j4]
  by_cases c2 : x.f2.toList = []
  ·simp only [c2, bne_self_eq_false, Bool.false_eq_true, if_false, not_true_eq_false, ip_ h2]
  ·have c2' : (x.f2.toList != []) = true := bne_iff_ne.mpr c2
   simp only [c2', if_true, not_false_eq_true, c2]
   by_cases c3 : 1 ≤ N
   ·have hj : wrap64 ((L.length : Int) - 2) = ((N - 1 : Nat) : Int) := by rw [w64 O_ O_]; omega
    have h3 : (0 : Int) ≤ ((N - 1 : Nat) : Int) := by omega
    have h4 : ((N - 1 : Nat) : Int) < (L.length : Int) := by omega
    have h5 : (L.length : Int) > 1 := by omega
    simp only [ip_ h5, hj, ip_ h3, ip_ h4, hy c3, hi, ip_ h0, ip_ h1, hx, tN_, ip_ s2, c3, true_and, bs_, List.length_set, ip_ h2]
    by_cases c4 : y.f1.toList = []
    ·simp [c4]
    ·simp [c4]
   ·have h5 : ¬ (L.length : Int) > 1 := by omega
    simp only [iN_ h5, hi, ip_ h0, ip_ h1, tN_, c3, false_and, if_false, bs_, List.length_set, ip_ h2]
 ·have c1' : (x.f1.toList != []) = true := bne_iff_ne.mpr c1
  simp only [c1', if_true, ne_eq, c1, not_false_eq_true]
theorem l3Add_D (k : Nat) (L : List S68) (N : Nat) (hL : L.length = N + 1) (hN : N ≤ 1000000) (x : S68) (hx : sp L (N : Int) = x) (d : ByteArray) (hd : 0 < d.size) (hd2 : d.size ≤ 1000000) (hx2 : x.f2.size ≤ 1000000) :
  spec_l3Add.f (k + 5) L 0 ⟨#[]⟩ d = if x.f2.toList ≠ [] then some (L.set N ⟨x.f0, x.f1, x.f2 ++ d⟩) else some (L ++ [⟨0, ⟨#[]⟩, d⟩]) := by
 have hl : ¬ (L.length : Int) = 0 := by omega
 have hi : wrap64 ((L.length : Int) - 1) = (N : Int) := by rw [w64 O_ O_]; omega
 have h0 : (0 : Int) ≤ (N : Int) := by omega
 have h1 : (N : Int) < (L.length : Int) := by omega
 have h2 : L.length < 3518437208883 := by omega
 have e1 : ¬ (0 : Int) > 0 := by omega
 have hd' := pos_toList hd
 have hd'' : (d.toList == []) = false := beq_eq_false_iff_ne.mpr hd'
 have s1 : x.f2.size + d.size ≤ 9223372036854775807 := by omega
 simp only [spec_l3Add.f, nil_toList, if_true, hd'', spec_l3Add.j0, Bool.false_eq_true, if_false, iN_ hl, hi, ip_ h0, ip_ h1, iN_ e1, hx, spec_l3Add.j1, spec_l3Add.j2, spec_l3Add.j3, spec_l3Add.j4, iN_ hd', tN_, ip_ s1, ip_ h2]
 by_cases c1 : x.f2.toList = []
 ·simp [c1]
 ·simp [c1]
theorem l3Add_nil (k : Nat) (L : List S68) : spec_l3Add.f (k + 5) L 0 ⟨#[]⟩ ⟨#[]⟩ = some L := by
 simp [spec_l3Add.f, spec_l3Add.j0, nil_toList]
theorem set_at (M : List S68) (x y : S68) : (M ++ [x]).set M.length y = M ++ [y] := by
 rw [List.set_append_right _ _ (Nat.le_refl _)]
 simp
theorem set_at2 (M : List S68) (x z y : S68) : (M ++ [x] ++ [z]).set M.length y = M ++ [y] ++ [z] := by
 rw [List.append_assoc, List.set_append_right _ _ (Nat.le_refl _)]
 simp
theorem l3Add_enc (k : Nat) (r : List Pt) (hr : r.length ≤ 1000000) (hok : ∀ x ∈ r, okP x) (q : Pt) (hq : okP q) :
  spec_l3Add.f (k + 5) (r.reverse.map encP) (encP q).f0 (encP q).f1 (encP q).f2 = some ((addP r q).reverse.map encP) := by
 match r with
 | [] => exact l3Add_0 k q hq
 | x :: r =>
  have hx := hok x (List.mem_cons_self)
  have hr' : r.length ≤ 1000000 := by simp at hr; omega
  rw [encP_rev]
  have hN : ((r.reverse.map encP).length) = r.length := by simp
  have hL : (r.reverse.map encP ++ [encP x]).length = r.length + 1 := by simp
  have hrd : sp (r.reverse.map encP ++ [encP x]) (r.length : Int) = encP x := by rw [← hN]; exact rd_last _ _
  have hset : ∀ y, (r.reverse.map encP ++ [encP x]).set r.length y = r.reverse.map encP ++ [y] := by intro y; rw [← hN]; exact set_at _ _ _
  have plain : ∀ q' : Pt, addP (x :: r) q' = q' :: x :: r → (addP (x :: r) q').reverse.map encP = r.reverse.map encP ++ [encP x] ++ [encP q'] := by
   intro q' h; rw [h, encP_rev, encP_rev]
  cases q with
  | K n =>
   rw [show (encP (.K n)).f0 = (n : Int) from rfl, show (encP (.K n)).f1 = ⟨#[]⟩ from rfl, show (encP (.K n)).f2 = ⟨#[]⟩ from rfl]
   rw [l3Add_K k _ r.length hL hr' (encP x) hrd n hq.1]
   cases x with
   | K m =>
    have h1 := hx.1
    have h2 := hx.2
    have h3 := hq.2
    rw [ip_ (show (encP (.K m)).f0 > 0 by show (m : Int) > 0; omega), hset]
    show _ = some ((Pt.K (m + n) :: r).reverse.map encP)
    rw [encP_rev]
    show some (_ ++ [(⟨wrap64 ((m : Int) + (n : Int)), ⟨#[]⟩, ⟨#[]⟩⟩ : S68)]) = some (_ ++ [(⟨((m + n : Nat) : Int), ⟨#[]⟩, ⟨#[]⟩⟩ : S68)])
    rw [w64 O_ O_]
    rfl
   | W w =>
    rw [iN_ (show ¬ (encP (.W w)).f0 > 0 by show ¬ (0 : Int) > 0; omega), plain (.K n) rfl]; rfl
   | D d =>
    rw [iN_ (show ¬ (encP (.D d)).f0 > 0 by show ¬ (0 : Int) > 0; omega), plain (.K n) rfl]; rfl
  | W w =>
   rw [show (encP (.W w)).f0 = (0 : Int) from rfl, show (encP (.W w)).f1 = w from rfl, show (encP (.W w)).f2 = ⟨#[]⟩ from rfl]
   have hx1 : (encP x).f1.size ≤ 1000000 := by
    cases x with
    | K m => exact Nat.zero_le _
    | W a => exact hx.2
    | D d => exact Nat.zero_le _
   match r, hr', hN, hL, hrd, hset, plain, hok with
   | [], hr', hN, hL, hrd, hset, plain, hok =>
    rw [l3Add_W k _ 0 hL hr' (encP x) hrd w hq.1 hq.2 hx1 z68 (fun h => by omega) (by decide)]
    cases x with
    | K m => rw [iN_ (by simp [encP, nil_toList]), iN_ (by simp [encP, nil_toList]), plain (.W w) rfl]; rfl
    | W a => rw [ip_ (by exact pos_toList hx.1)]; rfl
    | D d => rw [iN_ (by simp [encP, nil_toList]), ip_ (by exact pos_toList hx.1), iN_ O_]; rfl
   | y :: r, hr', hN, hL, hrd, hset, plain, hok =>
    have hy := hok y (List.mem_cons_of_mem _ List.mem_cons_self)
    have hy1 : (encP y).f1.size ≤ 1000000 := by
     cases y with
     | K m => exact Nat.zero_le _
     | W a => exact hy.2
     | D d => exact Nat.zero_le _
    have hN2 : ((r.reverse.map encP).length) = r.length := by simp
    have hrd2 : sp ((y :: r).reverse.map encP ++ [encP x]) (((y :: r).length - 1 : Nat) : Int) = encP y := by
     rw [encP_rev, List.length_cons, Nat.add_sub_cancel, ← hN2]; exact rd_last2 _ _ _
    have hset2 : ∀ z, ((y :: r).reverse.map encP ++ [encP x]).set ((y :: r).length - 1) z = r.reverse.map encP ++ [z] ++ [encP x] := by
     intro z; rw [encP_rev, List.length_cons, Nat.add_sub_cancel, ← hN2]; exact set_at2 _ _ _ _
    rw [l3Add_W k _ (y :: r).length hL hr' (encP x) hrd w hq.1 hq.2 hx1 (encP y) (fun _ => hrd2) hy1]
    cases x with
    | K m => rw [iN_ (by simp [encP, nil_toList]), iN_ (by simp [encP, nil_toList]), plain (.W w) rfl]; rfl
    | W a => rw [ip_ (by exact pos_toList hx.1), hset]; show _ = some ((Pt.W (a ++ w) :: y :: r).reverse.map encP); rw [encP_rev (y :: r) (Pt.W (a ++ w))]; rfl
    | D d =>
     rw [iN_ (by simp [encP, nil_toList]), ip_ (by exact pos_toList hx.1)]
     cases y with
     | K m =>
      rw [iN_ (by simp [encP, nil_toList]), hset]
      show _ = some ((Pt.D d :: Pt.W w :: Pt.K m :: r).reverse.map encP)
      rw [encP_rev (.W w :: .K m :: r) (.D d), encP_rev (.K m :: r) (.W w)]; rfl
     | W a =>
      rw [ip_ ⟨by simp, by exact pos_toList hy.1⟩, hset2]
      show _ = some ((Pt.D d :: Pt.W (a ++ w) :: r).reverse.map encP)
      rw [encP_rev (.W (a ++ w) :: r) (.D d), encP_rev r (.W (a ++ w))]; rfl
     | D b =>
      rw [iN_ (by simp [encP, nil_toList]), hset]
      show _ = some ((Pt.D d :: Pt.W w :: Pt.D b :: r).reverse.map encP)
      rw [encP_rev (.W w :: .D b :: r) (.D d), encP_rev (.D b :: r) (.W w)]; rfl
  | D d =>
   rw [show (encP (.D d)).f0 = (0 : Int) from rfl, show (encP (.D d)).f1 = ⟨#[]⟩ from rfl, show (encP (.D d)).f2 = d from rfl]
   have hx2 : (encP x).f2.size ≤ 1000000 := by
    cases x with
    | K m => exact Nat.zero_le _
    | W a => exact Nat.zero_le _
    | D d => exact hx.2
   rw [l3Add_D k _ r.length hL hr' (encP x) hrd d hq.1 hq.2 hx2]
   cases x with
   | K m => rw [iN_ (by simp [encP, nil_toList]), plain (.D d) rfl]; rfl
   | W a => rw [iN_ (by simp [encP, nil_toList]), plain (.D d) rfl]; rfl
   | D b =>
    rw [ip_ (by exact pos_toList hx.1), hset]
    show _ = some ((Pt.D (b ++ d) :: r).reverse.map encP)
    rw [encP_rev]; rfl
def massP : Pt → Nat
 | .K n => n
 | .W w => w.size
 | .D d => d.size
def mass : List Pt → Nat
 | [] => 0
 | q :: r => massP q + mass r
theorem mass_add (r : List Pt) (q : Pt) : mass (addP r q) = mass r + massP q := by
 unfold addP
 split <;> simp [mass, massP, zA_] <;> omega
theorem pos_add (r : List Pt) (q : Pt) (hr : ∀ x ∈ r, 0 < massP x) (hq : 0 < massP q) : ∀ x ∈ addP r q, 0 < massP x := by
 unfold addP
 split <;> simp [massP, zA_] at hr hq ⊢ <;> simp_all <;> omega
theorem mass_mem {r : List Pt} {x : Pt} (h : x ∈ r) : massP x ≤ mass r := by
 induction r with
 | nil => simp at h
 | cons y r ih =>
  rcases List.mem_cons.mp h with rfl | h
  ·simp [mass]
  ·have := ih h; simp only [mass]; omega
theorem mass_len {r : List Pt} (hr : ∀ x ∈ r, 0 < massP x) : r.length ≤ mass r := by
 induction r with
 | nil => simp
 | cons y r ih =>
  have h1 := ih (fun x hx => hr x (List.mem_cons_of_mem _ hx))
  have h2 := hr y List.mem_cons_self
  simp only [mass, List.length_cons]; omega
theorem okP_of {x : Pt} (h0 : 0 < massP x) (h1 : massP x ≤ 1000000) : okP x := by
 cases x <;> exact ⟨h0, h1⟩
def addQ (r : List Pt) (q : Pt) : List Pt := if massP q = 0 then r else addP r q
theorem size0_eq {a : ByteArray} (h : a.size = 0) : a = ⟨#[]⟩ := by
 apply ByteArray.ext
 exact Array.eq_empty_of_size_eq_zero h
theorem l3AddQ (k : Nat) (r : List Pt) (hr : ∀ x ∈ r, 0 < massP x) (q : Pt) (hm : mass r + massP q ≤ 1000000) :
  spec_l3Add.f (k + 5) (r.reverse.map encP) (encP q).f0 (encP q).f1 (encP q).f2 = some ((addQ r q).reverse.map encP) := by
 unfold addQ
 split
 ·rename_i h
  have : encP q = ⟨0, ⟨#[]⟩, ⟨#[]⟩⟩ := by
   cases q with
   | K n => have : n = 0 := h; subst this; rfl
   | W w => rw [size0_eq (a := w) h]; rfl
   | D d => rw [size0_eq (a := d) h]; rfl
  rw [this]
  exact l3Add_nil k _
 ·refine l3Add_enc k r ?_ ?_ q (okP_of O_ O_)
  ·have := mass_len hr; omega
  ·intro x hx
   have := mass_mem hx
   exact okP_of (hr x hx) O_
def T (s w : ByteArray) (m : Nat) : Nat → List Nat → ByteArray
 | a, [] => s.extract a s.size
 | a, k :: ks => s.extract a k ++ w ++ T s w m (k + m) ks
def ch (s p : ByteArray) : Nat → List Nat → Prop
 | a, [] => a ≤ s.size
 | a, k :: ks => a ≤ k ∧ k + p.size ≤ s.size ∧ s.extract k (k + p.size) = p ∧ ch s p (k + p.size) ks
def wL (s : ByteArray) : List Pt := if s.toList = [] then [] else [.W s]
def dL (s : ByteArray) : List Pt := if s.toList = [] then [] else [.D s]
def mkL (r0 : List Pt) (put drop : ByteArray) : List Pt := dL drop ++ (wL put ++ r0)
def headK : List Pt → Prop
 | [] => True
 | .K n :: _ => 0 < n
 | _ => False
theorem size0_toList (s : ByteArray) : s.toList = [] ↔ s.size = 0 := by
 rw [toList_data]
 constructor
 ·intro e
  have := congrArg List.length e
  rw [Array.length_toList] at this
  exact this
 ·intro e
  apply List.eq_nil_of_length_eq_zero
  rw [Array.length_toList]
  exact e
theorem encL_append (a b : List Pt) : (a ++ b).reverse.map encP = b.reverse.map encP ++ a.reverse.map encP := by
 rw [List.reverse_append, List.map_append]
theorem ends_enc (r0 : List Pt) (put drop : ByteArray) : r0.reverse.map encP ++ ends put drop = (mkL r0 put drop).reverse.map encP := by
 unfold mkL ends wL dL
 rw [encL_append, encL_append, List.append_assoc]
 congr 1
 by_cases h1 : put.toList = [] <;> by_cases h2 : drop.toList = [] <;> simp [h1, h2, encP]
theorem addP_W (r0 : List Pt) (h : headK r0) (put drop w : ByteArray) (hw : 0 < w.size) : addP (mkL r0 put drop) (.W w) = mkL r0 (put ++ w) drop := by
 have e1 : ¬ (put ++ w).toList = [] := by rw [size0_toList, zA_]; omega
 unfold mkL wL dL
 rw [iN_ e1]
 by_cases h1 : put.toList = []
 ·have hp : put = ⟨#[]⟩ := ba_of_toList (by rw [h1, nil_toList])
  have hpw : put ++ w = w := by rw [hp, ba_nil_append]
  rw [ip_ h1, hpw]
  by_cases h2 : drop.toList = []
  ·rw [ip_ h2]
   match r0, h with
   | [], _ => rfl
   | .K n :: r, _ => rfl
  ·rw [iN_ h2]
   match r0, h with
   | [], _ => rfl
   | .K n :: r, _ => rfl
 ·rw [iN_ h1]
  by_cases h2 : drop.toList = []
  ·rw [ip_ h2]; rfl
  ·rw [iN_ h2]; rfl
theorem addP_D (r0 : List Pt) (h : headK r0) (put drop d : ByteArray) (hd : 0 < d.size) : addP (mkL r0 put drop) (.D d) = mkL r0 put (drop ++ d) := by
 have e1 : ¬ (drop ++ d).toList = [] := by rw [size0_toList, zA_]; omega
 unfold mkL wL dL
 rw [iN_ e1]
 by_cases h2 : drop.toList = []
 ·have hp : drop = ⟨#[]⟩ := ba_of_toList (by rw [h2, nil_toList])
  have hpw : drop ++ d = d := by rw [hp, ba_nil_append]
  rw [ip_ h2, hpw]
  by_cases h1 : put.toList = []
  ·rw [ip_ h1]
   match r0, h with
   | [], _ => rfl
   | .K n :: r, _ => rfl
  ·rw [iN_ h1]; rfl
 ·rw [iN_ h2]; rfl
theorem mkL_nil (r0 : List Pt) : mkL r0 ⟨#[]⟩ ⟨#[]⟩ = r0 := by
 unfold mkL wL dL
 simp only [ip_ nil_toList]; rfl
theorem addP_K_head (r0 : List Pt) (h : headK r0) (put drop : ByteArray) (n : Nat) (hn : 0 < n) : headK (addP (mkL r0 put drop) (.K n)) := by
 unfold mkL wL dL
 by_cases h1 : put.toList = [] <;> by_cases h2 : drop.toList = [] <;> simp only [h1, h2, if_true, if_false, List.nil_append, List.cons_append]
 ·match r0, h with
  | [], _ => exact hn
  | .K m :: r, hm => show 0 < m + n; omega
 ·exact hn
 ·exact hn
 ·exact hn
theorem kO_enc (r0 : List Pt) (h : headK r0) (put drop : ByteArray) (n : Nat) (hn : 0 < n) (hb : n ≤ 1000000) (ht : mass r0 ≤ 1000000) :
  kO (r0.reverse.map encP) put drop (n : Int) = (addP (mkL r0 put drop) (.K n)).reverse.map encP := by
 unfold kO keepO
 rw [iN_ O_, ends_enc]
 have key : ∀ (x : Pt) (r : List Pt), ((x :: r).reverse.map encP).length = r.length + 1 := by intro x r; simp
 have hlast : ∀ (x : Pt) (r : List Pt), sp ((x :: r).reverse.map encP) ((((x :: r).reverse.map encP).length : Int) - 1) = encP x := by
  intro x r
  rw [key, encP_rev, show (((r.length + 1 : Nat) : Int) - 1) = ((r.reverse.map encP).length : Int) by simp]
  exact rd_last _ _
 have add : ∀ (x : Pt) (r : List Pt), ¬ (encP x).f0 > 0 → (if 0 < ((x :: r).reverse.map encP).length ∧ (sp ((x :: r).reverse.map encP) ((((x :: r).reverse.map encP).length : Int) - 1)).f0 > 0 then ((x :: r).reverse.map encP).set (((x :: r).reverse.map encP).length - 1) ⟨wrap64 ((sp ((x :: r).reverse.map encP) ((((x :: r).reverse.map encP).length : Int) - 1)).f0 + (n : Int)), (sp ((x :: r).reverse.map encP) ((((x :: r).reverse.map encP).length : Int) - 1)).f1, (sp ((x :: r).reverse.map encP) ((((x :: r).reverse.map encP).length : Int) - 1)).f2⟩ else (x :: r).reverse.map encP ++ [⟨(n : Int), ⟨#[]⟩, ⟨#[]⟩⟩]) = (Pt.K n :: x :: r).reverse.map encP := by
  intro x r hx
  rw [hlast, iN_ (fun c => hx c.2), encP_rev (x :: r) (.K n)]; rfl
 have nz : ¬ (0 : Int) > 0 := by omega
 by_cases h1 : put.toList = [] <;> by_cases h2 : drop.toList = []
 ·have e : mkL r0 put drop = r0 := by unfold mkL wL dL; rw [ip_ h1, ip_ h2]; rfl
  rw [e]
  match r0, h, ht with
  | [], _, _ => rfl
  | .K m :: r, hm, ht =>
   have hm' : 0 < m := hm
   have hmb : m ≤ 1000000 := by
    have : massP (.K m) ≤ mass (.K m :: r) := by simp only [mass]; omega
    simp only [massP] at this; omega
   rw [hlast, ip_ ⟨by rw [key]; omega, by show (m : Int) > 0; omega⟩, key, Nat.add_sub_cancel, encP_rev]
   have hl : (r.reverse.map encP).length = r.length := by simp
   rw [← hl, set_at]
   show _ ++ [(⟨wrap64 ((m : Int) + (n : Int)), ⟨#[]⟩, ⟨#[]⟩⟩ : S68)] = (Pt.K (m + n) :: r).reverse.map encP
   rw [w64 O_ O_, encP_rev]; rfl
 ·have e : mkL r0 put drop = .D drop :: r0 := by unfold mkL wL dL; rw [ip_ h1, iN_ h2]; rfl
  rw [e, add (.D drop) r0 nz]; rfl
 ·have e : mkL r0 put drop = .W put :: r0 := by unfold mkL wL dL; rw [iN_ h1, ip_ h2]; rfl
  rw [e, add (.W put) r0 nz]; rfl
 ·have e : mkL r0 put drop = .D drop :: .W put :: r0 := by unfold mkL wL dL; rw [iN_ h1, iN_ h2]; rfl
  rw [e, add (.D drop) (.W put :: r0) nz]; rfl
theorem nrm_ev : ∀ (L : List Pt) (r0 : List Pt) (put drop : ByteArray), headK r0 → (∀ x ∈ mkL r0 put drop, 0 < massP x) → mass (mkL r0 put drop) + mass L ≤ 1000000 → nrm (L.map encP) (r0.reverse.map encP) put drop = some ((L.foldl addQ (mkL r0 put drop)).reverse.map encP)
 | L, r0, put, drop, hh, hpos, hm => by
  have hr0 : r0.length ≤ (mkL r0 put drop).length := by unfold mkL; simp only [lA_]; omega
  have hln := mass_len hpos
  have hol : (r0.reverse.map encP).length = r0.length := by simp
  have hpt : put.size ≤ mass (mkL r0 put drop) := by
   by_cases h1 : put.toList = []
   ·have := (size0_toList put).1 h1; omega
   ·exact mass_mem (x := .W put) (by unfold mkL wL; rw [iN_ h1]; simp)
  have hdt : drop.size ≤ mass (mkL r0 put drop) := by
   by_cases h1 : drop.toList = []
   ·have := (size0_toList drop).1 h1; omega
   ·exact mass_mem (x := .D drop) (by unfold mkL dL; rw [iN_ h1]; simp)
  have hrt : mass r0 ≤ mass (mkL r0 put drop) := by
   have : ∀ l : List Pt, mass r0 ≤ mass (l ++ r0) := by intro l; induction l with
    | nil => exact Nat.le_refl _
    | cons q l ih => simp only [List.cons_append, mass]; omega
   unfold mkL
   rw [← List.append_assoc]
   exact this _
  have z : (⟨#[]⟩ : ByteArray).size = 0 := rfl
  match L with
  | [] =>
   show (if (r0.reverse.map encP).length + 3 ≤ 3518437208883 then some ((r0.reverse.map encP) ++ ends put drop) else none) = _
   rw [ip_ (by rw [hol]; omega), ends_enc]; rfl
  | .K n :: L =>
   have hn : n + mass L ≤ 1000000 := by simp only [mass, massP] at hm; omega
   have hm' : mass (mkL r0 put drop) + (n + mass L) ≤ 1000000 := hm
   rw [List.map_cons, List.foldl_cons]
   unfold nrm
   by_cases h0 : n = 0
   ·subst h0
    have e1 : kS put (encP (.K 0)).f0 = put := rfl
    have e2 : kS drop (encP (.K 0)).f0 = drop := rfl
    have e3 : kO (r0.reverse.map encP) put drop (encP (.K 0)).f0 = r0.reverse.map encP := rfl
    have e4 : (encP (.K 0)).f1 = ⟨#[]⟩ := rfl
    have e5 : (encP (.K 0)).f2 = ⟨#[]⟩ := rfl
    have e6 : addQ (mkL r0 put drop) (.K 0) = mkL r0 put drop := ip_ rfl
    rw [e1, e2, e3, e4, e5, e6, ip_ ⟨by rw [hol]; omega, O_, O_⟩, ba_append_nil, ba_append_nil]
    exact nrm_ev L r0 put drop hh hpos O_
   ·have hi : ¬ ((n : Nat) : Int) = 0 := by omega
    have e1 : kS put (encP (.K n)).f0 = ⟨#[]⟩ := iN_ hi
    have e2 : kS drop (encP (.K n)).f0 = ⟨#[]⟩ := iN_ hi
    have e3 : kO (r0.reverse.map encP) put drop (encP (.K n)).f0 = (addP (mkL r0 put drop) (.K n)).reverse.map encP := kO_enc r0 hh put drop n O_ O_ O_
    have e4 : (encP (.K n)).f1 = ⟨#[]⟩ := rfl
    have e5 : (encP (.K n)).f2 = ⟨#[]⟩ := rfl
    have e6 : addQ (mkL r0 put drop) (.K n) = addP (mkL r0 put drop) (.K n) := iN_ h0
    have hmm := mass_add (mkL r0 put drop) (.K n)
    have hpp := pos_add (mkL r0 put drop) (.K n) hpos (by show 0 < n; omega)
    have hhd := addP_K_head r0 hh put drop n O_
    simp only [massP] at hmm
    rw [e1, e2, e3, e4, e5, e6, ip_ ⟨by rw [hol]; omega, O_, O_⟩, ba_append_nil]
    have := nrm_ev L (addP (mkL r0 put drop) (.K n)) ⟨#[]⟩ ⟨#[]⟩ hhd (by rw [mkL_nil]; exact hpp) (by rw [mkL_nil]; omega)
    rw [mkL_nil] at this
    exact this
  | .W w :: L =>
   have hm' : mass (mkL r0 put drop) + (w.size + mass L) ≤ 1000000 := hm
   rw [List.map_cons, List.foldl_cons]
   unfold nrm
   have e1 : kS put (encP (.W w)).f0 = put := rfl
   have e2 : kS drop (encP (.W w)).f0 = drop := rfl
   have e3 : kO (r0.reverse.map encP) put drop (encP (.W w)).f0 = r0.reverse.map encP := rfl
   have e4 : (encP (.W w)).f1 = w := rfl
   have e5 : (encP (.W w)).f2 = ⟨#[]⟩ := rfl
   rw [e1, e2, e3, e4, e5, ip_ ⟨by rw [hol]; omega, O_, O_⟩, ba_append_nil]
   by_cases h0 : w.size = 0
   ·have e6 : addQ (mkL r0 put drop) (.W w) = mkL r0 put drop := ip_ h0
    rw [e6, size0_eq h0, ba_append_nil]
    exact nrm_ev L r0 put drop hh hpos O_
   ·have e6 : addQ (mkL r0 put drop) (.W w) = addP (mkL r0 put drop) (.W w) := iN_ h0
    have hmm := mass_add (mkL r0 put drop) (.W w)
    have hpp := pos_add (mkL r0 put drop) (.W w) hpos (by show 0 < w.size; omega)
    simp only [massP] at hmm
    rw [addP_W r0 hh put drop w O_] at e6 hmm hpp
    rw [e6]
    exact nrm_ev L r0 (put ++ w) drop hh hpp O_
  | .D w :: L =>
   have hm' : mass (mkL r0 put drop) + (w.size + mass L) ≤ 1000000 := hm
   rw [List.map_cons, List.foldl_cons]
   unfold nrm
   have e1 : kS put (encP (.D w)).f0 = put := rfl
   have e2 : kS drop (encP (.D w)).f0 = drop := rfl
   have e3 : kO (r0.reverse.map encP) put drop (encP (.D w)).f0 = r0.reverse.map encP := rfl
   have e4 : (encP (.D w)).f1 = ⟨#[]⟩ := rfl
   have e5 : (encP (.D w)).f2 = w := rfl
   rw [e1, e2, e3, e4, e5, ip_ ⟨by rw [hol]; omega, O_, O_⟩, ba_append_nil]
   by_cases h0 : w.size = 0
   ·have e6 : addQ (mkL r0 put drop) (.D w) = mkL r0 put drop := ip_ h0
    rw [e6, size0_eq h0, ba_append_nil]
    exact nrm_ev L r0 put drop hh hpos O_
   ·have e6 : addQ (mkL r0 put drop) (.D w) = addP (mkL r0 put drop) (.D w) := iN_ h0
    have hmm := mass_add (mkL r0 put drop) (.D w)
    have hpp := pos_add (mkL r0 put drop) (.D w) hpos (by show 0 < w.size; omega)
    simp only [massP] at hmm
    rw [addP_D r0 hh put drop w O_] at e6 hmm hpp
    rw [e6]
    exact nrm_ev L r0 put (drop ++ w) hh hpp O_
theorem normal_ev (L : List Pt) (hm : mass L ≤ 1000000) : impl_normal.f (L.map encP) = some ((L.foldl addQ []).reverse.map encP) := by
 have e0 : mkL [] ⟨#[]⟩ ⟨#[]⟩ = [] := mkL_nil []
 have := nrm_ev L [] ⟨#[]⟩ ⟨#[]⟩ trivial (by rw [e0]; intro x hx; cases hx) (by rw [e0]; simp only [mass]; omega)
 rw [e0] at this
 exact this
theorem tl_nil {s : ByteArray} : s.toList = [] ↔ s.size = 0 := size0_toList s
def PK (p : S68) : Prop := (p.f0 = 0 ∧ p.f1.toList = [] ∧ p.f2.toList ≠ [] ∧ textB p.f2 = true) ∨ (p.f0 = 0 ∧ p.f1.toList ≠ [] ∧ p.f2.toList = [] ∧ textB p.f1 = true) ∨ (1 ≤ p.f0 ∧ p.f0 ≤ 300 ∧ p.f1.toList = [] ∧ p.f2.toList = [])
theorem partB_PK {p : S68} (h : partB p.f0 p.f1 p.f2 = true) : PK p := by
 unfold partB at h
 by_cases h0 : p.f0 = 0
 ·rw [ip_ h0] at h
  by_cases h1 : p.f1.toList = []
  ·rw [ip_ h1] at h
   by_cases h2 : p.f2.toList = []
   ·rw [ip_ h2] at h; cases h
   ·rw [iN_ h2] at h; exact .inl ⟨h0, h1, h2, h⟩
  ·rw [iN_ h1] at h
   by_cases h2 : p.f2.toList = []
   ·rw [ip_ h2] at h; exact .inr (.inl ⟨h0, h1, h2, h⟩)
   ·rw [iN_ h2] at h; cases h
 ·rw [iN_ h0] at h
  by_cases h1 : p.f1.toList = []
  ·rw [ip_ h1] at h
   simp only [Bool.and_eq_true, decide_eq_true_eq, beq_iff_eq] at h
   exact .inr (.inr ⟨h.1.1, h.1.2, h1, h.2⟩)
  ·rw [iN_ h1] at h
   simp at h
theorem PK_bd {p : S68} (h : PK p) : 0 ≤ p.f0 ∧ p.f0 ≤ 300 ∧ p.f1.size ≤ 300 ∧ p.f2.size ≤ 300 := by
 rcases h with ⟨a, b, c, d⟩ | ⟨a, b, c, d⟩ | ⟨a, b, c, d⟩
 ·have := textB_size d; have := tl_nil.1 b; omega
 ·have := textB_size d; have := tl_nil.1 c; omega
 ·have := tl_nil.1 c; have := tl_nil.1 d; omega
theorem rdP (l : List S68) (i : Nat) (h : i < l.length) : sp l (i : Int) = l[i] := by
 unfold sp
 rw [tN_, List.getD_eq_getElem?_getD, List.getElem?_eq_getElem h]; rfl
theorem pN_PK (l : List S68) : ∀ (d i : Nat), i + d = l.length → pN l d i = true → ∀ j (hj : j < l.length), i ≤ j → PK l[j] := by
 intro d
 induction d with
 | zero => intro i hi h j hj hij; omega
 | succ d ih =>
  intro i hi h j hj hij
  have h' : (partB (sp l (i : Int)).f0 (sp l (i : Int)).f1 (sp l (i : Int)).f2 && pN l d (i + 1)) = true := h
  rw [Bool.and_eq_true] at h'
  by_cases e : j = i
  ·subst e
   have := partB_PK h'.1
   rw [rdP l j hj] at this
   exact this
  ·exact ih (i + 1) O_ h'.2 j hj O_
def sB : List S68 → Int
 | [] => 0
 | p :: ps => p.f0 + (p.f2.size : Int) + sB ps
def sA : List S68 → Int
 | [] => 0
 | p :: ps => p.f0 + (p.f1.size : Int) + sA ps
def mt : List S68 → ByteArray → Bool
 | [], _ => true
 | p :: ps, t => ((p.f2.toList == []) || ((t.extract 0 p.f2.size).toList == p.f2.toList)) && mt ps (t.extract (p.f0.toNat + p.f2.size) t.size)
theorem s_bd : ∀ (l : List S68), (∀ p ∈ l, PK p) → 0 ≤ sB l ∧ sB l ≤ 600 * l.length ∧ 0 ≤ sA l ∧ sA l ≤ 600 * l.length
 | [], _ => by simp [sB, sA]
 | p :: ps, h => by
  have h1 := PK_bd (h p List.mem_cons_self)
  have h2 := s_bd ps (fun q hq => h q (List.mem_cons_of_mem _ hq))
  simp only [sB, sA, List.length_cons]
  omega
theorem sizes_l (l : List S68) (hl : l.length ≤ 60) (hp : ∀ p ∈ l, PK p) : ∀ (d i : Nat) (a b : Int), i + d = l.length → 0 ≤ a → a ≤ 1000000000 → 0 ≤ b → b ≤ 1000000000 → a + sB (l.drop i) ≤ 1000000000 → b + sA (l.drop i) ≤ 1000000000 → ∀ k, d < k → spec_l3Sizes.l0 k a b l (l.length : Int) (i : Int) = some (a + sB (l.drop i), b + sA (l.drop i)) := by
 intro d
 induction d with
 | zero =>
  intro i a b hi _ _ _ _ _ _ k hk
  obtain ⟨k, rfl⟩ := k1_ k
  simp only [spec_l3Sizes.l0]
  rw [iN_ O_, List.drop_of_length_le O_]
  simp [sB, sA]
 | succ d ih =>
  intro i a b hi h1 h2 h3 h4 h5 h6 k hk
  obtain ⟨k, rfl⟩ := k1_ k
  have hil : i < l.length := by omega
  have hq := PK_bd (hp l[i] (List.getElem_mem hil))
  have hs := s_bd (l.drop (i + 1)) (fun p hp' => hp p (List.mem_of_mem_drop hp'))
  rw [List.drop_eq_getElem_cons hil] at h5 h6 ⊢
  simp only [sB, sA] at h5 h6 ⊢
  simp only [spec_l3Sizes.l0]
  rw [ip_ O_, ip_ O_, ip_ O_, rdP l i hil, w64 (i := l[i].f0 + (l[i].f2.size : Int)) O_ O_, w64 (i := l[i].f0 + (l[i].f1.size : Int)) O_ O_, w64 O_ O_, w64 O_ O_, w64 O_ O_, show ((i : Int) + 1) = ((i + 1 : Nat) : Int) by omega]
  rw [ih (i + 1) _ _ O_ O_ O_ O_ O_ O_ O_ k O_]
  congr 2 <;> omega
theorem sizes_of (l : List S68) (hl : l.length ≤ 60) (hp : ∀ p ∈ l, PK p) (k : Nat) (hk : l.length < k) : spec_l3Sizes.f k l = some (sB l, sA l) := by
 have hs := s_bd l hp
 have h := sizes_l l hl hp l.length 0 0 0 O_ O_ O_ O_ O_ (by rw [List.drop_zero]; omega) (by rw [List.drop_zero]; omega) k hk
 rw [List.drop_zero, Int.zero_add, Int.zero_add] at h
 exact h
def tkN : Pt → Nat
 | .K n => n
 | .W _ => 0
 | .D d => d.size
def tks : List Pt → Nat
 | [] => 0
 | q :: r => tkN q + tks r
theorem tks_append : ∀ (a b : List Pt), tks (a ++ b) = tks a + tks b
 | [], b => by simp [tks]
 | q :: a, b => by simp only [List.cons_append, tks, tks_append a b]; omega
theorem mass_app : ∀ (a b : List Pt), mass (a ++ b) = mass a + mass b
 | [], b => by simp [mass]
 | q :: a, b => by simp only [List.cons_append, mass, mass_app a b]; omega
theorem rd_at (L : List Pt) (i : Nat) (h : i < L.length) : sp (L.map encP) (i : Int) = encP L[i] := by
 unfold sp
 rw [tN_, List.getD_eq_getElem?_getD, List.getElem?_eq_getElem (by rw [lM_]; exact h), Option.getD_some, List.getElem_map]
theorem fold_pos : ∀ (L r : List Pt), (∀ x ∈ L, 0 < massP x) → (∀ x ∈ r, 0 < massP x) → (∀ x ∈ L.foldl addP r, 0 < massP x) ∧ mass (L.foldl addP r) = mass r + mass L
 | [], r, _, hr => ⟨hr, by simp [mass]⟩
 | q :: L, r, hL, hr => by
  obtain ⟨h1, h2⟩ := fold_pos L (addP r q) (fun x h => hL x (List.mem_cons_of_mem _ h)) (pos_add r q hr (hL q List.mem_cons_self))
  exact ⟨h1, by rw [List.foldl_cons, h2, mass_add]; simp only [mass]; omega⟩
def nf (L : List Pt) : List Pt := (L.foldl addP []).reverse
theorem nf_pos {L : List Pt} (hL : ∀ x ∈ L, 0 < massP x) : ∀ x ∈ nf L, 0 < massP x := fun x hx => (fold_pos L [] hL (fun x h => by cases h)).1 x (List.mem_reverse.1 hx)
theorem mass_revA : ∀ r : List Pt, mass r.reverse = mass r
 | [] => rfl
 | q :: r => by rw [List.reverse_cons, mass_app, mass_revA r]; simp only [mass]; omega
theorem nf_mass {L : List Pt} (hL : ∀ x ∈ L, 0 < massP x) : mass (nf L) = mass L := by
 unfold nf
 rw [mass_revA, (fold_pos L [] hL (fun x h => by cases h)).2]
 simp [mass]
theorem addQ_pos (r : List Pt) (q : Pt) (h : 0 < massP q) : addQ r q = addP r q := iN_ O_
theorem foldQ : ∀ (L r : List Pt), (∀ x ∈ L, 0 < massP x) → L.foldl addQ r = L.foldl addP r
 | [], _, _ => rfl
 | q :: L, r, h => by
  rw [List.foldl_cons, List.foldl_cons, addQ_pos r q (h q List.mem_cons_self)]
  exact foldQ L _ fun x hx => h x (List.mem_cons_of_mem _ hx)
theorem normalI_ev (L : List Pt) (hL : ∀ x ∈ L, 0 < massP x) (hm : mass L ≤ 1000000) : impl_normal.f (L.map encP) = some ((nf L).map encP) := by
 rw [normal_ev L hm, foldQ L [] hL]; rfl
theorem l3AddS (k : Nat) (hk : 5 ≤ k) (r : List Pt) (hr : ∀ x ∈ r, 0 < massP x) (q : Pt) (hq : 0 < massP q) (hm : mass r + massP q ≤ 1000000) :
  spec_l3Add.f k (r.reverse.map encP) (encP q).f0 (encP q).f1 (encP q).f2 = some ((addP r q).reverse.map encP) := by
 obtain ⟨k, rfl⟩ : ∃ m, k = m + 5 := ⟨k - 5, O_⟩
 rw [l3AddQ k r hr q hm, addQ_pos r q hq]
theorem normalS_l (L : List Pt) (hL : ∀ x ∈ L, 0 < massP x) (hl : L.length ≤ 1000000) : ∀ (d i : Nat) (r : List Pt), i + d = L.length → (∀ x ∈ r, 0 < massP x) → mass r + mass (L.drop i) ≤ 1000000 →
  ∀ k, d + 6 ≤ k → spec_l3Normal.l0 k (r.reverse.map encP) (L.map encP) ((L.map encP).length : Int) (i : Int) = some (((L.drop i).foldl addP r).reverse.map encP) := by
 intro d
 induction d with
 | zero =>
  intro i r hi hr hm k hk
  obtain ⟨k, rfl⟩ := k1_ k
  unfold spec_l3Normal.l0
  rw [lM_, iN_ O_, List.drop_of_length_le O_]
  rfl
 | succ d ih =>
  intro i r hi hr hm k hk
  have hil : i < L.length := by omega
  obtain ⟨k, rfl⟩ := k1_ k
  have hd := List.drop_eq_getElem_cons hil
  rw [hd] at hm ⊢
  have e0 : mass (L[i] :: L.drop (i + 1)) = massP L[i] + mass (L.drop (i + 1)) := rfl
  rw [e0] at hm
  have hq := hL L[i] (List.getElem_mem hil)
  unfold spec_l3Normal.l0
  rw [lM_, ip_ O_, ip_ O_, ip_ O_, rd_at L i hil, l3AddS k O_ r hr L[i] hq O_, bs_, w64 O_ O_]
  have := ih (i + 1) (addP r L[i]) O_ (pos_add r _ hr hq) (by rw [mass_add]; omega) k O_
  rw [lM_, show ((i + 1 : Nat) : Int) = (i : Int) + 1 by omega] at this
  rw [this, List.foldl_cons]
theorem normalS_ev (L : List Pt) (hL : ∀ x ∈ L, 0 < massP x) (hm : mass L ≤ 1000000) : ∀ k, L.length + 6 ≤ k → spec_l3Normal.f k (L.map encP) = some ((nf L).map encP) := fun k hk => by
 have hl := mass_len hL
 have := normalS_l L hL O_ L.length 0 [] O_ (fun x h => by cases h) (by rw [List.drop_zero]; simp only [mass]; omega) k hk
 rw [List.drop_zero] at this
 exact this
def drp : List Pt → List Int
 | [] => []
 | .K n :: l => List.replicate n 0 ++ drp l
 | .W _ :: l => drp l
 | .D d :: l => bytesOf d ++ drp l
theorem drp_len : ∀ L : List Pt, (drp L).length = tks L
 | [] => rfl
 | .K n :: l => by simp only [drp, lA_, List.length_replicate, drp_len l]; rfl
 | .W w :: l => by simp only [drp, drp_len l]; show _ = 0 + tks l; omega
 | .D d :: l => by simp only [drp, lA_, bytesOf_length, drp_len l]; rfl
theorem drp_app : ∀ a b : List Pt, drp (a ++ b) = drp a ++ drp b
 | [], b => rfl
 | .K n :: a, b => by simp only [List.cons_append, drp, drp_app a b, List.append_assoc]
 | .W w :: a, b => by simp only [List.cons_append, drp, drp_app a b]
 | .D d :: a, b => by simp only [List.cons_append, drp, drp_app a b, List.append_assoc]
theorem bytesOf_app (a b : ByteArray) : bytesOf (a ++ b) = bytesOf a ++ bytesOf b := by
 unfold bytesOf
 rw [ByteArray.data_append, Array.toList_append, List.map_append]
theorem drp_add (r : List Pt) (q : Pt) : drp (addP r q).reverse = drp r.reverse ++ drp [q] := by
 unfold addP
 split <;> simp only [List.reverse_cons, drp_app, drp, List.append_nil, List.append_assoc, bytesOf_app, List.replicate_append_replicate, List.nil_append]
theorem drp_fold : ∀ (L r : List Pt), drp (L.foldl addP r).reverse = drp r.reverse ++ drp L
 | [], r => by simp [drp]
 | q :: L, r => by
  rw [List.foldl_cons, drp_fold L, drp_add, List.append_assoc, ← drp_app]; rfl
theorem drp_nf (L : List Pt) : drp (nf L) = drp L := by
 unfold nf
 rw [drp_fold]; rfl
theorem tks_nf (L : List Pt) : tks (nf L) = tks L := by rw [← drp_len, drp_nf, drp_len]
theorem tks_le : ∀ L : List Pt, tks L ≤ mass L
 | [] => Nat.le_refl _
 | q :: l => by
  have := tks_le l
  have h : tkN q ≤ massP q := by cases q <;> first | exact Nat.le_refl _ | exact Nat.zero_le _
  simp only [tks, mass]; omega
theorem bytes_l (L : List Pt) (hl : L.length ≤ 1000000) : ∀ (d i : Nat) (acc : List Int), i + d = L.length → acc.length + tks (L.drop i) ≤ 1000000000 →
  ∀ k, d < k → spec_l4Bytes.l0 k acc (L.map encP) ((L.map encP).length : Int) (i : Int) = some (acc ++ drp (L.drop i)) := by
 intro d
 induction d with
 | zero =>
  intro i acc hi hm k hk
  obtain ⟨k, rfl⟩ := k1_ k
  unfold spec_l4Bytes.l0
  rw [lM_, iN_ O_, List.drop_of_length_le O_]
  show some acc = some (acc ++ [])
  rw [List.append_nil]
 | succ d ih =>
  intro i acc hi hm k hk
  have hil : i < L.length := by omega
  obtain ⟨k, rfl⟩ := k1_ k
  have hd := List.drop_eq_getElem_cons hil
  rw [hd] at hm ⊢
  have e0 : tks (L[i] :: L.drop (i + 1)) = tkN L[i] + tks (L.drop (i + 1)) := rfl
  rw [e0] at hm
  unfold spec_l4Bytes.l0
  rw [lM_, ip_ O_, ip_ O_, ip_ O_, rd_at L i hil]
  have key : ∀ (n : Nat) (s : ByteArray), tkN L[i] = n + s.size → drp (L[i] :: L.drop (i + 1)) = List.replicate n 0 ++ (bytesOf s ++ drp (L.drop (i + 1))) → (encP L[i]).f0 = (n : Int) → (encP L[i]).f2 = s →
    (if 0 ≤ (encP L[i]).f0 then (if acc.length + ((encP L[i]).f0 : Int).toNat < 140737488355328 then ((some (acc ++ List.replicate ((encP L[i]).f0 : Int).toNat 0 : List Int)).bind fun y => (if y.length + ((encP L[i]).f2).size < 140737488355328 then (spec_l4Bytes.l0 k (y ++ bytesOf ((encP L[i]).f2)) (L.map encP) (L.length : Int) (wrap64 ((i : Int) + 1))) else none)) else none) else none) = some (acc ++ drp (L[i] :: L.drop (i + 1))) := by
   intro n s hn hdr h0 h2
   rw [h0, h2, tN_, ip_ O_, ip_ O_, bs_, ip_ (by rw [lA_, List.length_replicate]; omega), w64 O_ O_, hdr]
   have := ih (i + 1) ((acc ++ List.replicate n 0) ++ bytesOf s) O_ (by rw [lA_, lA_, List.length_replicate, bytesOf_length]; omega) k O_
   rw [lM_, show ((i + 1 : Nat) : Int) = (i : Int) + 1 by omega] at this
   rw [this, List.append_assoc, List.append_assoc]
  cases hq : L[i] with
  | K n =>
   rw [hq] at key
   exact key n ⟨#[]⟩ rfl rfl rfl rfl
  | W w =>
   rw [hq] at key
   exact key 0 ⟨#[]⟩ rfl rfl rfl rfl
  | D w =>
   rw [hq] at key
   exact key 0 w (by show w.size = 0 + w.size; omega) rfl rfl rfl
theorem bytes_ev (L : List Pt) (hl : L.length ≤ 1000000) (hm : mass L ≤ 1000000) : ∀ k, L.length < k → spec_l4Bytes.f k (L.map encP) = some (drp L) := fun k hk => by
 have := tks_le L
 have := bytes_l L hl L.length 0 [] O_ (by rw [List.drop_zero]; simp only [List.length_nil]; omega) k hk
 rw [List.drop_zero] at this
 exact this
def bad : Pt → Pt → Prop
 | .D _, .D _ => True
 | .D _, .W _ => True
 | _, _ => False
def okR : List Pt → Prop
 | b :: a :: r => ¬ bad a b ∧ okR (a :: r)
 | _ => True
def okF : List Pt → Prop
 | a :: b :: l => ¬ bad a b ∧ okF (b :: l)
 | _ => True
theorem okF_snoc : ∀ (l : List Pt) (a b : Pt), okF (l ++ [a]) → ¬ bad a b → okF (l ++ [a] ++ [b])
 | [], a, b, _, h => ⟨h, trivial⟩
 | [x], a, b, h1, h => ⟨h1.1, h, trivial⟩
 | x :: y :: l, a, b, h1, h => ⟨h1.1, okF_snoc (y :: l) a b h1.2 h⟩
theorem okR_F : ∀ r : List Pt, okR r → okF r.reverse
 | [], _ => trivial
 | [a], _ => trivial
 | b :: a :: r, h => by
  have := okR_F (a :: r) h.2
  rw [List.reverse_cons] at this
  rw [List.reverse_cons, List.reverse_cons]
  exact okF_snoc _ a b this h.1
theorem okR_tail {q : Pt} {r : List Pt} (h : okR (q :: r)) : okR r := by
 cases r with
 | nil => trivial
 | cons a r => exact h.2
theorem okR_swap {q q' : Pt} {r : List Pt} (h : okR (q :: r)) (hb : ∀ a, bad a q' → bad a q) : okR (q' :: r) := by
 cases r with
 | nil => trivial
 | cons a r => exact ⟨fun c => h.1 (hb a c), h.2⟩
theorem bad_W {a : Pt} {u v : ByteArray} (h : bad a (.W u)) : bad a (.W v) := by cases a <;> first | exact h.elim | trivial
theorem bad_D {a : Pt} {u v : ByteArray} (h : bad a (.D u)) : bad a (.D v) := by cases a <;> first | exact h.elim | trivial
theorem okR_add (r : List Pt) (q : Pt) (h : okR r) : okR (addP r q) := by
 unfold addP
 split
 ·exact okR_swap h (fun a c => by cases a <;> exact c.elim)
 ·exact okR_swap h (fun a c => bad_D c)
 ·exact okR_swap h (fun a c => bad_W c)
 ·rename_i d a w r
  exact ⟨fun c => c.elim, okR_swap (okR_tail h) (fun x c => bad_W c)⟩
 ·rename_i d r w hr
  refine ⟨fun c => c.elim, ?_⟩
  cases r with
  | nil => trivial
  | cons a r =>
   refine ⟨fun c => ?_, okR_tail h⟩
   cases a with
   | K n => exact c.elim
   | W u => exact c.elim
   | D u => exact h.1 trivial
 ·rename_i h1 h2 h3 h4 h5
  cases r with
  | nil => trivial
  | cons a r =>
   refine ⟨fun c => ?_, h⟩
   cases a with
   | K n => exact c.elim
   | W u => exact c.elim
   | D u =>
    cases q with
    | K n => exact c.elim
    | W w => exact h5 _ _ _ rfl rfl
    | D w => exact h2 _ _ _ rfl rfl
theorem okR_fold : ∀ (L r : List Pt), okR r → okR (L.foldl addP r)
 | [], _, h => h
 | q :: L, r, h => okR_fold L _ (okR_add r q h)
theorem okF_nf (L : List Pt) : okF (nf L) := okR_F _ (okR_fold L [] trivial)
def nzD (r : List Pt) : Prop := ∀ d, Pt.D d ∈ r → ∀ j : Nat, j < d.size → bt d (j : Int) ≠ 0
theorem bt_get (s : ByteArray) (i : Nat) (h : i < s.size) : (bytesOf s)[i]? = some (bt s (i : Int)) := by
 unfold bytesOf
 rw [List.getElem?_map, List.getElem?_eq_getElem (by rw [Array.length_toList]; exact h), Option.map_some, bt_data s i h]
theorem bt_app (a b : ByteArray) (j : Nat) (h : j < (a ++ b).size) : bt (a ++ b) (j : Int) = if j < a.size then bt a (j : Int) else bt b ((j - a.size : Nat) : Int) := by
 have h0 := bt_get (a ++ b) j h
 rw [bytesOf_app] at h0
 by_cases h1 : j < a.size
 ·rw [List.getElem?_append_left (by rw [bytesOf_length]; exact h1), bt_get a j h1] at h0
  rw [ip_ h1]
  exact (Option.some.inj h0).symm
 ·rw [List.getElem?_append_right (by rw [bytesOf_length]; omega), bytesOf_length, bt_get b _ (by rw [zA_] at h; omega)] at h0
  rw [iN_ h1]
  exact (Option.some.inj h0).symm
theorem nz_app {a b : ByteArray} (ha : ∀ j : Nat, j < a.size → bt a (j : Int) ≠ 0) (hb : ∀ j : Nat, j < b.size → bt b (j : Int) ≠ 0) : ∀ j : Nat, j < (a ++ b).size → bt (a ++ b) (j : Int) ≠ 0 := fun j hj => by
 rw [bt_app a b j hj]
 split
 ·exact ha j (by assumption)
 ·exact hb _ (by rw [zA_] at hj; omega)
theorem nzD_add (r : List Pt) (q : Pt) (h : nzD r) (hq : nzD [q]) : nzD (addP r q) := by
 unfold addP
 split
 ·intro d hd; exact h d (by simp at hd ⊢; exact hd)
 ·rename_i a r b
  intro d hd
  rcases List.mem_cons.1 hd with e | hd
  ·injection e with e
   subst e
   exact nz_app (h a (by simp)) (hq b (by simp))
  ·exact h d (List.mem_cons_of_mem _ hd)
 ·intro d hd; exact h d (by simp at hd ⊢; exact hd)
 ·intro d hd; exact h d (by simp at hd ⊢; exact hd)
 ·intro d hd; exact h d (by simp at hd ⊢; exact hd)
 ·intro d hd
  rcases List.mem_cons.1 hd with e | hd
  ·exact hq d (by rw [← e]; simp)
  ·exact h d hd
theorem nzD_fold : ∀ (L r : List Pt), nzD L → nzD r → nzD (L.foldl addP r)
 | [], _, _, h => h
 | q :: L, r, hL, h => nzD_fold L _ (fun d hd => hL d (List.mem_cons_of_mem _ hd)) (nzD_add r q h (fun d hd => hL d (by rw [List.mem_singleton.1 hd]; exact List.mem_cons_self)))
theorem nzD_nf {L : List Pt} (h : nzD L) : nzD (nf L) := fun d hd => nzD_fold L [] h (fun d hd => by cases hd) d (List.mem_reverse.1 hd)
def gD (l : List Int) (i : Nat) : Int := l.getD i 0
theorem gD_l (a b : List Int) (i : Nat) (h : i < a.length) : gD (a ++ b) i = gD a i := by
 unfold gD
 rw [List.getD_eq_getElem?_getD, List.getD_eq_getElem?_getD, List.getElem?_append_left h]
theorem gD_r (a b : List Int) (i : Nat) (h : a.length ≤ i) : gD (a ++ b) i = gD b (i - a.length) := by
 unfold gD
 rw [List.getD_eq_getElem?_getD, List.getD_eq_getElem?_getD, List.getElem?_append_right h]
theorem gD_rep (n : Nat) (v : Int) (i : Nat) (h : i < n) : gD (List.replicate n v) i = v := by
 unfold gD
 rw [List.getD_eq_getElem?_getD, List.getElem?_replicate, ip_ h]; rfl
theorem gD_bytes (d : ByteArray) (i : Nat) (h : i < d.size) : gD (bytesOf d) i = bt d (i : Int) := by
 unfold gD
 rw [List.getD_eq_getElem?_getD, bt_get d i h]; rfl
theorem rd_gD (l : List Int) (i : Nat) : rd l (i : Int) = gD l i := by
 unfold rd gD
 rw [tN_]
theorem okB0 : okB 0 = false := by decide
theorem pk_nz {X : List Pt} (h : ∀ p ∈ X.map encP, PK p) : nzD X := fun d hd j hj hc => by
 rcases h (encP (.D d)) (List.mem_map_of_mem hd) with ⟨_, _, _, a⟩ | ⟨_, a, _⟩ | ⟨a, _⟩
 ·have := (textB_iff d).1 a
  have := this.1 j hj
  rw [hc, okB0] at this
  cases this
 ·exact a nil_toList
 ·exact absurd a (by show ¬ (1 : Int) ≤ 0; omega)
theorem pk_enc : ∀ (l : List S68), (∀ p ∈ l, PK p) → ∃ L : List Pt, L.map encP = l ∧ ∀ x ∈ L, 0 < massP x
 | [], _ => ⟨[], rfl, fun x h => by cases h⟩
 | p :: l, h => by
  obtain ⟨L, e, hp⟩ := pk_enc l fun q hq => h q (List.mem_cons_of_mem _ hq)
  have hq := h p List.mem_cons_self
  have key : ∃ q : Pt, encP q = p ∧ 0 < massP q := by
   obtain ⟨a, b, c⟩ := p
   rcases hq with ⟨h0, h1, h2, h3⟩ | ⟨h0, h1, h2, h3⟩ | ⟨h0, h1, h2, h3⟩
   ·refine ⟨.D c, ?_, ?_⟩
    ·have e1 : a = 0 := h0
     have e2 : b = ⟨#[]⟩ := size0_eq (tl_nil.1 h1)
     rw [e1, e2]; rfl
    ·have : ¬ c.size = 0 := fun e => h2 (tl_nil.2 e)
     show 0 < c.size; omega
   ·refine ⟨.W b, ?_, ?_⟩
    ·have e1 : a = 0 := h0
     have e2 : c = ⟨#[]⟩ := size0_eq (tl_nil.1 h2)
     rw [e1, e2]; rfl
    ·have : ¬ b.size = 0 := fun e => h1 (tl_nil.2 e)
     show 0 < b.size; omega
   ·refine ⟨.K a.toNat, ?_, ?_⟩
    ·have e1 : b = ⟨#[]⟩ := size0_eq (tl_nil.1 h2)
     have e2 : c = ⟨#[]⟩ := size0_eq (tl_nil.1 h3)
     have e3 : ((a.toNat : Nat) : Int) = a := Int.toNat_of_nonneg (by have : 1 ≤ a := h0; omega)
     rw [e1, e2]
     show (⟨((a.toNat : Nat) : Int), ⟨#[]⟩, ⟨#[]⟩⟩ : S68) = _
     rw [e3]
    ·have : 1 ≤ a := h0
     show 0 < a.toNat; omega
  obtain ⟨q, e1, e2⟩ := key
  refine ⟨q :: L, by rw [List.map_cons, e, e1], fun x hx => ?_⟩
  rcases List.mem_cons.1 hx with rfl | hx
  ·exact e2
  ·exact hp x hx
def okW : List Pt → Prop
 | .W _ :: .W _ :: _ => False
 | _ :: l => okW l
 | [] => True
def dlP : List Pt → Int
 | .D d :: _ => (d.size : Int)
 | _ => 0
def cutI (n a : Int) : Int := if a < n then a else n
def hiP : List Pt → Int → Int
 | [], _ => 0
 | .K n :: l, a => if a ≤ 0 then 0 else cutI (n : Int) a + hiP l (a - (n : Int))
 | .W w :: l, a => if a < 0 then 0 else (w.size : Int) + hiP l a
 | .D d :: l, a => if a < 0 then 0 else hiP l (a - (d.size : Int))
def loP : List Pt → Int → Int
 | [], _ => 0
 | .K n :: l, a => if a ≤ 0 then 0 else cutI (n : Int) a + loP l (a - (n : Int))
 | .W w :: l, a => (if a > dlP l then (w.size : Int) else 0) + loP l a
 | .D d :: l, a => loP l (a - (d.size : Int))
theorem dlP_nn (l : List Pt) : 0 ≤ dlP l := by
 unfold dlP; split <;> omega
theorem hi_neg (l : List Pt) (a : Int) (h : a < 0) : hiP l a = 0 := by
 cases l with
 | nil => rfl
 | cons q l => cases q <;> simp only [hiP] <;> rw [ip_ O_]
theorem lo_np : ∀ (l : List Pt) (a : Int), a ≤ 0 → loP l a = 0
 | [], _, _ => rfl
 | .K n :: l, a, h => by simp only [loP]; rw [ip_ h]
 | .W w :: l, a, h => by
  have := dlP_nn l
  simp only [loP]
  rw [iN_ O_, lo_np l a h]; rfl
 | .D d :: l, a, h => by simp only [loP]; exact lo_np l _ O_
theorem hiK0 (n : Nat) (l : List Pt) {a : Int} (h : a ≤ 0) : hiP (.K n :: l) a = 0 := ip_ h
theorem loK0 (n : Nat) (l : List Pt) {a : Int} (h : a ≤ 0) : loP (.K n :: l) a = 0 := ip_ h
theorem hiK1 (n : Nat) (l : List Pt) {a : Int} (h : 0 < a) : hiP (.K n :: l) a = cutI (n : Int) a + hiP l (a - (n : Int)) := iN_ O_
theorem loK1 (n : Nat) (l : List Pt) {a : Int} (h : 0 < a) : loP (.K n :: l) a = cutI (n : Int) a + loP l (a - (n : Int)) := iN_ O_
theorem hiW1 (w : ByteArray) (l : List Pt) {a : Int} (h : 0 ≤ a) : hiP (.W w :: l) a = (w.size : Int) + hiP l a := iN_ O_
theorem loW1 (w : ByteArray) (l : List Pt) {a : Int} (h : a > dlP l) : loP (.W w :: l) a = (w.size : Int) + loP l a := by
 simp only [loP]; rw [ip_ h]
theorem loW0 (w : ByteArray) (l : List Pt) {a : Int} (h : ¬ a > dlP l) : loP (.W w :: l) a = loP l a := by
 simp only [loP]; rw [iN_ h, Int.zero_add]
theorem hiD1 (w : ByteArray) (l : List Pt) (a : Int) : hiP (.D w :: l) a = hiP l (a - (w.size : Int)) := by
 by_cases c : a < 0
 ·rw [hi_neg _ _ c, hi_neg _ _ O_]
 ·exact iN_ c
theorem loD1 (w : ByteArray) (l : List Pt) (a : Int) : loP (.D w :: l) a = loP l (a - (w.size : Int)) := rfl
theorem mp_l (L : List Pt) (hp : ∀ x ∈ L, 0 < massP x) (hm : mass L ≤ 1000000) (at_ : Int) (aft : Bool) (ha : 0 ≤ at_ ∧ at_ ≤ 1000000) :
  ∀ (d i : Nat) (out from_ : Int), i + d = L.length → okW (L.drop i) → 0 ≤ out → out ≤ 10000000 → out + mass (L.drop i) ≤ 10000000 → 0 ≤ from_ → from_ + mass (L.drop i) ≤ 10000000 → ∀ k, 2 * d < k →
   impl_movePlace.l0 k (L.map encP) at_ aft out from_ (i : Int) = some (out + (if aft = true then hiP (L.drop i) (at_ - from_) else loP (L.drop i) (at_ - from_))) := by
 intro d
 induction d using Nat.strongRecOn with
 | _ d ih =>
 intro i out from_ hi hW h1 h2 h3 h4 h5 k hk
 obtain ⟨k, rfl⟩ := k1_ k
 by_cases hd : d = 0
 ·subst hd
  unfold impl_movePlace.l0
  rw [lM_, iN_ O_, List.drop_of_length_le O_]
  cases aft <;> simp [hiP, loP]
 ·have hil : i < L.length := by omega
  have hll := mass_len hp
  have hdr := List.drop_eq_getElem_cons hil
  have hq := hp L[i] (List.getElem_mem hil)
  have hi1 : wrap64 ((i : Int) + 1) = ((i + 1 : Nat) : Int) := (w64 O_ O_).trans O_
  generalize hR : L.drop (i + 1) = R at hdr
  rw [hdr] at hW h3 h5 ⊢
  have e0 : mass (L[i] :: R) = massP L[i] + mass R := rfl
  rw [e0] at h3 h5
  unfold impl_movePlace.l0
  rw [lM_, ip_ O_, ip_ O_, rd_at L i hil]
  cases hx : L[i] with
  | K n =>
   rw [hx] at hW h3 h5 hq
   have hn : 0 < n := hq
   have e1 : (encP (.K n)).f0 = (n : Int) := rfl
   have e2 : massP (.K n) = n := rfl
   rw [e2] at h3 h5
   rw [e1, ip_ O_]
   by_cases c : at_ ≤ from_
   ·rw [ip_ c]
    rw [hiK0 n R O_, loK0 n R O_]
    cases aft <;> simp
   ·rw [iN_ c, w64 (i := at_ - from_) O_ O_]
    have hc : mn (n : Int) (at_ - from_) = cutI (n : Int) (at_ - from_) := rfl
    have hb : 0 ≤ cutI (n : Int) (at_ - from_) ∧ cutI (n : Int) (at_ - from_) ≤ n := by unfold cutI; split <;> omega
    rw [hc, w64 (i := out + cutI (n : Int) (at_ - from_)) O_ O_, w64 (i := from_ + (n : Int)) O_ O_, hi1,
     ih (d - 1) O_ (i + 1) _ _ O_ (by rw [hR]; exact hW) O_ O_ (by rw [hR]; omega) O_ (by rw [hR]; omega) k O_, hR]
    rw [hiK1 n R O_, loK1 n R O_, show at_ - (from_ + (n : Int)) = at_ - from_ - (n : Int) by omega]
    cases aft <;> simp [Int.add_assoc]
  | D w =>
   rw [hx] at hW h3 h5 hq
   have e1 : (encP (.D w)).f0 = 0 := rfl
   have e2 : (encP (.D w)).f1 = ⟨#[]⟩ := rfl
   have e3 : (encP (.D w)).f2 = w := rfl
   have e4 : massP (.D w) = w.size := rfl
   have e5 : ((⟨#[]⟩ : ByteArray).size : Int) = 0 := rfl
   rw [e4] at h3 h5
   rw [e1, e2, e3, e5, iN_ O_, w64 (i := from_ + (w.size : Int)) O_ O_]
   have key : ∀ k, 2 * d ≤ k → impl_movePlace.j1 k (L.map encP) at_ aft out from_ (i : Int) 0 (from_ + (w.size : Int)) false = some (out + (if aft = true then hiP (.D w :: R) (at_ - from_) else loP (.D w :: R) (at_ - from_))) := by
    intro k hk
    obtain ⟨k, rfl⟩ := k1_ k
    unfold impl_movePlace.j1
    have hr : ∀ o, o = out → impl_movePlace.l0 k (L.map encP) at_ aft o (from_ + (w.size : Int)) ((i + 1 : Nat) : Int) = some (out + (if aft = true then hiP (.D w :: R) (at_ - from_) else loP (.D w :: R) (at_ - from_))) := by
     intro o ho
     subst ho
     rw [ih (d - 1) O_ (i + 1) _ _ O_ (by rw [hR]; exact hW) O_ O_ (by rw [hR]; omega) O_ (by rw [hR]; omega) k O_, hR]
     rw [hiD1, loD1, show at_ - (from_ + (w.size : Int)) = at_ - from_ - (w.size : Int) by omega]
    rw [iN_ (by simp), hi1, w64 (i := out + 0) O_ O_, hr _ O_, hr _ rfl]
    split <;> (try split) <;> (try split) <;> rfl
   rw [hi1]
   split
   ·rw [ip_ nil_toList]
    exact key k O_
   ·exact key k O_
  | W w =>
   rw [hx] at hW h3 h5 hq
   have e1 : (encP (.W w)).f0 = 0 := rfl
   have e2 : (encP (.W w)).f1 = w := rfl
   have e3 : (encP (.W w)).f2 = ⟨#[]⟩ := rfl
   have e4 : massP (.W w) = w.size := rfl
   have e5 : ((⟨#[]⟩ : ByteArray).size : Int) = 0 := rfl
   rw [e4] at h3 h5 hq
   rw [e1, e2, e3, e5, iN_ O_, w64 (i := from_ + 0) O_ O_]
   have hWR : okW R := by
    cases R with
    | nil => trivial
    | cons q R => cases q <;> first | exact hW | exact hW.elim
   have key : dlP R = 0 → ∀ k, 2 * d ≤ k → impl_movePlace.j1 k (L.map encP) at_ aft out from_ (i : Int) (w.size : Int) (from_ + 0) false = some (out + (if aft = true then hiP (.W w :: R) (at_ - from_) else loP (.W w :: R) (at_ - from_))) := by
    intro hz k hk
    obtain ⟨k, rfl⟩ := k1_ k
    unfold impl_movePlace.j1
    have hr : ∀ o, 0 ≤ o → o ≤ out + w.size → impl_movePlace.l0 k (L.map encP) at_ aft o (from_ + 0) ((i + 1 : Nat) : Int) = some (o + (if aft = true then hiP R (at_ - from_) else loP R (at_ - from_))) := by
     intro o ho ho2
     rw [ih (d - 1) O_ (i + 1) _ _ O_ (by rw [hR]; exact hWR) O_ O_ (by rw [hR]; omega) O_ (by rw [hR]; omega) k O_, hR, Int.add_zero]
    rw [iN_ (by simp), hi1, w64 (i := out + (w.size : Int)) O_ O_, hr _ O_ O_, hr _ O_ O_]
    by_cases c : at_ > from_ + 0
    ·rw [ip_ c, hiW1 w R O_, loW1 w R O_]
     cases aft <;> simp [Int.add_assoc]
    ·rw [iN_ c, loW0 w R O_]
     by_cases c2 : at_ ≥ from_
     ·rw [ip_ c2, hiW1 w R O_]
      cases aft <;> simp [Int.add_assoc]
     ·rw [iN_ c2, hi_neg _ _ O_, hi_neg _ _ O_]
   rw [hi1]
   by_cases hn : i + 1 < L.length
   ·rw [ip_ O_, iN_ (pos_toList hq), ip_ O_, rd_at L (i + 1) hn]
    have hdr2 := List.drop_eq_getElem_cons hn
    rw [hR] at hdr2
    generalize hR2 : L.drop (i + 1 + 1) = R2 at hdr2
    have hq2 := hp L[i + 1] (List.getElem_mem hn)
    cases hy : L[i + 1] with
    | K m =>
     have : ((encP (.K m)).f2.toList != ([] : List UInt8)) = false := by
      show ((⟨#[]⟩ : ByteArray).toList != ([] : List UInt8)) = false
      rw [nil_toList]; rfl
     rw [this]
     exact key (by rw [hdr2, hy]; rfl) k O_
    | W m =>
     rw [hdr2, hy] at hW
     exact hW.elim
    | D m =>
     rw [hy] at hq2 hdr2
     have hq2' : 0 < m.size := hq2
     have hb : ((encP (.D m)).f2.toList != ([] : List UInt8)) = true := by
      show (m.toList != ([] : List UInt8)) = true
      rw [bne_iff_ne]; exact pos_toList hq2'
     rw [hb]
     obtain ⟨k, rfl⟩ := k1_ k
     have hmR : mass R = m.size + mass R2 := by rw [hdr2]; rfl
     have hWR2 : okW R2 := by rw [hdr2] at hWR; exact hWR
     unfold impl_movePlace.j1
     have e6 : (encP (.D m)).f2 = m := rfl
     have hr : ∀ o, 0 ≤ o → o ≤ out + w.size → impl_movePlace.l0 k (L.map encP) at_ aft o (from_ + (m.size : Int)) ((i + 1 + 1 : Nat) : Int) = some (o + (if aft = true then hiP R2 (at_ - from_ - (m.size : Int)) else loP R2 (at_ - from_ - (m.size : Int)))) := by
      intro o ho ho2
      rw [ih (d - 2) O_ (i + 1 + 1) _ _ O_ (by rw [hR2]; exact hWR2) O_ O_ (by rw [hR2]; omega) O_ (by rw [hR2]; omega) k O_, hR2, show at_ - (from_ + (m.size : Int)) = at_ - from_ - (m.size : Int) by omega]
     rw [ip_ rfl, hi1, ip_ O_, lM_, ip_ O_, rd_at L (i + 1) hn, hy, e6, w64 (i := from_ + (m.size : Int)) O_ O_,
      w64 (i := ((i + 1 : Nat) : Int) + 1) O_ O_, show ((i + 1 : Nat) : Int) + 1 = ((i + 1 + 1 : Nat) : Int) by omega, w64 (i := out + (w.size : Int)) O_ O_, hr _ O_ O_, hr _ O_ O_, hdr2]
     have hdl : dlP (.D m :: R2) = (m.size : Int) := rfl
     by_cases c : at_ > from_ + (m.size : Int)
     ·rw [ip_ c, hiW1 w _ O_, loW1 w _ O_, hiD1, loD1]
      cases aft <;> simp [Int.add_assoc]
     ·rw [iN_ c, loW0 w _ O_, loD1]
      by_cases c2 : at_ ≥ from_
      ·rw [ip_ c2, hiW1 w _ O_, hiD1]
       cases aft <;> simp [Int.add_assoc]
      ·rw [iN_ c2, hi_neg _ _ O_, hi_neg (.W w :: .D m :: R2) _ O_]
   ·have hR0 : R = [] := by rw [← hR]; exact List.drop_of_length_le O_
    rw [iN_ O_]
    exact key (by rw [hR0]; rfl) k O_
def kp (B : List Int) : Nat → Nat → Bool
 | 0, _ => false
 | d + 1, i => if gD B i = 0 then true else kp B d (i + 1)
theorem kp_l (B : List Int) (hB : B.length ≤ 1000000) (at_ : Nat) (ha : at_ ≤ B.length) : ∀ (d i : Nat), i + d = at_ → ∀ k, d < k → spec_l5Kept.l0 k (at_ : Int) B (i : Int) = some (kp B d i) := by
 intro d
 induction d with
 | zero =>
  intro i hi k hk
  obtain ⟨k, rfl⟩ := k1_ k
  unfold spec_l5Kept.l0
  rw [iN_ O_]; rfl
 | succ d ih =>
  intro i hi k hk
  obtain ⟨k, rfl⟩ := k1_ k
  unfold spec_l5Kept.l0 kp
  rw [ip_ O_, ip_ O_, ip_ O_, rd_gD]
  by_cases c : gD B i = 0
  ·rw [ip_ c, ip_ c]
  ·rw [iN_ c, iN_ c, w64 O_ O_]
   exact ih (i + 1) O_ k O_
theorem kp_app (A B : List Int) : ∀ (d j : Nat), kp (A ++ B) d (A.length + j) = kp B d j
 | 0, _ => rfl
 | d + 1, j => by
  unfold kp
  rw [gD_r A B _ O_, show A.length + j - A.length = j by omega, show A.length + j + 1 = A.length + (j + 1) by omega, kp_app A B d (j + 1)]
theorem kp_no (B : List Int) : ∀ (d i : Nat), (∀ j, i ≤ j → j < i + d → gD B j ≠ 0) → kp B d i = false
 | 0, _, _ => rfl
 | d + 1, i, h => by
  unfold kp
  rw [iN_ (h i O_ O_)]
  exact kp_no B d (i + 1) fun j h1 h2 => h j O_ O_
theorem kp_yes (B : List Int) : ∀ (d i j : Nat), i ≤ j → j < i + d → gD B j = 0 → kp B d i = true
 | 0, _, _, h1, h2, _ => by omega
 | d + 1, i, j, h1, h2, h => by
  unfold kp
  by_cases c : gD B i = 0
  ·rw [ip_ c]
  ·rw [iN_ c]
   have : i ≠ j := fun e => c (e ▸ h)
   exact kp_yes B d (i + 1) j O_ O_ h
theorem kp_rest (w : ByteArray) (R : List Pt) (hF : okF (.W w :: R)) (hW : okW (.W w :: R)) (hz : nzD R) (hp : ∀ x ∈ R, 0 < massP x) (a : Nat) (h0 : 0 < a) (h1 : a ≤ tks R) : kp (drp R) a 0 = decide ((a : Int) > dlP R) := by
 match R with
 | [] => exact absurd h1 (by show ¬ a ≤ 0; omega)
 | .W x :: R => exact hW.elim
 | .K n :: R =>
  have hn : 0 < n := hp (.K n) List.mem_cons_self
  have e : dlP (.K n :: R) = 0 := rfl
  rw [kp_yes _ a 0 0 O_ O_ (by show gD (List.replicate n 0 ++ drp R) 0 = 0; rw [gD_l _ _ _ (by rw [List.length_replicate]; omega), gD_rep _ _ _ hn]), e, decide_eq_true O_]
 | .D d :: R =>
  have hd : 0 < d.size := hp (.D d) List.mem_cons_self
  have e : dlP (.D d :: R) = (d.size : Int) := rfl
  have hlow : ∀ j, j < d.size → gD (drp (.D d :: R)) j ≠ 0 := fun j hj => by
   show gD (bytesOf d ++ drp R) j ≠ 0
   rw [gD_l _ _ _ (by rw [bytesOf_length]; omega), gD_bytes d j hj]
   exact hz d List.mem_cons_self j hj
  rw [e]
  by_cases c : (a : Int) > (d.size : Int)
  ·rw [decide_eq_true c]
   have h1' : a ≤ d.size + tks R := h1
   refine kp_yes _ a 0 d.size O_ O_ ?_
   show gD (bytesOf d ++ drp R) d.size = 0
   rw [gD_r _ _ _ (by rw [bytesOf_length]; omega), bytesOf_length, Nat.sub_self]
   match R with
   | [] => exact absurd h1' (by show ¬ a ≤ d.size + 0; omega)
   | .W x :: R => exact absurd trivial hF.2.1
   | .D x :: R => exact absurd trivial hF.2.1
   | .K n :: R =>
    have hn : 0 < n := hp (.K n) (List.mem_cons_of_mem _ List.mem_cons_self)
    show gD (List.replicate n 0 ++ drp R) 0 = 0
    rw [gD_l _ _ _ (by rw [List.length_replicate]; omega), gD_rep _ _ _ hn]
  ·rw [decide_eq_false c]
   exact kp_no _ a 0 fun j _ h2 => hlow j O_
def stopD : List Pt → Int → Prop
 | [], _ => True
 | .K _ :: _, _ => True
 | _, a => a < 0
def stopP : List Pt → Int → Prop
 | [], _ => True
 | .K _ :: _, a => a ≤ 0
 | .W _ :: _, a => a < 0
 | .D d :: l, a => a < 0 ∨ (a ≤ (d.size : Int) ∧ stopD l (a - (d.size : Int)))
theorem gap_u (L : List Pt) (hp : ∀ x ∈ L, 0 < massP x) (hm : mass L ≤ 1000000) (op : List S68) (at_ : Nat) (ha : at_ ≤ 1000000) :
  ∀ (d i : Nat) (lo hi in_ : Int), i + d = L.length → 0 ≤ in_ → in_ + mass (L.drop i) ≤ 20000000 → stopP (L.drop i) ((at_ : Int) - in_) → ∀ k, 2 * d < k →
   spec_l5Gap.l0 k op (at_ : Int) lo hi in_ (L.map encP) ((L.map encP).length : Int) (i : Int) = some (lo, hi) := by
 intro d
 induction d with
 | zero =>
  intro i lo hi in_ hi' _ _ _ k hk
  obtain ⟨k, rfl⟩ := k1_ k
  unfold spec_l5Gap.l0
  rw [iN_ (by rw [lM_]; omega)]
 | succ d ih =>
  intro i lo hi in_ hi' h1 h2 hs k hk
  obtain ⟨k, rfl⟩ := k1_ k
  obtain ⟨k, rfl⟩ := k1_ k
  have hil : i < L.length := by omega
  have hll := mass_len hp
  have hdr := List.drop_eq_getElem_cons hil
  have hq := hp L[i] (List.getElem_mem hil)
  generalize hR : L.drop (i + 1) = R at hdr
  rw [hdr] at h2 hs
  have e0 : mass (L[i] :: R) = massP L[i] + mass R := rfl
  rw [e0] at h2
  have stop : ∀ n b f0 f1 f2, b = true → spec_l5Gap.j1 (k + 1) op (at_ : Int) lo hi in_ n (L.map encP) ((L.map encP).length : Int) (i : Int) b f0 f1 f2 = some (lo, hi) := fun n b f0 f1 f2 hb => by
   unfold spec_l5Gap.j1
   rw [ip_ hb]
  unfold spec_l5Gap.l0
  rw [ip_ (by rw [lM_]; omega), ip_ O_, ip_ (by rw [lM_]; omega), rd_at L i hil]
  by_cases c : in_ > (at_ : Int)
  ·rw [ip_ c]
   exact stop _ _ _ _ _ rfl
  ·rw [iN_ c]
   cases hx : L[i] with
   | W w => rw [hx] at hs; exact absurd (show (at_ : Int) - in_ < 0 from hs) O_
   | K n =>
    rw [hx] at hs hq
    have hs' : (at_ : Int) - in_ ≤ 0 := hs
    have hn : 0 < n := hq
    rw [ip_ O_]
    exact stop _ _ _ _ _ (decide_eq_true (by show ((n : Nat) : Int) > 0; omega))
   | D w =>
    rw [hx] at hs hq h2
    have e2 : (encP (.D w)).f1 = ⟨#[]⟩ := rfl
    have e3 : (encP (.D w)).f2 = w := rfl
    have e1 : (encP (.D w)).f0 = 0 := rfl
    have e4 : massP (.D w) = w.size := rfl
    rw [e4] at h2
    have hs1 : (at_ : Int) - in_ ≤ (w.size : Int) ∧ stopD R ((at_ : Int) - in_ - (w.size : Int)) := by
     rcases (show (at_ : Int) - in_ < 0 ∨ ((at_ : Int) - in_ ≤ (w.size : Int) ∧ stopD R ((at_ : Int) - in_ - (w.size : Int))) from hs) with h | h
     ·omega
     ·exact h
    have hn : stopP (L.drop (i + 1)) ((at_ : Int) - (in_ + (w.size : Int))) := by
     rw [hR]
     have h3 := hs1.1
     have h4 := hs1.2
     match R with
     | [] => trivial
     | .K n :: R => show (at_ : Int) - (in_ + (w.size : Int)) ≤ 0; omega
     | .W n :: R => have h5 : (at_ : Int) - in_ - (w.size : Int) < 0 := h4; show (at_ : Int) - (in_ + (w.size : Int)) < 0; omega
     | .D n :: R => have h5 : (at_ : Int) - in_ - (w.size : Int) < 0 := h4; exact .inl (show (at_ : Int) - (in_ + (w.size : Int)) < 0 by omega)
    have go : ∀ n, spec_l5Gap.j1 (k + 1) op (at_ : Int) lo hi in_ n (L.map encP) ((L.map encP).length : Int) (i : Int) false 0 ⟨#[]⟩ w = some (lo, hi) := fun n => by
     unfold spec_l5Gap.j1
     rw [iN_ (by simp), ip_ nil_toList, iN_ O_, w64 (i := 0 + (w.size : Int)) O_ O_, Int.zero_add, w64 (i := in_ + (w.size : Int)) O_ O_, w64 (i := (i : Int) + 1) O_ O_]
     exact ih (i + 1) lo hi _ O_ O_ (by rw [hR]; omega) hn k O_
    rw [e1, e2, e3]
    split
    ·rw [decide_eq_false O_]; exact go _
    ·exact go _
theorem wi {i : Nat} (h : i < 1000000) : wrap64 ((i : Int) + 1) = ((i + 1 : Nat) : Int) := (w64 O_ O_).trans O_
theorem gap_l (L : List Pt) (hp : ∀ x ∈ L, 0 < massP x) (hm : mass L ≤ 1000000) (hz : nzD L) (op : List S68) (M : Nat) (hb : ∀ k, M ≤ k → spec_l4Bytes.f k op = some (drp L)) (at_ : Nat) (ha : at_ ≤ tks L) :
  ∀ (d i : Nat) (out : Int), i + d = L.length → okF (L.drop i) → okW (L.drop i) → 0 ≤ out → out + mass (L.drop i) ≤ 10000000 → ∀ k, 2 * d + M + at_ < k →
   spec_l5Gap.l0 k op (at_ : Int) out out (tks (L.take i) : Int) (L.map encP) ((L.map encP).length : Int) (i : Int) = some (out + loP (L.drop i) ((at_ : Int) - (tks (L.take i) : Int)), out + hiP (L.drop i) ((at_ : Int) - (tks (L.take i) : Int))) := by
 intro d
 induction d with
 | zero =>
  intro i out hi' hF hW h1 h2 k hk
  obtain ⟨k, rfl⟩ := k1_ k
  unfold spec_l5Gap.l0
  rw [iN_ (by rw [lM_]; omega), List.drop_of_length_le O_]
  show _ = some (out + 0, out + 0)
  rw [Int.add_zero]
 | succ d ih =>
  intro i out hi' hF hW h1 h2 k hk
  obtain ⟨k, rfl⟩ := k1_ k
  obtain ⟨k, rfl⟩ := k1_ k
  have hil : i < L.length := by omega
  have hll := mass_len hp
  have hdr := List.drop_eq_getElem_cons hil
  have hq := hp L[i] (List.getElem_mem hil)
  have htk : tks (L.take (i + 1)) = tks (L.take i) + tkN L[i] := by
   rw [List.take_succ_eq_append_getElem hil, tks_append]; rfl
  have htm := tks_le L
  have hsp : tks L = tks (L.take i) + tks (L.drop i) := by rw [← tks_append, List.take_append_drop]
  have hbk : drp L = drp (L.take i) ++ drp (L.drop i) := by rw [← drp_app, List.take_append_drop]
  have hpR : ∀ x ∈ L.drop (i + 1), 0 < massP x := fun x hx => hp x (List.mem_of_mem_drop hx)
  have hzR : nzD (L.drop (i + 1)) := fun x hx => hz x (List.mem_of_mem_drop hx)
  have huR := gap_u L hp hm op at_ O_ d (i + 1)
  have hFR : okF (L.drop (i + 1)) := by
   rw [hdr] at hF
   generalize L.drop (i + 1) = R at hF
   cases R with
   | nil => trivial
   | cons b R => exact hF.2
  have hWR : okW (L.drop (i + 1)) := by
   rw [hdr] at hW
   generalize L.drop (i + 1) = R at hW
   generalize L[i] = q at hW
   cases R with
   | nil => trivial
   | cons b R => cases q <;> cases b <;> first | exact hW | exact hW.elim
  have ihR := fun o => ih (i + 1) o O_ hFR hWR
  rw [htk] at ihR
  generalize hR : L.drop (i + 1) = R at hdr hpR hzR hFR hWR huR ihR
  rw [hdr] at h2 hF hW hsp hbk ⊢
  have e0 : mass (L[i] :: R) = massP L[i] + mass R := rfl
  have e00 : tks (L[i] :: R) = tkN L[i] + tks R := rfl
  rw [e0] at h2
  rw [e00] at hsp
  generalize hc : tks (L.take i) = c at *
  have hcl : (drp (L.take i)).length = c := by rw [drp_len, hc]
  have stop : ∀ n b f0 f1 f2, b = true → spec_l5Gap.j1 (k + 1) op (at_ : Int) out out (c : Int) n (L.map encP) ((L.map encP).length : Int) (i : Int) b f0 f1 f2 = some (out, out) := fun n b f0 f1 f2 hb => by
   unfold spec_l5Gap.j1
   rw [ip_ hb]
  have hil6 : i < 1000000 := by omega
  unfold spec_l5Gap.l0
  rw [ip_ (by rw [lM_]; omega), ip_ O_, ip_ (by rw [lM_]; omega), rd_at L i hil]
  by_cases c0 : (c : Int) > (at_ : Int)
  ·rw [ip_ c0, hi_neg _ _ O_, lo_np _ _ O_, Int.add_zero]
   exact stop _ _ _ _ _ rfl
  ·rw [iN_ c0]
   cases hx : L[i] with
   | K n =>
    rw [hx] at h2 hq hsp ihR
    have hn : 0 < n := hq
    have e1 : (encP (.K n)).f0 = (n : Int) := rfl
    have e2 : (encP (.K n)).f1 = ⟨#[]⟩ := rfl
    have e3 : (encP (.K n)).f2 = ⟨#[]⟩ := rfl
    have e4 : massP (.K n) = n := rfl
    have e5 : tkN (.K n) = n := rfl
    have e6 : ((⟨#[]⟩ : ByteArray).size : Int) = 0 := rfl
    rw [e4] at h2
    rw [e5] at hsp ihR
    rw [e1, e2, e3, e6]
    by_cases c1 : (c : Int) = (at_ : Int)
    ·have := stop (wrap64 ((n : Int) + 0)) (decide ((n : Int) > 0)) (n : Int) ⟨#[]⟩ ⟨#[]⟩ (decide_eq_true O_)
     rw [ip_ c1, hiK0 _ _ O_, loK0 _ _ O_, this, Int.add_zero]
    ·rw [iN_ c1, w64 (i := (n : Int) + 0) O_ O_, hiK1 _ _ O_, loK1 _ _ O_]
     unfold spec_l5Gap.j1
     rw [iN_ (by simp), ip_ nil_toList, ip_ O_, wi hil6, e6, w64 (i := (n : Int) + 0) O_ O_, Int.add_zero, w64 (i := (c : Int) + (n : Int)) O_ O_]
     have hb : 0 ≤ cutI (n : Int) ((at_ : Int) - (c : Int)) ∧ cutI (n : Int) ((at_ : Int) - (c : Int)) ≤ n := by unfold cutI; split <;> omega
     have hr := ihR (out + cutI (n : Int) ((at_ : Int) - (c : Int))) O_ O_ k O_
     rw [show ((c + n : Nat) : Int) = (c : Int) + (n : Int) by omega, show (at_ : Int) - ((c : Int) + (n : Int)) = (at_ : Int) - (c : Int) - (n : Int) by omega] at hr
     simp only [Int.add_assoc] at hr ⊢
     by_cases c2 : (c : Int) + (n : Int) > (at_ : Int)
     ·have hcu : cutI (n : Int) ((at_ : Int) - (c : Int)) = (at_ : Int) - (c : Int) := ip_ O_
      rw [hcu] at hr ⊢
      rw [ip_ c2, w64 (i := (at_ : Int) - (c : Int)) O_ O_, w64 (i := out + ((at_ : Int) - (c : Int))) O_ O_]
      exact hr
     ·have hcu : cutI (n : Int) ((at_ : Int) - (c : Int)) = (n : Int) := iN_ O_
      rw [hcu] at hr ⊢
      rw [iN_ c2, w64 (i := out + (n : Int)) O_ O_]
      exact hr
   | D w =>
    rw [hx] at h2 hq hsp ihR
    have e1 : (encP (.D w)).f0 = 0 := rfl
    have e2 : (encP (.D w)).f1 = ⟨#[]⟩ := rfl
    have e3 : (encP (.D w)).f2 = w := rfl
    have e4 : massP (.D w) = w.size := rfl
    have e5 : tkN (.D w) = w.size := rfl
    rw [e4] at h2
    rw [e5] at hsp ihR
    rw [e1, e2, e3, hiD1, loD1]
    have hr := ihR out O_ O_ k O_
    rw [show ((c + w.size : Nat) : Int) = (c : Int) + (w.size : Int) by omega, show (at_ : Int) - ((c : Int) + (w.size : Int)) = (at_ : Int) - (c : Int) - (w.size : Int) by omega] at hr
    have go : ∀ n, spec_l5Gap.j1 (k + 1) op (at_ : Int) out out (c : Int) n (L.map encP) ((L.map encP).length : Int) (i : Int) false 0 ⟨#[]⟩ w = some (out + loP R ((at_ : Int) - (c : Int) - (w.size : Int)), out + hiP R ((at_ : Int) - (c : Int) - (w.size : Int))) := fun n => by
     unfold spec_l5Gap.j1
     rw [iN_ (by simp), ip_ nil_toList, iN_ O_, w64 (i := 0 + (w.size : Int)) O_ O_, Int.zero_add, w64 (i := (c : Int) + (w.size : Int)) O_ O_, wi hil6]
     exact hr
    split
    ·rw [decide_eq_false O_]; exact go _
    ·exact go _
   | W w =>
    rw [hx] at h2 hq hsp ihR hF hW hbk
    have hq' : 0 < w.size := hq
    have e1 : (encP (.W w)).f0 = 0 := rfl
    have e2 : (encP (.W w)).f1 = w := rfl
    have e3 : (encP (.W w)).f2 = ⟨#[]⟩ := rfl
    have e4 : massP (.W w) = w.size := rfl
    have e5 : tkN (.W w) = 0 := rfl
    have e6 : tks (.W w :: R) = 0 + tks R := rfl
    rw [e4] at h2
    rw [e5] at hsp ihR
    rw [e1, e2, e3, hiW1 _ _ O_]
    have hu : stopP R ((at_ : Int) - (c : Int)) → spec_l5Gap.l0 k op (at_ : Int) out (out + (w.size : Int)) (c : Int) (L.map encP) ((L.map encP).length : Int) ((i + 1 : Nat) : Int) = some (out, out + (w.size : Int)) := fun hs => huR out _ (c : Int) O_ O_ O_ hs k O_
    have go : ∀ n, spec_l5Gap.j1 (k + 1) op (at_ : Int) out out (c : Int) n (L.map encP) ((L.map encP).length : Int) (i : Int) false 0 w ⟨#[]⟩ = some (out + loP (.W w :: R) ((at_ : Int) - (c : Int)), out + ((w.size : Int) + hiP R ((at_ : Int) - (c : Int)))) := fun n => by
     unfold spec_l5Gap.j1
     rw [iN_ (by simp), iN_ (pos_toList hq'), wi hil6, w64 (i := out + (w.size : Int)) O_ O_]
     have un : stopP R ((at_ : Int) - (c : Int)) → ¬ (at_ : Int) - (c : Int) > dlP R → hiP R ((at_ : Int) - (c : Int)) = 0 → spec_l5Gap.l0 k op (at_ : Int) out (out + (w.size : Int)) (c : Int) (L.map encP) ((L.map encP).length : Int) ((i + 1 : Nat) : Int) = some (out + loP (.W w :: R) ((at_ : Int) - (c : Int)), out + ((w.size : Int) + hiP R ((at_ : Int) - (c : Int)))) := fun hs hd hh => by
      have hl : loP R ((at_ : Int) - (c : Int)) = 0 := by
       match R with
       | [] => rfl
       | .K n :: R => exact loK0 _ _ hs
       | .W n :: R => exact hW.elim
       | .D n :: R => rw [loD1]; exact lo_np _ _ (by have : dlP (.D n :: R) = (n.size : Int) := rfl; omega)
      rw [hu hs, loW0 _ _ hd, hh, hl, Int.add_zero, Int.add_zero]
     by_cases c1 : (c : Int) < (at_ : Int)
     ·rw [ip_ c1]
      unfold spec_l5Kept.f
      have hkk := kp_l (drp L) (by rw [drp_len]; omega) at_ (by rw [drp_len]; omega) (at_ - c) c O_ k O_
      have hk2 : kp (drp L) (at_ - c) c = decide (((at_ - c : Nat) : Int) > dlP R) := by
       rw [hbk]
       have := kp_app (drp (L.take i)) (drp (.W w :: R)) (at_ - c) 0
       rw [hcl, Nat.add_zero] at this
       rw [this]
       exact kp_rest w R hF hW hzR hpR (at_ - c) O_ O_
      rw [hb _ O_, bs_, hkk, bs_, hk2]
      by_cases c2 : (at_ : Int) - (c : Int) > dlP R
      ·rw [ip_ (decide_eq_true O_), loW1 _ _ c2]
       have hr := ihR (out + (w.size : Int)) O_ O_ k O_
       rw [Nat.add_zero] at hr
       simp only [Int.add_assoc] at hr ⊢
       exact hr
      ·rw [iN_ (by rw [decide_eq_true_eq]; omega)]
       refine un ?_ c2 ?_
       ·match R with
        | [] => trivial
        | .K n :: R => have e : dlP (.K n :: R) = 0 := rfl; show (at_ : Int) - (c : Int) ≤ 0; omega
        | .W n :: R => exact hW.elim
        | .D n :: R =>
         have e : dlP (.D n :: R) = (n.size : Int) := rfl
         refine .inr ⟨O_, ?_⟩
         match R with
         | [] => trivial
         | .K m :: R => trivial
         | .W m :: R => exact absurd trivial hF.2.1
         | .D m :: R => exact absurd trivial hF.2.1
       ·match R with
        | [] => rfl
        | .K n :: R => have e : dlP (.K n :: R) = 0 := rfl; exact hiK0 _ _ O_
        | .W n :: R => exact hW.elim
        | .D n :: R =>
         have e : dlP (.D n :: R) = (n.size : Int) := rfl
         rw [hiD1]
         match R with
         | [] => rfl
         | .K m :: R => exact hiK0 _ _ O_
         | .W m :: R => exact absurd trivial hF.2.1
         | .D m :: R => exact absurd trivial hF.2.1
     ·rw [iN_ c1]
      have hd0 := dlP_nn R
      refine un ?_ O_ ?_
      ·match R with
       | [] => trivial
       | .K n :: R => show (at_ : Int) - (c : Int) ≤ 0; omega
       | .W n :: R => exact hW.elim
       | .D n :: R =>
        refine .inr ⟨O_, ?_⟩
        match R with
        | [] => trivial
        | .K m :: R => trivial
        | .W m :: R => exact absurd trivial hF.2.1
        | .D m :: R => exact absurd trivial hF.2.1
      ·match R with
       | [] => rfl
       | .K n :: R => exact hiK0 _ _ O_
       | .W n :: R => exact hW.elim
       | .D n :: R =>
        have hn : 0 < n.size := hpR (.D n) List.mem_cons_self
        rw [hiD1, hi_neg _ _ O_]
    split
    ·rw [decide_eq_false O_]; exact go _
    ·exact go _
theorem bytes_of (L0 : List Pt) (h0 : ∀ x ∈ L0, 0 < massP x) (hm : mass L0 ≤ 1000000) : ∀ k, L0.length + 1 ≤ k → spec_l4Bytes.f k (L0.map encP) = some (drp (nf L0)) := fun k hk => by
 have := mass_len h0
 rw [drp_nf]
 exact bytes_ev L0 O_ hm k O_
theorem okW_snoc : ∀ (l : List Pt) (a b : Pt), okW (l ++ [a]) → (∀ x y, a = .W x → b = .W y → False) → okW (l ++ [a] ++ [b])
 | [], a, b, _, h => by
  show okW (a :: [b])
  cases a <;> cases b <;> first | trivial | exact (h _ _ rfl rfl).elim
 | [x], a, b, h1, h => by
  show okW (x :: a :: [b])
  have h1' : okW (x :: [a]) := h1
  cases x <;> cases a <;> cases b <;> first | trivial | exact h1'.elim | exact (h _ _ rfl rfl).elim
 | x :: y :: l, a, b, h1, h => by
  have h1' : okW (x :: y :: (l ++ [a])) := h1
  have ih : okW (y :: (l ++ [a])) → okW (y :: (l ++ [a] ++ [b])) := fun h2 => okW_snoc (y :: l) a b h2 h
  show okW (x :: y :: (l ++ [a] ++ [b]))
  cases x <;> cases y <;> first | exact h1'.elim | exact ih h1'
def okWR : List Pt → Prop
 | .W _ :: .W _ :: _ => False
 | _ :: l => okWR l
 | [] => True
theorem okWR_tail {q : Pt} {r : List Pt} (h : okWR (q :: r)) : okWR r := by
 cases r with
 | nil => trivial
 | cons a r => cases q <;> cases a <;> first | exact h | exact h.elim
theorem okWR_cons {q : Pt} {r : List Pt} (hr : okWR r) (h : ∀ x y r', q = .W x → r = .W y :: r' → False) : okWR (q :: r) := by
 cases r with
 | nil => cases q <;> trivial
 | cons a r => cases q <;> cases a <;> first | exact hr | exact (h _ _ _ rfl rfl).elim
theorem okWR_W : ∀ r : List Pt, okWR r → okW r.reverse
 | [], _ => trivial
 | [a], _ => by cases a <;> trivial
 | b :: a :: r, h => by
  have := okWR_W (a :: r) (okWR_tail h)
  rw [List.reverse_cons] at this
  rw [List.reverse_cons, List.reverse_cons]
  exact okW_snoc _ a b this fun x y e1 e2 => by subst e1; subst e2; exact h.elim
theorem okWR_add (r : List Pt) (q : Pt) (h : okWR r) : okWR (addP r q) := by
 unfold addP
 split
 ·exact okWR_cons (okWR_tail h) fun x y r' e1 _ => by cases e1
 ·exact okWR_cons (okWR_tail h) fun x y r' e1 _ => by cases e1
 ·rename_i a r b
  refine okWR_cons (okWR_tail h) fun x y r' e1 e2 => ?_
  subst e2
  exact h.elim
 ·rename_i d a r w
  refine okWR_cons (okWR_cons (okWR_tail (okWR_tail h)) fun x y r' e1 e2 => ?_) fun x y r' e1 _ => by cases e1
  subst e2
  exact (okWR_tail h).elim
 ·rename_i d r w hr
  refine okWR_cons (okWR_cons (okWR_tail h) fun x y r' e1 e2 => ?_) fun x y r' e1 _ => by cases e1
  subst e2
  exact hr _ _ rfl
 ·rename_i h1 h2 h3 h4 h5
  refine okWR_cons h fun x y r' e1 e2 => ?_
  subst e1; subst e2
  exact h3 _ _ _ rfl rfl
theorem okWR_fold : ∀ (L r : List Pt), okWR r → okWR (L.foldl addP r)
 | [], _, h => h
 | q :: L, r, h => okWR_fold L _ (okWR_add r q h)
theorem okW_nf (L : List Pt) : okW (nf L) := okWR_W _ (okWR_fold L [] trivial)
theorem gap_ev (L0 : List Pt) (h0 : ∀ x ∈ L0, 0 < massP x) (hm : mass L0 ≤ 1000000) (hz : nzD L0) (at_ : Nat) (ha : at_ ≤ tks L0) : ∃ K, ∀ k, K ≤ k →
  spec_l5Gap.f k (L0.map encP) (at_ : Int) = some (loP (nf L0) (at_ : Int), hiP (nf L0) (at_ : Int)) := by
 have e := nf_mass h0
 refine ⟨2 * (nf L0).length + (L0.length + 7) + at_ + 1, fun k hk => ?_⟩
 unfold spec_l5Gap.f
 rw [normalS_ev L0 h0 hm k O_, bs_]
 have := gap_l (nf L0) (nf_pos h0) O_ (nzD_nf hz) (L0.map encP) (L0.length + 1) (bytes_of L0 h0 hm) at_ (by rw [tks_nf]; exact ha) (nf L0).length 0 0 O_ (okF_nf L0) (okW_nf L0) O_ (by rw [List.drop_zero]; omega) k O_
 rw [List.take_zero, List.drop_zero, Int.zero_add, Int.zero_add, show ((tks [] : Nat) : Int) = 0 from rfl, Int.sub_zero] at this
 exact this
theorem move_ev (L0 : List Pt) (h0 : ∀ x ∈ L0, 0 < massP x) (hm : mass L0 ≤ 1000000) (at_ : Nat) (ha : at_ ≤ tks L0) (aft : Bool) : ∀ k, 2 * (nf L0).length < k →
  impl_movePlace.f k ((nf L0).map encP) (at_ : Int) aft = some (if aft = true then hiP (nf L0) (at_ : Int) else loP (nf L0) (at_ : Int)) := fun k hk => by
 have e := nf_mass h0
 have := tks_le L0
 have := mp_l (nf L0) (nf_pos h0) O_ (at_ : Int) aft O_ (nf L0).length 0 0 0 O_ (okW_nf L0) O_ O_ (by rw [List.drop_zero]; omega) O_ (by rw [List.drop_zero]; omega) k hk
 rw [List.drop_zero, Int.zero_add, Int.sub_zero] at this
 exact this
theorem bl_trans : ∀ {a b c : List UInt8}, Op.bytesLess a b = true → Op.bytesLess b c = true → Op.bytesLess a c = true
 | _, [], _, h, _ => by unfold Op.bytesLess at h; simp at h
 | _, _ :: _, [], _, h => by unfold Op.bytesLess at h; simp at h
 | [], _ :: _, _ :: _, _, _ => rfl
 | a :: x, b :: y, c :: z, h1, h2 => by
  unfold Op.bytesLess at h1 h2 ⊢
  simp only [Bool.or_eq_true, Bool.and_eq_true, decide_eq_true_eq, beq_iff_eq] at h1 h2 ⊢
  rcases h1 with h1 | ⟨rfl, h1⟩
  ·rcases h2 with h2 | ⟨rfl, h2⟩
   ·exact .inl (by rw [UInt8.lt_iff_toNat_lt] at *; omega)
   ·exact .inl h1
  ·rcases h2 with h2 | ⟨rfl, h2⟩
   ·exact .inl h2
   ·exact .inr ⟨rfl, bl_trans h1 h2⟩
theorem cmp_bl : ∀ (a b : List UInt8), (Lib.compareBytes a b = 0 ↔ a = b) ∧ (Lib.compareBytes a b < 0 ↔ Op.bytesLess a b = true)
 | [], [] => ⟨⟨fun _ => rfl, fun _ => rfl⟩, ⟨fun h => absurd h (by decide), fun h => by cases h⟩⟩
 | [], b :: y => ⟨⟨fun h => absurd h (by show ¬ ((-1 : Int) = 0); decide), fun h => by cases h⟩, ⟨fun _ => rfl, fun _ => by show (-1 : Int) < 0; decide⟩⟩
 | a :: x, [] => ⟨⟨fun h => absurd h (by show ¬ ((1 : Int) = 0); decide), fun h => by cases h⟩, ⟨fun h => absurd h (by show ¬ ((1 : Int) < 0); decide), fun h => by unfold Op.bytesLess at h; simp at h⟩⟩
 | a :: x, b :: y => by
  have ih := cmp_bl x y
  unfold Lib.compareBytes Op.bytesLess
  by_cases c1 : a < b
  ·rw [ip_ c1]
   refine ⟨⟨fun h => absurd h (by decide), fun h => ?_⟩, ⟨fun _ => by simp [c1], fun _ => by decide⟩⟩
   injection h with h1 h2
   rw [h1, UInt8.lt_iff_toNat_lt] at c1; omega
  ·rw [iN_ c1]
   by_cases c2 : b < a
   ·rw [ip_ c2]
    have hne : ¬ a = b := fun h => by rw [h, UInt8.lt_iff_toNat_lt] at c2; omega
    refine ⟨⟨fun h => absurd h (by decide), fun h => ?_⟩, ⟨fun h => absurd h (by decide), fun h => ?_⟩⟩
    ·injection h with h1 h2; exact absurd h1 hne
    ·simp [c1, hne] at h
   ·rw [iN_ c2]
    have he : a = b := UInt8.toNat_inj.mp (by rw [UInt8.lt_iff_toNat_lt] at c1 c2; omega)
    subst he
    refine ⟨ih.1.trans ⟨fun h => by rw [h], fun h => by injection h⟩, ih.2.trans ?_⟩
    simp [c1]
def SL (a b : S34) : Prop := Op.bytesLess a.f2.toList b.f2.toList = true
def SE (a b : S34) : Prop := a.f2.toList = b.f2.toList
theorem SE_eq {a b : S34} (h : SE a b) : a.f2 = b.f2 := ba_of_toList h
theorem SL_irr {a b : S34} (h : SL a b) : ¬ SE a b := fun e => by unfold SL at h; unfold SE at e; rw [e, bl_irr] at h; cases h
theorem SL_asym {a b : S34} (h : SL a b) : ¬ SL b a := fun e => by unfold SL at h e; rw [bl_asym h] at e; cases e
theorem SL_ne {a b : S34} (h : SL a b) : ¬ SE b a := fun e => SL_irr h e.symm
theorem SL_tot {a b : S34} (h1 : ¬ SL a b) (h2 : ¬ SE a b) : SL b a := bl_tot (by unfold SL at h1; exact Bool.eq_false_iff.mpr h1) fun e => h2 e.symm
theorem SL_trans {a b c : S34} (h1 : SL a b) (h2 : SL b c) : SL a c := bl_trans h1 h2
theorem SL_E {a b c : S34} (h1 : SL a b) (h2 : SE b c) : SL a c := by unfold SL at *; unfold SE at h2; rw [← h2]; exact h1
theorem SE_L {a b c : S34} (h1 : SE a b) (h2 : SL b c) : SL a c := by unfold SL at *; unfold SE at h1; rw [h1]; exact h2
def BF (a b : S34) : Prop := SL a b ∨ (SE a b ∧ a.f1 < b.f0)
def LTm (a b : S34) : Prop := SL a b ∨ (SE a b ∧ a.f0 < b.f0)
instance (a b : S34) : Decidable (SL a b) := inferInstanceAs (Decidable (_ = true))
instance (a b : S34) : Decidable (SE a b) := inferInstanceAs (Decidable (a.f2.toList = b.f2.toList))
instance (a b : S34) : Decidable (BF a b) := inferInstanceAs (Decidable (_ ∨ _))
instance (a b : S34) : Decidable (LTm a b) := inferInstanceAs (Decidable (_ ∨ _))
theorem LTm_le {a b c : S34} (h1 : LTm a b) (h2 : ¬ LTm c b) : LTm a c := by
 by_cases e : SE b c
 ·have : ¬ c.f0 < b.f0 := fun h => h2 (.inr ⟨e.symm, h⟩)
  rcases h1 with h1 | ⟨h1, h3⟩
  ·exact .inl (SL_E h1 e)
  ·exact .inr ⟨h1.trans e, O_⟩
 ·have : SL b c := by
   by_cases c' : SL b c
   ·exact c'
   ·exact absurd (.inl (SL_tot c' e)) h2
  rcases h1 with h1 | ⟨h1, h3⟩
  ·exact .inl (SL_trans h1 this)
  ·exact .inl (SE_L h1 this)
def okM (m : S34) : Prop := m.f0 < m.f1
def CH : List S34 → Prop
 | [] => True
 | x :: l => okM x ∧ (∀ y ∈ l, BF x y) ∧ CH l
def jn : List S34 → S34 → List S34
 | c :: r, m => if SE c m ∧ c.f1 ≥ m.f0 then ⟨c.f0, mx c.f1 m.f1, c.f2⟩ :: r else m :: c :: r
 | [], m => [m]
def jf : S34 → List S34 → List S34
 | c, [] => [c]
 | c, y :: l => if SE c y ∧ c.f1 ≥ y.f0 then jf ⟨c.f0, mx c.f1 y.f1, c.f2⟩ l else c :: jf y l
def jl : List S34 → List S34
 | [] => []
 | x :: l => jf x l
theorem fold_jf : ∀ (l : List S34) (c : S34) (r : List S34), (l.foldl jn (c :: r)).reverse = r.reverse ++ jf c l
 | [], c, r => by simp [jf]
 | y :: l, c, r => by
  rw [List.foldl_cons]
  unfold jf
  by_cases h : SE c y ∧ c.f1 ≥ y.f0
  ·have e : jn (c :: r) y = ⟨c.f0, mx c.f1 y.f1, c.f2⟩ :: r := ip_ h
   rw [ip_ h, e, fold_jf l]
  ·have e : jn (c :: r) y = y :: c :: r := iN_ h
   rw [iN_ h, e, fold_jf l, List.reverse_cons, List.append_assoc]; rfl
theorem fold_jl (l : List S34) : (l.foldl jn []).reverse = jl l := by
 cases l with
 | nil => rfl
 | cons x l => rw [List.foldl_cons]; exact fold_jf l x []
def mg (x m : S34) : S34 := ⟨if x.f0 < m.f0 then x.f0 else m.f0, if x.f1 > m.f1 then x.f1 else m.f1, m.f2⟩
def GT (x m : S34) : Prop := SL m x ∨ x.f0 > m.f1
instance (a b : S34) : Decidable (GT a b) := inferInstanceAs (Decidable (_ ∨ _))
def ins : List S34 → S34 → List S34
 | [], m => [m]
 | x :: l, m => if BF x m then x :: ins l m else if GT x m then m :: x :: l else ins l (mg x m)
def insF (m : S34) : List S34 → List S34
 | [] => [m]
 | x :: l => if LTm m x then m :: x :: l else x :: insF m l
theorem jf_same : ∀ (l : List S34) (x : S34), CH (x :: l) → jf x l = x :: l
 | [], _, _ => rfl
 | y :: l, x, h => by
  unfold jf
  have hb := h.2.1 y List.mem_cons_self
  rw [iN_, jf_same l y h.2.2]
  intro c
  rcases hb with hb | hb
  ·exact SL_irr hb c.1
  ·omega
theorem BF_mg {x m : S34} (h1 : ¬ BF x m) (h2 : ¬ GT x m) : SE x m ∧ m.f0 ≤ x.f1 ∧ x.f0 ≤ m.f1 := by
 have e : SE x m := by
  by_cases c : SE x m
  ·exact c
  ·exact absurd (.inl (SL_tot (fun c' => h1 (.inl c')) c)) h2
 refine ⟨e, ?_, ?_⟩
 ·have : ¬ x.f1 < m.f0 := fun c => h1 (.inr ⟨e, c⟩)
  omega
 ·have : ¬ x.f0 > m.f1 := fun c => h2 (.inr c)
  omega
theorem jf_ins : ∀ (l : List S34) (m : S34), CH l → okM m → (∀ y ∈ l, SL m y ∨ (SE m y ∧ m.f0 ≤ y.f0)) → jf m l = ins l m
 | [], _, _, _, _ => rfl
 | y :: l, m, h, hm, hy => by
  unfold jf ins
  have h1 := hy y List.mem_cons_self
  have hoy : y.f0 < y.f1 := h.1
  have hom : m.f0 < m.f1 := hm
  have nb : ¬ BF y m := fun c => by
   rcases c with c | ⟨c, c'⟩
   ·rcases h1 with h1 | ⟨h1, _⟩
    ·exact SL_asym h1 c
    ·exact SL_ne c h1
   ·rcases h1 with h1 | ⟨_, h1⟩
    ·exact SL_ne h1 c
    ·omega
  rw [iN_ nb]
  by_cases g : GT y m
  ·rw [ip_ g, iN_, jf_same l y h]
   intro c
   rcases g with g | g
   ·exact SL_irr g c.1
   ·omega
  ·rw [iN_ g]
   have e := BF_mg nb g
   have hle : m.f0 ≤ y.f0 := by
    rcases h1 with h1 | ⟨_, h1⟩
    ·exact absurd e.1 (SL_ne h1)
    ·exact h1
   rw [ip_ ⟨e.1.symm, O_⟩]
   have em : mg y m = ⟨m.f0, mx m.f1 y.f1, m.f2⟩ := by
    unfold mg mx
    rw [iN_ O_]
   rw [em]
   refine jf_ins l _ h.2.2 (show m.f0 < mx m.f1 y.f1 by unfold mx; split <;> omega) fun z hz => ?_
   have hb := h.2.1 z hz
   rcases hb with hb | ⟨hb, hb2⟩
   ·exact .inl (show SL m z from SE_L e.1.symm hb)
   ·exact .inr ⟨show SE m z from e.1.symm.trans hb, show m.f0 ≤ z.f0 by omega⟩
theorem jl_insF_head (m : S34) : ∀ l : List S34, ∃ h t, insF m l = h :: t ∧ (h = m ∨ h ∈ l)
 | [] => ⟨m, [], rfl, .inl rfl⟩
 | x :: l => by
  unfold insF
  by_cases c : LTm m x
  ·rw [ip_ c]; exact ⟨m, _, rfl, .inl rfl⟩
  ·rw [iN_ c]; exact ⟨x, _, rfl, .inr List.mem_cons_self⟩
theorem jl_ins : ∀ (l : List S34) (m : S34), CH l → okM m → jl (insF m l) = ins l m
 | [], _, _, _ => rfl
 | x :: l, m, h, hm => by
  unfold insF
  have hox : x.f0 < x.f1 := h.1
  have hom : m.f0 < m.f1 := hm
  by_cases c : LTm m x
  ·rw [ip_ c]
   show jf m (x :: l) = _
   refine jf_ins (x :: l) m h hm fun y hy => ?_
   have h0 : SL m x ∨ (SE m x ∧ m.f0 ≤ x.f0) := by
    rcases c with c | c
    ·exact .inl c
    ·exact .inr ⟨c.1, O_⟩
   rcases List.mem_cons.1 hy with rfl | hy
   ·exact h0
   ·have hb := h.2.1 y hy
    rcases h0 with h0 | ⟨h0, h1⟩
    ·rcases hb with hb | ⟨hb, _⟩
     ·exact .inl (SL_trans h0 hb)
     ·exact .inl (SL_E h0 hb)
    ·rcases hb with hb | ⟨hb, hb2⟩
     ·exact .inl (SE_L h0 hb)
     ·exact .inr ⟨h0.trans hb, O_⟩
  ·rw [iN_ c]
   by_cases b : BF x m
   ·have ih := jl_ins l m h.2.2 hm
    obtain ⟨hd, t, e, he⟩ := jl_insF_head m l
    have hbf : BF x hd := by
     rcases he with rfl | he
     ·exact b
     ·exact h.2.1 hd he
    rw [e] at ih ⊢
    show jf x (hd :: t) = ins (x :: l) m
    unfold jf ins
    rw [ip_ b, iN_, ← ih]
    ·rfl
    ·intro c'
     rcases hbf with hb | hb
     ·exact SL_irr hb c'.1
     ·omega
   ·have g : ¬ GT x m := fun g => by
     rcases g with g | g
     ·exact c (.inl g)
     ·by_cases e : SE x m
      ·exact c (.inr ⟨e.symm, O_⟩)
      ·by_cases e2 : SL m x
       ·exact c (.inl e2)
       ·exact b (.inl (SL_tot e2 fun e3 => e e3.symm))
    have e := BF_mg b g
    have hle : x.f0 ≤ m.f0 := by
     have : ¬ m.f0 < x.f0 := fun c' => c (.inr ⟨e.1.symm, c'⟩)
     omega
    have em : mg x m = ⟨x.f0, mx x.f1 m.f1, m.f2⟩ := by
     unfold mg mx
     by_cases c1 : x.f0 < m.f0
     ·rw [ip_ c1]
      congr 1
      split <;> split <;> omega
     ·rw [iN_ c1, show m.f0 = x.f0 by omega]
      congr 1
      split <;> split <;> omega
    have hi : insF m l = m :: l := by
     cases l with
     | nil => rfl
     | cons y l =>
      unfold insF
      rw [ip_]
      have hb := h.2.1 y List.mem_cons_self
      rcases hb with hb | ⟨hb, hb2⟩
      ·exact .inl (SE_L e.1.symm hb)
      ·exact .inr ⟨e.1.symm.trans hb, O_⟩
    rw [hi]
    show jf x (m :: l) = ins (x :: l) m
    unfold jf ins
    rw [iN_ b, iN_ g, ip_ ⟨e.1, O_⟩, em, SE_eq e.1]
    refine jf_ins l _ h.2.2 (show x.f0 < mx x.f1 m.f1 by unfold mx; split <;> omega) fun z hz => ?_
    have hb := h.2.1 z hz
    rcases hb with hb | ⟨hb, hb2⟩
    ·exact .inl (show Op.bytesLess m.f2.toList z.f2.toList = true from SE_L e.1.symm hb)
    ·exact .inr ⟨show m.f2.toList = z.f2.toList from e.1.symm.trans hb, show x.f0 ≤ z.f0 by omega⟩
theorem BF_trans {a b c : S34} (h1 : BF a b) (hb : okM b) (h2 : BF b c) : BF a c := by
 have hb' : b.f0 < b.f1 := hb
 rcases h1 with h1 | ⟨h1, h3⟩
 ·rcases h2 with h2 | ⟨h2, _⟩
  ·exact .inl (SL_trans h1 h2)
  ·exact .inl (SL_E h1 h2)
 ·rcases h2 with h2 | ⟨h2, h4⟩
  ·exact .inl (SE_L h1 h2)
  ·exact .inr ⟨h1.trans h2, O_⟩
theorem BF_LT {a b : S34} (h : BF a b) (ha : okM a) : ¬ LTm b a := fun c => by
 have ha' : a.f0 < a.f1 := ha
 rcases h with h | ⟨h1, h2⟩
 ·rcases c with c | c
  ·exact SL_asym h c
  ·exact SL_ne h c.1
 ·rcases c with c | c
  ·exact SL_ne c h1
  ·omega
theorem mg_ok {x m : S34} (hx : okM x) (hm : okM m) : okM (mg x m) := by
 have h1 : x.f0 < x.f1 := hx
 have h2 : m.f0 < m.f1 := hm
 show (if x.f0 < m.f0 then x.f0 else m.f0) < (if x.f1 > m.f1 then x.f1 else m.f1)
 split <;> split <;> omega
theorem ins_BF : ∀ (l : List S34) (x m : S34), BF x m → (∀ y ∈ l, BF x y) → ∀ z ∈ ins l m, BF x z
 | [], x, m, h, _, z, hz => by rw [List.mem_singleton.1 hz]; exact h
 | y :: l, x, m, h, hy, z, hz => by
  have h1 := hy y List.mem_cons_self
  have h2 : ∀ y ∈ l, BF x y := fun y h' => hy y (List.mem_cons_of_mem _ h')
  unfold ins at hz
  by_cases b : BF y m
  ·rw [ip_ b] at hz
   rcases List.mem_cons.1 hz with rfl | hz
   ·exact h1
   ·exact ins_BF l x m h h2 z hz
  ·rw [iN_ b] at hz
   by_cases g : GT y m
   ·rw [ip_ g] at hz
    rcases List.mem_cons.1 hz with rfl | hz
    ·exact h
    ·exact hy z hz
   ·rw [iN_ g] at hz
    have e := BF_mg b g
    refine ins_BF l x (mg y m) ?_ h2 z hz
    rcases h with h | ⟨h, h3⟩
    ·exact .inl h
    ·refine .inr ⟨h, ?_⟩
     have : x.f1 < y.f0 := by
      rcases h1 with h1 | ⟨_, h1⟩
      ·exact absurd (h.trans e.1.symm) (SL_irr h1)
      ·exact h1
     show x.f1 < (if y.f0 < m.f0 then y.f0 else m.f0)
     split <;> omega
theorem ins_CH : ∀ (l : List S34) (m : S34), CH l → okM m → CH (ins l m)
 | [], m, _, hm => ⟨hm, (fun y hy => by cases hy), trivial⟩
 | x :: l, m, h, hm => by
  unfold ins
  by_cases b : BF x m
  ·rw [ip_ b]
   exact ⟨h.1, ins_BF l x m b h.2.1, ins_CH l m h.2.2 hm⟩
  ·rw [iN_ b]
   by_cases g : GT x m
   ·rw [ip_ g]
    have hb : BF m x := by
     rcases g with g | g
     ·exact .inl g
     ·by_cases e : SE m x
      ·exact .inr ⟨e, g⟩
      ·by_cases e2 : SL m x
       ·exact .inl e2
       ·exact absurd (.inl (SL_tot e2 e)) b
    refine ⟨hm, fun y hy => ?_, h⟩
    rcases List.mem_cons.1 hy with rfl | hy
    ·exact hb
    ·exact BF_trans hb h.1 (h.2.1 y hy)
   ·rw [iN_ g]
    exact ins_CH l _ h.2.2 (mg_ok h.1 hm)
theorem ins_all (P : S34 → Prop) (hP : ∀ x m, P x → P m → P (mg x m)) : ∀ (l : List S34) (m : S34), (∀ y ∈ l, P y) → P m → ∀ z ∈ ins l m, P z
 | [], m, _, hm, z, hz => by rw [List.mem_singleton.1 hz]; exact hm
 | x :: l, m, h, hm, z, hz => by
  have h1 := h x List.mem_cons_self
  have h2 : ∀ y ∈ l, P y := fun y h' => h y (List.mem_cons_of_mem _ h')
  unfold ins at hz
  by_cases b : BF x m
  ·rw [ip_ b] at hz
   rcases List.mem_cons.1 hz with rfl | hz
   ·exact h1
   ·exact ins_all P hP l m h2 hm z hz
  ·rw [iN_ b] at hz
   by_cases g : GT x m
   ·rw [ip_ g] at hz
    rcases List.mem_cons.1 hz with rfl | hz
    ·exact hm
    ·exact h z hz
   ·rw [iN_ g] at hz
    exact ins_all P hP l _ h2 (hP x m h1 hm) z hz
theorem ins_len : ∀ (l : List S34) (m : S34), (ins l m).length ≤ l.length + 1
 | [], m => Nat.le_refl _
 | x :: l, m => by
  unfold ins
  split
  ·have := ins_len l m; simp only [List.length_cons]; omega
  ·split
   ·simp
   ·have := ins_len l (mg x m); simp only [List.length_cons]; omega
def SR : List S34 → Prop
 | [] => True
 | x :: l => (∀ y ∈ l, ¬ LTm y x) ∧ SR l
theorem CH_SR : ∀ l : List S34, CH l → SR l
 | [], _ => trivial
 | x :: l, h => ⟨fun y hy => BF_LT (h.2.1 y hy) h.1, CH_SR l h.2.2⟩
theorem SR_app : ∀ (a b : List S34), SR (a ++ b) → SR a ∧ SR b ∧ ∀ x ∈ a, ∀ y ∈ b, ¬ LTm y x
 | [], b, h => ⟨trivial, h, fun x hx => by cases hx⟩
 | x :: a, b, h => by
  obtain ⟨h1, h2, h3⟩ := SR_app a b h.2
  refine ⟨⟨fun y hy => h.1 y (List.mem_append_left _ hy), h1⟩, h2, fun z hz y hy => ?_⟩
  rcases List.mem_cons.1 hz with rfl | hz
  ·exact h.1 y (List.mem_append_right _ hy)
  ·exact h3 z hz y hy
theorem insF_end (m : S34) : ∀ l : List S34, (∀ x ∈ l, ¬ LTm m x) → insF m l = l ++ [m]
 | [], _ => rfl
 | x :: l, h => by
  unfold insF
  rw [iN_ (h x List.mem_cons_self), insF_end m l fun y hy => h y (List.mem_cons_of_mem _ hy)]; rfl
theorem insF_snoc (m x : S34) (hx : LTm m x) : ∀ l : List S34, insF m (l ++ [x]) = insF m l ++ [x]
 | [] => ip_ hx
 | y :: l => by
  show insF m (y :: (l ++ [x])) = _
  unfold insF
  by_cases c : LTm m y
  ·rw [ip_ c, ip_ c]; rfl
  ·rw [iN_ c, iN_ c, insF_snoc m x hx l]; rfl
theorem fold_snoc (l : List S34) (m : S34) : (l ++ [m]).foldl jn [] = jn (l.foldl jn []) m := by rw [List.foldl_append]; rfl
theorem fold_same {P : List S34} (h : CH P) : P.foldl jn [] = P.reverse := by
 have e : jl P = P := by
  cases P with
  | nil => rfl
  | cons x l => exact jf_same l x h
 rw [← List.reverse_reverse (P.foldl jn []), fold_jl, e]
theorem fold_CH : ∀ (l : List S34), SR l → (∀ x ∈ l, okM x) → CH (jl l) ∧ (∀ p ∈ jl l, ∃ x ∈ l, SE x p ∧ x.f0 = p.f0) ∧ (∀ m, okM m → (∀ x ∈ l, ¬ LTm m x) → jl (l ++ [m]) = ins (jl l) m) := by
 intro l
 have H : ∀ n, ∀ l : List S34, l.length = n → SR l → (∀ x ∈ l, okM x) → CH (jl l) ∧ (∀ p ∈ jl l, ∃ x ∈ l, SE x p ∧ x.f0 = p.f0) := by
  intro n
  induction n with
  | zero =>
   intro l hl _ _
   rw [List.length_eq_zero_iff.1 hl]
   exact ⟨trivial, fun p hp => by cases hp⟩
  | succ n ih =>
   intro l hl hs ho
   obtain ⟨l', m, rfl⟩ : ∃ l' m, l = l' ++ [m] := ⟨l.dropLast, l.getLast (by intro e; subst e; simp at hl), (List.dropLast_concat_getLast _).symm⟩
   obtain ⟨s1, _, s3⟩ := SR_app l' [m] hs
   have hl' : l'.length = n := by rw [lA_, lS_] at hl; omega
   obtain ⟨i1, i2⟩ := ih l' hl' s1 fun x hx => ho x (List.mem_append_left _ hx)
   have hm : okM m := ho m (List.mem_append_right _ List.mem_cons_self)
   have hle : ∀ p ∈ jl l', ¬ LTm m p := fun p hp c => by
    obtain ⟨x, hx, h1, h2⟩ := i2 p hp
    refine s3 x hx m List.mem_cons_self ?_
    rcases c with c | ⟨c, c2⟩
    ·exact .inl (SL_E c h1.symm)
    ·exact .inr ⟨c.trans h1.symm, O_⟩
   have e : jl (l' ++ [m]) = ins (jl l') m := by
    rw [← jl_ins (jl l') m i1 hm, insF_end m _ hle, ← fold_jl (l' ++ [m]), ← fold_jl (jl l' ++ [m]), fold_snoc, fold_snoc, fold_same i1, ← fold_jl l', List.reverse_reverse]
   refine ⟨by rw [e]; exact ins_CH _ m i1 hm, fun p hp => ?_⟩
   rw [← fold_jl, fold_snoc] at hp
   have hf : ∀ p ∈ l'.foldl jn [], ∃ x ∈ l', SE x p ∧ x.f0 = p.f0 := fun p hp => i2 p (by rw [← fold_jl, List.mem_reverse]; exact hp)
   rw [List.mem_reverse] at hp
   generalize l'.foldl jn [] = R at hp hf
   have up : (∃ x ∈ l', SE x p ∧ x.f0 = p.f0) → ∃ x ∈ l' ++ [m], SE x p ∧ x.f0 = p.f0 := fun ⟨x, a, b⟩ => ⟨x, List.mem_append_left _ a, b⟩
   cases R with
   | nil =>
    rw [List.mem_singleton.1 hp]
    exact ⟨m, List.mem_append_right _ List.mem_cons_self, rfl, rfl⟩
   | cons c R =>
    by_cases cc : SE c m ∧ c.f1 ≥ m.f0
    ·rw [show jn (c :: R) m = ⟨c.f0, mx c.f1 m.f1, c.f2⟩ :: R from ip_ cc] at hp
     rcases List.mem_cons.1 hp with rfl | hp
     ·obtain ⟨x, a, b, d⟩ := hf c List.mem_cons_self
      exact ⟨x, List.mem_append_left _ a, b, d⟩
     ·exact up (hf p (List.mem_cons_of_mem _ hp))
    ·rw [show jn (c :: R) m = m :: c :: R from iN_ cc] at hp
     rcases List.mem_cons.1 hp with rfl | hp
     ·exact ⟨p, List.mem_append_right _ List.mem_cons_self, rfl, rfl⟩
     ·exact up (hf p hp)
 intro hs ho
 obtain ⟨i1, i2⟩ := H l.length l rfl hs ho
 refine ⟨i1, i2, fun m hm hle => ?_⟩
 have hle : ∀ p ∈ jl l, ¬ LTm m p := fun p hp c => by
  obtain ⟨x, hx, h1, h2⟩ := i2 p hp
  refine hle x hx ?_
  rcases c with c | ⟨c, c2⟩
  ·exact .inl (SL_E c h1.symm)
  ·exact .inr ⟨c.trans h1.symm, O_⟩
 rw [← jl_ins (jl l) m i1 hm, insF_end m _ hle, ← fold_jl (l ++ [m]), ← fold_jl (jl l ++ [m]), fold_snoc, fold_snoc, fold_same i1, ← fold_jl l, List.reverse_reverse]
def cov (s : ByteArray) : List S34 → Int
 | [] => 0
 | x :: l => (if x.f2.toList = s.toList then x.f1 - x.f0 else 0) + cov s l
theorem cov_nn (s : ByteArray) : ∀ l : List S34, CH l → 0 ≤ cov s l
 | [], _ => Int.le_refl _
 | x :: l, h => by
  have h1 : x.f0 < x.f1 := h.1
  have h2 := cov_nn s l h.2.2
  unfold cov
  split <;> omega
theorem cov_ins : ∀ (l : List S34) (m : S34) (c : Int), CH l → okM m → (∀ y ∈ l, SE y m → c < y.f0) →
  cov m.f2 l ≤ cov m.f2 (ins l m) ∧ (∀ t, t ≤ m.f1 → t ≤ c → cov m.f2 l + (t - m.f0) ≤ cov m.f2 (ins l m)) ∧ m.f1 - m.f0 ≤ cov m.f2 (ins l m) ∧ cov m.f2 (ins l m) ≤ cov m.f2 l + (m.f1 - m.f0)
 | [], m, c, _, hm, _ => by
  have h : m.f0 < m.f1 := hm
  have e : cov m.f2 (ins [] m) = m.f1 - m.f0 + 0 := by
   show (if m.f2.toList = m.f2.toList then m.f1 - m.f0 else 0) + 0 = _
   rw [ip_ rfl]
  rw [e]
  show (0 : Int) ≤ _ ∧ (∀ t, _ → _ → 0 + _ ≤ _) ∧ _ ∧ _ ≤ 0 + _
  exact ⟨O_, fun t _ _ => by omega, O_, O_⟩
 | x :: l, m, c, h, hm, hc => by
  have hx : x.f0 < x.f1 := h.1
  have hm' : m.f0 < m.f1 := hm
  have nn := cov_nn m.f2 l h.2.2
  have e0 : cov m.f2 (x :: l) = (if x.f2.toList = m.f2.toList then x.f1 - x.f0 else 0) + cov m.f2 l := rfl
  unfold ins
  by_cases b : BF x m
  ·rw [ip_ b]
   have ih := cov_ins l m c h.2.2 hm fun y hy => hc y (List.mem_cons_of_mem _ hy)
   have e1 : cov m.f2 (x :: ins l m) = (if x.f2.toList = m.f2.toList then x.f1 - x.f0 else 0) + cov m.f2 (ins l m) := rfl
   rw [e0, e1]
   have hp : 0 ≤ (if x.f2.toList = m.f2.toList then x.f1 - x.f0 else 0) := by split <;> omega
   exact ⟨O_, fun t a b => by have := ih.2.1 t a b; omega, O_, O_⟩
  ·rw [iN_ b]
   by_cases g : GT x m
   ·rw [ip_ g]
    have e1 : cov m.f2 (m :: x :: l) = (m.f1 - m.f0) + cov m.f2 (x :: l) := by
     show (if m.f2.toList = m.f2.toList then m.f1 - m.f0 else 0) + _ = _
     rw [ip_ rfl]
    have := cov_nn m.f2 (x :: l) h
    rw [e1]
    exact ⟨O_, fun t _ _ => by omega, O_, O_⟩
   ·rw [iN_ g]
    have e := BF_mg b g
    have hcx := hc x List.mem_cons_self e.1
    have ih := cov_ins l (mg x m) x.f1 h.2.2 (mg_ok h.1 hm) fun y hy hs => by
     have hb := h.2.1 y hy
     rcases hb with hb | ⟨_, hb⟩
     ·exact absurd (e.1.trans (show m.f2.toList = y.f2.toList from hs.symm)) (SL_irr hb)
     ·exact hb
    rw [e0, ip_ (show x.f2.toList = m.f2.toList from e.1)]
    have f1 : (mg x m).f0 = if x.f0 < m.f0 then x.f0 else m.f0 := rfl
    have f2 : (mg x m).f1 = if x.f1 > m.f1 then x.f1 else m.f1 := rfl
    have f3 : (mg x m).f2 = m.f2 := rfl
    obtain ⟨i1, i2, i3, i4⟩ := ih
    have i2 := i2 x.f1 (by rw [f2]; split <;> omega) (Int.le_refl _)
    rw [f3] at i1 i2 i3 i4
    generalize (mg x m).f0 = u at *
    generalize (mg x m).f1 = v at *
    have u1 : u ≤ x.f0 ∧ u ≤ m.f0 ∧ (u = x.f0 ∨ u = m.f0) := by rw [f1]; split <;> omega
    have v1 : x.f1 ≤ v ∧ m.f1 ≤ v ∧ (v = x.f1 ∨ v = m.f1) := by rw [f2]; split <;> omega
    clear f1 f2
    have e2 := e.2.1
    have e3 := e.2.2
    exact ⟨O_, fun t _ _ => by omega, O_, O_⟩
theorem ins_at : ∀ (l : List S34) (m : S34) (a : Int), m.f0 ≤ a → a < m.f1 → ∃ z ∈ ins l m, z.f2.toList = m.f2.toList ∧ z.f0 ≤ a ∧ a < z.f1
 | [], m, a, h1, h2 => ⟨m, List.mem_cons_self, rfl, h1, h2⟩
 | x :: l, m, a, h1, h2 => by
  unfold ins
  split
  ·obtain ⟨z, hz, h⟩ := ins_at l m a h1 h2
   exact ⟨z, List.mem_cons_of_mem _ hz, h⟩
  ·split
   ·exact ⟨m, List.mem_cons_self, rfl, h1, h2⟩
   ·obtain ⟨z, hz, h⟩ := ins_at l (mg x m) a (by show (if x.f0 < m.f0 then x.f0 else m.f0) ≤ a; split <;> omega) (by show a < (if x.f1 > m.f1 then x.f1 else m.f1); split <;> omega)
    exact ⟨z, hz, h⟩
theorem rdM (l : List S34) (i : Nat) (h : i < l.length) : so l (i : Int) = l[i] := by
 unfold so
 rw [tN_, List.getD_eq_getElem?_getD, List.getElem?_eq_getElem h]; rfl
def lwN (s : ByteArray) : Nat → Nat → Bool
 | 0, _ => true
 | d + 1, i => if bt s (i : Int) < 97 then false else if bt s (i : Int) > 122 then false else lwN s d (i + 1)
def sty (s : ByteArray) : Bool := lwN s s.size 0 && (decide (1 ≤ (s.size : Int)) && decide ((s.size : Int) ≤ 8))
theorem w1 {i : Nat} (h : i < 1000000) : wrap64 ((i : Int) + 1) = ((i + 1 : Nat) : Int) := wi h
theorem styS_l (s : ByteArray) (hs : s.size ≤ 1000) : ∀ (d i : Nat), i + d = s.size → ∀ k, d < k → spec_l5Style.l0 k s (i : Int) = some (lwN s d i && (decide (1 ≤ (s.size : Int)) && decide ((s.size : Int) ≤ 8))) := by
 intro d
 induction d with
 | zero =>
  intro i hi k hk
  obtain ⟨k, rfl⟩ := k1_ k
  unfold spec_l5Style.l0 spec_l1In.f lwN
  rw [iN_ O_, Bool.true_and]
  by_cases c : (s.size : Int) ≥ 1
  ·rw [ip_ c, decide_eq_true (show 1 ≤ (s.size : Int) by omega)]; rfl
  ·rw [iN_ c, decide_eq_false (show ¬ 1 ≤ (s.size : Int) by omega)]; rfl
 | succ d ih =>
  intro i hi k hk
  obtain ⟨k, rfl⟩ := k1_ k
  unfold spec_l5Style.l0 lwN
  rw [ip_ O_, ip_ O_, w1 O_, ih (i + 1) O_ k O_]
  split
  ·rfl
  ·split <;> rfl
theorem styS (s : ByteArray) (hs : s.size ≤ 1000) : ∀ k, s.size < k → spec_l5Style.f k s = some (sty s) := fun k hk => styS_l s hs s.size 0 O_ k hk
theorem styI_l (s : ByteArray) (hs : s.size ≤ 1000) : ∀ (d i : Nat), i + d = s.size → ∀ k, d < k → impl_isStyle.l0 k s (s.size : Int) (i : Int) = some (lwN s d i && (decide (1 ≤ (s.size : Int)) && decide ((s.size : Int) ≤ 8))) := by
 intro d
 induction d with
 | zero =>
  intro i hi k hk
  obtain ⟨k, rfl⟩ := k1_ k
  unfold impl_isStyle.l0 lwN
  rw [iN_ O_, Bool.true_and]
  by_cases c : s.toList = []
  ·have := tl_nil.1 c
   rw [ip_ c, decide_eq_false (show ¬ 1 ≤ (s.size : Int) by omega)]; rfl
  ·have : ¬ s.size = 0 := fun e => c (tl_nil.2 e)
   rw [iN_ c, decide_eq_true (show 1 ≤ (s.size : Int) by omega)]; rfl
 | succ d ih =>
  intro i hi k hk
  obtain ⟨k, rfl⟩ := k1_ k
  unfold impl_isStyle.l0 lwN
  rw [ip_ O_, ip_ O_, ip_ O_, w1 O_, ih (i + 1) O_ k O_]
  split
  ·rfl
  ·split <;> rfl
theorem styI (s : ByteArray) (hs : s.size ≤ 1000) : ∀ k, s.size < k → impl_isStyle.f k s = some (sty s) := fun k hk => styI_l s hs s.size 0 O_ k hk
def mkB (m : S34) (size : Int) : Bool := sty m.f2 && (decide (0 ≤ m.f0) && (decide (m.f0 < m.f1) && decide (m.f1 ≤ size)))
theorem mkS (m : S34) (size : Int) (hs : m.f2.size ≤ 1000) : ∀ k, m.f2.size < k → spec_l5Mark.f k m.f0 m.f1 m.f2 size = some (mkB m size) := fun k hk => by
 unfold spec_l5Mark.f mkB
 rw [styS m.f2 hs k hk, bs_]
 cases sty m.f2 with
 | false => rfl
 | true =>
  rw [ip_ rfl, Bool.true_and]
  by_cases c1 : m.f0 ≥ 0
  ·rw [ip_ c1, decide_eq_true (show 0 ≤ m.f0 from c1), Bool.true_and]
   by_cases c2 : m.f0 < m.f1
   ·rw [ip_ c2, decide_eq_true c2, Bool.true_and]
   ·rw [iN_ c2, decide_eq_false c2, Bool.false_and]
  ·rw [iN_ c1, decide_eq_false (show ¬ 0 ≤ m.f0 from c1), Bool.false_and]
theorem mkI (m : S34) (size : Int) (hs : m.f2.size ≤ 1000) : ∀ k, m.f2.size < k → impl_isMark.f k m.f0 m.f1 m.f2 size = some (mkB m size) := fun k hk => by
 unfold impl_isMark.f mkB
 rw [styI m.f2 hs k hk, bs_]
 by_cases c1 : m.f0 ≥ 0
 ·rw [ip_ c1, decide_eq_true (show 0 ≤ m.f0 from c1), Bool.true_and]
  by_cases c2 : m.f0 < m.f1
  ·rw [ip_ c2, decide_eq_true c2, Bool.true_and]
   by_cases c3 : m.f1 ≤ size
   ·rw [ip_ c3, decide_eq_true c3, Bool.and_true]
   ·rw [iN_ c3, decide_eq_false c3, Bool.and_false]
  ·rw [iN_ c2, decide_eq_false c2, Bool.false_and, Bool.and_false]
 ·rw [iN_ c1, decide_eq_false (show ¬ 0 ≤ m.f0 from c1), Bool.false_and, Bool.and_false]
def adB (a b : S34) : Bool := if Op.bytesLess b.f2.toList a.f2.toList = true then false else if a.f2.toList = b.f2.toList then (if a.f1 ≥ b.f0 then false else true) else true
def gL (size : Int) : Option S34 → List S34 → Bool
 | _, [] => true
 | none, x :: l => mkB x size && gL size (some x) l
 | some p, x :: l => mkB x size && (adB p x && gL size (some x) l)
def gmB (l : List S34) (size : Int) : Bool := gL size none l && (decide (l.length ≤ 40) && (decide (0 ≤ size) && decide (size ≤ 300)))
def pvM (l : List S34) : Nat → Option S34
 | 0 => none
 | i + 1 => l[i]?
def stS (l : List S34) : Prop := ∀ x ∈ l, x.f2.size ≤ 1000
theorem gmS_l (l : List S34) (size : Int) (hl : l.length ≤ 1000) (hs : stS l) : ∀ (d i : Nat), i + d = l.length → ∀ k, d + 1001 < k →
  spec_GoodMarks.l0 k l size l (l.length : Int) (i : Int) = some (gL size (pvM l i) (l.drop i) && (decide (l.length ≤ 40) && (decide (0 ≤ size) && decide (size ≤ 300)))) := by
 intro d
 induction d with
 | zero =>
  intro i hi k hk
  obtain ⟨k, rfl⟩ := k1_ k
  have e : ∀ p, gL size p [] = true := fun p => by cases p <;> rfl
  unfold spec_GoodMarks.l0 spec_l1In.f
  rw [iN_ O_, List.drop_of_length_le O_, e, Bool.true_and]
  by_cases c : (l.length : Int) ≤ 40
  ·rw [ip_ c, decide_eq_true (show l.length ≤ 40 by omega), Bool.true_and]
   by_cases c1 : size ≥ 0
   ·rw [ip_ c1, decide_eq_true (show 0 ≤ size from c1)]; rfl
   ·rw [iN_ c1, decide_eq_false (show ¬ 0 ≤ size from c1)]; rfl
  ·rw [iN_ c, decide_eq_false (show ¬ l.length ≤ 40 by omega)]; rfl
 | succ d ih =>
  intro i hi k hk
  obtain ⟨k, rfl⟩ := k1_ k
  have hil : i < l.length := by omega
  have hx := hs l[i] (List.getElem_mem hil)
  have ih := ih (i + 1) O_ k O_
  have hpv : pvM l (i + 1) = some l[i] := List.getElem?_eq_getElem hil
  rw [hpv] at ih
  unfold spec_GoodMarks.l0
  rw [ip_ O_, ip_ O_, ip_ O_, rdM l i hil, mkS l[i] size hx k O_, bs_, w1 O_, List.drop_eq_getElem_cons hil, ih]
  generalize (decide (l.length ≤ 40) && (decide (0 ≤ size) && decide (size ≤ 300))) = E
  match i, hil with
  | 0, hil =>
   have e : gL size (pvM l 0) (l[0] :: l.drop (0 + 1)) = (mkB l[0] size && gL size (some l[0]) (l.drop (0 + 1))) := rfl
   rw [e]
   cases mkB l[0] size with
   | false => rfl
   | true => rw [ip_ rfl, iN_ O_, Bool.true_and]
  | i + 1, hil =>
   have hpv : pvM l (i + 1) = some l[i] := List.getElem?_eq_getElem O_
   have e : gL size (some l[i]) (l[i + 1] :: l.drop (i + 1 + 1)) = (mkB l[i + 1] size && (adB l[i] l[i + 1] && gL size (some l[i + 1]) (l.drop (i + 1 + 1)))) := rfl
   have hw : wrap64 (((i + 1 : Nat) : Int) - 1) = (i : Int) := (w64 O_ O_).trans O_
   rw [hpv, e]
   cases mkB l[i + 1] size with
   | false => rfl
   | true =>
    rw [ip_ rfl, ip_ O_, hw, ip_ O_, ip_ O_, rdM l i O_, Bool.true_and]
    unfold adB
    split
    ·rfl
    ·split
     ·split
      ·rfl
      ·rw [Bool.true_and]
     ·rw [Bool.true_and]
theorem gmS (l : List S34) (size : Int) (hl : l.length ≤ 1000) (hs : stS l) : ∀ k, 3000 ≤ k → spec_GoodMarks.f k l size = some (gmB l size) := fun k hk =>
 gmS_l l size hl hs l.length 0 O_ k O_
theorem gmI_l (l : List S34) (size : Int) (hl : l.length ≤ 1000) (hs : stS l) : ∀ (d i : Nat), i + d = l.length → ∀ k, d + 1001 < k →
  impl_GoodMarks.l0 k l size l (l.length : Int) (i : Int) = some (gL size (pvM l i) (l.drop i)) := by
 intro d
 induction d with
 | zero =>
  intro i hi k hk
  obtain ⟨k, rfl⟩ := k1_ k
  have e : ∀ p, gL size p [] = true := fun p => by cases p <;> rfl
  unfold impl_GoodMarks.l0
  rw [iN_ O_, List.drop_of_length_le O_, e]
 | succ d ih =>
  intro i hi k hk
  obtain ⟨k, rfl⟩ := k1_ k
  have hil : i < l.length := by omega
  have hx := hs l[i] (List.getElem_mem hil)
  have ih := ih (i + 1) O_ k O_
  have hpv : pvM l (i + 1) = some l[i] := List.getElem?_eq_getElem hil
  rw [hpv] at ih
  unfold impl_GoodMarks.l0
  rw [ip_ O_, ip_ O_, ip_ O_, rdM l i hil, mkI l[i] size hx k O_, bs_, w1 O_, List.drop_eq_getElem_cons hil, ih]
  match i, hil with
  | 0, hil =>
   have e : gL size (pvM l 0) (l[0] :: l.drop (0 + 1)) = (mkB l[0] size && gL size (some l[0]) (l.drop (0 + 1))) := rfl
   rw [e]
   cases mkB l[0] size with
   | false => rfl
   | true => rw [ip_ rfl, iN_ O_, Bool.true_and]
  | i + 1, hil =>
   have hpv : pvM l (i + 1) = some l[i] := List.getElem?_eq_getElem O_
   have e : gL size (some l[i]) (l[i + 1] :: l.drop (i + 1 + 1)) = (mkB l[i + 1] size && (adB l[i] l[i + 1] && gL size (some l[i + 1]) (l.drop (i + 1 + 1)))) := rfl
   have hw : wrap64 (((i + 1 : Nat) : Int) - 1) = (i : Int) := (w64 O_ O_).trans O_
   rw [hpv, e]
   cases mkB l[i + 1] size with
   | false => rfl
   | true =>
    rw [ip_ rfl, ip_ O_, hw, ip_ O_, ip_ O_, rdM l i O_, Bool.true_and]
    unfold adB
    split
    ·rfl
    ·split
     ·split
      ·rfl
      ·rw [Bool.true_and]
     ·rw [Bool.true_and]
theorem gmI (l : List S34) (size : Int) (hl : l.length ≤ 1000) (hs : stS l) : ∀ k, 3000 ≤ k → impl_GoodMarks.f k l size = some (gmB l size) := fun k hk => by
 obtain ⟨k, rfl⟩ := k1_ k
 have h := gmI_l l size hl hs l.length 0 O_ k O_
 have h : impl_GoodMarks.l0 k l size l (l.length : Int) 0 = some (gL size none l) := h
 have key : ∀ b, b = (!(decide (l.length ≤ 40) && (decide (0 ≤ size) && decide (size ≤ 300)))) → impl_GoodMarks.j0 (k + 1) l size b = some (gmB l size) := fun b hb => by
  have e : impl_GoodMarks.j0 (k + 1) l size b = if b = true then some false else impl_GoodMarks.l0 k l size l (l.length : Int) 0 := rfl
  unfold gmB
  rw [e, h, hb]
  cases (decide (l.length ≤ 40) && (decide (0 ≤ size) && decide (size ≤ 300))) with
  | false => rw [ip_ (show (!false) = true from rfl), Bool.and_false]
  | true => rw [iN_ (by simp), Bool.and_true]
 unfold impl_GoodMarks.f
 split
 ·exact key _ (by rw [decide_eq_false (show ¬ 0 ≤ size by omega)]; simp)
 ·split
  ·exact key _ (by rw [decide_eq_false (show ¬ size ≤ 300 by omega)]; simp)
  ·refine key _ ?_
   rw [decide_eq_true (show 0 ≤ size by omega), decide_eq_true (show size ≤ 300 by omega), Bool.and_true, Bool.and_true]
   by_cases c : l.length ≤ 40
   ·rw [decide_eq_true c, decide_eq_false O_]; rfl
   ·rw [decide_eq_false c, decide_eq_true O_]; rfl
theorem adB_BF {a b : S34} (h : adB a b = true) : BF a b := by
 unfold adB at h
 split at h
 ·cases h
 ·rename_i c
  split at h
  ·rename_i e
   split at h
   ·cases h
   ·exact .inr ⟨e, O_⟩
  ·rename_i e
   exact .inl (SL_tot (a := b) (b := a) c fun e' => e e'.symm)
theorem BF_adB {a b : S34} (h : BF a b) : adB a b = true := by
 unfold adB
 rcases h with h | ⟨h, h2⟩
 ·have h1 : ¬ Op.bytesLess b.f2.toList a.f2.toList = true := SL_asym h
  have h2 : ¬ a.f2.toList = b.f2.toList := SL_irr h
  rw [iN_ h1, iN_ h2]
 ·have : ¬ Op.bytesLess b.f2.toList a.f2.toList = true := fun c => SL_ne (a := b) (b := a) c h
  have h' : a.f2.toList = b.f2.toList := h
  rw [iN_ this, ip_ h', iN_ O_]
theorem mkB_iff (m : S34) (size : Int) : mkB m size = true ↔ sty m.f2 = true ∧ 0 ≤ m.f0 ∧ m.f0 < m.f1 ∧ m.f1 ≤ size := by
 unfold mkB
 simp only [Bool.and_eq_true, decide_eq_true_eq]
theorem gL_some (size : Int) : ∀ (l : List S34) (p : S34), okM p → (gL size (some p) l = true ↔ (∀ x ∈ l, mkB x size = true) ∧ CH l ∧ ∀ x ∈ l, BF p x)
 | [], p, _ => ⟨fun _ => ⟨(fun x hx => by cases hx), trivial, (fun x hx => by cases hx)⟩, fun _ => rfl⟩
 | x :: l, p, hp => by
  have e : gL size (some p) (x :: l) = (mkB x size && (adB p x && gL size (some x) l)) := rfl
  rw [e, Bool.and_eq_true, Bool.and_eq_true]
  constructor
  ·rintro ⟨h1, h2, h3⟩
   have hx : okM x := ((mkB_iff x size).1 h1).2.2.1
   obtain ⟨a, b, c⟩ := (gL_some size l x hx).1 h3
   have hb := adB_BF h2
   refine ⟨fun y hy => ?_, ⟨hx, c, b⟩, fun y hy => ?_⟩
   ·rcases List.mem_cons.1 hy with rfl | hy
    ·exact h1
    ·exact a y hy
   ·rcases List.mem_cons.1 hy with rfl | hy
    ·exact hb
    ·exact BF_trans hb hx (c y hy)
  ·rintro ⟨h1, h2, h3⟩
   exact ⟨h1 x List.mem_cons_self, BF_adB (h3 x List.mem_cons_self), (gL_some size l x h2.1).2 ⟨fun y hy => h1 y (List.mem_cons_of_mem _ hy), h2.2.2, h2.2.1⟩⟩
theorem gL_none (size : Int) (l : List S34) : gL size none l = true ↔ (∀ x ∈ l, mkB x size = true) ∧ CH l := by
 cases l with
 | nil => exact ⟨fun _ => ⟨(fun x hx => by cases hx), trivial⟩, fun _ => rfl⟩
 | cons x l =>
  have e : gL size none (x :: l) = (mkB x size && gL size (some x) l) := rfl
  rw [e, Bool.and_eq_true]
  constructor
  ·rintro ⟨h1, h2⟩
   have hx : okM x := ((mkB_iff x size).1 h1).2.2.1
   obtain ⟨a, b, c⟩ := (gL_some size l x hx).1 h2
   refine ⟨fun y hy => ?_, hx, c, b⟩
   rcases List.mem_cons.1 hy with rfl | hy
   ·exact h1
   ·exact a y hy
  ·rintro ⟨h1, h2⟩
   exact ⟨h1 x List.mem_cons_self, (gL_some size l x h2.1).2 ⟨fun y hy => h1 y (List.mem_cons_of_mem _ hy), h2.2.2, h2.2.1⟩⟩
theorem gmB_iff (l : List S34) (size : Int) : gmB l size = true ↔ ((∀ x ∈ l, mkB x size = true) ∧ CH l) ∧ l.length ≤ 40 ∧ 0 ≤ size ∧ size ≤ 300 := by
 unfold gmB
 rw [Bool.and_eq_true, gL_none]
 simp only [Bool.and_eq_true, decide_eq_true_eq]
theorem sty_size {s : ByteArray} (h : sty s = true) : 1 ≤ s.size ∧ s.size ≤ 8 := by
 unfold sty at h
 simp only [Bool.and_eq_true, decide_eq_true_eq] at h
 omega
theorem ft : ¬ (false = true) := by decide
def addL : List S34 → Bool → List S34 → S34 → List S34
 | out, put, [], m => if put = true then out else out ++ [m]
 | out, put, x :: l, m => if BF x m then addL (out ++ [x]) put l m else if GT x m then (if put = true then addL (out ++ [x]) put l m else addL (out ++ [m] ++ [x]) true l m) else addL out put l (mg x m)
theorem addL_true (m : S34) : ∀ (l out : List S34), (∀ y ∈ l, BF m y) → okM m → CH l → addL out true l m = out ++ l
 | [], out, _, _, _ => by simp [addL]
 | x :: l, out, h, hm, hc => by
  have hb := h x List.mem_cons_self
  have hm' : m.f0 < m.f1 := hm
  have hx : x.f0 < x.f1 := hc.1
  have g : GT x m := by
   rcases hb with hb | hb
   ·exact .inl hb
   ·exact .inr hb.2
  unfold addL
  have r := addL_true m l (out ++ [x]) (fun y hy => h y (List.mem_cons_of_mem _ hy)) hm hc.2.2
  rw [List.append_assoc] at r
  by_cases b : BF x m
  ·rw [ip_ b]; exact r
  ·rw [iN_ b, ip_ g, ip_ rfl]; exact r
theorem addL_ins : ∀ (l out : List S34) (m : S34), CH l → okM m → addL out false l m = out ++ ins l m
 | [], out, m, _, _ => by simp [addL, ins]
 | x :: l, out, m, h, hm => by
  unfold addL ins
  by_cases b : BF x m
  ·rw [ip_ b, ip_ b, addL_ins l _ m h.2.2 hm, List.append_assoc]; rfl
  ·rw [iN_ b, iN_ b]
   by_cases g : GT x m
   ·rw [ip_ g, ip_ g, iN_ (by simp)]
    have hb : BF m x := by
     by_cases e : SE m x
     ·rcases g with g | g
      ·exact .inl g
      ·exact .inr ⟨e, g⟩
     ·by_cases e2 : SL m x
      ·exact .inl e2
      ·exact absurd (.inl (SL_tot e2 e)) b
    rw [addL_true m l _ (fun y hy => BF_trans hb h.1 (h.2.1 y hy)) hm h.2.2]
    simp
   ·rw [iN_ g, iN_ g, addL_ins l out _ h.2.2 (mg_ok h.1 hm)]
theorem add_l (l : List S34) (hl : l.length ≤ 1000) : ∀ (d i : Nat) (out : List S34) (put : Bool) (m : S34), i + d = l.length → out.length + 2 * d ≤ 100000 → ∀ k, 3 * d < k →
  spec_l5Add.l0 k out put l (l.length : Int) (i : Int) m.f0 m.f1 m.f2 = some (addL out put (l.drop i) m) := by
 intro d
 induction d with
 | zero =>
  intro i out put m hi ho k hk
  obtain ⟨k, rfl⟩ := k1_ k
  unfold spec_l5Add.l0
  rw [iN_ O_, List.drop_of_length_le O_]
  unfold addL
  cases put with
  | true => rfl
  | false => rw [iN_ ft, iN_ ft, ip_ O_]
 | succ d ih =>
  intro i out put m hi ho k hk
  obtain ⟨k, rfl⟩ : ∃ m, k = m + 1 + 1 + 1 := ⟨k - 3, O_⟩
  have hil : i < l.length := by omega
  have hr := fun o p m h => ih (i + 1) o p m O_ h k O_
  have hr1 := fun o p m h => ih (i + 1) o p m O_ h (k + 1) O_
  have j2 : ∀ b, b = decide (GT l[i] m) → spec_l5Add.j2 (k + 1) out put l (l.length : Int) (i : Int) b m.f0 m.f1 m.f2 l[i].f0 l[i].f1 l[i].f2 = some (if GT l[i] m then (if put = true then addL (out ++ [l[i]]) put (l.drop (i + 1)) m else addL (out ++ [m] ++ [l[i]]) true (l.drop (i + 1)) m) else addL out put (l.drop (i + 1)) (mg l[i] m)) := fun b hb => by
   unfold spec_l5Add.j2
   rw [w1 O_]
   by_cases g : GT l[i] m
   ·rw [hb, decide_eq_true g, ip_ rfl, ip_ g]
    cases put with
    | true => rw [ip_ rfl, ip_ rfl, ip_ O_]; exact hr _ _ m (by rw [lA_, lS_]; omega)
    | false =>
     rw [iN_ ft, iN_ ft, ip_ O_, bs_, ip_ (by rw [lA_, lS_]; omega)]
     exact hr _ _ m (by rw [lA_, lA_, lS_, lS_]; omega)
   ·rw [hb, decide_eq_false g, iN_ (by simp), iN_ g]
    have hm := hr out put (mg l[i] m) O_
    have f1 : (mg l[i] m).f0 = if l[i].f0 < m.f0 then l[i].f0 else m.f0 := rfl
    have f2 : (mg l[i] m).f1 = if l[i].f1 > m.f1 then l[i].f1 else m.f1 := rfl
    have f3 : (mg l[i] m).f2 = m.f2 := rfl
    rw [f1, f2, f3] at hm
    by_cases c1 : l[i].f0 < m.f0 <;> by_cases c2 : l[i].f1 > m.f1 <;> simp only [c1, c2, if_true, if_false] at hm ⊢ <;> exact hm
  have j1 : ∀ b, b = decide (BF l[i] m) → spec_l5Add.j1 (k + 1 + 1) out put l (l.length : Int) (i : Int) b m.f0 m.f1 m.f2 l[i].f0 l[i].f1 l[i].f2 = some (addL out put (l.drop i) m) := fun b hb => by
   rw [List.drop_eq_getElem_cons hil]
   unfold spec_l5Add.j1 addL
   by_cases c : BF l[i] m
   ·rw [hb, decide_eq_true c, ip_ rfl, ip_ c, ip_ O_, w1 O_]
    exact hr1 _ _ m (by rw [lA_, lS_]; omega)
   ·rw [hb, decide_eq_false c, iN_ (by simp), iN_ c]
    by_cases s : SL m l[i]
    ·rw [ip_ (show Op.bytesLess m.f2.toList l[i].f2.toList = true from s), j2 _ (decide_eq_true (show GT l[i] m from .inl s)).symm]
    ·rw [iN_ (show ¬ Op.bytesLess m.f2.toList l[i].f2.toList = true from s)]
     refine j2 _ (decide_eq_decide.2 ⟨fun h => .inr h, fun h => ?_⟩)
     rcases h with h | h
     ·exact absurd h s
     ·exact h
  unfold spec_l5Add.l0
  rw [ip_ O_, ip_ O_, ip_ O_, rdM l i hil]
  by_cases s : SL l[i] m
  ·rw [ip_ (show Op.bytesLess l[i].f2.toList m.f2.toList = true from s)]; exact j1 _ (decide_eq_true (show BF l[i] m from .inl s)).symm
  ·rw [iN_ (show ¬ Op.bytesLess l[i].f2.toList m.f2.toList = true from s)]
   by_cases e : SE l[i] m
   ·rw [ip_ (show l[i].f2.toList = m.f2.toList from e)]
    refine j1 _ (decide_eq_decide.2 ⟨fun h => .inr ⟨e, h⟩, fun h => ?_⟩)
    rcases h with h | h
    ·exact absurd h s
    ·exact h.2
   ·rw [iN_ (show ¬ l[i].f2.toList = m.f2.toList from e)]
    refine j1 _ (decide_eq_false (fun h => ?_)).symm
    rcases h with h | h
    ·exact s h
    ·exact e h.1
theorem add_ev (l : List S34) (hl : l.length ≤ 1000) (hc : CH l) (m : S34) (hm : okM m) : ∀ k, 3001 ≤ k → spec_l5Add.f k l m.f0 m.f1 m.f2 = some (ins l m) := fun k hk => by
 have := add_l l hl l.length 0 [] false m O_ (by simp only [List.length_nil]; omega) k O_
 rw [List.drop_zero, addL_ins l [] m hc hm] at this
 exact this
theorem joined1_ev (a b : S34) (ha : -1000000000 ≤ a.f0 ∧ a.f0 ≤ 1000000000) (hb : -1000000000 ≤ b.f0 ∧ b.f0 ≤ 1000000000) : ∃ c, impl_joined_1.f a.f0 a.f1 a.f2 b.f0 b.f1 b.f2 = some c ∧ (c < 0 ↔ LTm a b) := by
 have h := cmp_bl a.f2.toList b.f2.toList
 unfold impl_joined_1.f strings_Compare.f bytealg_CompareString.f
 rw [← toList_data, ← toList_data]
 simp only [bs_]
 generalize Lib.compareBytes a.f2.toList b.f2.toList = c at h
 by_cases e : c = 0
 ·have hse : SE a b := h.1.1 e
  refine ⟨wrap64 (a.f0 - b.f0), ip_ e, ?_⟩
  rw [w64 O_ O_]
  refine ⟨fun h' => .inr ⟨hse, O_⟩, fun h' => ?_⟩
  rcases h' with h' | h'
  ·exact absurd hse (SL_irr h')
  ·omega
 ·refine ⟨c, iN_ e, h.2.trans ⟨fun h' => .inl h', fun h' => ?_⟩⟩
  rcases h' with h' | h'
  ·exact h'
  ·exact absurd (h.1.2 h'.1) e
def bub : List S34 → S34 → List S34 → List S34
 | [], m, q => m :: q
 | x :: r, m, q => if LTm m x then bub r m (x :: q) else (x :: r).reverse ++ m :: q
def bdM (l : List S34) : Prop := ∀ x ∈ l, -1000000000 ≤ x.f0 ∧ x.f0 ≤ 1000000000
theorem rd_mid (p : List S34) (x : S34) (q : List S34) : so (p ++ x :: q) (p.length : Int) = x := by
 rw [rdM _ _ (by rw [lA_, List.length_cons]; omega)]
 simp
theorem bub_l (b i : Int) (hb : b ≤ 1000000) (hi : 0 ≤ i ∧ i ≤ 1000000) (z : List S34) (K : Nat) : ∀ (r : List S34) (m : S34) (q : List S34), r.length + q.length ≤ 1000 → bdM r → bdM [m] →
  (∀ k, K ≤ k → impl_Mark_68.l0 k (bub r m q) 0 b (wrap64 (i + 1)) = some z) → ∀ k, K + r.length + 1 ≤ k → impl_Mark_68.l1 k (r.reverse ++ m :: q) 0 b i (r.length : Int) = some z
 | [], m, q, _, _, _, h, k, hk => by
  obtain ⟨k, rfl⟩ := k1_ k
  unfold impl_Mark_68.l1
  rw [iN_ (by simp)]
  exact h k O_
 | x :: r, m, q, hl, hr, hm, h, k, hk => by
  obtain ⟨k, rfl⟩ := k1_ k
  have hlen : (x :: r).length = r.length + 1 := rfl
  have e0 : (x :: r).reverse ++ m :: q = r.reverse ++ x :: m :: q := by simp
  have e1 : so (r.reverse ++ x :: m :: q) ((r.length + 1 : Nat) : Int) = m := by
   have := rd_mid (r.reverse ++ [x]) m q
   rw [List.append_assoc, lA_, List.length_reverse] at this
   exact this
  have e2 : so (r.reverse ++ x :: m :: q) (r.length : Int) = x := by
   have := rd_mid r.reverse x (m :: q)
   rw [List.length_reverse] at this
   exact this
  have hL : (r.reverse ++ x :: m :: q).length = r.length + q.length + 2 := by simp; omega
  rw [hlen] at hl hk ⊢
  have hw : wrap64 (((r.length + 1 : Nat) : Int) - 1) = (r.length : Int) := (w64 O_ O_).trans O_
  obtain ⟨c, c1, c2⟩ := joined1_ev m x (hm m List.mem_cons_self) (hr x List.mem_cons_self)
  rw [e0]
  unfold impl_Mark_68.l1
  rw [ip_ O_, ip_ O_, hL, ip_ O_, hw, ip_ O_, ip_ O_, e1, e2, c1, bs_]
  unfold bub at h
  by_cases g : LTm m x
  ·rw [ip_ g] at h
   rw [ip_ (c2.2 g)]
   have es : ((r.reverse ++ x :: m :: q).set (((r.length + 1 : Nat) : Int)).toNat (⟨x.f0, x.f1, x.f2⟩ : S34)).set ((r.length : Int)).toNat (⟨m.f0, m.f1, m.f2⟩ : S34) = r.reverse ++ m :: x :: q := by
    rw [tN_, tN_, List.set_append_right _ _ (by rw [List.length_reverse]; omega), List.set_append_right _ _ (by rw [List.length_reverse]; omega), List.length_reverse, Nat.sub_self, show r.length + 1 - r.length = 1 by omega]
    rfl
   rw [es]
   exact bub_l b i hb hi z K r m (x :: q) (by rw [List.length_cons]; omega) (fun y hy => hr y (List.mem_cons_of_mem _ hy)) hm h k O_
  ·rw [iN_ g, e0] at h
   rw [iN_ (fun h' => g (c2.1 h'))]
   exact h k O_
theorem bub_insF (m : S34) : ∀ (n : Nat) (l q : List S34), l.length = n → SR l → bub l.reverse m q = insF m l ++ q := by
 intro n
 induction n with
 | zero =>
  intro l q hl _
  rw [List.length_eq_zero_iff.1 hl]; rfl
 | succ n ih =>
  intro l q hl hs
  obtain ⟨l', x, rfl⟩ : ∃ l' m, l = l' ++ [m] := ⟨l.dropLast, l.getLast (by intro e; subst e; simp at hl), (List.dropLast_concat_getLast _).symm⟩
  obtain ⟨s1, _, s3⟩ := SR_app l' [x] hs
  rw [List.reverse_append, List.reverse_singleton, List.singleton_append]
  unfold bub
  by_cases g : LTm m x
  ·rw [ip_ g, ih l' _ (by rw [lA_, lS_] at hl; omega) s1, insF_snoc m x g, List.append_assoc]; rfl
  ·rw [iN_ g, insF_end m (l' ++ [x]) fun y hy c => ?_]
   ·simp
   ·rcases List.mem_append.1 hy with hy | hy
    ·exact g (LTm_le c (s3 y hy x List.mem_cons_self))
    ·rw [List.mem_singleton.1 hy] at c; exact g c
theorem bub_stay {x m : S34} (h : ¬ LTm m x) (r q : List S34) : bub (x :: r) m q = (x :: r).reverse ++ m :: q := iN_ h
theorem sort_l (l : List S34) (hs : SR l) (hl : l.length ≤ 1000) (hb : bdM l) (m : S34) (hm : bdM [m]) : ∀ (d i : Nat), i + d = l.length + 1 → 1 ≤ i → ∀ k, (l.length + 3) * (d + 1) ≤ k →
  impl_Mark_68.l0 k (l ++ [m]) 0 ((l.length + 1 : Nat) : Int) (i : Int) = some (if d = 0 then l ++ [m] else insF m l) := by
 intro d
 induction d with
 | zero =>
  intro i hi h1 k hk
  obtain ⟨k, rfl⟩ := k1_ k
  unfold impl_Mark_68.l0
  rw [iN_ O_]; rfl
 | succ d ih =>
  intro i hi h1 k hk
  rw [Nat.mul_succ] at hk
  obtain ⟨k, rfl⟩ := k1_ k
  unfold impl_Mark_68.l0
  rw [ip_ O_, iN_ O_]
  have hwi : wrap64 ((i : Int) + 1) = ((i + 1 : Nat) : Int) := w1 O_
  by_cases hil : i < l.length
  ·obtain ⟨p, x, hp⟩ : ∃ p x, l.take i = p ++ [x] := ⟨(l.take i).dropLast, (l.take i).getLast (by intro e; have := congrArg List.length e; rw [List.length_take, List.length_nil] at this; omega), (List.dropLast_concat_getLast _).symm⟩
   have hsp : l = (p ++ [x]) ++ l[i] :: l.drop (i + 1) := by rw [← hp, ← List.drop_eq_getElem_cons hil, List.take_append_drop]
   have hpl : p.length + 1 = i := by have := congrArg List.length hp; rw [List.length_take, lA_, lS_] at this; omega
   have hle : ¬ LTm l[i] x := by
    have h' := hs
    rw [hsp] at h'
    exact (SR_app _ _ h').2.2 x (List.mem_append_right _ List.mem_cons_self) l[i] List.mem_cons_self
   have hbx : bdM (x :: p.reverse) := fun y hy => hb y (by
    rw [hsp]
    rcases List.mem_cons.1 hy with rfl | hy
    ·simp
    ·simp [List.mem_reverse.1 hy])
   have hq : ∀ k, (l.length + 3) * (d + 1) ≤ k → impl_Mark_68.l0 k (bub (x :: p.reverse) l[i] (l.drop (i + 1) ++ [m])) 0 ((l.length + 1 : Nat) : Int) (wrap64 ((i : Int) + 1)) = some (insF m l) := fun k hk => by
    have e : (x :: p.reverse).reverse ++ l[i] :: (l.drop (i + 1) ++ [m]) = l ++ [m] := by
     have : l ++ [m] = ((p ++ [x]) ++ l[i] :: l.drop (i + 1)) ++ [m] := by rw [← hsp]
     rw [this]; simp only [List.reverse_cons, List.reverse_reverse, List.append_assoc, List.singleton_append, List.cons_append, List.nil_append]
    rw [bub_stay hle, e, hwi, ih (i + 1) O_ O_ k hk, iN_ O_]
   have := bub_l ((l.length + 1 : Nat) : Int) (i : Int) O_ O_ (insF m l) _ (x :: p.reverse) l[i] (l.drop (i + 1) ++ [m]) (by simp; omega) hbx (fun y hy => by rw [List.mem_singleton.1 hy]; exact hb _ (List.getElem_mem hil)) hq k (by rw [List.length_cons, List.length_reverse]; omega)
   have e : (x :: p.reverse).reverse ++ l[i] :: (l.drop (i + 1) ++ [m]) = l ++ [m] := by
    have : l ++ [m] = ((p ++ [x]) ++ l[i] :: l.drop (i + 1)) ++ [m] := by rw [← hsp]
    rw [this]; simp only [List.reverse_cons, List.reverse_reverse, List.append_assoc, List.singleton_append, List.cons_append, List.nil_append]
   rw [e, List.length_cons, List.length_reverse, hpl] at this
   exact this
  ·have hie : i = l.length := by omega
   have hd : d = 0 := by omega
   subst hd
   have hq : ∀ k, (l.length + 3) * (0 + 1) ≤ k → impl_Mark_68.l0 k (bub l.reverse m []) 0 ((l.length + 1 : Nat) : Int) (wrap64 ((i : Int) + 1)) = some (insF m l) := fun k hk => by
    obtain ⟨k, rfl⟩ := k1_ k
    unfold impl_Mark_68.l0
    rw [hwi, iN_ O_, bub_insF m l.length l [] rfl hs, List.append_nil]
   have := bub_l ((l.length + 1 : Nat) : Int) (i : Int) O_ O_ (insF m l) _ l.reverse m [] (by simp; omega) (fun y hy => hb y (List.mem_reverse.1 hy)) hm hq k (by rw [List.length_reverse]; omega)
   rw [List.reverse_reverse, List.length_reverse] at this
   rw [hie] at this ⊢
   exact this
theorem sort_ev (l : List S34) (hs : SR l) (hl : l.length + 1 ≤ 12) (hb : bdM l) (m : S34) (hm : bdM [m]) : ∀ k, 1000 ≤ k → impl_Mark_42.f k (l ++ [m]) = some (insF m l) := fun k hk => by
 have hL : ((l ++ [m]).length : Int) = ((l.length + 1 : Nat) : Int) := by rw [lA_, lS_]
 have hu : IntKind.u64.wrap ((l.length + 1 : Nat) : Int) = ((l.length + 1 : Nat) : Int) := by
  show ((l.length + 1 : Nat) : Int) % _ = _
  exact Int.emod_eq_of_lt O_ (by show _ < (18446744073709551616 : Int); omega)
 have hmul : (l.length + 3) * (l.length + 1) ≤ 14 * 12 := Nat.mul_le_mul O_ O_
 unfold impl_Mark_42.f bits_Len.f impl_Mark_58.f impl_Mark_68.f
 rw [hL, hu, ip_ O_, bs_, w64 (i := ((l.length + 1 : Nat) : Int) - 0) O_ O_, ip_ O_, show wrap64 ((0 : Int) + 1) = ((1 : Nat) : Int) from (w64 O_ O_).trans O_]
 have := sort_l l hs O_ hb m hm l.length 1 O_ O_ k O_
 rw [this, bs_]
 by_cases c : l.length = 0
 ·rw [ip_ c, List.length_eq_zero_iff.1 c]; rfl
 ·rw [iN_ c]
theorem rd_end (r : List S34) (c : S34) : so ((c :: r).reverse) (r.length : Int) = c := by
 have := rd_mid r.reverse c []
 rw [List.length_reverse] at this
 rw [List.reverse_cons]; exact this
theorem set_end (r : List S34) (c y : S34) : ((c :: r).reverse).set (r.length : Int).toNat y = (y :: r).reverse := by
 rw [tN_, List.reverse_cons, List.reverse_cons, List.set_append_right _ _ (by rw [List.length_reverse]; omega), List.length_reverse, Nat.sub_self]; rfl
theorem joined_l (l : List S34) (hl : l.length ≤ 1000) : ∀ (d i : Nat) (r : List S34), i + d = l.length → r.length + d ≤ 100000 → ∀ k, d < k →
  impl_joined.l0 k r.reverse l (l.length : Int) (i : Int) = some ((l.drop i).foldl jn r).reverse := by
 intro d
 induction d with
 | zero =>
  intro i r hi hr k hk
  obtain ⟨k, rfl⟩ := k1_ k
  unfold impl_joined.l0
  rw [iN_ O_, List.drop_of_length_le O_]; rfl
 | succ d ih =>
  intro i r hi hr k hk
  obtain ⟨k, rfl⟩ := k1_ k
  have hil : i < l.length := by omega
  have hr1 := fun r h => ih (i + 1) r O_ h k O_
  rw [List.drop_eq_getElem_cons hil, List.foldl_cons]
  unfold impl_joined.l0
  rw [ip_ O_, ip_ O_, ip_ O_, rdM l i hil, w1 O_, List.length_reverse]
  have happ : r.reverse ++ [(⟨l[i].f0, l[i].f1, l[i].f2⟩ : S34)] = (l[i] :: r).reverse := by rw [List.reverse_cons]
  cases r with
  | nil =>
   have e : wrap64 ((([] : List S34).length : Int) - 1) = -1 := (w64 (by show _ ≤ (0 : Int) - 1; omega) (by show (0 : Int) - 1 ≤ _; omega)).trans rfl
   rw [e, iN_ O_, ip_ (by simp), happ]
   exact hr1 [l[i]] (by simp only [List.length_cons, List.length_nil] at hr ⊢; omega)
  | cons c r =>
   have hrl : (c :: r).length = r.length + 1 := rfl
   have e : wrap64 (((c :: r).length : Int) - 1) = (r.length : Int) := by rw [hrl]; exact (w64 O_ O_).trans O_
   rw [e, ip_ O_, ip_ O_, ip_ O_, rd_end, set_end]
   have e1 : (if (c :: r).length < 4398046511104 then impl_joined.l0 k ((c :: r).reverse ++ [(⟨l[i].f0, l[i].f1, l[i].f2⟩ : S34)]) l (l.length : Int) ((i + 1 : Nat) : Int) else none) = some ((l.drop (i + 1)).foldl jn (l[i] :: c :: r)).reverse := by
    rw [ip_ O_, happ]
    exact hr1 (l[i] :: c :: r) (by rw [List.length_cons]; omega)
   by_cases s : SE c l[i]
   ·rw [ip_ (show c.f2.toList = l[i].f2.toList from s)]
    by_cases g : c.f1 ≥ l[i].f0
    ·have ej : jn (c :: r) l[i] = ⟨c.f0, mx c.f1 l[i].f1, c.f2⟩ :: r := ip_ ⟨s, g⟩
     rw [ip_ g, ej]
     exact hr1 _ (by rw [List.length_cons]; omega)
    ·have ej : jn (c :: r) l[i] = l[i] :: c :: r := iN_ fun h => g h.2
     rw [iN_ g, ej]; exact e1
   ·have ej : jn (c :: r) l[i] = l[i] :: c :: r := iN_ fun h => s h.1
    rw [iN_ (show ¬ c.f2.toList = l[i].f2.toList from s), ej]; exact e1
theorem joined_ev (l : List S34) (hs : SR l) (hl : l.length + 1 ≤ 12) (hb : bdM l) (m : S34) (hm : bdM [m]) : ∀ k, 1000 ≤ k → impl_joined.f k (l ++ [m]) = some (jl (insF m l)) := fun k hk => by
 have hil : (insF m l).length = l.length + 1 := by
  have : ∀ l : List S34, (insF m l).length = l.length + 1 := fun l => by
   induction l with
   | nil => rfl
   | cons x l ih => unfold insF; split <;> simp [ih]
  exact this l
 unfold impl_joined.f impl_Mark_31.f
 rw [ip_ (by rw [lA_, lS_]; omega), bs_, sort_ev l hs hl hb m hm k hk, bs_]
 have := joined_l (insF m l) O_ (insF m l).length 0 [] O_ (by simp only [List.length_nil]; omega) k O_
 rw [List.drop_zero, fold_jl] at this
 rw [show (l ++ [m]).length = (insF m l).length by rw [lA_, lS_, hil]]
 exact this
theorem joined_nil : ∀ k, 1000 ≤ k → impl_joined.f k [] = some [] := fun k hk => by
 obtain ⟨k, rfl⟩ := k1_ k
 have e0 : (([] : List S34).length : Int) = 0 := rfl
 have e1 : impl_Mark_42.f (k + 1) [] = some [] := by
  unfold impl_Mark_42.f bits_Len.f impl_Mark_58.f impl_Mark_68.f impl_Mark_68.l0
  have hu : IntKind.u64.wrap 0 = 0 := by decide
  rw [e0, hu, ip_ O_, bs_, w64 (i := 0 - 0) O_ O_, ip_ O_, w64 (i := 0 + 1) O_ O_, iN_ O_, bs_]
 have e2 : impl_joined.l0 (k + 1) [] [] 0 0 = some [] := by
  unfold impl_joined.l0
  rw [iN_ O_]
 unfold impl_joined.f impl_Mark_31.f
 rw [ip_ (by simp), bs_, e1, bs_, e0, e2]
theorem cutI_nn {n a : Int} (hn : 0 ≤ n) (ha : 0 ≤ a) : 0 ≤ cutI n a := by unfold cutI; split <;> omega
theorem hi_nn : ∀ (l : List Pt) (a : Int), 0 ≤ hiP l a
 | [], _ => Int.le_refl _
 | .K n :: l, a => by
  by_cases c : a ≤ 0
  ·rw [hiK0 _ _ c]; omega
  ·rw [hiK1 _ _ O_]
   have := hi_nn l (a - (n : Int))
   have := cutI_nn (n := (n : Int)) (a := a) O_ O_
   omega
 | .W w :: l, a => by
  by_cases c : a < 0
  ·rw [hi_neg _ _ c]; omega
  ·rw [hiW1 _ _ O_]
   have := hi_nn l a
   omega
 | .D w :: l, a => by rw [hiD1]; exact hi_nn l _
theorem hi_mono : ∀ (l : List Pt) (a b : Int), a ≤ b → hiP l a ≤ hiP l b
 | [], _, _, _ => Int.le_refl _
 | .K n :: l, a, b, h => by
  by_cases c : a ≤ 0
  ·rw [hiK0 _ _ c]; exact hi_nn _ _
  ·rw [hiK1 _ _ O_, hiK1 _ _ O_]
   have := hi_mono l (a - (n : Int)) (b - (n : Int)) O_
   have : cutI (n : Int) a ≤ cutI (n : Int) b := by unfold cutI; split <;> split <;> omega
   omega
 | .W w :: l, a, b, h => by
  by_cases c : a < 0
  ·rw [hi_neg _ _ c]; exact hi_nn _ _
  ·rw [hiW1 _ _ O_, hiW1 _ _ O_]
   have := hi_mono l a b h
   omega
 | .D w :: l, a, b, h => by rw [hiD1, hiD1]; exact hi_mono l _ _ O_
theorem lo_hi : ∀ (l : List Pt) (a : Int), loP l a ≤ hiP l a
 | [], _ => Int.le_refl _
 | .K n :: l, a => by
  by_cases c : a ≤ 0
  ·rw [hiK0 _ _ c, loK0 _ _ c]; omega
  ·rw [hiK1 _ _ O_, loK1 _ _ O_]
   have := lo_hi l (a - (n : Int))
   omega
 | .W w :: l, a => by
  by_cases c : a < 0
  ·rw [hi_neg _ _ c, lo_np _ _ O_]; omega
  ·have := lo_hi l a
   rw [hiW1 _ _ O_]
   by_cases d : a > dlP l
   ·rw [loW1 _ _ d]; omega
   ·rw [loW0 _ _ d]; omega
 | .D w :: l, a => by rw [hiD1, loD1]; exact lo_hi l _
def mkN : Pt → Nat
 | .K n => n
 | .W w => w.size
 | .D _ => 0
def mks : List Pt → Nat
 | [] => 0
 | q :: r => mkN q + mks r
theorem mks_app : ∀ (a b : List Pt), mks (a ++ b) = mks a + mks b
 | [], b => by simp [mks]
 | q :: a, b => by simp only [List.cons_append, mks, mks_app a b]; omega
theorem mks_add (r : List Pt) (q : Pt) : mks (addP r q) = mks r + mkN q := by
 unfold addP
 split <;> simp [mks, mkN, zA_] <;> omega
theorem mks_fold : ∀ (L r : List Pt), mks (L.foldl addP r) = mks r + mks L
 | [], r => by simp [mks]
 | q :: L, r => by rw [List.foldl_cons, mks_fold L, mks_add]; simp only [mks]; omega
theorem mks_rev : ∀ r : List Pt, mks r.reverse = mks r
 | [] => rfl
 | q :: r => by rw [List.reverse_cons, mks_app, mks_rev r]; simp only [mks]; omega
theorem mks_nf (L : List Pt) : mks (nf L) = mks L := by
 unfold nf
 rw [mks_rev, mks_fold]; simp [mks]
theorem hi_mks : ∀ (l : List Pt) (a : Int), hiP l a ≤ (mks l : Int)
 | [], _ => Int.le_refl _
 | .K n :: l, a => by
  have e : mks (.K n :: l) = n + mks l := rfl
  by_cases c : a ≤ 0
  ·rw [hiK0 _ _ c]; omega
  ·rw [hiK1 _ _ O_, e]
   have := hi_mks l (a - (n : Int))
   have : cutI (n : Int) a ≤ (n : Int) := by unfold cutI; split <;> omega
   omega
 | .W w :: l, a => by
  have e : mks (.W w :: l) = w.size + mks l := rfl
  by_cases c : a < 0
  ·rw [hi_neg _ _ c]; omega
  ·rw [hiW1 _ _ O_, e]
   have := hi_mks l a
   omega
 | .D w :: l, a => by
  have e : mks (.D w :: l) = 0 + mks l := rfl
  rw [hiD1, e]
  have := hi_mks l (a - (w.size : Int))
  omega
theorem sA_mks : ∀ L : List Pt, sA (L.map encP) = (mks L : Int)
 | [] => rfl
 | q :: L => by
  have := sA_mks L
  have hE : (⟨#[]⟩ : ByteArray).size = 0 := rfl
  rw [List.map_cons]
  simp only [sA, mks]
  rw [this]
  cases q <;> simp only [encP, mkN, hE] <;> omega
theorem sB_tks : ∀ L : List Pt, sB (L.map encP) = (tks L : Int)
 | [] => rfl
 | q :: L => by
  have := sB_tks L
  have hE : (⟨#[]⟩ : ByteArray).size = 0 := rfl
  rw [List.map_cons]
  simp only [sB, tks]
  rw [this]
  cases q <;> simp only [encP, tkN, hE] <;> omega
theorem mass_tm : ∀ L : List Pt, mass L ≤ tks L + mks L
 | [] => Nat.le_refl _
 | q :: L => by
  have := mass_tm L
  simp only [mass, tks, mks]
  cases q <;> simp only [massP, tkN, mkN] <;> omega
def mv (N : List Pt) (m : S34) : S34 := ⟨hiP N m.f0, loP N m.f1, m.f2⟩
def mvs (N : List Pt) : List S34 → List S34
 | [] => []
 | x :: l => if hiP N x.f0 < loP N x.f1 then mv N x :: mvs N l else mvs N l
theorem mvs_cons (N : List Pt) (x : S34) (l : List S34) : mvs N (x :: l) = if hiP N x.f0 < loP N x.f1 then mv N x :: mvs N l else mvs N l := rfl
theorem mvs_mem (N : List Pt) : ∀ (l : List S34) (z : S34), z ∈ mvs N l → ∃ x ∈ l, z = mv N x ∧ okM z
 | [], z, h => by cases h
 | x :: l, z, h => by
  unfold mvs at h
  split at h
  ·rename_i c
   rcases List.mem_cons.1 h with rfl | h
   ·exact ⟨x, List.mem_cons_self, rfl, c⟩
   ·obtain ⟨y, hy, e⟩ := mvs_mem N l z h
    exact ⟨y, List.mem_cons_of_mem _ hy, e⟩
  ·obtain ⟨y, hy, e⟩ := mvs_mem N l z h
   exact ⟨y, List.mem_cons_of_mem _ hy, e⟩
theorem mvs_len (N : List Pt) : ∀ l : List S34, (mvs N l).length ≤ l.length
 | [] => Nat.le_refl _
 | x :: l => by
  have := mvs_len N l
  unfold mvs
  split <;> simp only [List.length_cons] <;> omega
theorem mvs_SR (N : List Pt) : ∀ l : List S34, CH l → SR (mvs N l)
 | [], _ => trivial
 | x :: l, h => by
  have ih := mvs_SR N l h.2.2
  unfold mvs
  split
  ·refine ⟨fun z hz c => ?_, ih⟩
   obtain ⟨y, hy, e, _⟩ := mvs_mem N l z hz
   subst e
   have hb := h.2.1 y hy
   have hx : x.f0 < x.f1 := h.1
   rcases hb with hb | ⟨hb, h2⟩
   ·rcases c with c | c
    ·exact SL_asym (a := x) (b := y) hb c
    ·exact SL_ne (a := x) (b := y) hb c.1
   ·rcases c with c | c
    ·exact SL_ne (a := y) (b := x) c hb
    ·have h3 : hiP N y.f0 < hiP N x.f0 := c.2
     have := hi_mono N x.f0 y.f0 O_
     omega
  ·exact ih
theorem jf_len : ∀ (l : List S34) (c : S34), (jf c l).length ≤ l.length + 1
 | [], _ => Nat.le_refl _
 | y :: l, c => by
  unfold jf
  split
  ·have := jf_len l ⟨c.f0, mx c.f1 y.f1, c.f2⟩; simp only [List.length_cons]; omega
  ·have := jf_len l y; simp only [List.length_cons]; omega
theorem jl_len (l : List S34) : (jl l).length ≤ l.length := by
 cases l with
 | nil => exact Nat.le_refl _
 | cons x l => exact jf_len l x
theorem jf_all (P : S34 → Prop) (hP : ∀ x m, P x → P m → P ⟨x.f0, mx x.f1 m.f1, x.f2⟩) : ∀ (l : List S34) (c : S34), P c → (∀ y ∈ l, P y) → ∀ z ∈ jf c l, P z
 | [], c, hc, _, z, hz => by rw [List.mem_singleton.1 hz]; exact hc
 | y :: l, c, hc, h, z, hz => by
  have h1 := h y List.mem_cons_self
  have h2 : ∀ y ∈ l, P y := fun y h' => h y (List.mem_cons_of_mem _ h')
  unfold jf at hz
  split at hz
  ·exact jf_all P hP l _ (hP c y hc h1) h2 z hz
  ·rcases List.mem_cons.1 hz with rfl | hz
   ·exact hc
   ·exact jf_all P hP l y h1 h2 z hz
theorem jl_all (P : S34 → Prop) (hP : ∀ x m, P x → P m → P ⟨x.f0, mx x.f1 m.f1, x.f2⟩) (l : List S34) (h : ∀ y ∈ l, P y) : ∀ z ∈ jl l, P z := by
 cases l with
 | nil => intro z hz; cases hz
 | cons x l => exact jf_all P hP l x (h x List.mem_cons_self) fun y hy => h y (List.mem_cons_of_mem _ hy)
theorem mkB_mx (size : Int) (x m : S34) (hx : mkB x size = true) (hm : mkB m size = true) : mkB ⟨x.f0, mx x.f1 m.f1, x.f2⟩ size = true := by
 obtain ⟨a, b, c, d⟩ := (mkB_iff x size).1 hx
 obtain ⟨a', b', c', d'⟩ := (mkB_iff m size).1 hm
 have h1 : x.f1 ≤ mx x.f1 m.f1 := by unfold mx; split <;> omega
 have h2 : mx x.f1 m.f1 ≤ size := by unfold mx; split <;> omega
 exact (mkB_iff _ size).2 ⟨a, b, show x.f0 < mx x.f1 m.f1 by omega, h2⟩
theorem mkB_mg (size : Int) (x m : S34) (hx : mkB x size = true) (hm : mkB m size = true) : mkB (mg x m) size = true := by
 obtain ⟨a, b, c, d⟩ := (mkB_iff x size).1 hx
 obtain ⟨a', b', c', d'⟩ := (mkB_iff m size).1 hm
 have ok : (mg x m).f0 < (mg x m).f1 := mg_ok (x := x) (m := m) c c'
 refine (mkB_iff _ size).2 ⟨a', ?_, ok, ?_⟩
 ·show 0 ≤ (if x.f0 < m.f0 then x.f0 else m.f0); split <;> omega
 ·show (if x.f1 > m.f1 then x.f1 else m.f1) ≤ size; split <;> omega
theorem joined_SR (ms : List S34) (hs : SR ms) (hl : ms.length ≤ 12) (hb : bdM ms) : ∀ k, 1000 ≤ k → impl_joined.f k ms = some (jl ms) := fun k hk => by
 by_cases c : ms = []
 ·rw [c]; exact joined_nil k hk
 ·obtain ⟨l', m, rfl⟩ : ∃ l' m, ms = l' ++ [m] := ⟨ms.dropLast, ms.getLast c, (List.dropLast_concat_getLast _).symm⟩
  obtain ⟨s1, _, s3⟩ := SR_app l' [m] hs
  rw [joined_ev l' s1 (by rw [lA_, lS_] at hl; omega) (fun x hx => hb x (List.mem_append_left _ hx)) m (fun x hx => hb x (List.mem_append_right _ hx)) k hk,
   insF_end m l' fun x hx => s3 x hx m List.mem_cons_self]
theorem good_ev (l : List S34) (size : Int) (hl : l.length ≤ 1000) (hs : stS l) : ∀ k, 3000 ≤ k → impl_goodMarks.f k l size = some (if gmB l size = true then (l, true) else ([], false)) := fun k hk => by
 unfold impl_goodMarks.f
 rw [gmI l size hl hs k hk, bs_]
 split <;> rfl
theorem stS_of {l : List S34} {size : Int} (h : ∀ x ∈ l, mkB x size = true) : stS l := fun x hx => by
 have := sty_size ((mkB_iff x size).1 (h x hx)).1
 omega
theorem rng {m : S34} {size : Int} (h : mkB m size = true) : 0 ≤ m.f0 ∧ m.f0 < m.f1 ∧ m.f1 ≤ size := ((mkB_iff m size).1 h).2
theorem moveI_l (L0 : List Pt) (h0 : ∀ x ∈ L0, 0 < massP x) (hm : mass L0 ≤ 1000000) (makes : Int) (l : List S34) (hl : l.length ≤ 12) (hk : ∀ x ∈ l, mkB x (tks L0) = true) (K : Nat) (v : List S34 × Bool)
  (hv : ∀ k, K ≤ k → ((impl_joined.f k (mvs (nf L0) l)).bind fun l5 => ((impl_goodMarks.f k l5 makes).bind fun pQ => (some (pQ.1, pQ.2)))) = some v) :
  ∀ (d i : Nat) (out : List S34), i + d = l.length → out ++ mvs (nf L0) (l.drop i) = mvs (nf L0) l → ∀ k, K + d + 2 * (nf L0).length + 2 ≤ k →
   impl_MoveMarks.l0 k ((nf L0).map encP) makes out l (l.length : Int) (i : Int) = some v := by
 intro d
 induction d with
 | zero =>
  intro i out hi ho k hk'
  obtain ⟨k, rfl⟩ := k1_ k
  unfold impl_MoveMarks.l0
  rw [List.drop_of_length_le O_] at ho
  have e : mvs (nf L0) [] = [] := rfl
  rw [e, List.append_nil] at ho
  rw [iN_ O_, ho]
  exact hv k O_
 | succ d ih =>
  intro i out hi ho k hk'
  obtain ⟨k, rfl⟩ := k1_ k
  have hil : i < l.length := by omega
  have hx := rng (hk l[i] (List.getElem_mem hil))
  have hol : out.length ≤ 12 := by
   have := congrArg List.length ho
   rw [lA_] at this
   have := mvs_len (nf L0) l
   omega
  obtain ⟨a, ha⟩ : ∃ a : Nat, l[i].f0 = (a : Int) := ⟨l[i].f0.toNat, (Int.toNat_of_nonneg hx.1).symm⟩
  obtain ⟨b, hb⟩ : ∃ a : Nat, l[i].f1 = (a : Int) := ⟨l[i].f1.toNat, (Int.toNat_of_nonneg O_).symm⟩
  rw [List.drop_eq_getElem_cons hil] at ho
  rw [mvs_cons, ha, hb] at ho
  rw [ha, hb] at hx
  unfold impl_MoveMarks.l0
  rw [ip_ O_, ip_ O_, ip_ O_, rdM l i hil, w1 O_, ha, hb, move_ev L0 h0 hm a O_ true k O_, bs_, move_ev L0 h0 hm b O_ false k O_, bs_, ip_ rfl, iN_ ft]
  have e0 : mv (nf L0) l[i] = ⟨hiP (nf L0) (a : Int), loP (nf L0) (b : Int), l[i].f2⟩ := by unfold mv; rw [ha, hb]
  rw [e0] at ho
  by_cases c : hiP (nf L0) (a : Int) < loP (nf L0) (b : Int)
  ·rw [ip_ c] at ho ⊢
   rw [ip_ O_]
   exact ih (i + 1) _ O_ (by rw [List.append_assoc]; exact ho) k O_
  ·rw [iN_ c] at ho ⊢
   exact ih (i + 1) _ O_ ho k O_
theorem moveS_l (L0 : List Pt) (h0 : ∀ x ∈ L0, 0 < massP x) (hm : mass L0 ≤ 1000000) (hz : nzD L0) (l : List S34) (hl : l.length ≤ 12) (hc : CH l) (hk : ∀ x ∈ l, mkB x (tks L0) = true) :
  ∀ (d i : Nat) (ms : List S34), i + d = l.length → ms ++ mvs (nf L0) (l.drop i) = mvs (nf L0) l → ∃ K, ∀ k, K ≤ k →
   spec_MoveMarks.l0 k (L0.map encP) (jl ms) l (l.length : Int) (i : Int) = some (jl (mvs (nf L0) l), true) := by
 intro d
 induction d with
 | zero =>
  intro i ms hi ho
  refine ⟨1, fun k hk' => ?_⟩
  obtain ⟨k, rfl⟩ := k1_ k
  unfold spec_MoveMarks.l0
  rw [List.drop_of_length_le O_] at ho
  have e : mvs (nf L0) [] = [] := rfl
  rw [e, List.append_nil] at ho
  rw [iN_ O_, ho]
 | succ d ih =>
  intro i ms hi ho
  have hil : i < l.length := by omega
  have hx := rng (hk l[i] (List.getElem_mem hil))
  have hol : ms.length ≤ 12 := by
   have := congrArg List.length ho
   rw [lA_] at this
   have := mvs_len (nf L0) l
   omega
  obtain ⟨a, ha⟩ : ∃ a : Nat, l[i].f0 = (a : Int) := ⟨l[i].f0.toNat, (Int.toNat_of_nonneg hx.1).symm⟩
  obtain ⟨b, hb⟩ : ∃ a : Nat, l[i].f1 = (a : Int) := ⟨l[i].f1.toNat, (Int.toNat_of_nonneg O_).symm⟩
  have hSR : SR (ms ++ mvs (nf L0) (l.drop i)) := by rw [ho]; exact mvs_SR _ l hc
  have hok : ∀ x ∈ ms ++ mvs (nf L0) (l.drop i), okM x := fun x hx' => by
   rw [ho] at hx'
   obtain ⟨_, _, _, h⟩ := mvs_mem _ l x hx'
   exact h
  rw [List.drop_eq_getElem_cons hil] at ho hSR hok
  rw [mvs_cons, ha, hb] at ho hSR hok
  rw [ha, hb] at hx
  obtain ⟨K1, k1⟩ := gap_ev L0 h0 hm hz a O_
  obtain ⟨K2, k2⟩ := gap_ev L0 h0 hm hz b O_
  have e0 : mv (nf L0) l[i] = ⟨hiP (nf L0) (a : Int), loP (nf L0) (b : Int), l[i].f2⟩ := by unfold mv; rw [ha, hb]
  rw [e0] at ho hSR hok
  by_cases c : hiP (nf L0) (a : Int) < loP (nf L0) (b : Int)
  ·rw [ip_ c] at ho hSR hok
   obtain ⟨K, h⟩ := ih (i + 1) (ms ++ [⟨hiP (nf L0) (a : Int), loP (nf L0) (b : Int), l[i].f2⟩]) O_ (by rw [List.append_assoc]; exact ho)
   obtain ⟨s1, _, s3⟩ := SR_app _ _ hSR
   obtain ⟨f1, _, f3⟩ := fold_CH ms s1 fun x hx' => hok x (List.mem_append_left _ hx')
   have hmo : okM ⟨hiP (nf L0) (a : Int), loP (nf L0) (b : Int), l[i].f2⟩ := c
   have hadd := add_ev (jl ms) (by have := jl_len ms; omega) f1 ⟨hiP (nf L0) (a : Int), loP (nf L0) (b : Int), l[i].f2⟩ hmo
   rw [← f3 _ hmo fun x hx' => s3 x hx' _ List.mem_cons_self] at hadd
   refine ⟨K + K1 + K2 + 3002, fun k hk' => ?_⟩
   obtain ⟨k, rfl⟩ := k1_ k
   unfold spec_MoveMarks.l0
   rw [ip_ O_, ip_ O_, ip_ O_, rdM l i hil, w1 O_, ha, hb, k1 k O_, bs_, k2 k O_, bs_, ip_ c, hadd k O_, bs_]
   exact h k O_
  ·rw [iN_ c] at ho hSR hok
   obtain ⟨K, h⟩ := ih (i + 1) ms O_ ho
   refine ⟨K + K1 + K2 + 3002, fun k hk' => ?_⟩
   obtain ⟨k, rfl⟩ := k1_ k
   unfold spec_MoveMarks.l0
   rw [ip_ O_, ip_ O_, ip_ O_, rdM l i hil, w1 O_, ha, hb, k1 k O_, bs_, k2 k O_, bs_, iN_ c]
   exact h k O_
theorem good_all (l : List S68) (hl : smallL l) : ∃ g r, (g = true → (l.length ≤ 60 ∧ ∀ p ∈ l, PK p) ∧ r.1 ≤ 300 ∧ r.2 ≤ 300) ∧ ∃ K, ∀ k, K ≤ k → spec_l3Sizes.f k l = some r ∧ impl_GoodOp.f k l = some g ∧ spec_GoodOp.f k l = some g := by
 obtain ⟨r, K0, h0⟩ := spec_sizes_ev l hl.1
 obtain ⟨K1, h1⟩ := spec_GoodOp_ev l hl r K0 h0
 obtain ⟨K2, h2⟩ := impl_GoodOp_ev l hl r K0 h0
 refine ⟨goodB l r, r, fun hg => ?_, K0 + K1 + K2, fun k hk => ⟨h0 k O_, h2 k O_, h1 k O_⟩⟩
 unfold goodB at hg
 simp only [Bool.and_eq_true, decide_eq_true_eq] at hg
 refine ⟨⟨hg.1, fun p hp => ?_⟩, ?_⟩
 ·obtain ⟨j, hj, rfl⟩ := List.mem_iff_getElem.1 hp
  exact pN_PK l l.length 0 O_ hg.2.1 j hj (Nat.zero_le _)
 ·have := hg.2.2
  unfold sizesB at this
  split at this
  ·exact ⟨by assumption, by simpa using this⟩
  ·cases this
theorem mmI0 (k : Nat) (x0 : List S68) (x1 : List S34) (x7 : Int) (b : Bool) : impl_MoveMarks.j0 (k + 1) x0 x1 x7 b = if b = true then some ([], false) else ((impl_normal.f x0).bind fun gF => impl_MoveMarks.l0 k gF x7 [] x1 (x1.length : Int) 0) := by simp only [impl_MoveMarks.j0]
theorem mmS0 (k : Nat) (x0 : List S68) (x1 : List S34) (b : Bool) : spec_MoveMarks.j0 (k + 1) x0 x1 b = if b = true then some ([], false) else spec_MoveMarks.l0 k x0 [] x1 (x1.length : Int) 0 := by simp only [spec_MoveMarks.j0]
theorem amS0 (k : Nat) (x0 : List S34) (b : Bool) (c d : Int) (s : ByteArray) : spec_AddMark.j0 (k + 1) x0 b c d s = if b = true then some ([], false) else ((spec_l5Add.f k x0 c d s).bind fun ka => if (ka.length : Int) > 40 then some ([], false) else some (ka, true)) := by simp only [spec_AddMark.j0]
theorem amI0 (k : Nat) (x0 : List S34) (x1 : Int) (b : Bool) (c d : Int) (s : ByteArray) : impl_AddMark.j0 (k + 1) x0 x1 b c d s = if b = true then some ([], false) else ((impl_Mark_31.f x0).bind fun iT => ((some ([(⟨c, d, s⟩ : S34)] : List S34)).bind fun y => if iT.length + y.length < 4398046511104 then ((impl_joined.f k (iT ++ y)).bind fun jk => ((impl_goodMarks.f k jk x1).bind fun iO => some (iO.1, iO.2))) else none)) := by simp only [impl_AddMark.j0]
theorem move_both (op : List S68) (hop : smallL op) (l : List S34) (hl : l.length ≤ 12) (hs : stS l) : ∃ (z : List S34) (ok : Bool) (out : Int), z.length ≤ l.length ∧ stS z ∧ (ok = true → gmB z out = true) ∧ ∃ K, ∀ k, K ≤ k →
  impl_MoveMarks.f k op l = some (z, ok) ∧ spec_MoveMarks.f k op l = some (z, ok) ∧ (ok = true → ∃ t, spec_SizesOf.f k op = some (t, out, true)) := by
 obtain ⟨g, r, hg, K0, k0⟩ := good_all op hop
 have no : ∀ (z : List S34), z = [] → stS z := fun z hz x hx => by rw [hz] at hx; cases hx
 cases g with
 | false =>
  refine ⟨[], false, 0, Nat.zero_le _, no _ rfl, (fun h => by cases h), K0 + 1, fun k hk => ?_⟩
  obtain ⟨k, rfl⟩ := k1_ k
  obtain ⟨a, b, c⟩ := k0 (k + 1) O_
  refine ⟨?_, ?_, fun h => by cases h⟩
  ·unfold impl_MoveMarks.f impl_SizesOf.f
   rw [b, bs_, iN_ ft, bs_, iN_ ft, mmI0, ip_ rfl]
  ·unfold spec_MoveMarks.f
   rw [a, bs_, c, bs_, iN_ ft, mmS0, ip_ rfl]
 | true =>
  obtain ⟨⟨hg1, hg2⟩, hr1, hr2⟩ := hg rfl
  obtain ⟨L0, eL, hp0⟩ := pk_enc op hg2
  have hsz := sizes_of op hg1 hg2
  have er : r = (sB op, sA op) := by
   have := (k0 (K0 + op.length + 1) O_).1
   rw [hsz _ O_] at this
   exact (Option.some.inj this).symm
  subst eL
  have e1 := sB_tks L0
  have e2 := sA_mks L0
  rw [e1, e2] at er
  subst er
  have hr1 : (tks L0 : Int) ≤ 300 := hr1
  have hr2 : (mks L0 : Int) ≤ 300 := hr2
  have hmm := mass_tm L0
  have hz := pk_nz hg2
  by_cases gm : gmB l (tks L0 : Int) = true
  ·obtain ⟨⟨m1, m2⟩, _, _, _⟩ := (gmB_iff l _).1 gm
   have hSR := mvs_SR (nf L0) l m2
   have hok : ∀ x ∈ mvs (nf L0) l, mkB x (mks L0 : Int) = true := fun x hx => by
    obtain ⟨y, hy, e, ho⟩ := mvs_mem _ l x hx
    have hy' := (mkB_iff y _).1 (m1 y hy)
    subst e
    refine (mkB_iff _ _).2 ⟨hy'.1, hi_nn _ _, ho, ?_⟩
    have h1 := lo_hi (nf L0) y.f1
    have h2 := hi_mks (nf L0) y.f1
    rw [mks_nf] at h2
    show loP (nf L0) y.f1 ≤ _
    omega
   have hj := fold_CH _ hSR fun x hx => (rng (hok x hx)).2.1
   have hjm : ∀ x ∈ jl (mvs (nf L0) l), mkB x (mks L0 : Int) = true := jl_all _ (mkB_mx _) _ hok
   have hjl := jl_len (mvs (nf L0) l)
   have hml := mvs_len (nf L0) l
   have hgood : gmB (jl (mvs (nf L0) l)) (mks L0 : Int) = true := (gmB_iff _ _).2 ⟨⟨hjm, hj.1⟩, O_, O_, O_⟩
   obtain ⟨K1, k1⟩ := moveS_l L0 hp0 O_ hz l hl m2 m1 l.length 0 [] O_ (by rw [List.drop_zero]; rfl)
   have hb : bdM (mvs (nf L0) l) := fun x hx => by
    have := rng (hok x hx)
    omega
   have hI := moveI_l L0 hp0 O_ (mks L0 : Int) l hl m1 4000 (jl (mvs (nf L0) l), true) (fun k hk => by
    rw [joined_SR _ hSR O_ hb k O_, bs_, good_ev _ _ O_ (stS_of hjm) k O_, ip_ hgood]; rfl) l.length 0 [] O_ (by rw [List.drop_zero]; rfl)
   refine ⟨jl (mvs (nf L0) l), true, (mks L0 : Int), O_, stS_of hjm, fun _ => hgood, K0 + K1 + 4000 + l.length + 2 * (nf L0).length + 4, fun k hk => ?_⟩
   obtain ⟨k, rfl⟩ := k1_ k
   obtain ⟨a, b, c⟩ := k0 (k + 1) O_
   refine ⟨?_, ?_, fun _ => ⟨(tks L0 : Int), ?_⟩⟩
   ·unfold impl_MoveMarks.f impl_SizesOf.f
    rw [b, bs_, ip_ rfl, impl_sizes_ev, a, bs_, bs_, ip_ rfl, gmI l _ O_ hs (k + 1) O_, gm, bs_, mmI0, iN_ (show ¬ (!true) = true by decide), normalI_ev L0 hp0 O_, bs_]
    exact hI k O_
   ·unfold spec_MoveMarks.f
    rw [a, bs_, c, bs_, ip_ rfl, gmS l _ O_ hs (k + 1) O_, gm, bs_, mmS0, iN_ (show ¬ (!true) = true by decide)]
    exact k1 k O_
   ·unfold spec_SizesOf.f
    rw [c, bs_, ip_ rfl, a]; rfl
  ·have gm : gmB l (tks L0 : Int) = false := Bool.eq_false_iff.mpr gm
   refine ⟨[], false, 0, Nat.zero_le _, no _ rfl, (fun h => by cases h), K0 + 4000, fun k hk => ?_⟩
   obtain ⟨k, rfl⟩ := k1_ k
   obtain ⟨a, b, c⟩ := k0 (k + 1) O_
   refine ⟨?_, ?_, fun h => by cases h⟩
   ·unfold impl_MoveMarks.f impl_SizesOf.f
    rw [b, bs_, ip_ rfl, impl_sizes_ev, a, bs_, bs_, ip_ rfl, gmI l _ O_ hs (k + 1) O_, gm, bs_, mmI0, ip_ (show (!false) = true from rfl)]
   ·unfold spec_MoveMarks.f
    rw [a, bs_, c, bs_, ip_ rfl, gmS l _ O_ hs (k + 1) O_, gm, bs_, mmS0, ip_ (show (!false) = true from rfl)]
theorem addS_ev (l : List S34) (hl : l.length ≤ 11) (hs : stS l) (size : Int) (m : S34) (hm : m.f2.size ≤ 1000) : ∀ k, 5000 ≤ k →
  spec_AddMark.f k l size m.f0 m.f1 m.f2 = some (if gmB l size = true ∧ mkB m size = true then (ins l m, true) else ([], false)) := fun k hk => by
 obtain ⟨k, rfl⟩ := k1_ k
 unfold spec_AddMark.f
 rw [gmS l size O_ hs (k + 1) O_, bs_]
 by_cases g : gmB l size = true
 ·rw [ip_ g, mkS m size hm (k + 1) O_, bs_]
  by_cases g2 : mkB m size = true
  ·obtain ⟨⟨m1, m2⟩, _, _, _⟩ := (gmB_iff l _).1 g
   have := ins_len l m
   rw [g2, amS0, iN_ (show ¬ (!true) = true by decide), ip_ ⟨g, rfl⟩, add_ev l O_ m2 m (rng g2).2.1 k O_, bs_, iN_ O_]
  ·have g2' : mkB m size = false := Bool.eq_false_iff.mpr g2
   rw [g2', amS0, ip_ (show (!false) = true from rfl), iN_ fun h => ft h.2]
 ·rw [iN_ g, amS0, ip_ rfl, iN_ fun h => g h.1]
theorem ins_good {l : List S34} (hl : l.length ≤ 11) {size : Int} {m : S34} (hg : gmB l size = true) (hm : mkB m size = true) : gmB (ins l m) size = true := by
 obtain ⟨⟨m1, m2⟩, _, a, b⟩ := (gmB_iff l _).1 hg
 have := ins_len l m
 exact (gmB_iff _ _).2 ⟨⟨ins_all _ (mkB_mg size) l m m1 hm, ins_CH l m m2 (rng hm).2.1⟩, O_, a, b⟩
theorem addI_ev (l : List S34) (hl : l.length ≤ 11) (hs : stS l) (size : Int) (m : S34) (hm : m.f2.size ≤ 1000) : ∀ k, 5000 ≤ k →
  impl_AddMark.f k l size m.f0 m.f1 m.f2 = some (if gmB l size = true ∧ mkB m size = true then (ins l m, true) else ([], false)) := fun k hk => by
 obtain ⟨k, rfl⟩ := k1_ k
 unfold impl_AddMark.f
 rw [gmI l size O_ hs (k + 1) O_, bs_]
 by_cases g : gmB l size = true
 ·rw [ip_ g, mkI m size hm (k + 1) O_, bs_]
  by_cases g2 : mkB m size = true
  ·obtain ⟨⟨m1, m2⟩, _, a, b⟩ := (gmB_iff l _).1 g
   have hlen := ins_len l m
   have hrm := rng g2
   have hgi := ins_good hl g g2
   have hsi := stS_of ((gmB_iff _ _).1 hgi).1.1
   have hb : bdM l := fun x hx => by have := rng (m1 x hx); omega
   have hbm : bdM [m] := fun x hx => by rw [List.mem_singleton.1 hx]; omega
   rw [g2, amI0, iN_ (show ¬ (!true) = true by decide), ip_ ⟨g, rfl⟩, show impl_Mark_31.f l = some l from ip_ O_, bs_, bs_, ip_ (by rw [lS_]; omega)]
   have e : l ++ [(⟨m.f0, m.f1, m.f2⟩ : S34)] = l ++ [m] := rfl
   rw [e, joined_ev l (CH_SR l m2) O_ hb m hbm k O_, bs_, jl_ins l m m2 hrm.2.1, good_ev _ _ O_ hsi k O_, ip_ hgi]; rfl
  ·have g2' : mkB m size = false := Bool.eq_false_iff.mpr g2
   rw [g2', amI0, ip_ (show (!false) = true from rfl), iN_ fun h => ft h.2]
 ·rw [iN_ g, amI0, ip_ rfl, iN_ fun h => g h.1]
theorem u64_range (n : Int) : 0 ≤ IntKind.u64.wrap n ∧ IntKind.u64.wrap n < 18446744073709551616 := by
 have h : IntKind.u64.wrap n = n % 18446744073709551616 := by simp [IntKind.wrap, IntKind.bits, IntKind.signed]
 rw [h]; omega
theorem u64_and255 (n : Int) : 0 ≤ Go.bits .and .u64 (IntKind.u64.wrap n / 1099511627776) 255 ∧ Go.bits .and .u64 (IntKind.u64.wrap n / 1099511627776) 255 < 256 := by
 have h := u64_range n
 have e := bits_mask .u64 24 (by decide) (fun n h0 h1 => by
  have h : IntKind.u64.wrap n = n % 18446744073709551616 := by simp [IntKind.wrap, IntKind.bits, IntKind.signed]
  rw [h]; omega) 8 (by decide) (IntKind.u64.wrap n / 1099511627776) O_ O_
 rw [show (255 : Int) = 2 ^ 8 - 1 from rfl, e]
 omega
def okCode (c : List Int) : Prop := ∀ x ∈ c, 0 ≤ x ∧ x < 256
theorem okCode_of {c : List Int} (h : ∀ x ∈ c, (Lit.int .u8 x).wf = true) : okCode c := by
 intro x hx
 have := h x hx
 simp [Lit.wf, IntKind.min, IntKind.max, IntKind.bits, IntKind.signed] at this
 omega
theorem okCode.rd {c : List Int} (h : okCode c) (i : Int) : 0 ≤ rd c i ∧ rd c i < 256 := by
 unfold Go.Proofs.YtjbllgdehpomiaaW.PrintWords.rd
 rw [List.getD_eq_getElem?_getD]
 cases e : c[i.toNat]? with
 | none => simp
 | some x => simp; exact h x (List.mem_of_getElem? e)
theorem next_ev {c : List Int} (hc : okCode c) (a s : Int) (h0 : 0 ≤ a) (h1 : a ≤ 4000000000000000000) : ∃ r s', spec_l1Cur_next.f c a s = some (r, a + 1, s') ∧ 0 ≤ r ∧ r < 256 := by
 have hr := hc.rd a
 have hu := u64_and255
 unfold spec_l1Cur_next.f
 rw [w64 (by omega : -4611686018427387904 ≤ a + 1) O_]
 by_cases c1 : a < (c.length : Int)
 ·rw [ip_ c1, ip_ h0, ip_ O_, w64 O_ O_]
  exact ⟨_, _, rfl, hr.1, hr.2⟩
 ·rw [iN_ c1, iN_ O_]
  refine ⟨_, _, rfl, ?_⟩
  have := hu (IntKind.u64.wrap (IntKind.u64.wrap (s * 6364136223846793005) + 0) + 1442695040888963407)
  rw [w64 O_ O_]
  exact this
theorem pick_ev {c : List Int} (hc : okCode c) (a s n : Int) (h0 : 0 ≤ a) (h1 : a ≤ 3000000000000000000) (hn : 1 ≤ n) (hn2 : n ≤ 1000000000000) : ∃ r a' s', spec_l1Cur_pick.f c a s n = some (r, a', s') ∧ 0 ≤ r ∧ r < n ∧ a ≤ a' ∧ a' ≤ a + 2 := by
 unfold spec_l1Cur_pick.f
 by_cases c1 : n ≤ 1
 ·rw [ip_ c1]; exact ⟨0, a, s, rfl, O_, O_, O_, O_⟩
 ·obtain ⟨r, s1, e1, hr0, hr1⟩ := next_ev hc a s h0 O_
  rw [iN_ c1, e1]
  simp only [bs_]
  by_cases c2 : n > 200
  ·obtain ⟨r2, s2, e2, hr2, hr3⟩ := next_ev hc (a + 1) s1 O_ O_
   rw [ip_ c2, e2]
   simp only [bs_]
   rw [iN_ O_, w64 (by omega : -4611686018427387904 ≤ r * 256) O_, w64 O_ O_]
   refine ⟨_, _, _, rfl, ?_, ?_, O_, O_⟩
   ·rw [Int.tmod_eq_emod_of_nonneg O_]; exact Int.emod_nonneg _ O_
   ·rw [Int.tmod_eq_emod_of_nonneg O_]; exact Int.emod_lt_of_pos _ O_
  ·rw [iN_ c2, iN_ O_]
   refine ⟨_, _, _, rfl, ?_, ?_, O_, O_⟩
   ·rw [Int.tmod_eq_emod_of_nonneg O_]; exact Int.emod_nonneg _ O_
   ·rw [Int.tmod_eq_emod_of_nonneg O_]; exact Int.emod_lt_of_pos _ O_
theorem one_ev {c : List Int} (hc : okCode c) (a s n : Int) (h0 : 0 ≤ a) (h1 : a ≤ 3000000000000000000) (hn : 1 ≤ n) (hn2 : n ≤ 1000000000000) : ∃ r a' s', spec_l1Cur_one.f c a s n = some (r, a', s') ∧ a ≤ a' ∧ a' ≤ a + 2 := by
 obtain ⟨r, a', s', e, _, _, h2, h3⟩ := pick_ev hc a s n h0 h1 hn hn2
 unfold spec_l1Cur_one.f
 rw [e]
 exact ⟨_, _, _, rfl, h2, h3⟩
theorem of_ev {c : List Int} (hc : okCode c) (a s : Int) (l : List ByteArray) (M : Nat) (h0 : 0 ≤ a) (h1 : a ≤ 3000000000000000000) (hl : 0 < l.length) (hl2 : l.length ≤ 1000) (hM : ∀ x ∈ l, x.size ≤ M) : ∃ r a' s', spec_l1Cur_of.f c a s l = some (r, a', s') ∧ r ∈ l ∧ r.size ≤ M ∧ a ≤ a' ∧ a' ≤ a + 2 := by
 obtain ⟨r, a', s', e, h2, h3, h4, h5⟩ := pick_ev hc a s (l.length : Int) h0 h1 O_ O_
 unfold spec_l1Cur_of.f
 rw [e]
 simp only [bs_]
 rw [ip_ h2, ip_ h3]
 have hm : rdOf ByteArray.empty l r ∈ l := by
  unfold rdOf
  rw [List.getD_eq_getElem?_getD, List.getElem?_eq_getElem (by omega : r.toNat < l.length)]
  simp
 exact ⟨_, _, _, rfl, hm, hM _ hm, h4, h5⟩
def cO : Nat → Int
 | 0 => 600
 | d + 1 => 60 * (cO d + 10)
def sO : Nat → Nat
 | 0 => 300
 | d + 1 => 60 * (sO d + 10)
def xO : Nat → Nat
 | 0 => 5
 | d + 1 => sO d + 10
def yO : Nat → Int
 | 0 => 10
 | d + 1 => cO d + 10
theorem cO_le (d : Nat) (h : d ≤ 3) : 0 ≤ cO d ∧ cO d ≤ 1000000000 := by
 rcases d with _ | _ | _ | _ | d <;> simp [cO] <;> omega
theorem sO_le (d : Nat) (h : d ≤ 3) : sO d ≤ 1000000000 := by
 rcases d with _ | _ | _ | _ | d <;> simp [sO] <;> omega
theorem size_app (a b : ByteArray) : (a ++ b).size = a.size + b.size := zA_
theorem inner_l {c : List Int} (hc : okCode c) (d : Nat) (hd : d ≤ 3)
  (IH : ∀ e : Nat, d = e + 1 → ∀ (a s n : Int), 0 ≤ a → a ≤ 2000000000000000000 + (3 - (e : Int)) * 1000000000000 → 0 ≤ n → n ≤ 60 → ∃ t a' s', t.size ≤ sO e ∧ a ≤ a' ∧ a' ≤ a + cO e ∧ ∃ K, ∀ k, K ≤ k → spec_l1Cur_inner.f k c a s n (e : Int) = some (t, a', s')) :
  ∀ (n : Nat) (t : ByteArray) (a s : Int), n ≤ 60 → 0 ≤ a → a ≤ 2000000000000000000 + (3 - (d : Int)) * 1000000000000 + (60 - (n : Int)) * 1000000000 → t.size + n * 1000000000 ≤ 60 * 1000000000 →
   ∃ t' a' s', t'.size ≤ t.size + n * (xO d) ∧ a ≤ a' ∧ a' ≤ a + n * (yO d) ∧ ∃ K, ∀ k, K ≤ k → spec_l1Cur_inner.l0 k (n : Int) (d : Int) t c a s = some (t', a', s') := by
 intro n
 induction n with
 | zero =>
  intro t a s hn h0 h1 ht
  refine ⟨t, a, s, O_, O_, O_, 1, fun k hk => ?_⟩
  obtain ⟨k, rfl⟩ := k1_ k
  simp only [spec_l1Cur_inner.l0]
  rw [iN_ O_]
 | succ n ih =>
  intro t a s hn h0 h1 ht
  have join : ∀ (u : ByteArray) (a1 s1 : Int), u.size ≤ (xO d) → a ≤ a1 → a1 ≤ a + (yO d) →
    ∃ t' a' s', t'.size ≤ t.size + (n + 1 : Nat) * (xO d) ∧ a ≤ a' ∧ a' ≤ a + ((n + 1 : Nat) : Int) * (yO d) ∧ ∃ K, ∀ k, K ≤ k → spec_l1Cur_inner.l0 k (n : Int) (d : Int) (t ++ u) c a1 s1 = some (t', a', s') := by
   intro u a1 s1 hu h2 h3
   have b1 : xO d ≤ 1000000000 := by
    cases d with
    | zero => simp [xO]
    | succ e => have := sO_le e O_; rcases e with _ | _ | _ | e <;> simp [xO, sO] <;> omega
   have b2 : yO d ≤ 1000000000 := by
    cases d with
    | zero => simp [yO]
    | succ e => rcases e with _ | _ | _ | e <;> simp [yO, cO] <;> omega
   generalize xO d = X at *
   generalize yO d = Y at *
   obtain ⟨t', a', s', g1, g2, g3, g4⟩ := ih (t ++ u) a1 s1 O_ O_ O_ (by rw [size_app]; omega)
   refine ⟨t', a', s', ?_, O_, ?_, g4⟩
   ·rw [size_app] at g1
    have : (n + 1) * X = n * X + X := Nat.succ_mul n X
    omega
   ·have : ((n + 1 : Nat) : Int) * Y = (n : Int) * Y + Y := by rw [show ((n + 1 : Nat) : Int) = (n : Int) + 1 by omega, Int.add_mul, Int.one_mul]
    omega
  have plain : ∀ a1 s1 : Int, a ≤ a1 → a1 ≤ a + 2 → ∃ t' a' s', t'.size ≤ t.size + (n + 1 : Nat) * (xO d) ∧ a ≤ a' ∧ a' ≤ a + ((n + 1 : Nat) : Int) * (yO d) ∧ ∃ K, ∀ k, K ≤ k → spec_l1Cur_inner.j1 k ((n : Int) + 1) (d : Int) t false c a1 s1 = some (t', a', s') := by
   intro a1 s1 h2 h3
   obtain ⟨u, a2, s2, e, _, hu, h4, h5⟩ := of_ev hc a1 s1 ([(⟨#[97]⟩ : ByteArray), (⟨#[98]⟩ : ByteArray), (⟨#[97, 98]⟩ : ByteArray), (⟨#[120]⟩ : ByteArray), (⟨#[32]⟩ : ByteArray), (⟨#[111, 110, 101]⟩ : ByteArray), (⟨#[49]⟩ : ByteArray), (⟨#[122, 46]⟩ : ByteArray)] : List ByteArray) 3 O_ O_ (by simp) (by simp) (by decide)
   obtain ⟨t', a', s', g1, g2, g3, K, g4⟩ := join u a2 s2 (by cases d <;> simp [xO] <;> omega) O_ (by
    cases d with
    | zero => simp [yO]; omega
    | succ e => have := cO_le e O_; simp [yO]; omega)
   refine ⟨t', a', s', g1, g2, g3, K + 1, fun k hk => ?_⟩
   obtain ⟨k, rfl⟩ := k1_ k
   simp only [spec_l1Cur_inner.j1]
   rw [iN_ (by simp), e]
   simp only [bs_]
   rw [ip_ O_, w64 O_ O_, Int.add_sub_cancel]
   exact g4 k O_
  cases d with
  | zero =>
   obtain ⟨t', a', s', g1, g2, g3, K, g4⟩ := plain a s O_ O_
   refine ⟨t', a', s', g1, g2, g3, K + 1, fun k hk => ?_⟩
   obtain ⟨k, rfl⟩ := k1_ k
   simp only [spec_l1Cur_inner.l0]
   rw [ip_ O_, iN_ O_]
   exact g4 k O_
  | succ e =>
   obtain ⟨r, a1, s1, e1, h2, h3⟩ := one_ev hc a s 3 O_ O_ O_ O_
   have hb := cO_le e O_
   have hs := sO_le e O_
   cases r with
   | false =>
    obtain ⟨t', a', s', g1, g2, g3, K, g4⟩ := plain a1 s1 O_ O_
    refine ⟨t', a', s', g1, g2, g3, K + 1, fun k hk => ?_⟩
    obtain ⟨k, rfl⟩ := k1_ k
    simp only [spec_l1Cur_inner.l0]
    rw [ip_ O_, ip_ O_, e1]
    exact g4 k O_
   | true =>
    obtain ⟨p1, a2, s2, e2, q1, q2, q3, q4⟩ := pick_ev hc a1 s1 4 O_ O_ O_ O_
    obtain ⟨p2, a3, s3, e3, q5, q6, q7, q8⟩ := pick_ev hc a2 s2 4 O_ O_ O_ O_
    obtain ⟨v, a4, s4, i1, i2, i3, K1, i4⟩ := IH e rfl a3 s3 p2 O_ O_ O_ O_
    have one1 : (strOfNums [wrap64 (65 + p1) % 256]).size = 1 := rfl
    have lit1 : (⟨#[47]⟩ : ByteArray).size = 1 := rfl
    obtain ⟨t', a', s', g1, g2, g3, K, g4⟩ := join (strOfNums [wrap64 (65 + p1) % 256] ++ v ++ (⟨#[47]⟩ : ByteArray)) a4 s4 (by rw [size_app, size_app, one1, lit1]; simp [xO]; omega) O_ (by simp [yO]; omega)
    refine ⟨t', a', s', g1, g2, g3, max K K1 + 2, fun k hk => ?_⟩
    obtain ⟨k, rfl⟩ : ∃ m, k = m + 2 := ⟨k - 2, O_⟩
    simp only [spec_l1Cur_inner.l0]
    rw [ip_ O_, ip_ O_, e1]
    simp only [bs_, spec_l1Cur_inner.j1, if_true]
    rw [e2]
    simp only [bs_]
    rw [e3]
    simp only [bs_]
    rw [w64 (by omega : -4611686018427387904 ≤ ((e + 1 : Nat) : Int) - 1) O_, show ((e + 1 : Nat) : Int) - 1 = (e : Int) by omega, i4 k O_]
    simp only [bs_]
    rw [ip_ O_, ip_ (by rw [size_app]; omega), ip_ (by rw [size_app, size_app]; omega), w64 O_ O_, show ((n + 1 : Nat) : Int) - 1 = (n : Int) by omega]
    exact g4 k O_
theorem inner_ev {c : List Int} (hc : okCode c) : ∀ (d : Nat), d ≤ 3 → ∀ (a s n : Int), 0 ≤ a → a ≤ 2000000000000000000 + (3 - (d : Int)) * 1000000000000 → 0 ≤ n → n ≤ 60 → ∃ t a' s', t.size ≤ sO d ∧ a ≤ a' ∧ a' ≤ a + cO d ∧ ∃ K, ∀ k, K ≤ k → spec_l1Cur_inner.f k c a s n (d : Int) = some (t, a', s') := by
 intro d
 induction d with
 | zero =>
  intro hd a s n h0 h1 h2 h3
  obtain ⟨m, rfl⟩ := Int.eq_ofNat_of_zero_le h2
  obtain ⟨t, a', s', g1, g2, g3, K, g4⟩ := inner_l hc 0 hd (fun e h => by omega) m (⟨#[]⟩ : ByteArray) a s O_ h0 O_ (by simp [ByteArray.size]; omega)
  simp only [show (⟨#[]⟩ : ByteArray).size = 0 from rfl] at g1 g3
  refine ⟨t, a', s', by simp only [sO, xO] at *; omega, g2, by simp only [cO, yO] at *; omega, K + 1, fun k hk => ?_⟩
  obtain ⟨k, rfl⟩ := k1_ k
  simp only [spec_l1Cur_inner.f]
  exact g4 k O_
 | succ d ih =>
  intro hd a s n h0 h1 h2 h3
  obtain ⟨m, rfl⟩ := Int.eq_ofNat_of_zero_le h2
  have hb := cO_le d O_
  obtain ⟨t, a', s', g1, g2, g3, K, g4⟩ := inner_l hc (d + 1) hd (fun e h => by
   have : e = d := by omega
   subst this; exact ih O_) m (⟨#[]⟩ : ByteArray) a s O_ h0 O_ (by simp [ByteArray.size]; omega)
  simp only [show (⟨#[]⟩ : ByteArray).size = 0 from rfl] at g1 g3
  refine ⟨t, a', s', ?_, g2, ?_, K + 1, fun k hk => ?_⟩
  ·simp only [sO, xO] at *
   have := Nat.mul_le_mul_right (sO d + 10) (by omega : m ≤ 60)
   omega
  ·simp only [cO, yO] at *
   have := Int.mul_le_mul_of_nonneg_right (by omega : (m : Int) ≤ 60) (by omega : 0 ≤ cO d + 10)
   omega
  ·obtain ⟨k, rfl⟩ := k1_ k
   simp only [spec_l1Cur_inner.f]
   exact g4 k O_
theorem ext_size (s : ByteArray) (i j : Nat) : (s.extract i j).size ≤ s.size := by rw [zE_]; omega
theorem spoilt_l {c : List Int} (hc : okCode c) (w : ByteArray) (hw : 0 < w.size) (hw2 : w.size ≤ 1000) : ∀ (n : Nat) (t : ByteArray) (a s : Int), n ≤ 3 → 0 ≤ a → a ≤ 2000000000000000000 + (3 - (n : Int)) * 10 → t.size + n ≤ 100000000000 →
  ∃ t' a' s', t'.size ≤ t.size + n ∧ a ≤ a' ∧ a' ≤ a + 10 * n ∧ ∃ K, ∀ k, K ≤ k → spec_l1Cur_spoilt.l0 k t w (n : Int) c a s = some (t', a', s') := by
 intro n
 induction n with
 | zero =>
  intro t a s hn h0 h1 ht
  refine ⟨t, a, s, O_, O_, O_, 2, fun k hk => ?_⟩
  obtain ⟨k, rfl⟩ : ∃ m, k = m + 2 := ⟨k - 2, O_⟩
  simp only [spec_l1Cur_spoilt.l0]
  rw [iN_ O_]
  simp only [spec_l1Cur_spoilt.j1]
  rw [iN_ (by simp)]
 | succ n ih =>
  intro t a s hn h0 h1 ht
  by_cases hz : t.size = 0
  ·refine ⟨t, a, s, O_, O_, O_, 2, fun k hk => ?_⟩
   obtain ⟨k, rfl⟩ : ∃ m, k = m + 2 := ⟨k - 2, O_⟩
   simp only [spec_l1Cur_spoilt.l0]
   rw [ip_ O_]
   simp only [spec_l1Cur_spoilt.j1]
   rw [iN_ (by rw [decide_eq_true_eq]; omega)]
  ·obtain ⟨p1, a1, s1, e1, q1, q2, q3, q4⟩ := pick_ev hc a s (t.size : Int) O_ O_ O_ O_
   obtain ⟨p2, a2, s2, e2, q5, q6, q7, q8⟩ := pick_ev hc a1 s1 (w.size : Int) O_ O_ O_ O_
   obtain ⟨p3, a3, s3, e3, q9, q10, q11, q12⟩ := pick_ev hc a2 s2 3 O_ O_ O_ O_
   have one1 : (strOfNums [bt w p2]).size = 1 := rfl
   have x1 : (t.extract 0 p1.toNat).size = p1.toNat := by rw [zE_]; omega
   have x2 : (t.extract p1.toNat t.size).size = t.size - p1.toNat := by rw [zE_]; omega
   have x3 : (t.extract (p1 + 1).toNat t.size).size = t.size - (p1 + 1).toNat := by rw [zE_]; omega
   have go : ∀ u : ByteArray, u.size ≤ t.size + 1 → ∃ t' a' s', t'.size ≤ t.size + (n + 1) ∧ a ≤ a' ∧ a' ≤ a + 10 * ((n + 1 : Nat) : Int) ∧ ∃ K, ∀ k, K ≤ k → spec_l1Cur_spoilt.l0 k u w (n : Int) c a3 s3 = some (t', a', s') := by
    intro u hu
    obtain ⟨t', a', s', g1, g2, g3, g4⟩ := ih u a3 s3 O_ O_ O_ O_
    exact ⟨t', a', s', O_, O_, O_, g4⟩
   have hn1 : ((n + 1 : Nat) : Int) - 1 = (n : Int) := by omega
   by_cases c1 : p3 = 0
   ·obtain ⟨t', a', s', g1, g2, g3, K, g4⟩ := go (t.extract 0 p1.toNat ++ strOfNums [bt w p2] ++ t.extract p1.toNat t.size) (by rw [size_app, size_app, x1, x2, one1]; omega)
    refine ⟨t', a', s', g1, g2, g3, K + 2, fun k hk => ?_⟩
    obtain ⟨k, rfl⟩ : ∃ m, k = m + 2 := ⟨k - 2, O_⟩
    simp only [spec_l1Cur_spoilt.l0]
    rw [ip_ O_]
    simp only [spec_l1Cur_spoilt.j1]
    rw [ip_ (by simp; omega), e1]
    simp only [bs_]
    rw [e2]
    simp only [bs_]
    rw [ip_ q5, ip_ q6, e3]
    simp only [bs_]
    rw [ip_ c1, ip_ q1, ip_ O_, ip_ O_, ip_ (by rw [size_app]; omega), w64 O_ O_, hn1]
    exact g4 k O_
   ·by_cases c2 : p3 = 1
    ·obtain ⟨t', a', s', g1, g2, g3, K, g4⟩ := go (t.extract 0 p1.toNat ++ strOfNums [bt w p2] ++ t.extract (p1 + 1).toNat t.size) (by rw [size_app, size_app, x1, x3, one1]; omega)
     refine ⟨t', a', s', g1, g2, g3, K + 2, fun k hk => ?_⟩
     obtain ⟨k, rfl⟩ : ∃ m, k = m + 2 := ⟨k - 2, O_⟩
     simp only [spec_l1Cur_spoilt.l0]
     rw [ip_ O_]
     simp only [spec_l1Cur_spoilt.j1]
     rw [ip_ (by simp; omega), e1]
     simp only [bs_]
     rw [e2]
     simp only [bs_]
     rw [ip_ q5, ip_ q6, e3]
     simp only [bs_]
     have hp1 : wrap64 (p1 + 1) = p1 + 1 := w64 O_ O_
     rw [iN_ c1, ip_ c2, ip_ q1, ip_ O_, ip_ O_, hp1, ip_ O_, ip_ O_, ip_ (by rw [size_app]; omega), w64 O_ O_, hn1]
     exact g4 k O_
    ·obtain ⟨t', a', s', g1, g2, g3, K, g4⟩ := go (t.extract 0 p1.toNat ++ t.extract (p1 + 1).toNat t.size) (by rw [size_app, x1, x3]; omega)
     refine ⟨t', a', s', g1, g2, g3, K + 2, fun k hk => ?_⟩
     obtain ⟨k, rfl⟩ : ∃ m, k = m + 2 := ⟨k - 2, O_⟩
     simp only [spec_l1Cur_spoilt.l0]
     rw [ip_ O_]
     simp only [spec_l1Cur_spoilt.j1]
     rw [ip_ (by simp; omega), e1]
     simp only [bs_]
     rw [e2]
     simp only [bs_]
     rw [ip_ q5, ip_ q6, e3]
     simp only [bs_]
     have hp1 : wrap64 (p1 + 1) = p1 + 1 := w64 O_ O_
     simp only [hp1]
     simp (disch := omega) only [ip_, iN_, w64, hn1]
     exact g4 k O_
theorem spoilt_ev {c : List Int} (hc : okCode c) (a s : Int) (t w : ByteArray) (hw : 0 < w.size) (hw2 : w.size ≤ 1000) (h0 : 0 ≤ a) (h1 : a ≤ 1900000000000000000) (ht : t.size ≤ 90000000000) :
  ∃ t' a' s', t'.size ≤ t.size + 3 ∧ a ≤ a' ∧ a' ≤ a + 50 ∧ ∃ K, ∀ k, K ≤ k → spec_l1Cur_spoilt.f k c a s t w = some (t', a', s') := by
 obtain ⟨p1, a1, s1, e1, q1, q2, q3, q4⟩ := pick_ev hc a s 3 O_ O_ O_ O_
 obtain ⟨m, rfl⟩ := Int.eq_ofNat_of_zero_le q1
 obtain ⟨t', a', s', g1, g2, g3, K, g4⟩ := spoilt_l hc w hw hw2 m t a1 s1 O_ O_ O_ O_
 refine ⟨t', a', s', O_, O_, O_, K, fun k hk => ?_⟩
 unfold spec_l1Cur_spoilt.f
 rw [e1]
 exact g4 k hk
theorem doc0_ev {c : List Int} (hc : okCode c) (a s : Int) (t : ByteArray) (h0 : 0 ≤ a) (h1 : a ≤ 1800000000000000000) (ht : t.size ≤ 1000000000) :
  ∃ t' a' s', t'.size ≤ 1000000010 ∧ a ≤ a' ∧ a' ≤ a + 100 ∧ ∃ K, ∀ k, K ≤ k → spec_l1Cur_doc.j0 k t c a s = some (t', a', s') := by
 obtain ⟨r, a1, s1, e1, h2, h3⟩ := one_ev hc a s 12 O_ O_ O_ O_
 cases r with
 | false =>
  refine ⟨t, a1, s1, O_, O_, O_, 1, fun k hk => ?_⟩
  obtain ⟨k, rfl⟩ := k1_ k
  simp only [spec_l1Cur_doc.j0]
  rw [e1]; simp
 | true =>
  obtain ⟨t', a', s', g1, g2, g3, K, g4⟩ := spoilt_ev hc a1 s1 t (⟨#[65, 47, 97, 90]⟩ : ByteArray) (by decide) (by decide) O_ O_ O_
  refine ⟨t', a', s', O_, O_, O_, K + 1, fun k hk => ?_⟩
  obtain ⟨k, rfl⟩ := k1_ k
  simp only [spec_l1Cur_doc.j0]
  rw [e1]
  simp only [bs_, if_true]
  rw [g4 k O_]; rfl
theorem doc_ev {c : List Int} (hc : okCode c) (a s : Int) (h0 : 0 ≤ a) (h1 : a ≤ 1700000000000000000) :
  ∃ t' a' s', t'.size ≤ 1000000010 ∧ a ≤ a' ∧ a' ≤ a + 2000000200 ∧ ∃ K, ∀ k, K ≤ k → spec_l1Cur_doc.f k c a s = some (t', a', s') := by
 have hb := cO_le 3 O_
 have hs := sO_le 3 O_
 obtain ⟨p1, a1, s1, e1, q1, q2, q3, q4⟩ := pick_ev hc a s 7 O_ O_ O_ O_
 obtain ⟨t2, a2, s2, i1, i2, i3, K1, i4⟩ := inner_ev hc 3 O_ a1 s1 p1 O_ O_ O_ O_
 obtain ⟨p3, a3, s3, e3, r1, r2, r3, r4⟩ := pick_ev hc a2 s2 30 O_ O_ O_ O_
 by_cases c1 : p3 = 0
 ·obtain ⟨t4, a4, s4, j1, j2, j3, K2, j4⟩ := inner_ev hc 3 O_ a3 s3 60 O_ O_ O_ O_
  obtain ⟨t', a', s', g1, g2, g3, K, g4⟩ := doc0_ev hc a4 s4 t4 O_ O_ O_
  refine ⟨t', a', s', g1, O_, O_, max (max K K1) K2, fun k hk => ?_⟩
  unfold spec_l1Cur_doc.f
  have e5 := i4 k O_
  have e6 := j4 k O_
  have e7 := g4 k O_
  simp only [Int.cast_ofNat_Int] at e5 e6
  rw [e1]; simp only [bs_]
  rw [e5]; simp only [bs_]
  rw [e3]; simp only [bs_]
  rw [ip_ c1, e6]; simp only [bs_]
  exact e7
 ·by_cases c2 : p3 = 1
  ·obtain ⟨u, a4, s4, e4, _, hu, h4, h5⟩ := of_ev hc a3 s3 ([(⟨#[65, 65, 65, 65, 65, 65, 65, 65, 65, 65, 65, 65, 47, 47, 47, 47, 47, 47, 47, 47, 47, 47, 47, 47]⟩ : ByteArray), (⟨#[65, 65, 65, 65, 65, 65, 65, 65, 65, 65, 65, 65, 65, 47, 47, 47, 47, 47, 47, 47, 47, 47, 47, 47, 47, 47]⟩ : ByteArray)] : List ByteArray) 30 O_ O_ (by simp) (by simp) (by decide)
   obtain ⟨t', a', s', g1, g2, g3, K, g4⟩ := doc0_ev hc a4 s4 u O_ O_ O_
   refine ⟨t', a', s', g1, O_, O_, max K K1, fun k hk => ?_⟩
   unfold spec_l1Cur_doc.f
   have e5 := i4 k O_
   have e7 := g4 k O_
   simp only [Int.cast_ofNat_Int] at e5
   rw [e1]; simp only [bs_]
   rw [e5]; simp only [bs_]
   rw [e3]; simp only [bs_]
   rw [iN_ c1, ip_ c2, e4]; simp only [bs_]
   exact e7
  ·obtain ⟨t', a', s', g1, g2, g3, K, g4⟩ := doc0_ev hc a3 s3 t2 O_ O_ O_
   refine ⟨t', a', s', g1, O_, O_, max K K1, fun k hk => ?_⟩
   unfold spec_l1Cur_doc.f
   have e5 := i4 k O_
   have e7 := g4 k O_
   simp only [Int.cast_ofNat_Int] at e5
   rw [e1]; simp only [bs_]
   rw [e5]; simp only [bs_]
   rw [e3]; simp only [bs_]
   rw [iN_ c1, iN_ c2]
   exact e7
def F64 (s : Int) : Int := (s * 6364136223846793005 + 1442695040888963407) % 18446744073709551616
theorem F64_range (s : Int) : 0 ≤ F64 s ∧ F64 s < 18446744073709551616 := by unfold F64; omega
theorem u64w (n : Int) : IntKind.u64.wrap n = n % 18446744073709551616 := by simp [IntKind.wrap, IntKind.bits, IntKind.signed]
theorem next_end {c : List Int} (a s : Int) (h0 : (c.length : Int) ≤ a) (h1 : 0 ≤ a) (h2 : a ≤ 4000000000000000000) : spec_l1Cur_next.f c a s = some (F64 s / 1099511627776 % 256, a + 1, F64 s) := by
 have hF : IntKind.u64.wrap (IntKind.u64.wrap (IntKind.u64.wrap (s * 6364136223846793005) + IntKind.u64.wrap 0) + 1442695040888963407) = F64 s := by
  rw [u64w, u64w, u64w, u64w]; unfold F64; omega
 have hF' : IntKind.u64.wrap (IntKind.u64.wrap (IntKind.u64.wrap (s * 6364136223846793005) + 0) + 1442695040888963407) = F64 s := by
  rw [u64w, u64w, u64w]; unfold F64; omega
 have hr := F64_range s
 have e := bits_mask .u64 24 (by decide) (fun n h0 h1 => by rw [u64w]; omega) 8 (by decide) (F64 s / 1099511627776) O_ O_
 have e' : Go.bits .and .u64 (F64 s / 1099511627776) 255 = F64 s / 1099511627776 % 256 := e
 unfold spec_l1Cur_next.f
 rw [iN_ O_, w64 (i := a + 1) O_ O_, iN_ O_]
 first | rw [hF] | rw [hF']
 rw [e', w64 O_ O_]
theorem next_evR {c : List Int} (hc : okCode c) (a s : Int) (h0 : 0 ≤ a) (h1 : a ≤ 4000000000000000000) : ∃ r s', spec_l1Cur_next.f c a s = some (r, a + 1, s') ∧ 0 ≤ r ∧ r < 256 := by
 by_cases hl : (c.length : Int) ≤ a
 ·have hr := F64_range s
  exact ⟨_, _, next_end a s hl h0 h1, O_, O_⟩
 ·have hr := hc.rd a
  unfold spec_l1Cur_next.f
  rw [ip_ O_, ip_ h0, w64 (i := a + 1) O_ O_, ip_ O_, w64 (i := rd c a) O_ O_]
  have := u64_range (IntKind.u64.wrap (IntKind.u64.wrap (s * 6364136223846793005) + IntKind.u64.wrap (rd c a)) + 1442695040888963407)
  exact ⟨_, _, rfl, hr.1, hr.2⟩
theorem pick_evR {c : List Int} (hc : okCode c) (a s n : Int) (h0 : 0 ≤ a) (h1 : a ≤ 3000000000000000000) (hn : 2 ≤ n) (hn2 : n ≤ 200) : ∃ r s', spec_l1Cur_pick.f c a s n = some (r, a + 1, s') ∧ 0 ≤ r ∧ r < n := by
 obtain ⟨r, s', e, g1, g2⟩ := next_evR hc a s h0 O_
 unfold spec_l1Cur_pick.f
 rw [iN_ O_, e]
 simp only [bs_]
 rw [iN_ O_, iN_ O_]
 refine ⟨_, _, rfl, ?_, ?_⟩
 ·rw [Int.tmod_eq_emod_of_nonneg O_]; exact Int.emod_nonneg _ O_
 ·rw [Int.tmod_eq_emod_of_nonneg O_]; exact Int.emod_lt_of_pos _ O_
theorem pick_end {c : List Int} (a s n : Int) (h0 : (c.length : Int) ≤ a) (h1 : 0 ≤ a) (h2 : a ≤ 4000000000000000000) (hn : 2 ≤ n) (hn2 : n ≤ 200) : spec_l1Cur_pick.f c a s n = some (F64 s / 1099511627776 % 256 % n, a + 1, F64 s) := by
 have hr := F64_range s
 unfold spec_l1Cur_pick.f
 rw [iN_ O_, next_end a s h0 h1 h2]
 simp only [bs_]
 rw [iN_ O_, iN_ O_, Int.tmod_eq_emod_of_nonneg O_]
def cls (s : Int) : Int := F64 (F64 s) / 1099511627776 % 4
def G3 (s : Int) : Int := F64 (F64 (F64 s))
def itG : Nat → Int → Int
 | 0, s => s
 | n + 1, s => itG n (G3 s)
theorem itG_add : ∀ (m n : Nat) (s : Int), itG (m + n) s = itG n (itG m s)
 | 0, n, s => by rw [Nat.zero_add]; rfl
 | m + 1, n, s => by rw [show m + 1 + n = (m + n) + 1 by omega]; exact itG_add m n (G3 s)
def Cg (x y : Int) : Prop := ∃ q : Int, x = y + 4398046511104 * q
theorem Cg.trans {x y z : Int} (h : Cg x y) (k : Cg y z) : Cg x z := by
 obtain ⟨q, rfl⟩ := h
 obtain ⟨p, rfl⟩ := k
 exact ⟨p + q, O_⟩
theorem Cg.lin {x y : Int} (h : Cg x y) (A B : Int) : Cg (A * x + B) (A * y + B) := by
 obtain ⟨q, rfl⟩ := h
 refine ⟨A * q, ?_⟩
 rw [Int.mul_add, Int.mul_left_comm A 4398046511104 q]
 omega
theorem Cg.red (A B x : Int) : Cg (A * x + B) (A % 4398046511104 * x + B % 4398046511104) := by
 refine ⟨A / 4398046511104 * x + B / 4398046511104, ?_⟩
 have h1 := Int.emod_add_mul_ediv A 4398046511104
 have h2 := Int.emod_add_mul_ediv B 4398046511104
 have h3 : A * x = A % 4398046511104 * x + 4398046511104 * (A / 4398046511104 * x) := by
  rw [← Int.mul_assoc, ← Int.add_mul, h1]
 omega
theorem F64_cg (x : Int) : Cg (F64 x) (6364136223846793005 * x + 1442695040888963407) := by
 unfold F64
 exact ⟨-(4194304 * ((x * 6364136223846793005 + 1442695040888963407) / 18446744073709551616)), O_⟩
def aff : Nat → Int × Int
 | 0 => (1610380290293, 146808144153)
 | k + 1 => ((aff k).1 * (aff k).1 % 4398046511104, ((aff k).1 * (aff k).2 + (aff k).2) % 4398046511104)
theorem G3_cg (x : Int) : Cg (G3 x) ((aff 0).1 * x + (aff 0).2) := by
 unfold G3
 refine (F64_cg _).trans (((F64_cg _).lin _ _).trans ((((F64_cg x).lin _ _).lin _ _).trans ?_))
 exact ⟨58608227004328453506646594938727604003455258 * x + 13285981864689072521541670664646133922839966, by show 6364136223846793005 * (6364136223846793005 * (6364136223846793005 * x + 1442695040888963407) + 1442695040888963407) + 1442695040888963407 = 1610380290293 * x + 146808144153 + 4398046511104 * (58608227004328453506646594938727604003455258 * x + 13285981864689072521541670664646133922839966); omega⟩
theorem itG_cg : ∀ (k : Nat) (x : Int), Cg (itG (2 ^ k) x) ((aff k).1 * x + (aff k).2)
 | 0, x => G3_cg x
 | k + 1, x => by
  rw [Nat.pow_succ, Nat.mul_two, itG_add]
  refine (itG_cg k _).trans (((itG_cg k x).lin _ _).trans ?_)
  show Cg ((aff k).1 * ((aff k).1 * x + (aff k).2) + (aff k).2) ((aff k).1 * (aff k).1 % 4398046511104 * x + ((aff k).1 * (aff k).2 + (aff k).2) % 4398046511104)
  rw [Int.mul_add, ← Int.mul_assoc, Int.add_assoc]
  exact Cg.red _ _ x
theorem aff19 : aff 19 = (1304887820289, 2957227065344) := by decide +kernel
theorem aff20 : aff 20 = (2609775640577, 2615919247360) := by decide +kernel
theorem itG_F : ∀ (n : Nat) (s : Int), itG n (F64 s) = F64 (itG n s)
 | 0, _ => rfl
 | n + 1, s => itG_F n (G3 s)
theorem cls_it (n : Nat) (s : Int) : cls (itG n s) = itG n (F64 (F64 s)) / 1099511627776 % 4 := by
 unfold cls
 rw [itG_F, itG_F]
theorem cls_soon (s : Int) : ∃ n, n ≤ 1572864 ∧ cls (itG n s) ≠ 1 := by
 by_cases h0 : cls (itG 0 s) = 1
 ·by_cases h1 : cls (itG (2 ^ 19) s) = 1
  ·by_cases h2 : cls (itG (2 ^ 20) s) = 1
   ·refine ⟨2 ^ 19 + 2 ^ 20, by decide, fun h3 => ?_⟩
    rw [cls_it] at h0 h1 h2 h3
    rw [itG_add] at h3
    obtain ⟨q2, e2⟩ := itG_cg 19 (F64 (F64 s))
    obtain ⟨q3, e3⟩ := itG_cg 20 (F64 (F64 s))
    obtain ⟨q4, e4⟩ := itG_cg 20 (itG (2 ^ 19) (F64 (F64 s)))
    rw [aff19] at e2
    rw [aff20] at e3 e4
    have e0 : itG 0 (F64 (F64 s)) = F64 (F64 s) := rfl
    rw [e0] at h0
    generalize F64 (F64 s) = x at *
    generalize itG (2 ^ 20) (itG (2 ^ 19) x) = y4 at *
    generalize itG (2 ^ 19) x = y2 at *
    generalize itG (2 ^ 20) x = y3 at *
    simp only at e2 e3 e4
    clear e0
    have key : y4 - y2 - y3 + x = 2199023255552 + 4398046511104 * (774312967922 * x + 2609775640576 * q2 + q4 - q3 + 1754801623698) := by omega
    generalize (774312967922 * x + 2609775640576 * q2 + q4 - q3 + 1754801623698 : Int) = K at key
    clear e2 e3 e4
    omega
   ·exact ⟨2 ^ 20, by decide, h2⟩
  ·exact ⟨2 ^ 19, by decide, h1⟩
 ·exact ⟨0, by decide, h0⟩
def smP (p : S68) : Prop := 0 ≤ p.f0 ∧ p.f0 ≤ 300 ∧ p.f1.size ≤ 4 ∧ p.f2.size ≤ 300
theorem smP_add {l : List S68} {p : S68} (h : ∀ q ∈ l, smP q) (hp : smP p) : ∀ q ∈ l ++ [p], smP q := by
 intro q hq
 rcases List.mem_append.mp hq with hq | hq
 ·exact h q hq
 ·rw [List.mem_singleton.mp hq]; exact hp
theorem of_pick {c : List Int} {a s r a' s' : Int} {l : List ByteArray} (n : Nat) (hn : l.length = n) (M : Nat) (hM : ∀ x ∈ l, x.size ≤ M) (e : spec_l1Cur_pick.f c a s (n : Int) = some (r, a', s')) (h0 : 0 ≤ r) (h1 : r < n) : ∃ x : ByteArray, x.size ≤ M ∧ spec_l1Cur_of.f c a s l = some (x, a', s') := by
 subst hn
 unfold spec_l1Cur_of.f
 rw [e]
 simp only [bs_]
 rw [ip_ h0, ip_ h1]
 have hm : rdOf ByteArray.empty l r ∈ l := by
  unfold rdOf
  rw [List.getD_eq_getElem?_getD, List.getElem?_eq_getElem (by omega : r.toNat < l.length)]
  simp
 exact ⟨_, hM _ hm, rfl⟩
theorem opOn_tail {c : List Int} (hc : okCode c) (t : ByteArray) (ht : t.size ≤ 300) (x5 : List S68) (x6 : Nat) (h6 : t.size ≤ x6) (a s : Int) (h0 : 0 ≤ a) (h1 : a ≤ 2000000000000000000) (hl : x5.length ≤ 1000000000) (hp : ∀ q ∈ x5, smP q) :
  ∃ r a' s', r.length ≤ x5.length + 1 ∧ (∀ q ∈ r, smP q) ∧ a ≤ a' ∧ a' ≤ a + 4 ∧ ∃ K, ∀ k, K ≤ k → spec_l1Cur_opOn.l0 k t x5 (x6 : Int) c a s = some (r, a', s') := by
 obtain ⟨b, a1, s1, e1, q1, q2⟩ := one_ev hc a s 3 h0 O_ O_ O_
 cases b with
 | false =>
  refine ⟨x5, a1, s1, O_, hp, q1, O_, 1, fun k hk => ?_⟩
  obtain ⟨k, rfl⟩ := k1_ k
  simp only [spec_l1Cur_opOn.l0]
  rw [iN_ O_, e1]
  simp
 | true =>
  obtain ⟨v, a2, s2, e2, _, g3, g4, g5⟩ := of_ev hc a1 s1 [(⟨#[101, 110, 100]⟩ : ByteArray), (⟨#[46]⟩ : ByteArray)] 4 O_ O_ (by decide) (by decide) (by decide)
  refine ⟨x5 ++ [(⟨0, v, (⟨#[]⟩ : ByteArray)⟩ : S68)], a2, s2, by simp, smP_add hp ⟨by show (0 : Int) ≤ 0; omega, by show (0 : Int) ≤ 300; omega, g3, by show (⟨#[]⟩ : ByteArray).size ≤ 300; decide⟩, O_, O_, 1, fun k hk => ?_⟩
  obtain ⟨k, rfl⟩ := k1_ k
  simp only [spec_l1Cur_opOn.l0]
  rw [iN_ O_, e1]
  simp only [bs_, if_true]
  rw [e2]
  simp only [bs_]
  rw [ip_ O_]
theorem opOn_first {c : List Int} (t : ByteArray) (ht : t.size ≤ 300) (x5 : List S68) (x6 : Nat) (h6 : x6 < t.size) (a s r1 a1 s1 : Int)
  (e1 : spec_l1Cur_pick.f c a s 5 = some (r1, a1, s1)) (g1 : 0 ≤ r1) (g2 : r1 < 5) :
  ∃ n : Nat, 1 ≤ n ∧ x6 + n ≤ t.size ∧ n ≤ 300 ∧ ∀ k, spec_l1Cur_opOn.l0 (k + 1) t x5 (x6 : Int) c a s = spec_l1Cur_opOn.j1 k t x5 (x6 : Int) (n : Int) c a1 s1 := by
 have w1 : wrap64 (1 + r1) = 1 + r1 := w64 O_ O_
 have w2 : wrap64 ((t.size : Int) - (x6 : Int)) = (t.size : Int) - (x6 : Int) := w64 O_ O_
 have c0 : (x6 : Int) < (t.size : Int) := by omega
 by_cases c1 : 1 + r1 > (t.size : Int) - (x6 : Int)
 ·refine ⟨t.size - x6, O_, O_, O_, fun k => ?_⟩
  have en : ((t.size - x6 : Nat) : Int) = (t.size : Int) - (x6 : Int) := by omega
  rw [en]
  simp only [spec_l1Cur_opOn.l0, ip_ c0, e1, bs_, w1, w2, ip_ c1]
 ·refine ⟨(1 + r1).toNat, O_, O_, O_, fun k => ?_⟩
  have en : (((1 + r1).toNat : Nat) : Int) = 1 + r1 := by omega
  rw [en]
  simp only [spec_l1Cur_opOn.l0, ip_ c0, e1, bs_, w1, w2, iN_ c1]
theorem opOn_put {c : List Int} (t : ByteArray) (x5 : List S68) (hl : x5.length ≤ 1000000000) (x6 x7 a1 s1 a2 s2 r3 a3 s3 : Int)
  (e2 : spec_l1Cur_pick.f c a1 s1 4 = some (1, a2, s2)) (e3 : spec_l1Cur_pick.f c a2 s2 5 = some (r3, a3, s3)) (g3 : 0 ≤ r3) (g4 : r3 < 5) :
  ∃ p, smP p ∧ ∀ k, spec_l1Cur_opOn.j1 (k + 1) t x5 x6 x7 c a1 s1 = spec_l1Cur_opOn.l0 k t (x5 ++ [p]) x6 c a3 s3 := by
 obtain ⟨v, hv, ev⟩ := of_pick (l := [(⟨#[120]⟩ : ByteArray), (⟨#[121, 121]⟩ : ByteArray), (⟨#[65, 47]⟩ : ByteArray), (⟨#[110, 101, 119]⟩ : ByteArray), (⟨#[66]⟩ : ByteArray)]) 5 rfl 4 (by decide) e3 g3 g4
 have c1 : x5.length < 3518437208883 := by omega
 have n0 : ¬ ((1 : Int) = 0) := by omega
 refine ⟨⟨0, v, (⟨#[]⟩ : ByteArray)⟩, ⟨by show (0 : Int) ≤ 0; omega, by show (0 : Int) ≤ 300; omega, hv, by show (⟨#[]⟩ : ByteArray).size ≤ 300; decide⟩, fun k => ?_⟩
 simp only [spec_l1Cur_opOn.j1, e2, bs_, iN_ n0, if_true, ev]
 exact ip_ c1
theorem opOn_go {c : List Int} (t : ByteArray) (ht : t.size ≤ 300) (x5 : List S68) (hl : x5.length ≤ 1000000000) (x6 n : Nat) (n1 : x6 + n ≤ t.size) (a1 s1 r2 a2 s2 : Int)
  (e2 : spec_l1Cur_pick.f c a1 s1 4 = some (r2, a2, s2)) (hr : r2 ≠ 1) :
  ∃ p, smP p ∧ ∀ k, spec_l1Cur_opOn.j1 (k + 1) t x5 (x6 : Int) (n : Int) c a1 s1 = spec_l1Cur_opOn.l0 k t (x5 ++ [p]) ((x6 + n : Nat) : Int) c a2 s2 := by
 have w1 : wrap64 ((x6 : Int) + (n : Int)) = ((x6 + n : Nat) : Int) := by rw [w64 O_ O_]; omega
 have c1 : x5.length < 3518437208883 := by omega
 have c2 : (0 : Int) ≤ (x6 : Int) := by omega
 have c3 : (x6 : Int) ≤ ((x6 + n : Nat) : Int) := by omega
 have c4 : ((x6 + n : Nat) : Int) ≤ (t.size : Int) := by omega
 by_cases h0 : r2 = 0
 ·refine ⟨⟨0, (⟨#[]⟩ : ByteArray), t.extract x6 (x6 + n)⟩, ⟨by show (0 : Int) ≤ 0; omega, by show (0 : Int) ≤ 300; omega, by show (⟨#[]⟩ : ByteArray).size ≤ 4; decide, by show (t.extract x6 (x6 + n)).size ≤ 300; have := ext_size t x6 (x6 + n); omega⟩, fun k => ?_⟩
  simp only [spec_l1Cur_opOn.j1, e2, bs_, ip_ h0, w1, ip_ c2, ip_ c3, ip_ c4, tN_]
  exact ip_ c1
 ·refine ⟨⟨(n : Int), (⟨#[]⟩ : ByteArray), (⟨#[]⟩ : ByteArray)⟩, ⟨by show (0 : Int) ≤ (n : Int); omega, by show (n : Int) ≤ 300; omega, by show (⟨#[]⟩ : ByteArray).size ≤ 4; decide, by show (⟨#[]⟩ : ByteArray).size ≤ 300; decide⟩, fun k => ?_⟩
  simp only [spec_l1Cur_opOn.j1, e2, bs_, iN_ h0, iN_ hr, w1]
  exact ip_ c1
theorem opOn_step {c : List Int} (t : ByteArray) (ht : t.size ≤ 300) (x5 : List S68) (hl : x5.length ≤ 1000000000) (x6 : Nat) (h6 : x6 < t.size) (a s r1 a1 s1 r2 a2 s2 : Int)
  (e1 : spec_l1Cur_pick.f c a s 5 = some (r1, a1, s1)) (g1 : 0 ≤ r1) (g2 : r1 < 5) (e2 : spec_l1Cur_pick.f c a1 s1 4 = some (r2, a2, s2)) :
  (r2 = 1 → ∀ r3 a3 s3 : Int, spec_l1Cur_pick.f c a2 s2 5 = some (r3, a3, s3) → 0 ≤ r3 → r3 < 5 → ∃ p, smP p ∧ ∀ k, spec_l1Cur_opOn.l0 (k + 2) t x5 (x6 : Int) c a s = spec_l1Cur_opOn.l0 k t (x5 ++ [p]) (x6 : Int) c a3 s3) ∧
  (r2 ≠ 1 → ∃ p n, smP p ∧ 1 ≤ n ∧ x6 + n ≤ t.size ∧ ∀ k, spec_l1Cur_opOn.l0 (k + 2) t x5 (x6 : Int) c a s = spec_l1Cur_opOn.l0 k t (x5 ++ [p]) ((x6 + n : Nat) : Int) c a2 s2) := by
 obtain ⟨n, n1, n2, n3, en⟩ := opOn_first t ht x5 x6 h6 a s r1 a1 s1 e1 g1 g2
 constructor
 ·intro hr r3 a3 s3 e3 g3 g4
  subst hr
  obtain ⟨p, p1, p2⟩ := opOn_put t x5 hl (x6 : Int) (n : Int) a1 s1 a2 s2 r3 a3 s3 e2 e3 g3 g4
  exact ⟨p, p1, fun k => (en (k + 1)).trans (p2 k)⟩
 ·intro hr
  obtain ⟨p, p1, p2⟩ := opOn_go t ht x5 hl x6 n n2 a1 s1 r2 a2 s2 e2 hr
  exact ⟨p, n, p1, n1, n2, fun k => (en (k + 1)).trans (p2 k)⟩
theorem opOn_end {c : List Int} (hc : okCode c) (t : ByteArray) (ht : t.size ≤ 300) : ∀ (m : Nat), m ≤ 300 → ∀ (x5 : List S68) (x6 : Nat) (a s : Int), t.size - x6 ≤ m → (c.length : Int) ≤ a → 0 ≤ a → a + (m : Int) * 4718600 ≤ 1900000000000000000 → x5.length + m * 1572870 ≤ 900000000 → (∀ q ∈ x5, smP q) →
  ∃ r a' s', r.length ≤ x5.length + m * 1572870 + 1 ∧ (∀ q ∈ r, smP q) ∧ a ≤ a' ∧ a' ≤ a + (m : Int) * 4718600 + 4 ∧ ∃ K, ∀ k, K ≤ k → spec_l1Cur_opOn.l0 k t x5 (x6 : Int) c a s = some (r, a', s') := by
 intro m
 induction m with
 | zero =>
  intro hm x5 x6 a s hx hla h0 h1 hl hp
  obtain ⟨r, a', s', g1, g2, g3, g4, g5⟩ := opOn_tail hc t ht x5 x6 O_ a s h0 O_ O_ hp
  exact ⟨r, a', s', O_, g2, g3, O_, g5⟩
 | succ m ih =>
  intro hm x5 x6 a s hx hla h0 h1 hl hp
  by_cases h6 : t.size ≤ x6
  ·obtain ⟨r, a', s', g1, g2, g3, g4, g5⟩ := opOn_tail hc t ht x5 x6 h6 a s h0 O_ O_ hp
   exact ⟨r, a', s', O_, g2, g3, O_, g5⟩
  ·have puts : ∀ (n : Nat) (x5 : List S68) (a s : Int), cls (itG n s) ≠ 1 → (c.length : Int) ≤ a → 0 ≤ a → a + (m : Int) * 4718600 + 3 * (n : Int) + 3 ≤ 1900000000000000000 → x5.length + m * 1572870 + n + 1 ≤ 900000000 → (∀ q ∈ x5, smP q) →
     ∃ r a' s', r.length ≤ x5.length + m * 1572870 + n + 2 ∧ (∀ q ∈ r, smP q) ∧ a ≤ a' ∧ a' ≤ a + (m : Int) * 4718600 + 3 * (n : Int) + 7 ∧ ∃ K, ∀ k, K ≤ k → spec_l1Cur_opOn.l0 k t x5 (x6 : Int) c a s = some (r, a', s') := by
    intro n
    induction n with
    | zero =>
     intro x5 a s hn hla h0 h1 hl hp
     have e1 := pick_end (c := c) a s 5 hla h0 O_ O_ O_
     have e2 := pick_end (c := c) (a + 1) (F64 s) 4 O_ O_ O_ O_ O_
     obtain ⟨_, hB⟩ := opOn_step t ht x5 O_ x6 O_ a s _ _ _ _ _ _ e1 O_ O_ e2
     have hn' : cls s ≠ 1 := hn
     obtain ⟨p, n, p1, p2, p3, p4⟩ := hB (by unfold cls at hn'; clear hB; omega)
     clear hB
     obtain ⟨r, a', s', g1, g2, g3, g4, K, g5⟩ := ih O_ (x5 ++ [p]) (x6 + n) (a + 1 + 1) (F64 (F64 s)) O_ O_ O_ O_ (by rw [lA_, lS_]; omega) (smP_add hp p1)
     rw [lA_, lS_] at g1
     refine ⟨r, a', s', O_, g2, O_, O_, K + 2, fun k hk => ?_⟩
     obtain ⟨k, rfl⟩ : ∃ q, k = q + 2 := ⟨k - 2, O_⟩
     rw [p4]
     exact g5 k O_
    | succ n ihn =>
     intro x5 a s hn hla h0 h1 hl hp
     have e1 := pick_end (c := c) a s 5 hla h0 O_ O_ O_
     have e2 := pick_end (c := c) (a + 1) (F64 s) 4 O_ O_ O_ O_ O_
     have e3 := pick_end (c := c) (a + 1 + 1) (F64 (F64 s)) 5 O_ O_ O_ O_ O_
     obtain ⟨hA, hB⟩ := opOn_step t ht x5 O_ x6 O_ a s _ _ _ _ _ _ e1 O_ O_ e2
     by_cases hr : F64 (F64 s) / 1099511627776 % 256 % 4 = 1
     ·obtain ⟨p, p1, p4⟩ := hA hr _ _ _ e3 (by clear hA hB; omega) (by clear hA hB; omega)
      clear hA hB
      obtain ⟨r, a', s', g1, g2, g3, g4, K, g5⟩ := ihn (x5 ++ [p]) (a + 1 + 1 + 1) (F64 (F64 (F64 s))) hn O_ O_ O_ (by rw [lA_, lS_]; omega) (smP_add hp p1)
      rw [lA_, lS_] at g1
      refine ⟨r, a', s', O_, g2, O_, O_, K + 2, fun k hk => ?_⟩
      obtain ⟨k, rfl⟩ : ∃ q, k = q + 2 := ⟨k - 2, O_⟩
      rw [p4]
      exact g5 k O_
     ·obtain ⟨p, n', p1, p2, p3, p4⟩ := hB hr
      clear hA hB
      obtain ⟨r, a', s', g1, g2, g3, g4, K, g5⟩ := ih O_ (x5 ++ [p]) (x6 + n') (a + 1 + 1) (F64 (F64 s)) O_ O_ O_ O_ (by rw [lA_, lS_]; omega) (smP_add hp p1)
      rw [lA_, lS_] at g1
      refine ⟨r, a', s', O_, g2, O_, O_, K + 2, fun k hk => ?_⟩
      obtain ⟨k, rfl⟩ : ∃ q, k = q + 2 := ⟨k - 2, O_⟩
      rw [p4]
      exact g5 k O_
   obtain ⟨n, hn, hn2⟩ := cls_soon s
   obtain ⟨r, a', s', g1, g2, g3, g4, g5⟩ := puts n x5 a s hn2 hla h0 O_ O_ hp
   exact ⟨r, a', s', O_, g2, g3, O_, g5⟩
theorem opOn_l {c : List Int} (hc : okCode c) (t : ByteArray) (ht : t.size ≤ 300) (B m : Nat) (hB : B = 471861001) (hm : m = 300) : ∀ (w : Nat), w ≤ 1048576 → ∀ (x5 : List S68) (x6 : Nat) (a s : Int), (c.length : Int) ≤ a + (w : Int) → 0 ≤ a → a + 3 * (w : Int) ≤ 1700000000000000000 → x5.length + w ≤ 100000000 → (∀ q ∈ x5, smP q) →
  ∃ r a' s', r.length ≤ x5.length + w + B ∧ (∀ q ∈ r, smP q) ∧ a ≤ a' ∧ a' ≤ a + 3 * (w : Int) + 1415580004 ∧ ∃ K, ∀ k, K ≤ k → spec_l1Cur_opOn.l0 k t x5 (x6 : Int) c a s = some (r, a', s') := by
 intro w
 induction w with
 | zero =>
  intro hw x5 x6 a s hla h0 h1 hl hp
  obtain ⟨r, a', s', g1, g2, g3, g4, g5⟩ := opOn_end hc t ht m O_ x5 x6 a s O_ O_ h0 O_ O_ hp
  exact ⟨r, a', s', O_, g2, g3, O_, g5⟩
 | succ w ih =>
  intro hw x5 x6 a s hla h0 h1 hl hp
  by_cases h6 : t.size ≤ x6
  ·obtain ⟨r, a', s', g1, g2, g3, g4, g5⟩ := opOn_tail hc t ht x5 x6 h6 a s h0 O_ O_ hp
   exact ⟨r, a', s', O_, g2, g3, O_, g5⟩
  ·obtain ⟨r1, s1, e1, u1, u2⟩ := pick_evR hc a s 5 h0 O_ O_ O_
   obtain ⟨r2, s2, e2, u3, u4⟩ := pick_evR hc (a + 1) s1 4 O_ O_ O_ O_
   obtain ⟨r3, s3, e3, u5, u6⟩ := pick_evR hc (a + 1 + 1) s2 5 O_ O_ O_ O_
   obtain ⟨hA, hBB⟩ := opOn_step t ht x5 O_ x6 O_ a s _ _ _ _ _ _ e1 u1 u2 e2
   by_cases hr : r2 = 1
   ·obtain ⟨p, p1, p4⟩ := hA hr _ _ _ e3 u5 u6
    clear hA hBB
    obtain ⟨r, a', s', g1, g2, g3, g4, K, g5⟩ := ih O_ (x5 ++ [p]) x6 (a + 1 + 1 + 1) s3 O_ O_ O_ (by rw [lA_, lS_]; omega) (smP_add hp p1)
    rw [lA_, lS_] at g1
    refine ⟨r, a', s', O_, g2, O_, O_, K + 2, fun k hk => ?_⟩
    obtain ⟨k, rfl⟩ : ∃ q, k = q + 2 := ⟨k - 2, O_⟩
    rw [p4]
    exact g5 k O_
   ·obtain ⟨p, n', p1, p2, p3, p4⟩ := hBB hr
    clear hA hBB
    obtain ⟨r, a', s', g1, g2, g3, g4, K, g5⟩ := ih O_ (x5 ++ [p]) (x6 + n') (a + 1 + 1) s2 O_ O_ O_ (by rw [lA_, lS_]; omega) (smP_add hp p1)
    rw [lA_, lS_] at g1
    refine ⟨r, a', s', O_, g2, O_, O_, K + 2, fun k hk => ?_⟩
    obtain ⟨k, rfl⟩ : ∃ q, k = q + 2 := ⟨k - 2, O_⟩
    rw [p4]
    exact g5 k O_
theorem opOn_ev {c : List Int} (hc : okCode c) (hcl : c.length ≤ 1048576) (t : ByteArray) (ht : t.size ≤ 300) (a s : Int) (h0 : 0 ≤ a) (h1 : a ≤ 1600000000000000000) :
  ∃ r a' s', r.length ≤ 500000000 ∧ (∀ q ∈ r, smP q) ∧ a ≤ a' ∧ a' ≤ a + 2000000000 ∧ ∃ K, ∀ k, K ≤ k → spec_l1Cur_opOn.f k c a s t = some (r, a', s') := by
 obtain ⟨w, hw⟩ : ∃ w : Nat, w = 1048576 := ⟨_, rfl⟩
 obtain ⟨B, hB⟩ : ∃ w : Nat, w = 471861001 := ⟨_, rfl⟩
 obtain ⟨m, hm⟩ : ∃ w : Nat, w = 300 := ⟨_, rfl⟩
 have hn : ([] : List S68).length = 0 := rfl
 obtain ⟨r, a', s', g1, g2, g3, g4, K, g5⟩ := opOn_l hc t ht B m hB hm w O_ ([] : List S68) 0 a s O_ h0 O_ O_ (fun q hq => by cases hq)
 refine ⟨r, a', s', O_, g2, g3, O_, K, fun k hk => ?_⟩
 unfold spec_l1Cur_opOn.f
 exact g5 k hk
theorem plainText_ev2 {c : List Int} (hc : okCode c) (a s : Int) (h0 : 0 ≤ a) (h1 : a ≤ 1600000000000000000) :
  ∃ t' a' s', t'.size ≤ 300 ∧ a ≤ a' ∧ a' ≤ a + 2000000300 ∧ ∃ K, ∀ k, K ≤ k → spec_l1Cur_plainText.f k c a s = some (t', a', s') := by
 obtain ⟨t, a1, s1, g1, g2, g3, K, g4⟩ := doc_ev hc a s h0 O_
 obtain ⟨K2, h2⟩ := spec_GoodText_ev t O_
 have lit4 : ((⟨#[116, 101, 120, 116]⟩ : ByteArray)).size = 4 := rfl
 cases hg : textB t with
 | false =>
  refine ⟨(⟨#[116, 101, 120, 116]⟩ : ByteArray), a1, s1, O_, O_, O_, max K K2, fun k hk => ?_⟩
  unfold spec_l1Cur_plainText.f
  rw [g4 k O_]; simp only [bs_]
  rw [h2 k O_, hg]; simp only [bs_]
  rw [iN_ (by simp), iN_ O_]
 | true =>
  by_cases c1 : (t.size : Int) > 40
  ·obtain ⟨r, a2, s2, e2, q1, q2⟩ := one_ev hc a1 s1 20 O_ O_ O_ O_
   cases r with
   | true =>
    refine ⟨t, a2, s2, by have := textB_size hg; omega, O_, O_, max K K2, fun k hk => ?_⟩
    unfold spec_l1Cur_plainText.f
    rw [g4 k O_]; simp only [bs_]
    rw [h2 k O_, hg]; simp only [bs_]
    rw [ip_ trivial, ip_ c1, e2]; simp
   | false =>
    have := ext_size t 0 40
    refine ⟨t.extract 0 40, a2, s2, by have := textB_size hg; omega, O_, O_, max K K2, fun k hk => ?_⟩
    unfold spec_l1Cur_plainText.f
    rw [g4 k O_]; simp only [bs_]
    rw [h2 k O_, hg]; simp only [bs_]
    rw [ip_ trivial, ip_ c1, e2]; simp only [bs_]
    rw [iN_ (by simp), ip_ O_, ip_ O_]
  ·refine ⟨t, a1, s1, by have := textB_size hg; omega, O_, O_, max K K2, fun k hk => ?_⟩
   unfold spec_l1Cur_plainText.f
   rw [g4 k O_]; simp only [bs_]
   rw [h2 k O_, hg]; simp only [bs_]
   rw [ip_ trivial, iN_ c1]
theorem smP_small {op : List S68} (h : op.length ≤ 500000000) (h2 : ∀ q ∈ op, smP q) : smallL op :=
 ⟨O_, fun q hq => by have := h2 q hq; exact ⟨by have := this.2.2.1; omega, by have := this.2.2.2; omega⟩⟩
theorem sm_set {l : List S68} (h : smallL l) (i : Nat) (v : S68) (hv : small v) : smallL (l.set i v) := by
 refine ⟨by rw [List.length_set]; exact h.1, fun x hx => ?_⟩
 rcases List.mem_or_eq_of_mem_set hx with hx | rfl
 ·exact h.2 x hx
 ·exact hv
theorem sm_app {l : List S68} (h : smallL l) (hl : l.length ≤ 500000000) (v : S68) (hv : small v) : smallL (l ++ [v]) := by
 refine ⟨by rw [lA_, lS_]; omega, fun x hx => ?_⟩
 rcases List.mem_append.1 hx with hx | hx
 ·exact h.2 x hx
 ·rw [List.mem_singleton.1 hx]; exact hv
theorem op_j0 {c : List Int} (hc : okCode c) (l : List S68) (b : Bool) (a s : Int) (hl : smallL l) (hn : l.length ≤ 500000000) (h0 : 0 ≤ a) (h1 : a ≤ 1900000000000000000) (hb : b = true → 0 < l.length) : ∃ r a' s', smallL r ∧ a ≤ a' ∧ a' ≤ a + 10 ∧ ∀ k, 0 < k → spec_l1Cur_op.j0 k l b c a s = some (r, a', s') := by
 cases b with
 | false =>
  refine ⟨l, a, s, hl, O_, O_, fun k hk => ?_⟩
  obtain ⟨k, rfl⟩ := k1_ k
  simp only [spec_l1Cur_op.j0]
  rw [iN_ (by simp)]
 | true =>
  have hp := hb rfl
  obtain ⟨j, a1, s1, e1, j0, j1, b1, b2⟩ := pick_ev hc a s 4 h0 O_ O_ O_
  have hE : (⟨#[]⟩ : ByteArray).size = 0 := rfl
  have hZ : (⟨#[90]⟩ : ByteArray).size = 1 := rfl
  by_cases c0 : j = 0
  ·obtain ⟨i, a2, s2, e2, i0, i1, b3, b4⟩ := pick_ev hc a1 s1 (l.length : Int) O_ O_ O_ O_
   obtain ⟨m, a3, s3, e3, m0, m1, b5, b6⟩ := pick_ev hc a2 s2 5 O_ O_ O_ O_
   have hs := small_rd hl i
   refine ⟨_, a3, s3, sm_set hl i.toNat ⟨wrap64 (m - 1), (sp l i).f1, (sp l i).f2⟩ hs, O_, O_, fun k hk => ?_⟩
   obtain ⟨k, rfl⟩ := k1_ k
   simp only [spec_l1Cur_op.j0]
   rw [ip_ trivial, e1, bs_, ip_ c0, e2, bs_, e3, bs_, ip_ i0, ip_ i1]
  ·by_cases c1 : j = 1
   ·obtain ⟨i, a2, s2, e2, i0, i1, b3, b4⟩ := pick_ev hc a1 s1 (l.length : Int) O_ O_ O_ O_
    have hs := small_rd hl i
    refine ⟨_, a2, s2, sm_set hl i.toNat ⟨(sp l i).f0, (⟨#[90]⟩ : ByteArray), (sp l i).f2⟩ ⟨by show (⟨#[90]⟩ : ByteArray).size ≤ _; omega, hs.2⟩, O_, O_, fun k hk => ?_⟩
    obtain ⟨k, rfl⟩ := k1_ k
    simp only [spec_l1Cur_op.j0]
    rw [ip_ trivial, e1, bs_, iN_ c0, ip_ c1, e2, bs_, ip_ i0, ip_ i1]
   ·by_cases c2 : j = 2
    ·refine ⟨_, a1, s1, sm_app hl hn ⟨0, (⟨#[]⟩ : ByteArray), (⟨#[]⟩ : ByteArray)⟩ ⟨by show (⟨#[]⟩ : ByteArray).size ≤ _; omega, by show (⟨#[]⟩ : ByteArray).size ≤ _; omega⟩, O_, O_, fun k hk => ?_⟩
     obtain ⟨k, rfl⟩ := k1_ k
     simp only [spec_l1Cur_op.j0]
     rw [ip_ trivial, e1, bs_, iN_ c0, iN_ c1, ip_ c2, ip_ O_]
    ·obtain ⟨i, a2, s2, e2, i0, i1, b3, b4⟩ := pick_ev hc a1 s1 2 O_ O_ O_ O_
     refine ⟨_, a2, s2, sm_app hl hn ⟨rd [300, 301] i, (⟨#[]⟩ : ByteArray), (⟨#[]⟩ : ByteArray)⟩ ⟨by show (⟨#[]⟩ : ByteArray).size ≤ _; omega, by show (⟨#[]⟩ : ByteArray).size ≤ _; omega⟩, O_, O_, fun k hk => ?_⟩
     obtain ⟨k, rfl⟩ := k1_ k
     simp only [spec_l1Cur_op.j0]
     unfold spec_l1Cur_among.f
     rw [ip_ trivial, e1, bs_, iN_ c0, iN_ c1, iN_ c2, show ((([300, 301] : List Int)).length : Int) = 2 from rfl, e2, bs_, ip_ i0, ip_ i1, bs_, ip_ O_]
theorem op_ev {c : List Int} (hc : okCode c) (hcl : c.length ≤ 1048576) (a s : Int) (h0 : 0 ≤ a) (h1 : a ≤ 1500000000000000000) : ∃ r a' s', smallL r ∧ a ≤ a' ∧ a' ≤ a + 5000000000 ∧ ∃ K, ∀ k, K ≤ k → spec_l1Cur_op.f k c a s = some (r, a', s') := by
 obtain ⟨t, a1, s1, t1, t2, t3, K1, k1⟩ := plainText_ev2 hc a s h0 O_
 obtain ⟨op, a2, s2, o1, o2, o3, o4, K2, k2⟩ := opOn_ev hc hcl t t1 a1 s1 O_ O_
 by_cases hl : (op.length : Int) > 0
 ·obtain ⟨b, a3, s3, e3, b1, b2⟩ := one_ev hc a2 s2 12 O_ O_ O_ O_
  obtain ⟨r, a', s', g1, g3, g4, g2⟩ := op_j0 hc op b a3 s3 (smP_small o1 o2) o1 O_ O_ (fun _ => by omega)
  refine ⟨r, a', s', g1, O_, O_, K1 + K2 + 1, fun k hk => ?_⟩
  unfold spec_l1Cur_op.f
  rw [k1 k O_, bs_, k2 k O_, bs_, ip_ hl, e3, bs_, g2 k O_]
 ·obtain ⟨r, a', s', g1, g3, g4, g2⟩ := op_j0 hc op false a2 s2 (smP_small o1 o2) o1 O_ O_ (fun h => by cases h)
  refine ⟨r, a', s', g1, O_, O_, K1 + K2 + 1, fun k hk => ?_⟩
  unfold spec_l1Cur_op.f
  rw [k1 k O_, bs_, k2 k O_, bs_, iN_ hl, g2 k O_]
theorem ins_st {l : List S34} {m : S34} (hs : stS l) (hm : m.f2.size ≤ 1000) : stS (ins l m) := ins_all (fun x => x.f2.size ≤ 1000) (fun x m _ h => h) l m hs hm
theorem markE (k : Nat) (size : Int) (l : List S34) (n : Int) (b : Bool) (c : List Int) (a s : Int) : spec_l1Cur_marks.j1 (k + 1) size l n b c a s = if b = true then ((spec_l1Cur_pick.f c a s size).bind fun kj => ((spec_l1Cur_pick.f c kj.2.1 kj.2.2 5).bind fun nc => ((spec_l1Cur_of.f c nc.2.1 nc.2.2 (([(⟨#[98, 111, 108, 100]⟩ : ByteArray), (⟨#[101, 109]⟩ : ByteArray), (⟨#[99, 111, 100, 101]⟩ : ByteArray)] : List ByteArray))).bind fun eQ => (if (wrap64 ((wrap64 (kj.1 + 1)) + nc.1)) > size then ((spec_AddMark.f k l size kj.1 size eQ.1).bind fun oX => (spec_l1Cur_marks.l0 k size oX.1 (wrap64 (n - 1)) c eQ.2.1 eQ.2.2)) else ((spec_AddMark.f k l size kj.1 (wrap64 ((wrap64 (kj.1 + 1)) + nc.1)) eQ.1).bind fun oW => (spec_l1Cur_marks.l0 k size oW.1 (wrap64 (n - 1)) c eQ.2.1 eQ.2.2)))))) else (if (l.length : Int) > 0 then ((spec_l1Cur_one.f c a s 20).bind fun lG => (if lG.1 = true then ((spec_l1Cur_pick.f c lG.2.1 lG.2.2 9).bind fun oV => (if 0 < (l.length : Int) then (some ((l.set (0 : Int).toNat (⟨(so l 0).f0, oV.1, (so l 0).f2⟩ : S34)), oV.2.1, oV.2.2)) else (none))) else (some (l, lG.2.1, lG.2.2)))) else (some (l, a, s))) := by
 simp only [spec_l1Cur_marks.j1]
theorem marks_end {c : List Int} (hc : okCode c) (size : Int) (n : Int) (l : List S34) (hl : l.length ≤ 1000) (hs : stS l) (a s : Int) (h0 : 0 ≤ a) (h1 : a ≤ 2900000000000000000) : ∃ z a' s', z.length = l.length ∧ stS z ∧ a ≤ a' ∧ a' ≤ a + 4 ∧ ∀ k, 0 < k → spec_l1Cur_marks.j1 k size l n false c a s = some (z, a', s') := by
 by_cases c0 : (l.length : Int) > 0
 ·obtain ⟨b, a1, s1, e1, b1, b2⟩ := one_ev hc a s 20 h0 O_ O_ O_
  cases b with
  | false =>
   refine ⟨l, a1, s1, rfl, hs, O_, O_, fun k hk => ?_⟩
   obtain ⟨k, rfl⟩ := k1_ k
   rw [markE, iN_ ft, ip_ c0, e1, bs_, iN_ ft]
  | true =>
   obtain ⟨j, a2, s2, e2, j0, j1, b3, b4⟩ := pick_ev hc a1 s1 9 O_ O_ O_ O_
   have hz : stS (l.set (0 : Int).toNat (⟨(so l 0).f0, j, (so l 0).f2⟩ : S34)) := fun x hx => by
    rcases List.mem_or_eq_of_mem_set hx with hx | rfl
    ·exact hs x hx
    ·have := rdM l 0 O_
     rw [show ((0 : Nat) : Int) = 0 from rfl] at this
     show (so l 0).f2.size ≤ 1000
     rw [this]; exact hs _ (List.getElem_mem _)
   refine ⟨_, a2, s2, List.length_set, hz, O_, O_, fun k hk => ?_⟩
   obtain ⟨k, rfl⟩ := k1_ k
   rw [markE, iN_ ft, ip_ c0, e1, bs_, ip_ rfl, e2, bs_, ip_ O_]
 ·refine ⟨l, a, s, rfl, hs, O_, O_, fun k hk => ?_⟩
  obtain ⟨k, rfl⟩ := k1_ k
  rw [markE, iN_ ft, iN_ c0]
theorem marks_l {c : List Int} (hc : okCode c) (size : Int) (hsz : size ≤ 1000) : ∀ (n : Nat) (l : List S34) (a s : Int), l.length + n ≤ 5 → stS l → 0 ≤ a → a + 6 * (n : Int) ≤ 2800000000000000000 →
  ∃ z a' s', z.length ≤ 5 ∧ stS z ∧ a ≤ a' ∧ a' ≤ a + 6 * (n : Int) + 4 ∧ ∃ K, ∀ k, K ≤ k → spec_l1Cur_marks.l0 k size l (n : Int) c a s = some (z, a', s') := by
 intro n
 induction n with
 | zero =>
  intro l a s hl hs h0 h1
  obtain ⟨z, a', s', g1, g2, g3, g4, g5⟩ := marks_end hc size ((0 : Nat) : Int) l O_ hs a s h0 O_
  refine ⟨z, a', s', O_, g2, g3, O_, 2, fun k hk => ?_⟩
  obtain ⟨k, rfl⟩ := k1_ k
  unfold spec_l1Cur_marks.l0
  rw [iN_ O_, g5 k O_]
 | succ n ih =>
  intro l a s hl hs h0 h1
  by_cases c0 : size > 0
  ·obtain ⟨p, a1, s1, e1, p0, p1, b1, b2⟩ := pick_ev hc a s size h0 O_ O_ O_
   obtain ⟨q, a2, s2, e2, q0, q1, b3, b4⟩ := pick_ev hc a1 s1 5 O_ O_ O_ O_
   obtain ⟨w, a3, s3, e3, w0, w1', b5, b6⟩ := of_ev hc a2 s2 (([(⟨#[98, 111, 108, 100]⟩ : ByteArray), (⟨#[101, 109]⟩ : ByteArray), (⟨#[99, 111, 100, 101]⟩ : ByteArray)] : List ByteArray)) 1000 O_ O_ (by decide) (by decide) (by
    intro x hx
    simp only [List.mem_cons, List.not_mem_nil, or_false] at hx
    rcases hx with rfl | rfl | rfl <;> decide)
   have hw : wrap64 ((wrap64 (p + 1)) + q) = p + 1 + q := by
    rw [w64 (i := p + 1) O_ O_, w64 O_ O_]
   have hadd : ∀ t : Int, ∃ z : List S34, z.length ≤ l.length + 1 ∧ stS z ∧ ∃ b, ∀ k, 5000 ≤ k → spec_AddMark.f k l size p t w = some (z, b) := fun t => by
    have := addS_ev l O_ hs size ⟨p, t, w⟩ w1'
    by_cases g : gmB l size = true ∧ mkB ⟨p, t, w⟩ size = true
    ·exact ⟨ins l ⟨p, t, w⟩, ins_len l _, ins_st hs w1', true, fun k hk => by rw [this k hk, ip_ g]⟩
    ·exact ⟨[], Nat.zero_le _, (fun x hx => by cases hx), false, fun k hk => by rw [this k hk, iN_ g]⟩
   have hn : wrap64 (((n + 1 : Nat) : Int) - 1) = (n : Int) := (w64 O_ O_).trans O_
   by_cases c1 : p + 1 + q > size
   ·obtain ⟨z1, z2, z3, b, z4⟩ := hadd size
    obtain ⟨z, a', s', g1, g2, g3, g4, K, g5⟩ := ih z1 a3 s3 O_ z3 O_ O_
    refine ⟨z, a', s', g1, g2, O_, O_, K + 5002, fun k hk => ?_⟩
    obtain ⟨k, rfl⟩ : ∃ m, k = m + 1 + 1 := ⟨k - 2, O_⟩
    unfold spec_l1Cur_marks.l0
    rw [ip_ O_, decide_eq_true c0, markE, ip_ rfl, e1, bs_, e2, bs_, e3, bs_, hw, ip_ c1, z4 k O_, bs_, hn]
    exact g5 k O_
   ·obtain ⟨z1, z2, z3, b, z4⟩ := hadd (p + 1 + q)
    obtain ⟨z, a', s', g1, g2, g3, g4, K, g5⟩ := ih z1 a3 s3 O_ z3 O_ O_
    refine ⟨z, a', s', g1, g2, O_, O_, K + 5002, fun k hk => ?_⟩
    obtain ⟨k, rfl⟩ : ∃ m, k = m + 1 + 1 := ⟨k - 2, O_⟩
    unfold spec_l1Cur_marks.l0
    rw [ip_ O_, decide_eq_true c0, markE, ip_ rfl, e1, bs_, e2, bs_, e3, bs_, hw, iN_ c1, z4 k O_, bs_, hn]
    exact g5 k O_
  ·obtain ⟨z, a', s', g1, g2, g3, g4, g5⟩ := marks_end hc size ((n + 1 : Nat) : Int) l O_ hs a s h0 O_
   refine ⟨z, a', s', O_, g2, g3, O_, 2, fun k hk => ?_⟩
   obtain ⟨k, rfl⟩ := k1_ k
   unfold spec_l1Cur_marks.l0
   rw [ip_ O_, decide_eq_false c0, g5 k O_]
theorem marks_ev {c : List Int} (hc : okCode c) (size : Int) (hsz : size ≤ 1000) (a s : Int) (h0 : 0 ≤ a) (h1 : a ≤ 2000000000000000000) :
  ∃ z a' s', z.length ≤ 5 ∧ stS z ∧ a ≤ a' ∧ a' ≤ a + 100 ∧ ∃ K, ∀ k, K ≤ k → spec_l1Cur_marks.f k c a s size = some (z, a', s') := by
 obtain ⟨p, a1, s1, e1, p0, p1, b1, b2⟩ := pick_ev hc a s 6 h0 O_ O_ O_
 obtain ⟨n, rfl⟩ : ∃ n : Nat, p = (n : Int) := ⟨p.toNat, (Int.toNat_of_nonneg p0).symm⟩
 obtain ⟨z, a', s', g1, g2, g3, g4, K, g5⟩ := marks_l hc size hsz n [] a1 s1 (by simp only [List.length_nil]; omega) (fun x hx => by cases hx) O_ O_
 refine ⟨z, a', s', g1, g2, O_, O_, K, fun k hk => ?_⟩
 unfold spec_l1Cur_marks.f
 rw [e1, bs_]
 exact g5 k hk
theorem drawMove_ev {c : List Int} (hc : okCode c) (hcl : c.length ≤ 1048576) : ∃ op z, smallL op ∧ z.length ≤ 5 ∧ stS z ∧ ∃ K, ∀ k, K ≤ k → spec_DrawMoveMarks.f k c = some (op, z) := by
 obtain ⟨op, a1, s1, o1, o2, o3, K1, k1⟩ := op_ev hc hcl 0 0 O_ O_
 obtain ⟨r, K2, k2⟩ := spec_sizes_ev op o1.1
 by_cases c0 : r.1 > 1000
 ·obtain ⟨z, a', s', g1, g2, g3, g4, K3, k3⟩ := marks_ev hc 10 O_ a1 s1 O_ O_
  refine ⟨op, z, o1, g1, g2, K1 + K2 + K3, fun k hk => ?_⟩
  unfold spec_DrawMoveMarks.f
  rw [k1 k O_, bs_, k2 k O_, bs_, ip_ c0, k3 k O_, bs_]
 ·obtain ⟨z, a', s', g1, g2, g3, g4, K3, k3⟩ := marks_ev hc r.1 O_ a1 s1 O_ O_
  refine ⟨op, z, o1, g1, g2, K1 + K2 + K3, fun k hk => ?_⟩
  unfold spec_DrawMoveMarks.f
  rw [k1 k O_, bs_, k2 k O_, bs_, iN_ c0, k3 k O_, bs_]
theorem drawAdd_ev {c : List Int} (hc : okCode c) : ∃ (z : List S34) (size : Int) (m : S34), z.length ≤ 5 ∧ stS z ∧ 1 ≤ size ∧ size ≤ 40 ∧ 0 ≤ m.f0 ∧ m.f0 ≤ 40 ∧ m.f1 ≤ 50 ∧ m.f0 ≤ m.f1 ∧ m.f2.size ≤ 1000 ∧ ∃ K, ∀ k, K ≤ k → spec_DrawAddMark.f k c = some (z, size, m.f0, m.f1, m.f2) := by
 obtain ⟨p, a1, s1, e1, p0, p1, b1, b2⟩ := pick_ev hc 0 0 40 O_ O_ O_ O_
 have hw : wrap64 (1 + p) = 1 + p := w64 O_ O_
 obtain ⟨q, a2, s2, e2, q0, q1, b3, b4⟩ := pick_ev hc a1 s1 (1 + p) O_ O_ O_ O_
 obtain ⟨z, a3, s3, g1, g2, g3, g4, K, g5⟩ := marks_ev hc (1 + p) O_ a2 s2 O_ O_
 obtain ⟨u, a4, s4, e4, u0, u1, b5, b6⟩ := pick_ev hc a3 s3 7 O_ O_ O_ O_
 have hw2 : wrap64 (q + u) = q + u := w64 O_ O_
 obtain ⟨w, a5, s5, e5, w0, w1', b7, b8⟩ := of_ev hc a4 s4 (([(⟨#[98, 111, 108, 100]⟩ : ByteArray), (⟨#[101, 109]⟩ : ByteArray), (⟨#[]⟩ : ByteArray), (⟨#[65]⟩ : ByteArray)] : List ByteArray)) 1000 O_ O_ (by decide) (by decide) (by
  intro x hx
  simp only [List.mem_cons, List.not_mem_nil, or_false] at hx
  rcases hx with rfl | rfl | rfl | rfl <;> decide)
 refine ⟨z, 1 + p, ⟨q, q + u, w⟩, g1, g2, O_, O_, q0, by show q ≤ 40; omega, by show q + u ≤ 50; omega, by show q ≤ q + u; omega, w1', K, fun k hk => ?_⟩
 unfold spec_DrawAddMark.f
 rw [e1, bs_, hw, e2, bs_, g5 k hk, bs_, e4, bs_, e5, bs_, hw2]
def cutL (u v : Int) (s : ByteArray) : List S34 → List S34
 | [] => []
 | x :: l => (if x.f2.toList = s.toList ∧ u ≠ v ∧ ¬ x.f1 ≤ u ∧ ¬ x.f0 ≥ v then (if x.f0 < u then [(⟨x.f0, u, s⟩ : S34)] else []) ++ (if x.f1 > v then [(⟨v, x.f1, s⟩ : S34)] else []) else [x]) ++ cutL u v s l
theorem cutL_cons (u v : Int) (s : ByteArray) (x : S34) (l : List S34) : cutL u v s (x :: l) = (if x.f2.toList = s.toList ∧ u ≠ v ∧ ¬ x.f1 ≤ u ∧ ¬ x.f0 ≥ v then (if x.f0 < u then [(⟨x.f0, u, s⟩ : S34)] else []) ++ (if x.f1 > v then [(⟨v, x.f1, s⟩ : S34)] else []) else [x]) ++ cutL u v s l := rfl
theorem cutL_len (u v : Int) (s : ByteArray) : ∀ l : List S34, (cutL u v s l).length ≤ 2 * l.length
 | [] => Nat.le_refl _
 | x :: l => by
  have := cutL_len u v s l
  rw [cutL_cons, lA_, List.length_cons]
  split
  ·rw [lA_]
   split <;> split <;> simp only [List.length_cons, List.length_nil] <;> omega
  ·simp only [List.length_cons, List.length_nil]; omega
theorem cutL_st (u v : Int) (s : ByteArray) (hs : s.size ≤ 1000) : ∀ l : List S34, stS l → stS (cutL u v s l)
 | [], _ => fun x hx => by cases hx
 | x :: l, h => fun z hz => by
  have hx := h x List.mem_cons_self
  rw [cutL_cons] at hz
  rcases List.mem_append.1 hz with hz | hz
  ·split at hz
   ·rcases List.mem_append.1 hz with hz | hz
    ·split at hz
     ·rw [List.mem_singleton.1 hz]; exact hs
     ·cases hz
    ·split at hz
     ·rw [List.mem_singleton.1 hz]; exact hs
     ·cases hz
   ·rw [List.mem_singleton.1 hz]; exact hx
  ·exact cutL_st u v s hs l (fun y hy => h y (List.mem_cons_of_mem _ hy)) z hz
theorem cutL_out (u v : Int) (s : ByteArray) (huv : u < v) : ∀ (l : List S34) (z : S34), z ∈ cutL u v s l → z.f2.toList = s.toList → z.f1 ≤ u ∨ z.f0 ≥ v
 | [], z, h, _ => by cases h
 | x :: l, z, h, e => by
  rw [cutL_cons] at h
  rcases List.mem_append.1 h with h | h
  ·split at h
   ·rcases List.mem_append.1 h with h | h
    ·split at h
     ·rw [List.mem_singleton.1 h]; exact .inl (Int.le_refl _)
     ·cases h
    ·split at h
     ·rw [List.mem_singleton.1 h]; exact .inr (Int.le_refl _)
     ·cases h
   ·rename_i c
    rw [List.mem_singleton.1 h] at e ⊢
    by_cases c1 : x.f1 ≤ u
    ·exact .inl c1
    ·by_cases c2 : x.f0 ≥ v
     ·exact .inr c2
     ·exact absurd ⟨e, O_, c1, c2⟩ c
  ·exact cutL_out u v s huv l z h e
theorem cuE (k : Nat) (z u v : Int) (s : ByteArray) (o l : List S34) (n i : Int) (b : Bool) (a c : Int) (t : ByteArray) : impl_CutMarks.j2 (k + 1) z u v s o l n i b a c t = if b = true then (if o.length < 4398046511104 then (impl_CutMarks.l0 k z u v s (o ++ [(⟨a, c, t⟩ : S34)]) l n (wrap64 (i + 1))) else (none)) else (if a < u then (if o.length < 4398046511104 then ((some (o ++ [(⟨a, u, s⟩ : S34)] : List (S34))).bind fun y666 => (if c > v then (if y666.length < 4398046511104 then (impl_CutMarks.l0 k z u v s (y666 ++ [(⟨v, c, s⟩ : S34)]) l n (wrap64 (i + 1))) else (none)) else (impl_CutMarks.l0 k z u v s y666 l n (wrap64 (i + 1))))) else (none)) else (if c > v then (if o.length < 4398046511104 then (impl_CutMarks.l0 k z u v s (o ++ [(⟨v, c, s⟩ : S34)]) l n (wrap64 (i + 1))) else (none)) else (impl_CutMarks.l0 k z u v s o l n (wrap64 (i + 1))))) := by
 simp only [impl_CutMarks.j2]
theorem cut_l (size u v : Int) (s : ByteArray) (l : List S34) (hl : l.length ≤ 300) (r : List S34 × Bool) (K : Nat) (hr : ∀ k, K ≤ k → impl_goodMarks.f k (cutL u v s l) size = some r) :
  ∀ (d i : Nat) (out : List S34), i + d = l.length → out ++ cutL u v s (l.drop i) = cutL u v s l → ∀ k, K + 2 * d + 1 ≤ k → impl_CutMarks.l0 k size u v s out l (l.length : Int) (i : Int) = some r := by
 intro d
 induction d with
 | zero =>
  intro i out hi ho k hk
  obtain ⟨k, rfl⟩ := k1_ k
  have e : cutL u v s [] = [] := rfl
  rw [List.drop_of_length_le O_, e, List.append_nil] at ho
  unfold impl_CutMarks.l0
  rw [iN_ O_, ho, hr k O_]; rfl
 | succ d ih =>
  intro i out hi ho k hk
  obtain ⟨k, rfl⟩ : ∃ m, k = m + 1 + 1 := ⟨k - 2, O_⟩
  have hil : i < l.length := by omega
  have hol : out.length ≤ 600 := by
   have h1 := congrArg List.length ho
   rw [lA_] at h1
   have := cutL_len u v s l
   omega
  rw [List.drop_eq_getElem_cons hil, cutL_cons, ← List.append_assoc] at ho
  have go := fun o h => ih (i + 1) o O_ h k O_
  unfold impl_CutMarks.l0
  rw [ip_ O_, ip_ O_, ip_ O_, rdM l i hil]
  have keep : ¬ (l[i].f2.toList = s.toList ∧ u ≠ v ∧ ¬ l[i].f1 ≤ u ∧ ¬ l[i].f0 ≥ v) → impl_CutMarks.j2 (k + 1) size u v s out l (l.length : Int) (i : Int) true l[i].f0 l[i].f1 l[i].f2 = some r := fun c => by
   rw [iN_ c] at ho
   rw [cuE, ip_ rfl, ip_ O_, w1 O_]
   exact go _ ho
  by_cases c1 : l[i].f2.toList = s.toList
  ·rw [ip_ c1]
   by_cases c2 : u = v
   ·rw [ip_ c2]; exact keep fun h => h.2.1 c2
   ·rw [iN_ c2]
    by_cases c3 : l[i].f1 ≤ u
    ·rw [ip_ c3]; exact keep fun h => h.2.2.1 c3
    ·rw [iN_ c3]
     by_cases c4 : l[i].f0 ≥ v
     ·rw [decide_eq_true c4]; exact keep fun h => h.2.2.2 c4
     ·rw [ip_ ⟨c1, c2, c3, c4⟩] at ho
      rw [decide_eq_false c4, cuE, iN_ ft, w1 O_]
      by_cases c5 : l[i].f0 < u
      ·rw [ip_ c5, ip_ O_, bs_]
       by_cases c6 : l[i].f1 > v
       ·rw [ip_ c6, ip_ (by rw [lA_, lS_]; omega)]
        rw [ip_ c5, ip_ c6, ← List.append_assoc] at ho
        exact go _ ho
       ·rw [iN_ c6]
        rw [ip_ c5, iN_ c6, List.append_nil] at ho
        exact go _ ho
      ·rw [iN_ c5]
       by_cases c6 : l[i].f1 > v
       ·rw [ip_ c6, ip_ O_]
        rw [iN_ c5, ip_ c6, List.nil_append] at ho
        exact go _ ho
       ·rw [iN_ c6]
        rw [iN_ c5, iN_ c6, List.nil_append, List.append_nil] at ho
        exact go _ ho
  ·rw [iN_ c1]; exact keep fun h => c1 h.1
theorem cut_ev (l : List S34) (size u v : Int) (s : ByteArray) (hl : l.length ≤ 40) (hs : stS l) (hss : s.size ≤ 1000) (g : gmB l size = true) (h1 : 0 ≤ u) (h2 : u ≤ v) (h3 : v ≤ size) (h4 : sty s = true) : ∀ k, 4000 ≤ k →
  impl_CutMarks.f k l size u v s = some (if gmB (cutL u v s l) size = true then (cutL u v s l, true) else ([], false)) := fun k hk => by
 obtain ⟨k, rfl⟩ := k1_ k
 have hcl := cutL_len u v s l
 have := cut_l size u v s l O_ _ 3000 (fun k hk => good_ev (cutL u v s l) size O_ (cutL_st u v s hss l hs) k hk) l.length 0 [] O_ (by rw [List.drop_zero]; rfl) k O_
 unfold impl_CutMarks.f
 rw [gmI l size O_ hs (k + 1) O_, g, bs_, ip_ rfl, iN_ O_, iN_ O_, iN_ O_, styI s hss (k + 1) O_, h4, bs_]
 simp only [impl_CutMarks.j0]
 rw [iN_ (by decide)]
 exact this
theorem cov_l (s : ByteArray) (l : List S34) (hl : l.length ≤ 300) (hb : ∀ x ∈ l, 0 ≤ x.f0 ∧ x.f0 ≤ x.f1 ∧ x.f1 ≤ 1000) : ∀ (d i : Nat) (a : Int), i + d = l.length → 0 ≤ a → a + 1000 * (d : Int) ≤ 10000000 → ∀ k, d < k →
  impl_CoveredBy.l0 k s a l (l.length : Int) (i : Int) = some (a + cov s (l.drop i), true) := by
 intro d
 induction d with
 | zero =>
  intro i a hi h0 h1 k hk
  obtain ⟨k, rfl⟩ := k1_ k
  have e : cov s [] = 0 := rfl
  unfold impl_CoveredBy.l0
  rw [iN_ O_, List.drop_of_length_le O_, e, Int.add_zero]
 | succ d ih =>
  intro i a hi h0 h1 k hk
  obtain ⟨k, rfl⟩ := k1_ k
  have hil : i < l.length := by omega
  have hx := hb l[i] (List.getElem_mem hil)
  have e : cov s (l[i] :: l.drop (i + 1)) = (if l[i].f2.toList = s.toList then l[i].f1 - l[i].f0 else 0) + cov s (l.drop (i + 1)) := rfl
  unfold impl_CoveredBy.l0
  rw [ip_ O_, ip_ O_, ip_ O_, rdM l i hil, w1 O_, List.drop_eq_getElem_cons hil, e]
  by_cases c : l[i].f2.toList = s.toList
  ·rw [ip_ c, ip_ c, w64 (i := l[i].f1 - l[i].f0) O_ O_, w64 O_ O_, ih (i + 1) _ O_ O_ O_ k O_, Int.add_assoc]
  ·rw [iN_ c, iN_ c, ih (i + 1) _ O_ O_ O_ k O_, Int.zero_add]
theorem cov_ev (l : List S34) (size : Int) (s : ByteArray) (hl : l.length ≤ 40) (hs : stS l) (hss : s.size ≤ 1000) (g : gmB l size = true) (h4 : sty s = true) : ∀ k, 4000 ≤ k →
  impl_CoveredBy.f k l size s = some (cov s l, true) := fun k hk => by
 obtain ⟨k, rfl⟩ := k1_ k
 obtain ⟨⟨m1, _⟩, _, _, _⟩ := (gmB_iff l _).1 g
 have := cov_l s l O_ (fun x hx => by have := rng (m1 x hx); omega) l.length 0 0 O_ O_ O_ k O_
 rw [Int.zero_add] at this
 unfold impl_CoveredBy.f
 rw [gmI l size O_ hs (k + 1) O_, g, bs_, ip_ rfl, styI s hss (k + 1) O_, h4, bs_]
 simp only [impl_CoveredBy.j0]
 rw [iN_ (by decide)]
 exact this
def stL (a : Int) : List S34 → List ByteArray
 | [] => []
 | x :: l => if x.f0 ≤ a ∧ a < x.f1 then x.f2 :: stL a l else stL a l
theorem stL_len (a : Int) : ∀ l : List S34, (stL a l).length ≤ l.length
 | [] => Nat.le_refl _
 | x :: l => by
  have := stL_len a l
  unfold stL
  split <;> simp only [List.length_cons] <;> omega
theorem stL_mem (a : Int) (s : ByteArray) : ∀ l : List S34, s ∈ stL a l ↔ ∃ x ∈ l, x.f0 ≤ a ∧ a < x.f1 ∧ x.f2 = s
 | [] => ⟨(fun h => by cases h), (fun ⟨x, h, _⟩ => by cases h)⟩
 | x :: l => by
  have ih := stL_mem a s l
  unfold stL
  split
  ·rename_i c
   constructor
   ·intro h
    rcases List.mem_cons.1 h with h | h
    ·exact ⟨x, List.mem_cons_self, c.1, c.2, h.symm⟩
    ·obtain ⟨y, hy, e⟩ := ih.1 h
     exact ⟨y, List.mem_cons_of_mem _ hy, e⟩
   ·rintro ⟨y, hy, e⟩
    rcases List.mem_cons.1 hy with rfl | hy
    ·exact List.mem_cons.2 (.inl e.2.2.symm)
    ·exact List.mem_cons_of_mem _ (ih.2 ⟨y, hy, e⟩)
  ·rename_i c
   refine ih.trans ⟨fun ⟨y, hy, e⟩ => ⟨y, List.mem_cons_of_mem _ hy, e⟩, ?_⟩
   rintro ⟨y, hy, e⟩
   rcases List.mem_cons.1 hy with rfl | hy
   ·exact absurd ⟨e.1, e.2.1⟩ c
   ·exact ⟨y, hy, e⟩
theorem sty_l (a : Int) (l : List S34) (hl : l.length ≤ 300) : ∀ (d i : Nat) (o : List ByteArray), i + d = l.length → o.length + d ≤ 300 → ∀ k, d < k →
  impl_StylesAt.l0 k a o l (l.length : Int) (i : Int) = some (o ++ stL a (l.drop i), true) := by
 intro d
 induction d with
 | zero =>
  intro i o hi h1 k hk
  obtain ⟨k, rfl⟩ := k1_ k
  have e : stL a [] = [] := rfl
  unfold impl_StylesAt.l0
  rw [iN_ O_, List.drop_of_length_le O_, e, List.append_nil]
 | succ d ih =>
  intro i o hi h1 k hk
  obtain ⟨k, rfl⟩ := k1_ k
  have hil : i < l.length := by omega
  have e : stL a (l[i] :: l.drop (i + 1)) = if l[i].f0 ≤ a ∧ a < l[i].f1 then l[i].f2 :: stL a (l.drop (i + 1)) else stL a (l.drop (i + 1)) := rfl
  unfold impl_StylesAt.l0
  rw [ip_ O_, ip_ O_, ip_ O_, rdM l i hil, w1 O_, List.drop_eq_getElem_cons hil, e]
  by_cases c1 : l[i].f0 ≤ a
  ·rw [ip_ c1]
   by_cases c2 : a < l[i].f1
   ·rw [ip_ c2, ip_ O_, ip_ ⟨c1, c2⟩, ih (i + 1) _ O_ (by rw [lA_, lS_]; omega) k O_, List.append_assoc]; rfl
   ·rw [iN_ c2, iN_ fun h => c2 h.2]
    exact ih (i + 1) _ O_ O_ k O_
  ·rw [iN_ c1, iN_ fun h => c1 h.1]
   exact ih (i + 1) _ O_ O_ k O_
theorem sty_ev (l : List S34) (size a : Int) (hl : l.length ≤ 40) (hs : stS l) (g : gmB l size = true) (h0 : 0 ≤ a) (h1 : a < size) : ∀ k, 4000 ≤ k → impl_StylesAt.f k l size a = some (stL a l, true) := fun k hk => by
 obtain ⟨k, rfl⟩ := k1_ k
 have := sty_l a l O_ l.length 0 [] O_ (by simp only [List.length_nil]; omega) k O_
 rw [List.drop_zero, List.nil_append] at this
 unfold impl_StylesAt.f
 rw [gmI l size O_ hs (k + 1) O_, g, bs_, ip_ rfl, iN_ O_, decide_eq_false O_]
 simp only [impl_StylesAt.j0]
 rw [iN_ ft]
 exact this
theorem same_l (x : List S34) (hl : x.length ≤ 1000) : ∀ (d i : Nat), i + d = x.length → ∀ k, d < k → laws_sameMarks.l0 k x x (x.length : Int) (i : Int) = some true := by
 intro d
 induction d with
 | zero =>
  intro i hi k hk
  obtain ⟨k, rfl⟩ := k1_ k
  unfold laws_sameMarks.l0
  rw [iN_ O_]
 | succ d ih =>
  intro i hi k hk
  obtain ⟨k, rfl⟩ := k1_ k
  unfold laws_sameMarks.l0
  rw [ip_ O_, ip_ O_, ip_ O_, ip_ O_, w1 O_, iN_ (by simp)]
  exact ih (i + 1) O_ k O_
theorem same_ev (x : List S34) (hl : x.length ≤ 1000) : ∀ k, 1001 ≤ k → laws_sameMarks.f k x x = some true := fun k hk => by
 unfold laws_sameMarks.f
 rw [ip_ rfl]
 exact same_l x hl x.length 0 O_ k O_
theorem rdOf_at (l : List ByteArray) (i : Nat) (h : i < l.length) : rdOf ByteArray.empty l (i : Int) = l[i] := by
 unfold rdOf
 rw [tN_, List.getD_eq_getElem?_getD, List.getElem?_eq_getElem h]; rfl
section
variable (size : Int) (y w : List S34) (one : Bool) (m : S34)
theorem law_l2 (a : Int) (st : List ByteArray) (hst : st.length ≤ 300) (hno : ∀ s ∈ st, ¬ s.toList = m.f2.toList) (K : Nat) (hK : ∀ k, K ≤ k → laws_FnMarks.l0 k size y w one (wrap64 (a + 1)) m.f0 m.f1 m.f2 = some true) :
  ∀ (d i : Nat), i + d = st.length → ∀ k, K + d + 1 ≤ k → laws_FnMarks.l2 k size y w one a true st (st.length : Int) (i : Int) m.f0 m.f1 m.f2 = some true := by
 intro d
 induction d with
 | zero =>
  intro i hi k hk
  obtain ⟨k, rfl⟩ := k1_ k
  unfold laws_FnMarks.l2
  rw [iN_ O_, ip_ rfl]
  exact hK k O_
 | succ d ih =>
  intro i hi k hk
  obtain ⟨k, rfl⟩ := k1_ k
  have hil : i < st.length := by omega
  unfold laws_FnMarks.l2
  rw [ip_ O_, ip_ O_, ip_ O_, rdOf_at st i hil, iN_ (hno _ (List.getElem_mem hil)), w1 O_]
  exact ih (i + 1) O_ k O_
theorem law_l1 (a : Int) (st : List ByteArray) (hst : st.length ≤ 300) (K : Nat) (hK : ∀ k, K ≤ k → laws_FnMarks.j6 k size y w one a false m.f0 m.f1 m.f2 = some true) :
  ∀ (d i : Nat) (b : Bool), i + d = st.length → (b = true ∨ ∃ j, ∃ h : j < st.length, i ≤ j ∧ st[j].toList = m.f2.toList) → ∀ k, K + d + 1 ≤ k → laws_FnMarks.l1 k size y w one a true b st (st.length : Int) (i : Int) m.f0 m.f1 m.f2 = some true := by
 intro d
 induction d with
 | zero =>
  intro i b hi hb k hk
  obtain ⟨k, rfl⟩ := k1_ k
  have hb : b = true := by
   rcases hb with hb | ⟨j, hj, h, _⟩
   ·exact hb
   ·omega
  unfold laws_FnMarks.l1
  rw [iN_ O_, ip_ rfl, hb]
  exact hK k O_
 | succ d ih =>
  intro i b hi hb k hk
  obtain ⟨k, rfl⟩ := k1_ k
  have hil : i < st.length := by omega
  unfold laws_FnMarks.l1
  rw [ip_ O_, ip_ O_, ip_ O_, rdOf_at st i hil, w1 O_]
  cases b with
  | true => rw [ip_ rfl]; exact ih (i + 1) true O_ (.inl rfl) k O_
  | false =>
   rw [iN_ ft]
   refine ih (i + 1) _ O_ ?_ k O_
   rcases hb with hb | ⟨j, hj, h, e⟩
   ·cases hb
   ·by_cases c : i = j
    ·subst c; exact .inl (by rw [beq_iff_eq]; exact e)
    ·exact .inr ⟨j, hj, O_, e⟩
theorem law_l0 (hsz : size ≤ 300) (h0 : 0 ≤ m.f0) (h1 : m.f1 ≤ size) (hy : y.length ≤ 40) (hys : stS y) (gy : gmB y size = true) (hw : w.length ≤ 80) (hws : stS w)
  (gw : one = true → gmB w size = true) (hat : ∀ a, m.f0 ≤ a → a < m.f1 → ∃ x ∈ y, x.f2.toList = m.f2.toList ∧ x.f0 ≤ a ∧ a < x.f1)
  (hno : one = true → ∀ z ∈ w, z.f2.toList = m.f2.toList → z.f1 ≤ m.f0 ∨ z.f0 ≥ m.f1) :
  ∀ (d : Nat) (a : Int), m.f0 ≤ a → a + (d : Int) = m.f1 → ∃ K, ∀ k, K ≤ k → laws_FnMarks.l0 k size y w one a m.f0 m.f1 m.f2 = some true := by
 intro d
 induction d with
 | zero =>
  intro a ha hd
  refine ⟨4000, fun k hk => ?_⟩
  obtain ⟨k, rfl⟩ := k1_ k
  unfold laws_FnMarks.l0
  rw [iN_ O_]
  cases one with
  | true =>
   rw [ip_ rfl, gmI w size O_ hws k O_, gw rfl]; rfl
  | false => rw [iN_ ft]
 | succ d ih =>
  intro a ha hd
  obtain ⟨K, hK⟩ := ih (a + 1) O_ O_
  have hwa : wrap64 (a + 1) = a + 1 := w64 O_ O_
  have h6 : ∃ K2, ∀ k, K2 ≤ k → laws_FnMarks.j6 k size y w one a false m.f0 m.f1 m.f2 = some true := by
   cases one with
   | false =>
    refine ⟨K + 1, fun k hk => ?_⟩
    obtain ⟨k, rfl⟩ := k1_ k
    unfold laws_FnMarks.j6
    rw [iN_ ft, iN_ ft, hwa]
    exact hK k O_
   | true =>
    have gw' := gw rfl
    have hw40 := ((gmB_iff w size).1 gw').2.1
    have hl := stL_len a w
    refine ⟨K + 5000 + (stL a w).length, fun k hk => ?_⟩
    obtain ⟨k, rfl⟩ := k1_ k
    unfold laws_FnMarks.j6
    rw [iN_ ft, ip_ rfl, sty_ev w size a hw40 hws gw' O_ O_ k O_, bs_]
    refine law_l2 size y w true m a (stL a w) O_ (fun s hs e => ?_) K (fun k hk => by rw [hwa]; exact hK k hk) (stL a w).length 0 O_ k O_
    obtain ⟨z, hz, z1, z2, z3⟩ := (stL_mem a s w).1 hs
    rcases hno rfl z hz (by rw [z3]; exact e) with h | h <;> omega
  obtain ⟨K2, h6⟩ := h6
  have hl := stL_len a y
  refine ⟨K2 + 5000 + (stL a y).length, fun k hk => ?_⟩
  obtain ⟨k, rfl⟩ := k1_ k
  unfold laws_FnMarks.l0
  rw [ip_ O_, sty_ev y size a hy hys gy O_ O_ k O_, bs_]
  refine law_l1 size y w one m a (stL a y) O_ K2 h6 (stL a y).length 0 false O_ (.inr ?_) k O_
  obtain ⟨x, hx, x1, x2, x3⟩ := hat a O_ O_
  obtain ⟨j, hj, e⟩ := List.mem_iff_getElem.1 ((stL_mem a x.f2 y).2 ⟨x, hx, x2, x3, rfl⟩)
  exact ⟨j, hj, Nat.zero_le _, by rw [e]; exact x1⟩
end
theorem law_j1 {c : List Int} (hc : okCode c) : ∃ K, ∀ k, K ≤ k → laws_FnMarks.j1 k c = some true := by
 obtain ⟨x, size, m, x1, x2, s1, s2, m1, m2, m3, m4, m5, K, hK⟩ := drawAdd_ev hc
 have hI := addI_ev x O_ x2 size m m5
 have hS := addS_ev x O_ x2 size m m5
 have hlen := ins_len x m
 by_cases g : gmB x size = true ∧ mkB m size = true
 ·rw [ip_ g] at hI hS
  obtain ⟨g1, g2⟩ := g
  have gi := ins_good (l := x) O_ g1 g2
  have si := ins_st (l := x) x2 m5
  obtain ⟨r0, r1, r2⟩ := rng g2
  have hst := ((mkB_iff m size).1 g2).1
  have hch := ((gmB_iff x size).1 g1).1.2
  obtain ⟨c1, _, c3, c4⟩ := cov_ins x m (-1) hch r1 fun y hy _ => by have := rng (((gmB_iff x size).1 g1).1.1 y hy); omega
  have hcv := cut_ev (ins x m) size m.f0 m.f1 m.f2 O_ si m5 gi r0 O_ r2 hst
  have hv1 := cov_ev (ins x m) size m.f2 O_ si m5 gi hst
  have hv2 := cov_ev x size m.f2 O_ x2 m5 g1 hst
  have hcl := cutL_len m.f0 m.f1 m.f2 (ins x m)
  have hcs := cutL_st m.f0 m.f1 m.f2 m5 _ si
  have hcn := cov_nn m.f2 x hch
  have hcb : cov m.f2 x ≤ 1000000 := by
   have : ∀ l : List S34, (∀ y ∈ l, mkB y size = true) → cov m.f2 l ≤ 300 * (l.length : Int) := fun l => by
    induction l with
    | nil => intro _; exact Int.le_refl _
    | cons y l ih =>
     intro h
     have h1 := rng (h y List.mem_cons_self)
     have h2 := ih fun z hz => h z (List.mem_cons_of_mem _ hz)
     unfold cov
     rw [List.length_cons]
     split <;> omega
   have := this x ((gmB_iff x size).1 g1).1.1
   omega
  have key : ∀ (w : List S34) (one : Bool), w.length ≤ 80 → stS w → (one = true → gmB w size = true ∧ w = cutL m.f0 m.f1 m.f2 (ins x m)) → ∃ K, ∀ k, K ≤ k → laws_FnMarks.l0 k size (ins x m) w one m.f0 m.f0 m.f1 m.f2 = some true := fun w one h1 h2 h3 => by
   refine law_l0 size (ins x m) w one m O_ r0 r2 O_ si gi h1 h2 (fun h => (h3 h).1) (fun a ha1 ha2 => ?_) (fun h z hz e => ?_) (m.f1 - m.f0).toNat m.f0 (Int.le_refl _) O_
   ·obtain ⟨z, hz, e1, e2, e3⟩ := ins_at x m a ha1 ha2
    exact ⟨z, hz, e1, e2, e3⟩
   ·rw [(h3 h).2] at hz
    exact cutL_out m.f0 m.f1 m.f2 r1 _ z hz e
  obtain ⟨w, one, hwo, hw1, hw2, hw3⟩ : ∃ (w : List S34) (one : Bool), (if gmB (cutL m.f0 m.f1 m.f2 (ins x m)) size = true then (cutL m.f0 m.f1 m.f2 (ins x m), true) else ([], false)) = (w, one) ∧ w.length ≤ 80 ∧ stS w ∧ (one = true → gmB w size = true ∧ w = cutL m.f0 m.f1 m.f2 (ins x m)) := by
   by_cases c : gmB (cutL m.f0 m.f1 m.f2 (ins x m)) size = true
   ·exact ⟨_, true, ip_ c, O_, hcs, fun _ => ⟨c, rfl⟩⟩
   ·exact ⟨[], false, iN_ c, Nat.zero_le _, (fun x hx => by cases hx), fun h => by cases h⟩
  rw [hwo] at hcv
  obtain ⟨K2, hl⟩ := key w one hw1 hw2 hw3
  refine ⟨K + K2 + 6000, fun k hk => ?_⟩
  obtain ⟨k, rfl⟩ : ∃ m, k = m + 1 + 1 + 1 := ⟨k - 3, O_⟩
  have hw4 : wrap64 (m.f1 - m.f0) = m.f1 - m.f0 := w64 O_ O_
  have hw5 : wrap64 (wrap64 (cov m.f2 x + m.f1) - m.f0) = cov m.f2 x + m.f1 - m.f0 := by rw [w64 (i := cov m.f2 x + m.f1) O_ O_, w64 O_ O_]
  simp only [laws_FnMarks.j1]
  rw [hK _ O_, bs_, hI _ O_, bs_, hS _ O_, bs_, iN_ (by simp), same_ev (ins x m) O_ _ O_, bs_]
  simp only [laws_FnMarks.j2]
  rw [iN_ (by decide), ip_ trivial, hcv _ O_, bs_, hv1 _ O_, bs_, hv2 _ O_, bs_, ip_ rfl, ip_ rfl, iN_ (by show ¬ cov m.f2 (ins x m) < cov m.f2 x; omega), hw4, iN_ (by show ¬ cov m.f2 (ins x m) < m.f1 - m.f0; omega), hw5,
   decide_eq_false (show ¬ cov m.f2 (ins x m) > cov m.f2 x + m.f1 - m.f0 by omega)]
  simp only [laws_FnMarks.j3]
  rw [iN_ ft]
  exact hl k O_
 ·rw [iN_ g] at hI hS
  refine ⟨K + 6000, fun k hk => ?_⟩
  obtain ⟨k, rfl⟩ : ∃ m, k = m + 1 + 1 := ⟨k - 2, O_⟩
  simp only [laws_FnMarks.j1]
  rw [hK _ O_, bs_, hI _ O_, bs_, hS _ O_, bs_, iN_ (by simp), same_ev [] (Nat.zero_le _) _ O_, bs_]
  simp only [laws_FnMarks.j2]
  rw [iN_ (by decide), iN_ ft]
  rfl
theorem FnMarks : laws_FnMarks.Pure := by
 intro l0 l1 _ _ h0 _ _ h1
 by_cases cl : (l0.length : Int) + (l1.length : Int) > 1048576
 ·by_cases cw : wrap64 ((l0.length : Int) + (l1.length : Int)) > 1048576
  ·exact ⟨0, by unfold laws_FnMarks.f; rw [ip_ cw]⟩
  ·exfalso
   have : l0.length ≤ 140737488351232 := by omega
   have : l1.length ≤ 140737488351232 := by omega
   rw [w64 O_ O_] at cw
   exact cw cl
 ·obtain ⟨op, z, o1, z1, z2, K, hK⟩ := drawMove_ev (okCode_of h0) O_
  obtain ⟨K1, h1⟩ := law_j1 (okCode_of h1)
  obtain ⟨u, ok, out, u1, u2, u3, K2, h2⟩ := move_both op o1 z O_ z2
  have cw : ¬ wrap64 ((l0.length : Int) + (l1.length : Int)) > 1048576 := by rw [w64 O_ O_]; exact cl
  refine ⟨K + K1 + K2 + 5000 + 1, ?_⟩
  obtain ⟨a1, a2, a3⟩ := h2 (K + K1 + K2 + 5000 + 1) O_
  obtain ⟨_, _, a3⟩ := h2 (K + K1 + K2 + 5000) O_
  unfold laws_FnMarks.f
  rw [iN_ cw, hK _ O_, bs_, a1, bs_, a2, bs_, iN_ (by simp), same_ev u O_ _ O_, bs_]
  simp only [laws_FnMarks.j0]
  rw [iN_ (by decide)]
  cases ok with
  | false => rw [iN_ ft]; exact h1 _ O_
  | true =>
   obtain ⟨t, a3⟩ := a3 rfl
   rw [ip_ rfl, a3, bs_, gmI u _ O_ u2 _ O_]
   show ((some (gmB u out)).bind _) = _
   rw [u3 rfl, bs_, ip_ rfl, iN_ O_]
   exact h1 _ O_
end Go.Proofs.Ytjbllgdehpomiaa.Pure
