-- this session's own text: written by wip/tools/ownprint.py over the kit's print
import Derived.Test.YtmigfgcpdelnfaaAFnUndoneByx0
import Derived.Test.YtmigfgcpdelnfaaAFnUndoneByx6
namespace Go.Proofs.Ytmigfgcpdelnfaa.AFnUndoneBy
open Go.RowKit Go.Proofs.YtmigfgcpdelnfaaW.PrintWords Go.Proofs.YtmigfgcpdelnfaaW.PrintLast Go.Proofs.YtmigfgcpdelnfaaW.PrintMore
attribute [local go_sem] max2_int min2_int max_two min_two max_three min_three max_four min_four   -- for this text's walks alone
set_option linter.unusedVariables false
set_option linter.unusedSimpArgs false

/-! ### impl_matches: function 37, by hand -/
/-- The association list that stands for the map: the last store first. -/
def mD (m : List (Int × Int)) : DataW Unit := m.foldr (fun p D => D.put (.int .i64 p.1) (.lit (.int .i64 p.2))) (.map [])
def lk : List (Int × Int) → Int → Option Int
 | [], _ => none
 | p :: m, a => if p.1 = a then some p.2 else lk m a
theorem mD_isMap (m : List (Int × Int)) : Maps.IsMap (mD m) := by
 induction m with
 | nil => exact Maps.isMap_empty
 | cons p m ih => exact ih.put _ _
theorem wf64 {a : Int} (h0 : 0 ≤ a) (h1 : a ≤ 300) : (Lit.int .i64 a).wf = true := WalkArith.wf_i64 (by omega)
theorem mD_has (m : List (Int × Int)) (a : Int) : Maps.has (mD m) (.int .i64 a) = (lk m a).isSome := by
 induction m with
 | nil => rfl
 | cons p m ih =>
  show Maps.has ((mD m).put _ _) _ = _
  unfold lk
  by_cases h : p.1 = a
  ·rw [if_pos h, h, Maps.has_put_same (mD_isMap m) (by trivial)]; rfl
  ·rw [if_neg h, Maps.has_put_other (fun e => h (by injection e with _ e; exact e.symm)), ih]
theorem mD_at (m : List (Int × Int)) (a z : Int) : (mD m).atKey (.int .i64 a) (.lit (.int .i64 z)) = .lit (.int .i64 ((lk m a).getD z)) := by
 induction m with
 | nil => rfl
 | cons p m ih =>
  show ((mD m).put _ _).atKey _ _ = _
  unfold lk
  by_cases h : p.1 = a
  ·rw [if_pos h, h, Maps.atKey_put_same (mD_isMap m) (by trivial)]; rfl
  ·rw [if_neg h, Maps.atKey_put_other (fun e => h (by injection e with _ e; exact e.symm)), ih]
def nmH (c : Int) : Bool := (impl_isName.f c).getD false
theorem nmH_eq (c : Int) : impl_isName.f c = some (nmH c) := by
 unfold nmH impl_isName.f; split <;> rfl
def mtc (s : ByteArray) : Nat → Nat → List Int → List (Int × Int) → List (Int × Int) × Bool
 | 0, _, st, m => (m, decide (st.length = 0))
 | d + 1, i, st, m =>
  if nmH (bt s i) = true then (if 12 < st.length + 1 then ([], false) else mtc s d (i + 1) (st ++ [(i : Int)]) m)
  else if bt s i = 47 then (if st.length = 0 then ([], false) else mtc s d (i + 1) (st.take (st.length - 1)) ((rd st ((st.length : Int) - 1), (i : Int)) :: ((i : Int), rd st ((st.length : Int) - 1)) :: m))
  else mtc s d (i + 1) st m
def impl_matches.f (k : Nat) (a0 : ByteArray) : Option (List (Int × Int) × Bool) :=
 (impl_GoodText.f k a0).bind fun g => if g = true then (if a0.size ≤ 300 then some (mtc a0 a0.size 0 [] []) else none) else some ([], false)
theorem impl_matches.mono : ∀ a0 k, LeO (impl_matches.f k a0) (impl_matches.f (k + 1) a0) := by
 intro a0 k
 unfold impl_matches.f
 repeat' first
   | (with_reducible exact impl_GoodText.mono _ _)
   | (with_reducible exact LeO.refl _)
   | (with_reducible exact LeO.none _)
   | (with_reducible refine LeO.ite ?_ ?_)
   | (with_reducible refine LeO.bind ?_ (fun _ => ?_))
/-- What 'matches' hands back. -/
def IsMt (w : World) (v : Value) (m : List (Int × Int)) (ok : Bool) : Prop :=
 (∃ b, v = .map b) ∧ (ok = true → ∃ B, v = .map (some B) ∧ w.ownsMap Try.prog 3 (plainElem (H := Unit) Try.prog 3) B m.length (mD m))
theorem own_drewN {w : World} {R : Value → Option (DataW Unit × List MemPlace)} {b n : Nat} {D : DataW Unit} (h : w.ownsMap Try.prog 3 R b n D) (m : Nat) : (w.drewN m).ownsMap Try.prog 3 R b n D := h
def MtAt (w : World) (a0 : ByteArray) (r : List (Int × Int) × Bool) (d : Nat) (v5 v14 : Value) (w' : World) : Prop :=
 ∃ (i : Nat) (x : Int) (st : List Int) (m : List (Int × Int)), v14 = .int .i64 x ∧ x = (i : Int) ∧ i + d = a0.size ∧ Kd.R (Kd.int .i64) 3 w' (w.heap.size + 1) (fun _ => True) v5 st ∧
  w'.ownsMap Try.prog 3 (plainElem (H := Unit) Try.prog 3) w.heap.size m.length (mD m) ∧ m.length ≤ 2 * i ∧ (∀ x ∈ st, 0 ≤ x ∧ x ≤ 300) ∧ st.length ≤ 12 ∧ mtc a0 d i st m = r ∧ Below w.heap.size w w' ∧ w.heap.size < w'.heap.size
theorem rd_mem_bd {st : List Int} (h : ∀ x ∈ st, 0 ≤ x ∧ x ≤ 300) (i : Int) : 0 ≤ rd st i ∧ rd st i ≤ 300 := by
 unfold rd
 rw [List.getD_eq_getElem?_getD]
 cases e : st[i.toNat]? with
 | none => simp
 | some y => exact h y (List.mem_of_getElem? e)
theorem belowR {w wr w1 : World} {v : Value} {st : List Int} (hb : Below w.heap.size w wr) (hw : w.heap.size < wr.heap.size) (hr : Kd.R (Kd.int .i64) 3 wr (w.heap.size + 1) (fun _ => True) v st) (hg : wr.grownBy w1 v.ownBlock) : Below w.heap.size w w1 :=
 hb.grown hg (Nat.le_of_lt hw) (fun k hk => by have := Kd.R_base hr k hk; omega)
theorem mapNe {w wr : World} {v : Value} {st : List Int} (hr : Kd.R (Kd.int .i64) 3 wr (w.heap.size + 1) (fun _ => True) v st) : some w.heap.size ≠ v.ownBlock := fun e => by have := Kd.R_base hr _ e.symm; omega
theorem ends_nil {a0 : ByteArray} {i : Nat} {st : List Int} {m : List (Int × Int)} {r : List (Int × Int) × Bool} (h : mtc a0 0 i st m = r) : r = (m, decide (st.length = 0)) := h.symm
theorem mt_law : Go.Maps.Keyed Try.prog 3 := Go.Maps.int_keyed Try.underlying3
theorem mt_zero (w : World) : (zeroValue 3).run Try.prog w = .ok (.int .i64 0) w := by kernel_rfl
set_option maxHeartbeats 2000000 in
set_option maxRecDepth 100000 in
theorem impl_matches.calls (k : Nat) (a0 : ByteArray) (m : List (Int × Int)) (ok : Bool) (w : World) (h : impl_matches.f k a0 = some (m, ok)) :
  Calls Try.prog 37 #[.string a0] w fun e w' => ∃ v : Value, e = .returned (.tuple #[v, .bool ok]) ∧ IsMt w' v m ok ∧ Below w.heap.size w w' := by
 have hmm := @run_makeMap Try.prog
 have HB := aM (Below.refl w.heap.size w)
 have H : ((impl_GoodText.f k a0).bind fun g => if g = true then (if a0.size ≤ 300 then some (mtc a0 a0.size 0 [] []) else none) else some ([], false)) = some (m, ok) := h
 clear h
 replace H := oB H
 obtain ⟨g, A1, H⟩ := H
 cases g with
 | false =>
  rw [if_neg (by simp)] at H
  obtain ⟨rfl, rfl⟩ := Prod.mk.inj (sI H)
  clear H
  have A2 := aM A1
  clear A1
  go_enter Try.func37, Try.ntmps37
  go_wp2_with (first | (go_at_call 45; refine (impl_GoodText.calls k a0 false _ A2.out).mono ?_; rintro e w' ⟨rfl, ⟨nd, rfl⟩⟩))
  go_ret2
  exact ⟨_, rfl, ⟨⟨none, rfl⟩, fun h => by cases h⟩, pD HB.out _⟩
 | true =>
  rw [if_pos rfl] at H
  by_cases hsz : a0.size ≤ 300
  ·rw [if_pos hsz] at H
   have HS := aM hsz
   have A2 := aM A1
   clear A1
   have H2 : Aside0 (mtc a0 a0.size 0 [] [] = (m, ok)) := ⟨sI H⟩
   clear H
   go_enter Try.func37, Try.ntmps37
   go_wp2_with (first | (go_at_call 45; refine (impl_GoodText.calls k a0 true _ A2.out).mono ?_; rintro e w' ⟨rfl, ⟨nd, rfl⟩⟩))
   go_loopg [5, 14] a0.size (fun d v5 v14 w' => MtAt w a0 (m, ok) d v5 v14 w')
   case atStart => exact ⟨0, 0, [], [], rfl, rfl, by omega, Kd.R_nil _ _ _ _ _, World.ownsMap_made _ _ _ _, Nat.zero_le _, fun _ h => (by cases h), by simp, H2.out, bA (pD HB.out _) _, by simp⟩
   case round =>
    clear HB H2
    obtain ⟨i, x, st, mm, rfl, hxi, hid, hr, hown, hml, hst, hsl, hm, hb, hws⟩ := hrel
    have HR := aM hr
    have HO := aM hown
    have HL := aM hml
    have HT := aM hst
    have HE := aM hsl
    have HB := aM hb
    have HW := aM hws
    have HX := aM hxi
    cases gk with
    | zero =>
     have hil : i = a0.size := by omega
     have hxn : decide (x < (a0.size : Int)) = false := dF (by omega)
     unfold mtc at hm
     obtain ⟨rfl, hok⟩ := Prod.mk.inj hm
     obtain ⟨A5, c5, rfl⟩ := Kd.R_slice hr
     have hok' : (((st.length : Nat) : Int) == 0) = ok := by rw [← hok, Bool.eq_iff_iff]; simp
     clear hr hown hml hst hsl hb hws hm hid hok hxi hil
     go_wp2
     go_ret2
     exact ⟨_, rfl, ⟨⟨_, rfl⟩, fun _ => ⟨_, rfl, HO.out⟩⟩, HB.out⟩
    | succ k1 =>
     have hil : i < a0.size := by omega
     have HI : Aside0 (i + 1 + k1 = a0.size) := ⟨by omega⟩
     have P5 : Aside0 ((0 ≤ x) = True) := ⟨eq_true (by omega)⟩
     have Q5 : Aside0 ((x < (a0.size : Int)) = True) := ⟨eq_true (by omega)⟩
     have p5 := P5.out
     have q5 := Q5.out
     have hx0 : 0 ≤ x := by omega
     have hx3 : x ≤ 300 := by have := HS.out; omega
     have c2b0 : decide (x < (a0.size : Int)) = true := dT (by omega)
     have hx5 := bt_at a0 x
     have HXN : Aside0 (x + 1 = ((i + 1 : Nat) : Int)) := ⟨by omega⟩
     unfold mtc at hm
     rw [← hxi] at hm
     by_cases c3 : nmH (bt a0 x) = true
     ·rw [if_pos c3] at hm
      have A7 : Aside0 (impl_isName.f (bt a0 x) = some true) := ⟨by rw [nmH_eq, c3]⟩
      clear c3
      by_cases c4 : 12 < st.length + 1
      ·rw [if_pos c4] at hm
       obtain ⟨rfl, rfl⟩ := Prod.mk.inj hm
       have c4b : decide (12 < ((st.length : Int) + 1)) = true := dT (by omega)
       have c4c : decide (12 < st.length + 1) = true := dT c4
       clear hm hr hown hml hst hsl hb hws hid hxi hil c4
       go_wp2_with (first | ((with_reducible refine av (f := 50) rfl ?_); refine ay (some 21) rfl rfl Try.func50 z0 rfl #[.int .u8 (bt a0 x)] rfl z14 ?_; (with_reducible refine (impl_isName.calls (bt a0 x) true _ A7.out).mono ?_); rintro e w' ⟨rfl, ⟨nd2, rfl⟩⟩; refine ⟨_, rfl, ?_⟩) | ((with_reducible refine gate_builtin (b := .append) (xs := #[.tmp 22, .tmp 24]) rfl ?_); at_builtin; refine Kd.R_append (Kd.int .i64) (w0 := wr.drewN nd2) (w.heap.size + 1) rfl (.tmp 22) (.tmp 24) 74 3 (.int .i64 0) 8 rfl Try.underlying74 info3 rfl (by decide) (by omega) u5 st x [.int .i64 x] (fun _ => True) (fun _ => False) rfl rfl ?aP (fun _ hk => hk.elim) (fun _ _ => trivial) ?aO ?aB ?aS ?aL ?_; (case aP => exact rfl); (case aB => exact Below.refl _ _); (case aO => exact ab HR.out _); (case aS => exact HW.out); (case aL => have := HE.out; omega); intro v25 w10 ho hb1 hg hat; have ua := aM ho; have HG1 : Aside0 (wr.grownBy w10 u5.ownBlock) := aM ⟨hg.os, hg.tape, hg.output, hg.size, hg.block⟩; clear hg hb1; obtain ⟨nK, e7, eo25⟩ := Kd.R_slice ho; rw [List.length_append, List.length_singleton] at eo25; subst eo25; clear ho hat))
       go_ret2
       exact ⟨_, rfl, ⟨⟨none, rfl⟩, fun h => by cases h⟩, belowR HB.out HW.out HR.out HG1.out⟩
      ·rw [if_neg c4] at hm
       have c4c : decide (12 < st.length + 1) = false := dF c4
       have c4b : decide (12 < ((st.length : Int) + 1)) = false := dF (by omega)
       have HM := aM hm
       have HE2 : Aside0 (st.length + 1 ≤ 12) := ⟨by omega⟩
       clear hm hr hown hml hst hsl hb hws hid hxi hil c4
       go_wp2_with (first | ((with_reducible refine av (f := 50) rfl ?_); refine ay (some 21) rfl rfl Try.func50 z0 rfl #[.int .u8 (bt a0 x)] rfl z14 ?_; (with_reducible refine (impl_isName.calls (bt a0 x) true _ A7.out).mono ?_); rintro e w' ⟨rfl, ⟨nd2, rfl⟩⟩; refine ⟨_, rfl, ?_⟩) | ((with_reducible refine gate_builtin (b := .append) (xs := #[.tmp 22, .tmp 24]) rfl ?_); at_builtin; refine Kd.R_append (Kd.int .i64) (w0 := wr.drewN nd2) (w.heap.size + 1) rfl (.tmp 22) (.tmp 24) 74 3 (.int .i64 0) 8 rfl Try.underlying74 info3 rfl (by decide) (by omega) u5 st x [.int .i64 x] (fun _ => True) (fun _ => False) rfl rfl ?aP (fun _ hk => hk.elim) (fun _ _ => trivial) ?aO ?aB ?aS ?aL ?_; (case aP => exact rfl); (case aB => exact Below.refl _ _); (case aO => exact ab HR.out _); (case aS => exact HW.out); (case aL => have := HE.out; omega); intro v25 w10 ho hb1 hg hat; have ua := aM ho; have HG1 : Aside0 (wr.grownBy w10 u5.ownBlock) := aM ⟨hg.os, hg.tape, hg.output, hg.size, hg.block⟩; clear hg hb1; obtain ⟨nK, e7, eo25⟩ := Kd.R_slice ho; rw [List.length_append, List.length_singleton] at eo25; subst eo25; clear ho hat))
       go_roundg k1
       case measure => omega
       case rel => exact ⟨i + 1, x + 1, _, mm, rfl, HXN.out, HI.out, ua.out, HO.out.kept HG1.out (mapNe HR.out), by have := HL.out; omega, (by intro y hy; rcases List.mem_append.1 hy with hy | hy; exact HT.out y hy; obtain rfl := List.mem_singleton.1 hy; exact ⟨hx0, hx3⟩), by rw [List.length_append, List.length_singleton]; exact HE2.out, HM.out, belowR HB.out HW.out HR.out HG1.out, Nat.lt_of_lt_of_le HW.out HG1.out.size⟩
     ·rw [if_neg c3] at hm
      have A7 : Aside0 (impl_isName.f (bt a0 x) = some false) := ⟨by rw [nmH_eq, Bool.eq_false_iff.mpr c3]⟩
      clear c3
      by_cases c4 : bt a0 x = 47
      ·rw [if_pos c4] at hm
       have c12b0 : (bt a0 x == 47) = true := qT c4
       clear c4
       by_cases c5 : st.length = 0
       ·rw [if_pos c5] at hm
        obtain ⟨rfl, rfl⟩ := Prod.mk.inj hm
        obtain ⟨A5, cc5, rfl⟩ := Kd.R_slice hr
        have c5b : ((st.length : Int) == 0) = true := by simp [c5]
        clear hm hr hown hml hst hsl hb hws hid hxi hil c5
        go_wp2_with (first | ((with_reducible refine av (f := 50) rfl ?_); refine ay (some 21) rfl rfl Try.func50 z0 rfl #[.int .u8 (bt a0 x)] rfl z14 ?_; (with_reducible refine (impl_isName.calls (bt a0 x) false _ A7.out).mono ?_); rintro e w' ⟨rfl, ⟨nd2, rfl⟩⟩; refine ⟨_, rfl, ?_⟩; have p32 : (0 ≤ x) = True := P5.out; have q32 : (x < (a0.size : Int)) = True := Q5.out; have hx32 := bt_at a0 x))
        go_ret2
        exact ⟨_, rfl, ⟨⟨none, rfl⟩, fun h => by cases h⟩, pD HB.out _⟩
       ·rw [if_neg c5] at hm
        obtain ⟨g, cc5, rfl, hg1, hg2, cells, hg3⟩ := Kd.R_form hr (by omega)
        have c5b : ((st.length : Int) == 0) = false := by simp [c5]
        obtain ⟨j, hj⟩ : ∃ j : Int, j = (st.length : Int) - 1 := ⟨_, rfl⟩
        have hjw : IntKind.i64.wrap ((st.length : Int) - 1) = j := by rw [hj]; exact IntWalk.i64_in _ (by omega)
        rw [← hj] at hm
        obtain ⟨y, hy⟩ : ∃ y : Int, y = rd st j := ⟨_, rfl⟩
        rw [← hy] at hm
        have hyb := rd_mem_bd hst j
        rw [← hy] at hyb
        have HJ := aM hj
        have HM := aM hm
        have hcell := Kd.R_cell (0 : Int) hr j (by omega) (by omega)
        have e1 : wr.cell? ⟨g, j.toNat, none⟩ = some (.int .i64 y) := by rw [hcell.1, hy]; rfl
        have e2 := hcell.2
        have j0 : (0 ≤ j) = True := eq_true (by omega)
        have j1 : (j < (st.length : Int)) = True := eq_true (by omega)
        have j2 : (j ≤ (st.length : Int)) = True := eq_true (by omega)
        have j3 : decide (0 ≤ j) = true := dT (by omega)
        have j4 : decide (j < (st.length : Int)) = true := dT (by omega)
        have j5 : decide (j ≤ (st.length : Int)) = true := dT (by omega)
        obtain ⟨i0, hi0, _, hsz0, _⟩ := info_parts info3
        have hcut := cut_to (P := Try.prog) 74 3 .i64 Try.underlying74 hi0 (some ⟨g, 0, none⟩) st.length cc5 j (by omega) (by omega) (ah hr).2.1
        have hrt := Kd.R_take (m := j.toNat) hr (by omega)
        have hjn : j.toNat = st.length - 1 := by omega
        have HT1 : Aside0 (Kd.R (Kd.int .i64) 3 wr (w.heap.size + 1) (fun _ => True) (.slice (some ⟨g, 0, none⟩) j.toNat cc5) (st.take (st.length - 1))) := ⟨by rw [← hjn]; exact hrt⟩
        have hkx : keyOf Try.prog 3 (.int .i64 x) = some (.int .i64 x) := Go.Maps.keyOf_int_mk Try.underlying3 (wf64 hx0 hx3)
        have hky : keyOf Try.prog 3 (.int .i64 y) = some (.int .i64 y) := Go.Maps.keyOf_int_mk Try.underlying3 (wf64 hyb.1 hyb.2)
        have hpx := plainElem_int (H := Unit) Try.underlying3 (wf64 hx0 hx3)
        have hpy := plainElem_int (H := Unit) Try.underlying3 (wf64 hyb.1 hyb.2)
        have HPX := aM hpx
        have HPY := aM hpy
        have HKX := aM hkx
        have HKY := aM hky
        have HSB : Aside0 (∀ z ∈ st.take (st.length - 1), 0 ≤ z ∧ z ≤ 300) := ⟨fun z hz => hst z (List.mem_of_mem_take hz)⟩
        have HSL : Aside0 ((st.take (st.length - 1)).length ≤ 12) := ⟨by rw [List.length_take]; omega⟩
        have HML : Aside0 (mm.length + 1 < maxLen) := ⟨by unfold maxLen; omega⟩
        clear hm hr hown hml hst hsl hb hws hid hxi hil c5 hj hy hcell hi0 hsz0 hrt hjn hkx hky hpx hpy hg1 hg2 hg3
        go_wp2_with (first | ((with_reducible refine av (f := 50) rfl ?_); refine ay (some 21) rfl rfl Try.func50 z0 rfl #[.int .u8 (bt a0 x)] rfl z14 ?_; (with_reducible refine (impl_isName.calls (bt a0 x) false _ A7.out).mono ?_); rintro e w' ⟨rfl, ⟨nd2, rfl⟩⟩; refine ⟨_, rfl, ?_⟩; have p32 : (0 ≤ x) = True := P5.out; have q32 : (x < (a0.size : Int)) = True := Q5.out; have hx32 := bt_at a0 x) | (at_mapUpdate; refine wpList_mapUpdate_own _ rfl (.tmp 48) (.tmp 49) (.tmp 52) 55 rfl 3 3 mt_law Try.underlying55 _ w.heap.size _ _ rfl (own_drewN HO.out _) (by have := HML.out; omega) (.int .i64 x) (.int .i64 y) (.int .i64 x) rfl rfl HKX.out _ [] HPY.out ?_; intro w1 hown1 hgrow1; have HO1 := aM hown1; have HG1 := aM hgrow1; clear hown1 hgrow1) | (at_mapUpdate; refine wpList_mapUpdate_own _ rfl (.tmp 50) (.tmp 51) (.tmp 53) 55 rfl 3 3 mt_law Try.underlying55 _ w.heap.size _ _ rfl HO1.out HML.out (.int .i64 y) (.int .i64 x) (.int .i64 y) rfl rfl HKY.out _ [] HPX.out ?_; intro w2 hown2 hgrow2; have ub := aM hown2; have HG2 := aM hgrow2; clear hown2 hgrow2))
        have hb2 : Below w.heap.size w w2 := ((pD HB.out nd2).grown HG1.out (Nat.le_of_lt HW.out) (fun k hk => by injection hk with hk; omega)).grown HG2.out (Nat.le_trans (Nat.le_of_lt HW.out) HG1.out.size) (fun k hk => by injection hk with hk; omega)
        have hr2 : Kd.R (Kd.int .i64) 3 w2 (w.heap.size + 1) (fun _ => True) (.slice (some ⟨g, 0, none⟩) j.toNat cc5) (st.take (st.length - 1)) := Kd.R_grown1 (Kd.R_grown1 (ab HT1.out nd2) rfl HG1.out (mapNe HT1.out)) rfl HG2.out (mapNe HT1.out)
        have hw2 : w.heap.size < w2.heap.size := Nat.lt_of_lt_of_le HW.out (Nat.le_trans HG1.out.size HG2.out.size)
        have HB2 := aM hb2
        have uh := aM hr2
        have HW2 := aM hw2
        clear hb2 hr2 hw2
        go_roundg k1
        case measure => omega
        case rel => exact ⟨i + 1, x + 1, st.take (st.length - 1), (y, x) :: (x, y) :: mm, rfl, HXN.out, HI.out, uh.out, ub.out, by have := HL.out; simp only [List.length_cons]; omega, HSB.out, HSL.out, HM.out, HB2.out, HW2.out⟩
      ·rw [if_neg c4] at hm
       have c12b0 : (bt a0 x == 47) = false := qF c4
       have HM := aM hm
       clear hm hr hown hml hst hsl hb hws hid hxi hil c4
       go_wp2_with (first | ((with_reducible refine av (f := 50) rfl ?_); refine ay (some 21) rfl rfl Try.func50 z0 rfl #[.int .u8 (bt a0 x)] rfl z14 ?_; (with_reducible refine (impl_isName.calls (bt a0 x) false _ A7.out).mono ?_); rintro e w' ⟨rfl, ⟨nd2, rfl⟩⟩; refine ⟨_, rfl, ?_⟩; have p32 : (0 ≤ x) = True := P5.out; have q32 : (x < (a0.size : Int)) = True := Q5.out; have hx32 := bt_at a0 x))
       go_roundg k1
       case measure => omega
       case rel => exact ⟨i + 1, x + 1, st, mm, rfl, HXN.out, HI.out, ab HR.out _, own_drewN HO.out _, by have := HL.out; omega, HT.out, HE.out, HM.out, pD HB.out _, HW.out⟩
  ·rw [if_neg hsz] at H
   cases H


/-! ### impl_GoodDoc: function 18, by hand -/
/-! ### impl_GoodDoc: by hand -/
def impl_GoodDoc.f (k : Nat) (a0 : ByteArray) : Option Bool := (impl_matches.f k a0).bind fun p => some p.2
theorem impl_GoodDoc.mono : ∀ a0 k, LeO (impl_GoodDoc.f k a0) (impl_GoodDoc.f (k + 1) a0) := by
 intro a0 k
 unfold impl_GoodDoc.f
 repeat' first
   | (with_reducible exact impl_matches.mono _ _)
   | (with_reducible exact LeO.refl _)
   | (with_reducible exact LeO.none _)
   | (with_reducible refine LeO.ite ?_ ?_)
   | (with_reducible refine LeO.bind ?_ (fun _ => ?_))
theorem impl_GoodDoc.calls (k : Nat) (a0 : ByteArray) (r : Bool) (w : World) (h : impl_GoodDoc.f k a0 = some r) :
  Calls Try.prog 18 #[.string a0] w fun e w' => e = .returned (.bool r) ∧ Below w.heap.size w w' := by
 have H : ((impl_matches.f k a0).bind fun p => some p.2) = some r := h
 clear h
 replace H := oB H
 obtain ⟨⟨m, ok⟩, A1, H⟩ := H
 obtain rfl := sI H
 have A2 := aM A1
 clear A1 H
 go_enter Try.func18, Try.ntmps18
 go_wp2_with (first | (go_at_call 37; refine (impl_matches.calls k a0 m ok _ A2.out).mono ?_; rintro e w' ⟨v, rfl, hv, hb⟩; have HB := aM hb; clear hv hb))
 go_ret
 exact ⟨rfl, HB.out⟩


/-! ### impl_maker_end: function 84, by hand -/

/-! ### impl_maker_keep: function 83, by hand -/

/-! ### impl_maker_take: function 67, by hand -/

/-! ### impl_maker_made: function 68, by hand -/
def Mk (w0 w : World) (g : Nat) (v : Value) (out : List S61) (put drop : ByteArray) : Prop :=
 w.heap[g]? = some (.cells #[v, .string put, .string drop] 85 (0, 0)) ∧ Kd.R k61 61 w w0.heap.size (fun _ => True) v out ∧ Below w0.heap.size w0 w ∧ w0.heap.size ≤ g
def MkTo (w w' : World) (g : Nat) (v v' : Value) : Prop := Kept w w' (fun k => k = g ∨ some k = v.ownBlock) ∧ (v'.ownBlock = v.ownBlock ∨ ∃ b, v'.ownBlock = some b ∧ w.heap.size ≤ b)
theorem MkTo.refl (w : World) (g : Nat) (v : Value) : MkTo w w g v v := ⟨Kept.refl _ _, .inl rfl⟩
theorem MkTo.trans {w w1 w2 : World} {g : Nat} {v v1 v2 : Value} (h : MkTo w w1 g v v1) (k : MkTo w1 w2 g v1 v2) : MkTo w w2 g v v2 := by
 obtain ⟨h1, h2⟩ := h
 obtain ⟨k1, k2⟩ := k
 refine ⟨h1.then_ k1 (fun b hb => ?_), ?_⟩
 ·rcases hb with rfl | hb
  ·exact .inl (.inl rfl)
  ·rcases h2 with h2 | ⟨b', h2, hle⟩
   ·rw [h2] at hb; exact .inl (.inr hb)
   ·rw [h2] at hb; injection hb with hb; exact .inr (by omega)
 ·rcases k2 with k2 | ⟨b', k2, hle⟩
  ·rw [k2]; exact h2
  ·exact .inr ⟨b', k2, Nat.le_trans h1.1 hle⟩
theorem Mk.alloc {w0 w : World} {g : Nat} {v : Value} {out : List S61} {put drop : ByteArray} (h : Mk w0 w g v out put drop) (o : Obj) : Mk w0 (w.alloc o) g v out put drop :=
 ⟨ak h.1 o, ac h.2.1 o, h.2.2.1.alloc h.2.2.1.size o, h.2.2.2⟩
theorem Mk.drew {w0 w : World} {g : Nat} {v : Value} {out : List S61} {put drop : ByteArray} (h : Mk w0 w g v out put drop) : Mk w0 w.drew g v out put drop :=
 ⟨ai h.1, aa h.2.1, below_drew h.2.2.1, h.2.2.2⟩
theorem Mk.drewN {w0 w : World} {g : Nat} {v : Value} {out : List S61} {put drop : ByteArray} (h : Mk w0 w g v out put drop) (n : Nat) : Mk w0 (w.drewN n) g v out put drop :=
 ⟨aj h.1 n, ab h.2.1 n, pD h.2.2.1 n, h.2.2.2⟩
theorem Mk.below {w0 w w' : World} {g : Nat} {v : Value} {out : List S61} {put drop : ByteArray} (h : Mk w0 w g v out put drop) (hb : Below w.heap.size w w') : Mk w0 w' g v out put drop :=
 ⟨ae h.1 hb, af h.2.1 hb, below_then h.2.2.1 h.2.2.1.size hb, h.2.2.2⟩
theorem MkTo.alloc {w w' : World} {g : Nat} {v v' : Value} (h : MkTo w w' g v v') (o : Obj) : MkTo w (w'.alloc o) g v v' := ⟨h.1.alloc o, h.2⟩
theorem MkTo.drew {w w' : World} {g : Nat} {v v' : Value} (h : MkTo w w' g v v') : MkTo w w'.drew g v v' := ⟨h.1.drew, h.2⟩
theorem MkTo.drewN {w w' : World} {g : Nat} {v v' : Value} (h : MkTo w w' g v v') (n : Nat) : MkTo w (w'.drewN n) g v v' := ⟨h.1.drewN n, h.2⟩
theorem MkTo.below {w w' w2 : World} {g : Nat} {v v' : Value} (h : MkTo w w' g v v') (hb : Below w'.heap.size w' w2) : MkTo w w2 g v v' := ⟨h.1.below hb, h.2⟩
theorem Mk.far {w0 w : World} {g : Nat} {v : Value} {out : List S61} {put drop : ByteArray} (h : Mk w0 w g v out put drop) : ∀ k, v.ownBlock = some k → k ≠ g := fun k hk e => Kd.R_ne h.2.1 h.1 (by decide) (by rw [hk, e])
theorem Mk.set1 {w0 w : World} {g : Nat} {v : Value} {out : List S61} {put drop : ByteArray} (h : Mk w0 w g v out put drop) (s : ByteArray) : Mk w0 (w.setCell ⟨g, 1, none⟩ (.string s)) g v out s drop :=
 ⟨by simpa using blk_set h.1 1 (.string s), Kd.R_set h.2.1 h.1 (by decide) 1 _, ao h.2.2.1 h.2.2.2, h.2.2.2⟩
theorem Mk.set2 {w0 w : World} {g : Nat} {v : Value} {out : List S61} {put drop : ByteArray} (h : Mk w0 w g v out put drop) (s : ByteArray) : Mk w0 (w.setCell ⟨g, 2, none⟩ (.string s)) g v out put s :=
 ⟨by simpa using blk_set h.1 2 (.string s), Kd.R_set h.2.1 h.1 (by decide) 2 _, ao h.2.2.1 h.2.2.2, h.2.2.2⟩
theorem MkTo.set {w w' : World} {g : Nat} {v v' : Value} (h : MkTo w w' g v v') (j : Nat) (u : Value) : MkTo w (w'.setCell ⟨g, j, none⟩ u) g v v' := ⟨h.1.setCell (.inl (.inl rfl)) u, h.2⟩
/-- an append, and its store into the field -/
theorem Mk.app {w0 w w1 : World} {g : Nat} {v v1 : Value} {out out1 : List S61} {put drop : ByteArray} (h : Mk w0 w g v out put drop) (hr : Kd.R k61 61 w1 w0.heap.size (fun _ => True) v1 out1) (hb : Below w0.heap.size w0 w1) (hg : w.grownBy w1 v.ownBlock) : Mk w0 (w1.setCell ⟨g, 0, none⟩ v1) g v1 out1 put drop := by
 have hk := blk_grown h.1 hg (Kd.R_ne h.2.1 h.1 (by decide))
 exact ⟨by simpa using blk_set hk 0 v1, Kd.R_set hr hk (by decide) 0 _, ao hb h.2.2.2, h.2.2.2⟩
theorem MkTo.app {w w1 : World} {g : Nat} {v v1 : Value} (hg : w.grownBy w1 v.ownBlock) (hat : v1.ownBlock = v.ownBlock ∨ ∃ b, v1.ownBlock = some b ∧ w.heap.size ≤ b) (u : Value) : MkTo w (w1.setCell ⟨g, 0, none⟩ u) g v v1 :=
 ⟨(Kept.of_grown hg (Kept.refl w _) (fun k hk => .inl (.inr hk.symm))).setCell (.inl (.inl rfl)) u, hat⟩
theorem Mk.cells {w0 w : World} {g : Nat} {v : Value} {out : List S61} {put drop : ByteArray} (h : Mk w0 w g v out put drop) :
  w.cell? ⟨g, 0, none⟩ = some v ∧ w.cell? ⟨g, 1, none⟩ = some (.string put) ∧ w.cell? ⟨g, 2, none⟩ = some (.string drop) ∧ w.frozen? ⟨g, 0, none⟩ = false ∧ w.frozen? ⟨g, 1, none⟩ = false ∧ w.frozen? ⟨g, 2, none⟩ = false :=
 ⟨bC h.1 0, bC h.1 1, bC h.1 2, bF h.1 0, bF h.1 1, bF h.1 2⟩
def ends (put drop : ByteArray) : List S61 := (if put.toList = [] then [] else [⟨0, put, ⟨#[]⟩⟩]) ++ (if drop.toList = [] then [] else [⟨0, ⟨#[]⟩, drop⟩])
def Mid1 (w0 w : World) (g : Nat) (v : Value) (out : List S61) (put drop : ByteArray) (wx : World) : Prop := ∃ v', Mk w0 wx g v' out put drop ∧ MkTo w wx g v v'
set_option maxHeartbeats 1000000 in
theorem mk_end (w0 w : World) (g : Nat) (v : Value) (out : List S61) (put drop : ByteArray) (h : Mk w0 w g v out put drop) (hl : out.length + 2 ≤ 3518437208883) :
  Calls Try.prog 84 #[.pointer (some ⟨g, 0, none⟩)] w fun e w' => e = .returned (.tuple #[]) ∧ Mid1 w0 w g v (out ++ ends put drop) ⟨#[]⟩ ⟨#[]⟩ w' := by
 have HL := aM hl
 have HM := aM h
 obtain ⟨c0, c1, c2, f0, f1, f2⟩ := h.cells
 obtain ⟨A, c, rfl, -, -⟩ := Kd.R_reads h.2.1
 have a0 : ∀ o, (w.alloc o).cell? ⟨g, 0, none⟩ = some (.slice A out.length c) := fun o => bC (ak h.1 o) 0
 clear h hl
 go_enter Try.func84, Try.ntmps84
 go_upto_if 6 with fail
 go_cut [] (fun wx => Mid1 w0 w g (.slice A out.length c) (out ++ (if put.toList = [] then [] else [⟨0, put, ⟨#[]⟩⟩])) put drop wx)
 case first =>
  by_cases hp : put.toList = []
  ·have e : (!put.toList.isEmpty) = false := by simp [hp]
   have e2 : put.toList.isEmpty = true := by simp [hp]
   have HM' : Aside0 (Mid1 w0 w g (.slice A out.length c) (out ++ (if put.toList = [] then [] else [⟨0, put, ⟨#[]⟩⟩])) put drop w) := ⟨by rw [if_pos hp, List.append_nil]; exact ⟨_, HM.out, MkTo.refl _ _ _⟩⟩
   clear hp
   rw [e]
   go_wp2_with fail
   go_meet
   exact HM'.out
  ·have e : (!put.toList.isEmpty) = true := by simp [hp]
   have e2 : put.toList.isEmpty = false := by simp [hp]
   have hi : Aside0 ((if put.toList = [] then [] else [(⟨0, put, ⟨#[]⟩⟩ : S61)]) = [⟨0, put, ⟨#[]⟩⟩]) := ⟨if_neg hp⟩
   clear hp
   rw [e]
   go_wp2_with fail
   go_region_law? (refine Kd.R_append_step k61 (w0 := w0) (W := w.drew) w0.heap.size ?hw (.tmp 11) (.tmp 17) 39 61 (.agg #[(.int .i64 0), (.string ⟨#[]⟩), (.string ⟨#[]⟩)]) 40 ?ho Try.underlying39 info61 rfl (by decide) (by decide) (.slice A out.length c) out (⟨0, put, ⟨#[]⟩⟩ : S61) [.int .i64 0, .string put, .string ⟨#[]⟩] (fun _ => True) (fun _ => False) ?hs ?hx ?aP (fun _ h => h.elim) (fun _ _ => trivial) ?aO ?aB ?aS ?aL ?_; (case aL => have := HL.out; omega); (case hw => rfl); (case ho => rfl); (case hs => rfl); (case hx => rfl); (case aP => exact k61_mkM _ _ _ _); (case aB => exact HM.out.drew.2.2.1); (case aO => exact HM.out.drew.2.1); (case aS => exact HM.out.drew.2.2.1.size); intro v1 w1 ho1 hb1 hg1 hat1; obtain ⟨A1, c1, eo1, -, -⟩ := Kd.R_reads ho1; rw [List.length_append, List.length_singleton] at eo1; subst eo1; have hk1 := blk_grown HM.out.drew.1 hg1 (Kd.R_ne HM.out.drew.2.1 HM.out.drew.1 (by decide)); have d0 : w1.cell? ⟨g, 0, none⟩ = _ := bC hk1 0; have e0 := bF hk1 0; have HM1 := aM (Mk.app HM.out.drew ho1 hb1 hg1); have HT1 : Aside0 (MkTo w (w1.setCell ⟨g, 0, none⟩ (.slice A1 (out.length + 1) c1)) g (.slice A out.length c) (.slice A1 (out.length + 1) c1)) := ⟨MkTo.app hg1 hat1 _⟩; clear ho1 hb1 hg1 hk1 hat1)
   all_goals
    go_wp2_with fail
    go_meet
    rw [hi.out]
    exact ⟨_, HM1.out, HT1.out⟩
 case rest =>
  obtain ⟨v2, h2, ht2⟩ := hcut
  obtain ⟨out2, hout2⟩ : ∃ o2, out ++ (if put.toList = [] then [] else [⟨0, put, ⟨#[]⟩⟩]) = o2 := ⟨_, rfl⟩
  have ub := aM hout2
  rw [hout2] at h2
  have HL2 : Aside0 (out2.length + 1 ≤ 3518437208883) := ⟨by have := HL.out; rw [← hout2]; split <;> simp <;> omega⟩
  clear hout2 c0 c1 c2 f0 f1 f2 a0
  have HM2 := aM h2
  have HT2 := aM ht2
  obtain ⟨c0, c1, c2, f0, f1, f2⟩ := h2.cells
  obtain ⟨A2, cc2, rfl, -, -⟩ := Kd.R_reads h2.2.1
  have a0 : ∀ o, (wc.alloc o).cell? ⟨g, 0, none⟩ = some (.slice A2 out2.length cc2) := fun o => bC (ak h2.1 o) 0
  clear h2 ht2
  go_upto_if 25 with fail
  go_cut [] (fun wx => Mid1 w0 w g (.slice A out.length c) (out ++ ends put drop) put drop wx)
  case first =>
   by_cases hp : drop.toList = []
   ·have e : (!drop.toList.isEmpty) = false := by simp [hp]
    have HM' : Aside0 (Mid1 w0 w g (.slice A out.length c) (out ++ ends put drop) put drop wc) := ⟨by unfold ends; rw [if_pos hp, List.append_nil, ub.out]; exact ⟨_, HM2.out, HT2.out⟩⟩
    clear hp
    rw [e]
    go_wp2_with fail
    go_meet
    exact HM'.out
   ·have e : (!drop.toList.isEmpty) = true := by simp [hp]
    have hi : Aside0 (out ++ ends put drop = out2 ++ [(⟨0, ⟨#[]⟩, drop⟩ : S61)]) := ⟨by unfold ends; rw [if_neg hp, ← List.append_assoc, ub.out]⟩
    clear hp
    rw [e]
    go_wp2_with fail
    go_region_law (refine Kd.R_append_step k61 (w0 := w0) (W := wc.drew) w0.heap.size ?hw (.tmp 30) (.tmp 36) 39 61 (.agg #[(.int .i64 0), (.string ⟨#[]⟩), (.string ⟨#[]⟩)]) 40 ?ho Try.underlying39 info61 rfl (by decide) (by decide) (.slice A2 out2.length cc2) out2 (⟨0, ⟨#[]⟩, drop⟩ : S61) [.int .i64 0, .string ⟨#[]⟩, .string drop] (fun _ => True) (fun _ => False) ?hs ?hx ?aP (fun _ h => h.elim) (fun _ _ => trivial) ?aO ?aB ?aS ?aL ?_; (case aL => have := HL2.out; omega); (case hw => rfl); (case ho => rfl); (case hs => rfl); (case hx => rfl); (case aP => exact k61_mkM _ _ _ _); (case aB => exact HM2.out.drew.2.2.1); (case aO => exact HM2.out.drew.2.1); (case aS => exact HM2.out.drew.2.2.1.size); intro v1 w1 ho1 hb1 hg1 hat1; obtain ⟨A1, c1, eo1, -, -⟩ := Kd.R_reads ho1; rw [List.length_append, List.length_singleton] at eo1; subst eo1; have hk1 := blk_grown HM2.out.drew.1 hg1 (Kd.R_ne HM2.out.drew.2.1 HM2.out.drew.1 (by decide)); have d0 : w1.cell? ⟨g, 0, none⟩ = _ := bC hk1 0; have e0 := bF hk1 0; have HM1 := aM (Mk.app HM2.out.drew ho1 hb1 hg1); have HT1 : Aside0 (MkTo wc (w1.setCell ⟨g, 0, none⟩ (.slice A1 (out2.length + 1) c1)) g (.slice A2 out2.length cc2) (.slice A1 (out2.length + 1) c1)) := ⟨MkTo.app hg1 hat1 _⟩; clear ho1 hb1 hg1 hk1 hat1)
    all_goals
     go_wp2_with fail
     go_meet
     rw [hi.out]
     exact ⟨_, HM1.out, HT2.out.trans HT1.out⟩
  case rest =>
   obtain ⟨v3, h3, ht3⟩ := hcut
   clear c0 c1 c2 f0 f1 f2 a0 HM2 HT2
   have HM3 := aM h3
   have HT3 := aM ht3
   obtain ⟨c0, c1, c2, f0, f1, f2⟩ := h3.cells
   clear h3 ht3
   go_wp2
   go_end0
   exact ⟨rfl, _, (HM3.out.set1 _).set2 _, (HT3.out.set _ _).set _ _⟩
/-- The field Keep of element i is written. -/
theorem k61_set0 {W : World} {base g2 n cap : Nat} {ok : Nat → Prop} {xs : List S61} (h : Kd.R k61 61 W base ok (.slice (some ⟨g2, 0, none⟩) n cap) xs) (i : Int) (h0 : 0 ≤ i) (h1 : i < n) (x : Int) :
  Kd.R k61 61 (W.setCell ⟨g2, i.toNat * 3, none⟩ (.int .i64 x)) base ok (.slice (some ⟨g2, 0, none⟩) n cap) (xs.set i.toNat ⟨x, (rd_T61 xs i).f1, (rd_T61 xs i).f2⟩) ∧ W.grownBy (W.setCell ⟨g2, i.toNat * 3, none⟩ (.int .i64 x)) (some g2) := by
 obtain ⟨c, hl, hM, hc, -⟩ := Kd.R_elem h z61 i h0 h1
 have hM' := hM
 obtain rfl := k61_openM hM'
 exact Kd.R_seg (d := k61) (seg := [.int .i64 x]) (j := 0) (okp := fun k => ok k ∧ k ≠ g2) h i h0 h1 hl hc (show 0 + 1 ≤ 3 by omega) (k61_mkM _ _ _ (⟨x, (rd_T61 xs i).f1, (rd_T61 xs i).f2⟩ : S61)) (fun _ hk => hk)
def keepO (o : List S61) (n : Int) : List S61 := if 0 < o.length ∧ (rd_T61 o ((o.length : Int) - 1)).f0 > 0 then o.set (o.length - 1) ⟨wrap64 ((rd_T61 o ((o.length : Int) - 1)).f0 + n), (rd_T61 o ((o.length : Int) - 1)).f1, (rd_T61 o ((o.length : Int) - 1)).f2⟩ else o ++ [⟨n, ⟨#[]⟩, ⟨#[]⟩⟩]
theorem ends_le (put drop : ByteArray) : (ends put drop).length ≤ 2 := by
 unfold ends
 split <;> split <;> simp
theorem mk_keep0 (w0 w : World) (g : Nat) (v : Value) (out : List S61) (put drop : ByteArray) (h : Mk w0 w g v out put drop) :
  Calls Try.prog 83 #[.pointer (some ⟨g, 0, none⟩), .int .i64 0] w fun e w' => e = .returned (.tuple #[]) ∧ Mid1 w0 w g v out put drop w' := by
 have HM := aM h
 clear h
 go_enter Try.func83, Try.ntmps83
 go_wp2
 refine bodyPost_ret (results_none rfl _ _ _) rfl ?_
 exact ⟨rfl, _, HM.out, MkTo.refl _ _ _⟩
set_option maxHeartbeats 1000000 in
theorem mk_keepA (w0 w : World) (g : Nat) (v : Value) (out : List S61) (put drop : ByteArray) (n : Int) (hn : n ≠ 0) (h : Mk w0 w g v out put drop) (hl : out.length + 3 ≤ 3518437208883)
  (hc : ¬ (0 < (out ++ ends put drop).length)) :
  Calls Try.prog 83 #[.pointer (some ⟨g, 0, none⟩), .int .i64 n] w fun e w' => e = .returned (.tuple #[]) ∧ Mid1 w0 w g v (keepO (out ++ ends put drop) n) ⟨#[]⟩ ⟨#[]⟩ w' := by
 have HL : Aside0 (out.length + 2 ≤ 3518437208883) := ⟨by omega⟩
 have HM := aM h
 have hnb : (n == 0) = false := qF hn
 have he : out ++ ends put drop = [] := List.eq_nil_of_length_eq_zero (by omega)
 have HE := aM he
 have HK : Aside0 (keepO (out ++ ends put drop) n = [] ++ [⟨n, ⟨#[]⟩, ⟨#[]⟩⟩]) := ⟨by unfold keepO; rw [if_neg (by omega), he]⟩
 clear h hl hn hc he
 go_enter Try.func83, Try.ntmps83
 go_wp2_with (first | (go_at_call 84; refine (mk_end w0 w g v out put drop HM.out HL.out).mono ?_; rintro e w1 ⟨rfl, v2, h2, ht2⟩; rw [HE.out] at h2; have HM2 := aM h2; have HT2 := aM ht2; obtain ⟨b0, b1, b2, f0, f1, f2⟩ := h2.cells; obtain ⟨A2, cc2, rfl, -, -⟩ := Kd.R_reads h2.2.1; clear h2 ht2; simp only [List.length_nil] at b0 HT2) | ((with_reducible refine gate_builtin (b := .append) (xs := #[.tmp 44, .tmp 47]) rfl ?_); at_builtin; refine Kd.R_append k61 (w0 := w0) (W := w1) w0.heap.size rfl (.tmp 44) (.tmp 47) 39 61 (.agg #[(.int .i64 0), (.string ⟨#[]⟩), (.string ⟨#[]⟩)]) 40 rfl Try.underlying39 info61 rfl (by decide) (by decide) (.slice A2 0 cc2) ([] : List S61) (⟨n, ⟨#[]⟩, ⟨#[]⟩⟩ : S61) [.int .i64 n, .string ⟨#[]⟩, .string ⟨#[]⟩] (fun _ => True) (fun _ => False) rfl rfl ?aP (fun _ h => h.elim) (fun _ _ => trivial) ?aO ?aB ?aS ?aL ?_; (case aP => exact k61_mkM _ _ _ _); (case aB => exact HM2.out.2.2.1); (case aO => exact HM2.out.2.1); (case aS => exact HM2.out.2.2.1.size); (case aL => have := HL.out; first | omega | (simp only [List.length_nil]; omega)); intro v1 wn ho1 hb1 hg1 hat1; obtain ⟨A1, c1, eo1, -, -⟩ := Kd.R_reads ho1; simp only [List.nil_append, List.length_singleton] at eo1; subst eo1; have hk1 := blk_grown HM2.out.1 hg1 (Kd.R_ne HM2.out.2.1 HM2.out.1 (by decide)); have d0 : wn.cell? ⟨g, 0, none⟩ = _ := bC hk1 0; have e0 := bF hk1 0; have HM1 := aM (Mk.app HM2.out ho1 hb1 hg1); have HT1 : Aside0 (MkTo w1 (wn.setCell ⟨g, 0, none⟩ (.slice A1 1 c1)) g (.slice A2 0 cc2) (.slice A1 1 c1)) := ⟨MkTo.app hg1 hat1 _⟩; clear ho1 hb1 hg1 hk1 hat1))
 go_end0
 rw [HK.out]
 exact ⟨rfl, _, HM1.out, HT2.out.trans HT1.out⟩
set_option maxHeartbeats 1000000 in
theorem mk_keepB (w0 w : World) (g : Nat) (v : Value) (out : List S61) (put drop : ByteArray) (n : Int) (hn : n ≠ 0) (h : Mk w0 w g v out put drop) (hl : out.length + 3 ≤ 3518437208883)
  (hc : 0 < (out ++ ends put drop).length) (hk : ¬ (rd_T61 (out ++ ends put drop) (((out ++ ends put drop).length : Int) - 1)).f0 > 0) :
  Calls Try.prog 83 #[.pointer (some ⟨g, 0, none⟩), .int .i64 n] w fun e w' => e = .returned (.tuple #[]) ∧ Mid1 w0 w g v (keepO (out ++ ends put drop) n) ⟨#[]⟩ ⟨#[]⟩ w' := by
 have HL : Aside0 (out.length + 2 ≤ 3518437208883) := ⟨by omega⟩
 have HM := aM h
 have hnb : (n == 0) = false := qF hn
 have hle := ends_le put drop
 obtain ⟨o, ho⟩ : ∃ o, out ++ ends put drop = o := ⟨_, rfl⟩
 have HE := aM ho
 have hol : o.length ≤ 3518437208882 := by rw [← ho, List.length_append]; omega
 have HOL := aM hol
 rw [ho] at hc hk
 have HC := aM hc
 have HI0 : Aside0 ((0 : Int) ≤ (o.length : Int) - 1) := ⟨by omega⟩
 have HIN : Aside0 (((o.length : Int) - 1).toNat = o.length - 1) := ⟨by omega⟩
 have HI1 : Aside0 ((o.length : Int) - 1 < (o.length : Nat)) := ⟨by omega⟩
 have HK : Aside0 (keepO (out ++ ends put drop) n = o ++ [⟨n, ⟨#[]⟩, ⟨#[]⟩⟩]) := ⟨by unfold keepO; rw [ho, if_neg (fun x => hk x.2)]⟩
 have hkb : decide ((rd_T61 o ((o.length : Int) - 1)).f0 > 0) = false := dF hk
 clear h hl hn ho hk hle
 go_enter Try.func83, Try.ntmps83
 go_wp2_with (first | (go_at_call 84; refine (mk_end w0 w g v out put drop HM.out HL.out).mono ?_; rintro e w1 ⟨rfl, v2, h2, ht2⟩; rw [HE.out] at h2; have HM2 := aM h2; have HT2 := aM ht2; obtain ⟨b0, b1, b2, f0, f1, f2⟩ := h2.cells; obtain ⟨g2, cc2, rfl, -, -, -⟩ := Kd.R_form h2.2.1 HC.out; obtain ⟨cl, -, hM2, hcl, hfr⟩ := Kd.R_elem h2.2.1 z61 ((o.length : Int) - 1) HI0.out HI1.out; obtain rfl := k61_openM hM2; have x0 : w1.cell? ⟨g2, (o.length - 1) * 3, none⟩ = some (.int .i64 (rd_T61 o ((o.length : Int) - 1)).f0) := (by rw [← HIN.out]; exact hcl 0 _ rfl); have y0 : w1.frozen? ⟨g2, (o.length - 1) * 3, none⟩ = false := (by rw [← HIN.out]; exact hfr 0); clear h2 ht2 hM2 hcl hfr) | ((with_reducible refine gate_builtin (b := .append) (xs := #[.tmp 44, .tmp 47]) rfl ?_); at_builtin; refine Kd.R_append k61 (w0 := w0) (W := w1) w0.heap.size rfl (.tmp 44) (.tmp 47) 39 61 (.agg #[(.int .i64 0), (.string ⟨#[]⟩), (.string ⟨#[]⟩)]) 40 rfl Try.underlying39 info61 rfl (by decide) (by decide) (.slice (some ⟨g2, 0, none⟩) o.length cc2) o (⟨n, ⟨#[]⟩, ⟨#[]⟩⟩ : S61) [.int .i64 n, .string ⟨#[]⟩, .string ⟨#[]⟩] (fun _ => True) (fun _ => False) rfl rfl ?aP (fun _ h => h.elim) (fun _ _ => trivial) ?aO ?aB ?aS ?aL ?_; (case aP => exact k61_mkM _ _ _ _); (case aB => exact HM2.out.2.2.1); (case aO => exact HM2.out.2.1); (case aS => exact HM2.out.2.2.1.size); (case aL => have := HOL.out; first | omega | (simp only [List.length_nil]; omega)); intro v1 wn ho1 hb1 hg1 hat1; obtain ⟨A1, c1, eo1, -, -⟩ := Kd.R_reads ho1; rw [List.length_append, List.length_singleton] at eo1; subst eo1; have hk1 := blk_grown HM2.out.1 hg1 (Kd.R_ne HM2.out.2.1 HM2.out.1 (by decide)); have d0 : wn.cell? ⟨g, 0, none⟩ = _ := bC hk1 0; have e0 := bF hk1 0; have HM1 := aM (Mk.app HM2.out ho1 hb1 hg1); have HT1 : Aside0 (MkTo w1 (wn.setCell ⟨g, 0, none⟩ (.slice A1 (o.length + 1) c1)) g (.slice (some ⟨g2, 0, none⟩) o.length cc2) (.slice A1 (o.length + 1) c1)) := ⟨MkTo.app hg1 hat1 _⟩; clear ho1 hb1 hg1 hk1 hat1))
 go_end0
 rw [HK.out]
 exact ⟨rfl, _, HM1.out, HT2.out.trans HT1.out⟩
set_option maxHeartbeats 1000000 in
theorem mk_keepC (w0 w : World) (g : Nat) (v : Value) (out : List S61) (put drop : ByteArray) (n : Int) (hn : n ≠ 0) (h : Mk w0 w g v out put drop) (hl : out.length + 3 ≤ 3518437208883)
  (hc : 0 < (out ++ ends put drop).length) (hk : (rd_T61 (out ++ ends put drop) (((out ++ ends put drop).length : Int) - 1)).f0 > 0) :
  Calls Try.prog 83 #[.pointer (some ⟨g, 0, none⟩), .int .i64 n] w fun e w' => e = .returned (.tuple #[]) ∧ Mid1 w0 w g v (keepO (out ++ ends put drop) n) ⟨#[]⟩ ⟨#[]⟩ w' := by
 have HL : Aside0 (out.length + 2 ≤ 3518437208883) := ⟨by omega⟩
 have HM := aM h
 have hnb : (n == 0) = false := qF hn
 have hle := ends_le put drop
 obtain ⟨o, ho⟩ : ∃ o, out ++ ends put drop = o := ⟨_, rfl⟩
 have HE := aM ho
 have hol : o.length ≤ 3518437208882 := by rw [← ho, List.length_append]; omega
 have HOL := aM hol
 rw [ho] at hc hk
 have HC := aM hc
 have HI0 : Aside0 ((0 : Int) ≤ (o.length : Int) - 1) := ⟨by omega⟩
 have HIN : Aside0 (((o.length : Int) - 1).toNat = o.length - 1) := ⟨by omega⟩
 have HI1 : Aside0 ((o.length : Int) - 1 < (o.length : Nat)) := ⟨by omega⟩
 have HK : Aside0 (keepO (out ++ ends put drop) n = o.set (o.length - 1) ⟨wrap64 ((rd_T61 o ((o.length : Int) - 1)).f0 + n), (rd_T61 o ((o.length : Int) - 1)).f1, (rd_T61 o ((o.length : Int) - 1)).f2⟩) := ⟨by unfold keepO; rw [ho, if_pos ⟨hc, hk⟩]⟩
 have hkb : decide ((rd_T61 o ((o.length : Int) - 1)).f0 > 0) = true := dT hk
 clear h hl hn ho hk hle
 go_enter Try.func83, Try.ntmps83
 go_wp2_with (first | (go_at_call 84; refine (mk_end w0 w g v out put drop HM.out HL.out).mono ?_; rintro e w1 ⟨rfl, v2, h2, ht2⟩; rw [HE.out] at h2; have HM2 := aM h2; have HT2 := aM ht2; obtain ⟨b0, b1, b2, f0, f1, f2⟩ := h2.cells; obtain ⟨g2, cc2, rfl, -, -, -⟩ := Kd.R_form h2.2.1 HC.out; obtain ⟨cl, -, hM2, hcl, hfr⟩ := Kd.R_elem h2.2.1 z61 ((o.length : Int) - 1) HI0.out HI1.out; obtain rfl := k61_openM hM2; have x0 : w1.cell? ⟨g2, (o.length - 1) * 3, none⟩ = some (.int .i64 (rd_T61 o ((o.length : Int) - 1)).f0) := (by rw [← HIN.out]; exact hcl 0 _ rfl); have y0 : w1.frozen? ⟨g2, (o.length - 1) * 3, none⟩ = false := (by rw [← HIN.out]; exact hfr 0); clear h2 ht2 hM2 hcl hfr))
 obtain ⟨hs, hg⟩ := k61_set0 HM2.out.2.1 ((o.length : Int) - 1) HI0.out HI1.out (wrap64 ((rd_T61 o ((o.length : Int) - 1)).f0 + n))
 rw [HIN.out] at hs hg
 have hne : g ≠ g2 := fun e => HM2.out.far g2 rfl e.symm
 have hb2 := blk_grown HM2.out.1 hg (fun e => hne (sI e))
 have hB2 : Below w0.heap.size w0 (w1.setCell ⟨g2, (o.length - 1) * 3, none⟩ (.int .i64 (wrap64 ((rd_T61 o ((o.length : Int) - 1)).f0 + n)))) := ao HM2.out.2.2.1 (Kd.R_base HM2.out.2.1 g2 rfl)
 refine bodyPost_ret (results_none rfl _ _ _) rfl ?_
 rw [HK.out]
 refine ⟨rfl, _, ⟨hb2, hs, hB2, HM2.out.2.2.2⟩, HT2.out.trans ⟨?_, .inl rfl⟩⟩
 exact Kept.of_grown hg (Kept.refl _ _) (fun k hk => .inl (.inr hk.symm))
def kO (out : List S61) (put drop : ByteArray) (n : Int) : List S61 := if n = 0 then out else keepO (out ++ ends put drop) n
def kS (s : ByteArray) (n : Int) : ByteArray := if n = 0 then s else ⟨#[]⟩
theorem mk_keep (w0 w : World) (g : Nat) (v : Value) (out : List S61) (put drop : ByteArray) (n : Int) (h : Mk w0 w g v out put drop) (hl : out.length + 3 ≤ 3518437208883) :
  Calls Try.prog 83 #[.pointer (some ⟨g, 0, none⟩), .int .i64 n] w fun e w' => e = .returned (.tuple #[]) ∧ Mid1 w0 w g v (kO out put drop n) (kS put n) (kS drop n) w' := by
 unfold kO kS
 by_cases hn : n = 0
 ·subst hn
  simp only [if_true]
  exact mk_keep0 w0 w g v out put drop h
 ·simp only [if_neg hn]
  by_cases hc : 0 < (out ++ ends put drop).length
  ·by_cases hk : (rd_T61 (out ++ ends put drop) (((out ++ ends put drop).length : Int) - 1)).f0 > 0
   ·exact mk_keepC w0 w g v out put drop n hn h hl hc hk
   ·exact mk_keepB w0 w g v out put drop n hn h hl hc hk
  ·exact mk_keepA w0 w g v out put drop n hn h hl hc
theorem Mid1.le {w0 w w' : World} {g : Nat} {v : Value} {out : List S61} {put drop : ByteArray} (h : Mid1 w0 w g v out put drop w') : w.heap.size ≤ w'.heap.size := by
 obtain ⟨_, _, ht⟩ := h
 exact ht.1.1
set_option maxHeartbeats 1000000 in
theorem mk_take (w0 w : World) (g : Nat) (v : Value) (out : List S61) (put drop : ByteArray) (p : S61) (h : Mk w0 w g v out put drop) (hl : out.length + 3 ≤ 3518437208883)
  (h1 : (kS put p.f0).size + p.f1.size ≤ 9223372036854775807) (h2 : (kS drop p.f0).size + p.f2.size ≤ 9223372036854775807) :
  Calls Try.prog 67 #[.pointer (some ⟨g, 0, none⟩), .agg #[.int .i64 p.f0, .string p.f1, .string p.f2]] w fun e w' => e = .returned (.tuple #[]) ∧ Mid1 w0 w g v (kO out put drop p.f0) (kS put p.f0 ++ p.f1) (kS drop p.f0 ++ p.f2) w' := by
 have HL := aM hl
 have HM := aM h
 have HM0 := aM (h.alloc (.cells #[.int .i64 p.f0, .string p.f1, .string p.f2] 61))
 obtain ⟨o3, ho3⟩ : ∃ o, kO out put drop p.f0 = o := ⟨_, rfl⟩
 obtain ⟨s1, hs1⟩ : ∃ o, kS put p.f0 = o := ⟨_, rfl⟩
 obtain ⟨s2, hs2⟩ : ∃ o, kS drop p.f0 = o := ⟨_, rfl⟩
 rw [hs1] at h1
 rw [hs2] at h2
 have E3 := aM ho3
 have E1 := aM hs1
 have E2 := aM hs2
 rw [ho3, hs1, hs2]
 clear ho3 hs1 hs2 h hl
 go_enter Try.func67, Try.ntmps67
 go_wp2_with (first | (go_at_call 83; refine (mk_keep w0 _ g v out put drop p.f0 HM0.out HL.out).mono ?_; rintro e w1 ⟨rfl, v2, h2_, ht2⟩; rw [E3.out, E1.out, E2.out] at h2_; have HM2 := aM h2_; have HT2 := aM ht2; obtain ⟨b0, b1, b2, f0, f1, f2⟩ := h2_.cells; have hbx : w1.heap[w.heap.size]? = some (.cells #[.int .i64 p.f0, .string p.f1, .string p.f2] 61 (0, 0)) := blk_kept (heap_alloc_new w _) ht2.1 (fun hk => hk.elim (fun e => Nat.lt_irrefl _ (e ▸ blk_lt HM.out.1)) (fun e => Nat.lt_irrefl _ (Kd.R_lt HM.out.2.1 _ e.symm))); have x1 : w1.cell? ⟨w.heap.size, 1, none⟩ = some (.string p.f1) := bC hbx 1; have x2 : w1.cell? ⟨w.heap.size, 2, none⟩ = some (.string p.f2) := bC hbx 2; clear h2_ ht2 hbx))
 go_region
 go_wp2
 go_region
 go_end0
 exact ⟨rfl, _, ((HM2.out.set1 _).set2 _).drew.drew, (((((MkTo.refl w g v).alloc _).trans HT2.out).set _ _).set _ _).drew.drew⟩
set_option maxHeartbeats 1000000 in
theorem mk_made (w0 w : World) (g : Nat) (v : Value) (out : List S61) (put drop : ByteArray) (h : Mk w0 w g v out put drop) (hl : out.length + 3 ≤ 3518437208883) :
  Calls Try.prog 68 #[.pointer (some ⟨g, 0, none⟩)] w fun e w' => ∃ v', e = .returned v' ∧ Kd.R k61 61 w' w0.heap.size (fun _ => True) v' (out ++ ends put drop) ∧ Below w0.heap.size w0 w' ∧ MkTo w w' g v v' := by
 have HL : Aside0 (out.length + 2 ≤ 3518437208883) := ⟨by omega⟩
 have HM := aM h
 clear h hl
 go_enter Try.func68, Try.ntmps68
 go_wp2_with (first | (go_at_call 84; refine (mk_end w0 w g v out put drop HM.out HL.out).mono ?_; rintro e w1 ⟨rfl, v2, h2_, ht2⟩; have HM2 := aM h2_; have HT2 := aM ht2; obtain ⟨b0, b1, b2, f0, f1, f2⟩ := h2_.cells; clear h2_ ht2))
 go_ret
 exact ⟨_, rfl, HM2.out.2.1, HM2.out.2.2.1, HT2.out⟩

/-! ### impl_normal: function 47, by hand -/
def nrm : List S61 → List S61 → ByteArray → ByteArray → Option (List S61)
 | [], out, put, drop => if out.length + 3 ≤ 3518437208883 then some (out ++ ends put drop) else none
 | p :: l, out, put, drop => if out.length + 3 ≤ 3518437208883 ∧ (kS put p.f0).size + p.f1.size ≤ 9223372036854775807 ∧ (kS drop p.f0).size + p.f2.size ≤ 9223372036854775807 then nrm l (kO out put drop p.f0) (kS put p.f0 ++ p.f1) (kS drop p.f0 ++ p.f2) else none
def impl_normal.f (l0 : List S61) : Option (List S61) := nrm l0 [] ⟨#[]⟩ ⟨#[]⟩
theorem Mk.new (w : World) : Mk w (w.alloc (.cells #[.slice none 0 0, .string ⟨#[]⟩, .string ⟨#[]⟩] 85)) w.heap.size (.slice none 0 0) [] ⟨#[]⟩ ⟨#[]⟩ :=
 ⟨heap_alloc_new w _, Kd.R_nil _ _ _ _ _, bA (Below.refl _ _) _, Nat.le_refl _⟩
/-- What the loop of 'normal' holds at its head. -/
def NrmAt (w : World) (l0 : List S61) (r : List S61) (d : Nat) (v8 : Value) (w' : World) : Prop :=
 ∃ (i : Nat) (v : Value) (out : List S61) (put drop : ByteArray), v8 = .int .i64 i ∧ i + d = l0.length ∧ Mk w w' w.heap.size v out put drop ∧ nrm (l0.drop i) out put drop = some r
set_option maxHeartbeats 2000000 in
theorem impl_normal.calls (A0 : Option Addr) (c0 : Nat) (l0 : List S61) (r : List S61) (w : World) (hr0 : Kd.C k61 w A0 l0.length l0) (hc0 : l0.length ≤ c0) (h : impl_normal.f l0 = some r) :
  Calls Try.prog 47 #[.slice A0 l0.length c0] w fun e w' => ∃ v0_ : Value, e = .returned v0_ ∧ Kd.R k61 61 w' w.heap.size (fun _ => True) v0_ r ∧ Below w.heap.size w w' := by
 have HR := aM hr0
 have HC := aM hc0
 have hlen := Kd.C_max hr0
 have HN : Aside0 (nrm (l0.drop 0) [] ⟨#[]⟩ ⟨#[]⟩ = some r) := ⟨h⟩
 clear hr0 hc0 h
 go_enter Try.func47, Try.ntmps47
 go_wp2
 go_loopg [8] l0.length (fun d v8 w' => NrmAt w l0 r d v8 w')
 case atStart => exact ⟨0, _, [], ⟨#[]⟩, ⟨#[]⟩, rfl, by omega, Mk.new w, HN.out⟩
 case round =>
  obtain ⟨i, v, out, put, drop, rfl, hid, hm, hn⟩ := hrel
  have HM := aM hm
  cases gk with
  | zero =>
   have hil : i = l0.length := by omega
   subst hil
   rw [List.drop_length] at hn
   unfold nrm at hn
   split at hn
   case isFalse => cases hn
   case isTrue hlt =>
    obtain rfl := sI hn
    have HLT := aM hlt
    clear hm hn hid hlt
    go_wp2_with (first | (go_at_call 68; refine (mk_made w _ w.heap.size v out put drop HM.out HLT.out).mono ?_; rintro e w1 ⟨v2, rfl, hr2, hb2, ht2⟩; have uh := aM hr2; have HB2 := aM hb2; clear hr2 hb2 ht2))
    go_ret
    exact ⟨_, rfl, uh.out, HB2.out⟩
  | succ k1 =>
   have hil : i < l0.length := by omega
   have hd : l0.drop i = rd_T61 l0 (i : Int) :: l0.drop (i + 1) := by
    rw [List.drop_eq_getElem_cons hil]
    unfold rd_T61
    rw [Int.toNat_natCast, List.getD_eq_getElem?_getD, List.getElem?_eq_getElem hil, Option.getD_some]
   rw [hd] at hn
   unfold nrm at hn
   split at hn
   case isFalse => cases hn
   case isTrue hlt =>
    obtain ⟨hl1, hl2, hl3⟩ := hlt
    have H1 := aM hl1
    have H2 := aM hl2
    have H3 := aM hl3
    have HN1 := aM hn
    have HI : Aside0 (i + 1 + k1 = l0.length) := ⟨by omega⟩
    have hib : decide (i < l0.length) = true := dT hil
    obtain ⟨ad, rfl, x0, x1, x2⟩ := at_T61 (Kd.C_below HR.out hm.2.2.1) (i : Int) (by omega) (by omega)
    simp only [Int.toNat_natCast] at x0 x1 x2
    clear hm hn hid hd hl1 hl2 hl3
    go_wp2_with (first | (go_at_call 67; refine (mk_take w _ w.heap.size v out put drop (rd_T61 l0 (i : Int)) (HM.out.alloc _) H1.out H2.out H3.out).mono ?_; rintro e w1 ⟨rfl, v2, h2_, ht2⟩; have HM2 := aM h2_; clear h2_ ht2))
    go_roundg k1
    case measure => omega
    case rel => exact ⟨i + 1, _, _, _, _, by go_num, HI.out, HM2.out, HN1.out⟩

/-! ### impl_hasPlace: function 55 -/
def impl_hasPlace.f (a0 : ByteArray) (a1 : Int) : Option (Bool) := if a1 ≥ 0 then (some (decide (a1 ≤ (a0.size : Int)))) else (some false)
set_option maxHeartbeats 8000000 in
set_option maxRecDepth 100000 in
theorem impl_hasPlace.calls (a0 : ByteArray) (a1 : Int) (r : Bool) (w : World) (h : impl_hasPlace.f a0 a1 = some r) :
  Calls Try.prog 55 #[.string a0, .int .i64 a1] w fun e w' => e = .returned (.bool r) ∧ Drawn0 w w' := by
 have H : (if a1 ≥ 0 then (some (decide (a1 ≤ (a0.size : Int)))) else (some false)) = some r := h
 clear h
 by_cases c3 : a1 ≥ 0
 ·rw [if_pos c3] at H
  have c3b0 : decide (0 ≤ a1) = true := dT c3
  clear c3
  obtain rfl := sI H
  go_enter Try.func55, Try.ntmps55
  go_wp2
  go_ret
  exact ⟨y1, y3⟩
 ·rw [if_neg c3] at H
  have c3b0 : decide (0 ≤ a1) = false := dF c3
  clear c3
  obtain rfl := sI H
  go_enter Try.func55, Try.ntmps55
  go_wp2
  go_ret
  exact ⟨y1, y3⟩

/-! ### impl_MatchOf: function 70, by hand -/
/-! ### impl_MatchOf: by hand -/
def impl_MatchOf.f (k : Nat) (a0 : ByteArray) (a1 : Int) : Option (Int × Bool) := if (Lit.int .i64 a1).wf = true then (impl_matches.f k a0).bind fun p => (if p.2 = true then some ((lk p.1 a1).getD 0, (lk p.1 a1).isSome) else some (0, false)) else none
theorem impl_MatchOf.mono : ∀ a0 a1 k, LeO (impl_MatchOf.f k a0 a1) (impl_MatchOf.f (k + 1) a0 a1) := by
 intro a0 a1 k
 unfold impl_MatchOf.f
 repeat' first
   | (with_reducible exact impl_matches.mono _ _)
   | (with_reducible exact LeO.refl _)
   | (with_reducible exact LeO.none _)
   | (with_reducible refine LeO.ite ?_ ?_)
   | (with_reducible refine LeO.bind ?_ (fun _ => ?_))
theorem impl_MatchOf.calls (k : Nat) (a0 : ByteArray) (a1 : Int) (r1 : Int) (r2 : Bool) (w : World) (h : impl_MatchOf.f k a0 a1 = some (r1, r2)) :
  Calls Try.prog 70 #[.string a0, .int .i64 a1] w fun e w' => e = .returned (.tuple #[.int .i64 r1, .bool r2]) ∧ Below w.heap.size w w' := by
 unfold impl_MatchOf.f at h
 by_cases hwf : (Lit.int .i64 a1).wf = true
 ·rw [if_pos hwf] at h
  replace H := oB h
  clear h
  obtain ⟨⟨m, ok⟩, A1, H⟩ := H
  have A2 := aM A1
  clear A1
  cases ok with
  | true =>
   simp only [if_true] at H
   obtain ⟨rfl, rfl⟩ := Prod.mk.inj (sI H)
   have HK : Aside0 (keyOf Try.prog 3 (.int .i64 a1) = some (.int .i64 a1)) := ⟨Go.Maps.keyOf_int_mk Try.underlying3 hwf⟩
   clear H hwf
   go_enter Try.func70, Try.ntmps70
   go_wp2_with (first | (go_at_call 37; refine (impl_matches.calls k a0 m true _ A2.out).mono ?_; rintro e w' ⟨v, rfl, hv, hb⟩; obtain ⟨B, rfl, hown⟩ := hv.2 rfl; have HB := aM hb; have HO := aM hown; clear hv hb hown) | (at_lookup; refine wpList_lookup_own_ok_int _ rfl (.tmp 17) (.tmp 18) 55 rfl 3 3 .i64 mt_law Try.underlying55 Try.underlying3 (mt_zero _) _ _ _ rfl HO.out _ _ rfl HK.out ?_; intro c hat hwc; rw [mD_at] at hat; have hc : c = (lk m a1).getD 0 := (by injection hat with hat; injection hat with _ hat; exact hat.symm); have HAT := aM hc; clear hat hwc hc; have hs := mD_has m a1; generalize Maps.has (mD m) (.int .i64 a1) = bb at hs; have HS := aM hs; clear hs))
   go_ret2
   obtain rfl := HAT.out
   obtain rfl := HS.out
   exact ⟨rfl, HB.out⟩
  | false =>
   simp only [Bool.false_eq_true, if_false] at H
   obtain ⟨rfl, rfl⟩ := Prod.mk.inj (sI H)
   clear H hwf
   go_enter Try.func70, Try.ntmps70
   go_wp2_with (first | (go_at_call 37; refine (impl_matches.calls k a0 m false _ A2.out).mono ?_; rintro e w' ⟨v, rfl, hv, hb⟩; have HB := aM hb; clear hv hb))
   go_ret2
   exact ⟨rfl, HB.out⟩
 ·rw [if_neg hwf] at h
  cases h

/-! ### impl_keepTo: function 77 -/
def impl_keepTo.f (a0 : Int) (a1 : Int) : Option (Int × ByteArray × ByteArray) := some (wrap64 (a1 - a0), (⟨#[]⟩ : ByteArray), (⟨#[]⟩ : ByteArray))
set_option maxHeartbeats 8000000 in
set_option maxRecDepth 100000 in
theorem impl_keepTo.calls (a0 : Int) (a1 : Int) (r1 : Int) (r2 : ByteArray) (r3 : ByteArray) (w : World) (h : impl_keepTo.f a0 a1 = some (r1, r2, r3)) :
  Calls Try.prog 77 #[.int .i64 a0, .int .i64 a1] w fun e w' => e = .returned (.agg #[.int .i64 r1, .string r2, .string r3]) ∧ Below w.heap.size w w' := by
 have hu61 := Try.underlying61
 have HB := aM (Below.refl w.heap.size w)
 have H : (some (wrap64 (a1 - a0), (⟨#[]⟩ : ByteArray), (⟨#[]⟩ : ByteArray))) = some (r1, r2, r3) := h
 clear h
 simp only [Option.some.injEq, Prod.mk.injEq] at H
 obtain ⟨rfl, rfl, rfl⟩ := H
 go_enter Try.func77, Try.ntmps77
 go_wp2_with (first | ((with_reducible refine aw (N := 4) rfl ?_); refine ax ?hg (N := 4) ?hd (cs := #[.int .i64 0, .string ⟨#[]⟩, .string ⟨#[]⟩]) (t := 61) ?hr ?_; (case hd => rfl); (case hg => rfl); (case hr => first | (go_simp; done) | (go_simp; rfl)); intro i6 hg w3 hbox hb; have iS := aM (hbox); have GW235 := aM ((by rw [hg]; exact (aq z13) : w.heap.size ≤ i6)); have GE235 := aM ((by rw [hg]; exact (aq z13) : w.heap.size ≤ i6)); replace HB := aM (ap z13 hb); clear hb hbox hg; obtain ⟨hcz4_0, hcz4_1, hcz4_2, hfz4_0, hfz4_1, hfz4_2⟩ := cc3 iS.out))
 refine bodyPost_ret (results_cell_row rfl _ _ i6 61 #[.int .i64 (wrap64 (a1 - a0)), .string ⟨#[]⟩, .string ⟨#[]⟩] (0, 0) _ rfl (by (with_reducible repeat (first | refine aj ?_ _ | refine ai ?_ | refine ak ?_ _)); refine am (cs := #[.int .i64 (wrap64 (a1 - a0)), .string ⟨#[]⟩, .string ⟨#[]⟩]) ?_ 2 _ rfl; (with_reducible repeat (first | refine aj ?_ _ | refine ai ?_ | refine ak ?_ _)); refine am (cs := #[.int .i64 (wrap64 (a1 - a0)), .string ⟨#[]⟩, .string ⟨#[]⟩]) ?_ 1 _ rfl; (with_reducible repeat (first | refine aj ?_ _ | refine ai ?_ | refine ak ?_ _)); refine am (cs := #[.int .i64 0, .string ⟨#[]⟩, .string ⟨#[]⟩]) ?_ 0 _ rfl; (with_reducible repeat (first | refine aj ?_ _ | refine ai ?_ | refine ak ?_ _)); exact iS.out) Try.underlying61 rfl z0) rfl ?_
 exact ⟨y4, by repeat (first | (with_reducible first | exact HB.out | apply bA | apply pD | apply bD | refine ao ?_ GE235.out) | exact HB.out)⟩

/-! ### impl_isNameText: function 78 -/
def impl_isNameText.f (a0 : ByteArray) : Option (Bool) := if (a0.size : Int) = 1 then (if 0 < (a0.size : Int) then ((impl_isName.f (bt a0 0)).bind fun nR => (some nR)) else (none)) else (some false)
set_option maxHeartbeats 8000000 in
set_option maxRecDepth 100000 in
theorem impl_isNameText.calls (a0 : ByteArray) (r : Bool) (w : World) (h : impl_isNameText.f a0 = some r) :
  Calls Try.prog 78 #[.string a0] w fun e w' => e = .returned (.bool r) ∧ Drawn0 w w' := by
 have H : (if (a0.size : Int) = 1 then (if 0 < (a0.size : Int) then ((impl_isName.f (bt a0 0)).bind fun nR => (some nR)) else (none)) else (some false)) = some r := h
 clear h
 by_cases c2 : (a0.size : Int) = 1
 ·rw [if_pos c2] at H
  have c2b0 : ((a0.size : Int) == 1) = true := qT c2
  have c2b1 : ((a0.size : Int) != 1) = false := nF c2
  clear c2
  by_cases c3 : 0 < (a0.size : Int)
  ·rw [if_pos c3] at H
   have c3b0 : decide (0 < (a0.size : Int)) = true := dT c3
   have c3b1 : decide (0 < a0.size) = true := dT (by omega)
   clear c3
   obtain ⟨nR, A5, H⟩ := oA_ H
   try dsimp only at H
   obtain rfl := sI H
   have p4 : 0 ≤ (0 : Int) := (by omega)
   have q4 : 0 < a0.size := (by have : (0 : Int) < (a0.size : Int) := oD z2; omega)
   have hx4 : ∀ h : 0 < a0.size, ((a0[0]'h).toNat : Int) = bt a0 0 := bt_at a0 0
   clear p4
   have qi4 : (0 < (a0.size : Int)) = True := eq_true (oD z2)
   replace q4 := eq_true q4
   go_enter Try.func78, Try.ntmps78
   go_wp2_with (first | (go_at_call 50; (with_reducible refine (impl_isName.calls (bt a0 0) nR _ A5.out).mono ?_); rintro e w' ⟨rfl, ⟨nd, rfl⟩⟩))
   go_ret
   exact ⟨y1, y3⟩
  ·rw [if_neg c3] at H
   exact absurd H (by simp)
 ·rw [if_neg c2] at H
  have c2b0 : ((a0.size : Int) == 1) = false := qF c2
  have c2b1 : ((a0.size : Int) != 1) = true := nT c2
  obtain rfl := sI H
  go_enter Try.func78, Try.ntmps78
  go_wp2
  go_ret
  exact ⟨y1, y3⟩

/-! ### impl_around: function 79 -/
def impl_around.l0 : Nat → ByteArray → List Int → Int → Int → Option (List Int)
 | 0, _, _, _, _ => none
 | k + 1, x0, x5, x7, x8 => if x8 < x7 then (if 0 ≤ x8 then (if x8 < (x0.size : Int) then ((impl_isName.f (bt x0 x8)).bind fun qW => (if qW = true then (if x5.length < 17592186044416 then (impl_around.l0 k x0 (x5 ++ [x8]) x7 (wrap64 (x8 + 1))) else (none)) else (if (bt x0 x8) = 47 then (if 0 ≤ (wrap64 ((x5.length : Int) - 1)) then (if (wrap64 ((x5.length : Int) - 1)) ≤ (x5.length : Int) then (impl_around.l0 k x0 (x5.take ((wrap64 ((x5.length : Int) - 1)) : Int).toNat) x7 (wrap64 (x8 + 1))) else (none)) else (none)) else (impl_around.l0 k x0 x5 x7 (wrap64 (x8 + 1)))))) else (none)) else (none)) else (some x5)
def impl_around.f (k : Nat) (a0 : ByteArray) (a1 : Int) : Option (List Int) := impl_around.l0 k a0 ([] : List Int) a1 0
theorem impl_around.mono_l : ∀ k, (∀ y0 y1 y2 y3, LeO (impl_around.l0 k y0 y1 y2 y3) (impl_around.l0 (k + 1) y0 y1 y2 y3))
 | 0 => fun _ _ _ _ r h => by simp [impl_around.l0] at h
 | k + 1 => by
  have ih0 := impl_around.mono_l k
  ·intro y0 y1 y2 y3
   unfold impl_around.l0
   repeat' first
   | (with_reducible exact ih0 _ _ _ _)
   | (with_reducible exact LeO.refl _)
   | (with_reducible exact LeO.none _)
   | (with_reducible refine LeO.ite ?_ ?_)
   | (with_reducible refine LeO.bind ?_ (fun _ => ?_))
theorem impl_around.mono : ∀ a0 a1 k, LeO (impl_around.f k a0 a1) (impl_around.f (k + 1) a0 a1) := by
 intro a0 a1 k
 have ih0 := impl_around.mono_l k
 unfold impl_around.f
 repeat' first
   | (with_reducible exact ih0 _ _ _ _)
   | (with_reducible exact LeO.refl _)
   | (with_reducible exact LeO.none _)
   | (with_reducible refine LeO.ite ?_ ?_)
   | (with_reducible refine LeO.bind ?_ (fun _ => ?_))
set_option maxHeartbeats 8000000 in
set_option maxRecDepth 100000 in
theorem impl_around.calls (k : Nat) (a0 : ByteArray) (a1 : Int) (r : List Int) (w : World) (h : impl_around.f k a0 a1 = some r) :
  Calls Try.prog 79 #[.string a0, .int .i64 a1] w fun e w' => ∃ v0_ : Value, e = .returned (v0_) ∧ Kd.R (Kd.int .i64) 3 w' w.heap.size (fun _ => True) v0_ r ∧ Below w.heap.size w w' := by
 have HB := aM (Below.refl w.heap.size w)
 have H : (impl_around.l0 k a0 ([] : List Int) a1 0) = some r := h
 clear h
 have H' := aM H
 clear H
 go_enter Try.func79, Try.ntmps79
 go_wp2
 go_loopg [5, 8] k (fun kq v5 v8 w' => ∃ (x5_1 : List Int) (x8_1 : Int), v8 = .int .i64 x8_1 ∧ Aside0 (impl_around.l0 kq a0 x5_1 a1 x8_1 = some r) ∧ Aside0 (kq ≤ k) ∧ Aside0 (Kd.R (Kd.int .i64) 3 w' w.heap.size (fun _ => True) v5 x5_1) ∧ Aside0 (Below w.heap.size w w'))
 case atStart => exact ⟨(([] : List Int)), (0), z1, H', ⟨Nat.le_refl _⟩, ⟨y20⟩, ⟨y5⟩⟩
 case round =>
  clear H'
  obtain ⟨x5_1, x8_1, rfl, HA, HK1, kV, HB⟩ := hrel
  cases gk with
  | zero => exact absurd HA.out (by simp [impl_around.l0])
  | succ k1 =>
   have H := HA.out
   clear HA
   simp only [impl_around.l0] at H
   by_cases c3 : x8_1 < a1
   ·rw [if_pos c3] at H
    have c3b0 : decide (x8_1 < a1) = true := dT c3
    clear c3
    by_cases c4 : 0 ≤ x8_1
    ·rw [if_pos c4] at H
     have c4b0 : decide (0 ≤ x8_1) = true := dT c4
     clear c4
     by_cases c5 : x8_1 < (a0.size : Int)
     ·rw [if_pos c5] at H
      have c5b0 : decide (x8_1 < (a0.size : Int)) = true := dT c5
      clear c5
      obtain ⟨qW, A7, H⟩ := oA_ H
      try dsimp only at H
      by_cases c8 : qW = true
      ·subst c8
       rw [if_pos rfl] at H
       by_cases c9 : x5_1.length < 17592186044416
       ·rw [if_pos c9] at H
        have LMc9 := aM c9
        clear c9
        obtain ⟨y238, hy238⟩ : ∃ y_ : List Int, y_ = (x5_1 ++ [x8_1]) := ⟨_, rfl⟩
        replace H : (impl_around.l0 k1 a0 y238 a1 (wrap64 (x8_1 + 1))) = some r := by first | (rw [hy238]; with_reducible exact H) | (have H2_ := (Option.bind_some _ _).symm.trans H; rw [hy238]; with_reducible exact H2_) | (have H2_ := (Option.bind_some _ _).symm.trans H; with_reducible exact H2_) | with_reducible exact H | (rw [hy238]; exact H) | exact H
        have Ny238 := aM hy238
        clear hy238
        have H' := aM H
        clear H
        have p6 : 0 ≤ (x8_1 : Int) := oD z2
        have q6 : x8_1 < (a0.size : Int) := oD z2
        have hx6 := bt_at a0 x8_1
        replace p6 := eq_true p6
        replace q6 := eq_true q6
        go_wp2_with (first | ((with_reducible refine av (f := 50) rfl ?_); refine ay (some 15) rfl rfl Try.func50 z0 rfl #[.int .u8 (bt a0 x8_1)] rfl z14 ?_; (with_reducible refine (impl_isName.calls (bt a0 x8_1) true _ A7.out).mono ?_); rintro e w' ⟨rfl, ⟨nd, rfl⟩⟩; refine ⟨_, rfl, ?_⟩) | ((with_reducible refine gate_builtin (b := .append) (xs := #[.tmp 16, .tmp 18]) rfl ?_); at_builtin; refine Kd.R_append (Kd.int .i64) (w0 := w) w.heap.size rfl (.tmp 16) (.tmp 18) 74 3 (.int .i64 0) 8 rfl Try.underlying74 info3 rfl (by decide) (by omega) u5 x5_1 x8_1 [.int .i64 x8_1] (fun _ => True) (fun _ => False) rfl rfl ?aP (fun _ hk => hk.elim) ?aF ?aO ?aB ?aS ?aL ?_; (case aP => exact rfl); (case aB => exact z13); (case aF => exact (fun _ _ => trivial)); (case aO => exact (kR_ kV.out)); (case aS => exact (aq z13)); (case aL => have := LMc9.out; omega); intro v239 w10 ho hb hg hat; rw [← Ny238.out] at ho; replace HB := aM (hb); have HO240 := aM (ho); clear kV; clear ho hb hg hat))
        go_roundg k1
        case measure => have := HK1.out; omega
        case rel => exact ⟨(y238), (wrap64 (x8_1 + 1)), z1, H', ⟨by have := HK1.out; omega⟩, ⟨kR_ HO240.out⟩, ⟨y5⟩⟩
       ·rw [if_neg c9] at H
        exact absurd H (by simp)
      ·replace c8 := Bool.eq_false_iff.mpr c8
       subst c8
       rw [if_neg nF_] at H
       by_cases b5 : (bt a0 x8_1) = 47
       ·rw [if_pos b5] at H
        have c12b0 : ((bt a0 x8_1) == 47) = true := qT b5
        have c12b1 : ((bt a0 x8_1) != 47) = false := nF b5
        clear b5
        obtain ⟨gr, i5⟩ : ∃ j_ : Int, (wrap64 ((x5_1.length : Int) - 1)) = j_ := ⟨_, rfl⟩
        replace H : (if 0 ≤ (gr) then (if (gr) ≤ (x5_1.length : Int) then (impl_around.l0 k1 a0 (x5_1.take ((gr) : Int).toNat) a1 (wrap64 (x8_1 + 1))) else (none)) else (none)) = some r := by first | (rw [i5] at H; exact H) | (simp only [i5] at H ⊢; exact H)
        (try rw [i5] at A7)
        have hji13w : (IntKind.i64.wrap ((x5_1.length : Int) - 1)) = gr := (i64_w _).trans i5
        by_cases cD : 0 ≤ (gr)
        ·rw [if_pos cD] at H
         have c14b0 := eq_true cD
         have c14b1 : decide (0 ≤ (gr)) = true := dT cD
         clear cD
         by_cases cF : (gr) ≤ (x5_1.length : Int)
         ·rw [if_pos cF] at H
          have c15b0 := eq_true cF
          have c15b1 : decide ((gr) ≤ (x5_1.length : Int)) = true := dT cF
          clear cF
          obtain ⟨y241, hy241⟩ : ∃ y_ : List Int, y_ = (x5_1.take ((gr) : Int).toNat) := ⟨_, rfl⟩
          replace H : (impl_around.l0 k1 a0 y241 a1 (wrap64 (x8_1 + 1))) = some r := by first | (rw [hy241]; with_reducible exact H) | (have H2_ := (Option.bind_some _ _).symm.trans H; rw [hy241]; with_reducible exact H2_) | (have H2_ := (Option.bind_some _ _).symm.trans H; with_reducible exact H2_) | with_reducible exact H | (rw [hy241]; exact H) | exact H
          have Ny241 := aM hy241
          clear hy241
          have H' := aM H
          clear H
          have p6 : 0 ≤ (x8_1 : Int) := oD z2
          have q6 : x8_1 < (a0.size : Int) := oD z2
          have hx6 := bt_at a0 x8_1
          replace p6 := eq_true p6
          replace q6 := eq_true q6
          go_wp2_with (first | ((with_reducible refine av (f := 50) rfl ?_); refine ay (some 15) rfl rfl Try.func50 z0 rfl #[.int .u8 (bt a0 x8_1)] rfl z14 ?_; (with_reducible refine (impl_isName.calls (bt a0 x8_1) false _ A7.out).mono ?_); rintro e w' ⟨rfl, ⟨nd, rfl⟩⟩; refine ⟨_, rfl, ?_⟩; have p11 : 0 ≤ (x8_1 : Int) := oD z2; have q11 : x8_1 < (a0.size : Int) := oD z2; have hx11 := bt_at a0 x8_1; replace p11 := eq_true p11; replace q11 := eq_true q11; obtain ⟨rK, rl, eo16⟩ := Kd.R_slice kV.out; subst eo16; have q17 : ((gr) : Int) ≤ ((x5_1.length : Int) : Int) := oD z2; obtain ⟨i017, hi017, _, hsz17, _⟩ := info_parts info3; have hcut17 := cut_to (P := Try.prog) 74 3 .i64 Try.underlying74 hi017 rK x5_1.length rl (gr) (oD z2) q17 (ah kV.out).2.1; have hr17 := Kd.R_take (m := ((gr) : Int).toNat) kV.out (by omega); have hy17 : y241.length = ((gr) : Int).toNat := (by rw [Ny241.out, List.length_take]; omega); rw [← Ny241.out] at hr17; rw [← hy17] at hr17 hcut17; clear hy17 hi017 hsz17 kV; have HO243 := aM hr17; clear hr17; replace q17 := eq_true q17))
          go_roundg k1
          case measure => have := HK1.out; omega
          case rel => exact ⟨(y241), (wrap64 (x8_1 + 1)), z1, (by first | exact H' | (simp only [i5]; exact H') | (simp only [← i5]; exact H')), ⟨by have := HK1.out; omega⟩, ⟨kR_ HO243.out⟩, ⟨y5⟩⟩
         ·rw [if_neg cF] at H
          exact absurd H (by simp)
        ·rw [if_neg cD] at H
         exact absurd H (by simp)
       ·rw [if_neg b5] at H
        have c12b0 : ((bt a0 x8_1) == 47) = false := qF b5
        have c12b1 : ((bt a0 x8_1) != 47) = true := nT b5
        have H' := aM H
        clear H
        have p6 : 0 ≤ (x8_1 : Int) := oD z2
        have q6 : x8_1 < (a0.size : Int) := oD z2
        have hx6 := bt_at a0 x8_1
        replace p6 := eq_true p6
        replace q6 := eq_true q6
        go_wp2_with (first | ((with_reducible refine av (f := 50) rfl ?_); refine ay (some 15) rfl rfl Try.func50 z0 rfl #[.int .u8 (bt a0 x8_1)] rfl z14 ?_; (with_reducible refine (impl_isName.calls (bt a0 x8_1) false _ A7.out).mono ?_); rintro e w' ⟨rfl, ⟨nd, rfl⟩⟩; refine ⟨_, rfl, ?_⟩; have p11 : 0 ≤ (x8_1 : Int) := oD z2; have q11 : x8_1 < (a0.size : Int) := oD z2; have hx11 := bt_at a0 x8_1; replace p11 := eq_true p11; replace q11 := eq_true q11))
        go_roundg k1
        case measure => have := HK1.out; omega
        case rel => exact ⟨(x5_1), (wrap64 (x8_1 + 1)), z1, H', ⟨by have := HK1.out; omega⟩, ⟨kR_ kV.out⟩, ⟨y5⟩⟩
     ·rw [if_neg c5] at H
      exact absurd H (by simp)
    ·rw [if_neg c4] at H
     exact absurd H (by simp)
   ·rw [if_neg c3] at H
    have c3b0 : decide (x8_1 < a1) = false := dF c3
    clear c3
    obtain rfl := sI H
    go_wp2
    go_ret
    exact ⟨_, y4, by (with_reducible repeat (first | apply ac | apply ab | apply aa)); exact kV.out, y5⟩

end Go.Proofs.Ytmigfgcpdelnfaa.AFnUndoneBy
