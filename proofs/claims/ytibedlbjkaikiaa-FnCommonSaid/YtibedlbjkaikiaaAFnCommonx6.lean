-- this session's own text: written by wip/tools/ownprint.py over the kit's print
import Derived.Test.YtibedlbjkaikiaaAFnCommonx0
import Derived.Test.YtibedlbjkaikiaaAFnCommonx1
import Derived.Test.YtibedlbjkaikiaaAFnCommonx2
namespace Go.Proofs.Ytibedlbjkaikiaa.AFnCommon
open Go.RowKit Go.Proofs.YtibedlbjkaikiaaW.PrintWords Go.Proofs.YtibedlbjkaikiaaW.PrintLast Go.Proofs.YtibedlbjkaikiaaW.PrintMore
attribute [local go_sem] max2_int min2_int max_two min_two max_three min_three max_four min_four   -- for this text's walks alone
theorem sA {α : Type _} (xs : List α) (i : Nat) (a : α) : xs.toArray.setIfInBounds i a = (xs.set i a).toArray := List.setIfInBounds_toArray ..
theorem sB {α : Type _} (x : α) (xs : List α) (a : α) : (x :: xs).set 0 a = a :: xs := rfl
theorem sC {α : Type _} (x : α) (xs : List α) (n : Nat) (a : α) : (x :: xs).set (n + 1) a = x :: xs.set n a := rfl
theorem oD {p : Prop} [Decidable p] (h : decide p = true) : p := of_decide_eq_true h
theorem pD {B : Nat} {w W : World} (h : Below B w W) (n : Nat) : Below B w (W.drewN n) := pw_below_drewN h n
theorem bD {base : Nat} {w W : World} (h : Below base w W) : Below base w W.drew := below_drew1 h
theorem aM {p : Prop} (h : p) : Aside0 p := ⟨h⟩
theorem bA {w W : World} (h : Below w.heap.size w W) (o : Obj) : Below w.heap.size w (W.alloc o) := below_alloc h o
set_option linter.unusedVariables false
set_option linter.unusedSimpArgs false

/-! ### impl_CommonOf: function 34, by hand -/
def Z65 : Array Value := Array.replicate 256 (.bool false)
theorem instr_build65 (W : World) : (Instr.build 65 #[]).run Try.prog W = .ok (.agg Z65) W := by kernel_rfl
theorem instr_alloc65 (W : World) : (Instr.alloc 65 true (.tuple #[])).run Try.prog W = .ok (.pointer (some ⟨W.heap.size, 0, none⟩)) (W.alloc (.cells Z65 65)) := by kernel_rfl
theorem run_build65 (W : World) (ρ : Operand → Value) (o : Oper) (ho : o.op = .build 65 #[]) : (execOp ρ o).run Try.prog W = .ok (.value (.agg Z65)) W := by
 have e : (execOp ρ o) = (do pure (.value (← Instr.build 65 #[])) : Sem Next) := by unfold execOp; rw [ho]; simp only [List.map_toArray, List.map_nil]
 rw [e, Sem.run_bind, instr_build65]; rfl
theorem run_alloc65 (W : World) (ρ : Operand → Value) (o : Oper) (ho : o.op = .alloc 65) : (execOp ρ o).run Try.prog W = .ok (.value (.pointer (some ⟨W.heap.size, 0, none⟩))) (W.alloc (.cells Z65 65)) := by
 have e : (execOp ρ o) = (do pure (.value (← Instr.alloc 65 true (.tuple #[]))) : Sem Next) := by unfold execOp; rw [ho]
 rw [e, Sem.run_bind, instr_alloc65]; rfl
theorem Z65_size : Z65.size = 256 := by unfold Z65; exact Array.size_replicate
theorem info65 : (Try.prog.info? 65).map (·.size) = some 256 := by kernel_rfl
section
variable {ops : Array Oper} {rest : List Oper} {o : Oper} {a : Act} {Q : Exit → Act → World → Prop}
/-- The array's block, as a letter. -/
theorem alloc65_event {W : World} (hgd : o.guard = none) {N : Tmp} (_hd : o.dst = some N) (ho : o.op = .alloc 65)
  (h : ∀ g, g = W.heap.size → ∀ w1, w1.heap[g]? = some (.cells Z65 65 (0, 0)) → Below W.heap.size W w1 → wpList Try.prog ops Q rest (a.put o.dst (.pointer (some ⟨g, 0, none⟩))) w1) : wpList Try.prog ops Q (o :: rest) a W :=
 Kd.event_run hgd (run_alloc65 W _ o ho) (h _ rfl _ (blk_new W _) (bA (Below.refl _ _) _))
theorem build65_event {W : World} (hgd : o.guard = none) (ho : o.op = .build 65 #[]) (h : wpList Try.prog ops Q rest (a.put o.dst (.agg Z65)) W) : wpList Try.prog ops Q (o :: rest) a W :=
 Kd.event_run hgd (run_build65 W _ o ho) h
theorem store65_event {W : World} (hgd : o.guard = none) {p x : Operand} (ho : o.op = .store 65 p x) (hN : o.dst = none) {g : Nat} (haddr : a.eval p = .pointer (some ⟨g, 0, none⟩)) (hx : a.eval x = .agg Z65) (hb : W.heap[g]? = some (.cells Z65 65 (0, 0)))
  (h : ∀ w1, w1.heap[g]? = some (.cells Z65 65 (0, 0)) → W.grownBy w1 (some g) → wpList Try.prog ops Q rest a w1) : wpList Try.prog ops Q (o :: rest) a W := by
 have hl : Z65.toList.length = 256 := by rw [Array.length_toList]; exact Z65_size
 have hrun : (Instr.storeAt 65 (.pointer (some ⟨g, 0, none⟩)) (.agg Z65)).run Try.prog W = .ok () (W.setCells g 0 Z65.toList) :=
  run_store_run 65 (.agg Z65) Z65.toList hb rfl (by rw [info65, hl]) (by rw [hl, Z65_size]; omega) (fun q hq => by
   have : q = .bool false := by
    unfold Z65 at hq
    rw [Array.toList_replicate] at hq
    exact List.eq_of_mem_replicate hq
   rw [this]; rfl)
 obtain ⟨cur', h3, h4, h5⟩ := setCells_row Z65.toList 0 W Z65 hb (by rw [hl, Z65_size]; omega)
 obtain ⟨s1, s2, s3, s4⟩ := setCells_same g Z65.toList 0 W
 have hc : cur' = Z65 := by
  apply Array.toList_inj.mp
  rw [h5, List.take_zero, List.nil_append, Nat.zero_add, List.drop_length, List.append_nil]
 rw [hc] at h3
 refine wpList_plain hgd fun K hK => ?_
 unfold Oper.wp execOp
 simp only [ho, haddr, hx, Sem.run_bind, Sem.run_pure, Result.andThen_ok, hrun]
 show K (a.put o.dst undef) _
 rw [hN]
 exact hK a _ (h _ h3 ⟨s1, s2, s3, by rw [s4]; exact Nat.le_refl _, fun k _ hk => setCells_far _ _ k (fun he => hk (by rw [he]))⟩)
end

def bl (s : List Bool) : Array Value := (s.map Value.bool).toArray
def rdB (s : List Bool) (c : Int) : Bool := s.getD c.toNat false
theorem bl_Z65 : Z65 = bl (List.replicate 256 false) := by
 unfold Z65 bl
 rw [List.map_replicate, List.toArray_replicate]
theorem bl_cell {w : World} {g : Nat} {s : List Bool} (h : w.heap[g]? = some (.cells (bl s) 65 (0, 0))) (hl : s.length = 256) (c : Int) (h0 : 0 ≤ c) (h1 : c ≤ 255) : w.cell? ⟨g, c.toNat, none⟩ = some (.bool (rdB s c)) := by
 rw [blk_cell h]
 unfold bl rdB
 have hc : c.toNat < s.length := by omega
 simp [hc, List.getD]
theorem bl_set {w : World} {g : Nat} {s : List Bool} (h : w.heap[g]? = some (.cells (bl s) 65 (0, 0))) (c : Nat) (b : Bool) : (w.setCell ⟨g, c, none⟩ (.bool b)).heap[g]? = some (.cells (bl (s.set c b)) 65 (0, 0)) := by
 have := blk_set h c (.bool b)
 rw [this]
 congr 2
 unfold bl
 apply Array.toList_inj.mp
 simp [List.map_set]
def cmY (a b : ByteArray) (tb : List (List Int)) (i j x : Nat) (bi bj : Int) : Nat → Nat → Option (Int × Int)
 | 0, _ => none
 | d + 1, y => if y < b.size then
   (if bt b (y : Int) = bt a (x : Int) then
    (if x + 1 < tb.length ∧ y + 1 < (rd_L1 tb ((x : Int) + 1)).length ∧ i < tb.length ∧ j < (rd_L1 tb (i : Int)).length then
     (if wrap64 (rd (rd_L1 tb ((x : Int) + 1)) ((y : Int) + 1) + 1) = rd (rd_L1 tb (i : Int)) (j : Int) then some ((x : Int), (y : Int)) else some (bi, bj))
    else none)
   else cmY a b tb i j x bi bj d (y + 1))
  else some (bi, bj)
def cmX (a b : ByteArray) (tb : List (List Int)) (i j : Nat) : Nat → Nat → Int → Int → List Bool → Option (Int × Int)
 | 0, _, _, _, _ => none
 | d + 1, x, bi, bj, seen => if x < a.size then
   (if rdB seen (bt a (x : Int)) = true then cmX a b tb i j d (x + 1) bi bj seen
   else (if bi ≥ 0 then
     (if bi < (a.size : Int) then
      (if bt a (x : Int) ≥ bt a bi then cmX a b tb i j d (x + 1) bi bj seen
      else (cmY a b tb i j x bi bj (b.size + 1) j).bind fun p => cmX a b tb i j d (x + 1) p.1 p.2 (seen.set (bt a (x : Int)).toNat true))
     else none)
    else (cmY a b tb i j x bi bj (b.size + 1) j).bind fun p => cmX a b tb i j d (x + 1) p.1 p.2 (seen.set (bt a (x : Int)).toNat true)))
  else some (bi, bj)
def cmO (a b : ByteArray) (tb : List (List Int)) : Nat → List Int → Nat → Nat → Option (List Int)
 | 0, _, _, _ => none
 | d + 1, out, i, j => if i < tb.length ∧ j < (rd_L1 tb (i : Int)).length then
   (if rd (rd_L1 tb (i : Int)) (j : Int) > 0 then
    (cmX a b tb i j (a.size + 1) i (-1) (-1) (List.replicate 256 false)).bind fun p =>
     (if 0 ≤ p.1 ∧ p.1 < (a.size : Int) ∧ 0 ≤ p.2 ∧ p.2 < (b.size : Int) ∧ out.length < 140737488355327 then cmO a b tb d (out ++ [bt a p.1]) (p.1 + 1).toNat (p.2 + 1).toNat else none)
   else some out)
  else none
def impl_CommonOf.f (k : Nat) (a0 : ByteArray) (a1 : ByteArray) : Option (ByteArray × Bool) := if a0.size + a1.size < 4611686018427387904 then (impl_areTexts.f k a0 a1).bind fun t => (if t = true then ((impl_common.f k a0 a1).bind fun tb => (cmO a0 a1 tb (a0.size + 1) [] 0 0).bind fun o => some (strOfNums o, true)) else some (⟨#[]⟩, false)) else none
def OAt (w : World) (a b : ByteArray) (tb : List (List Int)) (vt : Value) (L : List Int) (d : Nat) (v7 v8 v9 : Value) (w' : World) : Prop :=
 ∃ (i j : Nat) (out : List Int), v8 = .int .i64 i ∧ v9 = .int .i64 j ∧ Kd.R (Kd.int .u8) 5 w' w.heap.size (fun _ => True) v7 out ∧ Kd.R (Kd.slice 3 (Kd.int .i64)) 25 w' w.heap.size (fun _ => True) vt tb ∧ Below w.heap.size w w' ∧ cmO a b tb d out i j = some L
def XAt (w : World) (a b : ByteArray) (tb : List (List Int)) (vt v7 : Value) (out : List Int) (gs i j : Nat) (p : Int × Int) (d : Nat) (v10 v11 v13 : Value) (w' : World) : Prop :=
 ∃ (x : Nat) (bi bj : Int) (seen : List Bool), v10 = .int .i64 bi ∧ v11 = .int .i64 bj ∧ v13 = .int .i64 x ∧ seen.length = 256 ∧ w'.heap[gs]? = some (.cells (bl seen) 65 (0, 0)) ∧ Kd.R (Kd.int .u8) 5 w' w.heap.size (fun _ => True) v7 out ∧ Kd.R (Kd.slice 3 (Kd.int .i64)) 25 w' w.heap.size (fun _ => True) vt tb ∧ Below w.heap.size w w' ∧ cmX a b tb i j d x bi bj seen = some p
def YAt (w : World) (a b : ByteArray) (tb : List (List Int)) (vt v7 : Value) (out : List Int) (gs i j x : Nat) (bi bj : Int) (seen : List Bool) (q : Int × Int) (d : Nat) (v10 v11 v14 : Value) (w' : World) : Prop :=
 ∃ (y : Nat), v10 = .int .i64 bi ∧ v11 = .int .i64 bj ∧ v14 = .int .i64 y ∧ w'.heap[gs]? = some (.cells (bl seen) 65 (0, 0)) ∧ Kd.R (Kd.int .u8) 5 w' w.heap.size (fun _ => True) v7 out ∧ Kd.R (Kd.slice 3 (Kd.int .i64)) 25 w' w.heap.size (fun _ => True) vt tb ∧ Below w.heap.size w w' ∧ cmY a b tb i j x bi bj d y = some q
def XCut (wx : World) (a b : ByteArray) (tb : List (List Int)) (i j d x : Nat) (bi bj : Int) (seen : List Bool) (p : Int × Int) (v55 : Value) (wc : World) : Prop :=
 ∃ (c : Bool) (n : Nat), v55 = .bool c ∧ wc = wx.drewN n ∧ (c = true → cmX a b tb i j d (x + 1) bi bj seen = some p) ∧ (c = false → ((cmY a b tb i j x bi bj (b.size + 1) j).bind fun q => cmX a b tb i j d (x + 1) q.1 q.2 (seen.set (bt a (x : Int)).toNat true)) = some p)
set_option maxHeartbeats 8000000 in
set_option maxRecDepth 100000 in
theorem impl_CommonOf.calls (k : Nat) (a0 : ByteArray) (a1 : ByteArray) (r1 : ByteArray) (r2 : Bool) (w : World) (h : impl_CommonOf.f k a0 a1 = some (r1, r2)) :
  Calls Try.prog 34 #[.string a0, .string a1] w fun e w' => e = .returned (.tuple #[.string r1, .bool r2]) ∧ Below w.heap.size w w' := by
 unfold impl_CommonOf.f at h
 split at h
 case isFalse => cases h
 case isTrue hsz =>
 obtain ⟨t, ht, h⟩ := Option.bind_eq_some_iff.mp h
 have HT := aM ht
 cases t with
 | false =>
  simp only [Bool.false_eq_true, if_false, Option.some.injEq, Prod.mk.injEq] at h
  obtain ⟨rfl, rfl⟩ := h
  clear ht hsz
  go_enter Try.func34, Try.ntmps34
  go_wp2_with (first | (go_at_call 49; refine (impl_areTexts.calls k a0 a1 false _ HT.out).mono ?_; rintro e w' ⟨rfl, ⟨nd, rfl⟩⟩))
  go_ret2
  exact ⟨rfl, Drawn0.below ⟨_, rfl⟩⟩
 | true =>
  simp only [if_true] at h
  obtain ⟨tb, htb, h⟩ := Option.bind_eq_some_iff.mp h
  obtain ⟨L, hL, h⟩ := Option.bind_eq_some_iff.mp h
  simp only [Option.some.injEq, Prod.mk.injEq] at h
  obtain ⟨rfl, rfl⟩ := h
  have HTB := aM htb
  have HL := aM hL
  have HSZ := aM hsz
  clear ht htb hL hsz
  go_enter Try.func34, Try.ntmps34
  go_wp2_with (first | (go_at_call 49; refine (impl_areTexts.calls k a0 a1 true _ HT.out).mono ?_; rintro e w' ⟨rfl, ⟨nd, rfl⟩⟩) | (go_at_call 52; refine (impl_common.calls k a0 a1 tb _ HTB.out).mono ?_; rintro e w1 ⟨vt, rfl, hst, hb1⟩; have HST := aM (Kd.R_lower (Kd.S_R hst) (Nat.le_refl w.heap.size)); have HB1 : Aside0 (Below w.heap.size w w1) := ⟨below_step (pD (Below.refl _ _) _) hb1⟩; clear hst hb1))
  obtain ⟨At, ct, eo⟩ := Kd.R_slice HST.out
  subst eo
  go_loopg [7, 8, 9] (a0.size + 1) (fun d v7 v8 v9 w' => OAt w a0 a1 tb (.slice At tb.length ct) L d v7 v8 v9 w')
  case atStart => exact ⟨0, 0, [], rfl, rfl, Kd.R_nil _ _ _ _ _, HST.out, HB1.out, HL.out⟩
  case round =>
   obtain ⟨i, j, out, rfl, rfl, ho, htb, hb, hd⟩ := hrel
   obtain ⟨wo, rfl⟩ : ∃ wo : World, wo = wr := ⟨_, rfl⟩
   cases gk with
   | zero => exact absurd hd (by simp [cmO])
   | succ k1 =>
   unfold cmO at hd
   split at hd
   case isFalse => cases hd
   case isTrue hij =>
   obtain ⟨hi, hj⟩ := hij
   have HO := aM ho
   have HTB := aM htb
   have HB := aM hb
   obtain ⟨Ao, co, eo⟩ := Kd.R_slice ho
   obtain ⟨ad, A1, c1, e1, t1, l1, g1⟩ := at_L1 (Kd.R_reads' htb).2.2 (i : Int) (by omega) (by omega)
   obtain rfl := e1
   obtain ⟨b1, f1, r1⟩ := Kd.at_int g1 (j : Int) (by omega) (by omega)
   obtain rfl := f1
   simp only [Int.toNat_natCast] at t1 r1
   have q1 : (i < tb.length) = True := eq_true hi
   have q2 : (j < (rd_L1 tb (i : Int)).length) = True := eq_true hj
   clear g1 l1 ho htb hb
   by_cases hpos : rd (rd_L1 tb (i : Int)) (j : Int) > 0
   ·rw [if_pos hpos] at hd
    obtain ⟨p, hX, hd⟩ := Option.bind_eq_some_iff.mp hd
    split at hd
    case isFalse => cases hd
    case isTrue hp =>
    have HD := aM hd
    have HX := aM hX
    have HP := aM hp
    have hpb : decide (rd (rd_L1 tb (i : Int)) (j : Int) > 0) = true := decide_eq_true hpos
    clear hd hX hp hpos
    subst eo
    go_wp2_with (first | ((with_reducible refine gate_ (.build 65 #[]) rfl ?_); refine build65_event rfl rfl ?_) | ((with_reducible refine gate_dst (N := 12) rfl ?_); refine alloc65_event rfl (N := 12) rfl rfl ?_; intro gs hgs w3 hbk3 hb3; have HBK3 := aM hbk3; have HB3 := aM hb3; have HGS := aM hgs; clear hbk3 hb3 hgs) | ((with_reducible refine gate_store (t := 65) (p := 12) (v := .tmp 30) rfl ?_); refine store65_event (g := gs) rfl rfl rfl rfl rfl HBK3.out ?_; intro w4 hbk4 hg4; have HBK4 := aM hbk4; have HG4 := aM hg4; clear hbk4 hg4))
    have hk4 := HBK4.out
    rw [bl_Z65] at hk4
    have hgw : w.heap.size ≤ gs := by rw [HGS.out]; exact HB.out.size
    have HGW := aM hgw
    have HB4 : Aside0 (Below w.heap.size w w4) := ⟨(below_step HB.out HB3.out).trans ⟨HG4.out.os, HG4.out.tape, HG4.out.output, HG4.out.size, fun q hq => HG4.out.block q (Nat.lt_of_lt_of_le hq (below_step HB.out HB3.out).size) (fun e => by injection e with e; omega)⟩⟩
    have HO4 : Aside0 (Kd.R (Kd.int .u8) 5 w4 w.heap.size (fun _ => True) (.slice Ao out.length co) out) := ⟨Kd.R_mono (Kd.R_grown (Kd.R_types (Kd.R_below HO.out HB3.out) HBK3.out (by decide)) HG4.out (fun q hq e => hq.2 (Option.some.inj e))) (fun _ hq => hq.1)⟩
    have HTB4 : Aside0 (Kd.R (Kd.slice 3 (Kd.int .i64)) 25 w4 w.heap.size (fun _ => True) (.slice (some ad) tb.length ct) tb) := ⟨Kd.R_mono (Kd.R_grown (Kd.R_types (Kd.R_below HTB.out HB3.out) HBK3.out (by decide)) HG4.out (fun q hq e => hq.2 (Option.some.inj e))) (fun _ hq => hq.1)⟩
    have HK4 := aM hk4
    clear hk4 t1 r1 hgw
    go_loopg [10, 11, 13] (a0.size + 1) (fun d v10 v11 v13 w' => XAt w a0 a1 tb (.slice (some ad) tb.length ct) (.slice Ao out.length co) out gs i j p d v10 v11 v13 w')
    case atStart => exact ⟨i, -1, -1, List.replicate 256 false, rfl, rfl, rfl, by simp, HK4.out, HO4.out, HTB4.out, HB4.out, HX.out⟩
    case round =>
     obtain ⟨x, bi, bj, seen, rfl, rfl, rfl, hsl, hbk, ho, htb, hb, hx⟩ := hrel
     obtain ⟨wx, rfl⟩ : ∃ wx : World, wx = wr := ⟨_, rfl⟩
     cases gk with
     | zero => exact absurd hx (by simp [cmX])
     | succ k2 =>
     unfold cmX at hx
     have HK := aM hbk
     have HO2 := aM ho
     have HTB2 := aM htb
     have HB2 := aM hb
     clear HO4 HTB4 HB4 HK4 HX HBK3 HB3 HBK4 HG4
     by_cases hxa : x < a0.size
     ·rw [if_pos hxa] at hx
      have HSL := aM hsl
      have HXN : Aside0 (wrap64 ((x : Int) + 1) = ((x + 1 : Nat) : Int)) := ⟨by have := HSZ.out; unfold wrap64; omega⟩
      have pxa : decide (x < a0.size) = true := decide_eq_true hxa
      have xx : ∀ h : x < a0.size, ((a0[x]'h).toNat : Int) = bt a0 (x : Int) := fun h => by have := bt_at a0 (x : Int); simp only [Int.toNat_natCast] at this; exact this h
      have hr0 := (bt_range a0 (x : Int)).1
      have hr1 := (bt_range a0 (x : Int)).2
      have hcell := bl_cell hbk hsl (bt a0 (x : Int)) hr0 hr1
      have hr2 : (bt a0 (x : Int) < 256) = True := eq_true (by omega)
      have hr3 : (0 ≤ bt a0 (x : Int)) = True := eq_true hr0
      have HR0 := aM hr0
      have HR1 := aM hr1
      clear hr0 hr1 hbk ho htb hb hsl
      go_upto_region 12 with fail
      go_cut [55] (fun v55 wc => XCut wx a0 a1 tb i j k2 x bi bj seen p v55 wc)
      case first =>
       by_cases hs : rdB seen (bt a0 (x : Int)) = true
       ·rw [if_pos hs] at hx
        have HN := aM hx
        clear hx
        rw [hs] at hcell
        clear hs
        go_wp2
        go_quiet (fail)
        go_wp2
        go_meet
        exact ⟨true, _, rfl, rfl, fun _ => HN.out, (fun e => by cases e)⟩
       ·rw [if_neg hs] at hx
        replace hs := Bool.eq_false_iff.mpr hs
        rw [hs] at hcell
        clear hs
        by_cases hb0 : bi ≥ 0
        ·rw [if_pos hb0] at hx
         split at hx
         case isFalse => cases hx
         case isTrue hba =>
         have pb0 : decide (bi ≥ 0) = true := decide_eq_true hb0
         have pb0' : (0 ≤ bi) = True := eq_true hb0
         have xb := bt_at a0 bi
         have pba : (bi < (a0.size : Int)) = True := eq_true hba
         have pbn : bi.toNat < a0.size := by omega
         by_cases hge : bt a0 (x : Int) ≥ bt a0 bi
         ·rw [if_pos hge] at hx
          have HN := aM hx
          have pge : decide (bt a0 (x : Int) ≥ bt a0 bi) = true := decide_eq_true hge
          clear hx hge hb0 hba
          go_wp2
          go_quiet (fail)
          go_wp2
          go_meet
          exact ⟨true, _, rfl, rfl, fun _ => HN.out, (fun e => by cases e)⟩
         ·rw [if_neg hge] at hx
          have HN := aM hx
          have pge : decide (bt a0 (x : Int) ≥ bt a0 bi) = false := decide_eq_false hge
          clear hx hge hb0 hba
          go_wp2
          go_quiet (fail)
          go_wp2
          go_meet
          exact ⟨false, _, rfl, rfl, (fun e => by cases e), fun _ => HN.out⟩
        ·rw [if_neg hb0] at hx
         have HN := aM hx
         have pb0 : decide (bi ≥ 0) = false := decide_eq_false hb0
         clear hx hb0
         go_wp2
         go_quiet (fail)
         go_wp2
         go_meet
         exact ⟨false, _, rfl, rfl, (fun e => by cases e), fun _ => HN.out⟩
      case rest =>
       obtain ⟨b, n, rfl, rfl, hc1, hc2⟩ := hcut
       clear hx hcell
       cases b with
       | true =>
        have HC1 := aM (hc1 rfl)
        clear hc1 hc2
        go_wp2
        go_roundg k2
        case measure => omega
        case rel => exact ⟨x + 1, bi, bj, seen, rfl, rfl, by first | rw [HXN.out] | go_num, HSL.out, HK.out, Kd.R_drewN HO2.out _, Kd.R_drewN HTB2.out _, pD HB2.out _, HC1.out⟩
       | false =>
        clear hc1
        obtain ⟨q, hq, hx2⟩ := Option.bind_eq_some_iff.mp (hc2 rfl)
        have HQ := aM hq
        have HX2 := aM hx2
        clear hc2 hq hx2
        have hfz := blk_frozen HK.out (bt a0 (x : Int)).toNat
        have hc0 : (wx.cell? ⟨gs, (bt a0 (x : Int)).toNat, none⟩) = some (.bool (rdB seen (bt a0 (x : Int)))) := bl_cell HK.out HSL.out _ HR0.out HR1.out
        have HKs := aM (bl_set HK.out (bt a0 (x : Int)).toNat true)
        have HOs := aM (Kd.R_set HO2.out HK.out (by decide) (bt a0 (x : Int)).toNat (.bool true))
        have HTs := aM (Kd.R_set HTB2.out HK.out (by decide) (bt a0 (x : Int)).toNat (.bool true))
        have HBs := aM (below_set (j := (bt a0 (x : Int)).toNat) (v := .bool true) HB2.out HGW.out)
        go_wp2
        go_loopg [10, 11, 14] (a1.size + 1) (fun d v10 v11 v14 w' => YAt w a0 a1 tb (.slice (some ad) tb.length ct) (.slice Ao out.length co) out gs i j x bi bj (seen.set (bt a0 (x : Int)).toNat true) q d v10 v11 v14 w')
        case atStart => exact ⟨j, rfl, rfl, rfl, (by first | exact HKs.out | exact blk_drewN HKs.out _ | exact blk_drewN (blk_drewN HKs.out _) _), (by first | exact HOs.out | exact Kd.R_drewN HOs.out _ | exact Kd.R_drewN (Kd.R_drewN HOs.out _) _), (by first | exact HTs.out | exact Kd.R_drewN HTs.out _ | exact Kd.R_drewN (Kd.R_drewN HTs.out _) _), (by first | exact HBs.out | exact pD HBs.out _ | exact pD (pD HBs.out _) _), HQ.out⟩
        case round =>
         obtain ⟨y, rfl, rfl, rfl, hbk, ho, htb, hb, hy⟩ := hrel
         obtain ⟨wy, rfl⟩ : ∃ wy : World, wy = wr := ⟨_, rfl⟩
         cases gk with
         | zero => exact absurd hy (by simp [cmY])
         | succ k3 =>
         unfold cmY at hy
         have HK5 := aM hbk
         have HO5 := aM ho
         have HTB5 := aM htb
         have HB5 := aM hb
         clear HKs HOs HTs HBs hbk ho htb hb hfz hc0
         by_cases hyb : y < a1.size
         ·rw [if_pos hyb] at hy
          have HYN : Aside0 (wrap64 ((y : Int) + 1) = ((y + 1 : Nat) : Int)) := ⟨by have := HSZ.out; unfold wrap64; omega⟩
          have xx : ∀ h : x < a0.size, ((a0[x]'h).toNat : Int) = bt a0 (x : Int) := fun h => by have := bt_at a0 (x : Int); simp only [Int.toNat_natCast] at this; exact this h
          have xy : ∀ h : y < a1.size, ((a1[y]'h).toNat : Int) = bt a1 (y : Int) := fun h => by have := bt_at a1 (y : Int); simp only [Int.toNat_natCast] at this; exact this h
          have pyb : decide (y < a1.size) = true := decide_eq_true hyb
          by_cases hbt : bt a1 (y : Int) = bt a0 (x : Int)
          ·rw [if_pos hbt] at hy
           split at hy
           case isFalse => cases hy
           case isTrue hg =>
           have hbb : (bt a1 (y : Int) == bt a0 (x : Int)) = true := beq_iff_eq.mpr hbt
           clear hbt
           go_wp2
           go_quiet (fail)
           go_wp2
           obtain ⟨hg1, hg2, hg3, hg4⟩ := hg
           obtain ⟨s, hs⟩ : ∃ s : Int, (x : Int) + 1 = s := ⟨_, rfl⟩
           obtain ⟨u, hu⟩ : ∃ u : Int, (y : Int) + 1 = u := ⟨_, rfl⟩
           rw [hs, hu] at hy
           rw [hs] at hg2
           have hs0 : 0 ≤ s := by omega
           have hs1 : s < (tb.length : Int) := by omega
           have hu0 : 0 ≤ u := by omega
           have hu1 : u < ((rd_L1 tb s).length : Int) := by omega
           obtain ⟨ad1, A1, d1, e1, t1, l1, g1⟩ := at_L1 (Kd.R_reads' HTB5.out).2.2 s hs0 hs1
           obtain ⟨ad2, A2, d2, e2, t2, l2, g2⟩ := at_L1 (Kd.R_reads' HTB5.out).2.2 (i : Int) (by omega) (by omega)
           obtain rfl := Option.some.inj e1
           obtain rfl := Option.some.inj e2
           obtain ⟨b1, f1, r1⟩ := Kd.at_int g1 u hu0 hu1
           obtain ⟨b2, f2, r2⟩ := Kd.at_int g2 (j : Int) (by omega) (by omega)
           simp only [Int.toNat_natCast] at t2 r2
           have HSX : Aside0 (s = ((x + 1 : Nat) : Int)) := ⟨by omega⟩
           have hw1 : IntKind.i64.wrap ((x : Int) + 1) = s := (i64_w _).trans (HXN.out.trans (by omega))
           have hw2 : IntKind.i64.wrap ((y : Int) + 1) = u := (i64_w _).trans (HYN.out.trans (by omega))
           obtain ⟨z, hz⟩ : ∃ z : Int, wrap64 (rd (rd_L1 tb s) u + 1) = z := ⟨_, rfl⟩
           rw [hz] at hy
           have hw3 : IntKind.i64.wrap (rd (rd_L1 tb s) u + 1) = z := (i64_w _).trans hz
           replace hs0 := eq_true hs0
           replace hs1 := eq_true hs1
           replace hu0 := eq_true hu0
           replace hu1 := eq_true hu1
           have q3 : (j < (rd_L1 tb (i : Int)).length) = True := eq_true hg4
           have q5 : (i < tb.length) = True := eq_true hg3
           obtain rfl := f1
           obtain rfl := f2
           clear e1 e2 g1 g2 l1 l2 hs hu hz hg1 hg2 hg3 hg4
           by_cases hE : z = rd (rd_L1 tb (i : Int)) (j : Int)
           ·rw [if_pos hE] at hy
            obtain rfl := Option.some.inj hy
            have hEb : (z == rd (rd_L1 tb (i : Int)) (j : Int)) = true := beq_iff_eq.mpr hE
            clear hE hy
            go_quiet (fail)
            go_wp2
            go_roundg k2
            case measure => omega
            case rel => exact ⟨x + 1, (x : Int), (y : Int), _, rfl, rfl, by first | rw [HXN.out] | rw [HSX.out] | go_num, by rw [List.length_set]; exact HSL.out, (by first | exact HK5.out | exact blk_drewN HK5.out _ | exact blk_drewN (blk_drewN HK5.out _) _), (by first | exact HO5.out | exact Kd.R_drewN HO5.out _ | exact Kd.R_drewN (Kd.R_drewN HO5.out _) _), (by first | exact HTB5.out | exact Kd.R_drewN HTB5.out _ | exact Kd.R_drewN (Kd.R_drewN HTB5.out _) _), (by first | exact HB5.out | exact pD HB5.out _ | exact pD (pD HB5.out _) _), HX2.out⟩
           ·rw [if_neg hE] at hy
            obtain rfl := Option.some.inj hy
            have hEb : (z == rd (rd_L1 tb (i : Int)) (j : Int)) = false := beq_eq_false_iff_ne.mpr hE
            clear hE hy
            go_quiet (fail)
            go_wp2
            go_roundg k2
            case measure => omega
            case rel => exact ⟨x + 1, bi, bj, _, rfl, rfl, by first | rw [HXN.out] | rw [HSX.out] | go_num, by rw [List.length_set]; exact HSL.out, (by first | exact HK5.out | exact blk_drewN HK5.out _ | exact blk_drewN (blk_drewN HK5.out _) _), (by first | exact HO5.out | exact Kd.R_drewN HO5.out _ | exact Kd.R_drewN (Kd.R_drewN HO5.out _) _), (by first | exact HTB5.out | exact Kd.R_drewN HTB5.out _ | exact Kd.R_drewN (Kd.R_drewN HTB5.out _) _), (by first | exact HB5.out | exact pD HB5.out _ | exact pD (pD HB5.out _) _), HX2.out⟩
          ·rw [if_neg hbt] at hy
           have HN := aM hy
           have hbb : (bt a1 (y : Int) == bt a0 (x : Int)) = false := beq_eq_false_iff_ne.mpr hbt
           clear hy hbt
           go_wp2
           go_quiet (fail)
           go_wp2
           go_roundg k3
           case measure => omega
           case rel => exact ⟨y + 1, rfl, rfl, by first | rw [HYN.out] | go_num, (by first | exact HK5.out | exact blk_drewN HK5.out _ | exact blk_drewN (blk_drewN HK5.out _) _), (by first | exact HO5.out | exact Kd.R_drewN HO5.out _ | exact Kd.R_drewN (Kd.R_drewN HO5.out _) _), (by first | exact HTB5.out | exact Kd.R_drewN HTB5.out _ | exact Kd.R_drewN (Kd.R_drewN HTB5.out _) _), (by first | exact HB5.out | exact pD HB5.out _ | exact pD (pD HB5.out _) _), HN.out⟩
         ·rw [if_neg hyb] at hy
          obtain rfl := Option.some.inj hy
          have pyb : decide (y < a1.size) = false := decide_eq_false hyb
          clear hy
          go_wp2
          go_roundg k2
          case measure => omega
          case rel => exact ⟨x + 1, bi, bj, _, rfl, rfl, by first | rw [HXN.out] | rw [HSX.out] | go_num, by rw [List.length_set]; exact HSL.out, (by first | exact HK5.out | exact blk_drewN HK5.out _ | exact blk_drewN (blk_drewN HK5.out _) _), (by first | exact HO5.out | exact Kd.R_drewN HO5.out _ | exact Kd.R_drewN (Kd.R_drewN HO5.out _) _), (by first | exact HTB5.out | exact Kd.R_drewN HTB5.out _ | exact Kd.R_drewN (Kd.R_drewN HTB5.out _) _), (by first | exact HB5.out | exact pD HB5.out _ | exact pD (pD HB5.out _) _), HX2.out⟩
     ·rw [if_neg hxa] at hx
      obtain rfl := Option.some.inj hx
      have pxa : decide (x < a0.size) = false := decide_eq_false hxa
      obtain ⟨p1, p2, p3, p4, p5⟩ := HP.out
      have xbi := bt_at a0 bi
      have HDD := aM HD.out
      obtain ⟨s, hs⟩ : ∃ s : Int, bi + 1 = s := ⟨_, rfl⟩
      obtain ⟨u, hu⟩ : ∃ u : Int, bj + 1 = u := ⟨_, rfl⟩
      have hw1 : IntKind.i64.wrap (bi + 1) = s := by rw [i64_w, ← hs]; have := HSZ.out; simp only at p1 p2; unfold wrap64; omega
      have hw2 : IntKind.i64.wrap (bj + 1) = u := by rw [i64_w, ← hu]; have := HSZ.out; simp only at p3 p4; unfold wrap64; omega
      have HS1 : Aside0 (s = ((bi + 1).toNat : Int)) := ⟨by rw [← hs]; simp only at p1; omega⟩
      have HU1 : Aside0 (u = ((bj + 1).toNat : Int)) := ⟨by rw [← hu]; simp only at p3; omega⟩
      simp only at p1 p2
      replace p1 := eq_true p1
      replace p2 := eq_true p2
      clear p3 p4 p5 hs hu hx hbk ho htb hb
      go_wp2_with (first | ((with_reducible refine gate_builtin (b := .append) (xs := #[.tmp 94, .tmp 98]) rfl ?_); at_builtin; refine Kd.R_append (Kd.int .u8) (w0 := w) w.heap.size rfl (.tmp 94) (.tmp 98) 30 5 (.int .u8 0) 1 rfl Try.underlying30 info5 rfl (by decide) (by decide) (.slice Ao out.length co) out (bt a0 bi) [.int .u8 (bt a0 bi)] (fun _ => True) (fun _ => False) rfl rfl ?aP (fun _ hk => hk.elim) (fun _ _ => trivial) ?aO ?aB ?aS ?aL ?_; (case aP => exact rfl); (case aB => exact HB2.out); (case aO => exact HO2.out); (case aS => exact HB2.out.size); (case aL => have := HP.out.2.2.2.2; omega); intro v1 wn ho1 hb1 hg1 hat1; have HO3 := aM ho1; have HB3' := aM hb1; have HT3 := aM (Kd.R_over HTB2.out HO2.out (by decide) hg1); clear ho1 hb1 hg1 hat1))
      go_roundg k1
      case measure => omega
      case rel => exact ⟨_, _, _, by rw [HS1.out], by rw [HU1.out], HO3.out, HT3.out, HB3'.out, HDD.out⟩
   ·rw [if_neg hpos] at hd
    obtain rfl := Option.some.inj hd
    have hpb : decide (rd (rd_L1 tb (i : Int)) (j : Int) > 0) = false := decide_eq_false hpos
    have hcv := own_string (P := Try.prog) Try.underlying30 Try.underlying5 Try.underlying9 (Kd.own_of_R HO.out)
    subst eo
    clear hd hpos
    go_wp2
    go_ret2
    exact ⟨rfl, HB.out⟩
theorem impl_CommonOf.mono : ∀ a0 a1 k, LeO (impl_CommonOf.f k a0 a1) (impl_CommonOf.f (k + 1) a0 a1) := by
 intro a0 a1 k
 unfold impl_CommonOf.f
 repeat' first
   | (with_reducible exact impl_areTexts.mono _ _ _)
   | (with_reducible exact impl_common.mono _ _ _)
   | (with_reducible exact LeO.refl _)
   | (with_reducible exact LeO.none _)
   | (with_reducible refine LeO.ite ?_ ?_)
   | (with_reducible refine LeO.bind ?_ (fun _ => ?_))

/-- A state of type 51 at block g of W; what its slices lead to came in by w0. -/
def IsS51 (w0 W : World) (g : Nat) (f0 : List Int) (f1 : Int) (f2 : Int) : Prop := ∃ A0 c0, W.heap[g]? = some (.cells #[.slice A0 f0.length c0, .int .i64 f1, .int .u64 f2] 51 (0, 0)) ∧ w0.heap.size ≤ g ∧ Kd.C (Kd.int .u8) w0 A0 f0.length f0
theorem IsS51.grown {w0 W : World} {g : Nat} {f0 : List Int} {f1 : Int} {f2 : Int} {W1 : World} {row : Option Nat} (h : IsS51 w0 W g f0 f1 f2) (hw : W.grownBy W1 row) (hne : some g ≠ row) : IsS51 w0 W1 g f0 f1 f2 := by
 obtain ⟨A0, c0, hb, hg, hr0⟩ := h
 exact ⟨A0, c0, blk_grown hb hw hne, hg, hr0⟩
theorem IsS51.own_neN {w0 W : World} {g : Nat} {f0 : List Int} {f1 : Int} {f2 : Int} {α : Type} {d : Kd α} {e : Nat} {base : Nat} {ok : Nat → Prop} {v : Value} {xs : List α} (h : IsS51 w0 W g f0 f1 f2) (ho : Kd.N d e W base ok v xs) (ht : e ≠ 51) : some g ≠ v.ownBlock := by
 obtain ⟨A0, c0, hb, hg, hr0⟩ := h
 exact Kd.N_ne ho hb ht
theorem IsS51.fresh {w0 W : World} {g : Nat} {f0 : List Int} {f1 : Int} {f2 : Int} (h : IsS51 w0 W g f0 f1 f2) : ∀ k, W.heap.size ≤ k → k ≠ g := by
 obtain ⟨A0, c0, hb, hg, hr0⟩ := h
 exact Kd.freshB hb
theorem IsS51.kept {w0 W : World} {g : Nat} {f0 : List Int} {f1 : Int} {f2 : Int} {W1 : World} {S : Nat → Prop} (h : IsS51 w0 W g f0 f1 f2) (hk : Kept W W1 S) (hne : ¬ S g) : IsS51 w0 W1 g f0 f1 f2 := by
 obtain ⟨A0, c0, hb, hg, hr0⟩ := h
 exact ⟨A0, c0, blk_kept hb hk hne, hg, hr0⟩
theorem IsS51.below {w0 W : World} {g : Nat} {f0 : List Int} {f1 : Int} {f2 : Int} {W1 : World} (h : IsS51 w0 W g f0 f1 f2) (hw : Below W.heap.size W W1) : IsS51 w0 W1 g f0 f1 f2 := h.grown (grown_of_below hw none) (by simp)
theorem IsS51.alloc {w0 W : World} {g : Nat} {f0 : List Int} {f1 : Int} {f2 : Int} (h : IsS51 w0 W g f0 f1 f2) (o : Obj) : IsS51 w0 (W.alloc o) g f0 f1 f2 := h.below (bA (Below.refl _ _) o)
theorem IsS51.drewN {w0 W : World} {g : Nat} {f0 : List Int} {f1 : Int} {f2 : Int} (h : IsS51 w0 W g f0 f1 f2) (m : Nat) : IsS51 w0 (W.drewN m) g f0 f1 f2 := h
theorem IsS51.drew {w0 W : World} {g : Nat} {f0 : List Int} {f1 : Int} {f2 : Int} (h : IsS51 w0 W g f0 f1 f2) : IsS51 w0 W.drew g f0 f1 f2 := h
theorem IsS51.at_ {w0 W : World} {g : Nat} {f0 : List Int} {f1 : Int} {f2 : Int} {w' : World} {m : Nat} (hq : W.drewN m = w') (h : IsS51 w0 W g f0 f1 f2) : IsS51 w0 w' g f0 f1 f2 := by subst hq; exact IsS51.drewN h m
theorem IsS51.apart {w0 W : World} {g : Nat} {f0 : List Int} {f1 : Int} {f2 : Int} {α : Type} {d : Kd α} {e : Nat} {base : Nat} {ok : Nat → Prop} {v : Value} {xs : List α} (h : IsS51 w0 W g f0 f1 f2) (ho : d.R e W base ok v xs) (ht : ∀ q, q ∈ e :: d.E → q ≠ 51) : d.R e W base (fun k => ok k ∧ k ≠ g) v xs := by
 obtain ⟨A0, c0, hb, hg, hr0⟩ := h
 exact Kd.R_types ho hb ht
theorem IsS51.own_ne {w0 W : World} {g : Nat} {f0 : List Int} {f1 : Int} {f2 : Int} {α : Type} {d : Kd α} {e : Nat} {base : Nat} {ok : Nat → Prop} {v : Value} {xs : List α} (h : IsS51 w0 W g f0 f1 f2) (ho : d.R e W base ok v xs) (ht : e ≠ 51) : some g ≠ v.ownBlock := by
 obtain ⟨A0, c0, hb, hg, hr0⟩ := h
 exact Kd.R_ne ho hb ht
theorem IsS51.apartQ {w0 W : World} {g : Nat} {f0 : List Int} {f1 : Int} {f2 : Int} {α : Type} {d : Kd α} {e : Nat} {base : Nat} {ok : Nat → Prop} {v : Value} {xs : List α} (h : IsS51 w0 W g f0 f1 f2) (ho : d.Q e W base ok v xs) (ht : ∀ q, q ∈ e :: d.E → q ≠ 51) : d.Q e W base (fun k => ok k ∧ k ≠ g) v xs := by
 obtain ⟨A0, c0, hb, hg, hr0⟩ := h
 exact Kd.Q_types ho hb ht
theorem IsS51.own_neQ {w0 W : World} {g : Nat} {f0 : List Int} {f1 : Int} {f2 : Int} {α : Type} {d : Kd α} {e : Nat} {base : Nat} {ok : Nat → Prop} {v : Value} {xs : List α} (h : IsS51 w0 W g f0 f1 f2) (ho : d.Q e W base ok v xs) (ht : e ≠ 51) : some g ≠ v.ownBlock := by
 obtain ⟨A0, c0, hb, hg, hr0⟩ := h
 exact Kd.Q_ne ho hb ht
theorem IsS51.apartS {w0 W : World} {g : Nat} {f0 : List Int} {f1 : Int} {f2 : Int} {α : Type} {d : Kd α} {e : Nat} {base : Nat} {ok : Nat → Prop} {v : Value} {xs : List α} (h : IsS51 w0 W g f0 f1 f2) (ho : d.S e W base ok v xs) (ht : ∀ q, q ∈ e :: d.E → q ≠ 51) : d.S e W base (fun k => ok k ∧ k ≠ g) v xs := by
 obtain ⟨A0, c0, hb, hg, hr0⟩ := h
 exact Kd.S_types ho hb ht
theorem IsS51.own_neS {w0 W : World} {g : Nat} {f0 : List Int} {f1 : Int} {f2 : Int} {α : Type} {d : Kd α} {e : Nat} {base : Nat} {ok : Nat → Prop} {v : Value} {xs : List α} (h : IsS51 w0 W g f0 f1 f2) (ho : d.S e W base ok v xs) (ht : e ≠ 51) : some g ≠ v.ownBlock := by
 obtain ⟨A0, c0, hb, hg, hr0⟩ := h
 exact Kd.S_ne ho hb ht
theorem IsS51.lt {w0 W : World} {g : Nat} {f0 : List Int} {f1 : Int} {f2 : Int} (h : IsS51 w0 W g f0 f1 f2) : g < W.heap.size := by
 obtain ⟨A0, c0, hb, hg, hr0⟩ := h
 exact blk_lt hb
theorem IsS51.ge {w0 W : World} {g : Nat} {f0 : List Int} {f1 : Int} {f2 : Int} (h : IsS51 w0 W g f0 f1 f2) : w0.heap.size ≤ g := by
 obtain ⟨A0, c0, hb, hg, hr0⟩ := h
 exact hg
theorem IsS51.ne_blk {w0 W : World} {g : Nat} {f0 : List Int} {f1 : Int} {f2 : Int} {a : Nat} {cs : Array Value} {t : TypeId} {fr : Nat × Nat} (h : IsS51 w0 W g f0 f1 f2) (hb2 : W.heap[a]? = some (.cells cs t fr)) (ht : t ≠ 51) : g ≠ a := by
 obtain ⟨A0, c0, hb, hg, hr0⟩ := h
 rintro rfl
 rw [hb] at hb2
 injection hb2 with hb2
 injection hb2 with _ ht2
 exact ht ht2.symm
theorem IsS51.far {w0 W : World} {g : Nat} {f0 : List Int} {f1 : Int} {f2 : Int} {p : Addr} (h : IsS51 w0 W g f0 f1 f2) (hne : g ≠ p.block) (u : Value) : IsS51 w0 (W.setCell p u) g f0 f1 f2 := by
 obtain ⟨A0, c0, hb, hg, hr0⟩ := h
 exact ⟨A0, c0, blk_far hb hne u, hg, hr0⟩
theorem cellS51_0 {W : World} {g : Nat} {A0 : Option Addr} {c0 : Nat} {f0 : List Int} {f1 : Int} {f2 : Int} (h : W.heap[g]? = some (.cells #[.slice A0 f0.length c0, .int .i64 f1, .int .u64 f2] 51 (0, 0))) : W.cell? ⟨g, 0, none⟩ = some (.slice A0 f0.length c0) := (blk_cell h 0).trans rfl
theorem cellS51_1 {W : World} {g : Nat} {A0 : Option Addr} {c0 : Nat} {f0 : List Int} {f1 : Int} {f2 : Int} (h : W.heap[g]? = some (.cells #[.slice A0 f0.length c0, .int .i64 f1, .int .u64 f2] 51 (0, 0))) : W.cell? ⟨g, 1, none⟩ = some (.int .i64 f1) := (blk_cell h 1).trans rfl
theorem IsS51.set_1 {w0 W : World} {g : Nat} {f0 : List Int} {f1 : Int} {f2 : Int} (h : IsS51 w0 W g f0 f1 f2) (x : Int) : IsS51 w0 (W.setCell ⟨g, 1, none⟩ (.int .i64 x)) g f0 x f2 := by
 obtain ⟨A0, c0, hb, hg, hr0⟩ := h
 exact ⟨A0, c0, by simpa using blk_set hb 1 (.int .i64 x), hg, hr0⟩
theorem cellS51_2 {W : World} {g : Nat} {A0 : Option Addr} {c0 : Nat} {f0 : List Int} {f1 : Int} {f2 : Int} (h : W.heap[g]? = some (.cells #[.slice A0 f0.length c0, .int .i64 f1, .int .u64 f2] 51 (0, 0))) : W.cell? ⟨g, 2, none⟩ = some (.int .u64 f2) := (blk_cell h 2).trans rfl
theorem IsS51.set_2 {w0 W : World} {g : Nat} {f0 : List Int} {f1 : Int} {f2 : Int} (h : IsS51 w0 W g f0 f1 f2) (x : Int) : IsS51 w0 (W.setCell ⟨g, 2, none⟩ (.int .u64 x)) g f0 f1 x := by
 obtain ⟨A0, c0, hb, hg, hr0⟩ := h
 exact ⟨A0, c0, by simpa using blk_set hb 2 (.int .u64 x), hg, hr0⟩
theorem IsS51.new (w0 W : World) (A0 : Option Addr) (c0 : Nat) (f0 : List Int) (f1 : Int) (f2 : Int) (hB : Below w0.heap.size w0 W) (hr0 : Kd.C (Kd.int .u8) w0 A0 f0.length f0) : IsS51 w0 (W.alloc (.cells #[.slice A0 f0.length c0, .int .i64 f1, .int .u64 f2] 51)) W.heap.size f0 f1 f2 := ⟨A0, c0, by simpa using heap_alloc_new W _, hB.size, hr0⟩

/-! ### spec_l1Cur_next: function 68 -/
def spec_l1Cur_next.f (s0_0 : List Int) (s0_1 : Int) (s0_2 : Int) : Option (Int × Int × Int) := if s0_1 < (s0_0.length : Int) then (if 0 ≤ s0_1 then (if (wrap64 (s0_1 + 1)) ≤ (s0_0.length : Int) then (some (wrap64 (rd s0_0 s0_1), wrap64 (s0_1 + 1), IntKind.u64.wrap ((IntKind.u64.wrap ((IntKind.u64.wrap (s0_2 * 6364136223846793005)) + (IntKind.u64.wrap (wrap64 (rd s0_0 s0_1))))) + 1442695040888963407))) else (some (wrap64 (Go.bits .and .u64 ((IntKind.u64.wrap ((IntKind.u64.wrap ((IntKind.u64.wrap (s0_2 * 6364136223846793005)) + (IntKind.u64.wrap (wrap64 (rd s0_0 s0_1))))) + 1442695040888963407)) / 1099511627776) 255), wrap64 (s0_1 + 1), IntKind.u64.wrap ((IntKind.u64.wrap ((IntKind.u64.wrap (s0_2 * 6364136223846793005)) + (IntKind.u64.wrap (wrap64 (rd s0_0 s0_1))))) + 1442695040888963407)))) else (none)) else (if (wrap64 (s0_1 + 1)) ≤ (s0_0.length : Int) then (some (0, wrap64 (s0_1 + 1), IntKind.u64.wrap ((IntKind.u64.wrap ((IntKind.u64.wrap (s0_2 * 6364136223846793005)) + 0)) + 1442695040888963407))) else (some (wrap64 (Go.bits .and .u64 ((IntKind.u64.wrap ((IntKind.u64.wrap ((IntKind.u64.wrap (s0_2 * 6364136223846793005)) + 0)) + 1442695040888963407)) / 1099511627776) 255), wrap64 (s0_1 + 1), IntKind.u64.wrap ((IntKind.u64.wrap ((IntKind.u64.wrap (s0_2 * 6364136223846793005)) + 0)) + 1442695040888963407))))
set_option maxHeartbeats 8000000 in
set_option maxRecDepth 100000 in
theorem spec_l1Cur_next.calls (g : Nat) (s0_0 : List Int) (s0_1 : Int) (s0_2 : Int) (r1 : Int) (r2 : Int) (r3 : Int) (w0 w : World) (hI : IsS51 w0 w g s0_0 s0_1 s0_2) (hB : Below w0.heap.size w0 w) (h : spec_l1Cur_next.f s0_0 s0_1 s0_2 = some (r1, r2, r3)) :
  Calls Try.prog 68 #[.pointer (some ⟨g, 0, none⟩)] w fun e w' => e = .returned (.int .i64 r1) ∧ IsS51 w0 w' g s0_0 r2 r3 ∧ Below w0.heap.size w0 w' ∧ KeepBut w w' g none := by
 have HI0 := aM hI
 have HK := aM (KeepBut.refl w g none)
 have HL := aM hB.size
 clear hI
 have HW0 := aM hB.size
 have HB := aM hB
 clear hB
 have H : (if s0_1 < (s0_0.length : Int) then (if 0 ≤ s0_1 then (if (wrap64 (s0_1 + 1)) ≤ (s0_0.length : Int) then (some (wrap64 (rd s0_0 s0_1), wrap64 (s0_1 + 1), IntKind.u64.wrap ((IntKind.u64.wrap ((IntKind.u64.wrap (s0_2 * 6364136223846793005)) + (IntKind.u64.wrap (wrap64 (rd s0_0 s0_1))))) + 1442695040888963407))) else (some (wrap64 (Go.bits .and .u64 ((IntKind.u64.wrap ((IntKind.u64.wrap ((IntKind.u64.wrap (s0_2 * 6364136223846793005)) + (IntKind.u64.wrap (wrap64 (rd s0_0 s0_1))))) + 1442695040888963407)) / 1099511627776) 255), wrap64 (s0_1 + 1), IntKind.u64.wrap ((IntKind.u64.wrap ((IntKind.u64.wrap (s0_2 * 6364136223846793005)) + (IntKind.u64.wrap (wrap64 (rd s0_0 s0_1))))) + 1442695040888963407)))) else (none)) else (if (wrap64 (s0_1 + 1)) ≤ (s0_0.length : Int) then (some (0, wrap64 (s0_1 + 1), IntKind.u64.wrap ((IntKind.u64.wrap ((IntKind.u64.wrap (s0_2 * 6364136223846793005)) + 0)) + 1442695040888963407))) else (some (wrap64 (Go.bits .and .u64 ((IntKind.u64.wrap ((IntKind.u64.wrap ((IntKind.u64.wrap (s0_2 * 6364136223846793005)) + 0)) + 1442695040888963407)) / 1099511627776) 255), wrap64 (s0_1 + 1), IntKind.u64.wrap ((IntKind.u64.wrap ((IntKind.u64.wrap (s0_2 * 6364136223846793005)) + 0)) + 1442695040888963407))))) = some (r1, r2, r3) := h
 clear h
 by_cases c2 : s0_1 < (s0_0.length : Int)
 ·rw [if_pos c2] at H
  have c2b0 : decide (s0_1 < (s0_0.length : Int)) = true := decide_eq_true c2
  clear c2
  by_cases c3 : 0 ≤ s0_1
  ·rw [if_pos c3] at H
   have c3b0 : decide (0 ≤ s0_1) = true := decide_eq_true c3
   clear c3
   by_cases c4 : (wrap64 (s0_1 + 1)) ≤ (s0_0.length : Int)
   ·rw [if_pos c4] at H
    have c4b0 : decide ((wrap64 (s0_1 + 1)) ≤ (s0_0.length : Int)) = true := decide_eq_true c4
    clear c4
    simp only [Option.some.injEq, Prod.mk.injEq] at H
    obtain ⟨rfl, rfl, rfl⟩ := H
    obtain ⟨ASz5_0, cSz5_0, HGz5, hgz5, HSz5_0⟩ := HI0.out
    have hcz5_0 := cellS51_0 HGz5
    have hcz5_1 := cellS51_1 HGz5
    have hcz5_2 := cellS51_2 HGz5
    have hfz5_1 := blk_frozen HGz5 1
    have hfz5_2 := blk_frozen HGz5 2
    clear HGz5 hgz5
    have p183 : 0 ≤ (s0_1 : Int) := oD (by first | (with_reducible assumption) | assumption)
    have q183 : s0_1 < (s0_0.length : Int) := oD (by first | (with_reducible assumption) | assumption)
    obtain ⟨ad183, e183, hx183_0⟩ := Kd.at_int HSz5_0 s0_1 p183 q183
    cases e183
    replace hx183_0 := pw_cell_below HB.out hx183_0
    replace p183 := eq_true p183
    replace q183 := eq_true q183
    go_enter Try.func68, Try.ntmps68
    go_wp2
    repeat (go_quiet (fail); try go_wp2)
    go_ret
    exact ⟨by first | rfl | (simp [errW_none, errW_some] <;> rfl) | (simp [*, errW_none, errW_some] <;> rfl), by (try simp only [Int.add_zero]); repeat (first | (with_reducible first | exact HI0.out | apply IsS51.alloc | apply IsS51.drewN | apply IsS51.drew | apply IsS51.set_1 | apply IsS51.set_2) | exact HI0.out), by repeat (first | (with_reducible first | exact HB.out | apply bA | apply pD | apply bD | refine below_set ?_ (IsS51.ge HI0.out)) | exact HB.out), by repeat (first | (with_reducible first | exact HK.out | apply KeepBut.set_ | apply keep_drewN | apply keep_drew | apply keep_alloc) | exact HK.out)⟩
   ·rw [if_neg c4] at H
    have c4b0 : decide ((wrap64 (s0_1 + 1)) ≤ (s0_0.length : Int)) = false := decide_eq_false c4
    clear c4
    simp only [Option.some.injEq, Prod.mk.injEq] at H
    obtain ⟨rfl, rfl, rfl⟩ := H
    obtain ⟨ASz6_0, cSz6_0, HGz6, hgz6, HSz6_0⟩ := HI0.out
    have hcz6_0 := cellS51_0 HGz6
    have hcz6_1 := cellS51_1 HGz6
    have hcz6_2 := cellS51_2 HGz6
    have hfz6_1 := blk_frozen HGz6 1
    have hfz6_2 := blk_frozen HGz6 2
    clear HGz6 hgz6
    have p183 : 0 ≤ (s0_1 : Int) := oD (by first | (with_reducible assumption) | assumption)
    have q183 : s0_1 < (s0_0.length : Int) := oD (by first | (with_reducible assumption) | assumption)
    obtain ⟨ad183, e183, hx183_0⟩ := Kd.at_int HSz6_0 s0_1 p183 q183
    cases e183
    replace hx183_0 := pw_cell_below HB.out hx183_0
    replace p183 := eq_true p183
    replace q183 := eq_true q183
    go_enter Try.func68, Try.ntmps68
    go_wp2
    repeat (go_quiet (fail); try go_wp2)
    go_ret
    exact ⟨by first | rfl | (simp [errW_none, errW_some] <;> rfl) | (simp [*, errW_none, errW_some] <;> rfl), by (try simp only [Int.add_zero]); repeat (first | (with_reducible first | exact HI0.out | apply IsS51.alloc | apply IsS51.drewN | apply IsS51.drew | apply IsS51.set_1 | apply IsS51.set_2) | exact HI0.out), by repeat (first | (with_reducible first | exact HB.out | apply bA | apply pD | apply bD | refine below_set ?_ (IsS51.ge HI0.out)) | exact HB.out), by repeat (first | (with_reducible first | exact HK.out | apply KeepBut.set_ | apply keep_drewN | apply keep_drew | apply keep_alloc) | exact HK.out)⟩
  ·rw [if_neg c3] at H
   exact absurd H (by simp)
 ·rw [if_neg c2] at H
  have c2b0 : decide (s0_1 < (s0_0.length : Int)) = false := decide_eq_false c2
  clear c2
  by_cases c7 : (wrap64 (s0_1 + 1)) ≤ (s0_0.length : Int)
  ·rw [if_pos c7] at H
   have c7b0 : decide ((wrap64 (s0_1 + 1)) ≤ (s0_0.length : Int)) = true := decide_eq_true c7
   clear c7
   simp only [Option.some.injEq, Prod.mk.injEq] at H
   obtain ⟨rfl, rfl, rfl⟩ := H
   obtain ⟨ASz8_0, cSz8_0, HGz8, hgz8, HSz8_0⟩ := HI0.out
   have hcz8_0 := cellS51_0 HGz8
   have hcz8_1 := cellS51_1 HGz8
   have hcz8_2 := cellS51_2 HGz8
   have hfz8_1 := blk_frozen HGz8 1
   have hfz8_2 := blk_frozen HGz8 2
   clear HGz8 hgz8
   go_enter Try.func68, Try.ntmps68
   go_wp2
   repeat (go_quiet (fail); try go_wp2)
   go_ret
   exact ⟨by first | rfl | (simp [errW_none, errW_some] <;> rfl) | (simp [*, errW_none, errW_some] <;> rfl), by (try simp only [Int.add_zero]); repeat (first | (with_reducible first | exact HI0.out | apply IsS51.alloc | apply IsS51.drewN | apply IsS51.drew | apply IsS51.set_1 | apply IsS51.set_2) | exact HI0.out), by repeat (first | (with_reducible first | exact HB.out | apply bA | apply pD | apply bD | refine below_set ?_ (IsS51.ge HI0.out)) | exact HB.out), by repeat (first | (with_reducible first | exact HK.out | apply KeepBut.set_ | apply keep_drewN | apply keep_drew | apply keep_alloc) | exact HK.out)⟩
  ·rw [if_neg c7] at H
   have c7b0 : decide ((wrap64 (s0_1 + 1)) ≤ (s0_0.length : Int)) = false := decide_eq_false c7
   clear c7
   simp only [Option.some.injEq, Prod.mk.injEq] at H
   obtain ⟨rfl, rfl, rfl⟩ := H
   obtain ⟨ASz9_0, cSz9_0, HGz9, hgz9, HSz9_0⟩ := HI0.out
   have hcz9_0 := cellS51_0 HGz9
   have hcz9_1 := cellS51_1 HGz9
   have hcz9_2 := cellS51_2 HGz9
   have hfz9_1 := blk_frozen HGz9 1
   have hfz9_2 := blk_frozen HGz9 2
   clear HGz9 hgz9
   go_enter Try.func68, Try.ntmps68
   go_wp2
   repeat (go_quiet (fail); try go_wp2)
   go_ret
   exact ⟨by first | rfl | (simp [errW_none, errW_some] <;> rfl) | (simp [*, errW_none, errW_some] <;> rfl), by (try simp only [Int.add_zero]); repeat (first | (with_reducible first | exact HI0.out | apply IsS51.alloc | apply IsS51.drewN | apply IsS51.drew | apply IsS51.set_1 | apply IsS51.set_2) | exact HI0.out), by repeat (first | (with_reducible first | exact HB.out | apply bA | apply pD | apply bD | refine below_set ?_ (IsS51.ge HI0.out)) | exact HB.out), by repeat (first | (with_reducible first | exact HK.out | apply KeepBut.set_ | apply keep_drewN | apply keep_drew | apply keep_alloc) | exact HK.out)⟩

/-! ### spec_l1Cur_pick: function 59 -/
def spec_l1Cur_pick.f (s0_0 : List Int) (s0_1 : Int) (s0_2 : Int) (a1 : Int) : Option (Int × Int × Int) := if a1 ≤ 1 then (some (0, s0_1, s0_2)) else ((spec_l1Cur_next.f s0_0 s0_1 s0_2).bind fun bt184 => (if a1 > 200 then ((spec_l1Cur_next.f s0_0 bt184.2.1 bt184.2.2).bind fun bt187 => (if a1 = 0 then (none) else (some (Int.tmod (wrap64 ((wrap64 (bt184.1 * 256)) + bt187.1)) a1, bt187.2.1, bt187.2.2)))) else (if a1 = 0 then (none) else (some (Int.tmod bt184.1 a1, bt184.2.1, bt184.2.2)))))
set_option maxHeartbeats 8000000 in
set_option maxRecDepth 100000 in
theorem spec_l1Cur_pick.calls (g : Nat) (s0_0 : List Int) (s0_1 : Int) (s0_2 : Int) (a1 : Int) (r1 : Int) (r2 : Int) (r3 : Int) (w0 w : World) (hI : IsS51 w0 w g s0_0 s0_1 s0_2) (hB : Below w0.heap.size w0 w) (h : spec_l1Cur_pick.f s0_0 s0_1 s0_2 a1 = some (r1, r2, r3)) :
  Calls Try.prog 59 #[.pointer (some ⟨g, 0, none⟩), .int .i64 a1] w fun e w' => e = .returned (.int .i64 r1) ∧ IsS51 w0 w' g s0_0 r2 r3 ∧ Below w0.heap.size w0 w' ∧ KeepBut w w' g none := by
 have HI0 := aM hI
 have HK := aM (KeepBut.refl w g none)
 have HL := aM hB.size
 clear hI
 have HW0 := aM hB.size
 have HB := aM hB
 clear hB
 have H : (if a1 ≤ 1 then (some (0, s0_1, s0_2)) else ((spec_l1Cur_next.f s0_0 s0_1 s0_2).bind fun bt184 => (if a1 > 200 then ((spec_l1Cur_next.f s0_0 bt184.2.1 bt184.2.2).bind fun bt187 => (if a1 = 0 then (none) else (some (Int.tmod (wrap64 ((wrap64 (bt184.1 * 256)) + bt187.1)) a1, bt187.2.1, bt187.2.2)))) else (if a1 = 0 then (none) else (some (Int.tmod bt184.1 a1, bt184.2.1, bt184.2.2)))))) = some (r1, r2, r3) := h
 clear h
 by_cases c3 : a1 ≤ 1
 ·rw [if_pos c3] at H
  have c3b0 : decide (a1 ≤ 1) = true := decide_eq_true c3
  clear c3
  simp only [Option.some.injEq, Prod.mk.injEq] at H
  obtain ⟨rfl, rfl, rfl⟩ := H
  go_enter Try.func59, Try.ntmps59
  go_wp2
  go_ret
  exact ⟨by first | rfl | (simp [errW_none, errW_some] <;> rfl) | (simp [*, errW_none, errW_some] <;> rfl), by (try simp only [Int.add_zero]); repeat (first | (with_reducible first | exact HI0.out | apply IsS51.alloc | apply IsS51.drewN | apply IsS51.drew | apply IsS51.set_1 | apply IsS51.set_2) | exact HI0.out), by repeat (first | (with_reducible first | exact HB.out | apply bA | apply pD | apply bD | refine below_set ?_ (IsS51.ge HI0.out)) | exact HB.out), by repeat (first | (with_reducible first | exact HK.out | apply KeepBut.set_ | apply keep_drewN | apply keep_drew | apply keep_alloc) | exact HK.out)⟩
 ·rw [if_neg c3] at H
  have c3b0 : decide (a1 ≤ 1) = false := decide_eq_false c3
  clear c3
  replace H := Option.bind_eq_some_iff.mp H
  obtain ⟨⟨t184, t185, t186⟩, A40, H⟩ := H
  replace H : (if a1 > 200 then ((spec_l1Cur_next.f s0_0 t185 t186).bind fun bt187 => (if a1 = 0 then (none) else (some (Int.tmod (wrap64 ((wrap64 (t184 * 256)) + bt187.1)) a1, bt187.2.1, bt187.2.2)))) else (if a1 = 0 then (none) else (some (Int.tmod t184 a1, t185, t186)))) = some (r1, r2, r3) := H
  have A4 := aM A40
  clear A40
  by_cases c5 : a1 > 200
  ·rw [if_pos c5] at H
   have c5b0 : decide (200 < a1) = true := decide_eq_true c5
   clear c5
   replace H := Option.bind_eq_some_iff.mp H
   obtain ⟨⟨t187, t188, t189⟩, A60, H⟩ := H
   replace H : (if a1 = 0 then (none) else (some (Int.tmod (wrap64 ((wrap64 (t184 * 256)) + t187)) a1, t188, t189))) = some (r1, r2, r3) := H
   have A6 := aM A60
   clear A60
   by_cases c7 : a1 = 0
   ·rw [if_pos c7] at H
    exact absurd H (by simp)
   ·rw [if_neg c7] at H
    have c7b0 : (a1 == 0) = false := beq_eq_false_iff_ne.mpr c7
    have c7b1 : (a1 != 0) = true := bne_iff_ne.mpr c7
    simp only [Option.some.injEq, Prod.mk.injEq] at H
    obtain ⟨rfl, rfl, rfl⟩ := H
    go_enter Try.func59, Try.ntmps59
    go_wp2_with (first | ((with_reducible refine gate_callee (f := 68) rfl ?_); refine goesL_ (some 9) rfl rfl Try.func68 (by kernel_rfl) rfl #[.pointer (some ⟨g, 0, none⟩)] rfl (by (try simp only [List.map_toArray, List.map_cons, List.map_nil]); first | done | rfl | (simp only [List.length_drop, List.length_take]; rfl)) ?_; (with_reducible refine (spec_l1Cur_next.calls g s0_0 s0_1 s0_2 t184 t185 t186 w0 _ ?side1 ?side2 A4.out).mono ?_); (case side1 => repeat (first | (with_reducible first | exact HI0.out | apply IsS51.alloc | apply IsS51.drewN | apply IsS51.drew | apply IsS51.set_1 | apply IsS51.set_2) | exact HI0.out)); (case side2 => repeat (first | (with_reducible first | exact HB.out | apply bA | apply pD | apply bD | refine below_set ?_ (IsS51.ge HI0.out)) | exact HB.out)); rintro e w8 ⟨rfl, hi, hb, hk⟩; refine ⟨_, rfl, ?_⟩; have n0_ := aM (KeepBut.trans (by repeat (first | (with_reducible first | exact HK.out | apply KeepBut.set_ | apply keep_drewN | apply keep_drew | apply keep_alloc) | exact HK.out)) hk (.inl rfl)); have n1_ := aM (hb); have n2_ := aM (hi); clear HK; clear HB; clear HI0; have HK := n0_; have HB := n1_; have HI0 := n2_; clear n0_ n1_ n2_; (try clear hb); (try clear hb2); (try clear hk); (try clear hi); (try clear BK0)) | ((with_reducible refine gate_callee (f := 68) rfl ?_); refine goesL_ (some 15) rfl rfl Try.func68 (by kernel_rfl) rfl #[.pointer (some ⟨g, 0, none⟩)] rfl (by (try simp only [List.map_toArray, List.map_cons, List.map_nil]); first | done | rfl | (simp only [List.length_drop, List.length_take]; rfl)) ?_; (with_reducible refine (spec_l1Cur_next.calls g s0_0 t185 t186 t187 t188 t189 w0 _ ?side1 ?side2 A6.out).mono ?_); (case side1 => repeat (first | (with_reducible first | exact HI0.out | apply IsS51.alloc | apply IsS51.drewN | apply IsS51.drew | apply IsS51.set_1 | apply IsS51.set_2) | exact HI0.out)); (case side2 => repeat (first | (with_reducible first | exact HB.out | apply bA | apply pD | apply bD | refine below_set ?_ (IsS51.ge HI0.out)) | exact HB.out)); rintro e w9 ⟨rfl, hi, hb, hk⟩; refine ⟨_, rfl, ?_⟩; have n0_ := aM (KeepBut.trans (by repeat (first | (with_reducible first | exact HK.out | apply KeepBut.set_ | apply keep_drewN | apply keep_drew | apply keep_alloc) | exact HK.out)) hk (.inl rfl)); have n1_ := aM (hb); have n2_ := aM (hi); clear HK; clear HB; clear HI0; have HK := n0_; have HB := n1_; have HI0 := n2_; clear n0_ n1_ n2_; (try clear hb); (try clear hb2); (try clear hk); (try clear hi); (try clear BK0)))
    go_ret
    exact ⟨by first | rfl | (simp [errW_none, errW_some] <;> rfl) | (simp [*, errW_none, errW_some] <;> rfl), by (try simp only [Int.add_zero]); repeat (first | (with_reducible first | exact HI0.out | apply IsS51.alloc | apply IsS51.drewN | apply IsS51.drew | apply IsS51.set_1 | apply IsS51.set_2) | exact HI0.out), by repeat (first | (with_reducible first | exact HB.out | apply bA | apply pD | apply bD | refine below_set ?_ (IsS51.ge HI0.out)) | exact HB.out), by repeat (first | (with_reducible first | exact HK.out | apply KeepBut.set_ | apply keep_drewN | apply keep_drew | apply keep_alloc) | exact HK.out)⟩
  ·rw [if_neg c5] at H
   have c5b0 : decide (200 < a1) = false := decide_eq_false c5
   clear c5
   by_cases c10 : a1 = 0
   ·rw [if_pos c10] at H
    exact absurd H (by simp)
   ·rw [if_neg c10] at H
    have c10b0 : (a1 == 0) = false := beq_eq_false_iff_ne.mpr c10
    have c10b1 : (a1 != 0) = true := bne_iff_ne.mpr c10
    simp only [Option.some.injEq, Prod.mk.injEq] at H
    obtain ⟨rfl, rfl, rfl⟩ := H
    go_enter Try.func59, Try.ntmps59
    go_wp2_with (first | ((with_reducible refine gate_callee (f := 68) rfl ?_); refine goesL_ (some 9) rfl rfl Try.func68 (by kernel_rfl) rfl #[.pointer (some ⟨g, 0, none⟩)] rfl (by (try simp only [List.map_toArray, List.map_cons, List.map_nil]); first | done | rfl | (simp only [List.length_drop, List.length_take]; rfl)) ?_; (with_reducible refine (spec_l1Cur_next.calls g s0_0 s0_1 s0_2 t184 t185 t186 w0 _ ?side1 ?side2 A4.out).mono ?_); (case side1 => repeat (first | (with_reducible first | exact HI0.out | apply IsS51.alloc | apply IsS51.drewN | apply IsS51.drew | apply IsS51.set_1 | apply IsS51.set_2) | exact HI0.out)); (case side2 => repeat (first | (with_reducible first | exact HB.out | apply bA | apply pD | apply bD | refine below_set ?_ (IsS51.ge HI0.out)) | exact HB.out)); rintro e w11 ⟨rfl, hi, hb, hk⟩; refine ⟨_, rfl, ?_⟩; have n0_ := aM (KeepBut.trans (by repeat (first | (with_reducible first | exact HK.out | apply KeepBut.set_ | apply keep_drewN | apply keep_drew | apply keep_alloc) | exact HK.out)) hk (.inl rfl)); have n1_ := aM (hb); have n2_ := aM (hi); clear HK; clear HB; clear HI0; have HK := n0_; have HB := n1_; have HI0 := n2_; clear n0_ n1_ n2_; (try clear hb); (try clear hb2); (try clear hk); (try clear hi); (try clear BK0)))
    go_ret
    exact ⟨by first | rfl | (simp [errW_none, errW_some] <;> rfl) | (simp [*, errW_none, errW_some] <;> rfl), by (try simp only [Int.add_zero]); repeat (first | (with_reducible first | exact HI0.out | apply IsS51.alloc | apply IsS51.drewN | apply IsS51.drew | apply IsS51.set_1 | apply IsS51.set_2) | exact HI0.out), by repeat (first | (with_reducible first | exact HB.out | apply bA | apply pD | apply bD | refine below_set ?_ (IsS51.ge HI0.out)) | exact HB.out), by repeat (first | (with_reducible first | exact HK.out | apply KeepBut.set_ | apply keep_drewN | apply keep_drew | apply keep_alloc) | exact HK.out)⟩

/-! ### spec_l1Cur_one: function 42 -/
def spec_l1Cur_one.f (s0_0 : List Int) (s0_1 : Int) (s0_2 : Int) (a1 : Int) : Option (Bool × Int × Int) := (spec_l1Cur_pick.f s0_0 s0_1 s0_2 a1).bind fun bt190 => (some ((bt190.1 == 0), bt190.2.1, bt190.2.2))
set_option maxHeartbeats 8000000 in
set_option maxRecDepth 100000 in
theorem spec_l1Cur_one.calls (g : Nat) (s0_0 : List Int) (s0_1 : Int) (s0_2 : Int) (a1 : Int) (r1 : Bool) (r2 : Int) (r3 : Int) (w0 w : World) (hI : IsS51 w0 w g s0_0 s0_1 s0_2) (hB : Below w0.heap.size w0 w) (h : spec_l1Cur_one.f s0_0 s0_1 s0_2 a1 = some (r1, r2, r3)) :
  Calls Try.prog 42 #[.pointer (some ⟨g, 0, none⟩), .int .i64 a1] w fun e w' => e = .returned (.bool r1) ∧ IsS51 w0 w' g s0_0 r2 r3 ∧ Below w0.heap.size w0 w' ∧ KeepBut w w' g none := by
 have HI0 := aM hI
 have HK := aM (KeepBut.refl w g none)
 have HL := aM hB.size
 clear hI
 have HW0 := aM hB.size
 have HB := aM hB
 clear hB
 have H : ((spec_l1Cur_pick.f s0_0 s0_1 s0_2 a1).bind fun bt190 => (some ((bt190.1 == 0), bt190.2.1, bt190.2.2))) = some (r1, r2, r3) := h
 clear h
 replace H := Option.bind_eq_some_iff.mp H
 obtain ⟨⟨t190, t191, t192⟩, A30, H⟩ := H
 replace H : (some ((t190 == 0), t191, t192)) = some (r1, r2, r3) := H
 have A3 := aM A30
 clear A30
 simp only [Option.some.injEq, Prod.mk.injEq] at H
 obtain ⟨rfl, rfl, rfl⟩ := H
 go_enter Try.func42, Try.ntmps42
 go_wp2_with (first | ((with_reducible refine gate_callee (f := 59) rfl ?_); refine goesL_ (some 7) rfl rfl Try.func59 (by kernel_rfl) rfl #[.pointer (some ⟨g, 0, none⟩), .int .i64 a1] rfl (by (try simp only [List.map_toArray, List.map_cons, List.map_nil]); first | done | rfl | (simp only [List.length_drop, List.length_take]; rfl)) ?_; (with_reducible refine (spec_l1Cur_pick.calls g s0_0 s0_1 s0_2 a1 t190 t191 t192 w0 _ ?side1 ?side2 A3.out).mono ?_); (case side1 => repeat (first | (with_reducible first | exact HI0.out | apply IsS51.alloc | apply IsS51.drewN | apply IsS51.drew | apply IsS51.set_1 | apply IsS51.set_2) | exact HI0.out)); (case side2 => repeat (first | (with_reducible first | exact HB.out | apply bA | apply pD | apply bD | refine below_set ?_ (IsS51.ge HI0.out)) | exact HB.out)); rintro e w4 ⟨rfl, hi, hb, hk⟩; refine ⟨_, rfl, ?_⟩; have n0_ := aM (KeepBut.trans (by repeat (first | (with_reducible first | exact HK.out | apply KeepBut.set_ | apply keep_drewN | apply keep_drew | apply keep_alloc) | exact HK.out)) hk (.inl rfl)); have n1_ := aM (hb); have n2_ := aM (hi); clear HK; clear HB; clear HI0; have HK := n0_; have HB := n1_; have HI0 := n2_; clear n0_ n1_ n2_; (try clear hb); (try clear hb2); (try clear hk); (try clear hi); (try clear BK0)))
 go_ret
 exact ⟨by first | rfl | (simp [errW_none, errW_some] <;> rfl) | (simp [*, errW_none, errW_some] <;> rfl), by (try simp only [Int.add_zero]); repeat (first | (with_reducible first | exact HI0.out | apply IsS51.alloc | apply IsS51.drewN | apply IsS51.drew | apply IsS51.set_1 | apply IsS51.set_2) | exact HI0.out), by repeat (first | (with_reducible first | exact HB.out | apply bA | apply pD | apply bD | refine below_set ?_ (IsS51.ge HI0.out)) | exact HB.out), by repeat (first | (with_reducible first | exact HK.out | apply KeepBut.set_ | apply keep_drewN | apply keep_drew | apply keep_alloc) | exact HK.out)⟩

/-! ### spec_l1Cur_of: function 61 -/
def spec_l1Cur_of.f (s0_0 : List Int) (s0_1 : Int) (s0_2 : Int) (l1 : List ByteArray) : Option (ByteArray × Int × Int) := (spec_l1Cur_pick.f s0_0 s0_1 s0_2 (l1.length : Int)).bind fun bt193 => (if 0 ≤ bt193.1 then (if bt193.1 < (l1.length : Int) then (some (rdOf ByteArray.empty l1 bt193.1, bt193.2.1, bt193.2.2)) else (none)) else (none))
set_option maxHeartbeats 8000000 in
set_option maxRecDepth 100000 in
theorem spec_l1Cur_of.calls (g : Nat) (s0_0 : List Int) (s0_1 : Int) (s0_2 : Int) (A1 : Option Addr) (c1 : Nat) (l1 : List ByteArray) (r1 : ByteArray) (r2 : Int) (r3 : Int) (w0 w : World) (hI : IsS51 w0 w g s0_0 s0_1 s0_2) (hB : Below w0.heap.size w0 w) (hr1 : Kd.C Kd.string w A1 l1.length l1) (hc1 : l1.length ≤ c1) (hf1 : ∀ ad, A1 = some ad → 0 < l1.length → ad.block ≠ g) (h : spec_l1Cur_of.f s0_0 s0_1 s0_2 l1 = some (r1, r2, r3)) :
  Calls Try.prog 61 #[.pointer (some ⟨g, 0, none⟩), .slice A1 l1.length c1] w fun e w' => e = .returned (.string r1) ∧ IsS51 w0 w' g s0_0 r2 r3 ∧ Below w0.heap.size w0 w' ∧ KeepBut w w' g none := by
 have HR1 := aM hr1
 have HC1 := aM hc1
 clear hr1 hc1
 have HI0 := aM hI
 have HK := aM (KeepBut.refl w g none)
 have HL := aM hB.size
 clear hI
 have HW0 := aM hB.size
 have HB := aM hB
 clear hB
 have H : ((spec_l1Cur_pick.f s0_0 s0_1 s0_2 (l1.length : Int)).bind fun bt193 => (if 0 ≤ bt193.1 then (if bt193.1 < (l1.length : Int) then (some (rdOf ByteArray.empty l1 bt193.1, bt193.2.1, bt193.2.2)) else (none)) else (none))) = some (r1, r2, r3) := h
 clear h
 replace H := Option.bind_eq_some_iff.mp H
 obtain ⟨⟨t193, t194, t195⟩, A30, H⟩ := H
 replace H : (if 0 ≤ t193 then (if t193 < (l1.length : Int) then (some (rdOf ByteArray.empty l1 t193, t194, t195)) else (none)) else (none)) = some (r1, r2, r3) := H
 have A3 := aM A30
 clear A30
 by_cases c4 : 0 ≤ t193
 ·rw [if_pos c4] at H
  have c4b0 : decide (0 ≤ t193) = true := decide_eq_true c4
  clear c4
  by_cases c5 : t193 < (l1.length : Int)
  ·rw [if_pos c5] at H
   have c5b0 : decide (t193 < (l1.length : Int)) = true := decide_eq_true c5
   clear c5
   simp only [Option.some.injEq, Prod.mk.injEq] at H
   obtain ⟨rfl, rfl, rfl⟩ := H
   go_enter Try.func61, Try.ntmps61
   go_wp2_with (first | ((with_reducible refine gate_callee (f := 59) rfl ?_); refine goesL_ (some 9) rfl rfl Try.func59 (by kernel_rfl) rfl #[.pointer (some ⟨g, 0, none⟩), .int .i64 (l1.length : Int)] rfl (by (try simp only [List.map_toArray, List.map_cons, List.map_nil]); first | done | rfl | (simp only [List.length_drop, List.length_take]; rfl)) ?_; (with_reducible refine (spec_l1Cur_pick.calls g s0_0 s0_1 s0_2 (l1.length : Int) t193 t194 t195 w0 _ ?side1 ?side2 A3.out).mono ?_); (case side1 => repeat (first | (with_reducible first | exact HI0.out | apply IsS51.alloc | apply IsS51.drewN | apply IsS51.drew | apply IsS51.set_1 | apply IsS51.set_2) | exact HI0.out)); (case side2 => repeat (first | (with_reducible first | exact HB.out | apply bA | apply pD | apply bD | refine below_set ?_ (IsS51.ge HI0.out)) | exact HB.out)); rintro e w6 ⟨rfl, hi, hb, hk⟩; refine ⟨_, rfl, ?_⟩; have n0_ := aM (KeepBut.trans (by repeat (first | (with_reducible first | exact HK.out | apply KeepBut.set_ | apply keep_drewN | apply keep_drew | apply keep_alloc) | exact HK.out)) hk (.inl rfl)); have n1_ := aM (hb); have n2_ := aM (hi); clear HK; clear HB; clear HI0; have HK := n0_; have HB := n1_; have HI0 := n2_; clear n0_ n1_ n2_; (try clear hb); (try clear hb2); (try clear hk); (try clear hi); (try clear BK0); have p196 : 0 ≤ (t193 : Int) := oD (by first | (with_reducible assumption) | assumption); have q196 : t193 < (l1.length : Int) := oD (by first | (with_reducible assumption) | assumption); obtain ⟨ad196, e196, hx196_0⟩ := Kd.at_string HR1.out t193 p196 q196; cases e196; replace hx196_0 := keep_cell HK.out hx196_0 (by first | (rw [add_block]; exact hf1 _ rfl (by omega)) | exact hf1 _ rfl (by omega) | exact hf1 ad196 rfl (by omega)); replace p196 := eq_true p196; replace q196 := eq_true q196))
   go_ret
   exact ⟨by first | rfl | (simp [errW_none, errW_some] <;> rfl) | (simp [*, errW_none, errW_some] <;> rfl), by (try simp only [Int.add_zero]); repeat (first | (with_reducible first | exact HI0.out | apply IsS51.alloc | apply IsS51.drewN | apply IsS51.drew | apply IsS51.set_1 | apply IsS51.set_2) | exact HI0.out), by repeat (first | (with_reducible first | exact HB.out | apply bA | apply pD | apply bD | refine below_set ?_ (IsS51.ge HI0.out)) | exact HB.out), by repeat (first | (with_reducible first | exact HK.out | apply KeepBut.set_ | apply keep_drewN | apply keep_drew | apply keep_alloc) | exact HK.out)⟩
  ·rw [if_neg c5] at H
   exact absurd H (by simp)
 ·rw [if_neg c4] at H
  exact absurd H (by simp)

end Go.Proofs.Ytibedlbjkaikiaa.AFnCommon
