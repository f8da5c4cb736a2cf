-- this session's own text: written by wip/tools/ownprint.py over the kit's print
import Derived.Test.YtibedlbjkaikiaaAFnExactCommonOfx0
import Derived.Test.YtibedlbjkaikiaaAFnExactCommonOfx3
import Derived.Test.YtibedlbjkaikiaaAFnExactCommonOfx4
import Derived.Test.YtibedlbjkaikiaaAFnExactCommonOfx5
namespace Go.Proofs.Ytibedlbjkaikiaa.AFnExactCommonOf
open Go.RowKit Go.Proofs.YtibedlbjkaikiaaW.PrintWords Go.Proofs.YtibedlbjkaikiaaW.PrintLast Go.Proofs.YtibedlbjkaikiaaW.PrintMore
attribute [local go_sem] max2_int min2_int max_two min_two max_three min_three max_four min_four   -- for this text's walks alone
set_option linter.unusedVariables false
set_option linter.unusedSimpArgs false

/-! ### impl_CommonOf: function 34, by hand -/
def Z65 : Array Value := Array.replicate 256 (.bool false)
theorem instr_build65 (W : World) : (Instr.build 65 #[]).run Try.prog W = .ok (.agg Z65) W := by kernel_rfl
theorem instr_alloc65 (W : World) : (Instr.alloc 65 true (.tuple #[])).run Try.prog W = .ok (.pointer (some ⟨W.heap.size, 0, none⟩)) (W.alloc (.cells Z65 65)) := by kernel_rfl
theorem run_build65 (W : World) (ρ : Operand → Value) (o : Oper) (ho : o.op = .build 65 #[]) : (execOp ρ o).run Try.prog W = .ok (.value (.agg Z65)) W := by
  have e : (execOp ρ o) = (do pure (.value (← Instr.build 65 #[])) : Sem Next) := by unfold execOp; rw [ho]; simp only [List.map_toArray, List.map_nil]
  rw [e, Sem.run_bind, instr_build65]; rfl
theorem run_alloc65 (W : World) (ρ : Operand → Value) (o : Oper) (ho : o.op = .alloc 65) : (execOp ρ o).run Try.prog W = .ok (.value (.pointer (some ⟨W.heap.size, 0, none⟩))) (W.alloc (.cells Z65 65)) := by
  have e : (execOp ρ o) = (do pure (.value (← Instr.alloc 65 true (.tuple #[]))) : Sem Next) := by unfold execOp; rw [ho]
  rw [e, Sem.run_bind, instr_alloc65]; rfl
theorem Z65_size : Z65.size = 256 := by unfold Z65; exact Array.size_replicate
theorem info65 : (Try.prog.info? 65).map (·.size) = some 256 := by kernel_rfl
section
variable {ops : Array Oper} {rest : List Oper} {o : Oper} {a : Act} {Q : Exit → Act → World → Prop}
/-- The array's block, as a letter. -/
theorem alloc65_event {W : World} (hgd : o.guard = none) {N : Tmp} (_hd : o.dst = some N) (ho : o.op = .alloc 65)
    (h : ∀ g, g = W.heap.size → ∀ w1, w1.heap[g]? = some (.cells Z65 65 (0, 0)) → Below W.heap.size W w1 → wpList Try.prog ops Q rest (a.put o.dst (.pointer (some ⟨g, 0, none⟩))) w1) : wpList Try.prog ops Q (o :: rest) a W :=
  Kd.event_run hgd (run_alloc65 W _ o ho) (h _ rfl _ (blk_new W _) (below_alloc (Below.refl _ _) _))
theorem build65_event {W : World} (hgd : o.guard = none) (ho : o.op = .build 65 #[]) (h : wpList Try.prog ops Q rest (a.put o.dst (.agg Z65)) W) : wpList Try.prog ops Q (o :: rest) a W :=
  Kd.event_run hgd (run_build65 W _ o ho) h
theorem store65_event {W : World} (hgd : o.guard = none) {p x : Operand} (ho : o.op = .store 65 p x) (hN : o.dst = none) {g : Nat} (haddr : a.eval p = .pointer (some ⟨g, 0, none⟩)) (hx : a.eval x = .agg Z65) (hb : W.heap[g]? = some (.cells Z65 65 (0, 0)))
    (h : ∀ w1, w1.heap[g]? = some (.cells Z65 65 (0, 0)) → W.grownBy w1 (some g) → wpList Try.prog ops Q rest a w1) : wpList Try.prog ops Q (o :: rest) a W := by
  have hl : Z65.toList.length = 256 := by rw [Array.length_toList]; exact Z65_size
  have hrun : (Instr.storeAt 65 (.pointer (some ⟨g, 0, none⟩)) (.agg Z65)).run Try.prog W = .ok () (W.setCells g 0 Z65.toList) :=
    run_store_run 65 (.agg Z65) Z65.toList hb rfl (by rw [info65, hl]) (by rw [hl, Z65_size]; omega) (fun q hq => by
      have : q = .bool false := by
        unfold Z65 at hq
        rw [Array.toList_replicate] at hq
        exact List.eq_of_mem_replicate hq
      rw [this]; rfl)
  obtain ⟨cur', h3, h4, h5⟩ := setCells_row Z65.toList 0 W Z65 hb (by rw [hl, Z65_size]; omega)
  obtain ⟨s1, s2, s3, s4⟩ := setCells_same g Z65.toList 0 W
  have hc : cur' = Z65 := by
    apply Array.toList_inj.mp
    rw [h5, List.take_zero, List.nil_append, Nat.zero_add, List.drop_length, List.append_nil]
  rw [hc] at h3
  refine wpList_plain hgd fun K hK => ?_
  unfold Oper.wp execOp
  simp only [ho, haddr, hx, Sem.run_bind, Sem.run_pure, Result.andThen_ok, hrun]
  show K (a.put o.dst undef) _
  rw [hN]
  exact hK a _ (h _ h3 ⟨s1, s2, s3, by rw [s4]; exact Nat.le_refl _, fun k _ hk => setCells_far _ _ k (fun he => hk (by rw [he]))⟩)
end

def bl (s : List Bool) : Array Value := (s.map Value.bool).toArray
def rdB (s : List Bool) (c : Int) : Bool := s.getD c.toNat false
theorem bl_Z65 : Z65 = bl (List.replicate 256 false) := by
  unfold Z65 bl
  rw [List.map_replicate, List.toArray_replicate]
theorem bl_cell {w : World} {g : Nat} {s : List Bool} (h : w.heap[g]? = some (.cells (bl s) 65 (0, 0))) (hl : s.length = 256) (c : Int) (h0 : 0 ≤ c) (h1 : c ≤ 255) : w.cell? ⟨g, c.toNat, none⟩ = some (.bool (rdB s c)) := by
  rw [blk_cell h]
  unfold bl rdB
  have hc : c.toNat < s.length := by omega
  simp [hc, List.getD]
theorem bl_set {w : World} {g : Nat} {s : List Bool} (h : w.heap[g]? = some (.cells (bl s) 65 (0, 0))) (c : Nat) (b : Bool) : (w.setCell ⟨g, c, none⟩ (.bool b)).heap[g]? = some (.cells (bl (s.set c b)) 65 (0, 0)) := by
  have := blk_set h c (.bool b)
  rw [this]
  congr 2
  unfold bl
  apply Array.toList_inj.mp
  simp [List.map_set]
def cmY (a b : ByteArray) (tb : List (List Int)) (i j x : Nat) (bi bj : Int) : Nat → Nat → Option (Int × Int)
  | 0, _ => none
  | d + 1, y => if y < b.size then
      (if bt b (y : Int) = bt a (x : Int) then
        (if x + 1 < tb.length ∧ y + 1 < (rd_L1 tb ((x : Int) + 1)).length ∧ i < tb.length ∧ j < (rd_L1 tb (i : Int)).length then
          (if wrap64 (rd (rd_L1 tb ((x : Int) + 1)) ((y : Int) + 1) + 1) = rd (rd_L1 tb (i : Int)) (j : Int) then some ((x : Int), (y : Int)) else some (bi, bj))
        else none)
      else cmY a b tb i j x bi bj d (y + 1))
    else some (bi, bj)
def cmX (a b : ByteArray) (tb : List (List Int)) (i j : Nat) : Nat → Nat → Int → Int → List Bool → Option (Int × Int)
  | 0, _, _, _, _ => none
  | d + 1, x, bi, bj, seen => if x < a.size then
      (if rdB seen (bt a (x : Int)) = true then cmX a b tb i j d (x + 1) bi bj seen
      else (if bi ≥ 0 then
          (if bi < (a.size : Int) then
            (if bt a (x : Int) ≥ bt a bi then cmX a b tb i j d (x + 1) bi bj seen
            else (cmY a b tb i j x bi bj (b.size + 1) j).bind fun p => cmX a b tb i j d (x + 1) p.1 p.2 (seen.set (bt a (x : Int)).toNat true))
          else none)
        else (cmY a b tb i j x bi bj (b.size + 1) j).bind fun p => cmX a b tb i j d (x + 1) p.1 p.2 (seen.set (bt a (x : Int)).toNat true)))
    else some (bi, bj)
def cmO (a b : ByteArray) (tb : List (List Int)) : Nat → List Int → Nat → Nat → Option (List Int)
  | 0, _, _, _ => none
  | d + 1, out, i, j => if i < tb.length ∧ j < (rd_L1 tb (i : Int)).length then
      (if rd (rd_L1 tb (i : Int)) (j : Int) > 0 then
        (cmX a b tb i j (a.size + 1) i (-1) (-1) (List.replicate 256 false)).bind fun p =>
          (if 0 ≤ p.1 ∧ p.1 < (a.size : Int) ∧ 0 ≤ p.2 ∧ p.2 < (b.size : Int) ∧ out.length < 140737488355327 then cmO a b tb d (out ++ [bt a p.1]) (p.1 + 1).toNat (p.2 + 1).toNat else none)
      else some out)
    else none
def impl_CommonOf.f (k : Nat) (a0 : ByteArray) (a1 : ByteArray) : Option (ByteArray × Bool) := if a0.size + a1.size < 4611686018427387904 then (impl_areTexts.f k a0 a1).bind fun t => (if t = true then ((impl_common.f k a0 a1).bind fun tb => (cmO a0 a1 tb (a0.size + 1) [] 0 0).bind fun o => some (strOfNums o, true)) else some (⟨#[]⟩, false)) else none
def OAt (w : World) (a b : ByteArray) (tb : List (List Int)) (vt : Value) (L : List Int) (d : Nat) (v7 v8 v9 : Value) (w' : World) : Prop :=
  ∃ (i j : Nat) (out : List Int), v8 = .int .i64 i ∧ v9 = .int .i64 j ∧ Kd.R (Kd.int .u8) 5 w' w.heap.size (fun _ => True) v7 out ∧ Kd.R (Kd.slice 3 (Kd.int .i64)) 25 w' w.heap.size (fun _ => True) vt tb ∧ Below w.heap.size w w' ∧ cmO a b tb d out i j = some L
def XAt (w : World) (a b : ByteArray) (tb : List (List Int)) (vt v7 : Value) (out : List Int) (gs i j : Nat) (p : Int × Int) (d : Nat) (v10 v11 v13 : Value) (w' : World) : Prop :=
  ∃ (x : Nat) (bi bj : Int) (seen : List Bool), v10 = .int .i64 bi ∧ v11 = .int .i64 bj ∧ v13 = .int .i64 x ∧ seen.length = 256 ∧ w'.heap[gs]? = some (.cells (bl seen) 65 (0, 0)) ∧ Kd.R (Kd.int .u8) 5 w' w.heap.size (fun _ => True) v7 out ∧ Kd.R (Kd.slice 3 (Kd.int .i64)) 25 w' w.heap.size (fun _ => True) vt tb ∧ Below w.heap.size w w' ∧ cmX a b tb i j d x bi bj seen = some p
def YAt (w : World) (a b : ByteArray) (tb : List (List Int)) (vt v7 : Value) (out : List Int) (gs i j x : Nat) (bi bj : Int) (seen : List Bool) (q : Int × Int) (d : Nat) (v10 v11 v14 : Value) (w' : World) : Prop :=
  ∃ (y : Nat), v10 = .int .i64 bi ∧ v11 = .int .i64 bj ∧ v14 = .int .i64 y ∧ w'.heap[gs]? = some (.cells (bl seen) 65 (0, 0)) ∧ Kd.R (Kd.int .u8) 5 w' w.heap.size (fun _ => True) v7 out ∧ Kd.R (Kd.slice 3 (Kd.int .i64)) 25 w' w.heap.size (fun _ => True) vt tb ∧ Below w.heap.size w w' ∧ cmY a b tb i j x bi bj d y = some q
def XCut (wx : World) (a b : ByteArray) (tb : List (List Int)) (i j d x : Nat) (bi bj : Int) (seen : List Bool) (p : Int × Int) (v55 : Value) (wc : World) : Prop :=
  ∃ (c : Bool) (n : Nat), v55 = .bool c ∧ wc = wx.drewN n ∧ (c = true → cmX a b tb i j d (x + 1) bi bj seen = some p) ∧ (c = false → ((cmY a b tb i j x bi bj (b.size + 1) j).bind fun q => cmX a b tb i j d (x + 1) q.1 q.2 (seen.set (bt a (x : Int)).toNat true)) = some p)
set_option maxHeartbeats 8000000 in
set_option maxRecDepth 100000 in
theorem impl_CommonOf.calls (k : Nat) (a0 : ByteArray) (a1 : ByteArray) (r1 : ByteArray) (r2 : Bool) (w : World) (h : impl_CommonOf.f k a0 a1 = some (r1, r2)) :
    Calls Try.prog 34 #[.string a0, .string a1] w fun e w' => e = .returned (.tuple #[.string r1, .bool r2]) ∧ Below w.heap.size w w' := by
  unfold impl_CommonOf.f at h
  split at h
  case isFalse => cases h
  case isTrue hsz =>
  obtain ⟨t, ht, h⟩ := Option.bind_eq_some_iff.mp h
  have HT := Aside0.mk ht
  cases t with
  | false =>
    simp only [Bool.false_eq_true, if_false, Option.some.injEq, Prod.mk.injEq] at h
    obtain ⟨rfl, rfl⟩ := h
    clear ht hsz
    go_enter Try.func34, Try.ntmps34
    go_wp2_with (first | (go_at_call 49; refine (impl_areTexts.calls k a0 a1 false _ HT.out).mono ?_; rintro e w' ⟨rfl, ⟨nd, rfl⟩⟩))
    go_ret2
    exact ⟨rfl, Drawn0.below ⟨_, rfl⟩⟩
  | true =>
    simp only [if_true] at h
    obtain ⟨tb, htb, h⟩ := Option.bind_eq_some_iff.mp h
    obtain ⟨L, hL, h⟩ := Option.bind_eq_some_iff.mp h
    simp only [Option.some.injEq, Prod.mk.injEq] at h
    obtain ⟨rfl, rfl⟩ := h
    have HTB := Aside0.mk htb
    have HL := Aside0.mk hL
    have HSZ := Aside0.mk hsz
    clear ht htb hL hsz
    go_enter Try.func34, Try.ntmps34
    go_wp2_with (first | (go_at_call 49; refine (impl_areTexts.calls k a0 a1 true _ HT.out).mono ?_; rintro e w' ⟨rfl, ⟨nd, rfl⟩⟩) | (go_at_call 52; refine (impl_common.calls k a0 a1 tb _ HTB.out).mono ?_; rintro e w1 ⟨vt, rfl, hst, hb1⟩; have HST := Aside0.mk (Kd.R_lower (Kd.S_R hst) (Nat.le_refl w.heap.size)); have HB1 : Aside0 (Below w.heap.size w w1) := ⟨below_step (pw_below_drewN (Below.refl _ _) _) hb1⟩; clear hst hb1))
    obtain ⟨At, ct, eo⟩ := Kd.R_slice HST.out
    subst eo
    go_loopg [7, 8, 9] (a0.size + 1) (fun d v7 v8 v9 w' => OAt w a0 a1 tb (.slice At tb.length ct) L d v7 v8 v9 w')
    case atStart => exact ⟨0, 0, [], rfl, rfl, Kd.R_nil _ _ _ _ _, HST.out, HB1.out, HL.out⟩
    case round =>
      obtain ⟨i, j, out, rfl, rfl, ho, htb, hb, hd⟩ := hrel
      obtain ⟨wo, rfl⟩ : ∃ wo : World, wo = wr := ⟨_, rfl⟩
      cases gk with
      | zero => exact absurd hd (by simp [cmO])
      | succ k1 =>
      unfold cmO at hd
      split at hd
      case isFalse => cases hd
      case isTrue hij =>
      obtain ⟨hi, hj⟩ := hij
      have HO := Aside0.mk ho
      have HTB := Aside0.mk htb
      have HB := Aside0.mk hb
      obtain ⟨Ao, co, eo⟩ := Kd.R_slice ho
      obtain ⟨ad, A1, c1, e1, t1, l1, g1⟩ := at_L1 (Kd.R_reads' htb).2.2 (i : Int) (by omega) (by omega)
      obtain rfl := e1
      obtain ⟨b1, f1, r1⟩ := Kd.at_int g1 (j : Int) (by omega) (by omega)
      obtain rfl := f1
      simp only [Int.toNat_natCast] at t1 r1
      have q1 : (i < tb.length) = True := eq_true hi
      have q2 : (j < (rd_L1 tb (i : Int)).length) = True := eq_true hj
      clear g1 l1 ho htb hb
      by_cases hpos : rd (rd_L1 tb (i : Int)) (j : Int) > 0
      · rw [if_pos hpos] at hd
        obtain ⟨p, hX, hd⟩ := Option.bind_eq_some_iff.mp hd
        split at hd
        case isFalse => cases hd
        case isTrue hp =>
        have HD := Aside0.mk hd
        have HX := Aside0.mk hX
        have HP := Aside0.mk hp
        have hpb : decide (rd (rd_L1 tb (i : Int)) (j : Int) > 0) = true := decide_eq_true hpos
        clear hd hX hp hpos
        subst eo
        go_wp2_with (first | ((with_reducible refine gate_ (.build 65 #[]) rfl ?_); refine build65_event rfl rfl ?_) | ((with_reducible refine gate_dst (N := 12) rfl ?_); refine alloc65_event rfl (N := 12) rfl rfl ?_; intro gs hgs w3 hbk3 hb3; have HBK3 := Aside0.mk hbk3; have HB3 := Aside0.mk hb3; have HGS := Aside0.mk hgs; clear hbk3 hb3 hgs) | ((with_reducible refine gate_store (t := 65) (p := 12) (v := .tmp 30) rfl ?_); refine store65_event (g := gs) rfl rfl rfl rfl rfl HBK3.out ?_; intro w4 hbk4 hg4; have HBK4 := Aside0.mk hbk4; have HG4 := Aside0.mk hg4; clear hbk4 hg4))
        have hk4 := HBK4.out
        rw [bl_Z65] at hk4
        have hgw : w.heap.size ≤ gs := by rw [HGS.out]; exact HB.out.size
        have HGW := Aside0.mk hgw
        have HB4 : Aside0 (Below w.heap.size w w4) := ⟨(below_step HB.out HB3.out).trans ⟨HG4.out.os, HG4.out.tape, HG4.out.output, HG4.out.size, fun q hq => HG4.out.block q (Nat.lt_of_lt_of_le hq (below_step HB.out HB3.out).size) (fun e => by injection e with e; omega)⟩⟩
        have HO4 : Aside0 (Kd.R (Kd.int .u8) 5 w4 w.heap.size (fun _ => True) (.slice Ao out.length co) out) := ⟨Kd.R_mono (Kd.R_grown (Kd.R_types (Kd.R_below HO.out HB3.out) HBK3.out (by decide)) HG4.out (fun q hq e => hq.2 (Option.some.inj e))) (fun _ hq => hq.1)⟩
        have HTB4 : Aside0 (Kd.R (Kd.slice 3 (Kd.int .i64)) 25 w4 w.heap.size (fun _ => True) (.slice (some ad) tb.length ct) tb) := ⟨Kd.R_mono (Kd.R_grown (Kd.R_types (Kd.R_below HTB.out HB3.out) HBK3.out (by decide)) HG4.out (fun q hq e => hq.2 (Option.some.inj e))) (fun _ hq => hq.1)⟩
        have HK4 := Aside0.mk hk4
        clear hk4 t1 r1 hgw
        go_loopg [10, 11, 13] (a0.size + 1) (fun d v10 v11 v13 w' => XAt w a0 a1 tb (.slice (some ad) tb.length ct) (.slice Ao out.length co) out gs i j p d v10 v11 v13 w')
        case atStart => exact ⟨i, -1, -1, List.replicate 256 false, rfl, rfl, rfl, by simp, HK4.out, HO4.out, HTB4.out, HB4.out, HX.out⟩
        case round =>
          obtain ⟨x, bi, bj, seen, rfl, rfl, rfl, hsl, hbk, ho, htb, hb, hx⟩ := hrel
          obtain ⟨wx, rfl⟩ : ∃ wx : World, wx = wr := ⟨_, rfl⟩
          cases gk with
          | zero => exact absurd hx (by simp [cmX])
          | succ k2 =>
          unfold cmX at hx
          have HK := Aside0.mk hbk
          have HO2 := Aside0.mk ho
          have HTB2 := Aside0.mk htb
          have HB2 := Aside0.mk hb
          clear HO4 HTB4 HB4 HK4 HX HBK3 HB3 HBK4 HG4
          by_cases hxa : x < a0.size
          · rw [if_pos hxa] at hx
            have HSL := Aside0.mk hsl
            have HXN : Aside0 (wrap64 ((x : Int) + 1) = ((x + 1 : Nat) : Int)) := ⟨by have := HSZ.out; unfold wrap64; omega⟩
            have pxa : decide (x < a0.size) = true := decide_eq_true hxa
            have xx : ∀ h : x < a0.size, ((a0[x]'h).toNat : Int) = bt a0 (x : Int) := fun h => by have := bt_at a0 (x : Int); simp only [Int.toNat_natCast] at this; exact this h
            have hr0 := (bt_range a0 (x : Int)).1
            have hr1 := (bt_range a0 (x : Int)).2
            have hcell := bl_cell hbk hsl (bt a0 (x : Int)) hr0 hr1
            have hr2 : (bt a0 (x : Int) < 256) = True := eq_true (by omega)
            have hr3 : (0 ≤ bt a0 (x : Int)) = True := eq_true hr0
            have HR0 := Aside0.mk hr0
            have HR1 := Aside0.mk hr1
            clear hr0 hr1 hbk ho htb hb hsl
            go_upto_region 12 with fail
            go_cut [55] (fun v55 wc => XCut wx a0 a1 tb i j k2 x bi bj seen p v55 wc)
            case first =>
              by_cases hs : rdB seen (bt a0 (x : Int)) = true
              · rw [if_pos hs] at hx
                have HN := Aside0.mk hx
                clear hx
                rw [hs] at hcell
                clear hs
                go_wp2
                go_quiet (fail)
                go_wp2
                go_meet
                exact ⟨true, _, rfl, rfl, fun _ => HN.out, (fun e => by cases e)⟩
              · rw [if_neg hs] at hx
                replace hs := Bool.eq_false_iff.mpr hs
                rw [hs] at hcell
                clear hs
                by_cases hb0 : bi ≥ 0
                · rw [if_pos hb0] at hx
                  split at hx
                  case isFalse => cases hx
                  case isTrue hba =>
                  have pb0 : decide (bi ≥ 0) = true := decide_eq_true hb0
                  have pb0' : (0 ≤ bi) = True := eq_true hb0
                  have xb := bt_at a0 bi
                  have pba : (bi < (a0.size : Int)) = True := eq_true hba
                  have pbn : bi.toNat < a0.size := by omega
                  by_cases hge : bt a0 (x : Int) ≥ bt a0 bi
                  · rw [if_pos hge] at hx
                    have HN := Aside0.mk hx
                    have pge : decide (bt a0 (x : Int) ≥ bt a0 bi) = true := decide_eq_true hge
                    clear hx hge hb0 hba
                    go_wp2
                    go_quiet (fail)
                    go_wp2
                    go_meet
                    exact ⟨true, _, rfl, rfl, fun _ => HN.out, (fun e => by cases e)⟩
                  · rw [if_neg hge] at hx
                    have HN := Aside0.mk hx
                    have pge : decide (bt a0 (x : Int) ≥ bt a0 bi) = false := decide_eq_false hge
                    clear hx hge hb0 hba
                    go_wp2
                    go_quiet (fail)
                    go_wp2
                    go_meet
                    exact ⟨false, _, rfl, rfl, (fun e => by cases e), fun _ => HN.out⟩
                · rw [if_neg hb0] at hx
                  have HN := Aside0.mk hx
                  have pb0 : decide (bi ≥ 0) = false := decide_eq_false hb0
                  clear hx hb0
                  go_wp2
                  go_quiet (fail)
                  go_wp2
                  go_meet
                  exact ⟨false, _, rfl, rfl, (fun e => by cases e), fun _ => HN.out⟩
            case rest =>
              obtain ⟨b, n, rfl, rfl, hc1, hc2⟩ := hcut
              clear hx hcell
              cases b with
              | true =>
                have HC1 := Aside0.mk (hc1 rfl)
                clear hc1 hc2
                go_wp2
                go_roundg k2
                case measure => omega
                case rel => exact ⟨x + 1, bi, bj, seen, rfl, rfl, by first | rw [HXN.out] | go_num, HSL.out, HK.out, Kd.R_drewN HO2.out _, Kd.R_drewN HTB2.out _, pw_below_drewN HB2.out _, HC1.out⟩
              | false =>
                clear hc1
                obtain ⟨q, hq, hx2⟩ := Option.bind_eq_some_iff.mp (hc2 rfl)
                have HQ := Aside0.mk hq
                have HX2 := Aside0.mk hx2
                clear hc2 hq hx2
                have hfz := blk_frozen HK.out (bt a0 (x : Int)).toNat
                have hc0 : (wx.cell? ⟨gs, (bt a0 (x : Int)).toNat, none⟩) = some (.bool (rdB seen (bt a0 (x : Int)))) := bl_cell HK.out HSL.out _ HR0.out HR1.out
                have HKs := Aside0.mk (bl_set HK.out (bt a0 (x : Int)).toNat true)
                have HOs := Aside0.mk (Kd.R_set HO2.out HK.out (by decide) (bt a0 (x : Int)).toNat (.bool true))
                have HTs := Aside0.mk (Kd.R_set HTB2.out HK.out (by decide) (bt a0 (x : Int)).toNat (.bool true))
                have HBs := Aside0.mk (below_set (j := (bt a0 (x : Int)).toNat) (v := .bool true) HB2.out HGW.out)
                go_wp2
                go_loopg [10, 11, 14] (a1.size + 1) (fun d v10 v11 v14 w' => YAt w a0 a1 tb (.slice (some ad) tb.length ct) (.slice Ao out.length co) out gs i j x bi bj (seen.set (bt a0 (x : Int)).toNat true) q d v10 v11 v14 w')
                case atStart => exact ⟨j, rfl, rfl, rfl, (by first | exact HKs.out | exact blk_drewN HKs.out _ | exact blk_drewN (blk_drewN HKs.out _) _), (by first | exact HOs.out | exact Kd.R_drewN HOs.out _ | exact Kd.R_drewN (Kd.R_drewN HOs.out _) _), (by first | exact HTs.out | exact Kd.R_drewN HTs.out _ | exact Kd.R_drewN (Kd.R_drewN HTs.out _) _), (by first | exact HBs.out | exact pw_below_drewN HBs.out _ | exact pw_below_drewN (pw_below_drewN HBs.out _) _), HQ.out⟩
                case round =>
                  obtain ⟨y, rfl, rfl, rfl, hbk, ho, htb, hb, hy⟩ := hrel
                  obtain ⟨wy, rfl⟩ : ∃ wy : World, wy = wr := ⟨_, rfl⟩
                  cases gk with
                  | zero => exact absurd hy (by simp [cmY])
                  | succ k3 =>
                  unfold cmY at hy
                  have HK5 := Aside0.mk hbk
                  have HO5 := Aside0.mk ho
                  have HTB5 := Aside0.mk htb
                  have HB5 := Aside0.mk hb
                  clear HKs HOs HTs HBs hbk ho htb hb hfz hc0
                  by_cases hyb : y < a1.size
                  · rw [if_pos hyb] at hy
                    have HYN : Aside0 (wrap64 ((y : Int) + 1) = ((y + 1 : Nat) : Int)) := ⟨by have := HSZ.out; unfold wrap64; omega⟩
                    have xx : ∀ h : x < a0.size, ((a0[x]'h).toNat : Int) = bt a0 (x : Int) := fun h => by have := bt_at a0 (x : Int); simp only [Int.toNat_natCast] at this; exact this h
                    have xy : ∀ h : y < a1.size, ((a1[y]'h).toNat : Int) = bt a1 (y : Int) := fun h => by have := bt_at a1 (y : Int); simp only [Int.toNat_natCast] at this; exact this h
                    have pyb : decide (y < a1.size) = true := decide_eq_true hyb
                    by_cases hbt : bt a1 (y : Int) = bt a0 (x : Int)
                    · rw [if_pos hbt] at hy
                      split at hy
                      case isFalse => cases hy
                      case isTrue hg =>
                      have hbb : (bt a1 (y : Int) == bt a0 (x : Int)) = true := beq_iff_eq.mpr hbt
                      clear hbt
                      go_wp2
                      go_quiet (fail)
                      go_wp2
                      obtain ⟨hg1, hg2, hg3, hg4⟩ := hg
                      obtain ⟨s, hs⟩ : ∃ s : Int, (x : Int) + 1 = s := ⟨_, rfl⟩
                      obtain ⟨u, hu⟩ : ∃ u : Int, (y : Int) + 1 = u := ⟨_, rfl⟩
                      rw [hs, hu] at hy
                      rw [hs] at hg2
                      have hs0 : 0 ≤ s := by omega
                      have hs1 : s < (tb.length : Int) := by omega
                      have hu0 : 0 ≤ u := by omega
                      have hu1 : u < ((rd_L1 tb s).length : Int) := by omega
                      obtain ⟨ad1, A1, d1, e1, t1, l1, g1⟩ := at_L1 (Kd.R_reads' HTB5.out).2.2 s hs0 hs1
                      obtain ⟨ad2, A2, d2, e2, t2, l2, g2⟩ := at_L1 (Kd.R_reads' HTB5.out).2.2 (i : Int) (by omega) (by omega)
                      obtain rfl := Option.some.inj e1
                      obtain rfl := Option.some.inj e2
                      obtain ⟨b1, f1, r1⟩ := Kd.at_int g1 u hu0 hu1
                      obtain ⟨b2, f2, r2⟩ := Kd.at_int g2 (j : Int) (by omega) (by omega)
                      simp only [Int.toNat_natCast] at t2 r2
                      have HSX : Aside0 (s = ((x + 1 : Nat) : Int)) := ⟨by omega⟩
                      have hw1 : IntKind.i64.wrap ((x : Int) + 1) = s := (i64_w _).trans (HXN.out.trans (by omega))
                      have hw2 : IntKind.i64.wrap ((y : Int) + 1) = u := (i64_w _).trans (HYN.out.trans (by omega))
                      obtain ⟨z, hz⟩ : ∃ z : Int, wrap64 (rd (rd_L1 tb s) u + 1) = z := ⟨_, rfl⟩
                      rw [hz] at hy
                      have hw3 : IntKind.i64.wrap (rd (rd_L1 tb s) u + 1) = z := (i64_w _).trans hz
                      replace hs0 := eq_true hs0
                      replace hs1 := eq_true hs1
                      replace hu0 := eq_true hu0
                      replace hu1 := eq_true hu1
                      have q3 : (j < (rd_L1 tb (i : Int)).length) = True := eq_true hg4
                      have q5 : (i < tb.length) = True := eq_true hg3
                      obtain rfl := f1
                      obtain rfl := f2
                      clear e1 e2 g1 g2 l1 l2 hs hu hz hg1 hg2 hg3 hg4
                      by_cases hE : z = rd (rd_L1 tb (i : Int)) (j : Int)
                      · rw [if_pos hE] at hy
                        obtain rfl := Option.some.inj hy
                        have hEb : (z == rd (rd_L1 tb (i : Int)) (j : Int)) = true := beq_iff_eq.mpr hE
                        clear hE hy
                        go_quiet (fail)
                        go_wp2
                        go_roundg k2
                        case measure => omega
                        case rel => exact ⟨x + 1, (x : Int), (y : Int), _, rfl, rfl, by first | rw [HXN.out] | rw [HSX.out] | go_num, by rw [List.length_set]; exact HSL.out, (by first | exact HK5.out | exact blk_drewN HK5.out _ | exact blk_drewN (blk_drewN HK5.out _) _), (by first | exact HO5.out | exact Kd.R_drewN HO5.out _ | exact Kd.R_drewN (Kd.R_drewN HO5.out _) _), (by first | exact HTB5.out | exact Kd.R_drewN HTB5.out _ | exact Kd.R_drewN (Kd.R_drewN HTB5.out _) _), (by first | exact HB5.out | exact pw_below_drewN HB5.out _ | exact pw_below_drewN (pw_below_drewN HB5.out _) _), HX2.out⟩
                      · rw [if_neg hE] at hy
                        obtain rfl := Option.some.inj hy
                        have hEb : (z == rd (rd_L1 tb (i : Int)) (j : Int)) = false := beq_eq_false_iff_ne.mpr hE
                        clear hE hy
                        go_quiet (fail)
                        go_wp2
                        go_roundg k2
                        case measure => omega
                        case rel => exact ⟨x + 1, bi, bj, _, rfl, rfl, by first | rw [HXN.out] | rw [HSX.out] | go_num, by rw [List.length_set]; exact HSL.out, (by first | exact HK5.out | exact blk_drewN HK5.out _ | exact blk_drewN (blk_drewN HK5.out _) _), (by first | exact HO5.out | exact Kd.R_drewN HO5.out _ | exact Kd.R_drewN (Kd.R_drewN HO5.out _) _), (by first | exact HTB5.out | exact Kd.R_drewN HTB5.out _ | exact Kd.R_drewN (Kd.R_drewN HTB5.out _) _), (by first | exact HB5.out | exact pw_below_drewN HB5.out _ | exact pw_below_drewN (pw_below_drewN HB5.out _) _), HX2.out⟩
                    · rw [if_neg hbt] at hy
                      have HN := Aside0.mk hy
                      have hbb : (bt a1 (y : Int) == bt a0 (x : Int)) = false := beq_eq_false_iff_ne.mpr hbt
                      clear hy hbt
                      go_wp2
                      go_quiet (fail)
                      go_wp2
                      go_roundg k3
                      case measure => omega
                      case rel => exact ⟨y + 1, rfl, rfl, by first | rw [HYN.out] | go_num, (by first | exact HK5.out | exact blk_drewN HK5.out _ | exact blk_drewN (blk_drewN HK5.out _) _), (by first | exact HO5.out | exact Kd.R_drewN HO5.out _ | exact Kd.R_drewN (Kd.R_drewN HO5.out _) _), (by first | exact HTB5.out | exact Kd.R_drewN HTB5.out _ | exact Kd.R_drewN (Kd.R_drewN HTB5.out _) _), (by first | exact HB5.out | exact pw_below_drewN HB5.out _ | exact pw_below_drewN (pw_below_drewN HB5.out _) _), HN.out⟩
                  · rw [if_neg hyb] at hy
                    obtain rfl := Option.some.inj hy
                    have pyb : decide (y < a1.size) = false := decide_eq_false hyb
                    clear hy
                    go_wp2
                    go_roundg k2
                    case measure => omega
                    case rel => exact ⟨x + 1, bi, bj, _, rfl, rfl, by first | rw [HXN.out] | rw [HSX.out] | go_num, by rw [List.length_set]; exact HSL.out, (by first | exact HK5.out | exact blk_drewN HK5.out _ | exact blk_drewN (blk_drewN HK5.out _) _), (by first | exact HO5.out | exact Kd.R_drewN HO5.out _ | exact Kd.R_drewN (Kd.R_drewN HO5.out _) _), (by first | exact HTB5.out | exact Kd.R_drewN HTB5.out _ | exact Kd.R_drewN (Kd.R_drewN HTB5.out _) _), (by first | exact HB5.out | exact pw_below_drewN HB5.out _ | exact pw_below_drewN (pw_below_drewN HB5.out _) _), HX2.out⟩
          · rw [if_neg hxa] at hx
            obtain rfl := Option.some.inj hx
            have pxa : decide (x < a0.size) = false := decide_eq_false hxa
            obtain ⟨p1, p2, p3, p4, p5⟩ := HP.out
            have xbi := bt_at a0 bi
            have HDD := Aside0.mk HD.out
            obtain ⟨s, hs⟩ : ∃ s : Int, bi + 1 = s := ⟨_, rfl⟩
            obtain ⟨u, hu⟩ : ∃ u : Int, bj + 1 = u := ⟨_, rfl⟩
            have hw1 : IntKind.i64.wrap (bi + 1) = s := by rw [i64_w, ← hs]; have := HSZ.out; simp only at p1 p2; unfold wrap64; omega
            have hw2 : IntKind.i64.wrap (bj + 1) = u := by rw [i64_w, ← hu]; have := HSZ.out; simp only at p3 p4; unfold wrap64; omega
            have HS1 : Aside0 (s = ((bi + 1).toNat : Int)) := ⟨by rw [← hs]; simp only at p1; omega⟩
            have HU1 : Aside0 (u = ((bj + 1).toNat : Int)) := ⟨by rw [← hu]; simp only at p3; omega⟩
            simp only at p1 p2
            replace p1 := eq_true p1
            replace p2 := eq_true p2
            clear p3 p4 p5 hs hu hx hbk ho htb hb
            go_wp2_with (first | ((with_reducible refine gate_builtin (b := .append) (xs := #[.tmp 94, .tmp 98]) rfl ?_); at_builtin; refine Kd.R_append (Kd.int .u8) (w0 := w) w.heap.size rfl (.tmp 94) (.tmp 98) 30 5 (.int .u8 0) 1 rfl Try.underlying30 info5 rfl (by decide) (by decide) (.slice Ao out.length co) out (bt a0 bi) [.int .u8 (bt a0 bi)] (fun _ => True) (fun _ => False) rfl rfl ?aP (fun _ hk => hk.elim) (fun _ _ => trivial) ?aO ?aB ?aS ?aL ?_; (case aP => exact rfl); (case aB => exact HB2.out); (case aO => exact HO2.out); (case aS => exact HB2.out.size); (case aL => have := HP.out.2.2.2.2; omega); intro v1 wn ho1 hb1 hg1 hat1; have HO3 := Aside0.mk ho1; have HB3' := Aside0.mk hb1; have HT3 := Aside0.mk (Kd.R_over HTB2.out HO2.out (by decide) hg1); clear ho1 hb1 hg1 hat1))
            go_roundg k1
            case measure => omega
            case rel => exact ⟨_, _, _, by rw [HS1.out], by rw [HU1.out], HO3.out, HT3.out, HB3'.out, HDD.out⟩
      · rw [if_neg hpos] at hd
        obtain rfl := Option.some.inj hd
        have hpb : decide (rd (rd_L1 tb (i : Int)) (j : Int) > 0) = false := decide_eq_false hpos
        have hcv := own_string (P := Try.prog) Try.underlying30 Try.underlying5 Try.underlying9 (Kd.own_of_R HO.out)
        subst eo
        clear hd hpos
        go_wp2
        go_ret2
        exact ⟨rfl, HB.out⟩
theorem impl_CommonOf.mono : ∀ a0 a1 k, LeO (impl_CommonOf.f k a0 a1) (impl_CommonOf.f (k + 1) a0 a1) := by
  intro a0 a1 k
  unfold impl_CommonOf.f
  repeat' first
      | (with_reducible exact impl_areTexts.mono _ _ _)
      | (with_reducible exact impl_common.mono _ _ _)
      | (with_reducible exact LeO.refl _)
      | (with_reducible exact LeO.none _)
      | (with_reducible refine LeO.ite ?_ ?_)
      | (with_reducible refine LeO.bind ?_ (fun _ => ?_))

/-! ### laws_FnExactCommonOf: function 9 -/
def laws_FnExactCommonOf.f (k : Nat) (a0 : ByteArray) (a1 : ByteArray) : Option (Bool) := if (a0.size : Int) > 1048576 then (some true) else (if (a1.size : Int) > 1048576 then (some true) else ((spec_CommonOf.f k a0 a1).bind fun bt177 => ((impl_CommonOf.f k a0 a1).bind fun bt179 => (if bt179.1.toList = bt177.1.toList then (if (bt179.2 != bt177.2) = true then (some false) else (some true)) else (some false)))))
theorem laws_FnExactCommonOf.mono : ∀ a0 a1 k, LeO (laws_FnExactCommonOf.f k a0 a1) (laws_FnExactCommonOf.f (k + 1) a0 a1) := by
  intro a0 a1 k
  unfold laws_FnExactCommonOf.f
  repeat' first
      | (with_reducible exact impl_CommonOf.mono _ _ _)
      | (with_reducible exact spec_CommonOf.mono _ _ _)
      | (with_reducible exact LeO.refl _)
      | (with_reducible exact LeO.none _)
      | (with_reducible refine LeO.ite ?_ ?_)
      | (with_reducible refine LeO.bind ?_ (fun _ => ?_))
      | exact impl_CommonOf.mono _ _ _
      | exact spec_CommonOf.mono _ _ _
      | exact LeO.none _
      | refine LeO.ite ?_ ?_
      | refine LeO.bind ?_ (fun _ => ?_)
set_option maxHeartbeats 8000000 in
set_option maxRecDepth 100000 in
theorem laws_FnExactCommonOf.calls (k : Nat) (a0 : ByteArray) (a1 : ByteArray) (r : Bool) (w : World) (h : laws_FnExactCommonOf.f k a0 a1 = some r) :
    Calls Try.prog 9 #[.string a0, .string a1] w fun e w' => e = .returned (.bool r) ∧ Below w.heap.size w w' := by
  have HB := Aside0.mk (Below.refl w.heap.size w)
  have H : (if (a0.size : Int) > 1048576 then (some true) else (if (a1.size : Int) > 1048576 then (some true) else ((spec_CommonOf.f k a0 a1).bind fun bt177 => ((impl_CommonOf.f k a0 a1).bind fun bt179 => (if bt179.1.toList = bt177.1.toList then (if (bt179.2 != bt177.2) = true then (some false) else (some true)) else (some false)))))) = some r := h
  clear h
  by_cases c3 : (a0.size : Int) > 1048576
  · rw [if_pos c3] at H
    have c3b0 : decide (1048576 < (a0.size : Int)) = true := decide_eq_true c3
    have c3b1 : decide (1048576 < a0.size) = true := decide_eq_true (by omega)
    clear c3
    obtain rfl := Option.some.inj H
    go_enter Try.func9, Try.ntmps9
    go_wp2
    go_ret
    exact ⟨by first | rfl | (simp [errW_none, errW_some] <;> rfl) | (simp [*, errW_none, errW_some] <;> rfl), by repeat (first | (with_reducible first | exact HB.out | apply below_alloc | apply pw_below_drewN | apply below_drew1) | exact HB.out)⟩
  · rw [if_neg c3] at H
    have c3b0 : decide (1048576 < (a0.size : Int)) = false := decide_eq_false c3
    have c3b1 : decide (1048576 < a0.size) = false := decide_eq_false (by omega)
    clear c3
    by_cases c4 : (a1.size : Int) > 1048576
    · rw [if_pos c4] at H
      have c4b0 : decide (1048576 < (a1.size : Int)) = true := decide_eq_true c4
      have c4b1 : decide (1048576 < a1.size) = true := decide_eq_true (by omega)
      clear c4
      obtain rfl := Option.some.inj H
      go_enter Try.func9, Try.ntmps9
      go_wp2
      go_ret
      exact ⟨by first | rfl | (simp [errW_none, errW_some] <;> rfl) | (simp [*, errW_none, errW_some] <;> rfl), by repeat (first | (with_reducible first | exact HB.out | apply below_alloc | apply pw_below_drewN | apply below_drew1) | exact HB.out)⟩
    · rw [if_neg c4] at H
      have c4b0 : decide (1048576 < (a1.size : Int)) = false := decide_eq_false c4
      have c4b1 : decide (1048576 < a1.size) = false := decide_eq_false (by omega)
      clear c4
      replace H := Option.bind_eq_some_iff.mp H
      obtain ⟨⟨t177, t178⟩, A50, H⟩ := H
      replace H : ((impl_CommonOf.f k a0 a1).bind fun bt179 => (if bt179.1.toList = t177.toList then (if (bt179.2 != t178) = true then (some false) else (some true)) else (some false))) = some r := H
      have A5 := Aside0.mk A50
      clear A50
      replace H := Option.bind_eq_some_iff.mp H
      obtain ⟨⟨t179, t180⟩, A60, H⟩ := H
      replace H : (if t179.toList = t177.toList then (if (t180 != t178) = true then (some false) else (some true)) else (some false)) = some r := H
      have A6 := Aside0.mk A60
      clear A60
      by_cases c7 : t179.toList = t177.toList
      · rw [if_pos c7] at H
        have c7b0 : (t179.toList == t177.toList) = true := beq_iff_eq.mpr c7
        have c7b1 : (t179.toList != t177.toList) = false := bne_eq_false_iff_eq.mpr c7
        clear c7
        by_cases c8 : (t180 != t178) = true
        · rw [if_pos c8] at H
          have c8b0 : (t180 != t178) = true := c8
          (try (have c8b1 : decide (t180 = t178) = false := by simpa using c8))
          (try (have c8b2 : (t180 == t178) = false := by simpa using c8))
          (try (have c8b3 : ¬ (t180 = t178) := by simpa using c8))
          clear c8
          obtain rfl := Option.some.inj H
          go_enter Try.func9, Try.ntmps9
          go_wp2_with (first | ((with_reducible refine gate_callee (f := 33) rfl ?_); refine goesL_ (some 18) rfl rfl Try.func33 (by kernel_rfl) rfl #[.string a0, .string a1] rfl (by (try simp only [List.map_toArray, List.map_cons, List.map_nil]); first | done | rfl | (simp only [List.length_drop, List.length_take]; rfl)) ?_; (with_reducible refine (spec_CommonOf.calls k a0 a1 t177 t178 _ A5.out).mono ?_); rintro e w9 ⟨rfl, hb⟩; refine ⟨_, rfl, ?_⟩; have n0_ := Aside0.mk (below_step (by repeat (first | (with_reducible first | exact HB.out | apply below_alloc | apply pw_below_drewN | apply below_drew1) | exact HB.out)) hb); clear HB; have HB := n0_; clear n0_; (try clear hb); (try clear hb2); (try clear hk); (try clear hi)) | ((with_reducible refine gate_callee (f := 34) rfl ?_); refine goesL_ (some 24) rfl rfl Try.func34 (by kernel_rfl) rfl #[.string a0, .string a1] rfl (by (try simp only [List.map_toArray, List.map_cons, List.map_nil]); first | done | rfl | (simp only [List.length_drop, List.length_take]; rfl)) ?_; (with_reducible refine (impl_CommonOf.calls k a0 a1 t179 t180 _ A6.out).mono ?_); rintro e w10 ⟨rfl, hb⟩; refine ⟨_, rfl, ?_⟩; have n0_ := Aside0.mk (below_step (by repeat (first | (with_reducible first | exact HB.out | apply below_alloc | apply pw_below_drewN | apply below_drew1) | exact HB.out)) hb); clear HB; have HB := n0_; clear n0_; (try clear hb); (try clear hb2); (try clear hk); (try clear hi)))
          all_goals (try (exfalso; rename_i h_; rw [c7b0] at h_; cases h_; done))
          go_ret
          exact ⟨by first | rfl | (simp [errW_none, errW_some] <;> rfl) | (simp [*, errW_none, errW_some] <;> rfl), by repeat (first | (with_reducible first | exact HB.out | apply below_alloc | apply pw_below_drewN | apply below_drew1) | exact HB.out)⟩
        · rw [if_neg c8] at H
          have c8b0 : (t180 != t178) = false := by simpa using c8
          (try (have c8b1 : decide (t180 = t178) = true := by simpa using c8))
          (try (have c8b2 : (t180 == t178) = true := by simpa using c8))
          clear c8
          obtain rfl := Option.some.inj H
          go_enter Try.func9, Try.ntmps9
          go_wp2_with (first | ((with_reducible refine gate_callee (f := 33) rfl ?_); refine goesL_ (some 18) rfl rfl Try.func33 (by kernel_rfl) rfl #[.string a0, .string a1] rfl (by (try simp only [List.map_toArray, List.map_cons, List.map_nil]); first | done | rfl | (simp only [List.length_drop, List.length_take]; rfl)) ?_; (with_reducible refine (spec_CommonOf.calls k a0 a1 t177 t178 _ A5.out).mono ?_); rintro e w11 ⟨rfl, hb⟩; refine ⟨_, rfl, ?_⟩; have n0_ := Aside0.mk (below_step (by repeat (first | (with_reducible first | exact HB.out | apply below_alloc | apply pw_below_drewN | apply below_drew1) | exact HB.out)) hb); clear HB; have HB := n0_; clear n0_; (try clear hb); (try clear hb2); (try clear hk); (try clear hi)) | ((with_reducible refine gate_callee (f := 34) rfl ?_); refine goesL_ (some 24) rfl rfl Try.func34 (by kernel_rfl) rfl #[.string a0, .string a1] rfl (by (try simp only [List.map_toArray, List.map_cons, List.map_nil]); first | done | rfl | (simp only [List.length_drop, List.length_take]; rfl)) ?_; (with_reducible refine (impl_CommonOf.calls k a0 a1 t179 t180 _ A6.out).mono ?_); rintro e w12 ⟨rfl, hb⟩; refine ⟨_, rfl, ?_⟩; have n0_ := Aside0.mk (below_step (by repeat (first | (with_reducible first | exact HB.out | apply below_alloc | apply pw_below_drewN | apply below_drew1) | exact HB.out)) hb); clear HB; have HB := n0_; clear n0_; (try clear hb); (try clear hb2); (try clear hk); (try clear hi)))
          all_goals (try (exfalso; rename_i h_; rw [c7b0] at h_; cases h_; done))
          go_ret
          exact ⟨by first | rfl | (simp [errW_none, errW_some] <;> rfl) | (simp [*, errW_none, errW_some] <;> rfl), by repeat (first | (with_reducible first | exact HB.out | apply below_alloc | apply pw_below_drewN | apply below_drew1) | exact HB.out)⟩
      · rw [if_neg c7] at H
        have c7b0 : (t179.toList == t177.toList) = false := beq_eq_false_iff_ne.mpr c7
        have c7b1 : (t179.toList != t177.toList) = true := bne_iff_ne.mpr c7
        obtain rfl := Option.some.inj H
        go_enter Try.func9, Try.ntmps9
        go_wp2_with (first | ((with_reducible refine gate_callee (f := 33) rfl ?_); refine goesL_ (some 18) rfl rfl Try.func33 (by kernel_rfl) rfl #[.string a0, .string a1] rfl (by (try simp only [List.map_toArray, List.map_cons, List.map_nil]); first | done | rfl | (simp only [List.length_drop, List.length_take]; rfl)) ?_; (with_reducible refine (spec_CommonOf.calls k a0 a1 t177 t178 _ A5.out).mono ?_); rintro e w13 ⟨rfl, hb⟩; refine ⟨_, rfl, ?_⟩; have n0_ := Aside0.mk (below_step (by repeat (first | (with_reducible first | exact HB.out | apply below_alloc | apply pw_below_drewN | apply below_drew1) | exact HB.out)) hb); clear HB; have HB := n0_; clear n0_; (try clear hb); (try clear hb2); (try clear hk); (try clear hi)) | ((with_reducible refine gate_callee (f := 34) rfl ?_); refine goesL_ (some 24) rfl rfl Try.func34 (by kernel_rfl) rfl #[.string a0, .string a1] rfl (by (try simp only [List.map_toArray, List.map_cons, List.map_nil]); first | done | rfl | (simp only [List.length_drop, List.length_take]; rfl)) ?_; (with_reducible refine (impl_CommonOf.calls k a0 a1 t179 t180 _ A6.out).mono ?_); rintro e w14 ⟨rfl, hb⟩; refine ⟨_, rfl, ?_⟩; have n0_ := Aside0.mk (below_step (by repeat (first | (with_reducible first | exact HB.out | apply below_alloc | apply pw_below_drewN | apply below_drew1) | exact HB.out)) hb); clear HB; have HB := n0_; clear n0_; (try clear hb); (try clear hb2); (try clear hk); (try clear hi)))
        all_goals (try (exfalso; rename_i h_; rw [c7b0] at h_; cases h_; done))
        go_ret
        exact ⟨by first | rfl | (simp [errW_none, errW_some] <;> rfl) | (simp [*, errW_none, errW_some] <;> rfl), by repeat (first | (with_reducible first | exact HB.out | apply below_alloc | apply pw_below_drewN | apply below_drew1) | exact HB.out)⟩

/-- THE ONE PURE STATEMENT of laws_FnExactCommonOf: yours. -/
def laws_FnExactCommonOf.Pure : Prop := ∀ (a0 : ByteArray) (a1 : ByteArray), a0.size ≤ 140737488351232 → a1.size ≤ 140737488351232 → ∃ k, laws_FnExactCommonOf.f k a0 a1 = some true
theorem laws_FnExactCommonOf.walk (P : laws_FnExactCommonOf.Pure) (a0 : ByteArray) (a1 : ByteArray) (w : World) (w0 : a0.size ≤ 140737488351232) (w1 : a1.size ≤ 140737488351232) :
    Calls Try.prog 9 #[.string a0, .string a1] w fun e w' => e = .returned (.bool true) ∧ Below w.heap.size w w' := by
  obtain ⟨k, h⟩ := P a0 a1 w0 w1
  refine (laws_FnExactCommonOf.calls k a0 a1 true w h).mono ?_
  rintro e w' ⟨rfl, hd⟩
  exact ⟨rfl, hd⟩

end Go.Proofs.Ytibedlbjkaikiaa.AFnExactCommonOf
