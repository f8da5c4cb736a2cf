-- this session's own text: written by wip/tools/ownprint.py over the kit's print
import Derived.Test.YtmkenlejdaphnaaAFnRopesx0
import Derived.Test.YtmkenlejdaphnaaAFnRopesx3
namespace Go.Proofs.Ytmkenlejdaphnaa.AFnRopes
open Go.RowKit Go.Proofs.YtmkenlejdaphnaaW.PrintWords Go.Proofs.YtmkenlejdaphnaaW.PrintLast Go.Proofs.YtmkenlejdaphnaaW.PrintMore
attribute [local go_sem] max2_int min2_int max_two min_two max_three min_three max_four min_four   -- for this text's walks alone
set_option linter.unusedVariables false
set_option linter.unusedSimpArgs false

/-! ### impl_Rope_open: function 48, by hand -/
theorem lm_get {w : World} {A : Option Addr} {n : Nat} {xs : List Limb} (h : kLm.C w A n xs) (i : Nat) (h1 : i < n) : ∃ ad P, A = some ad ∧ w.cell? (ad.add i) = some (.pointer P) ∧ LmAt w (fun _ => True) (xs.getD i .nil) P := by
 obtain ⟨ad, c, e, _, hK, hc⟩ := Kd.C_get h .nil (i : Int) (by omega) (by omega)
 obtain ⟨P, rfl, hl⟩ := hK
 refine ⟨ad, P, e, ?_, by simpa using hl⟩
 have := hc 0 _ rfl
 simpa [kLm] using this
theorem getM_drop_one {cs : List Value} {j : Nat} (h : j < cs.length) : (cs.drop (j * 1)).take 1 = [cs[j]] := by
 rw [Nat.mul_one, List.drop_eq_getElem_cons h]; rfl
/-- An element as one's own. -/
theorem lm_getM {w : World} {base : Nat} {ok : Nat → Prop} {g cap : Nat} {xs : List Limb} (h : kLm.R 67 w base ok (.slice (some ⟨g, 0, none⟩) xs.length cap) xs) (i : Nat) (h1 : i < xs.length) : ∃ P, w.cell? ⟨g, i, none⟩ = some (.pointer P) ∧ w.frozen? ⟨g, i, none⟩ = false ∧ LmAt w (fun k => ok k ∧ base ≤ k) (xs.getD i .nil) P := by
 obtain ⟨h0, inner, ho, hr⟩ := h
 have hl : inner.length = xs.length := by have := hr.1; simpa [kLm] using this
 have h2 := hr.2 i _ (aX h1)
 rw [show kLm.sz = 1 from rfl, getM_drop_one (by omega)] at h2
 obtain ⟨P, he, hL⟩ := h2
 have hP : inner[i] = .pointer P := by injection he
 have hc := own_at_of (enc := fun v : Value => v) (xs := inner) (d := undef) (W := w) (base := base) (e := 67) (g := g) (cap := cap) (n := xs.length) (by simpa [encs, kLm] using ho) (i : Int) (by omega) (by omega)
 refine ⟨P, ?_, ?_, ?_⟩
 ·have := hc.1
  simp only [aY] at this
  rw [this]
  unfold rdOf
  rw [List.getD_eq_getElem?_getD, aY, aX (by omega)]
  rw [← hP]; rfl
 ·have := hc.2
  simpa using this
 ·rw [List.getD_eq_getElem?_getD, aX h1]
  exact hL.mono (fun k hk => ⟨hk.1.1, hk.2⟩)
theorem lm_put {w : World} {base : Nat} {g cap : Nat} {xs : List Limb} (h : kLm.R 67 w base (fun _ => True) (.slice (some ⟨g, 0, none⟩) xs.length cap) xs) (i : Nat) (x : Limb) (P : Option Addr) (hx : LmAt w (fun k => base ≤ k) x P) :
  kLm.R 67 (w.setCell ⟨g, i, none⟩ (.pointer P)) base (fun _ => True) (.slice (some ⟨g, 0, none⟩) xs.length cap) (xs.set i x) ∧ w.grownBy (w.setCell ⟨g, i, none⟩ (.pointer P)) (some g) := by
 obtain ⟨h0, inner, ho, hr⟩ := h
 have hl : inner.length = xs.length := by have := hr.1; simpa [kLm] using this
 obtain ⟨cells, hg⟩ := own_typed ho g (by simp [Value.ownBlock])
 have hs := own_store_of (enc := fun v : Value => v) (xs := inner) (W := w) (base := base) (e := 67) (g := g) (cap := cap) (n := xs.length) (by simpa [encs, kLm] using ho) (i : Int) (.pointer P)
 simp only [aY] at hs
 refine ⟨⟨fun _ _ => trivial, inner.set i (.pointer P), ?_, ?_, ?_⟩, hs.2⟩
 ·rw [List.length_set]
  simpa [encs, kLm] using hs.1
 ·rw [List.length_set, List.length_set]; exact hr.1
 ·intro j p hj
  rw [List.getElem?_set] at hj
  have hjl : j < (inner.set i (.pointer P)).length := by
   rw [List.length_set, hl]
   split at hj
   ·split at hj
    ·omega
    ·cases hj
   ·exact (List.getElem?_eq_some_iff.1 hj).1
  rw [show kLm.sz = 1 from rfl, getM_drop_one hjl]
  have hmv : ∀ {t : Limb} {A : Option Addr}, LmAt w (fun k => base ≤ k) t A → LmAt (w.setCell ⟨g, i, none⟩ (.pointer P)) (fun k => (True ∧ some k ≠ Value.ownBlock (.slice (some ⟨g, 0, none⟩) xs.length cap)) ∧ base ≤ k) t A := fun {t A} ha => by
   refine (((ha.bound.mono (ok' := fun k => base ≤ k ∧ k ≠ g) (fun k hk => ⟨hk.1, ?_⟩)).move (w1 := w.setCell ⟨g, i, none⟩ (.pointer P)) ?_).mono ?_)
   ·rintro rfl
    obtain ⟨_, _, c, hc⟩ := hk
    rw [hc] at hg
    injection hg with hg
    injection hg with _ hg
    exact absurd hg z0
   ·exact fun k hk => Below.heap_setCell w ⟨g, i, none⟩ _ k hk.2
   ·exact fun k hk => ⟨⟨trivial, by simp [Value.ownBlock]; exact hk.2⟩, hk.1⟩
  by_cases e : i = j
  ·subst e
   rw [if_pos rfl] at hj
   split at hj
   ·obtain rfl := sI hj
    exact ⟨P, by rw [List.getElem_set_self], hmv hx⟩
   ·cases hj
  ·rw [if_neg e] at hj
   have h2 := hr.2 j p hj
   rw [show kLm.sz = 1 from rfl, getM_drop_one (by rw [List.length_set] at hjl; exact hjl)] at h2
   obtain ⟨Q, he, hL⟩ := h2
   exact ⟨Q, by rw [List.getElem_set_ne e]; exact he, hmv (hL.mono (fun k hk => hk.2))⟩
theorem lm_set_snoc (ts : List Limb) (m : Nat) (x : Limb) : (ts ++ List.replicate (m + 1) Limb.nil).set ts.length x = (ts ++ [x]) ++ List.replicate m Limb.nil := by
 rw [List.replicate_succ, List.set_append_right (h := Nat.le_refl _), Nat.sub_self, sB, List.append_assoc]; rfl
theorem int_set_snoc (fs : List Int) (m : Nat) (x : Int) : (fs ++ List.replicate (m + 1) (0 : Int)).set fs.length x = (fs ++ [x]) ++ List.replicate m 0 := by
 rw [List.replicate_succ, List.set_append_right (h := Nat.le_refl _), Nat.sub_self, sB, List.append_assoc]; rfl
theorem info_limbp : (Try.prog.info? 67).map (fun i => (i.zero, i.size, i.bytes)) = some (some (.pointer none), 1, 8) := by kernel_rfl
/-- The boughs from one on, behind the trees and first places of those ahead; inner none: no good rope. -/
def opl (k : Nat) : List S58 → List Limb → List Int → Option (Option (List Limb × List Int))
 | [], ts, fs => some (some (ts, fs))
 | b :: bs, ts, fs =>
  if b.f0 = -1 ∧ b.f1 = -1 then
   (if b.f2.toList = [] then some none else (if 8 < (b.f2.size : Int) then some none else
    (impl_GoodText.f k b.f2).bind fun g => (if g = false then some none else (if b.f3 ≠ (b.f2.size : Int) then some none else (if b.f4 ≠ 0 then some none else opl k bs (ts ++ [lf b.f2]) (fs ++ [(ts.length : Int)]))))))
  else (if b.f1 ≠ (ts.length : Int) - 1 then some none else (if b.f1 < 0 then some none else (if b.f0 < 0 then some none else
   (if b.f0 ≠ fs.getD (ts.length - 1) 0 - 1 then some none else (if b.f2.toList ≠ [] then some none else
    (if b.f0.toNat < ts.length ∧ (fk (ts.getD b.f0.toNat .nil) (ts.getD (ts.length - 1) .nil)).isNil = false then
     (if b.f3 ≠ (fk (ts.getD b.f0.toNat .nil) (ts.getD (ts.length - 1) .nil)).size then some none else
      (if b.f4 ≠ (fk (ts.getD b.f0.toNat .nil) (ts.getD (ts.length - 1) .nil)).deep then some none else
       opl k bs (ts ++ [fk (ts.getD b.f0.toNat .nil) (ts.getD (ts.length - 1) .nil)]) (fs ++ [fs.getD b.f0.toNat 0])))
     else none))))))
def opnF (k : Nat) (l : List S58) : Option (Limb × Bool) :=
 if 200 < l.length then some (.nil, false) else (if l.length = 0 then some (.nil, true) else
  (opl k l [] []).bind fun o => match o with
   | none => some (.nil, false)
   | some (ts, fs) => if (ts.getD (l.length - 1) .nil).isNil = false then some (ts.getD (l.length - 1) .nil, decide (fs.getD (l.length - 1) 0 = 0) && decide ((ts.getD (l.length - 1) .nil).size ≤ 300)) else none)
def OpAt (w : World) (t : Limb) (ok : Bool) (e : Ending) (w' : World) : Prop := ∃ P, e = .returned (.tuple #[.pointer P, .bool ok]) ∧ LmAt w' (fun k => w.heap.size ≤ k) t P ∧ Below w.heap.size w w'
/-- What holds of both rows, the trees' and the first places'. -/
def OpRows (w : World) (n : Nat) (gl cl gf cf : Nat) (ts : List Limb) (fs : List Int) (wr : World) : Prop :=
 kLm.R 67 wr w.heap.size (fun _ => True) (.slice (some ⟨gl, 0, none⟩) n cl) (ts ++ List.replicate (n - ts.length) .nil) ∧ Kd.R (Kd.int .i64) 3 wr w.heap.size (fun _ => True) (.slice (some ⟨gf, 0, none⟩) n cf) (fs ++ List.replicate (n - ts.length) 0) ∧ Below w.heap.size w wr ∧ fs.length = ts.length ∧ (∀ j, j < ts.length → 0 ≤ fs.getD j 0 ∧ fs.getD j 0 ≤ (j : Int))
theorem OpRows.below {w wr w1 : World} {n gl cl gf cf : Nat} {ts : List Limb} {fs : List Int} (h : OpRows w n gl cl gf cf ts fs wr) (hb : Below wr.heap.size wr w1) : OpRows w n gl cl gf cf ts fs w1 :=
 ⟨ag h.1 hb, ag h.2.1 hb, aA h.2.2.1 hb, h.2.2.2⟩
theorem OpRows.set {w wr : World} {n gl cl gf cf : Nat} {ts : List Limb} {fs : List Int} (h : OpRows w n gl cl gf cf ts fs wr) {gb : Nat} {cs : Array Value} (hb : wr.heap[gb]? = some (.cells cs 58 (0, 0))) (hg : w.heap.size ≤ gb) (j : Nat) (u : Value) : OpRows w n gl cl gf cf ts fs (wr.setCell ⟨gb, j, none⟩ u) :=
 ⟨Kd.R_set h.1 hb z0 j u, Kd.R_set h.2.1 hb z0 j u, az h.2.2.1 hg, h.2.2.2⟩
/-- Both rows behind the stores of a round. -/
theorem OpRows.push {w wr : World} {n gl cl gf cf : Nat} {ts : List Limb} {fs : List Int} (h : OpRows w n gl cl gf cf ts fs wr) (hn : ts.length < n) {x : Limb} {P : Option Addr} (hx : LmAt wr (fun k => w.heap.size ≤ k) x P) {y : Int} (hy : 0 ≤ y ∧ y ≤ (ts.length : Int)) :
  OpRows w n gl cl gf cf (ts ++ [x]) (fs ++ [y]) ((wr.setCell ⟨gl, ts.length, none⟩ (.pointer P)).setCell ⟨gf, ts.length, none⟩ (.int .i64 y)) := by
 obtain ⟨hl, hf, hb, hfl, hi⟩ := h
 obtain ⟨m, hm⟩ : ∃ m, n - ts.length = m + 1 := ⟨n - ts.length - 1, by omega⟩
 have e1 : (ts ++ List.replicate (n - ts.length) Limb.nil).length = n := by rw [aZ, List.length_replicate]; omega
 have e2 : (fs ++ List.replicate (n - ts.length) (0 : Int)).length = n := by rw [aZ, List.length_replicate, hfl]; omega
 have hl' : kLm.R 67 wr w.heap.size (fun _ => True) (.slice (some ⟨gl, 0, none⟩) (ts ++ List.replicate (n - ts.length) Limb.nil).length cl) (ts ++ List.replicate (n - ts.length) Limb.nil) := by rw [e1]; exact hl
 obtain ⟨cg, hcg⟩ := own_typed (Kd.R_own hl).choose_spec gl (by simp [Value.ownBlock])
 obtain ⟨cf', hcf⟩ := own_typed (Kd.R_own hf).choose_spec gf (by simp [Value.ownBlock])
 have hbg : w.heap.size ≤ gl := al hl gl (by simp [Value.ownBlock])
 have hbf : w.heap.size ≤ gf := al hf gf (by simp [Value.ownBlock])
 have hne : gf ≠ gl := blk_ne hcf hcg z0
 obtain ⟨p1, -⟩ := lm_put hl' ts.length x P hx
 have f1 := Kd.R_set hf hcg z0 ts.length (.pointer P)
 have hcf1 := aw hcf (p := ⟨gl, ts.length, none⟩) hne (.pointer P)
 have p2 := Kd.R_set p1 hcf1 z0 ts.length (.int .i64 y)
 have f1' : Kd.R (Kd.int .i64) 3 (wr.setCell ⟨gl, ts.length, none⟩ (.pointer P)) w.heap.size (fun _ => True) (.slice (some ⟨gf, 0, none⟩) (fs ++ List.replicate (n - ts.length) (0 : Int)).length cf) (fs ++ List.replicate (n - ts.length) 0) := by rw [e2]; exact f1
 obtain ⟨f2, -⟩ := Kd.R_put f1' (ts.length : Int) y
 simp only [aY] at f2
 rw [hm] at p2 f2
 rw [lm_set_snoc] at p2
 rw [← hfl] at f2
 rw [int_set_snoc] at f2
 have hm2 : n - (ts ++ [x]).length = m := by rw [aZ, a5]; omega
 refine ⟨?_, ?_, az (az hb hbg) hbf, by simp [hfl], ?_⟩
 ·rw [hm2]
  have e3 : (ts ++ List.replicate (m + 1) Limb.nil).length = n := by rw [← hm]; exact e1
  rw [e3] at p2
  exact p2
 ·rw [hm2]
  have e3 : (fs ++ List.replicate (m + 1) (0 : Int)).length = n := by rw [← hm]; exact e2
  rw [e3] at f2
  rw [← hfl]
  exact f2
 ·intro j hj
  rw [aZ, a5] at hj
  rw [List.getD_eq_getElem?_getD, List.getElem?_append]
  by_cases hjl : j < fs.length
  ·rw [if_pos hjl, ← List.getD_eq_getElem?_getD]
   exact hi j (by omega)
  ·rw [if_neg hjl, show j - fs.length = 0 by omega]
   have : j = ts.length := by omega
   subst this
   exact hy
def OpRel (k : Nat) (l : List S58) (o : Option (List Limb × List Int)) (w : World) (gl cl gf cf : Nat) (d : Nat) (v29 : Value) (wr : World) : Prop :=
 ∃ ts fs, v29 = .int .i64 (ts.length : Nat) ∧ ts.length + d = l.length ∧ OpRows w l.length gl cl gf cf ts fs wr ∧ opl k (l.drop ts.length) ts fs = some o
/-- The bough of a round, in its own block. -/
def OpBox (w : World) (b : S58) (gb : Nat) (wr : World) : Prop := wr.heap[gb]? = some (.cells #[.int .i64 b.f0, .int .i64 b.f1, .string b.f2, .int .i64 b.f3, .int .i64 b.f4] 58 (0, 0)) ∧ w.heap.size ≤ gb
/-- The cells that a round stores into. -/
theorem OpRows.at_ {w wr : World} {n gl cl gf cf : Nat} {ts : List Limb} {fs : List Int} (h : OpRows w n gl cl gf cf ts fs wr) (hn : ts.length < n) :
  (∃ P, wr.cell? ⟨gl, ts.length, none⟩ = some (.pointer P)) ∧ wr.frozen? ⟨gl, ts.length, none⟩ = false ∧ (∃ y, wr.cell? ⟨gf, ts.length, none⟩ = some (.int .i64 y)) ∧ wr.frozen? ⟨gf, ts.length, none⟩ = false ∧ gf ≠ gl := by
 obtain ⟨hl, hf, hb, hfl, hi⟩ := h
 have e1 : (ts ++ List.replicate (n - ts.length) Limb.nil).length = n := by rw [aZ, List.length_replicate]; omega
 have e2 : (fs ++ List.replicate (n - ts.length) (0 : Int)).length = n := by rw [aZ, List.length_replicate, hfl]; omega
 have hl' : kLm.R 67 wr w.heap.size (fun _ => True) (.slice (some ⟨gl, 0, none⟩) (ts ++ List.replicate (n - ts.length) Limb.nil).length cl) (ts ++ List.replicate (n - ts.length) Limb.nil) := by rw [e1]; exact hl
 have hf' : Kd.R (Kd.int .i64) 3 wr w.heap.size (fun _ => True) (.slice (some ⟨gf, 0, none⟩) (fs ++ List.replicate (n - ts.length) (0 : Int)).length cf) (fs ++ List.replicate (n - ts.length) 0) := by rw [e2]; exact hf
 obtain ⟨cg, hcg⟩ := own_typed (Kd.R_own hl).choose_spec gl (by simp [Value.ownBlock])
 obtain ⟨cf', hcf⟩ := own_typed (Kd.R_own hf).choose_spec gf (by simp [Value.ownBlock])
 obtain ⟨P, a1, a2, -⟩ := lm_getM hl' ts.length (by rw [e1]; exact hn)
 obtain ⟨b1, b2⟩ := Kd.R_cell (0 : Int) hf' (ts.length : Int) (by omega) (by rw [e2]; omega)
 simp only [aY] at b1 b2
 exact ⟨⟨P, a1⟩, a2, ⟨_, b1⟩, b2, blk_ne hcf hcg z0⟩
/-- What has been read of both rows. -/
theorem OpRows.get {w wr : World} {n gl cl gf cf : Nat} {ts : List Limb} {fs : List Int} (h : OpRows w n gl cl gf cf ts fs wr) (hn : ts.length ≤ n) (j : Nat) (hj : j < ts.length) :
  (∃ P, wr.cell? ⟨gl, j, none⟩ = some (.pointer P) ∧ LmAt wr (fun k => w.heap.size ≤ k) (ts.getD j .nil) P) ∧ wr.cell? ⟨gf, j, none⟩ = some (.int .i64 (fs.getD j 0)) := by
 obtain ⟨hl, hf, hb, hfl, hi⟩ := h
 have e1 : (ts ++ List.replicate (n - ts.length) Limb.nil).length = n := by rw [aZ, List.length_replicate]; omega
 have e2 : (fs ++ List.replicate (n - ts.length) (0 : Int)).length = n := by rw [aZ, List.length_replicate, hfl]; omega
 have hl' : kLm.R 67 wr w.heap.size (fun _ => True) (.slice (some ⟨gl, 0, none⟩) (ts ++ List.replicate (n - ts.length) Limb.nil).length cl) (ts ++ List.replicate (n - ts.length) Limb.nil) := by rw [e1]; exact hl
 have hf' : Kd.R (Kd.int .i64) 3 wr w.heap.size (fun _ => True) (.slice (some ⟨gf, 0, none⟩) (fs ++ List.replicate (n - ts.length) (0 : Int)).length cf) (fs ++ List.replicate (n - ts.length) 0) := by rw [e2]; exact hf
 obtain ⟨P, a1, a2, a3⟩ := lm_getM hl' j (by rw [e1]; omega)
 obtain ⟨b1, b2⟩ := Kd.R_cell (0 : Int) hf' (j : Int) (by omega) (by rw [e2]; omega)
 simp only [aY, rdOf] at b1
 rw [List.getD_eq_getElem?_getD, List.getElem?_append_left (by omega), ← List.getD_eq_getElem?_getD] at a3 b1
 exact ⟨⟨P, a1, a3.mono (fun _ hk => hk.2)⟩, b1⟩
theorem OpBox.push {w wr : World} {n gl cl gf cf : Nat} {ts : List Limb} {fs : List Int} {b : S58} {gb : Nat} (h : OpBox w b gb wr) (hr : OpRows w n gl cl gf cf ts fs wr) (i : Nat) (u v : Value) : OpBox w b gb ((wr.setCell ⟨gl, i, none⟩ u).setCell ⟨gf, i, none⟩ v) := by
 obtain ⟨hl, hf, -⟩ := hr
 obtain ⟨cg, hcg⟩ := own_typed (Kd.R_own hl).choose_spec gl (by simp [Value.ownBlock])
 obtain ⟨cf', hcf⟩ := own_typed (Kd.R_own hf).choose_spec gf (by simp [Value.ownBlock])
 exact ⟨aw (aw h.1 (p := ⟨gl, i, none⟩) (blk_ne h.1 hcg z0) u) (p := ⟨gf, i, none⟩) (blk_ne h.1 hcf z0) v, h.2⟩
theorem OpBox.below {w wr w1 : World} {b : S58} {gb : Nat} (h : OpBox w b gb wr) (hb : Below wr.heap.size wr w1) : OpBox w b gb w1 := ⟨af h.1 hb, h.2⟩
set_option maxHeartbeats 4000000 in
set_option maxRecDepth 100000 in
theorem open_any (k : Nat) (l : List S58) (A : Option Addr) (c : Nat) (t : Limb) (okr : Bool) (w : World) (hC : Kd.C k58 w A l.length l) (hc : l.length ≤ c) (h : opnF k l = some (t, okr)) :
  Calls Try.prog 48 #[.agg #[.slice A l.length c]] w (OpAt w t okr) := by
 unfold opnF at h
 have HC := aM hC
 by_cases hb : 200 < l.length
 ·rw [if_pos hb] at h
  obtain ⟨rfl, rfl⟩ := Prod.mk.inj (sI h)
  have q1 : decide ((200 : Int) < (l.length : Int)) = true := dT (by omega)
  clear h hb hC hc
  go_enter Try.func48, Try.ntmps48
  go_wp2
  go_ret2
  exact ⟨none, rfl, rfl, bA (Below.refl _ _) _⟩
 rw [if_neg hb] at h
 have q1 : decide ((200 : Int) < (l.length : Int)) = false := dF (by omega)
 by_cases hz : l.length = 0
 ·rw [if_pos hz] at h
  obtain ⟨rfl, rfl⟩ := Prod.mk.inj (sI h)
  have q2 : ((l.length : Int) == 0) = true := qT (by omega)
  clear h hb hz hC hc
  go_enter Try.func48, Try.ntmps48
  go_wp2
  go_ret2
  exact ⟨none, rfl, rfl, bA (Below.refl _ _) _⟩
 rw [if_neg hz] at h
 have q2 : ((l.length : Int) == 0) = false := qF (by omega)
 obtain ⟨o, ho, h⟩ := oB h
 have HO := aM ho
 have HE := aM h
 have HN : Aside0 (l.length ≤ 200 ∧ 0 < l.length) := ⟨by omega⟩
 clear ho h hC hb hz hc
 go_enter Try.func48, Try.ntmps48
 go_wp2_with (first | ((with_reducible refine aN (N := 21) rfl ?_); refine Kd.R_make kLm _ 67 rfl (N := 21) rfl 101 _ _ rfl (l.length : Int) rfl rfl Try.underlying101 (.pointer none) 8 info_limbp rfl z0 (by omega) Limb.nil (ok := fun _ => True) (okp := fun _ => True) ⟨none, rfl, rfl⟩ (fun _ hk => hk) trivial (by omega) (by have := HN.out; simp only [aY]; omega) (Below.refl _ _) (Nat.le_refl _) ?_; intro v1 w1 ho hb hg hn; simp only [aY] at ho; obtain ⟨A1, c1, eo⟩ := Kd.R_slice ho; rw [List.length_replicate] at eo; subst eo; have HL1 := aM ho; have HB1 := aM hb; have HX1 := aM (af (blk_new w (.cells #[.slice A l.length c] 29)) hb); have d1 : w1.cell? ⟨w.heap.size, 0, none⟩ = some (.slice A l.length c) := (bC HX1.out 0).trans rfl; clear ho hb hg hn) | ((with_reducible refine aN (N := 25) rfl ?_); refine Kd.R_make (Kd.int .i64) _ 3 rfl (N := 25) rfl 102 _ _ rfl (l.length : Int) rfl rfl Try.underlying102 (.int .i64 0) 8 info3 rfl z0 (by omega) (0 : Int) (ok := fun _ => True) (okp := fun _ => True) rfl (fun _ hk => hk) trivial (by omega) (by have := HN.out; simp only [aY]; omega) (Below.refl _ _) (Nat.le_refl _) ?_; intro v2 w2 ho hb hg hn; simp only [aY] at ho; obtain ⟨A2, c2, eo⟩ := Kd.R_slice ho; rw [List.length_replicate] at eo; subst eo; have HF2 := aM ho; have HB2 := aM hb; have HX2 := aM (af HX1.out hb); have d2 : w2.cell? ⟨w.heap.size, 0, none⟩ = some (.slice A l.length c) := (bC HX2.out 0).trans rfl; clear ho hb hg hn))
 obtain ⟨gl, cl, el, -, -, -⟩ := Kd.R_form HL1.out (by rw [List.length_replicate]; exact HN.out.2)
 rw [List.length_replicate] at el
 obtain ⟨gf, cf, ef, -, -, -⟩ := Kd.R_form HF2.out (by rw [List.length_replicate]; exact HN.out.2)
 rw [List.length_replicate] at ef
 have HB0 : Aside0 (Below w.heap.size w w2) := ⟨aA (aA (bA (Below.refl _ _) _) HB1.out) HB2.out⟩
 have em : Aside0 (OpRows w l.length gl cl gf cf [] [] w2) := ⟨by
  refine ⟨?_, ?_, HB0.out, rfl, fun j hj => absurd hj (by simp)⟩
  ·have := ag (aW HL1.out (base' := w.heap.size) (by simp)) HB2.out
   rw [el] at this
   simpa using this
  ·have := aW HF2.out (base' := w.heap.size) (by have := HB1.out.size; simp at this; omega)
   rw [ef] at this
   simpa using this⟩
 rw [el, ef]
 clear el ef d1 d2 HB1 HB2 HX1 HX2 HL1 HF2 h
 go_loopg [29] l.length (fun d v29 w' => OpRel k l o w gl cl gf cf d v29 w')
 case atStart => exact ⟨[], [], rfl, Nat.zero_add _, em.out, by rw [List.length_nil, List.drop_zero]; exact HO.out⟩
 case round =>
  clear em HB0 HO
  obtain ⟨ts, fs, rfl, hd, hrows, ho⟩ := hrel
  have HR := aM hrows
  have HO := aM ho
  have HD := aM hd
  clear hrows ho
  have hn2 : l.length ≤ 200 := HN.out.1
  cases gk with
  | zero =>
   have p1 : decide (ts.length < l.length) = false := dF (by omega)
   have hn : ts.length = l.length := by omega
   have ho := HO.out
   rw [List.drop_of_length_le (Nat.le_of_eq hn.symm)] at ho
   have he := HE.out
   obtain rfl := sI ho
   obtain ⟨m, hm⟩ : ∃ m, l.length = m + 1 := ⟨l.length - 1, by have := HN.out.2; omega⟩
   have hm1 : l.length - 1 = m := by omega
   dsimp only at he
   rw [hm1] at he
   obtain ⟨hl, hf, hb, hfl, -⟩ := HR.out
   rw [hn, Nat.sub_self, List.replicate_zero, List.append_nil] at hl hf
   have HB := aM hb
   have hl' : kLm.R 67 wr w.heap.size (fun _ => True) (.slice (some ⟨gl, 0, none⟩) ts.length cl) ts := by rw [hn]; exact hl
   have hf' : Kd.R (Kd.int .i64) 3 wr w.heap.size (fun _ => True) (.slice (some ⟨gf, 0, none⟩) fs.length cf) fs := by rw [hfl, hn]; exact hf
   obtain ⟨P, cP, -, LP⟩ := lm_getM hl' m (by omega)
   have cF : wr.cell? ⟨gf, m, none⟩ = some (.int .i64 (fs.getD m 0)) := by
    have := (Kd.R_cell (0 : Int) hf' (m : Int) (by omega) (by omega)).1
    simp only [rdOf, aY] at this
    exact this
   split at he
   case isFalse => cases he
   case isTrue hni =>
   obtain ⟨et, eo⟩ := Prod.mk.inj (sI he)
   have HT := aM et
   generalize ts.getD m .nil = tt at *
   cases tt with
   | nil => cases hni
   | node xl xr xs xn xd =>
    obtain ⟨bp, Lp, Rp, rfl, hbp, hcp, -, -⟩ := id LP
    have c3 : wr.cell? ⟨bp, 3, none⟩ = some (.int .i64 xn) := (bC hcp 3).trans rfl
    have HP : Aside0 (LmAt wr (fun k => w.heap.size ≤ k) (.node xl xr xs xn xd) (some ⟨bp, 0, none⟩)) := ⟨LP.mono (fun _ hk => hk.2)⟩
    have eo' : (decide (fs.getD m 0 = 0) && decide (xn ≤ 300)) = okr := eo
    generalize fs.getD m 0 = F at *
    have s1 : IntKind.i64.wrap ((l.length : Int) - 1) = (m : Int) := (i64_w _).trans (by unfold wrap64; omega)
    have s1' : wrap64 ((l.length : Int) - 1) = (m : Int) := by unfold wrap64; omega
    have s2 : (0 ≤ (m : Int)) = True := eq_true (by omega)
    have s3 : ((m : Int) < (l.length : Int)) = True := eq_true (by omega)
    have s4 : (m < l.length) = True := eq_true (by omega)
    have HK : Aside0 (∀ q, OpAt w t okr (.returned (.tuple #[.pointer (some ⟨bp, 0, none⟩), .bool (decide (F = 0) && decide (xn ≤ 300))])) (wr.drewN q)) := ⟨fun q => ⟨_, by rw [eo'], by rw [← HT.out]; exact HP.out.drewN q, pD HB.out q⟩⟩
    clear hcp hbp LP hl hf hl' hf' hb hfl ho he hn hm hm1 hd hn2 et eo HC HO HR HE HN HD hni
    by_cases hF : F = 0
    ·have r1 : (F == 0) = true := qT hF
     have HK1 : Aside0 (∀ q, OpAt w t okr (.returned (.tuple #[.pointer (some ⟨bp, 0, none⟩), .bool (decide (xn ≤ 300))])) (wr.drewN q)) := ⟨fun q => by have := HK.out q; rw [dT hF, Bool.true_and] at this; exact this⟩
     clear hF HK eo'
     go_wp2
     go_quiet (fail)
     go_wp2
     go_ret2
     exact HK1.out _
    ·have r1 : (F == 0) = false := qF hF
     have HK1 : Aside0 (∀ q, OpAt w t okr (.returned (.tuple #[.pointer (some ⟨bp, 0, none⟩), .bool false])) (wr.drewN q)) := ⟨fun q => by have := HK.out q; rw [dF hF, Bool.false_and] at this; exact this⟩
     clear hF HK eo'
     go_wp2
     go_quiet (fail)
     go_wp2
     go_ret2
     exact HK1.out _
  | succ gk =>
   have hlt : ts.length < l.length := by omega
   have p1 : decide (ts.length < l.length) = true := dT (by omega)
   obtain ⟨ad, e, x0, x1, x2, x3, x4⟩ := at_T58 HC.out (ts.length : Int) (by omega) (by omega)
   cases e
   simp only [aY] at x0 x1 x2 x3 x4
   replace x0 := (HR.out.2.2.1.cell (World.block_lt_of_cell? w _ x0)).trans x0
   replace x1 := (HR.out.2.2.1.cell (World.block_lt_of_cell? w _ x1)).trans x1
   replace x2 := (HR.out.2.2.1.cell (World.block_lt_of_cell? w _ x2)).trans x2
   replace x3 := (HR.out.2.2.1.cell (World.block_lt_of_cell? w _ x3)).trans x3
   replace x4 := (HR.out.2.2.1.cell (World.block_lt_of_cell? w _ x4)).trans x4
   have HBd : Aside0 (l.drop ts.length = rd_T58 l (ts.length : Int) :: l.drop (ts.length + 1)) := ⟨by
    rw [List.drop_eq_getElem_cons hlt]
    congr 1
    unfold rd_T58
    rw [aY, List.getD_eq_getElem?_getD, aX hlt]; rfl⟩
   generalize rd_T58 l (ts.length : Int) = b at *
   have rk : Aside0 (opl k (b :: l.drop (ts.length + 1)) ts fs = some o) := ⟨by rw [← HBd.out]; exact HO.out⟩
   have hq1 : ((ts.length : Int) < (l.length : Int)) = True := eq_true (by omega)
   have hq2 : (0 ≤ (ts.length : Int)) = True := eq_true (by omega)
   have hq3 : (ts.length < l.length) = True := eq_true hlt
   clear hd hn2 HBd HO hlt
   go_upto_region 9 with (fail)
   go_cut [6, 7] (fun v6 v7 wc => ∃ gb, v6 = .int .i64 (ts.length : Nat) ∧ v7 = .pointer (some ⟨gb, 0, none⟩) ∧ Aside0 (OpBox w b gb wc) ∧ Aside0 (OpRows w l.length gl cl gf cf ts fs wc))
   case first =>
    go_wp2_with fail
    go_meet
    exact ⟨wr.heap.size, rfl, rfl, ⟨⟨blk_new _ _, HR.out.2.2.1.size⟩⟩, ⟨HR.out.below (bA (Below.refl _ _) _)⟩⟩
   case rest =>
    obtain ⟨gb, rfl, rfl, HX, rj⟩ := hcut
    clear HR x0 x1 x2 x3 x4 hq1 hq2 hq3
    have y0 : wc.cell? ⟨gb, 0, none⟩ = some (.int .i64 b.f0) := (bC HX.out.1 0).trans rfl
    have y1 : wc.cell? ⟨gb, 1, none⟩ = some (.int .i64 b.f1) := (bC HX.out.1 1).trans rfl
    have y2 : wc.cell? ⟨gb, 2, none⟩ = some (.string b.f2) := (bC HX.out.1 2).trans rfl
    by_cases hlf : b.f0 = -1 ∧ b.f1 = -1
    ·have ho2 := rk.out
     unfold opl at ho2
     rw [if_pos hlf] at ho2
     have fP := aM ho2
     have t0 : (b.f0 == -1) = true := qT hlf.1
     have t1 : (b.f1 == -1) = true := qT hlf.2
     clear ho2 rk hlf
     have hlt : ts.length < l.length := by have := HD.out; omega
     have hq1 : ((ts.length : Int) < (l.length : Int)) = True := eq_true (by omega)
     have hq2 : (0 ≤ (ts.length : Int)) = True := eq_true (by omega)
     have hq3 : (ts.length < l.length) = True := eq_true hlt
     have HLT := aM hlt
     have hne : ¬ gf = gl := (rj.out.at_ hlt).2.2.2.2
     have hne2 : ¬ gl = gf := fun e => hne e.symm
     clear hlt
     go_upto_region 11 with (fail)
     go_cut [] (fun wc2 => Aside0 (OpBox w b gb wc2) ∧ Aside0 (OpRows w l.length gl cl gf cf (ts ++ [lf b.f2]) (fs ++ [(ts.length : Int)]) wc2))
     case first =>
      go_wp2_with (first | (go_at_call 78; refine (leaf_any _ _).mono ?_; rintro e w3 ⟨P, rfl, hl, hb⟩; have HL3 := aM hl; have HB3 := aM hb; have lY := aM (rj.out.below hb); have HX3 := aM (HX.out.below hb); obtain ⟨⟨P0, g1⟩, g2, ⟨y0, g3⟩, g4, -⟩ := lY.out.at_ HLT.out; clear hl hb))
      go_meet
      exact ⟨⟨HX3.out.push lY.out _ _ _⟩, ⟨lY.out.push HLT.out (HL3.out.mono (fun k hk => Nat.le_trans rj.out.2.2.1.size hk)) ⟨by omega, by omega⟩⟩⟩
     case rest =>
      obtain ⟨HX4, rA⟩ := hcut
      clear rj HX y0 y1 y2
      have y2 : wc.cell? ⟨gb, 2, none⟩ = some (.string b.f2) := (bC HX4.out.1 2).trans rfl
      have y3 : wc.cell? ⟨gb, 3, none⟩ = some (.int .i64 b.f3) := (bC HX4.out.1 3).trans rfl
      have y4 : wc.cell? ⟨gb, 4, none⟩ = some (.int .i64 b.f4) := (bC HX4.out.1 4).trans rfl
      by_cases n1 : b.f2.toList = []
      ·have fv := fP.out
       rw [if_pos n1] at fv
       replace fP := aM fv
       have m1 : b.f2.toList.isEmpty = true := by simp [n1]
       have m2 : (!b.f2.toList.isEmpty) = false := by simp [n1]
       clear fv n1
       obtain rfl := sI fP.out
       obtain ⟨rfl, rfl⟩ := Prod.mk.inj (sI HE.out)
       go_wp2
       go_ret2
       exact ⟨none, rfl, rfl, rA.out.2.2.1⟩
      have fv := fP.out
      rw [if_neg n1] at fv
      have m1 : b.f2.toList.isEmpty = false := by simp [n1]
      have m2 : (!b.f2.toList.isEmpty) = true := by simp [n1]
      by_cases n2 : 8 < (b.f2.size : Int)
      ·rw [if_pos n2] at fv
       replace fP := aM fv
       have m3 : decide (8 < (b.f2.size : Int)) = true := dT n2
       clear fv n1 n2
       obtain rfl := sI fP.out
       obtain ⟨rfl, rfl⟩ := Prod.mk.inj (sI HE.out)
       go_wp2
       go_ret2
       exact ⟨none, rfl, rfl, rA.out.2.2.1⟩
      rw [if_neg n2] at fv
      have m3 : decide (8 < (b.f2.size : Int)) = false := dF n2
      obtain ⟨g, hg, fH⟩ := oB fv
      have HG := aM hg
      clear fv n1 n2 hg
      cases g with
      | false =>
       rw [if_pos rfl] at fH
       replace fP := aM fH
       clear fH
       obtain rfl := sI fP.out
       obtain ⟨rfl, rfl⟩ := Prod.mk.inj (sI HE.out)
       go_wp2_with (first | (go_at_call 59; refine (impl_GoodText.calls k b.f2 false _ HG.out).mono ?_; rintro e w' ⟨rfl, ⟨nd, rfl⟩⟩))
       go_ret2
       exact ⟨none, rfl, rfl, pD rA.out.2.2.1 _⟩
      | true =>
       rw [if_neg z0] at fH
       by_cases n3 : b.f3 ≠ (b.f2.size : Int)
       ·rw [if_pos n3] at fH
        replace fP := aM fH
        have m4 : (b.f3 != (b.f2.size : Int)) = true := nT n3
        have m4' : (b.f3 == (b.f2.size : Int)) = false := qF n3
        clear fH n3
        obtain rfl := sI fP.out
        obtain ⟨rfl, rfl⟩ := Prod.mk.inj (sI HE.out)
        go_wp2_with (first | (go_at_call 59; refine (impl_GoodText.calls k b.f2 true _ HG.out).mono ?_; rintro e w' ⟨rfl, ⟨nd, rfl⟩⟩))
        go_ret2
        exact ⟨none, rfl, rfl, pD rA.out.2.2.1 _⟩
       rw [if_neg n3] at fH
       have m4 : (b.f3 != (b.f2.size : Int)) = false := nF (Decidable.not_not.mp n3)
       have m4' : (b.f3 == (b.f2.size : Int)) = true := qT (Decidable.not_not.mp n3)
       clear n3
       by_cases n4 : b.f4 ≠ 0
       ·rw [if_pos n4] at fH
        replace fP := aM fH
        have m5 : (b.f4 != 0) = true := nT n4
        have m5' : (b.f4 == 0) = false := qF n4
        clear fH n4
        obtain rfl := sI fP.out
        obtain ⟨rfl, rfl⟩ := Prod.mk.inj (sI HE.out)
        go_wp2_with (first | (go_at_call 59; refine (impl_GoodText.calls k b.f2 true _ HG.out).mono ?_; rintro e w' ⟨rfl, ⟨nd, rfl⟩⟩))
        go_ret2
        exact ⟨none, rfl, rfl, pD rA.out.2.2.1 _⟩
       rw [if_neg n4] at fH
       have m5 : (b.f4 != 0) = false := nF (Decidable.not_not.mp n4)
       have m5' : (b.f4 == 0) = true := qT (Decidable.not_not.mp n4)
       replace fP := aM fH
       have hw1 : wrap64 ((ts.length : Int) + 1) = ((ts.length + 1 : Nat) : Int) := by have := HLT.out; have := HN.out.1; unfold wrap64; omega
       have HW := aM hw1
       clear fH n4 hw1
       have hi1 : (ts.length : Int) + 1 ≤ 201 := by have := HLT.out; have := HN.out.1; omega
       go_wp2_with (first | (go_at_call 59; refine (impl_GoodText.calls k b.f2 true _ HG.out).mono ?_; rintro e w' ⟨rfl, ⟨nd, rfl⟩⟩))
       go_roundg gk
       case measure => omega
       case rel =>
        refine ⟨ts ++ [lf b.f2], fs ++ [(ts.length : Int)], ?_, ?_, rA.out.below (pD (Below.refl _ _) _), ?_⟩
        ·rw [aZ, a5]; go_num
        ·rw [aZ, a5]; have := HD.out; omega
        ·rw [aZ, a5]; exact fP.out
    ·have ho2 := rk.out
     unfold opl at ho2
     rw [if_neg hlf] at ho2
     have fP := aM ho2
     clear ho2 rk
     have hlt : ts.length < l.length := by have := HD.out; omega
     have HLT := aM hlt
     clear hlt
     go_upto_region 10 with (fail)
     go_cut [41] (fun v41 wc2 => v41 = .bool false ∧ Aside0 (OpBox w b gb wc2) ∧ Aside0 (OpRows w l.length gl cl gf cf ts fs wc2))
     case first =>
      by_cases h0 : b.f0 = -1
      ·have t0 : (b.f0 == -1) = true := qT h0
       have t1 : (b.f1 == -1) = false := qF (fun e => hlf ⟨h0, e⟩)
       clear hlf h0
       go_wp2
       go_meet
       exact ⟨rfl, HX, rj⟩
      ·have t0 : (b.f0 == -1) = false := qF h0
       clear hlf h0
       go_wp2
       go_meet
       exact ⟨rfl, HX, rj⟩
     case rest =>
      obtain ⟨rfl, HX3, lY⟩ := hcut
      clear rj HX y0 y1 y2 hlf
      have y0 : wc.cell? ⟨gb, 0, none⟩ = some (.int .i64 b.f0) := (bC HX3.out.1 0).trans rfl
      have y1 : wc.cell? ⟨gb, 1, none⟩ = some (.int .i64 b.f1) := (bC HX3.out.1 1).trans rfl
      have y2 : wc.cell? ⟨gb, 2, none⟩ = some (.string b.f2) := (bC HX3.out.1 2).trans rfl
      have y3 : wc.cell? ⟨gb, 3, none⟩ = some (.int .i64 b.f3) := (bC HX3.out.1 3).trans rfl
      have y4 : wc.cell? ⟨gb, 4, none⟩ = some (.int .i64 b.f4) := (bC HX3.out.1 4).trans rfl
      have hs1 : IntKind.i64.wrap ((ts.length : Int) - 1) = (ts.length : Int) - 1 := (i64_w _).trans (by have := HLT.out; have := HN.out.1; unfold wrap64; omega)
      by_cases n1 : b.f1 ≠ (ts.length : Int) - 1
      ·have fv := fP.out
       rw [if_pos n1] at fv
       replace fP := aM fv
       have m1 : (b.f1 != (ts.length : Int) - 1) = true := nT n1
       have m1' : (b.f1 == (ts.length : Int) - 1) = false := qF n1
       clear fv n1
       obtain rfl := sI fP.out
       obtain ⟨rfl, rfl⟩ := Prod.mk.inj (sI HE.out)
       go_wp2
       go_quiet (fail)
       go_wp2
       go_ret2
       exact ⟨none, rfl, rfl, pD lY.out.2.2.1 _⟩
      have fv := fP.out
      rw [if_neg n1] at fv
      have e1 := Decidable.not_not.mp n1
      have m1 : (b.f1 != (ts.length : Int) - 1) = false := nF e1
      have m1' : (b.f1 == (ts.length : Int) - 1) = true := qT e1
      by_cases n2 : b.f1 < 0
      ·rw [if_pos n2] at fv
       replace fP := aM fv
       have m2 : decide (b.f1 < 0) = true := dT n2
       clear fv n1 n2 e1
       obtain rfl := sI fP.out
       obtain ⟨rfl, rfl⟩ := Prod.mk.inj (sI HE.out)
       go_wp2
       go_quiet (fail)
       go_wp2
       go_ret2
       exact ⟨none, rfl, rfl, pD lY.out.2.2.1 _⟩
      rw [if_neg n2] at fv
      have m2 : decide (b.f1 < 0) = false := dF n2
      by_cases n3 : b.f0 < 0
      ·rw [if_pos n3] at fv
       replace fP := aM fv
       have m3 : decide (b.f0 < 0) = true := dT n3
       clear fv n1 n2 n3 e1
       obtain rfl := sI fP.out
       obtain ⟨rfl, rfl⟩ := Prod.mk.inj (sI HE.out)
       go_wp2
       go_quiet (fail)
       go_wp2
       go_ret2
       exact ⟨none, rfl, rfl, pD lY.out.2.2.1 _⟩
      rw [if_neg n3] at fv
      have m3 : decide (b.f0 < 0) = false := dF n3
      have hj : b.f1.toNat = ts.length - 1 := by omega
      have hjl : ts.length - 1 < ts.length := by omega
      obtain ⟨⟨P1, g1, L1⟩, g2⟩ := lY.out.get (Nat.le_of_lt HLT.out) (ts.length - 1) hjl
      have hB2 := lY.out.2.2.2.2 (ts.length - 1) hjl
      obtain ⟨Y, hY⟩ : ∃ Y, fs.getD (ts.length - 1) 0 = Y := ⟨_, rfl⟩
      rw [hY] at g2 fv hB2
      rw [← hj] at g1 g2
      have hi1 : (0 ≤ b.f1) = True := eq_true (by omega)
      have hi2 : (b.f1 < (l.length : Int)) = True := eq_true (by have := HLT.out; omega)
      have hi3 : (b.f1.toNat < l.length) = True := eq_true (by have := HLT.out; omega)
      have HL1 := aM L1
      have hs2 : IntKind.i64.wrap (Y - 1) = Y - 1 := (i64_w _).trans (by have := HLT.out; have := HN.out.1; unfold wrap64; omega)
      clear L1
      by_cases n4 : b.f0 ≠ Y - 1
      ·rw [if_pos n4] at fv
       replace fP := aM fv
       have m4 : (b.f0 != Y - 1) = true := nT n4
       have m4' : (b.f0 == Y - 1) = false := qF n4
       clear fv n1 n2 n3 n4 e1 hj hjl hB2 hY
       obtain rfl := sI fP.out
       obtain ⟨rfl, rfl⟩ := Prod.mk.inj (sI HE.out)
       go_wp2
       go_quiet (fail)
       go_wp2
       go_ret2
       exact ⟨none, rfl, rfl, pD lY.out.2.2.1 _⟩
      rw [if_neg n4] at fv
      have e4 := Decidable.not_not.mp n4
      have m4 : (b.f0 != Y - 1) = false := nF e4
      have m4' : (b.f0 == Y - 1) = true := qT e4
      by_cases n5 : b.f2.toList ≠ []
      ·rw [if_pos n5] at fv
       replace fP := aM fv
       have m6 : (b.f2.toList != ([] : List UInt8)) = true := nT n5
       have m6' : (b.f2.toList == ([] : List UInt8)) = false := qF n5
       clear fv n1 n2 n3 n4 n5 e1 e4 hj hjl hB2 hY
       obtain rfl := sI fP.out
       obtain ⟨rfl, rfl⟩ := Prod.mk.inj (sI HE.out)
       go_wp2
       go_quiet (fail)
       go_wp2
       go_ret2
       exact ⟨none, rfl, rfl, pD lY.out.2.2.1 _⟩
      rw [if_neg n5] at fv
      have e5 := Decidable.not_not.mp n5
      have m6 : (b.f2.toList != ([] : List UInt8)) = false := nF e5
      have m6' : (b.f2.toList == ([] : List UInt8)) = true := qT e5
      split at fv
      case isFalse => cases fv
      case isTrue hx =>
      obtain ⟨hx1, hx2⟩ := hx
      replace fP := aM fv
      have HX2 := aM hx2
      obtain ⟨⟨P0, g3, L0⟩, g4⟩ := lY.out.get (Nat.le_of_lt HLT.out) b.f0.toNat hx1
      have hk1 : (0 ≤ b.f0) = True := eq_true (by omega)
      have hk2 : (b.f0 < (l.length : Int)) = True := eq_true (by have := HLT.out; omega)
      have hk3 : (b.f0.toNat < l.length) = True := eq_true (by have := HLT.out; omega)
      have HL0 := aM L0
      obtain ⟨Z, hZ⟩ : ∃ Z, fs.getD b.f0.toNat 0 = Z := ⟨_, rfl⟩
      rw [hZ] at g4 fv
      have HB4 : Aside0 (0 ≤ Z ∧ Z ≤ (ts.length : Int)) := ⟨by have := lY.out.2.2.2.2 b.f0.toNat hx1; omega⟩
      replace fP := aM fv
      clear fv n1 n2 n3 n4 n5 e1 e4 e5 hj hjl hB2 L0 hx1 hx2 hY hZ
      go_wp2
      go_quiet (fail)
      go_wp2
      have HF : Aside0 (∀ w', LmAt w' (fun k => w.heap.size ≤ k) (ts.getD b.f0.toNat .nil) P0 → LmAt w' (fun k => w.heap.size ≤ k) (ts.getD (ts.length - 1) .nil) P1 → w.heap.size ≤ w'.heap.size → Calls Try.prog 69 #[.pointer P0, .pointer P1] w' fun e w'' => ∃ C, e = .returned (.pointer C) ∧ LmAt w'' (fun k => w.heap.size ≤ k) (fk (ts.getD b.f0.toNat .nil) (ts.getD (ts.length - 1) .nil)) C ∧ Below w'.heap.size w' w'') := ⟨fun w' h1 h2 h3 => fork_any _ _ P0 P1 _ w' h1 h2 (fun k hk => Nat.le_trans h3 hk)⟩
      obtain ⟨wd, hwd⟩ : ∃ wd, wc.drewN nq = wd := ⟨_, rfl⟩
      have HB5 : Aside0 (Below wc.heap.size wc wd) := ⟨by rw [← hwd]; exact pD (Below.refl _ _) _⟩
      rw [hwd]
      clear hwd
      have HX5 := aM (HX3.out.below HB5.out)
      have ta := aM (lY.out.below HB5.out)
      have a1 := (HB5.out.cell (World.block_lt_of_cell? wc _ g1)).trans g1
      have a3 := (HB5.out.cell (World.block_lt_of_cell? wc _ g3)).trans g3
      have a4 := (HB5.out.cell (World.block_lt_of_cell? wc _ g4)).trans g4
      have a2 := (HB5.out.cell (World.block_lt_of_cell? wc _ g2)).trans g2
      have x0 : wd.cell? ⟨gb, 0, none⟩ = some (.int .i64 b.f0) := (bC HX5.out.1 0).trans rfl
      have x1 : wd.cell? ⟨gb, 1, none⟩ = some (.int .i64 b.f1) := (bC HX5.out.1 1).trans rfl
      have K0 := aM (HL0.out.below HB5.out)
      have K1 := aM (HL1.out.below HB5.out)
      clear g1 g2 g3 g4 y0 y1 y2 y3 y4 m1 m1' m2 m3 m4 m4' m6 m6' hs1 hs2 HX3 lY HL0 HL1
      go_region_held3 (fun w' => w'.cell? ⟨gb, 0, none⟩ = some (.int .i64 b.f0) ∧ w'.cell? ⟨gb, 1, none⟩ = some (.int .i64 b.f1) ∧ w'.cell? ⟨gl, b.f0.toNat, none⟩ = some (.pointer P0) ∧ w'.cell? ⟨gl, b.f1.toNat, none⟩ = some (.pointer P1)) (first | go_keep | exact HS1.out) (first | (go_at_call 69; refine (HF.out _ ?g1 ?g2 ?g3).mono ?_; (case g1 => (first | exact K0.out.drew | exact K0.out)); (case g2 => (first | exact K1.out.drew | exact K1.out)); (case g3 => exact ta.out.2.2.1.size); rintro e w6 ⟨C, rfl, hl, hb⟩; have HL6 := aM hl; have HB6 : Aside0 (Below wd.heap.size wd w6) := ⟨aA (below_drew (Below.refl _ _)) hb⟩; have HS1 : Aside0 (w6.cell? ⟨gb, 0, none⟩ = some (.int .i64 b.f0) ∧ w6.cell? ⟨gb, 1, none⟩ = some (.int .i64 b.f1) ∧ w6.cell? ⟨gl, b.f0.toNat, none⟩ = some (.pointer P0) ∧ w6.cell? ⟨gl, b.f1.toNat, none⟩ = some (.pointer P1)) := ⟨⟨(HB6.out.cell (World.block_lt_of_cell? wd _ x0)).trans x0, (HB6.out.cell (World.block_lt_of_cell? wd _ x1)).trans x1, (HB6.out.cell (World.block_lt_of_cell? wd _ a3)).trans a3, (HB6.out.cell (World.block_lt_of_cell? wd _ a1)).trans a1⟩⟩; clear hl hb))
      have HX6 := aM (HX5.out.below HB6.out)
      have s9 := aM (ta.out.below HB6.out)
      have c4 := (HB6.out.cell (World.block_lt_of_cell? wd _ a4)).trans a4
      have y0 : w6.cell? ⟨gb, 0, none⟩ = some (.int .i64 b.f0) := (bC HX6.out.1 0).trans rfl
      have y3 : w6.cell? ⟨gb, 3, none⟩ = some (.int .i64 b.f3) := (bC HX6.out.1 3).trans rfl
      have y4 : w6.cell? ⟨gb, 4, none⟩ = some (.int .i64 b.f4) := (bC HX6.out.1 4).trans rfl
      have ho := fP.out
      have hx2 := HX2.out
      generalize fk (ts.getD b.f0.toNat .nil) (ts.getD (ts.length - 1) .nil) = X at ho hx2 HL6
      clear fP HX2 HF a1 a2 a3 a4 x0 x1 K0 K1 HX5 ta HS1
      cases X with
      | nil => cases hx2
      | node xl xr xs xn xd =>
      obtain ⟨bp, Lp, Rp, rfl, hbp, hcp, -, -⟩ := id HL6.out
      have z3 : w6.cell? ⟨bp, 3, none⟩ = some (.int .i64 xn) := (bC hcp 3).trans rfl
      have z4 : w6.cell? ⟨bp, 4, none⟩ = some (.int .i64 xd) := (bC hcp 4).trans rfl
      have ho' : (if b.f3 ≠ xn then some none else (if b.f4 ≠ xd then some none else opl k (l.drop (ts.length + 1)) (ts ++ [.node xl xr xs xn xd]) (fs ++ [Z]))) = some o := ho
      clear ho hx2 hbp hcp
      by_cases n6 : b.f3 ≠ xn
      ·rw [if_pos n6] at ho'
       have fP := aM ho'
       have m1 : (b.f3 != xn) = true := nT n6
       have m1' : (b.f3 == xn) = false := qF n6
       clear ho' n6
       obtain rfl := sI fP.out
       obtain ⟨rfl, rfl⟩ := Prod.mk.inj (sI HE.out)
       go_wp2
       go_quiet (fail)
       go_wp2
       go_ret2
       exact ⟨none, rfl, rfl, pD s9.out.2.2.1 _⟩
      rw [if_neg n6] at ho'
      have m1 : (b.f3 != xn) = false := nF (Decidable.not_not.mp n6)
      have m1' : (b.f3 == xn) = true := qT (Decidable.not_not.mp n6)
      clear n6
      by_cases n7 : b.f4 ≠ xd
      ·rw [if_pos n7] at ho'
       have fP := aM ho'
       have m2 : (b.f4 != xd) = true := nT n7
       have m2' : (b.f4 == xd) = false := qF n7
       clear ho' n7
       obtain rfl := sI fP.out
       obtain ⟨rfl, rfl⟩ := Prod.mk.inj (sI HE.out)
       go_wp2
       go_quiet (fail)
       go_wp2
       go_ret2
       exact ⟨none, rfl, rfl, pD s9.out.2.2.1 _⟩
      rw [if_neg n7] at ho'
      have m2 : (b.f4 != xd) = false := nF (Decidable.not_not.mp n7)
      have m2' : (b.f4 == xd) = true := qT (Decidable.not_not.mp n7)
      have fP := aM ho'
      clear n7 ho'
      go_wp2
      go_quiet (fail)
      have hq1 : ((ts.length : Int) < (l.length : Int)) = True := eq_true (by have := HLT.out; omega)
      have hq2 : (0 ≤ (ts.length : Int)) = True := eq_true (by omega)
      have hq3 : (ts.length < l.length) = True := eq_true HLT.out
      obtain ⟨⟨Q0, g1⟩, g2, ⟨u0, g3⟩, g4, hne⟩ := s9.out.at_ HLT.out
      have hne2 : ¬ gl = gf := fun e => hne e.symm
      have hi1 : (ts.length : Int) + 1 ≤ 201 := by have := HLT.out; have := HN.out.1; omega
      go_wp2
      go_roundg gk
      case measure => omega
      case rel =>
       refine ⟨ts ++ [.node xl xr xs xn xd], fs ++ [Z], ?_, ?_, (s9.out.below (pD (Below.refl _ _) _)).push HLT.out (HL6.out.drewN _) HB4.out, ?_⟩
       ·rw [aZ, a5]; go_num
       ·rw [aZ, a5]; have := HD.out; omega
       ·rw [aZ, a5]; exact fP.out
theorem opl_mono : ∀ (bs : List S58) (k : Nat) (ts : List Limb) (fs : List Int), LeO (opl k bs ts fs) (opl (k + 1) bs ts fs) := by
 intro bs
 induction bs with
 | nil => intro k ts fs; exact LeO.refl _
 | cons b bs ih =>
  intro k ts fs
  unfold opl
  repeat' first
   | (with_reducible exact impl_GoodText.mono _ _)
   | (with_reducible exact ih _ _ _)
   | (with_reducible exact LeO.refl _)
   | (with_reducible exact LeO.none _)
   | (with_reducible refine LeO.ite ?_ ?_)
   | (with_reducible refine LeO.bind ?_ (fun _ => ?_))
theorem opnF_mono (k : Nat) (l : List S58) : LeO (opnF k l) (opnF (k + 1) l) := by
 unfold opnF
 repeat' first
  | (with_reducible exact opl_mono _ _ _ _)
  | (with_reducible exact LeO.refl _)
  | (with_reducible exact LeO.none _)
  | (with_reducible refine LeO.ite ?_ ?_)
  | (with_reducible refine LeO.bind ?_ (fun _ => ?_))
theorem open_drop {k : Nat} {l : List S58} {α : Type} {g : Limb × Bool → Option α} (hg : ∀ p, LeO (g p) (g p)) : LeO ((opnF k l).bind g) ((opnF (k + 1) l).bind g) := LeO.bind (opnF_mono k l) (fun _ => LeO.refl _)

/-! ### impl_GoodRope: function 17, by hand -/
def impl_GoodRope.f (k : Nat) (l0_0 : List S58) : Option Bool := (opnF k l0_0).bind fun p => some p.2
theorem impl_GoodRope.mono : ∀ a0 k, LeO (impl_GoodRope.f k a0) (impl_GoodRope.f (k + 1) a0) := by
 intro a0 k
 unfold impl_GoodRope.f
 exact LeO.bind (opnF_mono _ _) (fun _ => LeO.refl _)
set_option maxHeartbeats 1000000 in
theorem impl_GoodRope.calls (k : Nat) (ce : Option Addr) (ci : Nat) (l0_0 : List S58) (r : Bool) (w : World) (hr0_0 : Kd.C k58 w ce l0_0.length l0_0) (hc0_0 : l0_0.length ≤ ci) (h : impl_GoodRope.f k l0_0 = some r) :
  Calls Try.prog 17 #[.agg #[.slice ce l0_0.length ci]] w fun e w' => e = .returned (.bool r) ∧ Below w.heap.size w w' := by
 obtain ⟨⟨t, b⟩, h1, h2⟩ := oB h
 obtain rfl := sI h2
 have HO := aM (fun (w' : World) (hC : Kd.C k58 w' ce l0_0.length l0_0) => open_any k l0_0 ce ci t b w' hC hc0_0 h1)
 have HC := aM hr0_0
 clear h h1 h2 hr0_0 hc0_0
 go_enter Try.func17, Try.ntmps17
 go_wp2_with (first | (go_at_call 48; refine (HO.out _ (aH HC.out _)).mono ?_; rintro e w1 ⟨P, rfl, hl, hb⟩; have HB := aM hb; clear hl hb))
 go_ret
 exact ⟨rfl, aA (bA (Below.refl _ _) _) HB.out⟩

/-! ### impl_ByteAt: function 20, by hand -/
def bya : Limb → Int → Int → Option (ByteArray × Int)
 | .nil, _, _ => none
 | .node l r s _ _, at_, c => if l.isNil = true then (if 0 ≤ at_ ∧ at_ < (s.size : Int) ∧ at_ ≤ 1000000 then some (s.extract at_.toNat (at_ + 1).toNat, c) else none)
  else (if at_ < l.size then bya l at_ (wrap64 (c + 1)) else bya r (wrap64 (at_ - l.size)) (wrap64 (c + 1)))
def hgt : Limb → Nat
 | .nil => 0
 | .node l r _ _ _ => hgt l + hgt r + 1
def impl_ByteAt.f (k : Nat) (l0_0 : List S58) (a1 : Int) : Option (ByteArray × Int × Bool) := (opnF k l0_0).bind fun p => if p.2 = false then some (⟨#[]⟩, 0, false) else (if p.1.isNil = true then some (⟨#[]⟩, 0, false) else (if a1 < 0 then some (⟨#[]⟩, 0, false) else (if p.1.size ≤ a1 then some (⟨#[]⟩, 0, false) else (bya p.1 a1 1).bind fun q => some (q.1, q.2, true))))
theorem impl_ByteAt.mono : ∀ a0 a1 k, LeO (impl_ByteAt.f k a0 a1) (impl_ByteAt.f (k + 1) a0 a1) := fun a0 a1 k => open_drop (fun _ => LeO.refl _)
def ByRel (w : World) (q : ByteArray × Int) (d : Nat) (v1 v7 v9 : Value) (w' : World) : Prop :=
 ∃ (t : Limb) (A : Option Addr) (at_ c : Int), v1 = .int .i64 at_ ∧ v7 = .pointer A ∧ v9 = .int .i64 c ∧ hgt t ≤ d ∧ LmAt w' (fun _ => True) t A ∧ bya t at_ c = some q ∧ Below w.heap.size w w'
set_option maxHeartbeats 2000000 in
set_option maxRecDepth 100000 in
theorem impl_ByteAt.calls (k : Nat) (ce : Option Addr) (ci : Nat) (l0_0 : List S58) (a1 : Int) (r1 : ByteArray) (r2 : Int) (r3 : Bool) (w : World) (hr0_0 : Kd.C k58 w ce l0_0.length l0_0) (hc0_0 : l0_0.length ≤ ci) (h : impl_ByteAt.f k l0_0 a1 = some (r1, r2, r3)) :
  Calls Try.prog 20 #[.agg #[.slice ce l0_0.length ci], .int .i64 a1] w fun e w' => e = .returned (.tuple #[.string r1, .int .i64 r2, .bool r3]) ∧ Below w.heap.size w w' := by
 obtain ⟨⟨t, b⟩, h1, h2⟩ := oB h
 have HO := aM (fun (w' : World) (hC : Kd.C k58 w' ce l0_0.length l0_0) => open_any k l0_0 ce ci t b w' hC hc0_0 h1)
 have HC := aM hr0_0
 clear h h1 hr0_0 hc0_0
 cases b with
 | false =>
  rw [if_pos rfl] at h2
  obtain ⟨rfl, h3⟩ := Prod.mk.inj (sI h2)
  obtain ⟨rfl, rfl⟩ := Prod.mk.inj h3
  clear h2 h3
  go_enter Try.func20, Try.ntmps20
  go_wp2_with (first | (go_at_call 48; refine (HO.out _ (aH HC.out _)).mono ?_; rintro e w1 ⟨P, rfl, hl, hb⟩; have HB := aM hb; clear hl hb))
  go_ret3
  exact ⟨rfl, aA (bA (Below.refl _ _) _) HB.out⟩
 | true =>
  rw [if_neg (by simp)] at h2
  cases t with
  | nil =>
   rw [if_pos (show Limb.isNil .nil = true from rfl)] at h2
   obtain ⟨rfl, h3⟩ := Prod.mk.inj (sI h2)
   obtain ⟨rfl, rfl⟩ := Prod.mk.inj h3
   clear h2 h3
   go_enter Try.func20, Try.ntmps20
   go_wp2_with (first | (go_at_call 48; refine (HO.out _ (aH HC.out _)).mono ?_; rintro e w1 ⟨P, rfl, hl, hb⟩; have HB := aM hb; obtain rfl : P = none := hl; clear hb))
   go_ret3
   exact ⟨rfl, aA (bA (Below.refl _ _) _) HB.out⟩
  | node xl xr xs xn xd =>
   rw [if_neg (show ¬ Limb.isNil (.node xl xr xs xn xd) = true by simp [Limb.isNil])] at h2
   by_cases n1 : a1 < 0
   ·rw [if_pos n1] at h2
    obtain ⟨rfl, h3⟩ := Prod.mk.inj (sI h2)
    obtain ⟨rfl, rfl⟩ := Prod.mk.inj h3
    have m1 : decide (a1 < 0) = true := dT n1
    clear h2 h3 n1
    go_enter Try.func20, Try.ntmps20
    go_wp2_with (first | (go_at_call 48; refine (HO.out _ (aH HC.out _)).mono ?_; rintro e w1 ⟨P, rfl, hl, hb⟩; have HB := aM hb; obtain ⟨bp, Lp, Rp, rfl, -, hcp, -, -⟩ := hl; clear hb hcp))
    go_ret3
    exact ⟨rfl, aA (bA (Below.refl _ _) _) HB.out⟩
   rw [if_neg n1] at h2
   have m1 : decide (a1 < 0) = false := dF n1
   by_cases n2 : xn ≤ a1
   ·rw [if_pos (show Limb.size (.node xl xr xs xn xd) ≤ a1 from n2)] at h2
    obtain ⟨rfl, h3⟩ := Prod.mk.inj (sI h2)
    obtain ⟨rfl, rfl⟩ := Prod.mk.inj h3
    have m2 : decide (xn ≤ a1) = true := dT n2
    clear h2 h3 n1 n2
    go_enter Try.func20, Try.ntmps20
    go_wp2_with (first | (go_at_call 48; refine (HO.out _ (aH HC.out _)).mono ?_; rintro e w1 ⟨P, rfl, hl, hb⟩; have HB := aM hb; obtain ⟨bp, Lp, Rp, rfl, -, hcp, -, -⟩ := hl; have z3 : w1.cell? ⟨bp, 3, none⟩ = some (.int .i64 xn) := (bC hcp 3).trans rfl; clear hb hcp))
    go_ret3
    exact ⟨rfl, aA (bA (Below.refl _ _) _) HB.out⟩
   rw [if_neg (show ¬ Limb.size (.node xl xr xs xn xd) ≤ a1 from n2)] at h2
   have m2 : decide (xn ≤ a1) = false := dF n2
   obtain ⟨q, hq, h3⟩ := oB h2
   have HQ := aM hq
   obtain ⟨rfl, h4⟩ := Prod.mk.inj (sI h3)
   obtain ⟨rfl, rfl⟩ := Prod.mk.inj h4
   clear h2 h3 h4 hq n1 n2
   go_enter Try.func20, Try.ntmps20
   go_wp2_with (first | (go_at_call 48; refine (HO.out _ (aH HC.out _)).mono ?_; rintro e w1 ⟨P, rfl, hl, hb⟩; have HB : Aside0 (Below w.heap.size w w1) := ⟨aA (bA (Below.refl _ _) _) hb⟩; have HL := aM hl; obtain ⟨bp, Lp, Rp, rfl, -, hcp, -, -⟩ := hl; have z3 : w1.cell? ⟨bp, 3, none⟩ = some (.int .i64 xn) := (bC hcp 3).trans rfl; clear hb hcp))
   go_loopg [1, 7, 9] (hgt (.node xl xr xs xn xd)) (fun d v1 v7 v9 w' => ByRel w q d v1 v7 v9 w')
   case atStart => exact ⟨_, _, _, _, rfl, rfl, rfl, Nat.le_refl _, HL.out.mono (fun _ _ => trivial), HQ.out, HB.out⟩
   case round =>
    clear HL HQ HB m1 m2 z3
    obtain ⟨t, A, at_, c, rfl, rfl, rfl, hh, hl, hq, hb⟩ := hrel
    have HB := aM hb
    have HH := aM hh
    cases t with
    | nil => cases hq
    | node l r s n d =>
     obtain ⟨b, L, R, rfl, -, hc, hl1, hr1⟩ := hl
     have HL := aM hl1
     have HR := aM hr1
     have c0 : wr.cell? ⟨b, 0, none⟩ = some (.pointer L) := (bC hc 0).trans rfl
     have c1 : wr.cell? ⟨b, 1, none⟩ = some (.pointer R) := (bC hc 1).trans rfl
     have c2 : wr.cell? ⟨b, 2, none⟩ = some (.string s) := (bC hc 2).trans rfl
     cases l with
     | nil =>
      obtain rfl : L = none := hl1
      have hq2 : (if 0 ≤ at_ ∧ at_ < (s.size : Int) ∧ at_ ≤ 1000000 then some (s.extract at_.toNat (at_ + 1).toNat, c) else none) = some q := hq
      split at hq2
      case isFalse => cases hq2
      case isTrue hat =>
      obtain rfl := sI hq2
      obtain ⟨a0, a2, a3⟩ := hat
      have y1 : (0 ≤ at_) = True := eq_true a0
      have y2 : (at_ ≤ at_ + 1) = True := eq_true (by omega)
      have y3 : (at_ + 1 ≤ (s.size : Int)) = True := eq_true (by omega)
      clear hq hq2 hr1 hc hb hh
      go_wp2
      go_ret3
      exact ⟨rfl, HB.out⟩
     | node l1 l2 l3 l4 l5 =>
      obtain ⟨bl, L2, R2, rfl, -, hcl, -, -⟩ := id hl1
      have d3 : wr.cell? ⟨bl, 3, none⟩ = some (.int .i64 l4) := (bC hcl 3).trans rfl
      have hq2 : (if at_ < l4 then bya (.node l1 l2 l3 l4 l5) at_ (wrap64 (c + 1)) else bya r (wrap64 (at_ - l4)) (wrap64 (c + 1))) = some q := hq
      have HH1 : Aside0 (hgt (.node l1 l2 l3 l4 l5) + hgt r + 1 ≤ gk) := ⟨hh⟩
      obtain ⟨g, hg⟩ : ∃ g, gk = g + 1 := ⟨gk - 1, by have := HH1.out; omega⟩
      subst hg
      by_cases n3 : at_ < l4
      ·rw [if_pos n3] at hq2
       have m3 : decide (at_ < l4) = true := dT n3
       have HQ := aM hq2
       clear hq hq2 hr1 hc hb hh n3 hcl hl1 HH
       go_wp2
       go_roundg g
       case measure => omega
       case rel => exact ⟨_, _, _, _, rfl, rfl, rfl, by have := HH1.out; omega, HL.out, HQ.out, HB.out⟩
      ·rw [if_neg n3] at hq2
       have m3 : decide (at_ < l4) = false := dF n3
       have HQ := aM hq2
       clear hq hq2 hr1 hc hb hh n3 hcl hl1 HH
       go_wp2
       go_roundg g
       case measure => omega
       case rel => exact ⟨_, _, _, _, rfl, rfl, rfl, by have := HH1.out; omega, HR.out, HQ.out, HB.out⟩

end Go.Proofs.Ytmkenlejdaphnaa.AFnRopes
