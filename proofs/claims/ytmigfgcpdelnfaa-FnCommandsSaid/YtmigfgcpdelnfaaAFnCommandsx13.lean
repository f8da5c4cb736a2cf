-- this session's own text: written by wip/tools/ownprint.py over the kit's print
import Derived.Test.YtmigfgcpdelnfaaAFnCommandsx0
import Derived.Test.YtmigfgcpdelnfaaAFnCommandsx2
import Derived.Test.YtmigfgcpdelnfaaAFnCommandsx3
import Derived.Test.YtmigfgcpdelnfaaAFnCommandsx12
namespace Go.Proofs.Ytmigfgcpdelnfaa.AFnCommands
open Go.RowKit Go.Proofs.YtmigfgcpdelnfaaW.PrintWords Go.Proofs.YtmigfgcpdelnfaaW.PrintLast Go.Proofs.YtmigfgcpdelnfaaW.PrintMore
attribute [local go_sem] max2_int min2_int max_two min_two max_three min_three max_four min_four   -- for this text's walks alone
set_option linter.unusedVariables false
set_option linter.unusedSimpArgs false

/-! ### impl_ReachOf: function 16 -/
mutual
def impl_ReachOf.j1 : Nat → ByteArray → ByteArray → Int → Int → Int → Option (Int × Int × Bool)
 | 0, _, _, _, _, _ => none
 | k + 1, x0, x7, x9, x10, x11 => impl_ReachOf.l1 k x0 x7 x9 x10 x11
def impl_ReachOf.l1 : Nat → ByteArray → ByteArray → Int → Int → Int → Option (Int × Int × Bool)
 | 0, _, _, _, _, _ => none
 | k + 1, x0, x7, x9, x10, x11 => if x11 < (wrap64 (x9 - x10)) then (if 0 ≤ (wrap64 ((wrap64 ((x0.size : Int) - 1)) - x11)) then (if (wrap64 ((wrap64 ((x0.size : Int) - 1)) - x11)) < (x0.size : Int) then (if 0 ≤ (wrap64 ((wrap64 ((x7.size : Int) - 1)) - x11)) then (if (wrap64 ((wrap64 ((x7.size : Int) - 1)) - x11)) < (x7.size : Int) then (if (bt x0 (wrap64 ((wrap64 ((x0.size : Int) - 1)) - x11))) = (bt x7 (wrap64 ((wrap64 ((x7.size : Int) - 1)) - x11))) then (impl_ReachOf.l1 k x0 x7 x9 x10 (wrap64 (x11 + 1))) else (some (x10, x11, true))) else (none)) else (none)) else (none)) else (none)) else (some (x10, x11, true))
def impl_ReachOf.l0 : Nat → ByteArray → ByteArray → Int → Int → Int → Option (Int × Int × Bool)
 | 0, _, _, _, _, _ => none
 | k + 1, x0, x7, x9, x10, x11 => if x10 < x9 then (if 0 ≤ x10 then (if x10 < (x0.size : Int) then (if x10 < (x7.size : Int) then (if (bt x0 x10) = (bt x7 x10) then (impl_ReachOf.l0 k x0 x7 x9 (wrap64 (x10 + 1)) x11) else (impl_ReachOf.j1 k x0 x7 x9 x10 x11)) else (none)) else (none)) else (none)) else (impl_ReachOf.j1 k x0 x7 x9 x10 x11)
end
def impl_ReachOf.f (k : Nat) (a0 : ByteArray) (a1_0 : Int) (a1_1 : Int) (a1_2 : Int) (a1_3 : ByteArray) : Option (Int × Int × Bool) := (impl_DoCommand.f k a0 a1_0 a1_1 a1_2 a1_3).bind fun ji => (if ji.2 = true then (impl_ReachOf.l0 k a0 ji.1 (mn (a0.size : Int) (ji.1.size : Int)) 0 0) else (some (0, 0, false)))
theorem impl_ReachOf.mono_l : ∀ k, (∀ y0 y1 y2 y3 y4, LeO (impl_ReachOf.j1 k y0 y1 y2 y3 y4) (impl_ReachOf.j1 (k + 1) y0 y1 y2 y3 y4)) ∧ (∀ y0 y1 y2 y3 y4, LeO (impl_ReachOf.l1 k y0 y1 y2 y3 y4) (impl_ReachOf.l1 (k + 1) y0 y1 y2 y3 y4)) ∧ (∀ y0 y1 y2 y3 y4, LeO (impl_ReachOf.l0 k y0 y1 y2 y3 y4) (impl_ReachOf.l0 (k + 1) y0 y1 y2 y3 y4))
 | 0 => ⟨fun _ _ _ _ _ r h => by simp [impl_ReachOf.j1] at h, fun _ _ _ _ _ r h => by simp [impl_ReachOf.l1] at h, fun _ _ _ _ _ r h => by simp [impl_ReachOf.l0] at h⟩
 | k + 1 => by
  obtain ⟨ih0, ih1, ih2⟩ := impl_ReachOf.mono_l k
  refine ⟨?_, ?_, ?_⟩
  ·intro y0 y1 y2 y3 y4
   unfold impl_ReachOf.j1
   repeat' first
   | (with_reducible exact ih0 _ _ _ _ _)
   | (with_reducible exact ih1 _ _ _ _ _)
   | (with_reducible exact ih2 _ _ _ _ _)
   | (with_reducible exact impl_DoCommand.mono _ _ _ _ _ _)
   | (with_reducible exact LeO.refl _)
   | (with_reducible exact LeO.none _)
   | (with_reducible refine LeO.ite ?_ ?_)
   | (with_reducible refine LeO.bind ?_ (fun _ => ?_))
  ·intro y0 y1 y2 y3 y4
   unfold impl_ReachOf.l1
   repeat' first
   | (with_reducible exact ih0 _ _ _ _ _)
   | (with_reducible exact ih1 _ _ _ _ _)
   | (with_reducible exact ih2 _ _ _ _ _)
   | (with_reducible exact impl_DoCommand.mono _ _ _ _ _ _)
   | (with_reducible exact LeO.refl _)
   | (with_reducible exact LeO.none _)
   | (with_reducible refine LeO.ite ?_ ?_)
   | (with_reducible refine LeO.bind ?_ (fun _ => ?_))
  ·intro y0 y1 y2 y3 y4
   unfold impl_ReachOf.l0
   repeat' first
   | (with_reducible exact ih0 _ _ _ _ _)
   | (with_reducible exact ih1 _ _ _ _ _)
   | (with_reducible exact ih2 _ _ _ _ _)
   | (with_reducible exact impl_DoCommand.mono _ _ _ _ _ _)
   | (with_reducible exact LeO.refl _)
   | (with_reducible exact LeO.none _)
   | (with_reducible refine LeO.ite ?_ ?_)
   | (with_reducible refine LeO.bind ?_ (fun _ => ?_))
theorem impl_ReachOf.mono : ∀ a0 a1 a2 a3 a4 k, LeO (impl_ReachOf.f k a0 a1 a2 a3 a4) (impl_ReachOf.f (k + 1) a0 a1 a2 a3 a4) := by
 intro a0 a1 a2 a3 a4 k
 obtain ⟨ih0, ih1, ih2⟩ := impl_ReachOf.mono_l k
 unfold impl_ReachOf.f
 repeat' first
   | (with_reducible exact ih0 _ _ _ _ _)
   | (with_reducible exact ih1 _ _ _ _ _)
   | (with_reducible exact ih2 _ _ _ _ _)
   | (with_reducible exact impl_DoCommand.mono _ _ _ _ _ _)
   | (with_reducible exact LeO.refl _)
   | (with_reducible exact LeO.none _)
   | (with_reducible refine LeO.ite ?_ ?_)
   | (with_reducible refine LeO.bind ?_ (fun _ => ?_))
set_option maxHeartbeats 8000000 in
set_option maxRecDepth 100000 in
theorem impl_ReachOf.calls (k : Nat) (a0 : ByteArray) (a1_0 : Int) (a1_1 : Int) (a1_2 : Int) (a1_3 : ByteArray) (r1 : Int) (r2 : Int) (r3 : Bool) (w : World) (h : impl_ReachOf.f k a0 a1_0 a1_1 a1_2 a1_3 = some (r1, r2, r3)) :
  Calls Try.prog 16 #[.string a0, .agg #[.int .i64 a1_0, .int .i64 a1_1, .int .i64 a1_2, .string a1_3]] w fun e w' => e = .returned (.tuple #[.int .i64 r1, .int .i64 r2, .bool r3]) ∧ Below w.heap.size w w' := by
 have hu29 := Try.underlying29
 have HB := aM (Below.refl w.heap.size w)
 have H : ((impl_DoCommand.f k a0 a1_0 a1_1 a1_2 a1_3).bind fun ji => (if ji.2 = true then (impl_ReachOf.l0 k a0 ji.1 (mn (a0.size : Int) (ji.1.size : Int)) 0 0) else (some (0, 0, false)))) = some (r1, r2, r3) := h
 clear h
 obtain ⟨⟨bV, t381⟩, A3, H⟩ := oA_ H
 try dsimp only at H
 by_cases c4 : t381 = true
 ·subst c4
  rw [if_pos rfl] at H
  obtain ⟨l6, gg⟩ : ∃ j_ : Int, (mn (a0.size : Int) (bV.size : Int)) = j_ := ⟨_, rfl⟩
  replace H : (impl_ReachOf.l0 k a0 bV l6 0 0) = some (r1, r2, r3) := by first | (rw [gg] at H; exact H) | (simp only [gg] at H ⊢; exact H)
  (try rw [gg] at A3)
  (try (have hji5l : 0 ≤ l6 := by (rw [← gg]; unfold mn; (repeat' split) <;> omega)))
  (try (have hji5m : 0 ≤ l6 := by omega))
  have hji5_ : (if (bV.size : Int) < (a0.size : Int) then (bV.size : Int) else (a0.size : Int)) = l6 := gg
  (try (have hji5n : (if bV.size < a0.size then (bV.size : Int) else (a0.size : Int)) = l6 := by rw [← hji5_]; simp only [Int.ofNat_lt]))
  have jH := aM H
  clear H
  go_enter Try.func16, Try.ntmps16
  go_upto_block 0 with (first | ((with_reducible refine aw (N := 3) rfl ?_); (try (refine gate_guard (by rfl) ?_; dsimp only)); refine ax ?hg (N := 3) ?hd (cs := #[.int .i64 a1_0, .int .i64 a1_1, .int .i64 a1_2, .string a1_3]) (t := 29) ?hr ?_; (case hd => rfl); (case hg => rfl); (case hr => first | (go_simp; done) | (go_simp; rfl)); intro bq hg w7 hbox hb; have ba := aM (hbox); have lY := aM ((by rw [hg]; exact (ap z14) : w.heap.size ≤ bq)); have fF := aM ((by rw [hg]; exact (ap z14) : w.heap.size ≤ bq)); replace HB := aM (ao z14 hb); clear hb hbox hg; obtain ⟨ce, cd, cb, en, cj, b7, b6, el⟩ := cc4 ba.out) | (go_at_call 14; (with_reducible refine (impl_DoCommand.calls k a0 a1_0 a1_1 a1_2 a1_3 bV true _ A3.out).mono ?_); rintro e w9 ⟨rfl, hb⟩; replace ba := aM (ae (g := bq) (o := .cells #[.int .i64 a1_0, .int .i64 a1_1, .int .i64 a1_2, .string a1_3] 29 (0, 0)) (kB_ ba.out) hb); replace HB := aM (ao (by repeat (first | (with_reducible first | exact HB.out | apply bA | apply pD | apply bD | refine am ?_ fF.out) | exact HB.out)) hb); (try clear hb)))
  repeat (go_quiet (fail); go_upto_block 0 with (first | ((with_reducible refine aw (N := 3) rfl ?_); (try (refine gate_guard (by rfl) ?_; dsimp only)); refine ax ?hg (N := 3) ?hd (cs := #[.int .i64 a1_0, .int .i64 a1_1, .int .i64 a1_2, .string a1_3]) (t := 29) ?hr ?_; (case hd => rfl); (case hg => rfl); (case hr => first | (go_simp; done) | (go_simp; rfl)); intro bq hg w7 hbox hb; have ba := aM (hbox); have lY := aM ((by rw [hg]; exact (ap z14) : w.heap.size ≤ bq)); have fF := aM ((by rw [hg]; exact (ap z14) : w.heap.size ≤ bq)); replace HB := aM (ao z14 hb); clear hb hbox hg; obtain ⟨ce, cd, cb, en, cj, b7, b6, el⟩ := cc4 ba.out) | (go_at_call 14; (with_reducible refine (impl_DoCommand.calls k a0 a1_0 a1_1 a1_2 a1_3 bV true _ A3.out).mono ?_); rintro e w9 ⟨rfl, hb⟩; replace ba := aM (ae (g := bq) (o := .cells #[.int .i64 a1_0, .int .i64 a1_1, .int .i64 a1_2, .string a1_3] 29 (0, 0)) (kB_ ba.out) hb); replace HB := aM (ao (by repeat (first | (with_reducible first | exact HB.out | apply bA | apply pD | apply bD | refine am ?_ fF.out) | exact HB.out)) hb); (try clear hb))))
  (try simp only [Act.put, sA, sB, sC])
  go_cut [10] (fun v10 wc => ∃ (kq : Nat) (x10_5 : Int), v10 = .int .i64 x10_5 ∧ Aside0 (impl_ReachOf.j1 kq a0 bV l6 x10_5 0 = some (r1, r2, r3)) ∧ Aside0 (kq ≤ k) ∧ Aside0 (wc.heap[bq]? = some (.cells #[.int .i64 a1_0, .int .i64 a1_1, .int .i64 a1_2, .string a1_3] 29 (0, 0))) ∧ Aside0 (Below w.heap.size w wc))
  case first =>
   have H := jH.out
   clear jH
   have H' := aM H
   clear H
   go_wp2
   repeat (go_quiet (fail); try go_wp2)
   go_loopg [10] k (fun kq v10 w' => ∃ (x10_1 : Int), v10 = .int .i64 x10_1 ∧ Aside0 (impl_ReachOf.l0 kq a0 bV l6 x10_1 0 = some (r1, r2, r3)) ∧ Aside0 (kq ≤ k) ∧ Aside0 (w'.heap[bq]? = some (.cells #[.int .i64 a1_0, .int .i64 a1_1, .int .i64 a1_2, .string a1_3] 29 (0, 0))) ∧ Aside0 (Below w.heap.size w w'))
   case atStart => exact ⟨(0), z1, H', ⟨Nat.le_refl _⟩, ⟨y10⟩, ⟨y20⟩⟩
   case round =>
    clear H'
    try clear c4
    try clear ce
    try clear cd
    try clear cb
    try clear en
    try clear cj
    try clear b7
    try clear b6
    try clear el
    obtain ⟨x10_1, rfl, HA, HK1, ba, HB⟩ := hrel
    cases gk with
    | zero => exact absurd HA.out (by simp [impl_ReachOf.l0])
    | succ k1 =>
     have H := HA.out
     clear HA
     simp only [impl_ReachOf.l0] at H
     by_cases cv : x10_1 < l6
     ·rw [if_pos cv] at H
      have c10b0 : decide (x10_1 < l6) = true := dT cv
      clear cv
      (first | rw [c10b0] | (simp only [i64_w, i32_w]; rw [c10b0]) | skip)
      by_cases cy : 0 ≤ x10_1
      ·rw [if_pos cy] at H
       have c11b0 : decide (0 ≤ x10_1) = true := dT cy
       clear cy
       by_cases b3 : x10_1 < (a0.size : Int)
       ·rw [if_pos b3] at H
        have c12b0 : decide (x10_1 < (a0.size : Int)) = true := dT b3
        clear b3
        by_cases cB : x10_1 < (bV.size : Int)
        ·rw [if_pos cB] at H
         have c14b0 : decide (x10_1 < (bV.size : Int)) = true := dT cB
         clear cB
         by_cases dG : (bt a0 x10_1) = (bt bV x10_1)
         ·rw [if_pos dG] at H
          have c16b0 : ((bt a0 x10_1) == (bt bV x10_1)) = true := qT dG
          have c16b1 : ((bt a0 x10_1) != (bt bV x10_1)) = false := nF dG
          clear dG
          have H' := aM H
          clear H
          have p13 : 0 ≤ (x10_1 : Int) := oD z2
          have q13 : x10_1 < (a0.size : Int) := oD z2
          have hx13 := bt_at a0 x10_1
          replace p13 := eq_true p13
          replace q13 := eq_true q13
          have p15 : 0 ≤ (x10_1 : Int) := oD z2
          have q15 : x10_1 < (bV.size : Int) := oD z2
          have hx15 := bt_at bV x10_1
          replace p15 := eq_true p15
          replace q15 := eq_true q15
          go_wp2
          repeat (go_quiet (fail); try go_wp2)
          go_roundg k1
          case measure => have := HK1.out; omega
          case rel => exact ⟨(wrap64 (x10_1 + 1)), z1, (by first | exact H' | (simp only [gg]; exact H') | (simp only [← gg]; exact H')), ⟨by have := HK1.out; omega⟩, ⟨y10⟩, ⟨y20⟩⟩
         ·rw [if_neg dG] at H
          have c16b0 : ((bt a0 x10_1) == (bt bV x10_1)) = false := qF dG
          have c16b1 : ((bt a0 x10_1) != (bt bV x10_1)) = true := nT dG
          have H' := aM H
          clear H
          have p13 : 0 ≤ (x10_1 : Int) := oD z2
          have q13 : x10_1 < (a0.size : Int) := oD z2
          have hx13 := bt_at a0 x10_1
          replace p13 := eq_true p13
          replace q13 := eq_true q13
          have p15 : 0 ≤ (x10_1 : Int) := oD z2
          have q15 : x10_1 < (bV.size : Int) := oD z2
          have hx15 := bt_at bV x10_1
          replace p15 := eq_true p15
          replace q15 := eq_true q15
          go_wp2
          repeat (go_quiet (fail); try go_wp2)
          go_meet
          case rel => exact ⟨_, (x10_1), z1, (by first | exact H' | (simp only [gg]; exact H') | (simp only [← gg]; exact H')), ⟨y2⟩, ⟨y10⟩, ⟨y20⟩⟩
        ·rw [if_neg cB] at H
         exact absurd H (by simp)
       ·rw [if_neg b3] at H
        exact absurd H (by simp)
      ·rw [if_neg cy] at H
       exact absurd H (by simp)
     ·rw [if_neg cv] at H
      have c10b0 : decide (x10_1 < l6) = false := dF cv
      clear cv
      (first | rw [c10b0] | (simp only [i64_w, i32_w]; rw [c10b0]) | skip)
      have H' := aM H
      clear H
      go_wp2
      repeat (go_quiet (fail); try go_wp2)
      go_meet
      case rel => exact ⟨_, (x10_1), z1, (by first | exact H' | (simp only [gg]; exact H') | (simp only [← gg]; exact H')), ⟨y2⟩, ⟨y10⟩, ⟨y20⟩⟩
  case rest =>
   clear jH
   try clear c4
   try clear ce
   try clear cd
   try clear cb
   try clear en
   try clear cj
   try clear b7
   try clear b6
   try clear el
   obtain ⟨kq, x10_5, rfl, HA, g8, ba, HB⟩ := hcut
   cases kq with
   | zero => exact absurd HA.out (by simp [impl_ReachOf.j1])
   | succ kj5 =>
    have H := HA.out
    clear HA
    simp only [impl_ReachOf.j1] at H
    have H' := aM H
    clear H
    go_wp2
    repeat (go_quiet (fail); try go_wp2)
    go_loopg [11] kj5 (fun kq v11 w' => ∃ (x11_2 : Int), v11 = .int .i64 x11_2 ∧ Aside0 (impl_ReachOf.l1 kq a0 bV l6 x10_5 x11_2 = some (r1, r2, r3)) ∧ Aside0 (kq ≤ kj5) ∧ Aside0 (w'.heap[bq]? = some (.cells #[.int .i64 a1_0, .int .i64 a1_1, .int .i64 a1_2, .string a1_3] 29 (0, 0))) ∧ Aside0 (Below w.heap.size w w'))
    case atStart => exact ⟨(0), z1, H', ⟨Nat.le_refl _⟩, ⟨y10⟩, ⟨y20⟩⟩
    case round =>
     clear H'
     try clear c4
     try clear ce
     try clear cd
     try clear cb
     try clear en
     try clear cj
     try clear b7
     try clear b6
     try clear el
     obtain ⟨x11_2, rfl, HA, HK2, ba, HB⟩ := hrel
     cases gk with
     | zero => exact absurd HA.out (by simp [impl_ReachOf.l1])
     | succ k2 =>
      have H := HA.out
      clear HA
      simp only [impl_ReachOf.l1] at H
      by_cases dy : x11_2 < (wrap64 (l6 - x10_5))
      ·rw [if_pos dy] at H
       have c17b0 : decide (x11_2 < (wrap64 (l6 - x10_5))) = true := dT dy
       clear dy
       obtain ⟨bY, et⟩ : ∃ j_ : Int, (wrap64 ((wrap64 ((a0.size : Int) - 1)) - x11_2)) = j_ := ⟨_, rfl⟩
       replace H : (if 0 ≤ (bY) then (if (bY) < (a0.size : Int) then (if 0 ≤ (wrap64 ((wrap64 ((bV.size : Int) - 1)) - x11_2)) then (if (wrap64 ((wrap64 ((bV.size : Int) - 1)) - x11_2)) < (bV.size : Int) then (if (bt a0 (bY)) = (bt bV (wrap64 ((wrap64 ((bV.size : Int) - 1)) - x11_2))) then (impl_ReachOf.l1 k2 a0 bV l6 x10_5 (wrap64 (x11_2 + 1))) else (some (x10_5, x11_2, true))) else (none)) else (none)) else (none)) else (none)) = some (r1, r2, r3) := by first | (rw [et] at H; exact H) | (simp only [et] at H ⊢; exact H)
       have hji18w : (IntKind.i64.wrap ((wrap64 ((a0.size : Int) - 1)) - x11_2)) = bY := (i64_w _).trans et
       by_cases fp : 0 ≤ (bY)
       ·rw [if_pos fp] at H
        have c19b0 : decide (0 ≤ (bY)) = true := dT fp
        clear fp
        by_cases cx : (bY) < (a0.size : Int)
        ·rw [if_pos cx] at H
         have c20b0 : decide ((bY) < (a0.size : Int)) = true := dT cx
         clear cx
         obtain ⟨eQ, kc⟩ : ∃ j_ : Int, (wrap64 ((wrap64 ((bV.size : Int) - 1)) - x11_2)) = j_ := ⟨_, rfl⟩
         replace H : (if 0 ≤ (eQ) then (if (eQ) < (bV.size : Int) then (if (bt a0 (bY)) = (bt bV (eQ)) then (impl_ReachOf.l1 k2 a0 bV l6 x10_5 (wrap64 (x11_2 + 1))) else (some (x10_5, x11_2, true))) else (none)) else (none)) = some (r1, r2, r3) := by first | (rw [kc] at H; exact H) | (simp only [kc] at H ⊢; exact H)
         have hji22w : (IntKind.i64.wrap ((wrap64 ((bV.size : Int) - 1)) - x11_2)) = eQ := (i64_w _).trans kc
         by_cases fZ : 0 ≤ (eQ)
         ·rw [if_pos fZ] at H
          have c23b0 : decide (0 ≤ (eQ)) = true := dT fZ
          clear fZ
          by_cases f6 : (eQ) < (bV.size : Int)
          ·rw [if_pos f6] at H
           have c24b0 : decide ((eQ) < (bV.size : Int)) = true := dT f6
           clear f6
           by_cases eJ : (bt a0 (bY)) = (bt bV (eQ))
           ·rw [if_pos eJ] at H
            have c26b0 : ((bt a0 (bY)) == (bt bV (eQ))) = true := qT eJ
            have c26b1 : ((bt a0 (bY)) != (bt bV (eQ))) = false := nF eJ
            clear eJ
            have H' := aM H
            clear H
            have p21 : 0 ≤ ((bY) : Int) := oD z2
            have q21 : (bY) < (a0.size : Int) := oD z2
            have hx21 := bt_at a0 (bY)
            replace p21 := eq_true p21
            replace q21 := eq_true q21
            have p25 : 0 ≤ ((eQ) : Int) := oD z2
            have q25 : (eQ) < (bV.size : Int) := oD z2
            have hx25 := bt_at bV (eQ)
            replace p25 := eq_true p25
            replace q25 := eq_true q25
            go_wp2
            repeat (go_quiet (fail); try go_wp2)
            go_roundg k2
            case measure => have := g8.out; have := HK2.out; omega
            case rel => exact ⟨(wrap64 (x11_2 + 1)), z1, (by first | exact H' | (simp only [gg, et, kc]; exact H') | (simp only [← gg, ← et, ← kc]; exact H')), ⟨by have := g8.out; have := HK2.out; omega⟩, ⟨y10⟩, ⟨y20⟩⟩
           ·rw [if_neg eJ] at H
            have c26b0 : ((bt a0 (bY)) == (bt bV (eQ))) = false := qF eJ
            have c26b1 : ((bt a0 (bY)) != (bt bV (eQ))) = true := nT eJ
            simp only [Option.some.injEq, Prod.mk.injEq] at H
            obtain ⟨rfl, rfl, rfl⟩ := H
            have p21 : 0 ≤ ((bY) : Int) := oD z2
            have q21 : (bY) < (a0.size : Int) := oD z2
            have hx21 := bt_at a0 (bY)
            replace p21 := eq_true p21
            replace q21 := eq_true q21
            have p25 : 0 ≤ ((eQ) : Int) := oD z2
            have q25 : (eQ) < (bV.size : Int) := oD z2
            have hx25 := bt_at bV (eQ)
            replace p25 := eq_true p25
            replace q25 := eq_true q25
            go_wp2
            repeat (go_quiet (fail); try go_wp2)
            go_ret3
            exact ⟨by first | rfl | (simp [errW_none, errW_some] <;> rfl) | (simp only [← gg, ← et, ← kc]; first | rfl | (simp [errW_none, errW_some] <;> rfl)) | (simp [*, errW_none, errW_some] <;> rfl), y20⟩
          ·rw [if_neg f6] at H
           exact absurd H (by simp)
         ·rw [if_neg fZ] at H
          exact absurd H (by simp)
        ·rw [if_neg cx] at H
         exact absurd H (by simp)
       ·rw [if_neg fp] at H
        exact absurd H (by simp)
      ·rw [if_neg dy] at H
       have c17b0 : decide (x11_2 < (wrap64 (l6 - x10_5))) = false := dF dy
       clear dy
       simp only [Option.some.injEq, Prod.mk.injEq] at H
       obtain ⟨rfl, rfl, rfl⟩ := H
       go_wp2
       repeat (go_quiet (fail); try go_wp2)
       go_ret3
       exact ⟨by first | rfl | (simp [errW_none, errW_some] <;> rfl) | (simp only [← gg]; first | rfl | (simp [errW_none, errW_some] <;> rfl)) | (simp [*, errW_none, errW_some] <;> rfl), y20⟩
 ·replace c4 := Bool.eq_false_iff.mpr c4
  subst c4
  rw [if_neg nF_] at H
  simp only [Option.some.injEq, Prod.mk.injEq] at H
  obtain ⟨rfl, rfl, rfl⟩ := H
  go_enter Try.func16, Try.ntmps16
  go_wp2_with (first | ((with_reducible refine aw (N := 3) rfl ?_); (try (refine gate_guard (by rfl) ?_; dsimp only)); refine ax ?hg (N := 3) ?hd (cs := #[.int .i64 a1_0, .int .i64 a1_1, .int .i64 a1_2, .string a1_3]) (t := 29) ?hr ?_; (case hd => rfl); (case hg => rfl); (case hr => first | (go_simp; done) | (go_simp; rfl)); intro bq hg w27 hbox hb; have ba := aM (hbox); have lY := aM ((by rw [hg]; exact (ap z14) : w.heap.size ≤ bq)); have fF := aM ((by rw [hg]; exact (ap z14) : w.heap.size ≤ bq)); replace HB := aM (ao z14 hb); clear hb hbox hg; obtain ⟨e7, e6, e5, oL, eW, eV, eU, nV⟩ := cc4 ba.out) | (go_at_call 14; (with_reducible refine (impl_DoCommand.calls k a0 a1_0 a1_1 a1_2 a1_3 bV false _ A3.out).mono ?_); rintro e w29 ⟨rfl, hb⟩; replace ba := aM (ae (g := bq) (o := .cells #[.int .i64 a1_0, .int .i64 a1_1, .int .i64 a1_2, .string a1_3] 29 (0, 0)) (kB_ ba.out) hb); replace HB := aM (ao (by repeat (first | (with_reducible first | exact HB.out | apply bA | apply pD | apply bD | refine am ?_ fF.out) | exact HB.out)) hb); (try clear hb)))
  repeat (go_quiet (fail); try go_wp2)
  go_ret3
  exact ⟨y4, y20⟩

/-! ### spec_l3Part: function 57 -/
def spec_l3Part.f (k : Nat) (a0_0 : Int) (a0_1 : ByteArray) (a0_2 : ByteArray) : Option (Bool) := if a0_0 = 0 then (if a0_1.toList = ([] : List UInt8) then (if a0_2.toList = ([] : List UInt8) then (some false) else ((spec_GoodText.f k a0_2).bind fun pN => (some pN))) else (if a0_2.toList = ([] : List UInt8) then ((spec_GoodText.f k a0_1).bind fun pM => (some pM)) else (some false))) else ((spec_l1In.f a0_0 1 300).bind fun pL => (if pL = true then (if a0_1.toList = ([] : List UInt8) then (some (a0_2.toList == ([] : List UInt8))) else (some false)) else (some false)))
theorem spec_l3Part.mono : ∀ a0 a1 a2 k, LeO (spec_l3Part.f k a0 a1 a2) (spec_l3Part.f (k + 1) a0 a1 a2) := by
 intro a0 a1 a2 k
 unfold spec_l3Part.f
 repeat' first
   | (with_reducible exact spec_GoodText.mono _ _)
   | (with_reducible exact LeO.refl _)
   | (with_reducible exact LeO.none _)
   | (with_reducible refine LeO.ite ?_ ?_)
   | (with_reducible refine LeO.bind ?_ (fun _ => ?_))
set_option maxHeartbeats 8000000 in
set_option maxRecDepth 100000 in
theorem spec_l3Part.calls (k : Nat) (a0_0 : Int) (a0_1 : ByteArray) (a0_2 : ByteArray) (r : Bool) (w : World) (h : spec_l3Part.f k a0_0 a0_1 a0_2 = some r) :
  Calls Try.prog 57 #[.agg #[.int .i64 a0_0, .string a0_1, .string a0_2]] w fun e w' => e = .returned (.bool r) ∧ Below w.heap.size w w' := by
 have hu61 := Try.underlying61
 have HB := aM (Below.refl w.heap.size w)
 have H : (if a0_0 = 0 then (if a0_1.toList = ([] : List UInt8) then (if a0_2.toList = ([] : List UInt8) then (some false) else ((spec_GoodText.f k a0_2).bind fun pN => (some pN))) else (if a0_2.toList = ([] : List UInt8) then ((spec_GoodText.f k a0_1).bind fun pM => (some pM)) else (some false))) else ((spec_l1In.f a0_0 1 300).bind fun pL => (if pL = true then (if a0_1.toList = ([] : List UInt8) then (some (a0_2.toList == ([] : List UInt8))) else (some false)) else (some false)))) = some r := h
 clear h
 by_cases c2 : a0_0 = 0
 ·rw [if_pos c2] at H
  have c2b0 : (a0_0 == 0) = true := qT c2
  have c2b1 : (a0_0 != 0) = false := nF c2
  clear c2
  by_cases c3 : a0_1.toList = ([] : List UInt8)
  ·rw [if_pos c3] at H
   have c3b0 : (a0_1.toList == ([] : List UInt8)) = true := qT c3
   have c3b1 : (a0_1.toList != ([] : List UInt8)) = false := nF c3
   clear c3
   by_cases c4 : a0_2.toList = ([] : List UInt8)
   ·rw [if_pos c4] at H
    have c4b0 : (a0_2.toList == ([] : List UInt8)) = true := qT c4
    have c4b1 : (a0_2.toList != ([] : List UInt8)) = false := nF c4
    clear c4
    obtain rfl := sI H
    go_enter Try.func57, Try.ntmps57
    go_wp2_with (first | ((with_reducible refine aw (N := 1) rfl ?_); refine ax ?hg (N := 1) ?hd (cs := #[.int .i64 a0_0, .string a0_1, .string a0_2]) (t := 61) ?hr ?_; (case hd => rfl); (case hg => rfl); (case hr => first | (go_simp; done) | (go_simp; rfl)); intro bH hg w5 hbox hb; have br := aM (hbox); have kk := aM ((by rw [hg]; exact (ap z14) : w.heap.size ≤ bH)); have ko := aM ((by rw [hg]; exact (ap z14) : w.heap.size ≤ bH)); replace HB := aM (ao z14 hb); clear hb hbox hg; obtain ⟨fz, fy, fx, gi, fw, fv⟩ := cc3 br.out))
    all_goals (try (exfalso; rename_i h_; rw [c3b0] at h_; cases h_; done))
    all_goals (try (exfalso; rename_i h_; rw [c4b0] at h_; cases h_; done))
    go_ret
    exact ⟨y4, y21⟩
   ·rw [if_neg c4] at H
    have c4b0 : (a0_2.toList == ([] : List UInt8)) = false := qF c4
    have c4b1 : (a0_2.toList != ([] : List UInt8)) = true := nT c4
    obtain ⟨pN, A7, H⟩ := oA_ H
    try dsimp only at H
    obtain rfl := sI H
    go_enter Try.func57, Try.ntmps57
    go_wp2_with (first | ((with_reducible refine aw (N := 1) rfl ?_); refine ax ?hg (N := 1) ?hd (cs := #[.int .i64 a0_0, .string a0_1, .string a0_2]) (t := 61) ?hr ?_; (case hd => rfl); (case hg => rfl); (case hr => first | (go_simp; done) | (go_simp; rfl)); intro bH hg w8 hbox hb; have br := aM (hbox); have kk := aM ((by rw [hg]; exact (ap z14) : w.heap.size ≤ bH)); have ko := aM ((by rw [hg]; exact (ap z14) : w.heap.size ≤ bH)); replace HB := aM (ao z14 hb); clear hb hbox hg; obtain ⟨ca, b9, b8, ci, b5, b4⟩ := cc3 br.out) | (go_at_call 48; (with_reducible refine (spec_GoodText.calls k a0_2 pN _ A7.out).mono ?_); rintro e w' ⟨rfl, ⟨nd, rfl⟩⟩))
    all_goals (try (exfalso; rename_i h_; rw [c3b0] at h_; cases h_; done))
    all_goals (try (exfalso; rename_i h_; rw [c4b0] at h_; cases h_; done))
    go_ret
    exact ⟨y4, y21⟩
  ·rw [if_neg c3] at H
   have c3b0 : (a0_1.toList == ([] : List UInt8)) = false := qF c3
   have c3b1 : (a0_1.toList != ([] : List UInt8)) = true := nT c3
   by_cases cv : a0_2.toList = ([] : List UInt8)
   ·rw [if_pos cv] at H
    have c10b0 : (a0_2.toList == ([] : List UInt8)) = true := qT cv
    have c10b1 : (a0_2.toList != ([] : List UInt8)) = false := nF cv
    clear cv
    obtain ⟨pM, iS, H⟩ := oA_ H
    try dsimp only at H
    obtain rfl := sI H
    go_enter Try.func57, Try.ntmps57
    go_wp2_with (first | ((with_reducible refine aw (N := 1) rfl ?_); refine ax ?hg (N := 1) ?hd (cs := #[.int .i64 a0_0, .string a0_1, .string a0_2]) (t := 61) ?hr ?_; (case hd => rfl); (case hg => rfl); (case hr => first | (go_simp; done) | (go_simp; rfl)); intro bH hg w12 hbox hb; have br := aM (hbox); have kk := aM ((by rw [hg]; exact (ap z14) : w.heap.size ≤ bH)); have ko := aM ((by rw [hg]; exact (ap z14) : w.heap.size ≤ bH)); replace HB := aM (ao z14 hb); clear hb hbox hg; obtain ⟨kR, kQ, kP, kH, kG, kF⟩ := cc3 br.out) | (go_at_call 48; (with_reducible refine (spec_GoodText.calls k a0_1 pM _ iS.out).mono ?_); rintro e w' ⟨rfl, ⟨nd, rfl⟩⟩))
    all_goals (try (exfalso; rename_i h_; rw [c3b0] at h_; cases h_; done))
    all_goals (try (exfalso; rename_i h_; rw [c10b0] at h_; cases h_; done))
    go_ret
    exact ⟨y4, y21⟩
   ·rw [if_neg cv] at H
    have c10b0 : (a0_2.toList == ([] : List UInt8)) = false := qF cv
    have c10b1 : (a0_2.toList != ([] : List UInt8)) = true := nT cv
    obtain rfl := sI H
    go_enter Try.func57, Try.ntmps57
    go_wp2_with (first | ((with_reducible refine aw (N := 1) rfl ?_); refine ax ?hg (N := 1) ?hd (cs := #[.int .i64 a0_0, .string a0_1, .string a0_2]) (t := 61) ?hr ?_; (case hd => rfl); (case hg => rfl); (case hr => first | (go_simp; done) | (go_simp; rfl)); intro bH hg w14 hbox hb; have br := aM (hbox); have kk := aM ((by rw [hg]; exact (ap z14) : w.heap.size ≤ bH)); have ko := aM ((by rw [hg]; exact (ap z14) : w.heap.size ≤ bH)); replace HB := aM (ao z14 hb); clear hb hbox hg; obtain ⟨iP, iO, iN, iA, iz, iy⟩ := cc3 br.out))
    all_goals (try (exfalso; rename_i h_; rw [c3b0] at h_; cases h_; done))
    all_goals (try (exfalso; rename_i h_; rw [c10b0] at h_; cases h_; done))
    go_ret
    exact ⟨y4, y21⟩
 ·rw [if_neg c2] at H
  have c2b0 : (a0_0 == 0) = false := qF c2
  have c2b1 : (a0_0 != 0) = true := nT c2
  obtain ⟨pL, rX, H⟩ := oA_ H
  try dsimp only at H
  by_cases dy : pL = true
  ·subst dy
   rw [if_pos rfl] at H
   by_cases d8 : a0_1.toList = ([] : List UInt8)
   ·rw [if_pos d8] at H
    have c18b0 : (a0_1.toList == ([] : List UInt8)) = true := qT d8
    have c18b1 : (a0_1.toList != ([] : List UInt8)) = false := nF d8
    clear d8
    obtain rfl := sI H
    go_enter Try.func57, Try.ntmps57
    go_wp2_with (first | ((with_reducible refine aw (N := 1) rfl ?_); refine ax ?hg (N := 1) ?hd (cs := #[.int .i64 a0_0, .string a0_1, .string a0_2]) (t := 61) ?hr ?_; (case hd => rfl); (case hg => rfl); (case hr => first | (go_simp; done) | (go_simp; rfl)); intro bH hg w19 hbox hb; have br := aM (hbox); have kk := aM ((by rw [hg]; exact (ap z14) : w.heap.size ≤ bH)); have ko := aM ((by rw [hg]; exact (ap z14) : w.heap.size ≤ bH)); replace HB := aM (ao z14 hb); clear hb hbox hg; obtain ⟨d2, d1, dZ, dQ, dP, dO⟩ := cc3 br.out) | ((with_reducible refine av (f := 71) rfl ?_); refine ay (some 9) rfl rfl Try.func71 z0 rfl #[.int .i64 a0_0, .int .i64 1, .int .i64 300] rfl z15 ?_; (with_reducible refine (spec_l1In.calls a0_0 1 300 true _ rX.out).mono ?_); rintro e w' ⟨rfl, ⟨nd, rfl⟩⟩; refine ⟨_, rfl, ?_⟩))
    all_goals (try (exfalso; rename_i h_; rw [c18b0] at h_; cases h_; done))
    go_ret
    exact ⟨y4, y21⟩
   ·rw [if_neg d8] at H
    have c18b0 : (a0_1.toList == ([] : List UInt8)) = false := qF d8
    have c18b1 : (a0_1.toList != ([] : List UInt8)) = true := nT d8
    obtain rfl := sI H
    go_enter Try.func57, Try.ntmps57
    go_wp2_with (first | ((with_reducible refine aw (N := 1) rfl ?_); refine ax ?hg (N := 1) ?hd (cs := #[.int .i64 a0_0, .string a0_1, .string a0_2]) (t := 61) ?hr ?_; (case hd => rfl); (case hg => rfl); (case hr => first | (go_simp; done) | (go_simp; rfl)); intro bH hg w21 hbox hb; have br := aM (hbox); have kk := aM ((by rw [hg]; exact (ap z14) : w.heap.size ≤ bH)); have ko := aM ((by rw [hg]; exact (ap z14) : w.heap.size ≤ bH)); replace HB := aM (ao z14 hb); clear hb hbox hg; obtain ⟨dm, dl, dk, dj, di, dh⟩ := cc3 br.out) | ((with_reducible refine av (f := 71) rfl ?_); refine ay (some 9) rfl rfl Try.func71 z0 rfl #[.int .i64 a0_0, .int .i64 1, .int .i64 300] rfl z15 ?_; (with_reducible refine (spec_l1In.calls a0_0 1 300 true _ rX.out).mono ?_); rintro e w' ⟨rfl, ⟨nd, rfl⟩⟩; refine ⟨_, rfl, ?_⟩))
    all_goals (try (exfalso; rename_i h_; rw [c18b0] at h_; cases h_; done))
    go_ret
    exact ⟨y4, y21⟩
  ·replace dy := Bool.eq_false_iff.mpr dy
   subst dy
   rw [if_neg nF_] at H
   obtain rfl := sI H
   go_enter Try.func57, Try.ntmps57
   go_wp2_with (first | ((with_reducible refine aw (N := 1) rfl ?_); refine ax ?hg (N := 1) ?hd (cs := #[.int .i64 a0_0, .string a0_1, .string a0_2]) (t := 61) ?hr ?_; (case hd => rfl); (case hg => rfl); (case hr => first | (go_simp; done) | (go_simp; rfl)); intro bH hg w23 hbox hb; have br := aM (hbox); have kk := aM ((by rw [hg]; exact (ap z14) : w.heap.size ≤ bH)); have ko := aM ((by rw [hg]; exact (ap z14) : w.heap.size ≤ bH)); replace HB := aM (ao z14 hb); clear hb hbox hg; obtain ⟨hcz24_0, hcz24_1, hcz24_2, hfz24_0, hfz24_1, hfz24_2⟩ := cc3 br.out) | ((with_reducible refine av (f := 71) rfl ?_); refine ay (some 9) rfl rfl Try.func71 z0 rfl #[.int .i64 a0_0, .int .i64 1, .int .i64 300] rfl z15 ?_; (with_reducible refine (spec_l1In.calls a0_0 1 300 false _ rX.out).mono ?_); rintro e w' ⟨rfl, ⟨nd, rfl⟩⟩; refine ⟨_, rfl, ?_⟩))
   go_ret
   exact ⟨y4, y21⟩

/-! ### spec_l3Sizes: function 58 -/
def spec_l3Sizes.l0 : Nat → Int → Int → List (S61) → Int → Int → Option (Int × Int)
 | 0, _, _, _, _, _ => none
 | k + 1, x4, x5, x8, x9, x10 => if x10 < x9 then (if 0 ≤ x10 then (if x10 < (x8.length : Int) then (spec_l3Sizes.l0 k (wrap64 (x4 + (wrap64 (((rd_T61 x8 x10).f0) + (((rd_T61 x8 x10).f2).size : Int))))) (wrap64 (x5 + (wrap64 (((rd_T61 x8 x10).f0) + (((rd_T61 x8 x10).f1).size : Int))))) x8 x9 (wrap64 (x10 + 1))) else (none)) else (none)) else (some (x4, x5))
def spec_l3Sizes.f (k : Nat) (l0 : List (S61)) : Option (Int × Int) := spec_l3Sizes.l0 k 0 0 l0 (l0.length : Int) 0
theorem spec_l3Sizes.mono_l : ∀ k, (∀ y0 y1 y2 y3 y4, LeO (spec_l3Sizes.l0 k y0 y1 y2 y3 y4) (spec_l3Sizes.l0 (k + 1) y0 y1 y2 y3 y4))
 | 0 => fun _ _ _ _ _ r h => by simp [spec_l3Sizes.l0] at h
 | k + 1 => by
  have ih0 := spec_l3Sizes.mono_l k
  ·intro y0 y1 y2 y3 y4
   unfold spec_l3Sizes.l0
   repeat' first
   | (with_reducible exact ih0 _ _ _ _ _)
   | (with_reducible exact LeO.refl _)
   | (with_reducible exact LeO.none _)
   | (with_reducible refine LeO.ite ?_ ?_)
   | (with_reducible refine LeO.bind ?_ (fun _ => ?_))
theorem spec_l3Sizes.mono : ∀ a0 k, LeO (spec_l3Sizes.f k a0) (spec_l3Sizes.f (k + 1) a0) := by
 intro a0 k
 have ih0 := spec_l3Sizes.mono_l k
 unfold spec_l3Sizes.f
 repeat' first
   | (with_reducible exact ih0 _ _ _ _ _)
   | (with_reducible exact LeO.refl _)
   | (with_reducible exact LeO.none _)
   | (with_reducible refine LeO.ite ?_ ?_)
   | (with_reducible refine LeO.bind ?_ (fun _ => ?_))
set_option maxHeartbeats 8000000 in
set_option maxRecDepth 100000 in
theorem spec_l3Sizes.calls (k : Nat) (A0 : Option Addr) (c0 : Nat) (l0 : List (S61)) (r1 : Int) (r2 : Int) (w : World) (hr0 : Kd.C k61 w A0 l0.length l0) (hc0 : l0.length ≤ c0) (h : spec_l3Sizes.f k l0 = some (r1, r2)) :
  Calls Try.prog 58 #[.slice A0 l0.length c0] w fun e w' => e = .returned (.tuple #[.int .i64 r1, .int .i64 r2]) ∧ Below w.heap.size w w' := by
 have hu61 := Try.underlying61
 have d9 := aM hr0
 have fq := aM hc0
 clear hr0 hc0
 have HB := aM (Below.refl w.heap.size w)
 have H : (spec_l3Sizes.l0 k 0 0 l0 (l0.length : Int) 0) = some (r1, r2) := h
 clear h
 have H' := aM H
 clear H
 go_enter Try.func58, Try.ntmps58
 go_wp2
 go_loopg [4, 5, 10] k (fun kq v4 v5 v10 w' => ∃ (x4_1 : Int) (x5_1 : Int) (x10_1 : Int), v4 = .int .i64 x4_1 ∧ v5 = .int .i64 x5_1 ∧ v10 = .int .i64 x10_1 ∧ Aside0 (spec_l3Sizes.l0 kq x4_1 x5_1 l0 (l0.length : Int) x10_1 = some (r1, r2)) ∧ Aside0 (kq ≤ k) ∧ Aside0 (Below w.heap.size w w'))
 case atStart => exact ⟨(0), (0), (0), z1, z1, z1, H', ⟨Nat.le_refl _⟩, ⟨y5⟩⟩
 case round =>
  clear H'
  obtain ⟨x4_1, x5_1, x10_1, rfl, rfl, rfl, HA, HK1, HB⟩ := hrel
  cases gk with
  | zero => exact absurd HA.out (by simp [spec_l3Sizes.l0])
  | succ k1 =>
   have H := HA.out
   clear HA
   simp only [spec_l3Sizes.l0] at H
   by_cases c2 : x10_1 < (l0.length : Int)
   ·rw [if_pos c2] at H
    have c2b0 : decide (x10_1 < (l0.length : Int)) = true := dT c2
    clear c2
    by_cases c3 : 0 ≤ x10_1
    ·rw [if_pos c3] at H
     have c3b0 : decide (0 ≤ x10_1) = true := dT c3
     clear c3
     by_cases c4 : x10_1 < (l0.length : Int)
     ·rw [if_pos c4] at H
      have c4b0 : decide (x10_1 < (l0.length : Int)) = true := dT c4
      clear c4
      have H' := aM H
      clear H
      have p386 : 0 ≤ (x10_1 : Int) := oD z2
      have q386 : x10_1 < (l0.length : Int) := oD z2
      obtain ⟨ad386, e386, hx386_0, hx386_1, hx386_2⟩ := at_T61 d9.out x10_1 p386 q386
      cases e386
      replace hx386_0 := (HB.out.cell (World.block_lt_of_cell? w _ hx386_0)).trans hx386_0
      replace hx386_1 := (HB.out.cell (World.block_lt_of_cell? w _ hx386_1)).trans hx386_1
      replace hx386_2 := (HB.out.cell (World.block_lt_of_cell? w _ hx386_2)).trans hx386_2
      replace p386 := eq_true p386
      replace q386 := eq_true q386
      go_wp2_with (first | ((with_reducible refine aw (N := 7) rfl ?_); refine ax ?hg (N := 7) ?hd (cs := #[.int .i64 0, .string ⟨#[]⟩, .string ⟨#[]⟩]) (t := 61) ?hr ?_; (case hd => rfl); (case hg => rfl); (case hr => first | (go_simp; done) | (go_simp; rfl)); intro lH hg w5 hbox hb; have kt := aM (hbox); have GW387 := aM ((by rw [hg]; exact (ap z14) : w.heap.size ≤ lH)); have GE387 := aM ((by rw [hg]; exact (ap z14) : w.heap.size ≤ lH)); replace HB := aM (ao z14 hb); clear hb hbox hg; obtain ⟨fz, fy, fx, gi, fw, fv⟩ := cc3 kt.out))
      go_roundg k1
      case measure => have := HK1.out; omega
      case rel => exact ⟨(wrap64 (x4_1 + (wrap64 (((rd_T61 l0 x10_1).f0) + (((rd_T61 l0 x10_1).f2).size : Int))))), (wrap64 (x5_1 + (wrap64 (((rd_T61 l0 x10_1).f0) + (((rd_T61 l0 x10_1).f1).size : Int))))), (wrap64 (x10_1 + 1)), z1, z1, z1, H', ⟨by have := HK1.out; omega⟩, ⟨by repeat (first | (with_reducible first | exact HB.out | apply bA | apply pD | apply bD | refine am ?_ GE387.out) | exact HB.out)⟩⟩
     ·rw [if_neg c4] at H
      exact absurd H (by simp)
    ·rw [if_neg c3] at H
     exact absurd H (by simp)
   ·rw [if_neg c2] at H
    have c2b0 : decide (x10_1 < (l0.length : Int)) = false := dF c2
    clear c2
    simp only [Option.some.injEq, Prod.mk.injEq] at H
    obtain ⟨rfl, rfl⟩ := H
    go_wp2
    go_ret2
    exact ⟨y4, y5⟩

/-! ### spec_GoodOp: function 38 -/
def spec_GoodOp.l0 : Nat → List (S61) → List (S61) → Int → Int → Option (Bool)
 | 0, _, _, _, _ => none
 | k + 1, x0, x10, x11, x12 => if x12 < x11 then (if 0 ≤ x12 then (if x12 < (x10.length : Int) then ((spec_l3Part.f k ((rd_T61 x10 x12).f0) ((rd_T61 x10 x12).f1) ((rd_T61 x10 x12).f2)).bind fun sU => (if sU = true then (spec_GoodOp.l0 k x0 x10 x11 (wrap64 (x12 + 1))) else (some false))) else (none)) else (none)) else ((spec_l3Sizes.f k x0).bind fun r8 => (if r8.1 ≤ 300 then (some (decide (r8.2 ≤ 300))) else (some false)))
def spec_GoodOp.f (k : Nat) (l0 : List (S61)) : Option (Bool) := if (l0.length : Int) > 60 then (some false) else (spec_GoodOp.l0 k l0 l0 (l0.length : Int) 0)
theorem spec_GoodOp.mono_l : ∀ k, (∀ y0 y1 y2 y3, LeO (spec_GoodOp.l0 k y0 y1 y2 y3) (spec_GoodOp.l0 (k + 1) y0 y1 y2 y3))
 | 0 => fun _ _ _ _ r h => by simp [spec_GoodOp.l0] at h
 | k + 1 => by
  have ih0 := spec_GoodOp.mono_l k
  ·intro y0 y1 y2 y3
   unfold spec_GoodOp.l0
   repeat' first
   | (with_reducible exact ih0 _ _ _ _)
   | (with_reducible exact spec_l3Part.mono _ _ _ _)
   | (with_reducible exact spec_l3Sizes.mono _ _)
   | (with_reducible exact LeO.refl _)
   | (with_reducible exact LeO.none _)
   | (with_reducible refine LeO.ite ?_ ?_)
   | (with_reducible refine LeO.bind ?_ (fun _ => ?_))
theorem spec_GoodOp.mono : ∀ a0 k, LeO (spec_GoodOp.f k a0) (spec_GoodOp.f (k + 1) a0) := by
 intro a0 k
 have ih0 := spec_GoodOp.mono_l k
 unfold spec_GoodOp.f
 repeat' first
   | (with_reducible exact ih0 _ _ _ _)
   | (with_reducible exact spec_l3Part.mono _ _ _ _)
   | (with_reducible exact spec_l3Sizes.mono _ _)
   | (with_reducible exact LeO.refl _)
   | (with_reducible exact LeO.none _)
   | (with_reducible refine LeO.ite ?_ ?_)
   | (with_reducible refine LeO.bind ?_ (fun _ => ?_))
set_option maxHeartbeats 8000000 in
set_option maxRecDepth 100000 in
theorem spec_GoodOp.calls (k : Nat) (A0 : Option Addr) (c0 : Nat) (l0 : List (S61)) (r : Bool) (w : World) (hr0 : Kd.C k61 w A0 l0.length l0) (hc0 : l0.length ≤ c0) (h : spec_GoodOp.f k l0 = some r) :
  Calls Try.prog 38 #[.slice A0 l0.length c0] w fun e w' => e = .returned (.bool r) ∧ Below w.heap.size w w' := by
 have hu61 := Try.underlying61
 have d9 := aM hr0
 have fq := aM hc0
 clear hr0 hc0
 have HB := aM (Below.refl w.heap.size w)
 have H : (if (l0.length : Int) > 60 then (some false) else (spec_GoodOp.l0 k l0 l0 (l0.length : Int) 0)) = some r := h
 clear h
 by_cases c2 : (l0.length : Int) > 60
 ·rw [if_pos c2] at H
  have c2b0 : decide (60 < (l0.length : Int)) = true := dT c2
  have c2b1 : decide (60 < l0.length) = true := dT (by omega)
  clear c2
  obtain rfl := sI H
  go_enter Try.func38, Try.ntmps38
  go_wp2
  go_ret
  exact ⟨y4, y5⟩
 ·rw [if_neg c2] at H
  have c2b0 : decide (60 < (l0.length : Int)) = false := dF c2
  have c2b1 : decide (60 < l0.length) = false := dF (by omega)
  clear c2
  have H' := aM H
  clear H
  go_enter Try.func38, Try.ntmps38
  go_wp2
  go_loopg [12] k (fun kq v12 w' => ∃ (x12_1 : Int), v12 = .int .i64 x12_1 ∧ Aside0 (spec_GoodOp.l0 kq l0 l0 (l0.length : Int) x12_1 = some r) ∧ Aside0 (kq ≤ k) ∧ Aside0 (Below w.heap.size w w'))
  case atStart => exact ⟨(0), z1, H', ⟨Nat.le_refl _⟩, ⟨y5⟩⟩
  case round =>
   clear H'
   try clear c2
   try clear c2b0
   try clear c2b1
   obtain ⟨x12_1, rfl, HA, HK1, HB⟩ := hrel
   cases gk with
   | zero => exact absurd HA.out (by simp [spec_GoodOp.l0])
   | succ k1 =>
    have H := HA.out
    clear HA
    simp only [spec_GoodOp.l0] at H
    by_cases c3 : x12_1 < (l0.length : Int)
    ·rw [if_pos c3] at H
     have c3b0 : decide (x12_1 < (l0.length : Int)) = true := dT c3
     clear c3
     by_cases c4 : 0 ≤ x12_1
     ·rw [if_pos c4] at H
      have c4b0 : decide (0 ≤ x12_1) = true := dT c4
      clear c4
      by_cases c5 : x12_1 < (l0.length : Int)
      ·rw [if_pos c5] at H
       have c5b0 : decide (x12_1 < (l0.length : Int)) = true := dT c5
       clear c5
       obtain ⟨sU, A6, H⟩ := oA_ H
       try dsimp only at H
       by_cases c7 : sU = true
       ·subst c7
        rw [if_pos rfl] at H
        have H' := aM H
        clear H
        have p388 : 0 ≤ (x12_1 : Int) := oD z2
        have q388 : x12_1 < (l0.length : Int) := oD z2
        obtain ⟨ad388, e388, hx388_0, hx388_1, hx388_2⟩ := at_T61 d9.out x12_1 p388 q388
        cases e388
        replace hx388_0 := (HB.out.cell (World.block_lt_of_cell? w _ hx388_0)).trans hx388_0
        replace hx388_1 := (HB.out.cell (World.block_lt_of_cell? w _ hx388_1)).trans hx388_1
        replace hx388_2 := (HB.out.cell (World.block_lt_of_cell? w _ hx388_2)).trans hx388_2
        replace p388 := eq_true p388
        replace q388 := eq_true q388
        go_wp2_with (first | ((with_reducible refine aw (N := 4) rfl ?_); refine ax ?hg (N := 4) ?hd (cs := #[.int .i64 0, .string ⟨#[]⟩, .string ⟨#[]⟩]) (t := 61) ?hr ?_; (case hd => rfl); (case hg => rfl); (case hr => first | (go_simp; done) | (go_simp; rfl)); intro eH hg w8 hbox hb; have dp := aM (hbox); have GW389 := aM ((by rw [hg]; exact (ap z14) : w.heap.size ≤ eH)); have lZ := aM ((by rw [hg]; exact (ap z14) : w.heap.size ≤ eH)); replace HB := aM (ao z14 hb); clear hb hbox hg; obtain ⟨ca, b9, b8, ci, b5, b4⟩ := cc3 dp.out) | ((with_reducible refine av (f := 57) rfl ?_); refine ay (some 17) rfl rfl Try.func57 z0 rfl #[.agg #[.int .i64 ((rd_T61 l0 x12_1).f0), .string ((rd_T61 l0 x12_1).f1), .string ((rd_T61 l0 x12_1).f2)]] rfl z15 ?_; (with_reducible refine (spec_l3Part.calls k1 ((rd_T61 l0 x12_1).f0) ((rd_T61 l0 x12_1).f1) ((rd_T61 l0 x12_1).f2) true _ A6.out).mono ?_); rintro e w10 ⟨rfl, hb⟩; refine ⟨_, rfl, ?_⟩; replace dp := aM (ae (g := eH) (o := .cells #[.int .i64 ((rd_T61 l0 x12_1).f0), .string ((rd_T61 l0 x12_1).f1), .string ((rd_T61 l0 x12_1).f2)] 61 (0, 0)) (by (with_reducible repeat (first | refine aj ?_ _ | refine ai ?_ | refine ak ?_ _)); refine al (cs := #[.int .i64 ((rd_T61 l0 x12_1).f0), .string ((rd_T61 l0 x12_1).f1), .string ⟨#[]⟩]) ?_ 2 _ rfl; (with_reducible repeat (first | refine aj ?_ _ | refine ai ?_ | refine ak ?_ _)); refine al (cs := #[.int .i64 ((rd_T61 l0 x12_1).f0), .string ⟨#[]⟩, .string ⟨#[]⟩]) ?_ 1 _ rfl; (with_reducible repeat (first | refine aj ?_ _ | refine ai ?_ | refine ak ?_ _)); refine al (cs := #[.int .i64 0, .string ⟨#[]⟩, .string ⟨#[]⟩]) ?_ 0 _ rfl; (with_reducible repeat (first | refine aj ?_ _ | refine ai ?_ | refine ak ?_ _)); exact dp.out) hb); replace HB := aM (ao (by repeat (first | (with_reducible first | exact HB.out | apply bA | apply pD | apply bD | refine am ?_ lZ.out) | exact HB.out)) hb); (try clear hb)))
        go_roundg k1
        case measure => have := HK1.out; omega
        case rel => exact ⟨(wrap64 (x12_1 + 1)), z1, H', ⟨by have := HK1.out; omega⟩, ⟨by repeat (first | (with_reducible first | exact HB.out | apply bA | apply pD | apply bD | refine am ?_ lZ.out) | exact HB.out)⟩⟩
       ·replace c7 := Bool.eq_false_iff.mpr c7
        subst c7
        rw [if_neg nF_] at H
        obtain rfl := sI H
        have p388 : 0 ≤ (x12_1 : Int) := oD z2
        have q388 : x12_1 < (l0.length : Int) := oD z2
        obtain ⟨ad388, e388, hx388_0, hx388_1, hx388_2⟩ := at_T61 d9.out x12_1 p388 q388
        cases e388
        replace hx388_0 := (HB.out.cell (World.block_lt_of_cell? w _ hx388_0)).trans hx388_0
        replace hx388_1 := (HB.out.cell (World.block_lt_of_cell? w _ hx388_1)).trans hx388_1
        replace hx388_2 := (HB.out.cell (World.block_lt_of_cell? w _ hx388_2)).trans hx388_2
        replace p388 := eq_true p388
        replace q388 := eq_true q388
        go_wp2_with (first | ((with_reducible refine aw (N := 4) rfl ?_); refine ax ?hg (N := 4) ?hd (cs := #[.int .i64 0, .string ⟨#[]⟩, .string ⟨#[]⟩]) (t := 61) ?hr ?_; (case hd => rfl); (case hg => rfl); (case hr => first | (go_simp; done) | (go_simp; rfl)); intro eH hg w11 hbox hb; have dp := aM (hbox); have GW389 := aM ((by rw [hg]; exact (ap z14) : w.heap.size ≤ eH)); have lZ := aM ((by rw [hg]; exact (ap z14) : w.heap.size ≤ eH)); replace HB := aM (ao z14 hb); clear hb hbox hg; obtain ⟨kV, kU, kT, kK, kJ, kI⟩ := cc3 dp.out) | ((with_reducible refine av (f := 57) rfl ?_); refine ay (some 17) rfl rfl Try.func57 z0 rfl #[.agg #[.int .i64 ((rd_T61 l0 x12_1).f0), .string ((rd_T61 l0 x12_1).f1), .string ((rd_T61 l0 x12_1).f2)]] rfl z15 ?_; (with_reducible refine (spec_l3Part.calls k1 ((rd_T61 l0 x12_1).f0) ((rd_T61 l0 x12_1).f1) ((rd_T61 l0 x12_1).f2) false _ A6.out).mono ?_); rintro e w13 ⟨rfl, hb⟩; refine ⟨_, rfl, ?_⟩; replace dp := aM (ae (g := eH) (o := .cells #[.int .i64 ((rd_T61 l0 x12_1).f0), .string ((rd_T61 l0 x12_1).f1), .string ((rd_T61 l0 x12_1).f2)] 61 (0, 0)) (by (with_reducible repeat (first | refine aj ?_ _ | refine ai ?_ | refine ak ?_ _)); refine al (cs := #[.int .i64 ((rd_T61 l0 x12_1).f0), .string ((rd_T61 l0 x12_1).f1), .string ⟨#[]⟩]) ?_ 2 _ rfl; (with_reducible repeat (first | refine aj ?_ _ | refine ai ?_ | refine ak ?_ _)); refine al (cs := #[.int .i64 ((rd_T61 l0 x12_1).f0), .string ⟨#[]⟩, .string ⟨#[]⟩]) ?_ 1 _ rfl; (with_reducible repeat (first | refine aj ?_ _ | refine ai ?_ | refine ak ?_ _)); refine al (cs := #[.int .i64 0, .string ⟨#[]⟩, .string ⟨#[]⟩]) ?_ 0 _ rfl; (with_reducible repeat (first | refine aj ?_ _ | refine ai ?_ | refine ak ?_ _)); exact dp.out) hb); replace HB := aM (ao (by repeat (first | (with_reducible first | exact HB.out | apply bA | apply pD | apply bD | refine am ?_ lZ.out) | exact HB.out)) hb); (try clear hb)))
        go_ret
        exact ⟨y4, by repeat (first | (with_reducible first | exact HB.out | apply bA | apply pD | apply bD | refine am ?_ lZ.out) | exact HB.out)⟩
      ·rw [if_neg c5] at H
       exact absurd H (by simp)
     ·rw [if_neg c4] at H
      exact absurd H (by simp)
    ·rw [if_neg c3] at H
     have c3b0 : decide (x12_1 < (l0.length : Int)) = false := dF c3
     clear c3
     obtain ⟨⟨pK, uJ⟩, k7, H⟩ := oA_ H
     try dsimp only at H
     by_cases cF : pK ≤ 300
     ·rw [if_pos cF] at H
      have c15b0 : decide (pK ≤ 300) = true := dT cF
      clear cF
      obtain rfl := sI H
      go_wp2_with (first | ((with_reducible refine av (f := 58) rfl ?_); refine ay (some 22) rfl rfl Try.func58 z0 rfl #[.slice A0 l0.length c0] rfl z15 ?_; (with_reducible refine (spec_l3Sizes.calls k1 _ _ l0 pK uJ _ ?side1 ?side2 k7.out).mono ?_); (case side1 => exact y51); (case side2 => exact fq.out); rintro e w16 ⟨rfl, hb⟩; refine ⟨_, rfl, ?_⟩; replace HB := aM (ao z14 hb); (try clear hb)))
      go_ret
      exact ⟨y4, y5⟩
     ·rw [if_neg cF] at H
      have c15b0 : decide (pK ≤ 300) = false := dF cF
      clear cF
      obtain rfl := sI H
      go_wp2_with (first | ((with_reducible refine av (f := 58) rfl ?_); refine ay (some 22) rfl rfl Try.func58 z0 rfl #[.slice A0 l0.length c0] rfl z15 ?_; (with_reducible refine (spec_l3Sizes.calls k1 _ _ l0 pK uJ _ ?side1 ?side2 k7.out).mono ?_); (case side1 => exact y51); (case side2 => exact fq.out); rintro e w17 ⟨rfl, hb⟩; refine ⟨_, rfl, ?_⟩; replace HB := aM (ao z14 hb); (try clear hb)))
      go_ret
      exact ⟨y4, y5⟩

end Go.Proofs.Ytmigfgcpdelnfaa.AFnCommands
