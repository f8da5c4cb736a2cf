-- this session's own text: written by wip/tools/ownprint.py over the kit's print
import Derived.Test.YtblnnbaeiggmoaaAFnSplitx0
import Derived.Test.YtblnnbaeiggmoaaAFnSplitx5
import Derived.Test.YtblnnbaeiggmoaaAFnSplitx7
import Derived.Test.YtblnnbaeiggmoaaAFnSplitx8
import Derived.Test.YtblnnbaeiggmoaaAFnSplitx9
import Derived.Test.YtblnnbaeiggmoaaAFnSplitx10
import Derived.Test.YtblnnbaeiggmoaaAFnSplitx13
import Derived.Test.YtblnnbaeiggmoaaAFnSplitx14
namespace Go.Proofs.Ytblnnbaeiggmoaa.AFnSplit
open Go.RowKit Go.Proofs.YtblnnbaeiggmoaaW.PrintWords Go.Proofs.YtblnnbaeiggmoaaW.PrintLast Go.Proofs.YtblnnbaeiggmoaaW.PrintMore
attribute [local go_sem] max2_int min2_int max_two min_two max_three min_three max_four min_four   -- for this text's walks alone
set_option linter.unusedVariables false
set_option linter.unusedSimpArgs false

/-! ### spec_DrawByteAt: function 48 -/
def spec_DrawByteAt.f (k : Nat) (l0 : List Int) : Option ((List (S101)) × Int) := (spec_l1Cur_rope.f k l0 0 0).bind fun gO => ((spec_l12Size.f gO.1).bind fun jR => (if jR < 0 then ((spec_l1Cur_pick.f l0 gO.2.1 gO.2.2 (0 + 3)).bind fun q6 => (some (gO.1, wrap64 (q6.1 - 1)))) else ((spec_l1Cur_pick.f l0 gO.2.1 gO.2.2 (wrap64 (jR + 3))).bind fun q3 => (some (gO.1, wrap64 (q3.1 - 1))))))
theorem spec_DrawByteAt.mono : ∀ a0 k, LeO (spec_DrawByteAt.f k a0) (spec_DrawByteAt.f (k + 1) a0) := by
 intro a0 k
 unfold spec_DrawByteAt.f
 repeat' first
   | (with_reducible exact spec_l1Cur_rope.mono _ _ _ _)
   | (with_reducible exact LeO.refl _)
   | (with_reducible exact LeO.none _)
   | (with_reducible refine LeO.ite ?_ ?_)
   | (with_reducible refine LeO.bind ?_ (fun _ => ?_))
def spec_DrawByteAt.T6 : Bool × List (List Nat × List Nat) := (true, [([], []), ([], []), ([], []), ([2], [2]), ([1, 3], [1, 3]), ([4], [4]), ([0, 4, 0], [0]), ([5, 6, 0, 1, 2, 3, 4, 5, 6], [5])])
def spec_DrawByteAt.B6 : List Nat := [0, 0, 0, 4, 14, 30, 31, 127]
theorem spec_DrawByteAt.tab6 : rtab .any (opsOf Try.f48 6) = spec_DrawByteAt.T6 := by kernel_rfl
theorem spec_DrawByteAt.bits6 : waitsOk spec_DrawByteAt.T6.2 spec_DrawByteAt.B6 = true := by kernel_rfl
set_option maxHeartbeats 8000000 in
set_option maxRecDepth 100000 in
theorem spec_DrawByteAt.calls (k : Nat) (A0 : Option Addr) (c0 : Nat) (l0 : List Int) (r1 : List (S101)) (r2 : Int) (w : World) (hr0 : Kd.C (Kd.int .u8) w A0 l0.length l0) (hc0 : l0.length ≤ c0) (h : spec_DrawByteAt.f k l0 = some (r1, r2)) :
  Calls Try.prog 48 #[.slice A0 l0.length c0] w fun e w' => ∃ v0_ : Value, e = .returned (.tuple #[.agg #[v0_], .int .i64 r2]) ∧ Kd.R k101 101 w' w.heap.size (fun _ => True) v0_ r1 ∧ Below w.heap.size w w' := by
 have hu30 := Try.underlying30
 have hu90 := Try.underlying90
 have dY := aM hr0
 have en := aM hc0
 clear hr0 hc0
 have HB := aM (Below.refl w.heap.size w)
 have H : ((spec_l1Cur_rope.f k l0 0 0).bind fun gO => ((spec_l12Size.f gO.1).bind fun jR => (if jR < 0 then ((spec_l1Cur_pick.f l0 gO.2.1 gO.2.2 (0 + 3)).bind fun q6 => (some (gO.1, wrap64 (q6.1 - 1)))) else ((spec_l1Cur_pick.f l0 gO.2.1 gO.2.2 (wrap64 (jR + 3))).bind fun q3 => (some (gO.1, wrap64 (q3.1 - 1))))))) = some (r1, r2) := h
 clear h
 obtain ⟨⟨ek, jj, ji⟩, A2, H⟩ := oA_ H
 try dsimp only at H
 obtain ⟨jR, A3, H⟩ := oA_ H
 try dsimp only at H
 by_cases c4 : jR < 0
 ·rw [if_pos c4] at H
  have c4b0 : decide (jR < 0) = true := dT c4
  clear c4
  obtain ⟨⟨t388, t389, t390⟩, A5, H⟩ := oA_ H
  try dsimp only at H
  simp only [Option.some.injEq, Prod.mk.injEq] at H
  obtain ⟨rfl, rfl⟩ := H
  go_enter Try.func48, Try.ntmps48
  try go_wp2_with (first | ((with_reducible refine aN (N := 2) rfl ?_); refine aQ ?hg (N := 2) ?hd (cs := #[.slice none 0 0]) (t := 30) ?hr ?_; (case hd => rfl); (case hg => rfl); (case hr => first | (go_simp; done) | (go_simp; rfl)); intro dh hg w6 hbox hb; have df := aM (hbox); have GW379 := aM ((by rw [hg]; exact (aC z32) : w.heap.size ≤ dh)); have ii := aM ((by rw [hg]; exact (aC z32) : w.heap.size ≤ dh)); replace HB := aM (aA z32 hb); clear hb hbox hg) | ((with_reducible refine aN (N := 9) rfl ?_); refine aQ ?hg (N := 9) ?hd (cs := #[.slice A0 l0.length c0, .int .i64 0, .int .u64 0]) (t := 90) ?hr ?_; (case hd => rfl); (case hg => rfl); (case hr => first | (go_simp; done) | (go_simp; rfl)); intro eb hg w7 hbox hb; have lS := aM (hbox); have GW380 := aM ((by rw [hg]; exact (aC (by repeat (first | (with_reducible first | exact HB.out | apply bA | apply pD | apply bD | refine az ?_ ii.out) | exact HB.out))) : w.heap.size ≤ eb)); have rn := aM ((by rw [hg]; exact (aC (by repeat (first | (with_reducible first | exact HB.out | apply bA | apply pD | apply bD | refine az ?_ ii.out) | exact HB.out))) : w.heap.size ≤ eb)); replace HB := aM (aA (by repeat (first | (with_reducible first | exact HB.out | apply bA | apply pD | apply bD | refine az ?_ ii.out) | exact HB.out)) hb); have hX := aM ((by rw [hg]; exact aD (ay (g := dh) (o := .cells #[.slice none 0 0] 30 (0, 0)) z23) : dh ≠ eb)); have dH := aM ((by rw [hg]; exact aE (ay (g := dh) (o := .cells #[.slice none 0 0] 30 (0, 0)) z23) : eb ≠ dh)); replace df := aM (bK_ df.out hb); clear hb hbox hg) | ((with_reducible refine aK (f := 51) rfl ?_); refine aT (some 11) rfl rfl Try.func51 z1 rfl #[.pointer (some ⟨eb, 0, none⟩)] rfl z33 ?_; (with_reducible refine (spec_l1Cur_rope.calls k eb l0 0 0 ek jj ji w _ ?side1 ?side2 A2.out).mono ?_); (case side1 => exact ⟨_, _, by (with_reducible repeat (first | refine au ?_ _ | refine ar ?_ | refine av ?_ _)); exact lS.out, rn.out, dY.out⟩); (case side2 => exact y41); rintro e w8 ⟨v382, rfl, ho0, hi, hb, hk⟩; refine ⟨_, rfl, ?_⟩; replace df := aM (KeepBut.blk hk (g' := dh) (o := .cells #[.slice none 0 0] 30 (0, 0)) z23 hX.out (by simp)); have dk := aM (aW ho0 (aC z43)); replace HB := aM (hb); have HI380 := aM (hi); (try clear hb); (try clear hk); (try clear hi); (try clear ho0); (try clear lS)) | ((with_reducible refine aN (N := 5) rfl ?_); refine aQ ?hg (N := 5) ?hd (cs := #[.slice none 0 0]) (t := 30) ?hr ?_; (case hd => rfl); (case hg => rfl); (case hr => first | (go_simp; done) | (go_simp; rfl)); intro dq hg w9 hbox hb; replace dk := aM (ag (kR_ dk.out) hb); have dt := aM (hbox); have GW386 := aM ((by rw [hg]; exact (aC z43) : w.heap.size ≤ dq)); have ob := aM ((by rw [hg]; exact (aC z43) : w.heap.size ≤ dq)); replace HB := aM (aA z43 hb); have gq := aM ((by rw [hg]; exact aD (ay (g := dh) (o := .cells #[.slice none 0 0] 30 (0, 0)) z23) : dh ≠ dq)); have gp := aM ((by rw [hg]; exact aE (ay (g := dh) (o := .cells #[.slice none 0 0] 30 (0, 0)) z23) : dq ≠ dh)); replace df := aM (bK_ df.out hb); have fj := aM ((by rw [hg]; exact aD (IsS90.lt (show IsS90 w _ eb l0 jj ji from by (try simp only [Int.add_zero]); repeat (first | (with_reducible first | exact HI380.out | apply IsS90.alloc | apply IsS90.drewN | apply IsS90.drew | apply IsS90.set_1 | apply IsS90.set_2 | refine IsS90.far ?_ dH.out _) | exact HI380.out))) : eb ≠ dq)); have hV := aM ((by rw [hg]; exact aE (IsS90.lt (show IsS90 w _ eb l0 jj ji from by (try simp only [Int.add_zero]); repeat (first | (with_reducible first | exact HI380.out | apply IsS90.alloc | apply IsS90.drewN | apply IsS90.drew | apply IsS90.set_1 | apply IsS90.set_2 | refine IsS90.far ?_ dH.out _) | exact HI380.out))) : dq ≠ eb)); replace HI380 := aM (IsS90.below (by (try simp only [Int.add_zero]); repeat (first | (with_reducible first | exact HI380.out | apply IsS90.alloc | apply IsS90.drewN | apply IsS90.drew | apply IsS90.set_1 | apply IsS90.set_2 | refine IsS90.far ?_ dH.out _) | exact HI380.out)) hb); clear hb hbox hg; obtain ⟨fv, eC, eo10⟩ := Kd.R_slice dk.out; subst eo10; have hnb11 := gp.out; have hnc11 := gq.out; have hnb12 := hV.out; have hnc12 := fj.out; obtain ⟨pK, pa⟩ := cc1 dt.out) | ((with_reducible refine aK (f := 50) rfl ?_); refine aT (some 14) rfl rfl Try.func50 z1 rfl #[.slice fv ek.length eC] rfl z33 ?_; (with_reducible refine (spec_l12Size.calls _ _ ek jR _ ?side1 ?side2 A3.out).mono ?_); (case side1 => refine (ai (e := 101) (base := w.heap.size) (ok := fun k_ => True) (n := ek.length) (c := eC) ?_).2.2; exact (by (with_reducible repeat (first | apply ae | apply ac | apply aa)); exact (ah (ap (p := ⟨dq, 0, none⟩) (aq dk.out dt.out z0) (fun _ hk => hk.2) (.slice fv ek.length eC)) (fun _ h_ => h_.1)))); (case side2 => exact (ai dk.out).2.1); rintro e w' ⟨rfl, ⟨nd, rfl⟩⟩; refine ⟨_, rfl, ?_⟩))
  have bb : Aside0 (Kd.R k101 101 (w9.setCell ⟨dq, 0, none⟩ (.slice fv ek.length eC)) w.heap.size (fun _ => True) (.slice fv ek.length eC) ek) := ⟨by (with_reducible repeat (first | apply ae | apply ac | apply aa)); exact ah (ap (p := ⟨dq, 0, none⟩) (aq dk.out dt.out z0) (fun _ hk => hk.2) (.slice fv ek.length eC)) (fun _ hk => trivial)⟩
  have bc : Aside0 ((w9.setCell ⟨dq, 0, none⟩ (.slice fv ek.length eC)).heap[dh]? = some (.cells #[.slice none 0 0] 30 (0, 0))) := ⟨by (with_reducible repeat (first | refine au ?_ _ | refine ar ?_ | refine av ?_ _)); refine aw ?_ gq.out _; (with_reducible repeat (first | refine au ?_ _ | refine ar ?_ | refine av ?_ _)); exact df.out⟩
  have bd : Aside0 ((w9.setCell ⟨dq, 0, none⟩ (.slice fv ek.length eC)).heap[dq]? = some (.cells #[.slice fv ek.length eC] 30 (0, 0))) := ⟨by (with_reducible repeat (first | refine au ?_ _ | refine ar ?_ | refine av ?_ _)); refine ax (cs := #[.slice none 0 0]) ?_ 0 _ rfl; (with_reducible repeat (first | refine au ?_ _ | refine ar ?_ | refine av ?_ _)); exact dt.out⟩
  have bk : Aside0 (IsS90 w (w9.setCell ⟨dq, 0, none⟩ (.slice fv ek.length eC)) eb l0 jj ji) := ⟨by (try simp only [Int.add_zero]); repeat (first | (with_reducible first | exact HI380.out | apply IsS90.alloc | apply IsS90.drewN | apply IsS90.drew | apply IsS90.set_1 | apply IsS90.set_2 | refine IsS90.far ?_ dH.out _ | refine IsS90.far ?_ fj.out _) | exact HI380.out)⟩
  have bJ : Aside0 (Below w.heap.size w (w9.setCell ⟨dq, 0, none⟩ (.slice fv ek.length eC))) := ⟨y21⟩
  (try clear dk)
  (try clear df)
  (try clear dt)
  (try clear HI380)
  (try clear HB)
  generalize (w9.setCell ⟨dq, 0, none⟩ (.slice fv ek.length eC)) = w14 at bb bc bd bk bJ ⊢
  have dk := bb
  have df := bc
  have dt := bd
  have HI380 := bk
  have HB := bJ
  clear bb bc bd bk bJ
  (try (rw [drewN_self w14]; generalize hq_ : World.drewN w14 _ = w14; have bb : Aside0 (Kd.R k101 101 w14 w.heap.size (fun _ => True) (.slice fv ek.length eC) ek) := ⟨by rw [← hq_]; exact (kR_ dk.out)⟩; have bc : Aside0 (w14.heap[dh]? = some (.cells #[.slice none 0 0] 30 (0, 0))) := ⟨by rw [← hq_]; exact z23⟩; have bd : Aside0 (w14.heap[dq]? = some (.cells #[.slice fv ek.length eC] 30 (0, 0))) := ⟨by rw [← hq_]; exact (kB_ dt.out)⟩; have bk : Aside0 (IsS90 w w14 eb l0 jj ji) := ⟨by rw [← hq_]; exact (by (try simp only [Int.add_zero]); repeat (first | (with_reducible first | exact HI380.out | apply IsS90.alloc | apply IsS90.drewN | apply IsS90.drew | apply IsS90.set_1 | apply IsS90.set_2 | refine IsS90.far ?_ dH.out _ | refine IsS90.far ?_ fj.out _) | exact HI380.out))⟩; have bJ : Aside0 (Below w.heap.size w w14) := ⟨by rw [← hq_]; exact (by repeat (first | (with_reducible first | exact HB.out | apply bA | apply pD | apply bD | refine az ?_ (IsS90.ge HI380.out) | refine az ?_ ii.out | refine az ?_ ob.out) | exact HB.out))⟩; clear dk df dt HI380 HB hq_; have dk := bb; have df := bc; have dt := bd; have HI380 := bk; have HB := bJ; clear bb bc bd bk bJ))
  replace dk := aM (aa dk.out)
  replace df := aM (ar df.out)
  replace dt := aM (ar dt.out)
  replace HI380 := aM (IsS90.drew HI380.out)
  replace HB := aM (bD HB.out)
  refine start_ (n := 8) (S := fun w' => w'.cell? ⟨dq, 0, none⟩ = some (.slice fv ek.length eC)) (ds := []) #[false, false, false, false, false, false, false, false] z1 rfl rfl ((bC dt.out 0).trans rfl) (fun hHeld => ?_); refine with_tabW spec_DrawByteAt.tab6 spec_DrawByteAt.bits6 (fun HT_ HW_ => ?_)
  generalize w14.drew = w15 at dk df dt HI380 HB hHeld ⊢
  refine pA 1 18 ?_
  refine pA 2 19 ?_
  refine pA 3 20 ?_
  refine tA 0 17 ?_ (hy := by intro w' s0; go_simp; with_reducible rfl)
  refine one_ (i := 4) (N := some 21) #[true, true, true, true, true, false, false, false] rfl rfl (one_of HT_.out z1) z0 (fun K hK => ?_)
  refine goes_ Try.func66 z1 rfl #[.pointer (some ⟨eb, 0, none⟩), .int .i64 (0 + 3)] (by rfl) rfl rfl (by (try simp only [List.map_toArray, List.map_cons, List.map_nil]); simp [Act.eval, wrap64]; done) ?_
  with_reducible refine (spec_l1Cur_pick.calls eb l0 jj ji (0 + 3) t388 t389 t390 w _ ?side1 ?side2 A5.out).mono ?_
  (case side1 => exact y48)
  (case side2 => exact y44)
  rintro e w16 ⟨rfl, hi, hb, hk⟩
  refine ⟨_, rfl, ?_⟩
  replace df := aM (KeepBut.blk hk (g' := dh) (o := .cells #[.slice none 0 0] 30 (0, 0)) z23 hX.out (by simp))
  replace dk := aM (ah (Kd.R_keep (IsS90.apart (show IsS90 w _ eb l0 jj ji from by (try simp only [Int.add_zero]); repeat (first | (with_reducible first | exact HI380.out | apply IsS90.alloc | apply IsS90.drewN | apply IsS90.drew | apply IsS90.set_1 | apply IsS90.set_2 | refine IsS90.far ?_ dH.out _ | refine IsS90.far ?_ fj.out _) | exact HI380.out)) (kR_ dk.out) z0) hk (fun _ h => h.2)) (fun _ h => h.1))
  replace dt := aM (KeepBut.blk hk (g' := dq) (o := .cells #[.slice fv ek.length eC] 30 (0, 0)) (kB_ dt.out) hV.out (by simp))
  replace HB := aM (hb)
  replace HI380 := aM (hi)
  (try clear hb)
  skip
  (try clear hk)
  (try clear hi)
  (try clear lS)
  refine hK.out _ _ ((bC dt.out 0).trans rfl) (fun hHeld => ?_)
  clear hK K
  refine norm_ (a' := ?_) ?_ ?_
  rotate_left
  ·show Act.put _ (some 21) _ = _
   simp only [Act.put, sA, sB, sC, i64_w, i32_w]
   rfl
  refine pA 5 22 ?_
  refine one_ (i := 6) (N := none) #[true, true, true, true, true, true, true, false] rfl rfl (one_of HT_.out z1) z0 (fun K hK => ?_)
  obtain ⟨hs17, hfs17⟩ := cc1 df.out
  have hns17_1 := gp.out
  have hms17_1 := gq.out
  refine skip_ (w1 := ?_) (by rfl) rfl ?_ ?_
  rotate_left
  ·go_simp
   rfl
  refine hK.out _ _ (((cell_far (p := ⟨dh, _, none⟩) gp.out _).trans (hHeld))) (fun hHeld => ?_)
  clear hK K
  refine pA 7 3 ?_
  refine done_ (done_of HT_.out z1) ?_
  try go_wp2
  refine aU (aV rfl _ _ dh 30 #[.slice fv ek.length eC] (0, 0) _ rfl (by (with_reducible repeat (first | refine au ?_ _ | refine ar ?_ | refine av ?_ _)); refine ax (cs := #[.slice none 0 0]) ?_ 0 _ rfl; (with_reducible repeat (first | refine au ?_ _ | refine ar ?_ | refine av ?_ _)); exact df.out) Try.underlying30 rfl z1) rfl ?_
  exact ⟨_, y4, by (with_reducible repeat (first | apply ae | apply ac | apply aa)); exact ah (ap (p := ⟨dh, 0, none⟩) (aq dk.out df.out z0) (fun _ hk => hk.2) (.slice fv ek.length eC)) (fun _ hk => trivial), y21⟩
 ·rw [if_neg c4] at H
  have c4b0 : decide (jR < 0) = false := dF c4
  clear c4
  obtain ⟨⟨t391, t392, t393⟩, tX, H⟩ := oA_ H
  try dsimp only at H
  simp only [Option.some.injEq, Prod.mk.injEq] at H
  obtain ⟨rfl, rfl⟩ := H
  go_enter Try.func48, Try.ntmps48
  try go_wp2_with (first | ((with_reducible refine aN (N := 2) rfl ?_); refine aQ ?hg (N := 2) ?hd (cs := #[.slice none 0 0]) (t := 30) ?hr ?_; (case hd => rfl); (case hg => rfl); (case hr => first | (go_simp; done) | (go_simp; rfl)); intro dh hg w19 hbox hb; have df := aM (hbox); have GW379 := aM ((by rw [hg]; exact (aC z32) : w.heap.size ≤ dh)); have ii := aM ((by rw [hg]; exact (aC z32) : w.heap.size ≤ dh)); replace HB := aM (aA z32 hb); clear hb hbox hg) | ((with_reducible refine aN (N := 9) rfl ?_); refine aQ ?hg (N := 9) ?hd (cs := #[.slice A0 l0.length c0, .int .i64 0, .int .u64 0]) (t := 90) ?hr ?_; (case hd => rfl); (case hg => rfl); (case hr => first | (go_simp; done) | (go_simp; rfl)); intro eb hg w20 hbox hb; have lS := aM (hbox); have GW380 := aM ((by rw [hg]; exact (aC (by repeat (first | (with_reducible first | exact HB.out | apply bA | apply pD | apply bD | refine az ?_ ii.out) | exact HB.out))) : w.heap.size ≤ eb)); have rn := aM ((by rw [hg]; exact (aC (by repeat (first | (with_reducible first | exact HB.out | apply bA | apply pD | apply bD | refine az ?_ ii.out) | exact HB.out))) : w.heap.size ≤ eb)); replace HB := aM (aA (by repeat (first | (with_reducible first | exact HB.out | apply bA | apply pD | apply bD | refine az ?_ ii.out) | exact HB.out)) hb); have hX := aM ((by rw [hg]; exact aD (ay (g := dh) (o := .cells #[.slice none 0 0] 30 (0, 0)) z23) : dh ≠ eb)); have dH := aM ((by rw [hg]; exact aE (ay (g := dh) (o := .cells #[.slice none 0 0] 30 (0, 0)) z23) : eb ≠ dh)); replace df := aM (bK_ df.out hb); clear hb hbox hg) | ((with_reducible refine aK (f := 51) rfl ?_); refine aT (some 11) rfl rfl Try.func51 z1 rfl #[.pointer (some ⟨eb, 0, none⟩)] rfl z33 ?_; (with_reducible refine (spec_l1Cur_rope.calls k eb l0 0 0 ek jj ji w _ ?side1 ?side2 A2.out).mono ?_); (case side1 => exact ⟨_, _, by (with_reducible repeat (first | refine au ?_ _ | refine ar ?_ | refine av ?_ _)); exact lS.out, rn.out, dY.out⟩); (case side2 => exact y41); rintro e w21 ⟨v382, rfl, ho0, hi, hb, hk⟩; refine ⟨_, rfl, ?_⟩; replace df := aM (KeepBut.blk hk (g' := dh) (o := .cells #[.slice none 0 0] 30 (0, 0)) z23 hX.out (by simp)); have dk := aM (aW ho0 (aC z43)); replace HB := aM (hb); have HI380 := aM (hi); (try clear hb); (try clear hk); (try clear hi); (try clear ho0); (try clear lS)) | ((with_reducible refine aN (N := 5) rfl ?_); refine aQ ?hg (N := 5) ?hd (cs := #[.slice none 0 0]) (t := 30) ?hr ?_; (case hd => rfl); (case hg => rfl); (case hr => first | (go_simp; done) | (go_simp; rfl)); intro dq hg w22 hbox hb; replace dk := aM (ag (kR_ dk.out) hb); have dt := aM (hbox); have GW386 := aM ((by rw [hg]; exact (aC z43) : w.heap.size ≤ dq)); have ob := aM ((by rw [hg]; exact (aC z43) : w.heap.size ≤ dq)); replace HB := aM (aA z43 hb); have gq := aM ((by rw [hg]; exact aD (ay (g := dh) (o := .cells #[.slice none 0 0] 30 (0, 0)) z23) : dh ≠ dq)); have gp := aM ((by rw [hg]; exact aE (ay (g := dh) (o := .cells #[.slice none 0 0] 30 (0, 0)) z23) : dq ≠ dh)); replace df := aM (bK_ df.out hb); have fj := aM ((by rw [hg]; exact aD (IsS90.lt (show IsS90 w _ eb l0 jj ji from by (try simp only [Int.add_zero]); repeat (first | (with_reducible first | exact HI380.out | apply IsS90.alloc | apply IsS90.drewN | apply IsS90.drew | apply IsS90.set_1 | apply IsS90.set_2 | refine IsS90.far ?_ dH.out _) | exact HI380.out))) : eb ≠ dq)); have hV := aM ((by rw [hg]; exact aE (IsS90.lt (show IsS90 w _ eb l0 jj ji from by (try simp only [Int.add_zero]); repeat (first | (with_reducible first | exact HI380.out | apply IsS90.alloc | apply IsS90.drewN | apply IsS90.drew | apply IsS90.set_1 | apply IsS90.set_2 | refine IsS90.far ?_ dH.out _) | exact HI380.out))) : dq ≠ eb)); replace HI380 := aM (IsS90.below (by (try simp only [Int.add_zero]); repeat (first | (with_reducible first | exact HI380.out | apply IsS90.alloc | apply IsS90.drewN | apply IsS90.drew | apply IsS90.set_1 | apply IsS90.set_2 | refine IsS90.far ?_ dH.out _) | exact HI380.out)) hb); clear hb hbox hg; obtain ⟨iO, iw, eo23⟩ := Kd.R_slice dk.out; subst eo23; have hnb24 := gp.out; have hnc24 := gq.out; have hnb25 := hV.out; have hnc25 := fj.out; obtain ⟨kv, ki⟩ := cc1 dt.out) | ((with_reducible refine aK (f := 50) rfl ?_); refine aT (some 14) rfl rfl Try.func50 z1 rfl #[.slice iO ek.length iw] rfl z33 ?_; (with_reducible refine (spec_l12Size.calls _ _ ek jR _ ?side1 ?side2 A3.out).mono ?_); (case side1 => refine (ai (e := 101) (base := w.heap.size) (ok := fun k_ => True) (n := ek.length) (c := iw) ?_).2.2; exact (by (with_reducible repeat (first | apply ae | apply ac | apply aa)); exact (ah (ap (p := ⟨dq, 0, none⟩) (aq dk.out dt.out z0) (fun _ hk => hk.2) (.slice iO ek.length iw)) (fun _ h_ => h_.1)))); (case side2 => exact (ai dk.out).2.1); rintro e w' ⟨rfl, ⟨nd, rfl⟩⟩; refine ⟨_, rfl, ?_⟩))
  have bb : Aside0 (Kd.R k101 101 (w22.setCell ⟨dq, 0, none⟩ (.slice iO ek.length iw)) w.heap.size (fun _ => True) (.slice iO ek.length iw) ek) := ⟨by (with_reducible repeat (first | apply ae | apply ac | apply aa)); exact ah (ap (p := ⟨dq, 0, none⟩) (aq dk.out dt.out z0) (fun _ hk => hk.2) (.slice iO ek.length iw)) (fun _ hk => trivial)⟩
  have bc : Aside0 ((w22.setCell ⟨dq, 0, none⟩ (.slice iO ek.length iw)).heap[dh]? = some (.cells #[.slice none 0 0] 30 (0, 0))) := ⟨by (with_reducible repeat (first | refine au ?_ _ | refine ar ?_ | refine av ?_ _)); refine aw ?_ gq.out _; (with_reducible repeat (first | refine au ?_ _ | refine ar ?_ | refine av ?_ _)); exact df.out⟩
  have bd : Aside0 ((w22.setCell ⟨dq, 0, none⟩ (.slice iO ek.length iw)).heap[dq]? = some (.cells #[.slice iO ek.length iw] 30 (0, 0))) := ⟨by (with_reducible repeat (first | refine au ?_ _ | refine ar ?_ | refine av ?_ _)); refine ax (cs := #[.slice none 0 0]) ?_ 0 _ rfl; (with_reducible repeat (first | refine au ?_ _ | refine ar ?_ | refine av ?_ _)); exact dt.out⟩
  have bk : Aside0 (IsS90 w (w22.setCell ⟨dq, 0, none⟩ (.slice iO ek.length iw)) eb l0 jj ji) := ⟨by (try simp only [Int.add_zero]); repeat (first | (with_reducible first | exact HI380.out | apply IsS90.alloc | apply IsS90.drewN | apply IsS90.drew | apply IsS90.set_1 | apply IsS90.set_2 | refine IsS90.far ?_ dH.out _ | refine IsS90.far ?_ fj.out _) | exact HI380.out)⟩
  have bJ : Aside0 (Below w.heap.size w (w22.setCell ⟨dq, 0, none⟩ (.slice iO ek.length iw))) := ⟨y21⟩
  (try clear dk)
  (try clear df)
  (try clear dt)
  (try clear HI380)
  (try clear HB)
  generalize (w22.setCell ⟨dq, 0, none⟩ (.slice iO ek.length iw)) = w27 at bb bc bd bk bJ ⊢
  have dk := bb
  have df := bc
  have dt := bd
  have HI380 := bk
  have HB := bJ
  clear bb bc bd bk bJ
  (try (rw [drewN_self w27]; generalize hq_ : World.drewN w27 _ = w27; have bb : Aside0 (Kd.R k101 101 w27 w.heap.size (fun _ => True) (.slice iO ek.length iw) ek) := ⟨by rw [← hq_]; exact (kR_ dk.out)⟩; have bc : Aside0 (w27.heap[dh]? = some (.cells #[.slice none 0 0] 30 (0, 0))) := ⟨by rw [← hq_]; exact z23⟩; have bd : Aside0 (w27.heap[dq]? = some (.cells #[.slice iO ek.length iw] 30 (0, 0))) := ⟨by rw [← hq_]; exact (kB_ dt.out)⟩; have bk : Aside0 (IsS90 w w27 eb l0 jj ji) := ⟨by rw [← hq_]; exact (by (try simp only [Int.add_zero]); repeat (first | (with_reducible first | exact HI380.out | apply IsS90.alloc | apply IsS90.drewN | apply IsS90.drew | apply IsS90.set_1 | apply IsS90.set_2 | refine IsS90.far ?_ dH.out _ | refine IsS90.far ?_ fj.out _) | exact HI380.out))⟩; have bJ : Aside0 (Below w.heap.size w w27) := ⟨by rw [← hq_]; exact (by repeat (first | (with_reducible first | exact HB.out | apply bA | apply pD | apply bD | refine az ?_ (IsS90.ge HI380.out) | refine az ?_ ii.out | refine az ?_ ob.out) | exact HB.out))⟩; clear dk df dt HI380 HB hq_; have dk := bb; have df := bc; have dt := bd; have HI380 := bk; have HB := bJ; clear bb bc bd bk bJ))
  replace dk := aM (aa dk.out)
  replace df := aM (ar df.out)
  replace dt := aM (ar dt.out)
  replace HI380 := aM (IsS90.drew HI380.out)
  replace HB := aM (bD HB.out)
  refine start_ (n := 8) (S := fun w' => w'.cell? ⟨dq, 0, none⟩ = some (.slice iO ek.length iw)) (ds := []) #[false, false, false, false, false, false, false, false] z1 rfl rfl ((bC dt.out 0).trans rfl) (fun hHeld => ?_); refine with_tabW spec_DrawByteAt.tab6 spec_DrawByteAt.bits6 (fun HT_ HW_ => ?_)
  generalize w27.drew = w28 at dk df dt HI380 HB hHeld ⊢
  refine pA 1 18 ?_
  refine pA 2 19 ?_
  refine pA 3 20 ?_
  refine tA 0 17 ?_ (hy := by intro w' s0; go_simp; with_reducible rfl)
  refine one_ (i := 4) (N := some 21) #[true, true, true, true, true, false, false, false] rfl rfl (one_of HT_.out z1) z0 (fun K hK => ?_)
  refine goes_ Try.func66 z1 rfl #[.pointer (some ⟨eb, 0, none⟩), .int .i64 (wrap64 (jR + 3))] (by rfl) rfl rfl z33 ?_
  with_reducible refine (spec_l1Cur_pick.calls eb l0 jj ji (wrap64 (jR + 3)) t391 t392 t393 w _ ?side1 ?side2 tX.out).mono ?_
  (case side1 => exact y48)
  (case side2 => exact y44)
  rintro e w29 ⟨rfl, hi, hb, hk⟩
  refine ⟨_, rfl, ?_⟩
  replace df := aM (KeepBut.blk hk (g' := dh) (o := .cells #[.slice none 0 0] 30 (0, 0)) z23 hX.out (by simp))
  replace dk := aM (ah (Kd.R_keep (IsS90.apart (show IsS90 w _ eb l0 jj ji from by (try simp only [Int.add_zero]); repeat (first | (with_reducible first | exact HI380.out | apply IsS90.alloc | apply IsS90.drewN | apply IsS90.drew | apply IsS90.set_1 | apply IsS90.set_2 | refine IsS90.far ?_ dH.out _ | refine IsS90.far ?_ fj.out _) | exact HI380.out)) (kR_ dk.out) z0) hk (fun _ h => h.2)) (fun _ h => h.1))
  replace dt := aM (KeepBut.blk hk (g' := dq) (o := .cells #[.slice iO ek.length iw] 30 (0, 0)) (kB_ dt.out) hV.out (by simp))
  replace HB := aM (hb)
  replace HI380 := aM (hi)
  (try clear hb)
  skip
  (try clear hk)
  (try clear hi)
  (try clear lS)
  refine hK.out _ _ ((bC dt.out 0).trans rfl) (fun hHeld => ?_)
  clear hK K
  refine norm_ (a' := ?_) ?_ ?_
  rotate_left
  ·show Act.put _ (some 21) _ = _
   simp only [Act.put, sA, sB, sC, i64_w, i32_w]
   rfl
  refine pA 5 22 ?_
  refine one_ (i := 6) (N := none) #[true, true, true, true, true, true, true, false] rfl rfl (one_of HT_.out z1) z0 (fun K hK => ?_)
  obtain ⟨hs30, hfs30⟩ := cc1 df.out
  have hns30_1 := gp.out
  have hms30_1 := gq.out
  refine skip_ (w1 := ?_) (by rfl) rfl ?_ ?_
  rotate_left
  ·go_simp
   rfl
  refine hK.out _ _ (((cell_far (p := ⟨dh, _, none⟩) gp.out _).trans (hHeld))) (fun hHeld => ?_)
  clear hK K
  refine pA 7 3 ?_
  refine done_ (done_of HT_.out z1) ?_
  try go_wp2
  refine aU (aV rfl _ _ dh 30 #[.slice iO ek.length iw] (0, 0) _ rfl (by (with_reducible repeat (first | refine au ?_ _ | refine ar ?_ | refine av ?_ _)); refine ax (cs := #[.slice none 0 0]) ?_ 0 _ rfl; (with_reducible repeat (first | refine au ?_ _ | refine ar ?_ | refine av ?_ _)); exact df.out) Try.underlying30 rfl z1) rfl ?_
  exact ⟨_, y4, by (with_reducible repeat (first | apply ae | apply ac | apply aa)); exact ah (ap (p := ⟨dh, 0, none⟩) (aq dk.out df.out z0) (fun _ hk => hk.2) (.slice iO ek.length iw)) (fun _ hk => trivial), y21⟩

/-! ### spec_DrawSplitRope: function 16 -/
def spec_DrawSplitRope.f (k : Nat) (l0 : List Int) : Option ((List (S101)) × Int) := (spec_DrawByteAt.f k l0).bind fun nM => (some (nM.1, nM.2))
theorem spec_DrawSplitRope.mono : ∀ a0 k, LeO (spec_DrawSplitRope.f k a0) (spec_DrawSplitRope.f (k + 1) a0) := by
 intro a0 k
 unfold spec_DrawSplitRope.f
 repeat' first
   | (with_reducible exact spec_DrawByteAt.mono _ _)
   | (with_reducible exact LeO.refl _)
   | (with_reducible exact LeO.none _)
   | (with_reducible refine LeO.ite ?_ ?_)
   | (with_reducible refine LeO.bind ?_ (fun _ => ?_))
set_option maxHeartbeats 8000000 in
set_option maxRecDepth 100000 in
theorem spec_DrawSplitRope.calls (k : Nat) (A0 : Option Addr) (c0 : Nat) (l0 : List Int) (r1 : List (S101)) (r2 : Int) (w : World) (hr0 : Kd.C (Kd.int .u8) w A0 l0.length l0) (hc0 : l0.length ≤ c0) (h : spec_DrawSplitRope.f k l0 = some (r1, r2)) :
  Calls Try.prog 16 #[.slice A0 l0.length c0] w fun e w' => ∃ v0_ : Value, e = .returned (.tuple #[.agg #[v0_], .int .i64 r2]) ∧ Kd.R k101 101 w' w.heap.size (fun _ => True) v0_ r1 ∧ Below w.heap.size w w' := by
 have hu30 := Try.underlying30
 have dY := aM hr0
 have en := aM hc0
 clear hr0 hc0
 have HB := aM (Below.refl w.heap.size w)
 have H : ((spec_DrawByteAt.f k l0).bind fun nM => (some (nM.1, nM.2))) = some (r1, r2) := h
 clear h
 obtain ⟨⟨th, t398⟩, A2, H⟩ := oA_ H
 try dsimp only at H
 simp only [Option.some.injEq, Prod.mk.injEq] at H
 obtain ⟨rfl, rfl⟩ := H
 go_enter Try.func16, Try.ntmps16
 go_wp2_with (first | ((with_reducible refine aN (N := 2) rfl ?_); refine aQ ?hg (N := 2) ?hd (cs := #[.slice none 0 0]) (t := 30) ?hr ?_; (case hd => rfl); (case hg => rfl); (case hr => first | (go_simp; done) | (go_simp; rfl)); intro mg hg w3 hbox hb; have lR := aM (hbox); have GW394 := aM ((by rw [hg]; exact (aC z32) : w.heap.size ≤ mg)); have rm := aM ((by rw [hg]; exact (aC z32) : w.heap.size ≤ mg)); replace HB := aM (aA z32 hb); clear hb hbox hg) | ((with_reducible refine aK (f := 48) rfl ?_); refine aT (some 5) rfl rfl Try.func48 z1 rfl #[.slice A0 l0.length c0] rfl z33 ?_; (with_reducible refine (spec_DrawByteAt.calls k _ _ l0 th t398 _ ?side1 ?side2 A2.out).mono ?_); (case side1 => exact y38); (case side2 => exact en.out); rintro e w4 ⟨v396, rfl, ho0, hb⟩; refine ⟨_, rfl, ?_⟩; have sD := aM (aW ho0 (aC (by repeat (first | (with_reducible first | exact HB.out | apply bA | apply pD | apply bD | refine az ?_ rm.out) | exact HB.out)))); replace lR := aM (af (g := mg) (o := .cells #[.slice none 0 0] 30 (0, 0)) (kB_ lR.out) hb); replace HB := aM (aA (by repeat (first | (with_reducible first | exact HB.out | apply bA | apply pD | apply bD | refine az ?_ rm.out) | exact HB.out)) hb); (try clear hb); (try clear ho0); obtain ⟨sL, sf, eo5⟩ := Kd.R_slice sD.out; subst eo5; obtain ⟨lh, mJ⟩ := cc1 lR.out))
 refine aU (aV rfl _ _ mg 30 #[.slice sL th.length sf] (0, 0) _ rfl (by (with_reducible repeat (first | refine au ?_ _ | refine ar ?_ | refine av ?_ _)); refine ax (cs := #[.slice none 0 0]) ?_ 0 _ rfl; (with_reducible repeat (first | refine au ?_ _ | refine ar ?_ | refine av ?_ _)); exact lR.out) Try.underlying30 rfl z1) rfl ?_
 exact ⟨_, y4, by (with_reducible repeat (first | apply ae | apply ac | apply aa)); exact ah (ap (p := ⟨mg, 0, none⟩) (aq sD.out lR.out z0) (fun _ hk => hk.2) (.slice sL th.length sf)) (fun _ hk => trivial), by repeat (first | (with_reducible first | exact HB.out | apply bA | apply pD | apply bD | refine az ?_ rm.out) | exact HB.out)⟩

/-! ### impl_SplitRope: function 17, by hand -/
def impl_SplitRope.f (k : Nat) (l0_0 : List S101) (a1 : Int) : Option (List S101 × List S101 × Bool) := (opnF k l0_0).bind fun p => if p.2 = true then (if a1 < 0 then some ([], [], false) else (if p.1.isNil = true then (if 0 < a1 then some ([], [], false) else some ([], [], true)) else (if p.1.size < a1 then some ([], [], false) else
 (spl p.1 a1).bind fun q => (ropeF q.1).bind fun x => (ropeF q.2).bind fun y => if x.2 = true then (if y.2 = true then some (x.1, y.1, true) else some ([], [], false)) else some ([], [], false)))) else some ([], [], false)
theorem impl_SplitRope.mono : ∀ a0 a1 k, LeO (impl_SplitRope.f k a0 a1) (impl_SplitRope.f (k + 1) a0 a1) := fun a0 a1 k => open_drop (fun _ => LeO.refl _)
/-- What SplitRope leaves. -/
def SpPost (w : World) (r1 r2 : List S101) (r3 : Bool) (e : Ending) (w' : World) : Prop := ∃ v0_ v1_ : Value, e = .returned (.tuple #[.agg #[v0_], .agg #[v1_], .bool r3]) ∧ Kd.R k101 101 w' w.heap.size (fun k_ => some k_ ≠ (v1_ : Value).ownBlock) v0_ r1 ∧ Kd.R k101 101 w' w.heap.size (fun k_ => some k_ ≠ (v0_ : Value).ownBlock) v1_ r2 ∧ Below w.heap.size w w'
theorem sp_nil (w w' : World) (h : Below w.heap.size w w') : SpPost w [] [] false (.returned (.tuple #[.agg #[.slice none 0 0], .agg #[.slice none 0 0], .bool false])) w' := ⟨_, _, rfl, Kd.R_nil _ _ _ _ _, Kd.R_nil _ _ _ _ _, h⟩
set_option maxHeartbeats 4000000 in
set_option maxRecDepth 100000 in
theorem split_rope_any (k : Nat) (cL : Option Addr) (cM : Nat) (l0_0 : List S101) (a1 : Int) (r1 : List S101) (r2 : List S101) (r3 : Bool) (w : World) (hr0_0 : Kd.C k101 w cL l0_0.length l0_0) (hc0_0 : l0_0.length ≤ cM) (h : impl_SplitRope.f k l0_0 a1 = some (r1, r2, r3)) :
  Calls Try.prog 17 #[.agg #[.slice cL l0_0.length cM], .int .i64 a1] w (SpPost w r1 r2 r3) := by
 obtain ⟨⟨t, b⟩, h1, h2⟩ := oB h
 have HO := aM (fun (w' : World) (hC : Kd.C k101 w' cL l0_0.length l0_0) => open_any k l0_0 cL cM t b w' hC hc0_0 h1)
 obtain ⟨W3, hW3⟩ : ∃ W3, ((w.alloc (.cells #[.slice cL l0_0.length cM] 30)).alloc (.cells #[.slice none 0 0] 30)).alloc (.cells #[.slice none 0 0] 30) = W3 := ⟨_, rfl⟩
 have HWB : Aside0 (Below w.heap.size w W3) := ⟨by rw [← hW3]; exact bA (bA (bA (Below.refl _ _) _) _) _⟩
 have HW2 : Aside0 (W3.heap[w.heap.size + 1 + 1]? = some (.cells #[.slice none 0 0] 30 (0, 0))) := ⟨by rw [← hW3]; have := blk_new ((w.alloc (.cells #[.slice cL l0_0.length cM] 30)).alloc (.cells #[.slice none 0 0] 30)) (.cells #[.slice none 0 0] 30); simpa using this⟩
 have HW1 : Aside0 (W3.heap[w.heap.size + 1]? = some (.cells #[.slice none 0 0] 30 (0, 0))) := ⟨by rw [← hW3]; have := av (blk_new (w.alloc (.cells #[.slice cL l0_0.length cM] 30)) (.cells #[.slice none 0 0] 30)) (.cells #[.slice none 0 0] 30); simpa using this⟩
 have en := aM (aG hr0_0 HWB.out)
 have HWE := aM hW3
 clear h h1 hr0_0 hc0_0 hW3
 cases b with
 | false =>
  rw [if_neg (by simp)] at h2
  obtain ⟨rfl, h3⟩ := Prod.mk.inj (sI h2)
  obtain ⟨rfl, rfl⟩ := Prod.mk.inj h3
  clear h2 h3 
  go_enter Try.func17, Try.ntmps17
  go_wp2_with (first | (go_at_call 35; (try rw [HWE.out]); refine (HO.out _ en.out).mono ?_; rintro e w1 ⟨P, rfl, hl, hb⟩; have HB1 := aM hb; have HX1 := aM (af HW1.out hb); have HY1 := aM (af HW2.out hb); have e1 : w1.cell? ⟨w.heap.size + 1, 0, none⟩ = some (.slice none 0 0) := (bC HX1.out 0).trans rfl; have e2 : w1.cell? ⟨w.heap.size + 1 + 1, 0, none⟩ = some (.slice none 0 0) := (bC HY1.out 0).trans rfl; have f1 := bF HX1.out 0; have f2 := bF HY1.out 0;  clear hl hb))
  refine aU (results_list (rs := [.cell 4 30, .cell 5 30, .tmp 6]) rfl (by simp) (.cell (w.heap.size + 1) 30 #[.slice none 0 0] (0, 0) _ rfl (by exact aw (ax (cs := #[.slice none 0 0]) HX1.out 0 _ rfl) (by simp) _) Try.underlying30 rfl z1 (.cell (w.heap.size + 1 + 1) 30 #[.slice none 0 0] (0, 0) _ rfl (by exact ax (cs := #[.slice none 0 0]) (aw HY1.out (by simp) _) 0 _ rfl) Try.underlying30 rfl z1 (.tmp .nil)))) rfl ?_
  exact sp_nil _ _ (az (az (aA HWB.out HB1.out) (by omega)) (by omega))
 | true =>
  rw [if_pos rfl] at h2
  by_cases n1 : a1 < 0
  ·rw [if_pos n1] at h2
   have m1 : decide (a1 < 0) = true := dT n1
   obtain ⟨rfl, h3⟩ := Prod.mk.inj (sI h2)
   obtain ⟨rfl, rfl⟩ := Prod.mk.inj h3
   clear h2 h3 n1
   go_enter Try.func17, Try.ntmps17
   go_wp2_with (first | (go_at_call 35; (try rw [HWE.out]); refine (HO.out _ en.out).mono ?_; rintro e w1 ⟨P, rfl, hl, hb⟩; have HB1 := aM hb; have HX1 := aM (af HW1.out hb); have HY1 := aM (af HW2.out hb); have e1 : w1.cell? ⟨w.heap.size + 1, 0, none⟩ = some (.slice none 0 0) := (bC HX1.out 0).trans rfl; have e2 : w1.cell? ⟨w.heap.size + 1 + 1, 0, none⟩ = some (.slice none 0 0) := (bC HY1.out 0).trans rfl; have f1 := bF HX1.out 0; have f2 := bF HY1.out 0;  clear hl hb))
   refine aU (results_list (rs := [.cell 4 30, .cell 5 30, .tmp 6]) rfl (by simp) (.cell (w.heap.size + 1) 30 #[.slice none 0 0] (0, 0) _ rfl (by exact aw (ax (cs := #[.slice none 0 0]) HX1.out 0 _ rfl) (by simp) _) Try.underlying30 rfl z1 (.cell (w.heap.size + 1 + 1) 30 #[.slice none 0 0] (0, 0) _ rfl (by exact ax (cs := #[.slice none 0 0]) (aw HY1.out (by simp) _) 0 _ rfl) Try.underlying30 rfl z1 (.tmp .nil)))) rfl ?_
   exact sp_nil _ _ (az (az (aA HWB.out HB1.out) (by omega)) (by omega))
  rw [if_neg n1] at h2
  have m1 : decide (a1 < 0) = false := dF n1
  cases t with
  | nil =>
   rw [if_pos (show Limb.isNil .nil = true from rfl)] at h2
   by_cases n2 : 0 < a1
   ·rw [if_pos n2] at h2
    have m2 : decide (0 < a1) = true := dT n2
    obtain ⟨rfl, h3⟩ := Prod.mk.inj (sI h2)
    obtain ⟨rfl, rfl⟩ := Prod.mk.inj h3
    clear h2 h3 n1 n2
    go_enter Try.func17, Try.ntmps17
    go_wp2_with (first | (go_at_call 35; (try rw [HWE.out]); refine (HO.out _ en.out).mono ?_; rintro e w1 ⟨P, rfl, hl, hb⟩; have HB1 := aM hb; have HX1 := aM (af HW1.out hb); have HY1 := aM (af HW2.out hb); have e1 : w1.cell? ⟨w.heap.size + 1, 0, none⟩ = some (.slice none 0 0) := (bC HX1.out 0).trans rfl; have e2 : w1.cell? ⟨w.heap.size + 1 + 1, 0, none⟩ = some (.slice none 0 0) := (bC HY1.out 0).trans rfl; have f1 := bF HX1.out 0; have f2 := bF HY1.out 0; have hpn : P = none := hl; subst hpn; clear hl hb))
    refine aU (results_list (rs := [.cell 4 30, .cell 5 30, .tmp 6]) rfl (by simp) (.cell (w.heap.size + 1) 30 #[.slice none 0 0] (0, 0) _ rfl (by exact aw (ax (cs := #[.slice none 0 0]) HX1.out 0 _ rfl) (by simp) _) Try.underlying30 rfl z1 (.cell (w.heap.size + 1 + 1) 30 #[.slice none 0 0] (0, 0) _ rfl (by exact ax (cs := #[.slice none 0 0]) (aw HY1.out (by simp) _) 0 _ rfl) Try.underlying30 rfl z1 (.tmp .nil)))) rfl ?_
    exact sp_nil _ _ (az (az (aA HWB.out HB1.out) (by omega)) (by omega))
   ·rw [if_neg n2] at h2
    have m2 : decide (0 < a1) = false := dF n2
    obtain rfl : a1 = 0 := by omega
    obtain ⟨x1, hx1⟩ : ∃ x : List S101, x = [] := ⟨_, rfl⟩
    obtain ⟨y1, hy1⟩ : ∃ x : List S101, x = [] := ⟨_, rfl⟩
    obtain ⟨q1, hq1⟩ : ∃ x : Limb, x = .nil := ⟨_, rfl⟩
    obtain ⟨q2, hq2⟩ : ∃ x : Limb, x = .nil := ⟨_, rfl⟩
    have HS : Aside0 (spl .nil 0 = some (q1, q2)) := ⟨by rw [hq1, hq2]; rfl⟩
    have je : Aside0 (ropeF q1 = some (x1, true)) := ⟨by rw [hq1, hx1]; rfl⟩
    have qg : Aside0 (ropeF q2 = some (y1, true)) := ⟨by rw [hq2, hy1]; rfl⟩
    obtain ⟨rfl, rfl, rfl⟩ := show x1 = r1 ∧ y1 = r2 ∧ r3 = true from by have := h2; simp at this; exact ⟨hx1.trans this.1.symm, hy1.trans this.2.1.symm, this.2.2⟩
    clear h2 n1 n2 m2 hx1 hy1 hq1 hq2
    have m2 : decide ((0 : Int) < 0) = false := rfl
    go_enter Try.func17, Try.ntmps17
    go_wp2_with (first | (go_at_call 35; (try rw [HWE.out]); refine (HO.out _ en.out).mono ?_; rintro e w1 ⟨P, rfl, hl, hb⟩; have HB1 := aM hb; have HX1 := aM (af HW1.out hb); have HY1 := aM (af HW2.out hb); have HL1 := aM hl; have hpn : P = none := hl; subst hpn; clear hl hb) | (go_at_call 37; refine (split_any _ _ 0 (fun _ => True) w1 (q1, q2) (HL1.out.mono (fun _ _ => trivial)) (fun _ _ => trivial) HS.out).mono ?_; rintro e w2 ⟨Pa, Pb, rfl, hl, hr, hb⟩; have HB2 := aM hb; have HX2 := aM (af HX1.out hb); have HY2 := aM (af HY1.out hb); have HLa := aM hl; have HLb := aM hr; clear hl hr hb) | (go_at_call_of 42 (Value.pointer Pa); refine (rope_any q1 Pa _ w2 _ _ HLa.out je.out).mono ?_; rintro e w3 ⟨v3, rfl, ho, hb⟩; obtain ⟨A3, c3, eo, -, -⟩ := Kd.R_reads ho; subst eo; have gQ := aM ho; have HB3 := aM hb; have HX3 := aM (af HX2.out hb); have HY3 := aM (af HY2.out hb); have HLb3 := aM (HLb.out.below hb); clear ho hb) | (go_at_call_of 42 (Value.pointer Pb); refine (rope_any q2 Pb _ _ _ _ (HLb3.out.alloc _) qg.out).mono ?_; rintro e w4 ⟨v4, rfl, ho, hb⟩; obtain ⟨A4, c4, eo, -, -⟩ := Kd.R_reads ho; subst eo; have gG := aM ho; have HB4 := aM hb; have HX4 := aM (af (av HX3.out _) hb); have HY4 := aM (af (av HY3.out _) hb); have HZ4 := aM (af (blk_new w3 (.cells #[.slice A3 x1.length c3] 30)) hb); have e1 : ∀ o, (w4.alloc o).cell? ⟨w.heap.size + 1, 0, none⟩ = some (.slice none 0 0) := fun o => (bC (av HX4.out o) 0).trans rfl; have e2 : ∀ o, (w4.alloc o).cell? ⟨w.heap.size + 1 + 1, 0, none⟩ = some (.slice none 0 0) := fun o => (bC (av HY4.out o) 0).trans rfl; have e3 : ∀ o, (w4.alloc o).cell? ⟨w3.heap.size, 0, none⟩ = some (.slice A3 x1.length c3) := fun o => (bC (av HZ4.out o) 0).trans rfl; have f1 : ∀ o, (w4.alloc o).frozen? ⟨w.heap.size + 1, 0, none⟩ = false := fun o => bF (av HX4.out o) 0; have f2 : ∀ o, (w4.alloc o).frozen? ⟨w.heap.size + 1 + 1, 0, none⟩ = false := fun o => bF (av HY4.out o) 0; clear ho hb))
    have HBB : Aside0 (Below w.heap.size w w4) := ⟨aA (aA (aA (aA HWB.out HB1.out) HB2.out) HB3.out |> fun h => bA h _) HB4.out⟩
    have hsz : w.heap.size + 3 ≤ w3.heap.size ∧ w3.heap.size < w4.heap.size := by
     have g0 : W3.heap.size = w.heap.size + 3 := by rw [← HWE.out]; simp
     have g1 := HB1.out.size
     have g2 := HB2.out.size
     have g3 := HB3.out.size
     have g4 := HB4.out.size
     simp at g4
     omega
    have u1 : ¬ w.heap.size + 1 = w4.heap.size := by omega
    have u2 : ¬ w4.heap.size = w.heap.size + 1 := by omega
    have u3 : ¬ w.heap.size + 1 + 1 = w4.heap.size := by omega
    have u4 : ¬ w4.heap.size = w.heap.size + 1 + 1 := by omega
    have u5 : ¬ w.heap.size + 1 = w3.heap.size := by omega
    have u6 : ¬ w3.heap.size = w.heap.size + 1 := by omega
    have u7 : ¬ w.heap.size + 1 + 1 = w3.heap.size := by omega
    have u8 : ¬ w3.heap.size = w.heap.size + 1 + 1 := by omega
    have HSZ := aM hsz
    clear hsz
    go_region
    go_wp2
    refine aU (results_list (rs := [.cell 4 30, .cell 5 30, .tmp 6]) rfl (by simp) (.cell (w.heap.size + 1) 30 #[.slice A3 x1.length c3] (0, 0) _ rfl (by exact ar (aw (ax (cs := #[.slice none 0 0]) (av HX4.out _) 0 _ rfl) (by simp) _)) Try.underlying30 rfl z1 (.cell (w.heap.size + 1 + 1) 30 #[.slice A4 y1.length c4] (0, 0) _ rfl (by exact ar (ax (cs := #[.slice none 0 0]) (aw (av HY4.out _) (by simp) _) 0 _ rfl)) Try.underlying30 rfl z1 (.tmp .nil)))) rfl ?_
    have g4 := HB4.out
    have k0 := Kd.R_elder (ae gQ.out (.cells #[.slice A3 x1.length c3] 30)) gG.out g4
    have k1 := Kd.R_newR gG.out (ae gQ.out (.cells #[.slice A3 x1.length c3] 30))
    have b1 := av HX4.out (.cells #[.slice A4 y1.length c4] 30)
    have b2 := aw (p := ⟨w.heap.size + 1, 0, none⟩) (av HY4.out (.cells #[.slice A4 y1.length c4] 30)) (by simp) (.slice A3 x1.length c3)
    have HB12 : Below w.heap.size w w2 := aA (aA HWB.out HB1.out) HB2.out
    have s0 := aa (Kd.R_set (Kd.R_set (ae (aW k0 HB12.size) (.cells #[.slice A4 y1.length c4] 30)) b1 z0 0 (.slice A3 x1.length c3)) b2 z0 0 (.slice A4 y1.length c4))
    have s1 := aa (Kd.R_set (Kd.R_set (ae (aW k1 (base' := w.heap.size) (by have := HSZ.out; simp; omega)) (.cells #[.slice A4 y1.length c4] 30)) b1 z0 0 (.slice A3 x1.length c3)) b2 z0 0 (.slice A4 y1.length c4))
    exact ⟨_, _, rfl, ah s0 (fun _ hk => hk.2), ah s1 (fun _ hk => hk.2), below_drew (az (az (bA HBB.out _) (by omega)) (by omega))⟩
  | node xl xr xs xn xd =>
   rw [if_neg (show ¬ Limb.isNil (.node xl xr xs xn xd) = true by simp [Limb.isNil])] at h2
   by_cases n2 : xn < a1
   ·rw [if_pos (show Limb.size (.node xl xr xs xn xd) < a1 from n2)] at h2
    have m2 : decide (xn < a1) = true := dT n2
    obtain ⟨rfl, h3⟩ := Prod.mk.inj (sI h2)
    obtain ⟨rfl, rfl⟩ := Prod.mk.inj h3
    clear h2 h3 n1 n2
    go_enter Try.func17, Try.ntmps17
    go_wp2_with (first | (go_at_call 35; (try rw [HWE.out]); refine (HO.out _ en.out).mono ?_; rintro e w1 ⟨P, rfl, hl, hb⟩; have HB1 := aM hb; have HX1 := aM (af HW1.out hb); have HY1 := aM (af HW2.out hb); have e1 : w1.cell? ⟨w.heap.size + 1, 0, none⟩ = some (.slice none 0 0) := (bC HX1.out 0).trans rfl; have e2 : w1.cell? ⟨w.heap.size + 1 + 1, 0, none⟩ = some (.slice none 0 0) := (bC HY1.out 0).trans rfl; have f1 := bF HX1.out 0; have f2 := bF HY1.out 0; obtain ⟨bp, Lp, Rp, rfl, -, hcp, -, -⟩ := id hl; have z3 : w1.cell? ⟨bp, 3, none⟩ = some (.int .i64 xn) := (bC hcp 3).trans rfl; clear hcp;  clear hl hb))
    refine aU (results_list (rs := [.cell 4 30, .cell 5 30, .tmp 6]) rfl (by simp) (.cell (w.heap.size + 1) 30 #[.slice none 0 0] (0, 0) _ rfl (by exact aw (ax (cs := #[.slice none 0 0]) HX1.out 0 _ rfl) (by simp) _) Try.underlying30 rfl z1 (.cell (w.heap.size + 1 + 1) 30 #[.slice none 0 0] (0, 0) _ rfl (by exact ax (cs := #[.slice none 0 0]) (aw HY1.out (by simp) _) 0 _ rfl) Try.underlying30 rfl z1 (.tmp .nil)))) rfl ?_
    exact sp_nil _ _ (az (az (aA HWB.out HB1.out) (by omega)) (by omega))
   rw [if_neg (show ¬ Limb.size (.node xl xr xs xn xd) < a1 from n2)] at h2
   have m2 : decide (xn < a1) = false := dF n2
   obtain ⟨⟨q1, q2⟩, hs, h3⟩ := oB h2
   obtain ⟨⟨x1, x2⟩, hx, h4⟩ := oB h3
   obtain ⟨⟨y1, y2⟩, hy, h5⟩ := oB h4
   have HS := aM hs
   have je := aM hx
   have qg := aM hy
   have H5 := aM h5
   clear h2 h3 h4 h5 hs hx hy n1 n2
   cases x2 with
   | false =>
    obtain ⟨rfl, rfl, rfl⟩ := show r1 = [] ∧ r2 = [] ∧ r3 = false from by simpa using H5.out
    clear H5
    go_enter Try.func17, Try.ntmps17
    go_wp2_with (first | (go_at_call 35; (try rw [HWE.out]); refine (HO.out _ en.out).mono ?_; rintro e w1 ⟨P, rfl, hl, hb⟩; have HB1 := aM hb; have HX1 := aM (af HW1.out hb); have HY1 := aM (af HW2.out hb); have HL1 := aM hl; obtain ⟨bp, Lp, Rp, rfl, -, hcp, -, -⟩ := id hl; have z3 : w1.cell? ⟨bp, 3, none⟩ = some (.int .i64 xn) := (bC hcp 3).trans rfl; clear hcp; clear hl hb) | (go_at_call 37; refine (split_any _ _ a1 (fun _ => True) w1 (q1, q2) (HL1.out.mono (fun _ _ => trivial)) (fun _ _ => trivial) HS.out).mono ?_; rintro e w2 ⟨Pa, Pb, rfl, hl, hr, hb⟩; have HB2 := aM hb; have HX2 := aM (af HX1.out hb); have HY2 := aM (af HY1.out hb); have HLa := aM hl; have HLb := aM hr; clear hl hr hb) | (go_at_call_of 42 (Value.pointer Pa); refine (rope_any q1 Pa _ w2 _ _ HLa.out je.out).mono ?_; rintro e w3 ⟨v3, rfl, ho, hb⟩; obtain ⟨A3, c3, eo, -, -⟩ := Kd.R_reads ho; subst eo; have gQ := aM ho; have HB3 := aM hb; have HX3 := aM (af HX2.out hb); have HY3 := aM (af HY2.out hb); have HLb3 := aM (HLb.out.below hb); clear ho hb) | (go_at_call_of 42 (Value.pointer Pb); refine (rope_any q2 Pb _ _ _ _ (HLb3.out.alloc _) qg.out).mono ?_; rintro e w4 ⟨v4, rfl, ho, hb⟩; obtain ⟨A4, c4, eo, -, -⟩ := Kd.R_reads ho; subst eo; have gG := aM ho; have HB4 := aM hb; have HX4 := aM (af (av HX3.out _) hb); have HY4 := aM (af (av HY3.out _) hb); have HZ4 := aM (af (blk_new w3 (.cells #[.slice A3 x1.length c3] 30)) hb); have e1 : ∀ o, (w4.alloc o).cell? ⟨w.heap.size + 1, 0, none⟩ = some (.slice none 0 0) := fun o => (bC (av HX4.out o) 0).trans rfl; have e2 : ∀ o, (w4.alloc o).cell? ⟨w.heap.size + 1 + 1, 0, none⟩ = some (.slice none 0 0) := fun o => (bC (av HY4.out o) 0).trans rfl; have e3 : ∀ o, (w4.alloc o).cell? ⟨w3.heap.size, 0, none⟩ = some (.slice A3 x1.length c3) := fun o => (bC (av HZ4.out o) 0).trans rfl; have f1 : ∀ o, (w4.alloc o).frozen? ⟨w.heap.size + 1, 0, none⟩ = false := fun o => bF (av HX4.out o) 0; have f2 : ∀ o, (w4.alloc o).frozen? ⟨w.heap.size + 1 + 1, 0, none⟩ = false := fun o => bF (av HY4.out o) 0; clear ho hb))
    have HBB : Aside0 (Below w.heap.size w w4) := ⟨aA (aA (aA (aA HWB.out HB1.out) HB2.out) HB3.out |> fun h => bA h _) HB4.out⟩
    refine aU (results_list (rs := [.cell 4 30, .cell 5 30, .tmp 6]) rfl (by simp) (.cell (w.heap.size + 1) 30 #[.slice none 0 0] (0, 0) _ rfl (by exact aw (ax (cs := #[.slice none 0 0]) (av HX4.out _) 0 _ rfl) (by simp) _) Try.underlying30 rfl z1 (.cell (w.heap.size + 1 + 1) 30 #[.slice none 0 0] (0, 0) _ rfl (by exact ax (cs := #[.slice none 0 0]) (aw (av HY4.out _) (by simp) _) 0 _ rfl) Try.underlying30 rfl z1 (.tmp .nil)))) rfl ?_
    exact sp_nil _ _ (az (az (bA HBB.out _) (by omega)) (by omega))
   | true =>
   cases y2 with
   | false =>
    obtain ⟨rfl, rfl, rfl⟩ := show r1 = [] ∧ r2 = [] ∧ r3 = false from by simpa using H5.out
    clear H5
    go_enter Try.func17, Try.ntmps17
    go_wp2_with (first | (go_at_call 35; (try rw [HWE.out]); refine (HO.out _ en.out).mono ?_; rintro e w1 ⟨P, rfl, hl, hb⟩; have HB1 := aM hb; have HX1 := aM (af HW1.out hb); have HY1 := aM (af HW2.out hb); have HL1 := aM hl; obtain ⟨bp, Lp, Rp, rfl, -, hcp, -, -⟩ := id hl; have z3 : w1.cell? ⟨bp, 3, none⟩ = some (.int .i64 xn) := (bC hcp 3).trans rfl; clear hcp; clear hl hb) | (go_at_call 37; refine (split_any _ _ a1 (fun _ => True) w1 (q1, q2) (HL1.out.mono (fun _ _ => trivial)) (fun _ _ => trivial) HS.out).mono ?_; rintro e w2 ⟨Pa, Pb, rfl, hl, hr, hb⟩; have HB2 := aM hb; have HX2 := aM (af HX1.out hb); have HY2 := aM (af HY1.out hb); have HLa := aM hl; have HLb := aM hr; clear hl hr hb) | (go_at_call_of 42 (Value.pointer Pa); refine (rope_any q1 Pa _ w2 _ _ HLa.out je.out).mono ?_; rintro e w3 ⟨v3, rfl, ho, hb⟩; obtain ⟨A3, c3, eo, -, -⟩ := Kd.R_reads ho; subst eo; have gQ := aM ho; have HB3 := aM hb; have HX3 := aM (af HX2.out hb); have HY3 := aM (af HY2.out hb); have HLb3 := aM (HLb.out.below hb); clear ho hb) | (go_at_call_of 42 (Value.pointer Pb); refine (rope_any q2 Pb _ _ _ _ (HLb3.out.alloc _) qg.out).mono ?_; rintro e w4 ⟨v4, rfl, ho, hb⟩; obtain ⟨A4, c4, eo, -, -⟩ := Kd.R_reads ho; subst eo; have gG := aM ho; have HB4 := aM hb; have HX4 := aM (af (av HX3.out _) hb); have HY4 := aM (af (av HY3.out _) hb); have HZ4 := aM (af (blk_new w3 (.cells #[.slice A3 x1.length c3] 30)) hb); have e1 : ∀ o, (w4.alloc o).cell? ⟨w.heap.size + 1, 0, none⟩ = some (.slice none 0 0) := fun o => (bC (av HX4.out o) 0).trans rfl; have e2 : ∀ o, (w4.alloc o).cell? ⟨w.heap.size + 1 + 1, 0, none⟩ = some (.slice none 0 0) := fun o => (bC (av HY4.out o) 0).trans rfl; have e3 : ∀ o, (w4.alloc o).cell? ⟨w3.heap.size, 0, none⟩ = some (.slice A3 x1.length c3) := fun o => (bC (av HZ4.out o) 0).trans rfl; have f1 : ∀ o, (w4.alloc o).frozen? ⟨w.heap.size + 1, 0, none⟩ = false := fun o => bF (av HX4.out o) 0; have f2 : ∀ o, (w4.alloc o).frozen? ⟨w.heap.size + 1 + 1, 0, none⟩ = false := fun o => bF (av HY4.out o) 0; clear ho hb))
    have HBB : Aside0 (Below w.heap.size w w4) := ⟨aA (aA (aA (aA HWB.out HB1.out) HB2.out) HB3.out |> fun h => bA h _) HB4.out⟩
    refine aU (results_list (rs := [.cell 4 30, .cell 5 30, .tmp 6]) rfl (by simp) (.cell (w.heap.size + 1) 30 #[.slice none 0 0] (0, 0) _ rfl (by exact aw (ax (cs := #[.slice none 0 0]) (av HX4.out _) 0 _ rfl) (by simp) _) Try.underlying30 rfl z1 (.cell (w.heap.size + 1 + 1) 30 #[.slice none 0 0] (0, 0) _ rfl (by exact ax (cs := #[.slice none 0 0]) (aw (av HY4.out _) (by simp) _) 0 _ rfl) Try.underlying30 rfl z1 (.tmp .nil)))) rfl ?_
    exact sp_nil _ _ (az (az (bA HBB.out _) (by omega)) (by omega))
   | true =>
    obtain ⟨rfl, rfl, rfl⟩ := show x1 = r1 ∧ y1 = r2 ∧ r3 = true from by have := H5.out; simp at this; exact ⟨this.1, this.2.1, this.2.2⟩
    clear H5
    go_enter Try.func17, Try.ntmps17
    go_wp2_with (first | (go_at_call 35; (try rw [HWE.out]); refine (HO.out _ en.out).mono ?_; rintro e w1 ⟨P, rfl, hl, hb⟩; have HB1 := aM hb; have HX1 := aM (af HW1.out hb); have HY1 := aM (af HW2.out hb); have HL1 := aM hl; obtain ⟨bp, Lp, Rp, rfl, -, hcp, -, -⟩ := id hl; have z3 : w1.cell? ⟨bp, 3, none⟩ = some (.int .i64 xn) := (bC hcp 3).trans rfl; clear hcp; clear hl hb) | (go_at_call 37; refine (split_any _ _ a1 (fun _ => True) w1 (q1, q2) (HL1.out.mono (fun _ _ => trivial)) (fun _ _ => trivial) HS.out).mono ?_; rintro e w2 ⟨Pa, Pb, rfl, hl, hr, hb⟩; have HB2 := aM hb; have HX2 := aM (af HX1.out hb); have HY2 := aM (af HY1.out hb); have HLa := aM hl; have HLb := aM hr; clear hl hr hb) | (go_at_call_of 42 (Value.pointer Pa); refine (rope_any q1 Pa _ w2 _ _ HLa.out je.out).mono ?_; rintro e w3 ⟨v3, rfl, ho, hb⟩; obtain ⟨A3, c3, eo, -, -⟩ := Kd.R_reads ho; subst eo; have gQ := aM ho; have HB3 := aM hb; have HX3 := aM (af HX2.out hb); have HY3 := aM (af HY2.out hb); have HLb3 := aM (HLb.out.below hb); clear ho hb) | (go_at_call_of 42 (Value.pointer Pb); refine (rope_any q2 Pb _ _ _ _ (HLb3.out.alloc _) qg.out).mono ?_; rintro e w4 ⟨v4, rfl, ho, hb⟩; obtain ⟨A4, c4, eo, -, -⟩ := Kd.R_reads ho; subst eo; have gG := aM ho; have HB4 := aM hb; have HX4 := aM (af (av HX3.out _) hb); have HY4 := aM (af (av HY3.out _) hb); have HZ4 := aM (af (blk_new w3 (.cells #[.slice A3 x1.length c3] 30)) hb); have e1 : ∀ o, (w4.alloc o).cell? ⟨w.heap.size + 1, 0, none⟩ = some (.slice none 0 0) := fun o => (bC (av HX4.out o) 0).trans rfl; have e2 : ∀ o, (w4.alloc o).cell? ⟨w.heap.size + 1 + 1, 0, none⟩ = some (.slice none 0 0) := fun o => (bC (av HY4.out o) 0).trans rfl; have e3 : ∀ o, (w4.alloc o).cell? ⟨w3.heap.size, 0, none⟩ = some (.slice A3 x1.length c3) := fun o => (bC (av HZ4.out o) 0).trans rfl; have f1 : ∀ o, (w4.alloc o).frozen? ⟨w.heap.size + 1, 0, none⟩ = false := fun o => bF (av HX4.out o) 0; have f2 : ∀ o, (w4.alloc o).frozen? ⟨w.heap.size + 1 + 1, 0, none⟩ = false := fun o => bF (av HY4.out o) 0; clear ho hb))
    have HBB : Aside0 (Below w.heap.size w w4) := ⟨aA (aA (aA (aA HWB.out HB1.out) HB2.out) HB3.out |> fun h => bA h _) HB4.out⟩
    have hsz : w.heap.size + 3 ≤ w3.heap.size ∧ w3.heap.size < w4.heap.size := by
     have g0 : W3.heap.size = w.heap.size + 3 := by rw [← HWE.out]; simp
     have g1 := HB1.out.size
     have g2 := HB2.out.size
     have g3 := HB3.out.size
     have g4 := HB4.out.size
     simp at g4
     omega
    have u1 : ¬ w.heap.size + 1 = w4.heap.size := by omega
    have u2 : ¬ w4.heap.size = w.heap.size + 1 := by omega
    have u3 : ¬ w.heap.size + 1 + 1 = w4.heap.size := by omega
    have u4 : ¬ w4.heap.size = w.heap.size + 1 + 1 := by omega
    have u5 : ¬ w.heap.size + 1 = w3.heap.size := by omega
    have u6 : ¬ w3.heap.size = w.heap.size + 1 := by omega
    have u7 : ¬ w.heap.size + 1 + 1 = w3.heap.size := by omega
    have u8 : ¬ w3.heap.size = w.heap.size + 1 + 1 := by omega
    have HSZ := aM hsz
    clear hsz
    go_region
    go_wp2
    refine aU (results_list (rs := [.cell 4 30, .cell 5 30, .tmp 6]) rfl (by simp) (.cell (w.heap.size + 1) 30 #[.slice A3 x1.length c3] (0, 0) _ rfl (by exact ar (aw (ax (cs := #[.slice none 0 0]) (av HX4.out _) 0 _ rfl) (by simp) _)) Try.underlying30 rfl z1 (.cell (w.heap.size + 1 + 1) 30 #[.slice A4 y1.length c4] (0, 0) _ rfl (by exact ar (ax (cs := #[.slice none 0 0]) (aw (av HY4.out _) (by simp) _) 0 _ rfl)) Try.underlying30 rfl z1 (.tmp .nil)))) rfl ?_
    have g4 := HB4.out
    have k0 := Kd.R_elder (ae gQ.out (.cells #[.slice A3 x1.length c3] 30)) gG.out g4
    have k1 := Kd.R_newR gG.out (ae gQ.out (.cells #[.slice A3 x1.length c3] 30))
    have b1 := av HX4.out (.cells #[.slice A4 y1.length c4] 30)
    have b2 := aw (p := ⟨w.heap.size + 1, 0, none⟩) (av HY4.out (.cells #[.slice A4 y1.length c4] 30)) (by simp) (.slice A3 x1.length c3)
    have HB12 : Below w.heap.size w w2 := aA (aA HWB.out HB1.out) HB2.out
    have s0 := aa (Kd.R_set (Kd.R_set (ae (aW k0 HB12.size) (.cells #[.slice A4 y1.length c4] 30)) b1 z0 0 (.slice A3 x1.length c3)) b2 z0 0 (.slice A4 y1.length c4))
    have s1 := aa (Kd.R_set (Kd.R_set (ae (aW k1 (base' := w.heap.size) (by have := HSZ.out; simp; omega)) (.cells #[.slice A4 y1.length c4] 30)) b1 z0 0 (.slice A3 x1.length c3)) b2 z0 0 (.slice A4 y1.length c4))
    exact ⟨_, _, rfl, ah s0 (fun _ hk => hk.2), ah s1 (fun _ hk => hk.2), below_drew (az (az (bA HBB.out _) (by omega)) (by omega))⟩
theorem impl_SplitRope.calls (k : Nat) (cL : Option Addr) (cM : Nat) (l0_0 : List S101) (a1 : Int) (r1 : List S101) (r2 : List S101) (r3 : Bool) (w : World) (hr0_0 : Kd.C k101 w cL l0_0.length l0_0) (hc0_0 : l0_0.length ≤ cM) (h : impl_SplitRope.f k l0_0 a1 = some (r1, r2, r3)) :
  Calls Try.prog 17 #[.agg #[.slice cL l0_0.length cM], .int .i64 a1] w fun e w' => ∃ v0_ v1_ : Value, e = .returned (.tuple #[.agg #[v0_], .agg #[v1_], .bool r3]) ∧ Kd.R k101 101 w' w.heap.size (fun k_ => some k_ ≠ (v1_ : Value).ownBlock) v0_ r1 ∧ Kd.R k101 101 w' w.heap.size (fun k_ => some k_ ≠ (v0_ : Value).ownBlock) v1_ r2 ∧ Below w.heap.size w w' :=
 split_rope_any k cL cM l0_0 a1 r1 r2 r3 w hr0_0 hc0_0 h

/-! ### impl_TextIn: function 19, by hand -/
def impl_TextIn.f (k : Nat) (l0_0 : List S101) : Option (ByteArray × Bool) := (opnF k l0_0).bind fun p => if p.2 = true then (if (pcs p.1).length ≤ 100000000 ∧ (tx (pcs p.1)).size ≤ 1000000000 then some (tx (pcs p.1), true) else none) else some (⟨#[]⟩, false)
theorem impl_TextIn.mono : ∀ a0 k, LeO (impl_TextIn.f k a0) (impl_TextIn.f (k + 1) a0) := fun a0 k => open_drop (fun _ => LeO.refl _)
set_option maxHeartbeats 1000000 in
theorem impl_TextIn.calls (k : Nat) (cL : Option Addr) (cM : Nat) (l0_0 : List S101) (r1 : ByteArray) (r2 : Bool) (w : World) (hr0_0 : Kd.C k101 w cL l0_0.length l0_0) (hc0_0 : l0_0.length ≤ cM) (h : impl_TextIn.f k l0_0 = some (r1, r2)) :
  Calls Try.prog 19 #[.agg #[.slice cL l0_0.length cM]] w fun e w' => e = .returned (.tuple #[.string r1, .bool r2]) ∧ Below w.heap.size w w' := by
 obtain ⟨⟨t, b⟩, h1, h2⟩ := oB h
 have HO := aM (fun (w' : World) (hC : Kd.C k101 w' cL l0_0.length l0_0) => open_any k l0_0 cL cM t b w' hC hc0_0 h1)
 have HC := aM hr0_0
 cases b with
 | false =>
  rw [if_neg (by simp)] at h2
  obtain ⟨rfl, rfl⟩ := Prod.mk.inj (sI h2)
  clear h h1 h2 hr0_0 hc0_0
  go_enter Try.func19, Try.ntmps19
  go_wp2_with (first | (go_at_call 35; refine (HO.out _ (aH HC.out _)).mono ?_; rintro e w1 ⟨P, rfl, hl, hb⟩; have HB := aM hb; clear hl hb))
  go_ret2
  exact ⟨rfl, aA (bA (Below.refl _ _) _) HB.out⟩
 | true =>
  rw [if_pos rfl] at h2
  split at h2
  case isFalse => cases h2
  case isTrue hn =>
  obtain ⟨rfl, rfl⟩ := Prod.mk.inj (sI h2)
  have HN := aM hn
  clear h h1 h2 hr0_0 hc0_0 hn
  go_enter Try.func19, Try.ntmps19
  go_wp2_with (first | (go_at_call 35; refine (HO.out _ (aH HC.out _)).mono ?_; rintro e w1 ⟨P, rfl, hl, hb⟩; have HB := aM hb; have HL := aM hl; clear hl hb) | (go_at_call 36; refine (textOf_any t P _ _ HL.out HN.out.1 HN.out.2).mono ?_; rintro e w2 ⟨rfl, hb⟩; have HB2 := aM hb; clear hb))
  go_ret2
  exact ⟨rfl, aA (aA (bA (Below.refl _ _) _) HB.out) HB2.out⟩

/-! ### spec_l1Cur_among: function 70 -/
def spec_l1Cur_among.f (s0_0 : List Int) (s0_1 : Int) (s0_2 : Int) (l1 : List Int) : Option (Int × Int × Int) := (spec_l1Cur_pick.f s0_0 s0_1 s0_2 (l1.length : Int)).bind fun iG => (if 0 ≤ iG.1 then (if iG.1 < (l1.length : Int) then (some (rd l1 iG.1, iG.2.1, iG.2.2)) else (none)) else (none))
set_option maxHeartbeats 8000000 in
set_option maxRecDepth 100000 in
theorem spec_l1Cur_among.calls (g : Nat) (s0_0 : List Int) (s0_1 : Int) (s0_2 : Int) (A1 : Option Addr) (c1 : Nat) (l1 : List Int) (r1 : Int) (r2 : Int) (r3 : Int) (w0 w : World) (hI : IsS90 w0 w g s0_0 s0_1 s0_2) (hB : Below w0.heap.size w0 w) (hr1 : Kd.C (Kd.int .i64) w A1 l1.length l1) (hc1 : l1.length ≤ c1) (hf1 : ∀ ad, A1 = some ad → 0 < l1.length → ad.block ≠ g) (h : spec_l1Cur_among.f s0_0 s0_1 s0_2 l1 = some (r1, r2, r3)) :
  Calls Try.prog 70 #[.pointer (some ⟨g, 0, none⟩), .slice A1 l1.length c1] w fun e w' => e = .returned (.int .i64 r1) ∧ IsS90 w0 w' g s0_0 r2 r3 ∧ Below w0.heap.size w0 w' ∧ KeepBut w w' g none := by
 have je := aM hr1
 have gm := aM hc1
 clear hr1 hc1
 have HI0 := aM hI
 have HK := aM (KeepBut.refl w g none)
 have HL := aM hB.size
 clear hI
 have HW0 := aM hB.size
 have HB := aM hB
 clear hB
 have H : ((spec_l1Cur_pick.f s0_0 s0_1 s0_2 (l1.length : Int)).bind fun iG => (if 0 ≤ iG.1 then (if iG.1 < (l1.length : Int) then (some (rd l1 iG.1, iG.2.1, iG.2.2)) else (none)) else (none))) = some (r1, r2, r3) := h
 clear h
 obtain ⟨⟨nt, t400, t401⟩, A3, H⟩ := oA_ H
 try dsimp only at H
 by_cases c4 : 0 ≤ nt
 ·rw [if_pos c4] at H
  have c4b0 : decide (0 ≤ nt) = true := dT c4
  clear c4
  by_cases c5 : nt < (l1.length : Int)
  ·rw [if_pos c5] at H
   have c5b0 : decide (nt < (l1.length : Int)) = true := dT c5
   clear c5
   simp only [Option.some.injEq, Prod.mk.injEq] at H
   obtain ⟨rfl, rfl, rfl⟩ := H
   go_enter Try.func70, Try.ntmps70
   go_wp2_with (first | ((with_reducible refine aK (f := 66) rfl ?_); refine aT (some 9) rfl rfl Try.func66 z1 rfl #[.pointer (some ⟨g, 0, none⟩), .int .i64 (l1.length : Int)] rfl z33 ?_; (with_reducible refine (spec_l1Cur_pick.calls g s0_0 s0_1 s0_2 (l1.length : Int) nt t400 t401 w0 _ ?side1 ?side2 A3.out).mono ?_); (case side1 => exact y42); (case side2 => exact y35); rintro e w6 ⟨rfl, hi, hb, hk⟩; refine ⟨_, rfl, ?_⟩; replace HK := aM (KeepBut.trans z34 hk (.inl rfl)); replace HB := aM (hb); replace HI0 := aM (hi); (try clear hb); (try clear hk); (try clear hi); (try clear d7); have p402 : 0 ≤ (nt : Int) := oD z3; have q402 : nt < (l1.length : Int) := oD z3; obtain ⟨ad402, e402, hx402_0⟩ := Kd.at_int je.out nt p402 q402; cases e402; replace hx402_0 := keep_cell HK.out hx402_0 (by first | (rw [add_block]; exact hf1 _ rfl (by omega)) | exact hf1 _ rfl (by omega) | exact hf1 ad402 rfl (by omega)); replace p402 := eq_true p402; replace q402 := eq_true q402))
   go_ret
   exact ⟨y4, y19, y13, y14⟩
  ·rw [if_neg c5] at H
   exact absurd H (by simp)
 ·rw [if_neg c4] at H
  exact absurd H (by simp)

/-! ### spec_l1Cur_op: function 53 -/
def spec_l1Cur_op.j0 : Nat → List (S59) → Bool → List Int → Int → Int → Option ((List (S59)) × Int × Int)
 | 0, _, _, _, _, _ => none
 | k + 1, x3, x14, x1000, x1001, x1002 => if x14 = true then ((spec_l1Cur_pick.f x1000 x1001 x1002 4).bind fun iE => (if iE.1 = 0 then ((spec_l1Cur_pick.f x1000 iE.2.1 iE.2.2 (x3.length : Int)).bind fun lr => ((spec_l1Cur_pick.f x1000 lr.2.1 lr.2.2 5).bind fun qZ => (if 0 ≤ lr.1 then (if lr.1 < (x3.length : Int) then (some ((x3.set (lr.1 : Int).toNat (⟨wrap64 (qZ.1 - 1), (rd_T59 x3 lr.1).f1, (rd_T59 x3 lr.1).f2⟩ : S59)), qZ.2.1, qZ.2.2)) else (none)) else (none)))) else (if iE.1 = 1 then ((spec_l1Cur_pick.f x1000 iE.2.1 iE.2.2 (x3.length : Int)).bind fun lq => (if 0 ≤ lq.1 then (if lq.1 < (x3.length : Int) then (some ((x3.set (lq.1 : Int).toNat (⟨(rd_T59 x3 lq.1).f0, (⟨#[90]⟩ : ByteArray), (rd_T59 x3 lq.1).f2⟩ : S59)), lq.2.1, lq.2.2)) else (none)) else (none))) else (if iE.1 = 2 then (if x3.length < 3518437208883 then (some ((x3 ++ [(⟨0, (⟨#[]⟩ : ByteArray), (⟨#[]⟩ : ByteArray)⟩ : S59)]), iE.2.1, iE.2.2)) else (none)) else ((spec_l1Cur_among.f x1000 iE.2.1 iE.2.2 (([300, 301] : List Int))).bind fun lp => (if x3.length < 3518437208883 then (some ((x3 ++ [(⟨lp.1, (⟨#[]⟩ : ByteArray), (⟨#[]⟩ : ByteArray)⟩ : S59)]), lp.2.1, lp.2.2)) else (none))))))) else (some (x3, x1001, x1002))
def spec_l1Cur_op.f (k : Nat) (s0_0 : List Int) (s0_1 : Int) (s0_2 : Int) : Option ((List (S59)) × Int × Int) := (spec_l1Cur_plainText.f k s0_0 s0_1 s0_2).bind fun lu => ((spec_l1Cur_opOn.f k s0_0 lu.2.1 lu.2.2 lu.1).bind fun gN => (if (gN.1.length : Int) > 0 then ((spec_l1Cur_one.f s0_0 gN.2.1 gN.2.2 12).bind fun ls => (spec_l1Cur_op.j0 k gN.1 ls.1 s0_0 ls.2.1 ls.2.2)) else (spec_l1Cur_op.j0 k gN.1 false s0_0 gN.2.1 gN.2.2)))
theorem spec_l1Cur_op.mono_l : ∀ k, (∀ y0 y1 y2 y3 y4, LeO (spec_l1Cur_op.j0 k y0 y1 y2 y3 y4) (spec_l1Cur_op.j0 (k + 1) y0 y1 y2 y3 y4))
 | 0 => fun _ _ _ _ _ r h => by simp [spec_l1Cur_op.j0] at h
 | k + 1 => by
  have ih0 := spec_l1Cur_op.mono_l k
  ·intro y0 y1 y2 y3 y4
   unfold spec_l1Cur_op.j0
   repeat' first
   | (with_reducible exact ih0 _ _ _ _ _)
   | (with_reducible exact spec_l1Cur_opOn.mono _ _ _ _ _)
   | (with_reducible exact spec_l1Cur_plainText.mono _ _ _ _)
   | (with_reducible exact LeO.refl _)
   | (with_reducible exact LeO.none _)
   | (with_reducible refine LeO.ite ?_ ?_)
   | (with_reducible refine LeO.bind ?_ (fun _ => ?_))
theorem spec_l1Cur_op.mono : ∀ a0 a1 a2 k, LeO (spec_l1Cur_op.f k a0 a1 a2) (spec_l1Cur_op.f (k + 1) a0 a1 a2) := by
 intro a0 a1 a2 k
 have ih0 := spec_l1Cur_op.mono_l k
 unfold spec_l1Cur_op.f
 repeat' first
   | (with_reducible exact ih0 _ _ _ _ _)
   | (with_reducible exact spec_l1Cur_opOn.mono _ _ _ _ _)
   | (with_reducible exact spec_l1Cur_plainText.mono _ _ _ _)
   | (with_reducible exact LeO.refl _)
   | (with_reducible exact LeO.none _)
   | (with_reducible refine LeO.ite ?_ ?_)
   | (with_reducible refine LeO.bind ?_ (fun _ => ?_))
set_option maxHeartbeats 8000000 in
set_option maxRecDepth 100000 in
theorem spec_l1Cur_op.calls (k : Nat) (g : Nat) (s0_0 : List Int) (s0_1 : Int) (s0_2 : Int) (r1 : List (S59)) (r2 : Int) (r3 : Int) (w0 w : World) (hI : IsS90 w0 w g s0_0 s0_1 s0_2) (hB : Below w0.heap.size w0 w) (h : spec_l1Cur_op.f k s0_0 s0_1 s0_2 = some (r1, r2, r3)) :
  Calls Try.prog 53 #[.pointer (some ⟨g, 0, none⟩)] w fun e w' => ∃ v0_ : Value, e = .returned (v0_) ∧ Kd.R k59 59 w' w.heap.size (fun _ => True) v0_ r1 ∧ IsS90 w0 w' g s0_0 r2 r3 ∧ Below w0.heap.size w0 w' ∧ KeepBut w w' g none := by
 have hu59 := Try.underlying59
 have HI0 := aM hI
 have HK := aM (KeepBut.refl w g none)
 have HL := aM hB.size
 clear hI
 have HW0 := aM hB.size
 have HB := aM hB
 clear hB
 have H : ((spec_l1Cur_plainText.f k s0_0 s0_1 s0_2).bind fun lu => ((spec_l1Cur_opOn.f k s0_0 lu.2.1 lu.2.2 lu.1).bind fun gN => (if (gN.1.length : Int) > 0 then ((spec_l1Cur_one.f s0_0 gN.2.1 gN.2.2 12).bind fun ls => (spec_l1Cur_op.j0 k gN.1 ls.1 s0_0 ls.2.1 ls.2.2)) else (spec_l1Cur_op.j0 k gN.1 false s0_0 gN.2.1 gN.2.2)))) = some (r1, r2, r3) := h
 clear h
 obtain ⟨⟨tg, uy, ux⟩, A2, H⟩ := oA_ H
 try dsimp only at H
 obtain ⟨⟨dv, rK, rJ⟩, A3, H⟩ := oA_ H
 try dsimp only at H
 have r6 := aM H
 clear H
 go_enter Try.func53, Try.ntmps53
 go_upto_region 2 with (first | ((with_reducible refine aK (f := 68) rfl ?_); refine aT (some 6) rfl rfl Try.func68 z1 rfl #[.pointer (some ⟨g, 0, none⟩)] rfl z33 ?_; (with_reducible refine (spec_l1Cur_plainText.calls k g s0_0 s0_1 s0_2 tg uy ux w0 _ ?side1 ?side2 A2.out).mono ?_); (case side1 => exact y42); (case side2 => exact y35); rintro e w5 ⟨rfl, hi, hb, hk⟩; refine ⟨_, rfl, ?_⟩; replace HK := aM (KeepBut.trans z34 hk (.inl rfl)); replace HB := aM (hb); replace HI0 := aM (hi); (try clear hb); (try clear hk); (try clear hi); (try clear d7)) | ((with_reducible refine aK (f := 54) rfl ?_); refine aT (some 7) rfl rfl Try.func54 z1 rfl #[.pointer (some ⟨g, 0, none⟩), .string tg] rfl z33 ?_; (with_reducible refine (spec_l1Cur_opOn.calls k g s0_0 uy ux tg dv rK rJ w0 _ ?side1 ?side2 A3.out).mono ?_); (case side1 => exact y42); (case side2 => exact y35); rintro e w6 ⟨v407, rfl, ho0, hi, hb, hk⟩; refine ⟨_, rfl, ?_⟩; have lG := aM (aW ho0 (keep_size (w := w) (g := g) (row := none) z34)); replace HK := aM (KeepBut.trans z34 hk (.inl rfl)); replace HB := aM (hb); replace HI0 := aM (hi); (try clear hb); (try clear hk); (try clear hi); (try clear ho0); (try clear d7)))
 (try simp only [Act.put, sA, sB, sC])
 go_cut [14] (fun v14 wc => ∃ (kq : Nat) (x14_3 : Bool) (x1001_3 : Int) (x1002_3 : Int), v14 = .bool x14_3 ∧ Aside0 (spec_l1Cur_op.j0 kq dv x14_3 s0_0 x1001_3 x1002_3 = some (r1, r2, r3)) ∧ Aside0 (kq ≤ k) ∧ Aside0 (Kd.R k59 59 wc w.heap.size (fun _ => True) v407 dv) ∧ Aside0 (IsS90 w0 wc g s0_0 x1001_3 x1002_3) ∧ Aside0 (KeepBut w wc g none) ∧ Aside0 (Below w0.heap.size w0 wc))
 case first =>
  have H := r6.out
  clear r6
  by_cases c7 : (dv.length : Int) > 0
  ·rw [if_pos c7] at H
   have c7b0 : decide (0 < (dv.length : Int)) = true := dT c7
   have c7b1 : decide (0 < dv.length) = true := dT (by omega)
   clear c7
   (first | rw [c7b0] | (simp only [i64_w, i32_w]; rw [c7b0]) | skip)
   obtain ⟨⟨uw, uv, uu⟩, A8, H⟩ := oA_ H
   try dsimp only at H
   have H' := aM H
   clear H
   obtain ⟨vU, vQ, eo9⟩ := Kd.R_slice lG.out
   subst eo9
   go_wp2_with (first | (go_at_call 52; (with_reducible refine (spec_l1Cur_one.calls g s0_0 rK rJ 12 uw uv uu w0 _ ?side1 ?side2 A8.out).mono ?_); (case side1 => exact y42); (case side2 => exact y35); rintro e w10 ⟨rfl, hi, hb, hk⟩; replace lG := aM (ah (Kd.R_keep (IsS90.apart (show IsS90 w0 _ g s0_0 rK rJ from by (try simp only [Int.add_zero]); repeat (first | (with_reducible first | exact HI0.out | apply IsS90.alloc | apply IsS90.drewN | apply IsS90.drew | apply IsS90.set_1 | apply IsS90.set_2) | exact HI0.out)) (kR_ lG.out) z0) hk (fun _ h => h.2)) (fun _ h => h.1)); replace HK := aM (KeepBut.trans z34 hk (.inl rfl)); replace HB := aM (hb); replace HI0 := aM (hi); (try clear hb); (try clear hk); (try clear hi); (try clear d7)))
   go_meet
   case rel => exact ⟨_, (uw), (uv), (uu), z2, H', ⟨by first | omega | exact Nat.le_refl _⟩, ⟨kR_ lG.out⟩, ⟨y19⟩, ⟨y14⟩, ⟨y13⟩⟩
  ·rw [if_neg c7] at H
   have c7b0 : decide (0 < (dv.length : Int)) = false := dF c7
   have c7b1 : decide (0 < dv.length) = false := dF (by omega)
   clear c7
   (first | rw [c7b0] | (simp only [i64_w, i32_w]; rw [c7b0]) | skip)
   have H' := aM H
   clear H
   obtain ⟨Ao11, co11, eo11⟩ := Kd.R_slice lG.out
   subst eo11
   go_wp2
   go_meet
   case rel => exact ⟨_, (false), (rK), (rJ), z2, H', ⟨by first | omega | exact Nat.le_refl _⟩, ⟨kR_ lG.out⟩, ⟨y19⟩, ⟨y14⟩, ⟨y13⟩⟩
 case rest =>
  clear r6
  obtain ⟨kq, x14_3, x1001_3, x1002_3, rfl, HA, HJ3, du, HI0, HK, HB⟩ := hcut
  cases kq with
  | zero => exact absurd HA.out (by simp [spec_l1Cur_op.j0])
  | succ kj3 =>
   have H := HA.out
   clear HA
   simp only [spec_l1Cur_op.j0] at H
   by_cases gj : x14_3 = true
   ·subst gj
    rw [if_pos rfl] at H
    obtain ⟨⟨ij, jQ, jP⟩, s8, H⟩ := oA_ H
    try dsimp only at H
    by_cases gF : ij = 0
    ·rw [if_pos gF] at H
     have c14b0 : (ij == 0) = true := qT gF
     have c14b1 : (ij != 0) = false := nF gF
     clear gF
     obtain ⟨⟨f6, tf, te⟩, rE, H⟩ := oA_ H
     try dsimp only at H
     obtain ⟨⟨pV, ut, us⟩, vM, H⟩ := oA_ H
     try dsimp only at H
     by_cases gA : 0 ≤ f6
     ·rw [if_pos gA] at H
      have c17b0 : decide (0 ≤ f6) = true := dT gA
      clear gA
      by_cases hH : f6 < (dv.length : Int)
      ·rw [if_pos hH] at H
       have c18b0 : decide (f6 < (dv.length : Int)) = true := dT hH
       clear hH
       obtain ⟨y423, hy423⟩ : ∃ y_ : List (S59), y_ = (dv.set (f6 : Int).toNat (⟨wrap64 (pV - 1), (rd_T59 dv f6).f1, (rd_T59 dv f6).f2⟩ : S59)) := ⟨_, rfl⟩
       replace H : (some (y423, ut, us)) = some (r1, r2, r3) := by first | (rw [hy423]; with_reducible exact H) | (have H2_ := (Option.bind_some _ _).symm.trans H; rw [hy423]; with_reducible exact H2_) | (have H2_ := (Option.bind_some _ _).symm.trans H; with_reducible exact H2_) | with_reducible exact H | (rw [hy423]; exact H) | exact H
       have Ny423 := aM hy423
       clear hy423
       simp only [Option.some.injEq, Prod.mk.injEq] at H
       obtain ⟨rfl, rfl, rfl⟩ := H
       go_wp2_with (first | ((with_reducible refine aK (f := 66) rfl ?_); refine aT (some 16) rfl rfl Try.func66 z1 rfl #[.pointer (some ⟨g, 0, none⟩), .int .i64 4] rfl z33 ?_; (with_reducible refine (spec_l1Cur_pick.calls g s0_0 x1001_3 x1002_3 4 ij jQ jP w0 _ ?side1 ?side2 s8.out).mono ?_); (case side1 => exact y42); (case side2 => exact y35); rintro e w20 ⟨rfl, hi, hb, hk⟩; refine ⟨_, rfl, ?_⟩; replace du := aM (ah (Kd.R_keep (IsS90.apart (show IsS90 w0 _ g s0_0 x1001_3 x1002_3 from by (try simp only [Int.add_zero]); repeat (first | (with_reducible first | exact HI0.out | apply IsS90.alloc | apply IsS90.drewN | apply IsS90.drew | apply IsS90.set_1 | apply IsS90.set_2) | exact HI0.out)) z4 z0) hk (fun _ h => h.2)) (fun _ h => h.1)); replace HK := aM (KeepBut.trans z34 hk (.inl rfl)); replace HB := aM (hb); replace HI0 := aM (hi); (try clear hb); (try clear hk); (try clear hi); (try clear d7); obtain ⟨tW, qQ, eo21⟩ := Kd.R_slice du.out; subst eo21) | ((with_reducible refine aK (f := 66) rfl ?_); refine aT (some 30) rfl rfl Try.func66 z1 rfl #[.pointer (some ⟨g, 0, none⟩), .int .i64 (dv.length : Int)] rfl z33 ?_; (with_reducible refine (spec_l1Cur_pick.calls g s0_0 jQ jP (dv.length : Int) f6 tf te w0 _ ?side1 ?side2 rE.out).mono ?_); (case side1 => exact y42); (case side2 => exact y35); rintro e w22 ⟨rfl, hi, hb, hk⟩; refine ⟨_, rfl, ?_⟩; replace du := aM (ah (Kd.R_keep (IsS90.apart (show IsS90 w0 _ g s0_0 jQ jP from by (try simp only [Int.add_zero]); repeat (first | (with_reducible first | exact HI0.out | apply IsS90.alloc | apply IsS90.drewN | apply IsS90.drew | apply IsS90.set_1 | apply IsS90.set_2) | exact HI0.out)) z4 z0) hk (fun _ h => h.2)) (fun _ h => h.1)); replace HK := aM (KeepBut.trans z34 hk (.inl rfl)); replace HB := aM (hb); replace HI0 := aM (hi); (try clear hb); (try clear hk); (try clear hi); (try clear d7)) | ((with_reducible refine aK (f := 66) rfl ?_); refine aT (some 32) rfl rfl Try.func66 z1 rfl #[.pointer (some ⟨g, 0, none⟩), .int .i64 5] rfl z33 ?_; (with_reducible refine (spec_l1Cur_pick.calls g s0_0 tf te 5 pV ut us w0 _ ?side1 ?side2 vM.out).mono ?_); (case side1 => exact y42); (case side2 => exact y35); rintro e w23 ⟨rfl, hi, hb, hk⟩; refine ⟨_, rfl, ?_⟩; replace du := aM (ah (Kd.R_keep (IsS90.apart (show IsS90 w0 _ g s0_0 tf te from by (try simp only [Int.add_zero]); repeat (first | (with_reducible first | exact HI0.out | apply IsS90.alloc | apply IsS90.drewN | apply IsS90.drew | apply IsS90.set_1 | apply IsS90.set_2) | exact HI0.out)) z4 z0) hk (fun _ h => h.2)) (fun _ h => h.1)); replace HK := aM (KeepBut.trans z34 hk (.inl rfl)); replace HB := aM (hb); replace HI0 := aM (hi); (try clear hb); (try clear hk); (try clear hi); (try clear d7); have p19 : 0 ≤ (f6 : Int) := oD z3; have q19 : (f6 : Int) < ((dv.length : Int) : Int) := oD z3; obtain ⟨go19, jd, eo19, vp, gl19, cl19, HG19⟩ := Kd.R_form du.out (by omega); (first | cases eo19 | (injection eo19 with ea_ en_ ec_; (first | subst ea_ | (injection ea_ with ea_; subst ea_)); subst ec_; clear en_)); have GB19 := aM vp; have GG19 := aM HG19; clear vp gl19 HG19; obtain ⟨ce19, hcl19, hM19, hcc19, hfr19⟩ := Kd.R_elem du.out z59 (f6 : Int) p19 q19; obtain rfl := k59_openM hM19; have hx19_0 : w23.cell? ⟨go19, (f6 : Int).toNat * 3, none⟩ = some (.int .i64 ((rd_T59 dv f6).f0)) := hcc19 0 _ rfl; have hx19_1 : w23.cell? ⟨go19, (f6 : Int).toNat * 3 + 1, none⟩ = some (.string ((rd_T59 dv f6).f1)) := hcc19 1 _ rfl; have hx19_2 : w23.cell? ⟨go19, (f6 : Int).toNat * 3 + 2, none⟩ = some (.string ((rd_T59 dv f6).f2)) := hcc19 2 _ rfl; have hf19_0 : w23.frozen? ⟨go19, (f6 : Int).toNat * 3, none⟩ = false := hfr19 0; have hf19_1 : w23.frozen? ⟨go19, (f6 : Int).toNat * 3 + 1, none⟩ = false := hfr19 1; have hf19_2 : w23.frozen? ⟨go19, (f6 : Int).toNat * 3 + 2, none⟩ = false := hfr19 2; clear hcl19 hcc19 hfr19; (try clear hM19); replace p19 := eq_true p19; replace q19 := eq_true q19; have HX24 := aM (show Kd.R k59 59 w23 w.heap.size (fun _ => True) (.slice (some ⟨go19, 0, none⟩) dv.length qQ) dv from z4); obtain ⟨ce24, hcl24, hM24, hcc24, hfr24⟩ := Kd.R_elem HX24.out z59 (f6 : Int) (oD z3) (by have h_ : (f6 : Int) < ((dv.length : Int) : Int) := oD z3; first | exact h_ | (have e_ := (ai du.out).1; omega) | simpa using h_); obtain rfl := k59_openM hM24; have HP24 := Kd.R_seg HX24.out (f6 : Int) (oD z3) (by have h_ : (f6 : Int) < ((dv.length : Int) : Int) := oD z3; first | exact h_ | (have e_ := (ai du.out).1; omega) | simpa using h_) (seg := [.int .i64 (wrap64 (pV - 1))]) (j := 0) hcl24 hcc24 (show 1 ≤ 3 from by decide) (x' := (⟨wrap64 (pV - 1), (rd_T59 dv f6).f1, (rd_T59 dv f6).f2⟩ : S59)) (k59_mkM _ _ _ (⟨wrap64 (pV - 1), (rd_T59 dv f6).f1, (rd_T59 dv f6).f2⟩ : S59) ) (fun _ hk => hk); have hx24_0 := hcc24 0 _ rfl; (try simp only [show (k59).sz = 3 from rfl, Nat.mul_one, Nat.add_zero] at hx24_0); have hf24_0 := hfr24 0; (try simp only [show (k59).sz = 3 from rfl, Nat.mul_one, Nat.add_zero] at hf24_0); clear hcl24 hcc24 hfr24; (try clear hM24)) | ((with_reducible refine gate_store (t := 3) (p := 35) rfl ?_); refine store_event (t := 3) (p := 35) (v := ?vo_w25) (w1 := (w23.setCell ⟨go19, (f6 : Int).toNat * 3, none⟩ (.int .i64 (wrap64 (pV - 1))))) ?hg ?ho ?hn ?hr ?_; (case ho => rfl); (case hg => rfl); (case hn => rfl); (case hr => first | (go_simp; done) | (go_simp; rfl) | ((try simp only [aZ] at *); go_simp; first | done | rfl)); intro w25 hw; have hg : w23.grownBy w25 (some go19) := (by rw [hw]; exact HP24.2); have hp_ : Kd.R k59 59 w25 w.heap.size (fun _ => True) (.slice (some ⟨go19, 0, none⟩) dv.length qQ) y423 := (by rw [hw, Ny423.out]; exact HP24.1); clear HP24; replace HI0 := aM (IsS90.grown z42 hg (IsS90.own_ne HI0.out du.out z0)); replace HB := aM ((by rw [hw]; exact az (HB.out) (Nat.le_trans HL.out GB19.out) : Below w0.heap.size w0 w25)); replace HK := aM (KeepBut.trans z34 (KeepBut.of_grown hg g) (Kd.R_base2 du.out)); replace du := aM (hp_); clear hg hw hp_))
       go_ret
       exact ⟨_, y4, y6, y19, y13, y14⟩
      ·rw [if_neg hH] at H
       exact absurd H (by simp)
     ·rw [if_neg gA] at H
      exact absurd H (by simp)
    ·rw [if_neg gF] at H
     have c14b0 : (ij == 0) = false := qF gF
     have c14b1 : (ij != 0) = true := nT gF
     by_cases qe : ij = 1
     ·rw [if_pos qe] at H
      have c26b0 : (ij == 1) = true := qT qe
      have c26b1 : (ij != 1) = false := nF qe
      clear qe
      obtain ⟨⟨f5, ur, uq⟩, vX, H⟩ := oA_ H
      try dsimp only at H
      by_cases nm : 0 ≤ f5
      ·rw [if_pos nm] at H
       have c28b0 : decide (0 ≤ f5) = true := dT nm
       clear nm
       by_cases jO : f5 < (dv.length : Int)
       ·rw [if_pos jO] at H
        have c29b0 : decide (f5 < (dv.length : Int)) = true := dT jO
        clear jO
        obtain ⟨y427, hy427⟩ : ∃ y_ : List (S59), y_ = (dv.set (f5 : Int).toNat (⟨(rd_T59 dv f5).f0, (⟨#[90]⟩ : ByteArray), (rd_T59 dv f5).f2⟩ : S59)) := ⟨_, rfl⟩
        replace H : (some (y427, ur, uq)) = some (r1, r2, r3) := by first | (rw [hy427]; with_reducible exact H) | (have H2_ := (Option.bind_some _ _).symm.trans H; rw [hy427]; with_reducible exact H2_) | (have H2_ := (Option.bind_some _ _).symm.trans H; with_reducible exact H2_) | with_reducible exact H | (rw [hy427]; exact H) | exact H
        have Ny427 := aM hy427
        clear hy427
        simp only [Option.some.injEq, Prod.mk.injEq] at H
        obtain ⟨rfl, rfl, rfl⟩ := H
        go_wp2_with (first | ((with_reducible refine aK (f := 66) rfl ?_); refine aT (some 16) rfl rfl Try.func66 z1 rfl #[.pointer (some ⟨g, 0, none⟩), .int .i64 4] rfl z33 ?_; (with_reducible refine (spec_l1Cur_pick.calls g s0_0 x1001_3 x1002_3 4 ij jQ jP w0 _ ?side1 ?side2 s8.out).mono ?_); (case side1 => exact y42); (case side2 => exact y35); rintro e w31 ⟨rfl, hi, hb, hk⟩; refine ⟨_, rfl, ?_⟩; replace du := aM (ah (Kd.R_keep (IsS90.apart (show IsS90 w0 _ g s0_0 x1001_3 x1002_3 from by (try simp only [Int.add_zero]); repeat (first | (with_reducible first | exact HI0.out | apply IsS90.alloc | apply IsS90.drewN | apply IsS90.drew | apply IsS90.set_1 | apply IsS90.set_2) | exact HI0.out)) z4 z0) hk (fun _ h => h.2)) (fun _ h => h.1)); replace HK := aM (KeepBut.trans z34 hk (.inl rfl)); replace HB := aM (hb); replace HI0 := aM (hi); (try clear hb); (try clear hk); (try clear hi); (try clear d7); obtain ⟨Ao32, tM, eo32⟩ := Kd.R_slice du.out; subst eo32) | ((with_reducible refine aK (f := 66) rfl ?_); refine aT (some 42) rfl rfl Try.func66 z1 rfl #[.pointer (some ⟨g, 0, none⟩), .int .i64 (dv.length : Int)] rfl z33 ?_; (with_reducible refine (spec_l1Cur_pick.calls g s0_0 jQ jP (dv.length : Int) f5 ur uq w0 _ ?side1 ?side2 vX.out).mono ?_); (case side1 => exact y42); (case side2 => exact y35); rintro e w33 ⟨rfl, hi, hb, hk⟩; refine ⟨_, rfl, ?_⟩; replace du := aM (ah (Kd.R_keep (IsS90.apart (show IsS90 w0 _ g s0_0 jQ jP from by (try simp only [Int.add_zero]); repeat (first | (with_reducible first | exact HI0.out | apply IsS90.alloc | apply IsS90.drewN | apply IsS90.drew | apply IsS90.set_1 | apply IsS90.set_2) | exact HI0.out)) z4 z0) hk (fun _ h => h.2)) (fun _ h => h.1)); replace HK := aM (KeepBut.trans z34 hk (.inl rfl)); replace HB := aM (hb); replace HI0 := aM (hi); (try clear hb); (try clear hk); (try clear hi); (try clear d7); have p30 : 0 ≤ (f5 : Int) := oD z3; have q30 : (f5 : Int) < ((dv.length : Int) : Int) := oD z3; obtain ⟨go30, co30, eo30, vo, gl30, cl30, HG30⟩ := Kd.R_form du.out (by omega); (first | cases eo30 | (injection eo30 with ea_ en_ ec_; (first | subst ea_ | (injection ea_ with ea_; subst ea_)); subst ec_; clear en_)); have GB30 := aM vo; have GG30 := aM HG30; clear vo gl30 HG30; obtain ⟨ce30, hcl30, hM30, hcc30, hfr30⟩ := Kd.R_elem du.out z59 (f5 : Int) p30 q30; obtain rfl := k59_openM hM30; have hx30_0 : w33.cell? ⟨go30, (f5 : Int).toNat * 3, none⟩ = some (.int .i64 ((rd_T59 dv f5).f0)) := hcc30 0 _ rfl; have hx30_1 : w33.cell? ⟨go30, (f5 : Int).toNat * 3 + 1, none⟩ = some (.string ((rd_T59 dv f5).f1)) := hcc30 1 _ rfl; have hx30_2 : w33.cell? ⟨go30, (f5 : Int).toNat * 3 + 2, none⟩ = some (.string ((rd_T59 dv f5).f2)) := hcc30 2 _ rfl; have hf30_0 : w33.frozen? ⟨go30, (f5 : Int).toNat * 3, none⟩ = false := hfr30 0; have hf30_1 : w33.frozen? ⟨go30, (f5 : Int).toNat * 3 + 1, none⟩ = false := hfr30 1; have hf30_2 : w33.frozen? ⟨go30, (f5 : Int).toNat * 3 + 2, none⟩ = false := hfr30 2; clear hcl30 hcc30 hfr30; (try clear hM30); replace p30 := eq_true p30; replace q30 := eq_true q30; have HX34 := aM (show Kd.R k59 59 w33 w.heap.size (fun _ => True) (.slice (some ⟨go30, 0, none⟩) dv.length tM) dv from z4); obtain ⟨ce34, hcl34, hM34, hcc34, hfr34⟩ := Kd.R_elem HX34.out z59 (f5 : Int) (oD z3) (by have h_ : (f5 : Int) < ((dv.length : Int) : Int) := oD z3; first | exact h_ | (have e_ := (ai du.out).1; omega) | simpa using h_); obtain rfl := k59_openM hM34; have HP34 := Kd.R_seg HX34.out (f5 : Int) (oD z3) (by have h_ : (f5 : Int) < ((dv.length : Int) : Int) := oD z3; first | exact h_ | (have e_ := (ai du.out).1; omega) | simpa using h_) (seg := [.string (⟨#[90]⟩ : ByteArray)]) (j := 1) hcl34 hcc34 (show 2 ≤ 3 from by decide) (x' := (⟨(rd_T59 dv f5).f0, (⟨#[90]⟩ : ByteArray), (rd_T59 dv f5).f2⟩ : S59)) (k59_mkM _ _ _ (⟨(rd_T59 dv f5).f0, (⟨#[90]⟩ : ByteArray), (rd_T59 dv f5).f2⟩ : S59) ) (fun _ hk => hk); have hx34_1 := hcc34 1 _ rfl; (try simp only [show (k59).sz = 3 from rfl, Nat.mul_one, Nat.add_zero] at hx34_1); have hf34_1 := hfr34 1; (try simp only [show (k59).sz = 3 from rfl, Nat.mul_one, Nat.add_zero] at hf34_1); clear hcl34 hcc34 hfr34; (try clear hM34)) | ((with_reducible refine gate_store (t := 9) (p := 44) rfl ?_); refine store_event (t := 9) (p := 44) (v := ?vo_w35) (w1 := (w33.setCell ⟨go30, (f5 : Int).toNat * 3 + 1, none⟩ (.string (⟨#[90]⟩ : ByteArray)))) ?hg ?ho ?hn ?hr ?_; (case ho => rfl); (case hg => rfl); (case hn => rfl); (case hr => first | (go_simp; done) | (go_simp; rfl) | ((try simp only [aZ] at *); go_simp; first | done | rfl)); intro w35 hw; have hg : w33.grownBy w35 (some go30) := (by rw [hw]; exact HP34.2); have hp_ : Kd.R k59 59 w35 w.heap.size (fun _ => True) (.slice (some ⟨go30, 0, none⟩) dv.length tM) y427 := (by rw [hw, Ny427.out]; exact HP34.1); clear HP34; replace HI0 := aM (IsS90.grown z42 hg (IsS90.own_ne HI0.out du.out z0)); replace HB := aM ((by rw [hw]; exact az (HB.out) (Nat.le_trans HL.out GB30.out) : Below w0.heap.size w0 w35)); replace HK := aM (KeepBut.trans z34 (KeepBut.of_grown hg g) (Kd.R_base2 du.out)); replace du := aM (hp_); clear hg hw hp_))
        go_ret
        exact ⟨_, y4, y6, y19, y13, y14⟩
       ·rw [if_neg jO] at H
        exact absurd H (by simp)
      ·rw [if_neg nm] at H
       exact absurd H (by simp)
     ·rw [if_neg qe] at H
      have c26b0 : (ij == 1) = false := qF qe
      have c26b1 : (ij != 1) = true := nT qe
      by_cases qm : ij = 2
      ·rw [if_pos qm] at H
       have c36b0 : (ij == 2) = true := qT qm
       have c36b1 : (ij != 2) = false := nF qm
       clear qm
       by_cases rT : dv.length < 3518437208883
       ·rw [if_pos rT] at H
        have LMc37 := aM rT
        clear rT
        obtain ⟨y428, hy428⟩ : ∃ y_ : List (S59), y_ = (dv ++ [(⟨0, (⟨#[]⟩ : ByteArray), (⟨#[]⟩ : ByteArray)⟩ : S59)]) := ⟨_, rfl⟩
        replace H : (some (y428, jQ, jP)) = some (r1, r2, r3) := by first | (rw [hy428]; with_reducible exact H) | (have H2_ := (Option.bind_some _ _).symm.trans H; rw [hy428]; with_reducible exact H2_) | (have H2_ := (Option.bind_some _ _).symm.trans H; with_reducible exact H2_) | with_reducible exact H | (rw [hy428]; exact H) | exact H
        have Ny428 := aM hy428
        clear hy428
        simp only [Option.some.injEq, Prod.mk.injEq] at H
        obtain ⟨rfl, rfl, rfl⟩ := H
        go_wp2_with (first | ((with_reducible refine aK (f := 66) rfl ?_); refine aT (some 16) rfl rfl Try.func66 z1 rfl #[.pointer (some ⟨g, 0, none⟩), .int .i64 4] rfl z33 ?_; (with_reducible refine (spec_l1Cur_pick.calls g s0_0 x1001_3 x1002_3 4 ij jQ jP w0 _ ?side1 ?side2 s8.out).mono ?_); (case side1 => exact y42); (case side2 => exact y35); rintro e w38 ⟨rfl, hi, hb, hk⟩; refine ⟨_, rfl, ?_⟩; replace du := aM (ah (Kd.R_keep (IsS90.apart (show IsS90 w0 _ g s0_0 x1001_3 x1002_3 from by (try simp only [Int.add_zero]); repeat (first | (with_reducible first | exact HI0.out | apply IsS90.alloc | apply IsS90.drewN | apply IsS90.drew | apply IsS90.set_1 | apply IsS90.set_2) | exact HI0.out)) z4 z0) hk (fun _ h => h.2)) (fun _ h => h.1)); replace HK := aM (KeepBut.trans z34 hk (.inl rfl)); replace HB := aM (hb); replace HI0 := aM (hi); (try clear hb); (try clear hk); (try clear hi); (try clear d7)) | ((with_reducible refine gate_builtin (b := .append) (xs := #[.tmp 47, .tmp 49]) rfl ?_); at_builtin; refine aX k59 w.heap.size rfl (.tmp 47) (.tmp 49) 34 59 (.agg #[(.int .i64 0), (.string ⟨#[]⟩), (.string ⟨#[]⟩)]) 40 rfl Try.underlying34 info59 rfl z0 (by omega) v407 dv (⟨0, (⟨#[]⟩ : ByteArray), (⟨#[]⟩ : ByteArray)⟩ : S59) [.int .i64 0, .string ⟨#[]⟩, .string ⟨#[]⟩] (fun _ => True) (fun _ => False) rfl rfl ?aP (fun _ hk => hk.elim) ?aF ?aO (Below.refl _ _) ?aS ?aL ?_; (case aP => exact k59_mkM _ _ _ (⟨0, (⟨#[]⟩ : ByteArray), (⟨#[]⟩ : ByteArray)⟩ : S59)); (case aF => exact (fun _ _ => trivial)); (case aO => exact z4); (case aS => exact (keep_size (w := w) (g := g) (row := none) z34)); (case aL => have := LMc37.out; omega); intro v429 w39 ho hb hg hat; rw [← Ny428.out] at ho; replace HB := aM (below_weaken z41 HL.out hb); replace HI0 := aM (IsS90.grown z42 hg (IsS90.own_ne HI0.out du.out z0)); replace HK := aM (KeepBut.trans z34 (KeepBut.of_grown hg g) (Kd.R_base2 du.out)); have HO430 := aM (ho); clear du; clear ho hb hg hat))
        go_ret
        exact ⟨_, y4, by (with_reducible repeat (first | apply ae | apply ac | apply aa)); exact HO430.out, y19, y13, y14⟩
       ·rw [if_neg rT] at H
        exact absurd H (by simp)
      ·rw [if_neg qm] at H
       have c36b0 : (ij == 2) = false := qF qm
       have c36b1 : (ij != 2) = true := nT qm
       obtain ⟨y431, hy431⟩ : ∃ y_ : List Int, y_ = (([300, 301] : List Int)) := ⟨_, rfl⟩
       replace H : ((spec_l1Cur_among.f s0_0 jQ jP y431).bind fun lp => (if dv.length < 3518437208883 then (some ((dv ++ [(⟨lp.1, (⟨#[]⟩ : ByteArray), (⟨#[]⟩ : ByteArray)⟩ : S59)]), lp.2.1, lp.2.2)) else (none))) = some (r1, r2, r3) := by first | (rw [hy431]; with_reducible exact H) | (have H2_ := (Option.bind_some _ _).symm.trans H; rw [hy431]; with_reducible exact H2_) | (have H2_ := (Option.bind_some _ _).symm.trans H; with_reducible exact H2_) | with_reducible exact H | (rw [hy431]; exact H) | exact H
       have Ny431 := aM hy431
       clear hy431
       obtain ⟨⟨qo, uo, un⟩, lV, H⟩ := oA_ H
       try dsimp only at H
       by_cases ql : dv.length < 3518437208883
       ·rw [if_pos ql] at H
        have LMc41 := aM ql
        clear ql
        obtain ⟨y437, hy437⟩ : ∃ y_ : List (S59), y_ = (dv ++ [(⟨qo, (⟨#[]⟩ : ByteArray), (⟨#[]⟩ : ByteArray)⟩ : S59)]) := ⟨_, rfl⟩
        replace H : (some (y437, uo, un)) = some (r1, r2, r3) := by first | (rw [hy437]; with_reducible exact H) | (have H2_ := (Option.bind_some _ _).symm.trans H; rw [hy437]; with_reducible exact H2_) | (have H2_ := (Option.bind_some _ _).symm.trans H; with_reducible exact H2_) | with_reducible exact H | (rw [hy437]; exact H) | exact H
        have Ny437 := aM hy437
        clear hy437
        simp only [Option.some.injEq, Prod.mk.injEq] at H
        obtain ⟨rfl, rfl, rfl⟩ := H
        go_wp2_with (first | ((with_reducible refine aK (f := 66) rfl ?_); refine aT (some 16) rfl rfl Try.func66 z1 rfl #[.pointer (some ⟨g, 0, none⟩), .int .i64 4] rfl z33 ?_; (with_reducible refine (spec_l1Cur_pick.calls g s0_0 x1001_3 x1002_3 4 ij jQ jP w0 _ ?side1 ?side2 s8.out).mono ?_); (case side1 => exact y42); (case side2 => exact y35); rintro e w42 ⟨rfl, hi, hb, hk⟩; refine ⟨_, rfl, ?_⟩; replace du := aM (ah (Kd.R_keep (IsS90.apart (show IsS90 w0 _ g s0_0 x1001_3 x1002_3 from by (try simp only [Int.add_zero]); repeat (first | (with_reducible first | exact HI0.out | apply IsS90.alloc | apply IsS90.drewN | apply IsS90.drew | apply IsS90.set_1 | apply IsS90.set_2) | exact HI0.out)) z4 z0) hk (fun _ h => h.2)) (fun _ h => h.1)); replace HK := aM (KeepBut.trans z34 hk (.inl rfl)); replace HB := aM (hb); replace HI0 := aM (hi); (try clear hb); (try clear hk); (try clear hi); (try clear d7)) | ((with_reducible refine aN (N := 19) rfl ?_); refine Kd.R_lit (Kd.int .i64) _ 3 ?hg (N := 19) ?hd (xs := ([300, 301] : List Int)) (inner := [.int .i64 300, .int .i64 301]) (ok := fun _ => True) (okp := fun _ => True) ?hr ?hp (fun _ hk => hk) trivial (Below.refl _ _) (Nat.le_refl _) (by simp) ?_; (case hd => rfl); (case hg => rfl); (case hr => first | (go_simp; done) | (go_simp; rfl)); (case hp => exact (Reps.one (show Kd.M (Kd.int .i64) _ _ _ 300 [.int .i64 300] from rfl) (Reps.one (show Kd.M (Kd.int .i64) _ _ _ 301 [.int .i64 301] from rfl) (Reps.none _ _)))); intro v432 w43 ho44 hb hg_ hnew_; clear hg_ hnew_; (first | rw [← Ny431.out] at ho44 | (simp only [Int.reduceToNat] at ho44; rw [← Ny431.out] at ho44)); replace du := aM (ag z4 hb); have i2 := aM (aW ho44 (keep_size (w := w) (g := g) (row := none) z34)); replace HK := aM (KeepBut.trans z34 (KeepBut.of_below hb g none) (.inl rfl)); replace HB := aM (aA z41 hb); replace HI0 := aM (IsS90.below z42 hb); clear hb ho44; obtain ⟨cj, ci, eo45⟩ := Kd.R_slice i2.out; subst eo45) | ((with_reducible refine aK (f := 70) rfl ?_); refine aT (some 20) rfl rfl Try.func70 z1 rfl #[.pointer (some ⟨g, 0, none⟩), .slice cj y431.length ci] rfl z33 ?_; (with_reducible refine (spec_l1Cur_among.calls g s0_0 jQ jP _ _ y431 qo uo un w0 _ ?side1 ?side2 ?side3 ?side4 ?side5 lV.out).mono ?_); (case side1 => exact y42); (case side2 => exact y35); (case side3 => repeat (first | exact (ai i2.out).2.2 | (with_reducible refine aH ?_ _) | (with_reducible refine aI ?_ _) | (with_reducible refine aJ ?_))); (case side4 => exact (ai i2.out).2.1); (case side5 => exact far_slice (IsS90.own_ne HI0.out i2.out z0)); rintro e w46 ⟨rfl, hi, hb, hk⟩; refine ⟨_, rfl, ?_⟩; replace du := aM (ah (Kd.R_keep (IsS90.apart (show IsS90 w0 _ g s0_0 jQ jP from by (try simp only [Int.add_zero]); repeat (first | (with_reducible first | exact HI0.out | apply IsS90.alloc | apply IsS90.drewN | apply IsS90.drew | apply IsS90.set_1 | apply IsS90.set_2) | exact HI0.out)) z4 z0) hk (fun _ h => h.2)) (fun _ h => h.1)); replace i2 := aM (ah (Kd.R_keep (IsS90.apart (show IsS90 w0 _ g s0_0 jQ jP from by (try simp only [Int.add_zero]); repeat (first | (with_reducible first | exact HI0.out | apply IsS90.alloc | apply IsS90.drewN | apply IsS90.drew | apply IsS90.set_1 | apply IsS90.set_2) | exact HI0.out)) (kR_ i2.out) z0) hk (fun _ h => h.2)) (fun _ h => h.1)); replace HK := aM (KeepBut.trans z34 hk (.inl rfl)); replace HB := aM (hb); replace HI0 := aM (hi); (try clear hb); (try clear hk); (try clear hi); (try clear d7)) | ((with_reducible refine gate_builtin (b := .append) (xs := #[.tmp 17, .tmp 22]) rfl ?_); at_builtin; refine aX k59 w.heap.size rfl (.tmp 17) (.tmp 22) 34 59 (.agg #[(.int .i64 0), (.string ⟨#[]⟩), (.string ⟨#[]⟩)]) 40 rfl Try.underlying34 info59 rfl z0 (by omega) v407 dv (⟨qo, (⟨#[]⟩ : ByteArray), (⟨#[]⟩ : ByteArray)⟩ : S59) [.int .i64 qo, .string ⟨#[]⟩, .string ⟨#[]⟩] (fun _ => True) (fun _ => False) rfl rfl ?aP (fun _ hk => hk.elim) ?aF ?aO (Below.refl _ _) ?aS ?aL ?_; (case aP => exact k59_mkM _ _ _ (⟨qo, (⟨#[]⟩ : ByteArray), (⟨#[]⟩ : ByteArray)⟩ : S59)); (case aF => exact (fun _ _ => trivial)); (case aO => exact z4); (case aS => exact (keep_size (w := w) (g := g) (row := none) z34)); (case aL => have := LMc41.out; omega); intro v438 w47 ho hb hg hat; rw [← Ny437.out] at ho; replace i2 := aM (Kd.R_over' (kR_ i2.out) (Kd.R_typed z4) z0 hg); replace HB := aM (below_weaken z41 HL.out hb); replace HI0 := aM (IsS90.grown z42 hg (IsS90.own_ne HI0.out du.out z0)); replace HK := aM (KeepBut.trans z34 (KeepBut.of_grown hg g) (Kd.R_base2 du.out)); have HO439 := aM (ho); clear du; clear ho hb hg hat))
        go_ret
        exact ⟨_, y4, by (with_reducible repeat (first | apply ae | apply ac | apply aa)); exact HO439.out, y19, y13, y14⟩
       ·rw [if_neg ql] at H
        exact absurd H (by simp)
   ·replace gj := Bool.eq_false_iff.mpr gj
    subst gj
    rw [if_neg nF_] at H
    simp only [Option.some.injEq, Prod.mk.injEq] at H
    obtain ⟨rfl, rfl, rfl⟩ := H
    go_wp2
    go_ret
    exact ⟨_, y4, y6, y19, y13, y14⟩

end Go.Proofs.Ytblnnbaeiggmoaa.AFnSplit
