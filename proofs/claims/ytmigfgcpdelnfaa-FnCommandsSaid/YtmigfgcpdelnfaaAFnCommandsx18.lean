-- this session's own text: written by wip/tools/ownprint.py over the kit's print
import Derived.Test.YtmigfgcpdelnfaaAFnCommandsx0
import Derived.Test.YtmigfgcpdelnfaaAFnCommandsx2
import Derived.Test.YtmigfgcpdelnfaaAFnCommandsx3
import Derived.Test.YtmigfgcpdelnfaaAFnCommandsx15
namespace Go.Proofs.Ytmigfgcpdelnfaa.AFnCommands
open Go.RowKit Go.Proofs.YtmigfgcpdelnfaaW.PrintWords Go.Proofs.YtmigfgcpdelnfaaW.PrintLast Go.Proofs.YtmigfgcpdelnfaaW.PrintMore
attribute [local go_sem] max2_int min2_int max_two min_two max_three min_three max_four min_four   -- for this text's walks alone
set_option linter.unusedVariables false
set_option linter.unusedSimpArgs false

/-! ### spec_l1Cur_command: function 43 -/
mutual
def spec_l1Cur_command.j5 : Nat → List Int → Int → Int → Int → Int → Int → ByteArray → Option (Int × Int × Int × ByteArray × Int × Int)
 | 0, _, _, _, _, _, _, _ => none
 | k + 1, x1000, x1001, x1002, x513000, x513001, x513002, x513003 => (spec_l1Cur_one.f x1000 x1001 x1002 40).bind fun lL => (if lL.1 = true then ((spec_l1Cur_pick.f x1000 lL.2.1 lL.2.2 11).bind fun qr => ((spec_l1Cur_pick.f x1000 qr.2.1 qr.2.2 9).bind fun qq => ((spec_l1Cur_pick.f x1000 qq.2.1 qq.2.2 9).bind fun qp => ((spec_l1Cur_of.f x1000 qp.2.1 qp.2.2 (([(⟨#[]⟩ : ByteArray), (⟨#[90]⟩ : ByteArray), (⟨#[65]⟩ : ByteArray)] : List ByteArray))).bind fun i9 => (some (wrap64 (qr.1 - 1), wrap64 (qq.1 - 1), wrap64 (qp.1 - 1), i9.1, i9.2.1, i9.2.2)))))) else (some (x513000, x513001, x513002, x513003, lL.2.1, lL.2.2)))
def spec_l1Cur_command.j0 : Nat → ByteArray → Int → Bool → List Int → Int → Int → Int → Int → Int → ByteArray → Option (Int × Int × Int × ByteArray × Int × Int)
 | 0, _, _, _, _, _, _, _, _, _, _ => none
 | k + 1, x1, x24, x25, x1000, x1001, x1002, x513000, x513001, x513002, x513003 => if x25 = true then (if x513001 < (x1.size : Int) then (if 0 ≤ x513001 then ((spec_l1Open.f (bt x1 x513001)).bind fun sM => (if sM = true then ((spec_GoodDoc.f k x1).bind fun sL => (if sL = true then ((spec_l1Cur_one.f x1000 x1001 x1002 2).bind fun qw => (spec_l1Cur_command.j1 k x1 qw.1 x1000 qw.2.1 qw.2.2 x513000 x513001 x513002 x513003)) else (spec_l1Cur_command.j1 k x1 false x1000 x1001 x1002 x513000 x513001 x513002 x513003))) else (spec_l1Cur_command.j1 k x1 false x1000 x1001 x1002 x513000 x513001 x513002 x513003))) else (none)) else (spec_l1Cur_command.j1 k x1 false x1000 x1001 x1002 x513000 x513001 x513002 x513003)) else (if x24 = 4 then (spec_l1Cur_command.j2 k x1 (x24 == 4) x1000 x1001 x1002 x513000 x513001 x513002 x513003) else (if x24 = 8 then (spec_l1Cur_command.j2 k x1 (x24 == 8) x1000 x1001 x1002 x513000 x513001 x513002 x513003) else (if x24 = 7 then (spec_l1Cur_command.j2 k x1 (x24 == 7) x1000 x1001 x1002 x513000 x513001 x513002 x513003) else (spec_l1Cur_command.j2 k x1 (x24 == 6) x1000 x1001 x1002 x513000 x513001 x513002 x513003))))
def spec_l1Cur_command.j1 : Nat → ByteArray → Bool → List Int → Int → Int → Int → Int → Int → ByteArray → Option (Int × Int × Int × ByteArray × Int × Int)
 | 0, _, _, _, _, _, _, _, _, _ => none
 | k + 1, x1, x47, x1000, x1001, x1002, x513000, x513001, x513002, x513003 => if x47 = true then ((spec_l1Match.f k x1 x513001).bind fun rx => (spec_l1Cur_command.j5 k x1000 x1001 x1002 x513000 x513001 (wrap64 (rx + 1)) x513003)) else ((spec_l1Cur_pick.f x1000 x1001 x1002 4).bind fun qv => (spec_l1Cur_command.j5 k x1000 qv.2.1 qv.2.2 x513000 x513001 (wrap64 (x513001 + qv.1)) x513003))
def spec_l1Cur_command.j2 : Nat → ByteArray → Bool → List Int → Int → Int → Int → Int → Int → ByteArray → Option (Int × Int × Int × ByteArray × Int × Int)
 | 0, _, _, _, _, _, _, _, _, _ => none
 | k + 1, x1, x60, x1000, x1001, x1002, x513000, x513001, x513002, x513003 => if x60 = true then (spec_l1Cur_command.l0 k x1 ([] : List Int) 0 x1000 x1001 x1002 x513000 x513001 x513002 x513003) else (spec_l1Cur_command.j5 k x1000 x1001 x1002 x513000 x513001 x513002 x513003)
def spec_l1Cur_command.l0 : Nat → ByteArray → List Int → Int → List Int → Int → Int → Int → Int → Int → ByteArray → Option (Int × Int × Int × ByteArray × Int × Int)
 | 0, _, _, _, _, _, _, _, _, _, _ => none
 | k + 1, x1, x6, x7, x1000, x1001, x1002, x513000, x513001, x513002, x513003 => if x7 < (x1.size : Int) then (if 0 ≤ x7 then ((spec_l1Open.f (bt x1 x7)).bind fun sK => (if sK = true then (if x513000 = 6 then (if x7 > 0 then (if 0 ≤ (wrap64 (x7 - 1)) then (if (wrap64 (x7 - 1)) < (x1.size : Int) then (if (bt x1 (wrap64 (x7 - 1))) = 47 then (if x6.length < 17592186044416 then (spec_l1Cur_command.l0 k x1 (x6 ++ [x7]) (wrap64 (x7 + 1)) x1000 x1001 x1002 x513000 x513001 x513002 x513003) else (none)) else (spec_l1Cur_command.l0 k x1 x6 (wrap64 (x7 + 1)) x1000 x1001 x1002 x513000 x513001 x513002 x513003)) else (none)) else (none)) else (spec_l1Cur_command.l0 k x1 x6 (wrap64 (x7 + 1)) x1000 x1001 x1002 x513000 x513001 x513002 x513003)) else (if x6.length < 17592186044416 then (spec_l1Cur_command.l0 k x1 (x6 ++ [x7]) (wrap64 (x7 + 1)) x1000 x1001 x1002 x513000 x513001 x513002 x513003) else (none))) else (spec_l1Cur_command.l0 k x1 x6 (wrap64 (x7 + 1)) x1000 x1001 x1002 x513000 x513001 x513002 x513003))) else (none)) else (if (x6.length : Int) > 0 then ((spec_l1Cur_one.f x1000 x1001 x1002 8).bind fun qu => (spec_l1Cur_command.j4 k x1 x6 (!qu.1) x1000 qu.2.1 qu.2.2 x513000 x513001 x513002 x513003)) else (spec_l1Cur_command.j4 k x1 x6 false x1000 x1001 x1002 x513000 x513001 x513002 x513003))
def spec_l1Cur_command.j4 : Nat → ByteArray → List Int → Bool → List Int → Int → Int → Int → Int → Int → ByteArray → Option (Int × Int × Int × ByteArray × Int × Int)
 | 0, _, _, _, _, _, _, _, _, _, _ => none
 | k + 1, x1, x6, x102, x1000, x1001, x1002, x513000, x513001, x513002, x513003 => if x102 = true then ((spec_l1Cur_pick.f x1000 x1001 x1002 (x6.length : Int)).bind fun lM => (if 0 ≤ lM.1 then (if lM.1 < (x6.length : Int) then ((spec_l1Cur_pick.f x1000 lM.2.1 lM.2.2 (wrap64 ((x1.size : Int) + 1))).bind fun qt => (spec_l1Cur_command.j5 k x1000 qt.2.1 qt.2.2 x513000 (rd x6 lM.1) qt.1 x513003)) else (none)) else (none))) else ((spec_l1Cur_pick.f x1000 x1001 x1002 (wrap64 ((x1.size : Int) + 1))).bind fun qs => (spec_l1Cur_command.j5 k x1000 qs.2.1 qs.2.2 x513000 x513001 qs.1 x513003))
end
def spec_l1Cur_command.f (k : Nat) (s0_0 : List Int) (s0_1 : Int) (s0_2 : Int) (a1 : ByteArray) : Option (Int × Int × Int × ByteArray × Int × Int) := (spec_l1Cur_pick.f s0_0 s0_1 s0_2 8).bind fun dn => ((spec_l1Cur_pick.f s0_0 dn.2.1 dn.2.2 (wrap64 ((a1.size : Int) + 1))).bind fun eK => ((spec_l1Cur_of.f s0_0 eK.2.1 eK.2.2 (([(⟨#[65]⟩ : ByteArray), (⟨#[66]⟩ : ByteArray), (⟨#[120]⟩ : ByteArray), (⟨#[67]⟩ : ByteArray), (⟨#[65, 121, 47]⟩ : ByteArray)] : List ByteArray))).bind fun db => (if (wrap64 (1 + dn.1)) = 2 then (spec_l1Cur_command.j0 k a1 (wrap64 (1 + dn.1)) ((wrap64 (1 + dn.1)) == 2) s0_0 db.2.1 db.2.2 (wrap64 (1 + dn.1)) eK.1 eK.1 db.1) else (spec_l1Cur_command.j0 k a1 (wrap64 (1 + dn.1)) ((wrap64 (1 + dn.1)) == 3) s0_0 db.2.1 db.2.2 (wrap64 (1 + dn.1)) eK.1 eK.1 db.1))))
theorem spec_l1Cur_command.mono_l : ∀ k, (∀ y0 y1 y2 y3 y4 y5 y6, LeO (spec_l1Cur_command.j5 k y0 y1 y2 y3 y4 y5 y6) (spec_l1Cur_command.j5 (k + 1) y0 y1 y2 y3 y4 y5 y6)) ∧ (∀ y0 y1 y2 y3 y4 y5 y6 y7 y8 y9, LeO (spec_l1Cur_command.j0 k y0 y1 y2 y3 y4 y5 y6 y7 y8 y9) (spec_l1Cur_command.j0 (k + 1) y0 y1 y2 y3 y4 y5 y6 y7 y8 y9)) ∧ (∀ y0 y1 y2 y3 y4 y5 y6 y7 y8, LeO (spec_l1Cur_command.j1 k y0 y1 y2 y3 y4 y5 y6 y7 y8) (spec_l1Cur_command.j1 (k + 1) y0 y1 y2 y3 y4 y5 y6 y7 y8)) ∧ (∀ y0 y1 y2 y3 y4 y5 y6 y7 y8, LeO (spec_l1Cur_command.j2 k y0 y1 y2 y3 y4 y5 y6 y7 y8) (spec_l1Cur_command.j2 (k + 1) y0 y1 y2 y3 y4 y5 y6 y7 y8)) ∧ (∀ y0 y1 y2 y3 y4 y5 y6 y7 y8 y9, LeO (spec_l1Cur_command.l0 k y0 y1 y2 y3 y4 y5 y6 y7 y8 y9) (spec_l1Cur_command.l0 (k + 1) y0 y1 y2 y3 y4 y5 y6 y7 y8 y9)) ∧ (∀ y0 y1 y2 y3 y4 y5 y6 y7 y8 y9, LeO (spec_l1Cur_command.j4 k y0 y1 y2 y3 y4 y5 y6 y7 y8 y9) (spec_l1Cur_command.j4 (k + 1) y0 y1 y2 y3 y4 y5 y6 y7 y8 y9))
 | 0 => ⟨fun _ _ _ _ _ _ _ r h => by simp [spec_l1Cur_command.j5] at h, fun _ _ _ _ _ _ _ _ _ _ r h => by simp [spec_l1Cur_command.j0] at h, fun _ _ _ _ _ _ _ _ _ r h => by simp [spec_l1Cur_command.j1] at h, fun _ _ _ _ _ _ _ _ _ r h => by simp [spec_l1Cur_command.j2] at h, fun _ _ _ _ _ _ _ _ _ _ r h => by simp [spec_l1Cur_command.l0] at h, fun _ _ _ _ _ _ _ _ _ _ r h => by simp [spec_l1Cur_command.j4] at h⟩
 | k + 1 => by
  obtain ⟨ih0, ih1, ih2, ih3, ih4, ih5⟩ := spec_l1Cur_command.mono_l k
  refine ⟨?_, ?_, ?_, ?_, ?_, ?_⟩
  ·intro y0 y1 y2 y3 y4 y5 y6
   unfold spec_l1Cur_command.j5
   repeat' first
   | (with_reducible exact ih0 _ _ _ _ _ _ _)
   | (with_reducible exact ih1 _ _ _ _ _ _ _ _ _ _)
   | (with_reducible exact ih2 _ _ _ _ _ _ _ _ _)
   | (with_reducible exact ih3 _ _ _ _ _ _ _ _ _)
   | (with_reducible exact ih4 _ _ _ _ _ _ _ _ _ _)
   | (with_reducible exact ih5 _ _ _ _ _ _ _ _ _ _)
   | (with_reducible exact spec_GoodDoc.mono _ _)
   | (with_reducible exact spec_l1Match.mono _ _ _)
   | (with_reducible exact LeO.refl _)
   | (with_reducible exact LeO.none _)
   | (with_reducible refine LeO.ite ?_ ?_)
   | (with_reducible refine LeO.bind ?_ (fun _ => ?_))
  ·intro y0 y1 y2 y3 y4 y5 y6 y7 y8 y9
   unfold spec_l1Cur_command.j0
   repeat' first
   | (with_reducible exact ih0 _ _ _ _ _ _ _)
   | (with_reducible exact ih1 _ _ _ _ _ _ _ _ _ _)
   | (with_reducible exact ih2 _ _ _ _ _ _ _ _ _)
   | (with_reducible exact ih3 _ _ _ _ _ _ _ _ _)
   | (with_reducible exact ih4 _ _ _ _ _ _ _ _ _ _)
   | (with_reducible exact ih5 _ _ _ _ _ _ _ _ _ _)
   | (with_reducible exact spec_GoodDoc.mono _ _)
   | (with_reducible exact spec_l1Match.mono _ _ _)
   | (with_reducible exact LeO.refl _)
   | (with_reducible exact LeO.none _)
   | (with_reducible refine LeO.ite ?_ ?_)
   | (with_reducible refine LeO.bind ?_ (fun _ => ?_))
  ·intro y0 y1 y2 y3 y4 y5 y6 y7 y8
   unfold spec_l1Cur_command.j1
   repeat' first
   | (with_reducible exact ih0 _ _ _ _ _ _ _)
   | (with_reducible exact ih1 _ _ _ _ _ _ _ _ _ _)
   | (with_reducible exact ih2 _ _ _ _ _ _ _ _ _)
   | (with_reducible exact ih3 _ _ _ _ _ _ _ _ _)
   | (with_reducible exact ih4 _ _ _ _ _ _ _ _ _ _)
   | (with_reducible exact ih5 _ _ _ _ _ _ _ _ _ _)
   | (with_reducible exact spec_GoodDoc.mono _ _)
   | (with_reducible exact spec_l1Match.mono _ _ _)
   | (with_reducible exact LeO.refl _)
   | (with_reducible exact LeO.none _)
   | (with_reducible refine LeO.ite ?_ ?_)
   | (with_reducible refine LeO.bind ?_ (fun _ => ?_))
  ·intro y0 y1 y2 y3 y4 y5 y6 y7 y8
   unfold spec_l1Cur_command.j2
   repeat' first
   | (with_reducible exact ih0 _ _ _ _ _ _ _)
   | (with_reducible exact ih1 _ _ _ _ _ _ _ _ _ _)
   | (with_reducible exact ih2 _ _ _ _ _ _ _ _ _)
   | (with_reducible exact ih3 _ _ _ _ _ _ _ _ _)
   | (with_reducible exact ih4 _ _ _ _ _ _ _ _ _ _)
   | (with_reducible exact ih5 _ _ _ _ _ _ _ _ _ _)
   | (with_reducible exact spec_GoodDoc.mono _ _)
   | (with_reducible exact spec_l1Match.mono _ _ _)
   | (with_reducible exact LeO.refl _)
   | (with_reducible exact LeO.none _)
   | (with_reducible refine LeO.ite ?_ ?_)
   | (with_reducible refine LeO.bind ?_ (fun _ => ?_))
  ·intro y0 y1 y2 y3 y4 y5 y6 y7 y8 y9
   unfold spec_l1Cur_command.l0
   repeat' first
   | (with_reducible exact ih0 _ _ _ _ _ _ _)
   | (with_reducible exact ih1 _ _ _ _ _ _ _ _ _ _)
   | (with_reducible exact ih2 _ _ _ _ _ _ _ _ _)
   | (with_reducible exact ih3 _ _ _ _ _ _ _ _ _)
   | (with_reducible exact ih4 _ _ _ _ _ _ _ _ _ _)
   | (with_reducible exact ih5 _ _ _ _ _ _ _ _ _ _)
   | (with_reducible exact spec_GoodDoc.mono _ _)
   | (with_reducible exact spec_l1Match.mono _ _ _)
   | (with_reducible exact LeO.refl _)
   | (with_reducible exact LeO.none _)
   | (with_reducible refine LeO.ite ?_ ?_)
   | (with_reducible refine LeO.bind ?_ (fun _ => ?_))
  ·intro y0 y1 y2 y3 y4 y5 y6 y7 y8 y9
   unfold spec_l1Cur_command.j4
   repeat' first
   | (with_reducible exact ih0 _ _ _ _ _ _ _)
   | (with_reducible exact ih1 _ _ _ _ _ _ _ _ _ _)
   | (with_reducible exact ih2 _ _ _ _ _ _ _ _ _)
   | (with_reducible exact ih3 _ _ _ _ _ _ _ _ _)
   | (with_reducible exact ih4 _ _ _ _ _ _ _ _ _ _)
   | (with_reducible exact ih5 _ _ _ _ _ _ _ _ _ _)
   | (with_reducible exact spec_GoodDoc.mono _ _)
   | (with_reducible exact spec_l1Match.mono _ _ _)
   | (with_reducible exact LeO.refl _)
   | (with_reducible exact LeO.none _)
   | (with_reducible refine LeO.ite ?_ ?_)
   | (with_reducible refine LeO.bind ?_ (fun _ => ?_))
theorem spec_l1Cur_command.mono : ∀ a0 a1 a2 a3 k, LeO (spec_l1Cur_command.f k a0 a1 a2 a3) (spec_l1Cur_command.f (k + 1) a0 a1 a2 a3) := by
 intro a0 a1 a2 a3 k
 obtain ⟨ih0, ih1, ih2, ih3, ih4, ih5⟩ := spec_l1Cur_command.mono_l k
 unfold spec_l1Cur_command.f
 repeat' first
   | (with_reducible exact ih0 _ _ _ _ _ _ _)
   | (with_reducible exact ih1 _ _ _ _ _ _ _ _ _ _)
   | (with_reducible exact ih2 _ _ _ _ _ _ _ _ _)
   | (with_reducible exact ih3 _ _ _ _ _ _ _ _ _)
   | (with_reducible exact ih4 _ _ _ _ _ _ _ _ _ _)
   | (with_reducible exact ih5 _ _ _ _ _ _ _ _ _ _)
   | (with_reducible exact spec_GoodDoc.mono _ _)
   | (with_reducible exact spec_l1Match.mono _ _ _)
   | (with_reducible exact LeO.refl _)
   | (with_reducible exact LeO.none _)
   | (with_reducible refine LeO.ite ?_ ?_)
   | (with_reducible refine LeO.bind ?_ (fun _ => ?_))
set_option maxHeartbeats 8000000 in
set_option maxRecDepth 100000 in
theorem spec_l1Cur_command.calls (k : Nat) (g : Nat) (s0_0 : List Int) (s0_1 : Int) (s0_2 : Int) (a1 : ByteArray) (r1 : Int) (r2 : Int) (r3 : Int) (r4 : ByteArray) (r5 : Int) (r6 : Int) (w0 w : World) (hI : IsS66 w0 w g s0_0 s0_1 s0_2) (hB : Below w0.heap.size w0 w) (h : spec_l1Cur_command.f k s0_0 s0_1 s0_2 a1 = some (r1, r2, r3, r4, r5, r6)) :
  Calls Try.prog 43 #[.pointer (some ⟨g, 0, none⟩), .string a1] w fun e w' => e = .returned (.agg #[.int .i64 r1, .int .i64 r2, .int .i64 r3, .string r4]) ∧ IsS66 w0 w' g s0_0 r5 r6 ∧ Below w0.heap.size w0 w' ∧ KeepBut w w' g none := by
 have hu29 := Try.underlying29
 have HI0 := aM hI
 have HK := aM (KeepBut.refl w g none)
 have HL := aM hB.size
 clear hI
 have HW0 := aM hB.size
 have HB := aM hB
 clear hB
 have H : ((spec_l1Cur_pick.f s0_0 s0_1 s0_2 8).bind fun dn => ((spec_l1Cur_pick.f s0_0 dn.2.1 dn.2.2 (wrap64 ((a1.size : Int) + 1))).bind fun eK => ((spec_l1Cur_of.f s0_0 eK.2.1 eK.2.2 (([(⟨#[65]⟩ : ByteArray), (⟨#[66]⟩ : ByteArray), (⟨#[120]⟩ : ByteArray), (⟨#[67]⟩ : ByteArray), (⟨#[65, 121, 47]⟩ : ByteArray)] : List ByteArray))).bind fun db => (if (wrap64 (1 + dn.1)) = 2 then (spec_l1Cur_command.j0 k a1 (wrap64 (1 + dn.1)) ((wrap64 (1 + dn.1)) == 2) s0_0 db.2.1 db.2.2 (wrap64 (1 + dn.1)) eK.1 eK.1 db.1) else (spec_l1Cur_command.j0 k a1 (wrap64 (1 + dn.1)) ((wrap64 (1 + dn.1)) == 3) s0_0 db.2.1 db.2.2 (wrap64 (1 + dn.1)) eK.1 eK.1 db.1))))) = some (r1, r2, r3, r4, r5, r6) := h
 clear h
 obtain ⟨⟨bf, uo, un⟩, A3, H⟩ := oA_ H
 try dsimp only at H
 obtain ⟨⟨a9, rz, ry⟩, A4, H⟩ := oA_ H
 try dsimp only at H
 obtain ⟨y506, hy506⟩ : ∃ y_ : List ByteArray, y_ = (([(⟨#[65]⟩ : ByteArray), (⟨#[66]⟩ : ByteArray), (⟨#[120]⟩ : ByteArray), (⟨#[67]⟩ : ByteArray), (⟨#[65, 121, 47]⟩ : ByteArray)] : List ByteArray)) := ⟨_, rfl⟩
 replace H : ((spec_l1Cur_of.f s0_0 rz ry y506).bind fun db => (if (wrap64 (1 + bf)) = 2 then (spec_l1Cur_command.j0 k a1 (wrap64 (1 + bf)) ((wrap64 (1 + bf)) == 2) s0_0 db.2.1 db.2.2 (wrap64 (1 + bf)) a9 a9 db.1) else (spec_l1Cur_command.j0 k a1 (wrap64 (1 + bf)) ((wrap64 (1 + bf)) == 3) s0_0 db.2.1 db.2.2 (wrap64 (1 + bf)) a9 a9 db.1))) = some (r1, r2, r3, r4, r5, r6) := by first | (rw [hy506]; with_reducible exact H) | (have H2_ := (Option.bind_some _ _).symm.trans H; rw [hy506]; with_reducible exact H2_) | (have H2_ := (Option.bind_some _ _).symm.trans H; with_reducible exact H2_) | with_reducible exact H | (rw [hy506]; exact H) | exact H
 have Ny506 := aM hy506
 clear hy506
 obtain ⟨⟨bQ, eG, eF⟩, A5, H⟩ := oA_ H
 try dsimp only at H
 have jH := aM H
 clear H
 go_enter Try.func43, Try.ntmps43
 go_upto_block 0 with (first | ((with_reducible refine aw (N := 4) rfl ?_); refine ax ?hg (N := 4) ?hd (cs := #[.int .i64 0, .int .i64 0, .int .i64 0, .string ⟨#[]⟩]) (t := 29) ?hr ?_; (case hd => rfl); (case hg => rfl); (case hr => first | (go_simp; done) | (go_simp; rfl)); intro bp hg w7 hbox hb; replace HB := aM (ao z22 hb); have a8 := aM (hbox); have hZ := aM ((by rw [hg]; exact (keep_size (w := w) (g := g) (row := none) z16) : w.heap.size ≤ bp)); have cJ := aM ((Nat.le_trans HW0.out (by rw [hg]; exact (keep_size (w := w) (g := g) (row := none) z16) : w.heap.size ≤ bp) : w0.heap.size ≤ bp)); replace HK := aM (KeepBut.trans z16 (KeepBut.of_below hb g none) (.inl rfl)); have bn := aM ((by rw [hg]; exact Nat.ne_of_lt (IsS66.lt (show IsS66 w0 _ g s0_0 s0_1 s0_2 from by (try simp only [Int.add_zero]); repeat (first | (with_reducible first | exact HI0.out | apply IsS66.alloc | apply IsS66.drewN | apply IsS66.drew | apply IsS66.set_1 | apply IsS66.set_2) | exact HI0.out))) : g ≠ bp)); have ch := aM ((by rw [hg]; exact Nat.ne_of_gt (IsS66.lt (show IsS66 w0 _ g s0_0 s0_1 s0_2 from by (try simp only [Int.add_zero]); repeat (first | (with_reducible first | exact HI0.out | apply IsS66.alloc | apply IsS66.drewN | apply IsS66.drew | apply IsS66.set_1 | apply IsS66.set_2) | exact HI0.out))) : bp ≠ g)); replace HI0 := aM (IsS66.below z23 hb); clear hb hbox hg) | ((with_reducible refine av (f := 60) rfl ?_); refine ay (some 9) rfl rfl Try.func60 z0 rfl #[.pointer (some ⟨g, 0, none⟩), .int .i64 8] rfl z15 ?_; (with_reducible refine (spec_l1Cur_pick.calls g s0_0 s0_1 s0_2 8 bf uo un w0 _ ?side1 ?side2 A3.out).mono ?_); (case side1 => exact y56); (case side2 => exact y52); rintro e w8 ⟨rfl, hi, hb, hk⟩; refine ⟨_, rfl, ?_⟩; replace a8 := aM (KeepBut.blk hk (g' := bp) (o := .cells #[.int .i64 0, .int .i64 0, .int .i64 0, .string ⟨#[]⟩] 29 (0, 0)) z11 ch.out (by simp)); replace HK := aM (KeepBut.trans (by repeat (first | (with_reducible first | exact HK.out | apply KeepBut.set_ | apply keep_drewN | apply keep_drew | apply keep_alloc | refine keep_far ?_ hZ.out _) | exact HK.out)) hk (.inl rfl)); replace HB := aM (hb); replace HI0 := aM (hi); (try clear hb); (try clear hk); (try clear hi); (try clear cG)) | ((with_reducible refine av (f := 60) rfl ?_); refine ay (some 15) rfl rfl Try.func60 z0 rfl #[.pointer (some ⟨g, 0, none⟩), .int .i64 (wrap64 ((a1.size : Int) + 1))] rfl z15 ?_; (with_reducible refine (spec_l1Cur_pick.calls g s0_0 uo un (wrap64 ((a1.size : Int) + 1)) a9 rz ry w0 _ ?side1 ?side2 A4.out).mono ?_); (case side1 => exact y56); (case side2 => exact y52); rintro e w9 ⟨rfl, hi, hb, hk⟩; refine ⟨_, rfl, ?_⟩; replace a8 := aM (KeepBut.blk hk (g' := bp) (o := .cells #[.int .i64 0, .int .i64 0, .int .i64 0, .string ⟨#[]⟩] 29 (0, 0)) z11 ch.out (by simp)); replace HK := aM (KeepBut.trans (by repeat (first | (with_reducible first | exact HK.out | apply KeepBut.set_ | apply keep_drewN | apply keep_drew | apply keep_alloc | refine keep_far ?_ hZ.out _) | exact HK.out)) hk (.inl rfl)); replace HB := aM (hb); replace HI0 := aM (hi); (try clear hb); (try clear hk); (try clear hi); (try clear cG)) | ((with_reducible refine aw (N := 17) rfl ?_); refine Kd.R_lit Kd.string _ 9 ?hg (N := 17) ?hd (xs := ([(⟨#[65]⟩ : ByteArray), (⟨#[66]⟩ : ByteArray), (⟨#[120]⟩ : ByteArray), (⟨#[67]⟩ : ByteArray), (⟨#[65, 121, 47]⟩ : ByteArray)] : List ByteArray)) (inner := [.string (⟨#[65]⟩ : ByteArray), .string (⟨#[66]⟩ : ByteArray), .string (⟨#[120]⟩ : ByteArray), .string (⟨#[67]⟩ : ByteArray), .string (⟨#[65, 121, 47]⟩ : ByteArray)]) (ok := fun _ => True) (okp := fun _ => True) ?hr ?hp (fun _ hk => hk) trivial (Below.refl _ _) (Nat.le_refl _) (by simp) ?_; (case hd => rfl); (case hg => rfl); (case hr => first | (go_simp; done) | (go_simp; rfl)); (case hp => exact (Reps.one (show Kd.M Kd.string _ _ _ (⟨#[65]⟩ : ByteArray) [.string (⟨#[65]⟩ : ByteArray)] from rfl) (Reps.one (show Kd.M Kd.string _ _ _ (⟨#[66]⟩ : ByteArray) [.string (⟨#[66]⟩ : ByteArray)] from rfl) (Reps.one (show Kd.M Kd.string _ _ _ (⟨#[120]⟩ : ByteArray) [.string (⟨#[120]⟩ : ByteArray)] from rfl) (Reps.one (show Kd.M Kd.string _ _ _ (⟨#[67]⟩ : ByteArray) [.string (⟨#[67]⟩ : ByteArray)] from rfl) (Reps.one (show Kd.M Kd.string _ _ _ (⟨#[65, 121, 47]⟩ : ByteArray) [.string (⟨#[65, 121, 47]⟩ : ByteArray)] from rfl) (Reps.none _ _))))))); intro v507 w10 ho11 hb hg_ hnew_; clear hg_ hnew_; (first | rw [← Ny506.out] at ho11 | (simp only [Int.reduceToNat] at ho11; rw [← Ny506.out] at ho11)); have f7 := aM (az ho11 (keep_size (w := w) (g := g) (row := none) (by repeat (first | (with_reducible first | exact HK.out | apply KeepBut.set_ | apply keep_drewN | apply keep_drew | apply keep_alloc | refine keep_far ?_ hZ.out _) | exact HK.out)))); replace a8 := aM (bK_ a8.out hb); replace HK := aM (KeepBut.trans (by repeat (first | (with_reducible first | exact HK.out | apply KeepBut.set_ | apply keep_drewN | apply keep_drew | apply keep_alloc | refine keep_far ?_ hZ.out _) | exact HK.out)) (KeepBut.of_below hb g none) (.inl rfl)); replace HB := aM (ao (by repeat (first | (with_reducible first | exact HB.out | apply bA | apply pD | apply bD | refine am ?_ (IsS66.ge HI0.out) | refine am ?_ cJ.out) | exact HB.out)) hb); replace HI0 := aM (IsS66.below (by (try simp only [Int.add_zero]); repeat (first | (with_reducible first | exact HI0.out | apply IsS66.alloc | apply IsS66.drewN | apply IsS66.drew | apply IsS66.set_1 | apply IsS66.set_2 | refine IsS66.far ?_ bn.out _) | exact HI0.out)) hb); clear hb ho11; obtain ⟨vv, u1, eo12⟩ := Kd.R_slice f7.out; subst eo12) | ((with_reducible refine av (f := 61) rfl ?_); refine ay (some 18) rfl rfl Try.func61 z0 rfl #[.pointer (some ⟨g, 0, none⟩), .slice vv y506.length u1] rfl z15 ?_; (with_reducible refine (spec_l1Cur_of.calls g s0_0 rz ry _ _ y506 bQ eG eF w0 _ ?side1 ?side2 ?side3 ?side4 ?side5 A5.out).mono ?_); (case side1 => exact y56); (case side2 => exact y52); (case side3 => repeat (first | exact (ah f7.out).2.2 | (with_reducible refine aq ?_ _) | (with_reducible refine ar ?_ _) | (with_reducible refine au ?_))); (case side4 => exact (ah f7.out).2.1); (case side5 => exact far_slice (IsS66.own_ne HI0.out f7.out (by decide))); rintro e w13 ⟨rfl, hi, hb, hk⟩; refine ⟨_, rfl, ?_⟩; replace a8 := aM (KeepBut.blk hk (g' := bp) (o := .cells #[.int .i64 0, .int .i64 0, .int .i64 0, .string ⟨#[]⟩] 29 (0, 0)) z11 ch.out (by simp)); replace f7 := aM (ag (Kd.R_keep (IsS66.apart (show IsS66 w0 _ g s0_0 rz ry from by (try simp only [Int.add_zero]); repeat (first | (with_reducible first | exact HI0.out | apply IsS66.alloc | apply IsS66.drewN | apply IsS66.drew | apply IsS66.set_1 | apply IsS66.set_2 | refine IsS66.far ?_ bn.out _) | exact HI0.out)) (kR_ f7.out) (by decide)) hk (fun _ h => h.2)) (fun _ h => h.1)); replace HK := aM (KeepBut.trans (by repeat (first | (with_reducible first | exact HK.out | apply KeepBut.set_ | apply keep_drewN | apply keep_drew | apply keep_alloc | refine keep_far ?_ hZ.out _) | exact HK.out)) hk (.inl rfl)); replace HB := aM (hb); replace HI0 := aM (hi); (try clear hb); (try clear hk); (try clear hi); (try clear cG)) | ((with_reducible refine aw (N := 5) rfl ?_); refine ax ?hg (N := 5) ?hd (cs := #[.int .i64 0, .int .i64 0, .int .i64 0, .string ⟨#[]⟩]) (t := 29) ?hr ?_; (case hd => rfl); (case hg => rfl); (case hr => first | (go_simp; done) | (go_simp; rfl)); intro aY hg w14 hbox hb; replace f7 := aM (af (kR_ f7.out) hb); replace HB := aM (ao (by repeat (first | (with_reducible first | exact HB.out | apply bA | apply pD | apply bD | refine am ?_ (IsS66.ge HI0.out) | refine am ?_ cJ.out) | exact HB.out)) hb); have aN := aM (hbox); have GW512 := aM ((by rw [hg]; exact (keep_size (w := w) (g := g) (row := none) (by repeat (first | (with_reducible first | exact HK.out | apply KeepBut.set_ | apply keep_drewN | apply keep_drew | apply keep_alloc | refine keep_far ?_ hZ.out _) | exact HK.out))) : w.heap.size ≤ aY)); have dK := aM ((Nat.le_trans HW0.out (by rw [hg]; exact (keep_size (w := w) (g := g) (row := none) (by repeat (first | (with_reducible first | exact HK.out | apply KeepBut.set_ | apply keep_drewN | apply keep_drew | apply keep_alloc | refine keep_far ?_ hZ.out _) | exact HK.out))) : w.heap.size ≤ aY) : w0.heap.size ≤ aY)); replace HK := aM (KeepBut.trans (by repeat (first | (with_reducible first | exact HK.out | apply KeepBut.set_ | apply keep_drewN | apply keep_drew | apply keep_alloc | refine keep_far ?_ hZ.out _) | exact HK.out)) (KeepBut.of_below hb g none) (.inl rfl)); have bc := aM ((by rw [hg]; exact Nat.ne_of_lt (blk_lt (g := bp) (o := .cells #[.int .i64 0, .int .i64 0, .int .i64 0, .string ⟨#[]⟩] 29 (0, 0)) z11) : bp ≠ aY)); have bO := aM ((by rw [hg]; exact Nat.ne_of_gt (blk_lt (g := bp) (o := .cells #[.int .i64 0, .int .i64 0, .int .i64 0, .string ⟨#[]⟩] 29 (0, 0)) z11) : aY ≠ bp)); replace a8 := aM (bK_ a8.out hb); have bi := aM ((by rw [hg]; exact Nat.ne_of_lt (IsS66.lt (show IsS66 w0 _ g s0_0 eG eF from by (try simp only [Int.add_zero]); repeat (first | (with_reducible first | exact HI0.out | apply IsS66.alloc | apply IsS66.drewN | apply IsS66.drew | apply IsS66.set_1 | apply IsS66.set_2 | refine IsS66.far ?_ bn.out _) | exact HI0.out))) : g ≠ aY)); have bw := aM ((by rw [hg]; exact Nat.ne_of_gt (IsS66.lt (show IsS66 w0 _ g s0_0 eG eF from by (try simp only [Int.add_zero]); repeat (first | (with_reducible first | exact HI0.out | apply IsS66.alloc | apply IsS66.drewN | apply IsS66.drew | apply IsS66.set_1 | apply IsS66.set_2 | refine IsS66.far ?_ bn.out _) | exact HI0.out))) : aY ≠ g)); replace HI0 := aM (IsS66.below (by (try simp only [Int.add_zero]); repeat (first | (with_reducible first | exact HI0.out | apply IsS66.alloc | apply IsS66.drewN | apply IsS66.drew | apply IsS66.set_1 | apply IsS66.set_2 | refine IsS66.far ?_ bn.out _) | exact HI0.out)) hb); clear hb hbox hg; have hnb15 := bO.out; have hnc15 := bc.out; have hnb16 := bw.out; have hnc16 := bi.out; obtain ⟨fT, fS, fR, fQ, fM, fL, fK, fJ⟩ := cc4 aN.out))
 (try simp only [Act.put, sA, sB, sC])
 go_cut [] (fun wc => ∃ (kq : Nat) (x1001_5 : Int) (x1002_5 : Int) (x513001_5 : Int) (x513002_5 : Int), Aside0 (spec_l1Cur_command.j5 kq s0_0 x1001_5 x1002_5 (wrap64 (1 + bf)) x513001_5 x513002_5 bQ = some (r1, r2, r3, r4, r5, r6)) ∧ Aside0 (kq ≤ k) ∧ Aside0 (wc.heap[bp]? = some (.cells #[.int .i64 0, .int .i64 0, .int .i64 0, .string ⟨#[]⟩] 29 (0, 0))) ∧ Aside0 (wc.heap[aY]? = some (.cells #[.int .i64 (wrap64 (1 + bf)), .int .i64 x513001_5, .int .i64 x513002_5, .string bQ] 29 (0, 0))) ∧ Aside0 (IsS66 w0 wc g s0_0 x1001_5 x1002_5) ∧ Aside0 (KeepBut w wc g none) ∧ Aside0 (Below w0.heap.size w0 wc))
 case first =>
  have H := jH.out
  clear jH
  have tE := aM H
  clear H
  go_upto_if 25 with (fail)
  go_cut [25] (fun v25 wc => ∃ (kq : Nat) (x25_17 : Bool), v25 = .bool x25_17 ∧ Aside0 (spec_l1Cur_command.j0 kq a1 (wrap64 (1 + bf)) x25_17 s0_0 eG eF (wrap64 (1 + bf)) a9 a9 bQ = some (r1, r2, r3, r4, r5, r6)) ∧ Aside0 (kq ≤ k) ∧ Aside0 (wc.heap[bp]? = some (.cells #[.int .i64 0, .int .i64 0, .int .i64 0, .string ⟨#[]⟩] 29 (0, 0))) ∧ Aside0 (wc.heap[aY]? = some (.cells #[.int .i64 (wrap64 (1 + bf)), .int .i64 a9, .int .i64 a9, .string bQ] 29 (0, 0))) ∧ Aside0 (IsS66 w0 wc g s0_0 eG eF) ∧ Aside0 (KeepBut w wc g none) ∧ Aside0 (Below w0.heap.size w0 wc))
  case first =>
   have H := tE.out
   clear tE
   by_cases fp : (wrap64 (1 + bf)) = 2
   ·rw [if_pos fp] at H
    have c19b0 : ((wrap64 (1 + bf)) == 2) = true := qT fp
    have c19b1 : ((wrap64 (1 + bf)) != 2) = false := nF fp
    clear fp
    (first | rw [c19b0] | (simp only [i64_w, i32_w]; rw [c19b0]) | skip)
    have H' := aM H
    clear H
    go_wp2
    go_meet
    case rel => exact ⟨_, (((wrap64 (1 + bf)) == 2)), z1, H', ⟨y0⟩, ⟨by (with_reducible repeat (first | refine aj ?_ _ | refine ai ?_ | refine ak ?_ _)); refine blk_far ?_ bc.out _; (with_reducible repeat (first | refine aj ?_ _ | refine ai ?_ | refine ak ?_ _)); refine blk_far ?_ bc.out _; (with_reducible repeat (first | refine aj ?_ _ | refine ai ?_ | refine ak ?_ _)); refine blk_far ?_ bc.out _; (with_reducible repeat (first | refine aj ?_ _ | refine ai ?_ | refine ak ?_ _)); refine blk_far ?_ bc.out _; (with_reducible repeat (first | refine aj ?_ _ | refine ai ?_ | refine ak ?_ _)); refine blk_far ?_ bc.out _; (with_reducible repeat (first | refine aj ?_ _ | refine ai ?_ | refine ak ?_ _)); exact a8.out⟩, ⟨by (with_reducible repeat (first | refine aj ?_ _ | refine ai ?_ | refine ak ?_ _)); refine al (cs := #[.int .i64 (wrap64 (1 + bf)), .int .i64 a9, .int .i64 0, .string bQ]) ?_ 2 _ rfl; (with_reducible repeat (first | refine aj ?_ _ | refine ai ?_ | refine ak ?_ _)); refine al (cs := #[.int .i64 (wrap64 (1 + bf)), .int .i64 a9, .int .i64 0, .string ⟨#[]⟩]) ?_ 3 _ rfl; (with_reducible repeat (first | refine aj ?_ _ | refine ai ?_ | refine ak ?_ _)); refine al (cs := #[.int .i64 (wrap64 (1 + bf)), .int .i64 a9, .int .i64 0, .string ⟨#[]⟩]) ?_ 2 _ rfl; (with_reducible repeat (first | refine aj ?_ _ | refine ai ?_ | refine ak ?_ _)); refine al (cs := #[.int .i64 (wrap64 (1 + bf)), .int .i64 0, .int .i64 0, .string ⟨#[]⟩]) ?_ 1 _ rfl; (with_reducible repeat (first | refine aj ?_ _ | refine ai ?_ | refine ak ?_ _)); refine al (cs := #[.int .i64 0, .int .i64 0, .int .i64 0, .string ⟨#[]⟩]) ?_ 0 _ rfl; (with_reducible repeat (first | refine aj ?_ _ | refine ai ?_ | refine ak ?_ _)); exact aN.out⟩, ⟨y39⟩, ⟨y36⟩, ⟨y35⟩⟩
   ·rw [if_neg fp] at H
    have c19b0 : ((wrap64 (1 + bf)) == 2) = false := qF fp
    have c19b1 : ((wrap64 (1 + bf)) != 2) = true := nT fp
    (first | rw [c19b0] | (simp only [i64_w, i32_w]; rw [c19b0]) | skip)
    have H' := aM H
    clear H
    go_wp2
    go_meet
    case rel => exact ⟨_, (((wrap64 (1 + bf)) == 3)), z1, H', ⟨y0⟩, ⟨by (with_reducible repeat (first | refine aj ?_ _ | refine ai ?_ | refine ak ?_ _)); refine blk_far ?_ bc.out _; (with_reducible repeat (first | refine aj ?_ _ | refine ai ?_ | refine ak ?_ _)); refine blk_far ?_ bc.out _; (with_reducible repeat (first | refine aj ?_ _ | refine ai ?_ | refine ak ?_ _)); refine blk_far ?_ bc.out _; (with_reducible repeat (first | refine aj ?_ _ | refine ai ?_ | refine ak ?_ _)); refine blk_far ?_ bc.out _; (with_reducible repeat (first | refine aj ?_ _ | refine ai ?_ | refine ak ?_ _)); refine blk_far ?_ bc.out _; (with_reducible repeat (first | refine aj ?_ _ | refine ai ?_ | refine ak ?_ _)); exact a8.out⟩, ⟨by (with_reducible repeat (first | refine aj ?_ _ | refine ai ?_ | refine ak ?_ _)); refine al (cs := #[.int .i64 (wrap64 (1 + bf)), .int .i64 a9, .int .i64 0, .string bQ]) ?_ 2 _ rfl; (with_reducible repeat (first | refine aj ?_ _ | refine ai ?_ | refine ak ?_ _)); refine al (cs := #[.int .i64 (wrap64 (1 + bf)), .int .i64 a9, .int .i64 0, .string ⟨#[]⟩]) ?_ 3 _ rfl; (with_reducible repeat (first | refine aj ?_ _ | refine ai ?_ | refine ak ?_ _)); refine al (cs := #[.int .i64 (wrap64 (1 + bf)), .int .i64 a9, .int .i64 0, .string ⟨#[]⟩]) ?_ 2 _ rfl; (with_reducible repeat (first | refine aj ?_ _ | refine ai ?_ | refine ak ?_ _)); refine al (cs := #[.int .i64 (wrap64 (1 + bf)), .int .i64 0, .int .i64 0, .string ⟨#[]⟩]) ?_ 1 _ rfl; (with_reducible repeat (first | refine aj ?_ _ | refine ai ?_ | refine ak ?_ _)); refine al (cs := #[.int .i64 0, .int .i64 0, .int .i64 0, .string ⟨#[]⟩]) ?_ 0 _ rfl; (with_reducible repeat (first | refine aj ?_ _ | refine ai ?_ | refine ak ?_ _)); exact aN.out⟩, ⟨y39⟩, ⟨y36⟩, ⟨y35⟩⟩
  case rest =>
   clear tE
   try clear fT
   try clear fS
   try clear fR
   try clear fQ
   try clear fM
   try clear fL
   try clear fK
   try clear fJ
   obtain ⟨kq, x25_17, rfl, HA, dH, a8, aN, HI0, HK, HB⟩ := hcut
   cases kq with
   | zero => exact absurd HA.out (by simp [spec_l1Cur_command.j0])
   | succ kj17 =>
    have H := HA.out
    clear HA
    simp only [spec_l1Cur_command.j0] at H
    by_cases cx : x25_17 = true
    ·subst cx
     rw [if_pos rfl] at H
     have tC := aM H
     clear H
     go_upto_region 6 with (fail)
     go_cut [47] (fun v47 wc => ∃ (kq : Nat) (x47_20 : Bool) (x1001_20 : Int) (x1002_20 : Int), v47 = .bool x47_20 ∧ Aside0 (spec_l1Cur_command.j1 kq a1 x47_20 s0_0 x1001_20 x1002_20 (wrap64 (1 + bf)) a9 a9 bQ = some (r1, r2, r3, r4, r5, r6)) ∧ Aside0 (kq ≤ kj17) ∧ Aside0 (wc.heap[bp]? = some (.cells #[.int .i64 0, .int .i64 0, .int .i64 0, .string ⟨#[]⟩] 29 (0, 0))) ∧ Aside0 (wc.heap[aY]? = some (.cells #[.int .i64 (wrap64 (1 + bf)), .int .i64 a9, .int .i64 a9, .string bQ] 29 (0, 0))) ∧ Aside0 (IsS66 w0 wc g s0_0 x1001_20 x1002_20) ∧ Aside0 (KeepBut w wc g none) ∧ Aside0 (Below w0.heap.size w0 wc))
     case first =>
      have H := tC.out
      clear tC
      by_cases eD : a9 < (a1.size : Int)
      ·rw [if_pos eD] at H
       have c22b0 : decide (a9 < (a1.size : Int)) = true := dT eD
       clear eD
       (first | rw [c22b0] | (simp only [i64_w, i32_w]; rw [c22b0]) | skip)
       by_cases fZ : 0 ≤ a9
       ·rw [if_pos fZ] at H
        have c23b0 : decide (0 ≤ a9) = true := dT fZ
        clear fZ
        obtain ⟨sM, pk, H⟩ := oA_ H
        try dsimp only at H
        by_cases eJ : sM = true
        ·subst eJ
         rw [if_pos rfl] at H
         obtain ⟨sL, wH, H⟩ := oA_ H
         try dsimp only at H
         by_cases f5 : sL = true
         ·subst f5
          rw [if_pos rfl] at H
          obtain ⟨⟨um, ul, uk⟩, tY, H⟩ := oA_ H
          try dsimp only at H
          have H' := aM H
          clear H
          have hnb30 := bO.out
          have hnc30 := bc.out
          have hnb31 := bw.out
          have hnc31 := bi.out
          obtain ⟨gW, gV, gU, gT, gG, gF, gE, gD⟩ := cc4 aN.out
          have p24 : 0 ≤ (a9 : Int) := oD z2
          have q24 : a9 < (a1.size : Int) := oD z2
          have hx24 := bt_at a1 a9
          replace p24 := eq_true p24
          replace q24 := eq_true q24
          go_wp2_with (first | (go_at_call 29; (with_reducible refine (spec_l1Open.calls (bt a1 a9) true _ pk.out).mono ?_); rintro e w' ⟨rfl, ⟨nd, rfl⟩⟩) | (go_at_call 28; (with_reducible refine (spec_GoodDoc.calls kj17 a1 true _ wH.out).mono ?_); rintro e w' ⟨rfl, ⟨nd, rfl⟩⟩) | (go_at_call 62; (with_reducible refine (spec_l1Cur_one.calls g s0_0 eG eF 2 um ul uk w0 _ ?side1 ?side2 tY.out).mono ?_); (case side1 => exact y57); (case side2 => exact y55); rintro e w33 ⟨rfl, hi, hb, hk⟩; replace a8 := aM (KeepBut.blk hk (g' := bp) (o := .cells #[.int .i64 0, .int .i64 0, .int .i64 0, .string ⟨#[]⟩] 29 (0, 0)) z11 ch.out (by simp)); replace aN := aM (KeepBut.blk hk (g' := aY) (o := .cells #[.int .i64 (wrap64 (1 + bf)), .int .i64 a9, .int .i64 a9, .string bQ] 29 (0, 0)) z12 bw.out (by simp)); replace HK := aM (KeepBut.trans z24 hk (.inl rfl)); replace HB := aM (hb); replace HI0 := aM (hi); (try clear hb); (try clear hk); (try clear hi); (try clear cG)))
          go_meet
          case rel => exact ⟨_, (um), (ul), (uk), z1, H', ⟨by have := dH.out; first | omega | exact Nat.le_refl _⟩, ⟨y11⟩, ⟨y12⟩, ⟨y39⟩, ⟨y36⟩, ⟨y35⟩⟩
         ·replace f5 := Bool.eq_false_iff.mpr f5
          subst f5
          rw [if_neg nF_] at H
          have H' := aM H
          clear H
          have hnb34 := bO.out
          have hnc34 := bc.out
          have hnb35 := bw.out
          have hnc35 := bi.out
          obtain ⟨gS, gR, gQ, gP, gC, gB, gA, gz⟩ := cc4 aN.out
          have p24 : 0 ≤ (a9 : Int) := oD z2
          have q24 : a9 < (a1.size : Int) := oD z2
          have hx24 := bt_at a1 a9
          replace p24 := eq_true p24
          replace q24 := eq_true q24
          go_wp2_with (first | (go_at_call 29; (with_reducible refine (spec_l1Open.calls (bt a1 a9) true _ pk.out).mono ?_); rintro e w' ⟨rfl, ⟨nd, rfl⟩⟩) | (go_at_call 28; (with_reducible refine (spec_GoodDoc.calls kj17 a1 false _ wH.out).mono ?_); rintro e w' ⟨rfl, ⟨nd, rfl⟩⟩))
          go_meet
          case rel => exact ⟨_, (false), (eG), (eF), z1, H', ⟨by have := dH.out; first | omega | exact Nat.le_refl _⟩, ⟨y11⟩, ⟨y12⟩, ⟨y39⟩, ⟨y36⟩, ⟨y35⟩⟩
        ·replace eJ := Bool.eq_false_iff.mpr eJ
         subst eJ
         rw [if_neg nF_] at H
         have H' := aM H
         clear H
         have hnb37 := bO.out
         have hnc37 := bc.out
         have hnb38 := bw.out
         have hnc38 := bi.out
         obtain ⟨dY, dX, dW, gO, dN, dM, dL, gy⟩ := cc4 aN.out
         have p24 : 0 ≤ (a9 : Int) := oD z2
         have q24 : a9 < (a1.size : Int) := oD z2
         have hx24 := bt_at a1 a9
         replace p24 := eq_true p24
         replace q24 := eq_true q24
         go_wp2_with (first | (go_at_call 29; (with_reducible refine (spec_l1Open.calls (bt a1 a9) false _ pk.out).mono ?_); rintro e w' ⟨rfl, ⟨nd, rfl⟩⟩))
         go_meet
         case rel => exact ⟨_, (false), (eG), (eF), z1, H', ⟨by have := dH.out; first | omega | exact Nat.le_refl _⟩, ⟨y11⟩, ⟨y12⟩, ⟨y39⟩, ⟨y36⟩, ⟨y35⟩⟩
       ·rw [if_neg fZ] at H
        exact absurd H (by simp)
      ·rw [if_neg eD] at H
       have c22b0 : decide (a9 < (a1.size : Int)) = false := dF eD
       clear eD
       (first | rw [c22b0] | (simp only [i64_w, i32_w]; rw [c22b0]) | skip)
       have H' := aM H
       clear H
       have hnb40 := bO.out
       have hnc40 := bc.out
       have qf := bw.out
       have qe := bi.out
       obtain ⟨cT, cS, cR, gN, cN, cM, cL, gx⟩ := cc4 aN.out
       go_wp2
       go_meet
       case rel => exact ⟨_, (false), (eG), (eF), z1, H', ⟨by have := dH.out; first | omega | exact Nat.le_refl _⟩, ⟨y11⟩, ⟨y12⟩, ⟨y39⟩, ⟨y36⟩, ⟨y35⟩⟩
     case rest =>
      clear tC
      try clear cx
      try clear fT
      try clear fS
      try clear fR
      try clear fQ
      try clear fM
      try clear fL
      try clear fK
      try clear fJ
      obtain ⟨kq, x47_20, x1001_20, x1002_20, rfl, HA, vo, a8, aN, HI0, HK, HB⟩ := hcut
      cases kq with
      | zero => exact absurd HA.out (by simp [spec_l1Cur_command.j1])
      | succ kj20 =>
       have H := HA.out
       clear HA
       simp only [spec_l1Cur_command.j1] at H
       by_cases hF : x47_20 = true
       ·subst hF
        rw [if_pos rfl] at H
        obtain ⟨rx, A44, H⟩ := oA_ H
        try dsimp only at H
        have H' := aM H
        clear H
        have hnb45 := bO.out
        have hnc45 := bc.out
        have hnb46 := bw.out
        have hnc46 := bi.out
        obtain ⟨iH, iG, iF, iE, iq, ip, im, il⟩ := cc4 aN.out
        go_wp2_with (first | ((with_reducible refine av (f := 31) rfl ?_); refine ay (some 51) rfl rfl Try.func31 z0 rfl #[.string a1, .int .i64 a9] rfl z15 ?_; (with_reducible refine (spec_l1Match.calls kj20 a1 a9 rx _ A44.out).mono ?_); rintro e w' ⟨rfl, ⟨nd, rfl⟩⟩; refine ⟨_, rfl, ?_⟩; (try (rw [drewN_self wc]; generalize hq_ : World.drewN wc _ = wc; have aE : Aside0 (wc.heap[bp]? = some (.cells #[.int .i64 0, .int .i64 0, .int .i64 0, .string ⟨#[]⟩] 29 (0, 0))) := ⟨by rw [← hq_]; exact z11⟩; have aG : Aside0 (wc.heap[aY]? = some (.cells #[.int .i64 (wrap64 (1 + bf)), .int .i64 a9, .int .i64 a9, .string bQ] 29 (0, 0))) := ⟨by rw [← hq_]; exact z12⟩; have aK : Aside0 (IsS66 w0 wc g s0_0 x1001_20 x1002_20) := ⟨by rw [← hq_]; exact (by (try simp only [Int.add_zero]); repeat (first | (with_reducible first | exact HI0.out | apply IsS66.alloc | apply IsS66.drewN | apply IsS66.drew | apply IsS66.set_1 | apply IsS66.set_2 | refine IsS66.far ?_ bn.out _ | refine IsS66.far ?_ bi.out _) | exact HI0.out))⟩; have aR : Aside0 (KeepBut w wc g none) := ⟨by rw [← hq_]; exact z24⟩; have bL : Aside0 (Below w0.heap.size w0 wc) := ⟨by rw [← hq_]; exact (by repeat (first | (with_reducible first | exact HB.out | apply bA | apply pD | apply bD | refine am ?_ (IsS66.ge HI0.out) | refine am ?_ cJ.out | refine am ?_ dK.out) | exact HB.out))⟩; clear a8 aN HI0 HK HB hq_; have a8 := aE; have aN := aG; have HI0 := aK; have HK := aR; have HB := bL; clear aE aG aK aR bL; obtain ⟨hczq_499_0, hczq_499_1, hczq_499_2, hczq_499_3, hfzq_499_0, hfzq_499_1, hfzq_499_2, hfzq_499_3⟩ := cc4 a8.out; obtain ⟨hczq_512_0, hczq_512_1, hczq_512_2, hczq_512_3, hfzq_512_0, hfzq_512_1, hfzq_512_2, hfzq_512_3⟩ := cc4 aN.out))))
        go_meet
        case rel => exact ⟨_, (x1001_20), (x1002_20), (a9), (wrap64 (rx + 1)), H', ⟨by have := dH.out; have := vo.out; first | omega | exact Nat.le_refl _⟩, ⟨y38⟩, ⟨y40⟩, ⟨y39⟩, ⟨y36⟩, ⟨y35⟩⟩
       ·replace hF := Bool.eq_false_iff.mpr hF
        subst hF
        rw [if_neg nF_] at H
        obtain ⟨⟨uj, ui, uh⟩, A48, H⟩ := oA_ H
        try dsimp only at H
        have H' := aM H
        clear H
        try go_wp2
        replace a8 := aM (ai a8.out)
        replace aN := aM (ai aN.out)
        replace HI0 := aM (IsS66.drew HI0.out)
        replace HK := aM (keep_drew HK.out)
        replace HB := aM (bD HB.out)
        refine start_ (n := 7) (S := fun w' => w'.cell? ⟨aY, 0, none⟩ = some (.int .i64 (wrap64 (1 + bf))) ∧ w'.cell? ⟨aY, 1, none⟩ = some (.int .i64 a9) ∧ w'.cell? ⟨aY, 2, none⟩ = some (.int .i64 a9) ∧ w'.cell? ⟨aY, 3, none⟩ = some (.string bQ)) (ds := [6]) #[false, false, false, false, false, false, false] z0 rfl rfl ⟨(bC aN.out 0).trans rfl, (bC aN.out 1).trans rfl, (bC aN.out 2).trans rfl, (bC aN.out 3).trans rfl⟩ (fun hHeld => ?_)
        generalize wc.drew = w49 at a8 aN HI0 HK HB hHeld ⊢
        refine pA 0 54 ?_
        refine pA 2 56 ?_
        refine t4_ 1 55 ?_
        refine one_ (i := 3) (N := some 57) #[true, true, true, true, false, false, false] rfl rfl z0 (by decide) (fun K hK => ?_)
        refine goes_ Try.func60 z0 rfl #[.pointer (some ⟨g, 0, none⟩), .int .i64 4] (by rfl) rfl rfl z15 ?_
        with_reducible refine (spec_l1Cur_pick.calls g s0_0 x1001_20 x1002_20 4 uj ui uh w0 _ ?side1 ?side2 A48.out).mono ?_
        (case side1 => exact y57)
        (case side2 => exact y55)
        rintro e w50 ⟨rfl, hi, hb, hk⟩
        refine ⟨_, rfl, ?_⟩
        replace a8 := aM (KeepBut.blk hk (g' := bp) (o := .cells #[.int .i64 0, .int .i64 0, .int .i64 0, .string ⟨#[]⟩] 29 (0, 0)) z11 ch.out (by simp))
        replace aN := aM (KeepBut.blk hk (g' := aY) (o := .cells #[.int .i64 (wrap64 (1 + bf)), .int .i64 a9, .int .i64 a9, .string bQ] 29 (0, 0)) z12 bw.out (by simp))
        replace HK := aM (KeepBut.trans z24 hk (.inl rfl))
        replace HB := aM (hb)
        replace HI0 := aM (hi)
        (try clear hb)
        skip
        (try clear hk)
        (try clear hi)
        (try clear cG)
        refine hK.out _ _ ⟨(bC aN.out 0).trans rfl, (bC aN.out 1).trans rfl, (bC aN.out 2).trans rfl, (bC aN.out 3).trans rfl⟩ (fun hHeld => ?_)
        clear hK K
        refine norm_ (a' := ?_) ?_ ?_
        rotate_left
        ·show Act.put _ (some 57) _ = _
         simp only [Act.put, sA, sB, sC, i64_w, i32_w]
         rfl
        refine pA 4 58 ?_
        refine pA 5 59 ?_
        refine last_ (i := 6) (N := none) #[true, true, true, true, true, true, true] rfl rfl z0 (by decide) (fun K hK => ?_)
        have hs51 : w50.cell? ⟨aY, 2, none⟩ = some (.int .i64 a9) := (bC aN.out 2).trans rfl
        have hfs51 := bF aN.out 2
        have hns51_0 := bc.out
        have hms51_0 := bO.out
        refine skip_ (w1 := ?_) (by rfl) rfl ?_ ?_
        rotate_left
        ·go_simp
         rfl
        refine hK.out _ _ ?_
        clear hK K
        refine done_ z0 ?_
        try go_wp2
        go_meet
        case rel => exact ⟨_, (ui), (uh), (a9), (wrap64 (a9 + uj)), H', ⟨by have := dH.out; have := vo.out; first | omega | exact Nat.le_refl _⟩, ⟨y38⟩, ⟨y40⟩, ⟨y39⟩, ⟨y36⟩, ⟨y35⟩⟩
    ·replace cx := Bool.eq_false_iff.mpr cx
     subst cx
     rw [if_neg nF_] at H
     have tt := aM H
     clear H
     go_upto_if 60 with (fail)
     go_cut [60] (fun v60 wc => ∃ (kq : Nat) (x60_51 : Bool), v60 = .bool x60_51 ∧ Aside0 (spec_l1Cur_command.j2 kq a1 x60_51 s0_0 eG eF (wrap64 (1 + bf)) a9 a9 bQ = some (r1, r2, r3, r4, r5, r6)) ∧ Aside0 (kq ≤ kj17) ∧ Aside0 (wc.heap[bp]? = some (.cells #[.int .i64 0, .int .i64 0, .int .i64 0, .string ⟨#[]⟩] 29 (0, 0))) ∧ Aside0 (wc.heap[aY]? = some (.cells #[.int .i64 (wrap64 (1 + bf)), .int .i64 a9, .int .i64 a9, .string bQ] 29 (0, 0))) ∧ Aside0 (IsS66 w0 wc g s0_0 eG eF) ∧ Aside0 (KeepBut w wc g none) ∧ Aside0 (Below w0.heap.size w0 wc))
     case first =>
      have H := tt.out
      clear tt
      by_cases fm : (wrap64 (1 + bf)) = 4
      ·rw [if_pos fm] at H
       have c53b0 : ((wrap64 (1 + bf)) == 4) = true := qT fm
       have c53b1 : ((wrap64 (1 + bf)) != 4) = false := nF fm
       clear fm
       (first | rw [c53b0] | (simp only [i64_w, i32_w]; rw [c53b0]) | skip)
       have H' := aM H
       clear H
       go_wp2
       go_meet
       case rel => exact ⟨_, (((wrap64 (1 + bf)) == 4)), z1, H', ⟨by have := dH.out; first | omega | exact Nat.le_refl _⟩, ⟨y11⟩, ⟨y12⟩, ⟨y39⟩, ⟨y36⟩, ⟨y35⟩⟩
      ·rw [if_neg fm] at H
       have c53b0 : ((wrap64 (1 + bf)) == 4) = false := qF fm
       have c53b1 : ((wrap64 (1 + bf)) != 4) = true := nT fm
       (first | rw [c53b0] | (simp only [i64_w, i32_w]; rw [c53b0]) | skip)
       by_cases k5 : (wrap64 (1 + bf)) = 8
       ·rw [if_pos k5] at H
        have c54b0 : ((wrap64 (1 + bf)) == 8) = true := qT k5
        have c54b1 : ((wrap64 (1 + bf)) != 8) = false := nF k5
        clear k5
        have H' := aM H
        clear H
        go_wp2
        go_meet
        case rel => exact ⟨_, (((wrap64 (1 + bf)) == 8)), z1, H', ⟨by have := dH.out; first | omega | exact Nat.le_refl _⟩, ⟨y11⟩, ⟨y12⟩, ⟨y39⟩, ⟨y36⟩, ⟨y35⟩⟩
       ·rw [if_neg k5] at H
        have c54b0 : ((wrap64 (1 + bf)) == 8) = false := qF k5
        have c54b1 : ((wrap64 (1 + bf)) != 8) = true := nT k5
        by_cases kg : (wrap64 (1 + bf)) = 7
        ·rw [if_pos kg] at H
         have c55b0 : ((wrap64 (1 + bf)) == 7) = true := qT kg
         have c55b1 : ((wrap64 (1 + bf)) != 7) = false := nF kg
         clear kg
         have H' := aM H
         clear H
         go_wp2
         go_meet
         case rel => exact ⟨_, (((wrap64 (1 + bf)) == 7)), z1, H', ⟨by have := dH.out; first | omega | exact Nat.le_refl _⟩, ⟨y11⟩, ⟨y12⟩, ⟨y39⟩, ⟨y36⟩, ⟨y35⟩⟩
        ·rw [if_neg kg] at H
         have c55b0 : ((wrap64 (1 + bf)) == 7) = false := qF kg
         have c55b1 : ((wrap64 (1 + bf)) != 7) = true := nT kg
         have H' := aM H
         clear H
         go_wp2
         go_meet
         case rel => exact ⟨_, (((wrap64 (1 + bf)) == 6)), z1, H', ⟨by have := dH.out; first | omega | exact Nat.le_refl _⟩, ⟨y11⟩, ⟨y12⟩, ⟨y39⟩, ⟨y36⟩, ⟨y35⟩⟩
     case rest =>
      clear tt
      try clear cx
      try clear fT
      try clear fS
      try clear fR
      try clear fQ
      try clear fM
      try clear fL
      try clear fK
      try clear fJ
      obtain ⟨kq, x60_51, rfl, HA, gl, a8, aN, HI0, HK, HB⟩ := hcut
      cases kq with
      | zero => exact absurd HA.out (by simp [spec_l1Cur_command.j2])
      | succ kj51 =>
       have H := HA.out
       clear HA
       simp only [spec_l1Cur_command.j2] at H
       by_cases i4 : x60_51 = true
       ·subst i4
        rw [if_pos rfl] at H
        have H' := aM H
        clear H
        go_wp2
        go_loopg [6, 7] kj51 (fun kq v6 v7 w' => ∃ (x6_3 : List Int) (x7_3 : Int), v7 = .int .i64 x7_3 ∧ Aside0 (spec_l1Cur_command.l0 kq a1 x6_3 x7_3 s0_0 eG eF (wrap64 (1 + bf)) a9 a9 bQ = some (r1, r2, r3, r4, r5, r6)) ∧ Aside0 (kq ≤ kj51) ∧ Aside0 (Kd.R (Kd.int .i64) 3 w' w.heap.size (fun _ => True) v6 x6_3) ∧ Aside0 (w'.heap[bp]? = some (.cells #[.int .i64 0, .int .i64 0, .int .i64 0, .string ⟨#[]⟩] 29 (0, 0))) ∧ Aside0 (w'.heap[aY]? = some (.cells #[.int .i64 (wrap64 (1 + bf)), .int .i64 a9, .int .i64 a9, .string bQ] 29 (0, 0))) ∧ Aside0 (IsS66 w0 w' g s0_0 eG eF) ∧ Aside0 (KeepBut w w' g none) ∧ Aside0 (Below w0.heap.size w0 w'))
        case atStart => exact ⟨(([] : List Int)), (0), z1, H', ⟨Nat.le_refl _⟩, ⟨y28⟩, ⟨y11⟩, ⟨y12⟩, ⟨y39⟩, ⟨y36⟩, ⟨y35⟩⟩
        case round =>
         clear H'
         try clear c1
         try clear c2
         try clear p2
         try clear q2
         try clear hx2
         try clear c3
         try clear c4
         try clear c6
         try clear p6
         try clear cF
         try clear dG
         try clear fp
         try clear c19b0
         try clear c19b1
         try clear cx
         try clear eD
         try clear c22b0
         try clear fZ
         try clear c23b0
         try clear p24
         try clear q24
         try clear hx24
         try clear eJ
         try clear f5
         try clear gj
         try clear fo
         try clear l8
         try clear iR
         try clear na
         try clear f4
         try clear jZ
         try clear wi
         try clear hF
         try clear i4
         try clear fT
         try clear fS
         try clear fR
         try clear fQ
         try clear gW
         try clear gV
         try clear gU
         try clear gT
         try clear gS
         try clear gR
         try clear gQ
         try clear gP
         try clear dY
         try clear dX
         try clear dW
         try clear gO
         try clear cT
         try clear cS
         try clear cR
         try clear gN
         try clear iH
         try clear iG
         try clear iF
         try clear iE
         try clear fM
         try clear fL
         try clear fK
         try clear fJ
         try clear gG
         try clear gF
         try clear gE
         try clear gD
         try clear gC
         try clear gB
         try clear gA
         try clear gz
         try clear dN
         try clear dM
         try clear dL
         try clear gy
         try clear cN
         try clear cM
         try clear cL
         try clear gx
         try clear iq
         try clear ip
         try clear im
         try clear il
         try clear p2
         try clear p24
         try clear p6
         try clear q2
         try clear q24
         obtain ⟨x6_3, x7_3, rfl, HA, HK3, cC, a8, aN, HI0, HK, HB⟩ := hrel
         cases gk with
         | zero => exact absurd HA.out (by simp [spec_l1Cur_command.l0])
         | succ k3 =>
          have H := HA.out
          clear HA
          simp only [spec_l1Cur_command.l0] at H
          by_cases hX : x7_3 < (a1.size : Int)
          ·rw [if_pos hX] at H
           have c57b0 : decide (x7_3 < (a1.size : Int)) = true := dT hX
           clear hX
           by_cases lJ : 0 ≤ x7_3
           ·rw [if_pos lJ] at H
            have c58b0 : decide (0 ≤ x7_3) = true := dT lJ
            clear lJ
            obtain ⟨sK, fb, H⟩ := oA_ H
            try dsimp only at H
            by_cases k0 : sK = true
            ·subst k0
             rw [if_pos rfl] at H
             by_cases jY : (wrap64 (1 + bf)) = 6
             ·rw [if_pos jY] at H
              have c62b0 : ((wrap64 (1 + bf)) == 6) = true := qT jY
              have c62b1 : ((wrap64 (1 + bf)) != 6) = false := nF jY
              clear jY
              by_cases oU : x7_3 > 0
              ·rw [if_pos oU] at H
               have c63b0 : decide (0 < x7_3) = true := dT oU
               clear oU
               obtain ⟨eP, hU⟩ : ∃ j_ : Int, (wrap64 (x7_3 - 1)) = j_ := ⟨_, rfl⟩
               replace H : (if 0 ≤ (eP) then (if (eP) < (a1.size : Int) then (if (bt a1 (eP)) = 47 then (if x6_3.length < 17592186044416 then (spec_l1Cur_command.l0 k3 a1 (x6_3 ++ [x7_3]) (wrap64 (x7_3 + 1)) s0_0 eG eF (wrap64 (1 + bf)) a9 a9 bQ) else (none)) else (spec_l1Cur_command.l0 k3 a1 x6_3 (wrap64 (x7_3 + 1)) s0_0 eG eF (wrap64 (1 + bf)) a9 a9 bQ)) else (none)) else (none)) = some (r1, r2, r3, r4, r5, r6) := by first | (rw [hU] at H; exact H) | (simp only [hU] at H ⊢; exact H)
               (try rw [hU] at fb)
               have hji64w : (IntKind.i64.wrap (x7_3 - 1)) = eP := (i64_w _).trans hU
               by_cases pf : 0 ≤ (eP)
               ·rw [if_pos pf] at H
                have c65b0 : decide (0 ≤ (eP)) = true := dT pf
                clear pf
                by_cases qi : (eP) < (a1.size : Int)
                ·rw [if_pos qi] at H
                 have c66b0 : decide ((eP) < (a1.size : Int)) = true := dT qi
                 clear qi
                 by_cases rq : (bt a1 (eP)) = 47
                 ·rw [if_pos rq] at H
                  have c68b0 : ((bt a1 (eP)) == 47) = true := qT rq
                  have c68b1 : ((bt a1 (eP)) != 47) = false := nF rq
                  clear rq
                  by_cases tS : x6_3.length < 17592186044416
                  ·rw [if_pos tS] at H
                   have LMc69 := aM tS
                   clear tS
                   obtain ⟨y523, hy523⟩ : ∃ y_ : List Int, y_ = (x6_3 ++ [x7_3]) := ⟨_, rfl⟩
                   replace H : (spec_l1Cur_command.l0 k3 a1 y523 (wrap64 (x7_3 + 1)) s0_0 eG eF (wrap64 (1 + bf)) a9 a9 bQ) = some (r1, r2, r3, r4, r5, r6) := by first | (rw [hy523]; with_reducible exact H) | (have H2_ := (Option.bind_some _ _).symm.trans H; rw [hy523]; with_reducible exact H2_) | (have H2_ := (Option.bind_some _ _).symm.trans H; with_reducible exact H2_) | with_reducible exact H | (rw [hy523]; exact H) | exact H
                   have Ny523 := aM hy523
                   clear hy523
                   have H' := aM H
                   clear H
                   have p59 : 0 ≤ (x7_3 : Int) := oD z2
                   have q59 : x7_3 < (a1.size : Int) := oD z2
                   have hx59 := bt_at a1 x7_3
                   replace p59 := eq_true p59
                   replace q59 := eq_true q59
                   go_wp2_with (first | ((with_reducible refine av (f := 29) rfl ?_); refine ay (some 74) rfl rfl Try.func29 z0 rfl #[.int .u8 (bt a1 x7_3)] rfl z15 ?_; (with_reducible refine (spec_l1Open.calls (bt a1 x7_3) true _ fb.out).mono ?_); rintro e w' ⟨rfl, ⟨nd, rfl⟩⟩; refine ⟨_, rfl, ?_⟩; have hnb70 := bO.out; have hnc70 := bc.out; have hnb71 := bw.out; have hnc71 := bi.out; obtain ⟨iD, iC, iB, ow, ik, ij, ii, nH⟩ := cc4 aN.out; have p67 : 0 ≤ ((eP) : Int) := oD z2; have q67 : (eP) < (a1.size : Int) := oD z2; have hx67 := bt_at a1 (eP); replace p67 := eq_true p67; replace q67 := eq_true q67) | ((with_reducible refine gate_builtin (b := .append) (xs := #[.tmp 91, .tmp 93]) rfl ?_); at_builtin; refine Kd.R_append (Kd.int .i64) w.heap.size rfl (.tmp 91) (.tmp 93) 74 3 (.int .i64 0) 8 rfl Try.underlying74 info3 rfl (by decide) (by omega) u6 x6_3 x7_3 [.int .i64 x7_3] (fun _ => True) (fun _ => False) rfl rfl ?aP (fun _ hk => hk.elim) ?aF ?aO (Below.refl _ _) ?aS ?aL ?_; (case aP => exact rfl); (case aF => exact (fun _ _ => trivial)); (case aO => exact (kR_ cC.out)); (case aS => exact (keep_size (w := w) (g := g) (row := none) z24)); (case aL => have := LMc69.out; omega); intro v524 w73 ho hb hg hat; rw [← Ny523.out] at ho; replace a8 := aM (blk_grown (g := bp) (o := .cells #[.int .i64 0, .int .i64 0, .int .i64 0, .string ⟨#[]⟩] 29 (0, 0)) z11 hg (Kd.R_ne cC.out a8.out (by decide))); replace aN := aM (blk_grown (g := aY) (o := .cells #[.int .i64 (wrap64 (1 + bf)), .int .i64 a9, .int .i64 a9, .string bQ] 29 (0, 0)) z12 hg (Kd.R_ne cC.out aN.out (by decide))); replace HB := aM (below_weaken (by repeat (first | (with_reducible first | exact HB.out | apply bA | apply pD | apply bD | refine am ?_ (IsS66.ge HI0.out) | refine am ?_ cJ.out | refine am ?_ dK.out) | exact HB.out)) HL.out hb); replace HI0 := aM (IsS66.grown (by (try simp only [Int.add_zero]); repeat (first | (with_reducible first | exact HI0.out | apply IsS66.alloc | apply IsS66.drewN | apply IsS66.drew | apply IsS66.set_1 | apply IsS66.set_2 | refine IsS66.far ?_ bn.out _ | refine IsS66.far ?_ bi.out _) | exact HI0.out)) hg (IsS66.own_ne HI0.out cC.out (by decide))); replace HK := aM (KeepBut.trans z24 (KeepBut.of_grown hg g) (Kd.R_base2 cC.out)); have HO525 := aM (ho); clear cC; clear ho hb hg hat))
                   go_roundg k3
                   case measure => have := dH.out; have := gl.out; have := HK3.out; omega
                   case rel => exact ⟨(y523), (wrap64 (x7_3 + 1)), z1, (by first | exact H' | (simp only [hU]; exact H') | (simp only [← hU]; exact H')), ⟨by have := dH.out; have := gl.out; have := HK3.out; omega⟩, ⟨kR_ HO525.out⟩, ⟨y11⟩, ⟨y12⟩, ⟨y39⟩, ⟨y36⟩, ⟨y35⟩⟩
                  ·rw [if_neg tS] at H
                   exact absurd H (by simp)
                 ·rw [if_neg rq] at H
                  have c68b0 : ((bt a1 (eP)) == 47) = false := qF rq
                  have c68b1 : ((bt a1 (eP)) != 47) = true := nT rq
                  have H' := aM H
                  clear H
                  have p59 : 0 ≤ (x7_3 : Int) := oD z2
                  have q59 : x7_3 < (a1.size : Int) := oD z2
                  have hx59 := bt_at a1 x7_3
                  replace p59 := eq_true p59
                  replace q59 := eq_true q59
                  go_wp2_with (first | ((with_reducible refine av (f := 29) rfl ?_); refine ay (some 74) rfl rfl Try.func29 z0 rfl #[.int .u8 (bt a1 x7_3)] rfl z15 ?_; (with_reducible refine (spec_l1Open.calls (bt a1 x7_3) true _ fb.out).mono ?_); rintro e w' ⟨rfl, ⟨nd, rfl⟩⟩; refine ⟨_, rfl, ?_⟩; have hnb74 := bO.out; have hnc74 := bc.out; have hnb75 := bw.out; have hnc75 := bi.out; obtain ⟨ov, ou, ot, oq, nG, nE, nD, nC⟩ := cc4 aN.out; have p67 : 0 ≤ ((eP) : Int) := oD z2; have q67 : (eP) < (a1.size : Int) := oD z2; have hx67 := bt_at a1 (eP); replace p67 := eq_true p67; replace q67 := eq_true q67))
                  go_roundg k3
                  case measure => have := dH.out; have := gl.out; have := HK3.out; omega
                  case rel => exact ⟨(x6_3), (wrap64 (x7_3 + 1)), z1, (by first | exact H' | (simp only [hU]; exact H') | (simp only [← hU]; exact H')), ⟨by have := dH.out; have := gl.out; have := HK3.out; omega⟩, ⟨kR_ cC.out⟩, ⟨y11⟩, ⟨y12⟩, ⟨y39⟩, ⟨y36⟩, ⟨y35⟩⟩
                ·rw [if_neg qi] at H
                 exact absurd H (by simp)
               ·rw [if_neg pf] at H
                exact absurd H (by simp)
              ·rw [if_neg oU] at H
               have c63b0 : decide (0 < x7_3) = false := dF oU
               clear oU
               have H' := aM H
               clear H
               have p59 : 0 ≤ (x7_3 : Int) := oD z2
               have q59 : x7_3 < (a1.size : Int) := oD z2
               have hx59 := bt_at a1 x7_3
               replace p59 := eq_true p59
               replace q59 := eq_true q59
               go_wp2_with (first | ((with_reducible refine av (f := 29) rfl ?_); refine ay (some 74) rfl rfl Try.func29 z0 rfl #[.int .u8 (bt a1 x7_3)] rfl z15 ?_; (with_reducible refine (spec_l1Open.calls (bt a1 x7_3) true _ fb.out).mono ?_); rintro e w' ⟨rfl, ⟨nd, rfl⟩⟩; refine ⟨_, rfl, ?_⟩; have hnb77 := bO.out; have hnc77 := bc.out; have hnb78 := bw.out; have hnc78 := bi.out; obtain ⟨oo, om, ol, oh, nB, nA, nz, ny⟩ := cc4 aN.out))
               go_roundg k3
               case measure => have := dH.out; have := gl.out; have := HK3.out; omega
               case rel => exact ⟨(x6_3), (wrap64 (x7_3 + 1)), z1, H', ⟨by have := dH.out; have := gl.out; have := HK3.out; omega⟩, ⟨kR_ cC.out⟩, ⟨y11⟩, ⟨y12⟩, ⟨y39⟩, ⟨y36⟩, ⟨y35⟩⟩
             ·rw [if_neg jY] at H
              have c62b0 : ((wrap64 (1 + bf)) == 6) = false := qF jY
              have c62b1 : ((wrap64 (1 + bf)) != 6) = true := nT jY
              by_cases kX : x6_3.length < 17592186044416
              ·rw [if_pos kX] at H
               have LMc80 := aM kX
               clear kX
               obtain ⟨y526, hy526⟩ : ∃ y_ : List Int, y_ = (x6_3 ++ [x7_3]) := ⟨_, rfl⟩
               replace H : (spec_l1Cur_command.l0 k3 a1 y526 (wrap64 (x7_3 + 1)) s0_0 eG eF (wrap64 (1 + bf)) a9 a9 bQ) = some (r1, r2, r3, r4, r5, r6) := by first | (rw [hy526]; with_reducible exact H) | (have H2_ := (Option.bind_some _ _).symm.trans H; rw [hy526]; with_reducible exact H2_) | (have H2_ := (Option.bind_some _ _).symm.trans H; with_reducible exact H2_) | with_reducible exact H | (rw [hy526]; exact H) | exact H
               have Ny526 := aM hy526
               clear hy526
               have H' := aM H
               clear H
               have p59 : 0 ≤ (x7_3 : Int) := oD z2
               have q59 : x7_3 < (a1.size : Int) := oD z2
               have hx59 := bt_at a1 x7_3
               replace p59 := eq_true p59
               replace q59 := eq_true q59
               go_wp2_with (first | ((with_reducible refine av (f := 29) rfl ?_); refine ay (some 74) rfl rfl Try.func29 z0 rfl #[.int .u8 (bt a1 x7_3)] rfl z15 ?_; (with_reducible refine (spec_l1Open.calls (bt a1 x7_3) true _ fb.out).mono ?_); rintro e w' ⟨rfl, ⟨nd, rfl⟩⟩; refine ⟨_, rfl, ?_⟩; have hnb81 := bO.out; have hnc81 := bc.out; have hnb82 := bw.out; have hnc82 := bi.out; obtain ⟨oe, od, oc, ob, nx, nw, nv, nu⟩ := cc4 aN.out) | ((with_reducible refine gate_builtin (b := .append) (xs := #[.tmp 91, .tmp 93]) rfl ?_); at_builtin; refine Kd.R_append (Kd.int .i64) w.heap.size rfl (.tmp 91) (.tmp 93) 74 3 (.int .i64 0) 8 rfl Try.underlying74 info3 rfl (by decide) (by omega) u6 x6_3 x7_3 [.int .i64 x7_3] (fun _ => True) (fun _ => False) rfl rfl ?aP (fun _ hk => hk.elim) ?aF ?aO (Below.refl _ _) ?aS ?aL ?_; (case aP => exact rfl); (case aF => exact (fun _ _ => trivial)); (case aO => exact (kR_ cC.out)); (case aS => exact (keep_size (w := w) (g := g) (row := none) z24)); (case aL => have := LMc80.out; omega); intro v527 w84 ho hb hg hat; rw [← Ny526.out] at ho; replace a8 := aM (blk_grown (g := bp) (o := .cells #[.int .i64 0, .int .i64 0, .int .i64 0, .string ⟨#[]⟩] 29 (0, 0)) z11 hg (Kd.R_ne cC.out a8.out (by decide))); replace aN := aM (blk_grown (g := aY) (o := .cells #[.int .i64 (wrap64 (1 + bf)), .int .i64 a9, .int .i64 a9, .string bQ] 29 (0, 0)) z12 hg (Kd.R_ne cC.out aN.out (by decide))); replace HB := aM (below_weaken (by repeat (first | (with_reducible first | exact HB.out | apply bA | apply pD | apply bD | refine am ?_ (IsS66.ge HI0.out) | refine am ?_ cJ.out | refine am ?_ dK.out) | exact HB.out)) HL.out hb); replace HI0 := aM (IsS66.grown (by (try simp only [Int.add_zero]); repeat (first | (with_reducible first | exact HI0.out | apply IsS66.alloc | apply IsS66.drewN | apply IsS66.drew | apply IsS66.set_1 | apply IsS66.set_2 | refine IsS66.far ?_ bn.out _ | refine IsS66.far ?_ bi.out _) | exact HI0.out)) hg (IsS66.own_ne HI0.out cC.out (by decide))); replace HK := aM (KeepBut.trans z24 (KeepBut.of_grown hg g) (Kd.R_base2 cC.out)); have HO528 := aM (ho); clear cC; clear ho hb hg hat))
               go_roundg k3
               case measure => have := dH.out; have := gl.out; have := HK3.out; omega
               case rel => exact ⟨(y526), (wrap64 (x7_3 + 1)), z1, H', ⟨by have := dH.out; have := gl.out; have := HK3.out; omega⟩, ⟨kR_ HO528.out⟩, ⟨y11⟩, ⟨y12⟩, ⟨y39⟩, ⟨y36⟩, ⟨y35⟩⟩
              ·rw [if_neg kX] at H
               exact absurd H (by simp)
            ·replace k0 := Bool.eq_false_iff.mpr k0
             subst k0
             rw [if_neg nF_] at H
             have H' := aM H
             clear H
             have p59 : 0 ≤ (x7_3 : Int) := oD z2
             have q59 : x7_3 < (a1.size : Int) := oD z2
             have hx59 := bt_at a1 x7_3
             replace p59 := eq_true p59
             replace q59 := eq_true q59
             go_wp2_with (first | ((with_reducible refine av (f := 29) rfl ?_); refine ay (some 74) rfl rfl Try.func29 z0 rfl #[.int .u8 (bt a1 x7_3)] rfl z15 ?_; (with_reducible refine (spec_l1Open.calls (bt a1 x7_3) false _ fb.out).mono ?_); rintro e w' ⟨rfl, ⟨nd, rfl⟩⟩; refine ⟨_, rfl, ?_⟩))
             go_roundg k3
             case measure => have := dH.out; have := gl.out; have := HK3.out; omega
             case rel => exact ⟨(x6_3), (wrap64 (x7_3 + 1)), z1, H', ⟨by have := dH.out; have := gl.out; have := HK3.out; omega⟩, ⟨kR_ cC.out⟩, ⟨y11⟩, ⟨y12⟩, ⟨y39⟩, ⟨y36⟩, ⟨y35⟩⟩
           ·rw [if_neg lJ] at H
            exact absurd H (by simp)
          ·rw [if_neg hX] at H
           have c57b0 : decide (x7_3 < (a1.size : Int)) = false := dF hX
           clear hX
           have tp := aM H
           clear H
           go_upto_region 19 with (fail)
           go_cut [102] (fun v102 wc => ∃ (kq : Nat) (x102_84 : Bool) (x1001_84 : Int) (x1002_84 : Int), v102 = .bool x102_84 ∧ Aside0 (spec_l1Cur_command.j4 kq a1 x6_3 x102_84 s0_0 x1001_84 x1002_84 (wrap64 (1 + bf)) a9 a9 bQ = some (r1, r2, r3, r4, r5, r6)) ∧ Aside0 (kq ≤ k3) ∧ Aside0 (Kd.R (Kd.int .i64) 3 wc w.heap.size (fun _ => True) u6 x6_3) ∧ Aside0 (wc.heap[bp]? = some (.cells #[.int .i64 0, .int .i64 0, .int .i64 0, .string ⟨#[]⟩] 29 (0, 0))) ∧ Aside0 (wc.heap[aY]? = some (.cells #[.int .i64 (wrap64 (1 + bf)), .int .i64 a9, .int .i64 a9, .string bQ] 29 (0, 0))) ∧ Aside0 (IsS66 w0 wc g s0_0 x1001_84 x1002_84) ∧ Aside0 (KeepBut w wc g none) ∧ Aside0 (Below w0.heap.size w0 wc))
           case first =>
            have H := tp.out
            clear tp
            by_cases kW : (x6_3.length : Int) > 0
            ·rw [if_pos kW] at H
             have c86b0 : decide (0 < (x6_3.length : Int)) = true := dT kW
             have c86b1 : decide (0 < x6_3.length) = true := dT (by omega)
             clear kW
             (first | rw [c86b0] | (simp only [i64_w, i32_w]; rw [c86b0]) | skip)
             obtain ⟨⟨ug, uf, ue⟩, tL, H⟩ := oA_ H
             try dsimp only at H
             have H' := aM H
             clear H
             obtain ⟨Ao88, co88, eo88⟩ := Kd.R_slice cC.out
             subst eo88
             go_wp2_with (first | (go_at_call 62; (with_reducible refine (spec_l1Cur_one.calls g s0_0 eG eF 8 ug uf ue w0 _ ?side1 ?side2 tL.out).mono ?_); (case side1 => exact y57); (case side2 => exact y55); rintro e w89 ⟨rfl, hi, hb, hk⟩; replace cC := aM (ag (Kd.R_keep (IsS66.apart (show IsS66 w0 _ g s0_0 eG eF from by (try simp only [Int.add_zero]); repeat (first | (with_reducible first | exact HI0.out | apply IsS66.alloc | apply IsS66.drewN | apply IsS66.drew | apply IsS66.set_1 | apply IsS66.set_2 | refine IsS66.far ?_ bn.out _ | refine IsS66.far ?_ bi.out _) | exact HI0.out)) (kR_ cC.out) (by decide)) hk (fun _ h => h.2)) (fun _ h => h.1)); replace a8 := aM (KeepBut.blk hk (g' := bp) (o := .cells #[.int .i64 0, .int .i64 0, .int .i64 0, .string ⟨#[]⟩] 29 (0, 0)) z11 ch.out (by simp)); replace aN := aM (KeepBut.blk hk (g' := aY) (o := .cells #[.int .i64 (wrap64 (1 + bf)), .int .i64 a9, .int .i64 a9, .string bQ] 29 (0, 0)) z12 bw.out (by simp)); replace HK := aM (KeepBut.trans z24 hk (.inl rfl)); replace HB := aM (hb); replace HI0 := aM (hi); (try clear hb); (try clear hk); (try clear hi); (try clear cG)))
             go_meet
             case rel => exact ⟨_, (!ug), (uf), (ue), z1, H', ⟨by have := dH.out; have := gl.out; have := HK3.out; first | omega | exact Nat.le_refl _⟩, ⟨kR_ cC.out⟩, ⟨y11⟩, ⟨y12⟩, ⟨y39⟩, ⟨y36⟩, ⟨y35⟩⟩
            ·rw [if_neg kW] at H
             have c86b0 : decide (0 < (x6_3.length : Int)) = false := dF kW
             have c86b1 : decide (0 < x6_3.length) = false := dF (by omega)
             clear kW
             (first | rw [c86b0] | (simp only [i64_w, i32_w]; rw [c86b0]) | skip)
             have H' := aM H
             clear H
             obtain ⟨Ao90, co90, eo90⟩ := Kd.R_slice cC.out
             subst eo90
             go_wp2
             go_meet
             case rel => exact ⟨_, (false), (eG), (eF), z1, H', ⟨by have := dH.out; have := gl.out; have := HK3.out; first | omega | exact Nat.le_refl _⟩, ⟨kR_ cC.out⟩, ⟨y11⟩, ⟨y12⟩, ⟨y39⟩, ⟨y36⟩, ⟨y35⟩⟩
           case rest =>
            clear tp
            try clear c1
            try clear c2
            try clear p2
            try clear q2
            try clear hx2
            try clear c3
            try clear c4
            try clear c5
            try clear c6
            try clear p6
            try clear cF
            try clear dG
            try clear fp
            try clear c19b0
            try clear c19b1
            try clear cx
            try clear eD
            try clear c22b0
            try clear fZ
            try clear c23b0
            try clear p24
            try clear q24
            try clear hx24
            try clear eJ
            try clear f5
            try clear gj
            try clear fo
            try clear l8
            try clear iR
            try clear na
            try clear f4
            try clear jZ
            try clear wi
            try clear hF
            try clear i6
            try clear eI
            try clear fm
            try clear c53b0
            try clear c53b1
            try clear k5
            try clear c54b0
            try clear c54b1
            try clear kg
            try clear c55b0
            try clear c55b1
            try clear i4
            try clear hX
            try clear c57b0
            try clear fT
            try clear fS
            try clear fR
            try clear fQ
            try clear gW
            try clear gV
            try clear gU
            try clear gT
            try clear gS
            try clear gR
            try clear gQ
            try clear gP
            try clear dY
            try clear dX
            try clear dW
            try clear gO
            try clear cT
            try clear cS
            try clear cR
            try clear gN
            try clear iH
            try clear iG
            try clear iF
            try clear iE
            try clear fM
            try clear fL
            try clear fK
            try clear fJ
            try clear gG
            try clear gF
            try clear gE
            try clear gD
            try clear gC
            try clear gB
            try clear gA
            try clear gz
            try clear dN
            try clear dM
            try clear dL
            try clear gy
            try clear cN
            try clear cM
            try clear cL
            try clear gx
            try clear iq
            try clear ip
            try clear im
            try clear il
            try clear p2
            try clear p24
            try clear p6
            try clear q2
            try clear q24
            obtain ⟨kq, x102_84, x1001_84, x1002_84, rfl, HA, vl, cC, a8, aN, HI0, HK, HB⟩ := hcut
            cases kq with
            | zero => exact absurd HA.out (by simp [spec_l1Cur_command.j4])
            | succ kj84 =>
             have H := HA.out
             clear HA
             simp only [spec_l1Cur_command.j4] at H
             by_cases rn : x102_84 = true
             ·subst rn
              rw [if_pos rfl] at H
              obtain ⟨⟨hH, sJ, sH⟩, wz, H⟩ := oA_ H
              try dsimp only at H
              by_cases u7 : 0 ≤ hH
              ·rw [if_pos u7] at H
               have c93b0 : decide (0 ≤ hH) = true := dT u7
               clear u7
               by_cases u4 : hH < (x6_3.length : Int)
               ·rw [if_pos u4] at H
                have c94b0 : decide (hH < (x6_3.length : Int)) = true := dT u4
                clear u4
                obtain ⟨⟨ud, uc, ub⟩, A95, H⟩ := oA_ H
                try dsimp only at H
                have H' := aM H
                clear H
                obtain ⟨Ao96, co96, eo96⟩ := Kd.R_slice cC.out
                subst eo96
                go_wp2_with (first | ((with_reducible refine av (f := 60) rfl ?_); refine ay (some 107) rfl rfl Try.func60 z0 rfl #[.pointer (some ⟨g, 0, none⟩), .int .i64 (x6_3.length : Int)] rfl z15 ?_; (with_reducible refine (spec_l1Cur_pick.calls g s0_0 x1001_84 x1002_84 (x6_3.length : Int) hH sJ sH w0 _ ?side1 ?side2 wz.out).mono ?_); (case side1 => exact y57); (case side2 => exact y55); rintro e w97 ⟨rfl, hi, hb, hk⟩; refine ⟨_, rfl, ?_⟩; replace cC := aM (ag (Kd.R_keep (IsS66.apart (show IsS66 w0 _ g s0_0 x1001_84 x1002_84 from by (try simp only [Int.add_zero]); repeat (first | (with_reducible first | exact HI0.out | apply IsS66.alloc | apply IsS66.drewN | apply IsS66.drew | apply IsS66.set_1 | apply IsS66.set_2 | refine IsS66.far ?_ bn.out _ | refine IsS66.far ?_ bi.out _) | exact HI0.out)) (kR_ cC.out) (by decide)) hk (fun _ h => h.2)) (fun _ h => h.1)); replace a8 := aM (KeepBut.blk hk (g' := bp) (o := .cells #[.int .i64 0, .int .i64 0, .int .i64 0, .string ⟨#[]⟩] 29 (0, 0)) z11 ch.out (by simp)); replace aN := aM (KeepBut.blk hk (g' := aY) (o := .cells #[.int .i64 (wrap64 (1 + bf)), .int .i64 a9, .int .i64 a9, .string bQ] 29 (0, 0)) z12 bw.out (by simp)); replace HK := aM (KeepBut.trans z24 hk (.inl rfl)); replace HB := aM (hb); replace HI0 := aM (hi); (try clear hb); (try clear hk); (try clear hi); (try clear cG); have p535 : 0 ≤ (hH : Int) := oD z2; have q535 : hH < (x6_3.length : Int) := oD z2; obtain ⟨ad535, e535, hx535_0⟩ := Kd.at_int (ah cC.out).2.2 hH p535 q535; cases e535; replace p535 := eq_true p535; replace q535 := eq_true q535; have hnb98 := bO.out; have hnc98 := bc.out; have hnb99 := bw.out; have hnc99 := bi.out; obtain ⟨lF, lE, lD, hcz100_3, lw, lv, lu, hfz100_3⟩ := cc4 aN.out) | ((with_reducible refine av (f := 60) rfl ?_); refine ay (some 115) rfl rfl Try.func60 z0 rfl #[.pointer (some ⟨g, 0, none⟩), .int .i64 (wrap64 ((a1.size : Int) + 1))] rfl z15 ?_; (with_reducible refine (spec_l1Cur_pick.calls g s0_0 sJ sH (wrap64 ((a1.size : Int) + 1)) ud uc ub w0 _ ?side1 ?side2 A95.out).mono ?_); (case side1 => exact y57); (case side2 => exact y55); rintro e w101 ⟨rfl, hi, hb, hk⟩; refine ⟨_, rfl, ?_⟩; replace cC := aM (ag (Kd.R_keep (IsS66.apart (show IsS66 w0 _ g s0_0 sJ sH from by (try simp only [Int.add_zero]); repeat (first | (with_reducible first | exact HI0.out | apply IsS66.alloc | apply IsS66.drewN | apply IsS66.drew | apply IsS66.set_1 | apply IsS66.set_2 | refine IsS66.far ?_ bn.out _ | refine IsS66.far ?_ bi.out _) | exact HI0.out)) (by (with_reducible repeat (first | apply ac | apply ab | apply aa)); exact (ag (Kd.R_far (p := ⟨aY, 1, none⟩) (Kd.R_types cC.out aN.out (by decide)) (fun _ hk => hk.2) (.int .i64 (rd x6_3 hH))) (fun _ h_ => h_.1))) (by decide)) hk (fun _ h => h.2)) (fun _ h => h.1)); replace a8 := aM (KeepBut.blk hk (g' := bp) (o := .cells #[.int .i64 0, .int .i64 0, .int .i64 0, .string ⟨#[]⟩] 29 (0, 0)) (by (with_reducible repeat (first | refine aj ?_ _ | refine ai ?_ | refine ak ?_ _)); refine blk_far ?_ bc.out _; (with_reducible repeat (first | refine aj ?_ _ | refine ai ?_ | refine ak ?_ _)); exact a8.out) ch.out (by simp)); replace aN := aM (KeepBut.blk hk (g' := aY) (o := .cells #[.int .i64 (wrap64 (1 + bf)), .int .i64 (rd x6_3 hH), .int .i64 a9, .string bQ] 29 (0, 0)) (by (with_reducible repeat (first | refine aj ?_ _ | refine ai ?_ | refine ak ?_ _)); refine al (cs := #[.int .i64 (wrap64 (1 + bf)), .int .i64 a9, .int .i64 a9, .string bQ]) ?_ 1 _ rfl; (with_reducible repeat (first | refine aj ?_ _ | refine ai ?_ | refine ak ?_ _)); exact aN.out) bw.out (by simp)); replace HK := aM (KeepBut.trans z24 hk (.inl rfl)); replace HB := aM (hb); replace HI0 := aM (hi); (try clear hb); (try clear hk); (try clear hi); (try clear cG); obtain ⟨hcz102_0, hcz102_1, hcz102_2, hcz102_3, hfz102_0, hfz102_1, hfz102_2, hfz102_3⟩ := cc4 aN.out))
                go_meet
                case rel => exact ⟨_, (uc), (ub), (rd x6_3 hH), (ud), H', ⟨by have := dH.out; have := gl.out; have := HK3.out; have := vl.out; first | omega | exact Nat.le_refl _⟩, ⟨y38⟩, ⟨by (with_reducible repeat (first | refine aj ?_ _ | refine ai ?_ | refine ak ?_ _)); refine al (cs := #[.int .i64 (wrap64 (1 + bf)), .int .i64 (rd x6_3 hH), .int .i64 a9, .string bQ]) ?_ 2 _ rfl; (with_reducible repeat (first | refine aj ?_ _ | refine ai ?_ | refine ak ?_ _)); exact aN.out⟩, ⟨y39⟩, ⟨y36⟩, ⟨y35⟩⟩
               ·rw [if_neg u4] at H
                exact absurd H (by simp)
              ·rw [if_neg u7] at H
               exact absurd H (by simp)
             ·replace rn := Bool.eq_false_iff.mpr rn
              subst rn
              rw [if_neg nF_] at H
              obtain ⟨⟨ua, t9, t8⟩, A103, H⟩ := oA_ H
              try dsimp only at H
              have H' := aM H
              clear H
              go_wp2_with (first | ((with_reducible refine av (f := 60) rfl ?_); refine ay (some 115) rfl rfl Try.func60 z0 rfl #[.pointer (some ⟨g, 0, none⟩), .int .i64 (wrap64 ((a1.size : Int) + 1))] rfl z15 ?_; (with_reducible refine (spec_l1Cur_pick.calls g s0_0 x1001_84 x1002_84 (wrap64 ((a1.size : Int) + 1)) ua t9 t8 w0 _ ?side1 ?side2 A103.out).mono ?_); (case side1 => exact y57); (case side2 => exact y55); rintro e w104 ⟨rfl, hi, hb, hk⟩; refine ⟨_, rfl, ?_⟩; replace cC := aM (ag (Kd.R_keep (IsS66.apart (show IsS66 w0 _ g s0_0 x1001_84 x1002_84 from by (try simp only [Int.add_zero]); repeat (first | (with_reducible first | exact HI0.out | apply IsS66.alloc | apply IsS66.drewN | apply IsS66.drew | apply IsS66.set_1 | apply IsS66.set_2 | refine IsS66.far ?_ bn.out _ | refine IsS66.far ?_ bi.out _) | exact HI0.out)) (kR_ cC.out) (by decide)) hk (fun _ h => h.2)) (fun _ h => h.1)); replace a8 := aM (KeepBut.blk hk (g' := bp) (o := .cells #[.int .i64 0, .int .i64 0, .int .i64 0, .string ⟨#[]⟩] 29 (0, 0)) z11 ch.out (by simp)); replace aN := aM (KeepBut.blk hk (g' := aY) (o := .cells #[.int .i64 (wrap64 (1 + bf)), .int .i64 a9, .int .i64 a9, .string bQ] 29 (0, 0)) z12 bw.out (by simp)); replace HK := aM (KeepBut.trans z24 hk (.inl rfl)); replace HB := aM (hb); replace HI0 := aM (hi); (try clear hb); (try clear hk); (try clear hi); (try clear cG); have hnb105 := bO.out; have hnc105 := bc.out; have hnb106 := bw.out; have hnc106 := bi.out; obtain ⟨lz, ly, lx, hcz107_3, lp, ln, lm, hfz107_3⟩ := cc4 aN.out))
              go_meet
              case rel => exact ⟨_, (t9), (t8), (a9), (ua), H', ⟨by have := dH.out; have := gl.out; have := HK3.out; have := vl.out; first | omega | exact Nat.le_refl _⟩, ⟨y38⟩, ⟨y40⟩, ⟨y39⟩, ⟨y36⟩, ⟨y35⟩⟩
       ·replace i4 := Bool.eq_false_iff.mpr i4
        subst i4
        rw [if_neg nF_] at H
        have H' := aM H
        clear H
        go_wp2
        go_meet
        case rel => exact ⟨_, (eG), (eF), (a9), (a9), H', ⟨by have := dH.out; have := gl.out; first | omega | exact Nat.le_refl _⟩, ⟨y11⟩, ⟨y12⟩, ⟨y39⟩, ⟨y36⟩, ⟨y35⟩⟩
 case rest =>
  clear jH
  try clear fT
  try clear fS
  try clear fR
  try clear fQ
  try clear fM
  try clear fL
  try clear fK
  try clear fJ
  obtain ⟨kq, x1001_5, x1002_5, x513001_5, x513002_5, HA, g8, a8, aN, HI0, HK, HB⟩ := hcut
  cases kq with
  | zero => exact absurd HA.out (by simp [spec_l1Cur_command.j5])
  | succ kj5 =>
   have H := HA.out
   clear HA
   simp only [spec_l1Cur_command.j5] at H
   obtain ⟨⟨t542, sG, sF⟩, v0, H⟩ := oA_ H
   try dsimp only at H
   by_cases rS : t542 = true
   ·subst rS
    rw [if_pos rfl] at H
    obtain ⟨⟨oZ, t7, t6⟩, fc, H⟩ := oA_ H
    try dsimp only at H
    obtain ⟨⟨pt, t5, t4⟩, tP, H⟩ := oA_ H
    try dsimp only at H
    obtain ⟨⟨rv, ru, rt⟩, A112, H⟩ := oA_ H
    try dsimp only at H
    obtain ⟨y554, hy554⟩ : ∃ y_ : List ByteArray, y_ = (([(⟨#[]⟩ : ByteArray), (⟨#[90]⟩ : ByteArray), (⟨#[65]⟩ : ByteArray)] : List ByteArray)) := ⟨_, rfl⟩
    replace H : ((spec_l1Cur_of.f s0_0 ru rt y554).bind fun i9 => (some (wrap64 (oZ - 1), wrap64 (pt - 1), wrap64 (rv - 1), i9.1, i9.2.1, i9.2.2))) = some (r1, r2, r3, r4, r5, r6) := by first | (rw [hy554]; with_reducible exact H) | (have H2_ := (Option.bind_some _ _).symm.trans H; rw [hy554]; with_reducible exact H2_) | (have H2_ := (Option.bind_some _ _).symm.trans H; with_reducible exact H2_) | with_reducible exact H | (rw [hy554]; exact H) | exact H
    have Ny554 := aM hy554
    clear hy554
    obtain ⟨⟨t3, t558, t559⟩, A113, H⟩ := oA_ H
    try dsimp only at H
    simp only [Option.some.injEq, Prod.mk.injEq] at H
    obtain ⟨rfl, rfl, rfl, rfl, rfl, rfl⟩ := H
    go_wp2_with (first | ((with_reducible refine av (f := 62) rfl ?_); refine ay (some 118) rfl rfl Try.func62 z0 rfl #[.pointer (some ⟨g, 0, none⟩), .int .i64 40] rfl z15 ?_; (with_reducible refine (spec_l1Cur_one.calls g s0_0 x1001_5 x1002_5 40 true sG sF w0 _ ?side1 ?side2 v0.out).mono ?_); (case side1 => exact y57); (case side2 => exact y55); rintro e w114 ⟨rfl, hi, hb, hk⟩; refine ⟨_, rfl, ?_⟩; replace a8 := aM (KeepBut.blk hk (g' := bp) (o := .cells #[.int .i64 0, .int .i64 0, .int .i64 0, .string ⟨#[]⟩] 29 (0, 0)) z11 ch.out (by simp)); replace aN := aM (KeepBut.blk hk (g' := aY) (o := .cells #[.int .i64 (wrap64 (1 + bf)), .int .i64 x513001_5, .int .i64 x513002_5, .string bQ] 29 (0, 0)) z12 bw.out (by simp)); replace HK := aM (KeepBut.trans z24 hk (.inl rfl)); replace HB := aM (hb); replace HI0 := aM (hi); (try clear hb); (try clear hk); (try clear hi); (try clear cG)) | ((with_reducible refine av (f := 60) rfl ?_); refine ay (some 120) rfl rfl Try.func60 z0 rfl #[.pointer (some ⟨g, 0, none⟩), .int .i64 11] rfl z15 ?_; (with_reducible refine (spec_l1Cur_pick.calls g s0_0 sG sF 11 oZ t7 t6 w0 _ ?side1 ?side2 fc.out).mono ?_); (case side1 => exact y57); (case side2 => exact y55); rintro e w115 ⟨rfl, hi, hb, hk⟩; refine ⟨_, rfl, ?_⟩; replace a8 := aM (KeepBut.blk hk (g' := bp) (o := .cells #[.int .i64 0, .int .i64 0, .int .i64 0, .string ⟨#[]⟩] 29 (0, 0)) z11 ch.out (by simp)); replace aN := aM (KeepBut.blk hk (g' := aY) (o := .cells #[.int .i64 (wrap64 (1 + bf)), .int .i64 x513001_5, .int .i64 x513002_5, .string bQ] 29 (0, 0)) z12 bw.out (by simp)); replace HK := aM (KeepBut.trans z24 hk (.inl rfl)); replace HB := aM (hb); replace HI0 := aM (hi); (try clear hb); (try clear hk); (try clear hi); (try clear cG)) | ((with_reducible refine av (f := 60) rfl ?_); refine ay (some 123) rfl rfl Try.func60 z0 rfl #[.pointer (some ⟨g, 0, none⟩), .int .i64 9] rfl z15 ?_; (with_reducible refine (spec_l1Cur_pick.calls g s0_0 t7 t6 9 pt t5 t4 w0 _ ?side1 ?side2 tP.out).mono ?_); (case side1 => exact y57); (case side2 => exact y55); rintro e w116 ⟨rfl, hi, hb, hk⟩; refine ⟨_, rfl, ?_⟩; replace a8 := aM (KeepBut.blk hk (g' := bp) (o := .cells #[.int .i64 0, .int .i64 0, .int .i64 0, .string ⟨#[]⟩] 29 (0, 0)) z11 ch.out (by simp)); replace aN := aM (KeepBut.blk hk (g' := aY) (o := .cells #[.int .i64 (wrap64 (1 + bf)), .int .i64 x513001_5, .int .i64 x513002_5, .string bQ] 29 (0, 0)) z12 bw.out (by simp)); replace HK := aM (KeepBut.trans z24 hk (.inl rfl)); replace HB := aM (hb); replace HI0 := aM (hi); (try clear hb); (try clear hk); (try clear hi); (try clear cG)) | ((with_reducible refine av (f := 60) rfl ?_); refine ay (some 126) rfl rfl Try.func60 z0 rfl #[.pointer (some ⟨g, 0, none⟩), .int .i64 9] rfl z15 ?_; (with_reducible refine (spec_l1Cur_pick.calls g s0_0 t5 t4 9 rv ru rt w0 _ ?side1 ?side2 A112.out).mono ?_); (case side1 => exact y57); (case side2 => exact y55); rintro e w117 ⟨rfl, hi, hb, hk⟩; refine ⟨_, rfl, ?_⟩; replace a8 := aM (KeepBut.blk hk (g' := bp) (o := .cells #[.int .i64 0, .int .i64 0, .int .i64 0, .string ⟨#[]⟩] 29 (0, 0)) z11 ch.out (by simp)); replace aN := aM (KeepBut.blk hk (g' := aY) (o := .cells #[.int .i64 (wrap64 (1 + bf)), .int .i64 x513001_5, .int .i64 x513002_5, .string bQ] 29 (0, 0)) z12 bw.out (by simp)); replace HK := aM (KeepBut.trans z24 hk (.inl rfl)); replace HB := aM (hb); replace HI0 := aM (hi); (try clear hb); (try clear hk); (try clear hi); (try clear cG)) | ((with_reducible refine aw (N := 129) rfl ?_); refine Kd.R_lit Kd.string _ 9 ?hg (N := 129) ?hd (xs := ([(⟨#[]⟩ : ByteArray), (⟨#[90]⟩ : ByteArray), (⟨#[65]⟩ : ByteArray)] : List ByteArray)) (inner := [.string ⟨#[]⟩, .string (⟨#[90]⟩ : ByteArray), .string (⟨#[65]⟩ : ByteArray)]) (ok := fun _ => True) (okp := fun _ => True) ?hr ?hp (fun _ hk => hk) trivial (Below.refl _ _) (Nat.le_refl _) (by simp) ?_; (case hd => rfl); (case hg => rfl); (case hr => first | (go_simp; done) | (go_simp; rfl)); (case hp => exact (Reps.one (show Kd.M Kd.string _ _ _ (⟨#[]⟩ : ByteArray) [.string ⟨#[]⟩] from rfl) (Reps.one (show Kd.M Kd.string _ _ _ (⟨#[90]⟩ : ByteArray) [.string (⟨#[90]⟩ : ByteArray)] from rfl) (Reps.one (show Kd.M Kd.string _ _ _ (⟨#[65]⟩ : ByteArray) [.string (⟨#[65]⟩ : ByteArray)] from rfl) (Reps.none _ _))))); intro v555 w118 ho119 hb hg_ hnew_; clear hg_ hnew_; (first | rw [← Ny554.out] at ho119 | (simp only [Int.reduceToNat] at ho119; rw [← Ny554.out] at ho119)); have jz := aM (az ho119 (keep_size (w := w) (g := g) (row := none) z24)); replace a8 := aM (bK_ a8.out hb); replace aN := aM (bK_ aN.out hb); replace HK := aM (KeepBut.trans z24 (KeepBut.of_below hb g none) (.inl rfl)); replace HB := aM (ao (by repeat (first | (with_reducible first | exact HB.out | apply bA | apply pD | apply bD | refine am ?_ (IsS66.ge HI0.out) | refine am ?_ cJ.out | refine am ?_ dK.out) | exact HB.out)) hb); replace HI0 := aM (IsS66.below (by (try simp only [Int.add_zero]); repeat (first | (with_reducible first | exact HI0.out | apply IsS66.alloc | apply IsS66.drewN | apply IsS66.drew | apply IsS66.set_1 | apply IsS66.set_2 | refine IsS66.far ?_ bn.out _ | refine IsS66.far ?_ bi.out _) | exact HI0.out)) hb); clear hb ho119; obtain ⟨Ao120, co120, eo120⟩ := Kd.R_slice jz.out; subst eo120) | ((with_reducible refine av (f := 61) rfl ?_); refine ay (some 130) rfl rfl Try.func61 z0 rfl #[.pointer (some ⟨g, 0, none⟩), .slice Ao120 y554.length co120] rfl z15 ?_; (with_reducible refine (spec_l1Cur_of.calls g s0_0 ru rt _ _ y554 t3 t558 t559 w0 _ ?side1 ?side2 ?side3 ?side4 ?side5 A113.out).mono ?_); (case side1 => exact y57); (case side2 => exact y55); (case side3 => repeat (first | exact (ah jz.out).2.2 | (with_reducible refine aq ?_ _) | (with_reducible refine ar ?_ _) | (with_reducible refine au ?_))); (case side4 => exact (ah jz.out).2.1); (case side5 => exact far_slice (IsS66.own_ne HI0.out jz.out (by decide))); rintro e w121 ⟨rfl, hi, hb, hk⟩; refine ⟨_, rfl, ?_⟩; replace a8 := aM (KeepBut.blk hk (g' := bp) (o := .cells #[.int .i64 0, .int .i64 0, .int .i64 0, .string ⟨#[]⟩] 29 (0, 0)) z11 ch.out (by simp)); replace aN := aM (KeepBut.blk hk (g' := aY) (o := .cells #[.int .i64 (wrap64 (1 + bf)), .int .i64 x513001_5, .int .i64 x513002_5, .string bQ] 29 (0, 0)) z12 bw.out (by simp)); replace jz := aM (ag (Kd.R_keep (IsS66.apart (show IsS66 w0 _ g s0_0 ru rt from by (try simp only [Int.add_zero]); repeat (first | (with_reducible first | exact HI0.out | apply IsS66.alloc | apply IsS66.drewN | apply IsS66.drew | apply IsS66.set_1 | apply IsS66.set_2 | refine IsS66.far ?_ bn.out _ | refine IsS66.far ?_ bi.out _) | exact HI0.out)) (kR_ jz.out) (by decide)) hk (fun _ h => h.2)) (fun _ h => h.1)); replace HK := aM (KeepBut.trans z24 hk (.inl rfl)); replace HB := aM (hb); replace HI0 := aM (hi); (try clear hb); (try clear hk); (try clear hi); (try clear cG); have hnb122 := bO.out; have hnc122 := bc.out; have hnb123 := bw.out; have hnc123 := bi.out; obtain ⟨hcz124_0, hcz124_1, hcz124_2, hcz124_3, hfz124_0, hfz124_1, hfz124_2, hfz124_3⟩ := cc4 aN.out; have hnb125 := ch.out; have hnc125 := bn.out; obtain ⟨hcz126_0, hcz126_1, hcz126_2, hcz126_3, hfz126_0, hfz126_1, hfz126_2, hfz126_3⟩ := cc4 a8.out))
    refine bodyPost_ret (results_cell_row rfl _ _ bp 29 #[.int .i64 (wrap64 (oZ - 1)), .int .i64 (wrap64 (pt - 1)), .int .i64 (wrap64 (rv - 1)), .string t3] (0, 0) _ rfl (by (with_reducible repeat (first | refine aj ?_ _ | refine ai ?_ | refine ak ?_ _)); refine al (cs := #[.int .i64 (wrap64 (oZ - 1)), .int .i64 (wrap64 (pt - 1)), .int .i64 (wrap64 (rv - 1)), .string ⟨#[]⟩]) ?_ 3 _ rfl; (with_reducible repeat (first | refine aj ?_ _ | refine ai ?_ | refine ak ?_ _)); refine al (cs := #[.int .i64 (wrap64 (oZ - 1)), .int .i64 (wrap64 (pt - 1)), .int .i64 0, .string ⟨#[]⟩]) ?_ 2 _ rfl; (with_reducible repeat (first | refine aj ?_ _ | refine ai ?_ | refine ak ?_ _)); refine al (cs := #[.int .i64 (wrap64 (oZ - 1)), .int .i64 0, .int .i64 0, .string ⟨#[]⟩]) ?_ 1 _ rfl; (with_reducible repeat (first | refine aj ?_ _ | refine ai ?_ | refine ak ?_ _)); refine al (cs := #[.int .i64 0, .int .i64 0, .int .i64 0, .string ⟨#[]⟩]) ?_ 0 _ rfl; (with_reducible repeat (first | refine aj ?_ _ | refine ai ?_ | refine ak ?_ _)); refine blk_far ?_ bc.out _; (with_reducible repeat (first | refine aj ?_ _ | refine ai ?_ | refine ak ?_ _)); refine blk_far ?_ bc.out _; (with_reducible repeat (first | refine aj ?_ _ | refine ai ?_ | refine ak ?_ _)); refine blk_far ?_ bc.out _; (with_reducible repeat (first | refine aj ?_ _ | refine ai ?_ | refine ak ?_ _)); refine blk_far ?_ bc.out _; (with_reducible repeat (first | refine aj ?_ _ | refine ai ?_ | refine ak ?_ _)); exact a8.out) Try.underlying29 rfl z0) rfl ?_
    exact ⟨y4, y39, y35, y36⟩
   ·replace rS := Bool.eq_false_iff.mpr rS
    subst rS
    rw [if_neg nF_] at H
    simp only [Option.some.injEq, Prod.mk.injEq] at H
    obtain ⟨rfl, rfl, rfl, rfl, rfl, rfl⟩ := H
    go_wp2_with (first | ((with_reducible refine av (f := 62) rfl ?_); refine ay (some 118) rfl rfl Try.func62 z0 rfl #[.pointer (some ⟨g, 0, none⟩), .int .i64 40] rfl z15 ?_; (with_reducible refine (spec_l1Cur_one.calls g s0_0 x1001_5 x1002_5 40 false sG sF w0 _ ?side1 ?side2 v0.out).mono ?_); (case side1 => exact y57); (case side2 => exact y55); rintro e w127 ⟨rfl, hi, hb, hk⟩; refine ⟨_, rfl, ?_⟩; replace a8 := aM (KeepBut.blk hk (g' := bp) (o := .cells #[.int .i64 0, .int .i64 0, .int .i64 0, .string ⟨#[]⟩] 29 (0, 0)) z11 ch.out (by simp)); replace aN := aM (KeepBut.blk hk (g' := aY) (o := .cells #[.int .i64 (wrap64 (1 + bf)), .int .i64 x513001_5, .int .i64 x513002_5, .string bQ] 29 (0, 0)) z12 bw.out (by simp)); replace HK := aM (KeepBut.trans z24 hk (.inl rfl)); replace HB := aM (hb); replace HI0 := aM (hi); (try clear hb); (try clear hk); (try clear hi); (try clear cG); have hnb128 := bO.out; have hnc128 := bc.out; have hnb129 := bw.out; have hnc129 := bi.out; obtain ⟨hcz130_0, hcz130_1, hcz130_2, hcz130_3, hfz130_0, hfz130_1, hfz130_2, hfz130_3⟩ := cc4 aN.out; have hnb131 := ch.out; have hnc131 := bn.out; obtain ⟨hcz132_0, hcz132_1, hcz132_2, hcz132_3, hfz132_0, hfz132_1, hfz132_2, hfz132_3⟩ := cc4 a8.out))
    refine bodyPost_ret (results_cell_row rfl _ _ bp 29 #[.int .i64 (wrap64 (1 + bf)), .int .i64 x513001_5, .int .i64 x513002_5, .string bQ] (0, 0) _ rfl (by (with_reducible repeat (first | refine aj ?_ _ | refine ai ?_ | refine ak ?_ _)); refine al (cs := #[.int .i64 (wrap64 (1 + bf)), .int .i64 x513001_5, .int .i64 x513002_5, .string ⟨#[]⟩]) ?_ 3 _ rfl; (with_reducible repeat (first | refine aj ?_ _ | refine ai ?_ | refine ak ?_ _)); refine al (cs := #[.int .i64 (wrap64 (1 + bf)), .int .i64 x513001_5, .int .i64 0, .string ⟨#[]⟩]) ?_ 2 _ rfl; (with_reducible repeat (first | refine aj ?_ _ | refine ai ?_ | refine ak ?_ _)); refine al (cs := #[.int .i64 (wrap64 (1 + bf)), .int .i64 0, .int .i64 0, .string ⟨#[]⟩]) ?_ 1 _ rfl; (with_reducible repeat (first | refine aj ?_ _ | refine ai ?_ | refine ak ?_ _)); refine al (cs := #[.int .i64 0, .int .i64 0, .int .i64 0, .string ⟨#[]⟩]) ?_ 0 _ rfl; (with_reducible repeat (first | refine aj ?_ _ | refine ai ?_ | refine ak ?_ _)); exact a8.out) Try.underlying29 rfl z0) rfl ?_
    exact ⟨y4, y39, y35, y36⟩

end Go.Proofs.Ytmigfgcpdelnfaa.AFnCommands
