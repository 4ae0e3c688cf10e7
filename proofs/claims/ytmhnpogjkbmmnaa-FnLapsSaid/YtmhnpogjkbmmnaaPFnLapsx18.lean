-- Written by a program of this session: wip/mkprint.py over the kit's print, with contracts proved by hand (wip/given.py)
-- shortest of all
-- told shortest
-- told shorter still
-- shortened
-- told short
-- worlds by letters
-- squeezed
import Derived.Test.YtmhnpogjkbmmnaaPFnLapsx0
import Derived.Test.YtmhnpogjkbmmnaaPFnLapsx2
import Derived.Test.YtmhnpogjkbmmnaaPFnLapsx6
import Derived.Test.YtmhnpogjkbmmnaaPFnLapsx8
import Derived.Test.YtmhnpogjkbmmnaaPFnLapsx12
import Derived.Test.YtmhnpogjkbmmnaaPFnLapsx13
import Derived.Test.YtmhnpogjkbmmnaaPFnLapsx16
import Derived.Test.YtmhnpogjkbmmnaaPFnLapsx17
namespace Go.Proofs.Ytmhnpogjkbmmnaa.PFnLaps
open Go.RowKit Go.Proofs.YtmhnpogjkbmmnaaW.PrintWords Go.Proofs.YtmhnpogjkbmmnaaW.PrintLast Go.Proofs.YtmhnpogjkbmmnaaW.PrintMore
open Go.Proofs.YtmhnpogjkbmmnaaW.PrintWords.Kd renaming R_alloc → rA, R_drewN → rN, R_drew → rD, R_far → rF, R_mono → rM, R_base → rB, R_new' → rW, R_below → rL, R_lt → rT, R_lower → rG, R_reads' → rR, C_alloc → cA, C_drewN → cN, C_drew → cD, C_below → cB
open Go.Proofs.YtmhnpogjkbmmnaaW.PrintMore.Kd renaming R_told → rO, R_old → rE
open Go.Proofs.YtmhnpogjkbmmnaaW.PrintWords renaming below_drew1 → bD, below_step → bT, below_size → bZ, blk_drewN → kN, blk_drew → kD, blk_alloc → kA, blk_below → kB, blk_cell → kC, blk_frozen → kF
open Go.Proofs.YtmhnpogjkbmmnaaW.PrintWords.Aside0 renaming mk → aM
attribute [local go_sem] max2_int min2_int max_two min_two max_three min_three max_four min_four   -- for this text's walks alone
set_option linter.unusedVariables false
set_option linter.unusedSimpArgs false

/-! ### laws_FnLaps: function 8 -/
mutual
def laws_FnLaps.j0 : Nat → Int → List (S84) → Bool → Int → Int → List Int → List Int → Int → Int → List Int → List Int → Option (Bool)
 | 0, _, _, _, _, _, _, _, _, _, _, _ => none
 | k + 1, x3, x7, x46, x814000, x814001, x814002, x814003, x823000, x823001, x823002, x823003 => if x46 = true then (some false) else (laws_FnLaps.l0 k x3 x7 0 x814000 x814001 x814002 x814003 x823000 x823001 x823002 x823003)
def laws_FnLaps.l0 : Nat → Int → List (S84) → Int → Int → Int → List Int → List Int → Int → Int → List Int → List Int → Option (Bool)
 | 0, _, _, _, _, _, _, _, _, _, _, _ => none
 | k + 1, x3, x7, x10, x814000, x814001, x814002, x814003, x823000, x823001, x823002, x823003 => if x10 < (x7.length : Int) then (if 0 ≤ x10 then ((impl_FeedFrame.f k x814001 x814002 x814003 ((rd_T84 x7 x10).f0)).bind fun bt826 => ((impl_PlayBlock.f k x823001 x823002 x823003 bt826.2.2.2.2).bind fun bt838 => (if bt826.1 = 0 then (if bt838.1 = 0 then ((impl_LapFault.f k bt826.2.1 bt826.2.2.1 bt826.2.2.2.1).bind fun t850 => (if t850 = 0 then ((impl_SynthFault.f k bt838.2.1 bt838.2.2.1 bt838.2.2.2.1).bind fun t851 => (if t851 = 0 then (laws_FnLaps.j2 k x3 x7 x10 ((bt838.2.2.2.2.length : Int) != x3) x814000 x814001 x814002 x814003 x823000 x823001 x823002 x823003 bt826.1 bt826.2.1 bt826.2.2.1 bt826.2.2.2.1 bt826.2.2.2.2 bt838.1 bt838.2.1 bt838.2.2.1 bt838.2.2.2.1 bt838.2.2.2.2) else (laws_FnLaps.j2 k x3 x7 x10 true x814000 x814001 x814002 x814003 x823000 x823001 x823002 x823003 bt826.1 bt826.2.1 bt826.2.2.1 bt826.2.2.2.1 bt826.2.2.2.2 bt838.1 bt838.2.1 bt838.2.2.1 bt838.2.2.2.1 bt838.2.2.2.2))) else (laws_FnLaps.j2 k x3 x7 x10 true x814000 x814001 x814002 x814003 x823000 x823001 x823002 x823003 bt826.1 bt826.2.1 bt826.2.2.1 bt826.2.2.2.1 bt826.2.2.2.2 bt838.1 bt838.2.1 bt838.2.2.1 bt838.2.2.2.1 bt838.2.2.2.2))) else (laws_FnLaps.j2 k x3 x7 x10 true x814000 x814001 x814002 x814003 x823000 x823001 x823002 x823003 bt826.1 bt826.2.1 bt826.2.2.1 bt826.2.2.2.1 bt826.2.2.2.2 bt838.1 bt838.2.1 bt838.2.2.1 bt838.2.2.2.1 bt838.2.2.2.2)) else (laws_FnLaps.j2 k x3 x7 x10 true x814000 x814001 x814002 x814003 x823000 x823001 x823002 x823003 bt826.1 bt826.2.1 bt826.2.2.1 bt826.2.2.2.1 bt826.2.2.2.2 bt838.1 bt838.2.1 bt838.2.2.1 bt838.2.2.2.1 bt838.2.2.2.2)))) else (none)) else (some true)
def laws_FnLaps.j2 : Nat → Int → List (S84) → Int → Bool → Int → Int → List Int → List Int → Int → Int → List Int → List Int → Int → Int → List Int → List Int → List Int → Int → Int → List Int → List Int → List Int → Option (Bool)
 | 0, _, _, _, _, _, _, _, _, _, _, _, _, _, _, _, _, _, _, _, _, _, _ => none
 | k + 1, x3, x7, x10, x92, x814000, x814001, x814002, x814003, x823000, x823001, x823002, x823003, x838000, x838001, x838002, x838003, x838004, x850000, x850001, x850002, x850003, x850004 => if x92 = true then (some false) else (if x10 ≥ 2 then (if 0 ≤ (wrap64 (x10 - 2)) then (if (wrap64 (x10 - 2)) < (x7.length : Int) then ((laws_lwNums.f k x850004 ((rd_T84 x7 (wrap64 (x10 - 2))).f0)).bind fun t853 => (if t853 = true then (laws_FnLaps.l0 k x3 x7 (wrap64 (x10 + 1)) x814000 x838001 x838002 x838003 x823000 x850001 x850002 x850003) else (some false))) else (none)) else (none)) else (laws_FnLaps.l0 k x3 x7 (wrap64 (x10 + 1)) x814000 x838001 x838002 x838003 x823000 x850001 x850002 x850003))
end
def laws_FnLaps.f (k : Nat) (l0 : List Int) : Option (Bool) := (laws_lwBig.f l0).bind fun t797 => (if t797 = true then (some true) else ((spec_DrawStory.f k l0 0).bind fun bt798 => ((impl_NewLap.f bt798.1).bind fun bt805 => ((impl_NewSynth.f bt798.1).bind fun bt814 => (if bt805.1 = 0 then (if bt814.1 = 0 then ((impl_LapFault.f k bt805.2.1 bt805.2.2.1 bt805.2.2.2).bind fun t823 => (if t823 = 0 then ((impl_SynthFault.f k bt814.2.1 bt814.2.2.1 bt814.2.2.2).bind fun t824 => (laws_FnLaps.j0 k bt798.1 bt798.2.2.2.2 (t824 != 0) bt805.1 bt805.2.1 bt805.2.2.1 bt805.2.2.2 bt814.1 bt814.2.1 bt814.2.2.1 bt814.2.2.2)) else (laws_FnLaps.j0 k bt798.1 bt798.2.2.2.2 true bt805.1 bt805.2.1 bt805.2.2.1 bt805.2.2.2 bt814.1 bt814.2.1 bt814.2.2.1 bt814.2.2.2))) else (laws_FnLaps.j0 k bt798.1 bt798.2.2.2.2 true bt805.1 bt805.2.1 bt805.2.2.1 bt805.2.2.2 bt814.1 bt814.2.1 bt814.2.2.1 bt814.2.2.2)) else (laws_FnLaps.j0 k bt798.1 bt798.2.2.2.2 true bt805.1 bt805.2.1 bt805.2.2.1 bt805.2.2.2 bt814.1 bt814.2.1 bt814.2.2.1 bt814.2.2.2))))))
theorem laws_FnLaps.mono_l : ∀ k, (∀ y0 y1 y2 y3 y4 y5 y6 y7 y8 y9 y10, LeO (laws_FnLaps.j0 k y0 y1 y2 y3 y4 y5 y6 y7 y8 y9 y10) (laws_FnLaps.j0 (k + 1) y0 y1 y2 y3 y4 y5 y6 y7 y8 y9 y10)) ∧ (∀ y0 y1 y2 y3 y4 y5 y6 y7 y8 y9 y10, LeO (laws_FnLaps.l0 k y0 y1 y2 y3 y4 y5 y6 y7 y8 y9 y10) (laws_FnLaps.l0 (k + 1) y0 y1 y2 y3 y4 y5 y6 y7 y8 y9 y10)) ∧ (∀ y0 y1 y2 y3 y4 y5 y6 y7 y8 y9 y10 y11 y12 y13 y14 y15 y16 y17 y18 y19 y20 y21, LeO (laws_FnLaps.j2 k y0 y1 y2 y3 y4 y5 y6 y7 y8 y9 y10 y11 y12 y13 y14 y15 y16 y17 y18 y19 y20 y21) (laws_FnLaps.j2 (k + 1) y0 y1 y2 y3 y4 y5 y6 y7 y8 y9 y10 y11 y12 y13 y14 y15 y16 y17 y18 y19 y20 y21))
 | 0 => ⟨fun _ _ _ _ _ _ _ _ _ _ _ r h => by simp [laws_FnLaps.j0] at h, fun _ _ _ _ _ _ _ _ _ _ _ r h => by simp [laws_FnLaps.l0] at h, fun _ _ _ _ _ _ _ _ _ _ _ _ _ _ _ _ _ _ _ _ _ _ r h => by simp [laws_FnLaps.j2] at h⟩
 | k + 1 => by
  obtain ⟨ih0, ih1, ih2⟩ := laws_FnLaps.mono_l k
  refine ⟨?_, ?_, ?_⟩
  ·intro y0 y1 y2 y3 y4 y5 y6 y7 y8 y9 y10
   unfold laws_FnLaps.j0
   repeat' first
   | (with_reducible exact ih0 _ _ _ _ _ _ _ _ _ _ _)
   | (with_reducible exact ih1 _ _ _ _ _ _ _ _ _ _ _)
   | (with_reducible exact ih2 _ _ _ _ _ _ _ _ _ _ _ _ _ _ _ _ _ _ _ _ _ _)
   | (with_reducible exact impl_FeedFrame.mono _ _ _ _ _)
   | (with_reducible exact impl_LapFault.mono _ _ _ _)
   | (with_reducible exact impl_PlayBlock.mono _ _ _ _ _)
   | (with_reducible exact impl_SynthFault.mono _ _ _ _)
   | (with_reducible exact laws_lwNums.mono _ _ _)
   | (with_reducible exact spec_DrawStory.mono _ _ _)
   | (with_reducible exact LeO.refl _)
   | (with_reducible exact LeO.none _)
   | (with_reducible refine LeO.ite ?_ ?_)
   | (with_reducible refine LeO.bind ?_ (fun _ => ?_))
   | exact ih0 _ _ _ _ _ _ _ _ _ _ _
   | exact ih1 _ _ _ _ _ _ _ _ _ _ _
   | exact ih2 _ _ _ _ _ _ _ _ _ _ _ _ _ _ _ _ _ _ _ _ _ _
   | exact impl_FeedFrame.mono _ _ _ _ _
   | exact impl_LapFault.mono _ _ _ _
   | exact impl_PlayBlock.mono _ _ _ _ _
   | exact impl_SynthFault.mono _ _ _ _
   | exact laws_lwNums.mono _ _ _
   | exact spec_DrawStory.mono _ _ _
   | exact LeO.none _
   | refine LeO.ite ?_ ?_
   | refine LeO.bind ?_ (fun _ => ?_)
  ·intro y0 y1 y2 y3 y4 y5 y6 y7 y8 y9 y10
   unfold laws_FnLaps.l0
   repeat' first
   | (with_reducible exact ih0 _ _ _ _ _ _ _ _ _ _ _)
   | (with_reducible exact ih1 _ _ _ _ _ _ _ _ _ _ _)
   | (with_reducible exact ih2 _ _ _ _ _ _ _ _ _ _ _ _ _ _ _ _ _ _ _ _ _ _)
   | (with_reducible exact impl_FeedFrame.mono _ _ _ _ _)
   | (with_reducible exact impl_LapFault.mono _ _ _ _)
   | (with_reducible exact impl_PlayBlock.mono _ _ _ _ _)
   | (with_reducible exact impl_SynthFault.mono _ _ _ _)
   | (with_reducible exact laws_lwNums.mono _ _ _)
   | (with_reducible exact spec_DrawStory.mono _ _ _)
   | (with_reducible exact LeO.refl _)
   | (with_reducible exact LeO.none _)
   | (with_reducible refine LeO.ite ?_ ?_)
   | (with_reducible refine LeO.bind ?_ (fun _ => ?_))
   | exact ih0 _ _ _ _ _ _ _ _ _ _ _
   | exact ih1 _ _ _ _ _ _ _ _ _ _ _
   | exact ih2 _ _ _ _ _ _ _ _ _ _ _ _ _ _ _ _ _ _ _ _ _ _
   | exact impl_FeedFrame.mono _ _ _ _ _
   | exact impl_LapFault.mono _ _ _ _
   | exact impl_PlayBlock.mono _ _ _ _ _
   | exact impl_SynthFault.mono _ _ _ _
   | exact laws_lwNums.mono _ _ _
   | exact spec_DrawStory.mono _ _ _
   | exact LeO.none _
   | refine LeO.ite ?_ ?_
   | refine LeO.bind ?_ (fun _ => ?_)
  ·intro y0 y1 y2 y3 y4 y5 y6 y7 y8 y9 y10 y11 y12 y13 y14 y15 y16 y17 y18 y19 y20 y21
   unfold laws_FnLaps.j2
   repeat' first
   | (with_reducible exact ih0 _ _ _ _ _ _ _ _ _ _ _)
   | (with_reducible exact ih1 _ _ _ _ _ _ _ _ _ _ _)
   | (with_reducible exact ih2 _ _ _ _ _ _ _ _ _ _ _ _ _ _ _ _ _ _ _ _ _ _)
   | (with_reducible exact impl_FeedFrame.mono _ _ _ _ _)
   | (with_reducible exact impl_LapFault.mono _ _ _ _)
   | (with_reducible exact impl_PlayBlock.mono _ _ _ _ _)
   | (with_reducible exact impl_SynthFault.mono _ _ _ _)
   | (with_reducible exact laws_lwNums.mono _ _ _)
   | (with_reducible exact spec_DrawStory.mono _ _ _)
   | (with_reducible exact LeO.refl _)
   | (with_reducible exact LeO.none _)
   | (with_reducible refine LeO.ite ?_ ?_)
   | (with_reducible refine LeO.bind ?_ (fun _ => ?_))
   | exact ih0 _ _ _ _ _ _ _ _ _ _ _
   | exact ih1 _ _ _ _ _ _ _ _ _ _ _
   | exact ih2 _ _ _ _ _ _ _ _ _ _ _ _ _ _ _ _ _ _ _ _ _ _
   | exact impl_FeedFrame.mono _ _ _ _ _
   | exact impl_LapFault.mono _ _ _ _
   | exact impl_PlayBlock.mono _ _ _ _ _
   | exact impl_SynthFault.mono _ _ _ _
   | exact laws_lwNums.mono _ _ _
   | exact spec_DrawStory.mono _ _ _
   | exact LeO.none _
   | refine LeO.ite ?_ ?_
   | refine LeO.bind ?_ (fun _ => ?_)
theorem laws_FnLaps.mono : ∀ a0 k, LeO (laws_FnLaps.f k a0) (laws_FnLaps.f (k + 1) a0) := by
 intro a0 k
 obtain ⟨ih0, ih1, ih2⟩ := laws_FnLaps.mono_l k
 unfold laws_FnLaps.f
 repeat' first
   | (with_reducible exact ih0 _ _ _ _ _ _ _ _ _ _ _)
   | (with_reducible exact ih1 _ _ _ _ _ _ _ _ _ _ _)
   | (with_reducible exact ih2 _ _ _ _ _ _ _ _ _ _ _ _ _ _ _ _ _ _ _ _ _ _)
   | (with_reducible exact impl_FeedFrame.mono _ _ _ _ _)
   | (with_reducible exact impl_LapFault.mono _ _ _ _)
   | (with_reducible exact impl_PlayBlock.mono _ _ _ _ _)
   | (with_reducible exact impl_SynthFault.mono _ _ _ _)
   | (with_reducible exact laws_lwNums.mono _ _ _)
   | (with_reducible exact spec_DrawStory.mono _ _ _)
   | (with_reducible exact LeO.refl _)
   | (with_reducible exact LeO.none _)
   | (with_reducible refine LeO.ite ?_ ?_)
   | (with_reducible refine LeO.bind ?_ (fun _ => ?_))
   | exact ih0 _ _ _ _ _ _ _ _ _ _ _
   | exact ih1 _ _ _ _ _ _ _ _ _ _ _
   | exact ih2 _ _ _ _ _ _ _ _ _ _ _ _ _ _ _ _ _ _ _ _ _ _
   | exact impl_FeedFrame.mono _ _ _ _ _
   | exact impl_LapFault.mono _ _ _ _
   | exact impl_PlayBlock.mono _ _ _ _ _
   | exact impl_SynthFault.mono _ _ _ _
   | exact laws_lwNums.mono _ _ _
   | exact spec_DrawStory.mono _ _ _
   | exact LeO.none _
   | refine LeO.ite ?_ ?_
   | refine LeO.bind ?_ (fun _ => ?_)
def laws_FnLaps.T11 : Bool × List (List Nat × List Nat) := (true, [([], []), ([0], [0]), ([], []), ([], []), ([2, 3], [2, 3]), ([4], [4]), ([5], [5]), ([1, 6], [1, 6]), ([], []), ([8, 7, 7, 0, 1, 2, 3, 4, 5, 6, 7, 8], [7, 8])])
def laws_FnLaps.B11 : List Nat := [0, 1, 0, 0, 12, 28, 60, 127, 0, 511]
theorem laws_FnLaps.tab11 : rtab .any (opsOf Try.f8 11) = laws_FnLaps.T11 := by kernel_rfl
theorem laws_FnLaps.bits11 : waitsOk laws_FnLaps.T11.2 laws_FnLaps.B11 = true := by kernel_rfl
def laws_FnLaps.T15 : Bool × List (List Nat × List Nat) := (true, [([], []), ([0], [0]), ([1], [1]), ([2], [2]), ([3, 2], [2, 3]), ([2], [2]), ([2], [2]), ([6, 2], [2, 6]), ([5, 7, 2], [2, 5, 7]), ([8, 2], [2, 8]), ([9, 2], [2, 9]), ([4, 10, 2, 2], [2, 4, 10]), ([11, 2], [2, 11]), ([2, 12], [2, 12])])
def laws_FnLaps.B15 : List Nat := [0, 1, 3, 7, 15, 7, 7, 71, 231, 487, 999, 2047, 4095, 8191]
theorem laws_FnLaps.tab15 : rtab .any (opsOf Try.f8 15) = laws_FnLaps.T15 := by kernel_rfl
theorem laws_FnLaps.bits15 : waitsOk laws_FnLaps.T15.2 laws_FnLaps.B15 = true := by kernel_rfl
set_option maxHeartbeats 8000000 in
set_option maxRecDepth 100000 in
theorem laws_FnLaps.calls (k : Nat) (A0 : Option Addr) (c0 : Nat) (l0 : List Int) (r : Bool) (w : World) (hr0 : Kd.C (Kd.int .u8) w A0 l0.length l0) (hc0 : l0.length ≤ c0) (h : laws_FnLaps.f k l0 = some r) (hlaw : r = true := by rfl) :
  Calls Try.prog 8 #[.slice A0 l0.length c0] w fun e w' => e = .returned (.bool r) ∧ Below w.heap.size w w' := by
 have hu79 := Try.underlying79
 have hu64 := Try.underlying64
 have hu48 := Try.underlying48
 have hu35 := Try.underlying35
 have hu50 := Try.underlying50
 have hu37 := Try.underlying37
 have HLAW := aM hlaw
 clear hlaw
 have HR0 := aM hr0
 have HC0 := aM hc0
 clear hr0 hc0
 have HB := aM (Below.refl w.heap.size w)
 have H : ((laws_lwBig.f l0).bind fun t797 => (if t797 = true then (some true) else ((spec_DrawStory.f k l0 0).bind fun bt798 => ((impl_NewLap.f bt798.1).bind fun bt805 => ((impl_NewSynth.f bt798.1).bind fun bt814 => (if bt805.1 = 0 then (if bt814.1 = 0 then ((impl_LapFault.f k bt805.2.1 bt805.2.2.1 bt805.2.2.2).bind fun t823 => (if t823 = 0 then ((impl_SynthFault.f k bt814.2.1 bt814.2.2.1 bt814.2.2.2).bind fun t824 => (laws_FnLaps.j0 k bt798.1 bt798.2.2.2.2 (t824 != 0) bt805.1 bt805.2.1 bt805.2.2.1 bt805.2.2.2 bt814.1 bt814.2.1 bt814.2.2.1 bt814.2.2.2)) else (laws_FnLaps.j0 k bt798.1 bt798.2.2.2.2 true bt805.1 bt805.2.1 bt805.2.2.1 bt805.2.2.2 bt814.1 bt814.2.1 bt814.2.2.1 bt814.2.2.2))) else (laws_FnLaps.j0 k bt798.1 bt798.2.2.2.2 true bt805.1 bt805.2.1 bt805.2.2.1 bt805.2.2.2 bt814.1 bt814.2.1 bt814.2.2.1 bt814.2.2.2)) else (laws_FnLaps.j0 k bt798.1 bt798.2.2.2.2 true bt805.1 bt805.2.1 bt805.2.2.1 bt805.2.2.2 bt814.1 bt814.2.1 bt814.2.2.1 bt814.2.2.2))))))) = some r := h
 clear h
 replace H := bo H
 obtain ⟨t797, A2, H⟩ := H
 replace H := bz H
 by_cases c3 : t797 = true
 ·subst c3
  have H1 : (some true) = some r := by rw [if_pos rfl] at H; exact H
  clear H
  have H := H1
  clear H1
  obtain rfl := Option.some.inj H
  go_enter Try.func8, Try.ntmps8
  go_wp2_with (first | ((with_reducible refine gate_callee (f := 35) rfl ?_); refine goesL_ (some 14) rfl rfl Try.func35 kr rfl #[.slice A0 l0.length c0] rfl mq ?_; (with_reducible refine (laws_lwBig.calls _ _ l0 true _ ?side1 ?side2 A2.out).mono ?_); (case side1 => exact cq HR0.out); (case side2 => exact HC0.out); rintro e w' ⟨rfl, ⟨nd, rfl⟩⟩; refine ⟨_, rfl, ?_⟩))
  go_ret
  exact ⟨ew, bq⟩
 ·replace c3 := Bool.eq_false_iff.mpr c3
  subst c3
  have H1 : ((spec_DrawStory.f k l0 0).bind fun bt798 => ((impl_NewLap.f bt798.1).bind fun bt805 => ((impl_NewSynth.f bt798.1).bind fun bt814 => (if bt805.1 = 0 then (if bt814.1 = 0 then ((impl_LapFault.f k bt805.2.1 bt805.2.2.1 bt805.2.2.2).bind fun t823 => (if t823 = 0 then ((impl_SynthFault.f k bt814.2.1 bt814.2.2.1 bt814.2.2.2).bind fun t824 => (laws_FnLaps.j0 k bt798.1 bt798.2.2.2.2 (t824 != 0) bt805.1 bt805.2.1 bt805.2.2.1 bt805.2.2.2 bt814.1 bt814.2.1 bt814.2.2.1 bt814.2.2.2)) else (laws_FnLaps.j0 k bt798.1 bt798.2.2.2.2 true bt805.1 bt805.2.1 bt805.2.2.1 bt805.2.2.2 bt814.1 bt814.2.1 bt814.2.2.1 bt814.2.2.2))) else (laws_FnLaps.j0 k bt798.1 bt798.2.2.2.2 true bt805.1 bt805.2.1 bt805.2.2.1 bt805.2.2.2 bt814.1 bt814.2.1 bt814.2.2.1 bt814.2.2.2)) else (laws_FnLaps.j0 k bt798.1 bt798.2.2.2.2 true bt805.1 bt805.2.1 bt805.2.2.1 bt805.2.2.2 bt814.1 bt814.2.1 bt814.2.2.1 bt814.2.2.2))))) = some r := by rw [if_neg (show ¬ (false = true) by decide)] at H; exact H
  clear H
  have H := H1
  clear H1
  replace H := bo H
  obtain ⟨⟨t798, t799, t800, t801, t802⟩, A4, H⟩ := H
  replace H := bz H
  replace H := bo H
  obtain ⟨⟨t805, t806, t807, t810⟩, A5, H⟩ := H
  replace H := bz H
  replace H := bo H
  obtain ⟨⟨t814, t815, t816, t819⟩, A6, H⟩ := H
  replace H := bz H
  have HC7 := aM H
  clear H
  go_enter Try.func8, Try.ntmps8
  go_upto_region 6 with (first | ((with_reducible refine gate_callee (f := 35) rfl ?_); refine goesL_ (some 14) rfl rfl Try.func35 kr rfl #[.slice A0 l0.length c0] rfl mq ?_; (with_reducible refine (laws_lwBig.calls _ _ l0 false _ ?side1 ?side2 A2.out).mono ?_); (case side1 => exact cq HR0.out); (case side2 => exact HC0.out); rintro e w' ⟨rfl, ⟨nd, rfl⟩⟩; refine ⟨_, rfl, ?_⟩) | ((with_reducible refine gate_callee (f := 48) rfl ?_); refine goesL_ (some 17) rfl rfl Try.func48 kr rfl #[.slice A0 l0.length c0, .int .i64 0] rfl mq ?_; (with_reducible refine (spec_DrawStory.calls k _ _ l0 0 t798 t799 t800 t801 t802 _ ?side1 ?side2 A4.out).mono ?_); (case side1 => exact cq HR0.out); (case side2 => exact HC0.out); rintro e w8 ⟨v803, rfl, ho0, hb⟩; refine ⟨_, rfl, ?_⟩; have HO804 := aM (Kd.S_lower ho0 (bZ bq)); replace HB := aM (bT bq hb); (try clear hb); (try clear ho0)) | ((with_reducible refine gate_callee (f := 49) rfl ?_); refine goesL_ (some 24) rfl rfl Try.func49 kr rfl #[.int .i64 t798] rfl mq ?_; (with_reducible refine (impl_NewLap.calls t798 t805 t806 t807 t810 _ A5.out).mono ?_); rintro e w9 ⟨v808, v811, rfl, ho0, ho1, hb⟩; refine ⟨_, rfl, ?_⟩; replace HO804 := aM (Kd.S_mono (Kd.S_told (Kd.S_told (Kd.S_old (by (with_reducible repeat (first | apply Kd.S_alloc | apply Kd.S_drewN | apply Kd.S_drew)); exact HO804.out) hb) (rB ho0)) (rB ho1)) (fun _ h_ => h_.1)); have HO809 := aM (rG ho0 (bZ bq)); have HO812 := aM (rG ho1 (bZ bq)); replace HB := aM (bT bq hb); (try clear hb); (try clear ho0); (try clear ho1)) | ((with_reducible refine gate_dst (N := 8) rfl ?_); (try (refine gate_guard (by rfl) ?_; dsimp only)); refine box_event ?hg (N := 8) ?hd (cs := #[.int .i64 0, .int .i64 0, .slice none 0 0, .slice none 0 0]) (t := 79) ?hr ?_; (case hd => rfl); (case hg => rfl); (case hr => first | (go_simp; done) | (go_simp; rfl)); intro gb813 hg w10 hbox hb; replace HO804 := aM (Kd.S_below (by (with_reducible repeat (first | apply Kd.S_alloc | apply Kd.S_drewN | apply Kd.S_drew)); exact HO804.out) hb); replace HO809 := aM (rL (rq HO809.out) hb); replace HO812 := aM (rL (rq HO812.out) hb); have BK813 := aM (hbox); have GW813 := aM ((by rw [hg]; exact (bZ bq) : w.heap.size ≤ gb813)); have GE813 := aM ((by rw [hg]; exact (bZ bq) : w.heap.size ≤ gb813)); replace HB := aM (bT bq hb); clear hb hbox hg; have hcz11_0 : w10.cell? ⟨gb813, 0, none⟩ = some (.int .i64 0) := cc; have hcz11_1 : w10.cell? ⟨gb813, 1, none⟩ = some (.int .i64 0) := cc; have hcz11_2 : w10.cell? ⟨gb813, 2, none⟩ = some (.slice none 0 0) := cc; have hcz11_3 : w10.cell? ⟨gb813, 3, none⟩ = some (.slice none 0 0) := cc; have hfz11_0 := kF BK813.out 0; have hfz11_1 := kF BK813.out 1; have hfz11_2 := kF BK813.out 2; have hfz11_3 := kF BK813.out 3; obtain ⟨Ao12, co12, eo12⟩ := Kd.R_slice HO809.out; subst eo12; obtain ⟨Ao13, co13, eo13⟩ := Kd.R_slice HO812.out; subst eo13) | ((with_reducible refine gate_callee (f := 37) rfl ?_); refine goesL_ (some 26) rfl rfl Try.func37 kr rfl #[.int .i64 t798] rfl mq ?_; (with_reducible refine (impl_NewSynth.calls t798 t814 t815 t816 t819 _ A6.out).mono ?_); rintro e w14 ⟨v817, v820, rfl, ho0, ho1, hb⟩; refine ⟨_, rfl, ?_⟩; replace HO804 := aM (Kd.S_mono (Kd.S_told (Kd.S_told (Kd.S_old (by (with_reducible repeat (first | apply Kd.S_alloc | apply Kd.S_drewN | apply Kd.S_drew)); exact (Kd.S_mono (Kd.S_far (p := ⟨gb813, 3, none⟩) (Kd.S_far (p := ⟨gb813, 2, none⟩) (Kd.S_far (p := ⟨gb813, 1, none⟩) (Kd.S_far (p := ⟨gb813, 0, none⟩) (Kd.S_types HO804.out BK813.out (by decide)) (fun _ hk => hk.2) (.int .i64 t805)) (fun _ hk => hk.2) (.int .i64 t806)) (fun _ hk => hk.2) (.slice Ao12 t807.length co12)) (fun _ hk => hk.2) (.slice Ao13 t810.length co13)) (fun _ h_ => h_.1))) hb) (rB ho0)) (rB ho1)) (fun _ h_ => h_.1)); have HO818 := aM (rG (rW (rW ho0 (rT (rM (rf (Kd.R_types HO809.out BK813.out (by decide))) (fun _ h_ => h_.1)))) (rT (rM (rf (Kd.R_types HO812.out BK813.out (by decide))) (fun _ h_ => h_.1)))) (bZ bq)); have HO821 := aM (rG (rW (rW ho1 (rT (rM (rf (Kd.R_types HO809.out BK813.out (by decide))) (fun _ h_ => h_.1)))) (rT (rM (rf (Kd.R_types HO812.out BK813.out (by decide))) (fun _ h_ => h_.1)))) (bZ bq)); replace HO809 := aM (rM (rO (rO (rE (rM (rf (Kd.R_types HO809.out BK813.out (by decide))) (fun _ h_ => h_.1)) hb) (rB ho0)) (rB ho1)) (fun _ h_ => h_.1)); replace HO812 := aM (rM (rO (rO (rE (rM (rf (Kd.R_types HO812.out BK813.out (by decide))) (fun _ h_ => h_.1)) hb) (rB ho0)) (rB ho1)) (fun _ h_ => h_.1)); replace BK813 := aM (kB (g := gb813) (o := .cells #[.int .i64 t805, .int .i64 t806, .slice Ao12 t807.length co12, .slice Ao13 t810.length co13] 79 (0, 0)) (fq BK813.out) hb); replace HB := aM (bT bq hb); (try clear hb); (try clear ho0); (try clear ho1)) | ((with_reducible refine gate_dst (N := 9) rfl ?_); (try (refine gate_guard (by rfl) ?_; dsimp only)); refine box_event ?hg (N := 9) ?hd (cs := #[.int .i64 0, .int .i64 0, .slice none 0 0, .slice none 0 0]) (t := 64) ?hr ?_; (case hd => rfl); (case hg => rfl); (case hr => first | (go_simp; done) | (go_simp; rfl)); intro gb822 hg w15 hbox hb; replace HO804 := aM (Kd.S_below (by (with_reducible repeat (first | apply Kd.S_alloc | apply Kd.S_drewN | apply Kd.S_drew)); exact HO804.out) hb); replace HO809 := aM (rL (rq HO809.out) hb); replace HO812 := aM (rL (rq HO812.out) hb); replace HO818 := aM (rL (rq HO818.out) hb); replace HO821 := aM (rL (rq HO821.out) hb); have BK822 := aM (hbox); have GW822 := aM ((by rw [hg]; exact (bZ bq) : w.heap.size ≤ gb822)); have GE822 := aM ((by rw [hg]; exact (bZ bq) : w.heap.size ≤ gb822)); replace HB := aM (bT bq hb); have NB813_822 := aM ((by rw [hg]; exact Nat.ne_of_lt (blk_lt (kq BK813.out)) : gb813 ≠ gb822)); have NB822_813 := aM ((by rw [hg]; exact Nat.ne_of_gt (blk_lt (kq BK813.out)) : gb822 ≠ gb813)); replace BK813 := aM (kB (kq BK813.out) hb); clear hb hbox hg; have hnb16 := NB822_813.out; have hnc16 := NB813_822.out; have hcz17_0 : w15.cell? ⟨gb822, 0, none⟩ = some (.int .i64 0) := cc; have hcz17_1 : w15.cell? ⟨gb822, 1, none⟩ = some (.int .i64 0) := cc; have hcz17_2 : w15.cell? ⟨gb822, 2, none⟩ = some (.slice none 0 0) := cc; have hcz17_3 : w15.cell? ⟨gb822, 3, none⟩ = some (.slice none 0 0) := cc; have hfz17_0 := kF BK822.out 0; have hfz17_1 := kF BK822.out 1; have hfz17_2 := kF BK822.out 2; have hfz17_3 := kF BK822.out 3; obtain ⟨Ao18, co18, eo18⟩ := Kd.R_slice HO818.out; subst eo18; obtain ⟨Ao19, co19, eo19⟩ := Kd.R_slice HO821.out; subst eo19))
  (try simp only [Act.put, pa, pb, pc])
  go_cut [46] (fun v46 wc => ∃ (kq : Nat) (x46_6 : Bool), v46 = .bool x46_6 ∧ Aside0 (laws_FnLaps.j0 kq t798 t802 x46_6 t805 t806 t807 t810 t814 t815 t816 t819 = some r) ∧ Aside0 (kq ≤ k) ∧ Aside0 (Kd.S k84 84 wc w.heap.size (fun k_ => some k_ ≠ ((.slice Ao12 t807.length co12) : Value).ownBlock ∧ some k_ ≠ ((.slice Ao13 t810.length co13) : Value).ownBlock ∧ some k_ ≠ ((.slice Ao18 t816.length co18) : Value).ownBlock ∧ some k_ ≠ ((.slice Ao19 t819.length co19) : Value).ownBlock) v803 t802) ∧ Aside0 (Kd.R (Kd.int .i64) 2 wc w.heap.size (fun k_ => some k_ ≠ ((.slice Ao13 t810.length co13) : Value).ownBlock ∧ some k_ ≠ ((.slice Ao18 t816.length co18) : Value).ownBlock ∧ some k_ ≠ ((.slice Ao19 t819.length co19) : Value).ownBlock) (.slice Ao12 t807.length co12) t807) ∧ Aside0 (Kd.R (Kd.int .i64) 2 wc w.heap.size (fun k_ => some k_ ≠ ((.slice Ao12 t807.length co12) : Value).ownBlock ∧ some k_ ≠ ((.slice Ao18 t816.length co18) : Value).ownBlock ∧ some k_ ≠ ((.slice Ao19 t819.length co19) : Value).ownBlock) (.slice Ao13 t810.length co13) t810) ∧ Aside0 (Kd.R (Kd.int .i64) 2 wc w.heap.size (fun k_ => some k_ ≠ ((.slice Ao12 t807.length co12) : Value).ownBlock ∧ some k_ ≠ ((.slice Ao13 t810.length co13) : Value).ownBlock ∧ some k_ ≠ ((.slice Ao19 t819.length co19) : Value).ownBlock) (.slice Ao18 t816.length co18) t816) ∧ Aside0 (Kd.R (Kd.int .i64) 2 wc w.heap.size (fun k_ => some k_ ≠ ((.slice Ao12 t807.length co12) : Value).ownBlock ∧ some k_ ≠ ((.slice Ao13 t810.length co13) : Value).ownBlock ∧ some k_ ≠ ((.slice Ao18 t816.length co18) : Value).ownBlock) (.slice Ao19 t819.length co19) t819) ∧ Aside0 (wc.heap[gb813]? = some (.cells #[.int .i64 t805, .int .i64 t806, (.slice Ao12 t807.length co12), (.slice Ao13 t810.length co13)] 79 (0, 0))) ∧ Aside0 (wc.heap[gb822]? = some (.cells #[.int .i64 t814, .int .i64 t815, (.slice Ao18 t816.length co18), (.slice Ao19 t819.length co19)] 64 (0, 0))) ∧ Aside0 (Below w.heap.size w wc))
  case first =>
   have H := HC7.out
   clear HC7
   by_cases c20 : t805 = 0
   ·rw [if_pos c20] at H
    have c20b0 : (t805 == 0) = true := beq_iff_eq.mpr c20
    have c20b1 : (t805 != 0) = false := bne_eq_false_iff_eq.mpr c20
    clear c20
    (first | rw [c20b0] | (simp only [i64_w, i32_w]; rw [c20b0]) | skip)
    by_cases c21 : t814 = 0
    ·rw [if_pos c21] at H
     have c21b0 : (t814 == 0) = true := beq_iff_eq.mpr c21
     have c21b1 : (t814 != 0) = false := bne_eq_false_iff_eq.mpr c21
     clear c21
     replace H := bo H
     obtain ⟨t823, A22, H⟩ := H
     replace H := bz H
     by_cases c23 : t823 = 0
     ·rw [if_pos c23] at H
      have c23b0 : (t823 == 0) = true := beq_iff_eq.mpr c23
      have c23b1 : (t823 != 0) = false := bne_eq_false_iff_eq.mpr c23
      clear c23
      replace H := bo H
      obtain ⟨t824, A24, H⟩ := H
      replace H := bz H
      have H' := aM H
      clear H
      have hnb25 := NB813_822.out
      have hnc25 := NB822_813.out
      have hcz26_0 : w15.cell? ⟨gb813, 0, none⟩ = some (.int .i64 t805) := cc
      have hcz26_1 : w15.cell? ⟨gb813, 1, none⟩ = some (.int .i64 t806) := cc
      have hcz26_2 : w15.cell? ⟨gb813, 2, none⟩ = some (.slice Ao12 t807.length co12) := cc
      have hcz26_3 : w15.cell? ⟨gb813, 3, none⟩ = some (.slice Ao13 t810.length co13) := cc
      have hfz26_0 := kF BK813.out 0
      have hfz26_1 := kF BK813.out 1
      have hfz26_2 := kF BK813.out 2
      have hfz26_3 := kF BK813.out 3
      have hcz27_0 : w15.cell? ⟨gb822, 0, none⟩ = some (.int .i64 0) := cc
      have hcz27_1 : w15.cell? ⟨gb822, 1, none⟩ = some (.int .i64 0) := cc
      have hcz27_2 : w15.cell? ⟨gb822, 2, none⟩ = some (.slice none 0 0) := cc
      have hcz27_3 : w15.cell? ⟨gb822, 3, none⟩ = some (.slice none 0 0) := cc
      have hfz27_0 := kF BK822.out 0
      have hfz27_1 := kF BK822.out 1
      have hfz27_2 := kF BK822.out 2
      have hfz27_3 := kF BK822.out 3
      go_wp2_with (first | (go_at_call 43; (with_reducible refine (impl_LapFault.calls k t806 _ _ t807 _ _ t810 t823 _ ?side1 ?side2 ?side3 ?side4 A22.out).mono ?_); (case side1 => refine (rR (e := 2) (base := w.heap.size) (ok := fun k_ => ((nS Ao13 t810 co13 k_ ∧ nS Ao18 t816 co18 k_) ∧ nS Ao19 t819 co19 k_)) (n := t807.length) (c := co12) ?_).2.2; exact (rM (rf (Kd.R_types HO809.out BK822.out (by decide))) (fun _ h_ => h_.1))); (case side2 => exact (rR HO809.out).2.1); (case side3 => refine (rR (e := 2) (base := w.heap.size) (ok := fun k_ => ((nS Ao12 t807 co12 k_ ∧ nS Ao18 t816 co18 k_) ∧ nS Ao19 t819 co19 k_)) (n := t810.length) (c := co13) ?_).2.2; exact (rM (rf (Kd.R_types HO812.out BK822.out (by decide))) (fun _ h_ => h_.1))); (case side4 => exact (rR HO812.out).2.1); rintro e w28 ⟨rfl, hb⟩; replace HO804 := aM (Kd.S_below (by (with_reducible repeat (first | apply Kd.S_alloc | apply Kd.S_drewN | apply Kd.S_drew)); exact (Kd.S_mono (Kd.S_far (p := ⟨gb822, 3, none⟩) (Kd.S_far (p := ⟨gb822, 2, none⟩) (Kd.S_far (p := ⟨gb822, 1, none⟩) (Kd.S_far (p := ⟨gb822, 0, none⟩) (Kd.S_types HO804.out BK822.out (by decide)) (fun _ hk => hk.2) (.int .i64 t814)) (fun _ hk => hk.2) (.int .i64 t815)) (fun _ hk => hk.2) (.slice Ao18 t816.length co18)) (fun _ hk => hk.2) (.slice Ao19 t819.length co19)) (fun _ h_ => h_.1))) hb); replace HO809 := aM (rL (rM (rf (Kd.R_types HO809.out BK822.out (by decide))) (fun _ h_ => h_.1)) hb); replace HO812 := aM (rL (rM (rf (Kd.R_types HO812.out BK822.out (by decide))) (fun _ h_ => h_.1)) hb); replace HO818 := aM (rL (rM (rf (Kd.R_types HO818.out BK822.out (by decide))) (fun _ h_ => h_.1)) hb); replace HO821 := aM (rL (rM (rf (Kd.R_types HO821.out BK822.out (by decide))) (fun _ h_ => h_.1)) hb); replace BK813 := aM (kB (g := gb813) (o := .cells #[.int .i64 t805, .int .i64 t806, .slice Ao12 t807.length co12, .slice Ao13 t810.length co13] 79 (0, 0)) (fq BK813.out) hb); replace BK822 := aM (kB (g := gb822) (o := .cells #[.int .i64 t814, .int .i64 t815, .slice Ao18 t816.length co18, .slice Ao19 t819.length co19] 64 (0, 0)) (fq BK822.out) hb); replace HB := aM (bT bq hb); (try clear hb); have hcz29_0 : w28.cell? ⟨gb822, 0, none⟩ = some (.int .i64 t814) := cc; have hcz29_1 : w28.cell? ⟨gb822, 1, none⟩ = some (.int .i64 t815) := cc; have hcz29_2 : w28.cell? ⟨gb822, 2, none⟩ = some (.slice Ao18 t816.length co18) := cc; have hcz29_3 : w28.cell? ⟨gb822, 3, none⟩ = some (.slice Ao19 t819.length co19) := cc; have hfz29_0 := kF BK822.out 0; have hfz29_1 := kF BK822.out 1; have hfz29_2 := kF BK822.out 2; have hfz29_3 := kF BK822.out 3) | (go_at_call 46; (with_reducible refine (impl_SynthFault.calls k t815 _ _ t816 _ _ t819 t824 _ ?side1 ?side2 ?side3 ?side4 A24.out).mono ?_); (case side1 => exact cq (rR HO818.out).2.2); (case side2 => exact (rR HO818.out).2.1); (case side3 => exact cq (rR HO821.out).2.2); (case side4 => exact (rR HO821.out).2.1); rintro e w30 ⟨rfl, hb⟩; replace HO804 := aM (Kd.S_below (by (with_reducible repeat (first | apply Kd.S_alloc | apply Kd.S_drewN | apply Kd.S_drew)); exact HO804.out) hb); replace HO809 := aM (rL (rq HO809.out) hb); replace HO812 := aM (rL (rq HO812.out) hb); replace HO818 := aM (rL (rq HO818.out) hb); replace HO821 := aM (rL (rq HO821.out) hb); replace BK813 := aM (kB (kq BK813.out) hb); replace BK822 := aM (kB (kq BK822.out) hb); replace HB := aM (bT bq hb); (try clear hb)))
      go_meet
      case rel => exact ⟨_, ((t824 != 0)), (ex), H', ⟨by first | omega | exact Nat.le_refl _⟩, ⟨by (with_reducible repeat (first | apply Kd.S_alloc | apply Kd.S_drewN | apply Kd.S_drew)); exact Kd.S_mono HO804.out jq⟩, aM (rq (rM HO809.out jq)), aM (rq (rM HO812.out jq)), aM (rq (rM HO818.out jq)), aM (rq (rM HO821.out jq)), aM (kq BK813.out), aM (kq BK822.out), ⟨bq⟩⟩
     ·rw [if_neg c23] at H
      have c23b0 : (t823 == 0) = false := beq_eq_false_iff_ne.mpr c23
      have c23b1 : (t823 != 0) = true := bne_iff_ne.mpr c23
      have H' := aM H
      clear H
      have hnb31 := NB813_822.out
      have hnc31 := NB822_813.out
      have hcz32_0 : w15.cell? ⟨gb813, 0, none⟩ = some (.int .i64 t805) := cc
      have hcz32_1 : w15.cell? ⟨gb813, 1, none⟩ = some (.int .i64 t806) := cc
      have hcz32_2 : w15.cell? ⟨gb813, 2, none⟩ = some (.slice Ao12 t807.length co12) := cc
      have hcz32_3 : w15.cell? ⟨gb813, 3, none⟩ = some (.slice Ao13 t810.length co13) := cc
      have hfz32_0 := kF BK813.out 0
      have hfz32_1 := kF BK813.out 1
      have hfz32_2 := kF BK813.out 2
      have hfz32_3 := kF BK813.out 3
      have hcz33_0 : w15.cell? ⟨gb822, 0, none⟩ = some (.int .i64 0) := cc
      have hcz33_1 : w15.cell? ⟨gb822, 1, none⟩ = some (.int .i64 0) := cc
      have hcz33_2 : w15.cell? ⟨gb822, 2, none⟩ = some (.slice none 0 0) := cc
      have hcz33_3 : w15.cell? ⟨gb822, 3, none⟩ = some (.slice none 0 0) := cc
      have hfz33_0 := kF BK822.out 0
      have hfz33_1 := kF BK822.out 1
      have hfz33_2 := kF BK822.out 2
      have hfz33_3 := kF BK822.out 3
      go_wp2_with (first | (go_at_call 43; (with_reducible refine (impl_LapFault.calls k t806 _ _ t807 _ _ t810 t823 _ ?side1 ?side2 ?side3 ?side4 A22.out).mono ?_); (case side1 => refine (rR (e := 2) (base := w.heap.size) (ok := fun k_ => ((nS Ao13 t810 co13 k_ ∧ nS Ao18 t816 co18 k_) ∧ nS Ao19 t819 co19 k_)) (n := t807.length) (c := co12) ?_).2.2; exact (rM (rf (Kd.R_types HO809.out BK822.out (by decide))) (fun _ h_ => h_.1))); (case side2 => exact (rR HO809.out).2.1); (case side3 => refine (rR (e := 2) (base := w.heap.size) (ok := fun k_ => ((nS Ao12 t807 co12 k_ ∧ nS Ao18 t816 co18 k_) ∧ nS Ao19 t819 co19 k_)) (n := t810.length) (c := co13) ?_).2.2; exact (rM (rf (Kd.R_types HO812.out BK822.out (by decide))) (fun _ h_ => h_.1))); (case side4 => exact (rR HO812.out).2.1); rintro e w34 ⟨rfl, hb⟩; replace HO804 := aM (Kd.S_below (by (with_reducible repeat (first | apply Kd.S_alloc | apply Kd.S_drewN | apply Kd.S_drew)); exact (Kd.S_mono (Kd.S_far (p := ⟨gb822, 3, none⟩) (Kd.S_far (p := ⟨gb822, 2, none⟩) (Kd.S_far (p := ⟨gb822, 1, none⟩) (Kd.S_far (p := ⟨gb822, 0, none⟩) (Kd.S_types HO804.out BK822.out (by decide)) (fun _ hk => hk.2) (.int .i64 t814)) (fun _ hk => hk.2) (.int .i64 t815)) (fun _ hk => hk.2) (.slice Ao18 t816.length co18)) (fun _ hk => hk.2) (.slice Ao19 t819.length co19)) (fun _ h_ => h_.1))) hb); replace HO809 := aM (rL (rM (rf (Kd.R_types HO809.out BK822.out (by decide))) (fun _ h_ => h_.1)) hb); replace HO812 := aM (rL (rM (rf (Kd.R_types HO812.out BK822.out (by decide))) (fun _ h_ => h_.1)) hb); replace HO818 := aM (rL (rM (rf (Kd.R_types HO818.out BK822.out (by decide))) (fun _ h_ => h_.1)) hb); replace HO821 := aM (rL (rM (rf (Kd.R_types HO821.out BK822.out (by decide))) (fun _ h_ => h_.1)) hb); replace BK813 := aM (kB (g := gb813) (o := .cells #[.int .i64 t805, .int .i64 t806, .slice Ao12 t807.length co12, .slice Ao13 t810.length co13] 79 (0, 0)) (fq BK813.out) hb); replace BK822 := aM (kB (g := gb822) (o := .cells #[.int .i64 t814, .int .i64 t815, .slice Ao18 t816.length co18, .slice Ao19 t819.length co19] 64 (0, 0)) (fq BK822.out) hb); replace HB := aM (bT bq hb); (try clear hb)))
      go_meet
      case rel => exact ⟨_, (true), (ex), H', ⟨by first | omega | exact Nat.le_refl _⟩, ⟨by (with_reducible repeat (first | apply Kd.S_alloc | apply Kd.S_drewN | apply Kd.S_drew)); exact Kd.S_mono HO804.out jq⟩, aM (rq (rM HO809.out jq)), aM (rq (rM HO812.out jq)), aM (rq (rM HO818.out jq)), aM (rq (rM HO821.out jq)), aM (kq BK813.out), aM (kq BK822.out), ⟨bq⟩⟩
    ·rw [if_neg c21] at H
     have c21b0 : (t814 == 0) = false := beq_eq_false_iff_ne.mpr c21
     have c21b1 : (t814 != 0) = true := bne_iff_ne.mpr c21
     have H' := aM H
     clear H
     have hnb35 := NB813_822.out
     have hnc35 := NB822_813.out
     have hcz36_0 : w15.cell? ⟨gb813, 0, none⟩ = some (.int .i64 t805) := cc
     have hcz36_1 : w15.cell? ⟨gb813, 1, none⟩ = some (.int .i64 t806) := cc
     have hcz36_2 : w15.cell? ⟨gb813, 2, none⟩ = some (.slice Ao12 t807.length co12) := cc
     have hcz36_3 : w15.cell? ⟨gb813, 3, none⟩ = some (.slice Ao13 t810.length co13) := cc
     have hfz36_0 := kF BK813.out 0
     have hfz36_1 := kF BK813.out 1
     have hfz36_2 := kF BK813.out 2
     have hfz36_3 := kF BK813.out 3
     have hcz37_0 : w15.cell? ⟨gb822, 0, none⟩ = some (.int .i64 0) := cc
     have hcz37_1 : w15.cell? ⟨gb822, 1, none⟩ = some (.int .i64 0) := cc
     have hcz37_2 : w15.cell? ⟨gb822, 2, none⟩ = some (.slice none 0 0) := cc
     have hcz37_3 : w15.cell? ⟨gb822, 3, none⟩ = some (.slice none 0 0) := cc
     have hfz37_0 := kF BK822.out 0
     have hfz37_1 := kF BK822.out 1
     have hfz37_2 := kF BK822.out 2
     have hfz37_3 := kF BK822.out 3
     go_wp2
     go_meet
     case rel => exact ⟨_, (true), (ex), H', ⟨by first | omega | exact Nat.le_refl _⟩, ⟨by (with_reducible repeat (first | apply Kd.S_alloc | apply Kd.S_drewN | apply Kd.S_drew)); exact Kd.S_mono (Kd.S_far (p := ⟨gb822, 3, none⟩) (Kd.S_far (p := ⟨gb822, 2, none⟩) (Kd.S_far (p := ⟨gb822, 1, none⟩) (Kd.S_far (p := ⟨gb822, 0, none⟩) (Kd.S_types HO804.out BK822.out (by decide)) (fun _ hk => hk.2) (.int .i64 t814)) (fun _ hk => hk.2) (.int .i64 t815)) (fun _ hk => hk.2) (.slice Ao18 t816.length co18)) (fun _ hk => hk.2) (.slice Ao19 t819.length co19)) jq⟩, aM (rM (rf (Kd.R_types HO809.out BK822.out (by decide))) jq), aM (rM (rf (Kd.R_types HO812.out BK822.out (by decide))) jq), aM (rM (rf (Kd.R_types HO818.out BK822.out (by decide))) jq), aM (rM (rf (Kd.R_types HO821.out BK822.out (by decide))) jq), aM (fq BK813.out), aM (fq BK822.out), ⟨bq⟩⟩
   ·rw [if_neg c20] at H
    have c20b0 : (t805 == 0) = false := beq_eq_false_iff_ne.mpr c20
    have c20b1 : (t805 != 0) = true := bne_iff_ne.mpr c20
    (first | rw [c20b0] | (simp only [i64_w, i32_w]; rw [c20b0]) | skip)
    have H' := aM H
    clear H
    have hnb38 := NB813_822.out
    have hnc38 := NB822_813.out
    have hcz39_0 : w15.cell? ⟨gb813, 0, none⟩ = some (.int .i64 t805) := cc
    have hcz39_1 : w15.cell? ⟨gb813, 1, none⟩ = some (.int .i64 t806) := cc
    have hcz39_2 : w15.cell? ⟨gb813, 2, none⟩ = some (.slice Ao12 t807.length co12) := cc
    have hcz39_3 : w15.cell? ⟨gb813, 3, none⟩ = some (.slice Ao13 t810.length co13) := cc
    have hfz39_0 := kF BK813.out 0
    have hfz39_1 := kF BK813.out 1
    have hfz39_2 := kF BK813.out 2
    have hfz39_3 := kF BK813.out 3
    go_wp2
    go_meet
    case rel => exact ⟨_, (true), (ex), H', ⟨by first | omega | exact Nat.le_refl _⟩, ⟨by (with_reducible repeat (first | apply Kd.S_alloc | apply Kd.S_drewN | apply Kd.S_drew)); exact Kd.S_mono (Kd.S_far (p := ⟨gb822, 3, none⟩) (Kd.S_far (p := ⟨gb822, 2, none⟩) (Kd.S_far (p := ⟨gb822, 1, none⟩) (Kd.S_far (p := ⟨gb822, 0, none⟩) (Kd.S_types HO804.out BK822.out (by decide)) (fun _ hk => hk.2) (.int .i64 t814)) (fun _ hk => hk.2) (.int .i64 t815)) (fun _ hk => hk.2) (.slice Ao18 t816.length co18)) (fun _ hk => hk.2) (.slice Ao19 t819.length co19)) jq⟩, aM (rM (rf (Kd.R_types HO809.out BK822.out (by decide))) jq), aM (rM (rf (Kd.R_types HO812.out BK822.out (by decide))) jq), aM (rM (rf (Kd.R_types HO818.out BK822.out (by decide))) jq), aM (rM (rf (Kd.R_types HO821.out BK822.out (by decide))) jq), aM (fq BK813.out), aM (fq BK822.out), ⟨bq⟩⟩
  case rest =>
   clear HC7
   try clear c1
   try clear c2
   try clear p2
   try clear c3
   try clear c4
   try clear c8
   try clear c16
   try clear c20
   try clear c20b0
   try clear c20b1
   try clear c21
   try clear c21b0
   try clear c21b1
   try clear c23
   try clear c23b0
   try clear c23b1
   try clear c25
   try clear c31
   try clear c35
   try clear c37
   try clear c38
   try clear hcz11_0
   try clear hcz11_1
   try clear hcz11_2
   try clear hcz11_3
   try clear hcz17_0
   try clear hcz17_1
   try clear hcz17_2
   try clear hcz17_3
   try clear hcz26_0
   try clear hcz26_1
   try clear hcz26_2
   try clear hcz26_3
   try clear hcz27_0
   try clear hcz27_1
   try clear hcz27_2
   try clear hcz27_3
   try clear hcz29_0
   try clear hcz29_1
   try clear hcz29_2
   try clear hcz29_3
   try clear hcz32_0
   try clear hcz32_1
   try clear hcz32_2
   try clear hcz32_3
   try clear hcz33_0
   try clear hcz33_1
   try clear hcz33_2
   try clear hcz33_3
   try clear hcz36_0
   try clear hcz36_1
   try clear hcz36_2
   try clear hcz36_3
   try clear hcz37_0
   try clear hcz37_1
   try clear hcz37_2
   try clear hcz37_3
   try clear hcz39_0
   try clear hcz39_1
   try clear hcz39_2
   try clear hcz39_3
   try clear hfz11_0
   try clear hfz11_1
   try clear hfz11_2
   try clear hfz11_3
   try clear hfz17_0
   try clear hfz17_1
   try clear hfz17_2
   try clear hfz17_3
   try clear hfz26_0
   try clear hfz26_1
   try clear hfz26_2
   try clear hfz26_3
   try clear hfz27_0
   try clear hfz27_1
   try clear hfz27_2
   try clear hfz27_3
   try clear hfz29_0
   try clear hfz29_1
   try clear hfz29_2
   try clear hfz29_3
   try clear hfz32_0
   try clear hfz32_1
   try clear hfz32_2
   try clear hfz32_3
   try clear hfz33_0
   try clear hfz33_1
   try clear hfz33_2
   try clear hfz33_3
   try clear hfz36_0
   try clear hfz36_1
   try clear hfz36_2
   try clear hfz36_3
   try clear hfz37_0
   try clear hfz37_1
   try clear hfz37_2
   try clear hfz37_3
   try clear hfz39_0
   try clear hfz39_1
   try clear hfz39_2
   try clear hfz39_3
   obtain ⟨kq, x46_6, rfl, HA, HJ6, HO_7, HO_814002, HO_814003, HO_823002, HO_823003, BK813, BK822, HB⟩ := hcut
   cases kq with
   | zero => exact absurd HA.out (by simp [laws_FnLaps.j0])
   | succ kj6 =>
    have H := HA.out
    clear HA
    simp only [laws_FnLaps.j0] at H
    by_cases c40 : x46_6 = true
    ·subst c40
     have H1 : (some false) = some r := by rw [if_pos rfl] at H; exact H
     clear H
     have H := H1
     clear H1
     exact absurd (H.trans (congrArg some HLAW.out)) (by simp)
    ·replace c40 := Bool.eq_false_iff.mpr c40
     subst c40
     have H1 : (laws_FnLaps.l0 kj6 t798 t802 0 t805 t806 t807 t810 t814 t815 t816 t819) = some r := by rw [if_neg (show ¬ (false = true) by decide)] at H; exact H
     clear H
     have H := H1
     clear H1
     have H' := aM H
     clear H
     go_wp2
     go_loopg [10] kj6 (fun kq v10 w' => ∃ (x10_2 : Int) (x814001_2 : Int) (x814002_2 : List Int) (x814003_2 : List Int) (x823001_2 : Int) (x823002_2 : List Int) (x823003_2 : List Int) (u814002 : Value) (u814003 : Value) (u823002 : Value) (u823003 : Value), v10 = .int .i64 x10_2 ∧ Aside0 (laws_FnLaps.l0 kq t798 t802 x10_2 t805 x814001_2 x814002_2 x814003_2 t814 x823001_2 x823002_2 x823003_2 = some r) ∧ Aside0 (kq ≤ kj6) ∧ Aside0 (Kd.S k84 84 w' w.heap.size (fun k_ => nb u814002 k_ ∧ nb u814003 k_ ∧ nb u823002 k_ ∧ nb u823003 k_) v803 t802) ∧ Aside0 (Kd.R (Kd.int .i64) 2 w' w.heap.size (fun k_ => nb u814003 k_ ∧ nb u823002 k_ ∧ nb u823003 k_) u814002 x814002_2) ∧ Aside0 (Kd.R (Kd.int .i64) 2 w' w.heap.size (fun k_ => nb u814002 k_ ∧ nb u823002 k_ ∧ nb u823003 k_) u814003 x814003_2) ∧ Aside0 (Kd.R (Kd.int .i64) 2 w' w.heap.size (fun k_ => nb u814002 k_ ∧ nb u814003 k_ ∧ nb u823003 k_) u823002 x823002_2) ∧ Aside0 (Kd.R (Kd.int .i64) 2 w' w.heap.size (fun k_ => nb u814002 k_ ∧ nb u814003 k_ ∧ nb u823002 k_) u823003 x823003_2) ∧ Aside0 (w'.heap[gb813]? = some (.cells #[.int .i64 t805, .int .i64 x814001_2, u814002, u814003] 79 (0, 0))) ∧ Aside0 (w'.heap[gb822]? = some (.cells #[.int .i64 t814, .int .i64 x823001_2, u823002, u823003] 64 (0, 0))) ∧ Aside0 (Below w.heap.size w w'))
     case atStart => exact ⟨(0), (t806), (t807), (t810), (t815), (t816), (t819), (.slice Ao12 t807.length co12), (.slice Ao13 t810.length co13), (.slice Ao18 t816.length co18), (.slice Ao19 t819.length co19), (ex), H', ⟨Nat.le_refl _⟩, ⟨by (with_reducible repeat (first | apply Kd.S_alloc | apply Kd.S_drewN | apply Kd.S_drew)); exact HO_7.out⟩, aM (rq HO_814002.out), aM (rq HO_814003.out), aM (rq HO_823002.out), aM (rq HO_823003.out), aM (kq BK813.out), aM (kq BK822.out), ⟨bq⟩⟩
     case round =>
      clear H'
      try clear c1
      try clear c2
      try clear p2
      try clear c3
      try clear c4
      try clear c8
      try clear c16
      try clear c20
      try clear c20b0
      try clear c20b1
      try clear c21
      try clear c21b0
      try clear c21b1
      try clear c23
      try clear c23b0
      try clear c23b1
      try clear c25
      try clear c31
      try clear c35
      try clear c37
      try clear c38
      try clear c40
      try clear hcz11_0
      try clear hcz11_1
      try clear hcz11_2
      try clear hcz11_3
      try clear hcz17_0
      try clear hcz17_1
      try clear hcz17_2
      try clear hcz17_3
      try clear hcz26_0
      try clear hcz26_1
      try clear hcz26_2
      try clear hcz26_3
      try clear hcz27_0
      try clear hcz27_1
      try clear hcz27_2
      try clear hcz27_3
      try clear hcz29_0
      try clear hcz29_1
      try clear hcz29_2
      try clear hcz29_3
      try clear hcz32_0
      try clear hcz32_1
      try clear hcz32_2
      try clear hcz32_3
      try clear hcz33_0
      try clear hcz33_1
      try clear hcz33_2
      try clear hcz33_3
      try clear hcz36_0
      try clear hcz36_1
      try clear hcz36_2
      try clear hcz36_3
      try clear hcz37_0
      try clear hcz37_1
      try clear hcz37_2
      try clear hcz37_3
      try clear hcz39_0
      try clear hcz39_1
      try clear hcz39_2
      try clear hcz39_3
      try clear hfz11_0
      try clear hfz11_1
      try clear hfz11_2
      try clear hfz11_3
      try clear hfz17_0
      try clear hfz17_1
      try clear hfz17_2
      try clear hfz17_3
      try clear hfz26_0
      try clear hfz26_1
      try clear hfz26_2
      try clear hfz26_3
      try clear hfz27_0
      try clear hfz27_1
      try clear hfz27_2
      try clear hfz27_3
      try clear hfz29_0
      try clear hfz29_1
      try clear hfz29_2
      try clear hfz29_3
      try clear hfz32_0
      try clear hfz32_1
      try clear hfz32_2
      try clear hfz32_3
      try clear hfz33_0
      try clear hfz33_1
      try clear hfz33_2
      try clear hfz33_3
      try clear hfz36_0
      try clear hfz36_1
      try clear hfz36_2
      try clear hfz36_3
      try clear hfz37_0
      try clear hfz37_1
      try clear hfz37_2
      try clear hfz37_3
      try clear hfz39_0
      try clear hfz39_1
      try clear hfz39_2
      try clear hfz39_3
      try clear p2
      obtain ⟨x10_2, x814001_2, x814002_2, x814003_2, x823001_2, x823002_2, x823003_2, u814002, u814003, u823002, u823003, rfl, HA, HK2, HO_7, HO_814002, HO_814003, HO_823002, HO_823003, BK813, BK822, HB⟩ := hrel
      cases gk with
      | zero => exact absurd HA.out (by simp [laws_FnLaps.l0])
      | succ k2 =>
       have H := HA.out
       clear HA
       simp only [laws_FnLaps.l0] at H
       by_cases c41 : x10_2 < (t802.length : Int)
       ·rw [if_pos c41] at H
        have c41b0 : decide (x10_2 < (t802.length : Int)) = true := decide_eq_true c41
        clear c41
        by_cases c42 : 0 ≤ x10_2
        ·rw [if_pos c42] at H
         have c42b0 : decide (0 ≤ x10_2) = true := decide_eq_true c42
         clear c42
         replace H := bo H
         obtain ⟨⟨t826, t827, t828, t831, t834⟩, A43, H⟩ := H
         replace H := bz H
         replace H := bo H
         obtain ⟨⟨t838, t839, t840, t843, t846⟩, A44, H⟩ := H
         replace H := bz H
         have HC45 := aM H
         clear H
         obtain ⟨Ao46, co46, eo46⟩ := Kd.S_slice HO_7.out
         subst eo46
         obtain ⟨Ao47, co47, eo47⟩ := Kd.R_slice HO_814002.out
         subst eo47
         obtain ⟨Ao48, co48, eo48⟩ := Kd.R_slice HO_814003.out
         subst eo48
         try go_wp2
         replace HO_7 := aM (Kd.S_drew HO_7.out)
         replace HO_814002 := aM (rD HO_814002.out)
         replace HO_814003 := aM (rD HO_814003.out)
         replace HO_823002 := aM (rD HO_823002.out)
         replace HO_823003 := aM (rD HO_823003.out)
         replace BK813 := aM (kD BK813.out)
         replace BK822 := aM (kD BK822.out)
         replace HB := aM (bD HB.out)
         have p825 : 0 ≤ (x10_2 : Int) := of_decide_eq_true (by first | (with_reducible assumption) | assumption)
         have q825 : x10_2 < (t802.length : Int) := of_decide_eq_true (by first | (with_reducible assumption) | assumption)
         obtain ⟨ad825, A825_0, c825_0, e825, hx825_0, hx825_1, hx825_2, hx825_3, hx825_4, hx825_5, hx825_6, hx825_7, hx825_8, hx825_9, hx825_10, hx825_11, hx825_12, hl825_0, hi825_0⟩ := at_T84 (Kd.S_reads' HO_7.out).2.2 x10_2 p825 q825
         cases e825
         obtain ⟨ce825, hce825, hMe825, hcc825⟩ := Kd.S_get HO_7.out z84 x10_2 p825 (by first | exact q825 | exact of_decide_eq_true (by first | (with_reducible assumption) | assumption) | (have e_ := (Kd.S_reads' HO_7.out).1; omega))
         obtain ⟨ve825_0, rfl, ge825_0⟩ := k84_openM hMe825
         have hv825_0 := hcc825 0 _ rfl
         rw [Nat.add_zero] at hv825_0
         replace hv825_0 := Option.some.inj (hv825_0.symm.trans hx825_0)
         rw [hv825_0] at ge825_0
         have HL825_0 := aM (show Kd.R (Kd.int .i64) 2 _ _ _ _ ((rd_T84 t802 x10_2).f0) from ge825_0)
         clear hv825_0 ge825_0 hcc825 hce825
         have HR825_0 := aM hi825_0
         have HC825_0 := aM hl825_0
         clear hi825_0 hl825_0
         replace p825 := eq_true p825
         replace q825 := eq_true q825
         refine start_ (n := 10) (S := fun w' => w'.cell? ⟨gb813, 0, none⟩ = some (.int .i64 t805) ∧ w'.cell? ⟨gb813, 1, none⟩ = some (.int .i64 x814001_2) ∧ w'.cell? ⟨gb813, 2, none⟩ = some (.slice Ao47 x814002_2.length co47) ∧ w'.cell? ⟨gb813, 3, none⟩ = some (.slice Ao48 x814003_2.length co48) ∧ w'.cell? (ad825.add ((x10_2).toNat * 13)) = some (.slice A825_0 ((rd_T84 t802 x10_2).f0).length c825_0) ∧ w'.cell? ⟨(ad825.add ((x10_2).toNat * 13)).block, (ad825.add ((x10_2).toNat * 13)).off + 1, none⟩ = some (.int .i64 ((rd_T84 t802 x10_2).f1.f0)) ∧ w'.cell? ⟨(ad825.add ((x10_2).toNat * 13)).block, (ad825.add ((x10_2).toNat * 13)).off + 2, none⟩ = some (.int .i64 ((rd_T84 t802 x10_2).f1.f1)) ∧ w'.cell? ⟨(ad825.add ((x10_2).toNat * 13)).block, (ad825.add ((x10_2).toNat * 13)).off + 3, none⟩ = some (.int .i64 ((rd_T84 t802 x10_2).f1.f2)) ∧ w'.cell? ⟨(ad825.add ((x10_2).toNat * 13)).block, (ad825.add ((x10_2).toNat * 13)).off + 4, none⟩ = some (.int .i64 ((rd_T84 t802 x10_2).f1.f3)) ∧ w'.cell? ⟨(ad825.add ((x10_2).toNat * 13)).block, (ad825.add ((x10_2).toNat * 13)).off + 5, none⟩ = some (.int .i64 ((rd_T84 t802 x10_2).f2.f0)) ∧ w'.cell? ⟨(ad825.add ((x10_2).toNat * 13)).block, (ad825.add ((x10_2).toNat * 13)).off + 6, none⟩ = some (.int .i64 ((rd_T84 t802 x10_2).f2.f1)) ∧ w'.cell? ⟨(ad825.add ((x10_2).toNat * 13)).block, (ad825.add ((x10_2).toNat * 13)).off + 7, none⟩ = some (.int .i64 ((rd_T84 t802 x10_2).f2.f2)) ∧ w'.cell? ⟨(ad825.add ((x10_2).toNat * 13)).block, (ad825.add ((x10_2).toNat * 13)).off + 8, none⟩ = some (.int .i64 ((rd_T84 t802 x10_2).f2.f3)) ∧ w'.cell? ⟨(ad825.add ((x10_2).toNat * 13)).block, (ad825.add ((x10_2).toNat * 13)).off + 9, none⟩ = some (.int .i64 ((rd_T84 t802 x10_2).f3.f0)) ∧ w'.cell? ⟨(ad825.add ((x10_2).toNat * 13)).block, (ad825.add ((x10_2).toNat * 13)).off + 10, none⟩ = some (.int .i64 ((rd_T84 t802 x10_2).f3.f1)) ∧ w'.cell? ⟨(ad825.add ((x10_2).toNat * 13)).block, (ad825.add ((x10_2).toNat * 13)).off + 11, none⟩ = some (.int .i64 ((rd_T84 t802 x10_2).f3.f2)) ∧ w'.cell? ⟨(ad825.add ((x10_2).toNat * 13)).block, (ad825.add ((x10_2).toNat * 13)).off + 12, none⟩ = some (.int .i64 ((rd_T84 t802 x10_2).f3.f3))) (ds := []) #[N,N,N,N,N,N,N,N,N,N] kr rfl rfl ⟨cc, cc, cc, cc, hx825_0, hx825_1, hx825_2, hx825_3, hx825_4, hx825_5, hx825_6, hx825_7, hx825_8, hx825_9, hx825_10, hx825_11, hx825_12⟩ (fun hHeld => ?_); refine with_tabW laws_FnLaps.tab11 laws_FnLaps.bits11 (fun HT_ HW_ => ?_)
         generalize wr.drew = w49 at HO_7 HO_814002 HO_814003 HO_823002 HO_823003 BK813 BK822 HB HL825_0 HR825_0 hx825_0 hx825_1 hx825_10 hx825_11 hx825_12 hx825_2 hx825_3 hx825_4 hx825_5 hx825_6 hx825_7 hx825_8 hx825_9 hHeld ⊢
         refine pp HT_ (N := some 53) 0 #[Y,N,N,N,N,N,N,N,N,N] ?_
         refine pp HT_ (N := some 55) 2 #[Y,N,Y,N,N,N,N,N,N,N] ?_
         refine pp HT_ (N := some 56) 3 #[Y,N,Y,Y,N,N,N,N,N,N] ?_
         refine pp HT_ (N := some 57) 4 #[Y,N,Y,Y,Y,N,N,N,N,N] ?_
         refine pp HT_ (N := some 58) 5 #[Y,N,Y,Y,Y,Y,N,N,N,N] ?_
         refine tt HT_ HW_ (N := some 54) 1 #[Y,Y,Y,Y,Y,Y,N,N,N,N] hHeld ?_ (hy := by rintro w' ⟨s0, s1, s2, s3, s4, s5, s6, s7, s8, s9, s10, s11, s12, s13, s14, s15, s16⟩; go_simp; with_reducible rfl)
         refine tt HT_ HW_ (N := some 59) 6 #[Y,Y,Y,Y,Y,Y,Y,N,N,N] hHeld ?_ (hy := by rintro w' ⟨s0, s1, s2, s3, s4, s5, s6, s7, s8, s9, s10, s11, s12, s13, s14, s15, s16⟩; go_simp; with_reducible rfl)
         refine join_ (σ := Value × Value × Value × Nat) 1 #[Y,Y,Y,Y,Y,Y,Y,Y,Y,N] (fun s_ => [(60, .agg #[.int .i64 t826, .int .i64 t827, s_.1, s_.2.1, s_.2.2.1]), (11, .pointer (some ⟨s_.2.2.2, 0, none⟩))]) (fun s_ w' => (w'.cell? ⟨gb813, 0, none⟩ = some (.int .i64 t805) ∧ w'.cell? ⟨gb813, 1, none⟩ = some (.int .i64 x814001_2) ∧ w'.cell? ⟨gb813, 2, none⟩ = some (.slice Ao47 x814002_2.length co47) ∧ w'.cell? ⟨gb813, 3, none⟩ = some (.slice Ao48 x814003_2.length co48) ∧ w'.cell? (ad825.add ((x10_2).toNat * 13)) = some (.slice A825_0 ((rd_T84 t802 x10_2).f0).length c825_0) ∧ w'.cell? ⟨(ad825.add ((x10_2).toNat * 13)).block, (ad825.add ((x10_2).toNat * 13)).off + 1, none⟩ = some (.int .i64 ((rd_T84 t802 x10_2).f1.f0)) ∧ w'.cell? ⟨(ad825.add ((x10_2).toNat * 13)).block, (ad825.add ((x10_2).toNat * 13)).off + 2, none⟩ = some (.int .i64 ((rd_T84 t802 x10_2).f1.f1)) ∧ w'.cell? ⟨(ad825.add ((x10_2).toNat * 13)).block, (ad825.add ((x10_2).toNat * 13)).off + 3, none⟩ = some (.int .i64 ((rd_T84 t802 x10_2).f1.f2)) ∧ w'.cell? ⟨(ad825.add ((x10_2).toNat * 13)).block, (ad825.add ((x10_2).toNat * 13)).off + 4, none⟩ = some (.int .i64 ((rd_T84 t802 x10_2).f1.f3)) ∧ w'.cell? ⟨(ad825.add ((x10_2).toNat * 13)).block, (ad825.add ((x10_2).toNat * 13)).off + 5, none⟩ = some (.int .i64 ((rd_T84 t802 x10_2).f2.f0)) ∧ w'.cell? ⟨(ad825.add ((x10_2).toNat * 13)).block, (ad825.add ((x10_2).toNat * 13)).off + 6, none⟩ = some (.int .i64 ((rd_T84 t802 x10_2).f2.f1)) ∧ w'.cell? ⟨(ad825.add ((x10_2).toNat * 13)).block, (ad825.add ((x10_2).toNat * 13)).off + 7, none⟩ = some (.int .i64 ((rd_T84 t802 x10_2).f2.f2)) ∧ w'.cell? ⟨(ad825.add ((x10_2).toNat * 13)).block, (ad825.add ((x10_2).toNat * 13)).off + 8, none⟩ = some (.int .i64 ((rd_T84 t802 x10_2).f2.f3)) ∧ w'.cell? ⟨(ad825.add ((x10_2).toNat * 13)).block, (ad825.add ((x10_2).toNat * 13)).off + 9, none⟩ = some (.int .i64 ((rd_T84 t802 x10_2).f3.f0)) ∧ w'.cell? ⟨(ad825.add ((x10_2).toNat * 13)).block, (ad825.add ((x10_2).toNat * 13)).off + 10, none⟩ = some (.int .i64 ((rd_T84 t802 x10_2).f3.f1)) ∧ w'.cell? ⟨(ad825.add ((x10_2).toNat * 13)).block, (ad825.add ((x10_2).toNat * 13)).off + 11, none⟩ = some (.int .i64 ((rd_T84 t802 x10_2).f3.f2)) ∧ w'.cell? ⟨(ad825.add ((x10_2).toNat * 13)).block, (ad825.add ((x10_2).toNat * 13)).off + 12, none⟩ = some (.int .i64 ((rd_T84 t802 x10_2).f3.f3))) ∧ (Kd.R (Kd.int .i64) 2 w' w.heap.size (fun k_ => some k_ ≠ (s_.1 : Value).ownBlock ∧ some k_ ≠ (s_.2.1 : Value).ownBlock ∧ some k_ ≠ (s_.2.2.1 : Value).ownBlock ∧ some k_ ≠ (.slice (some ad825) t802.length co46 : Value).ownBlock ∧ nS Ao47 x814002_2 co47 k_ ∧ nS Ao48 x814003_2 co48 k_ ∧ nb u823002 k_ ∧ nb u823003 k_) (.slice A825_0 ((rd_T84 t802 x10_2).f0).length c825_0) ((rd_T84 t802 x10_2).f0)) ∧ (Kd.R (Kd.int .i64) 2 w' w.heap.size (fun k_ => some k_ ≠ (.slice A825_0 ((rd_T84 t802 x10_2).f0).length c825_0 : Value).ownBlock ∧ some k_ ≠ (s_.2.1 : Value).ownBlock ∧ some k_ ≠ (s_.2.2.1 : Value).ownBlock ∧ nS Ao47 x814002_2 co47 k_ ∧ nS Ao48 x814003_2 co48 k_ ∧ nb u823002 k_ ∧ nb u823003 k_) s_.1 t828) ∧ (Kd.R (Kd.int .i64) 2 w' w.heap.size (fun k_ => some k_ ≠ (.slice A825_0 ((rd_T84 t802 x10_2).f0).length c825_0 : Value).ownBlock ∧ some k_ ≠ (s_.1 : Value).ownBlock ∧ some k_ ≠ (s_.2.2.1 : Value).ownBlock ∧ nS Ao47 x814002_2 co47 k_ ∧ nS Ao48 x814003_2 co48 k_ ∧ nb u823002 k_ ∧ nb u823003 k_) s_.2.1 t831) ∧ (Kd.R (Kd.int .i64) 2 w' w.heap.size (fun k_ => some k_ ≠ (.slice A825_0 ((rd_T84 t802 x10_2).f0).length c825_0 : Value).ownBlock ∧ some k_ ≠ (s_.1 : Value).ownBlock ∧ some k_ ≠ (s_.2.1 : Value).ownBlock ∧ nS Ao47 x814002_2 co47 k_ ∧ nS Ao48 x814003_2 co48 k_ ∧ nb u823002 k_ ∧ nb u823003 k_) s_.2.2.1 t834) ∧ (Kd.S k84 84 w' w.heap.size (fun k_ => some k_ ≠ (s_.1 : Value).ownBlock ∧ some k_ ≠ (s_.2.1 : Value).ownBlock ∧ some k_ ≠ (s_.2.2.1 : Value).ownBlock ∧ nS Ao47 x814002_2 co47 k_ ∧ nS Ao48 x814003_2 co48 k_ ∧ nb u823002 k_ ∧ nb u823003 k_) (.slice (some ad825) t802.length co46) t802) ∧ (Kd.R (Kd.int .i64) 2 w' w.heap.size (fun k_ => some k_ ≠ (s_.1 : Value).ownBlock ∧ some k_ ≠ (s_.2.1 : Value).ownBlock ∧ some k_ ≠ (s_.2.2.1 : Value).ownBlock ∧ nS Ao48 x814003_2 co48 k_ ∧ nb u823002 k_ ∧ nb u823003 k_) (.slice Ao47 x814002_2.length co47) x814002_2) ∧ (Kd.R (Kd.int .i64) 2 w' w.heap.size (fun k_ => some k_ ≠ (s_.1 : Value).ownBlock ∧ some k_ ≠ (s_.2.1 : Value).ownBlock ∧ some k_ ≠ (s_.2.2.1 : Value).ownBlock ∧ nS Ao47 x814002_2 co47 k_ ∧ nb u823002 k_ ∧ nb u823003 k_) (.slice Ao48 x814003_2.length co48) x814003_2) ∧ (Kd.R (Kd.int .i64) 2 w' w.heap.size (fun k_ => some k_ ≠ (s_.1 : Value).ownBlock ∧ some k_ ≠ (s_.2.1 : Value).ownBlock ∧ some k_ ≠ (s_.2.2.1 : Value).ownBlock ∧ nS Ao47 x814002_2 co47 k_ ∧ nS Ao48 x814003_2 co48 k_ ∧ nb u823003 k_) u823002 x823002_2) ∧ (Kd.R (Kd.int .i64) 2 w' w.heap.size (fun k_ => some k_ ≠ (s_.1 : Value).ownBlock ∧ some k_ ≠ (s_.2.1 : Value).ownBlock ∧ some k_ ≠ (s_.2.2.1 : Value).ownBlock ∧ nS Ao47 x814002_2 co47 k_ ∧ nS Ao48 x814003_2 co48 k_ ∧ nb u823002 k_) u823003 x823003_2) ∧ (w'.heap[gb813]? = some (.cells #[.int .i64 t805, .int .i64 x814001_2, .slice Ao47 x814002_2.length co47, .slice Ao48 x814003_2.length co48] 79 (0, 0))) ∧ (w'.heap[gb822]? = some (.cells #[.int .i64 t814, .int .i64 x823001_2, u823002, u823003] 64 (0, 0))) ∧ (w'.heap[s_.2.2.2]? = some (.cells #[.int .i64 0, .int .i64 0, .slice none 0 0, .slice none 0 0, .slice none 0 0] 50 (0, 0))) ∧ (w.heap.size ≤ s_.2.2.2) ∧ (w.heap.size ≤ s_.2.2.2) ∧ (gb813 ≠ s_.2.2.2) ∧ (s_.2.2.2 ≠ gb813) ∧ (gb822 ≠ s_.2.2.2) ∧ (s_.2.2.2 ≠ gb822) ∧ (Below w.heap.size w w')) ?_ ?_
         rotate_left
         ·intro hCont
          refine two_ (i := 7) (j := 8) (Ni := some 60) (Nj := some 11) #[Y,Y,Y,Y,Y,Y,Y,Y,N,N] #[Y,Y,Y,Y,Y,Y,Y,N,Y,N] rfl rfl rfl rfl (two_of HT_.out kr) (by decide) (by decide) (fun K hK => ?_) (fun K hK => ?_)
          ·skip
           refine goes_ Try.func29 kr rfl #[.agg #[.int .i64 x814001_2, .slice Ao47 x814002_2.length co47, .slice Ao48 x814003_2.length co48], .slice A825_0 ((rd_T84 t802 x10_2).f0).length c825_0] (by rfl) rfl rfl mq ?_
           with_reducible refine (impl_FeedFrame.calls k2 x814001_2 _ _ x814002_2 _ _ x814003_2 _ _ ((rd_T84 t802 x10_2).f0) t826 t827 t828 t831 t834 _ ?side1 ?side2 ?side3 ?side4 ?side5 ?side6 A43.out).mono ?_
           (case side1 => exact cq (rR HO_814002.out).2.2)
           (case side2 => exact (rR HO_814002.out).2.1)
           (case side3 => exact cq (rR HO_814003.out).2.2)
           (case side4 => exact (rR HO_814003.out).2.1)
           (case side5 => repeat (first | exact (by repeat (first | (with_reducible exact HR825_0.out) | (with_reducible refine cA ?_ _) | (with_reducible refine cN ?_ _) | (with_reducible refine cD ?_) | exact HR825_0.out)) | (with_reducible refine cA ?_ _) | (with_reducible refine cN ?_ _) | (with_reducible refine cD ?_)))
           (case side6 => exact HC825_0.out)
           rintro e w50 ⟨v829, v832, v835, rfl, ho0, ho1, ho2, hb⟩
           have HS4_ := (hb.cell (World.block_lt_of_cell? _ _ (hHeld.2.2.2.2.1))).trans (hHeld.2.2.2.2.1)
           have HS5_ := (hb.cell (World.block_lt_of_cell? _ _ (hHeld.2.2.2.2.2.1))).trans (hHeld.2.2.2.2.2.1)
           have HS6_ := (hb.cell (World.block_lt_of_cell? _ _ (hHeld.2.2.2.2.2.2.1))).trans (hHeld.2.2.2.2.2.2.1)
           have HS7_ := (hb.cell (World.block_lt_of_cell? _ _ (hHeld.2.2.2.2.2.2.2.1))).trans (hHeld.2.2.2.2.2.2.2.1)
           have HS8_ := (hb.cell (World.block_lt_of_cell? _ _ (hHeld.2.2.2.2.2.2.2.2.1))).trans (hHeld.2.2.2.2.2.2.2.2.1)
           have HS9_ := (hb.cell (World.block_lt_of_cell? _ _ (hHeld.2.2.2.2.2.2.2.2.2.1))).trans (hHeld.2.2.2.2.2.2.2.2.2.1)
           have HS10_ := (hb.cell (World.block_lt_of_cell? _ _ (hHeld.2.2.2.2.2.2.2.2.2.2.1))).trans (hHeld.2.2.2.2.2.2.2.2.2.2.1)
           have HS11_ := (hb.cell (World.block_lt_of_cell? _ _ (hHeld.2.2.2.2.2.2.2.2.2.2.2.1))).trans (hHeld.2.2.2.2.2.2.2.2.2.2.2.1)
           have HS12_ := (hb.cell (World.block_lt_of_cell? _ _ (hHeld.2.2.2.2.2.2.2.2.2.2.2.2.1))).trans (hHeld.2.2.2.2.2.2.2.2.2.2.2.2.1)
           have HS13_ := (hb.cell (World.block_lt_of_cell? _ _ (hHeld.2.2.2.2.2.2.2.2.2.2.2.2.2.1))).trans (hHeld.2.2.2.2.2.2.2.2.2.2.2.2.2.1)
           have HS14_ := (hb.cell (World.block_lt_of_cell? _ _ (hHeld.2.2.2.2.2.2.2.2.2.2.2.2.2.2.1))).trans (hHeld.2.2.2.2.2.2.2.2.2.2.2.2.2.2.1)
           have HS15_ := (hb.cell (World.block_lt_of_cell? _ _ (hHeld.2.2.2.2.2.2.2.2.2.2.2.2.2.2.2.1))).trans (hHeld.2.2.2.2.2.2.2.2.2.2.2.2.2.2.2.1)
           have HS16_ := (hb.cell (World.block_lt_of_cell? _ _ (hHeld.2.2.2.2.2.2.2.2.2.2.2.2.2.2.2.2))).trans (hHeld.2.2.2.2.2.2.2.2.2.2.2.2.2.2.2.2)
           refine ⟨_, rfl, ?_⟩
           replace HO_7 := aM (Kd.S_mono (Kd.S_told (Kd.S_told (Kd.S_told (Kd.S_old (by (with_reducible repeat (first | apply Kd.S_alloc | apply Kd.S_drewN | apply Kd.S_drew)); exact HO_7.out) hb) (rB ho0)) (rB ho1)) (rB ho2)) (fun _ h_ => h_.1))
           have HO830 := aM (rG (rW (rW (rW (rW (rW ho0 (rT (rq HO_814002.out))) (rT (rq HO_814003.out))) (rT (rq HO_823002.out))) (rT (rq HO_823003.out))) (rT (rq HL825_0.out))) (bZ bq))
           have HO833 := aM (rG (rW (rW (rW (rW (rW ho1 (rT (rq HO_814002.out))) (rT (rq HO_814003.out))) (rT (rq HO_823002.out))) (rT (rq HO_823003.out))) (rT (rq HL825_0.out))) (bZ bq))
           have HO836 := aM (rG (rW (rW (rW (rW (rW ho2 (rT (rq HO_814002.out))) (rT (rq HO_814003.out))) (rT (rq HO_823002.out))) (rT (rq HO_823003.out))) (rT (rq HL825_0.out))) (bZ bq))
           replace HO_814002 := aM (rM (rO (rO (rO (rE (rq HO_814002.out) hb) (rB ho0)) (rB ho1)) (rB ho2)) (fun _ h_ => h_.1))
           replace HO_814003 := aM (rM (rO (rO (rO (rE (rq HO_814003.out) hb) (rB ho0)) (rB ho1)) (rB ho2)) (fun _ h_ => h_.1))
           replace HO_823002 := aM (rM (rO (rO (rO (rE (rq HO_823002.out) hb) (rB ho0)) (rB ho1)) (rB ho2)) (fun _ h_ => h_.1))
           replace HO_823003 := aM (rM (rO (rO (rO (rE (rq HO_823003.out) hb) (rB ho0)) (rB ho1)) (rB ho2)) (fun _ h_ => h_.1))
           replace HL825_0 := aM (rM (rO (rO (rO (rE (rq HL825_0.out) hb) (rB ho0)) (rB ho1)) (rB ho2)) (fun _ h_ => h_.1))
           replace BK813 := aM (kB (kq BK813.out) hb)
           replace BK822 := aM (kB (kq BK822.out) hb)
           replace HR825_0 := aM (cB (by repeat (first | (with_reducible exact HR825_0.out) | (with_reducible refine cA ?_ _) | (with_reducible refine cN ?_ _) | (with_reducible refine cD ?_) | exact HR825_0.out)) hb)
           replace HB := aM (bT bq hb)
           (try clear hb)
           (try clear hb2)
           (try clear hk)
           (try clear hi)
           (try clear ho0)
           (try clear ho1)
           (try clear ho2)
           refine hK.out _ _ ⟨cc, cc, cc, cc, HS4_, HS5_, HS6_, HS7_, HS8_, HS9_, HS10_, HS11_, HS12_, HS13_, HS14_, HS15_, HS16_⟩ (fun hHeld => ?_)
           clear hK K
           refine nn ?_
           refine oo HT_ (N := some 11) 8 #[Y,Y,Y,Y,Y,Y,Y,Y,Y,N] (fun K hK => ?_)
           refine box_step ?hg (N := 11) ?hd (cs := #[.int .i64 0, .int .i64 0, .slice none 0 0, .slice none 0 0, .slice none 0 0]) (t := 50) ?hr ?_; (case hd => rfl); (case hg => rfl); (case hr => first | (go_simp; done) | (go_simp; rfl))
           intro gb837 hg w51 hbox hb
           have HS4_ := (hb.cell (World.block_lt_of_cell? _ _ (hHeld.2.2.2.2.1))).trans (hHeld.2.2.2.2.1)
           have HS5_ := (hb.cell (World.block_lt_of_cell? _ _ (hHeld.2.2.2.2.2.1))).trans (hHeld.2.2.2.2.2.1)
           have HS6_ := (hb.cell (World.block_lt_of_cell? _ _ (hHeld.2.2.2.2.2.2.1))).trans (hHeld.2.2.2.2.2.2.1)
           have HS7_ := (hb.cell (World.block_lt_of_cell? _ _ (hHeld.2.2.2.2.2.2.2.1))).trans (hHeld.2.2.2.2.2.2.2.1)
           have HS8_ := (hb.cell (World.block_lt_of_cell? _ _ (hHeld.2.2.2.2.2.2.2.2.1))).trans (hHeld.2.2.2.2.2.2.2.2.1)
           have HS9_ := (hb.cell (World.block_lt_of_cell? _ _ (hHeld.2.2.2.2.2.2.2.2.2.1))).trans (hHeld.2.2.2.2.2.2.2.2.2.1)
           have HS10_ := (hb.cell (World.block_lt_of_cell? _ _ (hHeld.2.2.2.2.2.2.2.2.2.2.1))).trans (hHeld.2.2.2.2.2.2.2.2.2.2.1)
           have HS11_ := (hb.cell (World.block_lt_of_cell? _ _ (hHeld.2.2.2.2.2.2.2.2.2.2.2.1))).trans (hHeld.2.2.2.2.2.2.2.2.2.2.2.1)
           have HS12_ := (hb.cell (World.block_lt_of_cell? _ _ (hHeld.2.2.2.2.2.2.2.2.2.2.2.2.1))).trans (hHeld.2.2.2.2.2.2.2.2.2.2.2.2.1)
           have HS13_ := (hb.cell (World.block_lt_of_cell? _ _ (hHeld.2.2.2.2.2.2.2.2.2.2.2.2.2.1))).trans (hHeld.2.2.2.2.2.2.2.2.2.2.2.2.2.1)
           have HS14_ := (hb.cell (World.block_lt_of_cell? _ _ (hHeld.2.2.2.2.2.2.2.2.2.2.2.2.2.2.1))).trans (hHeld.2.2.2.2.2.2.2.2.2.2.2.2.2.2.1)
           have HS15_ := (hb.cell (World.block_lt_of_cell? _ _ (hHeld.2.2.2.2.2.2.2.2.2.2.2.2.2.2.2.1))).trans (hHeld.2.2.2.2.2.2.2.2.2.2.2.2.2.2.2.1)
           have HS16_ := (hb.cell (World.block_lt_of_cell? _ _ (hHeld.2.2.2.2.2.2.2.2.2.2.2.2.2.2.2.2))).trans (hHeld.2.2.2.2.2.2.2.2.2.2.2.2.2.2.2.2)
           replace HO_7 := aM (Kd.S_below (by (with_reducible repeat (first | apply Kd.S_alloc | apply Kd.S_drewN | apply Kd.S_drew)); exact HO_7.out) hb)
           replace HO_814002 := aM (rL (rq HO_814002.out) hb)
           replace HO_814003 := aM (rL (rq HO_814003.out) hb)
           replace HO_823002 := aM (rL (rq HO_823002.out) hb)
           replace HO_823003 := aM (rL (rq HO_823003.out) hb)
           replace HL825_0 := aM (rL (rq HL825_0.out) hb)
           replace HO830 := aM (rL (rq HO830.out) hb)
           replace HO833 := aM (rL (rq HO833.out) hb)
           replace HO836 := aM (rL (rq HO836.out) hb)
           replace HR825_0 := aM (cB (by repeat (first | (with_reducible exact HR825_0.out) | (with_reducible refine cA ?_ _) | (with_reducible refine cN ?_ _) | (with_reducible refine cD ?_) | exact HR825_0.out)) hb)
           have BK837 := aM (hbox)
           have GW837 := aM ((by rw [hg]; exact (bZ bq) : w.heap.size ≤ gb837))
           have GE837 := aM ((by rw [hg]; exact (bZ bq) : w.heap.size ≤ gb837))
           replace HB := aM (bT bq hb)
           have NB813_837 := aM ((by rw [hg]; exact Nat.ne_of_lt (blk_lt (kq BK813.out)) : gb813 ≠ gb837))
           have NB837_813 := aM ((by rw [hg]; exact Nat.ne_of_gt (blk_lt (kq BK813.out)) : gb837 ≠ gb813))
           replace BK813 := aM (kB (kq BK813.out) hb)
           have NB822_837 := aM ((by rw [hg]; exact Nat.ne_of_lt (blk_lt (kq BK822.out)) : gb822 ≠ gb837))
           have NB837_822 := aM ((by rw [hg]; exact Nat.ne_of_gt (blk_lt (kq BK822.out)) : gb837 ≠ gb822))
           replace BK822 := aM (kB (kq BK822.out) hb)
           clear hb hbox hg
           refine hK.out _ _ ⟨cc, cc, cc, cc, HS4_, HS5_, HS6_, HS7_, HS8_, HS9_, HS10_, HS11_, HS12_, HS13_, HS14_, HS15_, HS16_⟩ (fun hHeld => ?_)
           clear hK K
           refine nn ?_
           exact norm_ (by simp only [putAll, Act.put, pa, pb, pc]) (hCont (v829, v832, v835, gb837) _ ⟨hHeld, (rq (rM HL825_0.out jq)), (rq (rM HO830.out jq)), (rq (rM HO833.out jq)), (rq (rM HO836.out jq)), (by (with_reducible repeat (first | apply Kd.S_alloc | apply Kd.S_drewN | apply Kd.S_drew)); exact Kd.S_mono HO_7.out jq), (rq (rM HO_814002.out jq)), (rq (rM HO_814003.out jq)), (rq (rM HO_823002.out jq)), (rq (rM HO_823003.out jq)), (kq BK813.out), (kq BK822.out), (kq BK837.out), GW837.out, GE837.out, NB813_837.out, NB837_813.out, NB822_837.out, NB837_822.out, bq⟩)
          ·skip
           refine box_step ?hg (N := 11) ?hd (cs := #[.int .i64 0, .int .i64 0, .slice none 0 0, .slice none 0 0, .slice none 0 0]) (t := 50) ?hr ?_; (case hd => rfl); (case hg => rfl); (case hr => first | (go_simp; done) | (go_simp; rfl))
           intro gb837 hg w50 hbox hb
           have HS4_ := (hb.cell (World.block_lt_of_cell? _ _ (hHeld.2.2.2.2.1))).trans (hHeld.2.2.2.2.1)
           have HS5_ := (hb.cell (World.block_lt_of_cell? _ _ (hHeld.2.2.2.2.2.1))).trans (hHeld.2.2.2.2.2.1)
           have HS6_ := (hb.cell (World.block_lt_of_cell? _ _ (hHeld.2.2.2.2.2.2.1))).trans (hHeld.2.2.2.2.2.2.1)
           have HS7_ := (hb.cell (World.block_lt_of_cell? _ _ (hHeld.2.2.2.2.2.2.2.1))).trans (hHeld.2.2.2.2.2.2.2.1)
           have HS8_ := (hb.cell (World.block_lt_of_cell? _ _ (hHeld.2.2.2.2.2.2.2.2.1))).trans (hHeld.2.2.2.2.2.2.2.2.1)
           have HS9_ := (hb.cell (World.block_lt_of_cell? _ _ (hHeld.2.2.2.2.2.2.2.2.2.1))).trans (hHeld.2.2.2.2.2.2.2.2.2.1)
           have HS10_ := (hb.cell (World.block_lt_of_cell? _ _ (hHeld.2.2.2.2.2.2.2.2.2.2.1))).trans (hHeld.2.2.2.2.2.2.2.2.2.2.1)
           have HS11_ := (hb.cell (World.block_lt_of_cell? _ _ (hHeld.2.2.2.2.2.2.2.2.2.2.2.1))).trans (hHeld.2.2.2.2.2.2.2.2.2.2.2.1)
           have HS12_ := (hb.cell (World.block_lt_of_cell? _ _ (hHeld.2.2.2.2.2.2.2.2.2.2.2.2.1))).trans (hHeld.2.2.2.2.2.2.2.2.2.2.2.2.1)
           have HS13_ := (hb.cell (World.block_lt_of_cell? _ _ (hHeld.2.2.2.2.2.2.2.2.2.2.2.2.2.1))).trans (hHeld.2.2.2.2.2.2.2.2.2.2.2.2.2.1)
           have HS14_ := (hb.cell (World.block_lt_of_cell? _ _ (hHeld.2.2.2.2.2.2.2.2.2.2.2.2.2.2.1))).trans (hHeld.2.2.2.2.2.2.2.2.2.2.2.2.2.2.1)
           have HS15_ := (hb.cell (World.block_lt_of_cell? _ _ (hHeld.2.2.2.2.2.2.2.2.2.2.2.2.2.2.2.1))).trans (hHeld.2.2.2.2.2.2.2.2.2.2.2.2.2.2.2.1)
           have HS16_ := (hb.cell (World.block_lt_of_cell? _ _ (hHeld.2.2.2.2.2.2.2.2.2.2.2.2.2.2.2.2))).trans (hHeld.2.2.2.2.2.2.2.2.2.2.2.2.2.2.2.2)
           replace HO_7 := aM (Kd.S_below (by (with_reducible repeat (first | apply Kd.S_alloc | apply Kd.S_drewN | apply Kd.S_drew)); exact HO_7.out) hb)
           replace HO_814002 := aM (rL (rq HO_814002.out) hb)
           replace HO_814003 := aM (rL (rq HO_814003.out) hb)
           replace HO_823002 := aM (rL (rq HO_823002.out) hb)
           replace HO_823003 := aM (rL (rq HO_823003.out) hb)
           replace HL825_0 := aM (rL (rq HL825_0.out) hb)
           replace HR825_0 := aM (cB (by repeat (first | (with_reducible exact HR825_0.out) | (with_reducible refine cA ?_ _) | (with_reducible refine cN ?_ _) | (with_reducible refine cD ?_) | exact HR825_0.out)) hb)
           have BK837 := aM (hbox)
           have GW837 := aM ((by rw [hg]; exact (bZ bq) : w.heap.size ≤ gb837))
           have GE837 := aM ((by rw [hg]; exact (bZ bq) : w.heap.size ≤ gb837))
           replace HB := aM (bT bq hb)
           have NB813_837 := aM ((by rw [hg]; exact Nat.ne_of_lt (blk_lt (kq BK813.out)) : gb813 ≠ gb837))
           have NB837_813 := aM ((by rw [hg]; exact Nat.ne_of_gt (blk_lt (kq BK813.out)) : gb837 ≠ gb813))
           replace BK813 := aM (kB (kq BK813.out) hb)
           have NB822_837 := aM ((by rw [hg]; exact Nat.ne_of_lt (blk_lt (kq BK822.out)) : gb822 ≠ gb837))
           have NB837_822 := aM ((by rw [hg]; exact Nat.ne_of_gt (blk_lt (kq BK822.out)) : gb837 ≠ gb822))
           replace BK822 := aM (kB (kq BK822.out) hb)
           clear hb hbox hg
           refine hK.out _ _ ⟨cc, cc, cc, cc, HS4_, HS5_, HS6_, HS7_, HS8_, HS9_, HS10_, HS11_, HS12_, HS13_, HS14_, HS15_, HS16_⟩ (fun hHeld => ?_)
           clear hK K
           refine nn ?_
           refine oo HT_ (N := some 60) 7 #[Y,Y,Y,Y,Y,Y,Y,Y,Y,N] (fun K hK => ?_)
           refine goes_ Try.func29 kr rfl #[.agg #[.int .i64 x814001_2, .slice Ao47 x814002_2.length co47, .slice Ao48 x814003_2.length co48], .slice A825_0 ((rd_T84 t802 x10_2).f0).length c825_0] (by rfl) rfl rfl mq ?_
           with_reducible refine (impl_FeedFrame.calls k2 x814001_2 _ _ x814002_2 _ _ x814003_2 _ _ ((rd_T84 t802 x10_2).f0) t826 t827 t828 t831 t834 _ ?side1 ?side2 ?side3 ?side4 ?side5 ?side6 A43.out).mono ?_
           (case side1 => exact cq (rR HO_814002.out).2.2)
           (case side2 => exact (rR HO_814002.out).2.1)
           (case side3 => exact cq (rR HO_814003.out).2.2)
           (case side4 => exact (rR HO_814003.out).2.1)
           (case side5 => repeat (first | exact (by repeat (first | (with_reducible exact HR825_0.out) | (with_reducible refine cA ?_ _) | (with_reducible refine cN ?_ _) | (with_reducible refine cD ?_) | exact HR825_0.out)) | (with_reducible refine cA ?_ _) | (with_reducible refine cN ?_ _) | (with_reducible refine cD ?_)))
           (case side6 => exact HC825_0.out)
           rintro e w51 ⟨v829, v832, v835, rfl, ho0, ho1, ho2, hb⟩
           have HS4_ := (hb.cell (World.block_lt_of_cell? _ _ (hHeld.2.2.2.2.1))).trans (hHeld.2.2.2.2.1)
           have HS5_ := (hb.cell (World.block_lt_of_cell? _ _ (hHeld.2.2.2.2.2.1))).trans (hHeld.2.2.2.2.2.1)
           have HS6_ := (hb.cell (World.block_lt_of_cell? _ _ (hHeld.2.2.2.2.2.2.1))).trans (hHeld.2.2.2.2.2.2.1)
           have HS7_ := (hb.cell (World.block_lt_of_cell? _ _ (hHeld.2.2.2.2.2.2.2.1))).trans (hHeld.2.2.2.2.2.2.2.1)
           have HS8_ := (hb.cell (World.block_lt_of_cell? _ _ (hHeld.2.2.2.2.2.2.2.2.1))).trans (hHeld.2.2.2.2.2.2.2.2.1)
           have HS9_ := (hb.cell (World.block_lt_of_cell? _ _ (hHeld.2.2.2.2.2.2.2.2.2.1))).trans (hHeld.2.2.2.2.2.2.2.2.2.1)
           have HS10_ := (hb.cell (World.block_lt_of_cell? _ _ (hHeld.2.2.2.2.2.2.2.2.2.2.1))).trans (hHeld.2.2.2.2.2.2.2.2.2.2.1)
           have HS11_ := (hb.cell (World.block_lt_of_cell? _ _ (hHeld.2.2.2.2.2.2.2.2.2.2.2.1))).trans (hHeld.2.2.2.2.2.2.2.2.2.2.2.1)
           have HS12_ := (hb.cell (World.block_lt_of_cell? _ _ (hHeld.2.2.2.2.2.2.2.2.2.2.2.2.1))).trans (hHeld.2.2.2.2.2.2.2.2.2.2.2.2.1)
           have HS13_ := (hb.cell (World.block_lt_of_cell? _ _ (hHeld.2.2.2.2.2.2.2.2.2.2.2.2.2.1))).trans (hHeld.2.2.2.2.2.2.2.2.2.2.2.2.2.1)
           have HS14_ := (hb.cell (World.block_lt_of_cell? _ _ (hHeld.2.2.2.2.2.2.2.2.2.2.2.2.2.2.1))).trans (hHeld.2.2.2.2.2.2.2.2.2.2.2.2.2.2.1)
           have HS15_ := (hb.cell (World.block_lt_of_cell? _ _ (hHeld.2.2.2.2.2.2.2.2.2.2.2.2.2.2.2.1))).trans (hHeld.2.2.2.2.2.2.2.2.2.2.2.2.2.2.2.1)
           have HS16_ := (hb.cell (World.block_lt_of_cell? _ _ (hHeld.2.2.2.2.2.2.2.2.2.2.2.2.2.2.2.2))).trans (hHeld.2.2.2.2.2.2.2.2.2.2.2.2.2.2.2.2)
           refine ⟨_, rfl, ?_⟩
           replace HO_7 := aM (Kd.S_mono (Kd.S_told (Kd.S_told (Kd.S_told (Kd.S_old (by (with_reducible repeat (first | apply Kd.S_alloc | apply Kd.S_drewN | apply Kd.S_drew)); exact HO_7.out) hb) (rB ho0)) (rB ho1)) (rB ho2)) (fun _ h_ => h_.1))
           have HO830 := aM (rG (rW (rW (rW (rW (rW ho0 (rT (rq HO_814002.out))) (rT (rq HO_814003.out))) (rT (rq HO_823002.out))) (rT (rq HO_823003.out))) (rT (rq HL825_0.out))) (bZ bq))
           have HO833 := aM (rG (rW (rW (rW (rW (rW ho1 (rT (rq HO_814002.out))) (rT (rq HO_814003.out))) (rT (rq HO_823002.out))) (rT (rq HO_823003.out))) (rT (rq HL825_0.out))) (bZ bq))
           have HO836 := aM (rG (rW (rW (rW (rW (rW ho2 (rT (rq HO_814002.out))) (rT (rq HO_814003.out))) (rT (rq HO_823002.out))) (rT (rq HO_823003.out))) (rT (rq HL825_0.out))) (bZ bq))
           replace HO_814002 := aM (rM (rO (rO (rO (rE (rq HO_814002.out) hb) (rB ho0)) (rB ho1)) (rB ho2)) (fun _ h_ => h_.1))
           replace HO_814003 := aM (rM (rO (rO (rO (rE (rq HO_814003.out) hb) (rB ho0)) (rB ho1)) (rB ho2)) (fun _ h_ => h_.1))
           replace HO_823002 := aM (rM (rO (rO (rO (rE (rq HO_823002.out) hb) (rB ho0)) (rB ho1)) (rB ho2)) (fun _ h_ => h_.1))
           replace HO_823003 := aM (rM (rO (rO (rO (rE (rq HO_823003.out) hb) (rB ho0)) (rB ho1)) (rB ho2)) (fun _ h_ => h_.1))
           replace HL825_0 := aM (rM (rO (rO (rO (rE (rq HL825_0.out) hb) (rB ho0)) (rB ho1)) (rB ho2)) (fun _ h_ => h_.1))
           replace BK813 := aM (kB (kq BK813.out) hb)
           replace BK822 := aM (kB (kq BK822.out) hb)
           replace HR825_0 := aM (cB (by repeat (first | (with_reducible exact HR825_0.out) | (with_reducible refine cA ?_ _) | (with_reducible refine cN ?_ _) | (with_reducible refine cD ?_) | exact HR825_0.out)) hb)
           replace BK837 := aM (kB (kq BK837.out) hb)
           replace HB := aM (bT bq hb)
           (try clear hb)
           (try clear hb2)
           (try clear hk)
           (try clear hi)
           (try clear ho0)
           (try clear ho1)
           (try clear ho2)
           refine hK.out _ _ ⟨cc, cc, cc, cc, HS4_, HS5_, HS6_, HS7_, HS8_, HS9_, HS10_, HS11_, HS12_, HS13_, HS14_, HS15_, HS16_⟩ (fun hHeld => ?_)
           clear hK K
           refine nn ?_
           exact norm_ (by simp only [putAll, Act.put, pa, pb, pc]) (hCont (v829, v832, v835, gb837) _ ⟨hHeld, (rq (rM HL825_0.out jq)), (rq (rM HO830.out jq)), (rq (rM HO833.out jq)), (rq (rM HO836.out jq)), (by (with_reducible repeat (first | apply Kd.S_alloc | apply Kd.S_drewN | apply Kd.S_drew)); exact Kd.S_mono HO_7.out jq), (rq (rM HO_814002.out jq)), (rq (rM HO_814003.out jq)), (rq (rM HO_823002.out jq)), (rq (rM HO_823003.out jq)), (kq BK813.out), (kq BK822.out), (kq BK837.out), GW837.out, GE837.out, NB813_837.out, NB837_813.out, NB822_837.out, NB837_822.out, bq⟩)
         rintro ⟨v829, v832, v835, gb837⟩ w52 ⟨hS_, h0_, h1_, h2_, h3_, h4_, h5_, h6_, h7_, h8_, h9_, h10_, h11_, h12_, h13_, h14_, h15_, h16_, h17_, h18_⟩
         have n0_ : Aside0 (Kd.R (Kd.int .i64) 2 w52 w.heap.size (fun k_ => nb v829 k_ ∧ nb v832 k_ ∧ nb v835 k_ ∧ some k_ ≠ (.slice (some ad825) t802.length co46 : Value).ownBlock ∧ nS Ao47 x814002_2 co47 k_ ∧ nS Ao48 x814003_2 co48 k_ ∧ nb u823002 k_ ∧ nb u823003 k_) (.slice A825_0 ((rd_T84 t802 x10_2).f0).length c825_0) ((rd_T84 t802 x10_2).f0)) := ⟨h0_⟩
         have n1_ : Aside0 (Kd.R (Kd.int .i64) 2 w52 w.heap.size (fun k_ => some k_ ≠ (.slice A825_0 ((rd_T84 t802 x10_2).f0).length c825_0 : Value).ownBlock ∧ nb v832 k_ ∧ nb v835 k_ ∧ nS Ao47 x814002_2 co47 k_ ∧ nS Ao48 x814003_2 co48 k_ ∧ nb u823002 k_ ∧ nb u823003 k_) v829 t828) := ⟨h1_⟩
         have n2_ : Aside0 (Kd.R (Kd.int .i64) 2 w52 w.heap.size (fun k_ => some k_ ≠ (.slice A825_0 ((rd_T84 t802 x10_2).f0).length c825_0 : Value).ownBlock ∧ nb v829 k_ ∧ nb v835 k_ ∧ nS Ao47 x814002_2 co47 k_ ∧ nS Ao48 x814003_2 co48 k_ ∧ nb u823002 k_ ∧ nb u823003 k_) v832 t831) := ⟨h2_⟩
         have n3_ : Aside0 (Kd.R (Kd.int .i64) 2 w52 w.heap.size (fun k_ => some k_ ≠ (.slice A825_0 ((rd_T84 t802 x10_2).f0).length c825_0 : Value).ownBlock ∧ nb v829 k_ ∧ nb v832 k_ ∧ nS Ao47 x814002_2 co47 k_ ∧ nS Ao48 x814003_2 co48 k_ ∧ nb u823002 k_ ∧ nb u823003 k_) v835 t834) := ⟨h3_⟩
         have n4_ : Aside0 (Kd.S k84 84 w52 w.heap.size (fun k_ => nb v829 k_ ∧ nb v832 k_ ∧ nb v835 k_ ∧ nS Ao47 x814002_2 co47 k_ ∧ nS Ao48 x814003_2 co48 k_ ∧ nb u823002 k_ ∧ nb u823003 k_) (.slice (some ad825) t802.length co46) t802) := ⟨h4_⟩
         have n5_ : Aside0 (Kd.R (Kd.int .i64) 2 w52 w.heap.size (fun k_ => nb v829 k_ ∧ nb v832 k_ ∧ nb v835 k_ ∧ nS Ao48 x814003_2 co48 k_ ∧ nb u823002 k_ ∧ nb u823003 k_) (.slice Ao47 x814002_2.length co47) x814002_2) := ⟨h5_⟩
         have n6_ : Aside0 (Kd.R (Kd.int .i64) 2 w52 w.heap.size (fun k_ => nb v829 k_ ∧ nb v832 k_ ∧ nb v835 k_ ∧ nS Ao47 x814002_2 co47 k_ ∧ nb u823002 k_ ∧ nb u823003 k_) (.slice Ao48 x814003_2.length co48) x814003_2) := ⟨h6_⟩
         have n7_ : Aside0 (Kd.R (Kd.int .i64) 2 w52 w.heap.size (fun k_ => nb v829 k_ ∧ nb v832 k_ ∧ nb v835 k_ ∧ nS Ao47 x814002_2 co47 k_ ∧ nS Ao48 x814003_2 co48 k_ ∧ nb u823003 k_) u823002 x823002_2) := ⟨h7_⟩
         have n8_ : Aside0 (Kd.R (Kd.int .i64) 2 w52 w.heap.size (fun k_ => nb v829 k_ ∧ nb v832 k_ ∧ nb v835 k_ ∧ nS Ao47 x814002_2 co47 k_ ∧ nS Ao48 x814003_2 co48 k_ ∧ nb u823002 k_) u823003 x823003_2) := ⟨h8_⟩
         have n9_ : Aside0 (w52.heap[gb813]? = some (.cells #[.int .i64 t805, .int .i64 x814001_2, .slice Ao47 x814002_2.length co47, .slice Ao48 x814003_2.length co48] 79 (0, 0))) := ⟨h9_⟩
         have n10_ : Aside0 (w52.heap[gb822]? = some (.cells #[.int .i64 t814, .int .i64 x823001_2, u823002, u823003] 64 (0, 0))) := ⟨h10_⟩
         have n11_ : Aside0 (w52.heap[gb837]? = some (.cells #[.int .i64 0, .int .i64 0, .slice none 0 0, .slice none 0 0, .slice none 0 0] 50 (0, 0))) := ⟨h11_⟩
         have n12_ : Aside0 (w.heap.size ≤ gb837) := ⟨h12_⟩
         have n13_ : Aside0 (w.heap.size ≤ gb837) := ⟨h13_⟩
         have n14_ : Aside0 (gb813 ≠ gb837) := ⟨h14_⟩
         have n15_ : Aside0 (gb837 ≠ gb813) := ⟨h15_⟩
         have n16_ : Aside0 (gb822 ≠ gb837) := ⟨h16_⟩
         have n17_ : Aside0 (gb837 ≠ gb822) := ⟨h17_⟩
         have n18_ : Aside0 (Below w.heap.size w w52) := ⟨h18_⟩
         clear HO_7 HO_814002 HO_814003 HO_823002 HO_823003 BK813 BK822 HB h0_ h1_ h2_ h3_ h4_ h5_ h6_ h7_ h8_ h9_ h10_ h11_ h12_ h13_ h14_ h15_ h16_ h17_ h18_
         have HL825_0 := n0_
         have HO830 := n1_
         have HO833 := n2_
         have HO836 := n3_
         have HO_7 := n4_
         have HO_814002 := n5_
         have HO_814003 := n6_
         have HO_823002 := n7_
         have HO_823003 := n8_
         have BK813 := n9_
         have BK822 := n10_
         have BK837 := n11_
         have GW837 := n12_
         have GE837 := n13_
         have NB813_837 := n14_
         have NB837_813 := n15_
         have NB822_837 := n16_
         have NB837_822 := n17_
         have HB := n18_
         clear n0_ n1_ n2_ n3_ n4_ n5_ n6_ n7_ n8_ n9_ n10_ n11_ n12_ n13_ n14_ n15_ n16_ n17_ n18_
         have hHeld : w52.cell? ⟨gb813, 0, none⟩ = some (.int .i64 t805) ∧ w52.cell? ⟨gb813, 1, none⟩ = some (.int .i64 x814001_2) ∧ w52.cell? ⟨gb813, 2, none⟩ = some (.slice Ao47 x814002_2.length co47) ∧ w52.cell? ⟨gb813, 3, none⟩ = some (.slice Ao48 x814003_2.length co48) ∧ w52.cell? (ad825.add ((x10_2).toNat * 13)) = some (.slice A825_0 ((rd_T84 t802 x10_2).f0).length c825_0) ∧ w52.cell? ⟨(ad825.add ((x10_2).toNat * 13)).block, (ad825.add ((x10_2).toNat * 13)).off + 1, none⟩ = some (.int .i64 ((rd_T84 t802 x10_2).f1.f0)) ∧ w52.cell? ⟨(ad825.add ((x10_2).toNat * 13)).block, (ad825.add ((x10_2).toNat * 13)).off + 2, none⟩ = some (.int .i64 ((rd_T84 t802 x10_2).f1.f1)) ∧ w52.cell? ⟨(ad825.add ((x10_2).toNat * 13)).block, (ad825.add ((x10_2).toNat * 13)).off + 3, none⟩ = some (.int .i64 ((rd_T84 t802 x10_2).f1.f2)) ∧ w52.cell? ⟨(ad825.add ((x10_2).toNat * 13)).block, (ad825.add ((x10_2).toNat * 13)).off + 4, none⟩ = some (.int .i64 ((rd_T84 t802 x10_2).f1.f3)) ∧ w52.cell? ⟨(ad825.add ((x10_2).toNat * 13)).block, (ad825.add ((x10_2).toNat * 13)).off + 5, none⟩ = some (.int .i64 ((rd_T84 t802 x10_2).f2.f0)) ∧ w52.cell? ⟨(ad825.add ((x10_2).toNat * 13)).block, (ad825.add ((x10_2).toNat * 13)).off + 6, none⟩ = some (.int .i64 ((rd_T84 t802 x10_2).f2.f1)) ∧ w52.cell? ⟨(ad825.add ((x10_2).toNat * 13)).block, (ad825.add ((x10_2).toNat * 13)).off + 7, none⟩ = some (.int .i64 ((rd_T84 t802 x10_2).f2.f2)) ∧ w52.cell? ⟨(ad825.add ((x10_2).toNat * 13)).block, (ad825.add ((x10_2).toNat * 13)).off + 8, none⟩ = some (.int .i64 ((rd_T84 t802 x10_2).f2.f3)) ∧ w52.cell? ⟨(ad825.add ((x10_2).toNat * 13)).block, (ad825.add ((x10_2).toNat * 13)).off + 9, none⟩ = some (.int .i64 ((rd_T84 t802 x10_2).f3.f0)) ∧ w52.cell? ⟨(ad825.add ((x10_2).toNat * 13)).block, (ad825.add ((x10_2).toNat * 13)).off + 10, none⟩ = some (.int .i64 ((rd_T84 t802 x10_2).f3.f1)) ∧ w52.cell? ⟨(ad825.add ((x10_2).toNat * 13)).block, (ad825.add ((x10_2).toNat * 13)).off + 11, none⟩ = some (.int .i64 ((rd_T84 t802 x10_2).f3.f2)) ∧ w52.cell? ⟨(ad825.add ((x10_2).toNat * 13)).block, (ad825.add ((x10_2).toNat * 13)).off + 12, none⟩ = some (.int .i64 ((rd_T84 t802 x10_2).f3.f3)) := hS_
         obtain ⟨Ao55, co55, eo55⟩ := Kd.R_slice HO830.out
         (first | subst eo55 | (injection eo55 with f1_ f2_ f3_; have f4_ := f1_.symm; have f5_ := f3_.symm; clear f1_ f2_ f3_; subst f4_; subst f5_))
         obtain ⟨Ao57, co57, eo57⟩ := Kd.R_slice HO833.out
         (first | subst eo57 | (injection eo57 with f1_ f2_ f3_; have f4_ := f1_.symm; have f5_ := f3_.symm; clear f1_ f2_ f3_; subst f4_; subst f5_))
         obtain ⟨Ao59, co59, eo59⟩ := Kd.R_slice HO836.out
         (first | subst eo59 | (injection eo59 with f1_ f2_ f3_; have f4_ := f1_.symm; have f5_ := f3_.symm; clear f1_ f2_ f3_; subst f4_; subst f5_))
         refine norm_ (a' := ?_) ?_ ?_
         rotate_left
         ·simp only [putAll, Act.put, pa, pb, pc]
          rfl
         refine oo HT_ (N := none) 9 #[Y,Y,Y,Y,Y,Y,Y,Y,Y,Y] (fun K hK => ?_)
         have hs53 : w52.cell? ⟨gb837, 0, none⟩ = some (.int .i64 0) := cc
         have hfs53 := kF BK837.out 0
         have hns53_0 := NB813_837.out
         have hns53_1 := NB822_837.out
         have hms53_0 := NB837_813.out
         have hms53_1 := NB837_822.out
         have hs54 : w52.cell? ⟨gb837, 1, none⟩ = some (.int .i64 0) := cc
         have hfs54 := kF BK837.out 1
         have hns54_0 := NB813_837.out
         have hns54_1 := NB822_837.out
         have hms54_0 := NB837_813.out
         have hms54_1 := NB837_822.out
         have hs56 : w52.cell? ⟨gb837, 2, none⟩ = some (.slice none 0 0) := cc
         have hfs56 := kF BK837.out 2
         have hns56_0 := NB813_837.out
         have hns56_1 := NB822_837.out
         have hms56_0 := NB837_813.out
         have hms56_1 := NB837_822.out
         have hs58 : w52.cell? ⟨gb837, 3, none⟩ = some (.slice none 0 0) := cc
         have hfs58 := kF BK837.out 3
         have hns58_0 := NB813_837.out
         have hns58_1 := NB822_837.out
         have hms58_0 := NB837_813.out
         have hms58_1 := NB837_822.out
         have hs60 : w52.cell? ⟨gb837, 4, none⟩ = some (.slice none 0 0) := cc
         have hfs60 := kF BK837.out 4
         have hns60_0 := NB813_837.out
         have hns60_1 := NB822_837.out
         have hms60_0 := NB837_813.out
         have hms60_1 := NB837_822.out
         refine skip_ (w1 := ?_) (by rfl) rfl ?_ ?_
         rotate_left
         ·go_simp
          rfl
         have ob1_ := aM (Kd.own_blk (Kd.S_ne HO_7.out BK837.out (by decide)) :)
         refine hK.out _ _ ⟨((cell_far (p := ⟨gb837, _, none⟩) NB813_837.out _).trans (((cell_far (p := ⟨gb837, _, none⟩) NB813_837.out _).trans (((cell_far (p := ⟨gb837, _, none⟩) NB813_837.out _).trans (((cell_far (p := ⟨gb837, _, none⟩) NB813_837.out _).trans (((cell_far (p := ⟨gb837, _, none⟩) NB813_837.out _).trans (hHeld.1)))))))))), ((cell_far (p := ⟨gb837, _, none⟩) NB813_837.out _).trans (((cell_far (p := ⟨gb837, _, none⟩) NB813_837.out _).trans (((cell_far (p := ⟨gb837, _, none⟩) NB813_837.out _).trans (((cell_far (p := ⟨gb837, _, none⟩) NB813_837.out _).trans (((cell_far (p := ⟨gb837, _, none⟩) NB813_837.out _).trans (hHeld.2.1)))))))))), ((cell_far (p := ⟨gb837, _, none⟩) NB813_837.out _).trans (((cell_far (p := ⟨gb837, _, none⟩) NB813_837.out _).trans (((cell_far (p := ⟨gb837, _, none⟩) NB813_837.out _).trans (((cell_far (p := ⟨gb837, _, none⟩) NB813_837.out _).trans (((cell_far (p := ⟨gb837, _, none⟩) NB813_837.out _).trans (hHeld.2.2.1)))))))))), ((cell_far (p := ⟨gb837, _, none⟩) NB813_837.out _).trans (((cell_far (p := ⟨gb837, _, none⟩) NB813_837.out _).trans (((cell_far (p := ⟨gb837, _, none⟩) NB813_837.out _).trans (((cell_far (p := ⟨gb837, _, none⟩) NB813_837.out _).trans (((cell_far (p := ⟨gb837, _, none⟩) NB813_837.out _).trans (hHeld.2.2.2.1)))))))))), ((cell_far (p := ⟨gb837, _, none⟩) (by first | exact (Kd.own_blk (Kd.S_ne HO_7.out BK837.out (by decide)) :) | (rw [add_block]; exact (Kd.own_blk (Kd.S_ne HO_7.out BK837.out (by decide)) :)) | (show (Addr.add _ _).block ≠ _; rw [add_block]; exact (Kd.own_blk (Kd.S_ne HO_7.out BK837.out (by decide)) :)) | (dsimp only; exact (Kd.own_blk (Kd.S_ne HO_7.out BK837.out (by decide)) :))) _).trans (((cell_far (p := ⟨gb837, _, none⟩) (by first | exact (Kd.own_blk (Kd.S_ne HO_7.out BK837.out (by decide)) :) | (rw [add_block]; exact (Kd.own_blk (Kd.S_ne HO_7.out BK837.out (by decide)) :)) | (show (Addr.add _ _).block ≠ _; rw [add_block]; exact (Kd.own_blk (Kd.S_ne HO_7.out BK837.out (by decide)) :)) | (dsimp only; exact (Kd.own_blk (Kd.S_ne HO_7.out BK837.out (by decide)) :))) _).trans (((cell_far (p := ⟨gb837, _, none⟩) (by first | exact (Kd.own_blk (Kd.S_ne HO_7.out BK837.out (by decide)) :) | (rw [add_block]; exact (Kd.own_blk (Kd.S_ne HO_7.out BK837.out (by decide)) :)) | (show (Addr.add _ _).block ≠ _; rw [add_block]; exact (Kd.own_blk (Kd.S_ne HO_7.out BK837.out (by decide)) :)) | (dsimp only; exact (Kd.own_blk (Kd.S_ne HO_7.out BK837.out (by decide)) :))) _).trans (((cell_far (p := ⟨gb837, _, none⟩) (by first | exact (Kd.own_blk (Kd.S_ne HO_7.out BK837.out (by decide)) :) | (rw [add_block]; exact (Kd.own_blk (Kd.S_ne HO_7.out BK837.out (by decide)) :)) | (show (Addr.add _ _).block ≠ _; rw [add_block]; exact (Kd.own_blk (Kd.S_ne HO_7.out BK837.out (by decide)) :)) | (dsimp only; exact (Kd.own_blk (Kd.S_ne HO_7.out BK837.out (by decide)) :))) _).trans (((cell_far (p := ⟨gb837, _, none⟩) (by first | exact (Kd.own_blk (Kd.S_ne HO_7.out BK837.out (by decide)) :) | (rw [add_block]; exact (Kd.own_blk (Kd.S_ne HO_7.out BK837.out (by decide)) :)) | (show (Addr.add _ _).block ≠ _; rw [add_block]; exact (Kd.own_blk (Kd.S_ne HO_7.out BK837.out (by decide)) :)) | (dsimp only; exact (Kd.own_blk (Kd.S_ne HO_7.out BK837.out (by decide)) :))) _).trans (hHeld.2.2.2.2.1)))))))))), ((cell_far (p := ⟨gb837, _, none⟩) (by first | exact (Kd.own_blk (Kd.S_ne HO_7.out BK837.out (by decide)) :) | (rw [add_block]; exact (Kd.own_blk (Kd.S_ne HO_7.out BK837.out (by decide)) :)) | (show (Addr.add _ _).block ≠ _; rw [add_block]; exact (Kd.own_blk (Kd.S_ne HO_7.out BK837.out (by decide)) :)) | (dsimp only; exact (Kd.own_blk (Kd.S_ne HO_7.out BK837.out (by decide)) :))) _).trans (((cell_far (p := ⟨gb837, _, none⟩) (by first | exact (Kd.own_blk (Kd.S_ne HO_7.out BK837.out (by decide)) :) | (rw [add_block]; exact (Kd.own_blk (Kd.S_ne HO_7.out BK837.out (by decide)) :)) | (show (Addr.add _ _).block ≠ _; rw [add_block]; exact (Kd.own_blk (Kd.S_ne HO_7.out BK837.out (by decide)) :)) | (dsimp only; exact (Kd.own_blk (Kd.S_ne HO_7.out BK837.out (by decide)) :))) _).trans (((cell_far (p := ⟨gb837, _, none⟩) (by first | exact (Kd.own_blk (Kd.S_ne HO_7.out BK837.out (by decide)) :) | (rw [add_block]; exact (Kd.own_blk (Kd.S_ne HO_7.out BK837.out (by decide)) :)) | (show (Addr.add _ _).block ≠ _; rw [add_block]; exact (Kd.own_blk (Kd.S_ne HO_7.out BK837.out (by decide)) :)) | (dsimp only; exact (Kd.own_blk (Kd.S_ne HO_7.out BK837.out (by decide)) :))) _).trans (((cell_far (p := ⟨gb837, _, none⟩) (by first | exact (Kd.own_blk (Kd.S_ne HO_7.out BK837.out (by decide)) :) | (rw [add_block]; exact (Kd.own_blk (Kd.S_ne HO_7.out BK837.out (by decide)) :)) | (show (Addr.add _ _).block ≠ _; rw [add_block]; exact (Kd.own_blk (Kd.S_ne HO_7.out BK837.out (by decide)) :)) | (dsimp only; exact (Kd.own_blk (Kd.S_ne HO_7.out BK837.out (by decide)) :))) _).trans (((cell_far (p := ⟨gb837, _, none⟩) (by first | exact (Kd.own_blk (Kd.S_ne HO_7.out BK837.out (by decide)) :) | (rw [add_block]; exact (Kd.own_blk (Kd.S_ne HO_7.out BK837.out (by decide)) :)) | (show (Addr.add _ _).block ≠ _; rw [add_block]; exact (Kd.own_blk (Kd.S_ne HO_7.out BK837.out (by decide)) :)) | (dsimp only; exact (Kd.own_blk (Kd.S_ne HO_7.out BK837.out (by decide)) :))) _).trans (hHeld.2.2.2.2.2.1)))))))))), ((cell_far (p := ⟨gb837, _, none⟩) (by first | exact (Kd.own_blk (Kd.S_ne HO_7.out BK837.out (by decide)) :) | (rw [add_block]; exact (Kd.own_blk (Kd.S_ne HO_7.out BK837.out (by decide)) :)) | (show (Addr.add _ _).block ≠ _; rw [add_block]; exact (Kd.own_blk (Kd.S_ne HO_7.out BK837.out (by decide)) :)) | (dsimp only; exact (Kd.own_blk (Kd.S_ne HO_7.out BK837.out (by decide)) :))) _).trans (((cell_far (p := ⟨gb837, _, none⟩) (by first | exact (Kd.own_blk (Kd.S_ne HO_7.out BK837.out (by decide)) :) | (rw [add_block]; exact (Kd.own_blk (Kd.S_ne HO_7.out BK837.out (by decide)) :)) | (show (Addr.add _ _).block ≠ _; rw [add_block]; exact (Kd.own_blk (Kd.S_ne HO_7.out BK837.out (by decide)) :)) | (dsimp only; exact (Kd.own_blk (Kd.S_ne HO_7.out BK837.out (by decide)) :))) _).trans (((cell_far (p := ⟨gb837, _, none⟩) (by first | exact (Kd.own_blk (Kd.S_ne HO_7.out BK837.out (by decide)) :) | (rw [add_block]; exact (Kd.own_blk (Kd.S_ne HO_7.out BK837.out (by decide)) :)) | (show (Addr.add _ _).block ≠ _; rw [add_block]; exact (Kd.own_blk (Kd.S_ne HO_7.out BK837.out (by decide)) :)) | (dsimp only; exact (Kd.own_blk (Kd.S_ne HO_7.out BK837.out (by decide)) :))) _).trans (((cell_far (p := ⟨gb837, _, none⟩) (by first | exact (Kd.own_blk (Kd.S_ne HO_7.out BK837.out (by decide)) :) | (rw [add_block]; exact (Kd.own_blk (Kd.S_ne HO_7.out BK837.out (by decide)) :)) | (show (Addr.add _ _).block ≠ _; rw [add_block]; exact (Kd.own_blk (Kd.S_ne HO_7.out BK837.out (by decide)) :)) | (dsimp only; exact (Kd.own_blk (Kd.S_ne HO_7.out BK837.out (by decide)) :))) _).trans (((cell_far (p := ⟨gb837, _, none⟩) (by first | exact (Kd.own_blk (Kd.S_ne HO_7.out BK837.out (by decide)) :) | (rw [add_block]; exact (Kd.own_blk (Kd.S_ne HO_7.out BK837.out (by decide)) :)) | (show (Addr.add _ _).block ≠ _; rw [add_block]; exact (Kd.own_blk (Kd.S_ne HO_7.out BK837.out (by decide)) :)) | (dsimp only; exact (Kd.own_blk (Kd.S_ne HO_7.out BK837.out (by decide)) :))) _).trans (hHeld.2.2.2.2.2.2.1)))))))))), ((cell_far (p := ⟨gb837, _, none⟩) (by first | exact (Kd.own_blk (Kd.S_ne HO_7.out BK837.out (by decide)) :) | (rw [add_block]; exact (Kd.own_blk (Kd.S_ne HO_7.out BK837.out (by decide)) :)) | (show (Addr.add _ _).block ≠ _; rw [add_block]; exact (Kd.own_blk (Kd.S_ne HO_7.out BK837.out (by decide)) :)) | (dsimp only; exact (Kd.own_blk (Kd.S_ne HO_7.out BK837.out (by decide)) :))) _).trans (((cell_far (p := ⟨gb837, _, none⟩) (by first | exact (Kd.own_blk (Kd.S_ne HO_7.out BK837.out (by decide)) :) | (rw [add_block]; exact (Kd.own_blk (Kd.S_ne HO_7.out BK837.out (by decide)) :)) | (show (Addr.add _ _).block ≠ _; rw [add_block]; exact (Kd.own_blk (Kd.S_ne HO_7.out BK837.out (by decide)) :)) | (dsimp only; exact (Kd.own_blk (Kd.S_ne HO_7.out BK837.out (by decide)) :))) _).trans (((cell_far (p := ⟨gb837, _, none⟩) (by first | exact (Kd.own_blk (Kd.S_ne HO_7.out BK837.out (by decide)) :) | (rw [add_block]; exact (Kd.own_blk (Kd.S_ne HO_7.out BK837.out (by decide)) :)) | (show (Addr.add _ _).block ≠ _; rw [add_block]; exact (Kd.own_blk (Kd.S_ne HO_7.out BK837.out (by decide)) :)) | (dsimp only; exact (Kd.own_blk (Kd.S_ne HO_7.out BK837.out (by decide)) :))) _).trans (((cell_far (p := ⟨gb837, _, none⟩) (by first | exact (Kd.own_blk (Kd.S_ne HO_7.out BK837.out (by decide)) :) | (rw [add_block]; exact (Kd.own_blk (Kd.S_ne HO_7.out BK837.out (by decide)) :)) | (show (Addr.add _ _).block ≠ _; rw [add_block]; exact (Kd.own_blk (Kd.S_ne HO_7.out BK837.out (by decide)) :)) | (dsimp only; exact (Kd.own_blk (Kd.S_ne HO_7.out BK837.out (by decide)) :))) _).trans (((cell_far (p := ⟨gb837, _, none⟩) (by first | exact (Kd.own_blk (Kd.S_ne HO_7.out BK837.out (by decide)) :) | (rw [add_block]; exact (Kd.own_blk (Kd.S_ne HO_7.out BK837.out (by decide)) :)) | (show (Addr.add _ _).block ≠ _; rw [add_block]; exact (Kd.own_blk (Kd.S_ne HO_7.out BK837.out (by decide)) :)) | (dsimp only; exact (Kd.own_blk (Kd.S_ne HO_7.out BK837.out (by decide)) :))) _).trans (hHeld.2.2.2.2.2.2.2.1)))))))))), ((cell_far (p := ⟨gb837, _, none⟩) (by first | exact (Kd.own_blk (Kd.S_ne HO_7.out BK837.out (by decide)) :) | (rw [add_block]; exact (Kd.own_blk (Kd.S_ne HO_7.out BK837.out (by decide)) :)) | (show (Addr.add _ _).block ≠ _; rw [add_block]; exact (Kd.own_blk (Kd.S_ne HO_7.out BK837.out (by decide)) :)) | (dsimp only; exact (Kd.own_blk (Kd.S_ne HO_7.out BK837.out (by decide)) :))) _).trans (((cell_far (p := ⟨gb837, _, none⟩) (by first | exact (Kd.own_blk (Kd.S_ne HO_7.out BK837.out (by decide)) :) | (rw [add_block]; exact (Kd.own_blk (Kd.S_ne HO_7.out BK837.out (by decide)) :)) | (show (Addr.add _ _).block ≠ _; rw [add_block]; exact (Kd.own_blk (Kd.S_ne HO_7.out BK837.out (by decide)) :)) | (dsimp only; exact (Kd.own_blk (Kd.S_ne HO_7.out BK837.out (by decide)) :))) _).trans (((cell_far (p := ⟨gb837, _, none⟩) (by first | exact (Kd.own_blk (Kd.S_ne HO_7.out BK837.out (by decide)) :) | (rw [add_block]; exact (Kd.own_blk (Kd.S_ne HO_7.out BK837.out (by decide)) :)) | (show (Addr.add _ _).block ≠ _; rw [add_block]; exact (Kd.own_blk (Kd.S_ne HO_7.out BK837.out (by decide)) :)) | (dsimp only; exact (Kd.own_blk (Kd.S_ne HO_7.out BK837.out (by decide)) :))) _).trans (((cell_far (p := ⟨gb837, _, none⟩) (by first | exact (Kd.own_blk (Kd.S_ne HO_7.out BK837.out (by decide)) :) | (rw [add_block]; exact (Kd.own_blk (Kd.S_ne HO_7.out BK837.out (by decide)) :)) | (show (Addr.add _ _).block ≠ _; rw [add_block]; exact (Kd.own_blk (Kd.S_ne HO_7.out BK837.out (by decide)) :)) | (dsimp only; exact (Kd.own_blk (Kd.S_ne HO_7.out BK837.out (by decide)) :))) _).trans (((cell_far (p := ⟨gb837, _, none⟩) (by first | exact (Kd.own_blk (Kd.S_ne HO_7.out BK837.out (by decide)) :) | (rw [add_block]; exact (Kd.own_blk (Kd.S_ne HO_7.out BK837.out (by decide)) :)) | (show (Addr.add _ _).block ≠ _; rw [add_block]; exact (Kd.own_blk (Kd.S_ne HO_7.out BK837.out (by decide)) :)) | (dsimp only; exact (Kd.own_blk (Kd.S_ne HO_7.out BK837.out (by decide)) :))) _).trans (hHeld.2.2.2.2.2.2.2.2.1)))))))))), ((cell_far (p := ⟨gb837, _, none⟩) (by first | exact (Kd.own_blk (Kd.S_ne HO_7.out BK837.out (by decide)) :) | (rw [add_block]; exact (Kd.own_blk (Kd.S_ne HO_7.out BK837.out (by decide)) :)) | (show (Addr.add _ _).block ≠ _; rw [add_block]; exact (Kd.own_blk (Kd.S_ne HO_7.out BK837.out (by decide)) :)) | (dsimp only; exact (Kd.own_blk (Kd.S_ne HO_7.out BK837.out (by decide)) :))) _).trans (((cell_far (p := ⟨gb837, _, none⟩) (by first | exact (Kd.own_blk (Kd.S_ne HO_7.out BK837.out (by decide)) :) | (rw [add_block]; exact (Kd.own_blk (Kd.S_ne HO_7.out BK837.out (by decide)) :)) | (show (Addr.add _ _).block ≠ _; rw [add_block]; exact (Kd.own_blk (Kd.S_ne HO_7.out BK837.out (by decide)) :)) | (dsimp only; exact (Kd.own_blk (Kd.S_ne HO_7.out BK837.out (by decide)) :))) _).trans (((cell_far (p := ⟨gb837, _, none⟩) (by first | exact (Kd.own_blk (Kd.S_ne HO_7.out BK837.out (by decide)) :) | (rw [add_block]; exact (Kd.own_blk (Kd.S_ne HO_7.out BK837.out (by decide)) :)) | (show (Addr.add _ _).block ≠ _; rw [add_block]; exact (Kd.own_blk (Kd.S_ne HO_7.out BK837.out (by decide)) :)) | (dsimp only; exact (Kd.own_blk (Kd.S_ne HO_7.out BK837.out (by decide)) :))) _).trans (((cell_far (p := ⟨gb837, _, none⟩) (by first | exact (Kd.own_blk (Kd.S_ne HO_7.out BK837.out (by decide)) :) | (rw [add_block]; exact (Kd.own_blk (Kd.S_ne HO_7.out BK837.out (by decide)) :)) | (show (Addr.add _ _).block ≠ _; rw [add_block]; exact (Kd.own_blk (Kd.S_ne HO_7.out BK837.out (by decide)) :)) | (dsimp only; exact (Kd.own_blk (Kd.S_ne HO_7.out BK837.out (by decide)) :))) _).trans (((cell_far (p := ⟨gb837, _, none⟩) (by first | exact (Kd.own_blk (Kd.S_ne HO_7.out BK837.out (by decide)) :) | (rw [add_block]; exact (Kd.own_blk (Kd.S_ne HO_7.out BK837.out (by decide)) :)) | (show (Addr.add _ _).block ≠ _; rw [add_block]; exact (Kd.own_blk (Kd.S_ne HO_7.out BK837.out (by decide)) :)) | (dsimp only; exact (Kd.own_blk (Kd.S_ne HO_7.out BK837.out (by decide)) :))) _).trans (hHeld.2.2.2.2.2.2.2.2.2.1)))))))))), ((cell_far (p := ⟨gb837, _, none⟩) (by first | exact (Kd.own_blk (Kd.S_ne HO_7.out BK837.out (by decide)) :) | (rw [add_block]; exact (Kd.own_blk (Kd.S_ne HO_7.out BK837.out (by decide)) :)) | (show (Addr.add _ _).block ≠ _; rw [add_block]; exact (Kd.own_blk (Kd.S_ne HO_7.out BK837.out (by decide)) :)) | (dsimp only; exact (Kd.own_blk (Kd.S_ne HO_7.out BK837.out (by decide)) :))) _).trans (((cell_far (p := ⟨gb837, _, none⟩) (by first | exact (Kd.own_blk (Kd.S_ne HO_7.out BK837.out (by decide)) :) | (rw [add_block]; exact (Kd.own_blk (Kd.S_ne HO_7.out BK837.out (by decide)) :)) | (show (Addr.add _ _).block ≠ _; rw [add_block]; exact (Kd.own_blk (Kd.S_ne HO_7.out BK837.out (by decide)) :)) | (dsimp only; exact (Kd.own_blk (Kd.S_ne HO_7.out BK837.out (by decide)) :))) _).trans (((cell_far (p := ⟨gb837, _, none⟩) (by first | exact (Kd.own_blk (Kd.S_ne HO_7.out BK837.out (by decide)) :) | (rw [add_block]; exact (Kd.own_blk (Kd.S_ne HO_7.out BK837.out (by decide)) :)) | (show (Addr.add _ _).block ≠ _; rw [add_block]; exact (Kd.own_blk (Kd.S_ne HO_7.out BK837.out (by decide)) :)) | (dsimp only; exact (Kd.own_blk (Kd.S_ne HO_7.out BK837.out (by decide)) :))) _).trans (((cell_far (p := ⟨gb837, _, none⟩) (by first | exact (Kd.own_blk (Kd.S_ne HO_7.out BK837.out (by decide)) :) | (rw [add_block]; exact (Kd.own_blk (Kd.S_ne HO_7.out BK837.out (by decide)) :)) | (show (Addr.add _ _).block ≠ _; rw [add_block]; exact (Kd.own_blk (Kd.S_ne HO_7.out BK837.out (by decide)) :)) | (dsimp only; exact (Kd.own_blk (Kd.S_ne HO_7.out BK837.out (by decide)) :))) _).trans (((cell_far (p := ⟨gb837, _, none⟩) (by first | exact (Kd.own_blk (Kd.S_ne HO_7.out BK837.out (by decide)) :) | (rw [add_block]; exact (Kd.own_blk (Kd.S_ne HO_7.out BK837.out (by decide)) :)) | (show (Addr.add _ _).block ≠ _; rw [add_block]; exact (Kd.own_blk (Kd.S_ne HO_7.out BK837.out (by decide)) :)) | (dsimp only; exact (Kd.own_blk (Kd.S_ne HO_7.out BK837.out (by decide)) :))) _).trans (hHeld.2.2.2.2.2.2.2.2.2.2.1)))))))))), ((cell_far (p := ⟨gb837, _, none⟩) (by first | exact (Kd.own_blk (Kd.S_ne HO_7.out BK837.out (by decide)) :) | (rw [add_block]; exact (Kd.own_blk (Kd.S_ne HO_7.out BK837.out (by decide)) :)) | (show (Addr.add _ _).block ≠ _; rw [add_block]; exact (Kd.own_blk (Kd.S_ne HO_7.out BK837.out (by decide)) :)) | (dsimp only; exact (Kd.own_blk (Kd.S_ne HO_7.out BK837.out (by decide)) :))) _).trans (((cell_far (p := ⟨gb837, _, none⟩) (by first | exact (Kd.own_blk (Kd.S_ne HO_7.out BK837.out (by decide)) :) | (rw [add_block]; exact (Kd.own_blk (Kd.S_ne HO_7.out BK837.out (by decide)) :)) | (show (Addr.add _ _).block ≠ _; rw [add_block]; exact (Kd.own_blk (Kd.S_ne HO_7.out BK837.out (by decide)) :)) | (dsimp only; exact (Kd.own_blk (Kd.S_ne HO_7.out BK837.out (by decide)) :))) _).trans (((cell_far (p := ⟨gb837, _, none⟩) (by first | exact (Kd.own_blk (Kd.S_ne HO_7.out BK837.out (by decide)) :) | (rw [add_block]; exact (Kd.own_blk (Kd.S_ne HO_7.out BK837.out (by decide)) :)) | (show (Addr.add _ _).block ≠ _; rw [add_block]; exact (Kd.own_blk (Kd.S_ne HO_7.out BK837.out (by decide)) :)) | (dsimp only; exact (Kd.own_blk (Kd.S_ne HO_7.out BK837.out (by decide)) :))) _).trans (((cell_far (p := ⟨gb837, _, none⟩) (by first | exact (Kd.own_blk (Kd.S_ne HO_7.out BK837.out (by decide)) :) | (rw [add_block]; exact (Kd.own_blk (Kd.S_ne HO_7.out BK837.out (by decide)) :)) | (show (Addr.add _ _).block ≠ _; rw [add_block]; exact (Kd.own_blk (Kd.S_ne HO_7.out BK837.out (by decide)) :)) | (dsimp only; exact (Kd.own_blk (Kd.S_ne HO_7.out BK837.out (by decide)) :))) _).trans (((cell_far (p := ⟨gb837, _, none⟩) (by first | exact (Kd.own_blk (Kd.S_ne HO_7.out BK837.out (by decide)) :) | (rw [add_block]; exact (Kd.own_blk (Kd.S_ne HO_7.out BK837.out (by decide)) :)) | (show (Addr.add _ _).block ≠ _; rw [add_block]; exact (Kd.own_blk (Kd.S_ne HO_7.out BK837.out (by decide)) :)) | (dsimp only; exact (Kd.own_blk (Kd.S_ne HO_7.out BK837.out (by decide)) :))) _).trans (hHeld.2.2.2.2.2.2.2.2.2.2.2.1)))))))))), ((cell_far (p := ⟨gb837, _, none⟩) (by first | exact (Kd.own_blk (Kd.S_ne HO_7.out BK837.out (by decide)) :) | (rw [add_block]; exact (Kd.own_blk (Kd.S_ne HO_7.out BK837.out (by decide)) :)) | (show (Addr.add _ _).block ≠ _; rw [add_block]; exact (Kd.own_blk (Kd.S_ne HO_7.out BK837.out (by decide)) :)) | (dsimp only; exact (Kd.own_blk (Kd.S_ne HO_7.out BK837.out (by decide)) :))) _).trans (((cell_far (p := ⟨gb837, _, none⟩) (by first | exact (Kd.own_blk (Kd.S_ne HO_7.out BK837.out (by decide)) :) | (rw [add_block]; exact (Kd.own_blk (Kd.S_ne HO_7.out BK837.out (by decide)) :)) | (show (Addr.add _ _).block ≠ _; rw [add_block]; exact (Kd.own_blk (Kd.S_ne HO_7.out BK837.out (by decide)) :)) | (dsimp only; exact (Kd.own_blk (Kd.S_ne HO_7.out BK837.out (by decide)) :))) _).trans (((cell_far (p := ⟨gb837, _, none⟩) (by first | exact (Kd.own_blk (Kd.S_ne HO_7.out BK837.out (by decide)) :) | (rw [add_block]; exact (Kd.own_blk (Kd.S_ne HO_7.out BK837.out (by decide)) :)) | (show (Addr.add _ _).block ≠ _; rw [add_block]; exact (Kd.own_blk (Kd.S_ne HO_7.out BK837.out (by decide)) :)) | (dsimp only; exact (Kd.own_blk (Kd.S_ne HO_7.out BK837.out (by decide)) :))) _).trans (((cell_far (p := ⟨gb837, _, none⟩) (by first | exact (Kd.own_blk (Kd.S_ne HO_7.out BK837.out (by decide)) :) | (rw [add_block]; exact (Kd.own_blk (Kd.S_ne HO_7.out BK837.out (by decide)) :)) | (show (Addr.add _ _).block ≠ _; rw [add_block]; exact (Kd.own_blk (Kd.S_ne HO_7.out BK837.out (by decide)) :)) | (dsimp only; exact (Kd.own_blk (Kd.S_ne HO_7.out BK837.out (by decide)) :))) _).trans (((cell_far (p := ⟨gb837, _, none⟩) (by first | exact (Kd.own_blk (Kd.S_ne HO_7.out BK837.out (by decide)) :) | (rw [add_block]; exact (Kd.own_blk (Kd.S_ne HO_7.out BK837.out (by decide)) :)) | (show (Addr.add _ _).block ≠ _; rw [add_block]; exact (Kd.own_blk (Kd.S_ne HO_7.out BK837.out (by decide)) :)) | (dsimp only; exact (Kd.own_blk (Kd.S_ne HO_7.out BK837.out (by decide)) :))) _).trans (hHeld.2.2.2.2.2.2.2.2.2.2.2.2.1)))))))))), ((cell_far (p := ⟨gb837, _, none⟩) (by first | exact (Kd.own_blk (Kd.S_ne HO_7.out BK837.out (by decide)) :) | (rw [add_block]; exact (Kd.own_blk (Kd.S_ne HO_7.out BK837.out (by decide)) :)) | (show (Addr.add _ _).block ≠ _; rw [add_block]; exact (Kd.own_blk (Kd.S_ne HO_7.out BK837.out (by decide)) :)) | (dsimp only; exact (Kd.own_blk (Kd.S_ne HO_7.out BK837.out (by decide)) :))) _).trans (((cell_far (p := ⟨gb837, _, none⟩) (by first | exact (Kd.own_blk (Kd.S_ne HO_7.out BK837.out (by decide)) :) | (rw [add_block]; exact (Kd.own_blk (Kd.S_ne HO_7.out BK837.out (by decide)) :)) | (show (Addr.add _ _).block ≠ _; rw [add_block]; exact (Kd.own_blk (Kd.S_ne HO_7.out BK837.out (by decide)) :)) | (dsimp only; exact (Kd.own_blk (Kd.S_ne HO_7.out BK837.out (by decide)) :))) _).trans (((cell_far (p := ⟨gb837, _, none⟩) (by first | exact (Kd.own_blk (Kd.S_ne HO_7.out BK837.out (by decide)) :) | (rw [add_block]; exact (Kd.own_blk (Kd.S_ne HO_7.out BK837.out (by decide)) :)) | (show (Addr.add _ _).block ≠ _; rw [add_block]; exact (Kd.own_blk (Kd.S_ne HO_7.out BK837.out (by decide)) :)) | (dsimp only; exact (Kd.own_blk (Kd.S_ne HO_7.out BK837.out (by decide)) :))) _).trans (((cell_far (p := ⟨gb837, _, none⟩) (by first | exact (Kd.own_blk (Kd.S_ne HO_7.out BK837.out (by decide)) :) | (rw [add_block]; exact (Kd.own_blk (Kd.S_ne HO_7.out BK837.out (by decide)) :)) | (show (Addr.add _ _).block ≠ _; rw [add_block]; exact (Kd.own_blk (Kd.S_ne HO_7.out BK837.out (by decide)) :)) | (dsimp only; exact (Kd.own_blk (Kd.S_ne HO_7.out BK837.out (by decide)) :))) _).trans (((cell_far (p := ⟨gb837, _, none⟩) (by first | exact (Kd.own_blk (Kd.S_ne HO_7.out BK837.out (by decide)) :) | (rw [add_block]; exact (Kd.own_blk (Kd.S_ne HO_7.out BK837.out (by decide)) :)) | (show (Addr.add _ _).block ≠ _; rw [add_block]; exact (Kd.own_blk (Kd.S_ne HO_7.out BK837.out (by decide)) :)) | (dsimp only; exact (Kd.own_blk (Kd.S_ne HO_7.out BK837.out (by decide)) :))) _).trans (hHeld.2.2.2.2.2.2.2.2.2.2.2.2.2.1)))))))))), ((cell_far (p := ⟨gb837, _, none⟩) (by first | exact (Kd.own_blk (Kd.S_ne HO_7.out BK837.out (by decide)) :) | (rw [add_block]; exact (Kd.own_blk (Kd.S_ne HO_7.out BK837.out (by decide)) :)) | (show (Addr.add _ _).block ≠ _; rw [add_block]; exact (Kd.own_blk (Kd.S_ne HO_7.out BK837.out (by decide)) :)) | (dsimp only; exact (Kd.own_blk (Kd.S_ne HO_7.out BK837.out (by decide)) :))) _).trans (((cell_far (p := ⟨gb837, _, none⟩) (by first | exact (Kd.own_blk (Kd.S_ne HO_7.out BK837.out (by decide)) :) | (rw [add_block]; exact (Kd.own_blk (Kd.S_ne HO_7.out BK837.out (by decide)) :)) | (show (Addr.add _ _).block ≠ _; rw [add_block]; exact (Kd.own_blk (Kd.S_ne HO_7.out BK837.out (by decide)) :)) | (dsimp only; exact (Kd.own_blk (Kd.S_ne HO_7.out BK837.out (by decide)) :))) _).trans (((cell_far (p := ⟨gb837, _, none⟩) (by first | exact (Kd.own_blk (Kd.S_ne HO_7.out BK837.out (by decide)) :) | (rw [add_block]; exact (Kd.own_blk (Kd.S_ne HO_7.out BK837.out (by decide)) :)) | (show (Addr.add _ _).block ≠ _; rw [add_block]; exact (Kd.own_blk (Kd.S_ne HO_7.out BK837.out (by decide)) :)) | (dsimp only; exact (Kd.own_blk (Kd.S_ne HO_7.out BK837.out (by decide)) :))) _).trans (((cell_far (p := ⟨gb837, _, none⟩) (by first | exact (Kd.own_blk (Kd.S_ne HO_7.out BK837.out (by decide)) :) | (rw [add_block]; exact (Kd.own_blk (Kd.S_ne HO_7.out BK837.out (by decide)) :)) | (show (Addr.add _ _).block ≠ _; rw [add_block]; exact (Kd.own_blk (Kd.S_ne HO_7.out BK837.out (by decide)) :)) | (dsimp only; exact (Kd.own_blk (Kd.S_ne HO_7.out BK837.out (by decide)) :))) _).trans (((cell_far (p := ⟨gb837, _, none⟩) (by first | exact (Kd.own_blk (Kd.S_ne HO_7.out BK837.out (by decide)) :) | (rw [add_block]; exact (Kd.own_blk (Kd.S_ne HO_7.out BK837.out (by decide)) :)) | (show (Addr.add _ _).block ≠ _; rw [add_block]; exact (Kd.own_blk (Kd.S_ne HO_7.out BK837.out (by decide)) :)) | (dsimp only; exact (Kd.own_blk (Kd.S_ne HO_7.out BK837.out (by decide)) :))) _).trans (hHeld.2.2.2.2.2.2.2.2.2.2.2.2.2.2.1)))))))))), ((cell_far (p := ⟨gb837, _, none⟩) (by first | exact (Kd.own_blk (Kd.S_ne HO_7.out BK837.out (by decide)) :) | (rw [add_block]; exact (Kd.own_blk (Kd.S_ne HO_7.out BK837.out (by decide)) :)) | (show (Addr.add _ _).block ≠ _; rw [add_block]; exact (Kd.own_blk (Kd.S_ne HO_7.out BK837.out (by decide)) :)) | (dsimp only; exact (Kd.own_blk (Kd.S_ne HO_7.out BK837.out (by decide)) :))) _).trans (((cell_far (p := ⟨gb837, _, none⟩) (by first | exact (Kd.own_blk (Kd.S_ne HO_7.out BK837.out (by decide)) :) | (rw [add_block]; exact (Kd.own_blk (Kd.S_ne HO_7.out BK837.out (by decide)) :)) | (show (Addr.add _ _).block ≠ _; rw [add_block]; exact (Kd.own_blk (Kd.S_ne HO_7.out BK837.out (by decide)) :)) | (dsimp only; exact (Kd.own_blk (Kd.S_ne HO_7.out BK837.out (by decide)) :))) _).trans (((cell_far (p := ⟨gb837, _, none⟩) (by first | exact (Kd.own_blk (Kd.S_ne HO_7.out BK837.out (by decide)) :) | (rw [add_block]; exact (Kd.own_blk (Kd.S_ne HO_7.out BK837.out (by decide)) :)) | (show (Addr.add _ _).block ≠ _; rw [add_block]; exact (Kd.own_blk (Kd.S_ne HO_7.out BK837.out (by decide)) :)) | (dsimp only; exact (Kd.own_blk (Kd.S_ne HO_7.out BK837.out (by decide)) :))) _).trans (((cell_far (p := ⟨gb837, _, none⟩) (by first | exact (Kd.own_blk (Kd.S_ne HO_7.out BK837.out (by decide)) :) | (rw [add_block]; exact (Kd.own_blk (Kd.S_ne HO_7.out BK837.out (by decide)) :)) | (show (Addr.add _ _).block ≠ _; rw [add_block]; exact (Kd.own_blk (Kd.S_ne HO_7.out BK837.out (by decide)) :)) | (dsimp only; exact (Kd.own_blk (Kd.S_ne HO_7.out BK837.out (by decide)) :))) _).trans (((cell_far (p := ⟨gb837, _, none⟩) (by first | exact (Kd.own_blk (Kd.S_ne HO_7.out BK837.out (by decide)) :) | (rw [add_block]; exact (Kd.own_blk (Kd.S_ne HO_7.out BK837.out (by decide)) :)) | (show (Addr.add _ _).block ≠ _; rw [add_block]; exact (Kd.own_blk (Kd.S_ne HO_7.out BK837.out (by decide)) :)) | (dsimp only; exact (Kd.own_blk (Kd.S_ne HO_7.out BK837.out (by decide)) :))) _).trans (hHeld.2.2.2.2.2.2.2.2.2.2.2.2.2.2.2.1)))))))))), ((cell_far (p := ⟨gb837, _, none⟩) (by first | exact (Kd.own_blk (Kd.S_ne HO_7.out BK837.out (by decide)) :) | (rw [add_block]; exact (Kd.own_blk (Kd.S_ne HO_7.out BK837.out (by decide)) :)) | (show (Addr.add _ _).block ≠ _; rw [add_block]; exact (Kd.own_blk (Kd.S_ne HO_7.out BK837.out (by decide)) :)) | (dsimp only; exact (Kd.own_blk (Kd.S_ne HO_7.out BK837.out (by decide)) :))) _).trans (((cell_far (p := ⟨gb837, _, none⟩) (by first | exact (Kd.own_blk (Kd.S_ne HO_7.out BK837.out (by decide)) :) | (rw [add_block]; exact (Kd.own_blk (Kd.S_ne HO_7.out BK837.out (by decide)) :)) | (show (Addr.add _ _).block ≠ _; rw [add_block]; exact (Kd.own_blk (Kd.S_ne HO_7.out BK837.out (by decide)) :)) | (dsimp only; exact (Kd.own_blk (Kd.S_ne HO_7.out BK837.out (by decide)) :))) _).trans (((cell_far (p := ⟨gb837, _, none⟩) (by first | exact (Kd.own_blk (Kd.S_ne HO_7.out BK837.out (by decide)) :) | (rw [add_block]; exact (Kd.own_blk (Kd.S_ne HO_7.out BK837.out (by decide)) :)) | (show (Addr.add _ _).block ≠ _; rw [add_block]; exact (Kd.own_blk (Kd.S_ne HO_7.out BK837.out (by decide)) :)) | (dsimp only; exact (Kd.own_blk (Kd.S_ne HO_7.out BK837.out (by decide)) :))) _).trans (((cell_far (p := ⟨gb837, _, none⟩) (by first | exact (Kd.own_blk (Kd.S_ne HO_7.out BK837.out (by decide)) :) | (rw [add_block]; exact (Kd.own_blk (Kd.S_ne HO_7.out BK837.out (by decide)) :)) | (show (Addr.add _ _).block ≠ _; rw [add_block]; exact (Kd.own_blk (Kd.S_ne HO_7.out BK837.out (by decide)) :)) | (dsimp only; exact (Kd.own_blk (Kd.S_ne HO_7.out BK837.out (by decide)) :))) _).trans (((cell_far (p := ⟨gb837, _, none⟩) (by first | exact (Kd.own_blk (Kd.S_ne HO_7.out BK837.out (by decide)) :) | (rw [add_block]; exact (Kd.own_blk (Kd.S_ne HO_7.out BK837.out (by decide)) :)) | (show (Addr.add _ _).block ≠ _; rw [add_block]; exact (Kd.own_blk (Kd.S_ne HO_7.out BK837.out (by decide)) :)) | (dsimp only; exact (Kd.own_blk (Kd.S_ne HO_7.out BK837.out (by decide)) :))) _).trans (hHeld.2.2.2.2.2.2.2.2.2.2.2.2.2.2.2.2))))))))))⟩ (fun hHeld => ?_)
         clear ob1_
         clear hK K
         refine done_ (done_of HT_.out kr) ?_
         have hnb61 := NB822_813.out
         have hnc61 := NB813_822.out
         have hnb62 := NB822_837.out
         have hnc62 := NB837_822.out
         have hcz63_0 : w52.cell? ⟨gb822, 0, none⟩ = some (.int .i64 t814) := cc
         have hcz63_1 : w52.cell? ⟨gb822, 1, none⟩ = some (.int .i64 x823001_2) := cc
         have hcz63_2 : w52.cell? ⟨gb822, 2, none⟩ = some (u823002) := cc
         have hcz63_3 : w52.cell? ⟨gb822, 3, none⟩ = some (u823003) := cc
         have hfz63_0 := kF BK822.out 0
         have hfz63_1 := kF BK822.out 1
         have hfz63_2 := kF BK822.out 2
         have hfz63_3 := kF BK822.out 3
         have hnb64 := NB837_813.out
         have hnc64 := NB813_837.out
         have hcz65_0 : w52.cell? ⟨gb837, 0, none⟩ = some (.int .i64 0) := cc
         have hcz65_1 : w52.cell? ⟨gb837, 1, none⟩ = some (.int .i64 0) := cc
         have hcz65_2 : w52.cell? ⟨gb837, 2, none⟩ = some (.slice none 0 0) := cc
         have hcz65_3 : w52.cell? ⟨gb837, 3, none⟩ = some (.slice none 0 0) := cc
         have hcz65_4 : w52.cell? ⟨gb837, 4, none⟩ = some (.slice none 0 0) := cc
         have hfz65_0 := kF BK837.out 0
         have hfz65_1 := kF BK837.out 1
         have hfz65_2 := kF BK837.out 2
         have hfz65_3 := kF BK837.out 3
         have hfz65_4 := kF BK837.out 4
         obtain ⟨Ao66, co66, eo66⟩ := Kd.R_slice HO_823002.out
         subst eo66
         obtain ⟨Ao67, co67, eo67⟩ := Kd.R_slice HO_823003.out
         subst eo67
         go_upto_region 13 with (first | ((with_reducible refine gate_callee (f := 20) rfl ?_); refine goesL_ (some 65) rfl rfl Try.func20 kr rfl #[.agg #[.int .i64 x823001_2, .slice Ao66 x823002_2.length co66, .slice Ao67 x823003_2.length co67], .slice Ao59 t834.length co59] rfl mq ?_; (with_reducible refine (impl_PlayBlock.calls k2 x823001_2 _ _ x823002_2 _ _ x823003_2 _ _ t834 t838 t839 t840 t843 t846 _ ?side1 ?side2 ?side3 ?side4 ?side5 ?side6 A44.out).mono ?_); (case side1 => refine (rR (e := 2) (base := w.heap.size) (ok := fun k_ => (nS Ao55 t828 co55 k_ ∧ (nS Ao57 t831 co57 k_ ∧ (nS Ao59 t834 co59 k_ ∧ (nS Ao47 x814002_2 co47 k_ ∧ (nS Ao48 x814003_2 co48 k_ ∧ nS Ao67 x823003_2 co67 k_)))))) (n := x823002_2.length) (c := co66) ?_).2.2; exact (rM (rf (Kd.R_types HO_823002.out BK837.out (by decide))) (fun _ h_ => h_.1))); (case side2 => exact (rR HO_823002.out).2.1); (case side3 => refine (rR (e := 2) (base := w.heap.size) (ok := fun k_ => (nS Ao55 t828 co55 k_ ∧ (nS Ao57 t831 co57 k_ ∧ (nS Ao59 t834 co59 k_ ∧ (nS Ao47 x814002_2 co47 k_ ∧ (nS Ao48 x814003_2 co48 k_ ∧ nS Ao66 x823002_2 co66 k_)))))) (n := x823003_2.length) (c := co67) ?_).2.2; exact (rM (rf (Kd.R_types HO_823003.out BK837.out (by decide))) (fun _ h_ => h_.1))); (case side4 => exact (rR HO_823003.out).2.1); (case side5 => refine (rR (e := 2) (base := w.heap.size) (ok := fun k_ => (some k_ ≠ (.slice A825_0 ((rd_T84 t802 x10_2).f0).length c825_0 : Value).ownBlock ∧ (nS Ao55 t828 co55 k_ ∧ (nS Ao57 t831 co57 k_ ∧ (nS Ao47 x814002_2 co47 k_ ∧ (nS Ao48 x814003_2 co48 k_ ∧ (nS Ao66 x823002_2 co66 k_ ∧ nS Ao67 x823003_2 co67 k_))))))) (n := t834.length) (c := co59) ?_).2.2; exact (rM (rf (Kd.R_types HO836.out BK837.out (by decide))) (fun _ h_ => h_.1))); (case side6 => exact (rR HO836.out).2.1); rintro e w68 ⟨v841, v844, v847, rfl, ho0, ho1, ho2, hb⟩; refine ⟨_, rfl, ?_⟩; replace HO_7 := aM (Kd.S_mono (Kd.S_told (Kd.S_told (Kd.S_told (Kd.S_old (by (with_reducible repeat (first | apply Kd.S_alloc | apply Kd.S_drewN | apply Kd.S_drew)); exact (Kd.S_mono (Kd.S_far (p := ⟨gb837, 4, none⟩) (Kd.S_far (p := ⟨gb837, 3, none⟩) (Kd.S_far (p := ⟨gb837, 2, none⟩) (Kd.S_far (p := ⟨gb837, 1, none⟩) (Kd.S_far (p := ⟨gb837, 0, none⟩) (Kd.S_types HO_7.out BK837.out (by decide)) (fun _ hk => hk.2) (.int .i64 t826)) (fun _ hk => hk.2) (.int .i64 t827)) (fun _ hk => hk.2) (.slice Ao55 t828.length co55)) (fun _ hk => hk.2) (.slice Ao57 t831.length co57)) (fun _ hk => hk.2) (.slice Ao59 t834.length co59)) (fun _ h_ => h_.1))) hb) (rB ho0)) (rB ho1)) (rB ho2)) (fun _ h_ => h_.1)); have HO842 := aM (rG (rW (rW (rW (rW (rW (rW (rW (rW ho0 (rT (rM (rf (Kd.R_types HO_814002.out BK837.out (by decide))) (fun _ h_ => h_.1)))) (rT (rM (rf (Kd.R_types HO_814003.out BK837.out (by decide))) (fun _ h_ => h_.1)))) (rT (rM (rf (Kd.R_types HO_823002.out BK837.out (by decide))) (fun _ h_ => h_.1)))) (rT (rM (rf (Kd.R_types HO_823003.out BK837.out (by decide))) (fun _ h_ => h_.1)))) (rT (rM (rf (Kd.R_types HL825_0.out BK837.out (by decide))) (fun _ h_ => h_.1)))) (rT (rM (rf (Kd.R_types HO830.out BK837.out (by decide))) (fun _ h_ => h_.1)))) (rT (rM (rf (Kd.R_types HO833.out BK837.out (by decide))) (fun _ h_ => h_.1)))) (rT (rM (rf (Kd.R_types HO836.out BK837.out (by decide))) (fun _ h_ => h_.1)))) (bZ bq)); have HO845 := aM (rG (rW (rW (rW (rW (rW (rW (rW (rW ho1 (rT (rM (rf (Kd.R_types HO_814002.out BK837.out (by decide))) (fun _ h_ => h_.1)))) (rT (rM (rf (Kd.R_types HO_814003.out BK837.out (by decide))) (fun _ h_ => h_.1)))) (rT (rM (rf (Kd.R_types HO_823002.out BK837.out (by decide))) (fun _ h_ => h_.1)))) (rT (rM (rf (Kd.R_types HO_823003.out BK837.out (by decide))) (fun _ h_ => h_.1)))) (rT (rM (rf (Kd.R_types HL825_0.out BK837.out (by decide))) (fun _ h_ => h_.1)))) (rT (rM (rf (Kd.R_types HO830.out BK837.out (by decide))) (fun _ h_ => h_.1)))) (rT (rM (rf (Kd.R_types HO833.out BK837.out (by decide))) (fun _ h_ => h_.1)))) (rT (rM (rf (Kd.R_types HO836.out BK837.out (by decide))) (fun _ h_ => h_.1)))) (bZ bq)); have HO848 := aM (rG (rW (rW (rW (rW (rW (rW (rW (rW ho2 (rT (rM (rf (Kd.R_types HO_814002.out BK837.out (by decide))) (fun _ h_ => h_.1)))) (rT (rM (rf (Kd.R_types HO_814003.out BK837.out (by decide))) (fun _ h_ => h_.1)))) (rT (rM (rf (Kd.R_types HO_823002.out BK837.out (by decide))) (fun _ h_ => h_.1)))) (rT (rM (rf (Kd.R_types HO_823003.out BK837.out (by decide))) (fun _ h_ => h_.1)))) (rT (rM (rf (Kd.R_types HL825_0.out BK837.out (by decide))) (fun _ h_ => h_.1)))) (rT (rM (rf (Kd.R_types HO830.out BK837.out (by decide))) (fun _ h_ => h_.1)))) (rT (rM (rf (Kd.R_types HO833.out BK837.out (by decide))) (fun _ h_ => h_.1)))) (rT (rM (rf (Kd.R_types HO836.out BK837.out (by decide))) (fun _ h_ => h_.1)))) (bZ bq)); replace HO_814002 := aM (rM (rO (rO (rO (rE (rM (rf (Kd.R_types HO_814002.out BK837.out (by decide))) (fun _ h_ => h_.1)) hb) (rB ho0)) (rB ho1)) (rB ho2)) (fun _ h_ => h_.1)); replace HO_814003 := aM (rM (rO (rO (rO (rE (rM (rf (Kd.R_types HO_814003.out BK837.out (by decide))) (fun _ h_ => h_.1)) hb) (rB ho0)) (rB ho1)) (rB ho2)) (fun _ h_ => h_.1)); replace HO_823002 := aM (rM (rO (rO (rO (rE (rM (rf (Kd.R_types HO_823002.out BK837.out (by decide))) (fun _ h_ => h_.1)) hb) (rB ho0)) (rB ho1)) (rB ho2)) (fun _ h_ => h_.1)); replace HO_823003 := aM (rM (rO (rO (rO (rE (rM (rf (Kd.R_types HO_823003.out BK837.out (by decide))) (fun _ h_ => h_.1)) hb) (rB ho0)) (rB ho1)) (rB ho2)) (fun _ h_ => h_.1)); replace HL825_0 := aM (rM (rO (rO (rO (rE (rM (rf (Kd.R_types HL825_0.out BK837.out (by decide))) (fun _ h_ => h_.1)) hb) (rB ho0)) (rB ho1)) (rB ho2)) (fun _ h_ => h_.1)); replace HO830 := aM (rM (rO (rO (rO (rE (rM (rf (Kd.R_types HO830.out BK837.out (by decide))) (fun _ h_ => h_.1)) hb) (rB ho0)) (rB ho1)) (rB ho2)) (fun _ h_ => h_.1)); replace HO833 := aM (rM (rO (rO (rO (rE (rM (rf (Kd.R_types HO833.out BK837.out (by decide))) (fun _ h_ => h_.1)) hb) (rB ho0)) (rB ho1)) (rB ho2)) (fun _ h_ => h_.1)); replace HO836 := aM (rM (rO (rO (rO (rE (rM (rf (Kd.R_types HO836.out BK837.out (by decide))) (fun _ h_ => h_.1)) hb) (rB ho0)) (rB ho1)) (rB ho2)) (fun _ h_ => h_.1)); replace BK813 := aM (kB (g := gb813) (o := .cells #[.int .i64 t805, .int .i64 x814001_2, .slice Ao47 x814002_2.length co47, .slice Ao48 x814003_2.length co48] 79 (0, 0)) (fq BK813.out) hb); replace BK822 := aM (kB (g := gb822) (o := .cells #[.int .i64 t814, .int .i64 x823001_2, .slice Ao66 x823002_2.length co66, .slice Ao67 x823003_2.length co67] 64 (0, 0)) (fq BK822.out) hb); replace BK837 := aM (kB (g := gb837) (o := .cells #[.int .i64 t826, .int .i64 t827, .slice Ao55 t828.length co55, .slice Ao57 t831.length co57, .slice Ao59 t834.length co59] 50 (0, 0)) (fq BK837.out) hb); replace HB := aM (bT bq hb); (try clear hb); (try clear ho0); (try clear ho1); (try clear ho2)) | ((with_reducible refine gate_dst (N := 12) rfl ?_); (try (refine gate_guard (by rfl) ?_; dsimp only)); refine box_event ?hg (N := 12) ?hd (cs := #[.int .i64 0, .int .i64 0, .slice none 0 0, .slice none 0 0, .slice none 0 0]) (t := 37) ?hr ?_; (case hd => rfl); (case hg => rfl); (case hr => first | (go_simp; done) | (go_simp; rfl)); intro gb849 hg w69 hbox hb; replace HO_7 := aM (Kd.S_below (by (with_reducible repeat (first | apply Kd.S_alloc | apply Kd.S_drewN | apply Kd.S_drew)); exact HO_7.out) hb); replace HO_814002 := aM (rL (rq HO_814002.out) hb); replace HO_814003 := aM (rL (rq HO_814003.out) hb); replace HO_823002 := aM (rL (rq HO_823002.out) hb); replace HO_823003 := aM (rL (rq HO_823003.out) hb); replace HL825_0 := aM (rL (rq HL825_0.out) hb); replace HO830 := aM (rL (rq HO830.out) hb); replace HO833 := aM (rL (rq HO833.out) hb); replace HO836 := aM (rL (rq HO836.out) hb); replace HO842 := aM (rL (rq HO842.out) hb); replace HO845 := aM (rL (rq HO845.out) hb); replace HO848 := aM (rL (rq HO848.out) hb); have BK849 := aM (hbox); have GW849 := aM ((by rw [hg]; exact (bZ bq) : w.heap.size ≤ gb849)); have GE849 := aM ((by rw [hg]; exact (bZ bq) : w.heap.size ≤ gb849)); replace HB := aM (bT bq hb); have NB813_849 := aM ((by rw [hg]; exact Nat.ne_of_lt (blk_lt (kq BK813.out)) : gb813 ≠ gb849)); have NB849_813 := aM ((by rw [hg]; exact Nat.ne_of_gt (blk_lt (kq BK813.out)) : gb849 ≠ gb813)); replace BK813 := aM (kB (kq BK813.out) hb); have NB822_849 := aM ((by rw [hg]; exact Nat.ne_of_lt (blk_lt (kq BK822.out)) : gb822 ≠ gb849)); have NB849_822 := aM ((by rw [hg]; exact Nat.ne_of_gt (blk_lt (kq BK822.out)) : gb849 ≠ gb822)); replace BK822 := aM (kB (kq BK822.out) hb); have NB837_849 := aM ((by rw [hg]; exact Nat.ne_of_lt (blk_lt (kq BK837.out)) : gb837 ≠ gb849)); have NB849_837 := aM ((by rw [hg]; exact Nat.ne_of_gt (blk_lt (kq BK837.out)) : gb849 ≠ gb837)); replace BK837 := aM (kB (kq BK837.out) hb); clear hb hbox hg; have hnb70 := NB849_813.out; have hnc70 := NB813_849.out; have hnb71 := NB849_822.out; have hnc71 := NB822_849.out; have hnb72 := NB849_837.out; have hnc72 := NB837_849.out; have hcz73_0 : w69.cell? ⟨gb849, 0, none⟩ = some (.int .i64 0) := cc; have hcz73_1 : w69.cell? ⟨gb849, 1, none⟩ = some (.int .i64 0) := cc; have hcz73_2 : w69.cell? ⟨gb849, 2, none⟩ = some (.slice none 0 0) := cc; have hcz73_3 : w69.cell? ⟨gb849, 3, none⟩ = some (.slice none 0 0) := cc; have hcz73_4 : w69.cell? ⟨gb849, 4, none⟩ = some (.slice none 0 0) := cc; have hfz73_0 := kF BK849.out 0; have hfz73_1 := kF BK849.out 1; have hfz73_2 := kF BK849.out 2; have hfz73_3 := kF BK849.out 3; have hfz73_4 := kF BK849.out 4; obtain ⟨Ao74, co74, eo74⟩ := Kd.R_slice HO842.out; subst eo74; obtain ⟨Ao75, co75, eo75⟩ := Kd.R_slice HO845.out; subst eo75; obtain ⟨Ao76, co76, eo76⟩ := Kd.R_slice HO848.out; subst eo76))
         (try simp only [Act.put, pa, pb, pc])
         go_cut [92] (fun v92 wc => ∃ (kq : Nat) (x92_44 : Bool), v92 = .bool x92_44 ∧ Aside0 (laws_FnLaps.j2 kq t798 t802 x10_2 x92_44 t805 x814001_2 x814002_2 x814003_2 t814 x823001_2 x823002_2 x823003_2 t826 t827 t828 t831 t834 t838 t839 t840 t843 t846 = some r) ∧ Aside0 (kq ≤ k2) ∧ Aside0 (Kd.S k84 84 wc w.heap.size (fun k_ => some k_ ≠ ((.slice Ao47 x814002_2.length co47) : Value).ownBlock ∧ some k_ ≠ ((.slice Ao48 x814003_2.length co48) : Value).ownBlock ∧ some k_ ≠ ((.slice Ao66 x823002_2.length co66) : Value).ownBlock ∧ some k_ ≠ ((.slice Ao67 x823003_2.length co67) : Value).ownBlock ∧ some k_ ≠ ((.slice Ao55 t828.length co55) : Value).ownBlock ∧ some k_ ≠ ((.slice Ao57 t831.length co57) : Value).ownBlock ∧ some k_ ≠ ((.slice Ao59 t834.length co59) : Value).ownBlock ∧ some k_ ≠ ((.slice Ao74 t840.length co74) : Value).ownBlock ∧ some k_ ≠ ((.slice Ao75 t843.length co75) : Value).ownBlock ∧ some k_ ≠ ((.slice Ao76 t846.length co76) : Value).ownBlock) (.slice (some ad825) t802.length co46) t802) ∧ Aside0 (Kd.R (Kd.int .i64) 2 wc w.heap.size (fun k_ => some k_ ≠ ((.slice Ao48 x814003_2.length co48) : Value).ownBlock ∧ some k_ ≠ ((.slice Ao66 x823002_2.length co66) : Value).ownBlock ∧ some k_ ≠ ((.slice Ao67 x823003_2.length co67) : Value).ownBlock ∧ some k_ ≠ ((.slice Ao55 t828.length co55) : Value).ownBlock ∧ some k_ ≠ ((.slice Ao57 t831.length co57) : Value).ownBlock ∧ some k_ ≠ ((.slice Ao59 t834.length co59) : Value).ownBlock ∧ some k_ ≠ ((.slice Ao74 t840.length co74) : Value).ownBlock ∧ some k_ ≠ ((.slice Ao75 t843.length co75) : Value).ownBlock ∧ some k_ ≠ ((.slice Ao76 t846.length co76) : Value).ownBlock) (.slice Ao47 x814002_2.length co47) x814002_2) ∧ Aside0 (Kd.R (Kd.int .i64) 2 wc w.heap.size (fun k_ => some k_ ≠ ((.slice Ao47 x814002_2.length co47) : Value).ownBlock ∧ some k_ ≠ ((.slice Ao66 x823002_2.length co66) : Value).ownBlock ∧ some k_ ≠ ((.slice Ao67 x823003_2.length co67) : Value).ownBlock ∧ some k_ ≠ ((.slice Ao55 t828.length co55) : Value).ownBlock ∧ some k_ ≠ ((.slice Ao57 t831.length co57) : Value).ownBlock ∧ some k_ ≠ ((.slice Ao59 t834.length co59) : Value).ownBlock ∧ some k_ ≠ ((.slice Ao74 t840.length co74) : Value).ownBlock ∧ some k_ ≠ ((.slice Ao75 t843.length co75) : Value).ownBlock ∧ some k_ ≠ ((.slice Ao76 t846.length co76) : Value).ownBlock) (.slice Ao48 x814003_2.length co48) x814003_2) ∧ Aside0 (Kd.R (Kd.int .i64) 2 wc w.heap.size (fun k_ => some k_ ≠ ((.slice Ao47 x814002_2.length co47) : Value).ownBlock ∧ some k_ ≠ ((.slice Ao48 x814003_2.length co48) : Value).ownBlock ∧ some k_ ≠ ((.slice Ao67 x823003_2.length co67) : Value).ownBlock ∧ some k_ ≠ ((.slice Ao55 t828.length co55) : Value).ownBlock ∧ some k_ ≠ ((.slice Ao57 t831.length co57) : Value).ownBlock ∧ some k_ ≠ ((.slice Ao59 t834.length co59) : Value).ownBlock ∧ some k_ ≠ ((.slice Ao74 t840.length co74) : Value).ownBlock ∧ some k_ ≠ ((.slice Ao75 t843.length co75) : Value).ownBlock ∧ some k_ ≠ ((.slice Ao76 t846.length co76) : Value).ownBlock) (.slice Ao66 x823002_2.length co66) x823002_2) ∧ Aside0 (Kd.R (Kd.int .i64) 2 wc w.heap.size (fun k_ => some k_ ≠ ((.slice Ao47 x814002_2.length co47) : Value).ownBlock ∧ some k_ ≠ ((.slice Ao48 x814003_2.length co48) : Value).ownBlock ∧ some k_ ≠ ((.slice Ao66 x823002_2.length co66) : Value).ownBlock ∧ some k_ ≠ ((.slice Ao55 t828.length co55) : Value).ownBlock ∧ some k_ ≠ ((.slice Ao57 t831.length co57) : Value).ownBlock ∧ some k_ ≠ ((.slice Ao59 t834.length co59) : Value).ownBlock ∧ some k_ ≠ ((.slice Ao74 t840.length co74) : Value).ownBlock ∧ some k_ ≠ ((.slice Ao75 t843.length co75) : Value).ownBlock ∧ some k_ ≠ ((.slice Ao76 t846.length co76) : Value).ownBlock) (.slice Ao67 x823003_2.length co67) x823003_2) ∧ Aside0 (Kd.R (Kd.int .i64) 2 wc w.heap.size (fun k_ => some k_ ≠ ((.slice Ao47 x814002_2.length co47) : Value).ownBlock ∧ some k_ ≠ ((.slice Ao48 x814003_2.length co48) : Value).ownBlock ∧ some k_ ≠ ((.slice Ao66 x823002_2.length co66) : Value).ownBlock ∧ some k_ ≠ ((.slice Ao67 x823003_2.length co67) : Value).ownBlock ∧ some k_ ≠ ((.slice Ao57 t831.length co57) : Value).ownBlock ∧ some k_ ≠ ((.slice Ao59 t834.length co59) : Value).ownBlock ∧ some k_ ≠ ((.slice Ao74 t840.length co74) : Value).ownBlock ∧ some k_ ≠ ((.slice Ao75 t843.length co75) : Value).ownBlock ∧ some k_ ≠ ((.slice Ao76 t846.length co76) : Value).ownBlock) (.slice Ao55 t828.length co55) t828) ∧ Aside0 (Kd.R (Kd.int .i64) 2 wc w.heap.size (fun k_ => some k_ ≠ ((.slice Ao47 x814002_2.length co47) : Value).ownBlock ∧ some k_ ≠ ((.slice Ao48 x814003_2.length co48) : Value).ownBlock ∧ some k_ ≠ ((.slice Ao66 x823002_2.length co66) : Value).ownBlock ∧ some k_ ≠ ((.slice Ao67 x823003_2.length co67) : Value).ownBlock ∧ some k_ ≠ ((.slice Ao55 t828.length co55) : Value).ownBlock ∧ some k_ ≠ ((.slice Ao59 t834.length co59) : Value).ownBlock ∧ some k_ ≠ ((.slice Ao74 t840.length co74) : Value).ownBlock ∧ some k_ ≠ ((.slice Ao75 t843.length co75) : Value).ownBlock ∧ some k_ ≠ ((.slice Ao76 t846.length co76) : Value).ownBlock) (.slice Ao57 t831.length co57) t831) ∧ Aside0 (Kd.R (Kd.int .i64) 2 wc w.heap.size (fun k_ => some k_ ≠ ((.slice Ao47 x814002_2.length co47) : Value).ownBlock ∧ some k_ ≠ ((.slice Ao48 x814003_2.length co48) : Value).ownBlock ∧ some k_ ≠ ((.slice Ao66 x823002_2.length co66) : Value).ownBlock ∧ some k_ ≠ ((.slice Ao67 x823003_2.length co67) : Value).ownBlock ∧ some k_ ≠ ((.slice Ao55 t828.length co55) : Value).ownBlock ∧ some k_ ≠ ((.slice Ao57 t831.length co57) : Value).ownBlock ∧ some k_ ≠ ((.slice Ao74 t840.length co74) : Value).ownBlock ∧ some k_ ≠ ((.slice Ao75 t843.length co75) : Value).ownBlock ∧ some k_ ≠ ((.slice Ao76 t846.length co76) : Value).ownBlock) (.slice Ao59 t834.length co59) t834) ∧ Aside0 (Kd.R (Kd.int .i64) 2 wc w.heap.size (fun k_ => some k_ ≠ ((.slice Ao47 x814002_2.length co47) : Value).ownBlock ∧ some k_ ≠ ((.slice Ao48 x814003_2.length co48) : Value).ownBlock ∧ some k_ ≠ ((.slice Ao66 x823002_2.length co66) : Value).ownBlock ∧ some k_ ≠ ((.slice Ao67 x823003_2.length co67) : Value).ownBlock ∧ some k_ ≠ ((.slice Ao55 t828.length co55) : Value).ownBlock ∧ some k_ ≠ ((.slice Ao57 t831.length co57) : Value).ownBlock ∧ some k_ ≠ ((.slice Ao59 t834.length co59) : Value).ownBlock ∧ some k_ ≠ ((.slice Ao75 t843.length co75) : Value).ownBlock ∧ some k_ ≠ ((.slice Ao76 t846.length co76) : Value).ownBlock) (.slice Ao74 t840.length co74) t840) ∧ Aside0 (Kd.R (Kd.int .i64) 2 wc w.heap.size (fun k_ => some k_ ≠ ((.slice Ao47 x814002_2.length co47) : Value).ownBlock ∧ some k_ ≠ ((.slice Ao48 x814003_2.length co48) : Value).ownBlock ∧ some k_ ≠ ((.slice Ao66 x823002_2.length co66) : Value).ownBlock ∧ some k_ ≠ ((.slice Ao67 x823003_2.length co67) : Value).ownBlock ∧ some k_ ≠ ((.slice Ao55 t828.length co55) : Value).ownBlock ∧ some k_ ≠ ((.slice Ao57 t831.length co57) : Value).ownBlock ∧ some k_ ≠ ((.slice Ao59 t834.length co59) : Value).ownBlock ∧ some k_ ≠ ((.slice Ao74 t840.length co74) : Value).ownBlock ∧ some k_ ≠ ((.slice Ao76 t846.length co76) : Value).ownBlock) (.slice Ao75 t843.length co75) t843) ∧ Aside0 (Kd.R (Kd.int .i64) 2 wc w.heap.size (fun k_ => some k_ ≠ ((.slice Ao47 x814002_2.length co47) : Value).ownBlock ∧ some k_ ≠ ((.slice Ao48 x814003_2.length co48) : Value).ownBlock ∧ some k_ ≠ ((.slice Ao66 x823002_2.length co66) : Value).ownBlock ∧ some k_ ≠ ((.slice Ao67 x823003_2.length co67) : Value).ownBlock ∧ some k_ ≠ ((.slice Ao55 t828.length co55) : Value).ownBlock ∧ some k_ ≠ ((.slice Ao57 t831.length co57) : Value).ownBlock ∧ some k_ ≠ ((.slice Ao59 t834.length co59) : Value).ownBlock ∧ some k_ ≠ ((.slice Ao74 t840.length co74) : Value).ownBlock ∧ some k_ ≠ ((.slice Ao75 t843.length co75) : Value).ownBlock) (.slice Ao76 t846.length co76) t846) ∧ Aside0 (wc.heap[gb813]? = some (.cells #[.int .i64 t805, .int .i64 x814001_2, (.slice Ao47 x814002_2.length co47), (.slice Ao48 x814003_2.length co48)] 79 (0, 0))) ∧ Aside0 (wc.heap[gb822]? = some (.cells #[.int .i64 t814, .int .i64 x823001_2, (.slice Ao66 x823002_2.length co66), (.slice Ao67 x823003_2.length co67)] 64 (0, 0))) ∧ Aside0 (wc.heap[gb837]? = some (.cells #[.int .i64 t826, .int .i64 t827, (.slice Ao55 t828.length co55), (.slice Ao57 t831.length co57), (.slice Ao59 t834.length co59)] 50 (0, 0))) ∧ Aside0 (wc.heap[gb849]? = some (.cells #[.int .i64 t838, .int .i64 t839, (.slice Ao74 t840.length co74), (.slice Ao75 t843.length co75), (.slice Ao76 t846.length co76)] 37 (0, 0))) ∧ Aside0 (Below w.heap.size w wc))
         case first =>
          have H := HC45.out
          clear HC45
          by_cases c77 : t826 = 0
          ·rw [if_pos c77] at H
           have c77b0 : (t826 == 0) = true := beq_iff_eq.mpr c77
           have c77b1 : (t826 != 0) = false := bne_eq_false_iff_eq.mpr c77
           clear c77
           (first | rw [c77b0] | (simp only [i64_w, i32_w]; rw [c77b0]) | skip)
           by_cases c78 : t838 = 0
           ·rw [if_pos c78] at H
            have c78b0 : (t838 == 0) = true := beq_iff_eq.mpr c78
            have c78b1 : (t838 != 0) = false := bne_eq_false_iff_eq.mpr c78
            clear c78
            replace H := bo H
            obtain ⟨t850, A79, H⟩ := H
            replace H := bz H
            by_cases c80 : t850 = 0
            ·rw [if_pos c80] at H
             have c80b0 : (t850 == 0) = true := beq_iff_eq.mpr c80
             have c80b1 : (t850 != 0) = false := bne_eq_false_iff_eq.mpr c80
             clear c80
             replace H := bo H
             obtain ⟨t851, A81, H⟩ := H
             replace H := bz H
             by_cases c82 : t851 = 0
             ·rw [if_pos c82] at H
              have c82b0 : (t851 == 0) = true := beq_iff_eq.mpr c82
              have c82b1 : (t851 != 0) = false := bne_eq_false_iff_eq.mpr c82
              clear c82
              have H' := aM H
              clear H
              have hnb83 := NB837_813.out
              have hnc83 := NB813_837.out
              have hnb84 := NB837_822.out
              have hnc84 := NB822_837.out
              have hnb85 := NB837_849.out
              have hnc85 := NB849_837.out
              have hcz86_0 : w69.cell? ⟨gb837, 0, none⟩ = some (.int .i64 t826) := cc
              have hcz86_1 : w69.cell? ⟨gb837, 1, none⟩ = some (.int .i64 t827) := cc
              have hcz86_2 : w69.cell? ⟨gb837, 2, none⟩ = some (.slice Ao55 t828.length co55) := cc
              have hcz86_3 : w69.cell? ⟨gb837, 3, none⟩ = some (.slice Ao57 t831.length co57) := cc
              have hcz86_4 : w69.cell? ⟨gb837, 4, none⟩ = some (.slice Ao59 t834.length co59) := cc
              have hfz86_0 := kF BK837.out 0
              have hfz86_1 := kF BK837.out 1
              have hfz86_2 := kF BK837.out 2
              have hfz86_3 := kF BK837.out 3
              have hfz86_4 := kF BK837.out 4
              have hnb87 := NB849_813.out
              have hnc87 := NB813_849.out
              have hnb88 := NB849_822.out
              have hnc88 := NB822_849.out
              have hcz89_0 : w69.cell? ⟨gb849, 0, none⟩ = some (.int .i64 0) := cc
              have hcz89_1 : w69.cell? ⟨gb849, 1, none⟩ = some (.int .i64 0) := cc
              have hcz89_2 : w69.cell? ⟨gb849, 2, none⟩ = some (.slice none 0 0) := cc
              have hcz89_3 : w69.cell? ⟨gb849, 3, none⟩ = some (.slice none 0 0) := cc
              have hcz89_4 : w69.cell? ⟨gb849, 4, none⟩ = some (.slice none 0 0) := cc
              have hfz89_0 := kF BK849.out 0
              have hfz89_1 := kF BK849.out 1
              have hfz89_2 := kF BK849.out 2
              have hfz89_3 := kF BK849.out 3
              have hfz89_4 := kF BK849.out 4
              go_wp2_with (first | (go_at_call 43; (with_reducible refine (impl_LapFault.calls k2 t827 _ _ t828 _ _ t831 t850 _ ?side1 ?side2 ?side3 ?side4 A79.out).mono ?_); (case side1 => refine (rR (e := 2) (base := w.heap.size) (ok := fun k_ => ((((some k_ ≠ (.slice A825_0 ((rd_T84 t802 x10_2).f0).length c825_0 : Value).ownBlock ∧ (nS Ao57 t831 co57 k_ ∧ (nS Ao59 t834 co59 k_ ∧ (nS Ao47 x814002_2 co47 k_ ∧ (nS Ao48 x814003_2 co48 k_ ∧ (nS Ao66 x823002_2 co66 k_ ∧ nS Ao67 x823003_2 co67 k_)))))) ∧ nS Ao74 t840 co74 k_) ∧ nS Ao75 t843 co75 k_) ∧ nS Ao76 t846 co76 k_)) (n := t828.length) (c := co55) ?_).2.2; exact (rM (rf (Kd.R_types HO830.out BK849.out (by decide))) (fun _ h_ => h_.1))); (case side2 => exact (rR HO830.out).2.1); (case side3 => refine (rR (e := 2) (base := w.heap.size) (ok := fun k_ => ((((some k_ ≠ (.slice A825_0 ((rd_T84 t802 x10_2).f0).length c825_0 : Value).ownBlock ∧ (nS Ao55 t828 co55 k_ ∧ (nS Ao59 t834 co59 k_ ∧ (nS Ao47 x814002_2 co47 k_ ∧ (nS Ao48 x814003_2 co48 k_ ∧ (nS Ao66 x823002_2 co66 k_ ∧ nS Ao67 x823003_2 co67 k_)))))) ∧ nS Ao74 t840 co74 k_) ∧ nS Ao75 t843 co75 k_) ∧ nS Ao76 t846 co76 k_)) (n := t831.length) (c := co57) ?_).2.2; exact (rM (rf (Kd.R_types HO833.out BK849.out (by decide))) (fun _ h_ => h_.1))); (case side4 => exact (rR HO833.out).2.1); rintro e w90 ⟨rfl, hb⟩; replace HO_7 := aM (Kd.S_below (by (with_reducible repeat (first | apply Kd.S_alloc | apply Kd.S_drewN | apply Kd.S_drew)); exact (Kd.S_mono (Kd.S_far (p := ⟨gb849, 4, none⟩) (Kd.S_far (p := ⟨gb849, 3, none⟩) (Kd.S_far (p := ⟨gb849, 2, none⟩) (Kd.S_far (p := ⟨gb849, 1, none⟩) (Kd.S_far (p := ⟨gb849, 0, none⟩) (Kd.S_types HO_7.out BK849.out (by decide)) (fun _ hk => hk.2) (.int .i64 t838)) (fun _ hk => hk.2) (.int .i64 t839)) (fun _ hk => hk.2) (.slice Ao74 t840.length co74)) (fun _ hk => hk.2) (.slice Ao75 t843.length co75)) (fun _ hk => hk.2) (.slice Ao76 t846.length co76)) (fun _ h_ => h_.1))) hb); replace HO_814002 := aM (rL (rM (rf (Kd.R_types HO_814002.out BK849.out (by decide))) (fun _ h_ => h_.1)) hb); replace HO_814003 := aM (rL (rM (rf (Kd.R_types HO_814003.out BK849.out (by decide))) (fun _ h_ => h_.1)) hb); replace HO_823002 := aM (rL (rM (rf (Kd.R_types HO_823002.out BK849.out (by decide))) (fun _ h_ => h_.1)) hb); replace HO_823003 := aM (rL (rM (rf (Kd.R_types HO_823003.out BK849.out (by decide))) (fun _ h_ => h_.1)) hb); replace HL825_0 := aM (rL (rM (rf (Kd.R_types HL825_0.out BK849.out (by decide))) (fun _ h_ => h_.1)) hb); replace HO830 := aM (rL (rM (rf (Kd.R_types HO830.out BK849.out (by decide))) (fun _ h_ => h_.1)) hb); replace HO833 := aM (rL (rM (rf (Kd.R_types HO833.out BK849.out (by decide))) (fun _ h_ => h_.1)) hb); replace HO836 := aM (rL (rM (rf (Kd.R_types HO836.out BK849.out (by decide))) (fun _ h_ => h_.1)) hb); replace HO842 := aM (rL (rM (rf (Kd.R_types HO842.out BK849.out (by decide))) (fun _ h_ => h_.1)) hb); replace HO845 := aM (rL (rM (rf (Kd.R_types HO845.out BK849.out (by decide))) (fun _ h_ => h_.1)) hb); replace HO848 := aM (rL (rM (rf (Kd.R_types HO848.out BK849.out (by decide))) (fun _ h_ => h_.1)) hb); replace BK813 := aM (kB (g := gb813) (o := .cells #[.int .i64 t805, .int .i64 x814001_2, .slice Ao47 x814002_2.length co47, .slice Ao48 x814003_2.length co48] 79 (0, 0)) (fq BK813.out) hb); replace BK822 := aM (kB (g := gb822) (o := .cells #[.int .i64 t814, .int .i64 x823001_2, .slice Ao66 x823002_2.length co66, .slice Ao67 x823003_2.length co67] 64 (0, 0)) (fq BK822.out) hb); replace BK837 := aM (kB (g := gb837) (o := .cells #[.int .i64 t826, .int .i64 t827, .slice Ao55 t828.length co55, .slice Ao57 t831.length co57, .slice Ao59 t834.length co59] 50 (0, 0)) (fq BK837.out) hb); replace BK849 := aM (kB (g := gb849) (o := .cells #[.int .i64 t838, .int .i64 t839, .slice Ao74 t840.length co74, .slice Ao75 t843.length co75, .slice Ao76 t846.length co76] 37 (0, 0)) (fq BK849.out) hb); replace HB := aM (bT bq hb); (try clear hb); have hcz91_0 : w90.cell? ⟨gb849, 0, none⟩ = some (.int .i64 t838) := cc; have hcz91_1 : w90.cell? ⟨gb849, 1, none⟩ = some (.int .i64 t839) := cc; have hcz91_2 : w90.cell? ⟨gb849, 2, none⟩ = some (.slice Ao74 t840.length co74) := cc; have hcz91_3 : w90.cell? ⟨gb849, 3, none⟩ = some (.slice Ao75 t843.length co75) := cc; have hcz91_4 : w90.cell? ⟨gb849, 4, none⟩ = some (.slice Ao76 t846.length co76) := cc; have hfz91_0 := kF BK849.out 0; have hfz91_1 := kF BK849.out 1; have hfz91_2 := kF BK849.out 2; have hfz91_3 := kF BK849.out 3; have hfz91_4 := kF BK849.out 4) | (go_at_call 46; (with_reducible refine (impl_SynthFault.calls k2 t839 _ _ t840 _ _ t843 t851 _ ?side1 ?side2 ?side3 ?side4 A81.out).mono ?_); (case side1 => exact cq (rR HO842.out).2.2); (case side2 => exact (rR HO842.out).2.1); (case side3 => exact cq (rR HO845.out).2.2); (case side4 => exact (rR HO845.out).2.1); rintro e w92 ⟨rfl, hb⟩; replace HO_7 := aM (Kd.S_below (by (with_reducible repeat (first | apply Kd.S_alloc | apply Kd.S_drewN | apply Kd.S_drew)); exact HO_7.out) hb); replace HO_814002 := aM (rL (rq HO_814002.out) hb); replace HO_814003 := aM (rL (rq HO_814003.out) hb); replace HO_823002 := aM (rL (rq HO_823002.out) hb); replace HO_823003 := aM (rL (rq HO_823003.out) hb); replace HL825_0 := aM (rL (rq HL825_0.out) hb); replace HO830 := aM (rL (rq HO830.out) hb); replace HO833 := aM (rL (rq HO833.out) hb); replace HO836 := aM (rL (rq HO836.out) hb); replace HO842 := aM (rL (rq HO842.out) hb); replace HO845 := aM (rL (rq HO845.out) hb); replace HO848 := aM (rL (rq HO848.out) hb); replace BK813 := aM (kB (kq BK813.out) hb); replace BK822 := aM (kB (kq BK822.out) hb); replace BK837 := aM (kB (kq BK837.out) hb); replace BK849 := aM (kB (kq BK849.out) hb); replace HB := aM (bT bq hb); (try clear hb); have hcz93_0 : w92.cell? ⟨gb849, 0, none⟩ = some (.int .i64 t838) := cc; have hcz93_1 : w92.cell? ⟨gb849, 1, none⟩ = some (.int .i64 t839) := cc; have hcz93_2 : w92.cell? ⟨gb849, 2, none⟩ = some (.slice Ao74 t840.length co74) := cc; have hcz93_3 : w92.cell? ⟨gb849, 3, none⟩ = some (.slice Ao75 t843.length co75) := cc; have hcz93_4 : w92.cell? ⟨gb849, 4, none⟩ = some (.slice Ao76 t846.length co76) := cc; have hfz93_0 := kF BK849.out 0; have hfz93_1 := kF BK849.out 1; have hfz93_2 := kF BK849.out 2; have hfz93_3 := kF BK849.out 3; have hfz93_4 := kF BK849.out 4))
              go_meet
              case rel => exact ⟨_, (((t846.length : Int) != t798)), (ex), H', ⟨by have := HJ6.out; have := HK2.out; first | omega | exact Nat.le_refl _⟩, ⟨by (with_reducible repeat (first | apply Kd.S_alloc | apply Kd.S_drewN | apply Kd.S_drew)); exact Kd.S_mono HO_7.out jq⟩, aM (rq (rM HO_814002.out jq)), aM (rq (rM HO_814003.out jq)), aM (rq (rM HO_823002.out jq)), aM (rq (rM HO_823003.out jq)), aM (rq (rM HO830.out jq)), aM (rq (rM HO833.out jq)), aM (rq (rM HO836.out jq)), aM (rq (rM HO842.out jq)), aM (rq (rM HO845.out jq)), aM (rq (rM HO848.out jq)), aM (kq BK813.out), aM (kq BK822.out), aM (kq BK837.out), aM (kq BK849.out), ⟨bq⟩⟩
             ·rw [if_neg c82] at H
              have c82b0 : (t851 == 0) = false := beq_eq_false_iff_ne.mpr c82
              have c82b1 : (t851 != 0) = true := bne_iff_ne.mpr c82
              have H' := aM H
              clear H
              have hnb94 := NB837_813.out
              have hnc94 := NB813_837.out
              have hnb95 := NB837_822.out
              have hnc95 := NB822_837.out
              have hnb96 := NB837_849.out
              have hnc96 := NB849_837.out
              have hcz97_0 : w69.cell? ⟨gb837, 0, none⟩ = some (.int .i64 t826) := cc
              have hcz97_1 : w69.cell? ⟨gb837, 1, none⟩ = some (.int .i64 t827) := cc
              have hcz97_2 : w69.cell? ⟨gb837, 2, none⟩ = some (.slice Ao55 t828.length co55) := cc
              have hcz97_3 : w69.cell? ⟨gb837, 3, none⟩ = some (.slice Ao57 t831.length co57) := cc
              have hcz97_4 : w69.cell? ⟨gb837, 4, none⟩ = some (.slice Ao59 t834.length co59) := cc
              have hfz97_0 := kF BK837.out 0
              have hfz97_1 := kF BK837.out 1
              have hfz97_2 := kF BK837.out 2
              have hfz97_3 := kF BK837.out 3
              have hfz97_4 := kF BK837.out 4
              have hnb98 := NB849_813.out
              have hnc98 := NB813_849.out
              have hnb99 := NB849_822.out
              have hnc99 := NB822_849.out
              have hcz100_0 : w69.cell? ⟨gb849, 0, none⟩ = some (.int .i64 0) := cc
              have hcz100_1 : w69.cell? ⟨gb849, 1, none⟩ = some (.int .i64 0) := cc
              have hcz100_2 : w69.cell? ⟨gb849, 2, none⟩ = some (.slice none 0 0) := cc
              have hcz100_3 : w69.cell? ⟨gb849, 3, none⟩ = some (.slice none 0 0) := cc
              have hcz100_4 : w69.cell? ⟨gb849, 4, none⟩ = some (.slice none 0 0) := cc
              have hfz100_0 := kF BK849.out 0
              have hfz100_1 := kF BK849.out 1
              have hfz100_2 := kF BK849.out 2
              have hfz100_3 := kF BK849.out 3
              have hfz100_4 := kF BK849.out 4
              go_wp2_with (first | (go_at_call 43; (with_reducible refine (impl_LapFault.calls k2 t827 _ _ t828 _ _ t831 t850 _ ?side1 ?side2 ?side3 ?side4 A79.out).mono ?_); (case side1 => refine (rR (e := 2) (base := w.heap.size) (ok := fun k_ => ((((some k_ ≠ (.slice A825_0 ((rd_T84 t802 x10_2).f0).length c825_0 : Value).ownBlock ∧ (nS Ao57 t831 co57 k_ ∧ (nS Ao59 t834 co59 k_ ∧ (nS Ao47 x814002_2 co47 k_ ∧ (nS Ao48 x814003_2 co48 k_ ∧ (nS Ao66 x823002_2 co66 k_ ∧ nS Ao67 x823003_2 co67 k_)))))) ∧ nS Ao74 t840 co74 k_) ∧ nS Ao75 t843 co75 k_) ∧ nS Ao76 t846 co76 k_)) (n := t828.length) (c := co55) ?_).2.2; exact (rM (rf (Kd.R_types HO830.out BK849.out (by decide))) (fun _ h_ => h_.1))); (case side2 => exact (rR HO830.out).2.1); (case side3 => refine (rR (e := 2) (base := w.heap.size) (ok := fun k_ => ((((some k_ ≠ (.slice A825_0 ((rd_T84 t802 x10_2).f0).length c825_0 : Value).ownBlock ∧ (nS Ao55 t828 co55 k_ ∧ (nS Ao59 t834 co59 k_ ∧ (nS Ao47 x814002_2 co47 k_ ∧ (nS Ao48 x814003_2 co48 k_ ∧ (nS Ao66 x823002_2 co66 k_ ∧ nS Ao67 x823003_2 co67 k_)))))) ∧ nS Ao74 t840 co74 k_) ∧ nS Ao75 t843 co75 k_) ∧ nS Ao76 t846 co76 k_)) (n := t831.length) (c := co57) ?_).2.2; exact (rM (rf (Kd.R_types HO833.out BK849.out (by decide))) (fun _ h_ => h_.1))); (case side4 => exact (rR HO833.out).2.1); rintro e w101 ⟨rfl, hb⟩; replace HO_7 := aM (Kd.S_below (by (with_reducible repeat (first | apply Kd.S_alloc | apply Kd.S_drewN | apply Kd.S_drew)); exact (Kd.S_mono (Kd.S_far (p := ⟨gb849, 4, none⟩) (Kd.S_far (p := ⟨gb849, 3, none⟩) (Kd.S_far (p := ⟨gb849, 2, none⟩) (Kd.S_far (p := ⟨gb849, 1, none⟩) (Kd.S_far (p := ⟨gb849, 0, none⟩) (Kd.S_types HO_7.out BK849.out (by decide)) (fun _ hk => hk.2) (.int .i64 t838)) (fun _ hk => hk.2) (.int .i64 t839)) (fun _ hk => hk.2) (.slice Ao74 t840.length co74)) (fun _ hk => hk.2) (.slice Ao75 t843.length co75)) (fun _ hk => hk.2) (.slice Ao76 t846.length co76)) (fun _ h_ => h_.1))) hb); replace HO_814002 := aM (rL (rM (rf (Kd.R_types HO_814002.out BK849.out (by decide))) (fun _ h_ => h_.1)) hb); replace HO_814003 := aM (rL (rM (rf (Kd.R_types HO_814003.out BK849.out (by decide))) (fun _ h_ => h_.1)) hb); replace HO_823002 := aM (rL (rM (rf (Kd.R_types HO_823002.out BK849.out (by decide))) (fun _ h_ => h_.1)) hb); replace HO_823003 := aM (rL (rM (rf (Kd.R_types HO_823003.out BK849.out (by decide))) (fun _ h_ => h_.1)) hb); replace HL825_0 := aM (rL (rM (rf (Kd.R_types HL825_0.out BK849.out (by decide))) (fun _ h_ => h_.1)) hb); replace HO830 := aM (rL (rM (rf (Kd.R_types HO830.out BK849.out (by decide))) (fun _ h_ => h_.1)) hb); replace HO833 := aM (rL (rM (rf (Kd.R_types HO833.out BK849.out (by decide))) (fun _ h_ => h_.1)) hb); replace HO836 := aM (rL (rM (rf (Kd.R_types HO836.out BK849.out (by decide))) (fun _ h_ => h_.1)) hb); replace HO842 := aM (rL (rM (rf (Kd.R_types HO842.out BK849.out (by decide))) (fun _ h_ => h_.1)) hb); replace HO845 := aM (rL (rM (rf (Kd.R_types HO845.out BK849.out (by decide))) (fun _ h_ => h_.1)) hb); replace HO848 := aM (rL (rM (rf (Kd.R_types HO848.out BK849.out (by decide))) (fun _ h_ => h_.1)) hb); replace BK813 := aM (kB (g := gb813) (o := .cells #[.int .i64 t805, .int .i64 x814001_2, .slice Ao47 x814002_2.length co47, .slice Ao48 x814003_2.length co48] 79 (0, 0)) (fq BK813.out) hb); replace BK822 := aM (kB (g := gb822) (o := .cells #[.int .i64 t814, .int .i64 x823001_2, .slice Ao66 x823002_2.length co66, .slice Ao67 x823003_2.length co67] 64 (0, 0)) (fq BK822.out) hb); replace BK837 := aM (kB (g := gb837) (o := .cells #[.int .i64 t826, .int .i64 t827, .slice Ao55 t828.length co55, .slice Ao57 t831.length co57, .slice Ao59 t834.length co59] 50 (0, 0)) (fq BK837.out) hb); replace BK849 := aM (kB (g := gb849) (o := .cells #[.int .i64 t838, .int .i64 t839, .slice Ao74 t840.length co74, .slice Ao75 t843.length co75, .slice Ao76 t846.length co76] 37 (0, 0)) (fq BK849.out) hb); replace HB := aM (bT bq hb); (try clear hb); have hcz102_0 : w101.cell? ⟨gb849, 0, none⟩ = some (.int .i64 t838) := cc; have hcz102_1 : w101.cell? ⟨gb849, 1, none⟩ = some (.int .i64 t839) := cc; have hcz102_2 : w101.cell? ⟨gb849, 2, none⟩ = some (.slice Ao74 t840.length co74) := cc; have hcz102_3 : w101.cell? ⟨gb849, 3, none⟩ = some (.slice Ao75 t843.length co75) := cc; have hcz102_4 : w101.cell? ⟨gb849, 4, none⟩ = some (.slice Ao76 t846.length co76) := cc; have hfz102_0 := kF BK849.out 0; have hfz102_1 := kF BK849.out 1; have hfz102_2 := kF BK849.out 2; have hfz102_3 := kF BK849.out 3; have hfz102_4 := kF BK849.out 4) | (go_at_call 46; (with_reducible refine (impl_SynthFault.calls k2 t839 _ _ t840 _ _ t843 t851 _ ?side1 ?side2 ?side3 ?side4 A81.out).mono ?_); (case side1 => exact cq (rR HO842.out).2.2); (case side2 => exact (rR HO842.out).2.1); (case side3 => exact cq (rR HO845.out).2.2); (case side4 => exact (rR HO845.out).2.1); rintro e w103 ⟨rfl, hb⟩; replace HO_7 := aM (Kd.S_below (by (with_reducible repeat (first | apply Kd.S_alloc | apply Kd.S_drewN | apply Kd.S_drew)); exact HO_7.out) hb); replace HO_814002 := aM (rL (rq HO_814002.out) hb); replace HO_814003 := aM (rL (rq HO_814003.out) hb); replace HO_823002 := aM (rL (rq HO_823002.out) hb); replace HO_823003 := aM (rL (rq HO_823003.out) hb); replace HL825_0 := aM (rL (rq HL825_0.out) hb); replace HO830 := aM (rL (rq HO830.out) hb); replace HO833 := aM (rL (rq HO833.out) hb); replace HO836 := aM (rL (rq HO836.out) hb); replace HO842 := aM (rL (rq HO842.out) hb); replace HO845 := aM (rL (rq HO845.out) hb); replace HO848 := aM (rL (rq HO848.out) hb); replace BK813 := aM (kB (kq BK813.out) hb); replace BK822 := aM (kB (kq BK822.out) hb); replace BK837 := aM (kB (kq BK837.out) hb); replace BK849 := aM (kB (kq BK849.out) hb); replace HB := aM (bT bq hb); (try clear hb)))
              go_meet
              case rel => exact ⟨_, (true), (ex), H', ⟨by have := HJ6.out; have := HK2.out; first | omega | exact Nat.le_refl _⟩, ⟨by (with_reducible repeat (first | apply Kd.S_alloc | apply Kd.S_drewN | apply Kd.S_drew)); exact Kd.S_mono HO_7.out jq⟩, aM (rq (rM HO_814002.out jq)), aM (rq (rM HO_814003.out jq)), aM (rq (rM HO_823002.out jq)), aM (rq (rM HO_823003.out jq)), aM (rq (rM HO830.out jq)), aM (rq (rM HO833.out jq)), aM (rq (rM HO836.out jq)), aM (rq (rM HO842.out jq)), aM (rq (rM HO845.out jq)), aM (rq (rM HO848.out jq)), aM (kq BK813.out), aM (kq BK822.out), aM (kq BK837.out), aM (kq BK849.out), ⟨bq⟩⟩
            ·rw [if_neg c80] at H
             have c80b0 : (t850 == 0) = false := beq_eq_false_iff_ne.mpr c80
             have c80b1 : (t850 != 0) = true := bne_iff_ne.mpr c80
             have H' := aM H
             clear H
             have hnb104 := NB837_813.out
             have hnc104 := NB813_837.out
             have hnb105 := NB837_822.out
             have hnc105 := NB822_837.out
             have hnb106 := NB837_849.out
             have hnc106 := NB849_837.out
             have hcz107_0 : w69.cell? ⟨gb837, 0, none⟩ = some (.int .i64 t826) := cc
             have hcz107_1 : w69.cell? ⟨gb837, 1, none⟩ = some (.int .i64 t827) := cc
             have hcz107_2 : w69.cell? ⟨gb837, 2, none⟩ = some (.slice Ao55 t828.length co55) := cc
             have hcz107_3 : w69.cell? ⟨gb837, 3, none⟩ = some (.slice Ao57 t831.length co57) := cc
             have hcz107_4 : w69.cell? ⟨gb837, 4, none⟩ = some (.slice Ao59 t834.length co59) := cc
             have hfz107_0 := kF BK837.out 0
             have hfz107_1 := kF BK837.out 1
             have hfz107_2 := kF BK837.out 2
             have hfz107_3 := kF BK837.out 3
             have hfz107_4 := kF BK837.out 4
             have hnb108 := NB849_813.out
             have hnc108 := NB813_849.out
             have hnb109 := NB849_822.out
             have hnc109 := NB822_849.out
             have hcz110_0 : w69.cell? ⟨gb849, 0, none⟩ = some (.int .i64 0) := cc
             have hcz110_1 : w69.cell? ⟨gb849, 1, none⟩ = some (.int .i64 0) := cc
             have hcz110_2 : w69.cell? ⟨gb849, 2, none⟩ = some (.slice none 0 0) := cc
             have hcz110_3 : w69.cell? ⟨gb849, 3, none⟩ = some (.slice none 0 0) := cc
             have hcz110_4 : w69.cell? ⟨gb849, 4, none⟩ = some (.slice none 0 0) := cc
             have hfz110_0 := kF BK849.out 0
             have hfz110_1 := kF BK849.out 1
             have hfz110_2 := kF BK849.out 2
             have hfz110_3 := kF BK849.out 3
             have hfz110_4 := kF BK849.out 4
             go_wp2_with (first | (go_at_call 43; (with_reducible refine (impl_LapFault.calls k2 t827 _ _ t828 _ _ t831 t850 _ ?side1 ?side2 ?side3 ?side4 A79.out).mono ?_); (case side1 => refine (rR (e := 2) (base := w.heap.size) (ok := fun k_ => ((((some k_ ≠ (.slice A825_0 ((rd_T84 t802 x10_2).f0).length c825_0 : Value).ownBlock ∧ (nS Ao57 t831 co57 k_ ∧ (nS Ao59 t834 co59 k_ ∧ (nS Ao47 x814002_2 co47 k_ ∧ (nS Ao48 x814003_2 co48 k_ ∧ (nS Ao66 x823002_2 co66 k_ ∧ nS Ao67 x823003_2 co67 k_)))))) ∧ nS Ao74 t840 co74 k_) ∧ nS Ao75 t843 co75 k_) ∧ nS Ao76 t846 co76 k_)) (n := t828.length) (c := co55) ?_).2.2; exact (rM (rf (Kd.R_types HO830.out BK849.out (by decide))) (fun _ h_ => h_.1))); (case side2 => exact (rR HO830.out).2.1); (case side3 => refine (rR (e := 2) (base := w.heap.size) (ok := fun k_ => ((((some k_ ≠ (.slice A825_0 ((rd_T84 t802 x10_2).f0).length c825_0 : Value).ownBlock ∧ (nS Ao55 t828 co55 k_ ∧ (nS Ao59 t834 co59 k_ ∧ (nS Ao47 x814002_2 co47 k_ ∧ (nS Ao48 x814003_2 co48 k_ ∧ (nS Ao66 x823002_2 co66 k_ ∧ nS Ao67 x823003_2 co67 k_)))))) ∧ nS Ao74 t840 co74 k_) ∧ nS Ao75 t843 co75 k_) ∧ nS Ao76 t846 co76 k_)) (n := t831.length) (c := co57) ?_).2.2; exact (rM (rf (Kd.R_types HO833.out BK849.out (by decide))) (fun _ h_ => h_.1))); (case side4 => exact (rR HO833.out).2.1); rintro e w111 ⟨rfl, hb⟩; replace HO_7 := aM (Kd.S_below (by (with_reducible repeat (first | apply Kd.S_alloc | apply Kd.S_drewN | apply Kd.S_drew)); exact (Kd.S_mono (Kd.S_far (p := ⟨gb849, 4, none⟩) (Kd.S_far (p := ⟨gb849, 3, none⟩) (Kd.S_far (p := ⟨gb849, 2, none⟩) (Kd.S_far (p := ⟨gb849, 1, none⟩) (Kd.S_far (p := ⟨gb849, 0, none⟩) (Kd.S_types HO_7.out BK849.out (by decide)) (fun _ hk => hk.2) (.int .i64 t838)) (fun _ hk => hk.2) (.int .i64 t839)) (fun _ hk => hk.2) (.slice Ao74 t840.length co74)) (fun _ hk => hk.2) (.slice Ao75 t843.length co75)) (fun _ hk => hk.2) (.slice Ao76 t846.length co76)) (fun _ h_ => h_.1))) hb); replace HO_814002 := aM (rL (rM (rf (Kd.R_types HO_814002.out BK849.out (by decide))) (fun _ h_ => h_.1)) hb); replace HO_814003 := aM (rL (rM (rf (Kd.R_types HO_814003.out BK849.out (by decide))) (fun _ h_ => h_.1)) hb); replace HO_823002 := aM (rL (rM (rf (Kd.R_types HO_823002.out BK849.out (by decide))) (fun _ h_ => h_.1)) hb); replace HO_823003 := aM (rL (rM (rf (Kd.R_types HO_823003.out BK849.out (by decide))) (fun _ h_ => h_.1)) hb); replace HL825_0 := aM (rL (rM (rf (Kd.R_types HL825_0.out BK849.out (by decide))) (fun _ h_ => h_.1)) hb); replace HO830 := aM (rL (rM (rf (Kd.R_types HO830.out BK849.out (by decide))) (fun _ h_ => h_.1)) hb); replace HO833 := aM (rL (rM (rf (Kd.R_types HO833.out BK849.out (by decide))) (fun _ h_ => h_.1)) hb); replace HO836 := aM (rL (rM (rf (Kd.R_types HO836.out BK849.out (by decide))) (fun _ h_ => h_.1)) hb); replace HO842 := aM (rL (rM (rf (Kd.R_types HO842.out BK849.out (by decide))) (fun _ h_ => h_.1)) hb); replace HO845 := aM (rL (rM (rf (Kd.R_types HO845.out BK849.out (by decide))) (fun _ h_ => h_.1)) hb); replace HO848 := aM (rL (rM (rf (Kd.R_types HO848.out BK849.out (by decide))) (fun _ h_ => h_.1)) hb); replace BK813 := aM (kB (g := gb813) (o := .cells #[.int .i64 t805, .int .i64 x814001_2, .slice Ao47 x814002_2.length co47, .slice Ao48 x814003_2.length co48] 79 (0, 0)) (fq BK813.out) hb); replace BK822 := aM (kB (g := gb822) (o := .cells #[.int .i64 t814, .int .i64 x823001_2, .slice Ao66 x823002_2.length co66, .slice Ao67 x823003_2.length co67] 64 (0, 0)) (fq BK822.out) hb); replace BK837 := aM (kB (g := gb837) (o := .cells #[.int .i64 t826, .int .i64 t827, .slice Ao55 t828.length co55, .slice Ao57 t831.length co57, .slice Ao59 t834.length co59] 50 (0, 0)) (fq BK837.out) hb); replace BK849 := aM (kB (g := gb849) (o := .cells #[.int .i64 t838, .int .i64 t839, .slice Ao74 t840.length co74, .slice Ao75 t843.length co75, .slice Ao76 t846.length co76] 37 (0, 0)) (fq BK849.out) hb); replace HB := aM (bT bq hb); (try clear hb)))
             go_meet
             case rel => exact ⟨_, (true), (ex), H', ⟨by have := HJ6.out; have := HK2.out; first | omega | exact Nat.le_refl _⟩, ⟨by (with_reducible repeat (first | apply Kd.S_alloc | apply Kd.S_drewN | apply Kd.S_drew)); exact Kd.S_mono HO_7.out jq⟩, aM (rq (rM HO_814002.out jq)), aM (rq (rM HO_814003.out jq)), aM (rq (rM HO_823002.out jq)), aM (rq (rM HO_823003.out jq)), aM (rq (rM HO830.out jq)), aM (rq (rM HO833.out jq)), aM (rq (rM HO836.out jq)), aM (rq (rM HO842.out jq)), aM (rq (rM HO845.out jq)), aM (rq (rM HO848.out jq)), aM (kq BK813.out), aM (kq BK822.out), aM (kq BK837.out), aM (kq BK849.out), ⟨bq⟩⟩
           ·rw [if_neg c78] at H
            have c78b0 : (t838 == 0) = false := beq_eq_false_iff_ne.mpr c78
            have c78b1 : (t838 != 0) = true := bne_iff_ne.mpr c78
            have H' := aM H
            clear H
            have hnb112 := NB837_813.out
            have hnc112 := NB813_837.out
            have hnb113 := NB837_822.out
            have hnc113 := NB822_837.out
            have hnb114 := NB837_849.out
            have hnc114 := NB849_837.out
            have hcz115_0 : w69.cell? ⟨gb837, 0, none⟩ = some (.int .i64 t826) := cc
            have hcz115_1 : w69.cell? ⟨gb837, 1, none⟩ = some (.int .i64 t827) := cc
            have hcz115_2 : w69.cell? ⟨gb837, 2, none⟩ = some (.slice Ao55 t828.length co55) := cc
            have hcz115_3 : w69.cell? ⟨gb837, 3, none⟩ = some (.slice Ao57 t831.length co57) := cc
            have hcz115_4 : w69.cell? ⟨gb837, 4, none⟩ = some (.slice Ao59 t834.length co59) := cc
            have hfz115_0 := kF BK837.out 0
            have hfz115_1 := kF BK837.out 1
            have hfz115_2 := kF BK837.out 2
            have hfz115_3 := kF BK837.out 3
            have hfz115_4 := kF BK837.out 4
            have hnb116 := NB849_813.out
            have hnc116 := NB813_849.out
            have hnb117 := NB849_822.out
            have hnc117 := NB822_849.out
            have hcz118_0 : w69.cell? ⟨gb849, 0, none⟩ = some (.int .i64 0) := cc
            have hcz118_1 : w69.cell? ⟨gb849, 1, none⟩ = some (.int .i64 0) := cc
            have hcz118_2 : w69.cell? ⟨gb849, 2, none⟩ = some (.slice none 0 0) := cc
            have hcz118_3 : w69.cell? ⟨gb849, 3, none⟩ = some (.slice none 0 0) := cc
            have hcz118_4 : w69.cell? ⟨gb849, 4, none⟩ = some (.slice none 0 0) := cc
            have hfz118_0 := kF BK849.out 0
            have hfz118_1 := kF BK849.out 1
            have hfz118_2 := kF BK849.out 2
            have hfz118_3 := kF BK849.out 3
            have hfz118_4 := kF BK849.out 4
            go_wp2
            go_meet
            case rel => exact ⟨_, (true), (ex), H', ⟨by have := HJ6.out; have := HK2.out; first | omega | exact Nat.le_refl _⟩, ⟨by (with_reducible repeat (first | apply Kd.S_alloc | apply Kd.S_drewN | apply Kd.S_drew)); exact Kd.S_mono (Kd.S_far (p := ⟨gb849, 4, none⟩) (Kd.S_far (p := ⟨gb849, 3, none⟩) (Kd.S_far (p := ⟨gb849, 2, none⟩) (Kd.S_far (p := ⟨gb849, 1, none⟩) (Kd.S_far (p := ⟨gb849, 0, none⟩) (Kd.S_types HO_7.out BK849.out (by decide)) (fun _ hk => hk.2) (.int .i64 t838)) (fun _ hk => hk.2) (.int .i64 t839)) (fun _ hk => hk.2) (.slice Ao74 t840.length co74)) (fun _ hk => hk.2) (.slice Ao75 t843.length co75)) (fun _ hk => hk.2) (.slice Ao76 t846.length co76)) jq⟩, aM (rM (rf (Kd.R_types HO_814002.out BK849.out (by decide))) jq), aM (rM (rf (Kd.R_types HO_814003.out BK849.out (by decide))) jq), aM (rM (rf (Kd.R_types HO_823002.out BK849.out (by decide))) jq), aM (rM (rf (Kd.R_types HO_823003.out BK849.out (by decide))) jq), aM (rM (rf (Kd.R_types HO830.out BK849.out (by decide))) jq), aM (rM (rf (Kd.R_types HO833.out BK849.out (by decide))) jq), aM (rM (rf (Kd.R_types HO836.out BK849.out (by decide))) jq), aM (rM (rf (Kd.R_types HO842.out BK849.out (by decide))) jq), aM (rM (rf (Kd.R_types HO845.out BK849.out (by decide))) jq), aM (rM (rf (Kd.R_types HO848.out BK849.out (by decide))) jq), aM (fq BK813.out), aM (fq BK822.out), aM (fq BK837.out), aM (fq BK849.out), ⟨bq⟩⟩
          ·rw [if_neg c77] at H
           have c77b0 : (t826 == 0) = false := beq_eq_false_iff_ne.mpr c77
           have c77b1 : (t826 != 0) = true := bne_iff_ne.mpr c77
           (first | rw [c77b0] | (simp only [i64_w, i32_w]; rw [c77b0]) | skip)
           have H' := aM H
           clear H
           have hnb119 := NB837_813.out
           have hnc119 := NB813_837.out
           have hnb120 := NB837_822.out
           have hnc120 := NB822_837.out
           have hnb121 := NB837_849.out
           have hnc121 := NB849_837.out
           have hcz122_0 : w69.cell? ⟨gb837, 0, none⟩ = some (.int .i64 t826) := cc
           have hcz122_1 : w69.cell? ⟨gb837, 1, none⟩ = some (.int .i64 t827) := cc
           have hcz122_2 : w69.cell? ⟨gb837, 2, none⟩ = some (.slice Ao55 t828.length co55) := cc
           have hcz122_3 : w69.cell? ⟨gb837, 3, none⟩ = some (.slice Ao57 t831.length co57) := cc
           have hcz122_4 : w69.cell? ⟨gb837, 4, none⟩ = some (.slice Ao59 t834.length co59) := cc
           have hfz122_0 := kF BK837.out 0
           have hfz122_1 := kF BK837.out 1
           have hfz122_2 := kF BK837.out 2
           have hfz122_3 := kF BK837.out 3
           have hfz122_4 := kF BK837.out 4
           go_wp2
           go_meet
           case rel => exact ⟨_, (true), (ex), H', ⟨by have := HJ6.out; have := HK2.out; first | omega | exact Nat.le_refl _⟩, ⟨by (with_reducible repeat (first | apply Kd.S_alloc | apply Kd.S_drewN | apply Kd.S_drew)); exact Kd.S_mono (Kd.S_far (p := ⟨gb849, 4, none⟩) (Kd.S_far (p := ⟨gb849, 3, none⟩) (Kd.S_far (p := ⟨gb849, 2, none⟩) (Kd.S_far (p := ⟨gb849, 1, none⟩) (Kd.S_far (p := ⟨gb849, 0, none⟩) (Kd.S_types HO_7.out BK849.out (by decide)) (fun _ hk => hk.2) (.int .i64 t838)) (fun _ hk => hk.2) (.int .i64 t839)) (fun _ hk => hk.2) (.slice Ao74 t840.length co74)) (fun _ hk => hk.2) (.slice Ao75 t843.length co75)) (fun _ hk => hk.2) (.slice Ao76 t846.length co76)) jq⟩, aM (rM (rf (Kd.R_types HO_814002.out BK849.out (by decide))) jq), aM (rM (rf (Kd.R_types HO_814003.out BK849.out (by decide))) jq), aM (rM (rf (Kd.R_types HO_823002.out BK849.out (by decide))) jq), aM (rM (rf (Kd.R_types HO_823003.out BK849.out (by decide))) jq), aM (rM (rf (Kd.R_types HO830.out BK849.out (by decide))) jq), aM (rM (rf (Kd.R_types HO833.out BK849.out (by decide))) jq), aM (rM (rf (Kd.R_types HO836.out BK849.out (by decide))) jq), aM (rM (rf (Kd.R_types HO842.out BK849.out (by decide))) jq), aM (rM (rf (Kd.R_types HO845.out BK849.out (by decide))) jq), aM (rM (rf (Kd.R_types HO848.out BK849.out (by decide))) jq), aM (fq BK813.out), aM (fq BK822.out), aM (fq BK837.out), aM (fq BK849.out), ⟨bq⟩⟩
         case rest =>
          clear HC45
          try clear c1
          try clear c2
          try clear p2
          try clear c6
          try clear c7
          try clear c8
          try clear c9
          try clear c10
          try clear c11
          try clear c12
          try clear c20
          try clear c29
          try clear c61
          try clear c62
          try clear c64
          try clear c70
          try clear c71
          try clear c72
          try clear c77
          try clear c77b0
          try clear c77b1
          try clear c78
          try clear c78b0
          try clear c78b1
          try clear c80
          try clear c80b0
          try clear c80b1
          try clear c82
          try clear c82b0
          try clear c82b1
          try clear c83
          try clear c84
          try clear c85
          try clear c87
          try clear c88
          try clear c94
          try clear c95
          try clear c96
          try clear c98
          try clear c99
          try clear c104
          try clear c105
          try clear c106
          try clear c108
          try clear c109
          try clear c112
          try clear c113
          try clear c114
          try clear c116
          try clear c117
          try clear c119
          try clear c120
          try clear c121
          try clear hcz100_0
          try clear hcz100_1
          try clear hcz100_2
          try clear hcz100_3
          try clear hcz100_4
          try clear hcz102_0
          try clear hcz102_1
          try clear hcz102_2
          try clear hcz102_3
          try clear hcz102_4
          try clear hcz107_0
          try clear hcz107_1
          try clear hcz107_2
          try clear hcz107_3
          try clear hcz107_4
          try clear hcz110_0
          try clear hcz110_1
          try clear hcz110_2
          try clear hcz110_3
          try clear hcz110_4
          try clear hcz115_0
          try clear hcz115_1
          try clear hcz115_2
          try clear hcz115_3
          try clear hcz115_4
          try clear hcz118_0
          try clear hcz118_1
          try clear hcz118_2
          try clear hcz118_3
          try clear hcz118_4
          try clear hcz122_0
          try clear hcz122_1
          try clear hcz122_2
          try clear hcz122_3
          try clear hcz122_4
          try clear hcz63_0
          try clear hcz63_1
          try clear hcz63_2
          try clear hcz63_3
          try clear hcz65_0
          try clear hcz65_1
          try clear hcz65_2
          try clear hcz65_3
          try clear hcz65_4
          try clear hcz73_0
          try clear hcz73_1
          try clear hcz73_2
          try clear hcz73_3
          try clear hcz73_4
          try clear hcz86_0
          try clear hcz86_1
          try clear hcz86_2
          try clear hcz86_3
          try clear hcz86_4
          try clear hcz89_0
          try clear hcz89_1
          try clear hcz89_2
          try clear hcz89_3
          try clear hcz89_4
          try clear hcz91_0
          try clear hcz91_1
          try clear hcz91_2
          try clear hcz91_3
          try clear hcz91_4
          try clear hcz93_0
          try clear hcz93_1
          try clear hcz93_2
          try clear hcz93_3
          try clear hcz93_4
          try clear hcz97_0
          try clear hcz97_1
          try clear hcz97_2
          try clear hcz97_3
          try clear hcz97_4
          try clear hfz100_0
          try clear hfz100_1
          try clear hfz100_2
          try clear hfz100_3
          try clear hfz100_4
          try clear hfz102_0
          try clear hfz102_1
          try clear hfz102_2
          try clear hfz102_3
          try clear hfz102_4
          try clear hfz107_0
          try clear hfz107_1
          try clear hfz107_2
          try clear hfz107_3
          try clear hfz107_4
          try clear hfz110_0
          try clear hfz110_1
          try clear hfz110_2
          try clear hfz110_3
          try clear hfz110_4
          try clear hfz115_0
          try clear hfz115_1
          try clear hfz115_2
          try clear hfz115_3
          try clear hfz115_4
          try clear hfz118_0
          try clear hfz118_1
          try clear hfz118_2
          try clear hfz118_3
          try clear hfz118_4
          try clear hfz122_0
          try clear hfz122_1
          try clear hfz122_2
          try clear hfz122_3
          try clear hfz122_4
          try clear hfz63_0
          try clear hfz63_1
          try clear hfz63_2
          try clear hfz63_3
          try clear hfz65_0
          try clear hfz65_1
          try clear hfz65_2
          try clear hfz65_3
          try clear hfz65_4
          try clear hfz73_0
          try clear hfz73_1
          try clear hfz73_2
          try clear hfz73_3
          try clear hfz73_4
          try clear hfz86_0
          try clear hfz86_1
          try clear hfz86_2
          try clear hfz86_3
          try clear hfz86_4
          try clear hfz89_0
          try clear hfz89_1
          try clear hfz89_2
          try clear hfz89_3
          try clear hfz89_4
          try clear hfz91_0
          try clear hfz91_1
          try clear hfz91_2
          try clear hfz91_3
          try clear hfz91_4
          try clear hfz93_0
          try clear hfz93_1
          try clear hfz93_2
          try clear hfz93_3
          try clear hfz93_4
          try clear hfz97_0
          try clear hfz97_1
          try clear hfz97_2
          try clear hfz97_3
          try clear hfz97_4
          obtain ⟨kq, x92_44, rfl, HA, HJ44, HO_7, HO_814002, HO_814003, HO_823002, HO_823003, HO_838002, HO_838003, HO_838004, HO_850002, HO_850003, HO_850004, BK813, BK822, BK837, BK849, HB⟩ := hcut
          cases kq with
          | zero => exact absurd HA.out (by simp [laws_FnLaps.j2])
          | succ kj44 =>
           have H := HA.out
           clear HA
           simp only [laws_FnLaps.j2] at H
           by_cases c123 : x92_44 = true
           ·subst c123
            have H1 : (some false) = some r := by rw [if_pos rfl] at H; exact H
            clear H
            have H := H1
            clear H1
            exact absurd (H.trans (congrArg some HLAW.out)) (by simp)
           ·replace c123 := Bool.eq_false_iff.mpr c123
            subst c123
            have H1 : (if x10_2 ≥ 2 then (if 0 ≤ (wrap64 (x10_2 - 2)) then (if (wrap64 (x10_2 - 2)) < (t802.length : Int) then ((laws_lwNums.f kj44 t846 ((rd_T84 t802 (wrap64 (x10_2 - 2))).f0)).bind fun t853 => (if t853 = true then (laws_FnLaps.l0 kj44 t798 t802 (wrap64 (x10_2 + 1)) t805 t827 t828 t831 t814 t839 t840 t843) else (some false))) else (none)) else (none)) else (laws_FnLaps.l0 kj44 t798 t802 (wrap64 (x10_2 + 1)) t805 t827 t828 t831 t814 t839 t840 t843)) = some r := by rw [if_neg (show ¬ (false = true) by decide)] at H; exact H
            clear H
            have H := H1
            clear H1
            by_cases c124 : x10_2 ≥ 2
            ·rw [if_pos c124] at H
             have c124b0 : decide (2 ≤ x10_2) = true := decide_eq_true c124
             clear c124
             obtain ⟨ji125, hji125⟩ : ∃ j_ : Int, (wrap64 (x10_2 - 2)) = j_ := ⟨_, rfl⟩
             replace H : (if 0 ≤ (ji125) then (if (ji125) < (t802.length : Int) then ((laws_lwNums.f kj44 t846 ((rd_T84 t802 (ji125)).f0)).bind fun t853 => (if t853 = true then (laws_FnLaps.l0 kj44 t798 t802 (wrap64 (x10_2 + 1)) t805 t827 t828 t831 t814 t839 t840 t843) else (some false))) else (none)) else (none)) = some r := by first | (rw [hji125] at H; exact H) | (simp only [hji125] at H ⊢; exact H)
             have hji125w : (IntKind.i64.wrap (x10_2 - 2)) = ji125 := (i64_w _).trans hji125
             by_cases c126 : 0 ≤ (ji125)
             ·rw [if_pos c126] at H
              have c126b0 : decide (0 ≤ (ji125)) = true := decide_eq_true c126
              clear c126
              by_cases c127 : (ji125) < (t802.length : Int)
              ·rw [if_pos c127] at H
               have c127b0 : decide ((ji125) < (t802.length : Int)) = true := decide_eq_true c127
               clear c127
               replace H := bo H
               obtain ⟨t853, A128, H⟩ := H
               replace H := bz H
               by_cases c129 : t853 = true
               ·subst c129
                have H1 : (laws_FnLaps.l0 kj44 t798 t802 (wrap64 (x10_2 + 1)) t805 t827 t828 t831 t814 t839 t840 t843) = some r := by rw [if_pos rfl] at H; exact H
                clear H
                have H := H1
                clear H1
                have H' := aM H
                clear H
                try go_wp2
                replace HO_7 := aM (Kd.S_drew HO_7.out)
                replace HO_814002 := aM (rD HO_814002.out)
                replace HO_814003 := aM (rD HO_814003.out)
                replace HO_823002 := aM (rD HO_823002.out)
                replace HO_823003 := aM (rD HO_823003.out)
                replace HO_838002 := aM (rD HO_838002.out)
                replace HO_838003 := aM (rD HO_838003.out)
                replace HO_838004 := aM (rD HO_838004.out)
                replace HO_850002 := aM (rD HO_850002.out)
                replace HO_850003 := aM (rD HO_850003.out)
                replace HO_850004 := aM (rD HO_850004.out)
                replace BK813 := aM (kD BK813.out)
                replace BK822 := aM (kD BK822.out)
                replace BK837 := aM (kD BK837.out)
                replace BK849 := aM (kD BK849.out)
                replace HB := aM (bD HB.out)
                have p852 : 0 ≤ ((ji125) : Int) := of_decide_eq_true (by first | (with_reducible assumption) | assumption)
                have q852 : (ji125) < (t802.length : Int) := of_decide_eq_true (by first | (with_reducible assumption) | assumption)
                obtain ⟨ad852, A852_0, c852_0, e852, hx852_0, hx852_1, hx852_2, hx852_3, hx852_4, hx852_5, hx852_6, hx852_7, hx852_8, hx852_9, hx852_10, hx852_11, hx852_12, hl852_0, hi852_0⟩ := at_T84 (Kd.S_reads' HO_7.out).2.2 (ji125) p852 q852
                obtain rfl : ad825 = ad852 := (by injection e852)
                obtain ⟨ce852, hce852, hMe852, hcc852⟩ := Kd.S_get HO_7.out z84 (ji125) p852 (by first | exact q852 | exact of_decide_eq_true (by first | (with_reducible assumption) | assumption) | (have e_ := (Kd.S_reads' HO_7.out).1; omega))
                obtain ⟨ve852_0, rfl, ge852_0⟩ := k84_openM hMe852
                have hv852_0 := hcc852 0 _ rfl
                rw [Nat.add_zero] at hv852_0
                replace hv852_0 := Option.some.inj (hv852_0.symm.trans hx852_0)
                rw [hv852_0] at ge852_0
                have HL852_0 := aM (show Kd.R (Kd.int .i64) 2 _ _ _ _ ((rd_T84 t802 (ji125)).f0) from ge852_0)
                clear hv852_0 ge852_0 hcc852 hce852
                have HR852_0 := aM hi852_0
                have HC852_0 := aM hl852_0
                clear hi852_0 hl852_0
                replace p852 := eq_true p852
                replace q852 := eq_true q852
                refine start_ (n := 14) (S := fun w' => w'.cell? ⟨gb849, 0, none⟩ = some (.int .i64 t838) ∧ w'.cell? ⟨gb849, 1, none⟩ = some (.int .i64 t839) ∧ w'.cell? ⟨gb849, 2, none⟩ = some (.slice Ao74 t840.length co74) ∧ w'.cell? ⟨gb849, 3, none⟩ = some (.slice Ao75 t843.length co75) ∧ w'.cell? ⟨gb849, 4, none⟩ = some (.slice Ao76 t846.length co76) ∧ w'.cell? (ad825.add (((ji125)).toNat * 13)) = some (.slice A852_0 ((rd_T84 t802 (ji125)).f0).length c852_0) ∧ w'.cell? ⟨(ad825.add (((ji125)).toNat * 13)).block, (ad825.add (((ji125)).toNat * 13)).off + 1, none⟩ = some (.int .i64 ((rd_T84 t802 (ji125)).f1.f0)) ∧ w'.cell? ⟨(ad825.add (((ji125)).toNat * 13)).block, (ad825.add (((ji125)).toNat * 13)).off + 2, none⟩ = some (.int .i64 ((rd_T84 t802 (ji125)).f1.f1)) ∧ w'.cell? ⟨(ad825.add (((ji125)).toNat * 13)).block, (ad825.add (((ji125)).toNat * 13)).off + 3, none⟩ = some (.int .i64 ((rd_T84 t802 (ji125)).f1.f2)) ∧ w'.cell? ⟨(ad825.add (((ji125)).toNat * 13)).block, (ad825.add (((ji125)).toNat * 13)).off + 4, none⟩ = some (.int .i64 ((rd_T84 t802 (ji125)).f1.f3)) ∧ w'.cell? ⟨(ad825.add (((ji125)).toNat * 13)).block, (ad825.add (((ji125)).toNat * 13)).off + 5, none⟩ = some (.int .i64 ((rd_T84 t802 (ji125)).f2.f0)) ∧ w'.cell? ⟨(ad825.add (((ji125)).toNat * 13)).block, (ad825.add (((ji125)).toNat * 13)).off + 6, none⟩ = some (.int .i64 ((rd_T84 t802 (ji125)).f2.f1)) ∧ w'.cell? ⟨(ad825.add (((ji125)).toNat * 13)).block, (ad825.add (((ji125)).toNat * 13)).off + 7, none⟩ = some (.int .i64 ((rd_T84 t802 (ji125)).f2.f2)) ∧ w'.cell? ⟨(ad825.add (((ji125)).toNat * 13)).block, (ad825.add (((ji125)).toNat * 13)).off + 8, none⟩ = some (.int .i64 ((rd_T84 t802 (ji125)).f2.f3)) ∧ w'.cell? ⟨(ad825.add (((ji125)).toNat * 13)).block, (ad825.add (((ji125)).toNat * 13)).off + 9, none⟩ = some (.int .i64 ((rd_T84 t802 (ji125)).f3.f0)) ∧ w'.cell? ⟨(ad825.add (((ji125)).toNat * 13)).block, (ad825.add (((ji125)).toNat * 13)).off + 10, none⟩ = some (.int .i64 ((rd_T84 t802 (ji125)).f3.f1)) ∧ w'.cell? ⟨(ad825.add (((ji125)).toNat * 13)).block, (ad825.add (((ji125)).toNat * 13)).off + 11, none⟩ = some (.int .i64 ((rd_T84 t802 (ji125)).f3.f2)) ∧ w'.cell? ⟨(ad825.add (((ji125)).toNat * 13)).block, (ad825.add (((ji125)).toNat * 13)).off + 12, none⟩ = some (.int .i64 ((rd_T84 t802 (ji125)).f3.f3))) (ds := []) #[N,N,N,N,N,N,N,N,N,N,N,N,N,N] kr rfl rfl ⟨cc, cc, cc, cc, cc, hx852_0, hx852_1, hx852_2, hx852_3, hx852_4, hx852_5, hx852_6, hx852_7, hx852_8, hx852_9, hx852_10, hx852_11, hx852_12⟩ (fun hHeld => ?_); refine with_tabW laws_FnLaps.tab15 laws_FnLaps.bits15 (fun HT_ HW_ => ?_)
                generalize wc.drew = w130 at HO_7 HO_814002 HO_814003 HO_823002 HO_823003 HO_838002 HO_838003 HO_838004 HO_850002 HO_850003 HO_850004 BK813 BK822 BK837 BK849 HB HL852_0 HR852_0 hx852_0 hx852_1 hx852_10 hx852_11 hx852_12 hx852_2 hx852_3 hx852_4 hx852_5 hx852_6 hx852_7 hx852_8 hx852_9 hHeld ⊢
                refine pp HT_ (N := some 93) 0 #[Y,N,N,N,N,N,N,N,N,N,N,N,N,N] ?_
                refine pp HT_ (N := some 94) 1 #[Y,Y,N,N,N,N,N,N,N,N,N,N,N,N] ?_
                refine pp HT_ (N := some 95) 2 #[Y,Y,Y,N,N,N,N,N,N,N,N,N,N,N] ?_
                refine pp HT_ (N := some 96) 3 #[Y,Y,Y,Y,N,N,N,N,N,N,N,N,N,N] ?_
                refine pp HT_ (N := some 98) 5 #[Y,Y,Y,Y,N,Y,N,N,N,N,N,N,N,N] ?_
                refine pp HT_ (N := some 99) 6 #[Y,Y,Y,Y,N,Y,Y,N,N,N,N,N,N,N] ?_
                refine pp HT_ (N := some 100) 7 #[Y,Y,Y,Y,N,Y,Y,Y,N,N,N,N,N,N] ?_
                refine pp HT_ (N := some 101) 8 #[Y,Y,Y,Y,N,Y,Y,Y,Y,N,N,N,N,N] ?_
                refine pp HT_ (N := some 102) 9 #[Y,Y,Y,Y,N,Y,Y,Y,Y,Y,N,N,N,N] ?_
                refine tt HT_ HW_ (N := some 97) 4 #[Y,Y,Y,Y,Y,Y,Y,Y,Y,Y,N,N,N,N] hHeld ?_ (hy := by rintro w' ⟨s0, s1, s2, s3, s4, s5, s6, s7, s8, s9, s10, s11, s12, s13, s14, s15, s16, s17⟩; go_simp; with_reducible rfl)
                refine tt HT_ HW_ (N := some 103) 10 #[Y,Y,Y,Y,Y,Y,Y,Y,Y,Y,Y,N,N,N] hHeld ?_ (hy := by rintro w' ⟨s0, s1, s2, s3, s4, s5, s6, s7, s8, s9, s10, s11, s12, s13, s14, s15, s16, s17⟩; go_simp; with_reducible rfl)
                refine oo HT_ (N := some 104) 11 #[Y,Y,Y,Y,Y,Y,Y,Y,Y,Y,Y,Y,N,N] (fun K hK => ?_)
                refine goes_ Try.func44 kr rfl #[.slice Ao76 t846.length co76, .slice A852_0 ((rd_T84 t802 (ji125)).f0).length c852_0] (by rfl) rfl rfl (by (try simp only [List.map_toArray, List.map_cons, List.map_nil]); first | done | (simp only [hji125]; rfl) | rfl | (simp only [List.length_drop, List.length_take]; rfl)) ?_
                with_reducible refine (laws_lwNums.calls kj44 _ _ t846 _ _ ((rd_T84 t802 (ji125)).f0) true _ ?side1 ?side2 ?side3 ?side4 A128.out).mono ?_
                (case side1 => exact cq (rR HO_850004.out).2.2)
                (case side2 => exact (rR HO_850004.out).2.1)
                (case side3 => repeat (first | exact (by repeat (first | (with_reducible exact HR852_0.out) | (with_reducible refine cA ?_ _) | (with_reducible refine cN ?_ _) | (with_reducible refine cD ?_) | exact HR852_0.out)) | (with_reducible refine cA ?_ _) | (with_reducible refine cN ?_ _) | (with_reducible refine cD ?_)))
                (case side4 => exact HC852_0.out)
                rintro e w131 ⟨rfl, hdr_⟩; have hb := Drawn0.below hdr_
                have HS5_ := (hb.cell (World.block_lt_of_cell? _ _ (hHeld.2.2.2.2.2.1))).trans (hHeld.2.2.2.2.2.1)
                have HS6_ := (hb.cell (World.block_lt_of_cell? _ _ (hHeld.2.2.2.2.2.2.1))).trans (hHeld.2.2.2.2.2.2.1)
                have HS7_ := (hb.cell (World.block_lt_of_cell? _ _ (hHeld.2.2.2.2.2.2.2.1))).trans (hHeld.2.2.2.2.2.2.2.1)
                have HS8_ := (hb.cell (World.block_lt_of_cell? _ _ (hHeld.2.2.2.2.2.2.2.2.1))).trans (hHeld.2.2.2.2.2.2.2.2.1)
                have HS9_ := (hb.cell (World.block_lt_of_cell? _ _ (hHeld.2.2.2.2.2.2.2.2.2.1))).trans (hHeld.2.2.2.2.2.2.2.2.2.1)
                have HS10_ := (hb.cell (World.block_lt_of_cell? _ _ (hHeld.2.2.2.2.2.2.2.2.2.2.1))).trans (hHeld.2.2.2.2.2.2.2.2.2.2.1)
                have HS11_ := (hb.cell (World.block_lt_of_cell? _ _ (hHeld.2.2.2.2.2.2.2.2.2.2.2.1))).trans (hHeld.2.2.2.2.2.2.2.2.2.2.2.1)
                have HS12_ := (hb.cell (World.block_lt_of_cell? _ _ (hHeld.2.2.2.2.2.2.2.2.2.2.2.2.1))).trans (hHeld.2.2.2.2.2.2.2.2.2.2.2.2.1)
                have HS13_ := (hb.cell (World.block_lt_of_cell? _ _ (hHeld.2.2.2.2.2.2.2.2.2.2.2.2.2.1))).trans (hHeld.2.2.2.2.2.2.2.2.2.2.2.2.2.1)
                have HS14_ := (hb.cell (World.block_lt_of_cell? _ _ (hHeld.2.2.2.2.2.2.2.2.2.2.2.2.2.2.1))).trans (hHeld.2.2.2.2.2.2.2.2.2.2.2.2.2.2.1)
                have HS15_ := (hb.cell (World.block_lt_of_cell? _ _ (hHeld.2.2.2.2.2.2.2.2.2.2.2.2.2.2.2.1))).trans (hHeld.2.2.2.2.2.2.2.2.2.2.2.2.2.2.2.1)
                have HS16_ := (hb.cell (World.block_lt_of_cell? _ _ (hHeld.2.2.2.2.2.2.2.2.2.2.2.2.2.2.2.2.1))).trans (hHeld.2.2.2.2.2.2.2.2.2.2.2.2.2.2.2.2.1)
                have HS17_ := (hb.cell (World.block_lt_of_cell? _ _ (hHeld.2.2.2.2.2.2.2.2.2.2.2.2.2.2.2.2.2))).trans (hHeld.2.2.2.2.2.2.2.2.2.2.2.2.2.2.2.2.2)
                refine ⟨_, rfl, ?_⟩
                replace HO_7 := aM (Kd.S_below (by (with_reducible repeat (first | apply Kd.S_alloc | apply Kd.S_drewN | apply Kd.S_drew)); exact HO_7.out) hb)
                replace HO_814002 := aM (rL (rq HO_814002.out) hb)
                replace HO_814003 := aM (rL (rq HO_814003.out) hb)
                replace HO_823002 := aM (rL (rq HO_823002.out) hb)
                replace HO_823003 := aM (rL (rq HO_823003.out) hb)
                replace HO_838002 := aM (rL (rq HO_838002.out) hb)
                replace HO_838003 := aM (rL (rq HO_838003.out) hb)
                replace HO_838004 := aM (rL (rq HO_838004.out) hb)
                replace HO_850002 := aM (rL (rq HO_850002.out) hb)
                replace HO_850003 := aM (rL (rq HO_850003.out) hb)
                replace HO_850004 := aM (rL (rq HO_850004.out) hb)
                replace HL852_0 := aM (rL (rq HL852_0.out) hb)
                replace BK813 := aM (kB (kq BK813.out) hb)
                replace BK822 := aM (kB (kq BK822.out) hb)
                replace BK837 := aM (kB (kq BK837.out) hb)
                replace BK849 := aM (kB (kq BK849.out) hb)
                replace HR852_0 := aM (cB (by repeat (first | (with_reducible exact HR852_0.out) | (with_reducible refine cA ?_ _) | (with_reducible refine cN ?_ _) | (with_reducible refine cD ?_) | exact HR852_0.out)) hb)
                replace HB := aM (bT bq hb)
                (try clear hb)
                (try clear hb2)
                (try clear hk)
                (try clear hi)
                refine hK.out _ _ ⟨cc, cc, cc, cc, cc, HS5_, HS6_, HS7_, HS8_, HS9_, HS10_, HS11_, HS12_, HS13_, HS14_, HS15_, HS16_, HS17_⟩ (fun hHeld => ?_)
                clear hK K
                refine nn ?_
                refine pp HT_ (N := some 105) 12 #[Y,Y,Y,Y,Y,Y,Y,Y,Y,Y,Y,Y,Y,N] ?_
                refine pp HT_ (N := some 106) 13 #[Y,Y,Y,Y,Y,Y,Y,Y,Y,Y,Y,Y,Y,Y] ?_
                refine done_ (done_of HT_.out kr) ?_
                have hnb132 := NB837_813.out
                have hnc132 := NB813_837.out
                have hnb133 := NB837_822.out
                have hnc133 := NB822_837.out
                have hnb134 := NB837_849.out
                have hnc134 := NB849_837.out
                have hcz135_0 : w131.cell? ⟨gb837, 0, none⟩ = some (.int .i64 t826) := cc
                have hcz135_1 : w131.cell? ⟨gb837, 1, none⟩ = some (.int .i64 t827) := cc
                have hcz135_2 : w131.cell? ⟨gb837, 2, none⟩ = some (.slice Ao55 t828.length co55) := cc
                have hcz135_3 : w131.cell? ⟨gb837, 3, none⟩ = some (.slice Ao57 t831.length co57) := cc
                have hcz135_4 : w131.cell? ⟨gb837, 4, none⟩ = some (.slice Ao59 t834.length co59) := cc
                have hfz135_0 := kF BK837.out 0
                have hfz135_1 := kF BK837.out 1
                have hfz135_2 := kF BK837.out 2
                have hfz135_3 := kF BK837.out 3
                have hfz135_4 := kF BK837.out 4
                have hnb136 := NB813_822.out
                have hnc136 := NB822_813.out
                have hnb137 := NB813_849.out
                have hnc137 := NB849_813.out
                have hcz138_0 : w131.cell? ⟨gb813, 0, none⟩ = some (.int .i64 t805) := cc
                have hcz138_1 : w131.cell? ⟨gb813, 1, none⟩ = some (.int .i64 x814001_2) := cc
                have hcz138_2 : w131.cell? ⟨gb813, 2, none⟩ = some (.slice Ao47 x814002_2.length co47) := cc
                have hcz138_3 : w131.cell? ⟨gb813, 3, none⟩ = some (.slice Ao48 x814003_2.length co48) := cc
                have hfz138_0 := kF BK813.out 0
                have hfz138_1 := kF BK813.out 1
                have hfz138_2 := kF BK813.out 2
                have hfz138_3 := kF BK813.out 3
                have hnb139 := NB849_822.out
                have hnc139 := NB822_849.out
                have hcz140_0 : w131.cell? ⟨gb849, 0, none⟩ = some (.int .i64 t838) := cc
                have hcz140_1 : w131.cell? ⟨gb849, 1, none⟩ = some (.int .i64 t839) := cc
                have hcz140_2 : w131.cell? ⟨gb849, 2, none⟩ = some (.slice Ao74 t840.length co74) := cc
                have hcz140_3 : w131.cell? ⟨gb849, 3, none⟩ = some (.slice Ao75 t843.length co75) := cc
                have hcz140_4 : w131.cell? ⟨gb849, 4, none⟩ = some (.slice Ao76 t846.length co76) := cc
                have hfz140_0 := kF BK849.out 0
                have hfz140_1 := kF BK849.out 1
                have hfz140_2 := kF BK849.out 2
                have hfz140_3 := kF BK849.out 3
                have hfz140_4 := kF BK849.out 4
                have hcz141_0 : w131.cell? ⟨gb822, 0, none⟩ = some (.int .i64 t814) := cc
                have hcz141_1 : w131.cell? ⟨gb822, 1, none⟩ = some (.int .i64 x823001_2) := cc
                have hcz141_2 : w131.cell? ⟨gb822, 2, none⟩ = some (.slice Ao66 x823002_2.length co66) := cc
                have hcz141_3 : w131.cell? ⟨gb822, 3, none⟩ = some (.slice Ao67 x823003_2.length co67) := cc
                have hfz141_0 := kF BK822.out 0
                have hfz141_1 := kF BK822.out 1
                have hfz141_2 := kF BK822.out 2
                have hfz141_3 := kF BK822.out 3
                try go_wp2
                go_roundg kj44
                case measure => have := HJ6.out; have := HK2.out; have := HJ44.out; omega
                case rel => exact ⟨(wrap64 (x10_2 + 1)), (t827), (t828), (t831), (t839), (t840), (t843), (.slice Ao55 t828.length co55), (.slice Ao57 t831.length co57), (.slice Ao74 t840.length co74), (.slice Ao75 t843.length co75), (by first | rfl | (simp; done) | (simp [*]; done)), H', ⟨by have := HJ6.out; have := HK2.out; have := HJ44.out; omega⟩, ⟨by (with_reducible repeat (first | apply Kd.S_alloc | apply Kd.S_drewN | apply Kd.S_drew)); exact Kd.S_mono (Kd.S_far (p := ⟨gb822, 3, none⟩) (Kd.S_far (p := ⟨gb822, 2, none⟩) (Kd.S_far (p := ⟨gb822, 1, none⟩) (Kd.S_far (p := ⟨gb813, 3, none⟩) (Kd.S_far (p := ⟨gb813, 2, none⟩) (Kd.S_far (p := ⟨gb813, 1, none⟩) (Kd.S_types (Kd.S_types HO_7.out BK813.out (by decide)) BK822.out (by decide)) (fun _ hk => hk.1.2) (.int .i64 t827)) (fun _ hk => hk.1.2) (.slice Ao55 t828.length co55)) (fun _ hk => hk.1.2) (.slice Ao57 t831.length co57)) (fun _ hk => hk.2) (.int .i64 t839)) (fun _ hk => hk.2) (.slice Ao74 t840.length co74)) (fun _ hk => hk.2) (.slice Ao75 t843.length co75)) jq⟩, aM (rq (rM (rF (p := ⟨gb822, 3, none⟩) (rF (p := ⟨gb822, 2, none⟩) (rF (p := ⟨gb822, 1, none⟩) (rF (p := ⟨gb813, 3, none⟩) (rF (p := ⟨gb813, 2, none⟩) (rF (p := ⟨gb813, 1, none⟩) (Kd.R_types (Kd.R_types HO_838002.out BK813.out (by decide)) BK822.out (by decide)) (fun _ hk => hk.1.2) (.int .i64 t827)) (fun _ hk => hk.1.2) (.slice Ao55 t828.length co55)) (fun _ hk => hk.1.2) (.slice Ao57 t831.length co57)) (fun _ hk => hk.2) (.int .i64 t839)) (fun _ hk => hk.2) (.slice Ao74 t840.length co74)) (fun _ hk => hk.2) (.slice Ao75 t843.length co75)) jq)), aM (rq (rM (rF (p := ⟨gb822, 3, none⟩) (rF (p := ⟨gb822, 2, none⟩) (rF (p := ⟨gb822, 1, none⟩) (rF (p := ⟨gb813, 3, none⟩) (rF (p := ⟨gb813, 2, none⟩) (rF (p := ⟨gb813, 1, none⟩) (Kd.R_types (Kd.R_types HO_838003.out BK813.out (by decide)) BK822.out (by decide)) (fun _ hk => hk.1.2) (.int .i64 t827)) (fun _ hk => hk.1.2) (.slice Ao55 t828.length co55)) (fun _ hk => hk.1.2) (.slice Ao57 t831.length co57)) (fun _ hk => hk.2) (.int .i64 t839)) (fun _ hk => hk.2) (.slice Ao74 t840.length co74)) (fun _ hk => hk.2) (.slice Ao75 t843.length co75)) jq)), aM (rq (rM (rF (p := ⟨gb822, 3, none⟩) (rF (p := ⟨gb822, 2, none⟩) (rF (p := ⟨gb822, 1, none⟩) (rF (p := ⟨gb813, 3, none⟩) (rF (p := ⟨gb813, 2, none⟩) (rF (p := ⟨gb813, 1, none⟩) (Kd.R_types (Kd.R_types HO_850002.out BK813.out (by decide)) BK822.out (by decide)) (fun _ hk => hk.1.2) (.int .i64 t827)) (fun _ hk => hk.1.2) (.slice Ao55 t828.length co55)) (fun _ hk => hk.1.2) (.slice Ao57 t831.length co57)) (fun _ hk => hk.2) (.int .i64 t839)) (fun _ hk => hk.2) (.slice Ao74 t840.length co74)) (fun _ hk => hk.2) (.slice Ao75 t843.length co75)) jq)), aM (rq (rM (rF (p := ⟨gb822, 3, none⟩) (rF (p := ⟨gb822, 2, none⟩) (rF (p := ⟨gb822, 1, none⟩) (rF (p := ⟨gb813, 3, none⟩) (rF (p := ⟨gb813, 2, none⟩) (rF (p := ⟨gb813, 1, none⟩) (Kd.R_types (Kd.R_types HO_850003.out BK813.out (by decide)) BK822.out (by decide)) (fun _ hk => hk.1.2) (.int .i64 t827)) (fun _ hk => hk.1.2) (.slice Ao55 t828.length co55)) (fun _ hk => hk.1.2) (.slice Ao57 t831.length co57)) (fun _ hk => hk.2) (.int .i64 t839)) (fun _ hk => hk.2) (.slice Ao74 t840.length co74)) (fun _ hk => hk.2) (.slice Ao75 t843.length co75)) jq)), ⟨by (with_reducible repeat (first | refine kN ?_ _ | refine kD ?_ | refine kA ?_ _)); refine blk_far ?_ NB813_822.out _; (with_reducible repeat (first | refine kN ?_ _ | refine kD ?_ | refine kA ?_ _)); refine blk_far ?_ NB813_822.out _; (with_reducible repeat (first | refine kN ?_ _ | refine kD ?_ | refine kA ?_ _)); refine blk_far ?_ NB813_822.out _; (with_reducible repeat (first | refine kN ?_ _ | refine kD ?_ | refine kA ?_ _)); refine blk_put (cs := #[.int .i64 t805, .int .i64 t827, .slice Ao55 t828.length co55, .slice Ao48 x814003_2.length co48]) ?_ 3 _ rfl; (with_reducible repeat (first | refine kN ?_ _ | refine kD ?_ | refine kA ?_ _)); refine blk_put (cs := #[.int .i64 t805, .int .i64 t827, .slice Ao47 x814002_2.length co47, .slice Ao48 x814003_2.length co48]) ?_ 2 _ rfl; (with_reducible repeat (first | refine kN ?_ _ | refine kD ?_ | refine kA ?_ _)); refine blk_put (cs := #[.int .i64 t805, .int .i64 x814001_2, .slice Ao47 x814002_2.length co47, .slice Ao48 x814003_2.length co48]) ?_ 1 _ rfl; (with_reducible repeat (first | refine kN ?_ _ | refine kD ?_ | refine kA ?_ _)); exact BK813.out⟩, ⟨by (with_reducible repeat (first | refine kN ?_ _ | refine kD ?_ | refine kA ?_ _)); refine blk_put (cs := #[.int .i64 t814, .int .i64 t839, .slice Ao74 t840.length co74, .slice Ao67 x823003_2.length co67]) ?_ 3 _ rfl; (with_reducible repeat (first | refine kN ?_ _ | refine kD ?_ | refine kA ?_ _)); refine blk_put (cs := #[.int .i64 t814, .int .i64 t839, .slice Ao66 x823002_2.length co66, .slice Ao67 x823003_2.length co67]) ?_ 2 _ rfl; (with_reducible repeat (first | refine kN ?_ _ | refine kD ?_ | refine kA ?_ _)); refine blk_put (cs := #[.int .i64 t814, .int .i64 x823001_2, .slice Ao66 x823002_2.length co66, .slice Ao67 x823003_2.length co67]) ?_ 1 _ rfl; (with_reducible repeat (first | refine kN ?_ _ | refine kD ?_ | refine kA ?_ _)); refine blk_far ?_ NB822_813.out _; (with_reducible repeat (first | refine kN ?_ _ | refine kD ?_ | refine kA ?_ _)); refine blk_far ?_ NB822_813.out _; (with_reducible repeat (first | refine kN ?_ _ | refine kD ?_ | refine kA ?_ _)); refine blk_far ?_ NB822_813.out _; (with_reducible repeat (first | refine kN ?_ _ | refine kD ?_ | refine kA ?_ _)); exact BK822.out⟩, ⟨bq⟩⟩
               ·replace c129 := Bool.eq_false_iff.mpr c129
                subst c129
                have H1 : (some false) = some r := by rw [if_neg (show ¬ (false = true) by decide)] at H; exact H
                clear H
                have H := H1
                clear H1
                exact absurd (H.trans (congrArg some HLAW.out)) (by simp)
              ·rw [if_neg c127] at H
               exact absurd H (by simp)
             ·rw [if_neg c126] at H
              exact absurd H (by simp)
            ·rw [if_neg c124] at H
             have c124b0 : decide (2 ≤ x10_2) = false := decide_eq_false c124
             clear c124
             have H' := aM H
             clear H
             try go_wp2
             replace HO_7 := aM (Kd.S_drew HO_7.out)
             replace HO_814002 := aM (rD HO_814002.out)
             replace HO_814003 := aM (rD HO_814003.out)
             replace HO_823002 := aM (rD HO_823002.out)
             replace HO_823003 := aM (rD HO_823003.out)
             replace HO_838002 := aM (rD HO_838002.out)
             replace HO_838003 := aM (rD HO_838003.out)
             replace HO_838004 := aM (rD HO_838004.out)
             replace HO_850002 := aM (rD HO_850002.out)
             replace HO_850003 := aM (rD HO_850003.out)
             replace HO_850004 := aM (rD HO_850004.out)
             replace BK813 := aM (kD BK813.out)
             replace BK822 := aM (kD BK822.out)
             replace BK837 := aM (kD BK837.out)
             replace BK849 := aM (kD BK849.out)
             replace HB := aM (bD HB.out)
             refine start_ (n := 14) (S := fun w' => True) (ds := []) #[N,N,N,N,N,N,N,N,N,N,N,N,N,N] kr rfl rfl trivial (fun hHeld => ?_); refine with_tabW laws_FnLaps.tab15 laws_FnLaps.bits15 (fun HT_ HW_ => ?_)
             generalize wc.drew = w142 at HO_7 HO_814002 HO_814003 HO_823002 HO_823003 HO_838002 HO_838003 HO_838004 HO_850002 HO_850003 HO_850004 BK813 BK822 BK837 BK849 HB hHeld ⊢
             refine pp HT_ (N := some 93) 0 #[Y,N,N,N,N,N,N,N,N,N,N,N,N,N] ?_
             refine pp HT_ (N := some 94) 1 #[Y,Y,N,N,N,N,N,N,N,N,N,N,N,N] ?_
             refine pp HT_ (N := some 95) 2 #[Y,Y,Y,N,N,N,N,N,N,N,N,N,N,N] ?_
             refine pp HT_ (N := some 96) (v := undef) 3 #[Y,Y,Y,Y,N,N,N,N,N,N,N,N,N,N] ?_ (hy := Or.inr ⟨by rfl, rfl⟩)
             refine pp HT_ (N := some 97) (v := undef) 4 #[Y,Y,Y,Y,Y,N,N,N,N,N,N,N,N,N] ?_ (hy := Or.inr ⟨by rfl, rfl⟩)
             refine pp HT_ (N := some 98) (v := undef) 5 #[Y,Y,Y,Y,Y,Y,N,N,N,N,N,N,N,N] ?_ (hy := Or.inr ⟨by rfl, rfl⟩)
             refine pp HT_ (N := some 99) (v := undef) 6 #[Y,Y,Y,Y,Y,Y,Y,N,N,N,N,N,N,N] ?_ (hy := Or.inr ⟨by rfl, rfl⟩)
             refine pp HT_ (N := some 100) (v := undef) 7 #[Y,Y,Y,Y,Y,Y,Y,Y,N,N,N,N,N,N] ?_ (hy := Or.inr ⟨by rfl, rfl⟩)
             refine pp HT_ (N := some 101) (v := undef) 8 #[Y,Y,Y,Y,Y,Y,Y,Y,Y,N,N,N,N,N] ?_ (hy := Or.inr ⟨by rfl, rfl⟩)
             refine pp HT_ (N := some 102) (v := undef) 9 #[Y,Y,Y,Y,Y,Y,Y,Y,Y,Y,N,N,N,N] ?_ (hy := Or.inr ⟨by rfl, rfl⟩)
             refine pp HT_ (N := some 103) (v := undef) 10 #[Y,Y,Y,Y,Y,Y,Y,Y,Y,Y,Y,N,N,N] ?_ (hy := Or.inr ⟨by rfl, rfl⟩)
             refine pp HT_ (N := some 104) (v := undef) 11 #[Y,Y,Y,Y,Y,Y,Y,Y,Y,Y,Y,Y,N,N] ?_ (hy := Or.inr ⟨by rfl, rfl⟩)
             refine pp HT_ (N := some 105) (v := undef) 12 #[Y,Y,Y,Y,Y,Y,Y,Y,Y,Y,Y,Y,Y,N] ?_ (hy := Or.inr ⟨by rfl, rfl⟩)
             refine pp HT_ (N := some 106) 13 #[Y,Y,Y,Y,Y,Y,Y,Y,Y,Y,Y,Y,Y,Y] ?_
             refine done_ (done_of HT_.out kr) ?_
             have hnb143 := NB837_813.out
             have hnc143 := NB813_837.out
             have hnb144 := NB837_822.out
             have hnc144 := NB822_837.out
             have hnb145 := NB837_849.out
             have hnc145 := NB849_837.out
             have hcz146_0 : w142.cell? ⟨gb837, 0, none⟩ = some (.int .i64 t826) := cc
             have hcz146_1 : w142.cell? ⟨gb837, 1, none⟩ = some (.int .i64 t827) := cc
             have hcz146_2 : w142.cell? ⟨gb837, 2, none⟩ = some (.slice Ao55 t828.length co55) := cc
             have hcz146_3 : w142.cell? ⟨gb837, 3, none⟩ = some (.slice Ao57 t831.length co57) := cc
             have hcz146_4 : w142.cell? ⟨gb837, 4, none⟩ = some (.slice Ao59 t834.length co59) := cc
             have hfz146_0 := kF BK837.out 0
             have hfz146_1 := kF BK837.out 1
             have hfz146_2 := kF BK837.out 2
             have hfz146_3 := kF BK837.out 3
             have hfz146_4 := kF BK837.out 4
             have hnb147 := NB813_822.out
             have hnc147 := NB822_813.out
             have hnb148 := NB813_849.out
             have hnc148 := NB849_813.out
             have hcz149_0 : w142.cell? ⟨gb813, 0, none⟩ = some (.int .i64 t805) := cc
             have hcz149_1 : w142.cell? ⟨gb813, 1, none⟩ = some (.int .i64 x814001_2) := cc
             have hcz149_2 : w142.cell? ⟨gb813, 2, none⟩ = some (.slice Ao47 x814002_2.length co47) := cc
             have hcz149_3 : w142.cell? ⟨gb813, 3, none⟩ = some (.slice Ao48 x814003_2.length co48) := cc
             have hfz149_0 := kF BK813.out 0
             have hfz149_1 := kF BK813.out 1
             have hfz149_2 := kF BK813.out 2
             have hfz149_3 := kF BK813.out 3
             have hnb150 := NB849_822.out
             have hnc150 := NB822_849.out
             have hcz151_0 : w142.cell? ⟨gb849, 0, none⟩ = some (.int .i64 t838) := cc
             have hcz151_1 : w142.cell? ⟨gb849, 1, none⟩ = some (.int .i64 t839) := cc
             have hcz151_2 : w142.cell? ⟨gb849, 2, none⟩ = some (.slice Ao74 t840.length co74) := cc
             have hcz151_3 : w142.cell? ⟨gb849, 3, none⟩ = some (.slice Ao75 t843.length co75) := cc
             have hcz151_4 : w142.cell? ⟨gb849, 4, none⟩ = some (.slice Ao76 t846.length co76) := cc
             have hfz151_0 := kF BK849.out 0
             have hfz151_1 := kF BK849.out 1
             have hfz151_2 := kF BK849.out 2
             have hfz151_3 := kF BK849.out 3
             have hfz151_4 := kF BK849.out 4
             have hcz152_0 : w142.cell? ⟨gb822, 0, none⟩ = some (.int .i64 t814) := cc
             have hcz152_1 : w142.cell? ⟨gb822, 1, none⟩ = some (.int .i64 x823001_2) := cc
             have hcz152_2 : w142.cell? ⟨gb822, 2, none⟩ = some (.slice Ao66 x823002_2.length co66) := cc
             have hcz152_3 : w142.cell? ⟨gb822, 3, none⟩ = some (.slice Ao67 x823003_2.length co67) := cc
             have hfz152_0 := kF BK822.out 0
             have hfz152_1 := kF BK822.out 1
             have hfz152_2 := kF BK822.out 2
             have hfz152_3 := kF BK822.out 3
             try go_wp2
             go_roundg kj44
             case measure => have := HJ6.out; have := HK2.out; have := HJ44.out; omega
             case rel => exact ⟨(wrap64 (x10_2 + 1)), (t827), (t828), (t831), (t839), (t840), (t843), (.slice Ao55 t828.length co55), (.slice Ao57 t831.length co57), (.slice Ao74 t840.length co74), (.slice Ao75 t843.length co75), (by first | rfl | (simp; done) | (simp [*]; done)), H', ⟨by have := HJ6.out; have := HK2.out; have := HJ44.out; omega⟩, ⟨by (with_reducible repeat (first | apply Kd.S_alloc | apply Kd.S_drewN | apply Kd.S_drew)); exact Kd.S_mono (Kd.S_far (p := ⟨gb822, 3, none⟩) (Kd.S_far (p := ⟨gb822, 2, none⟩) (Kd.S_far (p := ⟨gb822, 1, none⟩) (Kd.S_far (p := ⟨gb813, 3, none⟩) (Kd.S_far (p := ⟨gb813, 2, none⟩) (Kd.S_far (p := ⟨gb813, 1, none⟩) (Kd.S_types (Kd.S_types HO_7.out BK813.out (by decide)) BK822.out (by decide)) (fun _ hk => hk.1.2) (.int .i64 t827)) (fun _ hk => hk.1.2) (.slice Ao55 t828.length co55)) (fun _ hk => hk.1.2) (.slice Ao57 t831.length co57)) (fun _ hk => hk.2) (.int .i64 t839)) (fun _ hk => hk.2) (.slice Ao74 t840.length co74)) (fun _ hk => hk.2) (.slice Ao75 t843.length co75)) jq⟩, aM (rq (rM (rF (p := ⟨gb822, 3, none⟩) (rF (p := ⟨gb822, 2, none⟩) (rF (p := ⟨gb822, 1, none⟩) (rF (p := ⟨gb813, 3, none⟩) (rF (p := ⟨gb813, 2, none⟩) (rF (p := ⟨gb813, 1, none⟩) (Kd.R_types (Kd.R_types HO_838002.out BK813.out (by decide)) BK822.out (by decide)) (fun _ hk => hk.1.2) (.int .i64 t827)) (fun _ hk => hk.1.2) (.slice Ao55 t828.length co55)) (fun _ hk => hk.1.2) (.slice Ao57 t831.length co57)) (fun _ hk => hk.2) (.int .i64 t839)) (fun _ hk => hk.2) (.slice Ao74 t840.length co74)) (fun _ hk => hk.2) (.slice Ao75 t843.length co75)) jq)), aM (rq (rM (rF (p := ⟨gb822, 3, none⟩) (rF (p := ⟨gb822, 2, none⟩) (rF (p := ⟨gb822, 1, none⟩) (rF (p := ⟨gb813, 3, none⟩) (rF (p := ⟨gb813, 2, none⟩) (rF (p := ⟨gb813, 1, none⟩) (Kd.R_types (Kd.R_types HO_838003.out BK813.out (by decide)) BK822.out (by decide)) (fun _ hk => hk.1.2) (.int .i64 t827)) (fun _ hk => hk.1.2) (.slice Ao55 t828.length co55)) (fun _ hk => hk.1.2) (.slice Ao57 t831.length co57)) (fun _ hk => hk.2) (.int .i64 t839)) (fun _ hk => hk.2) (.slice Ao74 t840.length co74)) (fun _ hk => hk.2) (.slice Ao75 t843.length co75)) jq)), aM (rq (rM (rF (p := ⟨gb822, 3, none⟩) (rF (p := ⟨gb822, 2, none⟩) (rF (p := ⟨gb822, 1, none⟩) (rF (p := ⟨gb813, 3, none⟩) (rF (p := ⟨gb813, 2, none⟩) (rF (p := ⟨gb813, 1, none⟩) (Kd.R_types (Kd.R_types HO_850002.out BK813.out (by decide)) BK822.out (by decide)) (fun _ hk => hk.1.2) (.int .i64 t827)) (fun _ hk => hk.1.2) (.slice Ao55 t828.length co55)) (fun _ hk => hk.1.2) (.slice Ao57 t831.length co57)) (fun _ hk => hk.2) (.int .i64 t839)) (fun _ hk => hk.2) (.slice Ao74 t840.length co74)) (fun _ hk => hk.2) (.slice Ao75 t843.length co75)) jq)), aM (rq (rM (rF (p := ⟨gb822, 3, none⟩) (rF (p := ⟨gb822, 2, none⟩) (rF (p := ⟨gb822, 1, none⟩) (rF (p := ⟨gb813, 3, none⟩) (rF (p := ⟨gb813, 2, none⟩) (rF (p := ⟨gb813, 1, none⟩) (Kd.R_types (Kd.R_types HO_850003.out BK813.out (by decide)) BK822.out (by decide)) (fun _ hk => hk.1.2) (.int .i64 t827)) (fun _ hk => hk.1.2) (.slice Ao55 t828.length co55)) (fun _ hk => hk.1.2) (.slice Ao57 t831.length co57)) (fun _ hk => hk.2) (.int .i64 t839)) (fun _ hk => hk.2) (.slice Ao74 t840.length co74)) (fun _ hk => hk.2) (.slice Ao75 t843.length co75)) jq)), ⟨by (with_reducible repeat (first | refine kN ?_ _ | refine kD ?_ | refine kA ?_ _)); refine blk_far ?_ NB813_822.out _; (with_reducible repeat (first | refine kN ?_ _ | refine kD ?_ | refine kA ?_ _)); refine blk_far ?_ NB813_822.out _; (with_reducible repeat (first | refine kN ?_ _ | refine kD ?_ | refine kA ?_ _)); refine blk_far ?_ NB813_822.out _; (with_reducible repeat (first | refine kN ?_ _ | refine kD ?_ | refine kA ?_ _)); refine blk_put (cs := #[.int .i64 t805, .int .i64 t827, .slice Ao55 t828.length co55, .slice Ao48 x814003_2.length co48]) ?_ 3 _ rfl; (with_reducible repeat (first | refine kN ?_ _ | refine kD ?_ | refine kA ?_ _)); refine blk_put (cs := #[.int .i64 t805, .int .i64 t827, .slice Ao47 x814002_2.length co47, .slice Ao48 x814003_2.length co48]) ?_ 2 _ rfl; (with_reducible repeat (first | refine kN ?_ _ | refine kD ?_ | refine kA ?_ _)); refine blk_put (cs := #[.int .i64 t805, .int .i64 x814001_2, .slice Ao47 x814002_2.length co47, .slice Ao48 x814003_2.length co48]) ?_ 1 _ rfl; (with_reducible repeat (first | refine kN ?_ _ | refine kD ?_ | refine kA ?_ _)); exact BK813.out⟩, ⟨by (with_reducible repeat (first | refine kN ?_ _ | refine kD ?_ | refine kA ?_ _)); refine blk_put (cs := #[.int .i64 t814, .int .i64 t839, .slice Ao74 t840.length co74, .slice Ao67 x823003_2.length co67]) ?_ 3 _ rfl; (with_reducible repeat (first | refine kN ?_ _ | refine kD ?_ | refine kA ?_ _)); refine blk_put (cs := #[.int .i64 t814, .int .i64 t839, .slice Ao66 x823002_2.length co66, .slice Ao67 x823003_2.length co67]) ?_ 2 _ rfl; (with_reducible repeat (first | refine kN ?_ _ | refine kD ?_ | refine kA ?_ _)); refine blk_put (cs := #[.int .i64 t814, .int .i64 x823001_2, .slice Ao66 x823002_2.length co66, .slice Ao67 x823003_2.length co67]) ?_ 1 _ rfl; (with_reducible repeat (first | refine kN ?_ _ | refine kD ?_ | refine kA ?_ _)); refine blk_far ?_ NB822_813.out _; (with_reducible repeat (first | refine kN ?_ _ | refine kD ?_ | refine kA ?_ _)); refine blk_far ?_ NB822_813.out _; (with_reducible repeat (first | refine kN ?_ _ | refine kD ?_ | refine kA ?_ _)); refine blk_far ?_ NB822_813.out _; (with_reducible repeat (first | refine kN ?_ _ | refine kD ?_ | refine kA ?_ _)); exact BK822.out⟩, ⟨bq⟩⟩
        ·rw [if_neg c42] at H
         exact absurd H (by simp)
       ·rw [if_neg c41] at H
        have c41b0 : decide (x10_2 < (t802.length : Int)) = false := decide_eq_false c41
        clear c41
        obtain rfl := Option.some.inj H
        obtain ⟨Ao153, co153, eo153⟩ := Kd.S_slice HO_7.out
        subst eo153
        go_wp2
        go_ret
        exact ⟨ew, bq⟩

/-- THE ONE PURE STATEMENT of laws_FnLaps: yours. -/
def laws_FnLaps.Pure : Prop := ∀ (l0 : List Int), l0.length ≤ maxLen → l0.length * 1 ≤ 140737488351232 → (∀ x ∈ l0, (Lit.int .u8 x).wf = true) → ∃ k, laws_FnLaps.f k l0 = some true
theorem laws_FnLaps.walk (P : laws_FnLaps.Pure) (a0 : Option Addr) (len0 cap0 : Nat) (z0 : List Int) (w : World) (w0 : (a0 = none ∧ len0 = 0 ∧ cap0 = 0 ∧ z0 = []) ∨ ∃ x, a0 = some x ∧ len0 ≤ cap0 ∧ cap0 ≤ maxLen ∧ z0.length = cap0 ∧ (∀ i, i < z0.length → w.cell? (x.add i) = some (.int .u8 (z0.getD i 0))) ∧ ∀ n ∈ z0, (Lit.int .u8 n).wf = true) (y0 : len0 * 1 ≤ 140737488351232) :
  Calls Try.prog 8 #[.slice a0 len0 cap0] w fun e w' => e = .returned (.bool true) ∧ Below w.heap.size w w' := by
 obtain ⟨l0, rfl, hr0, hm0, hw0, hc0⟩ := ReadsInt.ofRowC w0
 obtain ⟨k, h⟩ := P l0 hm0 y0 hw0
 refine (laws_FnLaps.calls k _ _ l0 true w (Kd.C_of_reads (d := (0 : Int)) (h1 := fun _ => rfl) hr0) hc0 h).mono ?_
 rintro e w' ⟨rfl, hd⟩
 exact ⟨rfl, hd⟩

end Go.Proofs.Ytmhnpogjkbmmnaa.PFnLaps
