-- Written by a program of this session: wip/mkprint.py over the kit's print, with contracts proved by hand (wip/given.py)
-- told shortest
-- told shorter still
-- shortened
-- told short
-- worlds by letters
-- squeezed
import Derived.Test.YtmhnpogjkbmmnaaPFnFrameBoundsx0
import Derived.Test.YtmhnpogjkbmmnaaPFnFrameBoundsx5
import Derived.Test.YtmhnpogjkbmmnaaPFnFrameBoundsx7
import Derived.Test.YtmhnpogjkbmmnaaPFnFrameBoundsx8
import Derived.Test.YtmhnpogjkbmmnaaPFnFrameBoundsx11
import Derived.Test.YtmhnpogjkbmmnaaPFnFrameBoundsx12
namespace Go.Proofs.Ytmhnpogjkbmmnaa.PFnFrameBounds
open Go.RowKit Go.Proofs.YtmhnpogjkbmmnaaW.PrintWords Go.Proofs.YtmhnpogjkbmmnaaW.PrintLast Go.Proofs.YtmhnpogjkbmmnaaW.PrintMore
open Go.Proofs.YtmhnpogjkbmmnaaW.PrintWords.Kd renaming R_alloc → rA, R_drewN → rN, R_drew → rD, R_far → rF, R_mono → rM, R_base → rB, R_new' → rW, R_below → rL, R_lt → rT, R_lower → rG, R_elder' → rH, R_reads' → rR, C_below → cB
open Go.Proofs.YtmhnpogjkbmmnaaW.PrintMore.Kd renaming R_told → rO, R_old → rE
open Go.Proofs.YtmhnpogjkbmmnaaW.PrintWords renaming below_drew1 → bD, below_step → bT, below_size → bZ, blk_drewN → kN, blk_drew → kD, blk_alloc → kA, blk_below → kB, blk_cell → kC, blk_frozen → kF
open Go.Proofs.YtmhnpogjkbmmnaaW.PrintWords.Aside0 renaming mk → aM
attribute [local go_sem] max2_int min2_int max_two min_two max_three min_three max_four min_four   -- for this text's walks alone
set_option linter.unusedVariables false
set_option linter.unusedSimpArgs false

/-! ### impl_PlayBlock: function 20 -/
def impl_PlayBlock.f (k : Nat) (a0_0 : Int) (l0_1 : List Int) (l0_2 : List Int) (l1 : List Int) : Option (Int × Int × List Int × List Int × List Int) := (impl_SynthFault.f k a0_0 l0_1 l0_2).bind fun t434 => ((impl_codeIf.f ((l1.length : Int) != a0_0) 2).bind fun t435 => ((impl_gatherFault.f k l1).bind fun t436 => ((impl_first.f k (([t434, t435, t436] : List Int))).bind fun t440 => (if t440 = 0 then ((impl_samples.f).bind fun _ => ((impl_undo_gather.f k impl_samples_1.f impl_part.f l1).bind fun t444 => (if 0 ≤ (wrap64 (Int.tdiv a0_0 2)) then (if (wrap64 (Int.tdiv a0_0 2)) ≤ (t444.length : Int) then ((impl_seam.f k l0_2 (t444.take ((wrap64 (Int.tdiv a0_0 2)) : Int).toNat) (impl_samples_1.f a0_0)).bind fun bt452 => ((slices_Clone_int64_int64.f (t444.drop ((wrap64 (Int.tdiv a0_0 2)) : Int).toNat)).bind fun t463 => ((slices_Concat_int64_int64.f k (([l0_1, bt452.1] : List (List Int)))).bind fun t469 => (some (0, a0_0, bt452.2, t463, t469))))) else (none)) else (none)))) else (some (t440, 0, ([] : List Int), ([] : List Int), ([] : List Int)))))))
theorem impl_PlayBlock.mono : ∀ a0 a1 a2 a3 k, LeO (impl_PlayBlock.f k a0 a1 a2 a3) (impl_PlayBlock.f (k + 1) a0 a1 a2 a3) := by
 intro a0 a1 a2 a3 k
 unfold impl_PlayBlock.f
 repeat' first
   | (with_reducible exact impl_SynthFault.mono _ _ _ _)
   | (with_reducible exact impl_first.mono _ _)
   | (with_reducible exact impl_gatherFault.mono _ _)
   | (with_reducible exact impl_seam.mono _ _ _ _)
   | (with_reducible exact impl_undo_gather.mono _ _ _ _)
   | (with_reducible exact slices_Concat_int64_int64.mono _ _)
   | (with_reducible exact LeO.refl _)
   | (with_reducible exact LeO.none _)
   | (with_reducible refine LeO.ite ?_ ?_)
   | (with_reducible refine LeO.bind ?_ (fun _ => ?_))
   | exact impl_SynthFault.mono _ _ _ _
   | exact impl_first.mono _ _
   | exact impl_gatherFault.mono _ _
   | exact impl_seam.mono _ _ _ _
   | exact impl_undo_gather.mono _ _ _ _
   | exact slices_Concat_int64_int64.mono _ _
   | exact LeO.none _
   | refine LeO.ite ?_ ?_
   | refine LeO.bind ?_ (fun _ => ?_)
def impl_PlayBlock.T1 : Bool × List (List Nat × List Nat) := (true, [([], []), ([0], [0]), ([], []), ([2], [2]), ([], []), ([4], [4]), ([3, 5], [3, 5]), ([6, 1], [6]), ([], []), ([8, 7], [8]), ([1, 7, 9], [1, 7, 9]), ([10, 9], [10]), ([11, 11, 0, 1, 2, 3, 4, 5, 6, 7, 8, 9, 10, 11], [11])])
def impl_PlayBlock.B1 : List Nat := [0, 1, 0, 4, 0, 16, 60, 127, 0, 511, 1023, 2047, 4095]
theorem impl_PlayBlock.tab1 : rtab .any (opsOf Try.f20 1) = impl_PlayBlock.T1 := by kernel_rfl
theorem impl_PlayBlock.bits1 : waitsOk impl_PlayBlock.T1.2 impl_PlayBlock.B1 = true := by kernel_rfl
def impl_PlayBlock.T6 : Bool × List (List Nat × List Nat) := (true, [([], []), ([0], [0]), ([], []), ([], []), ([2, 3], [2, 3]), ([], []), ([1, 4, 5], [1, 4, 5]), ([6], [6]), ([7], [7]), ([7], [7]), ([8, 6, 0, 1, 2, 3, 4, 5, 6, 7, 8], [8]), ([9, 10, 0, 1, 2, 3, 4, 5, 6, 7, 8, 9, 10], [9])])
def impl_PlayBlock.B6 : List Nat := [0, 1, 0, 0, 12, 0, 63, 127, 255, 255, 511, 2047]
theorem impl_PlayBlock.tab6 : rtab .any (opsOf Try.f20 6) = impl_PlayBlock.T6 := by kernel_rfl
theorem impl_PlayBlock.bits6 : waitsOk impl_PlayBlock.T6.2 impl_PlayBlock.B6 = true := by kernel_rfl
def impl_PlayBlock.T7 : Bool × List (List Nat × List Nat) := (true, [([], []), ([0], [0]), ([], []), ([], []), ([], []), ([3, 4], [3, 4]), ([5], [5]), ([1, 2, 6], [1, 2, 6]), ([], []), ([8], [8]), ([], []), ([9, 10], [9, 10]), ([11, 6], [11]), ([7, 12], [7, 12]), ([13, 12, 0, 1, 2, 3, 4, 5, 6, 7, 8, 9, 10, 11, 12, 13], [13])])
def impl_PlayBlock.B7 : List Nat := [0, 1, 0, 0, 0, 24, 56, 127, 0, 256, 0, 1792, 3960, 8191, 16383]
theorem impl_PlayBlock.tab7 : rtab .any (opsOf Try.f20 7) = impl_PlayBlock.T7 := by kernel_rfl
theorem impl_PlayBlock.bits7 : waitsOk impl_PlayBlock.T7.2 impl_PlayBlock.B7 = true := by kernel_rfl
set_option maxHeartbeats 8000000 in
set_option maxRecDepth 100000 in
theorem impl_PlayBlock.callsV (k : Nat) (a0_0 : Int) (P0_1_ : Nat → Prop) (A0_1 : Option Addr) (c0_1 : Nat) (l0_1 : List Int) (A0_2 : Option Addr) (c0_2 : Nat) (l0_2 : List Int) (A1 : Option Addr) (c1 : Nat) (l1 : List Int) (r1 : Int) (r2 : Int) (r3 : List Int) (r4 : List Int) (r5 : List Int) (w : World) (hs0_1 : Kd.V (Kd.int .i64) 2 w w.heap.size (fun k_ => P0_1_ k_) (.slice A0_1 l0_1.length c0_1) l0_1) (hr0_2 : Kd.C (Kd.int .i64) w A0_2 l0_2.length l0_2) (hc0_2 : l0_2.length ≤ c0_2) (hr1 : Kd.C (Kd.int .i64) w A1 l1.length l1) (hc1 : l1.length ≤ c1) (h : impl_PlayBlock.f k a0_0 l0_1 l0_2 l1 = some (r1, r2, r3, r4, r5)) :
  Calls Try.prog 20 #[.agg #[.int .i64 a0_0, .slice A0_1 l0_1.length c0_1, .slice A0_2 l0_2.length c0_2], .slice A1 l1.length c1] w fun e w' => ∃ v2_ v3_ v4_ : Value, e = .returned (.agg #[.int .i64 r1, .int .i64 r2, v2_, v3_, v4_]) ∧ Kd.R (Kd.int .i64) 2 w' w.heap.size (fun k_ => (w.heap.size ≤ k_) ∧ nb v3_ k_ ∧ nb v4_ k_) v2_ r3 ∧ Kd.R (Kd.int .i64) 2 w' w.heap.size (fun k_ => (w.heap.size ≤ k_) ∧ nb v2_ k_ ∧ nb v4_ k_) v3_ r4 ∧ Kd.R (Kd.int .i64) 2 w' w.heap.size (fun k_ => (w.heap.size ≤ k_) ∧ nb v2_ k_ ∧ nb v3_ k_) v4_ r5 ∧ Below w.heap.size w w' := by
 have hu35 := Try.underlying35
 have hu37 := Try.underlying37
 have hu94 := Try.underlying94
 have HO0_1 := aM (show Kd.V (Kd.int .i64) 2 w w.heap.size (fun k_ => (P0_1_ k_ ∨ w.heap.size ≤ k_)) (.slice A0_1 l0_1.length c0_1) l0_1 from Kd.V_mono hs0_1 (fun k_ hk => .inl hk))
 have HR0_2 := aM hr0_2
 have HC0_2 := aM hc0_2
 clear hr0_2 hc0_2
 have HR1 := aM hr1
 have HC1 := aM hc1
 clear hr1 hc1
 have HB := aM (Below.refl w.heap.size w)
 have H : ((impl_SynthFault.f k a0_0 l0_1 l0_2).bind fun t434 => ((impl_codeIf.f ((l1.length : Int) != a0_0) 2).bind fun t435 => ((impl_gatherFault.f k l1).bind fun t436 => ((impl_first.f k (([t434, t435, t436] : List Int))).bind fun t440 => (if t440 = 0 then ((impl_samples.f).bind fun _ => ((impl_undo_gather.f k impl_samples_1.f impl_part.f l1).bind fun t444 => (if 0 ≤ (wrap64 (Int.tdiv a0_0 2)) then (if (wrap64 (Int.tdiv a0_0 2)) ≤ (t444.length : Int) then ((impl_seam.f k l0_2 (t444.take ((wrap64 (Int.tdiv a0_0 2)) : Int).toNat) (impl_samples_1.f a0_0)).bind fun bt452 => ((slices_Clone_int64_int64.f (t444.drop ((wrap64 (Int.tdiv a0_0 2)) : Int).toNat)).bind fun t463 => ((slices_Concat_int64_int64.f k (([l0_1, bt452.1] : List (List Int)))).bind fun t469 => (some (0, a0_0, bt452.2, t463, t469))))) else (none)) else (none)))) else (some (t440, 0, ([] : List Int), ([] : List Int), ([] : List Int)))))))) = some (r1, r2, r3, r4, r5) := h
 clear h
 replace H := Option.bind_eq_some_iff.mp H
 obtain ⟨t434, A30, H⟩ := H
 replace H : ((impl_codeIf.f ((l1.length : Int) != a0_0) 2).bind fun t435 => ((impl_gatherFault.f k l1).bind fun t436 => ((impl_first.f k (([t434, t435, t436] : List Int))).bind fun t440 => (if t440 = 0 then ((impl_samples.f).bind fun _ => ((impl_undo_gather.f k impl_samples_1.f impl_part.f l1).bind fun t444 => (if 0 ≤ (wrap64 (Int.tdiv a0_0 2)) then (if (wrap64 (Int.tdiv a0_0 2)) ≤ (t444.length : Int) then ((impl_seam.f k l0_2 (t444.take ((wrap64 (Int.tdiv a0_0 2)) : Int).toNat) (impl_samples_1.f a0_0)).bind fun bt452 => ((slices_Clone_int64_int64.f (t444.drop ((wrap64 (Int.tdiv a0_0 2)) : Int).toNat)).bind fun t463 => ((slices_Concat_int64_int64.f k (([l0_1, bt452.1] : List (List Int)))).bind fun t469 => (some (0, a0_0, bt452.2, t463, t469))))) else (none)) else (none)))) else (some (t440, 0, ([] : List Int), ([] : List Int), ([] : List Int))))))) = some (r1, r2, r3, r4, r5) := H
 have A3 := aM A30
 clear A30
 replace H := Option.bind_eq_some_iff.mp H
 obtain ⟨t435, A40, H⟩ := H
 replace H : ((impl_gatherFault.f k l1).bind fun t436 => ((impl_first.f k (([t434, t435, t436] : List Int))).bind fun t440 => (if t440 = 0 then ((impl_samples.f).bind fun _ => ((impl_undo_gather.f k impl_samples_1.f impl_part.f l1).bind fun t444 => (if 0 ≤ (wrap64 (Int.tdiv a0_0 2)) then (if (wrap64 (Int.tdiv a0_0 2)) ≤ (t444.length : Int) then ((impl_seam.f k l0_2 (t444.take ((wrap64 (Int.tdiv a0_0 2)) : Int).toNat) (impl_samples_1.f a0_0)).bind fun bt452 => ((slices_Clone_int64_int64.f (t444.drop ((wrap64 (Int.tdiv a0_0 2)) : Int).toNat)).bind fun t463 => ((slices_Concat_int64_int64.f k (([l0_1, bt452.1] : List (List Int)))).bind fun t469 => (some (0, a0_0, bt452.2, t463, t469))))) else (none)) else (none)))) else (some (t440, 0, ([] : List Int), ([] : List Int), ([] : List Int)))))) = some (r1, r2, r3, r4, r5) := H
 have A4 := aM A40
 clear A40
 replace H := Option.bind_eq_some_iff.mp H
 obtain ⟨t436, A50, H⟩ := H
 replace H : ((impl_first.f k (([t434, t435, t436] : List Int))).bind fun t440 => (if t440 = 0 then ((impl_samples.f).bind fun _ => ((impl_undo_gather.f k impl_samples_1.f impl_part.f l1).bind fun t444 => (if 0 ≤ (wrap64 (Int.tdiv a0_0 2)) then (if (wrap64 (Int.tdiv a0_0 2)) ≤ (t444.length : Int) then ((impl_seam.f k l0_2 (t444.take ((wrap64 (Int.tdiv a0_0 2)) : Int).toNat) (impl_samples_1.f a0_0)).bind fun bt452 => ((slices_Clone_int64_int64.f (t444.drop ((wrap64 (Int.tdiv a0_0 2)) : Int).toNat)).bind fun t463 => ((slices_Concat_int64_int64.f k (([l0_1, bt452.1] : List (List Int)))).bind fun t469 => (some (0, a0_0, bt452.2, t463, t469))))) else (none)) else (none)))) else (some (t440, 0, ([] : List Int), ([] : List Int), ([] : List Int))))) = some (r1, r2, r3, r4, r5) := H
 have A5 := aM A50
 clear A50
 obtain ⟨y437, hy437⟩ : ∃ y_ : List Int, y_ = (([t434, t435, t436] : List Int)) := ⟨_, rfl⟩
 replace H : ((impl_first.f k y437).bind fun t440 => (if t440 = 0 then ((impl_samples.f).bind fun _ => ((impl_undo_gather.f k impl_samples_1.f impl_part.f l1).bind fun t444 => (if 0 ≤ (wrap64 (Int.tdiv a0_0 2)) then (if (wrap64 (Int.tdiv a0_0 2)) ≤ (t444.length : Int) then ((impl_seam.f k l0_2 (t444.take ((wrap64 (Int.tdiv a0_0 2)) : Int).toNat) (impl_samples_1.f a0_0)).bind fun bt452 => ((slices_Clone_int64_int64.f (t444.drop ((wrap64 (Int.tdiv a0_0 2)) : Int).toNat)).bind fun t463 => ((slices_Concat_int64_int64.f k (([l0_1, bt452.1] : List (List Int)))).bind fun t469 => (some (0, a0_0, bt452.2, t463, t469))))) else (none)) else (none)))) else (some (t440, 0, ([] : List Int), ([] : List Int), ([] : List Int))))) = some (r1, r2, r3, r4, r5) := by first | (rw [hy437]; with_reducible exact H) | (have H2_ := (Option.bind_some _ _).symm.trans H; rw [hy437]; with_reducible exact H2_) | (have H2_ := (Option.bind_some _ _).symm.trans H; with_reducible exact H2_) | with_reducible exact H | (rw [hy437]; exact H) | exact H
 have Ny437 := aM hy437
 clear hy437
 replace H := Option.bind_eq_some_iff.mp H
 obtain ⟨t440, A60, H⟩ := H
 replace H : (if t440 = 0 then ((impl_samples.f).bind fun _ => ((impl_undo_gather.f k impl_samples_1.f impl_part.f l1).bind fun t444 => (if 0 ≤ (wrap64 (Int.tdiv a0_0 2)) then (if (wrap64 (Int.tdiv a0_0 2)) ≤ (t444.length : Int) then ((impl_seam.f k l0_2 (t444.take ((wrap64 (Int.tdiv a0_0 2)) : Int).toNat) (impl_samples_1.f a0_0)).bind fun bt452 => ((slices_Clone_int64_int64.f (t444.drop ((wrap64 (Int.tdiv a0_0 2)) : Int).toNat)).bind fun t463 => ((slices_Concat_int64_int64.f k (([l0_1, bt452.1] : List (List Int)))).bind fun t469 => (some (0, a0_0, bt452.2, t463, t469))))) else (none)) else (none)))) else (some (t440, 0, ([] : List Int), ([] : List Int), ([] : List Int)))) = some (r1, r2, r3, r4, r5) := H
 have A6 := aM A60
 clear A60
 by_cases c7 : t440 = 0
 ·rw [if_pos c7] at H
  have c7b0 : (t440 == 0) = true := beq_iff_eq.mpr c7
  have c7b1 : (t440 != 0) = false := bne_eq_false_iff_eq.mpr c7
  clear c7
  replace H := Option.bind_eq_some_iff.mp H
  obtain ⟨_, A80, H⟩ := H
  replace H : ((impl_undo_gather.f k impl_samples_1.f impl_part.f l1).bind fun t444 => (if 0 ≤ (wrap64 (Int.tdiv a0_0 2)) then (if (wrap64 (Int.tdiv a0_0 2)) ≤ (t444.length : Int) then ((impl_seam.f k l0_2 (t444.take ((wrap64 (Int.tdiv a0_0 2)) : Int).toNat) (impl_samples_1.f a0_0)).bind fun bt452 => ((slices_Clone_int64_int64.f (t444.drop ((wrap64 (Int.tdiv a0_0 2)) : Int).toNat)).bind fun t463 => ((slices_Concat_int64_int64.f k (([l0_1, bt452.1] : List (List Int)))).bind fun t469 => (some (0, a0_0, bt452.2, t463, t469))))) else (none)) else (none))) = some (r1, r2, r3, r4, r5) := H
  have A8 := aM A80
  clear A80
  replace H := Option.bind_eq_some_iff.mp H
  obtain ⟨t444, A90, H⟩ := H
  replace H : (if 0 ≤ (wrap64 (Int.tdiv a0_0 2)) then (if (wrap64 (Int.tdiv a0_0 2)) ≤ (t444.length : Int) then ((impl_seam.f k l0_2 (t444.take ((wrap64 (Int.tdiv a0_0 2)) : Int).toNat) (impl_samples_1.f a0_0)).bind fun bt452 => ((slices_Clone_int64_int64.f (t444.drop ((wrap64 (Int.tdiv a0_0 2)) : Int).toNat)).bind fun t463 => ((slices_Concat_int64_int64.f k (([l0_1, bt452.1] : List (List Int)))).bind fun t469 => (some (0, a0_0, bt452.2, t463, t469))))) else (none)) else (none)) = some (r1, r2, r3, r4, r5) := H
  have A9 := aM A90
  clear A90
  obtain ⟨ji10, hji10⟩ : ∃ j_ : Int, (wrap64 (Int.tdiv a0_0 2)) = j_ := ⟨_, rfl⟩
  replace H : (if 0 ≤ (ji10) then (if (ji10) ≤ (t444.length : Int) then ((impl_seam.f k l0_2 (t444.take ((ji10) : Int).toNat) (impl_samples_1.f a0_0)).bind fun bt452 => ((slices_Clone_int64_int64.f (t444.drop ((ji10) : Int).toNat)).bind fun t463 => ((slices_Concat_int64_int64.f k (([l0_1, bt452.1] : List (List Int)))).bind fun t469 => (some (0, a0_0, bt452.2, t463, t469))))) else (none)) else (none)) = some (r1, r2, r3, r4, r5) := by first | (rw [hji10] at H; exact H) | (simp only [hji10] at H ⊢; exact H)
  (try rw [hji10] at A3)
  (try rw [hji10] at A4)
  (try rw [hji10] at A5)
  (try rw [hji10] at A6)
  (try rw [hji10] at A8)
  (try rw [hji10] at A9)
  have hji10w : (IntKind.i64.wrap (Int.tdiv a0_0 2)) = ji10 := (i64_w _).trans hji10
  by_cases c11 : 0 ≤ (ji10)
  ·rw [if_pos c11] at H
   have c11b0 := eq_true c11
   have c11b1 : decide (0 ≤ (ji10)) = true := decide_eq_true c11
   clear c11
   by_cases c12 : (ji10) ≤ (t444.length : Int)
   ·rw [if_pos c12] at H
    have c12b0 := eq_true c12
    have c12b1 : decide ((ji10) ≤ (t444.length : Int)) = true := decide_eq_true c12
    clear c12
    obtain ⟨y447, hy447⟩ : ∃ y_ : List Int, y_ = (t444.take ((ji10) : Int).toNat) := ⟨_, rfl⟩
    replace H : ((impl_seam.f k l0_2 y447 (impl_samples_1.f a0_0)).bind fun bt452 => ((slices_Clone_int64_int64.f (t444.drop ((ji10) : Int).toNat)).bind fun t463 => ((slices_Concat_int64_int64.f k (([l0_1, bt452.1] : List (List Int)))).bind fun t469 => (some (0, a0_0, bt452.2, t463, t469))))) = some (r1, r2, r3, r4, r5) := by first | (rw [hy447]; with_reducible exact H) | (have H2_ := (Option.bind_some _ _).symm.trans H; rw [hy447]; with_reducible exact H2_) | (have H2_ := (Option.bind_some _ _).symm.trans H; with_reducible exact H2_) | with_reducible exact H | (rw [hy447]; exact H) | exact H
    have Ny447 := aM hy447
    clear hy447
    replace H := Option.bind_eq_some_iff.mp H
    obtain ⟨⟨t452, t453⟩, A130, H⟩ := H
    replace H : ((slices_Clone_int64_int64.f (t444.drop ((ji10) : Int).toNat)).bind fun t463 => ((slices_Concat_int64_int64.f k (([l0_1, t452] : List (List Int)))).bind fun t469 => (some (0, a0_0, t453, t463, t469)))) = some (r1, r2, r3, r4, r5) := H
    have A13 := aM A130
    clear A130
    have c14b0 := eq_true (of_decide_eq_true (by first | (with_reducible assumption) | assumption) : 0 ≤ (ji10))
    have c15b0 := eq_true (of_decide_eq_true (by first | (with_reducible assumption) | assumption) : (ji10) ≤ (t444.length : Int))
    obtain ⟨y458, hy458⟩ : ∃ y_ : List Int, y_ = (t444.drop ((ji10) : Int).toNat) := ⟨_, rfl⟩
    replace H : ((slices_Clone_int64_int64.f y458).bind fun t463 => ((slices_Concat_int64_int64.f k (([l0_1, t452] : List (List Int)))).bind fun t469 => (some (0, a0_0, t453, t463, t469)))) = some (r1, r2, r3, r4, r5) := by first | (rw [hy458]; with_reducible exact H) | (have H2_ := (Option.bind_some _ _).symm.trans H; rw [hy458]; with_reducible exact H2_) | (have H2_ := (Option.bind_some _ _).symm.trans H; with_reducible exact H2_) | with_reducible exact H | (rw [hy458]; exact H) | exact H
    have Ny458 := aM hy458
    clear hy458
    replace H := Option.bind_eq_some_iff.mp H
    obtain ⟨t463, A160, H⟩ := H
    replace H : ((slices_Concat_int64_int64.f k (([l0_1, t452] : List (List Int)))).bind fun t469 => (some (0, a0_0, t453, t463, t469))) = some (r1, r2, r3, r4, r5) := H
    have A16 := aM A160
    clear A160
    obtain ⟨y466, hy466⟩ : ∃ y_ : List (List Int), y_ = (([l0_1, t452] : List (List Int))) := ⟨_, rfl⟩
    replace H : ((slices_Concat_int64_int64.f k y466).bind fun t469 => (some (0, a0_0, t453, t463, t469))) = some (r1, r2, r3, r4, r5) := by first | (rw [hy466]; with_reducible exact H) | (have H2_ := (Option.bind_some _ _).symm.trans H; rw [hy466]; with_reducible exact H2_) | (have H2_ := (Option.bind_some _ _).symm.trans H; with_reducible exact H2_) | with_reducible exact H | (rw [hy466]; exact H) | exact H
    have Ny466 := aM hy466
    clear hy466
    replace H := Option.bind_eq_some_iff.mp H
    obtain ⟨t469, A170, H⟩ := H
    replace H : (some (0, a0_0, t453, t463, t469)) = some (r1, r2, r3, r4, r5) := H
    have A17 := aM A170
    clear A170
    simp only [Option.some.injEq, Prod.mk.injEq] at H
    obtain ⟨rfl, rfl, rfl, rfl, rfl⟩ := H
    go_enter Try.func20, Try.ntmps20
    try go_wp2_with (first | ((with_reducible refine gate_dst (N := 2) rfl ?_); refine box_event ?hg (N := 2) ?hd (cs := #[.int .i64 a0_0, .slice A0_1 l0_1.length c0_1, .slice A0_2 l0_2.length c0_2]) (t := 35) ?hr ?_; (case hd => rfl); (case hg => rfl); (case hr => first | (go_simp; done) | (go_simp; rfl)); intro gb432 hg w18 hbox hb; replace HO0_1 := aM (Kd.V_below (Kd.V_elderB (vq HO0_1.out) gb432 (Nat.le_of_eq hg.symm)) hb); have BK432 := aM (hbox); have GW432 := aM ((by rw [hg]; exact (bZ bq) : w.heap.size ≤ gb432)); have GE432 := aM ((by rw [hg]; exact (bZ bq) : w.heap.size ≤ gb432)); replace HB := aM (bT bq hb); clear hb hbox hg) | ((with_reducible refine gate_dst (N := 4) rfl ?_); refine box_event ?hg (N := 4) ?hd (cs := #[.int .i64 0, .int .i64 0, .slice none 0 0, .slice none 0 0, .slice none 0 0]) (t := 37) ?hr ?_; (case hd => rfl); (case hg => rfl); (case hr => first | (go_simp; done) | (go_simp; rfl)); intro gb433 hg w19 hbox hb; replace HO0_1 := aM (Kd.V_below (Kd.V_elderB (vq HO0_1.out) gb433 (Nat.le_of_eq hg.symm)) hb); have BK433 := aM (hbox); have GW433 := aM ((by rw [hg]; exact (bZ bq) : w.heap.size ≤ gb433)); have GE433 := aM ((by rw [hg]; exact (bZ bq) : w.heap.size ≤ gb433)); replace HB := aM (bT bq hb); have NB432_433 := aM ((by rw [hg]; exact Nat.ne_of_lt (blk_lt (kq BK432.out)) : gb432 ≠ gb433)); have NB433_432 := aM ((by rw [hg]; exact Nat.ne_of_gt (blk_lt (kq BK432.out)) : gb433 ≠ gb432)); replace BK432 := aM (kB (kq BK432.out) hb); clear hb hbox hg))
    replace HO0_1 := aM (Kd.V_drew HO0_1.out)
    replace BK432 := aM (kD BK432.out)
    replace BK433 := aM (kD BK433.out)
    replace HB := aM (bD HB.out)
    refine start_ (n := 13) (S := fun w' => w'.cell? ⟨gb432, 0, none⟩ = some (.int .i64 a0_0) ∧ w'.cell? ⟨gb432, 1, none⟩ = some (.slice A0_1 l0_1.length c0_1) ∧ w'.cell? ⟨gb432, 2, none⟩ = some (.slice A0_2 l0_2.length c0_2)) (ds := []) #[N,N,N,N,N,N,N,N,N,N,N,N,N] kr rfl rfl ⟨(kC BK432.out 0).trans rfl, (kC BK432.out 1).trans rfl, (kC BK432.out 2).trans rfl⟩ (fun hHeld => ?_); refine with_tabW impl_PlayBlock.tab1 impl_PlayBlock.bits1 (fun HT_ HW_ => ?_)
    generalize w19.drew = w20 at HO0_1 BK432 BK433 HB hHeld ⊢
    refine pp HT_ (N := some 13) 2 #[N,N,Y,N,N,N,N,N,N,N,N,N,N] ?_
    refine pp HT_ (N := some 14) 3 #[N,N,Y,Y,N,N,N,N,N,N,N,N,N] ?_
    refine pp HT_ (N := some 15) 4 #[N,N,Y,Y,Y,N,N,N,N,N,N,N,N] ?_
    refine pp HT_ (N := some 19) 8 #[N,N,Y,Y,Y,N,N,N,Y,N,N,N,N] ?_
    refine take_ (i := 0) (N := some 11) (v := ?_) (a' := ?_) #[Y,N,Y,Y,Y,N,N,N,Y,N,N,N,N] rfl rfl (take_ofW HT_.out HW_.out kr) (fun _ _ _ h => h) (Or.inl ⟨by rfl, ?_⟩) hHeld ?_ ?_
    rotate_left
    ·rintro w' ⟨s0, s1, s2⟩
     go_simp
     with_reducible rfl
    rotate_left
    ·simp only [Act.put, pa, pb, pc, i64_w, i32_w]
     rfl
    refine take_ (i := 5) (N := some 16) (v := ?_) (a' := ?_) #[Y,N,Y,Y,Y,Y,N,N,Y,N,N,N,N] rfl rfl (take_ofW HT_.out HW_.out kr) (fun _ _ _ h => h) (Or.inl ⟨by rfl, ?_⟩) hHeld ?_ ?_
    rotate_left
    ·rintro w' ⟨s0, s1, s2⟩
     go_simp
     with_reducible rfl
    rotate_left
    ·simp only [Act.put, pa, pb, pc, i64_w, i32_w]
     rfl
    refine pp HT_ (N := some 17) 6 #[Y,N,Y,Y,Y,Y,Y,N,Y,N,N,N,N] ?_
    refine one_ (i := 1) (N := some 12) #[Y,Y,Y,Y,Y,Y,Y,N,Y,N,N,N,N] rfl rfl (one_of HT_.out kr) (by decide) (fun K hK => ?_)
    refine goes_ Try.func46 kr rfl #[.agg #[.int .i64 a0_0, .slice A0_1 l0_1.length c0_1, .slice A0_2 l0_2.length c0_2]] (by rfl) rfl rfl mq ?_
    with_reducible refine (impl_SynthFault.calls k a0_0 _ _ l0_1 _ _ l0_2 t434 _ ?side1 ?side2 ?side3 ?side4 A3.out).mono ?_
    (case side1 => exact cq (Kd.V_reads' HO0_1.out).2.2)
    (case side2 => exact (Kd.V_reads' HO0_1.out).2.1)
    (case side3 => exact cq (cB HR0_2.out HB.out))
    (case side4 => exact HC0_2.out)
    rintro e w21 ⟨rfl, hb⟩
    refine ⟨_, rfl, ?_⟩
    replace HO0_1 := aM (Kd.V_below (vq HO0_1.out) hb)
    replace BK432 := aM (kB (kq BK432.out) hb)
    replace BK433 := aM (kB (kq BK433.out) hb)
    replace HB := aM (bT bq hb)
    (try clear hb)
    (try clear hb2)
    (try clear hk)
    (try clear hi)
    refine hK.out _ _ ⟨(kC BK432.out 0).trans rfl, (kC BK432.out 1).trans rfl, (kC BK432.out 2).trans rfl⟩ (fun hHeld => ?_)
    clear hK K
    refine norm_ (a' := ?_) ?_ ?_
    rotate_left
    ·show Act.put _ (some 12) _ = _
     simp only [Act.put, pa, pb, pc, i64_w, i32_w]
     rfl
    refine one_ (i := 7) (N := some 18) #[Y,Y,Y,Y,Y,Y,Y,Y,Y,N,N,N,N] rfl rfl (one_of HT_.out kr) (by decide) (fun K hK => ?_)
    refine goes_ Try.func56 kr rfl #[.bool ((l1.length : Int) != a0_0), .int .i64 2] (by rfl) rfl rfl mq ?_
    with_reducible refine (impl_codeIf.calls ((l1.length : Int) != a0_0) 2 t435 _ A4.out).mono ?_
    rintro e w22 ⟨rfl, hdr_⟩; have hb := Drawn0.below hdr_
    refine ⟨_, rfl, ?_⟩
    replace HO0_1 := aM (Kd.V_below (vq HO0_1.out) hb)
    replace BK432 := aM (kB (kq BK432.out) hb)
    replace BK433 := aM (kB (kq BK433.out) hb)
    replace HB := aM (bT bq hb)
    (try clear hb)
    (try clear hb2)
    (try clear hk)
    (try clear hi)
    refine hK.out _ _ ⟨(kC BK432.out 0).trans rfl, (kC BK432.out 1).trans rfl, (kC BK432.out 2).trans rfl⟩ (fun hHeld => ?_)
    clear hK K
    refine norm_ (a' := ?_) ?_ ?_
    rotate_left
    ·show Act.put _ (some 18) _ = _
     simp only [Act.put, pa, pb, pc, i64_w, i32_w]
     rfl
    refine one_ (i := 9) (N := some 20) #[Y,Y,Y,Y,Y,Y,Y,Y,Y,Y,N,N,N] rfl rfl (one_of HT_.out kr) (by decide) (fun K hK => ?_)
    refine goes_ Try.func68 kr rfl #[.slice A1 l1.length c1] (by rfl) rfl rfl mq ?_
    with_reducible refine (impl_gatherFault.calls k _ _ l1 t436 _ ?side1 ?side2 A5.out).mono ?_
    (case side1 => exact cq (cB HR1.out HB.out))
    (case side2 => exact HC1.out)
    rintro e w23 ⟨rfl, hb⟩
    refine ⟨_, rfl, ?_⟩
    replace HO0_1 := aM (Kd.V_below (vq HO0_1.out) hb)
    replace BK432 := aM (kB (kq BK432.out) hb)
    replace BK433 := aM (kB (kq BK433.out) hb)
    replace HB := aM (bT bq hb)
    (try clear hb)
    (try clear hb2)
    (try clear hk)
    (try clear hi)
    refine hK.out _ _ ⟨(kC BK432.out 0).trans rfl, (kC BK432.out 1).trans rfl, (kC BK432.out 2).trans rfl⟩ (fun hHeld => ?_)
    clear hK K
    refine norm_ (a' := ?_) ?_ ?_
    rotate_left
    ·show Act.put _ (some 20) _ = _
     simp only [Act.put, pa, pb, pc, i64_w, i32_w]
     rfl
    refine one_ (i := 10) (N := some 21) #[Y,Y,Y,Y,Y,Y,Y,Y,Y,Y,Y,N,N] rfl rfl (one_of HT_.out kr) (by decide) (fun K hK => ?_)
    refine Kd.R_lit_step (Kd.int .i64) _ 2 ?hg (N := 21) ?hd (xs := ([t434, t435, t436] : List Int)) (inner := [.int .i64 t434, .int .i64 t435, .int .i64 t436]) (ok := fun _ => True) (okp := fun _ => True) ?hr ?hp (fun _ hk => hk) trivial (Below.refl _ _) (Nat.le_refl _) (by simp) ?_; (case hd => rfl); (case hg => rfl); (case hr => first | (go_simp; done) | (go_simp; rfl)); (case hp => exact (Reps.one (show Kd.M (Kd.int .i64) _ _ _ t434 [.int .i64 t434] from rfl) (Reps.one (show Kd.M (Kd.int .i64) _ _ _ t435 [.int .i64 t435] from rfl) (Reps.one (show Kd.M (Kd.int .i64) _ _ _ t436 [.int .i64 t436] from rfl) (Reps.none _ _)))))
    intro v438 w24 ho25 hb hg_ hnew_
    clear hg_ hnew_
    (first | rw [← Ny437.out] at ho25 | (simp only [Int.reduceToNat] at ho25; rw [← Ny437.out] at ho25))
    replace HO0_1 := aM (Kd.V_elder' (vq HO0_1.out) (rB ho25) hb)
    have HO439 := aM (rG (Kd.R_newM (M := fun k_ => (w.heap.size ≤ k_)) ho25 (bZ bq) (fun k_ h_ => h_)) (bZ bq))
    replace BK432 := aM (kB (kq BK432.out) hb)
    replace BK433 := aM (kB (kq BK433.out) hb)
    replace HB := aM (bT bq hb)
    clear hb ho25
    obtain ⟨Ao26, co26, eo26⟩ := Kd.R_slice HO439.out
    (first | subst eo26 | (injection eo26 with f1_ f2_ f3_; have f4_ := f1_.symm; have f5_ := f3_.symm; clear f1_ f2_ f3_; subst f4_; subst f5_))
    refine hK.out _ _ ⟨(kC BK432.out 0).trans rfl, (kC BK432.out 1).trans rfl, (kC BK432.out 2).trans rfl⟩ (fun hHeld => ?_)
    clear hK K
    refine norm_ (a' := ?_) ?_ ?_
    rotate_left
    ·show Act.put _ (some 21) _ = _
     simp only [Act.put, pa, pb, pc, i64_w, i32_w]
     rfl
    refine one_ (i := 11) (N := some 22) #[Y,Y,Y,Y,Y,Y,Y,Y,Y,Y,Y,Y,N] rfl rfl (one_of HT_.out kr) (by decide) (fun K hK => ?_)
    refine goes_ Try.func54 kr rfl #[.slice Ao26 y437.length co26] (by rfl) rfl rfl mq ?_
    with_reducible refine (impl_first.calls k _ _ y437 t440 _ ?side1 ?side2 A6.out).mono ?_
    (case side1 => exact cq (rR HO439.out).2.2)
    (case side2 => exact (rR HO439.out).2.1)
    rintro e w27 ⟨rfl, hdr_⟩; have hb := Drawn0.below hdr_
    refine ⟨_, rfl, ?_⟩
    replace HO0_1 := aM (Kd.V_below (vq HO0_1.out) hb)
    replace HO439 := aM (rL (rq HO439.out) hb)
    replace BK432 := aM (kB (kq BK432.out) hb)
    replace BK433 := aM (kB (kq BK433.out) hb)
    replace HB := aM (bT bq hb)
    (try clear hb)
    (try clear hb2)
    (try clear hk)
    (try clear hi)
    refine hK.out _ _ ⟨(kC BK432.out 0).trans rfl, (kC BK432.out 1).trans rfl, (kC BK432.out 2).trans rfl⟩ (fun hHeld => ?_)
    clear hK K
    refine norm_ (a' := ?_) ?_ ?_
    rotate_left
    ·show Act.put _ (some 22) _ = _
     simp only [Act.put, pa, pb, pc, i64_w, i32_w]
     rfl
    refine pp HT_ (N := some 5) 12 #[Y,Y,Y,Y,Y,Y,Y,Y,Y,Y,Y,Y,Y] ?_
    refine done_ (done_of HT_.out kr) ?_
    try go_wp2
    replace HO0_1 := aM (Kd.V_drew HO0_1.out)
    replace HO439 := aM (rD HO439.out)
    replace BK432 := aM (kD BK432.out)
    replace BK433 := aM (kD BK433.out)
    replace HB := aM (bD HB.out)
    refine start_ (n := 7) (S := fun w' => w'.cell? ⟨gb432, 0, none⟩ = some (.int .i64 a0_0) ∧ w'.cell? ⟨gb432, 1, none⟩ = some (.slice A0_1 l0_1.length c0_1) ∧ w'.cell? ⟨gb432, 2, none⟩ = some (.slice A0_2 l0_2.length c0_2)) (ds := []) #[N,N,N,N,N,N,N] kr rfl rfl ⟨(kC BK432.out 0).trans rfl, (kC BK432.out 1).trans rfl, (kC BK432.out 2).trans rfl⟩ (fun hHeld => ?_)
    generalize w27.drew = w28 at HO0_1 HO439 BK432 BK433 HB hHeld ⊢
    refine pure_ (i := 0) (N := some 27) (v := ?_) (a' := ?_) #[Y,N,N,N,N,N,N] rfl rfl kr (fun _ _ _ h => h) (Or.inl ⟨by rfl, ?_⟩) ?_ ?_
    rotate_left
    ·intro w'
     go_simp
     with_reducible rfl
    rotate_left
    ·simp only [Act.put, pa, pb, pc, i64_w, i32_w]
     rfl
    refine take_ (i := 1) (N := some 28) (v := ?_) (a' := ?_) #[Y,Y,N,N,N,N,N] rfl rfl kr (fun _ _ _ h => h) (Or.inl ⟨by rfl, ?_⟩) hHeld ?_ ?_
    rotate_left
    ·rintro w' ⟨s0, s1, s2⟩
     go_simp
     with_reducible rfl
    rotate_left
    ·simp only [Act.put, pa, pb, pc, i64_w, i32_w]
     rfl
    refine pure_ (i := 2) (N := some 29) (v := ?_) (a' := ?_) #[Y,Y,Y,N,N,N,N] rfl rfl kr (fun _ _ _ h => h) (Or.inl ⟨by rfl, ?_⟩) ?_ ?_
    rotate_left
    ·intro w'
     go_simp
     with_reducible rfl
    rotate_left
    ·simp only [Act.put, pa, pb, pc, i64_w, i32_w]
     rfl
    refine join_ (σ := Nat) 2 #[Y,Y,Y,Y,Y,N,N] (fun s_ => [(30, .agg #[.func (.func 115) #[] #[], .func (.func 117) #[] #[]]), (7, .pointer (some ⟨s_, 0, none⟩))]) (fun s_ w' => (w'.cell? ⟨gb432, 0, none⟩ = some (.int .i64 a0_0) ∧ w'.cell? ⟨gb432, 1, none⟩ = some (.slice A0_1 l0_1.length c0_1) ∧ w'.cell? ⟨gb432, 2, none⟩ = some (.slice A0_2 l0_2.length c0_2)) ∧ (Kd.V (Kd.int .i64) 2 w' w.heap.size (fun k_ => (P0_1_ k_ ∨ w.heap.size ≤ k_) ∧ nS Ao26 y437 co26 k_ ∧ k_ ≠ gb432 ∧ k_ ≠ gb433 ∧ k_ ≠ s_) (.slice A0_1 l0_1.length c0_1) l0_1) ∧ (Kd.R (Kd.int .i64) 2 w' w.heap.size (fun k_ => (w.heap.size ≤ k_)) (.slice Ao26 y437.length co26) y437) ∧ (w'.heap[gb432]? = some (.cells #[.int .i64 a0_0, .slice A0_1 l0_1.length c0_1, .slice A0_2 l0_2.length c0_2] 35 (0, 0))) ∧ (w'.heap[gb433]? = some (.cells #[.int .i64 0, .int .i64 0, .slice none 0 0, .slice none 0 0, .slice none 0 0] 37 (0, 0))) ∧ (w'.heap[s_]? = some (.cells #[.nilFunc, .nilFunc] 94 (0, 0))) ∧ (w.heap.size ≤ s_) ∧ (w.heap.size ≤ s_) ∧ (gb432 ≠ s_) ∧ (s_ ≠ gb432) ∧ (gb433 ≠ s_) ∧ (s_ ≠ gb433) ∧ (Below w.heap.size w w')) ?_ ?_
    rotate_left
    ·intro hCont
     refine two_ (i := 3) (j := 4) (Ni := some 30) (Nj := some 7) #[Y,Y,Y,Y,N,N,N] #[Y,Y,Y,N,Y,N,N] rfl rfl rfl rfl kr (by decide) (by decide) (fun K hK => ?_) (fun K hK => ?_)
     ·skip
      refine goes_ Try.func69 kr rfl #[] (by rfl) rfl rfl mq ?_
      with_reducible refine (impl_samples.calls   _ A8.out).mono ?_
      rintro e w29 ⟨rfl, hb⟩
      refine ⟨_, rfl, ?_⟩
      replace HO0_1 := aM (Kd.V_below (vq HO0_1.out) hb)
      replace HO439 := aM (rL (rq HO439.out) hb)
      replace BK432 := aM (kB (kq BK432.out) hb)
      replace BK433 := aM (kB (kq BK433.out) hb)
      replace HB := aM (bT bq hb)
      (try clear hb)
      (try clear hb2)
      (try clear hk)
      (try clear hi)
      refine hK.out _ _ ⟨(kC BK432.out 0).trans rfl, (kC BK432.out 1).trans rfl, (kC BK432.out 2).trans rfl⟩ (fun hHeld => ?_)
      clear hK K
      refine norm_ (a' := ?_) ?_ ?_
      rotate_left
      ·show Act.put _ (some 30) _ = _
       simp only [Act.put, pa, pb, pc, i64_w, i32_w]
       rfl
      refine one_ (i := 4) (N := some 7) #[Y,Y,Y,Y,Y,N,N] rfl rfl kr (by decide) (fun K hK => ?_)
      refine box_step ?hg (N := 7) ?hd (cs := #[.nilFunc, .nilFunc]) (t := 94) ?hr ?_; (case hd => rfl); (case hg => rfl); (case hr => first | (go_simp; done) | (go_simp; rfl))
      intro gb443 hg w30 hbox hb
      replace HO0_1 := aM (Kd.V_below (Kd.V_elderB (vq HO0_1.out) gb443 (Nat.le_of_eq hg.symm)) hb)
      replace HO439 := aM (rL (rq HO439.out) hb)
      have BK443 := aM (hbox)
      have GW443 := aM ((by rw [hg]; exact (bZ bq) : w.heap.size ≤ gb443))
      have GE443 := aM ((by rw [hg]; exact (bZ bq) : w.heap.size ≤ gb443))
      replace HB := aM (bT bq hb)
      have NB432_443 := aM ((by rw [hg]; exact Nat.ne_of_lt (blk_lt (kq BK432.out)) : gb432 ≠ gb443))
      have NB443_432 := aM ((by rw [hg]; exact Nat.ne_of_gt (blk_lt (kq BK432.out)) : gb443 ≠ gb432))
      replace BK432 := aM (kB (kq BK432.out) hb)
      have NB433_443 := aM ((by rw [hg]; exact Nat.ne_of_lt (blk_lt (kq BK433.out)) : gb433 ≠ gb443))
      have NB443_433 := aM ((by rw [hg]; exact Nat.ne_of_gt (blk_lt (kq BK433.out)) : gb443 ≠ gb433))
      replace BK433 := aM (kB (kq BK433.out) hb)
      clear hb hbox hg
      refine hK.out _ _ ⟨(kC BK432.out 0).trans rfl, (kC BK432.out 1).trans rfl, (kC BK432.out 2).trans rfl⟩ (fun hHeld => ?_)
      clear hK K
      refine norm_ (a' := ?_) ?_ ?_
      rotate_left
      ·show Act.put _ (some 7) _ = _
       simp only [Act.put, pa, pb, pc, i64_w, i32_w]
       rfl
      exact norm_ (by simp only [putAll, Act.put, pa, pb, pc]) (hCont (gb443) _ ⟨hHeld, (vq (Kd.V_mono HO0_1.out jq)), (rq (rM HO439.out (fun _ hk => hk.1))), (kq BK432.out), (kq BK433.out), (kq BK443.out), GW443.out, GE443.out, NB432_443.out, NB443_432.out, NB433_443.out, NB443_433.out, bq⟩)
     ·skip
      refine box_step ?hg (N := 7) ?hd (cs := #[.nilFunc, .nilFunc]) (t := 94) ?hr ?_; (case hd => rfl); (case hg => rfl); (case hr => first | (go_simp; done) | (go_simp; rfl))
      intro gb443 hg w29 hbox hb
      replace HO0_1 := aM (Kd.V_below (Kd.V_elderB (vq HO0_1.out) gb443 (Nat.le_of_eq hg.symm)) hb)
      replace HO439 := aM (rL (rq HO439.out) hb)
      have BK443 := aM (hbox)
      have GW443 := aM ((by rw [hg]; exact (bZ bq) : w.heap.size ≤ gb443))
      have GE443 := aM ((by rw [hg]; exact (bZ bq) : w.heap.size ≤ gb443))
      replace HB := aM (bT bq hb)
      have NB432_443 := aM ((by rw [hg]; exact Nat.ne_of_lt (blk_lt (kq BK432.out)) : gb432 ≠ gb443))
      have NB443_432 := aM ((by rw [hg]; exact Nat.ne_of_gt (blk_lt (kq BK432.out)) : gb443 ≠ gb432))
      replace BK432 := aM (kB (kq BK432.out) hb)
      have NB433_443 := aM ((by rw [hg]; exact Nat.ne_of_lt (blk_lt (kq BK433.out)) : gb433 ≠ gb443))
      have NB443_433 := aM ((by rw [hg]; exact Nat.ne_of_gt (blk_lt (kq BK433.out)) : gb443 ≠ gb433))
      replace BK433 := aM (kB (kq BK433.out) hb)
      clear hb hbox hg
      refine hK.out _ _ ⟨(kC BK432.out 0).trans rfl, (kC BK432.out 1).trans rfl, (kC BK432.out 2).trans rfl⟩ (fun hHeld => ?_)
      clear hK K
      refine norm_ (a' := ?_) ?_ ?_
      rotate_left
      ·show Act.put _ (some 7) _ = _
       simp only [Act.put, pa, pb, pc, i64_w, i32_w]
       rfl
      refine one_ (i := 3) (N := some 30) #[Y,Y,Y,Y,Y,N,N] rfl rfl kr (by decide) (fun K hK => ?_)
      refine goes_ Try.func69 kr rfl #[] (by rfl) rfl rfl mq ?_
      with_reducible refine (impl_samples.calls   _ A8.out).mono ?_
      rintro e w30 ⟨rfl, hb⟩
      refine ⟨_, rfl, ?_⟩
      replace HO0_1 := aM (Kd.V_below (vq HO0_1.out) hb)
      replace HO439 := aM (rL (rq HO439.out) hb)
      replace BK432 := aM (kB (kq BK432.out) hb)
      replace BK433 := aM (kB (kq BK433.out) hb)
      replace BK443 := aM (kB (kq BK443.out) hb)
      replace HB := aM (bT bq hb)
      (try clear hb)
      (try clear hb2)
      (try clear hk)
      (try clear hi)
      refine hK.out _ _ ⟨(kC BK432.out 0).trans rfl, (kC BK432.out 1).trans rfl, (kC BK432.out 2).trans rfl⟩ (fun hHeld => ?_)
      clear hK K
      refine norm_ (a' := ?_) ?_ ?_
      rotate_left
      ·show Act.put _ (some 30) _ = _
       simp only [Act.put, pa, pb, pc, i64_w, i32_w]
       rfl
      exact norm_ (by simp only [putAll, Act.put, pa, pb, pc]) (hCont (gb443) _ ⟨hHeld, (vq (Kd.V_mono HO0_1.out jq)), (rq (rM HO439.out (fun _ hk => hk.1))), (kq BK432.out), (kq BK433.out), (kq BK443.out), GW443.out, GE443.out, NB432_443.out, NB443_432.out, NB433_443.out, NB443_433.out, bq⟩)
    rintro gb443 w31 ⟨hS_, h0_, h1_, h2_, h3_, h4_, h5_, h6_, h7_, h8_, h9_, h10_, h11_⟩
    have n0_ : Aside0 (Kd.V (Kd.int .i64) 2 w31 w.heap.size (fun k_ => (P0_1_ k_ ∨ w.heap.size ≤ k_) ∧ nS Ao26 y437 co26 k_ ∧ k_ ≠ gb432 ∧ k_ ≠ gb433 ∧ k_ ≠ gb443) (.slice A0_1 l0_1.length c0_1) l0_1) := ⟨h0_⟩
    have n1_ : Aside0 (Kd.R (Kd.int .i64) 2 w31 w.heap.size (fun k_ => (w.heap.size ≤ k_)) (.slice Ao26 y437.length co26) y437) := ⟨h1_⟩
    have n2_ : Aside0 (w31.heap[gb432]? = some (.cells #[.int .i64 a0_0, .slice A0_1 l0_1.length c0_1, .slice A0_2 l0_2.length c0_2] 35 (0, 0))) := ⟨h2_⟩
    have n3_ : Aside0 (w31.heap[gb433]? = some (.cells #[.int .i64 0, .int .i64 0, .slice none 0 0, .slice none 0 0, .slice none 0 0] 37 (0, 0))) := ⟨h3_⟩
    have n4_ : Aside0 (w31.heap[gb443]? = some (.cells #[.nilFunc, .nilFunc] 94 (0, 0))) := ⟨h4_⟩
    have n5_ : Aside0 (w.heap.size ≤ gb443) := ⟨h5_⟩
    have n6_ : Aside0 (w.heap.size ≤ gb443) := ⟨h6_⟩
    have n7_ : Aside0 (gb432 ≠ gb443) := ⟨h7_⟩
    have n8_ : Aside0 (gb443 ≠ gb432) := ⟨h8_⟩
    have n9_ : Aside0 (gb433 ≠ gb443) := ⟨h9_⟩
    have n10_ : Aside0 (gb443 ≠ gb433) := ⟨h10_⟩
    have n11_ : Aside0 (Below w.heap.size w w31) := ⟨h11_⟩
    clear HO0_1 HO439 BK432 BK433 HB h0_ h1_ h2_ h3_ h4_ h5_ h6_ h7_ h8_ h9_ h10_ h11_
    have HO0_1 := n0_
    have HO439 := n1_
    have BK432 := n2_
    have BK433 := n3_
    have BK443 := n4_
    have GW443 := n5_
    have GE443 := n6_
    have NB432_443 := n7_
    have NB443_432 := n8_
    have NB433_443 := n9_
    have NB443_433 := n10_
    have HB := n11_
    clear n0_ n1_ n2_ n3_ n4_ n5_ n6_ n7_ n8_ n9_ n10_ n11_
    have hHeld : w31.cell? ⟨gb432, 0, none⟩ = some (.int .i64 a0_0) ∧ w31.cell? ⟨gb432, 1, none⟩ = some (.slice A0_1 l0_1.length c0_1) ∧ w31.cell? ⟨gb432, 2, none⟩ = some (.slice A0_2 l0_2.length c0_2) := hS_
    refine norm_ (a' := ?_) ?_ ?_
    rotate_left
    ·simp only [putAll, Act.put, pa, pb, pc]
     rfl
    refine pure_ (i := 5) (N := some 6) (v := ?_) (a' := ?_) #[Y,Y,Y,Y,Y,Y,N] rfl rfl kr (fun _ _ _ h => h) (Or.inl ⟨by rfl, ?_⟩) ?_ ?_
    rotate_left
    ·intro w'
     go_simp
     with_reducible rfl
    rotate_left
    ·simp only [Act.put, pa, pb, pc, i64_w, i32_w]
     rfl
    refine one_ (i := 6) (N := none) #[Y,Y,Y,Y,Y,Y,Y] rfl rfl kr (by decide) (fun K hK => ?_)
    have hs32 : w31.cell? ⟨gb443, 0, none⟩ = some (.nilFunc) := (kC BK443.out 0).trans rfl
    have hfs32 := kF BK443.out 0
    have hns32_0 := NB432_443.out
    have hns32_1 := NB433_443.out
    have hms32_0 := NB443_432.out
    have hms32_1 := NB443_433.out
    have hs33 : w31.cell? ⟨gb443, 1, none⟩ = some (.nilFunc) := (kC BK443.out 1).trans rfl
    have hfs33 := kF BK443.out 1
    have hns33_0 := NB432_443.out
    have hns33_1 := NB433_443.out
    have hms33_0 := NB443_432.out
    have hms33_1 := NB443_433.out
    refine skip_ (w1 := ?_) (by rfl) rfl ?_ ?_
    rotate_left
    ·go_simp
     rfl
    refine hK.out _ _ ⟨((cell_far (p := ⟨gb443, _, none⟩) NB432_443.out _).trans (((cell_far (p := ⟨gb443, _, none⟩) NB432_443.out _).trans (hHeld.1)))), ((cell_far (p := ⟨gb443, _, none⟩) NB432_443.out _).trans (((cell_far (p := ⟨gb443, _, none⟩) NB432_443.out _).trans (hHeld.2.1)))), ((cell_far (p := ⟨gb443, _, none⟩) NB432_443.out _).trans (((cell_far (p := ⟨gb443, _, none⟩) NB432_443.out _).trans (hHeld.2.2))))⟩ (fun hHeld => ?_)
    clear hK K
    refine done_ kr ?_
    have hnb34 := NB443_432.out
    have hnc34 := NB432_443.out
    have hnb35 := NB443_433.out
    have hnc35 := NB433_443.out
    have hcz36_0 : w31.cell? ⟨gb443, 0, none⟩ = some (.nilFunc) := (kC BK443.out 0).trans rfl
    have hcz36_1 : w31.cell? ⟨gb443, 1, none⟩ = some (.nilFunc) := (kC BK443.out 1).trans rfl
    have hfz36_0 := kF BK443.out 0
    have hfz36_1 := kF BK443.out 1
    try go_wp2_with (first | ((with_reducible refine gate_callee (f := 60) rfl ?_); refine goesL_ (some 33) rfl rfl Try.func60 kr rfl #[.agg #[.func (.func 115) #[] #[], .func (.func 117) #[] #[]], .slice A1 l1.length c1] rfl mq ?_; (with_reducible refine (impl_undo_gather.calls k _ _ impl_samples_1.f _ _ impl_part.f _ _ l1 t444 _ ?side1 ?side2 ?side3 ?side4 A9.out).mono ?_); (case side1 => exact ok4_samples_1 _); (case side2 => exact ok2_part _); (case side3 => exact cB HR1.out bq); (case side4 => exact HC1.out); rintro e w37 ⟨v445, rfl, ho0, hb⟩; refine ⟨_, rfl, ?_⟩; replace HO0_1 := aM (Kd.V_elder' (vq ((Kd.V_mono (Kd.V_far (p := ⟨gb443, 1, none⟩) (Kd.V_far (p := ⟨gb443, 0, none⟩) (Kd.V_mono HO0_1.out (fun k_ hk => (⟨hk, hk.2.2.2.2⟩ : _ ∧ k_ ≠ gb443))) (fun _ hk => hk.2) (.func (.func 115) #[] #[])) (fun _ hk => hk.2) (.func (.func 117) #[] #[])) (fun _ h_ => h_.1)))) (rB ho0) hb); have HO446 := aM (rG (rW (Kd.R_newM (M := fun k_ => (w.heap.size ≤ k_)) ho0 (bZ bq) (fun k_ h_ => h_)) (rT (rM (rf (Kd.R_types HO439.out BK443.out (by decide))) (fun _ h_ => h_.1)))) (bZ bq)); replace HO439 := aM (rH (rM (rf (Kd.R_types HO439.out BK443.out (by decide))) (fun _ h_ => h_.1)) (rB ho0) hb); replace BK432 := aM (kB (g := gb432) (o := .cells #[.int .i64 a0_0, .slice A0_1 l0_1.length c0_1, .slice A0_2 l0_2.length c0_2] 35 (0, 0)) (fq BK432.out) hb); replace BK433 := aM (kB (g := gb433) (o := .cells #[.int .i64 0, .int .i64 0, .slice none 0 0, .slice none 0 0, .slice none 0 0] 37 (0, 0)) (fq BK433.out) hb); replace BK443 := aM (kB (g := gb443) (o := .cells #[.func (.func 115) #[] #[], .func (.func 117) #[] #[]] 94 (0, 0)) (fq BK443.out) hb); replace HB := aM (bT bq hb); (try clear hb); (try clear ho0)))
    replace HO0_1 := aM (Kd.V_drew HO0_1.out)
    replace HO439 := aM (rD HO439.out)
    replace HO446 := aM (rD HO446.out)
    replace BK432 := aM (kD BK432.out)
    replace BK433 := aM (kD BK433.out)
    replace BK443 := aM (kD BK443.out)
    replace HB := aM (bD HB.out)
    obtain ⟨Ao40, co40, eo40⟩ := Kd.R_slice HO446.out
    (first | subst eo40 | (injection eo40 with f1_ f2_ f3_; have f4_ := f1_.symm; have f5_ := f3_.symm; clear f1_ f2_ f3_; subst f4_; subst f5_))
    have q39 : ((ji10) : Int) ≤ ((t444.length : Int) : Int) := of_decide_eq_true (by first | (with_reducible assumption) | assumption)
    obtain ⟨i039, hi039, _, hsz39, _⟩ := info_parts info2
    have hroom39 : t444.length ≤ co40 := (rR HO446.out).2.1
    have hC39 : Kd.F (Kd.int .i64) _ _ Ao40 t444.length t444 := (Kd.V_at (base := w.heap.size) (Kd.V_mono (ok' := (fun k_ => ((((((P0_1_ k_ ∨ w.heap.size ≤ k_) ∧ True) ∧ nS Ao26 y437 co26 k_) ∧ k_ ≠ gb432) ∧ k_ ≠ gb433) ∧ k_ ≠ gb443))) (Kd.R_V (Kd.R_types (Kd.R_types (Kd.R_types (HO446.out) BK432.out (by decide)) BK433.out (by decide)) BK443.out (by decide))) (fun k_ hk => ⟨⟨⟨⟨⟨(.inr (hk.1.1.1.1.1)), trivial⟩, hk.1.1.1.2⟩, hk.1.1.2⟩, hk.1.2⟩, hk.2⟩))).2.2
    have hcut39 := cut_to (P := Try.prog) 22 2 .i64 Try.underlying22 hi039 Ao40 t444.length co40 (ji10) (of_decide_eq_true (by first | (with_reducible assumption) | assumption)) q39 hroom39
    have hr39 := Kd.F_take (m := ((ji10) : Int).toNat) hC39 (by omega)
    have hy39 : y447.length = ((ji10) : Int).toNat := (by rw [Ny447.out, List.length_take]; omega)
    rw [← Ny447.out] at hr39
    rw [← hy39] at hcut39
    have HO451 := aM (show Kd.V (Kd.int .i64) 2 _ w.heap.size _ (.slice Ao40 y447.length co40) y447 from Kd.V_mk (by omega) hr39)
    have HC451 := aM (show y447.length ≤ co40 from by omega)
    clear hr39 hC39 hroom39 hi039 hsz39
    have KY39 := aM hy39
    clear hy39
    replace q39 := eq_true q39
    refine start_ (n := 12) (S := fun w' => w'.cell? ⟨gb432, 0, none⟩ = some (.int .i64 a0_0) ∧ w'.cell? ⟨gb432, 1, none⟩ = some (.slice A0_1 l0_1.length c0_1) ∧ w'.cell? ⟨gb432, 2, none⟩ = some (.slice A0_2 l0_2.length c0_2)) (ds := []) #[N,N,N,N,N,N,N,N,N,N,N,N] kr rfl rfl ⟨(kC BK432.out 0).trans rfl, (kC BK432.out 1).trans rfl, (kC BK432.out 2).trans rfl⟩ (fun hHeld => ?_); refine with_tabW impl_PlayBlock.tab6 impl_PlayBlock.bits6 (fun HT_ HW_ => ?_)
    generalize w37.drew = w38 at HO0_1 HO439 HO446 BK432 BK433 BK443 HB HO451 hHeld ⊢
    refine pp HT_ (N := some 35) 0 #[Y,N,N,N,N,N,N,N,N,N,N,N] ?_
    refine pp HT_ (N := some 37) 2 #[Y,N,Y,N,N,N,N,N,N,N,N,N] ?_
    refine pp HT_ (N := some 38) 3 #[Y,N,Y,Y,N,N,N,N,N,N,N,N] ?_
    refine pp HT_ (N := some 39) 4 #[Y,N,Y,Y,Y,N,N,N,N,N,N,N] ?_
    refine pp HT_ (N := some 40) 5 #[Y,N,Y,Y,Y,Y,N,N,N,N,N,N] ?_
    refine take_ (i := 1) (N := some 36) (v := ?_) (a' := ?_) #[Y,Y,Y,Y,Y,Y,N,N,N,N,N,N] rfl rfl (take_ofW HT_.out HW_.out kr) (fun _ _ _ h => h) (Or.inl ⟨by rfl, ?_⟩) hHeld ?_ ?_
    rotate_left
    ·rintro w' ⟨s0, s1, s2⟩
     go_simp
     with_reducible rfl
    rotate_left
    ·simp only [Act.put, pa, pb, pc, i64_w, i32_w]
     rfl
    refine one_ (i := 6) (N := some 41) #[Y,Y,Y,Y,Y,Y,Y,N,N,N,N,N] rfl rfl (one_of HT_.out kr) (by decide) (fun K hK => ?_)
    refine goes_ Try.func61 kr rfl #[.slice A0_2 l0_2.length c0_2, .slice Ao40 y447.length co40, .func (.func 70) #[] #[.pointer (some ⟨gb443, 0, none⟩), .pointer (some ⟨gb432, 0, none⟩)]] (by rfl) rfl rfl mq ?_
    with_reducible refine (impl_seam.calls k _ _ l0_2 _ _ y447 _ _ (impl_samples_1.f a0_0) t452 t453 _ ?side1 ?side2 ?side3 ?side4 ?side5 A13.out).mono ?_
    (case side1 => exact cq (cB HR0_2.out HB.out))
    (case side2 => exact HC0_2.out)
    (case side3 => exact cq (Kd.V_reads' HO451.out).2.2)
    (case side4 => exact (Kd.V_reads' HO451.out).2.1)
    (case side5 => exact (ok3_PlayBlock_1 gb443 gb432 _ _ _ _ _ ((kC (kq BK443.out) 0).trans rfl) ((kC (kq BK432.out) 0).trans rfl) (ok4_samples_1 _)))
    rintro e w41 ⟨v454, v456, rfl, ho0, ho1, hb⟩
    refine ⟨_, rfl, ?_⟩
    replace HO0_1 := aM (Kd.V_mono (Kd.V_told (Kd.V_told (Kd.V_old (vq HO0_1.out) hb) (rB ho0)) (rB ho1)) (fun _ h_ => h_.1))
    replace HO451 := aM (Kd.V_mono (Kd.V_told (Kd.V_told (Kd.V_old (vq HO451.out) hb) (rB ho0)) (rB ho1)) (fun _ h_ => h_.1))
    have HO455 := aM (rG (rW (rW (Kd.R_newM (M := fun k_ => (w.heap.size ≤ k_)) ho0 (bZ bq) (fun k_ h_ => h_)) (rT (rq HO439.out))) (rT (rq HO446.out))) (bZ bq))
    have HO457 := aM (rG (rW (rW (Kd.R_newM (M := fun k_ => (w.heap.size ≤ k_)) ho1 (bZ bq) (fun k_ h_ => h_)) (rT (rq HO439.out))) (rT (rq HO446.out))) (bZ bq))
    replace HO439 := aM (rM (rO (rO (rE (rq HO439.out) hb) (rB ho0)) (rB ho1)) (fun _ h_ => h_.1))
    replace HO446 := aM (rM (rO (rO (rE (rq HO446.out) hb) (rB ho0)) (rB ho1)) (fun _ h_ => h_.1))
    replace BK432 := aM (kB (kq BK432.out) hb)
    replace BK433 := aM (kB (kq BK433.out) hb)
    replace BK443 := aM (kB (kq BK443.out) hb)
    replace HB := aM (bT bq hb)
    (try clear hb)
    (try clear hb2)
    (try clear hk)
    (try clear hi)
    (try clear ho0)
    (try clear ho1)
    refine hK.out _ _ ⟨(kC BK432.out 0).trans rfl, (kC BK432.out 1).trans rfl, (kC BK432.out 2).trans rfl⟩ (fun hHeld => ?_)
    clear hK K
    refine norm_ (a' := ?_) ?_ ?_
    rotate_left
    ·show Act.put _ (some 41) _ = _
     simp only [Act.put, pa, pb, pc, i64_w, i32_w]
     rfl
    refine pp HT_ (N := some 34) 7 #[Y,Y,Y,Y,Y,Y,Y,Y,N,N,N,N] ?_
    refine pp HT_ (N := some 42) 8 #[Y,Y,Y,Y,Y,Y,Y,Y,Y,N,N,N] ?_
    refine pp HT_ (N := some 43) 9 #[Y,Y,Y,Y,Y,Y,Y,Y,Y,Y,N,N] ?_
    refine pp HT_ (N := some 9) 10 #[Y,Y,Y,Y,Y,Y,Y,Y,Y,Y,Y,N] ?_
    refine pp HT_ (N := some 10) 11 #[Y,Y,Y,Y,Y,Y,Y,Y,Y,Y,Y,Y] ?_
    refine done_ (done_of HT_.out kr) ?_
    try go_wp2
    replace HO0_1 := aM (Kd.V_drew HO0_1.out)
    replace HO439 := aM (rD HO439.out)
    replace HO446 := aM (rD HO446.out)
    replace HO451 := aM (Kd.V_drew HO451.out)
    replace HO455 := aM (rD HO455.out)
    replace HO457 := aM (rD HO457.out)
    replace BK432 := aM (kD BK432.out)
    replace BK433 := aM (kD BK433.out)
    replace BK443 := aM (kD BK443.out)
    replace HB := aM (bD HB.out)
    have q43 : ((ji10) : Int) ≤ ((t444.length : Int) : Int) := of_decide_eq_true (by first | (with_reducible assumption) | assumption)
    obtain ⟨i043, hi043, _, hsz43, _⟩ := info_parts info2
    have hroom43 : t444.length ≤ co40 := (rR HO446.out).2.1
    have hC43 : Kd.F (Kd.int .i64) _ _ Ao40 t444.length t444 := (Kd.V_at (base := w.heap.size) (Kd.V_mono (ok' := (fun k_ => ((((((((P0_1_ k_ ∨ w.heap.size ≤ k_) ∧ True) ∧ nS Ao26 y437 co26 k_) ∧ nb v454 k_) ∧ nb v456 k_) ∧ k_ ≠ gb432) ∧ k_ ≠ gb433) ∧ k_ ≠ gb443))) (Kd.R_V (Kd.R_types (Kd.R_types (Kd.R_types (HO446.out) BK432.out (by decide)) BK433.out (by decide)) BK443.out (by decide))) (fun k_ hk => ⟨⟨⟨⟨⟨⟨⟨(.inr (hk.1.1.1.1.1.1.1)), trivial⟩, hk.1.1.1.1.1.2⟩, hk.1.1.1.1.2⟩, hk.1.1.1.2⟩, hk.1.1.2⟩, hk.1.2⟩, hk.2⟩))).2.2
    have q043 : (0 : Int) ≤ ((ji10) : Int) := of_decide_eq_true (by first | (with_reducible assumption) | assumption)
    have hcut43 := cut_from (P := Try.prog) 22 2 .i64 Try.underlying22 hi043 1 hsz43 Ao40 t444.length co40 (ji10) q043 q43
    have hr43 := Kd.F_cut (m := ((ji10) : Int).toNat) (c := co40) hC43 (by omega) hroom43
    obtain ⟨A43, hA43⟩ : ∃ A1, A1 = (if co40 = ((ji10) : Int).toNat then Ao40 else (Ao40 : Option Addr).map (·.add (((ji10) : Int).toNat * 1))) := ⟨_, rfl⟩
    obtain ⟨c43, hc43⟩ : ∃ c1, c1 = co40 - ((ji10) : Int).toNat := ⟨_, rfl⟩
    have hy43 : y458.length = t444.length - ((ji10) : Int).toNat := (by rw [Ny458.out, List.length_drop] <;> omega)
    rw [show (t444).drop ((ji10) : Int).toNat = y458 from Ny458.out.symm] at hr43
    replace hr43 : Kd.F (Kd.int .i64) _ _ A43 y458.length y458 := (by rw [hA43]; exact hr43)
    rw [← hy43, ← hA43, ← hc43] at hcut43
    have HO462 := aM (show Kd.V (Kd.int .i64) 2 _ w.heap.size _ (.slice A43 y458.length c43) y458 from Kd.V_mk (by rw [hy43, hc43]; exact Nat.sub_le_sub_right hroom43 _) hr43)
    have HC462 := aM (show y458.length ≤ c43 from by rw [hy43, hc43]; exact Nat.sub_le_sub_right hroom43 _)
    clear hr43 hC43 hroom43 hi043 hsz43 hc43
    have KY43 := aM hy43
    have KA43 := aM hA43
    clear hy43 hA43
    replace q43 := eq_true q43
    refine start_ (n := 15) (S := fun w' => w'.cell? ⟨gb432, 0, none⟩ = some (.int .i64 a0_0) ∧ w'.cell? ⟨gb432, 1, none⟩ = some (.slice A0_1 l0_1.length c0_1) ∧ w'.cell? ⟨gb432, 2, none⟩ = some (.slice A0_2 l0_2.length c0_2)) (ds := []) #[N,N,N,N,N,N,N,N,N,N,N,N,N,N,N] kr rfl rfl ⟨(kC BK432.out 0).trans rfl, (kC BK432.out 1).trans rfl, (kC BK432.out 2).trans rfl⟩ (fun hHeld => ?_); refine with_tabW impl_PlayBlock.tab7 impl_PlayBlock.bits7 (fun HT_ HW_ => ?_)
    generalize w41.drew = w42 at HO0_1 HO439 HO446 HO451 HO455 HO457 BK432 BK433 BK443 HB HO462 hHeld ⊢
    refine pp HT_ (N := some 44) 0 #[Y,N,N,N,N,N,N,N,N,N,N,N,N,N,N] ?_
    refine pp HT_ (N := some 46) 2 #[Y,N,Y,N,N,N,N,N,N,N,N,N,N,N,N] ?_
    refine pp HT_ (N := some 47) 3 #[Y,N,Y,Y,N,N,N,N,N,N,N,N,N,N,N] ?_
    refine pp HT_ (N := some 48) 4 #[Y,N,Y,Y,Y,N,N,N,N,N,N,N,N,N,N] ?_
    refine pp HT_ (N := some 49) 5 #[Y,N,Y,Y,Y,Y,N,N,N,N,N,N,N,N,N] ?_
    refine pp HT_ (N := some 52) 8 #[Y,N,Y,Y,Y,Y,N,N,Y,N,N,N,N,N,N] ?_
    refine pp HT_ (N := some 54) 10 #[Y,N,Y,Y,Y,Y,N,N,Y,N,Y,N,N,N,N] ?_
    refine take_ (i := 1) (N := some 45) (v := ?_) (a' := ?_) #[Y,Y,Y,Y,Y,Y,N,N,Y,N,Y,N,N,N,N] rfl rfl (take_ofW HT_.out HW_.out kr) (fun _ _ _ h => h) (Or.inl ⟨by rfl, ?_⟩) hHeld ?_ ?_
    rotate_left
    ·rintro w' ⟨s0, s1, s2⟩
     go_simp
     with_reducible rfl
    rotate_left
    ·simp only [Act.put, pa, pb, pc, i64_w, i32_w]
     rfl
    refine take_ (i := 9) (N := some 53) (v := ?_) (a' := ?_) #[Y,Y,Y,Y,Y,Y,N,N,Y,Y,Y,N,N,N,N] rfl rfl (take_ofW HT_.out HW_.out kr) (fun _ _ _ h => h) (Or.inl ⟨by rfl, ?_⟩) hHeld ?_ ?_
    rotate_left
    ·rintro w' ⟨s0, s1, s2⟩
     go_simp
     with_reducible rfl
    rotate_left
    ·simp only [Act.put, pa, pb, pc, i64_w, i32_w]
     rfl
    obtain ⟨Ao46, co46, eo46⟩ := Kd.R_slice HO457.out
    subst eo46
    refine join_ (σ := Value × Value) 3 #[Y,Y,Y,Y,Y,Y,Y,Y,Y,Y,Y,Y,N,N,N] (fun s_ => [(50, s_.1), (55, s_.2), (51, .agg #[.int .i64 a0_0, .slice Ao46 t453.length co46, s_.1])]) (fun s_ w' => (w'.cell? ⟨gb432, 0, none⟩ = some (.int .i64 a0_0) ∧ w'.cell? ⟨gb432, 1, none⟩ = some (.slice A0_1 l0_1.length c0_1) ∧ w'.cell? ⟨gb432, 2, none⟩ = some (.slice A0_2 l0_2.length c0_2)) ∧ (Kd.V (Kd.int .i64) 2 w' w.heap.size (fun k_ => (P0_1_ k_ ∨ w.heap.size ≤ k_) ∧ nS Ao26 y437 co26 k_ ∧ nS Ao40 t444 co40 k_ ∧ nS Ao46 t453 co46 k_ ∧ some k_ ≠ (s_.1 : Value).ownBlock ∧ some k_ ≠ (s_.2 : Value).ownBlock ∧ k_ ≠ gb432 ∧ k_ ≠ gb433 ∧ k_ ≠ gb443) (.slice A0_1 l0_1.length c0_1) l0_1) ∧ (Kd.R (Kd.int .i64) 2 w' w.heap.size (fun k_ => (w.heap.size ≤ k_) ∧ nS Ao40 t444 co40 k_ ∧ nS Ao46 t453 co46 k_ ∧ some k_ ≠ (s_.1 : Value).ownBlock) (.slice Ao26 y437.length co26) y437) ∧ (Kd.R (Kd.int .i64) 2 w' w.heap.size (fun k_ => (w.heap.size ≤ k_) ∧ nS Ao26 y437 co26 k_ ∧ nS Ao46 t453 co46 k_ ∧ some k_ ≠ (s_.1 : Value).ownBlock) (.slice Ao40 t444.length co40) t444) ∧ (Kd.V (Kd.int .i64) 2 w' w.heap.size (fun k_ => (P0_1_ k_ ∨ w.heap.size ≤ k_) ∧ nS Ao26 y437 co26 k_ ∧ nS Ao46 t453 co46 k_ ∧ some k_ ≠ (s_.1 : Value).ownBlock ∧ some k_ ≠ (s_.2 : Value).ownBlock ∧ k_ ≠ gb432 ∧ k_ ≠ gb433 ∧ k_ ≠ gb443) (.slice Ao40 y447.length co40) y447) ∧ (Kd.R (Kd.int .i64) 2 w' w.heap.size (fun k_ => (w.heap.size ≤ k_) ∧ nS Ao26 y437 co26 k_ ∧ nS Ao40 t444 co40 k_ ∧ some k_ ≠ (s_.1 : Value).ownBlock) (.slice Ao46 t453.length co46) t453) ∧ (Kd.V (Kd.int .i64) 2 w' w.heap.size (fun k_ => (P0_1_ k_ ∨ w.heap.size ≤ k_) ∧ nS Ao26 y437 co26 k_ ∧ nS Ao46 t453 co46 k_ ∧ some k_ ≠ (s_.1 : Value).ownBlock ∧ some k_ ≠ (s_.2 : Value).ownBlock ∧ k_ ≠ gb432 ∧ k_ ≠ gb433 ∧ k_ ≠ gb443) (.slice A43 y458.length c43) y458) ∧ (Kd.R (Kd.int .i64) 2 w' w.heap.size (fun k_ => (w.heap.size ≤ k_) ∧ nS Ao26 y437 co26 k_ ∧ nS Ao40 t444 co40 k_ ∧ nS Ao46 t453 co46 k_) s_.1 t463) ∧ (Kd.N (Kd.slice 2 (Kd.int .i64)) 22 w' w.heap.size (fun k_ => (P0_1_ k_ ∨ w.heap.size ≤ k_) ∧ nS Ao26 y437 co26 k_ ∧ nS Ao40 t444 co40 k_ ∧ nS Ao46 t453 co46 k_ ∧ some k_ ≠ (s_.1 : Value).ownBlock ∧ k_ ≠ gb432 ∧ k_ ≠ gb433 ∧ k_ ≠ gb443) s_.2 y466) ∧ (w'.heap[gb432]? = some (.cells #[.int .i64 a0_0, .slice A0_1 l0_1.length c0_1, .slice A0_2 l0_2.length c0_2] 35 (0, 0))) ∧ (w'.heap[gb433]? = some (.cells #[.int .i64 0, .int .i64 0, .slice none 0 0, .slice none 0 0, .slice none 0 0] 37 (0, 0))) ∧ (w'.heap[gb443]? = some (.cells #[.func (.func 115) #[] #[], .func (.func 117) #[] #[]] 94 (0, 0))) ∧ (Below w.heap.size w w')) ?_ ?_
    rotate_left
    ·intro hCont
     refine two_ (i := 6) (j := 11) (Ni := some 50) (Nj := some 55) #[Y,Y,Y,Y,Y,Y,Y,N,Y,Y,Y,N,N,N,N] #[Y,Y,Y,Y,Y,Y,N,N,Y,Y,Y,Y,N,N,N] rfl rfl rfl rfl (two_of HT_.out kr) (by decide) (by decide) (fun K hK => ?_) (fun K hK => ?_)
     ·skip
      refine goes_ Try.func71 kr rfl #[.slice A43 y458.length c43] (by rfl) rfl rfl mq ?_
      with_reducible refine (slices_Clone_int64_int64.calls _ _ y458 t463 _ ?side1 ?side2 A16.out).mono ?_
      (case side1 => exact cq (Kd.V_reads' HO462.out).2.2)
      (case side2 => exact (Kd.V_reads' HO462.out).2.1)
      rintro e w44 ⟨v464, rfl, ho0, hb⟩
      refine ⟨_, rfl, ?_⟩
      replace HO0_1 := aM (Kd.V_elder' (vq HO0_1.out) (rB ho0) hb)
      replace HO451 := aM (Kd.V_elder' (vq HO451.out) (rB ho0) hb)
      replace HO462 := aM (Kd.V_elder' (vq HO462.out) (rB ho0) hb)
      have HO465 := aM (rG (rW (rW (rW (rW (Kd.R_newM (M := fun k_ => (w.heap.size ≤ k_)) ho0 (bZ bq) (fun k_ h_ => h_)) (rT (rq HO439.out))) (rT (rq HO446.out))) (rT (rq HO455.out))) (rT (rq HO457.out))) (bZ bq))
      replace HO439 := aM (rH (rq HO439.out) (rB ho0) hb)
      replace HO446 := aM (rH (rq HO446.out) (rB ho0) hb)
      replace HO455 := aM (rH (rq HO455.out) (rB ho0) hb)
      replace HO457 := aM (rH (rq HO457.out) (rB ho0) hb)
      replace BK432 := aM (kB (kq BK432.out) hb)
      replace BK433 := aM (kB (kq BK433.out) hb)
      replace BK443 := aM (kB (kq BK443.out) hb)
      replace HB := aM (bT bq hb)
      (try clear hb)
      (try clear hb2)
      (try clear hk)
      (try clear hi)
      (try clear ho0)
      obtain ⟨Ao45, co45, eo45⟩ := Kd.R_slice HO465.out
      (first | subst eo45 | (injection eo45 with f1_ f2_ f3_; have f4_ := f1_.symm; have f5_ := f3_.symm; clear f1_ f2_ f3_; subst f4_; subst f5_))
      obtain ⟨Ao46, co46, eo46⟩ := Kd.R_slice HO457.out
      (first | subst eo46 | (injection eo46 with f1_ f2_ f3_; have f4_ := f1_.symm; have f5_ := f3_.symm; clear f1_ f2_ f3_; subst f4_; subst f5_))
      obtain ⟨Ao47, co47, eo47⟩ := Kd.R_slice HO455.out
      (first | subst eo47 | (injection eo47 with f1_ f2_ f3_; have f4_ := f1_.symm; have f5_ := f3_.symm; clear f1_ f2_ f3_; subst f4_; subst f5_))
      refine hK.out _ _ ⟨(kC BK432.out 0).trans rfl, (kC BK432.out 1).trans rfl, (kC BK432.out 2).trans rfl⟩ (fun hHeld => ?_)
      clear hK K
      refine norm_ (a' := ?_) ?_ ?_
      rotate_left
      ·show Act.put _ (some 50) _ = _
       simp only [Act.put, pa, pb, pc, i64_w, i32_w]
       rfl
      refine pp HT_ (N := some 51) 7 #[Y,Y,Y,Y,Y,Y,Y,Y,Y,Y,Y,N,N,N,N] ?_
      refine one_ (i := 11) (N := some 55) #[Y,Y,Y,Y,Y,Y,Y,Y,Y,Y,Y,Y,N,N,N] rfl rfl (one_of HT_.out kr) (by decide) (fun K hK => ?_)
      refine Kd.N_lit_step (Kd.slice 2 (Kd.int .i64)) _ 22 ?hg (N' := 55) ?hd (xs := ([l0_1, t452] : List (List Int))) (inner := [.slice A0_1 l0_1.length c0_1, .slice Ao47 t452.length co47]) (ok := (fun k_ => (P0_1_ k_ ∨ w.heap.size ≤ k_) ∧ nS Ao26 y437 co26 k_ ∧ nS Ao40 t444 co40 k_ ∧ nS Ao46 t453 co46 k_ ∧ nS Ao45 t463 co45 k_ ∧ k_ ≠ gb432 ∧ k_ ≠ gb433 ∧ k_ ≠ gb443)) (okp := (fun k_ => (P0_1_ k_ ∨ w.heap.size ≤ k_) ∧ nS Ao26 y437 co26 k_ ∧ nS Ao40 t444 co40 k_ ∧ nS Ao46 t453 co46 k_ ∧ nS Ao45 t463 co45 k_ ∧ k_ ≠ gb432 ∧ k_ ≠ gb433 ∧ k_ ≠ gb443)) ?hr ?hp (fun _ hk => hk) ((show ∀ k_, w44.heap.size ≤ k_ → (fun k_ => (P0_1_ k_ ∨ w.heap.size ≤ k_) ∧ nS Ao26 y437 co26 k_ ∧ nS Ao40 t444 co40 k_ ∧ nS Ao46 t453 co46 k_ ∧ nS Ao45 t463 co45 k_ ∧ k_ ≠ gb432 ∧ k_ ≠ gb433 ∧ k_ ≠ gb443) k_ from fun k_ hk => ⟨(.inr (Nat.le_trans (bZ bq) hk)), Kd.fresh' (rT (rq HO439.out)) k_ hk, Kd.fresh' (rT (rq HO446.out)) k_ hk, Kd.fresh' (rT (rq HO457.out)) k_ hk, Kd.fresh' (rT (rq HO465.out)) k_ hk, Kd.freshB (kq BK432.out) k_ hk, Kd.freshB (kq BK433.out) k_ hk, Kd.freshB (kq BK443.out) k_ hk⟩) _ (Nat.le_refl _)) (Below.refl _ _) (Nat.le_refl _) (by simp) ?_; (case hd => rfl); (case hg => rfl); (case hr => first | (go_simp; done) | (go_simp; rfl)); (case hp => exact (Reps.one (show Kd.FK (Kd.slice 2 (Kd.int .i64)) _ _ l0_1 [.slice A0_1 l0_1.length c0_1] from (Kd.FK_slice_mk (Kd.V_reads' (Kd.V_mono (ok' := (fun k_ => (P0_1_ k_ ∨ w.heap.size ≤ k_) ∧ nS Ao26 y437 co26 k_ ∧ nS Ao40 t444 co40 k_ ∧ nS Ao46 t453 co46 k_ ∧ nS Ao45 t463 co45 k_ ∧ k_ ≠ gb432 ∧ k_ ≠ gb433 ∧ k_ ≠ gb443)) (HO0_1.out) jq)).2.1 (Kd.V_F (Kd.V_mono (ok' := (fun k_ => (P0_1_ k_ ∨ w.heap.size ≤ k_) ∧ nS Ao26 y437 co26 k_ ∧ nS Ao40 t444 co40 k_ ∧ nS Ao46 t453 co46 k_ ∧ nS Ao45 t463 co45 k_ ∧ k_ ≠ gb432 ∧ k_ ≠ gb433 ∧ k_ ≠ gb443)) (HO0_1.out) jq)))) (Reps.one (show Kd.FK (Kd.slice 2 (Kd.int .i64)) _ _ t452 [.slice Ao47 t452.length co47] from (Kd.FK_slice_mk (rR (rM (ok' := (fun k_ => (P0_1_ k_ ∨ w.heap.size ≤ k_) ∧ nS Ao26 y437 co26 k_ ∧ nS Ao40 t444 co40 k_ ∧ nS Ao46 t453 co46 k_ ∧ nS Ao45 t463 co45 k_ ∧ k_ ≠ gb432 ∧ k_ ≠ gb433 ∧ k_ ≠ gb443)) (Kd.R_types (Kd.R_types (Kd.R_types (HO455.out) BK432.out (by decide)) BK433.out (by decide)) BK443.out (by decide)) (fun k_ hk => ⟨(.inr (hk.1.1.1.1.1.1.1)), ⟨hk.1.1.1.1.1.2, ⟨hk.1.1.1.1.2, ⟨hk.1.1.1.1.1.1.2, ⟨hk.1.1.1.2, ⟨hk.1.1.2, ⟨hk.1.2, hk.2⟩⟩⟩⟩⟩⟩⟩))).2.1 (Kd.R_F (rM (ok' := (fun k_ => (P0_1_ k_ ∨ w.heap.size ≤ k_) ∧ nS Ao26 y437 co26 k_ ∧ nS Ao40 t444 co40 k_ ∧ nS Ao46 t453 co46 k_ ∧ nS Ao45 t463 co45 k_ ∧ k_ ≠ gb432 ∧ k_ ≠ gb433 ∧ k_ ≠ gb443)) (Kd.R_types (Kd.R_types (Kd.R_types (HO455.out) BK432.out (by decide)) BK433.out (by decide)) BK443.out (by decide)) (fun k_ hk => ⟨(.inr (hk.1.1.1.1.1.1.1)), ⟨hk.1.1.1.1.1.2, ⟨hk.1.1.1.1.2, ⟨hk.1.1.1.1.1.1.2, ⟨hk.1.1.1.2, ⟨hk.1.1.2, ⟨hk.1.2, hk.2⟩⟩⟩⟩⟩⟩⟩))))) (Reps.none _ _))))
      intro v467 w48 ho49 hb hg_ hnew_
      clear hg_ hnew_
      (first | rw [← Ny466.out] at ho49 | (simp only [Int.reduceToNat] at ho49; rw [← Ny466.out] at ho49))
      replace HO0_1 := aM (Kd.V_elder' (vq HO0_1.out) (Kd.N_base ho49) hb)
      replace HO439 := aM (rL (rq HO439.out) hb)
      replace HO446 := aM (rL (rq HO446.out) hb)
      replace HO451 := aM (Kd.V_elder' (vq HO451.out) (Kd.N_base ho49) hb)
      replace HO457 := aM (rL (rq HO457.out) hb)
      replace HO462 := aM (Kd.V_elder' (vq HO462.out) (Kd.N_base ho49) hb)
      replace HO465 := aM (rL (rq HO465.out) hb)
      have HO468 := aM (Kd.N_lower ho49 (bZ bq))
      replace BK432 := aM (kB (kq BK432.out) hb)
      replace BK433 := aM (kB (kq BK433.out) hb)
      replace BK443 := aM (kB (kq BK443.out) hb)
      replace HB := aM (bT bq hb)
      clear HO455 hb ho49
      refine hK.out _ _ ⟨(kC BK432.out 0).trans rfl, (kC BK432.out 1).trans rfl, (kC BK432.out 2).trans rfl⟩ (fun hHeld => ?_)
      clear hK K
      refine norm_ (a' := ?_) ?_ ?_
      rotate_left
      ·show Act.put _ (some 55) _ = _
       simp only [Act.put, pa, pb, pc, i64_w, i32_w]
       rfl
      exact norm_ (by simp only [putAll, Act.put, pa, pb, pc]) (hCont (.slice Ao45 t463.length co45, v467) _ ⟨hHeld, (vq (Kd.V_mono HO0_1.out jq)), (rq (rM HO439.out jq)), (rq (rM HO446.out jq)), (vq (Kd.V_mono HO451.out jq)), (rq (rM HO457.out jq)), (vq (Kd.V_mono HO462.out jq)), (rq (rM HO465.out jq)), (nq HO468.out), (kq BK432.out), (kq BK433.out), (kq BK443.out), bq⟩)
     ·skip
      obtain ⟨Ao44, co44, eo44⟩ := Kd.R_slice HO455.out
      (first | subst eo44 | (injection eo44 with f1_ f2_ f3_; have f4_ := f1_.symm; have f5_ := f3_.symm; clear f1_ f2_ f3_; subst f4_; subst f5_))
      refine Kd.N_lit_step (Kd.slice 2 (Kd.int .i64)) _ 22 ?hg (N' := 55) ?hd (xs := ([l0_1, t452] : List (List Int))) (inner := [.slice A0_1 l0_1.length c0_1, .slice Ao44 t452.length co44]) (ok := (fun k_ => (P0_1_ k_ ∨ w.heap.size ≤ k_) ∧ nS Ao26 y437 co26 k_ ∧ nS Ao40 t444 co40 k_ ∧ some k_ ≠ ((.slice Ao46 t453.length co46) : Value).ownBlock ∧ k_ ≠ gb432 ∧ k_ ≠ gb433 ∧ k_ ≠ gb443)) (okp := (fun k_ => (P0_1_ k_ ∨ w.heap.size ≤ k_) ∧ nS Ao26 y437 co26 k_ ∧ nS Ao40 t444 co40 k_ ∧ some k_ ≠ ((.slice Ao46 t453.length co46) : Value).ownBlock ∧ k_ ≠ gb432 ∧ k_ ≠ gb433 ∧ k_ ≠ gb443)) ?hr ?hp (fun _ hk => hk) ((show ∀ k_, w42.heap.size ≤ k_ → (fun k_ => (P0_1_ k_ ∨ w.heap.size ≤ k_) ∧ nS Ao26 y437 co26 k_ ∧ nS Ao40 t444 co40 k_ ∧ some k_ ≠ ((.slice Ao46 t453.length co46) : Value).ownBlock ∧ k_ ≠ gb432 ∧ k_ ≠ gb433 ∧ k_ ≠ gb443) k_ from fun k_ hk => ⟨(.inr (Nat.le_trans (bZ bq) hk)), Kd.fresh' (rT (rq HO439.out)) k_ hk, Kd.fresh' (rT (rq HO446.out)) k_ hk, Kd.fresh' (rT (rq HO457.out)) k_ hk, Kd.freshB (kq BK432.out) k_ hk, Kd.freshB (kq BK433.out) k_ hk, Kd.freshB (kq BK443.out) k_ hk⟩) _ (Nat.le_refl _)) (Below.refl _ _) (Nat.le_refl _) (by simp) ?_; (case hd => rfl); (case hg => rfl); (case hr => first | (go_simp; done) | (go_simp; rfl)); (case hp => exact (Reps.one (show Kd.FK (Kd.slice 2 (Kd.int .i64)) _ _ l0_1 [.slice A0_1 l0_1.length c0_1] from (Kd.FK_slice_mk (Kd.V_reads' (Kd.V_mono (ok' := (fun k_ => (P0_1_ k_ ∨ w.heap.size ≤ k_) ∧ nS Ao26 y437 co26 k_ ∧ nS Ao40 t444 co40 k_ ∧ some k_ ≠ ((.slice Ao46 t453.length co46) : Value).ownBlock ∧ k_ ≠ gb432 ∧ k_ ≠ gb433 ∧ k_ ≠ gb443)) (HO0_1.out) jq)).2.1 (Kd.V_F (Kd.V_mono (ok' := (fun k_ => (P0_1_ k_ ∨ w.heap.size ≤ k_) ∧ nS Ao26 y437 co26 k_ ∧ nS Ao40 t444 co40 k_ ∧ some k_ ≠ ((.slice Ao46 t453.length co46) : Value).ownBlock ∧ k_ ≠ gb432 ∧ k_ ≠ gb433 ∧ k_ ≠ gb443)) (HO0_1.out) jq)))) (Reps.one (show Kd.FK (Kd.slice 2 (Kd.int .i64)) _ _ t452 [.slice Ao44 t452.length co44] from (Kd.FK_slice_mk (rR (rM (ok' := (fun k_ => (P0_1_ k_ ∨ w.heap.size ≤ k_) ∧ nS Ao26 y437 co26 k_ ∧ nS Ao40 t444 co40 k_ ∧ some k_ ≠ ((.slice Ao46 t453.length co46) : Value).ownBlock ∧ k_ ≠ gb432 ∧ k_ ≠ gb433 ∧ k_ ≠ gb443)) (Kd.R_types (Kd.R_types (Kd.R_types (HO455.out) BK432.out (by decide)) BK433.out (by decide)) BK443.out (by decide)) (fun k_ hk => ⟨(.inr (hk.1.1.1.1.1.1)), ⟨hk.1.1.1.1.2, ⟨hk.1.1.1.2, ⟨hk.1.1.1.1.1.2, ⟨hk.1.1.2, ⟨hk.1.2, hk.2⟩⟩⟩⟩⟩⟩))).2.1 (Kd.R_F (rM (ok' := (fun k_ => (P0_1_ k_ ∨ w.heap.size ≤ k_) ∧ nS Ao26 y437 co26 k_ ∧ nS Ao40 t444 co40 k_ ∧ some k_ ≠ ((.slice Ao46 t453.length co46) : Value).ownBlock ∧ k_ ≠ gb432 ∧ k_ ≠ gb433 ∧ k_ ≠ gb443)) (Kd.R_types (Kd.R_types (Kd.R_types (HO455.out) BK432.out (by decide)) BK433.out (by decide)) BK443.out (by decide)) (fun k_ hk => ⟨(.inr (hk.1.1.1.1.1.1)), ⟨hk.1.1.1.1.2, ⟨hk.1.1.1.2, ⟨hk.1.1.1.1.1.2, ⟨hk.1.1.2, ⟨hk.1.2, hk.2⟩⟩⟩⟩⟩⟩))))) (Reps.none _ _))))
      intro v467 w45 ho46 hb hg_ hnew_
      clear hg_ hnew_
      (first | rw [← Ny466.out] at ho46 | (simp only [Int.reduceToNat] at ho46; rw [← Ny466.out] at ho46))
      replace HO0_1 := aM (Kd.V_elder' (vq HO0_1.out) (Kd.N_base ho46) hb)
      replace HO439 := aM (rL (rq HO439.out) hb)
      replace HO446 := aM (rL (rq HO446.out) hb)
      replace HO451 := aM (Kd.V_elder' (vq HO451.out) (Kd.N_base ho46) hb)
      replace HO457 := aM (rL (rq HO457.out) hb)
      replace HO462 := aM (Kd.V_elder' (vq HO462.out) (Kd.N_base ho46) hb)
      have HO468 := aM (Kd.N_lower ho46 (bZ bq))
      replace BK432 := aM (kB (kq BK432.out) hb)
      replace BK433 := aM (kB (kq BK433.out) hb)
      replace BK443 := aM (kB (kq BK443.out) hb)
      replace HB := aM (bT bq hb)
      clear HO455 hb ho46
      refine hK.out _ _ ⟨(kC BK432.out 0).trans rfl, (kC BK432.out 1).trans rfl, (kC BK432.out 2).trans rfl⟩ (fun hHeld => ?_)
      clear hK K
      refine norm_ (a' := ?_) ?_ ?_
      rotate_left
      ·show Act.put _ (some 55) _ = _
       simp only [Act.put, pa, pb, pc, i64_w, i32_w]
       rfl
      refine one_ (i := 6) (N := some 50) #[Y,Y,Y,Y,Y,Y,Y,N,Y,Y,Y,Y,N,N,N] rfl rfl (one_of HT_.out kr) (by decide) (fun K hK => ?_)
      refine goes_ Try.func71 kr rfl #[.slice A43 y458.length c43] (by rfl) rfl rfl mq ?_
      with_reducible refine (slices_Clone_int64_int64.calls _ _ y458 t463 _ ?side1 ?side2 A16.out).mono ?_
      (case side1 => exact cq (Kd.V_reads' HO462.out).2.2)
      (case side2 => exact (Kd.V_reads' HO462.out).2.1)
      rintro e w47 ⟨v464, rfl, ho0, hb⟩
      refine ⟨_, rfl, ?_⟩
      replace HO0_1 := aM (Kd.V_elder' (vq HO0_1.out) (rB ho0) hb)
      replace HO451 := aM (Kd.V_elder' (vq HO451.out) (rB ho0) hb)
      replace HO462 := aM (Kd.V_elder' (vq HO462.out) (rB ho0) hb)
      replace HO468 := aM (Kd.N_elder' (nq HO468.out) (rB ho0) hb)
      have HO465 := aM (rG (rW (rW (rW (Kd.R_newM (M := fun k_ => (w.heap.size ≤ k_)) ho0 (bZ bq) (fun k_ h_ => h_)) (rT (rq HO439.out))) (rT (rq HO446.out))) (rT (rq HO457.out))) (bZ bq))
      replace HO439 := aM (rH (rq HO439.out) (rB ho0) hb)
      replace HO446 := aM (rH (rq HO446.out) (rB ho0) hb)
      replace HO457 := aM (rH (rq HO457.out) (rB ho0) hb)
      replace BK432 := aM (kB (kq BK432.out) hb)
      replace BK433 := aM (kB (kq BK433.out) hb)
      replace BK443 := aM (kB (kq BK443.out) hb)
      replace HB := aM (bT bq hb)
      (try clear hb)
      (try clear hb2)
      (try clear hk)
      (try clear hi)
      (try clear ho0)
      obtain ⟨Ao48, co48, eo48⟩ := Kd.R_slice HO465.out
      (first | subst eo48 | (injection eo48 with f1_ f2_ f3_; have f4_ := f1_.symm; have f5_ := f3_.symm; clear f1_ f2_ f3_; subst f4_; subst f5_))
      obtain ⟨Ao49, co49, eo49⟩ := Kd.R_slice HO457.out
      (first | subst eo49 | (injection eo49 with f1_ f2_ f3_; have f4_ := f1_.symm; have f5_ := f3_.symm; clear f1_ f2_ f3_; subst f4_; subst f5_))
      refine hK.out _ _ ⟨(kC BK432.out 0).trans rfl, (kC BK432.out 1).trans rfl, (kC BK432.out 2).trans rfl⟩ (fun hHeld => ?_)
      clear hK K
      refine norm_ (a' := ?_) ?_ ?_
      rotate_left
      ·show Act.put _ (some 50) _ = _
       simp only [Act.put, pa, pb, pc, i64_w, i32_w]
       rfl
      refine pp HT_ (N := some 51) 7 #[Y,Y,Y,Y,Y,Y,Y,Y,Y,Y,Y,Y,N,N,N] ?_
      exact norm_ (by simp only [putAll, Act.put, pa, pb, pc]) (hCont (.slice Ao48 t463.length co48, v467) _ ⟨hHeld, (vq (Kd.V_mono HO0_1.out jq)), (rq (rM HO439.out jq)), (rq (rM HO446.out jq)), (vq (Kd.V_mono HO451.out jq)), (rq (rM HO457.out jq)), (vq (Kd.V_mono HO462.out jq)), (rq (rM HO465.out jq)), (nq (Kd.N_mono HO468.out jq)), (kq BK432.out), (kq BK433.out), (kq BK443.out), bq⟩)
    rintro ⟨v464, v467⟩ w50 ⟨hS_, h0_, h1_, h2_, h3_, h4_, h5_, h6_, h7_, h8_, h9_, h10_, h11_⟩
    have n0_ : Aside0 (Kd.V (Kd.int .i64) 2 w50 w.heap.size (fun k_ => (P0_1_ k_ ∨ w.heap.size ≤ k_) ∧ nS Ao26 y437 co26 k_ ∧ nS Ao40 t444 co40 k_ ∧ nS Ao46 t453 co46 k_ ∧ nb v464 k_ ∧ nb v467 k_ ∧ k_ ≠ gb432 ∧ k_ ≠ gb433 ∧ k_ ≠ gb443) (.slice A0_1 l0_1.length c0_1) l0_1) := ⟨h0_⟩
    have n1_ : Aside0 (Kd.R (Kd.int .i64) 2 w50 w.heap.size (fun k_ => (w.heap.size ≤ k_) ∧ nS Ao40 t444 co40 k_ ∧ nS Ao46 t453 co46 k_ ∧ nb v464 k_) (.slice Ao26 y437.length co26) y437) := ⟨h1_⟩
    have n2_ : Aside0 (Kd.R (Kd.int .i64) 2 w50 w.heap.size (fun k_ => (w.heap.size ≤ k_) ∧ nS Ao26 y437 co26 k_ ∧ nS Ao46 t453 co46 k_ ∧ nb v464 k_) (.slice Ao40 t444.length co40) t444) := ⟨h2_⟩
    have n3_ : Aside0 (Kd.V (Kd.int .i64) 2 w50 w.heap.size (fun k_ => (P0_1_ k_ ∨ w.heap.size ≤ k_) ∧ nS Ao26 y437 co26 k_ ∧ nS Ao46 t453 co46 k_ ∧ nb v464 k_ ∧ nb v467 k_ ∧ k_ ≠ gb432 ∧ k_ ≠ gb433 ∧ k_ ≠ gb443) (.slice Ao40 y447.length co40) y447) := ⟨h3_⟩
    have n4_ : Aside0 (Kd.R (Kd.int .i64) 2 w50 w.heap.size (fun k_ => (w.heap.size ≤ k_) ∧ nS Ao26 y437 co26 k_ ∧ nS Ao40 t444 co40 k_ ∧ nb v464 k_) (.slice Ao46 t453.length co46) t453) := ⟨h4_⟩
    have n5_ : Aside0 (Kd.V (Kd.int .i64) 2 w50 w.heap.size (fun k_ => (P0_1_ k_ ∨ w.heap.size ≤ k_) ∧ nS Ao26 y437 co26 k_ ∧ nS Ao46 t453 co46 k_ ∧ nb v464 k_ ∧ nb v467 k_ ∧ k_ ≠ gb432 ∧ k_ ≠ gb433 ∧ k_ ≠ gb443) (.slice A43 y458.length c43) y458) := ⟨h5_⟩
    have n6_ : Aside0 (Kd.R (Kd.int .i64) 2 w50 w.heap.size (fun k_ => (w.heap.size ≤ k_) ∧ nS Ao26 y437 co26 k_ ∧ nS Ao40 t444 co40 k_ ∧ nS Ao46 t453 co46 k_) v464 t463) := ⟨h6_⟩
    have n7_ : Aside0 (Kd.N (Kd.slice 2 (Kd.int .i64)) 22 w50 w.heap.size (fun k_ => (P0_1_ k_ ∨ w.heap.size ≤ k_) ∧ nS Ao26 y437 co26 k_ ∧ nS Ao40 t444 co40 k_ ∧ nS Ao46 t453 co46 k_ ∧ nb v464 k_ ∧ k_ ≠ gb432 ∧ k_ ≠ gb433 ∧ k_ ≠ gb443) v467 y466) := ⟨h7_⟩
    have n8_ : Aside0 (w50.heap[gb432]? = some (.cells #[.int .i64 a0_0, .slice A0_1 l0_1.length c0_1, .slice A0_2 l0_2.length c0_2] 35 (0, 0))) := ⟨h8_⟩
    have n9_ : Aside0 (w50.heap[gb433]? = some (.cells #[.int .i64 0, .int .i64 0, .slice none 0 0, .slice none 0 0, .slice none 0 0] 37 (0, 0))) := ⟨h9_⟩
    have n10_ : Aside0 (w50.heap[gb443]? = some (.cells #[.func (.func 115) #[] #[], .func (.func 117) #[] #[]] 94 (0, 0))) := ⟨h10_⟩
    have n11_ : Aside0 (Below w.heap.size w w50) := ⟨h11_⟩
    clear HO0_1 HO439 HO446 HO451 HO455 HO457 BK432 BK433 BK443 HB h0_ h1_ h2_ h3_ h4_ h5_ h6_ h7_ h8_ h9_ h10_ h11_
    have HO0_1 := n0_
    have HO439 := n1_
    have HO446 := n2_
    have HO451 := n3_
    have HO457 := n4_
    have HO462 := n5_
    have HO465 := n6_
    have HO468 := n7_
    have BK432 := n8_
    have BK433 := n9_
    have BK443 := n10_
    have HB := n11_
    clear n0_ n1_ n2_ n3_ n4_ n5_ n6_ n7_ n8_ n9_ n10_ n11_
    have hHeld : w50.cell? ⟨gb432, 0, none⟩ = some (.int .i64 a0_0) ∧ w50.cell? ⟨gb432, 1, none⟩ = some (.slice A0_1 l0_1.length c0_1) ∧ w50.cell? ⟨gb432, 2, none⟩ = some (.slice A0_2 l0_2.length c0_2) := hS_
    obtain ⟨Ao51, co51, eo51⟩ := Kd.R_slice HO465.out
    (first | subst eo51 | (injection eo51 with f1_ f2_ f3_; have f4_ := f1_.symm; have f5_ := f3_.symm; clear f1_ f2_ f3_; subst f4_; subst f5_))
    obtain ⟨Ao52, co52, eo52⟩ := Kd.N_slice HO468.out
    (first | subst eo52 | (injection eo52 with f1_ f2_ f3_; have f4_ := f1_.symm; have f5_ := f3_.symm; clear f1_ f2_ f3_; subst f4_; subst f5_))
    refine norm_ (a' := ?_) ?_ ?_
    rotate_left
    ·simp only [putAll, Act.put, pa, pb, pc]
     rfl
    refine one_ (i := 12) (N := some 56) #[Y,Y,Y,Y,Y,Y,Y,Y,Y,Y,Y,Y,Y,N,N] rfl rfl (one_of HT_.out kr) (by decide) (fun K hK => ?_)
    refine goes_ Try.func62 kr rfl #[.slice Ao52 y466.length co52] (by rfl) rfl rfl mq ?_
    with_reducible refine (slices_Concat_int64_int64.calls k _ _ y466 t469 _ ?side1 ?side2 A17.out).mono ?_
    (case side1 => exact cq (Kd.N_reads' HO468.out).2.2)
    (case side2 => exact (Kd.N_reads' HO468.out).2.1)
    rintro e w53 ⟨v470, rfl, ho0, hb⟩
    refine ⟨_, rfl, ?_⟩
    replace HO0_1 := aM (Kd.V_elder' (vq HO0_1.out) (rB ho0) hb)
    replace HO451 := aM (Kd.V_elder' (vq HO451.out) (rB ho0) hb)
    replace HO462 := aM (Kd.V_elder' (vq HO462.out) (rB ho0) hb)
    replace HO468 := aM (Kd.N_elder' (nq HO468.out) (rB ho0) hb)
    have HO471 := aM (rG (rW (rW (rW (rW (Kd.R_newM (M := fun k_ => (w.heap.size ≤ k_)) ho0 (bZ bq) (fun k_ h_ => h_)) (rT (rq HO439.out))) (rT (rq HO446.out))) (rT (rq HO457.out))) (rT (rq HO465.out))) (bZ bq))
    replace HO439 := aM (rH (rq HO439.out) (rB ho0) hb)
    replace HO446 := aM (rH (rq HO446.out) (rB ho0) hb)
    replace HO457 := aM (rH (rq HO457.out) (rB ho0) hb)
    replace HO465 := aM (rH (rq HO465.out) (rB ho0) hb)
    replace BK432 := aM (kB (kq BK432.out) hb)
    replace BK433 := aM (kB (kq BK433.out) hb)
    replace BK443 := aM (kB (kq BK443.out) hb)
    replace HB := aM (bT bq hb)
    (try clear hb)
    (try clear hb2)
    (try clear hk)
    (try clear hi)
    (try clear ho0)
    obtain ⟨Ao54, co54, eo54⟩ := Kd.R_slice HO471.out
    (first | subst eo54 | (injection eo54 with f1_ f2_ f3_; have f4_ := f1_.symm; have f5_ := f3_.symm; clear f1_ f2_ f3_; subst f4_; subst f5_))
    refine hK.out _ _ ⟨(kC BK432.out 0).trans rfl, (kC BK432.out 1).trans rfl, (kC BK432.out 2).trans rfl⟩ (fun hHeld => ?_)
    clear hK K
    refine norm_ (a' := ?_) ?_ ?_
    rotate_left
    ·show Act.put _ (some 56) _ = _
     simp only [Act.put, pa, pb, pc, i64_w, i32_w]
     rfl
    refine pp HT_ (N := some 57) 13 #[Y,Y,Y,Y,Y,Y,Y,Y,Y,Y,Y,Y,Y,Y,N] ?_
    refine one_ (i := 14) (N := none) #[Y,Y,Y,Y,Y,Y,Y,Y,Y,Y,Y,Y,Y,Y,Y] rfl rfl (one_of HT_.out kr) (by decide) (fun K hK => ?_)
    have hs55 : w53.cell? ⟨gb433, 0, none⟩ = some (.int .i64 0) := (kC BK433.out 0).trans rfl
    have hfs55 := kF BK433.out 0
    have hns55_0 := NB432_433.out
    have hns55_2 := NB443_433.out
    have hms55_0 := NB433_432.out
    have hms55_2 := NB433_443.out
    have hs56 : w53.cell? ⟨gb433, 1, none⟩ = some (.int .i64 0) := (kC BK433.out 1).trans rfl
    have hfs56 := kF BK433.out 1
    have hns56_0 := NB432_433.out
    have hns56_2 := NB443_433.out
    have hms56_0 := NB433_432.out
    have hms56_2 := NB433_443.out
    have hs57 : w53.cell? ⟨gb433, 2, none⟩ = some (.slice none 0 0) := (kC BK433.out 2).trans rfl
    have hfs57 := kF BK433.out 2
    have hns57_0 := NB432_433.out
    have hns57_2 := NB443_433.out
    have hms57_0 := NB433_432.out
    have hms57_2 := NB433_443.out
    have hs58 : w53.cell? ⟨gb433, 3, none⟩ = some (.slice none 0 0) := (kC BK433.out 3).trans rfl
    have hfs58 := kF BK433.out 3
    have hns58_0 := NB432_433.out
    have hns58_2 := NB443_433.out
    have hms58_0 := NB433_432.out
    have hms58_2 := NB433_443.out
    have hs59 : w53.cell? ⟨gb433, 4, none⟩ = some (.slice none 0 0) := (kC BK433.out 4).trans rfl
    have hfs59 := kF BK433.out 4
    have hns59_0 := NB432_433.out
    have hns59_2 := NB443_433.out
    have hms59_0 := NB433_432.out
    have hms59_2 := NB433_443.out
    refine skip_ (w1 := ?_) (by rfl) rfl ?_ ?_
    rotate_left
    ·go_simp
     rfl
    refine hK.out _ _ ⟨((cell_far (p := ⟨gb433, _, none⟩) NB432_433.out _).trans (((cell_far (p := ⟨gb433, _, none⟩) NB432_433.out _).trans (((cell_far (p := ⟨gb433, _, none⟩) NB432_433.out _).trans (((cell_far (p := ⟨gb433, _, none⟩) NB432_433.out _).trans (((cell_far (p := ⟨gb433, _, none⟩) NB432_433.out _).trans (hHeld.1)))))))))), ((cell_far (p := ⟨gb433, _, none⟩) NB432_433.out _).trans (((cell_far (p := ⟨gb433, _, none⟩) NB432_433.out _).trans (((cell_far (p := ⟨gb433, _, none⟩) NB432_433.out _).trans (((cell_far (p := ⟨gb433, _, none⟩) NB432_433.out _).trans (((cell_far (p := ⟨gb433, _, none⟩) NB432_433.out _).trans (hHeld.2.1)))))))))), ((cell_far (p := ⟨gb433, _, none⟩) NB432_433.out _).trans (((cell_far (p := ⟨gb433, _, none⟩) NB432_433.out _).trans (((cell_far (p := ⟨gb433, _, none⟩) NB432_433.out _).trans (((cell_far (p := ⟨gb433, _, none⟩) NB432_433.out _).trans (((cell_far (p := ⟨gb433, _, none⟩) NB432_433.out _).trans (hHeld.2.2))))))))))⟩ (fun hHeld => ?_)
    clear hK K
    refine done_ (done_of HT_.out kr) ?_
    try go_wp2
    refine bodyPost_ret (results_cell_row rfl _ _ gb433 37 #[.int .i64 0, .int .i64 a0_0, .slice Ao46 t453.length co46, .slice Ao51 t463.length co51, .slice Ao54 t469.length co54] (0, 0) _ rfl (fq BK433.out) Try.underlying37 rfl kr) rfl ?_
    exact ⟨_, _, _, by first | rfl | (simp [errW_none, errW_some] <;> rfl) | (simp only [← hji10]; first | rfl | (simp [errW_none, errW_some] <;> rfl)) | (simp [*, errW_none, errW_some] <;> rfl), by (with_reducible repeat (first | apply rA | apply rN | apply rD)); exact rM (rf (Kd.R_types HO457.out BK433.out (by decide))) jq, by (with_reducible repeat (first | apply rA | apply rN | apply rD)); exact rM (rf (Kd.R_types HO465.out BK433.out (by decide))) jq, by (with_reducible repeat (first | apply rA | apply rN | apply rD)); exact rM (rf (Kd.R_types HO471.out BK433.out (by decide))) jq, bq⟩
   ·rw [if_neg c12] at H
    exact absurd H (by simp)
  ·rw [if_neg c11] at H
   exact absurd H (by simp)
 ·rw [if_neg c7] at H
  have c7b0 : (t440 == 0) = false := beq_eq_false_iff_ne.mpr c7
  have c7b1 : (t440 != 0) = true := bne_iff_ne.mpr c7
  simp only [Option.some.injEq, Prod.mk.injEq] at H
  obtain ⟨rfl, rfl, rfl, rfl, rfl⟩ := H
  go_enter Try.func20, Try.ntmps20
  try go_wp2_with (first | ((with_reducible refine gate_dst (N := 2) rfl ?_); refine box_event ?hg (N := 2) ?hd (cs := #[.int .i64 a0_0, .slice A0_1 l0_1.length c0_1, .slice A0_2 l0_2.length c0_2]) (t := 35) ?hr ?_; (case hd => rfl); (case hg => rfl); (case hr => first | (go_simp; done) | (go_simp; rfl)); intro gb432 hg w60 hbox hb; replace HO0_1 := aM (Kd.V_below (Kd.V_elderB (vq HO0_1.out) gb432 (Nat.le_of_eq hg.symm)) hb); have BK432 := aM (hbox); have GW432 := aM ((by rw [hg]; exact (bZ bq) : w.heap.size ≤ gb432)); have GE432 := aM ((by rw [hg]; exact (bZ bq) : w.heap.size ≤ gb432)); replace HB := aM (bT bq hb); clear hb hbox hg) | ((with_reducible refine gate_dst (N := 4) rfl ?_); refine box_event ?hg (N := 4) ?hd (cs := #[.int .i64 0, .int .i64 0, .slice none 0 0, .slice none 0 0, .slice none 0 0]) (t := 37) ?hr ?_; (case hd => rfl); (case hg => rfl); (case hr => first | (go_simp; done) | (go_simp; rfl)); intro gb433 hg w61 hbox hb; replace HO0_1 := aM (Kd.V_below (Kd.V_elderB (vq HO0_1.out) gb433 (Nat.le_of_eq hg.symm)) hb); have BK433 := aM (hbox); have GW433 := aM ((by rw [hg]; exact (bZ bq) : w.heap.size ≤ gb433)); have GE433 := aM ((by rw [hg]; exact (bZ bq) : w.heap.size ≤ gb433)); replace HB := aM (bT bq hb); have NB432_433 := aM ((by rw [hg]; exact Nat.ne_of_lt (blk_lt (kq BK432.out)) : gb432 ≠ gb433)); have NB433_432 := aM ((by rw [hg]; exact Nat.ne_of_gt (blk_lt (kq BK432.out)) : gb433 ≠ gb432)); replace BK432 := aM (kB (kq BK432.out) hb); clear hb hbox hg))
  replace HO0_1 := aM (Kd.V_drew HO0_1.out)
  replace BK432 := aM (kD BK432.out)
  replace BK433 := aM (kD BK433.out)
  replace HB := aM (bD HB.out)
  refine start_ (n := 13) (S := fun w' => w'.cell? ⟨gb432, 0, none⟩ = some (.int .i64 a0_0) ∧ w'.cell? ⟨gb432, 1, none⟩ = some (.slice A0_1 l0_1.length c0_1) ∧ w'.cell? ⟨gb432, 2, none⟩ = some (.slice A0_2 l0_2.length c0_2)) (ds := []) #[N,N,N,N,N,N,N,N,N,N,N,N,N] kr rfl rfl ⟨(kC BK432.out 0).trans rfl, (kC BK432.out 1).trans rfl, (kC BK432.out 2).trans rfl⟩ (fun hHeld => ?_); refine with_tabW impl_PlayBlock.tab1 impl_PlayBlock.bits1 (fun HT_ HW_ => ?_)
  generalize w61.drew = w62 at HO0_1 BK432 BK433 HB hHeld ⊢
  refine pp HT_ (N := some 13) 2 #[N,N,Y,N,N,N,N,N,N,N,N,N,N] ?_
  refine pp HT_ (N := some 14) 3 #[N,N,Y,Y,N,N,N,N,N,N,N,N,N] ?_
  refine pp HT_ (N := some 15) 4 #[N,N,Y,Y,Y,N,N,N,N,N,N,N,N] ?_
  refine pp HT_ (N := some 19) 8 #[N,N,Y,Y,Y,N,N,N,Y,N,N,N,N] ?_
  refine take_ (i := 0) (N := some 11) (v := ?_) (a' := ?_) #[Y,N,Y,Y,Y,N,N,N,Y,N,N,N,N] rfl rfl (take_ofW HT_.out HW_.out kr) (fun _ _ _ h => h) (Or.inl ⟨by rfl, ?_⟩) hHeld ?_ ?_
  rotate_left
  ·rintro w' ⟨s0, s1, s2⟩
   go_simp
   with_reducible rfl
  rotate_left
  ·simp only [Act.put, pa, pb, pc, i64_w, i32_w]
   rfl
  refine take_ (i := 5) (N := some 16) (v := ?_) (a' := ?_) #[Y,N,Y,Y,Y,Y,N,N,Y,N,N,N,N] rfl rfl (take_ofW HT_.out HW_.out kr) (fun _ _ _ h => h) (Or.inl ⟨by rfl, ?_⟩) hHeld ?_ ?_
  rotate_left
  ·rintro w' ⟨s0, s1, s2⟩
   go_simp
   with_reducible rfl
  rotate_left
  ·simp only [Act.put, pa, pb, pc, i64_w, i32_w]
   rfl
  refine pp HT_ (N := some 17) 6 #[Y,N,Y,Y,Y,Y,Y,N,Y,N,N,N,N] ?_
  refine one_ (i := 1) (N := some 12) #[Y,Y,Y,Y,Y,Y,Y,N,Y,N,N,N,N] rfl rfl (one_of HT_.out kr) (by decide) (fun K hK => ?_)
  refine goes_ Try.func46 kr rfl #[.agg #[.int .i64 a0_0, .slice A0_1 l0_1.length c0_1, .slice A0_2 l0_2.length c0_2]] (by rfl) rfl rfl mq ?_
  with_reducible refine (impl_SynthFault.calls k a0_0 _ _ l0_1 _ _ l0_2 t434 _ ?side1 ?side2 ?side3 ?side4 A3.out).mono ?_
  (case side1 => exact cq (Kd.V_reads' HO0_1.out).2.2)
  (case side2 => exact (Kd.V_reads' HO0_1.out).2.1)
  (case side3 => exact cq (cB HR0_2.out HB.out))
  (case side4 => exact HC0_2.out)
  rintro e w63 ⟨rfl, hb⟩
  refine ⟨_, rfl, ?_⟩
  replace HO0_1 := aM (Kd.V_below (vq HO0_1.out) hb)
  replace BK432 := aM (kB (kq BK432.out) hb)
  replace BK433 := aM (kB (kq BK433.out) hb)
  replace HB := aM (bT bq hb)
  (try clear hb)
  (try clear hb2)
  (try clear hk)
  (try clear hi)
  refine hK.out _ _ ⟨(kC BK432.out 0).trans rfl, (kC BK432.out 1).trans rfl, (kC BK432.out 2).trans rfl⟩ (fun hHeld => ?_)
  clear hK K
  refine norm_ (a' := ?_) ?_ ?_
  rotate_left
  ·show Act.put _ (some 12) _ = _
   simp only [Act.put, pa, pb, pc, i64_w, i32_w]
   rfl
  refine one_ (i := 7) (N := some 18) #[Y,Y,Y,Y,Y,Y,Y,Y,Y,N,N,N,N] rfl rfl (one_of HT_.out kr) (by decide) (fun K hK => ?_)
  refine goes_ Try.func56 kr rfl #[.bool ((l1.length : Int) != a0_0), .int .i64 2] (by rfl) rfl rfl mq ?_
  with_reducible refine (impl_codeIf.calls ((l1.length : Int) != a0_0) 2 t435 _ A4.out).mono ?_
  rintro e w64 ⟨rfl, hdr_⟩; have hb := Drawn0.below hdr_
  refine ⟨_, rfl, ?_⟩
  replace HO0_1 := aM (Kd.V_below (vq HO0_1.out) hb)
  replace BK432 := aM (kB (kq BK432.out) hb)
  replace BK433 := aM (kB (kq BK433.out) hb)
  replace HB := aM (bT bq hb)
  (try clear hb)
  (try clear hb2)
  (try clear hk)
  (try clear hi)
  refine hK.out _ _ ⟨(kC BK432.out 0).trans rfl, (kC BK432.out 1).trans rfl, (kC BK432.out 2).trans rfl⟩ (fun hHeld => ?_)
  clear hK K
  refine norm_ (a' := ?_) ?_ ?_
  rotate_left
  ·show Act.put _ (some 18) _ = _
   simp only [Act.put, pa, pb, pc, i64_w, i32_w]
   rfl
  refine one_ (i := 9) (N := some 20) #[Y,Y,Y,Y,Y,Y,Y,Y,Y,Y,N,N,N] rfl rfl (one_of HT_.out kr) (by decide) (fun K hK => ?_)
  refine goes_ Try.func68 kr rfl #[.slice A1 l1.length c1] (by rfl) rfl rfl mq ?_
  with_reducible refine (impl_gatherFault.calls k _ _ l1 t436 _ ?side1 ?side2 A5.out).mono ?_
  (case side1 => exact cq (cB HR1.out HB.out))
  (case side2 => exact HC1.out)
  rintro e w65 ⟨rfl, hb⟩
  refine ⟨_, rfl, ?_⟩
  replace HO0_1 := aM (Kd.V_below (vq HO0_1.out) hb)
  replace BK432 := aM (kB (kq BK432.out) hb)
  replace BK433 := aM (kB (kq BK433.out) hb)
  replace HB := aM (bT bq hb)
  (try clear hb)
  (try clear hb2)
  (try clear hk)
  (try clear hi)
  refine hK.out _ _ ⟨(kC BK432.out 0).trans rfl, (kC BK432.out 1).trans rfl, (kC BK432.out 2).trans rfl⟩ (fun hHeld => ?_)
  clear hK K
  refine norm_ (a' := ?_) ?_ ?_
  rotate_left
  ·show Act.put _ (some 20) _ = _
   simp only [Act.put, pa, pb, pc, i64_w, i32_w]
   rfl
  refine one_ (i := 10) (N := some 21) #[Y,Y,Y,Y,Y,Y,Y,Y,Y,Y,Y,N,N] rfl rfl (one_of HT_.out kr) (by decide) (fun K hK => ?_)
  refine Kd.R_lit_step (Kd.int .i64) _ 2 ?hg (N := 21) ?hd (xs := ([t434, t435, t436] : List Int)) (inner := [.int .i64 t434, .int .i64 t435, .int .i64 t436]) (ok := fun _ => True) (okp := fun _ => True) ?hr ?hp (fun _ hk => hk) trivial (Below.refl _ _) (Nat.le_refl _) (by simp) ?_; (case hd => rfl); (case hg => rfl); (case hr => first | (go_simp; done) | (go_simp; rfl)); (case hp => exact (Reps.one (show Kd.M (Kd.int .i64) _ _ _ t434 [.int .i64 t434] from rfl) (Reps.one (show Kd.M (Kd.int .i64) _ _ _ t435 [.int .i64 t435] from rfl) (Reps.one (show Kd.M (Kd.int .i64) _ _ _ t436 [.int .i64 t436] from rfl) (Reps.none _ _)))))
  intro v438 w66 ho67 hb hg_ hnew_
  clear hg_ hnew_
  (first | rw [← Ny437.out] at ho67 | (simp only [Int.reduceToNat] at ho67; rw [← Ny437.out] at ho67))
  replace HO0_1 := aM (Kd.V_elder' (vq HO0_1.out) (rB ho67) hb)
  have HO439 := aM (rG (Kd.R_newM (M := fun k_ => (w.heap.size ≤ k_)) ho67 (bZ bq) (fun k_ h_ => h_)) (bZ bq))
  replace BK432 := aM (kB (kq BK432.out) hb)
  replace BK433 := aM (kB (kq BK433.out) hb)
  replace HB := aM (bT bq hb)
  clear hb ho67
  obtain ⟨Ao68, co68, eo68⟩ := Kd.R_slice HO439.out
  (first | subst eo68 | (injection eo68 with f1_ f2_ f3_; have f4_ := f1_.symm; have f5_ := f3_.symm; clear f1_ f2_ f3_; subst f4_; subst f5_))
  refine hK.out _ _ ⟨(kC BK432.out 0).trans rfl, (kC BK432.out 1).trans rfl, (kC BK432.out 2).trans rfl⟩ (fun hHeld => ?_)
  clear hK K
  refine norm_ (a' := ?_) ?_ ?_
  rotate_left
  ·show Act.put _ (some 21) _ = _
   simp only [Act.put, pa, pb, pc, i64_w, i32_w]
   rfl
  refine one_ (i := 11) (N := some 22) #[Y,Y,Y,Y,Y,Y,Y,Y,Y,Y,Y,Y,N] rfl rfl (one_of HT_.out kr) (by decide) (fun K hK => ?_)
  refine goes_ Try.func54 kr rfl #[.slice Ao68 y437.length co68] (by rfl) rfl rfl mq ?_
  with_reducible refine (impl_first.calls k _ _ y437 t440 _ ?side1 ?side2 A6.out).mono ?_
  (case side1 => exact cq (rR HO439.out).2.2)
  (case side2 => exact (rR HO439.out).2.1)
  rintro e w69 ⟨rfl, hdr_⟩; have hb := Drawn0.below hdr_
  refine ⟨_, rfl, ?_⟩
  replace HO0_1 := aM (Kd.V_below (vq HO0_1.out) hb)
  replace HO439 := aM (rL (rq HO439.out) hb)
  replace BK432 := aM (kB (kq BK432.out) hb)
  replace BK433 := aM (kB (kq BK433.out) hb)
  replace HB := aM (bT bq hb)
  (try clear hb)
  (try clear hb2)
  (try clear hk)
  (try clear hi)
  refine hK.out _ _ ⟨(kC BK432.out 0).trans rfl, (kC BK432.out 1).trans rfl, (kC BK432.out 2).trans rfl⟩ (fun hHeld => ?_)
  clear hK K
  refine norm_ (a' := ?_) ?_ ?_
  rotate_left
  ·show Act.put _ (some 22) _ = _
   simp only [Act.put, pa, pb, pc, i64_w, i32_w]
   rfl
  refine pp HT_ (N := some 5) 12 #[Y,Y,Y,Y,Y,Y,Y,Y,Y,Y,Y,Y,Y] ?_
  refine done_ (done_of HT_.out kr) ?_
  have hnb70 := NB433_432.out
  have hnc70 := NB432_433.out
  have hcz71_0 : w69.cell? ⟨gb433, 0, none⟩ = some (.int .i64 0) := (kC BK433.out 0).trans rfl
  have hcz71_1 : w69.cell? ⟨gb433, 1, none⟩ = some (.int .i64 0) := (kC BK433.out 1).trans rfl
  have hcz71_2 : w69.cell? ⟨gb433, 2, none⟩ = some (.slice none 0 0) := (kC BK433.out 2).trans rfl
  have hcz71_3 : w69.cell? ⟨gb433, 3, none⟩ = some (.slice none 0 0) := (kC BK433.out 3).trans rfl
  have hcz71_4 : w69.cell? ⟨gb433, 4, none⟩ = some (.slice none 0 0) := (kC BK433.out 4).trans rfl
  have hfz71_0 := kF BK433.out 0
  have hfz71_1 := kF BK433.out 1
  have hfz71_2 := kF BK433.out 2
  have hfz71_3 := kF BK433.out 3
  have hfz71_4 := kF BK433.out 4
  try go_wp2
  refine bodyPost_ret (results_cell_row rfl _ _ gb433 37 #[.int .i64 t440, .int .i64 0, .slice none 0 0, .slice none 0 0, .slice none 0 0] (0, 0) _ rfl (fq BK433.out) Try.underlying37 rfl kr) rfl ?_
  exact ⟨_, _, _, ew, by first | exact Kd.R_nil _ _ _ _ _ | exact Kd.N_nil _ _ _ _ _ | exact Kd.V_nil _ _ _ _ _ | exact Kd.Q_nil _ _ _ _ _ | exact Kd.S_nil _ _ _ _ _, by first | exact Kd.R_nil _ _ _ _ _ | exact Kd.N_nil _ _ _ _ _ | exact Kd.V_nil _ _ _ _ _ | exact Kd.Q_nil _ _ _ _ _ | exact Kd.S_nil _ _ _ _ _, by first | exact Kd.R_nil _ _ _ _ _ | exact Kd.N_nil _ _ _ _ _ | exact Kd.V_nil _ _ _ _ _ | exact Kd.Q_nil _ _ _ _ _ | exact Kd.S_nil _ _ _ _ _, bq⟩
theorem impl_PlayBlock.calls (k : Nat) (a0_0 : Int) (A0_1 : Option Addr) (c0_1 : Nat) (l0_1 : List Int) (A0_2 : Option Addr) (c0_2 : Nat) (l0_2 : List Int) (A1 : Option Addr) (c1 : Nat) (l1 : List Int) (r1 : Int) (r2 : Int) (r3 : List Int) (r4 : List Int) (r5 : List Int) (w : World) (hr0_1 : Kd.C (Kd.int .i64) w A0_1 l0_1.length l0_1) (hc0_1 : l0_1.length ≤ c0_1) (hr0_2 : Kd.C (Kd.int .i64) w A0_2 l0_2.length l0_2) (hc0_2 : l0_2.length ≤ c0_2) (hr1 : Kd.C (Kd.int .i64) w A1 l1.length l1) (hc1 : l1.length ≤ c1) (h : impl_PlayBlock.f k a0_0 l0_1 l0_2 l1 = some (r1, r2, r3, r4, r5)) :
  Calls Try.prog 20 #[.agg #[.int .i64 a0_0, .slice A0_1 l0_1.length c0_1, .slice A0_2 l0_2.length c0_2], .slice A1 l1.length c1] w fun e w' => ∃ v2_ v3_ v4_ : Value, e = .returned (.agg #[.int .i64 r1, .int .i64 r2, v2_, v3_, v4_]) ∧ Kd.R (Kd.int .i64) 2 w' w.heap.size (fun k_ => nb v3_ k_ ∧ nb v4_ k_) v2_ r3 ∧ Kd.R (Kd.int .i64) 2 w' w.heap.size (fun k_ => nb v2_ k_ ∧ nb v4_ k_) v3_ r4 ∧ Kd.R (Kd.int .i64) 2 w' w.heap.size (fun k_ => nb v2_ k_ ∧ nb v3_ k_) v4_ r5 ∧ Below w.heap.size w w' := by
 refine (impl_PlayBlock.callsV k a0_0 (fun k_ => k_ < w.heap.size) A0_1 c0_1 l0_1 A0_2 c0_2 l0_2 A1 c1 l1 r1 r2 r3 r4 r5 w (Kd.V_mk hc0_1 (Kd.C_F (Kd.heap_int .i64) hr0_1)) hr0_2 hc0_2 hr1 hc1 h).mono fun e w' hh_ => ?_
 obtain ⟨v2_, v3_, v4_, he_, h0_, h1_, h2_, hb_⟩ := hh_
 exact ⟨v2_, v3_, v4_, he_, rM h0_ (fun _ hk => hk.2), rM h1_ (fun _ hk => hk.2), rM h2_ (fun _ hk => hk.2), hb_⟩

end Go.Proofs.Ytmhnpogjkbmmnaa.PFnFrameBounds
