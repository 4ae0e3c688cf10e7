-- Written by a program of this session: wip/mkprint.py over the kit's print, with contracts proved by hand (wip/given.py)
-- shortened
-- squeezed
import Derived.Test.YtmhnpogjkbmmnaaPFnExactFeedFramex0
import Derived.Test.YtmhnpogjkbmmnaaPFnExactFeedFramex6
import Derived.Test.YtmhnpogjkbmmnaaPFnExactFeedFramex8
import Derived.Test.YtmhnpogjkbmmnaaPFnExactFeedFramex9
import Derived.Test.YtmhnpogjkbmmnaaPFnExactFeedFramex10
import Derived.Test.YtmhnpogjkbmmnaaPFnExactFeedFramex12
namespace Go.Proofs.Ytmhnpogjkbmmnaa.PFnExactFeedFrame
open Go.RowKit Go.Proofs.YtmhnpogjkbmmnaaW.PrintWords Go.Proofs.YtmhnpogjkbmmnaaW.PrintLast Go.Proofs.YtmhnpogjkbmmnaaW.PrintMore
open Go.Proofs.YtmhnpogjkbmmnaaW.PrintWords.Kd renaming R_alloc → rA, R_drewN → rN, R_drew → rD, R_far → rF, R_mono → rM, R_base → rB, R_new' → rW, R_below → rL, R_lt → rT, R_lower → rG, R_elder' → rH, R_reads' → rR, C_alloc → cA, C_drewN → cN, C_drew → cD, C_below → cB
open Go.Proofs.YtmhnpogjkbmmnaaW.PrintMore.Kd renaming R_told → rO, R_old → rE
open Go.Proofs.YtmhnpogjkbmmnaaW.PrintWords renaming below_alloc → bA, pw_below_drewN → bN, below_drew1 → bD, below_set → bS, below_step → bT, below_size → bZ, blk_drewN → kN, blk_drew → kD, blk_alloc → kA, blk_below → kB, blk_cell → kC, blk_frozen → kF
open Go.Proofs.YtmhnpogjkbmmnaaW.PrintWords.Aside0 renaming mk → aM
attribute [local go_sem] max2_int min2_int max_two min_two max_three min_three max_four min_four   -- for this text's walks alone
set_option linter.unusedVariables false
set_option linter.unusedSimpArgs false

/-! ### impl_FeedFrame: function 29 -/
def impl_FeedFrame.f (k : Nat) (a0_0 : Int) (l0_1 : List Int) (l0_2 : List Int) (l1 : List Int) : Option (Int × Int × List Int × List Int × List Int) := (impl_LapFault.f k a0_0 l0_1 l0_2).bind fun t374 => ((impl_SamplesFault.f k a0_0 l1).bind fun t375 => ((impl_first.f k (([t374, t375] : List Int))).bind fun t379 => (if t379 = 0 then (if 0 ≤ (wrap64 (Int.tdiv a0_0 2)) then (if (wrap64 (Int.tdiv a0_0 2)) ≤ (l1.length : Int) then ((impl_seam.f k l0_2 (l1.take ((wrap64 (Int.tdiv a0_0 2)) : Int).toNat) (impl_FeedFrame_1.f a0_0)).bind fun bt381 => ((slices_Concat_int64_int64.f k (([l0_1, bt381.1] : List (List Int)))).bind fun t390 => ((impl_spread.f k t390).bind fun t393 => ((slices_Clone_int64_int64.f (l1.drop ((wrap64 (Int.tdiv a0_0 2)) : Int).toNat)).bind fun t397 => (some (0, a0_0, bt381.2, t397, t393)))))) else (none)) else (none)) else (some (t379, 0, ([] : List Int), ([] : List Int), ([] : List Int))))))
theorem impl_FeedFrame.mono : ∀ a0 a1 a2 a3 k, LeO (impl_FeedFrame.f k a0 a1 a2 a3) (impl_FeedFrame.f (k + 1) a0 a1 a2 a3) := by
 intro a0 a1 a2 a3 k
 unfold impl_FeedFrame.f
 repeat' first
   | (with_reducible exact impl_LapFault.mono _ _ _ _)
   | (with_reducible exact impl_SamplesFault.mono _ _ _)
   | (with_reducible exact impl_first.mono _ _)
   | (with_reducible exact impl_seam.mono _ _ _ _)
   | (with_reducible exact impl_spread.mono _ _)
   | (with_reducible exact slices_Concat_int64_int64.mono _ _)
   | (with_reducible exact LeO.refl _)
   | (with_reducible exact LeO.none _)
   | (with_reducible refine LeO.ite ?_ ?_)
   | (with_reducible refine LeO.bind ?_ (fun _ => ?_))
   | exact impl_LapFault.mono _ _ _ _
   | exact impl_SamplesFault.mono _ _ _
   | exact impl_first.mono _ _
   | exact impl_seam.mono _ _ _ _
   | exact impl_spread.mono _ _
   | exact slices_Concat_int64_int64.mono _ _
   | exact LeO.none _
   | refine LeO.ite ?_ ?_
   | refine LeO.bind ?_ (fun _ => ?_)
def impl_FeedFrame.T1 : Bool × List (List Nat × List Nat) := (true, [([], []), ([0], [0]), ([], []), ([2], [2]), ([], []), ([3, 4, 1], [3, 4]), ([1, 5], [1, 5]), ([6, 5], [6]), ([7, 7, 0, 1, 2, 3, 4, 5, 6, 7], [7])])
def impl_FeedFrame.B1 : List Nat := [0, 1, 0, 4, 0, 31, 63, 127, 255]
theorem impl_FeedFrame.tab1 : rtab .any (opsOf Try.f29 1) = impl_FeedFrame.T1 := by kernel_rfl
theorem impl_FeedFrame.bits1 : waitsOk impl_FeedFrame.T1.2 impl_FeedFrame.B1 = true := by kernel_rfl
def impl_FeedFrame.T5 : Bool × List (List Nat × List Nat) := (true, [([], []), ([0], [0]), ([], []), ([], []), ([2, 3], [2, 3]), ([], []), ([1, 4, 5], [1, 4, 5]), ([6], [6]), ([7], [7]), ([7], [7]), ([8, 6, 0, 1, 2, 3, 4, 5, 6, 7, 8], [8]), ([9, 10, 0, 1, 2, 3, 4, 5, 6, 7, 8, 9, 10], [9])])
def impl_FeedFrame.B5 : List Nat := [0, 1, 0, 0, 12, 0, 63, 127, 255, 255, 511, 2047]
theorem impl_FeedFrame.tab5 : rtab .any (opsOf Try.f29 5) = impl_FeedFrame.T5 := by kernel_rfl
theorem impl_FeedFrame.bits5 : waitsOk impl_FeedFrame.T5.2 impl_FeedFrame.B5 = true := by kernel_rfl
def impl_FeedFrame.T7 : Bool × List (List Nat × List Nat) := (true, [([], []), ([0], [0]), ([], []), ([], []), ([], []), ([3, 4], [3, 4]), ([5], [5]), ([1, 2, 6], [1, 2, 6]), ([], []), ([7, 8], [7, 8]), ([9, 6, 0, 1, 2, 3, 4, 5, 6, 7, 8, 9], [9])])
def impl_FeedFrame.B7 : List Nat := [0, 1, 0, 0, 0, 24, 56, 127, 0, 511, 1023]
theorem impl_FeedFrame.tab7 : rtab .any (opsOf Try.f29 7) = impl_FeedFrame.T7 := by kernel_rfl
theorem impl_FeedFrame.bits7 : waitsOk impl_FeedFrame.T7.2 impl_FeedFrame.B7 = true := by kernel_rfl
set_option maxHeartbeats 8000000 in
set_option maxRecDepth 100000 in
theorem impl_FeedFrame.calls (k : Nat) (a0_0 : Int) (P0_1_ : Nat → Prop) (A0_1 : Option Addr) (c0_1 : Nat) (l0_1 : List Int) (A0_2 : Option Addr) (c0_2 : Nat) (l0_2 : List Int) (A1 : Option Addr) (c1 : Nat) (l1 : List Int) (r1 : Int) (r2 : Int) (r3 : List Int) (r4 : List Int) (r5 : List Int) (w : World) (hs0_1 : Kd.V (Kd.int .i64) 2 w w.heap.size (fun k_ => P0_1_ k_) (.slice A0_1 l0_1.length c0_1) l0_1) (hr0_2 : Kd.C (Kd.int .i64) w A0_2 l0_2.length l0_2) (hc0_2 : l0_2.length ≤ c0_2) (hr1 : Kd.C (Kd.int .i64) w A1 l1.length l1) (hc1 : l1.length ≤ c1) (h : impl_FeedFrame.f k a0_0 l0_1 l0_2 l1 = some (r1, r2, r3, r4, r5)) :
  Calls Try.prog 29 #[.agg #[.int .i64 a0_0, .slice A0_1 l0_1.length c0_1, .slice A0_2 l0_2.length c0_2], .slice A1 l1.length c1] w fun e w' => ∃ v2_ v3_ v4_ : Value, e = .returned (.agg #[.int .i64 r1, .int .i64 r2, v2_, v3_, v4_]) ∧ Kd.R (Kd.int .i64) 2 w' w.heap.size (fun k_ => (w.heap.size ≤ k_) ∧ some k_ ≠ (v3_ : Value).ownBlock ∧ some k_ ≠ (v4_ : Value).ownBlock) v2_ r3 ∧ Kd.R (Kd.int .i64) 2 w' w.heap.size (fun k_ => (w.heap.size ≤ k_) ∧ some k_ ≠ (v2_ : Value).ownBlock ∧ some k_ ≠ (v4_ : Value).ownBlock) v3_ r4 ∧ Kd.R (Kd.int .i64) 2 w' w.heap.size (fun k_ => (w.heap.size ≤ k_) ∧ some k_ ≠ (v2_ : Value).ownBlock ∧ some k_ ≠ (v3_ : Value).ownBlock) v4_ r5 ∧ Below w.heap.size w w' := by
 have hu48 := Try.underlying48
 have hu50 := Try.underlying50
 have HO0_1 := aM (show Kd.V (Kd.int .i64) 2 w w.heap.size (fun k_ => (P0_1_ k_ ∨ w.heap.size ≤ k_)) (.slice A0_1 l0_1.length c0_1) l0_1 from Kd.V_mono hs0_1 (fun k_ hk => .inl hk))
 have HR0_2 := aM hr0_2
 have HC0_2 := aM hc0_2
 clear hr0_2 hc0_2
 have HR1 := aM hr1
 have HC1 := aM hc1
 clear hr1 hc1
 have HB := aM (Below.refl w.heap.size w)
 have H : ((impl_LapFault.f k a0_0 l0_1 l0_2).bind fun t374 => ((impl_SamplesFault.f k a0_0 l1).bind fun t375 => ((impl_first.f k (([t374, t375] : List Int))).bind fun t379 => (if t379 = 0 then (if 0 ≤ (wrap64 (Int.tdiv a0_0 2)) then (if (wrap64 (Int.tdiv a0_0 2)) ≤ (l1.length : Int) then ((impl_seam.f k l0_2 (l1.take ((wrap64 (Int.tdiv a0_0 2)) : Int).toNat) (impl_FeedFrame_1.f a0_0)).bind fun bt381 => ((slices_Concat_int64_int64.f k (([l0_1, bt381.1] : List (List Int)))).bind fun t390 => ((impl_spread.f k t390).bind fun t393 => ((slices_Clone_int64_int64.f (l1.drop ((wrap64 (Int.tdiv a0_0 2)) : Int).toNat)).bind fun t397 => (some (0, a0_0, bt381.2, t397, t393)))))) else (none)) else (none)) else (some (t379, 0, ([] : List Int), ([] : List Int), ([] : List Int))))))) = some (r1, r2, r3, r4, r5) := h
 clear h
 replace H := Option.bind_eq_some_iff.mp H
 obtain ⟨t374, A30, H⟩ := H
 replace H : ((impl_SamplesFault.f k a0_0 l1).bind fun t375 => ((impl_first.f k (([t374, t375] : List Int))).bind fun t379 => (if t379 = 0 then (if 0 ≤ (wrap64 (Int.tdiv a0_0 2)) then (if (wrap64 (Int.tdiv a0_0 2)) ≤ (l1.length : Int) then ((impl_seam.f k l0_2 (l1.take ((wrap64 (Int.tdiv a0_0 2)) : Int).toNat) (impl_FeedFrame_1.f a0_0)).bind fun bt381 => ((slices_Concat_int64_int64.f k (([l0_1, bt381.1] : List (List Int)))).bind fun t390 => ((impl_spread.f k t390).bind fun t393 => ((slices_Clone_int64_int64.f (l1.drop ((wrap64 (Int.tdiv a0_0 2)) : Int).toNat)).bind fun t397 => (some (0, a0_0, bt381.2, t397, t393)))))) else (none)) else (none)) else (some (t379, 0, ([] : List Int), ([] : List Int), ([] : List Int)))))) = some (r1, r2, r3, r4, r5) := H
 have A3 := aM A30
 clear A30
 replace H := Option.bind_eq_some_iff.mp H
 obtain ⟨t375, A40, H⟩ := H
 replace H : ((impl_first.f k (([t374, t375] : List Int))).bind fun t379 => (if t379 = 0 then (if 0 ≤ (wrap64 (Int.tdiv a0_0 2)) then (if (wrap64 (Int.tdiv a0_0 2)) ≤ (l1.length : Int) then ((impl_seam.f k l0_2 (l1.take ((wrap64 (Int.tdiv a0_0 2)) : Int).toNat) (impl_FeedFrame_1.f a0_0)).bind fun bt381 => ((slices_Concat_int64_int64.f k (([l0_1, bt381.1] : List (List Int)))).bind fun t390 => ((impl_spread.f k t390).bind fun t393 => ((slices_Clone_int64_int64.f (l1.drop ((wrap64 (Int.tdiv a0_0 2)) : Int).toNat)).bind fun t397 => (some (0, a0_0, bt381.2, t397, t393)))))) else (none)) else (none)) else (some (t379, 0, ([] : List Int), ([] : List Int), ([] : List Int))))) = some (r1, r2, r3, r4, r5) := H
 have A4 := aM A40
 clear A40
 obtain ⟨y376, hy376⟩ : ∃ y_ : List Int, y_ = (([t374, t375] : List Int)) := ⟨_, rfl⟩
 replace H : ((impl_first.f k y376).bind fun t379 => (if t379 = 0 then (if 0 ≤ (wrap64 (Int.tdiv a0_0 2)) then (if (wrap64 (Int.tdiv a0_0 2)) ≤ (l1.length : Int) then ((impl_seam.f k l0_2 (l1.take ((wrap64 (Int.tdiv a0_0 2)) : Int).toNat) (impl_FeedFrame_1.f a0_0)).bind fun bt381 => ((slices_Concat_int64_int64.f k (([l0_1, bt381.1] : List (List Int)))).bind fun t390 => ((impl_spread.f k t390).bind fun t393 => ((slices_Clone_int64_int64.f (l1.drop ((wrap64 (Int.tdiv a0_0 2)) : Int).toNat)).bind fun t397 => (some (0, a0_0, bt381.2, t397, t393)))))) else (none)) else (none)) else (some (t379, 0, ([] : List Int), ([] : List Int), ([] : List Int))))) = some (r1, r2, r3, r4, r5) := by first | (rw [hy376]; with_reducible exact H) | (have H2_ := (Option.bind_some _ _).symm.trans H; rw [hy376]; with_reducible exact H2_) | (have H2_ := (Option.bind_some _ _).symm.trans H; with_reducible exact H2_) | with_reducible exact H | (rw [hy376]; exact H) | exact H
 have Ny376 := aM hy376
 clear hy376
 replace H := Option.bind_eq_some_iff.mp H
 obtain ⟨t379, A50, H⟩ := H
 replace H : (if t379 = 0 then (if 0 ≤ (wrap64 (Int.tdiv a0_0 2)) then (if (wrap64 (Int.tdiv a0_0 2)) ≤ (l1.length : Int) then ((impl_seam.f k l0_2 (l1.take ((wrap64 (Int.tdiv a0_0 2)) : Int).toNat) (impl_FeedFrame_1.f a0_0)).bind fun bt381 => ((slices_Concat_int64_int64.f k (([l0_1, bt381.1] : List (List Int)))).bind fun t390 => ((impl_spread.f k t390).bind fun t393 => ((slices_Clone_int64_int64.f (l1.drop ((wrap64 (Int.tdiv a0_0 2)) : Int).toNat)).bind fun t397 => (some (0, a0_0, bt381.2, t397, t393)))))) else (none)) else (none)) else (some (t379, 0, ([] : List Int), ([] : List Int), ([] : List Int)))) = some (r1, r2, r3, r4, r5) := H
 have A5 := aM A50
 clear A50
 by_cases c6 : t379 = 0
 ·rw [if_pos c6] at H
  have c6b0 : (t379 == 0) = true := beq_iff_eq.mpr c6
  have c6b1 : (t379 != 0) = false := bne_eq_false_iff_eq.mpr c6
  clear c6
  obtain ⟨ji7, hji7⟩ : ∃ j_ : Int, (wrap64 (Int.tdiv a0_0 2)) = j_ := ⟨_, rfl⟩
  replace H : (if 0 ≤ (ji7) then (if (ji7) ≤ (l1.length : Int) then ((impl_seam.f k l0_2 (l1.take ((ji7) : Int).toNat) (impl_FeedFrame_1.f a0_0)).bind fun bt381 => ((slices_Concat_int64_int64.f k (([l0_1, bt381.1] : List (List Int)))).bind fun t390 => ((impl_spread.f k t390).bind fun t393 => ((slices_Clone_int64_int64.f (l1.drop ((ji7) : Int).toNat)).bind fun t397 => (some (0, a0_0, bt381.2, t397, t393)))))) else (none)) else (none)) = some (r1, r2, r3, r4, r5) := by first | (rw [hji7] at H; exact H) | (simp only [hji7] at H ⊢; exact H)
  (try rw [hji7] at A3)
  (try rw [hji7] at A4)
  (try rw [hji7] at A5)
  have hji7w : (IntKind.i64.wrap (Int.tdiv a0_0 2)) = ji7 := (i64_w _).trans hji7
  by_cases c8 : 0 ≤ (ji7)
  ·rw [if_pos c8] at H
   have c8b0 := eq_true c8
   have c8b1 : decide (0 ≤ (ji7)) = true := decide_eq_true c8
   clear c8
   by_cases c9 : (ji7) ≤ (l1.length : Int)
   ·rw [if_pos c9] at H
    have c9b0 := eq_true c9
    have c9b1 : decide ((ji7) ≤ (l1.length : Int)) = true := decide_eq_true c9
    clear c9
    replace H := Option.bind_eq_some_iff.mp H
    obtain ⟨⟨t381, t382⟩, A100, H⟩ := H
    replace H : ((slices_Concat_int64_int64.f k (([l0_1, t381] : List (List Int)))).bind fun t390 => ((impl_spread.f k t390).bind fun t393 => ((slices_Clone_int64_int64.f (l1.drop ((ji7) : Int).toNat)).bind fun t397 => (some (0, a0_0, t382, t397, t393))))) = some (r1, r2, r3, r4, r5) := H
    have A10 := aM A100
    clear A100
    obtain ⟨y387, hy387⟩ : ∃ y_ : List (List Int), y_ = (([l0_1, t381] : List (List Int))) := ⟨_, rfl⟩
    replace H : ((slices_Concat_int64_int64.f k y387).bind fun t390 => ((impl_spread.f k t390).bind fun t393 => ((slices_Clone_int64_int64.f (l1.drop ((ji7) : Int).toNat)).bind fun t397 => (some (0, a0_0, t382, t397, t393))))) = some (r1, r2, r3, r4, r5) := by first | (rw [hy387]; with_reducible exact H) | (have H2_ := (Option.bind_some _ _).symm.trans H; rw [hy387]; with_reducible exact H2_) | (have H2_ := (Option.bind_some _ _).symm.trans H; with_reducible exact H2_) | with_reducible exact H | (rw [hy387]; exact H) | exact H
    have Ny387 := aM hy387
    clear hy387
    replace H := Option.bind_eq_some_iff.mp H
    obtain ⟨t390, A110, H⟩ := H
    replace H : ((impl_spread.f k t390).bind fun t393 => ((slices_Clone_int64_int64.f (l1.drop ((ji7) : Int).toNat)).bind fun t397 => (some (0, a0_0, t382, t397, t393)))) = some (r1, r2, r3, r4, r5) := H
    have A11 := aM A110
    clear A110
    replace H := Option.bind_eq_some_iff.mp H
    obtain ⟨t393, A120, H⟩ := H
    replace H : ((slices_Clone_int64_int64.f (l1.drop ((ji7) : Int).toNat)).bind fun t397 => (some (0, a0_0, t382, t397, t393))) = some (r1, r2, r3, r4, r5) := H
    have A12 := aM A120
    clear A120
    have c13b0 := eq_true (of_decide_eq_true (by first | (with_reducible assumption) | assumption) : 0 ≤ (ji7))
    have c14b0 := eq_true (of_decide_eq_true (by first | (with_reducible assumption) | assumption) : (ji7) ≤ (l1.length : Int))
    replace H := Option.bind_eq_some_iff.mp H
    obtain ⟨t397, A150, H⟩ := H
    replace H : (some (0, a0_0, t382, t397, t393)) = some (r1, r2, r3, r4, r5) := H
    have A15 := aM A150
    clear A150
    simp only [Option.some.injEq, Prod.mk.injEq] at H
    obtain ⟨rfl, rfl, rfl, rfl, rfl⟩ := H
    go_enter Try.func29, Try.ntmps29
    try go_wp2_with (first | ((with_reducible refine gate_dst (N := 2) rfl ?_); refine box_event ?hg (N := 2) ?hd (cs := #[.int .i64 a0_0, .slice A0_1 l0_1.length c0_1, .slice A0_2 l0_2.length c0_2]) (t := 48) ?hr ?_; (case hd => rfl); (case hg => rfl); (case hr => first | (go_simp; done) | (go_simp; rfl)); intro gb372 hg w16 hbox hb; have n0_ := aM (Kd.V_below (Kd.V_elderB (by (with_reducible repeat (first | apply Kd.V_alloc | apply Kd.V_drewN | apply Kd.V_drew)); exact HO0_1.out) gb372 (Nat.le_of_eq hg.symm)) hb); have n1_ := aM (bT (by repeat (first | exact HB.out | apply bA | apply bN | apply bD)) hb); have n2_ := aM (hbox); have n3_ := aM ((by rw [hg]; exact (bZ (by repeat (first | exact HB.out | apply bA | apply bN | apply bD))) : w.heap.size ≤ gb372)); have n4_ := aM ((by rw [hg]; exact (bZ (by repeat (first | exact HB.out | apply bA | apply bN | apply bD))) : w.heap.size ≤ gb372)); clear HO0_1 HB; have HO0_1 := n0_; have HB := n1_; have BK372 := n2_; have GW372 := n3_; have GE372 := n4_; clear n0_ n1_ n2_ n3_ n4_ hb hbox hg) | ((with_reducible refine gate_dst (N := 4) rfl ?_); refine box_event ?hg (N := 4) ?hd (cs := #[.int .i64 0, .int .i64 0, .slice none 0 0, .slice none 0 0, .slice none 0 0]) (t := 50) ?hr ?_; (case hd => rfl); (case hg => rfl); (case hr => first | (go_simp; done) | (go_simp; rfl)); intro gb373 hg w17 hbox hb; have n0_ := aM (Kd.V_below (Kd.V_elderB (by (with_reducible repeat (first | apply Kd.V_alloc | apply Kd.V_drewN | apply Kd.V_drew)); exact HO0_1.out) gb373 (Nat.le_of_eq hg.symm)) hb); have n1_ := aM (kB (g := gb372) (o := .cells #[.int .i64 a0_0, .slice A0_1 l0_1.length c0_1, .slice A0_2 l0_2.length c0_2] 48 (0, 0)) (by (with_reducible repeat (first | refine kN ?_ _ | refine kD ?_ | refine kA ?_ _)); exact BK372.out) hb); have n2_ := aM (bT (by repeat (first | (with_reducible first | exact HB.out | apply bA | apply bN | apply bD | refine bS ?_ GE372.out) | exact HB.out)) hb); have n3_ := aM (hbox); have n4_ := aM ((by rw [hg]; exact (bZ (by repeat (first | (with_reducible first | exact HB.out | apply bA | apply bN | apply bD | refine bS ?_ GE372.out) | exact HB.out))) : w.heap.size ≤ gb373)); have n5_ := aM ((by rw [hg]; exact (bZ (by repeat (first | (with_reducible first | exact HB.out | apply bA | apply bN | apply bD | refine bS ?_ GE372.out) | exact HB.out))) : w.heap.size ≤ gb373)); have n6_ := aM ((by rw [hg]; exact Nat.ne_of_lt (blk_lt (g := gb372) (o := .cells #[.int .i64 a0_0, .slice A0_1 l0_1.length c0_1, .slice A0_2 l0_2.length c0_2] 48 (0, 0)) (by (with_reducible repeat (first | refine kN ?_ _ | refine kD ?_ | refine kA ?_ _)); exact BK372.out)) : gb372 ≠ gb373)); have n7_ := aM ((by rw [hg]; exact Nat.ne_of_gt (blk_lt (g := gb372) (o := .cells #[.int .i64 a0_0, .slice A0_1 l0_1.length c0_1, .slice A0_2 l0_2.length c0_2] 48 (0, 0)) (by (with_reducible repeat (first | refine kN ?_ _ | refine kD ?_ | refine kA ?_ _)); exact BK372.out)) : gb373 ≠ gb372)); clear HO0_1 BK372 HB; have HO0_1 := n0_; have BK372 := n1_; have HB := n2_; have BK373 := n3_; have GW373 := n4_; have GE373 := n5_; have NB372_373 := n6_; have NB373_372 := n7_; clear n0_ n1_ n2_ n3_ n4_ n5_ n6_ n7_ hb hbox hg))
    have n0_ := aM (Kd.V_drew HO0_1.out)
    have n1_ := aM (kD BK372.out)
    have n2_ := aM (kD BK373.out)
    have n3_ := aM (bD HB.out)
    clear HO0_1
    clear BK372
    clear BK373
    clear HB
    have HO0_1 := n0_
    have BK372 := n1_
    have BK373 := n2_
    have HB := n3_
    clear n0_ n1_ n2_ n3_
    refine start_ (n := 9) (S := fun w' => w'.cell? ⟨gb372, 0, none⟩ = some (.int .i64 a0_0) ∧ w'.cell? ⟨gb372, 1, none⟩ = some (.slice A0_1 l0_1.length c0_1) ∧ w'.cell? ⟨gb372, 2, none⟩ = some (.slice A0_2 l0_2.length c0_2)) (ds := []) #[N,N,N,N,N,N,N,N,N] (by kernel_rfl) rfl rfl ⟨(kC BK372.out 0).trans rfl, (kC BK372.out 1).trans rfl, (kC BK372.out 2).trans rfl⟩ (fun hHeld => ?_); refine with_tabW impl_FeedFrame.tab1 impl_FeedFrame.bits1 (fun HT_ HW_ => ?_)
    generalize w17.drew = w18 at HO0_1 BK372 BK373 HB hHeld ⊢
    refine pure_ (i := 2) (N := some 12) (v := ?_) (a' := ?_) #[N,N,Y,N,N,N,N,N,N] rfl rfl (any_of HT_.out (by kernel_rfl)) (fun _ _ _ h => h) (Or.inl ⟨by rfl, ?_⟩) ?_ ?_
    rotate_left
    ·intro w'
     go_simp
     with_reducible rfl
    rotate_left
    ·simp only [Act.put, pa, pb, pc, i64_w, i32_w]
     rfl
    refine pure_ (i := 4) (N := some 14) (v := ?_) (a' := ?_) #[N,N,Y,N,Y,N,N,N,N] rfl rfl (any_of HT_.out (by kernel_rfl)) (fun _ _ _ h => h) (Or.inl ⟨by rfl, ?_⟩) ?_ ?_
    rotate_left
    ·intro w'
     go_simp
     with_reducible rfl
    rotate_left
    ·simp only [Act.put, pa, pb, pc, i64_w, i32_w]
     rfl
    refine take_ (i := 0) (N := some 10) (v := ?_) (a' := ?_) #[Y,N,Y,N,Y,N,N,N,N] rfl rfl (take_ofW HT_.out HW_.out (by kernel_rfl)) (fun _ _ _ h => h) (Or.inl ⟨by rfl, ?_⟩) hHeld ?_ ?_
    rotate_left
    ·rintro w' ⟨s0, s1, s2⟩
     go_simp
     with_reducible rfl
    rotate_left
    ·simp only [Act.put, pa, pb, pc, i64_w, i32_w]
     rfl
    refine take_ (i := 3) (N := some 13) (v := ?_) (a' := ?_) #[Y,N,Y,Y,Y,N,N,N,N] rfl rfl (take_ofW HT_.out HW_.out (by kernel_rfl)) (fun _ _ _ h => h) (Or.inl ⟨by rfl, ?_⟩) hHeld ?_ ?_
    rotate_left
    ·rintro w' ⟨s0, s1, s2⟩
     go_simp
     with_reducible rfl
    rotate_left
    ·simp only [Act.put, pa, pb, pc, i64_w, i32_w]
     rfl
    refine one_ (i := 1) (N := some 11) #[Y,Y,Y,Y,Y,N,N,N,N] rfl rfl (one_of HT_.out (by kernel_rfl)) (by decide) (fun K hK => ?_)
    refine goes_ Try.func43 (by kernel_rfl) rfl #[.agg #[.int .i64 a0_0, .slice A0_1 l0_1.length c0_1, .slice A0_2 l0_2.length c0_2]] (by rfl) rfl rfl (by first | rfl | (simp only [List.map_toArray, List.map_cons, List.map_nil]; rfl)) ?_
    with_reducible refine (impl_LapFault.calls k a0_0 _ _ l0_1 _ _ l0_2 t374 _ ?side1 ?side2 ?side3 ?side4 A3.out).mono ?_
    (case side1 => repeat (first | exact (Kd.V_reads' HO0_1.out).2.2 | (with_reducible refine cA ?_ _) | (with_reducible refine cN ?_ _) | (with_reducible refine cD ?_)))
    (case side2 => exact (Kd.V_reads' HO0_1.out).2.1)
    (case side3 => repeat (first | exact (cB HR0_2.out HB.out) | (with_reducible refine cA ?_ _) | (with_reducible refine cN ?_ _) | (with_reducible refine cD ?_)))
    (case side4 => exact HC0_2.out)
    rintro e w19 ⟨rfl, hb⟩
    refine ⟨_, rfl, ?_⟩
    have n0_ := aM (Kd.V_below (by (with_reducible repeat (first | apply Kd.V_alloc | apply Kd.V_drewN | apply Kd.V_drew)); exact HO0_1.out) hb)
    have n1_ := aM (kB (g := gb372) (o := .cells #[.int .i64 a0_0, .slice A0_1 l0_1.length c0_1, .slice A0_2 l0_2.length c0_2] 48 (0, 0)) (by (with_reducible repeat (first | refine kN ?_ _ | refine kD ?_ | refine kA ?_ _)); exact BK372.out) hb)
    have n2_ := aM (kB (g := gb373) (o := .cells #[.int .i64 0, .int .i64 0, .slice none 0 0, .slice none 0 0, .slice none 0 0] 50 (0, 0)) (by (with_reducible repeat (first | refine kN ?_ _ | refine kD ?_ | refine kA ?_ _)); exact BK373.out) hb)
    have n3_ := aM (bT (by repeat (first | (with_reducible first | exact HB.out | apply bA | apply bN | apply bD | refine bS ?_ GE372.out | refine bS ?_ GE373.out) | exact HB.out)) hb)
    clear HO0_1
    clear BK372
    clear BK373
    clear HB
    have HO0_1 := n0_
    have BK372 := n1_
    have BK373 := n2_
    have HB := n3_
    clear n0_ n1_ n2_ n3_
    (try clear hb)
    (try clear hb2)
    (try clear hk)
    (try clear hi)
    refine hK.out _ _ ⟨(kC BK372.out 0).trans rfl, (kC BK372.out 1).trans rfl, (kC BK372.out 2).trans rfl⟩ (fun hHeld => ?_)
    clear hK K
    refine norm_ (a' := ?_) ?_ ?_
    rotate_left
    ·show Act.put _ (some 11) _ = _
     simp only [Act.put, pa, pb, pc, i64_w, i32_w]
     rfl
    refine one_ (i := 5) (N := some 15) #[Y,Y,Y,Y,Y,Y,N,N,N] rfl rfl (one_of HT_.out (by kernel_rfl)) (by decide) (fun K hK => ?_)
    refine goes_ Try.func76 (by kernel_rfl) rfl #[.int .i64 a0_0, .slice A1 l1.length c1] (by rfl) rfl rfl (by first | rfl | (simp only [List.map_toArray, List.map_cons, List.map_nil]; rfl)) ?_
    with_reducible refine (impl_SamplesFault.calls k a0_0 _ _ l1 t375 _ ?side1 ?side2 A4.out).mono ?_
    (case side1 => repeat (first | exact (cB HR1.out HB.out) | (with_reducible refine cA ?_ _) | (with_reducible refine cN ?_ _) | (with_reducible refine cD ?_)))
    (case side2 => exact HC1.out)
    rintro e w20 ⟨rfl, hb⟩
    refine ⟨_, rfl, ?_⟩
    have n0_ := aM (Kd.V_below (by (with_reducible repeat (first | apply Kd.V_alloc | apply Kd.V_drewN | apply Kd.V_drew)); exact HO0_1.out) hb)
    have n1_ := aM (kB (g := gb372) (o := .cells #[.int .i64 a0_0, .slice A0_1 l0_1.length c0_1, .slice A0_2 l0_2.length c0_2] 48 (0, 0)) (by (with_reducible repeat (first | refine kN ?_ _ | refine kD ?_ | refine kA ?_ _)); exact BK372.out) hb)
    have n2_ := aM (kB (g := gb373) (o := .cells #[.int .i64 0, .int .i64 0, .slice none 0 0, .slice none 0 0, .slice none 0 0] 50 (0, 0)) (by (with_reducible repeat (first | refine kN ?_ _ | refine kD ?_ | refine kA ?_ _)); exact BK373.out) hb)
    have n3_ := aM (bT (by repeat (first | (with_reducible first | exact HB.out | apply bA | apply bN | apply bD | refine bS ?_ GE372.out | refine bS ?_ GE373.out) | exact HB.out)) hb)
    clear HO0_1
    clear BK372
    clear BK373
    clear HB
    have HO0_1 := n0_
    have BK372 := n1_
    have BK373 := n2_
    have HB := n3_
    clear n0_ n1_ n2_ n3_
    (try clear hb)
    (try clear hb2)
    (try clear hk)
    (try clear hi)
    refine hK.out _ _ ⟨(kC BK372.out 0).trans rfl, (kC BK372.out 1).trans rfl, (kC BK372.out 2).trans rfl⟩ (fun hHeld => ?_)
    clear hK K
    refine norm_ (a' := ?_) ?_ ?_
    rotate_left
    ·show Act.put _ (some 15) _ = _
     simp only [Act.put, pa, pb, pc, i64_w, i32_w]
     rfl
    refine one_ (i := 6) (N := some 16) #[Y,Y,Y,Y,Y,Y,Y,N,N] rfl rfl (one_of HT_.out (by kernel_rfl)) (by decide) (fun K hK => ?_)
    refine Kd.R_lit_step (Kd.int .i64) _ 2 ?hg (N := 16) ?hd (xs := ([t374, t375] : List Int)) (inner := [.int .i64 t374, .int .i64 t375]) (ok := fun _ => True) (okp := fun _ => True) ?hr ?hp (fun _ hk => hk) trivial (Below.refl _ _) (Nat.le_refl _) (by simp) ?_; (case hd => rfl); (case hg => rfl); (case hr => first | (go_simp; done) | (go_simp; rfl)); (case hp => exact (Reps.one (show Kd.M (Kd.int .i64) _ _ _ t374 [.int .i64 t374] from rfl) (Reps.one (show Kd.M (Kd.int .i64) _ _ _ t375 [.int .i64 t375] from rfl) (Reps.none _ _))))
    intro v377 w21 ho22 hb hg_ hnew_
    clear hg_ hnew_
    (first | rw [← Ny376.out] at ho22 | (simp only [Int.reduceToNat] at ho22; rw [← Ny376.out] at ho22))
    have n0_ := aM (Kd.V_elder' (by (with_reducible repeat (first | apply Kd.V_alloc | apply Kd.V_drewN | apply Kd.V_drew)); exact HO0_1.out) (rB ho22) hb)
    have n1_ := aM (rG (Kd.R_newM (M := fun k_ => (w.heap.size ≤ k_)) ho22 (bZ (by repeat (first | (with_reducible first | exact HB.out | apply bA | apply bN | apply bD | refine bS ?_ GE372.out | refine bS ?_ GE373.out) | exact HB.out))) (fun k_ h_ => h_)) (bZ (by repeat (first | (with_reducible first | exact HB.out | apply bA | apply bN | apply bD | refine bS ?_ GE372.out | refine bS ?_ GE373.out) | exact HB.out))))
    have n2_ := aM (kB (g := gb372) (o := .cells #[.int .i64 a0_0, .slice A0_1 l0_1.length c0_1, .slice A0_2 l0_2.length c0_2] 48 (0, 0)) (by (with_reducible repeat (first | refine kN ?_ _ | refine kD ?_ | refine kA ?_ _)); exact BK372.out) hb)
    have n3_ := aM (kB (g := gb373) (o := .cells #[.int .i64 0, .int .i64 0, .slice none 0 0, .slice none 0 0, .slice none 0 0] 50 (0, 0)) (by (with_reducible repeat (first | refine kN ?_ _ | refine kD ?_ | refine kA ?_ _)); exact BK373.out) hb)
    have n4_ := aM (bT (by repeat (first | (with_reducible first | exact HB.out | apply bA | apply bN | apply bD | refine bS ?_ GE372.out | refine bS ?_ GE373.out) | exact HB.out)) hb)
    clear HO0_1
    clear BK372
    clear BK373
    clear HB
    have HO0_1 := n0_
    have HO378 := n1_
    have BK372 := n2_
    have BK373 := n3_
    have HB := n4_
    clear n0_ n1_ n2_ n3_ n4_
    clear hb ho22
    obtain ⟨Ao23, co23, eo23⟩ := Kd.R_slice HO378.out
    (first | subst eo23 | (injection eo23 with f1_ f2_ f3_; have f4_ := f1_.symm; have f5_ := f3_.symm; clear f1_ f2_ f3_; subst f4_; subst f5_))
    refine hK.out _ _ ⟨(kC BK372.out 0).trans rfl, (kC BK372.out 1).trans rfl, (kC BK372.out 2).trans rfl⟩ (fun hHeld => ?_)
    clear hK K
    refine norm_ (a' := ?_) ?_ ?_
    rotate_left
    ·show Act.put _ (some 16) _ = _
     simp only [Act.put, pa, pb, pc, i64_w, i32_w]
     rfl
    refine one_ (i := 7) (N := some 17) #[Y,Y,Y,Y,Y,Y,Y,Y,N] rfl rfl (one_of HT_.out (by kernel_rfl)) (by decide) (fun K hK => ?_)
    refine goes_ Try.func54 (by kernel_rfl) rfl #[.slice Ao23 y376.length co23] (by rfl) rfl rfl (by first | rfl | (simp only [List.map_toArray, List.map_cons, List.map_nil]; rfl)) ?_
    with_reducible refine (impl_first.calls k _ _ y376 t379 _ ?side1 ?side2 A5.out).mono ?_
    (case side1 => repeat (first | exact (rR HO378.out).2.2 | (with_reducible refine cA ?_ _) | (with_reducible refine cN ?_ _) | (with_reducible refine cD ?_)))
    (case side2 => exact (rR HO378.out).2.1)
    rintro e w24 ⟨rfl, hdr_⟩; have hb := Drawn0.below hdr_
    refine ⟨_, rfl, ?_⟩
    have n0_ := aM (Kd.V_below (by (with_reducible repeat (first | apply Kd.V_alloc | apply Kd.V_drewN | apply Kd.V_drew)); exact HO0_1.out) hb)
    have n1_ := aM (rL (by (with_reducible repeat (first | apply rA | apply rN | apply rD)); exact HO378.out) hb)
    have n2_ := aM (kB (g := gb372) (o := .cells #[.int .i64 a0_0, .slice A0_1 l0_1.length c0_1, .slice A0_2 l0_2.length c0_2] 48 (0, 0)) (by (with_reducible repeat (first | refine kN ?_ _ | refine kD ?_ | refine kA ?_ _)); exact BK372.out) hb)
    have n3_ := aM (kB (g := gb373) (o := .cells #[.int .i64 0, .int .i64 0, .slice none 0 0, .slice none 0 0, .slice none 0 0] 50 (0, 0)) (by (with_reducible repeat (first | refine kN ?_ _ | refine kD ?_ | refine kA ?_ _)); exact BK373.out) hb)
    have n4_ := aM (bT (by repeat (first | (with_reducible first | exact HB.out | apply bA | apply bN | apply bD | refine bS ?_ GE372.out | refine bS ?_ GE373.out) | exact HB.out)) hb)
    clear HO0_1
    clear HO378
    clear BK372
    clear BK373
    clear HB
    have HO0_1 := n0_
    have HO378 := n1_
    have BK372 := n2_
    have BK373 := n3_
    have HB := n4_
    clear n0_ n1_ n2_ n3_ n4_
    (try clear hb)
    (try clear hb2)
    (try clear hk)
    (try clear hi)
    refine hK.out _ _ ⟨(kC BK372.out 0).trans rfl, (kC BK372.out 1).trans rfl, (kC BK372.out 2).trans rfl⟩ (fun hHeld => ?_)
    clear hK K
    refine norm_ (a' := ?_) ?_ ?_
    rotate_left
    ·show Act.put _ (some 17) _ = _
     simp only [Act.put, pa, pb, pc, i64_w, i32_w]
     rfl
    refine pure_ (i := 8) (N := some 5) (v := ?_) (a' := ?_) #[Y,Y,Y,Y,Y,Y,Y,Y,Y] rfl rfl (any_of HT_.out (by kernel_rfl)) (fun _ _ _ h => h) (Or.inl ⟨by rfl, ?_⟩) ?_ ?_
    rotate_left
    ·intro w'
     go_simp
     with_reducible rfl
    rotate_left
    ·simp only [Act.put, pa, pb, pc, i64_w, i32_w]
     rfl
    refine done_ (done_of HT_.out (by kernel_rfl)) ?_
    have hnb25 := NB372_373.out
    have hnc25 := NB373_372.out
    have hcz26_0 : w24.cell? ⟨gb372, 0, none⟩ = some (.int .i64 a0_0) := (kC BK372.out 0).trans rfl
    have hcz26_1 : w24.cell? ⟨gb372, 1, none⟩ = some (.slice A0_1 l0_1.length c0_1) := (kC BK372.out 1).trans rfl
    have hcz26_2 : w24.cell? ⟨gb372, 2, none⟩ = some (.slice A0_2 l0_2.length c0_2) := (kC BK372.out 2).trans rfl
    have hfz26_0 := kF BK372.out 0
    have hfz26_1 := kF BK372.out 1
    have hfz26_2 := kF BK372.out 2
    try go_wp2
    have n0_ := aM (Kd.V_drew HO0_1.out)
    have n1_ := aM (rD HO378.out)
    have n2_ := aM (kD BK372.out)
    have n3_ := aM (kD BK373.out)
    have n4_ := aM (bD HB.out)
    clear HO0_1
    clear HO378
    clear BK372
    clear BK373
    clear HB
    have HO0_1 := n0_
    have HO378 := n1_
    have BK372 := n2_
    have BK373 := n3_
    have HB := n4_
    clear n0_ n1_ n2_ n3_ n4_
    obtain ⟨i028, hi028, _, hsz28, _⟩ := info_parts info2
    obtain ⟨hcut28, hA28, hC28⟩ := print_take_of (P := Try.prog) (Value.int .i64) 0 22 2 .i64 Try.underlying22 hi028 hsz28 A1 c1 l1 (ji7) (of_decide_eq_true (by first | (with_reducible assumption) | assumption)) (of_decide_eq_true (by first | (with_reducible assumption) | assumption)) HC1.out
    have HR380 := aM (Kd.C_of_reads (h1 := fun _ => rfl) (hA28 _ (Kd.reads_of_C HR1.out)))
    have HC380 := aM hC28
    clear hA28 hC28 hi028 hsz28
    refine start_ (n := 12) (S := fun w' => w'.cell? ⟨gb372, 0, none⟩ = some (.int .i64 a0_0) ∧ w'.cell? ⟨gb372, 1, none⟩ = some (.slice A0_1 l0_1.length c0_1) ∧ w'.cell? ⟨gb372, 2, none⟩ = some (.slice A0_2 l0_2.length c0_2)) (ds := []) #[N,N,N,N,N,N,N,N,N,N,N,N] (by kernel_rfl) rfl rfl ⟨(kC BK372.out 0).trans rfl, (kC BK372.out 1).trans rfl, (kC BK372.out 2).trans rfl⟩ (fun hHeld => ?_); refine with_tabW impl_FeedFrame.tab5 impl_FeedFrame.bits5 (fun HT_ HW_ => ?_)
    generalize w24.drew = w27 at HO0_1 HO378 BK372 BK373 HB HR380 hHeld ⊢
    refine pure_ (i := 0) (N := some 26) (v := ?_) (a' := ?_) #[Y,N,N,N,N,N,N,N,N,N,N,N] rfl rfl (any_of HT_.out (by kernel_rfl)) (fun _ _ _ h => h) (Or.inl ⟨by rfl, ?_⟩) ?_ ?_
    rotate_left
    ·intro w'
     go_simp
     with_reducible rfl
    rotate_left
    ·simp only [Act.put, pa, pb, pc, i64_w, i32_w]
     rfl
    refine pure_ (i := 2) (N := some 28) (v := ?_) (a' := ?_) #[Y,N,Y,N,N,N,N,N,N,N,N,N] rfl rfl (any_of HT_.out (by kernel_rfl)) (fun _ _ _ h => h) (Or.inl ⟨by rfl, ?_⟩) ?_ ?_
    rotate_left
    ·intro w'
     go_simp
     with_reducible rfl
    rotate_left
    ·simp only [Act.put, pa, pb, pc, i64_w, i32_w]
     rfl
    refine pure_ (i := 3) (N := some 29) (v := ?_) (a' := ?_) #[Y,N,Y,Y,N,N,N,N,N,N,N,N] rfl rfl (any_of HT_.out (by kernel_rfl)) (fun _ _ _ h => h) (Or.inl ⟨by rfl, ?_⟩) ?_ ?_
    rotate_left
    ·intro w'
     go_simp
     with_reducible rfl
    rotate_left
    ·simp only [Act.put, pa, pb, pc, i64_w, i32_w]
     rfl
    refine pure_ (i := 4) (N := some 30) (v := ?_) (a' := ?_) #[Y,N,Y,Y,Y,N,N,N,N,N,N,N] rfl rfl (any_of HT_.out (by kernel_rfl)) (fun _ _ _ h => h) (Or.inl ⟨by rfl, ?_⟩) ?_ ?_
    rotate_left
    ·intro w'
     go_simp
     with_reducible rfl
    rotate_left
    ·simp only [Act.put, pa, pb, pc, i64_w, i32_w]
     rfl
    refine pure_ (i := 5) (N := some 31) (v := ?_) (a' := ?_) #[Y,N,Y,Y,Y,Y,N,N,N,N,N,N] rfl rfl (any_of HT_.out (by kernel_rfl)) (fun _ _ _ h => h) (Or.inl ⟨by rfl, ?_⟩) ?_ ?_
    rotate_left
    ·intro w'
     go_simp
     with_reducible rfl
    rotate_left
    ·simp only [Act.put, pa, pb, pc, i64_w, i32_w]
     rfl
    refine take_ (i := 1) (N := some 27) (v := ?_) (a' := ?_) #[Y,Y,Y,Y,Y,Y,N,N,N,N,N,N] rfl rfl (take_ofW HT_.out HW_.out (by kernel_rfl)) (fun _ _ _ h => h) (Or.inl ⟨by rfl, ?_⟩) hHeld ?_ ?_
    rotate_left
    ·rintro w' ⟨s0, s1, s2⟩
     go_simp
     with_reducible rfl
    rotate_left
    ·simp only [Act.put, pa, pb, pc, i64_w, i32_w]
     rfl
    refine one_ (i := 6) (N := some 32) #[Y,Y,Y,Y,Y,Y,Y,N,N,N,N,N] rfl rfl (one_of HT_.out (by kernel_rfl)) (by decide) (fun K hK => ?_)
    refine goes_ Try.func61 (by kernel_rfl) rfl #[.slice A0_2 l0_2.length c0_2, .slice A1 (l1.take ((ji7) : Int).toNat).length c1, .func (.func 77) #[] #[.pointer (some ⟨gb372, 0, none⟩)]] (by rfl) rfl rfl (by (try simp only [List.map_toArray, List.map_cons, List.map_nil]); first | done | (rw [show (l1.take ((ji7) : Int).toNat).length = (ji7).toNat from (by rw [List.length_take]; have h_ : ((ji7) : Int) ≤ (l1.length : Int) := of_decide_eq_true (by first | (with_reducible assumption) | assumption); omega)] <;> rfl) | (simp only [hji7]; rfl) | rfl | (simp only [List.length_drop, List.length_take]; rfl)) ?_
    with_reducible refine (impl_seam.calls k _ _ l0_2 _ _ (l1.take ((ji7) : Int).toNat) _ _ (impl_FeedFrame_1.f a0_0) t381 t382 _ ?side1 ?side2 ?side3 ?side4 ?side5 A10.out).mono ?_
    (case side1 => repeat (first | exact (cB HR0_2.out HB.out) | (with_reducible refine cA ?_ _) | (with_reducible refine cN ?_ _) | (with_reducible refine cD ?_)))
    (case side2 => exact HC0_2.out)
    (case side3 => repeat (first | exact (cB HR380.out HB.out) | (with_reducible refine cA ?_ _) | (with_reducible refine cN ?_ _) | (with_reducible refine cD ?_)))
    (case side4 => exact HC380.out)
    (case side5 => exact (ok3_FeedFrame_1 gb372 _ _ ((kC (by (with_reducible repeat (first | refine kN ?_ _ | refine kD ?_ | refine kA ?_ _)); exact BK372.out) 0).trans rfl)))
    rintro e w29 ⟨v383, v385, rfl, ho0, ho1, hb⟩
    refine ⟨_, rfl, ?_⟩
    have n0_ := aM (Kd.V_mono (Kd.V_told (Kd.V_told (Kd.V_old (by (with_reducible repeat (first | apply Kd.V_alloc | apply Kd.V_drewN | apply Kd.V_drew)); exact HO0_1.out) hb) (rB ho0)) (rB ho1)) (fun _ h_ => h_.1))
    have n1_ := aM (rM (rO (rO (rE (by (with_reducible repeat (first | apply rA | apply rN | apply rD)); exact HO378.out) hb) (rB ho0)) (rB ho1)) (fun _ h_ => h_.1))
    have n2_ := aM (rG (rW (Kd.R_newM (M := fun k_ => (w.heap.size ≤ k_)) ho0 (bZ (by repeat (first | (with_reducible first | exact HB.out | apply bA | apply bN | apply bD | refine bS ?_ GE372.out | refine bS ?_ GE373.out) | exact HB.out))) (fun k_ h_ => h_)) (rT (by (with_reducible repeat (first | apply rA | apply rN | apply rD)); exact HO378.out))) (bZ (by repeat (first | (with_reducible first | exact HB.out | apply bA | apply bN | apply bD | refine bS ?_ GE372.out | refine bS ?_ GE373.out) | exact HB.out))))
    have n3_ := aM (rG (rW (Kd.R_newM (M := fun k_ => (w.heap.size ≤ k_)) ho1 (bZ (by repeat (first | (with_reducible first | exact HB.out | apply bA | apply bN | apply bD | refine bS ?_ GE372.out | refine bS ?_ GE373.out) | exact HB.out))) (fun k_ h_ => h_)) (rT (by (with_reducible repeat (first | apply rA | apply rN | apply rD)); exact HO378.out))) (bZ (by repeat (first | (with_reducible first | exact HB.out | apply bA | apply bN | apply bD | refine bS ?_ GE372.out | refine bS ?_ GE373.out) | exact HB.out))))
    have n4_ := aM (kB (g := gb372) (o := .cells #[.int .i64 a0_0, .slice A0_1 l0_1.length c0_1, .slice A0_2 l0_2.length c0_2] 48 (0, 0)) (by (with_reducible repeat (first | refine kN ?_ _ | refine kD ?_ | refine kA ?_ _)); exact BK372.out) hb)
    have n5_ := aM (kB (g := gb373) (o := .cells #[.int .i64 0, .int .i64 0, .slice none 0 0, .slice none 0 0, .slice none 0 0] 50 (0, 0)) (by (with_reducible repeat (first | refine kN ?_ _ | refine kD ?_ | refine kA ?_ _)); exact BK373.out) hb)
    have n6_ := aM (bT (by repeat (first | (with_reducible first | exact HB.out | apply bA | apply bN | apply bD | refine bS ?_ GE372.out | refine bS ?_ GE373.out) | exact HB.out)) hb)
    clear HO0_1
    clear HO378
    clear BK372
    clear BK373
    clear HB
    have HO0_1 := n0_
    have HO378 := n1_
    have HO384 := n2_
    have HO386 := n3_
    have BK372 := n4_
    have BK373 := n5_
    have HB := n6_
    clear n0_ n1_ n2_ n3_ n4_ n5_ n6_
    (try clear hb)
    (try clear hb2)
    (try clear hk)
    (try clear hi)
    (try clear ho0)
    (try clear ho1)
    refine hK.out _ _ ⟨(kC BK372.out 0).trans rfl, (kC BK372.out 1).trans rfl, (kC BK372.out 2).trans rfl⟩ (fun hHeld => ?_)
    clear hK K
    refine norm_ (a' := ?_) ?_ ?_
    rotate_left
    ·show Act.put _ (some 32) _ = _
     simp only [Act.put, pa, pb, pc, i64_w, i32_w]
     rfl
    refine pure_ (i := 7) (N := some 25) (v := ?_) (a' := ?_) #[Y,Y,Y,Y,Y,Y,Y,Y,N,N,N,N] rfl rfl (any_of HT_.out (by kernel_rfl)) (fun _ _ _ h => h) (Or.inl ⟨by rfl, ?_⟩) ?_ ?_
    rotate_left
    ·intro w'
     go_simp
     with_reducible rfl
    rotate_left
    ·simp only [Act.put, pa, pb, pc, i64_w, i32_w]
     rfl
    refine pure_ (i := 8) (N := some 33) (v := ?_) (a' := ?_) #[Y,Y,Y,Y,Y,Y,Y,Y,Y,N,N,N] rfl rfl (any_of HT_.out (by kernel_rfl)) (fun _ _ _ h => h) (Or.inl ⟨by rfl, ?_⟩) ?_ ?_
    rotate_left
    ·intro w'
     go_simp
     with_reducible rfl
    rotate_left
    ·simp only [Act.put, pa, pb, pc, i64_w, i32_w]
     rfl
    refine pure_ (i := 9) (N := some 34) (v := ?_) (a' := ?_) #[Y,Y,Y,Y,Y,Y,Y,Y,Y,Y,N,N] rfl rfl (any_of HT_.out (by kernel_rfl)) (fun _ _ _ h => h) (Or.inl ⟨by rfl, ?_⟩) ?_ ?_
    rotate_left
    ·intro w'
     go_simp
     with_reducible rfl
    rotate_left
    ·simp only [Act.put, pa, pb, pc, i64_w, i32_w]
     rfl
    refine pure_ (i := 10) (N := some 7) (v := ?_) (a' := ?_) #[Y,Y,Y,Y,Y,Y,Y,Y,Y,Y,Y,N] rfl rfl (any_of HT_.out (by kernel_rfl)) (fun _ _ _ h => h) (Or.inl ⟨by rfl, ?_⟩) ?_ ?_
    rotate_left
    ·intro w'
     go_simp
     with_reducible rfl
    rotate_left
    ·simp only [Act.put, pa, pb, pc, i64_w, i32_w]
     rfl
    refine pure_ (i := 11) (N := some 8) (v := ?_) (a' := ?_) #[Y,Y,Y,Y,Y,Y,Y,Y,Y,Y,Y,Y] rfl rfl (any_of HT_.out (by kernel_rfl)) (fun _ _ _ h => h) (Or.inl ⟨by rfl, ?_⟩) ?_ ?_
    rotate_left
    ·intro w'
     go_simp
     with_reducible rfl
    rotate_left
    ·simp only [Act.put, pa, pb, pc, i64_w, i32_w]
     rfl
    refine done_ (done_of HT_.out (by kernel_rfl)) ?_
    have hcz30_0 : w29.cell? ⟨gb372, 0, none⟩ = some (.int .i64 a0_0) := (kC BK372.out 0).trans rfl
    have hcz30_1 : w29.cell? ⟨gb372, 1, none⟩ = some (.slice A0_1 l0_1.length c0_1) := (kC BK372.out 1).trans rfl
    have hcz30_2 : w29.cell? ⟨gb372, 2, none⟩ = some (.slice A0_2 l0_2.length c0_2) := (kC BK372.out 2).trans rfl
    have hfz30_0 := kF BK372.out 0
    have hfz30_1 := kF BK372.out 1
    have hfz30_2 := kF BK372.out 2
    obtain ⟨Ao31, co31, eo31⟩ := Kd.R_slice HO384.out
    subst eo31
    try go_wp2_with (first | ((with_reducible refine gate_dst (N := 38) rfl ?_); refine Kd.N_lit (Kd.slice 2 (Kd.int .i64)) _ 22 ?hg (N' := 38) ?hd (xs := ([l0_1, t381] : List (List Int))) (inner := [.slice A0_1 l0_1.length c0_1, .slice Ao31 t381.length co31]) (ok := (fun k_ => (P0_1_ k_ ∨ w.heap.size ≤ k_) ∧ some k_ ≠ (.slice Ao23 y376.length co23 : Value).ownBlock ∧ some k_ ≠ (v385 : Value).ownBlock ∧ k_ ≠ gb372 ∧ k_ ≠ gb373)) (okp := (fun k_ => (P0_1_ k_ ∨ w.heap.size ≤ k_) ∧ some k_ ≠ (.slice Ao23 y376.length co23 : Value).ownBlock ∧ some k_ ≠ (v385 : Value).ownBlock ∧ k_ ≠ gb372 ∧ k_ ≠ gb373)) ?hr ?hp (fun _ hk => hk) ((show ∀ k_, w29.heap.size ≤ k_ → (fun k_ => (P0_1_ k_ ∨ w.heap.size ≤ k_) ∧ some k_ ≠ (.slice Ao23 y376.length co23 : Value).ownBlock ∧ some k_ ≠ (v385 : Value).ownBlock ∧ k_ ≠ gb372 ∧ k_ ≠ gb373) k_ from fun k_ hk => ⟨(.inr (Nat.le_trans (bZ (by repeat (first | (with_reducible first | exact HB.out | apply bA | apply bN | apply bD | refine bS ?_ GE372.out | refine bS ?_ GE373.out) | exact HB.out))) hk)), Kd.fresh' (rT (by (with_reducible repeat (first | apply rA | apply rN | apply rD)); exact HO378.out)) k_ hk, Kd.fresh' (rT (by (with_reducible repeat (first | apply rA | apply rN | apply rD)); exact HO386.out)) k_ hk, Kd.freshB (g := gb372) (o := .cells #[.int .i64 a0_0, .slice A0_1 l0_1.length c0_1, .slice A0_2 l0_2.length c0_2] 48 (0, 0)) (by (with_reducible repeat (first | refine kN ?_ _ | refine kD ?_ | refine kA ?_ _)); exact BK372.out) k_ hk, Kd.freshB (g := gb373) (o := .cells #[.int .i64 0, .int .i64 0, .slice none 0 0, .slice none 0 0, .slice none 0 0] 50 (0, 0)) (by (with_reducible repeat (first | refine kN ?_ _ | refine kD ?_ | refine kA ?_ _)); exact BK373.out) k_ hk⟩) _ (Nat.le_refl _)) (Below.refl _ _) (Nat.le_refl _) (by simp) ?_; (case hd => rfl); (case hg => rfl); (case hr => first | (go_simp; done) | (go_simp; rfl)); (case hp => exact (Reps.one (show Kd.FK (Kd.slice 2 (Kd.int .i64)) _ _ l0_1 [.slice A0_1 l0_1.length c0_1] from (Kd.FK_slice_mk (Kd.V_reads' (Kd.V_mono (ok' := (fun k_ => (P0_1_ k_ ∨ w.heap.size ≤ k_) ∧ some k_ ≠ (.slice Ao23 y376.length co23 : Value).ownBlock ∧ some k_ ≠ (v385 : Value).ownBlock ∧ k_ ≠ gb372 ∧ k_ ≠ gb373)) (HO0_1.out) (fun k_ hk => ⟨hk.1.1.1.1.1, ⟨hk.1.1.2, ⟨hk.2, ⟨hk.1.1.1.1.2, hk.1.1.1.2⟩⟩⟩⟩))).2.1 (Kd.V_F (Kd.V_mono (ok' := (fun k_ => (P0_1_ k_ ∨ w.heap.size ≤ k_) ∧ some k_ ≠ (.slice Ao23 y376.length co23 : Value).ownBlock ∧ some k_ ≠ (v385 : Value).ownBlock ∧ k_ ≠ gb372 ∧ k_ ≠ gb373)) (HO0_1.out) (fun k_ hk => ⟨hk.1.1.1.1.1, ⟨hk.1.1.2, ⟨hk.2, ⟨hk.1.1.1.1.2, hk.1.1.1.2⟩⟩⟩⟩))))) (Reps.one (show Kd.FK (Kd.slice 2 (Kd.int .i64)) _ _ t381 [.slice Ao31 t381.length co31] from (Kd.FK_slice_mk (rR (rM (ok' := (fun k_ => (P0_1_ k_ ∨ w.heap.size ≤ k_) ∧ some k_ ≠ (.slice Ao23 y376.length co23 : Value).ownBlock ∧ some k_ ≠ (v385 : Value).ownBlock ∧ k_ ≠ gb372 ∧ k_ ≠ gb373)) (Kd.R_types (Kd.R_types (HO384.out) BK372.out (by decide)) BK373.out (by decide)) (fun k_ hk => ⟨(.inr (hk.1.1.1.1)), ⟨hk.1.1.2, ⟨hk.1.1.1.2, ⟨hk.1.2, hk.2⟩⟩⟩⟩))).2.1 (Kd.R_F (rM (ok' := (fun k_ => (P0_1_ k_ ∨ w.heap.size ≤ k_) ∧ some k_ ≠ (.slice Ao23 y376.length co23 : Value).ownBlock ∧ some k_ ≠ (v385 : Value).ownBlock ∧ k_ ≠ gb372 ∧ k_ ≠ gb373)) (Kd.R_types (Kd.R_types (HO384.out) BK372.out (by decide)) BK373.out (by decide)) (fun k_ hk => ⟨(.inr (hk.1.1.1.1)), ⟨hk.1.1.2, ⟨hk.1.1.1.2, ⟨hk.1.2, hk.2⟩⟩⟩⟩))))) (Reps.none _ _)))); intro v388 w32 ho33 hb hg_ hnew_; clear hg_ hnew_; (first | rw [← Ny387.out] at ho33 | (simp only [Int.reduceToNat] at ho33; rw [← Ny387.out] at ho33)); have n0_ := aM (Kd.V_elder' (by (with_reducible repeat (first | apply Kd.V_alloc | apply Kd.V_drewN | apply Kd.V_drew)); exact HO0_1.out) (Kd.N_base ho33) hb); have n1_ := aM (rL (by (with_reducible repeat (first | apply rA | apply rN | apply rD)); exact HO378.out) hb); have n2_ := aM (rL (by (with_reducible repeat (first | apply rA | apply rN | apply rD)); exact HO386.out) hb); have n3_ := aM (Kd.N_lower ho33 (bZ (by repeat (first | (with_reducible first | exact HB.out | apply bA | apply bN | apply bD | refine bS ?_ GE372.out | refine bS ?_ GE373.out) | exact HB.out)))); have n4_ := aM (kB (g := gb372) (o := .cells #[.int .i64 a0_0, .slice A0_1 l0_1.length c0_1, .slice A0_2 l0_2.length c0_2] 48 (0, 0)) (by (with_reducible repeat (first | refine kN ?_ _ | refine kD ?_ | refine kA ?_ _)); exact BK372.out) hb); have n5_ := aM (kB (g := gb373) (o := .cells #[.int .i64 0, .int .i64 0, .slice none 0 0, .slice none 0 0, .slice none 0 0] 50 (0, 0)) (by (with_reducible repeat (first | refine kN ?_ _ | refine kD ?_ | refine kA ?_ _)); exact BK373.out) hb); have n6_ := aM (bT (by repeat (first | (with_reducible first | exact HB.out | apply bA | apply bN | apply bD | refine bS ?_ GE372.out | refine bS ?_ GE373.out) | exact HB.out)) hb); clear HO0_1 HO378 HO386 BK372 BK373 HB HO384; have HO0_1 := n0_; have HO378 := n1_; have HO386 := n2_; have HO389 := n3_; have BK372 := n4_; have BK373 := n5_; have HB := n6_; clear n0_ n1_ n2_ n3_ n4_ n5_ n6_ hb ho33; obtain ⟨Ao34, co34, eo34⟩ := Kd.N_slice HO389.out; subst eo34) | ((with_reducible refine gate_callee (f := 62) rfl ?_); refine goesL_ (some 39) rfl rfl Try.func62 (by kernel_rfl) rfl #[.slice Ao34 y387.length co34] rfl (by first | rfl | (simp only [List.map_toArray, List.map_cons, List.map_nil]; rfl)) ?_; (with_reducible refine (slices_Concat_int64_int64.calls k _ _ y387 t390 _ ?side1 ?side2 A11.out).mono ?_); (case side1 => repeat (first | exact (Kd.N_reads' HO389.out).2.2 | (with_reducible refine cA ?_ _) | (with_reducible refine cN ?_ _) | (with_reducible refine cD ?_))); (case side2 => exact (Kd.N_reads' HO389.out).2.1); rintro e w35 ⟨v391, rfl, ho0, hb⟩; refine ⟨_, rfl, ?_⟩; have n0_ := aM (Kd.V_elder' (by (with_reducible repeat (first | apply Kd.V_alloc | apply Kd.V_drewN | apply Kd.V_drew)); exact HO0_1.out) (rB ho0) hb); have n1_ := aM (rH (by (with_reducible repeat (first | apply rA | apply rN | apply rD)); exact HO378.out) (rB ho0) hb); have n2_ := aM (rH (by (with_reducible repeat (first | apply rA | apply rN | apply rD)); exact HO386.out) (rB ho0) hb); have n3_ := aM (Kd.N_elder' (by (with_reducible repeat (first | apply Kd.N_alloc | apply Kd.N_drewN | apply Kd.N_drew)); exact HO389.out) (rB ho0) hb); have n4_ := aM (rG (rW (rW (Kd.R_newM (M := fun k_ => (w.heap.size ≤ k_)) ho0 (bZ (by repeat (first | (with_reducible first | exact HB.out | apply bA | apply bN | apply bD | refine bS ?_ GE372.out | refine bS ?_ GE373.out) | exact HB.out))) (fun k_ h_ => h_)) (rT (by (with_reducible repeat (first | apply rA | apply rN | apply rD)); exact HO378.out))) (rT (by (with_reducible repeat (first | apply rA | apply rN | apply rD)); exact HO386.out))) (bZ (by repeat (first | (with_reducible first | exact HB.out | apply bA | apply bN | apply bD | refine bS ?_ GE372.out | refine bS ?_ GE373.out) | exact HB.out)))); have n5_ := aM (kB (g := gb372) (o := .cells #[.int .i64 a0_0, .slice A0_1 l0_1.length c0_1, .slice A0_2 l0_2.length c0_2] 48 (0, 0)) (by (with_reducible repeat (first | refine kN ?_ _ | refine kD ?_ | refine kA ?_ _)); exact BK372.out) hb); have n6_ := aM (kB (g := gb373) (o := .cells #[.int .i64 0, .int .i64 0, .slice none 0 0, .slice none 0 0, .slice none 0 0] 50 (0, 0)) (by (with_reducible repeat (first | refine kN ?_ _ | refine kD ?_ | refine kA ?_ _)); exact BK373.out) hb); have n7_ := aM (bT (by repeat (first | (with_reducible first | exact HB.out | apply bA | apply bN | apply bD | refine bS ?_ GE372.out | refine bS ?_ GE373.out) | exact HB.out)) hb); clear HO0_1 HO378 HO386 HO389 BK372 BK373 HB; have HO0_1 := n0_; have HO378 := n1_; have HO386 := n2_; have HO389 := n3_; have HO392 := n4_; have BK372 := n5_; have BK373 := n6_; have HB := n7_; clear n0_ n1_ n2_ n3_ n4_ n5_ n6_ n7_; (try clear hb); (try clear ho0); obtain ⟨Ao36, co36, eo36⟩ := Kd.R_slice HO392.out; subst eo36) | ((with_reducible refine gate_callee (f := 80) rfl ?_); refine goesL_ (some 40) rfl rfl Try.func80 (by kernel_rfl) rfl #[.slice Ao36 t390.length co36] rfl (by first | rfl | (simp only [List.map_toArray, List.map_cons, List.map_nil]; rfl)) ?_; (with_reducible refine (impl_spread.calls k _ _ t390 t393 _ ?side1 ?side2 A12.out).mono ?_); (case side1 => repeat (first | exact (rR HO392.out).2.2 | (with_reducible refine cA ?_ _) | (with_reducible refine cN ?_ _) | (with_reducible refine cD ?_))); (case side2 => exact (rR HO392.out).2.1); rintro e w37 ⟨v394, rfl, ho0, hb⟩; refine ⟨_, rfl, ?_⟩; have n0_ := aM (Kd.V_elder' (by (with_reducible repeat (first | apply Kd.V_alloc | apply Kd.V_drewN | apply Kd.V_drew)); exact HO0_1.out) (rB ho0) hb); have n1_ := aM (rH (by (with_reducible repeat (first | apply rA | apply rN | apply rD)); exact HO378.out) (rB ho0) hb); have n2_ := aM (rH (by (with_reducible repeat (first | apply rA | apply rN | apply rD)); exact HO386.out) (rB ho0) hb); have n3_ := aM (Kd.N_elder' (by (with_reducible repeat (first | apply Kd.N_alloc | apply Kd.N_drewN | apply Kd.N_drew)); exact HO389.out) (rB ho0) hb); have n4_ := aM (rH (by (with_reducible repeat (first | apply rA | apply rN | apply rD)); exact HO392.out) (rB ho0) hb); have n5_ := aM (rG (rW (rW (rW (Kd.R_newM (M := fun k_ => (w.heap.size ≤ k_)) ho0 (bZ (by repeat (first | (with_reducible first | exact HB.out | apply bA | apply bN | apply bD | refine bS ?_ GE372.out | refine bS ?_ GE373.out) | exact HB.out))) (fun k_ h_ => h_)) (rT (by (with_reducible repeat (first | apply rA | apply rN | apply rD)); exact HO378.out))) (rT (by (with_reducible repeat (first | apply rA | apply rN | apply rD)); exact HO386.out))) (rT (by (with_reducible repeat (first | apply rA | apply rN | apply rD)); exact HO392.out))) (bZ (by repeat (first | (with_reducible first | exact HB.out | apply bA | apply bN | apply bD | refine bS ?_ GE372.out | refine bS ?_ GE373.out) | exact HB.out)))); have n6_ := aM (kB (g := gb372) (o := .cells #[.int .i64 a0_0, .slice A0_1 l0_1.length c0_1, .slice A0_2 l0_2.length c0_2] 48 (0, 0)) (by (with_reducible repeat (first | refine kN ?_ _ | refine kD ?_ | refine kA ?_ _)); exact BK372.out) hb); have n7_ := aM (kB (g := gb373) (o := .cells #[.int .i64 0, .int .i64 0, .slice none 0 0, .slice none 0 0, .slice none 0 0] 50 (0, 0)) (by (with_reducible repeat (first | refine kN ?_ _ | refine kD ?_ | refine kA ?_ _)); exact BK373.out) hb); have n8_ := aM (bT (by repeat (first | (with_reducible first | exact HB.out | apply bA | apply bN | apply bD | refine bS ?_ GE372.out | refine bS ?_ GE373.out) | exact HB.out)) hb); clear HO0_1 HO378 HO386 HO389 HO392 BK372 BK373 HB; have HO0_1 := n0_; have HO378 := n1_; have HO386 := n2_; have HO389 := n3_; have HO392 := n4_; have HO395 := n5_; have BK372 := n6_; have BK373 := n7_; have HB := n8_; clear n0_ n1_ n2_ n3_ n4_ n5_ n6_ n7_ n8_; (try clear hb); (try clear ho0)))
    have n0_ := aM (Kd.V_drew HO0_1.out)
    have n1_ := aM (rD HO378.out)
    have n2_ := aM (rD HO386.out)
    have n3_ := aM (Kd.N_drew HO389.out)
    have n4_ := aM (rD HO392.out)
    have n5_ := aM (rD HO395.out)
    have n6_ := aM (kD BK372.out)
    have n7_ := aM (kD BK373.out)
    have n8_ := aM (bD HB.out)
    clear HO0_1
    clear HO378
    clear HO386
    clear HO389
    clear HO392
    clear HO395
    clear BK372
    clear BK373
    clear HB
    have HO0_1 := n0_
    have HO378 := n1_
    have HO386 := n2_
    have HO389 := n3_
    have HO392 := n4_
    have HO395 := n5_
    have BK372 := n6_
    have BK373 := n7_
    have HB := n8_
    clear n0_ n1_ n2_ n3_ n4_ n5_ n6_ n7_ n8_
    obtain ⟨i039, hi039, _, hsz39, _⟩ := info_parts info2
    obtain ⟨A39, hcut39, hA39, hC39⟩ := print_drop_of (P := Try.prog) (Value.int .i64) 0 22 2 .i64 Try.underlying22 hi039 hsz39 A1 c1 l1 (ji7) (of_decide_eq_true (by first | (with_reducible assumption) | assumption)) (of_decide_eq_true (by first | (with_reducible assumption) | assumption)) HC1.out
    have HR396 := aM (Kd.C_of_reads (h1 := fun _ => rfl) (hA39 _ (Kd.reads_of_C HR1.out)))
    have HC396 := aM hC39
    clear hA39 hC39 hi039 hsz39
    refine start_ (n := 11) (S := fun w' => w'.cell? ⟨gb372, 0, none⟩ = some (.int .i64 a0_0) ∧ w'.cell? ⟨gb372, 1, none⟩ = some (.slice A0_1 l0_1.length c0_1) ∧ w'.cell? ⟨gb372, 2, none⟩ = some (.slice A0_2 l0_2.length c0_2)) (ds := []) #[N,N,N,N,N,N,N,N,N,N,N] (by kernel_rfl) rfl rfl ⟨(kC BK372.out 0).trans rfl, (kC BK372.out 1).trans rfl, (kC BK372.out 2).trans rfl⟩ (fun hHeld => ?_); refine with_tabW impl_FeedFrame.tab7 impl_FeedFrame.bits7 (fun HT_ HW_ => ?_)
    generalize w37.drew = w38 at HO0_1 HO378 HO386 HO389 HO392 HO395 BK372 BK373 HB HR396 hHeld ⊢
    refine pure_ (i := 0) (N := some 41) (v := ?_) (a' := ?_) #[Y,N,N,N,N,N,N,N,N,N,N] rfl rfl (any_of HT_.out (by kernel_rfl)) (fun _ _ _ h => h) (Or.inl ⟨by rfl, ?_⟩) ?_ ?_
    rotate_left
    ·intro w'
     go_simp
     with_reducible rfl
    rotate_left
    ·simp only [Act.put, pa, pb, pc, i64_w, i32_w]
     rfl
    refine pure_ (i := 2) (N := some 43) (v := ?_) (a' := ?_) #[Y,N,Y,N,N,N,N,N,N,N,N] rfl rfl (any_of HT_.out (by kernel_rfl)) (fun _ _ _ h => h) (Or.inl ⟨by rfl, ?_⟩) ?_ ?_
    rotate_left
    ·intro w'
     go_simp
     with_reducible rfl
    rotate_left
    ·simp only [Act.put, pa, pb, pc, i64_w, i32_w]
     rfl
    refine pure_ (i := 3) (N := some 44) (v := ?_) (a' := ?_) #[Y,N,Y,Y,N,N,N,N,N,N,N] rfl rfl (any_of HT_.out (by kernel_rfl)) (fun _ _ _ h => h) (Or.inl ⟨by rfl, ?_⟩) ?_ ?_
    rotate_left
    ·intro w'
     go_simp
     with_reducible rfl
    rotate_left
    ·simp only [Act.put, pa, pb, pc, i64_w, i32_w]
     rfl
    refine pure_ (i := 4) (N := some 45) (v := ?_) (a' := ?_) #[Y,N,Y,Y,Y,N,N,N,N,N,N] rfl rfl (any_of HT_.out (by kernel_rfl)) (fun _ _ _ h => h) (Or.inl ⟨by rfl, ?_⟩) ?_ ?_
    rotate_left
    ·intro w'
     go_simp
     with_reducible rfl
    rotate_left
    ·simp only [Act.put, pa, pb, pc, i64_w, i32_w]
     rfl
    refine pure_ (i := 5) (N := some 46) (v := ?_) (a' := ?_) #[Y,N,Y,Y,Y,Y,N,N,N,N,N] rfl rfl (any_of HT_.out (by kernel_rfl)) (fun _ _ _ h => h) (Or.inl ⟨by rfl, ?_⟩) ?_ ?_
    rotate_left
    ·intro w'
     go_simp
     with_reducible rfl
    rotate_left
    ·simp only [Act.put, pa, pb, pc, i64_w, i32_w]
     rfl
    refine pure_ (i := 8) (N := some 49) (v := ?_) (a' := ?_) #[Y,N,Y,Y,Y,Y,N,N,Y,N,N] rfl rfl (any_of HT_.out (by kernel_rfl)) (fun _ _ _ h => h) (Or.inl ⟨by rfl, ?_⟩) ?_ ?_
    rotate_left
    ·intro w'
     go_simp
     with_reducible rfl
    rotate_left
    ·simp only [Act.put, pa, pb, pc, i64_w, i32_w]
     rfl
    refine take_ (i := 1) (N := some 42) (v := ?_) (a' := ?_) #[Y,Y,Y,Y,Y,Y,N,N,Y,N,N] rfl rfl (take_ofW HT_.out HW_.out (by kernel_rfl)) (fun _ _ _ h => h) (Or.inl ⟨by rfl, ?_⟩) hHeld ?_ ?_
    rotate_left
    ·rintro w' ⟨s0, s1, s2⟩
     go_simp
     with_reducible rfl
    rotate_left
    ·simp only [Act.put, pa, pb, pc, i64_w, i32_w]
     rfl
    refine one_ (i := 6) (N := some 47) #[Y,Y,Y,Y,Y,Y,Y,N,Y,N,N] rfl rfl (one_of HT_.out (by kernel_rfl)) (by decide) (fun K hK => ?_)
    refine goes_ Try.func71 (by kernel_rfl) rfl #[.slice A39 (l1.drop ((ji7) : Int).toNat).length (c1 - (ji7).toNat)] (by rfl) rfl rfl (by (try simp only [List.map_toArray, List.map_cons, List.map_nil]); first | done | (rw [show (l1.drop ((ji7) : Int).toNat).length = (l1.length - (ji7).toNat) from List.length_drop] <;> rfl) | (simp only [hji7]; rfl) | rfl | (simp only [List.length_drop, List.length_take]; rfl)) ?_
    with_reducible refine (slices_Clone_int64_int64.calls _ _ (l1.drop ((ji7) : Int).toNat) t397 _ ?side1 ?side2 A15.out).mono ?_
    (case side1 => repeat (first | exact (cB HR396.out HB.out) | (with_reducible refine cA ?_ _) | (with_reducible refine cN ?_ _) | (with_reducible refine cD ?_)))
    (case side2 => exact HC396.out)
    rintro e w40 ⟨v398, rfl, ho0, hb⟩
    refine ⟨_, rfl, ?_⟩
    have n0_ := aM (Kd.V_elder' (by (with_reducible repeat (first | apply Kd.V_alloc | apply Kd.V_drewN | apply Kd.V_drew)); exact HO0_1.out) (rB ho0) hb)
    have n1_ := aM (rH (by (with_reducible repeat (first | apply rA | apply rN | apply rD)); exact HO378.out) (rB ho0) hb)
    have n2_ := aM (rH (by (with_reducible repeat (first | apply rA | apply rN | apply rD)); exact HO386.out) (rB ho0) hb)
    have n3_ := aM (Kd.N_elder' (by (with_reducible repeat (first | apply Kd.N_alloc | apply Kd.N_drewN | apply Kd.N_drew)); exact HO389.out) (rB ho0) hb)
    have n4_ := aM (rH (by (with_reducible repeat (first | apply rA | apply rN | apply rD)); exact HO392.out) (rB ho0) hb)
    have n5_ := aM (rH (by (with_reducible repeat (first | apply rA | apply rN | apply rD)); exact HO395.out) (rB ho0) hb)
    have n6_ := aM (rG (rW (rW (rW (rW (Kd.R_newM (M := fun k_ => (w.heap.size ≤ k_)) ho0 (bZ (by repeat (first | (with_reducible first | exact HB.out | apply bA | apply bN | apply bD | refine bS ?_ GE372.out | refine bS ?_ GE373.out) | exact HB.out))) (fun k_ h_ => h_)) (rT (by (with_reducible repeat (first | apply rA | apply rN | apply rD)); exact HO378.out))) (rT (by (with_reducible repeat (first | apply rA | apply rN | apply rD)); exact HO386.out))) (rT (by (with_reducible repeat (first | apply rA | apply rN | apply rD)); exact HO392.out))) (rT (by (with_reducible repeat (first | apply rA | apply rN | apply rD)); exact HO395.out))) (bZ (by repeat (first | (with_reducible first | exact HB.out | apply bA | apply bN | apply bD | refine bS ?_ GE372.out | refine bS ?_ GE373.out) | exact HB.out))))
    have n7_ := aM (kB (g := gb372) (o := .cells #[.int .i64 a0_0, .slice A0_1 l0_1.length c0_1, .slice A0_2 l0_2.length c0_2] 48 (0, 0)) (by (with_reducible repeat (first | refine kN ?_ _ | refine kD ?_ | refine kA ?_ _)); exact BK372.out) hb)
    have n8_ := aM (kB (g := gb373) (o := .cells #[.int .i64 0, .int .i64 0, .slice none 0 0, .slice none 0 0, .slice none 0 0] 50 (0, 0)) (by (with_reducible repeat (first | refine kN ?_ _ | refine kD ?_ | refine kA ?_ _)); exact BK373.out) hb)
    have n9_ := aM (bT (by repeat (first | (with_reducible first | exact HB.out | apply bA | apply bN | apply bD | refine bS ?_ GE372.out | refine bS ?_ GE373.out) | exact HB.out)) hb)
    clear HO0_1
    clear HO378
    clear HO386
    clear HO389
    clear HO392
    clear HO395
    clear BK372
    clear BK373
    clear HB
    have HO0_1 := n0_
    have HO378 := n1_
    have HO386 := n2_
    have HO389 := n3_
    have HO392 := n4_
    have HO395 := n5_
    have HO399 := n6_
    have BK372 := n7_
    have BK373 := n8_
    have HB := n9_
    clear n0_ n1_ n2_ n3_ n4_ n5_ n6_ n7_ n8_ n9_
    (try clear hb)
    (try clear hb2)
    (try clear hk)
    (try clear hi)
    (try clear ho0)
    obtain ⟨Ao41, co41, eo41⟩ := Kd.R_slice HO399.out
    (first | subst eo41 | (injection eo41 with f1_ f2_ f3_; have f4_ := f1_.symm; have f5_ := f3_.symm; clear f1_ f2_ f3_; subst f4_; subst f5_))
    obtain ⟨Ao42, co42, eo42⟩ := Kd.R_slice HO386.out
    (first | subst eo42 | (injection eo42 with f1_ f2_ f3_; have f4_ := f1_.symm; have f5_ := f3_.symm; clear f1_ f2_ f3_; subst f4_; subst f5_))
    obtain ⟨Ao43, co43, eo43⟩ := Kd.R_slice HO395.out
    (first | subst eo43 | (injection eo43 with f1_ f2_ f3_; have f4_ := f1_.symm; have f5_ := f3_.symm; clear f1_ f2_ f3_; subst f4_; subst f5_))
    refine hK.out _ _ ⟨(kC BK372.out 0).trans rfl, (kC BK372.out 1).trans rfl, (kC BK372.out 2).trans rfl⟩ (fun hHeld => ?_)
    clear hK K
    refine norm_ (a' := ?_) ?_ ?_
    rotate_left
    ·show Act.put _ (some 47) _ = _
     simp only [Act.put, pa, pb, pc, i64_w, i32_w]
     rfl
    refine pure_ (i := 7) (N := some 48) (v := ?_) (a' := ?_) #[Y,Y,Y,Y,Y,Y,Y,Y,Y,N,N] rfl rfl (any_of HT_.out (by kernel_rfl)) (fun _ _ _ h => h) (Or.inl ⟨by rfl, ?_⟩) ?_ ?_
    rotate_left
    ·intro w'
     go_simp
     with_reducible rfl
    rotate_left
    ·simp only [Act.put, pa, pb, pc, i64_w, i32_w]
     rfl
    refine pure_ (i := 9) (N := some 50) (v := ?_) (a' := ?_) #[Y,Y,Y,Y,Y,Y,Y,Y,Y,Y,N] rfl rfl (any_of HT_.out (by kernel_rfl)) (fun _ _ _ h => h) (Or.inl ⟨by rfl, ?_⟩) ?_ ?_
    rotate_left
    ·intro w'
     go_simp
     with_reducible rfl
    rotate_left
    ·simp only [Act.put, pa, pb, pc, i64_w, i32_w]
     rfl
    refine one_ (i := 10) (N := none) #[Y,Y,Y,Y,Y,Y,Y,Y,Y,Y,Y] rfl rfl (one_of HT_.out (by kernel_rfl)) (by decide) (fun K hK => ?_)
    have hs44 : w40.cell? ⟨gb373, 0, none⟩ = some (.int .i64 0) := (kC BK373.out 0).trans rfl
    have hfs44 := kF BK373.out 0
    have hns44_0 := NB372_373.out
    have hms44_0 := NB373_372.out
    have hs45 : w40.cell? ⟨gb373, 1, none⟩ = some (.int .i64 0) := (kC BK373.out 1).trans rfl
    have hfs45 := kF BK373.out 1
    have hns45_0 := NB372_373.out
    have hms45_0 := NB373_372.out
    have hs46 : w40.cell? ⟨gb373, 2, none⟩ = some (.slice none 0 0) := (kC BK373.out 2).trans rfl
    have hfs46 := kF BK373.out 2
    have hns46_0 := NB372_373.out
    have hms46_0 := NB373_372.out
    have hs47 : w40.cell? ⟨gb373, 3, none⟩ = some (.slice none 0 0) := (kC BK373.out 3).trans rfl
    have hfs47 := kF BK373.out 3
    have hns47_0 := NB372_373.out
    have hms47_0 := NB373_372.out
    have hs48 : w40.cell? ⟨gb373, 4, none⟩ = some (.slice none 0 0) := (kC BK373.out 4).trans rfl
    have hfs48 := kF BK373.out 4
    have hns48_0 := NB372_373.out
    have hms48_0 := NB373_372.out
    refine skip_ (w1 := ?_) (by rfl) rfl ?_ ?_
    rotate_left
    ·go_simp
     rfl
    refine hK.out _ _ ⟨((cell_far (p := ⟨gb373, _, none⟩) NB372_373.out _).trans (((cell_far (p := ⟨gb373, _, none⟩) NB372_373.out _).trans (((cell_far (p := ⟨gb373, _, none⟩) NB372_373.out _).trans (((cell_far (p := ⟨gb373, _, none⟩) NB372_373.out _).trans (((cell_far (p := ⟨gb373, _, none⟩) NB372_373.out _).trans (hHeld.1)))))))))), ((cell_far (p := ⟨gb373, _, none⟩) NB372_373.out _).trans (((cell_far (p := ⟨gb373, _, none⟩) NB372_373.out _).trans (((cell_far (p := ⟨gb373, _, none⟩) NB372_373.out _).trans (((cell_far (p := ⟨gb373, _, none⟩) NB372_373.out _).trans (((cell_far (p := ⟨gb373, _, none⟩) NB372_373.out _).trans (hHeld.2.1)))))))))), ((cell_far (p := ⟨gb373, _, none⟩) NB372_373.out _).trans (((cell_far (p := ⟨gb373, _, none⟩) NB372_373.out _).trans (((cell_far (p := ⟨gb373, _, none⟩) NB372_373.out _).trans (((cell_far (p := ⟨gb373, _, none⟩) NB372_373.out _).trans (((cell_far (p := ⟨gb373, _, none⟩) NB372_373.out _).trans (hHeld.2.2))))))))))⟩ (fun hHeld => ?_)
    clear hK K
    refine done_ (done_of HT_.out (by kernel_rfl)) ?_
    try go_wp2
    refine bodyPost_ret (results_cell_row rfl _ _ gb373 50 #[.int .i64 0, .int .i64 a0_0, .slice Ao42 t382.length co42, .slice Ao41 t397.length co41, .slice Ao43 t393.length co43] (0, 0) _ rfl (by (with_reducible repeat (first | refine kN ?_ _ | refine kD ?_ | refine kA ?_ _)); refine blk_put (cs := #[.int .i64 0, .int .i64 a0_0, .slice Ao42 t382.length co42, .slice Ao41 t397.length co41, .slice none 0 0]) ?_ 4 _ rfl; (with_reducible repeat (first | refine kN ?_ _ | refine kD ?_ | refine kA ?_ _)); refine blk_put (cs := #[.int .i64 0, .int .i64 a0_0, .slice Ao42 t382.length co42, .slice none 0 0, .slice none 0 0]) ?_ 3 _ rfl; (with_reducible repeat (first | refine kN ?_ _ | refine kD ?_ | refine kA ?_ _)); refine blk_put (cs := #[.int .i64 0, .int .i64 a0_0, .slice none 0 0, .slice none 0 0, .slice none 0 0]) ?_ 2 _ rfl; (with_reducible repeat (first | refine kN ?_ _ | refine kD ?_ | refine kA ?_ _)); refine blk_put (cs := #[.int .i64 0, .int .i64 0, .slice none 0 0, .slice none 0 0, .slice none 0 0]) ?_ 1 _ rfl; (with_reducible repeat (first | refine kN ?_ _ | refine kD ?_ | refine kA ?_ _)); refine blk_put (cs := #[.int .i64 0, .int .i64 0, .slice none 0 0, .slice none 0 0, .slice none 0 0]) ?_ 0 _ rfl; (with_reducible repeat (first | refine kN ?_ _ | refine kD ?_ | refine kA ?_ _)); exact BK373.out) Try.underlying50 rfl (by kernel_rfl)) rfl ?_
    exact ⟨_, _, _, by first | rfl | (simp [errW_none, errW_some] <;> rfl) | (simp only [← hji7]; first | rfl | (simp [errW_none, errW_some] <;> rfl)) | (simp [*, errW_none, errW_some] <;> rfl), by (with_reducible repeat (first | apply rA | apply rN | apply rD)); exact rM (rF (p := ⟨gb373, 4, none⟩) (rF (p := ⟨gb373, 3, none⟩) (rF (p := ⟨gb373, 2, none⟩) (rF (p := ⟨gb373, 1, none⟩) (rF (p := ⟨gb373, 0, none⟩) (Kd.R_types HO386.out BK373.out (by decide)) (fun _ hk => hk.2) (.int .i64 0)) (fun _ hk => hk.2) (.int .i64 a0_0)) (fun _ hk => hk.2) (.slice Ao42 t382.length co42)) (fun _ hk => hk.2) (.slice Ao41 t397.length co41)) (fun _ hk => hk.2) (.slice Ao43 t393.length co43)) (fun _ hk => ⟨hk.1.1.1.1.1.1, ⟨hk.1.2, hk.1.1.2⟩⟩), by (with_reducible repeat (first | apply rA | apply rN | apply rD)); exact rM (rF (p := ⟨gb373, 4, none⟩) (rF (p := ⟨gb373, 3, none⟩) (rF (p := ⟨gb373, 2, none⟩) (rF (p := ⟨gb373, 1, none⟩) (rF (p := ⟨gb373, 0, none⟩) (Kd.R_types HO399.out BK373.out (by decide)) (fun _ hk => hk.2) (.int .i64 0)) (fun _ hk => hk.2) (.int .i64 a0_0)) (fun _ hk => hk.2) (.slice Ao42 t382.length co42)) (fun _ hk => hk.2) (.slice Ao41 t397.length co41)) (fun _ hk => hk.2) (.slice Ao43 t393.length co43)) (fun _ hk => ⟨hk.1.1.1.1.1.1, ⟨hk.1.1.1.2, hk.1.2⟩⟩), by (with_reducible repeat (first | apply rA | apply rN | apply rD)); exact rM (rF (p := ⟨gb373, 4, none⟩) (rF (p := ⟨gb373, 3, none⟩) (rF (p := ⟨gb373, 2, none⟩) (rF (p := ⟨gb373, 1, none⟩) (rF (p := ⟨gb373, 0, none⟩) (Kd.R_types HO395.out BK373.out (by decide)) (fun _ hk => hk.2) (.int .i64 0)) (fun _ hk => hk.2) (.int .i64 a0_0)) (fun _ hk => hk.2) (.slice Ao42 t382.length co42)) (fun _ hk => hk.2) (.slice Ao41 t397.length co41)) (fun _ hk => hk.2) (.slice Ao43 t393.length co43)) (fun _ hk => ⟨hk.1.1.1.1.1.1, ⟨hk.1.1.1.2, hk.1.2⟩⟩), by repeat (first | (with_reducible first | exact HB.out | apply bA | apply bN | apply bD | refine bS ?_ GE372.out | refine bS ?_ GE373.out) | exact HB.out)⟩
   ·rw [if_neg c9] at H
    exact absurd H (by simp)
  ·rw [if_neg c8] at H
   exact absurd H (by simp)
 ·rw [if_neg c6] at H
  have c6b0 : (t379 == 0) = false := beq_eq_false_iff_ne.mpr c6
  have c6b1 : (t379 != 0) = true := bne_iff_ne.mpr c6
  simp only [Option.some.injEq, Prod.mk.injEq] at H
  obtain ⟨rfl, rfl, rfl, rfl, rfl⟩ := H
  go_enter Try.func29, Try.ntmps29
  try go_wp2_with (first | ((with_reducible refine gate_dst (N := 2) rfl ?_); refine box_event ?hg (N := 2) ?hd (cs := #[.int .i64 a0_0, .slice A0_1 l0_1.length c0_1, .slice A0_2 l0_2.length c0_2]) (t := 48) ?hr ?_; (case hd => rfl); (case hg => rfl); (case hr => first | (go_simp; done) | (go_simp; rfl)); intro gb372 hg w49 hbox hb; have n0_ := aM (Kd.V_below (Kd.V_elderB (by (with_reducible repeat (first | apply Kd.V_alloc | apply Kd.V_drewN | apply Kd.V_drew)); exact HO0_1.out) gb372 (Nat.le_of_eq hg.symm)) hb); have n1_ := aM (bT (by repeat (first | exact HB.out | apply bA | apply bN | apply bD)) hb); have n2_ := aM (hbox); have n3_ := aM ((by rw [hg]; exact (bZ (by repeat (first | exact HB.out | apply bA | apply bN | apply bD))) : w.heap.size ≤ gb372)); have n4_ := aM ((by rw [hg]; exact (bZ (by repeat (first | exact HB.out | apply bA | apply bN | apply bD))) : w.heap.size ≤ gb372)); clear HO0_1 HB; have HO0_1 := n0_; have HB := n1_; have BK372 := n2_; have GW372 := n3_; have GE372 := n4_; clear n0_ n1_ n2_ n3_ n4_ hb hbox hg) | ((with_reducible refine gate_dst (N := 4) rfl ?_); refine box_event ?hg (N := 4) ?hd (cs := #[.int .i64 0, .int .i64 0, .slice none 0 0, .slice none 0 0, .slice none 0 0]) (t := 50) ?hr ?_; (case hd => rfl); (case hg => rfl); (case hr => first | (go_simp; done) | (go_simp; rfl)); intro gb373 hg w50 hbox hb; have n0_ := aM (Kd.V_below (Kd.V_elderB (by (with_reducible repeat (first | apply Kd.V_alloc | apply Kd.V_drewN | apply Kd.V_drew)); exact HO0_1.out) gb373 (Nat.le_of_eq hg.symm)) hb); have n1_ := aM (kB (g := gb372) (o := .cells #[.int .i64 a0_0, .slice A0_1 l0_1.length c0_1, .slice A0_2 l0_2.length c0_2] 48 (0, 0)) (by (with_reducible repeat (first | refine kN ?_ _ | refine kD ?_ | refine kA ?_ _)); exact BK372.out) hb); have n2_ := aM (bT (by repeat (first | (with_reducible first | exact HB.out | apply bA | apply bN | apply bD | refine bS ?_ GE372.out) | exact HB.out)) hb); have n3_ := aM (hbox); have n4_ := aM ((by rw [hg]; exact (bZ (by repeat (first | (with_reducible first | exact HB.out | apply bA | apply bN | apply bD | refine bS ?_ GE372.out) | exact HB.out))) : w.heap.size ≤ gb373)); have n5_ := aM ((by rw [hg]; exact (bZ (by repeat (first | (with_reducible first | exact HB.out | apply bA | apply bN | apply bD | refine bS ?_ GE372.out) | exact HB.out))) : w.heap.size ≤ gb373)); have n6_ := aM ((by rw [hg]; exact Nat.ne_of_lt (blk_lt (g := gb372) (o := .cells #[.int .i64 a0_0, .slice A0_1 l0_1.length c0_1, .slice A0_2 l0_2.length c0_2] 48 (0, 0)) (by (with_reducible repeat (first | refine kN ?_ _ | refine kD ?_ | refine kA ?_ _)); exact BK372.out)) : gb372 ≠ gb373)); have n7_ := aM ((by rw [hg]; exact Nat.ne_of_gt (blk_lt (g := gb372) (o := .cells #[.int .i64 a0_0, .slice A0_1 l0_1.length c0_1, .slice A0_2 l0_2.length c0_2] 48 (0, 0)) (by (with_reducible repeat (first | refine kN ?_ _ | refine kD ?_ | refine kA ?_ _)); exact BK372.out)) : gb373 ≠ gb372)); clear HO0_1 BK372 HB; have HO0_1 := n0_; have BK372 := n1_; have HB := n2_; have BK373 := n3_; have GW373 := n4_; have GE373 := n5_; have NB372_373 := n6_; have NB373_372 := n7_; clear n0_ n1_ n2_ n3_ n4_ n5_ n6_ n7_ hb hbox hg))
  have n0_ := aM (Kd.V_drew HO0_1.out)
  have n1_ := aM (kD BK372.out)
  have n2_ := aM (kD BK373.out)
  have n3_ := aM (bD HB.out)
  clear HO0_1
  clear BK372
  clear BK373
  clear HB
  have HO0_1 := n0_
  have BK372 := n1_
  have BK373 := n2_
  have HB := n3_
  clear n0_ n1_ n2_ n3_
  refine start_ (n := 9) (S := fun w' => w'.cell? ⟨gb372, 0, none⟩ = some (.int .i64 a0_0) ∧ w'.cell? ⟨gb372, 1, none⟩ = some (.slice A0_1 l0_1.length c0_1) ∧ w'.cell? ⟨gb372, 2, none⟩ = some (.slice A0_2 l0_2.length c0_2)) (ds := []) #[N,N,N,N,N,N,N,N,N] (by kernel_rfl) rfl rfl ⟨(kC BK372.out 0).trans rfl, (kC BK372.out 1).trans rfl, (kC BK372.out 2).trans rfl⟩ (fun hHeld => ?_); refine with_tabW impl_FeedFrame.tab1 impl_FeedFrame.bits1 (fun HT_ HW_ => ?_)
  generalize w50.drew = w51 at HO0_1 BK372 BK373 HB hHeld ⊢
  refine pure_ (i := 2) (N := some 12) (v := ?_) (a' := ?_) #[N,N,Y,N,N,N,N,N,N] rfl rfl (any_of HT_.out (by kernel_rfl)) (fun _ _ _ h => h) (Or.inl ⟨by rfl, ?_⟩) ?_ ?_
  rotate_left
  ·intro w'
   go_simp
   with_reducible rfl
  rotate_left
  ·simp only [Act.put, pa, pb, pc, i64_w, i32_w]
   rfl
  refine pure_ (i := 4) (N := some 14) (v := ?_) (a' := ?_) #[N,N,Y,N,Y,N,N,N,N] rfl rfl (any_of HT_.out (by kernel_rfl)) (fun _ _ _ h => h) (Or.inl ⟨by rfl, ?_⟩) ?_ ?_
  rotate_left
  ·intro w'
   go_simp
   with_reducible rfl
  rotate_left
  ·simp only [Act.put, pa, pb, pc, i64_w, i32_w]
   rfl
  refine take_ (i := 0) (N := some 10) (v := ?_) (a' := ?_) #[Y,N,Y,N,Y,N,N,N,N] rfl rfl (take_ofW HT_.out HW_.out (by kernel_rfl)) (fun _ _ _ h => h) (Or.inl ⟨by rfl, ?_⟩) hHeld ?_ ?_
  rotate_left
  ·rintro w' ⟨s0, s1, s2⟩
   go_simp
   with_reducible rfl
  rotate_left
  ·simp only [Act.put, pa, pb, pc, i64_w, i32_w]
   rfl
  refine take_ (i := 3) (N := some 13) (v := ?_) (a' := ?_) #[Y,N,Y,Y,Y,N,N,N,N] rfl rfl (take_ofW HT_.out HW_.out (by kernel_rfl)) (fun _ _ _ h => h) (Or.inl ⟨by rfl, ?_⟩) hHeld ?_ ?_
  rotate_left
  ·rintro w' ⟨s0, s1, s2⟩
   go_simp
   with_reducible rfl
  rotate_left
  ·simp only [Act.put, pa, pb, pc, i64_w, i32_w]
   rfl
  refine one_ (i := 1) (N := some 11) #[Y,Y,Y,Y,Y,N,N,N,N] rfl rfl (one_of HT_.out (by kernel_rfl)) (by decide) (fun K hK => ?_)
  refine goes_ Try.func43 (by kernel_rfl) rfl #[.agg #[.int .i64 a0_0, .slice A0_1 l0_1.length c0_1, .slice A0_2 l0_2.length c0_2]] (by rfl) rfl rfl (by first | rfl | (simp only [List.map_toArray, List.map_cons, List.map_nil]; rfl)) ?_
  with_reducible refine (impl_LapFault.calls k a0_0 _ _ l0_1 _ _ l0_2 t374 _ ?side1 ?side2 ?side3 ?side4 A3.out).mono ?_
  (case side1 => repeat (first | exact (Kd.V_reads' HO0_1.out).2.2 | (with_reducible refine cA ?_ _) | (with_reducible refine cN ?_ _) | (with_reducible refine cD ?_)))
  (case side2 => exact (Kd.V_reads' HO0_1.out).2.1)
  (case side3 => repeat (first | exact (cB HR0_2.out HB.out) | (with_reducible refine cA ?_ _) | (with_reducible refine cN ?_ _) | (with_reducible refine cD ?_)))
  (case side4 => exact HC0_2.out)
  rintro e w52 ⟨rfl, hb⟩
  refine ⟨_, rfl, ?_⟩
  have n0_ := aM (Kd.V_below (by (with_reducible repeat (first | apply Kd.V_alloc | apply Kd.V_drewN | apply Kd.V_drew)); exact HO0_1.out) hb)
  have n1_ := aM (kB (g := gb372) (o := .cells #[.int .i64 a0_0, .slice A0_1 l0_1.length c0_1, .slice A0_2 l0_2.length c0_2] 48 (0, 0)) (by (with_reducible repeat (first | refine kN ?_ _ | refine kD ?_ | refine kA ?_ _)); exact BK372.out) hb)
  have n2_ := aM (kB (g := gb373) (o := .cells #[.int .i64 0, .int .i64 0, .slice none 0 0, .slice none 0 0, .slice none 0 0] 50 (0, 0)) (by (with_reducible repeat (first | refine kN ?_ _ | refine kD ?_ | refine kA ?_ _)); exact BK373.out) hb)
  have n3_ := aM (bT (by repeat (first | (with_reducible first | exact HB.out | apply bA | apply bN | apply bD | refine bS ?_ GE372.out | refine bS ?_ GE373.out) | exact HB.out)) hb)
  clear HO0_1
  clear BK372
  clear BK373
  clear HB
  have HO0_1 := n0_
  have BK372 := n1_
  have BK373 := n2_
  have HB := n3_
  clear n0_ n1_ n2_ n3_
  (try clear hb)
  (try clear hb2)
  (try clear hk)
  (try clear hi)
  refine hK.out _ _ ⟨(kC BK372.out 0).trans rfl, (kC BK372.out 1).trans rfl, (kC BK372.out 2).trans rfl⟩ (fun hHeld => ?_)
  clear hK K
  refine norm_ (a' := ?_) ?_ ?_
  rotate_left
  ·show Act.put _ (some 11) _ = _
   simp only [Act.put, pa, pb, pc, i64_w, i32_w]
   rfl
  refine one_ (i := 5) (N := some 15) #[Y,Y,Y,Y,Y,Y,N,N,N] rfl rfl (one_of HT_.out (by kernel_rfl)) (by decide) (fun K hK => ?_)
  refine goes_ Try.func76 (by kernel_rfl) rfl #[.int .i64 a0_0, .slice A1 l1.length c1] (by rfl) rfl rfl (by first | rfl | (simp only [List.map_toArray, List.map_cons, List.map_nil]; rfl)) ?_
  with_reducible refine (impl_SamplesFault.calls k a0_0 _ _ l1 t375 _ ?side1 ?side2 A4.out).mono ?_
  (case side1 => repeat (first | exact (cB HR1.out HB.out) | (with_reducible refine cA ?_ _) | (with_reducible refine cN ?_ _) | (with_reducible refine cD ?_)))
  (case side2 => exact HC1.out)
  rintro e w53 ⟨rfl, hb⟩
  refine ⟨_, rfl, ?_⟩
  have n0_ := aM (Kd.V_below (by (with_reducible repeat (first | apply Kd.V_alloc | apply Kd.V_drewN | apply Kd.V_drew)); exact HO0_1.out) hb)
  have n1_ := aM (kB (g := gb372) (o := .cells #[.int .i64 a0_0, .slice A0_1 l0_1.length c0_1, .slice A0_2 l0_2.length c0_2] 48 (0, 0)) (by (with_reducible repeat (first | refine kN ?_ _ | refine kD ?_ | refine kA ?_ _)); exact BK372.out) hb)
  have n2_ := aM (kB (g := gb373) (o := .cells #[.int .i64 0, .int .i64 0, .slice none 0 0, .slice none 0 0, .slice none 0 0] 50 (0, 0)) (by (with_reducible repeat (first | refine kN ?_ _ | refine kD ?_ | refine kA ?_ _)); exact BK373.out) hb)
  have n3_ := aM (bT (by repeat (first | (with_reducible first | exact HB.out | apply bA | apply bN | apply bD | refine bS ?_ GE372.out | refine bS ?_ GE373.out) | exact HB.out)) hb)
  clear HO0_1
  clear BK372
  clear BK373
  clear HB
  have HO0_1 := n0_
  have BK372 := n1_
  have BK373 := n2_
  have HB := n3_
  clear n0_ n1_ n2_ n3_
  (try clear hb)
  (try clear hb2)
  (try clear hk)
  (try clear hi)
  refine hK.out _ _ ⟨(kC BK372.out 0).trans rfl, (kC BK372.out 1).trans rfl, (kC BK372.out 2).trans rfl⟩ (fun hHeld => ?_)
  clear hK K
  refine norm_ (a' := ?_) ?_ ?_
  rotate_left
  ·show Act.put _ (some 15) _ = _
   simp only [Act.put, pa, pb, pc, i64_w, i32_w]
   rfl
  refine one_ (i := 6) (N := some 16) #[Y,Y,Y,Y,Y,Y,Y,N,N] rfl rfl (one_of HT_.out (by kernel_rfl)) (by decide) (fun K hK => ?_)
  refine Kd.R_lit_step (Kd.int .i64) _ 2 ?hg (N := 16) ?hd (xs := ([t374, t375] : List Int)) (inner := [.int .i64 t374, .int .i64 t375]) (ok := fun _ => True) (okp := fun _ => True) ?hr ?hp (fun _ hk => hk) trivial (Below.refl _ _) (Nat.le_refl _) (by simp) ?_; (case hd => rfl); (case hg => rfl); (case hr => first | (go_simp; done) | (go_simp; rfl)); (case hp => exact (Reps.one (show Kd.M (Kd.int .i64) _ _ _ t374 [.int .i64 t374] from rfl) (Reps.one (show Kd.M (Kd.int .i64) _ _ _ t375 [.int .i64 t375] from rfl) (Reps.none _ _))))
  intro v377 w54 ho55 hb hg_ hnew_
  clear hg_ hnew_
  (first | rw [← Ny376.out] at ho55 | (simp only [Int.reduceToNat] at ho55; rw [← Ny376.out] at ho55))
  have n0_ := aM (Kd.V_elder' (by (with_reducible repeat (first | apply Kd.V_alloc | apply Kd.V_drewN | apply Kd.V_drew)); exact HO0_1.out) (rB ho55) hb)
  have n1_ := aM (rG (Kd.R_newM (M := fun k_ => (w.heap.size ≤ k_)) ho55 (bZ (by repeat (first | (with_reducible first | exact HB.out | apply bA | apply bN | apply bD | refine bS ?_ GE372.out | refine bS ?_ GE373.out) | exact HB.out))) (fun k_ h_ => h_)) (bZ (by repeat (first | (with_reducible first | exact HB.out | apply bA | apply bN | apply bD | refine bS ?_ GE372.out | refine bS ?_ GE373.out) | exact HB.out))))
  have n2_ := aM (kB (g := gb372) (o := .cells #[.int .i64 a0_0, .slice A0_1 l0_1.length c0_1, .slice A0_2 l0_2.length c0_2] 48 (0, 0)) (by (with_reducible repeat (first | refine kN ?_ _ | refine kD ?_ | refine kA ?_ _)); exact BK372.out) hb)
  have n3_ := aM (kB (g := gb373) (o := .cells #[.int .i64 0, .int .i64 0, .slice none 0 0, .slice none 0 0, .slice none 0 0] 50 (0, 0)) (by (with_reducible repeat (first | refine kN ?_ _ | refine kD ?_ | refine kA ?_ _)); exact BK373.out) hb)
  have n4_ := aM (bT (by repeat (first | (with_reducible first | exact HB.out | apply bA | apply bN | apply bD | refine bS ?_ GE372.out | refine bS ?_ GE373.out) | exact HB.out)) hb)
  clear HO0_1
  clear BK372
  clear BK373
  clear HB
  have HO0_1 := n0_
  have HO378 := n1_
  have BK372 := n2_
  have BK373 := n3_
  have HB := n4_
  clear n0_ n1_ n2_ n3_ n4_
  clear hb ho55
  obtain ⟨Ao56, co56, eo56⟩ := Kd.R_slice HO378.out
  (first | subst eo56 | (injection eo56 with f1_ f2_ f3_; have f4_ := f1_.symm; have f5_ := f3_.symm; clear f1_ f2_ f3_; subst f4_; subst f5_))
  refine hK.out _ _ ⟨(kC BK372.out 0).trans rfl, (kC BK372.out 1).trans rfl, (kC BK372.out 2).trans rfl⟩ (fun hHeld => ?_)
  clear hK K
  refine norm_ (a' := ?_) ?_ ?_
  rotate_left
  ·show Act.put _ (some 16) _ = _
   simp only [Act.put, pa, pb, pc, i64_w, i32_w]
   rfl
  refine one_ (i := 7) (N := some 17) #[Y,Y,Y,Y,Y,Y,Y,Y,N] rfl rfl (one_of HT_.out (by kernel_rfl)) (by decide) (fun K hK => ?_)
  refine goes_ Try.func54 (by kernel_rfl) rfl #[.slice Ao56 y376.length co56] (by rfl) rfl rfl (by first | rfl | (simp only [List.map_toArray, List.map_cons, List.map_nil]; rfl)) ?_
  with_reducible refine (impl_first.calls k _ _ y376 t379 _ ?side1 ?side2 A5.out).mono ?_
  (case side1 => repeat (first | exact (rR HO378.out).2.2 | (with_reducible refine cA ?_ _) | (with_reducible refine cN ?_ _) | (with_reducible refine cD ?_)))
  (case side2 => exact (rR HO378.out).2.1)
  rintro e w57 ⟨rfl, hdr_⟩; have hb := Drawn0.below hdr_
  refine ⟨_, rfl, ?_⟩
  have n0_ := aM (Kd.V_below (by (with_reducible repeat (first | apply Kd.V_alloc | apply Kd.V_drewN | apply Kd.V_drew)); exact HO0_1.out) hb)
  have n1_ := aM (rL (by (with_reducible repeat (first | apply rA | apply rN | apply rD)); exact HO378.out) hb)
  have n2_ := aM (kB (g := gb372) (o := .cells #[.int .i64 a0_0, .slice A0_1 l0_1.length c0_1, .slice A0_2 l0_2.length c0_2] 48 (0, 0)) (by (with_reducible repeat (first | refine kN ?_ _ | refine kD ?_ | refine kA ?_ _)); exact BK372.out) hb)
  have n3_ := aM (kB (g := gb373) (o := .cells #[.int .i64 0, .int .i64 0, .slice none 0 0, .slice none 0 0, .slice none 0 0] 50 (0, 0)) (by (with_reducible repeat (first | refine kN ?_ _ | refine kD ?_ | refine kA ?_ _)); exact BK373.out) hb)
  have n4_ := aM (bT (by repeat (first | (with_reducible first | exact HB.out | apply bA | apply bN | apply bD | refine bS ?_ GE372.out | refine bS ?_ GE373.out) | exact HB.out)) hb)
  clear HO0_1
  clear HO378
  clear BK372
  clear BK373
  clear HB
  have HO0_1 := n0_
  have HO378 := n1_
  have BK372 := n2_
  have BK373 := n3_
  have HB := n4_
  clear n0_ n1_ n2_ n3_ n4_
  (try clear hb)
  (try clear hb2)
  (try clear hk)
  (try clear hi)
  refine hK.out _ _ ⟨(kC BK372.out 0).trans rfl, (kC BK372.out 1).trans rfl, (kC BK372.out 2).trans rfl⟩ (fun hHeld => ?_)
  clear hK K
  refine norm_ (a' := ?_) ?_ ?_
  rotate_left
  ·show Act.put _ (some 17) _ = _
   simp only [Act.put, pa, pb, pc, i64_w, i32_w]
   rfl
  refine pure_ (i := 8) (N := some 5) (v := ?_) (a' := ?_) #[Y,Y,Y,Y,Y,Y,Y,Y,Y] rfl rfl (any_of HT_.out (by kernel_rfl)) (fun _ _ _ h => h) (Or.inl ⟨by rfl, ?_⟩) ?_ ?_
  rotate_left
  ·intro w'
   go_simp
   with_reducible rfl
  rotate_left
  ·simp only [Act.put, pa, pb, pc, i64_w, i32_w]
   rfl
  refine done_ (done_of HT_.out (by kernel_rfl)) ?_
  have hnb58 := NB373_372.out
  have hnc58 := NB372_373.out
  have hcz59_0 : w57.cell? ⟨gb373, 0, none⟩ = some (.int .i64 0) := (kC BK373.out 0).trans rfl
  have hcz59_1 : w57.cell? ⟨gb373, 1, none⟩ = some (.int .i64 0) := (kC BK373.out 1).trans rfl
  have hcz59_2 : w57.cell? ⟨gb373, 2, none⟩ = some (.slice none 0 0) := (kC BK373.out 2).trans rfl
  have hcz59_3 : w57.cell? ⟨gb373, 3, none⟩ = some (.slice none 0 0) := (kC BK373.out 3).trans rfl
  have hcz59_4 : w57.cell? ⟨gb373, 4, none⟩ = some (.slice none 0 0) := (kC BK373.out 4).trans rfl
  have hfz59_0 := kF BK373.out 0
  have hfz59_1 := kF BK373.out 1
  have hfz59_2 := kF BK373.out 2
  have hfz59_3 := kF BK373.out 3
  have hfz59_4 := kF BK373.out 4
  try go_wp2
  refine bodyPost_ret (results_cell_row rfl _ _ gb373 50 #[.int .i64 t379, .int .i64 0, .slice none 0 0, .slice none 0 0, .slice none 0 0] (0, 0) _ rfl (by (with_reducible repeat (first | refine kN ?_ _ | refine kD ?_ | refine kA ?_ _)); refine blk_put (cs := #[.int .i64 t379, .int .i64 0, .slice none 0 0, .slice none 0 0, .slice none 0 0]) ?_ 4 _ rfl; (with_reducible repeat (first | refine kN ?_ _ | refine kD ?_ | refine kA ?_ _)); refine blk_put (cs := #[.int .i64 t379, .int .i64 0, .slice none 0 0, .slice none 0 0, .slice none 0 0]) ?_ 3 _ rfl; (with_reducible repeat (first | refine kN ?_ _ | refine kD ?_ | refine kA ?_ _)); refine blk_put (cs := #[.int .i64 t379, .int .i64 0, .slice none 0 0, .slice none 0 0, .slice none 0 0]) ?_ 2 _ rfl; (with_reducible repeat (first | refine kN ?_ _ | refine kD ?_ | refine kA ?_ _)); refine blk_put (cs := #[.int .i64 t379, .int .i64 0, .slice none 0 0, .slice none 0 0, .slice none 0 0]) ?_ 1 _ rfl; (with_reducible repeat (first | refine kN ?_ _ | refine kD ?_ | refine kA ?_ _)); refine blk_put (cs := #[.int .i64 0, .int .i64 0, .slice none 0 0, .slice none 0 0, .slice none 0 0]) ?_ 0 _ rfl; (with_reducible repeat (first | refine kN ?_ _ | refine kD ?_ | refine kA ?_ _)); exact BK373.out) Try.underlying50 rfl (by kernel_rfl)) rfl ?_
  exact ⟨_, _, _, by first | rfl | (simp [errW_none, errW_some] <;> rfl) | (simp [*, errW_none, errW_some] <;> rfl), by first | exact Kd.R_nil _ _ _ _ _ | exact Kd.N_nil _ _ _ _ _ | exact Kd.V_nil _ _ _ _ _ | exact Kd.Q_nil _ _ _ _ _ | exact Kd.S_nil _ _ _ _ _, by first | exact Kd.R_nil _ _ _ _ _ | exact Kd.N_nil _ _ _ _ _ | exact Kd.V_nil _ _ _ _ _ | exact Kd.Q_nil _ _ _ _ _ | exact Kd.S_nil _ _ _ _ _, by first | exact Kd.R_nil _ _ _ _ _ | exact Kd.N_nil _ _ _ _ _ | exact Kd.V_nil _ _ _ _ _ | exact Kd.Q_nil _ _ _ _ _ | exact Kd.S_nil _ _ _ _ _, by repeat (first | (with_reducible first | exact HB.out | apply bA | apply bN | apply bD | refine bS ?_ GE372.out | refine bS ?_ GE373.out) | exact HB.out)⟩

end Go.Proofs.Ytmhnpogjkbmmnaa.PFnExactFeedFrame
