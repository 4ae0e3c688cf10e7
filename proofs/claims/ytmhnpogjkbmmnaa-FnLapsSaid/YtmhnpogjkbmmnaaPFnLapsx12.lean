-- Written by a program of this session: wip/mkprint.py over the kit's print, with contracts proved by hand (wip/given.py)
-- shortest of all
-- told shortest
-- told shorter still
-- shortened
-- told short
-- worlds by letters
-- squeezed
import Derived.Test.YtmhnpogjkbmmnaaPFnLapsx0
import Derived.Test.YtmhnpogjkbmmnaaPFnLapsx1
import Derived.Test.YtmhnpogjkbmmnaaPFnLapsx4
import Derived.Test.YtmhnpogjkbmmnaaPFnLapsx5
import Derived.Test.YtmhnpogjkbmmnaaPFnLapsx8
import Derived.Test.YtmhnpogjkbmmnaaPFnLapsx9
import Derived.Test.YtmhnpogjkbmmnaaPFnLapsx11
namespace Go.Proofs.Ytmhnpogjkbmmnaa.PFnLaps
open Go.RowKit Go.Proofs.YtmhnpogjkbmmnaaW.PrintWords Go.Proofs.YtmhnpogjkbmmnaaW.PrintLast Go.Proofs.YtmhnpogjkbmmnaaW.PrintMore
open Go.Proofs.YtmhnpogjkbmmnaaW.PrintWords.Kd renaming R_alloc → rA, R_drewN → rN, R_drew → rD, R_far → rF, R_mono → rM, R_base → rB, R_new' → rW, R_below → rL, R_lt → rT, R_lower → rG, R_elder' → rH, R_reads' → rR, C_below → cB
open Go.Proofs.YtmhnpogjkbmmnaaW.PrintMore.Kd renaming R_told → rO, R_old → rE
open Go.Proofs.YtmhnpogjkbmmnaaW.PrintWords renaming below_drew1 → bD, below_step → bT, below_size → bZ, blk_drewN → kN, blk_drew → kD, blk_alloc → kA, blk_below → kB, blk_cell → kC, blk_frozen → kF
open Go.Proofs.YtmhnpogjkbmmnaaW.PrintWords.Aside0 renaming mk → aM
attribute [local go_sem] max2_int min2_int max_two min_two max_three min_three max_four min_four   -- for this text's walks alone
set_option linter.unusedVariables false
set_option linter.unusedSimpArgs false

/-! ### impl_FeedFrame: function 29 -/
def impl_FeedFrame.f (k : Nat) (a0_0 : Int) (l0_1 : List Int) (l0_2 : List Int) (l1 : List Int) : Option (Int × Int × List Int × List Int × List Int) := (impl_LapFault.f k a0_0 l0_1 l0_2).bind fun t350 => ((impl_SamplesFault.f k a0_0 l1).bind fun t351 => ((impl_first.f k (([t350, t351] : List Int))).bind fun t355 => (if t355 = 0 then (if 0 ≤ (wrap64 (Int.tdiv a0_0 2)) then (if (wrap64 (Int.tdiv a0_0 2)) ≤ (l1.length : Int) then ((impl_seam.f k l0_2 (l1.take ((wrap64 (Int.tdiv a0_0 2)) : Int).toNat) (impl_FeedFrame_1.f a0_0)).bind fun bt357 => ((slices_Concat_int64_int64.f k (([l0_1, bt357.1] : List (List Int)))).bind fun t366 => ((impl_spread.f k t366).bind fun t369 => ((slices_Clone_int64_int64.f (l1.drop ((wrap64 (Int.tdiv a0_0 2)) : Int).toNat)).bind fun t373 => (some (0, a0_0, bt357.2, t373, t369)))))) else (none)) else (none)) else (some (t355, 0, ([] : List Int), ([] : List Int), ([] : List Int))))))
theorem impl_FeedFrame.mono : ∀ a0 a1 a2 a3 k, LeO (impl_FeedFrame.f k a0 a1 a2 a3) (impl_FeedFrame.f (k + 1) a0 a1 a2 a3) := by
 intro a0 a1 a2 a3 k
 unfold impl_FeedFrame.f
 repeat' first
   | (with_reducible exact impl_LapFault.mono _ _ _ _)
   | (with_reducible exact impl_SamplesFault.mono _ _ _)
   | (with_reducible exact impl_first.mono _ _)
   | (with_reducible exact impl_seam.mono _ _ _ _)
   | (with_reducible exact impl_spread.mono _ _)
   | (with_reducible exact slices_Concat_int64_int64.mono _ _)
   | (with_reducible exact LeO.refl _)
   | (with_reducible exact LeO.none _)
   | (with_reducible refine LeO.ite ?_ ?_)
   | (with_reducible refine LeO.bind ?_ (fun _ => ?_))
   | exact impl_LapFault.mono _ _ _ _
   | exact impl_SamplesFault.mono _ _ _
   | exact impl_first.mono _ _
   | exact impl_seam.mono _ _ _ _
   | exact impl_spread.mono _ _
   | exact slices_Concat_int64_int64.mono _ _
   | exact LeO.none _
   | refine LeO.ite ?_ ?_
   | refine LeO.bind ?_ (fun _ => ?_)
def impl_FeedFrame.T1 : Bool × List (List Nat × List Nat) := (true, [([], []), ([0], [0]), ([], []), ([2], [2]), ([], []), ([3, 4, 1], [3, 4]), ([1, 5], [1, 5]), ([6, 5], [6]), ([7, 7, 0, 1, 2, 3, 4, 5, 6, 7], [7])])
def impl_FeedFrame.B1 : List Nat := [0, 1, 0, 4, 0, 31, 63, 127, 255]
theorem impl_FeedFrame.tab1 : rtab .any (opsOf Try.f29 1) = impl_FeedFrame.T1 := by kernel_rfl
theorem impl_FeedFrame.bits1 : waitsOk impl_FeedFrame.T1.2 impl_FeedFrame.B1 = true := by kernel_rfl
def impl_FeedFrame.T5 : Bool × List (List Nat × List Nat) := (true, [([], []), ([0], [0]), ([], []), ([], []), ([2, 3], [2, 3]), ([], []), ([1, 4, 5], [1, 4, 5]), ([6], [6]), ([7], [7]), ([7], [7]), ([8, 6, 0, 1, 2, 3, 4, 5, 6, 7, 8], [8]), ([9, 10, 0, 1, 2, 3, 4, 5, 6, 7, 8, 9, 10], [9])])
def impl_FeedFrame.B5 : List Nat := [0, 1, 0, 0, 12, 0, 63, 127, 255, 255, 511, 2047]
theorem impl_FeedFrame.tab5 : rtab .any (opsOf Try.f29 5) = impl_FeedFrame.T5 := by kernel_rfl
theorem impl_FeedFrame.bits5 : waitsOk impl_FeedFrame.T5.2 impl_FeedFrame.B5 = true := by kernel_rfl
def impl_FeedFrame.T7 : Bool × List (List Nat × List Nat) := (true, [([], []), ([0], [0]), ([], []), ([], []), ([], []), ([3, 4], [3, 4]), ([5], [5]), ([1, 2, 6], [1, 2, 6]), ([], []), ([7, 8], [7, 8]), ([9, 6, 0, 1, 2, 3, 4, 5, 6, 7, 8, 9], [9])])
def impl_FeedFrame.B7 : List Nat := [0, 1, 0, 0, 0, 24, 56, 127, 0, 511, 1023]
theorem impl_FeedFrame.tab7 : rtab .any (opsOf Try.f29 7) = impl_FeedFrame.T7 := by kernel_rfl
theorem impl_FeedFrame.bits7 : waitsOk impl_FeedFrame.T7.2 impl_FeedFrame.B7 = true := by kernel_rfl
set_option maxHeartbeats 8000000 in
set_option maxRecDepth 100000 in
theorem impl_FeedFrame.callsV (k : Nat) (a0_0 : Int) (P0_1_ : Nat → Prop) (A0_1 : Option Addr) (c0_1 : Nat) (l0_1 : List Int) (A0_2 : Option Addr) (c0_2 : Nat) (l0_2 : List Int) (A1 : Option Addr) (c1 : Nat) (l1 : List Int) (r1 : Int) (r2 : Int) (r3 : List Int) (r4 : List Int) (r5 : List Int) (w : World) (hs0_1 : Kd.V (Kd.int .i64) 2 w w.heap.size (fun k_ => P0_1_ k_) (.slice A0_1 l0_1.length c0_1) l0_1) (hr0_2 : Kd.C (Kd.int .i64) w A0_2 l0_2.length l0_2) (hc0_2 : l0_2.length ≤ c0_2) (hr1 : Kd.C (Kd.int .i64) w A1 l1.length l1) (hc1 : l1.length ≤ c1) (h : impl_FeedFrame.f k a0_0 l0_1 l0_2 l1 = some (r1, r2, r3, r4, r5)) :
  Calls Try.prog 29 #[.agg #[.int .i64 a0_0, .slice A0_1 l0_1.length c0_1, .slice A0_2 l0_2.length c0_2], .slice A1 l1.length c1] w fun e w' => ∃ v2_ v3_ v4_ : Value, e = .returned (.agg #[.int .i64 r1, .int .i64 r2, v2_, v3_, v4_]) ∧ Kd.R (Kd.int .i64) 2 w' w.heap.size (fun k_ => (w.heap.size ≤ k_) ∧ nb v3_ k_ ∧ nb v4_ k_) v2_ r3 ∧ Kd.R (Kd.int .i64) 2 w' w.heap.size (fun k_ => (w.heap.size ≤ k_) ∧ nb v2_ k_ ∧ nb v4_ k_) v3_ r4 ∧ Kd.R (Kd.int .i64) 2 w' w.heap.size (fun k_ => (w.heap.size ≤ k_) ∧ nb v2_ k_ ∧ nb v3_ k_) v4_ r5 ∧ Below w.heap.size w w' := by
 have hu48 := Try.underlying48
 have hu50 := Try.underlying50
 have HO0_1 := aM (show Kd.V (Kd.int .i64) 2 w w.heap.size (fun k_ => (P0_1_ k_ ∨ w.heap.size ≤ k_)) (.slice A0_1 l0_1.length c0_1) l0_1 from Kd.V_mono hs0_1 (fun k_ hk => .inl hk))
 have HR0_2 := aM hr0_2
 have HC0_2 := aM hc0_2
 clear hr0_2 hc0_2
 have HR1 := aM hr1
 have HC1 := aM hc1
 clear hr1 hc1
 have HB := aM (Below.refl w.heap.size w)
 have H : ((impl_LapFault.f k a0_0 l0_1 l0_2).bind fun t350 => ((impl_SamplesFault.f k a0_0 l1).bind fun t351 => ((impl_first.f k (([t350, t351] : List Int))).bind fun t355 => (if t355 = 0 then (if 0 ≤ (wrap64 (Int.tdiv a0_0 2)) then (if (wrap64 (Int.tdiv a0_0 2)) ≤ (l1.length : Int) then ((impl_seam.f k l0_2 (l1.take ((wrap64 (Int.tdiv a0_0 2)) : Int).toNat) (impl_FeedFrame_1.f a0_0)).bind fun bt357 => ((slices_Concat_int64_int64.f k (([l0_1, bt357.1] : List (List Int)))).bind fun t366 => ((impl_spread.f k t366).bind fun t369 => ((slices_Clone_int64_int64.f (l1.drop ((wrap64 (Int.tdiv a0_0 2)) : Int).toNat)).bind fun t373 => (some (0, a0_0, bt357.2, t373, t369)))))) else (none)) else (none)) else (some (t355, 0, ([] : List Int), ([] : List Int), ([] : List Int))))))) = some (r1, r2, r3, r4, r5) := h
 clear h
 replace H := bo H
 obtain ⟨t350, A3, H⟩ := H
 replace H := bz H
 replace H := bo H
 obtain ⟨t351, A4, H⟩ := H
 replace H := bz H
 obtain ⟨y352, hy352⟩ : ∃ y_ : List Int, y_ = (([t350, t351] : List Int)) := ⟨_, rfl⟩
 replace H : ((impl_first.f k y352).bind fun t355 => (if t355 = 0 then (if 0 ≤ (wrap64 (Int.tdiv a0_0 2)) then (if (wrap64 (Int.tdiv a0_0 2)) ≤ (l1.length : Int) then ((impl_seam.f k l0_2 (l1.take ((wrap64 (Int.tdiv a0_0 2)) : Int).toNat) (impl_FeedFrame_1.f a0_0)).bind fun bt357 => ((slices_Concat_int64_int64.f k (([l0_1, bt357.1] : List (List Int)))).bind fun t366 => ((impl_spread.f k t366).bind fun t369 => ((slices_Clone_int64_int64.f (l1.drop ((wrap64 (Int.tdiv a0_0 2)) : Int).toNat)).bind fun t373 => (some (0, a0_0, bt357.2, t373, t369)))))) else (none)) else (none)) else (some (t355, 0, ([] : List Int), ([] : List Int), ([] : List Int))))) = some (r1, r2, r3, r4, r5) := hl hy352 H
 have Ny352 := aM hy352
 clear hy352
 replace H := bo H
 obtain ⟨t355, A5, H⟩ := H
 replace H := bz H
 by_cases c6 : t355 = 0
 ·rw [if_pos c6] at H
  have c6b0 : (t355 == 0) = true := beq_iff_eq.mpr c6
  have c6b1 : (t355 != 0) = false := bne_eq_false_iff_eq.mpr c6
  clear c6
  obtain ⟨ji7, hji7⟩ : ∃ j_ : Int, (wrap64 (Int.tdiv a0_0 2)) = j_ := ⟨_, rfl⟩
  replace H : (if 0 ≤ (ji7) then (if (ji7) ≤ (l1.length : Int) then ((impl_seam.f k l0_2 (l1.take ((ji7) : Int).toNat) (impl_FeedFrame_1.f a0_0)).bind fun bt357 => ((slices_Concat_int64_int64.f k (([l0_1, bt357.1] : List (List Int)))).bind fun t366 => ((impl_spread.f k t366).bind fun t369 => ((slices_Clone_int64_int64.f (l1.drop ((ji7) : Int).toNat)).bind fun t373 => (some (0, a0_0, bt357.2, t373, t369)))))) else (none)) else (none)) = some (r1, r2, r3, r4, r5) := by first | (rw [hji7] at H; exact H) | (simp only [hji7] at H ⊢; exact H)
  (try rw [hji7] at A3)
  (try rw [hji7] at A4)
  (try rw [hji7] at A5)
  have hji7w : (IntKind.i64.wrap (Int.tdiv a0_0 2)) = ji7 := (i64_w _).trans hji7
  by_cases c8 : 0 ≤ (ji7)
  ·rw [if_pos c8] at H
   have c8b0 := eq_true c8
   have c8b1 : decide (0 ≤ (ji7)) = true := decide_eq_true c8
   clear c8
   by_cases c9 : (ji7) ≤ (l1.length : Int)
   ·rw [if_pos c9] at H
    have c9b0 := eq_true c9
    have c9b1 : decide ((ji7) ≤ (l1.length : Int)) = true := decide_eq_true c9
    clear c9
    replace H := bo H
    obtain ⟨⟨t357, t358⟩, A10, H⟩ := H
    replace H := bz H
    obtain ⟨y363, hy363⟩ : ∃ y_ : List (List Int), y_ = (([l0_1, t357] : List (List Int))) := ⟨_, rfl⟩
    replace H : ((slices_Concat_int64_int64.f k y363).bind fun t366 => ((impl_spread.f k t366).bind fun t369 => ((slices_Clone_int64_int64.f (l1.drop ((ji7) : Int).toNat)).bind fun t373 => (some (0, a0_0, t358, t373, t369))))) = some (r1, r2, r3, r4, r5) := hl hy363 H
    have Ny363 := aM hy363
    clear hy363
    replace H := bo H
    obtain ⟨t366, A11, H⟩ := H
    replace H := bz H
    replace H := bo H
    obtain ⟨t369, A12, H⟩ := H
    replace H := bz H
    have c13b0 := eq_true (of_decide_eq_true (by first | (with_reducible assumption) | assumption) : 0 ≤ (ji7))
    have c14b0 := eq_true (of_decide_eq_true (by first | (with_reducible assumption) | assumption) : (ji7) ≤ (l1.length : Int))
    replace H := bo H
    obtain ⟨t373, A15, H⟩ := H
    replace H := bz H
    simp only [Option.some.injEq, Prod.mk.injEq] at H
    obtain ⟨rfl, rfl, rfl, rfl, rfl⟩ := H
    go_enter Try.func29, Try.ntmps29
    try go_wp2_with (first | ((with_reducible refine gate_dst (N := 2) rfl ?_); refine box_event ?hg (N := 2) ?hd (cs := #[.int .i64 a0_0, .slice A0_1 l0_1.length c0_1, .slice A0_2 l0_2.length c0_2]) (t := 48) ?hr ?_; (case hd => rfl); (case hg => rfl); (case hr => first | (go_simp; done) | (go_simp; rfl)); intro gb348 hg w16 hbox hb; replace HO0_1 := aM (Kd.V_below (Kd.V_elderB (vq HO0_1.out) gb348 (Nat.le_of_eq hg.symm)) hb); have BK348 := aM (hbox); have GW348 := aM ((by rw [hg]; exact (bZ bq) : w.heap.size ≤ gb348)); have GE348 := aM ((by rw [hg]; exact (bZ bq) : w.heap.size ≤ gb348)); replace HB := aM (bT bq hb); clear hb hbox hg) | ((with_reducible refine gate_dst (N := 4) rfl ?_); refine box_event ?hg (N := 4) ?hd (cs := #[.int .i64 0, .int .i64 0, .slice none 0 0, .slice none 0 0, .slice none 0 0]) (t := 50) ?hr ?_; (case hd => rfl); (case hg => rfl); (case hr => first | (go_simp; done) | (go_simp; rfl)); intro gb349 hg w17 hbox hb; replace HO0_1 := aM (Kd.V_below (Kd.V_elderB (vq HO0_1.out) gb349 (Nat.le_of_eq hg.symm)) hb); have BK349 := aM (hbox); have GW349 := aM ((by rw [hg]; exact (bZ bq) : w.heap.size ≤ gb349)); have GE349 := aM ((by rw [hg]; exact (bZ bq) : w.heap.size ≤ gb349)); replace HB := aM (bT bq hb); have NB348_349 := aM ((by rw [hg]; exact Nat.ne_of_lt (blk_lt (kq BK348.out)) : gb348 ≠ gb349)); have NB349_348 := aM ((by rw [hg]; exact Nat.ne_of_gt (blk_lt (kq BK348.out)) : gb349 ≠ gb348)); replace BK348 := aM (kB (kq BK348.out) hb); clear hb hbox hg))
    replace HO0_1 := aM (Kd.V_drew HO0_1.out)
    replace BK348 := aM (kD BK348.out)
    replace BK349 := aM (kD BK349.out)
    replace HB := aM (bD HB.out)
    refine start_ (n := 9) (S := fun w' => w'.cell? ⟨gb348, 0, none⟩ = some (.int .i64 a0_0) ∧ w'.cell? ⟨gb348, 1, none⟩ = some (.slice A0_1 l0_1.length c0_1) ∧ w'.cell? ⟨gb348, 2, none⟩ = some (.slice A0_2 l0_2.length c0_2)) (ds := []) #[N,N,N,N,N,N,N,N,N] kr rfl rfl ⟨cc, cc, cc⟩ (fun hHeld => ?_); refine with_tabW impl_FeedFrame.tab1 impl_FeedFrame.bits1 (fun HT_ HW_ => ?_)
    generalize w17.drew = w18 at HO0_1 BK348 BK349 HB hHeld ⊢
    refine pp HT_ (N := some 12) 2 #[N,N,Y,N,N,N,N,N,N] ?_
    refine pp HT_ (N := some 14) 4 #[N,N,Y,N,Y,N,N,N,N] ?_
    refine tt HT_ HW_ (N := some 10) 0 #[Y,N,Y,N,Y,N,N,N,N] hHeld ?_ (hy := by rintro w' ⟨s0, s1, s2⟩; go_simp; with_reducible rfl)
    refine tt HT_ HW_ (N := some 13) 3 #[Y,N,Y,Y,Y,N,N,N,N] hHeld ?_ (hy := by rintro w' ⟨s0, s1, s2⟩; go_simp; with_reducible rfl)
    refine oo HT_ (N := some 11) 1 #[Y,Y,Y,Y,Y,N,N,N,N] (fun K hK => ?_)
    refine goes_ Try.func43 kr rfl #[.agg #[.int .i64 a0_0, .slice A0_1 l0_1.length c0_1, .slice A0_2 l0_2.length c0_2]] (by rfl) rfl rfl mq ?_
    with_reducible refine (impl_LapFault.calls k a0_0 _ _ l0_1 _ _ l0_2 t350 _ ?side1 ?side2 ?side3 ?side4 A3.out).mono ?_
    (case side1 => exact cq (Kd.V_reads' HO0_1.out).2.2)
    (case side2 => exact (Kd.V_reads' HO0_1.out).2.1)
    (case side3 => exact cq (cB HR0_2.out HB.out))
    (case side4 => exact HC0_2.out)
    rintro e w19 ⟨rfl, hb⟩
    refine ⟨_, rfl, ?_⟩
    replace HO0_1 := aM (Kd.V_below (vq HO0_1.out) hb)
    replace BK348 := aM (kB (kq BK348.out) hb)
    replace BK349 := aM (kB (kq BK349.out) hb)
    replace HB := aM (bT bq hb)
    (try clear hb)
    (try clear hb2)
    (try clear hk)
    (try clear hi)
    refine hK.out _ _ ⟨cc, cc, cc⟩ (fun hHeld => ?_)
    clear hK K
    refine nn ?_
    refine oo HT_ (N := some 15) 5 #[Y,Y,Y,Y,Y,Y,N,N,N] (fun K hK => ?_)
    refine goes_ Try.func76 kr rfl #[.int .i64 a0_0, .slice A1 l1.length c1] (by rfl) rfl rfl mq ?_
    with_reducible refine (impl_SamplesFault.calls k a0_0 _ _ l1 t351 _ ?side1 ?side2 A4.out).mono ?_
    (case side1 => exact cq (cB HR1.out HB.out))
    (case side2 => exact HC1.out)
    rintro e w20 ⟨rfl, hb⟩
    refine ⟨_, rfl, ?_⟩
    replace HO0_1 := aM (Kd.V_below (vq HO0_1.out) hb)
    replace BK348 := aM (kB (kq BK348.out) hb)
    replace BK349 := aM (kB (kq BK349.out) hb)
    replace HB := aM (bT bq hb)
    (try clear hb)
    (try clear hb2)
    (try clear hk)
    (try clear hi)
    refine hK.out _ _ ⟨cc, cc, cc⟩ (fun hHeld => ?_)
    clear hK K
    refine nn ?_
    refine oo HT_ (N := some 16) 6 #[Y,Y,Y,Y,Y,Y,Y,N,N] (fun K hK => ?_)
    refine Kd.R_lit_step (Kd.int .i64) _ 2 ?hg (N := 16) ?hd (xs := ([t350, t351] : List Int)) (inner := [.int .i64 t350, .int .i64 t351]) (ok := fun _ => True) (okp := fun _ => True) ?hr ?hp (fun _ hk => hk) trivial (Below.refl _ _) (Nat.le_refl _) (by simp) ?_; (case hd => rfl); (case hg => rfl); (case hr => first | (go_simp; done) | (go_simp; rfl)); (case hp => exact (Reps.one (show Kd.M (Kd.int .i64) _ _ _ t350 [.int .i64 t350] from rfl) (Reps.one (show Kd.M (Kd.int .i64) _ _ _ t351 [.int .i64 t351] from rfl) (Reps.none _ _))))
    intro v353 w21 ho22 hb hg_ hnew_
    clear hg_ hnew_
    (first | rw [← Ny352.out] at ho22 | (simp only [Int.reduceToNat] at ho22; rw [← Ny352.out] at ho22))
    replace HO0_1 := aM (Kd.V_elder' (vq HO0_1.out) (rB ho22) hb)
    have HO354 := aM (rG (Kd.R_newM (M := fun k_ => (w.heap.size ≤ k_)) ho22 (bZ bq) (fun k_ h_ => h_)) (bZ bq))
    replace BK348 := aM (kB (kq BK348.out) hb)
    replace BK349 := aM (kB (kq BK349.out) hb)
    replace HB := aM (bT bq hb)
    clear hb ho22
    obtain ⟨Ao23, co23, eo23⟩ := Kd.R_slice HO354.out
    (first | subst eo23 | (injection eo23 with f1_ f2_ f3_; have f4_ := f1_.symm; have f5_ := f3_.symm; clear f1_ f2_ f3_; subst f4_; subst f5_))
    refine hK.out _ _ ⟨cc, cc, cc⟩ (fun hHeld => ?_)
    clear hK K
    refine nn ?_
    refine oo HT_ (N := some 17) 7 #[Y,Y,Y,Y,Y,Y,Y,Y,N] (fun K hK => ?_)
    refine goes_ Try.func54 kr rfl #[.slice Ao23 y352.length co23] (by rfl) rfl rfl mq ?_
    with_reducible refine (impl_first.calls k _ _ y352 t355 _ ?side1 ?side2 A5.out).mono ?_
    (case side1 => exact cq (rR HO354.out).2.2)
    (case side2 => exact (rR HO354.out).2.1)
    rintro e w24 ⟨rfl, hdr_⟩; have hb := Drawn0.below hdr_
    refine ⟨_, rfl, ?_⟩
    replace HO0_1 := aM (Kd.V_below (vq HO0_1.out) hb)
    replace HO354 := aM (rL (rq HO354.out) hb)
    replace BK348 := aM (kB (kq BK348.out) hb)
    replace BK349 := aM (kB (kq BK349.out) hb)
    replace HB := aM (bT bq hb)
    (try clear hb)
    (try clear hb2)
    (try clear hk)
    (try clear hi)
    refine hK.out _ _ ⟨cc, cc, cc⟩ (fun hHeld => ?_)
    clear hK K
    refine nn ?_
    refine pp HT_ (N := some 5) 8 #[Y,Y,Y,Y,Y,Y,Y,Y,Y] ?_
    refine done_ (done_of HT_.out kr) ?_
    have hnb25 := NB348_349.out
    have hnc25 := NB349_348.out
    have hcz26_0 : w24.cell? ⟨gb348, 0, none⟩ = some (.int .i64 a0_0) := cc
    have hcz26_1 : w24.cell? ⟨gb348, 1, none⟩ = some (.slice A0_1 l0_1.length c0_1) := cc
    have hcz26_2 : w24.cell? ⟨gb348, 2, none⟩ = some (.slice A0_2 l0_2.length c0_2) := cc
    have hfz26_0 := kF BK348.out 0
    have hfz26_1 := kF BK348.out 1
    have hfz26_2 := kF BK348.out 2
    try go_wp2
    replace HO0_1 := aM (Kd.V_drew HO0_1.out)
    replace HO354 := aM (rD HO354.out)
    replace BK348 := aM (kD BK348.out)
    replace BK349 := aM (kD BK349.out)
    replace HB := aM (bD HB.out)
    obtain ⟨i028, hi028, _, hsz28, _⟩ := info_parts info2
    obtain ⟨hcut28, hA28, hC28⟩ := print_take_of (P := Try.prog) (Value.int .i64) 0 22 2 .i64 Try.underlying22 hi028 hsz28 A1 c1 l1 (ji7) (of_decide_eq_true (by first | (with_reducible assumption) | assumption)) (of_decide_eq_true (by first | (with_reducible assumption) | assumption)) HC1.out
    have HR356 := aM (Kd.C_of_reads (h1 := fun _ => rfl) (hA28 _ (Kd.reads_of_C HR1.out)))
    have HC356 := aM hC28
    clear hA28 hC28 hi028 hsz28
    refine start_ (n := 12) (S := fun w' => w'.cell? ⟨gb348, 0, none⟩ = some (.int .i64 a0_0) ∧ w'.cell? ⟨gb348, 1, none⟩ = some (.slice A0_1 l0_1.length c0_1) ∧ w'.cell? ⟨gb348, 2, none⟩ = some (.slice A0_2 l0_2.length c0_2)) (ds := []) #[N,N,N,N,N,N,N,N,N,N,N,N] kr rfl rfl ⟨cc, cc, cc⟩ (fun hHeld => ?_); refine with_tabW impl_FeedFrame.tab5 impl_FeedFrame.bits5 (fun HT_ HW_ => ?_)
    generalize w24.drew = w27 at HO0_1 HO354 BK348 BK349 HB HR356 hHeld ⊢
    refine pp HT_ (N := some 26) 0 #[Y,N,N,N,N,N,N,N,N,N,N,N] ?_
    refine pp HT_ (N := some 28) 2 #[Y,N,Y,N,N,N,N,N,N,N,N,N] ?_
    refine pp HT_ (N := some 29) 3 #[Y,N,Y,Y,N,N,N,N,N,N,N,N] ?_
    refine pp HT_ (N := some 30) 4 #[Y,N,Y,Y,Y,N,N,N,N,N,N,N] ?_
    refine pp HT_ (N := some 31) 5 #[Y,N,Y,Y,Y,Y,N,N,N,N,N,N] ?_
    refine tt HT_ HW_ (N := some 27) 1 #[Y,Y,Y,Y,Y,Y,N,N,N,N,N,N] hHeld ?_ (hy := by rintro w' ⟨s0, s1, s2⟩; go_simp; with_reducible rfl)
    refine oo HT_ (N := some 32) 6 #[Y,Y,Y,Y,Y,Y,Y,N,N,N,N,N] (fun K hK => ?_)
    refine goes_ Try.func61 kr rfl #[.slice A0_2 l0_2.length c0_2, .slice A1 (l1.take ((ji7) : Int).toNat).length c1, .func (.func 77) #[] #[.pointer (some ⟨gb348, 0, none⟩)]] (by rfl) rfl rfl (by (try simp only [List.map_toArray, List.map_cons, List.map_nil]); first | done | (rw [show (l1.take ((ji7) : Int).toNat).length = (ji7).toNat from (by rw [List.length_take]; have h_ : ((ji7) : Int) ≤ (l1.length : Int) := of_decide_eq_true (by first | (with_reducible assumption) | assumption); omega)] <;> rfl) | (simp only [hji7]; rfl) | rfl | (simp only [List.length_drop, List.length_take]; rfl)) ?_
    with_reducible refine (impl_seam.calls k _ _ l0_2 _ _ (l1.take ((ji7) : Int).toNat) _ _ (impl_FeedFrame_1.f a0_0) t357 t358 _ ?side1 ?side2 ?side3 ?side4 ?side5 A10.out).mono ?_
    (case side1 => exact cq (cB HR0_2.out HB.out))
    (case side2 => exact HC0_2.out)
    (case side3 => exact cq (cB HR356.out HB.out))
    (case side4 => exact HC356.out)
    (case side5 => exact (ok3_FeedFrame_1 gb348 _ _ ((kC (kq BK348.out) 0).trans rfl)))
    rintro e w29 ⟨v359, v361, rfl, ho0, ho1, hb⟩
    refine ⟨_, rfl, ?_⟩
    replace HO0_1 := aM (Kd.V_mono (Kd.V_told (Kd.V_told (Kd.V_old (vq HO0_1.out) hb) (rB ho0)) (rB ho1)) (fun _ h_ => h_.1))
    have HO360 := aM (rG (rW (Kd.R_newM (M := fun k_ => (w.heap.size ≤ k_)) ho0 (bZ bq) (fun k_ h_ => h_)) (rT (rq HO354.out))) (bZ bq))
    have HO362 := aM (rG (rW (Kd.R_newM (M := fun k_ => (w.heap.size ≤ k_)) ho1 (bZ bq) (fun k_ h_ => h_)) (rT (rq HO354.out))) (bZ bq))
    replace HO354 := aM (rM (rO (rO (rE (rq HO354.out) hb) (rB ho0)) (rB ho1)) (fun _ h_ => h_.1))
    replace BK348 := aM (kB (kq BK348.out) hb)
    replace BK349 := aM (kB (kq BK349.out) hb)
    replace HB := aM (bT bq hb)
    (try clear hb)
    (try clear hb2)
    (try clear hk)
    (try clear hi)
    (try clear ho0)
    (try clear ho1)
    refine hK.out _ _ ⟨cc, cc, cc⟩ (fun hHeld => ?_)
    clear hK K
    refine nn ?_
    refine pp HT_ (N := some 25) 7 #[Y,Y,Y,Y,Y,Y,Y,Y,N,N,N,N] ?_
    refine pp HT_ (N := some 33) 8 #[Y,Y,Y,Y,Y,Y,Y,Y,Y,N,N,N] ?_
    refine pp HT_ (N := some 34) 9 #[Y,Y,Y,Y,Y,Y,Y,Y,Y,Y,N,N] ?_
    refine pp HT_ (N := some 7) 10 #[Y,Y,Y,Y,Y,Y,Y,Y,Y,Y,Y,N] ?_
    refine pp HT_ (N := some 8) 11 #[Y,Y,Y,Y,Y,Y,Y,Y,Y,Y,Y,Y] ?_
    refine done_ (done_of HT_.out kr) ?_
    have hcz30_0 : w29.cell? ⟨gb348, 0, none⟩ = some (.int .i64 a0_0) := cc
    have hcz30_1 : w29.cell? ⟨gb348, 1, none⟩ = some (.slice A0_1 l0_1.length c0_1) := cc
    have hcz30_2 : w29.cell? ⟨gb348, 2, none⟩ = some (.slice A0_2 l0_2.length c0_2) := cc
    have hfz30_0 := kF BK348.out 0
    have hfz30_1 := kF BK348.out 1
    have hfz30_2 := kF BK348.out 2
    obtain ⟨Ao31, co31, eo31⟩ := Kd.R_slice HO360.out
    subst eo31
    try go_wp2_with (first | ((with_reducible refine gate_dst (N := 38) rfl ?_); refine Kd.N_lit (Kd.slice 2 (Kd.int .i64)) _ 22 ?hg (N' := 38) ?hd (xs := ([l0_1, t357] : List (List Int))) (inner := [.slice A0_1 l0_1.length c0_1, .slice Ao31 t357.length co31]) (ok := (fun k_ => (P0_1_ k_ ∨ w.heap.size ≤ k_) ∧ nS Ao23 y352 co23 k_ ∧ nb v361 k_ ∧ k_ ≠ gb348 ∧ k_ ≠ gb349)) (okp := (fun k_ => (P0_1_ k_ ∨ w.heap.size ≤ k_) ∧ nS Ao23 y352 co23 k_ ∧ nb v361 k_ ∧ k_ ≠ gb348 ∧ k_ ≠ gb349)) ?hr ?hp (fun _ hk => hk) ((show ∀ k_, w29.heap.size ≤ k_ → (fun k_ => (P0_1_ k_ ∨ w.heap.size ≤ k_) ∧ nS Ao23 y352 co23 k_ ∧ nb v361 k_ ∧ k_ ≠ gb348 ∧ k_ ≠ gb349) k_ from fun k_ hk => ⟨(.inr (Nat.le_trans (bZ bq) hk)), Kd.fresh' (rT (rq HO354.out)) k_ hk, Kd.fresh' (rT (rq HO362.out)) k_ hk, Kd.freshB (kq BK348.out) k_ hk, Kd.freshB (kq BK349.out) k_ hk⟩) _ (Nat.le_refl _)) (Below.refl _ _) (Nat.le_refl _) (by simp) ?_; (case hd => rfl); (case hg => rfl); (case hr => first | (go_simp; done) | (go_simp; rfl)); (case hp => exact (Reps.one (show Kd.FK (Kd.slice 2 (Kd.int .i64)) _ _ l0_1 [.slice A0_1 l0_1.length c0_1] from (Kd.FK_slice_mk (Kd.V_reads' (Kd.V_mono (ok' := (fun k_ => (P0_1_ k_ ∨ w.heap.size ≤ k_) ∧ nS Ao23 y352 co23 k_ ∧ nb v361 k_ ∧ k_ ≠ gb348 ∧ k_ ≠ gb349)) (HO0_1.out) jq)).2.1 (Kd.V_F (Kd.V_mono (ok' := (fun k_ => (P0_1_ k_ ∨ w.heap.size ≤ k_) ∧ nS Ao23 y352 co23 k_ ∧ nb v361 k_ ∧ k_ ≠ gb348 ∧ k_ ≠ gb349)) (HO0_1.out) jq)))) (Reps.one (show Kd.FK (Kd.slice 2 (Kd.int .i64)) _ _ t357 [.slice Ao31 t357.length co31] from (Kd.FK_slice_mk (rR (rM (ok' := (fun k_ => (P0_1_ k_ ∨ w.heap.size ≤ k_) ∧ nS Ao23 y352 co23 k_ ∧ nb v361 k_ ∧ k_ ≠ gb348 ∧ k_ ≠ gb349)) (Kd.R_types (Kd.R_types (HO360.out) BK348.out (by decide)) BK349.out (by decide)) (fun k_ hk => ⟨(.inr (hk.1.1.1.1)), ⟨hk.1.1.2, ⟨hk.1.1.1.2, ⟨hk.1.2, hk.2⟩⟩⟩⟩))).2.1 (Kd.R_F (rM (ok' := (fun k_ => (P0_1_ k_ ∨ w.heap.size ≤ k_) ∧ nS Ao23 y352 co23 k_ ∧ nb v361 k_ ∧ k_ ≠ gb348 ∧ k_ ≠ gb349)) (Kd.R_types (Kd.R_types (HO360.out) BK348.out (by decide)) BK349.out (by decide)) (fun k_ hk => ⟨(.inr (hk.1.1.1.1)), ⟨hk.1.1.2, ⟨hk.1.1.1.2, ⟨hk.1.2, hk.2⟩⟩⟩⟩))))) (Reps.none _ _)))); intro v364 w32 ho33 hb hg_ hnew_; clear hg_ hnew_; (first | rw [← Ny363.out] at ho33 | (simp only [Int.reduceToNat] at ho33; rw [← Ny363.out] at ho33)); replace HO0_1 := aM (Kd.V_elder' (vq HO0_1.out) (Kd.N_base ho33) hb); replace HO354 := aM (rL (rq HO354.out) hb); replace HO362 := aM (rL (rq HO362.out) hb); have HO365 := aM (Kd.N_lower ho33 (bZ bq)); replace BK348 := aM (kB (kq BK348.out) hb); replace BK349 := aM (kB (kq BK349.out) hb); replace HB := aM (bT bq hb); clear HO360 hb ho33; obtain ⟨Ao34, co34, eo34⟩ := Kd.N_slice HO365.out; subst eo34) | ((with_reducible refine gate_callee (f := 62) rfl ?_); refine goesL_ (some 39) rfl rfl Try.func62 kr rfl #[.slice Ao34 y363.length co34] rfl mq ?_; (with_reducible refine (slices_Concat_int64_int64.calls k _ _ y363 t366 _ ?side1 ?side2 A11.out).mono ?_); (case side1 => exact cq (Kd.N_reads' HO365.out).2.2); (case side2 => exact (Kd.N_reads' HO365.out).2.1); rintro e w35 ⟨v367, rfl, ho0, hb⟩; refine ⟨_, rfl, ?_⟩; replace HO0_1 := aM (Kd.V_elder' (vq HO0_1.out) (rB ho0) hb); replace HO365 := aM (Kd.N_elder' (nq HO365.out) (rB ho0) hb); have HO368 := aM (rG (rW (rW (Kd.R_newM (M := fun k_ => (w.heap.size ≤ k_)) ho0 (bZ bq) (fun k_ h_ => h_)) (rT (rq HO354.out))) (rT (rq HO362.out))) (bZ bq)); replace HO354 := aM (rH (rq HO354.out) (rB ho0) hb); replace HO362 := aM (rH (rq HO362.out) (rB ho0) hb); replace BK348 := aM (kB (kq BK348.out) hb); replace BK349 := aM (kB (kq BK349.out) hb); replace HB := aM (bT bq hb); (try clear hb); (try clear ho0); obtain ⟨Ao36, co36, eo36⟩ := Kd.R_slice HO368.out; subst eo36) | ((with_reducible refine gate_callee (f := 80) rfl ?_); refine goesL_ (some 40) rfl rfl Try.func80 kr rfl #[.slice Ao36 t366.length co36] rfl mq ?_; (with_reducible refine (impl_spread.calls k _ _ t366 t369 _ ?side1 ?side2 A12.out).mono ?_); (case side1 => exact cq (rR HO368.out).2.2); (case side2 => exact (rR HO368.out).2.1); rintro e w37 ⟨v370, rfl, ho0, hb⟩; refine ⟨_, rfl, ?_⟩; replace HO0_1 := aM (Kd.V_elder' (vq HO0_1.out) (rB ho0) hb); replace HO365 := aM (Kd.N_elder' (nq HO365.out) (rB ho0) hb); have HO371 := aM (rG (rW (rW (rW (Kd.R_newM (M := fun k_ => (w.heap.size ≤ k_)) ho0 (bZ bq) (fun k_ h_ => h_)) (rT (rq HO354.out))) (rT (rq HO362.out))) (rT (rq HO368.out))) (bZ bq)); replace HO354 := aM (rH (rq HO354.out) (rB ho0) hb); replace HO362 := aM (rH (rq HO362.out) (rB ho0) hb); replace HO368 := aM (rH (rq HO368.out) (rB ho0) hb); replace BK348 := aM (kB (kq BK348.out) hb); replace BK349 := aM (kB (kq BK349.out) hb); replace HB := aM (bT bq hb); (try clear hb); (try clear ho0)))
    replace HO0_1 := aM (Kd.V_drew HO0_1.out)
    replace HO354 := aM (rD HO354.out)
    replace HO362 := aM (rD HO362.out)
    replace HO365 := aM (Kd.N_drew HO365.out)
    replace HO368 := aM (rD HO368.out)
    replace HO371 := aM (rD HO371.out)
    replace BK348 := aM (kD BK348.out)
    replace BK349 := aM (kD BK349.out)
    replace HB := aM (bD HB.out)
    obtain ⟨i039, hi039, _, hsz39, _⟩ := info_parts info2
    obtain ⟨A39, hcut39, hA39, hC39⟩ := print_drop_of (P := Try.prog) (Value.int .i64) 0 22 2 .i64 Try.underlying22 hi039 hsz39 A1 c1 l1 (ji7) (of_decide_eq_true (by first | (with_reducible assumption) | assumption)) (of_decide_eq_true (by first | (with_reducible assumption) | assumption)) HC1.out
    have HR372 := aM (Kd.C_of_reads (h1 := fun _ => rfl) (hA39 _ (Kd.reads_of_C HR1.out)))
    have HC372 := aM hC39
    clear hA39 hC39 hi039 hsz39
    refine start_ (n := 11) (S := fun w' => w'.cell? ⟨gb348, 0, none⟩ = some (.int .i64 a0_0) ∧ w'.cell? ⟨gb348, 1, none⟩ = some (.slice A0_1 l0_1.length c0_1) ∧ w'.cell? ⟨gb348, 2, none⟩ = some (.slice A0_2 l0_2.length c0_2)) (ds := []) #[N,N,N,N,N,N,N,N,N,N,N] kr rfl rfl ⟨cc, cc, cc⟩ (fun hHeld => ?_); refine with_tabW impl_FeedFrame.tab7 impl_FeedFrame.bits7 (fun HT_ HW_ => ?_)
    generalize w37.drew = w38 at HO0_1 HO354 HO362 HO365 HO368 HO371 BK348 BK349 HB HR372 hHeld ⊢
    refine pp HT_ (N := some 41) 0 #[Y,N,N,N,N,N,N,N,N,N,N] ?_
    refine pp HT_ (N := some 43) 2 #[Y,N,Y,N,N,N,N,N,N,N,N] ?_
    refine pp HT_ (N := some 44) 3 #[Y,N,Y,Y,N,N,N,N,N,N,N] ?_
    refine pp HT_ (N := some 45) 4 #[Y,N,Y,Y,Y,N,N,N,N,N,N] ?_
    refine pp HT_ (N := some 46) 5 #[Y,N,Y,Y,Y,Y,N,N,N,N,N] ?_
    refine pp HT_ (N := some 49) 8 #[Y,N,Y,Y,Y,Y,N,N,Y,N,N] ?_
    refine tt HT_ HW_ (N := some 42) 1 #[Y,Y,Y,Y,Y,Y,N,N,Y,N,N] hHeld ?_ (hy := by rintro w' ⟨s0, s1, s2⟩; go_simp; with_reducible rfl)
    refine oo HT_ (N := some 47) 6 #[Y,Y,Y,Y,Y,Y,Y,N,Y,N,N] (fun K hK => ?_)
    refine goes_ Try.func71 kr rfl #[.slice A39 (l1.drop ((ji7) : Int).toNat).length (c1 - (ji7).toNat)] (by rfl) rfl rfl (by (try simp only [List.map_toArray, List.map_cons, List.map_nil]); first | done | (rw [show (l1.drop ((ji7) : Int).toNat).length = (l1.length - (ji7).toNat) from List.length_drop] <;> rfl) | (simp only [hji7]; rfl) | rfl | (simp only [List.length_drop, List.length_take]; rfl)) ?_
    with_reducible refine (slices_Clone_int64_int64.calls _ _ (l1.drop ((ji7) : Int).toNat) t373 _ ?side1 ?side2 A15.out).mono ?_
    (case side1 => exact cq (cB HR372.out HB.out))
    (case side2 => exact HC372.out)
    rintro e w40 ⟨v374, rfl, ho0, hb⟩
    refine ⟨_, rfl, ?_⟩
    replace HO0_1 := aM (Kd.V_elder' (vq HO0_1.out) (rB ho0) hb)
    replace HO365 := aM (Kd.N_elder' (nq HO365.out) (rB ho0) hb)
    have HO375 := aM (rG (rW (rW (rW (rW (Kd.R_newM (M := fun k_ => (w.heap.size ≤ k_)) ho0 (bZ bq) (fun k_ h_ => h_)) (rT (rq HO354.out))) (rT (rq HO362.out))) (rT (rq HO368.out))) (rT (rq HO371.out))) (bZ bq))
    replace HO354 := aM (rH (rq HO354.out) (rB ho0) hb)
    replace HO362 := aM (rH (rq HO362.out) (rB ho0) hb)
    replace HO368 := aM (rH (rq HO368.out) (rB ho0) hb)
    replace HO371 := aM (rH (rq HO371.out) (rB ho0) hb)
    replace BK348 := aM (kB (kq BK348.out) hb)
    replace BK349 := aM (kB (kq BK349.out) hb)
    replace HB := aM (bT bq hb)
    (try clear hb)
    (try clear hb2)
    (try clear hk)
    (try clear hi)
    (try clear ho0)
    obtain ⟨Ao41, co41, eo41⟩ := Kd.R_slice HO375.out
    (first | subst eo41 | (injection eo41 with f1_ f2_ f3_; have f4_ := f1_.symm; have f5_ := f3_.symm; clear f1_ f2_ f3_; subst f4_; subst f5_))
    obtain ⟨Ao42, co42, eo42⟩ := Kd.R_slice HO362.out
    (first | subst eo42 | (injection eo42 with f1_ f2_ f3_; have f4_ := f1_.symm; have f5_ := f3_.symm; clear f1_ f2_ f3_; subst f4_; subst f5_))
    obtain ⟨Ao43, co43, eo43⟩ := Kd.R_slice HO371.out
    (first | subst eo43 | (injection eo43 with f1_ f2_ f3_; have f4_ := f1_.symm; have f5_ := f3_.symm; clear f1_ f2_ f3_; subst f4_; subst f5_))
    refine hK.out _ _ ⟨cc, cc, cc⟩ (fun hHeld => ?_)
    clear hK K
    refine nn ?_
    refine pp HT_ (N := some 48) 7 #[Y,Y,Y,Y,Y,Y,Y,Y,Y,N,N] ?_
    refine pp HT_ (N := some 50) 9 #[Y,Y,Y,Y,Y,Y,Y,Y,Y,Y,N] ?_
    refine oo HT_ (N := none) 10 #[Y,Y,Y,Y,Y,Y,Y,Y,Y,Y,Y] (fun K hK => ?_)
    have hs44 : w40.cell? ⟨gb349, 0, none⟩ = some (.int .i64 0) := cc
    have hfs44 := kF BK349.out 0
    have hns44_0 := NB348_349.out
    have hms44_0 := NB349_348.out
    have hs45 : w40.cell? ⟨gb349, 1, none⟩ = some (.int .i64 0) := cc
    have hfs45 := kF BK349.out 1
    have hns45_0 := NB348_349.out
    have hms45_0 := NB349_348.out
    have hs46 : w40.cell? ⟨gb349, 2, none⟩ = some (.slice none 0 0) := cc
    have hfs46 := kF BK349.out 2
    have hns46_0 := NB348_349.out
    have hms46_0 := NB349_348.out
    have hs47 : w40.cell? ⟨gb349, 3, none⟩ = some (.slice none 0 0) := cc
    have hfs47 := kF BK349.out 3
    have hns47_0 := NB348_349.out
    have hms47_0 := NB349_348.out
    have hs48 : w40.cell? ⟨gb349, 4, none⟩ = some (.slice none 0 0) := cc
    have hfs48 := kF BK349.out 4
    have hns48_0 := NB348_349.out
    have hms48_0 := NB349_348.out
    refine skip_ (w1 := ?_) (by rfl) rfl ?_ ?_
    rotate_left
    ·go_simp
     rfl
    refine hK.out _ _ ⟨(lf hHeld.1), (lf hHeld.2.1), (lf hHeld.2.2)⟩ (fun hHeld => ?_)
    clear hK K
    refine done_ (done_of HT_.out kr) ?_
    try go_wp2
    refine bodyPost_ret (results_cell_row rfl _ _ gb349 50 #[.int .i64 0, .int .i64 a0_0, .slice Ao42 t358.length co42, .slice Ao41 t373.length co41, .slice Ao43 t369.length co43] (0, 0) _ rfl (fq BK349.out) Try.underlying50 rfl kr) rfl ?_
    exact ⟨_, _, _, by first | rfl | (simp [errW_none, errW_some] <;> rfl) | (simp only [← hji7]; first | rfl | (simp [errW_none, errW_some] <;> rfl)) | (simp [*, errW_none, errW_some] <;> rfl), rM (rf (Kd.R_types HO362.out BK349.out (by decide))) (fun _ hk => ⟨hk.1.1.1.1.1.1, ⟨hk.1.2, hk.1.1.2⟩⟩), rM (rf (Kd.R_types HO375.out BK349.out (by decide))) (fun _ hk => ⟨hk.1.1.1.1.1.1, ⟨hk.1.1.1.2, hk.1.2⟩⟩), rM (rf (Kd.R_types HO371.out BK349.out (by decide))) (fun _ hk => ⟨hk.1.1.1.1.1.1, ⟨hk.1.1.1.2, hk.1.2⟩⟩), bq⟩
   ·rw [if_neg c9] at H
    exact absurd H (by simp)
  ·rw [if_neg c8] at H
   exact absurd H (by simp)
 ·rw [if_neg c6] at H
  have c6b0 : (t355 == 0) = false := beq_eq_false_iff_ne.mpr c6
  have c6b1 : (t355 != 0) = true := bne_iff_ne.mpr c6
  simp only [Option.some.injEq, Prod.mk.injEq] at H
  obtain ⟨rfl, rfl, rfl, rfl, rfl⟩ := H
  go_enter Try.func29, Try.ntmps29
  try go_wp2_with (first | ((with_reducible refine gate_dst (N := 2) rfl ?_); refine box_event ?hg (N := 2) ?hd (cs := #[.int .i64 a0_0, .slice A0_1 l0_1.length c0_1, .slice A0_2 l0_2.length c0_2]) (t := 48) ?hr ?_; (case hd => rfl); (case hg => rfl); (case hr => first | (go_simp; done) | (go_simp; rfl)); intro gb348 hg w49 hbox hb; replace HO0_1 := aM (Kd.V_below (Kd.V_elderB (vq HO0_1.out) gb348 (Nat.le_of_eq hg.symm)) hb); have BK348 := aM (hbox); have GW348 := aM ((by rw [hg]; exact (bZ bq) : w.heap.size ≤ gb348)); have GE348 := aM ((by rw [hg]; exact (bZ bq) : w.heap.size ≤ gb348)); replace HB := aM (bT bq hb); clear hb hbox hg) | ((with_reducible refine gate_dst (N := 4) rfl ?_); refine box_event ?hg (N := 4) ?hd (cs := #[.int .i64 0, .int .i64 0, .slice none 0 0, .slice none 0 0, .slice none 0 0]) (t := 50) ?hr ?_; (case hd => rfl); (case hg => rfl); (case hr => first | (go_simp; done) | (go_simp; rfl)); intro gb349 hg w50 hbox hb; replace HO0_1 := aM (Kd.V_below (Kd.V_elderB (vq HO0_1.out) gb349 (Nat.le_of_eq hg.symm)) hb); have BK349 := aM (hbox); have GW349 := aM ((by rw [hg]; exact (bZ bq) : w.heap.size ≤ gb349)); have GE349 := aM ((by rw [hg]; exact (bZ bq) : w.heap.size ≤ gb349)); replace HB := aM (bT bq hb); have NB348_349 := aM ((by rw [hg]; exact Nat.ne_of_lt (blk_lt (kq BK348.out)) : gb348 ≠ gb349)); have NB349_348 := aM ((by rw [hg]; exact Nat.ne_of_gt (blk_lt (kq BK348.out)) : gb349 ≠ gb348)); replace BK348 := aM (kB (kq BK348.out) hb); clear hb hbox hg))
  replace HO0_1 := aM (Kd.V_drew HO0_1.out)
  replace BK348 := aM (kD BK348.out)
  replace BK349 := aM (kD BK349.out)
  replace HB := aM (bD HB.out)
  refine start_ (n := 9) (S := fun w' => w'.cell? ⟨gb348, 0, none⟩ = some (.int .i64 a0_0) ∧ w'.cell? ⟨gb348, 1, none⟩ = some (.slice A0_1 l0_1.length c0_1) ∧ w'.cell? ⟨gb348, 2, none⟩ = some (.slice A0_2 l0_2.length c0_2)) (ds := []) #[N,N,N,N,N,N,N,N,N] kr rfl rfl ⟨cc, cc, cc⟩ (fun hHeld => ?_); refine with_tabW impl_FeedFrame.tab1 impl_FeedFrame.bits1 (fun HT_ HW_ => ?_)
  generalize w50.drew = w51 at HO0_1 BK348 BK349 HB hHeld ⊢
  refine pp HT_ (N := some 12) 2 #[N,N,Y,N,N,N,N,N,N] ?_
  refine pp HT_ (N := some 14) 4 #[N,N,Y,N,Y,N,N,N,N] ?_
  refine tt HT_ HW_ (N := some 10) 0 #[Y,N,Y,N,Y,N,N,N,N] hHeld ?_ (hy := by rintro w' ⟨s0, s1, s2⟩; go_simp; with_reducible rfl)
  refine tt HT_ HW_ (N := some 13) 3 #[Y,N,Y,Y,Y,N,N,N,N] hHeld ?_ (hy := by rintro w' ⟨s0, s1, s2⟩; go_simp; with_reducible rfl)
  refine oo HT_ (N := some 11) 1 #[Y,Y,Y,Y,Y,N,N,N,N] (fun K hK => ?_)
  refine goes_ Try.func43 kr rfl #[.agg #[.int .i64 a0_0, .slice A0_1 l0_1.length c0_1, .slice A0_2 l0_2.length c0_2]] (by rfl) rfl rfl mq ?_
  with_reducible refine (impl_LapFault.calls k a0_0 _ _ l0_1 _ _ l0_2 t350 _ ?side1 ?side2 ?side3 ?side4 A3.out).mono ?_
  (case side1 => exact cq (Kd.V_reads' HO0_1.out).2.2)
  (case side2 => exact (Kd.V_reads' HO0_1.out).2.1)
  (case side3 => exact cq (cB HR0_2.out HB.out))
  (case side4 => exact HC0_2.out)
  rintro e w52 ⟨rfl, hb⟩
  refine ⟨_, rfl, ?_⟩
  replace HO0_1 := aM (Kd.V_below (vq HO0_1.out) hb)
  replace BK348 := aM (kB (kq BK348.out) hb)
  replace BK349 := aM (kB (kq BK349.out) hb)
  replace HB := aM (bT bq hb)
  (try clear hb)
  (try clear hb2)
  (try clear hk)
  (try clear hi)
  refine hK.out _ _ ⟨cc, cc, cc⟩ (fun hHeld => ?_)
  clear hK K
  refine nn ?_
  refine oo HT_ (N := some 15) 5 #[Y,Y,Y,Y,Y,Y,N,N,N] (fun K hK => ?_)
  refine goes_ Try.func76 kr rfl #[.int .i64 a0_0, .slice A1 l1.length c1] (by rfl) rfl rfl mq ?_
  with_reducible refine (impl_SamplesFault.calls k a0_0 _ _ l1 t351 _ ?side1 ?side2 A4.out).mono ?_
  (case side1 => exact cq (cB HR1.out HB.out))
  (case side2 => exact HC1.out)
  rintro e w53 ⟨rfl, hb⟩
  refine ⟨_, rfl, ?_⟩
  replace HO0_1 := aM (Kd.V_below (vq HO0_1.out) hb)
  replace BK348 := aM (kB (kq BK348.out) hb)
  replace BK349 := aM (kB (kq BK349.out) hb)
  replace HB := aM (bT bq hb)
  (try clear hb)
  (try clear hb2)
  (try clear hk)
  (try clear hi)
  refine hK.out _ _ ⟨cc, cc, cc⟩ (fun hHeld => ?_)
  clear hK K
  refine nn ?_
  refine oo HT_ (N := some 16) 6 #[Y,Y,Y,Y,Y,Y,Y,N,N] (fun K hK => ?_)
  refine Kd.R_lit_step (Kd.int .i64) _ 2 ?hg (N := 16) ?hd (xs := ([t350, t351] : List Int)) (inner := [.int .i64 t350, .int .i64 t351]) (ok := fun _ => True) (okp := fun _ => True) ?hr ?hp (fun _ hk => hk) trivial (Below.refl _ _) (Nat.le_refl _) (by simp) ?_; (case hd => rfl); (case hg => rfl); (case hr => first | (go_simp; done) | (go_simp; rfl)); (case hp => exact (Reps.one (show Kd.M (Kd.int .i64) _ _ _ t350 [.int .i64 t350] from rfl) (Reps.one (show Kd.M (Kd.int .i64) _ _ _ t351 [.int .i64 t351] from rfl) (Reps.none _ _))))
  intro v353 w54 ho55 hb hg_ hnew_
  clear hg_ hnew_
  (first | rw [← Ny352.out] at ho55 | (simp only [Int.reduceToNat] at ho55; rw [← Ny352.out] at ho55))
  replace HO0_1 := aM (Kd.V_elder' (vq HO0_1.out) (rB ho55) hb)
  have HO354 := aM (rG (Kd.R_newM (M := fun k_ => (w.heap.size ≤ k_)) ho55 (bZ bq) (fun k_ h_ => h_)) (bZ bq))
  replace BK348 := aM (kB (kq BK348.out) hb)
  replace BK349 := aM (kB (kq BK349.out) hb)
  replace HB := aM (bT bq hb)
  clear hb ho55
  obtain ⟨Ao56, co56, eo56⟩ := Kd.R_slice HO354.out
  (first | subst eo56 | (injection eo56 with f1_ f2_ f3_; have f4_ := f1_.symm; have f5_ := f3_.symm; clear f1_ f2_ f3_; subst f4_; subst f5_))
  refine hK.out _ _ ⟨cc, cc, cc⟩ (fun hHeld => ?_)
  clear hK K
  refine nn ?_
  refine oo HT_ (N := some 17) 7 #[Y,Y,Y,Y,Y,Y,Y,Y,N] (fun K hK => ?_)
  refine goes_ Try.func54 kr rfl #[.slice Ao56 y352.length co56] (by rfl) rfl rfl mq ?_
  with_reducible refine (impl_first.calls k _ _ y352 t355 _ ?side1 ?side2 A5.out).mono ?_
  (case side1 => exact cq (rR HO354.out).2.2)
  (case side2 => exact (rR HO354.out).2.1)
  rintro e w57 ⟨rfl, hdr_⟩; have hb := Drawn0.below hdr_
  refine ⟨_, rfl, ?_⟩
  replace HO0_1 := aM (Kd.V_below (vq HO0_1.out) hb)
  replace HO354 := aM (rL (rq HO354.out) hb)
  replace BK348 := aM (kB (kq BK348.out) hb)
  replace BK349 := aM (kB (kq BK349.out) hb)
  replace HB := aM (bT bq hb)
  (try clear hb)
  (try clear hb2)
  (try clear hk)
  (try clear hi)
  refine hK.out _ _ ⟨cc, cc, cc⟩ (fun hHeld => ?_)
  clear hK K
  refine nn ?_
  refine pp HT_ (N := some 5) 8 #[Y,Y,Y,Y,Y,Y,Y,Y,Y] ?_
  refine done_ (done_of HT_.out kr) ?_
  have hnb58 := NB349_348.out
  have hnc58 := NB348_349.out
  have hcz59_0 : w57.cell? ⟨gb349, 0, none⟩ = some (.int .i64 0) := cc
  have hcz59_1 : w57.cell? ⟨gb349, 1, none⟩ = some (.int .i64 0) := cc
  have hcz59_2 : w57.cell? ⟨gb349, 2, none⟩ = some (.slice none 0 0) := cc
  have hcz59_3 : w57.cell? ⟨gb349, 3, none⟩ = some (.slice none 0 0) := cc
  have hcz59_4 : w57.cell? ⟨gb349, 4, none⟩ = some (.slice none 0 0) := cc
  have hfz59_0 := kF BK349.out 0
  have hfz59_1 := kF BK349.out 1
  have hfz59_2 := kF BK349.out 2
  have hfz59_3 := kF BK349.out 3
  have hfz59_4 := kF BK349.out 4
  try go_wp2
  refine bodyPost_ret (results_cell_row rfl _ _ gb349 50 #[.int .i64 t355, .int .i64 0, .slice none 0 0, .slice none 0 0, .slice none 0 0] (0, 0) _ rfl (fq BK349.out) Try.underlying50 rfl kr) rfl ?_
  exact ⟨_, _, _, ew, by first | exact Kd.R_nil _ _ _ _ _ | exact Kd.N_nil _ _ _ _ _ | exact Kd.V_nil _ _ _ _ _ | exact Kd.Q_nil _ _ _ _ _ | exact Kd.S_nil _ _ _ _ _, by first | exact Kd.R_nil _ _ _ _ _ | exact Kd.N_nil _ _ _ _ _ | exact Kd.V_nil _ _ _ _ _ | exact Kd.Q_nil _ _ _ _ _ | exact Kd.S_nil _ _ _ _ _, by first | exact Kd.R_nil _ _ _ _ _ | exact Kd.N_nil _ _ _ _ _ | exact Kd.V_nil _ _ _ _ _ | exact Kd.Q_nil _ _ _ _ _ | exact Kd.S_nil _ _ _ _ _, bq⟩
theorem impl_FeedFrame.calls (k : Nat) (a0_0 : Int) (A0_1 : Option Addr) (c0_1 : Nat) (l0_1 : List Int) (A0_2 : Option Addr) (c0_2 : Nat) (l0_2 : List Int) (A1 : Option Addr) (c1 : Nat) (l1 : List Int) (r1 : Int) (r2 : Int) (r3 : List Int) (r4 : List Int) (r5 : List Int) (w : World) (hr0_1 : Kd.C (Kd.int .i64) w A0_1 l0_1.length l0_1) (hc0_1 : l0_1.length ≤ c0_1) (hr0_2 : Kd.C (Kd.int .i64) w A0_2 l0_2.length l0_2) (hc0_2 : l0_2.length ≤ c0_2) (hr1 : Kd.C (Kd.int .i64) w A1 l1.length l1) (hc1 : l1.length ≤ c1) (h : impl_FeedFrame.f k a0_0 l0_1 l0_2 l1 = some (r1, r2, r3, r4, r5)) :
  Calls Try.prog 29 #[.agg #[.int .i64 a0_0, .slice A0_1 l0_1.length c0_1, .slice A0_2 l0_2.length c0_2], .slice A1 l1.length c1] w fun e w' => ∃ v2_ v3_ v4_ : Value, e = .returned (.agg #[.int .i64 r1, .int .i64 r2, v2_, v3_, v4_]) ∧ Kd.R (Kd.int .i64) 2 w' w.heap.size (fun k_ => nb v3_ k_ ∧ nb v4_ k_) v2_ r3 ∧ Kd.R (Kd.int .i64) 2 w' w.heap.size (fun k_ => nb v2_ k_ ∧ nb v4_ k_) v3_ r4 ∧ Kd.R (Kd.int .i64) 2 w' w.heap.size (fun k_ => nb v2_ k_ ∧ nb v3_ k_) v4_ r5 ∧ Below w.heap.size w w' := by
 refine (impl_FeedFrame.callsV k a0_0 (fun k_ => k_ < w.heap.size) A0_1 c0_1 l0_1 A0_2 c0_2 l0_2 A1 c1 l1 r1 r2 r3 r4 r5 w (Kd.V_mk hc0_1 (Kd.C_F (Kd.heap_int .i64) hr0_1)) hr0_2 hc0_2 hr1 hc1 h).mono fun e w' hh_ => ?_
 obtain ⟨v2_, v3_, v4_, he_, h0_, h1_, h2_, hb_⟩ := hh_
 exact ⟨v2_, v3_, v4_, he_, rM h0_ (fun _ hk => hk.2), rM h1_ (fun _ hk => hk.2), rM h2_ (fun _ hk => hk.2), hb_⟩

end Go.Proofs.Ytmhnpogjkbmmnaa.PFnLaps
