-- Written by a program of this session: wip/mkprint.py over the kit's print, with contracts proved by hand (wip/given.py)
-- shortest of all
-- told shortest
-- told shorter still
-- shortened
-- told short
-- worlds by letters
-- squeezed
import Derived.Test.YtmhnpogjkbmmnaaPFnLapsx0
import Derived.Test.YtmhnpogjkbmmnaaPFnLapsx13
import Derived.Test.YtmhnpogjkbmmnaaPFnLapsx14
import Derived.Test.YtmhnpogjkbmmnaaPFnLapsx15
namespace Go.Proofs.Ytmhnpogjkbmmnaa.PFnLaps
open Go.RowKit Go.Proofs.YtmhnpogjkbmmnaaW.PrintWords Go.Proofs.YtmhnpogjkbmmnaaW.PrintLast Go.Proofs.YtmhnpogjkbmmnaaW.PrintMore
open Go.Proofs.YtmhnpogjkbmmnaaW.PrintWords.Kd renaming R_alloc → rA, R_drewN → rN, R_drew → rD, R_far → rF, R_mono → rM, R_base → rB, R_new' → rW, R_below → rL, R_lt → rT, R_lower → rG, R_elder' → rH, R_reads' → rR
open Go.Proofs.YtmhnpogjkbmmnaaW.PrintWords renaming below_alloc → bA, pw_below_drewN → bN, below_drew1 → bD, below_set → bS, below_step → bT, below_size → bZ, blk_drewN → kN, blk_drew → kD, blk_alloc → kA, blk_below → kB, blk_cell → kC, blk_frozen → kF
open Go.Proofs.YtmhnpogjkbmmnaaW.PrintWords.Aside0 renaming mk → aM
attribute [local go_sem] max2_int min2_int max_two min_two max_three min_three max_four min_four   -- for this text's walks alone
set_option linter.unusedVariables false
set_option linter.unusedSimpArgs false

/-! ### spec_DrawStory: function 48 -/
def spec_DrawStory.l0 : Nat → Int → List (S84) → Int → Int → List Int → Int → Int → Int → Int → Int → Int → List Int → List Int → Bool → Int → Int → List Int → Bool → Int → Int → List Int → Int → Int → Int → Int → List (S183) → Bool → Int → Int → List Int → Bool → Int → Int → List Int → Int → List Int → List Int → List Int → Int → Int → List Int → Int → Int → List (S186) → List (S190) → Option (Int × Int × Int × Int × (List (S84)))
 | 0, _, _, _, _, _, _, _, _, _, _, _, _, _, _, _, _, _, _, _, _, _, _, _, _, _, _, _, _, _, _, _, _, _, _, _, _, _, _, _, _, _, _, _, _, _ => none
 | k + 1, x1, x11, x29, x30, x702000, x702001, x769000, x769001, x769002, x769003, x769004, x769005, x769006, x769007, x769008, x769009, x769010, x769011, x769012, x769013, x769014, x769015, x769016, x769017, x769018, x769019, x769020, x769021, x769022, x769023, x769024, x769025, x769026, x769027, x769028, x769029, x769030, x769031, x769032, x769033, x769034, x769035, x769036, x769037, x769038 => if x30 < x29 then (if x1 = 1 then ((spec_l1Next.f x702000 x702001 (wrap64 (x769036 + 1))).bind fun bt783 => (if 0 ≤ x30 then (if x30 < (x11.length : Int) then ((some (x11.set (x30 : Int).toNat (⟨(rd_T84 x11 x30).f0, (⟨1, bt783.1, 0, 0⟩ : S82), (⟨(rd_T84 x11 x30).f2.f0, (rd_T84 x11 x30).f2.f1, (rd_T84 x11 x30).f2.f2, (rd_T84 x11 x30).f2.f3⟩ : S82), (⟨(rd_T84 x11 x30).f3.f0, (rd_T84 x11 x30).f3.f1, (rd_T84 x11 x30).f3.f2, (rd_T84 x11 x30).f3.f3⟩ : S82)⟩ : S84) : List (S84))).bind fun y785 => ((spec_l1Next.f x702000 bt783.2 (wrap64 (x769036 + 1))).bind fun bt786 => (spec_DrawStory.l0 k x1 (y785.set (x30 : Int).toNat (⟨(rd_T84 y785 x30).f0, (⟨(rd_T84 y785 x30).f1.f0, (rd_T84 y785 x30).f1.f1, (rd_T84 y785 x30).f1.f2, (rd_T84 y785 x30).f1.f3⟩ : S82), (⟨1, bt786.1, 0, 0⟩ : S82), (⟨(rd_T84 y785 x30).f3.f0, (rd_T84 y785 x30).f3.f1, (rd_T84 y785 x30).f3.f2, (rd_T84 y785 x30).f3.f3⟩ : S82)⟩ : S84)) x29 (wrap64 (x30 + 1)) x702000 bt786.2 x769000 x769001 x769002 x769003 x769004 x769005 x769006 x769007 x769008 x769009 x769010 x769011 x769012 x769013 x769014 x769015 x769016 x769017 x769018 x769019 x769020 x769021 x769022 x769023 x769024 x769025 x769026 x769027 x769028 x769029 x769030 x769031 x769032 x769033 x769034 x769035 x769036 x769037 x769038))) else (none)) else (none))) else (spec_DrawStory.l0 k x1 x11 x29 (wrap64 (x30 + 1)) x702000 x702001 x769000 x769001 x769002 x769003 x769004 x769005 x769006 x769007 x769008 x769009 x769010 x769011 x769012 x769013 x769014 x769015 x769016 x769017 x769018 x769019 x769020 x769021 x769022 x769023 x769024 x769025 x769026 x769027 x769028 x769029 x769030 x769031 x769032 x769033 x769034 x769035 x769036 x769037 x769038)) else (some (x769000, x769001, x769002, x769036, x11))
def spec_DrawStory.f (k : Nat) (l0 : List Int) (a1 : Int) : Option (Int × Int × Int × Int × (List (S84))) := (spec_l1Source.f l0).bind fun bt699 => ((spec_l20Start.f bt699.1 bt699.2).bind fun bt702 => ((spec_l1Pick.f bt699.1 bt702.2.2.2.2.2.2.2.2.2.2.2.2.2.2.2.2.2.2.2.2.2.2.2.2.2.2.2.2.2.2.2.2.2.2.2.2.2.2.2 (([3, 6, 9, 12, 16] : List Int))).bind fun bt772 => ((spec_l1Pick.f bt699.1 bt772.2 (([4, 7, 9, 10] : List Int))).bind fun bt777 => ((spec_l20Steps.f k bt699.1 bt777.2 bt702.1 bt772.1 bt777.1).bind fun bt779 => (spec_DrawStory.l0 k a1 bt779.1 (bt779.1.length : Int) 0 bt699.1 bt779.2 bt702.1 bt702.2.1 bt702.2.2.1 bt702.2.2.2.1 bt702.2.2.2.2.1 bt702.2.2.2.2.2.1 bt702.2.2.2.2.2.2.1 bt702.2.2.2.2.2.2.2.1 bt702.2.2.2.2.2.2.2.2.1 bt702.2.2.2.2.2.2.2.2.2.1 bt702.2.2.2.2.2.2.2.2.2.2.1 bt702.2.2.2.2.2.2.2.2.2.2.2.1 bt702.2.2.2.2.2.2.2.2.2.2.2.2.1 bt702.2.2.2.2.2.2.2.2.2.2.2.2.2.1 bt702.2.2.2.2.2.2.2.2.2.2.2.2.2.2.1 bt702.2.2.2.2.2.2.2.2.2.2.2.2.2.2.2.1 bt702.2.2.2.2.2.2.2.2.2.2.2.2.2.2.2.2.1 bt702.2.2.2.2.2.2.2.2.2.2.2.2.2.2.2.2.2.1 bt702.2.2.2.2.2.2.2.2.2.2.2.2.2.2.2.2.2.2.1 bt702.2.2.2.2.2.2.2.2.2.2.2.2.2.2.2.2.2.2.2.1 bt702.2.2.2.2.2.2.2.2.2.2.2.2.2.2.2.2.2.2.2.2.1 bt702.2.2.2.2.2.2.2.2.2.2.2.2.2.2.2.2.2.2.2.2.2.1 bt702.2.2.2.2.2.2.2.2.2.2.2.2.2.2.2.2.2.2.2.2.2.2.1 bt702.2.2.2.2.2.2.2.2.2.2.2.2.2.2.2.2.2.2.2.2.2.2.2.1 bt702.2.2.2.2.2.2.2.2.2.2.2.2.2.2.2.2.2.2.2.2.2.2.2.2.1 bt702.2.2.2.2.2.2.2.2.2.2.2.2.2.2.2.2.2.2.2.2.2.2.2.2.2.1 bt702.2.2.2.2.2.2.2.2.2.2.2.2.2.2.2.2.2.2.2.2.2.2.2.2.2.2.1 bt702.2.2.2.2.2.2.2.2.2.2.2.2.2.2.2.2.2.2.2.2.2.2.2.2.2.2.2.1 bt702.2.2.2.2.2.2.2.2.2.2.2.2.2.2.2.2.2.2.2.2.2.2.2.2.2.2.2.2.1 bt702.2.2.2.2.2.2.2.2.2.2.2.2.2.2.2.2.2.2.2.2.2.2.2.2.2.2.2.2.2.1 bt702.2.2.2.2.2.2.2.2.2.2.2.2.2.2.2.2.2.2.2.2.2.2.2.2.2.2.2.2.2.2.1 bt702.2.2.2.2.2.2.2.2.2.2.2.2.2.2.2.2.2.2.2.2.2.2.2.2.2.2.2.2.2.2.2.1 bt702.2.2.2.2.2.2.2.2.2.2.2.2.2.2.2.2.2.2.2.2.2.2.2.2.2.2.2.2.2.2.2.2.1 bt702.2.2.2.2.2.2.2.2.2.2.2.2.2.2.2.2.2.2.2.2.2.2.2.2.2.2.2.2.2.2.2.2.2.1 bt702.2.2.2.2.2.2.2.2.2.2.2.2.2.2.2.2.2.2.2.2.2.2.2.2.2.2.2.2.2.2.2.2.2.2.1 bt702.2.2.2.2.2.2.2.2.2.2.2.2.2.2.2.2.2.2.2.2.2.2.2.2.2.2.2.2.2.2.2.2.2.2.2.1 bt702.2.2.2.2.2.2.2.2.2.2.2.2.2.2.2.2.2.2.2.2.2.2.2.2.2.2.2.2.2.2.2.2.2.2.2.2.1 bt702.2.2.2.2.2.2.2.2.2.2.2.2.2.2.2.2.2.2.2.2.2.2.2.2.2.2.2.2.2.2.2.2.2.2.2.2.2.1 bt702.2.2.2.2.2.2.2.2.2.2.2.2.2.2.2.2.2.2.2.2.2.2.2.2.2.2.2.2.2.2.2.2.2.2.2.2.2.2.1)))))
theorem spec_DrawStory.mono_l : ∀ k, (∀ y0 y1 y2 y3 y4 y5 y6 y7 y8 y9 y10 y11 y12 y13 y14 y15 y16 y17 y18 y19 y20 y21 y22 y23 y24 y25 y26 y27 y28 y29 y30 y31 y32 y33 y34 y35 y36 y37 y38 y39 y40 y41 y42 y43 y44, LeO (spec_DrawStory.l0 k y0 y1 y2 y3 y4 y5 y6 y7 y8 y9 y10 y11 y12 y13 y14 y15 y16 y17 y18 y19 y20 y21 y22 y23 y24 y25 y26 y27 y28 y29 y30 y31 y32 y33 y34 y35 y36 y37 y38 y39 y40 y41 y42 y43 y44) (spec_DrawStory.l0 (k + 1) y0 y1 y2 y3 y4 y5 y6 y7 y8 y9 y10 y11 y12 y13 y14 y15 y16 y17 y18 y19 y20 y21 y22 y23 y24 y25 y26 y27 y28 y29 y30 y31 y32 y33 y34 y35 y36 y37 y38 y39 y40 y41 y42 y43 y44))
 | 0 => fun _ _ _ _ _ _ _ _ _ _ _ _ _ _ _ _ _ _ _ _ _ _ _ _ _ _ _ _ _ _ _ _ _ _ _ _ _ _ _ _ _ _ _ _ _ r h => by simp [spec_DrawStory.l0] at h
 | k + 1 => by
  have ih0 := spec_DrawStory.mono_l k
  ·intro y0 y1 y2 y3 y4 y5 y6 y7 y8 y9 y10 y11 y12 y13 y14 y15 y16 y17 y18 y19 y20 y21 y22 y23 y24 y25 y26 y27 y28 y29 y30 y31 y32 y33 y34 y35 y36 y37 y38 y39 y40 y41 y42 y43 y44
   unfold spec_DrawStory.l0
   repeat' first
   | (with_reducible exact ih0 _ _ _ _ _ _ _ _ _ _ _ _ _ _ _ _ _ _ _ _ _ _ _ _ _ _ _ _ _ _ _ _ _ _ _ _ _ _ _ _ _ _ _ _ _)
   | (with_reducible exact spec_l20Steps.mono _ _ _ _ _ _)
   | (with_reducible exact LeO.refl _)
   | (with_reducible exact LeO.none _)
   | (with_reducible refine LeO.ite ?_ ?_)
   | (with_reducible refine LeO.bind ?_ (fun _ => ?_))
   | exact ih0 _ _ _ _ _ _ _ _ _ _ _ _ _ _ _ _ _ _ _ _ _ _ _ _ _ _ _ _ _ _ _ _ _ _ _ _ _ _ _ _ _ _ _ _ _
   | exact spec_l20Steps.mono _ _ _ _ _ _
   | exact LeO.none _
   | refine LeO.ite ?_ ?_
   | refine LeO.bind ?_ (fun _ => ?_)
theorem spec_DrawStory.mono : ∀ a0 a1 k, LeO (spec_DrawStory.f k a0 a1) (spec_DrawStory.f (k + 1) a0 a1) := by
 intro a0 a1 k
 have ih0 := spec_DrawStory.mono_l k
 unfold spec_DrawStory.f
 repeat' first
   | (with_reducible exact ih0 _ _ _ _ _ _ _ _ _ _ _ _ _ _ _ _ _ _ _ _ _ _ _ _ _ _ _ _ _ _ _ _ _ _ _ _ _ _ _ _ _ _ _ _ _)
   | (with_reducible exact spec_l20Steps.mono _ _ _ _ _ _)
   | (with_reducible exact LeO.refl _)
   | (with_reducible exact LeO.none _)
   | (with_reducible refine LeO.ite ?_ ?_)
   | (with_reducible refine LeO.bind ?_ (fun _ => ?_))
   | exact ih0 _ _ _ _ _ _ _ _ _ _ _ _ _ _ _ _ _ _ _ _ _ _ _ _ _ _ _ _ _ _ _ _ _ _ _ _ _ _ _ _ _ _ _ _ _
   | exact spec_l20Steps.mono _ _ _ _ _ _
   | exact LeO.none _
   | refine LeO.ite ?_ ?_
   | refine LeO.bind ?_ (fun _ => ?_)
def spec_DrawStory.T3 : Bool × List (List Nat × List Nat) := (true, [([], []), ([], []), ([1], [1]), ([2], [2]), ([], []), ([], []), ([4, 5], [4, 5]), ([], []), ([], []), ([7, 8, 6], [7, 8]), ([0, 3, 6, 9, 9], [0, 3, 6, 9]), ([10, 10, 0, 1, 2, 3, 4, 5, 6, 7, 8, 9, 10], [10])])
def spec_DrawStory.B3 : List Nat := [0, 0, 2, 6, 0, 0, 48, 0, 0, 496, 1023, 2047]
theorem spec_DrawStory.tab3 : rtab .any (opsOf Try.f48 3) = spec_DrawStory.T3 := by kernel_rfl
theorem spec_DrawStory.bits3 : waitsOk spec_DrawStory.T3.2 spec_DrawStory.B3 = true := by kernel_rfl
def spec_DrawStory.T11 : Bool × List (List Nat × List Nat) := (true, [([], []), ([0], [0]), ([1], [1]), ([], []), ([3], [3]), ([4], [4]), ([], []), ([6], [6]), ([7], [7]), ([], []), ([9], [9]), ([], []), ([2, 0, 1, 2], [2]), ([5, 12, 0, 1, 2, 3, 4, 5, 12], [5]), ([8, 13, 0, 1, 2, 3, 4, 5, 6, 7, 8, 12, 13], [8]), ([10, 14, 0, 1, 2, 3, 4, 5, 6, 7, 8, 9, 10, 12, 13, 14], [10]), ([11, 15, 0, 1, 2, 3, 4, 5, 6, 7, 8, 9, 10, 11, 12, 13, 14, 15], [11])])
def spec_DrawStory.B11 : List Nat := [0, 1, 3, 0, 8, 24, 0, 64, 192, 0, 512, 0, 7, 4159, 12799, 30719, 65535]
theorem spec_DrawStory.tab11 : rtab .any (opsOf Try.f48 11) = spec_DrawStory.T11 := by kernel_rfl
theorem spec_DrawStory.bits11 : waitsOk spec_DrawStory.T11.2 spec_DrawStory.B11 = true := by kernel_rfl
set_option maxHeartbeats 8000000 in
set_option maxRecDepth 100000 in
theorem spec_DrawStory.calls (k : Nat) (A0 : Option Addr) (c0 : Nat) (l0 : List Int) (a1 : Int) (r1 : Int) (r2 : Int) (r3 : Int) (r4 : Int) (r5 : List (S84)) (w : World) (hr0 : Kd.C (Kd.int .u8) w A0 l0.length l0) (hc0 : l0.length ≤ c0) (h : spec_DrawStory.f k l0 a1 = some (r1, r2, r3, r4, r5)) :
  Calls Try.prog 48 #[.slice A0 l0.length c0, .int .i64 a1] w fun e w' => ∃ v4_ : Value, e = .returned (.tuple #[.int .i64 r1, .int .i64 r2, .int .i64 r3, .int .i64 r4, v4_]) ∧ Kd.S k84 84 w' w.heap.size (fun _ => True) v4_ r5 ∧ Below w.heap.size w w' := by
 have hu133 := Try.underlying133
 have hu82 := Try.underlying82
 have HR0 := aM hr0
 have HC0 := aM hc0
 clear hr0 hc0
 have HB := aM (Below.refl w.heap.size w)
 have H : ((spec_l1Source.f l0).bind fun bt699 => ((spec_l20Start.f bt699.1 bt699.2).bind fun bt702 => ((spec_l1Pick.f bt699.1 bt702.2.2.2.2.2.2.2.2.2.2.2.2.2.2.2.2.2.2.2.2.2.2.2.2.2.2.2.2.2.2.2.2.2.2.2.2.2.2.2 (([3, 6, 9, 12, 16] : List Int))).bind fun bt772 => ((spec_l1Pick.f bt699.1 bt772.2 (([4, 7, 9, 10] : List Int))).bind fun bt777 => ((spec_l20Steps.f k bt699.1 bt777.2 bt702.1 bt772.1 bt777.1).bind fun bt779 => (spec_DrawStory.l0 k a1 bt779.1 (bt779.1.length : Int) 0 bt699.1 bt779.2 bt702.1 bt702.2.1 bt702.2.2.1 bt702.2.2.2.1 bt702.2.2.2.2.1 bt702.2.2.2.2.2.1 bt702.2.2.2.2.2.2.1 bt702.2.2.2.2.2.2.2.1 bt702.2.2.2.2.2.2.2.2.1 bt702.2.2.2.2.2.2.2.2.2.1 bt702.2.2.2.2.2.2.2.2.2.2.1 bt702.2.2.2.2.2.2.2.2.2.2.2.1 bt702.2.2.2.2.2.2.2.2.2.2.2.2.1 bt702.2.2.2.2.2.2.2.2.2.2.2.2.2.1 bt702.2.2.2.2.2.2.2.2.2.2.2.2.2.2.1 bt702.2.2.2.2.2.2.2.2.2.2.2.2.2.2.2.1 bt702.2.2.2.2.2.2.2.2.2.2.2.2.2.2.2.2.1 bt702.2.2.2.2.2.2.2.2.2.2.2.2.2.2.2.2.2.1 bt702.2.2.2.2.2.2.2.2.2.2.2.2.2.2.2.2.2.2.1 bt702.2.2.2.2.2.2.2.2.2.2.2.2.2.2.2.2.2.2.2.1 bt702.2.2.2.2.2.2.2.2.2.2.2.2.2.2.2.2.2.2.2.2.1 bt702.2.2.2.2.2.2.2.2.2.2.2.2.2.2.2.2.2.2.2.2.2.1 bt702.2.2.2.2.2.2.2.2.2.2.2.2.2.2.2.2.2.2.2.2.2.2.1 bt702.2.2.2.2.2.2.2.2.2.2.2.2.2.2.2.2.2.2.2.2.2.2.2.1 bt702.2.2.2.2.2.2.2.2.2.2.2.2.2.2.2.2.2.2.2.2.2.2.2.2.1 bt702.2.2.2.2.2.2.2.2.2.2.2.2.2.2.2.2.2.2.2.2.2.2.2.2.2.1 bt702.2.2.2.2.2.2.2.2.2.2.2.2.2.2.2.2.2.2.2.2.2.2.2.2.2.2.1 bt702.2.2.2.2.2.2.2.2.2.2.2.2.2.2.2.2.2.2.2.2.2.2.2.2.2.2.2.1 bt702.2.2.2.2.2.2.2.2.2.2.2.2.2.2.2.2.2.2.2.2.2.2.2.2.2.2.2.2.1 bt702.2.2.2.2.2.2.2.2.2.2.2.2.2.2.2.2.2.2.2.2.2.2.2.2.2.2.2.2.2.1 bt702.2.2.2.2.2.2.2.2.2.2.2.2.2.2.2.2.2.2.2.2.2.2.2.2.2.2.2.2.2.2.1 bt702.2.2.2.2.2.2.2.2.2.2.2.2.2.2.2.2.2.2.2.2.2.2.2.2.2.2.2.2.2.2.2.1 bt702.2.2.2.2.2.2.2.2.2.2.2.2.2.2.2.2.2.2.2.2.2.2.2.2.2.2.2.2.2.2.2.2.1 bt702.2.2.2.2.2.2.2.2.2.2.2.2.2.2.2.2.2.2.2.2.2.2.2.2.2.2.2.2.2.2.2.2.2.1 bt702.2.2.2.2.2.2.2.2.2.2.2.2.2.2.2.2.2.2.2.2.2.2.2.2.2.2.2.2.2.2.2.2.2.2.1 bt702.2.2.2.2.2.2.2.2.2.2.2.2.2.2.2.2.2.2.2.2.2.2.2.2.2.2.2.2.2.2.2.2.2.2.2.1 bt702.2.2.2.2.2.2.2.2.2.2.2.2.2.2.2.2.2.2.2.2.2.2.2.2.2.2.2.2.2.2.2.2.2.2.2.2.1 bt702.2.2.2.2.2.2.2.2.2.2.2.2.2.2.2.2.2.2.2.2.2.2.2.2.2.2.2.2.2.2.2.2.2.2.2.2.2.1 bt702.2.2.2.2.2.2.2.2.2.2.2.2.2.2.2.2.2.2.2.2.2.2.2.2.2.2.2.2.2.2.2.2.2.2.2.2.2.2.1)))))) = some (r1, r2, r3, r4, r5) := h
 clear h
 replace H := bo H
 obtain ⟨⟨t699, t700⟩, A3, H⟩ := H
 replace H := bz H
 replace H := bo H
 obtain ⟨⟨t702, t703, t704, t705, t706, t707, t710, t713, t714, t715, t716, t719, t720, t721, t722, t725, t726, t727, t728, t729, t732, t733, t734, t735, t738, t739, t740, t741, t744, t745, t748, t751, t754, t755, t756, t759, t760, t761, t764, t767⟩, A4, H⟩ := H
 replace H := bz H
 obtain ⟨y769, hy769⟩ : ∃ y_ : List Int, y_ = (([3, 6, 9, 12, 16] : List Int)) := ⟨_, rfl⟩
 replace H : ((spec_l1Pick.f t699 t767 y769).bind fun bt772 => ((spec_l1Pick.f t699 bt772.2 (([4, 7, 9, 10] : List Int))).bind fun bt777 => ((spec_l20Steps.f k t699 bt777.2 t702 bt772.1 bt777.1).bind fun bt779 => (spec_DrawStory.l0 k a1 bt779.1 (bt779.1.length : Int) 0 t699 bt779.2 t702 t703 t704 t705 t706 t707 t710 t713 t714 t715 t716 t719 t720 t721 t722 t725 t726 t727 t728 t729 t732 t733 t734 t735 t738 t739 t740 t741 t744 t745 t748 t751 t754 t755 t756 t759 t760 t761 t764)))) = some (r1, r2, r3, r4, r5) := hl hy769 H
 have Ny769 := aM hy769
 clear hy769
 replace H := bo H
 obtain ⟨⟨t772, t773⟩, A5, H⟩ := H
 replace H := bz H
 obtain ⟨y774, hy774⟩ : ∃ y_ : List Int, y_ = (([4, 7, 9, 10] : List Int)) := ⟨_, rfl⟩
 replace H : ((spec_l1Pick.f t699 t773 y774).bind fun bt777 => ((spec_l20Steps.f k t699 bt777.2 t702 t772 bt777.1).bind fun bt779 => (spec_DrawStory.l0 k a1 bt779.1 (bt779.1.length : Int) 0 t699 bt779.2 t702 t703 t704 t705 t706 t707 t710 t713 t714 t715 t716 t719 t720 t721 t722 t725 t726 t727 t728 t729 t732 t733 t734 t735 t738 t739 t740 t741 t744 t745 t748 t751 t754 t755 t756 t759 t760 t761 t764))) = some (r1, r2, r3, r4, r5) := hl hy774 H
 have Ny774 := aM hy774
 clear hy774
 replace H := bo H
 obtain ⟨⟨t777, t778⟩, A6, H⟩ := H
 replace H := bz H
 replace H := bo H
 obtain ⟨⟨t779, t782⟩, A7, H⟩ := H
 replace H := bz H
 have H' := aM H
 clear H
 go_enter Try.func48, Try.ntmps48
 try go_wp2_with (first | ((with_reducible refine gate_callee (f := 82) rfl ?_); refine goesL_ (some 14) rfl rfl Try.func82 kr rfl #[.slice A0 l0.length c0] rfl mq ?_; (with_reducible refine (spec_l1Source.calls _ _ l0 t699 t700 w _ ?side1 ?side2 ?side3 A3.out).mono ?_); (case side1 => exact bq); (case side2 => exact HR0.out); (case side3 => exact HC0.out); rintro e w8 ⟨g701, rfl, hi, hb, hb2⟩; refine ⟨_, rfl, ?_⟩; replace HB := aM (hb); have HI701 := aM (hi); (try clear hb)) | ((with_reducible refine gate_callee (f := 98) rfl ?_); refine goesL_ (some 16) rfl rfl Try.func98 kr rfl #[.pointer (some ⟨g701, 0, none⟩)] rfl mq ?_; (with_reducible refine (spec_l20Start.calls g701 t699 t700 t702 t703 t704 t705 t706 t707 t710 t713 t714 t715 t716 t719 t720 t721 t722 t725 t726 t727 t728 t729 t732 t733 t734 t735 t738 t739 t740 t741 t744 t745 t748 t751 t754 t755 t756 t759 t760 t761 t764 t767 w _ ?side1 ?side2 A4.out).mono ?_); (case side1 => exact sq HI701.out); (case side2 => exact bq); rintro e w9 ⟨v708, v711, v717, v723, v730, v736, v742, v746, v749, v752, v757, v762, v765, rfl, ho0, ho1, ho2, ho3, ho4, ho5, ho6, ho7, ho8, ho9, ho10, ho11, ho12, hi, hb, hk⟩; refine ⟨_, rfl, ?_⟩; have HO709 := aM (rG ho0 (bZ bq)); have HO712 := aM (rG ho1 (bZ bq)); have HO718 := aM (rG ho2 (bZ bq)); have HO724 := aM (rG ho3 (bZ bq)); have HO731 := aM (Kd.S_lower ho4 (bZ bq)); have HO737 := aM (rG ho5 (bZ bq)); have HO743 := aM (rG ho6 (bZ bq)); have HO747 := aM (rG ho7 (bZ bq)); have HO750 := aM (rG ho8 (bZ bq)); have HO753 := aM (rG ho9 (bZ bq)); have HO758 := aM (rG ho10 (bZ bq)); have HO763 := aM (Kd.S_lower ho11 (bZ bq)); have HO766 := aM (rG ho12 (bZ bq)); replace HB := aM (hb); replace HI701 := aM (hi); (try clear hb); (try clear ho0); (try clear ho1); (try clear ho2); (try clear ho3); (try clear ho4); (try clear ho5); (try clear ho6); (try clear ho7); (try clear ho8); (try clear ho9); (try clear ho10); (try clear ho11); (try clear ho12)) | ((with_reducible refine gate_dst (N := 10) rfl ?_); refine box_event ?hg (N := 10) ?hd (cs := #[.int .i64 0, .int .i64 0, .int .i64 0, .int .i64 0, .int .i64 0, .slice none 0 0, .slice none 0 0, .bool false, .int .i64 0, .int .i64 0, .slice none 0 0, .bool false, .int .i64 0, .int .i64 0, .slice none 0 0, .int .i64 0, .int .i64 0, .int .i64 0, .int .i64 0, .slice none 0 0, .bool false, .int .i64 0, .int .i64 0, .slice none 0 0, .bool false, .int .i64 0, .int .i64 0, .slice none 0 0, .int .i64 0, .slice none 0 0, .slice none 0 0, .slice none 0 0, .int .i64 0, .int .i64 0, .slice none 0 0, .int .i64 0, .int .i64 0, .slice none 0 0, .slice none 0 0]) (t := 133) ?hr ?_; (case hd => rfl); (case hg => rfl); (case hr => first | (go_simp; done) | (go_simp; rfl)); intro gb768 hg w10 hbox hb; replace HO709 := aM (rL (rq HO709.out) hb); replace HO712 := aM (rL (rq HO712.out) hb); replace HO718 := aM (rL (rq HO718.out) hb); replace HO724 := aM (rL (rq HO724.out) hb); replace HO731 := aM (Kd.S_below (by (with_reducible repeat (first | apply Kd.S_alloc | apply Kd.S_drewN | apply Kd.S_drew)); exact HO731.out) hb); replace HO737 := aM (rL (rq HO737.out) hb); replace HO743 := aM (rL (rq HO743.out) hb); replace HO747 := aM (rL (rq HO747.out) hb); replace HO750 := aM (rL (rq HO750.out) hb); replace HO753 := aM (rL (rq HO753.out) hb); replace HO758 := aM (rL (rq HO758.out) hb); replace HO763 := aM (Kd.S_below (by (with_reducible repeat (first | apply Kd.S_alloc | apply Kd.S_drewN | apply Kd.S_drew)); exact HO763.out) hb); replace HO766 := aM (rL (rq HO766.out) hb); have BK768 := aM (hbox); have GW768 := aM ((by rw [hg]; exact (bZ bq) : w.heap.size ≤ gb768)); have GE768 := aM ((by rw [hg]; exact (bZ bq) : w.heap.size ≤ gb768)); replace HB := aM (bT bq hb); have NB701_768 := aM ((by rw [hg]; exact Nat.ne_of_lt (IsS149.lt (show IsS149 w _ g701 t699 t767 from sq HI701.out)) : g701 ≠ gb768)); have NB768_701 := aM ((by rw [hg]; exact Nat.ne_of_gt (IsS149.lt (show IsS149 w _ g701 t699 t767 from sq HI701.out)) : gb768 ≠ g701)); replace HI701 := aM (IsS149.below (sq HI701.out) hb); clear hb hbox hg; have hnb11 := NB768_701.out; have hnc11 := NB701_768.out; obtain ⟨Ao13, co13, eo13⟩ := Kd.R_slice HO709.out; subst eo13; obtain ⟨Ao14, co14, eo14⟩ := Kd.R_slice HO712.out; subst eo14; obtain ⟨Ao15, co15, eo15⟩ := Kd.R_slice HO718.out; subst eo15; obtain ⟨Ao16, co16, eo16⟩ := Kd.R_slice HO724.out; subst eo16; obtain ⟨Ao17, co17, eo17⟩ := Kd.S_slice HO731.out; subst eo17; obtain ⟨Ao18, co18, eo18⟩ := Kd.R_slice HO737.out; subst eo18; obtain ⟨Ao19, co19, eo19⟩ := Kd.R_slice HO743.out; subst eo19; obtain ⟨Ao20, co20, eo20⟩ := Kd.R_slice HO747.out; subst eo20; obtain ⟨Ao21, co21, eo21⟩ := Kd.R_slice HO750.out; subst eo21; obtain ⟨Ao22, co22, eo22⟩ := Kd.R_slice HO753.out; subst eo22; obtain ⟨Ao23, co23, eo23⟩ := Kd.R_slice HO758.out; subst eo23; obtain ⟨Ao24, co24, eo24⟩ := Kd.S_slice HO763.out; subst eo24; obtain ⟨Ao25, co25, eo25⟩ := Kd.R_slice HO766.out; subst eo25) | ((with_reducible refine gate_store (t := 133) (p := 10) (v := .tmp 16) rfl ?_); refine sa rfl 133 (.tmp 10) (.tmp 16) rfl gb768 _ ?vs BK768.out ?hx ?hy ?hi ?hl ?h1 ?_; (case hx => rfl); (case hy => rfl); (case hi => rfl); (case hl => simp); (case h1 => rfl); simp only [World.setCells, List.toList_toArray, Nat.reduceAdd]))
 generalize hgw_ : (((((((((((((((((((((((((((((((((((((((w10.setCell ⟨gb768, 0, none⟩ (.int .i64 t702)).setCell ⟨gb768, 1, none⟩ (.int .i64 t703)).setCell ⟨gb768, 2, none⟩ (.int .i64 t704)).setCell ⟨gb768, 3, none⟩ (.int .i64 t705)).setCell ⟨gb768, 4, none⟩ (.int .i64 t706)).setCell ⟨gb768, 5, none⟩ (.slice Ao13 t707.length co13)).setCell ⟨gb768, 6, none⟩ (.slice Ao14 t710.length co14)).setCell ⟨gb768, 7, none⟩ (.bool t713)).setCell ⟨gb768, 8, none⟩ (.int .i64 t714)).setCell ⟨gb768, 9, none⟩ (.int .i64 t715)).setCell ⟨gb768, 10, none⟩ (.slice Ao15 t716.length co15)).setCell ⟨gb768, 11, none⟩ (.bool t719)).setCell ⟨gb768, 12, none⟩ (.int .i64 t720)).setCell ⟨gb768, 13, none⟩ (.int .i64 t721)).setCell ⟨gb768, 14, none⟩ (.slice Ao16 t722.length co16)).setCell ⟨gb768, 15, none⟩ (.int .i64 t725)).setCell ⟨gb768, 16, none⟩ (.int .i64 t726)).setCell ⟨gb768, 17, none⟩ (.int .i64 t727)).setCell ⟨gb768, 18, none⟩ (.int .i64 t728)).setCell ⟨gb768, 19, none⟩ (.slice Ao17 t729.length co17)).setCell ⟨gb768, 20, none⟩ (.bool t732)).setCell ⟨gb768, 21, none⟩ (.int .i64 t733)).setCell ⟨gb768, 22, none⟩ (.int .i64 t734)).setCell ⟨gb768, 23, none⟩ (.slice Ao18 t735.length co18)).setCell ⟨gb768, 24, none⟩ (.bool t738)).setCell ⟨gb768, 25, none⟩ (.int .i64 t739)).setCell ⟨gb768, 26, none⟩ (.int .i64 t740)).setCell ⟨gb768, 27, none⟩ (.slice Ao19 t741.length co19)).setCell ⟨gb768, 28, none⟩ (.int .i64 t744)).setCell ⟨gb768, 29, none⟩ (.slice Ao20 t745.length co20)).setCell ⟨gb768, 30, none⟩ (.slice Ao21 t748.length co21)).setCell ⟨gb768, 31, none⟩ (.slice Ao22 t751.length co22)).setCell ⟨gb768, 32, none⟩ (.int .i64 t754)).setCell ⟨gb768, 33, none⟩ (.int .i64 t755)).setCell ⟨gb768, 34, none⟩ (.slice Ao23 t756.length co23)).setCell ⟨gb768, 35, none⟩ (.int .i64 t759)).setCell ⟨gb768, 36, none⟩ (.int .i64 t760)).setCell ⟨gb768, 37, none⟩ (.slice Ao24 t761.length co24)).setCell ⟨gb768, 38, none⟩ (.slice Ao25 t764.length co25)) = w26
 have n0_ : Aside0 (Kd.R (Kd.int .i64) 2 w26 w.heap.size (fun k_ => nS Ao14 t710 co14 k_ ∧ nS Ao15 t716 co15 k_ ∧ nS Ao16 t722 co16 k_ ∧ nS Ao18 t735 co18 k_ ∧ nS Ao19 t741 co19 k_ ∧ nS Ao20 t745 co20 k_ ∧ nS Ao21 t748 co21 k_ ∧ nS Ao22 t751 co22 k_ ∧ nS Ao23 t756 co23 k_) (.slice Ao13 t707.length co13) t707) := ⟨by rw [← hgw_]; exact rM (rf (Kd.R_types HO709.out BK768.out (by decide))) jq⟩
 have n1_ : Aside0 (Kd.R (Kd.int .i64) 2 w26 w.heap.size (fun k_ => nS Ao13 t707 co13 k_ ∧ nS Ao15 t716 co15 k_ ∧ nS Ao16 t722 co16 k_ ∧ nS Ao18 t735 co18 k_ ∧ nS Ao19 t741 co19 k_ ∧ nS Ao20 t745 co20 k_ ∧ nS Ao21 t748 co21 k_ ∧ nS Ao22 t751 co22 k_ ∧ nS Ao23 t756 co23 k_) (.slice Ao14 t710.length co14) t710) := ⟨by rw [← hgw_]; exact rM (rf (Kd.R_types HO712.out BK768.out (by decide))) jq⟩
 have n2_ : Aside0 (Kd.R (Kd.int .i64) 2 w26 w.heap.size (fun k_ => nS Ao13 t707 co13 k_ ∧ nS Ao14 t710 co14 k_ ∧ nS Ao16 t722 co16 k_ ∧ nS Ao18 t735 co18 k_ ∧ nS Ao19 t741 co19 k_ ∧ nS Ao20 t745 co20 k_ ∧ nS Ao21 t748 co21 k_ ∧ nS Ao22 t751 co22 k_ ∧ nS Ao23 t756 co23 k_) (.slice Ao15 t716.length co15) t716) := ⟨by rw [← hgw_]; exact rM (rf (Kd.R_types HO718.out BK768.out (by decide))) jq⟩
 have n3_ : Aside0 (Kd.R (Kd.int .i64) 2 w26 w.heap.size (fun k_ => nS Ao13 t707 co13 k_ ∧ nS Ao14 t710 co14 k_ ∧ nS Ao15 t716 co15 k_ ∧ nS Ao18 t735 co18 k_ ∧ nS Ao19 t741 co19 k_ ∧ nS Ao20 t745 co20 k_ ∧ nS Ao21 t748 co21 k_ ∧ nS Ao22 t751 co22 k_ ∧ nS Ao23 t756 co23 k_) (.slice Ao16 t722.length co16) t722) := ⟨by rw [← hgw_]; exact rM (rf (Kd.R_types HO724.out BK768.out (by decide))) jq⟩
 have n4_ : Aside0 (Kd.S k183 183 w26 w.heap.size (fun _ => True) (.slice Ao17 t729.length co17) t729) := ⟨by rw [← hgw_]; exact Kd.S_mono (Kd.S_far (p := ⟨gb768, 38, none⟩) (Kd.S_far (p := ⟨gb768, 37, none⟩) (Kd.S_far (p := ⟨gb768, 36, none⟩) (Kd.S_far (p := ⟨gb768, 35, none⟩) (Kd.S_far (p := ⟨gb768, 34, none⟩) (Kd.S_far (p := ⟨gb768, 33, none⟩) (Kd.S_far (p := ⟨gb768, 32, none⟩) (Kd.S_far (p := ⟨gb768, 31, none⟩) (Kd.S_far (p := ⟨gb768, 30, none⟩) (Kd.S_far (p := ⟨gb768, 29, none⟩) (Kd.S_far (p := ⟨gb768, 28, none⟩) (Kd.S_far (p := ⟨gb768, 27, none⟩) (Kd.S_far (p := ⟨gb768, 26, none⟩) (Kd.S_far (p := ⟨gb768, 25, none⟩) (Kd.S_far (p := ⟨gb768, 24, none⟩) (Kd.S_far (p := ⟨gb768, 23, none⟩) (Kd.S_far (p := ⟨gb768, 22, none⟩) (Kd.S_far (p := ⟨gb768, 21, none⟩) (Kd.S_far (p := ⟨gb768, 20, none⟩) (Kd.S_far (p := ⟨gb768, 19, none⟩) (Kd.S_far (p := ⟨gb768, 18, none⟩) (Kd.S_far (p := ⟨gb768, 17, none⟩) (Kd.S_far (p := ⟨gb768, 16, none⟩) (Kd.S_far (p := ⟨gb768, 15, none⟩) (Kd.S_far (p := ⟨gb768, 14, none⟩) (Kd.S_far (p := ⟨gb768, 13, none⟩) (Kd.S_far (p := ⟨gb768, 12, none⟩) (Kd.S_far (p := ⟨gb768, 11, none⟩) (Kd.S_far (p := ⟨gb768, 10, none⟩) (Kd.S_far (p := ⟨gb768, 9, none⟩) (Kd.S_far (p := ⟨gb768, 8, none⟩) (Kd.S_far (p := ⟨gb768, 7, none⟩) (Kd.S_far (p := ⟨gb768, 6, none⟩) (Kd.S_far (p := ⟨gb768, 5, none⟩) (Kd.S_far (p := ⟨gb768, 4, none⟩) (Kd.S_far (p := ⟨gb768, 3, none⟩) (Kd.S_far (p := ⟨gb768, 2, none⟩) (Kd.S_far (p := ⟨gb768, 1, none⟩) (Kd.S_far (p := ⟨gb768, 0, none⟩) (Kd.S_types HO731.out BK768.out (by decide)) (fun _ hk => hk.2) (.int .i64 t702)) (fun _ hk => hk.2) (.int .i64 t703)) (fun _ hk => hk.2) (.int .i64 t704)) (fun _ hk => hk.2) (.int .i64 t705)) (fun _ hk => hk.2) (.int .i64 t706)) (fun _ hk => hk.2) (.slice Ao13 t707.length co13)) (fun _ hk => hk.2) (.slice Ao14 t710.length co14)) (fun _ hk => hk.2) (.bool t713)) (fun _ hk => hk.2) (.int .i64 t714)) (fun _ hk => hk.2) (.int .i64 t715)) (fun _ hk => hk.2) (.slice Ao15 t716.length co15)) (fun _ hk => hk.2) (.bool t719)) (fun _ hk => hk.2) (.int .i64 t720)) (fun _ hk => hk.2) (.int .i64 t721)) (fun _ hk => hk.2) (.slice Ao16 t722.length co16)) (fun _ hk => hk.2) (.int .i64 t725)) (fun _ hk => hk.2) (.int .i64 t726)) (fun _ hk => hk.2) (.int .i64 t727)) (fun _ hk => hk.2) (.int .i64 t728)) (fun _ hk => hk.2) (.slice Ao17 t729.length co17)) (fun _ hk => hk.2) (.bool t732)) (fun _ hk => hk.2) (.int .i64 t733)) (fun _ hk => hk.2) (.int .i64 t734)) (fun _ hk => hk.2) (.slice Ao18 t735.length co18)) (fun _ hk => hk.2) (.bool t738)) (fun _ hk => hk.2) (.int .i64 t739)) (fun _ hk => hk.2) (.int .i64 t740)) (fun _ hk => hk.2) (.slice Ao19 t741.length co19)) (fun _ hk => hk.2) (.int .i64 t744)) (fun _ hk => hk.2) (.slice Ao20 t745.length co20)) (fun _ hk => hk.2) (.slice Ao21 t748.length co21)) (fun _ hk => hk.2) (.slice Ao22 t751.length co22)) (fun _ hk => hk.2) (.int .i64 t754)) (fun _ hk => hk.2) (.int .i64 t755)) (fun _ hk => hk.2) (.slice Ao23 t756.length co23)) (fun _ hk => hk.2) (.int .i64 t759)) (fun _ hk => hk.2) (.int .i64 t760)) (fun _ hk => hk.2) (.slice Ao24 t761.length co24)) (fun _ hk => hk.2) (.slice Ao25 t764.length co25)) (fun _ hk => trivial)⟩
 have n5_ : Aside0 (Kd.R (Kd.int .i64) 2 w26 w.heap.size (fun k_ => nS Ao13 t707 co13 k_ ∧ nS Ao14 t710 co14 k_ ∧ nS Ao15 t716 co15 k_ ∧ nS Ao16 t722 co16 k_ ∧ nS Ao19 t741 co19 k_ ∧ nS Ao20 t745 co20 k_ ∧ nS Ao21 t748 co21 k_ ∧ nS Ao22 t751 co22 k_ ∧ nS Ao23 t756 co23 k_) (.slice Ao18 t735.length co18) t735) := ⟨by rw [← hgw_]; exact rM (rf (Kd.R_types HO737.out BK768.out (by decide))) jq⟩
 have n6_ : Aside0 (Kd.R (Kd.int .i64) 2 w26 w.heap.size (fun k_ => nS Ao13 t707 co13 k_ ∧ nS Ao14 t710 co14 k_ ∧ nS Ao15 t716 co15 k_ ∧ nS Ao16 t722 co16 k_ ∧ nS Ao18 t735 co18 k_ ∧ nS Ao20 t745 co20 k_ ∧ nS Ao21 t748 co21 k_ ∧ nS Ao22 t751 co22 k_ ∧ nS Ao23 t756 co23 k_) (.slice Ao19 t741.length co19) t741) := ⟨by rw [← hgw_]; exact rM (rf (Kd.R_types HO743.out BK768.out (by decide))) jq⟩
 have n7_ : Aside0 (Kd.R (Kd.int .i64) 2 w26 w.heap.size (fun k_ => nS Ao13 t707 co13 k_ ∧ nS Ao14 t710 co14 k_ ∧ nS Ao15 t716 co15 k_ ∧ nS Ao16 t722 co16 k_ ∧ nS Ao18 t735 co18 k_ ∧ nS Ao19 t741 co19 k_ ∧ nS Ao21 t748 co21 k_ ∧ nS Ao22 t751 co22 k_ ∧ nS Ao23 t756 co23 k_) (.slice Ao20 t745.length co20) t745) := ⟨by rw [← hgw_]; exact rM (rf (Kd.R_types HO747.out BK768.out (by decide))) jq⟩
 have n8_ : Aside0 (Kd.R (Kd.int .i64) 2 w26 w.heap.size (fun k_ => nS Ao13 t707 co13 k_ ∧ nS Ao14 t710 co14 k_ ∧ nS Ao15 t716 co15 k_ ∧ nS Ao16 t722 co16 k_ ∧ nS Ao18 t735 co18 k_ ∧ nS Ao19 t741 co19 k_ ∧ nS Ao20 t745 co20 k_ ∧ nS Ao22 t751 co22 k_ ∧ nS Ao23 t756 co23 k_) (.slice Ao21 t748.length co21) t748) := ⟨by rw [← hgw_]; exact rM (rf (Kd.R_types HO750.out BK768.out (by decide))) jq⟩
 have n9_ : Aside0 (Kd.R (Kd.int .i64) 2 w26 w.heap.size (fun k_ => nS Ao13 t707 co13 k_ ∧ nS Ao14 t710 co14 k_ ∧ nS Ao15 t716 co15 k_ ∧ nS Ao16 t722 co16 k_ ∧ nS Ao18 t735 co18 k_ ∧ nS Ao19 t741 co19 k_ ∧ nS Ao20 t745 co20 k_ ∧ nS Ao21 t748 co21 k_ ∧ nS Ao23 t756 co23 k_) (.slice Ao22 t751.length co22) t751) := ⟨by rw [← hgw_]; exact rM (rf (Kd.R_types HO753.out BK768.out (by decide))) jq⟩
 have n10_ : Aside0 (Kd.R (Kd.int .i64) 2 w26 w.heap.size (fun k_ => nS Ao13 t707 co13 k_ ∧ nS Ao14 t710 co14 k_ ∧ nS Ao15 t716 co15 k_ ∧ nS Ao16 t722 co16 k_ ∧ nS Ao18 t735 co18 k_ ∧ nS Ao19 t741 co19 k_ ∧ nS Ao20 t745 co20 k_ ∧ nS Ao21 t748 co21 k_ ∧ nS Ao22 t751 co22 k_) (.slice Ao23 t756.length co23) t756) := ⟨by rw [← hgw_]; exact rM (rf (Kd.R_types HO758.out BK768.out (by decide))) jq⟩
 have n11_ : Aside0 (Kd.S k186 186 w26 w.heap.size (fun _ => True) (.slice Ao24 t761.length co24) t761) := ⟨by rw [← hgw_]; exact Kd.S_mono (Kd.S_far (p := ⟨gb768, 38, none⟩) (Kd.S_far (p := ⟨gb768, 37, none⟩) (Kd.S_far (p := ⟨gb768, 36, none⟩) (Kd.S_far (p := ⟨gb768, 35, none⟩) (Kd.S_far (p := ⟨gb768, 34, none⟩) (Kd.S_far (p := ⟨gb768, 33, none⟩) (Kd.S_far (p := ⟨gb768, 32, none⟩) (Kd.S_far (p := ⟨gb768, 31, none⟩) (Kd.S_far (p := ⟨gb768, 30, none⟩) (Kd.S_far (p := ⟨gb768, 29, none⟩) (Kd.S_far (p := ⟨gb768, 28, none⟩) (Kd.S_far (p := ⟨gb768, 27, none⟩) (Kd.S_far (p := ⟨gb768, 26, none⟩) (Kd.S_far (p := ⟨gb768, 25, none⟩) (Kd.S_far (p := ⟨gb768, 24, none⟩) (Kd.S_far (p := ⟨gb768, 23, none⟩) (Kd.S_far (p := ⟨gb768, 22, none⟩) (Kd.S_far (p := ⟨gb768, 21, none⟩) (Kd.S_far (p := ⟨gb768, 20, none⟩) (Kd.S_far (p := ⟨gb768, 19, none⟩) (Kd.S_far (p := ⟨gb768, 18, none⟩) (Kd.S_far (p := ⟨gb768, 17, none⟩) (Kd.S_far (p := ⟨gb768, 16, none⟩) (Kd.S_far (p := ⟨gb768, 15, none⟩) (Kd.S_far (p := ⟨gb768, 14, none⟩) (Kd.S_far (p := ⟨gb768, 13, none⟩) (Kd.S_far (p := ⟨gb768, 12, none⟩) (Kd.S_far (p := ⟨gb768, 11, none⟩) (Kd.S_far (p := ⟨gb768, 10, none⟩) (Kd.S_far (p := ⟨gb768, 9, none⟩) (Kd.S_far (p := ⟨gb768, 8, none⟩) (Kd.S_far (p := ⟨gb768, 7, none⟩) (Kd.S_far (p := ⟨gb768, 6, none⟩) (Kd.S_far (p := ⟨gb768, 5, none⟩) (Kd.S_far (p := ⟨gb768, 4, none⟩) (Kd.S_far (p := ⟨gb768, 3, none⟩) (Kd.S_far (p := ⟨gb768, 2, none⟩) (Kd.S_far (p := ⟨gb768, 1, none⟩) (Kd.S_far (p := ⟨gb768, 0, none⟩) (Kd.S_types HO763.out BK768.out (by decide)) (fun _ hk => hk.2) (.int .i64 t702)) (fun _ hk => hk.2) (.int .i64 t703)) (fun _ hk => hk.2) (.int .i64 t704)) (fun _ hk => hk.2) (.int .i64 t705)) (fun _ hk => hk.2) (.int .i64 t706)) (fun _ hk => hk.2) (.slice Ao13 t707.length co13)) (fun _ hk => hk.2) (.slice Ao14 t710.length co14)) (fun _ hk => hk.2) (.bool t713)) (fun _ hk => hk.2) (.int .i64 t714)) (fun _ hk => hk.2) (.int .i64 t715)) (fun _ hk => hk.2) (.slice Ao15 t716.length co15)) (fun _ hk => hk.2) (.bool t719)) (fun _ hk => hk.2) (.int .i64 t720)) (fun _ hk => hk.2) (.int .i64 t721)) (fun _ hk => hk.2) (.slice Ao16 t722.length co16)) (fun _ hk => hk.2) (.int .i64 t725)) (fun _ hk => hk.2) (.int .i64 t726)) (fun _ hk => hk.2) (.int .i64 t727)) (fun _ hk => hk.2) (.int .i64 t728)) (fun _ hk => hk.2) (.slice Ao17 t729.length co17)) (fun _ hk => hk.2) (.bool t732)) (fun _ hk => hk.2) (.int .i64 t733)) (fun _ hk => hk.2) (.int .i64 t734)) (fun _ hk => hk.2) (.slice Ao18 t735.length co18)) (fun _ hk => hk.2) (.bool t738)) (fun _ hk => hk.2) (.int .i64 t739)) (fun _ hk => hk.2) (.int .i64 t740)) (fun _ hk => hk.2) (.slice Ao19 t741.length co19)) (fun _ hk => hk.2) (.int .i64 t744)) (fun _ hk => hk.2) (.slice Ao20 t745.length co20)) (fun _ hk => hk.2) (.slice Ao21 t748.length co21)) (fun _ hk => hk.2) (.slice Ao22 t751.length co22)) (fun _ hk => hk.2) (.int .i64 t754)) (fun _ hk => hk.2) (.int .i64 t755)) (fun _ hk => hk.2) (.slice Ao23 t756.length co23)) (fun _ hk => hk.2) (.int .i64 t759)) (fun _ hk => hk.2) (.int .i64 t760)) (fun _ hk => hk.2) (.slice Ao24 t761.length co24)) (fun _ hk => hk.2) (.slice Ao25 t764.length co25)) (fun _ hk => trivial)⟩
 have n12_ : Aside0 (Kd.R k190 190 w26 w.heap.size (fun _ => True) (.slice Ao25 t764.length co25) t764) := ⟨by rw [← hgw_]; exact rM (rf (Kd.R_types HO766.out BK768.out (by decide))) (fun _ hk => trivial)⟩
 have n13_ : Aside0 (w26.heap[gb768]? = some (.cells #[.int .i64 t702, .int .i64 t703, .int .i64 t704, .int .i64 t705, .int .i64 t706, .slice Ao13 t707.length co13, .slice Ao14 t710.length co14, .bool t713, .int .i64 t714, .int .i64 t715, .slice Ao15 t716.length co15, .bool t719, .int .i64 t720, .int .i64 t721, .slice Ao16 t722.length co16, .int .i64 t725, .int .i64 t726, .int .i64 t727, .int .i64 t728, .slice Ao17 t729.length co17, .bool t732, .int .i64 t733, .int .i64 t734, .slice Ao18 t735.length co18, .bool t738, .int .i64 t739, .int .i64 t740, .slice Ao19 t741.length co19, .int .i64 t744, .slice Ao20 t745.length co20, .slice Ao21 t748.length co21, .slice Ao22 t751.length co22, .int .i64 t754, .int .i64 t755, .slice Ao23 t756.length co23, .int .i64 t759, .int .i64 t760, .slice Ao24 t761.length co24, .slice Ao25 t764.length co25] 133 (0, 0))) := ⟨by rw [← hgw_]; exact fq BK768.out⟩
 have n14_ : Aside0 (IsS149 w w26 g701 t699 t767) := ⟨by rw [← hgw_]; repeat (first | (with_reducible first | exact HI701.out | apply IsS149.alloc | apply IsS149.drewN | apply IsS149.drew | apply IsS149.set_1 | refine IsS149.far ?_ NB701_768.out _) | exact HI701.out)⟩
 have n15_ : Aside0 (Below w.heap.size w w26) := ⟨by rw [← hgw_]; repeat (first | (with_reducible first | exact HB.out | apply bA | apply bN | apply bD | refine bS ?_ (IsS149.ge HI701.out) | refine bS ?_ GE768.out) | exact HB.out)⟩
 (try clear HO709)
 (try clear HO712)
 (try clear HO718)
 (try clear HO724)
 (try clear HO731)
 (try clear HO737)
 (try clear HO743)
 (try clear HO747)
 (try clear HO750)
 (try clear HO753)
 (try clear HO758)
 (try clear HO763)
 (try clear HO766)
 (try clear BK768)
 (try clear HI701)
 (try clear HB)
 clear hgw_
 have HO709 := n0_
 have HO712 := n1_
 have HO718 := n2_
 have HO724 := n3_
 have HO731 := n4_
 have HO737 := n5_
 have HO743 := n6_
 have HO747 := n7_
 have HO750 := n8_
 have HO753 := n9_
 have HO758 := n10_
 have HO763 := n11_
 have HO766 := n12_
 have BK768 := n13_
 have HI701 := n14_
 have HB := n15_
 clear n0_ n1_ n2_ n3_ n4_ n5_ n6_ n7_ n8_ n9_ n10_ n11_ n12_ n13_ n14_ n15_
 replace HO709 := aM (rD HO709.out)
 replace HO712 := aM (rD HO712.out)
 replace HO718 := aM (rD HO718.out)
 replace HO724 := aM (rD HO724.out)
 replace HO731 := aM (Kd.S_drew HO731.out)
 replace HO737 := aM (rD HO737.out)
 replace HO743 := aM (rD HO743.out)
 replace HO747 := aM (rD HO747.out)
 replace HO750 := aM (rD HO750.out)
 replace HO753 := aM (rD HO753.out)
 replace HO758 := aM (rD HO758.out)
 replace HO763 := aM (Kd.S_drew HO763.out)
 replace HO766 := aM (rD HO766.out)
 replace BK768 := aM (kD BK768.out)
 replace HI701 := aM (IsS149.drew HI701.out)
 replace HB := aM (bD HB.out)
 refine start_ (n := 12) (S := fun w' => True) (ds := []) #[N,N,N,N,N,N,N,N,N,N,N,N] kr rfl rfl trivial (fun hHeld => ?_); refine with_tabW spec_DrawStory.tab3 spec_DrawStory.bits3 (fun HT_ HW_ => ?_)
 generalize w26.drew = w27 at HO709 HO712 HO718 HO724 HO731 HO737 HO743 HO747 HO750 HO753 HO758 HO763 HO766 BK768 HI701 HB hHeld ⊢
 refine pp HT_ (N := some 17) 0 #[Y,N,N,N,N,N,N,N,N,N,N,N] ?_
 refine pp HT_ (N := some 18) 1 #[Y,Y,N,N,N,N,N,N,N,N,N,N] ?_
 refine pp HT_ (N := some 19) 2 #[Y,Y,Y,N,N,N,N,N,N,N,N,N] ?_
 refine pp HT_ (N := some 21) 4 #[Y,Y,Y,N,Y,N,N,N,N,N,N,N] ?_
 refine pp HT_ (N := some 24) 7 #[Y,Y,Y,N,Y,N,N,Y,N,N,N,N] ?_
 refine inv_at [3, 5, 6, 8, 9, 10, 11] (fun a0_ b a w' => ∃ (v770 : Value) (v775 : Value) (v780 : Value) (m11_ : Value), a = putSel a0_ b [(3, 20, .int .i64 t702), (5, 22, v770), (6, 23, .int .i64 t772), (8, 25, v775), (9, 26, .int .i64 t777), (10, 27, v780), (11, 11, m11_)] ∧ (Kd.R (Kd.int .i64) 2 w' w.heap.size (fun k_ => nS Ao14 t710 co14 k_ ∧ nS Ao15 t716 co15 k_ ∧ nS Ao16 t722 co16 k_ ∧ nS Ao18 t735 co18 k_ ∧ nS Ao19 t741 co19 k_ ∧ nS Ao20 t745 co20 k_ ∧ nS Ao21 t748 co21 k_ ∧ nS Ao22 t751 co22 k_ ∧ nS Ao23 t756 co23 k_) (.slice Ao13 t707.length co13) t707) ∧ (Kd.R (Kd.int .i64) 2 w' w.heap.size (fun k_ => nS Ao13 t707 co13 k_ ∧ nS Ao15 t716 co15 k_ ∧ nS Ao16 t722 co16 k_ ∧ nS Ao18 t735 co18 k_ ∧ nS Ao19 t741 co19 k_ ∧ nS Ao20 t745 co20 k_ ∧ nS Ao21 t748 co21 k_ ∧ nS Ao22 t751 co22 k_ ∧ nS Ao23 t756 co23 k_) (.slice Ao14 t710.length co14) t710) ∧ (Kd.R (Kd.int .i64) 2 w' w.heap.size (fun k_ => nS Ao13 t707 co13 k_ ∧ nS Ao14 t710 co14 k_ ∧ nS Ao16 t722 co16 k_ ∧ nS Ao18 t735 co18 k_ ∧ nS Ao19 t741 co19 k_ ∧ nS Ao20 t745 co20 k_ ∧ nS Ao21 t748 co21 k_ ∧ nS Ao22 t751 co22 k_ ∧ nS Ao23 t756 co23 k_) (.slice Ao15 t716.length co15) t716) ∧ (Kd.R (Kd.int .i64) 2 w' w.heap.size (fun k_ => nS Ao13 t707 co13 k_ ∧ nS Ao14 t710 co14 k_ ∧ nS Ao15 t716 co15 k_ ∧ nS Ao18 t735 co18 k_ ∧ nS Ao19 t741 co19 k_ ∧ nS Ao20 t745 co20 k_ ∧ nS Ao21 t748 co21 k_ ∧ nS Ao22 t751 co22 k_ ∧ nS Ao23 t756 co23 k_) (.slice Ao16 t722.length co16) t722) ∧ (Kd.S k183 183 w' w.heap.size (fun _ => True) (.slice Ao17 t729.length co17) t729) ∧ (Kd.R (Kd.int .i64) 2 w' w.heap.size (fun k_ => nS Ao13 t707 co13 k_ ∧ nS Ao14 t710 co14 k_ ∧ nS Ao15 t716 co15 k_ ∧ nS Ao16 t722 co16 k_ ∧ nS Ao19 t741 co19 k_ ∧ nS Ao20 t745 co20 k_ ∧ nS Ao21 t748 co21 k_ ∧ nS Ao22 t751 co22 k_ ∧ nS Ao23 t756 co23 k_) (.slice Ao18 t735.length co18) t735) ∧ (Kd.R (Kd.int .i64) 2 w' w.heap.size (fun k_ => nS Ao13 t707 co13 k_ ∧ nS Ao14 t710 co14 k_ ∧ nS Ao15 t716 co15 k_ ∧ nS Ao16 t722 co16 k_ ∧ nS Ao18 t735 co18 k_ ∧ nS Ao20 t745 co20 k_ ∧ nS Ao21 t748 co21 k_ ∧ nS Ao22 t751 co22 k_ ∧ nS Ao23 t756 co23 k_) (.slice Ao19 t741.length co19) t741) ∧ (Kd.R (Kd.int .i64) 2 w' w.heap.size (fun k_ => nS Ao13 t707 co13 k_ ∧ nS Ao14 t710 co14 k_ ∧ nS Ao15 t716 co15 k_ ∧ nS Ao16 t722 co16 k_ ∧ nS Ao18 t735 co18 k_ ∧ nS Ao19 t741 co19 k_ ∧ nS Ao21 t748 co21 k_ ∧ nS Ao22 t751 co22 k_ ∧ nS Ao23 t756 co23 k_) (.slice Ao20 t745.length co20) t745) ∧ (Kd.R (Kd.int .i64) 2 w' w.heap.size (fun k_ => nS Ao13 t707 co13 k_ ∧ nS Ao14 t710 co14 k_ ∧ nS Ao15 t716 co15 k_ ∧ nS Ao16 t722 co16 k_ ∧ nS Ao18 t735 co18 k_ ∧ nS Ao19 t741 co19 k_ ∧ nS Ao20 t745 co20 k_ ∧ nS Ao22 t751 co22 k_ ∧ nS Ao23 t756 co23 k_) (.slice Ao21 t748.length co21) t748) ∧ (Kd.R (Kd.int .i64) 2 w' w.heap.size (fun k_ => nS Ao13 t707 co13 k_ ∧ nS Ao14 t710 co14 k_ ∧ nS Ao15 t716 co15 k_ ∧ nS Ao16 t722 co16 k_ ∧ nS Ao18 t735 co18 k_ ∧ nS Ao19 t741 co19 k_ ∧ nS Ao20 t745 co20 k_ ∧ nS Ao21 t748 co21 k_ ∧ nS Ao23 t756 co23 k_) (.slice Ao22 t751.length co22) t751) ∧ (Kd.R (Kd.int .i64) 2 w' w.heap.size (fun k_ => nS Ao13 t707 co13 k_ ∧ nS Ao14 t710 co14 k_ ∧ nS Ao15 t716 co15 k_ ∧ nS Ao16 t722 co16 k_ ∧ nS Ao18 t735 co18 k_ ∧ nS Ao19 t741 co19 k_ ∧ nS Ao20 t745 co20 k_ ∧ nS Ao21 t748 co21 k_ ∧ nS Ao22 t751 co22 k_) (.slice Ao23 t756.length co23) t756) ∧ (Kd.S k186 186 w' w.heap.size (fun _ => True) (.slice Ao24 t761.length co24) t761) ∧ (Kd.R k190 190 w' w.heap.size (fun _ => True) (.slice Ao25 t764.length co25) t764) ∧ (w'.heap[gb768]? = some (.cells #[.int .i64 t702, .int .i64 t703, .int .i64 t704, .int .i64 t705, .int .i64 t706, .slice Ao13 t707.length co13, .slice Ao14 t710.length co14, .bool t713, .int .i64 t714, .int .i64 t715, .slice Ao15 t716.length co15, .bool t719, .int .i64 t720, .int .i64 t721, .slice Ao16 t722.length co16, .int .i64 t725, .int .i64 t726, .int .i64 t727, .int .i64 t728, .slice Ao17 t729.length co17, .bool t732, .int .i64 t733, .int .i64 t734, .slice Ao18 t735.length co18, .bool t738, .int .i64 t739, .int .i64 t740, .slice Ao19 t741.length co19, .int .i64 t744, .slice Ao20 t745.length co20, .slice Ao21 t748.length co21, .slice Ao22 t751.length co22, .int .i64 t754, .int .i64 t755, .slice Ao23 t756.length co23, .int .i64 t759, .int .i64 t760, .slice Ao24 t761.length co24, .slice Ao25 t764.length co25] 133 (0, 0))) ∧ (b 6 = false → IsS149 w w' g701 t699 t767) ∧ (Below w.heap.size w w') ∧ (b 5 = true → Kd.R (Kd.int .i64) 2 w' w.heap.size (fun k_ => nS Ao13 t707 co13 k_ ∧ nS Ao14 t710 co14 k_ ∧ nS Ao15 t716 co15 k_ ∧ nS Ao16 t722 co16 k_ ∧ nS Ao18 t735 co18 k_ ∧ nS Ao19 t741 co19 k_ ∧ nS Ao20 t745 co20 k_ ∧ nS Ao21 t748 co21 k_ ∧ nS Ao22 t751 co22 k_ ∧ nS Ao23 t756 co23 k_) v770 y769) ∧ (b 6 = true → b 9 = false → IsS149 w w' g701 t699 t773) ∧ (b 8 = true → Kd.R (Kd.int .i64) 2 w' w.heap.size (fun k_ => nS Ao13 t707 co13 k_ ∧ nS Ao14 t710 co14 k_ ∧ nS Ao15 t716 co15 k_ ∧ nS Ao16 t722 co16 k_ ∧ nS Ao18 t735 co18 k_ ∧ nS Ao19 t741 co19 k_ ∧ nS Ao20 t745 co20 k_ ∧ nS Ao21 t748 co21 k_ ∧ nS Ao22 t751 co22 k_ ∧ nS Ao23 t756 co23 k_) v775 y774) ∧ (b 9 = true → b 10 = false → IsS149 w w' g701 t699 t778) ∧ (b 10 = true → Kd.S k84 84 w' w.heap.size (fun k_ => nS Ao13 t707 co13 k_ ∧ nS Ao14 t710 co14 k_ ∧ nS Ao15 t716 co15 k_ ∧ nS Ao16 t722 co16 k_ ∧ nS Ao18 t735 co18 k_ ∧ nS Ao19 t741 co19 k_ ∧ nS Ao20 t745 co20 k_ ∧ nS Ao21 t748 co21 k_ ∧ nS Ao22 t751 co22 k_ ∧ nS Ao23 t756 co23 k_) v780 t779) ∧ (b 10 = true → IsS149 w w' g701 t699 t782) ∧ (b 11 = true → (m11_ : Value) = v780)) HT_.out HW_.out kr kr ?_ ?_ ?_
 ·exact ⟨.bool false, .bool false, .bool false, .bool false, by simp only [putSel, Bool.false_eq_true, if_false], HO709.out, HO712.out, HO718.out, HO724.out, HO731.out, HO737.out, HO743.out, HO747.out, HO750.out, HO753.out, HO758.out, HO763.out, HO766.out, BK768.out, fun _ => HI701.out, HB.out, fun h_ => absurd h_ (by decide), fun h_ => absurd h_ (by decide), fun h_ => absurd h_ (by decide), fun h_ => absurd h_ (by decide), fun h_ => absurd h_ (by decide), fun h_ => absurd h_ (by decide), fun h_ => absurd h_ (by decide)⟩
 ·skip
  clear BK768 HB HI701 HO709 HO712 HO718 HO724 HO731 HO737 HO743 HO747 HO750 HO753 HO758 HO763 HO766
  refine steps_cons ?_ ?_
  ·rintro b a w' ⟨v770, v775, v780, m11_, ha, Q_HO709, Q_HO712, Q_HO718, Q_HO724, Q_HO731, Q_HO737, Q_HO743, Q_HO747, Q_HO750, Q_HO753, Q_HO758, Q_HO763, Q_HO766, Q_BK768, Q_HI701, Q_HB, Q_HO771, Q_HI701_e6, Q_HO776, Q_HI701_e9, Q_HO781, Q_HI701_e10, Q_X11_⟩ hb_ hon hoff
   refine ⟨_, rfl, fun K hK => ?_⟩
   have e19 : a.tmps[19]? = some (.pointer (some ⟨gb768, 0, none⟩)) := by rw [ha]; exact (putSel_off rfl).trans rfl
   replace ha := aM ha
   have HO709 := aM Q_HO709
   have HO712 := aM Q_HO712
   have HO718 := aM Q_HO718
   have HO724 := aM Q_HO724
   have HO731 := aM Q_HO731
   have HO737 := aM Q_HO737
   have HO743 := aM Q_HO743
   have HO747 := aM Q_HO747
   have HO750 := aM Q_HO750
   have HO753 := aM Q_HO753
   have HO758 := aM Q_HO758
   have HO763 := aM Q_HO763
   have HO766 := aM Q_HO766
   have BK768 := aM Q_BK768
   have HB := aM Q_HB
   have hc0_ : w'.cell? ⟨gb768, 0, none⟩ = some (.int .i64 t702) := cc
   have hc1_ : w'.cell? ⟨gb768, 1, none⟩ = some (.int .i64 t703) := cc
   have hc2_ : w'.cell? ⟨gb768, 2, none⟩ = some (.int .i64 t704) := cc
   have hc3_ : w'.cell? ⟨gb768, 3, none⟩ = some (.int .i64 t705) := cc
   have hc4_ : w'.cell? ⟨gb768, 4, none⟩ = some (.int .i64 t706) := cc
   have hc5_ : w'.cell? ⟨gb768, 5, none⟩ = some (.slice Ao13 t707.length co13) := cc
   have hc6_ : w'.cell? ⟨gb768, 6, none⟩ = some (.slice Ao14 t710.length co14) := cc
   have hc7_ : w'.cell? ⟨gb768, 7, none⟩ = some (.bool t713) := cc
   have hc8_ : w'.cell? ⟨gb768, 8, none⟩ = some (.int .i64 t714) := cc
   have hc9_ : w'.cell? ⟨gb768, 9, none⟩ = some (.int .i64 t715) := cc
   have hc10_ : w'.cell? ⟨gb768, 10, none⟩ = some (.slice Ao15 t716.length co15) := cc
   have hc11_ : w'.cell? ⟨gb768, 11, none⟩ = some (.bool t719) := cc
   have hc12_ : w'.cell? ⟨gb768, 12, none⟩ = some (.int .i64 t720) := cc
   have hc13_ : w'.cell? ⟨gb768, 13, none⟩ = some (.int .i64 t721) := cc
   have hc14_ : w'.cell? ⟨gb768, 14, none⟩ = some (.slice Ao16 t722.length co16) := cc
   have hc15_ : w'.cell? ⟨gb768, 15, none⟩ = some (.int .i64 t725) := cc
   have hc16_ : w'.cell? ⟨gb768, 16, none⟩ = some (.int .i64 t726) := cc
   have hc17_ : w'.cell? ⟨gb768, 17, none⟩ = some (.int .i64 t727) := cc
   have hc18_ : w'.cell? ⟨gb768, 18, none⟩ = some (.int .i64 t728) := cc
   have hc19_ : w'.cell? ⟨gb768, 19, none⟩ = some (.slice Ao17 t729.length co17) := cc
   have hc20_ : w'.cell? ⟨gb768, 20, none⟩ = some (.bool t732) := cc
   have hc21_ : w'.cell? ⟨gb768, 21, none⟩ = some (.int .i64 t733) := cc
   have hc22_ : w'.cell? ⟨gb768, 22, none⟩ = some (.int .i64 t734) := cc
   have hc23_ : w'.cell? ⟨gb768, 23, none⟩ = some (.slice Ao18 t735.length co18) := cc
   have hc24_ : w'.cell? ⟨gb768, 24, none⟩ = some (.bool t738) := cc
   have hc25_ : w'.cell? ⟨gb768, 25, none⟩ = some (.int .i64 t739) := cc
   have hc26_ : w'.cell? ⟨gb768, 26, none⟩ = some (.int .i64 t740) := cc
   have hc27_ : w'.cell? ⟨gb768, 27, none⟩ = some (.slice Ao19 t741.length co19) := cc
   have hc28_ : w'.cell? ⟨gb768, 28, none⟩ = some (.int .i64 t744) := cc
   have hc29_ : w'.cell? ⟨gb768, 29, none⟩ = some (.slice Ao20 t745.length co20) := cc
   have hc30_ : w'.cell? ⟨gb768, 30, none⟩ = some (.slice Ao21 t748.length co21) := cc
   have hc31_ : w'.cell? ⟨gb768, 31, none⟩ = some (.slice Ao22 t751.length co22) := cc
   have hc32_ : w'.cell? ⟨gb768, 32, none⟩ = some (.int .i64 t754) := cc
   have hc33_ : w'.cell? ⟨gb768, 33, none⟩ = some (.int .i64 t755) := cc
   have hc34_ : w'.cell? ⟨gb768, 34, none⟩ = some (.slice Ao23 t756.length co23) := cc
   have hc35_ : w'.cell? ⟨gb768, 35, none⟩ = some (.int .i64 t759) := cc
   have hc36_ : w'.cell? ⟨gb768, 36, none⟩ = some (.int .i64 t760) := cc
   have hc37_ : w'.cell? ⟨gb768, 37, none⟩ = some (.slice Ao24 t761.length co24) := cc
   have hc38_ : w'.cell? ⟨gb768, 38, none⟩ = some (.slice Ao25 t764.length co25) := cc
   refine value_ (w1 := w') (v := .int .i64 t702) (by rfl) rfl ?_ ?_
   ·go_simp
    (try simp only [i64_w])
    try rfl
   refine hK.out _ _ ⟨v770, v775, v780, m11_, (by rw [ha.out]; exact putSel_upk 0 hb_ rfl rfl rfl), Q_HO709, Q_HO712, Q_HO718, Q_HO724, Q_HO731, Q_HO737, Q_HO743, Q_HO747, Q_HO750, Q_HO753, Q_HO758, Q_HO763, Q_HO766, Q_BK768, Q_HI701, Q_HB, Q_HO771, Q_HI701_e6, Q_HO776, Q_HI701_e9, fun h0_ => absurd ((hoff 10 kr).symm.trans h0_) (by decide), fun h0_ => absurd ((hoff 10 kr).symm.trans h0_) (by decide), fun h0_ => absurd ((hoff 11 kr).symm.trans h0_) (by decide)⟩
  refine steps_cons ?_ ?_
  ·rintro b a w' ⟨v770, v775, v780, m11_, ha, Q_HO709, Q_HO712, Q_HO718, Q_HO724, Q_HO731, Q_HO737, Q_HO743, Q_HO747, Q_HO750, Q_HO753, Q_HO758, Q_HO763, Q_HO766, Q_BK768, Q_HI701, Q_HB, Q_HO771, Q_HI701_e6, Q_HO776, Q_HI701_e9, Q_HO781, Q_HI701_e10, Q_X11_⟩ hb_ hon hoff
   refine ⟨_, rfl, fun K hK => ?_⟩
   replace ha := aM ha
   have HO709 := aM Q_HO709
   have HO712 := aM Q_HO712
   have HO718 := aM Q_HO718
   have HO724 := aM Q_HO724
   have HO731 := aM Q_HO731
   have HO737 := aM Q_HO737
   have HO743 := aM Q_HO743
   have HO747 := aM Q_HO747
   have HO750 := aM Q_HO750
   have HO753 := aM Q_HO753
   have HO758 := aM Q_HO758
   have HO763 := aM Q_HO763
   have HO766 := aM Q_HO766
   have BK768 := aM Q_BK768
   have HI701 := aM (Q_HI701 (hoff 6 kr))
   have HB := aM Q_HB
   refine Kd.R_lit_step (Kd.int .i64) _ 2 ?hg (N := 22) ?hd (xs := ([3, 6, 9, 12, 16] : List Int)) (inner := [.int .i64 3, .int .i64 6, .int .i64 9, .int .i64 12, .int .i64 16]) (ok := fun _ => True) (okp := fun _ => True) ?hr ?hp (fun _ hk => hk) trivial (Below.refl _ _) (Nat.le_refl _) (by simp) ?_; (case hd => rfl); (case hg => rfl); (case hr => first | (go_simp; done) | (go_simp; rfl)); (case hp => exact (Reps.one (show Kd.M (Kd.int .i64) _ _ _ 3 [.int .i64 3] from rfl) (Reps.one (show Kd.M (Kd.int .i64) _ _ _ 6 [.int .i64 6] from rfl) (Reps.one (show Kd.M (Kd.int .i64) _ _ _ 9 [.int .i64 9] from rfl) (Reps.one (show Kd.M (Kd.int .i64) _ _ _ 12 [.int .i64 12] from rfl) (Reps.one (show Kd.M (Kd.int .i64) _ _ _ 16 [.int .i64 16] from rfl) (Reps.none _ _)))))))
   intro v770 w28 ho29 hb hg_ hnew_
   clear hg_ hnew_
   (first | rw [← Ny769.out] at ho29 | (simp only [Int.reduceToNat] at ho29; rw [← Ny769.out] at ho29))
   have n0_ := aM (rH (rq HO709.out) (rB ho29) hb)
   have n1_ := aM (rH (rq HO712.out) (rB ho29) hb)
   have n2_ := aM (rH (rq HO718.out) (rB ho29) hb)
   have n3_ := aM (rH (rq HO724.out) (rB ho29) hb)
   have n4_ := aM (Kd.S_below (by (with_reducible repeat (first | apply Kd.S_alloc | apply Kd.S_drewN | apply Kd.S_drew)); exact HO731.out) hb)
   have n5_ := aM (rH (rq HO737.out) (rB ho29) hb)
   have n6_ := aM (rH (rq HO743.out) (rB ho29) hb)
   have n7_ := aM (rH (rq HO747.out) (rB ho29) hb)
   have n8_ := aM (rH (rq HO750.out) (rB ho29) hb)
   have n9_ := aM (rH (rq HO753.out) (rB ho29) hb)
   have n10_ := aM (rH (rq HO758.out) (rB ho29) hb)
   have n11_ := aM (Kd.S_below (by (with_reducible repeat (first | apply Kd.S_alloc | apply Kd.S_drewN | apply Kd.S_drew)); exact HO763.out) hb)
   have n12_ := aM (rL (rq HO766.out) hb)
   have n13_ := aM (rG (rW (rW (rW (rW (rW (rW (rW (rW (rW (rW ho29 (rT (rq HO709.out))) (rT (rq HO712.out))) (rT (rq HO718.out))) (rT (rq HO724.out))) (rT (rq HO737.out))) (rT (rq HO743.out))) (rT (rq HO747.out))) (rT (rq HO750.out))) (rT (rq HO753.out))) (rT (rq HO758.out))) (bZ bq))
   have n14_ := aM (IsS149.below (sq HI701.out) hb)
   have n15_ := aM (kB (kq BK768.out) hb)
   have n16_ := aM (bT bq hb)
   have z_HO776 := fun (h0_ : b 8 = true) => (show Kd.R (Kd.int .i64) 2 w28 w.heap.size (fun k_ => nS Ao13 t707 co13 k_ ∧ nS Ao14 t710 co14 k_ ∧ nS Ao15 t716 co15 k_ ∧ nS Ao16 t722 co16 k_ ∧ nS Ao18 t735 co18 k_ ∧ nS Ao19 t741 co19 k_ ∧ nS Ao20 t745 co20 k_ ∧ nS Ao21 t748 co21 k_ ∧ nS Ao22 t751 co22 k_ ∧ nS Ao23 t756 co23 k_) v775 y774 from by first | exact (rH (rq ((Q_HO776 h0_))) (rB ho29) hb) | exact rM (rH (rq ((Q_HO776 h0_))) (rB ho29) hb) (fun _ h_ => by first | trivial | exact h_ | exact h_.1))
   clear HO709 HO712 HO718 HO724 HO731 HO737 HO743 HO747 HO750 HO753 HO758 HO763 HO766 HI701 BK768 HB
   have HO709 := n0_
   have HO712 := n1_
   have HO718 := n2_
   have HO724 := n3_
   have HO731 := n4_
   have HO737 := n5_
   have HO743 := n6_
   have HO747 := n7_
   have HO750 := n8_
   have HO753 := n9_
   have HO758 := n10_
   have HO763 := n11_
   have HO766 := n12_
   have HO771 := n13_
   have HI701 := n14_
   have BK768 := n15_
   have HB := n16_
   clear n0_ n1_ n2_ n3_ n4_ n5_ n6_ n7_ n8_ n9_ n10_ n11_ n12_ n13_ n14_ n15_ n16_ hb ho29
   refine hK.out _ _ ⟨v770, v775, v780, m11_, (by rw [ha.out]; exact putSel_upk 1 hb_ rfl rfl rfl), (rq (rM HO709.out jq)), (rq (rM HO712.out jq)), (rq (rM HO718.out jq)), (rq (rM HO724.out jq)), (by (with_reducible repeat (first | apply Kd.S_alloc | apply Kd.S_drewN | apply Kd.S_drew)); exact HO731.out), (rq (rM HO737.out jq)), (rq (rM HO743.out jq)), (rq (rM HO747.out jq)), (rq (rM HO750.out jq)), (rq (rM HO753.out jq)), (rq (rM HO758.out jq)), (by (with_reducible repeat (first | apply Kd.S_alloc | apply Kd.S_drewN | apply Kd.S_drew)); exact HO763.out), (rq HO766.out), (kq BK768.out), fun _ => (sq HI701.out), bq, fun _ => (rq (rM HO771.out jq)), fun h0_ _ => absurd ((hoff 6 kr).symm.trans h0_) (by decide), z_HO776, fun h0_ _ => absurd ((hoff 9 kr).symm.trans h0_) (by decide), fun h0_ => absurd ((hoff 10 kr).symm.trans h0_) (by decide), fun h0_ => absurd ((hoff 10 kr).symm.trans h0_) (by decide), fun h0_ => absurd ((hoff 11 kr).symm.trans h0_) (by decide)⟩
  refine steps_cons ?_ ?_
  ·rintro b a w' ⟨v770, v775, v780, m11_, ha, Q_HO709, Q_HO712, Q_HO718, Q_HO724, Q_HO731, Q_HO737, Q_HO743, Q_HO747, Q_HO750, Q_HO753, Q_HO758, Q_HO763, Q_HO766, Q_BK768, Q_HI701, Q_HB, Q_HO771, Q_HI701_e6, Q_HO776, Q_HI701_e9, Q_HO781, Q_HI701_e10, Q_X11_⟩ hb_ hon hoff
   refine ⟨_, rfl, fun K hK => ?_⟩
   have e21 : a.tmps[21]? = some (.pointer (some ⟨g701, 0, none⟩)) := by rw [ha]; exact (putSel_off rfl).trans rfl
   have e22 : a.tmps[22]? = some (v770) := by rw [ha]; exact putSel_on (e := (5, 22, v770)) 1 rfl rfl (hon 5 kr) rfl
   replace ha := aM ha
   have HO709 := aM Q_HO709
   have HO712 := aM Q_HO712
   have HO718 := aM Q_HO718
   have HO724 := aM Q_HO724
   have HO731 := aM Q_HO731
   have HO737 := aM Q_HO737
   have HO743 := aM Q_HO743
   have HO747 := aM Q_HO747
   have HO750 := aM Q_HO750
   have HO753 := aM Q_HO753
   have HO758 := aM Q_HO758
   have HO763 := aM Q_HO763
   have HO766 := aM Q_HO766
   have BK768 := aM Q_BK768
   have HI701 := aM (Q_HI701 hb_)
   have HB := aM Q_HB
   have HO771 := aM (Q_HO771 (hon 5 kr))
   obtain ⟨Ao31, co31, eo31⟩ := Kd.R_slice HO771.out
   (first | subst eo31 | (injection eo31 with f1_ f2_ f3_; have f4_ := f1_.symm; have f5_ := f3_.symm; clear f1_ f2_ f3_; subst f4_; subst f5_))
   refine goes_ Try.func86 kr rfl #[.pointer (some ⟨g701, 0, none⟩), .slice Ao31 y769.length co31] (by rfl) rfl rfl (by first | (simp only [List.map_toArray, List.map_cons, List.map_nil, Act.eval, Array.getD_eq_getD_getElem?, Option.getD_some, e21, e22]; done) | (simp only [List.map_toArray, List.map_cons, List.map_nil, Act.eval, Array.getD_eq_getD_getElem?, Option.getD_some, e21, e22]; rfl)) ?_
   with_reducible refine (spec_l1Pick.calls g701 t699 t767 _ _ y769 t772 t773 w _ ?side1 ?side2 ?side3 ?side4 ?side5 A5.out).mono ?_
   (case side1 => exact sq HI701.out)
   (case side2 => exact bq)
   (case side3 => exact cq (rR HO771.out).2.2)
   (case side4 => exact (rR HO771.out).2.1)
   (case side5 => exact far_slice (IsS149.own_ne HI701.out HO771.out (by decide)))
   rintro e w32 ⟨rfl, hi, hb, hk⟩
   refine ⟨_, rfl, ?_⟩
   have n0_ := aM (rM (Kd.R_keep (IsS149.apart (show IsS149 w _ g701 t699 t767 from sq HI701.out) (rq HO709.out) (by decide)) hk (fun _ h => h.2)) (fun _ h => h.1))
   have n1_ := aM (rM (Kd.R_keep (IsS149.apart (show IsS149 w _ g701 t699 t767 from sq HI701.out) (rq HO712.out) (by decide)) hk (fun _ h => h.2)) (fun _ h => h.1))
   have n2_ := aM (rM (Kd.R_keep (IsS149.apart (show IsS149 w _ g701 t699 t767 from sq HI701.out) (rq HO718.out) (by decide)) hk (fun _ h => h.2)) (fun _ h => h.1))
   have n3_ := aM (rM (Kd.R_keep (IsS149.apart (show IsS149 w _ g701 t699 t767 from sq HI701.out) (rq HO724.out) (by decide)) hk (fun _ h => h.2)) (fun _ h => h.1))
   have n4_ := aM (Kd.S_mono (Kd.S_keep (IsS149.apartS (show IsS149 w _ g701 t699 t767 from sq HI701.out) (by (with_reducible repeat (first | apply Kd.S_alloc | apply Kd.S_drewN | apply Kd.S_drew)); exact HO731.out) (by decide)) hk (fun _ h => h.2)) (fun _ h => h.1))
   have n5_ := aM (rM (Kd.R_keep (IsS149.apart (show IsS149 w _ g701 t699 t767 from sq HI701.out) (rq HO737.out) (by decide)) hk (fun _ h => h.2)) (fun _ h => h.1))
   have n6_ := aM (rM (Kd.R_keep (IsS149.apart (show IsS149 w _ g701 t699 t767 from sq HI701.out) (rq HO743.out) (by decide)) hk (fun _ h => h.2)) (fun _ h => h.1))
   have n7_ := aM (rM (Kd.R_keep (IsS149.apart (show IsS149 w _ g701 t699 t767 from sq HI701.out) (rq HO747.out) (by decide)) hk (fun _ h => h.2)) (fun _ h => h.1))
   have n8_ := aM (rM (Kd.R_keep (IsS149.apart (show IsS149 w _ g701 t699 t767 from sq HI701.out) (rq HO750.out) (by decide)) hk (fun _ h => h.2)) (fun _ h => h.1))
   have n9_ := aM (rM (Kd.R_keep (IsS149.apart (show IsS149 w _ g701 t699 t767 from sq HI701.out) (rq HO753.out) (by decide)) hk (fun _ h => h.2)) (fun _ h => h.1))
   have n10_ := aM (rM (Kd.R_keep (IsS149.apart (show IsS149 w _ g701 t699 t767 from sq HI701.out) (rq HO758.out) (by decide)) hk (fun _ h => h.2)) (fun _ h => h.1))
   have n11_ := aM (Kd.S_mono (Kd.S_keep (IsS149.apartS (show IsS149 w _ g701 t699 t767 from sq HI701.out) (by (with_reducible repeat (first | apply Kd.S_alloc | apply Kd.S_drewN | apply Kd.S_drew)); exact HO763.out) (by decide)) hk (fun _ h => h.2)) (fun _ h => h.1))
   have n12_ := aM (rM (Kd.R_keep (IsS149.apart (show IsS149 w _ g701 t699 t767 from sq HI701.out) (rq HO766.out) (by decide)) hk (fun _ h => h.2)) (fun _ h => h.1))
   have n13_ := aM (KeepBut.blk hk (kq BK768.out) NB768_701.out (by simp))
   have n14_ := aM (rM (Kd.R_keep (IsS149.apart (show IsS149 w _ g701 t699 t767 from sq HI701.out) (rq HO771.out) (by decide)) hk (fun _ h => h.2)) (fun _ h => h.1))
   have n15_ := aM (hb)
   have n16_ := aM (hi)
   have z_HO776 := fun (h0_ : b 8 = true) => (show Kd.R (Kd.int .i64) 2 w32 w.heap.size (fun k_ => nS Ao13 t707 co13 k_ ∧ nS Ao14 t710 co14 k_ ∧ nS Ao15 t716 co15 k_ ∧ nS Ao16 t722 co16 k_ ∧ nS Ao18 t735 co18 k_ ∧ nS Ao19 t741 co19 k_ ∧ nS Ao20 t745 co20 k_ ∧ nS Ao21 t748 co21 k_ ∧ nS Ao22 t751 co22 k_ ∧ nS Ao23 t756 co23 k_) v775 y774 from by first | exact (rM (Kd.R_keep (IsS149.apart (show IsS149 w _ g701 t699 t767 from sq HI701.out) (rq ((Q_HO776 h0_))) (by decide)) hk (fun _ h => h.2)) (fun _ h => h.1)) | exact rM (rM (Kd.R_keep (IsS149.apart (show IsS149 w _ g701 t699 t767 from sq HI701.out) (rq ((Q_HO776 h0_))) (by decide)) hk (fun _ h => h.2)) (fun _ h => h.1)) (fun _ h_ => by first | trivial | exact h_ | exact h_.1))
   clear HO709 HO712 HO718 HO724 HO731 HO737 HO743 HO747 HO750 HO753 HO758 HO763 HO766 BK768 HO771 HB HI701
   have HO709 := n0_
   have HO712 := n1_
   have HO718 := n2_
   have HO724 := n3_
   have HO731 := n4_
   have HO737 := n5_
   have HO743 := n6_
   have HO747 := n7_
   have HO750 := n8_
   have HO753 := n9_
   have HO758 := n10_
   have HO763 := n11_
   have HO766 := n12_
   have BK768 := n13_
   have HO771 := n14_
   have HB := n15_
   have HI701 := n16_
   clear n0_ n1_ n2_ n3_ n4_ n5_ n6_ n7_ n8_ n9_ n10_ n11_ n12_ n13_ n14_ n15_ n16_
   (try clear hb)
   (try clear hb2)
   (try clear hk)
   (try clear hi)
   refine hK.out _ _ ⟨.slice Ao31 y769.length co31, v775, v780, m11_, (by rw [ha.out]; exact putSel_upk 2 hb_ rfl rfl rfl), (rq HO709.out), (rq HO712.out), (rq HO718.out), (rq HO724.out), (by (with_reducible repeat (first | apply Kd.S_alloc | apply Kd.S_drewN | apply Kd.S_drew)); exact HO731.out), (rq HO737.out), (rq HO743.out), (rq HO747.out), (rq HO750.out), (rq HO753.out), (rq HO758.out), (by (with_reducible repeat (first | apply Kd.S_alloc | apply Kd.S_drewN | apply Kd.S_drew)); exact HO763.out), (rq HO766.out), (kq BK768.out), fun h0_ => absurd ((up_self b 6).symm.trans h0_) (by decide), bq, fun _ => (rq HO771.out), fun _ _ => (sq HI701.out), z_HO776, fun h0_ _ => absurd ((hoff 9 kr).symm.trans h0_) (by decide), fun h0_ => absurd ((hoff 10 kr).symm.trans h0_) (by decide), fun h0_ => absurd ((hoff 10 kr).symm.trans h0_) (by decide), fun h0_ => absurd ((hoff 11 kr).symm.trans h0_) (by decide)⟩
  refine steps_cons ?_ ?_
  ·rintro b a w' ⟨v770, v775, v780, m11_, ha, Q_HO709, Q_HO712, Q_HO718, Q_HO724, Q_HO731, Q_HO737, Q_HO743, Q_HO747, Q_HO750, Q_HO753, Q_HO758, Q_HO763, Q_HO766, Q_BK768, Q_HI701, Q_HB, Q_HO771, Q_HI701_e6, Q_HO776, Q_HI701_e9, Q_HO781, Q_HI701_e10, Q_X11_⟩ hb_ hon hoff
   refine ⟨_, rfl, fun K hK => ?_⟩
   replace ha := aM ha
   have HO709 := aM Q_HO709
   have HO712 := aM Q_HO712
   have HO718 := aM Q_HO718
   have HO724 := aM Q_HO724
   have HO731 := aM Q_HO731
   have HO737 := aM Q_HO737
   have HO743 := aM Q_HO743
   have HO747 := aM Q_HO747
   have HO750 := aM Q_HO750
   have HO753 := aM Q_HO753
   have HO758 := aM Q_HO758
   have HO763 := aM Q_HO763
   have HO766 := aM Q_HO766
   have BK768 := aM Q_BK768
   have HB := aM Q_HB
   refine Kd.R_lit_step (Kd.int .i64) _ 2 ?hg (N := 25) ?hd (xs := ([4, 7, 9, 10] : List Int)) (inner := [.int .i64 4, .int .i64 7, .int .i64 9, .int .i64 10]) (ok := fun _ => True) (okp := fun _ => True) ?hr ?hp (fun _ hk => hk) trivial (Below.refl _ _) (Nat.le_refl _) (by simp) ?_; (case hd => rfl); (case hg => rfl); (case hr => first | (go_simp; done) | (go_simp; rfl)); (case hp => exact (Reps.one (show Kd.M (Kd.int .i64) _ _ _ 4 [.int .i64 4] from rfl) (Reps.one (show Kd.M (Kd.int .i64) _ _ _ 7 [.int .i64 7] from rfl) (Reps.one (show Kd.M (Kd.int .i64) _ _ _ 9 [.int .i64 9] from rfl) (Reps.one (show Kd.M (Kd.int .i64) _ _ _ 10 [.int .i64 10] from rfl) (Reps.none _ _))))))
   intro v775 w28 ho29 hb hg_ hnew_
   clear hg_ hnew_
   (first | rw [← Ny774.out] at ho29 | (simp only [Int.reduceToNat] at ho29; rw [← Ny774.out] at ho29))
   have n0_ := aM (rH (rq HO709.out) (rB ho29) hb)
   have n1_ := aM (rH (rq HO712.out) (rB ho29) hb)
   have n2_ := aM (rH (rq HO718.out) (rB ho29) hb)
   have n3_ := aM (rH (rq HO724.out) (rB ho29) hb)
   have n4_ := aM (Kd.S_below (by (with_reducible repeat (first | apply Kd.S_alloc | apply Kd.S_drewN | apply Kd.S_drew)); exact HO731.out) hb)
   have n5_ := aM (rH (rq HO737.out) (rB ho29) hb)
   have n6_ := aM (rH (rq HO743.out) (rB ho29) hb)
   have n7_ := aM (rH (rq HO747.out) (rB ho29) hb)
   have n8_ := aM (rH (rq HO750.out) (rB ho29) hb)
   have n9_ := aM (rH (rq HO753.out) (rB ho29) hb)
   have n10_ := aM (rH (rq HO758.out) (rB ho29) hb)
   have n11_ := aM (Kd.S_below (by (with_reducible repeat (first | apply Kd.S_alloc | apply Kd.S_drewN | apply Kd.S_drew)); exact HO763.out) hb)
   have n12_ := aM (rL (rq HO766.out) hb)
   have n13_ := aM (rG (rW (rW (rW (rW (rW (rW (rW (rW (rW (rW ho29 (rT (rq HO709.out))) (rT (rq HO712.out))) (rT (rq HO718.out))) (rT (rq HO724.out))) (rT (rq HO737.out))) (rT (rq HO743.out))) (rT (rq HO747.out))) (rT (rq HO750.out))) (rT (rq HO753.out))) (rT (rq HO758.out))) (bZ bq))
   have n15_ := aM (kB (kq BK768.out) hb)
   have n16_ := aM (bT bq hb)
   have z_HI701 := fun (h0_ : b 6 = false) => (show IsS149 w w28 g701 t699 t767 from by first | exact (IsS149.below (by repeat (first | (with_reducible first | exact (Q_HI701 h0_) | apply IsS149.alloc | apply IsS149.drewN | apply IsS149.drew | apply IsS149.set_1 | refine IsS149.far ?_ NB701_768.out _) | exact (Q_HI701 h0_))) hb))
   have z_HO771 := fun (h0_ : b 5 = true) => (show Kd.R (Kd.int .i64) 2 w28 w.heap.size (fun k_ => nS Ao13 t707 co13 k_ ∧ nS Ao14 t710 co14 k_ ∧ nS Ao15 t716 co15 k_ ∧ nS Ao16 t722 co16 k_ ∧ nS Ao18 t735 co18 k_ ∧ nS Ao19 t741 co19 k_ ∧ nS Ao20 t745 co20 k_ ∧ nS Ao21 t748 co21 k_ ∧ nS Ao22 t751 co22 k_ ∧ nS Ao23 t756 co23 k_) v770 y769 from by first | exact (rH (rq ((Q_HO771 h0_))) (rB ho29) hb) | exact rM (rH (rq ((Q_HO771 h0_))) (rB ho29) hb) (fun _ h_ => by first | trivial | exact h_ | exact h_.1))
   have z_HI701_e6 := fun (h0_ : b 6 = true) (h1_ : b 9 = false) => (show IsS149 w w28 g701 t699 t773 from by first | exact (IsS149.below (by repeat (first | (with_reducible first | exact (Q_HI701_e6 h0_ h1_) | apply IsS149.alloc | apply IsS149.drewN | apply IsS149.drew | apply IsS149.set_1 | refine IsS149.far ?_ NB701_768.out _) | exact (Q_HI701_e6 h0_ h1_))) hb))
   clear HO709 HO712 HO718 HO724 HO731 HO737 HO743 HO747 HO750 HO753 HO758 HO763 HO766 BK768 HB
   have HO709 := n0_
   have HO712 := n1_
   have HO718 := n2_
   have HO724 := n3_
   have HO731 := n4_
   have HO737 := n5_
   have HO743 := n6_
   have HO747 := n7_
   have HO750 := n8_
   have HO753 := n9_
   have HO758 := n10_
   have HO763 := n11_
   have HO766 := n12_
   have HO776 := n13_
   have BK768 := n15_
   have HB := n16_
   clear n0_ n1_ n2_ n3_ n4_ n5_ n6_ n7_ n8_ n9_ n10_ n11_ n12_ n13_ n15_ n16_ hb ho29
   refine hK.out _ _ ⟨v770, v775, v780, m11_, (by rw [ha.out]; exact putSel_upk 3 hb_ rfl rfl rfl), (rq (rM HO709.out jq)), (rq (rM HO712.out jq)), (rq (rM HO718.out jq)), (rq (rM HO724.out jq)), (by (with_reducible repeat (first | apply Kd.S_alloc | apply Kd.S_drewN | apply Kd.S_drew)); exact HO731.out), (rq (rM HO737.out jq)), (rq (rM HO743.out jq)), (rq (rM HO747.out jq)), (rq (rM HO750.out jq)), (rq (rM HO753.out jq)), (rq (rM HO758.out jq)), (by (with_reducible repeat (first | apply Kd.S_alloc | apply Kd.S_drewN | apply Kd.S_drew)); exact HO763.out), (rq HO766.out), (kq BK768.out), z_HI701, bq, z_HO771, z_HI701_e6, fun _ => (rq (rM HO776.out jq)), fun h0_ _ => absurd ((hoff 9 kr).symm.trans h0_) (by decide), fun h0_ => absurd ((hoff 10 kr).symm.trans h0_) (by decide), fun h0_ => absurd ((hoff 10 kr).symm.trans h0_) (by decide), fun h0_ => absurd ((hoff 11 kr).symm.trans h0_) (by decide)⟩
  refine steps_cons ?_ ?_
  ·rintro b a w' ⟨v770, v775, v780, m11_, ha, Q_HO709, Q_HO712, Q_HO718, Q_HO724, Q_HO731, Q_HO737, Q_HO743, Q_HO747, Q_HO750, Q_HO753, Q_HO758, Q_HO763, Q_HO766, Q_BK768, Q_HI701, Q_HB, Q_HO771, Q_HI701_e6, Q_HO776, Q_HI701_e9, Q_HO781, Q_HI701_e10, Q_X11_⟩ hb_ hon hoff
   refine ⟨_, rfl, fun K hK => ?_⟩
   have e24 : a.tmps[24]? = some (.pointer (some ⟨g701, 0, none⟩)) := by rw [ha]; exact (putSel_off rfl).trans rfl
   have e25 : a.tmps[25]? = some (v775) := by rw [ha]; exact putSel_on (e := (8, 25, v775)) 3 rfl rfl (hon 8 kr) rfl
   replace ha := aM ha
   have HO709 := aM Q_HO709
   have HO712 := aM Q_HO712
   have HO718 := aM Q_HO718
   have HO724 := aM Q_HO724
   have HO731 := aM Q_HO731
   have HO737 := aM Q_HO737
   have HO743 := aM Q_HO743
   have HO747 := aM Q_HO747
   have HO750 := aM Q_HO750
   have HO753 := aM Q_HO753
   have HO758 := aM Q_HO758
   have HO763 := aM Q_HO763
   have HO766 := aM Q_HO766
   have BK768 := aM Q_BK768
   have HB := aM Q_HB
   have HO771 := aM (Q_HO771 (hon 5 kr))
   have HI701 := aM (Q_HI701_e6 (hon 6 kr) hb_)
   have HO776 := aM (Q_HO776 (hon 8 kr))
   obtain ⟨Ao35, co35, eo35⟩ := Kd.R_slice HO776.out
   (first | subst eo35 | (injection eo35 with f1_ f2_ f3_; have f4_ := f1_.symm; have f5_ := f3_.symm; clear f1_ f2_ f3_; subst f4_; subst f5_))
   refine goes_ Try.func86 kr rfl #[.pointer (some ⟨g701, 0, none⟩), .slice Ao35 y774.length co35] (by rfl) rfl rfl (by first | (simp only [List.map_toArray, List.map_cons, List.map_nil, Act.eval, Array.getD_eq_getD_getElem?, Option.getD_some, e24, e25]; done) | (simp only [List.map_toArray, List.map_cons, List.map_nil, Act.eval, Array.getD_eq_getD_getElem?, Option.getD_some, e24, e25]; rfl)) ?_
   with_reducible refine (spec_l1Pick.calls g701 t699 t773 _ _ y774 t777 t778 w _ ?side1 ?side2 ?side3 ?side4 ?side5 A6.out).mono ?_
   (case side1 => exact sq HI701.out)
   (case side2 => exact bq)
   (case side3 => exact cq (rR HO776.out).2.2)
   (case side4 => exact (rR HO776.out).2.1)
   (case side5 => exact far_slice (IsS149.own_ne HI701.out HO776.out (by decide)))
   rintro e w36 ⟨rfl, hi, hb, hk⟩
   refine ⟨_, rfl, ?_⟩
   replace HO709 := aM (rM (Kd.R_keep (IsS149.apart (show IsS149 w _ g701 t699 t773 from sq HI701.out) (rq HO709.out) (by decide)) hk (fun _ h => h.2)) (fun _ h => h.1))
   replace HO712 := aM (rM (Kd.R_keep (IsS149.apart (show IsS149 w _ g701 t699 t773 from sq HI701.out) (rq HO712.out) (by decide)) hk (fun _ h => h.2)) (fun _ h => h.1))
   replace HO718 := aM (rM (Kd.R_keep (IsS149.apart (show IsS149 w _ g701 t699 t773 from sq HI701.out) (rq HO718.out) (by decide)) hk (fun _ h => h.2)) (fun _ h => h.1))
   replace HO724 := aM (rM (Kd.R_keep (IsS149.apart (show IsS149 w _ g701 t699 t773 from sq HI701.out) (rq HO724.out) (by decide)) hk (fun _ h => h.2)) (fun _ h => h.1))
   replace HO731 := aM (Kd.S_mono (Kd.S_keep (IsS149.apartS (show IsS149 w _ g701 t699 t773 from sq HI701.out) (by (with_reducible repeat (first | apply Kd.S_alloc | apply Kd.S_drewN | apply Kd.S_drew)); exact HO731.out) (by decide)) hk (fun _ h => h.2)) (fun _ h => h.1))
   replace HO737 := aM (rM (Kd.R_keep (IsS149.apart (show IsS149 w _ g701 t699 t773 from sq HI701.out) (rq HO737.out) (by decide)) hk (fun _ h => h.2)) (fun _ h => h.1))
   replace HO743 := aM (rM (Kd.R_keep (IsS149.apart (show IsS149 w _ g701 t699 t773 from sq HI701.out) (rq HO743.out) (by decide)) hk (fun _ h => h.2)) (fun _ h => h.1))
   replace HO747 := aM (rM (Kd.R_keep (IsS149.apart (show IsS149 w _ g701 t699 t773 from sq HI701.out) (rq HO747.out) (by decide)) hk (fun _ h => h.2)) (fun _ h => h.1))
   replace HO750 := aM (rM (Kd.R_keep (IsS149.apart (show IsS149 w _ g701 t699 t773 from sq HI701.out) (rq HO750.out) (by decide)) hk (fun _ h => h.2)) (fun _ h => h.1))
   replace HO753 := aM (rM (Kd.R_keep (IsS149.apart (show IsS149 w _ g701 t699 t773 from sq HI701.out) (rq HO753.out) (by decide)) hk (fun _ h => h.2)) (fun _ h => h.1))
   replace HO758 := aM (rM (Kd.R_keep (IsS149.apart (show IsS149 w _ g701 t699 t773 from sq HI701.out) (rq HO758.out) (by decide)) hk (fun _ h => h.2)) (fun _ h => h.1))
   replace HO763 := aM (Kd.S_mono (Kd.S_keep (IsS149.apartS (show IsS149 w _ g701 t699 t773 from sq HI701.out) (by (with_reducible repeat (first | apply Kd.S_alloc | apply Kd.S_drewN | apply Kd.S_drew)); exact HO763.out) (by decide)) hk (fun _ h => h.2)) (fun _ h => h.1))
   replace HO766 := aM (rM (Kd.R_keep (IsS149.apart (show IsS149 w _ g701 t699 t773 from sq HI701.out) (rq HO766.out) (by decide)) hk (fun _ h => h.2)) (fun _ h => h.1))
   replace BK768 := aM (KeepBut.blk hk (kq BK768.out) NB768_701.out (by simp))
   replace HO771 := aM (rM (Kd.R_keep (IsS149.apart (show IsS149 w _ g701 t699 t773 from sq HI701.out) (rq HO771.out) (by decide)) hk (fun _ h => h.2)) (fun _ h => h.1))
   replace HO776 := aM (rM (Kd.R_keep (IsS149.apart (show IsS149 w _ g701 t699 t773 from sq HI701.out) (rq HO776.out) (by decide)) hk (fun _ h => h.2)) (fun _ h => h.1))
   replace HB := aM (hb)
   replace HI701 := aM (hi)
   (try clear hb)
   (try clear hb2)
   (try clear hk)
   (try clear hi)
   refine hK.out _ _ ⟨v770, .slice Ao35 y774.length co35, v780, m11_, (by rw [ha.out]; exact putSel_upk 4 hb_ rfl rfl rfl), (rq HO709.out), (rq HO712.out), (rq HO718.out), (rq HO724.out), (by (with_reducible repeat (first | apply Kd.S_alloc | apply Kd.S_drewN | apply Kd.S_drew)); exact HO731.out), (rq HO737.out), (rq HO743.out), (rq HO747.out), (rq HO750.out), (rq HO753.out), (rq HO758.out), (by (with_reducible repeat (first | apply Kd.S_alloc | apply Kd.S_drewN | apply Kd.S_drew)); exact HO763.out), (rq HO766.out), (kq BK768.out), fun h0_ => absurd ((hon 6 kr).symm.trans h0_) (by decide), bq, fun _ => (rq HO771.out), fun _ h1_ => absurd ((up_self b 9).symm.trans h1_) (by decide), fun _ => (rq HO776.out), fun _ _ => (sq HI701.out), fun h0_ => absurd ((hoff 10 kr).symm.trans h0_) (by decide), fun h0_ => absurd ((hoff 10 kr).symm.trans h0_) (by decide), fun h0_ => absurd ((hoff 11 kr).symm.trans h0_) (by decide)⟩
  refine steps_cons ?_ ?_
  ·rintro b a w' ⟨v770, v775, v780, m11_, ha, Q_HO709, Q_HO712, Q_HO718, Q_HO724, Q_HO731, Q_HO737, Q_HO743, Q_HO747, Q_HO750, Q_HO753, Q_HO758, Q_HO763, Q_HO766, Q_BK768, Q_HI701, Q_HB, Q_HO771, Q_HI701_e6, Q_HO776, Q_HI701_e9, Q_HO781, Q_HI701_e10, Q_X11_⟩ hb_ hon hoff
   refine ⟨_, rfl, fun K hK => ?_⟩
   have e17 : a.tmps[17]? = some (.pointer (some ⟨g701, 0, none⟩)) := by rw [ha]; exact (putSel_off rfl).trans rfl
   have e20 : a.tmps[20]? = some (.int .i64 t702) := by rw [ha]; exact putSel_on (e := (3, 20, .int .i64 t702)) 0 rfl rfl (hon 3 kr) rfl
   have e23 : a.tmps[23]? = some (.int .i64 t772) := by rw [ha]; exact putSel_on (e := (6, 23, .int .i64 t772)) 2 rfl rfl (hon 6 kr) rfl
   have e26 : a.tmps[26]? = some (.int .i64 t777) := by rw [ha]; exact putSel_on (e := (9, 26, .int .i64 t777)) 4 rfl rfl (hon 9 kr) rfl
   replace ha := aM ha
   have HO709 := aM Q_HO709
   have HO712 := aM Q_HO712
   have HO718 := aM Q_HO718
   have HO724 := aM Q_HO724
   have HO731 := aM Q_HO731
   have HO737 := aM Q_HO737
   have HO743 := aM Q_HO743
   have HO747 := aM Q_HO747
   have HO750 := aM Q_HO750
   have HO753 := aM Q_HO753
   have HO758 := aM Q_HO758
   have HO763 := aM Q_HO763
   have HO766 := aM Q_HO766
   have BK768 := aM Q_BK768
   have HB := aM Q_HB
   have HO771 := aM (Q_HO771 (hon 5 kr))
   have HO776 := aM (Q_HO776 (hon 8 kr))
   have HI701 := aM (Q_HI701_e9 (hon 9 kr) hb_)
   refine goes_ Try.func99 kr rfl #[.pointer (some ⟨g701, 0, none⟩), .int .i64 t702, .int .i64 t772, .int .i64 t777] (by rfl) rfl rfl (by first | (simp only [List.map_toArray, List.map_cons, List.map_nil, Act.eval, Array.getD_eq_getD_getElem?, Option.getD_some, e17, e20, e23, e26]; done) | (simp only [List.map_toArray, List.map_cons, List.map_nil, Act.eval, Array.getD_eq_getD_getElem?, Option.getD_some, e17, e20, e23, e26]; rfl)) ?_
   with_reducible refine (spec_l20Steps.calls k g701 t699 t778 t702 t772 t777 t779 t782 w _ ?side1 ?side2 A7.out).mono ?_
   (case side1 => exact sq HI701.out)
   (case side2 => exact bq)
   rintro e w37 ⟨v780, rfl, ho0, hi, hb, hk⟩
   refine ⟨_, rfl, ?_⟩
   replace HO731 := aM (Kd.S_mono (Kd.S_keep (IsS149.apartS (show IsS149 w _ g701 t699 t778 from sq HI701.out) (by (with_reducible repeat (first | apply Kd.S_alloc | apply Kd.S_drewN | apply Kd.S_drew)); exact HO731.out) (by decide)) hk (fun _ h => h.2)) (fun _ h => h.1))
   replace HO763 := aM (Kd.S_mono (Kd.S_keep (IsS149.apartS (show IsS149 w _ g701 t699 t778 from sq HI701.out) (by (with_reducible repeat (first | apply Kd.S_alloc | apply Kd.S_drewN | apply Kd.S_drew)); exact HO763.out) (by decide)) hk (fun _ h => h.2)) (fun _ h => h.1))
   replace HO766 := aM (rM (Kd.R_keep (IsS149.apart (show IsS149 w _ g701 t699 t778 from sq HI701.out) (rq HO766.out) (by decide)) hk (fun _ h => h.2)) (fun _ h => h.1))
   replace BK768 := aM (KeepBut.blk hk (kq BK768.out) NB768_701.out (by simp))
   have HO781 := aM (Kd.S_lower (Kd.S_new' (Kd.S_new' (Kd.S_new' (Kd.S_new' (Kd.S_new' (Kd.S_new' (Kd.S_new' (Kd.S_new' (Kd.S_new' (Kd.S_new' (Kd.S_new' (Kd.S_new' ho0 (rT (rq HO709.out))) (rT (rq HO712.out))) (rT (rq HO718.out))) (rT (rq HO724.out))) (rT (rq HO737.out))) (rT (rq HO743.out))) (rT (rq HO747.out))) (rT (rq HO750.out))) (rT (rq HO753.out))) (rT (rq HO758.out))) (rT (rq HO771.out))) (rT (rq HO776.out))) (bZ bq))
   replace HO709 := aM (rM (Kd.R_keep (IsS149.apart (show IsS149 w _ g701 t699 t778 from sq HI701.out) (rq HO709.out) (by decide)) hk (fun _ h => h.2)) (fun _ h => h.1))
   replace HO712 := aM (rM (Kd.R_keep (IsS149.apart (show IsS149 w _ g701 t699 t778 from sq HI701.out) (rq HO712.out) (by decide)) hk (fun _ h => h.2)) (fun _ h => h.1))
   replace HO718 := aM (rM (Kd.R_keep (IsS149.apart (show IsS149 w _ g701 t699 t778 from sq HI701.out) (rq HO718.out) (by decide)) hk (fun _ h => h.2)) (fun _ h => h.1))
   replace HO724 := aM (rM (Kd.R_keep (IsS149.apart (show IsS149 w _ g701 t699 t778 from sq HI701.out) (rq HO724.out) (by decide)) hk (fun _ h => h.2)) (fun _ h => h.1))
   replace HO737 := aM (rM (Kd.R_keep (IsS149.apart (show IsS149 w _ g701 t699 t778 from sq HI701.out) (rq HO737.out) (by decide)) hk (fun _ h => h.2)) (fun _ h => h.1))
   replace HO743 := aM (rM (Kd.R_keep (IsS149.apart (show IsS149 w _ g701 t699 t778 from sq HI701.out) (rq HO743.out) (by decide)) hk (fun _ h => h.2)) (fun _ h => h.1))
   replace HO747 := aM (rM (Kd.R_keep (IsS149.apart (show IsS149 w _ g701 t699 t778 from sq HI701.out) (rq HO747.out) (by decide)) hk (fun _ h => h.2)) (fun _ h => h.1))
   replace HO750 := aM (rM (Kd.R_keep (IsS149.apart (show IsS149 w _ g701 t699 t778 from sq HI701.out) (rq HO750.out) (by decide)) hk (fun _ h => h.2)) (fun _ h => h.1))
   replace HO753 := aM (rM (Kd.R_keep (IsS149.apart (show IsS149 w _ g701 t699 t778 from sq HI701.out) (rq HO753.out) (by decide)) hk (fun _ h => h.2)) (fun _ h => h.1))
   replace HO758 := aM (rM (Kd.R_keep (IsS149.apart (show IsS149 w _ g701 t699 t778 from sq HI701.out) (rq HO758.out) (by decide)) hk (fun _ h => h.2)) (fun _ h => h.1))
   replace HO771 := aM (rM (Kd.R_keep (IsS149.apart (show IsS149 w _ g701 t699 t778 from sq HI701.out) (rq HO771.out) (by decide)) hk (fun _ h => h.2)) (fun _ h => h.1))
   replace HO776 := aM (rM (Kd.R_keep (IsS149.apart (show IsS149 w _ g701 t699 t778 from sq HI701.out) (rq HO776.out) (by decide)) hk (fun _ h => h.2)) (fun _ h => h.1))
   replace HB := aM (hb)
   replace HI701 := aM (hi)
   (try clear hb)
   (try clear hb2)
   (try clear hk)
   (try clear hi)
   (try clear ho0)
   refine hK.out _ _ ⟨v770, v775, v780, m11_, (by rw [ha.out]; exact putSel_upk 5 hb_ rfl rfl rfl), (rq HO709.out), (rq HO712.out), (rq HO718.out), (rq HO724.out), (by (with_reducible repeat (first | apply Kd.S_alloc | apply Kd.S_drewN | apply Kd.S_drew)); exact HO731.out), (rq HO737.out), (rq HO743.out), (rq HO747.out), (rq HO750.out), (rq HO753.out), (rq HO758.out), (by (with_reducible repeat (first | apply Kd.S_alloc | apply Kd.S_drewN | apply Kd.S_drew)); exact HO763.out), (rq HO766.out), (kq BK768.out), fun h0_ => absurd ((hon 6 kr).symm.trans h0_) (by decide), bq, fun _ => (rq HO771.out), fun _ h1_ => absurd ((hon 9 kr).symm.trans h1_) (by decide), fun _ => (rq HO776.out), fun _ h1_ => absurd ((up_self b 10).symm.trans h1_) (by decide), fun _ => (by (with_reducible repeat (first | apply Kd.S_alloc | apply Kd.S_drewN | apply Kd.S_drew)); exact Kd.S_mono HO781.out jq), fun _ => (sq HI701.out), fun h0_ => absurd ((hoff 11 kr).symm.trans h0_) (by decide)⟩
  refine steps_cons ?_ ?_
  ·rintro b a w' ⟨v770, v775, v780, m11_, ha, Q_HO709, Q_HO712, Q_HO718, Q_HO724, Q_HO731, Q_HO737, Q_HO743, Q_HO747, Q_HO750, Q_HO753, Q_HO758, Q_HO763, Q_HO766, Q_BK768, Q_HI701, Q_HB, Q_HO771, Q_HI701_e6, Q_HO776, Q_HI701_e9, Q_HO781, Q_HI701_e10, Q_X11_⟩ hb_ hon hoff
   refine ⟨_, rfl, fun K hK => ?_⟩
   have e27 : a.tmps[27]? = some (v780) := by rw [ha]; exact putSel_on (e := (10, 27, v780)) 5 rfl rfl (hon 10 kr) rfl
   replace ha := aM ha
   have HO709 := aM Q_HO709
   have HO712 := aM Q_HO712
   have HO718 := aM Q_HO718
   have HO724 := aM Q_HO724
   have HO731 := aM Q_HO731
   have HO737 := aM Q_HO737
   have HO743 := aM Q_HO743
   have HO747 := aM Q_HO747
   have HO750 := aM Q_HO750
   have HO753 := aM Q_HO753
   have HO758 := aM Q_HO758
   have HO763 := aM Q_HO763
   have HO766 := aM Q_HO766
   have BK768 := aM Q_BK768
   have HB := aM Q_HB
   have HO771 := aM (Q_HO771 (hon 5 kr))
   have HO776 := aM (Q_HO776 (hon 8 kr))
   have HO781 := aM (Q_HO781 (hon 10 kr))
   have HI701 := aM (Q_HI701_e10 (hon 10 kr))
   refine value_ (w1 := w') (v := v780) (by rfl) rfl ?_ ?_
   ·go_simp
    (try simp only [i64_w])
    try rfl
   refine hK.out _ _ ⟨v770, v775, v780, (v780), (by rw [ha.out]; exact putSel_upk 6 hb_ rfl rfl rfl), Q_HO709, Q_HO712, Q_HO718, Q_HO724, Q_HO731, Q_HO737, Q_HO743, Q_HO747, Q_HO750, Q_HO753, Q_HO758, Q_HO763, Q_HO766, Q_BK768, fun h0_ => absurd ((hon 6 kr).symm.trans h0_) (by decide), Q_HB, Q_HO771, fun _ h1_ => absurd ((hon 9 kr).symm.trans h1_) (by decide), Q_HO776, fun _ h1_ => absurd ((hon 10 kr).symm.trans h1_) (by decide), Q_HO781, Q_HI701_e10, fun _ => rfl⟩
  exact steps_nil
 rintro b a w37 hall ⟨v770, v775, v780, m11_, ha, Q_HO709, Q_HO712, Q_HO718, Q_HO724, Q_HO731, Q_HO737, Q_HO743, Q_HO747, Q_HO750, Q_HO753, Q_HO758, Q_HO763, Q_HO766, Q_BK768, Q_HI701, Q_HB, Q_HO771, Q_HI701_e6, Q_HO776, Q_HI701_e9, Q_HO781, Q_HI701_e10, Q_X11_⟩
 clear BK768 HB HI701 HO709 HO712 HO718 HO724 HO731 HO737 HO743 HO747 HO750 HO753 HO758 HO763 HO766
 have hb3_ := hall 3 kr
 have hb5_ := hall 5 kr
 have hb6_ := hall 6 kr
 have hb8_ := hall 8 kr
 have hb9_ := hall 9 kr
 have hb10_ := hall 10 kr
 have hb11_ := hall 11 kr
 subst ha
 obtain rfl := Q_X11_ hb11_
 simp only [putSel, hb3_, hb5_, hb6_, hb8_, hb9_, hb10_, hb11_, if_true, Act.put, pa, pb, pc]
 have HO709 := aM Q_HO709
 clear Q_HO709
 have HO712 := aM Q_HO712
 clear Q_HO712
 have HO718 := aM Q_HO718
 clear Q_HO718
 have HO724 := aM Q_HO724
 clear Q_HO724
 have HO731 := aM Q_HO731
 clear Q_HO731
 have HO737 := aM Q_HO737
 clear Q_HO737
 have HO743 := aM Q_HO743
 clear Q_HO743
 have HO747 := aM Q_HO747
 clear Q_HO747
 have HO750 := aM Q_HO750
 clear Q_HO750
 have HO753 := aM Q_HO753
 clear Q_HO753
 have HO758 := aM Q_HO758
 clear Q_HO758
 have HO763 := aM Q_HO763
 clear Q_HO763
 have HO766 := aM Q_HO766
 clear Q_HO766
 have BK768 := aM Q_BK768
 clear Q_BK768 Q_HI701
 have HB := aM Q_HB
 clear Q_HB
 have HO771 := aM (Q_HO771 hb5_)
 clear Q_HO771 Q_HI701_e6
 have HO776 := aM (Q_HO776 hb8_)
 clear Q_HO776 Q_HI701_e9
 have HO781 := aM (Q_HO781 hb10_)
 clear Q_HO781
 have HI701 := aM (Q_HI701_e10 hb10_)
 clear Q_HI701_e10 hall hb3_ hb5_ hb6_ hb8_ hb9_ hb10_ hb11_
 obtain ⟨Ao38, co38, eo38⟩ := Kd.S_slice HO781.out
 subst eo38
 try go_wp2
 go_loopg [30] k (fun kq v30 w' => ∃ (x11_1 : List (S84)) (x30_1 : Int) (x702001_1 : Int), v30 = .int .i64 x30_1 ∧ Aside0 (spec_DrawStory.l0 kq a1 x11_1 (t779.length : Int) x30_1 t699 x702001_1 t702 t703 t704 t705 t706 t707 t710 t713 t714 t715 t716 t719 t720 t721 t722 t725 t726 t727 t728 t729 t732 t733 t734 t735 t738 t739 t740 t741 t744 t745 t748 t751 t754 t755 t756 t759 t760 t761 t764 = some (r1, r2, r3, r4, r5)) ∧ Aside0 (kq ≤ k) ∧ Aside0 (Kd.S k84 84 w' w.heap.size (fun k_ => some k_ ≠ ((.slice Ao13 t707.length co13) : Value).ownBlock ∧ some k_ ≠ ((.slice Ao14 t710.length co14) : Value).ownBlock ∧ some k_ ≠ ((.slice Ao15 t716.length co15) : Value).ownBlock ∧ some k_ ≠ ((.slice Ao16 t722.length co16) : Value).ownBlock ∧ some k_ ≠ ((.slice Ao18 t735.length co18) : Value).ownBlock ∧ some k_ ≠ ((.slice Ao19 t741.length co19) : Value).ownBlock ∧ some k_ ≠ ((.slice Ao20 t745.length co20) : Value).ownBlock ∧ some k_ ≠ ((.slice Ao21 t748.length co21) : Value).ownBlock ∧ some k_ ≠ ((.slice Ao22 t751.length co22) : Value).ownBlock ∧ some k_ ≠ ((.slice Ao23 t756.length co23) : Value).ownBlock) (.slice Ao38 t779.length co38) x11_1) ∧ Aside0 (Kd.R (Kd.int .i64) 2 w' w.heap.size (fun k_ => some k_ ≠ ((.slice Ao14 t710.length co14) : Value).ownBlock ∧ some k_ ≠ ((.slice Ao15 t716.length co15) : Value).ownBlock ∧ some k_ ≠ ((.slice Ao16 t722.length co16) : Value).ownBlock ∧ some k_ ≠ ((.slice Ao18 t735.length co18) : Value).ownBlock ∧ some k_ ≠ ((.slice Ao19 t741.length co19) : Value).ownBlock ∧ some k_ ≠ ((.slice Ao20 t745.length co20) : Value).ownBlock ∧ some k_ ≠ ((.slice Ao21 t748.length co21) : Value).ownBlock ∧ some k_ ≠ ((.slice Ao22 t751.length co22) : Value).ownBlock ∧ some k_ ≠ ((.slice Ao23 t756.length co23) : Value).ownBlock) (.slice Ao13 t707.length co13) t707) ∧ Aside0 (Kd.R (Kd.int .i64) 2 w' w.heap.size (fun k_ => some k_ ≠ ((.slice Ao13 t707.length co13) : Value).ownBlock ∧ some k_ ≠ ((.slice Ao15 t716.length co15) : Value).ownBlock ∧ some k_ ≠ ((.slice Ao16 t722.length co16) : Value).ownBlock ∧ some k_ ≠ ((.slice Ao18 t735.length co18) : Value).ownBlock ∧ some k_ ≠ ((.slice Ao19 t741.length co19) : Value).ownBlock ∧ some k_ ≠ ((.slice Ao20 t745.length co20) : Value).ownBlock ∧ some k_ ≠ ((.slice Ao21 t748.length co21) : Value).ownBlock ∧ some k_ ≠ ((.slice Ao22 t751.length co22) : Value).ownBlock ∧ some k_ ≠ ((.slice Ao23 t756.length co23) : Value).ownBlock) (.slice Ao14 t710.length co14) t710) ∧ Aside0 (Kd.R (Kd.int .i64) 2 w' w.heap.size (fun k_ => some k_ ≠ ((.slice Ao13 t707.length co13) : Value).ownBlock ∧ some k_ ≠ ((.slice Ao14 t710.length co14) : Value).ownBlock ∧ some k_ ≠ ((.slice Ao16 t722.length co16) : Value).ownBlock ∧ some k_ ≠ ((.slice Ao18 t735.length co18) : Value).ownBlock ∧ some k_ ≠ ((.slice Ao19 t741.length co19) : Value).ownBlock ∧ some k_ ≠ ((.slice Ao20 t745.length co20) : Value).ownBlock ∧ some k_ ≠ ((.slice Ao21 t748.length co21) : Value).ownBlock ∧ some k_ ≠ ((.slice Ao22 t751.length co22) : Value).ownBlock ∧ some k_ ≠ ((.slice Ao23 t756.length co23) : Value).ownBlock) (.slice Ao15 t716.length co15) t716) ∧ Aside0 (Kd.R (Kd.int .i64) 2 w' w.heap.size (fun k_ => some k_ ≠ ((.slice Ao13 t707.length co13) : Value).ownBlock ∧ some k_ ≠ ((.slice Ao14 t710.length co14) : Value).ownBlock ∧ some k_ ≠ ((.slice Ao15 t716.length co15) : Value).ownBlock ∧ some k_ ≠ ((.slice Ao18 t735.length co18) : Value).ownBlock ∧ some k_ ≠ ((.slice Ao19 t741.length co19) : Value).ownBlock ∧ some k_ ≠ ((.slice Ao20 t745.length co20) : Value).ownBlock ∧ some k_ ≠ ((.slice Ao21 t748.length co21) : Value).ownBlock ∧ some k_ ≠ ((.slice Ao22 t751.length co22) : Value).ownBlock ∧ some k_ ≠ ((.slice Ao23 t756.length co23) : Value).ownBlock) (.slice Ao16 t722.length co16) t722) ∧ Aside0 (Kd.S k183 183 w' w.heap.size (fun _ => True) (.slice Ao17 t729.length co17) t729) ∧ Aside0 (Kd.R (Kd.int .i64) 2 w' w.heap.size (fun k_ => some k_ ≠ ((.slice Ao13 t707.length co13) : Value).ownBlock ∧ some k_ ≠ ((.slice Ao14 t710.length co14) : Value).ownBlock ∧ some k_ ≠ ((.slice Ao15 t716.length co15) : Value).ownBlock ∧ some k_ ≠ ((.slice Ao16 t722.length co16) : Value).ownBlock ∧ some k_ ≠ ((.slice Ao19 t741.length co19) : Value).ownBlock ∧ some k_ ≠ ((.slice Ao20 t745.length co20) : Value).ownBlock ∧ some k_ ≠ ((.slice Ao21 t748.length co21) : Value).ownBlock ∧ some k_ ≠ ((.slice Ao22 t751.length co22) : Value).ownBlock ∧ some k_ ≠ ((.slice Ao23 t756.length co23) : Value).ownBlock) (.slice Ao18 t735.length co18) t735) ∧ Aside0 (Kd.R (Kd.int .i64) 2 w' w.heap.size (fun k_ => some k_ ≠ ((.slice Ao13 t707.length co13) : Value).ownBlock ∧ some k_ ≠ ((.slice Ao14 t710.length co14) : Value).ownBlock ∧ some k_ ≠ ((.slice Ao15 t716.length co15) : Value).ownBlock ∧ some k_ ≠ ((.slice Ao16 t722.length co16) : Value).ownBlock ∧ some k_ ≠ ((.slice Ao18 t735.length co18) : Value).ownBlock ∧ some k_ ≠ ((.slice Ao20 t745.length co20) : Value).ownBlock ∧ some k_ ≠ ((.slice Ao21 t748.length co21) : Value).ownBlock ∧ some k_ ≠ ((.slice Ao22 t751.length co22) : Value).ownBlock ∧ some k_ ≠ ((.slice Ao23 t756.length co23) : Value).ownBlock) (.slice Ao19 t741.length co19) t741) ∧ Aside0 (Kd.R (Kd.int .i64) 2 w' w.heap.size (fun k_ => some k_ ≠ ((.slice Ao13 t707.length co13) : Value).ownBlock ∧ some k_ ≠ ((.slice Ao14 t710.length co14) : Value).ownBlock ∧ some k_ ≠ ((.slice Ao15 t716.length co15) : Value).ownBlock ∧ some k_ ≠ ((.slice Ao16 t722.length co16) : Value).ownBlock ∧ some k_ ≠ ((.slice Ao18 t735.length co18) : Value).ownBlock ∧ some k_ ≠ ((.slice Ao19 t741.length co19) : Value).ownBlock ∧ some k_ ≠ ((.slice Ao21 t748.length co21) : Value).ownBlock ∧ some k_ ≠ ((.slice Ao22 t751.length co22) : Value).ownBlock ∧ some k_ ≠ ((.slice Ao23 t756.length co23) : Value).ownBlock) (.slice Ao20 t745.length co20) t745) ∧ Aside0 (Kd.R (Kd.int .i64) 2 w' w.heap.size (fun k_ => some k_ ≠ ((.slice Ao13 t707.length co13) : Value).ownBlock ∧ some k_ ≠ ((.slice Ao14 t710.length co14) : Value).ownBlock ∧ some k_ ≠ ((.slice Ao15 t716.length co15) : Value).ownBlock ∧ some k_ ≠ ((.slice Ao16 t722.length co16) : Value).ownBlock ∧ some k_ ≠ ((.slice Ao18 t735.length co18) : Value).ownBlock ∧ some k_ ≠ ((.slice Ao19 t741.length co19) : Value).ownBlock ∧ some k_ ≠ ((.slice Ao20 t745.length co20) : Value).ownBlock ∧ some k_ ≠ ((.slice Ao22 t751.length co22) : Value).ownBlock ∧ some k_ ≠ ((.slice Ao23 t756.length co23) : Value).ownBlock) (.slice Ao21 t748.length co21) t748) ∧ Aside0 (Kd.R (Kd.int .i64) 2 w' w.heap.size (fun k_ => some k_ ≠ ((.slice Ao13 t707.length co13) : Value).ownBlock ∧ some k_ ≠ ((.slice Ao14 t710.length co14) : Value).ownBlock ∧ some k_ ≠ ((.slice Ao15 t716.length co15) : Value).ownBlock ∧ some k_ ≠ ((.slice Ao16 t722.length co16) : Value).ownBlock ∧ some k_ ≠ ((.slice Ao18 t735.length co18) : Value).ownBlock ∧ some k_ ≠ ((.slice Ao19 t741.length co19) : Value).ownBlock ∧ some k_ ≠ ((.slice Ao20 t745.length co20) : Value).ownBlock ∧ some k_ ≠ ((.slice Ao21 t748.length co21) : Value).ownBlock ∧ some k_ ≠ ((.slice Ao23 t756.length co23) : Value).ownBlock) (.slice Ao22 t751.length co22) t751) ∧ Aside0 (Kd.R (Kd.int .i64) 2 w' w.heap.size (fun k_ => some k_ ≠ ((.slice Ao13 t707.length co13) : Value).ownBlock ∧ some k_ ≠ ((.slice Ao14 t710.length co14) : Value).ownBlock ∧ some k_ ≠ ((.slice Ao15 t716.length co15) : Value).ownBlock ∧ some k_ ≠ ((.slice Ao16 t722.length co16) : Value).ownBlock ∧ some k_ ≠ ((.slice Ao18 t735.length co18) : Value).ownBlock ∧ some k_ ≠ ((.slice Ao19 t741.length co19) : Value).ownBlock ∧ some k_ ≠ ((.slice Ao20 t745.length co20) : Value).ownBlock ∧ some k_ ≠ ((.slice Ao21 t748.length co21) : Value).ownBlock ∧ some k_ ≠ ((.slice Ao22 t751.length co22) : Value).ownBlock) (.slice Ao23 t756.length co23) t756) ∧ Aside0 (Kd.S k186 186 w' w.heap.size (fun _ => True) (.slice Ao24 t761.length co24) t761) ∧ Aside0 (Kd.R k190 190 w' w.heap.size (fun _ => True) (.slice Ao25 t764.length co25) t764) ∧ Aside0 (w'.heap[gb768]? = some (.cells #[.int .i64 t702, .int .i64 t703, .int .i64 t704, .int .i64 t705, .int .i64 t706, (.slice Ao13 t707.length co13), (.slice Ao14 t710.length co14), .bool t713, .int .i64 t714, .int .i64 t715, (.slice Ao15 t716.length co15), .bool t719, .int .i64 t720, .int .i64 t721, (.slice Ao16 t722.length co16), .int .i64 t725, .int .i64 t726, .int .i64 t727, .int .i64 t728, (.slice Ao17 t729.length co17), .bool t732, .int .i64 t733, .int .i64 t734, (.slice Ao18 t735.length co18), .bool t738, .int .i64 t739, .int .i64 t740, (.slice Ao19 t741.length co19), .int .i64 t744, (.slice Ao20 t745.length co20), (.slice Ao21 t748.length co21), (.slice Ao22 t751.length co22), .int .i64 t754, .int .i64 t755, (.slice Ao23 t756.length co23), .int .i64 t759, .int .i64 t760, (.slice Ao24 t761.length co24), (.slice Ao25 t764.length co25)] 133 (0, 0))) ∧ Aside0 (IsS149 w w' g701 t699 x702001_1) ∧ Aside0 (Below w.heap.size w w'))
 case atStart => exact ⟨(t779), (0), (t782), (ex), H', ⟨Nat.le_refl _⟩, ⟨by (with_reducible repeat (first | apply Kd.S_alloc | apply Kd.S_drewN | apply Kd.S_drew)); exact Kd.S_mono HO781.out jq⟩, aM (rq (rM HO709.out jq)), aM (rq (rM HO712.out jq)), aM (rq (rM HO718.out jq)), aM (rq (rM HO724.out jq)), ⟨by (with_reducible repeat (first | apply Kd.S_alloc | apply Kd.S_drewN | apply Kd.S_drew)); exact HO731.out⟩, aM (rq (rM HO737.out jq)), aM (rq (rM HO743.out jq)), aM (rq (rM HO747.out jq)), aM (rq (rM HO750.out jq)), aM (rq (rM HO753.out jq)), aM (rq (rM HO758.out jq)), ⟨by (with_reducible repeat (first | apply Kd.S_alloc | apply Kd.S_drewN | apply Kd.S_drew)); exact HO763.out⟩, aM (rq HO766.out), aM (kq BK768.out), ⟨sq HI701.out⟩, ⟨bq⟩⟩
 case round =>
  clear H'
  try clear c1
  try clear c2
  try clear p2
  try clear c3
  try clear c4
  try clear c5
  try clear c6
  try clear c7
  try clear c8
  try clear c9
  try clear c10
  try clear c11
  try clear c12
  try clear c13
  try clear c14
  try clear c15
  try clear c16
  try clear c17
  try clear c18
  try clear c19
  try clear c20
  try clear c21
  try clear c22
  try clear c23
  try clear c24
  try clear c25
  try clear c26
  try clear c27
  try clear c28
  try clear c29
  try clear c30
  try clear c31
  try clear c32
  try clear c33
  try clear c34
  try clear c35
  try clear c36
  try clear c37
  try clear c38
  obtain ⟨x11_1, x30_1, x702001_1, rfl, HA, HK1, HO_11, HO_769005, HO_769006, HO_769010, HO_769014, HO_769019, HO_769023, HO_769027, HO_769029, HO_769030, HO_769031, HO_769034, HO_769037, HO_769038, BK768, HI701, HB⟩ := hrel
  have hl11_1 := (Kd.S_reads' HO_11.out).1
  rw [hl11_1] at HO_11
  (try simp only [hl11_1])
  (try simp only [hl11_1] at BK768)
  (try simp only [hl11_1] at HO_769005)
  (try simp only [hl11_1] at HO_769006)
  (try simp only [hl11_1] at HO_769010)
  (try simp only [hl11_1] at HO_769014)
  (try simp only [hl11_1] at HO_769019)
  (try simp only [hl11_1] at HO_769023)
  (try simp only [hl11_1] at HO_769027)
  (try simp only [hl11_1] at HO_769029)
  (try simp only [hl11_1] at HO_769030)
  (try simp only [hl11_1] at HO_769031)
  (try simp only [hl11_1] at HO_769034)
  (try simp only [hl11_1] at HO_769037)
  (try simp only [hl11_1] at HO_769038)
  cases gk with
  | zero => exact absurd HA.out (by simp [spec_DrawStory.l0])
  | succ k1 =>
   have H := HA.out
   clear HA
   simp only [spec_DrawStory.l0] at H
   by_cases c39 : x30_1 < (t779.length : Int)
   ·rw [if_pos c39] at H
    have c39b0 : decide (x30_1 < (t779.length : Int)) = true := decide_eq_true c39
    (try (have c39h0 := c39b0; simp only [hl11_1] at c39h0))
    clear c39
    by_cases c40 : a1 = 1
    ·rw [if_pos c40] at H
     have c40b0 : (a1 == 1) = true := beq_iff_eq.mpr c40
     (try (have c40h0 := c40b0; simp only [hl11_1] at c40h0))
     have c40b1 : (a1 != 1) = false := bne_eq_false_iff_eq.mpr c40
     (try (have c40h1 := c40b1; simp only [hl11_1] at c40h1))
     clear c40
     replace H := bo H
     obtain ⟨⟨t783, t784⟩, A41, H⟩ := H
     replace H := bz H
     by_cases c42 : 0 ≤ x30_1
     ·rw [if_pos c42] at H
      have c42b0 : decide (0 ≤ x30_1) = true := decide_eq_true c42
      (try (have c42h0 := c42b0; simp only [hl11_1] at c42h0))
      clear c42
      by_cases c43 : x30_1 < (x11_1.length : Int)
      ·rw [if_pos c43] at H
       have c43b0 : decide (x30_1 < (x11_1.length : Int)) = true := decide_eq_true c43
       (try (have c43h0 := c43b0; simp only [hl11_1] at c43h0))
       clear c43
       obtain ⟨y785, hy785⟩ : ∃ y_ : List (S84), y_ = (x11_1.set (x30_1 : Int).toNat (⟨(rd_T84 x11_1 x30_1).f0, (⟨1, t783, 0, 0⟩ : S82), (⟨(rd_T84 x11_1 x30_1).f2.f0, (rd_T84 x11_1 x30_1).f2.f1, (rd_T84 x11_1 x30_1).f2.f2, (rd_T84 x11_1 x30_1).f2.f3⟩ : S82), (⟨(rd_T84 x11_1 x30_1).f3.f0, (rd_T84 x11_1 x30_1).f3.f1, (rd_T84 x11_1 x30_1).f3.f2, (rd_T84 x11_1 x30_1).f3.f3⟩ : S82)⟩ : S84)) := ⟨_, rfl⟩
       replace H : ((spec_l1Next.f t699 t784 (wrap64 (t760 + 1))).bind fun bt786 => (spec_DrawStory.l0 k1 a1 (y785.set (x30_1 : Int).toNat (⟨(rd_T84 y785 x30_1).f0, (⟨(rd_T84 y785 x30_1).f1.f0, (rd_T84 y785 x30_1).f1.f1, (rd_T84 y785 x30_1).f1.f2, (rd_T84 y785 x30_1).f1.f3⟩ : S82), (⟨1, bt786.1, 0, 0⟩ : S82), (⟨(rd_T84 y785 x30_1).f3.f0, (rd_T84 y785 x30_1).f3.f1, (rd_T84 y785 x30_1).f3.f2, (rd_T84 y785 x30_1).f3.f3⟩ : S82)⟩ : S84)) (t779.length : Int) (wrap64 (x30_1 + 1)) t699 bt786.2 t702 t703 t704 t705 t706 t707 t710 t713 t714 t715 t716 t719 t720 t721 t722 t725 t726 t727 t728 t729 t732 t733 t734 t735 t738 t739 t740 t741 t744 t745 t748 t751 t754 t755 t756 t759 t760 t761 t764)) = some (r1, r2, r3, r4, r5) := hl hy785 H
       have Ny785 := aM hy785
       clear hy785
       replace H := bo H
       obtain ⟨⟨t786, t787⟩, A45, H⟩ := H
       replace H := bz H
       obtain ⟨y788, hy788⟩ : ∃ y_ : List (S84), y_ = (y785.set (x30_1 : Int).toNat (⟨(rd_T84 y785 x30_1).f0, (⟨(rd_T84 y785 x30_1).f1.f0, (rd_T84 y785 x30_1).f1.f1, (rd_T84 y785 x30_1).f1.f2, (rd_T84 y785 x30_1).f1.f3⟩ : S82), (⟨1, t786, 0, 0⟩ : S82), (⟨(rd_T84 y785 x30_1).f3.f0, (rd_T84 y785 x30_1).f3.f1, (rd_T84 y785 x30_1).f3.f2, (rd_T84 y785 x30_1).f3.f3⟩ : S82)⟩ : S84)) := ⟨_, rfl⟩
       replace H : (spec_DrawStory.l0 k1 a1 y788 (t779.length : Int) (wrap64 (x30_1 + 1)) t699 t787 t702 t703 t704 t705 t706 t707 t710 t713 t714 t715 t716 t719 t720 t721 t722 t725 t726 t727 t728 t729 t732 t733 t734 t735 t738 t739 t740 t741 t744 t745 t748 t751 t754 t755 t756 t759 t760 t761 t764) = some (r1, r2, r3, r4, r5) := hl hy788 H
       have Ny788 := aM hy788
       clear hy788
       have H' := aM H
       clear H
       have hnb47 := NB768_701.out
       have hnc47 := NB701_768.out
       have hcz48_0 : wr.cell? ⟨gb768, 0, none⟩ = some (.int .i64 t702) := cc
       have hcz48_1 : wr.cell? ⟨gb768, 1, none⟩ = some (.int .i64 t703) := cc
       have hcz48_2 : wr.cell? ⟨gb768, 2, none⟩ = some (.int .i64 t704) := cc
       have hcz48_3 : wr.cell? ⟨gb768, 3, none⟩ = some (.int .i64 t705) := cc
       have hcz48_4 : wr.cell? ⟨gb768, 4, none⟩ = some (.int .i64 t706) := cc
       have hcz48_5 : wr.cell? ⟨gb768, 5, none⟩ = some (.slice Ao13 t707.length co13) := cc
       have hcz48_6 : wr.cell? ⟨gb768, 6, none⟩ = some (.slice Ao14 t710.length co14) := cc
       have hcz48_7 : wr.cell? ⟨gb768, 7, none⟩ = some (.bool t713) := cc
       have hcz48_8 : wr.cell? ⟨gb768, 8, none⟩ = some (.int .i64 t714) := cc
       have hcz48_9 : wr.cell? ⟨gb768, 9, none⟩ = some (.int .i64 t715) := cc
       have hcz48_10 : wr.cell? ⟨gb768, 10, none⟩ = some (.slice Ao15 t716.length co15) := cc
       have hcz48_11 : wr.cell? ⟨gb768, 11, none⟩ = some (.bool t719) := cc
       have hcz48_12 : wr.cell? ⟨gb768, 12, none⟩ = some (.int .i64 t720) := cc
       have hcz48_13 : wr.cell? ⟨gb768, 13, none⟩ = some (.int .i64 t721) := cc
       have hcz48_14 : wr.cell? ⟨gb768, 14, none⟩ = some (.slice Ao16 t722.length co16) := cc
       have hcz48_15 : wr.cell? ⟨gb768, 15, none⟩ = some (.int .i64 t725) := cc
       have hcz48_16 : wr.cell? ⟨gb768, 16, none⟩ = some (.int .i64 t726) := cc
       have hcz48_17 : wr.cell? ⟨gb768, 17, none⟩ = some (.int .i64 t727) := cc
       have hcz48_18 : wr.cell? ⟨gb768, 18, none⟩ = some (.int .i64 t728) := cc
       have hcz48_19 : wr.cell? ⟨gb768, 19, none⟩ = some (.slice Ao17 t729.length co17) := cc
       have hcz48_20 : wr.cell? ⟨gb768, 20, none⟩ = some (.bool t732) := cc
       have hcz48_21 : wr.cell? ⟨gb768, 21, none⟩ = some (.int .i64 t733) := cc
       have hcz48_22 : wr.cell? ⟨gb768, 22, none⟩ = some (.int .i64 t734) := cc
       have hcz48_23 : wr.cell? ⟨gb768, 23, none⟩ = some (.slice Ao18 t735.length co18) := cc
       have hcz48_24 : wr.cell? ⟨gb768, 24, none⟩ = some (.bool t738) := cc
       have hcz48_25 : wr.cell? ⟨gb768, 25, none⟩ = some (.int .i64 t739) := cc
       have hcz48_26 : wr.cell? ⟨gb768, 26, none⟩ = some (.int .i64 t740) := cc
       have hcz48_27 : wr.cell? ⟨gb768, 27, none⟩ = some (.slice Ao19 t741.length co19) := cc
       have hcz48_28 : wr.cell? ⟨gb768, 28, none⟩ = some (.int .i64 t744) := cc
       have hcz48_29 : wr.cell? ⟨gb768, 29, none⟩ = some (.slice Ao20 t745.length co20) := cc
       have hcz48_30 : wr.cell? ⟨gb768, 30, none⟩ = some (.slice Ao21 t748.length co21) := cc
       have hcz48_31 : wr.cell? ⟨gb768, 31, none⟩ = some (.slice Ao22 t751.length co22) := cc
       have hcz48_32 : wr.cell? ⟨gb768, 32, none⟩ = some (.int .i64 t754) := cc
       have hcz48_33 : wr.cell? ⟨gb768, 33, none⟩ = some (.int .i64 t755) := cc
       have hcz48_34 : wr.cell? ⟨gb768, 34, none⟩ = some (.slice Ao23 t756.length co23) := cc
       have hcz48_35 : wr.cell? ⟨gb768, 35, none⟩ = some (.int .i64 t759) := cc
       have hcz48_36 : wr.cell? ⟨gb768, 36, none⟩ = some (.int .i64 t760) := cc
       have hcz48_37 : wr.cell? ⟨gb768, 37, none⟩ = some (.slice Ao24 t761.length co24) := cc
       have hcz48_38 : wr.cell? ⟨gb768, 38, none⟩ = some (.slice Ao25 t764.length co25) := cc
       have hfz48_0 := kF BK768.out 0
       have hfz48_1 := kF BK768.out 1
       have hfz48_2 := kF BK768.out 2
       have hfz48_3 := kF BK768.out 3
       have hfz48_4 := kF BK768.out 4
       have hfz48_5 := kF BK768.out 5
       have hfz48_6 := kF BK768.out 6
       have hfz48_7 := kF BK768.out 7
       have hfz48_8 := kF BK768.out 8
       have hfz48_9 := kF BK768.out 9
       have hfz48_10 := kF BK768.out 10
       have hfz48_11 := kF BK768.out 11
       have hfz48_12 := kF BK768.out 12
       have hfz48_13 := kF BK768.out 13
       have hfz48_14 := kF BK768.out 14
       have hfz48_15 := kF BK768.out 15
       have hfz48_16 := kF BK768.out 16
       have hfz48_17 := kF BK768.out 17
       have hfz48_18 := kF BK768.out 18
       have hfz48_19 := kF BK768.out 19
       have hfz48_20 := kF BK768.out 20
       have hfz48_21 := kF BK768.out 21
       have hfz48_22 := kF BK768.out 22
       have hfz48_23 := kF BK768.out 23
       have hfz48_24 := kF BK768.out 24
       have hfz48_25 := kF BK768.out 25
       have hfz48_26 := kF BK768.out 26
       have hfz48_27 := kF BK768.out 27
       have hfz48_28 := kF BK768.out 28
       have hfz48_29 := kF BK768.out 29
       have hfz48_30 := kF BK768.out 30
       have hfz48_31 := kF BK768.out 31
       have hfz48_32 := kF BK768.out 32
       have hfz48_33 := kF BK768.out 33
       have hfz48_34 := kF BK768.out 34
       have hfz48_35 := kF BK768.out 35
       have hfz48_36 := kF BK768.out 36
       have hfz48_37 := kF BK768.out 37
       have hfz48_38 := kF BK768.out 38
       go_wp2_with (first | ((with_reducible refine gate_callee (f := 94) rfl ?_); refine goesL_ (some 41) rfl rfl Try.func94 kr rfl #[.pointer (some ⟨g701, 0, none⟩), .int .i64 (wrap64 (t760 + 1))] rfl mq ?_; (with_reducible refine (spec_l1Next.calls g701 t699 x702001_1 (wrap64 (t760 + 1)) t783 t784 w _ ?side1 ?side2 A41.out).mono ?_); (case side1 => exact sq HI701.out); (case side2 => exact bq); rintro e w49 ⟨rfl, hi, hb, hk⟩; refine ⟨_, rfl, ?_⟩; replace HO_11 := aM (Kd.S_mono (Kd.S_keep (IsS149.apartS (show IsS149 w _ g701 t699 x702001_1 from sq HI701.out) (by (with_reducible repeat (first | apply Kd.S_alloc | apply Kd.S_drewN | apply Kd.S_drew)); exact HO_11.out) (by decide)) hk (fun _ h => h.2)) (fun _ h => h.1)); replace HO_769005 := aM (rM (Kd.R_keep (IsS149.apart (show IsS149 w _ g701 t699 x702001_1 from sq HI701.out) (rq HO_769005.out) (by decide)) hk (fun _ h => h.2)) (fun _ h => h.1)); replace HO_769006 := aM (rM (Kd.R_keep (IsS149.apart (show IsS149 w _ g701 t699 x702001_1 from sq HI701.out) (rq HO_769006.out) (by decide)) hk (fun _ h => h.2)) (fun _ h => h.1)); replace HO_769010 := aM (rM (Kd.R_keep (IsS149.apart (show IsS149 w _ g701 t699 x702001_1 from sq HI701.out) (rq HO_769010.out) (by decide)) hk (fun _ h => h.2)) (fun _ h => h.1)); replace HO_769014 := aM (rM (Kd.R_keep (IsS149.apart (show IsS149 w _ g701 t699 x702001_1 from sq HI701.out) (rq HO_769014.out) (by decide)) hk (fun _ h => h.2)) (fun _ h => h.1)); replace HO_769019 := aM (Kd.S_mono (Kd.S_keep (IsS149.apartS (show IsS149 w _ g701 t699 x702001_1 from sq HI701.out) (by (with_reducible repeat (first | apply Kd.S_alloc | apply Kd.S_drewN | apply Kd.S_drew)); exact HO_769019.out) (by decide)) hk (fun _ h => h.2)) (fun _ h => h.1)); replace HO_769023 := aM (rM (Kd.R_keep (IsS149.apart (show IsS149 w _ g701 t699 x702001_1 from sq HI701.out) (rq HO_769023.out) (by decide)) hk (fun _ h => h.2)) (fun _ h => h.1)); replace HO_769027 := aM (rM (Kd.R_keep (IsS149.apart (show IsS149 w _ g701 t699 x702001_1 from sq HI701.out) (rq HO_769027.out) (by decide)) hk (fun _ h => h.2)) (fun _ h => h.1)); replace HO_769029 := aM (rM (Kd.R_keep (IsS149.apart (show IsS149 w _ g701 t699 x702001_1 from sq HI701.out) (rq HO_769029.out) (by decide)) hk (fun _ h => h.2)) (fun _ h => h.1)); replace HO_769030 := aM (rM (Kd.R_keep (IsS149.apart (show IsS149 w _ g701 t699 x702001_1 from sq HI701.out) (rq HO_769030.out) (by decide)) hk (fun _ h => h.2)) (fun _ h => h.1)); replace HO_769031 := aM (rM (Kd.R_keep (IsS149.apart (show IsS149 w _ g701 t699 x702001_1 from sq HI701.out) (rq HO_769031.out) (by decide)) hk (fun _ h => h.2)) (fun _ h => h.1)); replace HO_769034 := aM (rM (Kd.R_keep (IsS149.apart (show IsS149 w _ g701 t699 x702001_1 from sq HI701.out) (rq HO_769034.out) (by decide)) hk (fun _ h => h.2)) (fun _ h => h.1)); replace HO_769037 := aM (Kd.S_mono (Kd.S_keep (IsS149.apartS (show IsS149 w _ g701 t699 x702001_1 from sq HI701.out) (by (with_reducible repeat (first | apply Kd.S_alloc | apply Kd.S_drewN | apply Kd.S_drew)); exact HO_769037.out) (by decide)) hk (fun _ h => h.2)) (fun _ h => h.1)); replace HO_769038 := aM (rM (Kd.R_keep (IsS149.apart (show IsS149 w _ g701 t699 x702001_1 from sq HI701.out) (rq HO_769038.out) (by decide)) hk (fun _ h => h.2)) (fun _ h => h.1)); replace BK768 := aM (KeepBut.blk hk (kq BK768.out) NB768_701.out (by simp)); replace HB := aM (hb); replace HI701 := aM (hi); (try clear hb); have p44 : 0 ≤ (x30_1 : Int) := of_decide_eq_true (by first | (with_reducible assumption) | assumption); have q44 : (x30_1 : Int) < ((x11_1.length : Int) : Int) := of_decide_eq_true (by first | (with_reducible assumption) | assumption); obtain ⟨go44, co44, eo44, gb44, gl44, cl44, HG44⟩ := Kd.S_form HO_11.out (by omega); (first | cases eo44 | (injection eo44 with ea_ en_ ec_; (first | subst ea_ | (injection ea_ with ea_; subst ea_)); subst ec_; clear en_)); have GB44 := aM gb44; have GG44 := aM HG44; clear gb44 gl44 HG44; obtain ⟨_, ce44, hcl44, hM44, hcc44, hfr44, _, _⟩ := Kd.S_elem HO_11.out z84 (x30_1 : Int) p44 q44; obtain ⟨ve44_0, rfl, ge44_0⟩ := k84_openM hM44; have hx44_0 : w49.cell? ⟨go44, (x30_1 : Int).toNat * 13, none⟩ = some (ve44_0) := hcc44 0 _ rfl; have hx44_1 : w49.cell? ⟨go44, (x30_1 : Int).toNat * 13 + 1, none⟩ = some (.int .i64 ((rd_T84 x11_1 x30_1).f1.f0)) := hcc44 1 _ rfl; have hx44_2 : w49.cell? ⟨go44, (x30_1 : Int).toNat * 13 + 2, none⟩ = some (.int .i64 ((rd_T84 x11_1 x30_1).f1.f1)) := hcc44 2 _ rfl; have hx44_3 : w49.cell? ⟨go44, (x30_1 : Int).toNat * 13 + 3, none⟩ = some (.int .i64 ((rd_T84 x11_1 x30_1).f1.f2)) := hcc44 3 _ rfl; have hx44_4 : w49.cell? ⟨go44, (x30_1 : Int).toNat * 13 + 4, none⟩ = some (.int .i64 ((rd_T84 x11_1 x30_1).f1.f3)) := hcc44 4 _ rfl; have hx44_5 : w49.cell? ⟨go44, (x30_1 : Int).toNat * 13 + 5, none⟩ = some (.int .i64 ((rd_T84 x11_1 x30_1).f2.f0)) := hcc44 5 _ rfl; have hx44_6 : w49.cell? ⟨go44, (x30_1 : Int).toNat * 13 + 6, none⟩ = some (.int .i64 ((rd_T84 x11_1 x30_1).f2.f1)) := hcc44 6 _ rfl; have hx44_7 : w49.cell? ⟨go44, (x30_1 : Int).toNat * 13 + 7, none⟩ = some (.int .i64 ((rd_T84 x11_1 x30_1).f2.f2)) := hcc44 7 _ rfl; have hx44_8 : w49.cell? ⟨go44, (x30_1 : Int).toNat * 13 + 8, none⟩ = some (.int .i64 ((rd_T84 x11_1 x30_1).f2.f3)) := hcc44 8 _ rfl; have hx44_9 : w49.cell? ⟨go44, (x30_1 : Int).toNat * 13 + 9, none⟩ = some (.int .i64 ((rd_T84 x11_1 x30_1).f3.f0)) := hcc44 9 _ rfl; have hx44_10 : w49.cell? ⟨go44, (x30_1 : Int).toNat * 13 + 10, none⟩ = some (.int .i64 ((rd_T84 x11_1 x30_1).f3.f1)) := hcc44 10 _ rfl; have hx44_11 : w49.cell? ⟨go44, (x30_1 : Int).toNat * 13 + 11, none⟩ = some (.int .i64 ((rd_T84 x11_1 x30_1).f3.f2)) := hcc44 11 _ rfl; have hx44_12 : w49.cell? ⟨go44, (x30_1 : Int).toNat * 13 + 12, none⟩ = some (.int .i64 ((rd_T84 x11_1 x30_1).f3.f3)) := hcc44 12 _ rfl; have hf44_0 : w49.frozen? ⟨go44, (x30_1 : Int).toNat * 13, none⟩ = false := hfr44 0; have hf44_1 : w49.frozen? ⟨go44, (x30_1 : Int).toNat * 13 + 1, none⟩ = false := hfr44 1; have hf44_2 : w49.frozen? ⟨go44, (x30_1 : Int).toNat * 13 + 2, none⟩ = false := hfr44 2; have hf44_3 : w49.frozen? ⟨go44, (x30_1 : Int).toNat * 13 + 3, none⟩ = false := hfr44 3; have hf44_4 : w49.frozen? ⟨go44, (x30_1 : Int).toNat * 13 + 4, none⟩ = false := hfr44 4; have hf44_5 : w49.frozen? ⟨go44, (x30_1 : Int).toNat * 13 + 5, none⟩ = false := hfr44 5; have hf44_6 : w49.frozen? ⟨go44, (x30_1 : Int).toNat * 13 + 6, none⟩ = false := hfr44 6; have hf44_7 : w49.frozen? ⟨go44, (x30_1 : Int).toNat * 13 + 7, none⟩ = false := hfr44 7; have hf44_8 : w49.frozen? ⟨go44, (x30_1 : Int).toNat * 13 + 8, none⟩ = false := hfr44 8; have hf44_9 : w49.frozen? ⟨go44, (x30_1 : Int).toNat * 13 + 9, none⟩ = false := hfr44 9; have hf44_10 : w49.frozen? ⟨go44, (x30_1 : Int).toNat * 13 + 10, none⟩ = false := hfr44 10; have hf44_11 : w49.frozen? ⟨go44, (x30_1 : Int).toNat * 13 + 11, none⟩ = false := hfr44 11; have hf44_12 : w49.frozen? ⟨go44, (x30_1 : Int).toNat * 13 + 12, none⟩ = false := hfr44 12; clear hcl44 hcc44 hfr44 hM44; replace p44 := eq_true p44; replace q44 := eq_true q44; have HX50 := aM (show Kd.S k84 84 w49 w.heap.size (fun k_ => ((fun k_ => nS Ao13 t707 co13 k_ ∧ nS Ao14 t710 co14 k_ ∧ nS Ao15 t716 co15 k_ ∧ nS Ao16 t722 co16 k_ ∧ nS Ao18 t735 co18 k_ ∧ nS Ao19 t741 co19 k_ ∧ nS Ao20 t745 co20 k_ ∧ nS Ao21 t748 co21 k_ ∧ nS Ao22 t751 co22 k_ ∧ nS Ao23 t756 co23 k_)) k_ ∧ ¬ ((fun _ => False)) k_) (.slice (some ⟨go44, 0, none⟩) x11_1.length co38) x11_1 from (by (with_reducible repeat (first | apply Kd.S_alloc | apply Kd.S_drewN | apply Kd.S_drew)); exact Kd.S_mono HO_11.out (fun k_ hk => ⟨⟨hk.1, ⟨hk.2.1, ⟨hk.2.2.1, ⟨hk.2.2.2.1, ⟨hk.2.2.2.2.1, ⟨hk.2.2.2.2.2.1, ⟨hk.2.2.2.2.2.2.1, ⟨hk.2.2.2.2.2.2.2.1, ⟨hk.2.2.2.2.2.2.2.2.1, hk.2.2.2.2.2.2.2.2.2⟩⟩⟩⟩⟩⟩⟩⟩⟩, fun e_ => e_⟩))); obtain ⟨oki50, ce50, hcl50, hM50, hcc50, hfr50, hoki50, hH50⟩ := Kd.S_elem HX50.out z84 (x30_1 : Int) (of_decide_eq_true (by first | (with_reducible assumption) | assumption)) (by have h_ : (x30_1 : Int) < ((x11_1.length : Int) : Int) := of_decide_eq_true (by first | (with_reducible assumption) | assumption); first | exact h_ | (have e_ := (Kd.S_reads' HO_11.out).1; omega) | simpa using h_); obtain ⟨ve50_0, rfl, ge50_0⟩ := k84_openM hM50; have HP50 := Kd.S_seg hH50 (of_decide_eq_true (by first | (with_reducible assumption) | assumption)) (by have h_ : (x30_1 : Int) < ((x11_1.length : Int) : Int) := of_decide_eq_true (by first | (with_reducible assumption) | assumption); first | exact h_ | (have e_ := (Kd.S_reads' HO_11.out).1; omega) | simpa using h_) (seg := [.int .i64 1, .int .i64 t783, .int .i64 0, .int .i64 0]) (j := 1) (show 5 ≤ 13 from by decide) (x' := (⟨(rd_T84 x11_1 x30_1).f0, (⟨1, t783, 0, 0⟩ : S82), (⟨(rd_T84 x11_1 x30_1).f2.f0, (rd_T84 x11_1 x30_1).f2.f1, (rd_T84 x11_1 x30_1).f2.f2, (rd_T84 x11_1 x30_1).f2.f3⟩ : S82), (⟨(rd_T84 x11_1 x30_1).f3.f0, (rd_T84 x11_1 x30_1).f3.f1, (rd_T84 x11_1 x30_1).f3.f2, (rd_T84 x11_1 x30_1).f3.f3⟩ : S82)⟩ : S84)) (k84_mkM _ _ _ (⟨(rd_T84 x11_1 x30_1).f0, (⟨1, t783, 0, 0⟩ : S82), (⟨(rd_T84 x11_1 x30_1).f2.f0, (rd_T84 x11_1 x30_1).f2.f1, (rd_T84 x11_1 x30_1).f2.f2, (rd_T84 x11_1 x30_1).f2.f3⟩ : S82), (⟨(rd_T84 x11_1 x30_1).f3.f0, (rd_T84 x11_1 x30_1).f3.f1, (rd_T84 x11_1 x30_1).f3.f2, (rd_T84 x11_1 x30_1).f3.f3⟩ : S82)⟩ : S84) (rM ge50_0 (fun _ h_ => Or.inl h_))) (fun _ hk => hk) (fun k_ hk_ => hk_.elim); have hx50_1 := hcc50 1 _ rfl; (try simp only [show (k84).sz = 13 from rfl, Nat.mul_one, Nat.add_zero] at hx50_1); have hf50_1 := hfr50 1; (try simp only [show (k84).sz = 13 from rfl, Nat.mul_one, Nat.add_zero] at hf50_1); have hx50_2 := hcc50 2 _ rfl; (try simp only [show (k84).sz = 13 from rfl, Nat.mul_one, Nat.add_zero] at hx50_2); have hf50_2 := hfr50 2; (try simp only [show (k84).sz = 13 from rfl, Nat.mul_one, Nat.add_zero] at hf50_2); have hx50_3 := hcc50 3 _ rfl; (try simp only [show (k84).sz = 13 from rfl, Nat.mul_one, Nat.add_zero] at hx50_3); have hf50_3 := hfr50 3; (try simp only [show (k84).sz = 13 from rfl, Nat.mul_one, Nat.add_zero] at hf50_3); have hx50_4 := hcc50 4 _ rfl; (try simp only [show (k84).sz = 13 from rfl, Nat.mul_one, Nat.add_zero] at hx50_4); have hf50_4 := hfr50 4; (try simp only [show (k84).sz = 13 from rfl, Nat.mul_one, Nat.add_zero] at hf50_4); clear hcl50 hcc50 hfr50 hM50 hoki50 hH50) | ((with_reducible refine gate_store (t := 82) (p := 44) rfl ?_); refine store_event (t := 82) (p := 44) (v := ?vo_w51) (w1 := ((((w49.setCell ⟨go44, (x30_1 : Int).toNat * 13 + 1, none⟩ (.int .i64 1)).setCell ⟨go44, (x30_1 : Int).toNat * 13 + 2, none⟩ (.int .i64 t783)).setCell ⟨go44, (x30_1 : Int).toNat * 13 + 3, none⟩ (.int .i64 0)).setCell ⟨go44, (x30_1 : Int).toNat * 13 + 4, none⟩ (.int .i64 0))) ?hg ?ho ?hn ?hr ?_; (case ho => rfl); (case hg => rfl); (case hn => rfl); (case hr => first | (go_simp; done) | (go_simp; rfl)); intro w51 hw; have hg : w49.grownBy w51 (some go44) := (by rw [hw]; exact HP50.2); have hp_ : Kd.S k84 84 w51 w.heap.size (fun k_ => nS Ao13 t707 co13 k_ ∧ nS Ao14 t710 co14 k_ ∧ nS Ao15 t716 co15 k_ ∧ nS Ao16 t722 co16 k_ ∧ nS Ao18 t735 co18 k_ ∧ nS Ao19 t741 co19 k_ ∧ nS Ao20 t745 co20 k_ ∧ nS Ao21 t748 co21 k_ ∧ nS Ao22 t751 co22 k_ ∧ nS Ao23 t756 co23 k_) (.slice (some ⟨go44, 0, none⟩) x11_1.length co38) y785 := (by rw [hw, Ny785.out]; exact HP50.1); clear HP50; replace HO_769005 := aM (Kd.R_over' (v := (.slice (some ⟨go44, 0, none⟩) x11_1.length co38)) (rq HO_769005.out) (Kd.S_typed HO_11.out) (by decide) hg); replace HO_769006 := aM (Kd.R_over' (v := (.slice (some ⟨go44, 0, none⟩) x11_1.length co38)) (rq HO_769006.out) (Kd.S_typed HO_11.out) (by decide) hg); replace HO_769010 := aM (Kd.R_over' (v := (.slice (some ⟨go44, 0, none⟩) x11_1.length co38)) (rq HO_769010.out) (Kd.S_typed HO_11.out) (by decide) hg); replace HO_769014 := aM (Kd.R_over' (v := (.slice (some ⟨go44, 0, none⟩) x11_1.length co38)) (rq HO_769014.out) (Kd.S_typed HO_11.out) (by decide) hg); replace HO_769019 := aM (Kd.S_over' (v := (.slice (some ⟨go44, 0, none⟩) x11_1.length co38)) (by (with_reducible repeat (first | apply Kd.S_alloc | apply Kd.S_drewN | apply Kd.S_drew)); exact HO_769019.out) (Kd.S_typed HO_11.out) (by decide) hg); replace HO_769023 := aM (Kd.R_over' (v := (.slice (some ⟨go44, 0, none⟩) x11_1.length co38)) (rq HO_769023.out) (Kd.S_typed HO_11.out) (by decide) hg); replace HO_769027 := aM (Kd.R_over' (v := (.slice (some ⟨go44, 0, none⟩) x11_1.length co38)) (rq HO_769027.out) (Kd.S_typed HO_11.out) (by decide) hg); replace HO_769029 := aM (Kd.R_over' (v := (.slice (some ⟨go44, 0, none⟩) x11_1.length co38)) (rq HO_769029.out) (Kd.S_typed HO_11.out) (by decide) hg); replace HO_769030 := aM (Kd.R_over' (v := (.slice (some ⟨go44, 0, none⟩) x11_1.length co38)) (rq HO_769030.out) (Kd.S_typed HO_11.out) (by decide) hg); replace HO_769031 := aM (Kd.R_over' (v := (.slice (some ⟨go44, 0, none⟩) x11_1.length co38)) (rq HO_769031.out) (Kd.S_typed HO_11.out) (by decide) hg); replace HO_769034 := aM (Kd.R_over' (v := (.slice (some ⟨go44, 0, none⟩) x11_1.length co38)) (rq HO_769034.out) (Kd.S_typed HO_11.out) (by decide) hg); replace HO_769037 := aM (Kd.S_over' (v := (.slice (some ⟨go44, 0, none⟩) x11_1.length co38)) (by (with_reducible repeat (first | apply Kd.S_alloc | apply Kd.S_drewN | apply Kd.S_drew)); exact HO_769037.out) (Kd.S_typed HO_11.out) (by decide) hg); replace HO_769038 := aM (Kd.R_over' (v := (.slice (some ⟨go44, 0, none⟩) x11_1.length co38)) (rq HO_769038.out) (Kd.S_typed HO_11.out) (by decide) hg); replace BK768 := aM (blk_grown (kq BK768.out) hg (Kd.S_ne HO_11.out BK768.out (by decide))); replace HI701 := aM (IsS149.grown (sq HI701.out) hg (IsS149.own_neS HI701.out HO_11.out (by decide))); replace HO_11 := aM (hp_); replace HB := aM ((by rw [hw]; exact bS (bS (bS (bS (HB.out) GB44.out) GB44.out) GB44.out) GB44.out : Below w.heap.size w w51)); clear hg hw hp_; have hcz52_0 : w51.cell? ⟨gb768, 0, none⟩ = some (.int .i64 t702) := cc; have hcz52_1 : w51.cell? ⟨gb768, 1, none⟩ = some (.int .i64 t703) := cc; have hcz52_2 : w51.cell? ⟨gb768, 2, none⟩ = some (.int .i64 t704) := cc; have hcz52_3 : w51.cell? ⟨gb768, 3, none⟩ = some (.int .i64 t705) := cc; have hcz52_4 : w51.cell? ⟨gb768, 4, none⟩ = some (.int .i64 t706) := cc; have hcz52_5 : w51.cell? ⟨gb768, 5, none⟩ = some (.slice Ao13 t707.length co13) := cc; have hcz52_6 : w51.cell? ⟨gb768, 6, none⟩ = some (.slice Ao14 t710.length co14) := cc; have hcz52_7 : w51.cell? ⟨gb768, 7, none⟩ = some (.bool t713) := cc; have hcz52_8 : w51.cell? ⟨gb768, 8, none⟩ = some (.int .i64 t714) := cc; have hcz52_9 : w51.cell? ⟨gb768, 9, none⟩ = some (.int .i64 t715) := cc; have hcz52_10 : w51.cell? ⟨gb768, 10, none⟩ = some (.slice Ao15 t716.length co15) := cc; have hcz52_11 : w51.cell? ⟨gb768, 11, none⟩ = some (.bool t719) := cc; have hcz52_12 : w51.cell? ⟨gb768, 12, none⟩ = some (.int .i64 t720) := cc; have hcz52_13 : w51.cell? ⟨gb768, 13, none⟩ = some (.int .i64 t721) := cc; have hcz52_14 : w51.cell? ⟨gb768, 14, none⟩ = some (.slice Ao16 t722.length co16) := cc; have hcz52_15 : w51.cell? ⟨gb768, 15, none⟩ = some (.int .i64 t725) := cc; have hcz52_16 : w51.cell? ⟨gb768, 16, none⟩ = some (.int .i64 t726) := cc; have hcz52_17 : w51.cell? ⟨gb768, 17, none⟩ = some (.int .i64 t727) := cc; have hcz52_18 : w51.cell? ⟨gb768, 18, none⟩ = some (.int .i64 t728) := cc; have hcz52_19 : w51.cell? ⟨gb768, 19, none⟩ = some (.slice Ao17 t729.length co17) := cc; have hcz52_20 : w51.cell? ⟨gb768, 20, none⟩ = some (.bool t732) := cc; have hcz52_21 : w51.cell? ⟨gb768, 21, none⟩ = some (.int .i64 t733) := cc; have hcz52_22 : w51.cell? ⟨gb768, 22, none⟩ = some (.int .i64 t734) := cc; have hcz52_23 : w51.cell? ⟨gb768, 23, none⟩ = some (.slice Ao18 t735.length co18) := cc; have hcz52_24 : w51.cell? ⟨gb768, 24, none⟩ = some (.bool t738) := cc; have hcz52_25 : w51.cell? ⟨gb768, 25, none⟩ = some (.int .i64 t739) := cc; have hcz52_26 : w51.cell? ⟨gb768, 26, none⟩ = some (.int .i64 t740) := cc; have hcz52_27 : w51.cell? ⟨gb768, 27, none⟩ = some (.slice Ao19 t741.length co19) := cc; have hcz52_28 : w51.cell? ⟨gb768, 28, none⟩ = some (.int .i64 t744) := cc; have hcz52_29 : w51.cell? ⟨gb768, 29, none⟩ = some (.slice Ao20 t745.length co20) := cc; have hcz52_30 : w51.cell? ⟨gb768, 30, none⟩ = some (.slice Ao21 t748.length co21) := cc; have hcz52_31 : w51.cell? ⟨gb768, 31, none⟩ = some (.slice Ao22 t751.length co22) := cc; have hcz52_32 : w51.cell? ⟨gb768, 32, none⟩ = some (.int .i64 t754) := cc; have hcz52_33 : w51.cell? ⟨gb768, 33, none⟩ = some (.int .i64 t755) := cc; have hcz52_34 : w51.cell? ⟨gb768, 34, none⟩ = some (.slice Ao23 t756.length co23) := cc; have hcz52_35 : w51.cell? ⟨gb768, 35, none⟩ = some (.int .i64 t759) := cc; have hcz52_36 : w51.cell? ⟨gb768, 36, none⟩ = some (.int .i64 t760) := cc; have hcz52_37 : w51.cell? ⟨gb768, 37, none⟩ = some (.slice Ao24 t761.length co24) := cc; have hcz52_38 : w51.cell? ⟨gb768, 38, none⟩ = some (.slice Ao25 t764.length co25) := cc; have hfz52_0 := kF BK768.out 0; have hfz52_1 := kF BK768.out 1; have hfz52_2 := kF BK768.out 2; have hfz52_3 := kF BK768.out 3; have hfz52_4 := kF BK768.out 4; have hfz52_5 := kF BK768.out 5; have hfz52_6 := kF BK768.out 6; have hfz52_7 := kF BK768.out 7; have hfz52_8 := kF BK768.out 8; have hfz52_9 := kF BK768.out 9; have hfz52_10 := kF BK768.out 10; have hfz52_11 := kF BK768.out 11; have hfz52_12 := kF BK768.out 12; have hfz52_13 := kF BK768.out 13; have hfz52_14 := kF BK768.out 14; have hfz52_15 := kF BK768.out 15; have hfz52_16 := kF BK768.out 16; have hfz52_17 := kF BK768.out 17; have hfz52_18 := kF BK768.out 18; have hfz52_19 := kF BK768.out 19; have hfz52_20 := kF BK768.out 20; have hfz52_21 := kF BK768.out 21; have hfz52_22 := kF BK768.out 22; have hfz52_23 := kF BK768.out 23; have hfz52_24 := kF BK768.out 24; have hfz52_25 := kF BK768.out 25; have hfz52_26 := kF BK768.out 26; have hfz52_27 := kF BK768.out 27; have hfz52_28 := kF BK768.out 28; have hfz52_29 := kF BK768.out 29; have hfz52_30 := kF BK768.out 30; have hfz52_31 := kF BK768.out 31; have hfz52_32 := kF BK768.out 32; have hfz52_33 := kF BK768.out 33; have hfz52_34 := kF BK768.out 34; have hfz52_35 := kF BK768.out 35; have hfz52_36 := kF BK768.out 36; have hfz52_37 := kF BK768.out 37; have hfz52_38 := kF BK768.out 38) | ((with_reducible refine gate_callee (f := 94) rfl ?_); refine goesL_ (some 51) rfl rfl Try.func94 kr rfl #[.pointer (some ⟨g701, 0, none⟩), .int .i64 (wrap64 (t760 + 1))] rfl mq ?_; (with_reducible refine (spec_l1Next.calls g701 t699 t784 (wrap64 (t760 + 1)) t786 t787 w _ ?side1 ?side2 A45.out).mono ?_); (case side1 => exact sq HI701.out); (case side2 => exact bq); rintro e w53 ⟨rfl, hi, hb, hk⟩; refine ⟨_, rfl, ?_⟩; replace HO_11 := aM (Kd.S_mono (Kd.S_keep (IsS149.apartS (show IsS149 w _ g701 t699 t784 from sq HI701.out) (by (with_reducible repeat (first | apply Kd.S_alloc | apply Kd.S_drewN | apply Kd.S_drew)); exact HO_11.out) (by decide)) hk (fun _ h => h.2)) (fun _ h => h.1)); replace HO_769005 := aM (rM (Kd.R_keep (IsS149.apart (show IsS149 w _ g701 t699 t784 from sq HI701.out) (rq HO_769005.out) (by decide)) hk (fun _ h => h.2)) (fun _ h => h.1)); replace HO_769006 := aM (rM (Kd.R_keep (IsS149.apart (show IsS149 w _ g701 t699 t784 from sq HI701.out) (rq HO_769006.out) (by decide)) hk (fun _ h => h.2)) (fun _ h => h.1)); replace HO_769010 := aM (rM (Kd.R_keep (IsS149.apart (show IsS149 w _ g701 t699 t784 from sq HI701.out) (rq HO_769010.out) (by decide)) hk (fun _ h => h.2)) (fun _ h => h.1)); replace HO_769014 := aM (rM (Kd.R_keep (IsS149.apart (show IsS149 w _ g701 t699 t784 from sq HI701.out) (rq HO_769014.out) (by decide)) hk (fun _ h => h.2)) (fun _ h => h.1)); replace HO_769019 := aM (Kd.S_mono (Kd.S_keep (IsS149.apartS (show IsS149 w _ g701 t699 t784 from sq HI701.out) (by (with_reducible repeat (first | apply Kd.S_alloc | apply Kd.S_drewN | apply Kd.S_drew)); exact HO_769019.out) (by decide)) hk (fun _ h => h.2)) (fun _ h => h.1)); replace HO_769023 := aM (rM (Kd.R_keep (IsS149.apart (show IsS149 w _ g701 t699 t784 from sq HI701.out) (rq HO_769023.out) (by decide)) hk (fun _ h => h.2)) (fun _ h => h.1)); replace HO_769027 := aM (rM (Kd.R_keep (IsS149.apart (show IsS149 w _ g701 t699 t784 from sq HI701.out) (rq HO_769027.out) (by decide)) hk (fun _ h => h.2)) (fun _ h => h.1)); replace HO_769029 := aM (rM (Kd.R_keep (IsS149.apart (show IsS149 w _ g701 t699 t784 from sq HI701.out) (rq HO_769029.out) (by decide)) hk (fun _ h => h.2)) (fun _ h => h.1)); replace HO_769030 := aM (rM (Kd.R_keep (IsS149.apart (show IsS149 w _ g701 t699 t784 from sq HI701.out) (rq HO_769030.out) (by decide)) hk (fun _ h => h.2)) (fun _ h => h.1)); replace HO_769031 := aM (rM (Kd.R_keep (IsS149.apart (show IsS149 w _ g701 t699 t784 from sq HI701.out) (rq HO_769031.out) (by decide)) hk (fun _ h => h.2)) (fun _ h => h.1)); replace HO_769034 := aM (rM (Kd.R_keep (IsS149.apart (show IsS149 w _ g701 t699 t784 from sq HI701.out) (rq HO_769034.out) (by decide)) hk (fun _ h => h.2)) (fun _ h => h.1)); replace HO_769037 := aM (Kd.S_mono (Kd.S_keep (IsS149.apartS (show IsS149 w _ g701 t699 t784 from sq HI701.out) (by (with_reducible repeat (first | apply Kd.S_alloc | apply Kd.S_drewN | apply Kd.S_drew)); exact HO_769037.out) (by decide)) hk (fun _ h => h.2)) (fun _ h => h.1)); replace HO_769038 := aM (rM (Kd.R_keep (IsS149.apart (show IsS149 w _ g701 t699 t784 from sq HI701.out) (rq HO_769038.out) (by decide)) hk (fun _ h => h.2)) (fun _ h => h.1)); replace BK768 := aM (KeepBut.blk hk (kq BK768.out) NB768_701.out (by simp)); replace HB := aM (hb); replace HI701 := aM (hi); (try clear hb); have p46 : 0 ≤ (x30_1 : Int) := of_decide_eq_true (by first | (with_reducible assumption) | assumption); have q46 : (x30_1 : Int) < ((x11_1.length : Int) : Int) := of_decide_eq_true (by first | (with_reducible assumption) | assumption); obtain ⟨_, ce46, hcl46, hM46, hcc46, hfr46, _, _⟩ := Kd.S_elem HO_11.out z84 (x30_1 : Int) p46 q46; obtain ⟨ve46_0, rfl, ge46_0⟩ := k84_openM hM46; have hx46_0 : w53.cell? ⟨go44, (x30_1 : Int).toNat * 13, none⟩ = some (ve46_0) := hcc46 0 _ rfl; have hx46_1 : w53.cell? ⟨go44, (x30_1 : Int).toNat * 13 + 1, none⟩ = some (.int .i64 ((rd_T84 y785 x30_1).f1.f0)) := hcc46 1 _ rfl; have hx46_2 : w53.cell? ⟨go44, (x30_1 : Int).toNat * 13 + 2, none⟩ = some (.int .i64 ((rd_T84 y785 x30_1).f1.f1)) := hcc46 2 _ rfl; have hx46_3 : w53.cell? ⟨go44, (x30_1 : Int).toNat * 13 + 3, none⟩ = some (.int .i64 ((rd_T84 y785 x30_1).f1.f2)) := hcc46 3 _ rfl; have hx46_4 : w53.cell? ⟨go44, (x30_1 : Int).toNat * 13 + 4, none⟩ = some (.int .i64 ((rd_T84 y785 x30_1).f1.f3)) := hcc46 4 _ rfl; have hx46_5 : w53.cell? ⟨go44, (x30_1 : Int).toNat * 13 + 5, none⟩ = some (.int .i64 ((rd_T84 y785 x30_1).f2.f0)) := hcc46 5 _ rfl; have hx46_6 : w53.cell? ⟨go44, (x30_1 : Int).toNat * 13 + 6, none⟩ = some (.int .i64 ((rd_T84 y785 x30_1).f2.f1)) := hcc46 6 _ rfl; have hx46_7 : w53.cell? ⟨go44, (x30_1 : Int).toNat * 13 + 7, none⟩ = some (.int .i64 ((rd_T84 y785 x30_1).f2.f2)) := hcc46 7 _ rfl; have hx46_8 : w53.cell? ⟨go44, (x30_1 : Int).toNat * 13 + 8, none⟩ = some (.int .i64 ((rd_T84 y785 x30_1).f2.f3)) := hcc46 8 _ rfl; have hx46_9 : w53.cell? ⟨go44, (x30_1 : Int).toNat * 13 + 9, none⟩ = some (.int .i64 ((rd_T84 y785 x30_1).f3.f0)) := hcc46 9 _ rfl; have hx46_10 : w53.cell? ⟨go44, (x30_1 : Int).toNat * 13 + 10, none⟩ = some (.int .i64 ((rd_T84 y785 x30_1).f3.f1)) := hcc46 10 _ rfl; have hx46_11 : w53.cell? ⟨go44, (x30_1 : Int).toNat * 13 + 11, none⟩ = some (.int .i64 ((rd_T84 y785 x30_1).f3.f2)) := hcc46 11 _ rfl; have hx46_12 : w53.cell? ⟨go44, (x30_1 : Int).toNat * 13 + 12, none⟩ = some (.int .i64 ((rd_T84 y785 x30_1).f3.f3)) := hcc46 12 _ rfl; have hf46_0 : w53.frozen? ⟨go44, (x30_1 : Int).toNat * 13, none⟩ = false := hfr46 0; have hf46_1 : w53.frozen? ⟨go44, (x30_1 : Int).toNat * 13 + 1, none⟩ = false := hfr46 1; have hf46_2 : w53.frozen? ⟨go44, (x30_1 : Int).toNat * 13 + 2, none⟩ = false := hfr46 2; have hf46_3 : w53.frozen? ⟨go44, (x30_1 : Int).toNat * 13 + 3, none⟩ = false := hfr46 3; have hf46_4 : w53.frozen? ⟨go44, (x30_1 : Int).toNat * 13 + 4, none⟩ = false := hfr46 4; have hf46_5 : w53.frozen? ⟨go44, (x30_1 : Int).toNat * 13 + 5, none⟩ = false := hfr46 5; have hf46_6 : w53.frozen? ⟨go44, (x30_1 : Int).toNat * 13 + 6, none⟩ = false := hfr46 6; have hf46_7 : w53.frozen? ⟨go44, (x30_1 : Int).toNat * 13 + 7, none⟩ = false := hfr46 7; have hf46_8 : w53.frozen? ⟨go44, (x30_1 : Int).toNat * 13 + 8, none⟩ = false := hfr46 8; have hf46_9 : w53.frozen? ⟨go44, (x30_1 : Int).toNat * 13 + 9, none⟩ = false := hfr46 9; have hf46_10 : w53.frozen? ⟨go44, (x30_1 : Int).toNat * 13 + 10, none⟩ = false := hfr46 10; have hf46_11 : w53.frozen? ⟨go44, (x30_1 : Int).toNat * 13 + 11, none⟩ = false := hfr46 11; have hf46_12 : w53.frozen? ⟨go44, (x30_1 : Int).toNat * 13 + 12, none⟩ = false := hfr46 12; clear hcl46 hcc46 hfr46 hM46; replace p46 := eq_true p46; replace q46 := eq_true q46; have HX54 := aM (show Kd.S k84 84 w53 w.heap.size (fun k_ => ((fun k_ => nS Ao13 t707 co13 k_ ∧ nS Ao14 t710 co14 k_ ∧ nS Ao15 t716 co15 k_ ∧ nS Ao16 t722 co16 k_ ∧ nS Ao18 t735 co18 k_ ∧ nS Ao19 t741 co19 k_ ∧ nS Ao20 t745 co20 k_ ∧ nS Ao21 t748 co21 k_ ∧ nS Ao22 t751 co22 k_ ∧ nS Ao23 t756 co23 k_)) k_ ∧ ¬ ((fun _ => False)) k_) (.slice (some ⟨go44, 0, none⟩) x11_1.length co38) y785 from (by (with_reducible repeat (first | apply Kd.S_alloc | apply Kd.S_drewN | apply Kd.S_drew)); exact Kd.S_mono HO_11.out (fun k_ hk => ⟨⟨hk.1, ⟨hk.2.1, ⟨hk.2.2.1, ⟨hk.2.2.2.1, ⟨hk.2.2.2.2.1, ⟨hk.2.2.2.2.2.1, ⟨hk.2.2.2.2.2.2.1, ⟨hk.2.2.2.2.2.2.2.1, ⟨hk.2.2.2.2.2.2.2.2.1, hk.2.2.2.2.2.2.2.2.2⟩⟩⟩⟩⟩⟩⟩⟩⟩, fun e_ => e_⟩))); obtain ⟨oki54, ce54, hcl54, hM54, hcc54, hfr54, hoki54, hH54⟩ := Kd.S_elem HX54.out z84 (x30_1 : Int) (of_decide_eq_true (by first | (with_reducible assumption) | assumption)) (by have h_ : (x30_1 : Int) < ((x11_1.length : Int) : Int) := of_decide_eq_true (by first | (with_reducible assumption) | assumption); first | exact h_ | (have e_ := (Kd.S_reads' HO_11.out).1; omega) | simpa using h_); obtain ⟨ve54_0, rfl, ge54_0⟩ := k84_openM hM54; have HP54 := Kd.S_seg hH54 (of_decide_eq_true (by first | (with_reducible assumption) | assumption)) (by have h_ : (x30_1 : Int) < ((x11_1.length : Int) : Int) := of_decide_eq_true (by first | (with_reducible assumption) | assumption); first | exact h_ | (have e_ := (Kd.S_reads' HO_11.out).1; omega) | simpa using h_) (seg := [.int .i64 1, .int .i64 t786, .int .i64 0, .int .i64 0]) (j := 5) (show 9 ≤ 13 from by decide) (x' := (⟨(rd_T84 y785 x30_1).f0, (⟨(rd_T84 y785 x30_1).f1.f0, (rd_T84 y785 x30_1).f1.f1, (rd_T84 y785 x30_1).f1.f2, (rd_T84 y785 x30_1).f1.f3⟩ : S82), (⟨1, t786, 0, 0⟩ : S82), (⟨(rd_T84 y785 x30_1).f3.f0, (rd_T84 y785 x30_1).f3.f1, (rd_T84 y785 x30_1).f3.f2, (rd_T84 y785 x30_1).f3.f3⟩ : S82)⟩ : S84)) (k84_mkM _ _ _ (⟨(rd_T84 y785 x30_1).f0, (⟨(rd_T84 y785 x30_1).f1.f0, (rd_T84 y785 x30_1).f1.f1, (rd_T84 y785 x30_1).f1.f2, (rd_T84 y785 x30_1).f1.f3⟩ : S82), (⟨1, t786, 0, 0⟩ : S82), (⟨(rd_T84 y785 x30_1).f3.f0, (rd_T84 y785 x30_1).f3.f1, (rd_T84 y785 x30_1).f3.f2, (rd_T84 y785 x30_1).f3.f3⟩ : S82)⟩ : S84) (rM ge54_0 (fun _ h_ => Or.inl h_))) (fun _ hk => hk) (fun k_ hk_ => hk_.elim); have hx54_5 := hcc54 5 _ rfl; (try simp only [show (k84).sz = 13 from rfl, Nat.mul_one, Nat.add_zero] at hx54_5); have hf54_5 := hfr54 5; (try simp only [show (k84).sz = 13 from rfl, Nat.mul_one, Nat.add_zero] at hf54_5); have hx54_6 := hcc54 6 _ rfl; (try simp only [show (k84).sz = 13 from rfl, Nat.mul_one, Nat.add_zero] at hx54_6); have hf54_6 := hfr54 6; (try simp only [show (k84).sz = 13 from rfl, Nat.mul_one, Nat.add_zero] at hf54_6); have hx54_7 := hcc54 7 _ rfl; (try simp only [show (k84).sz = 13 from rfl, Nat.mul_one, Nat.add_zero] at hx54_7); have hf54_7 := hfr54 7; (try simp only [show (k84).sz = 13 from rfl, Nat.mul_one, Nat.add_zero] at hf54_7); have hx54_8 := hcc54 8 _ rfl; (try simp only [show (k84).sz = 13 from rfl, Nat.mul_one, Nat.add_zero] at hx54_8); have hf54_8 := hfr54 8; (try simp only [show (k84).sz = 13 from rfl, Nat.mul_one, Nat.add_zero] at hf54_8); clear hcl54 hcc54 hfr54 hM54 hoki54 hH54) | ((with_reducible refine gate_store (t := 82) (p := 54) rfl ?_); refine store_event (t := 82) (p := 54) (v := ?vo_w55) (w1 := ((((w53.setCell ⟨go44, (x30_1 : Int).toNat * 13 + 5, none⟩ (.int .i64 1)).setCell ⟨go44, (x30_1 : Int).toNat * 13 + 6, none⟩ (.int .i64 t786)).setCell ⟨go44, (x30_1 : Int).toNat * 13 + 7, none⟩ (.int .i64 0)).setCell ⟨go44, (x30_1 : Int).toNat * 13 + 8, none⟩ (.int .i64 0))) ?hg ?ho ?hn ?hr ?_; (case ho => rfl); (case hg => rfl); (case hn => rfl); (case hr => first | (go_simp; done) | (go_simp; rfl)); intro w55 hw; have hg : w53.grownBy w55 (some go44) := (by rw [hw]; exact HP54.2); have hp_ : Kd.S k84 84 w55 w.heap.size (fun k_ => nS Ao13 t707 co13 k_ ∧ nS Ao14 t710 co14 k_ ∧ nS Ao15 t716 co15 k_ ∧ nS Ao16 t722 co16 k_ ∧ nS Ao18 t735 co18 k_ ∧ nS Ao19 t741 co19 k_ ∧ nS Ao20 t745 co20 k_ ∧ nS Ao21 t748 co21 k_ ∧ nS Ao22 t751 co22 k_ ∧ nS Ao23 t756 co23 k_) (.slice (some ⟨go44, 0, none⟩) x11_1.length co38) y788 := (by rw [hw, Ny788.out]; exact HP54.1); clear HP54; replace HO_769005 := aM (Kd.R_over' (v := (.slice (some ⟨go44, 0, none⟩) x11_1.length co38)) (rq HO_769005.out) (Kd.S_typed HO_11.out) (by decide) hg); replace HO_769006 := aM (Kd.R_over' (v := (.slice (some ⟨go44, 0, none⟩) x11_1.length co38)) (rq HO_769006.out) (Kd.S_typed HO_11.out) (by decide) hg); replace HO_769010 := aM (Kd.R_over' (v := (.slice (some ⟨go44, 0, none⟩) x11_1.length co38)) (rq HO_769010.out) (Kd.S_typed HO_11.out) (by decide) hg); replace HO_769014 := aM (Kd.R_over' (v := (.slice (some ⟨go44, 0, none⟩) x11_1.length co38)) (rq HO_769014.out) (Kd.S_typed HO_11.out) (by decide) hg); replace HO_769019 := aM (Kd.S_over' (v := (.slice (some ⟨go44, 0, none⟩) x11_1.length co38)) (by (with_reducible repeat (first | apply Kd.S_alloc | apply Kd.S_drewN | apply Kd.S_drew)); exact HO_769019.out) (Kd.S_typed HO_11.out) (by decide) hg); replace HO_769023 := aM (Kd.R_over' (v := (.slice (some ⟨go44, 0, none⟩) x11_1.length co38)) (rq HO_769023.out) (Kd.S_typed HO_11.out) (by decide) hg); replace HO_769027 := aM (Kd.R_over' (v := (.slice (some ⟨go44, 0, none⟩) x11_1.length co38)) (rq HO_769027.out) (Kd.S_typed HO_11.out) (by decide) hg); replace HO_769029 := aM (Kd.R_over' (v := (.slice (some ⟨go44, 0, none⟩) x11_1.length co38)) (rq HO_769029.out) (Kd.S_typed HO_11.out) (by decide) hg); replace HO_769030 := aM (Kd.R_over' (v := (.slice (some ⟨go44, 0, none⟩) x11_1.length co38)) (rq HO_769030.out) (Kd.S_typed HO_11.out) (by decide) hg); replace HO_769031 := aM (Kd.R_over' (v := (.slice (some ⟨go44, 0, none⟩) x11_1.length co38)) (rq HO_769031.out) (Kd.S_typed HO_11.out) (by decide) hg); replace HO_769034 := aM (Kd.R_over' (v := (.slice (some ⟨go44, 0, none⟩) x11_1.length co38)) (rq HO_769034.out) (Kd.S_typed HO_11.out) (by decide) hg); replace HO_769037 := aM (Kd.S_over' (v := (.slice (some ⟨go44, 0, none⟩) x11_1.length co38)) (by (with_reducible repeat (first | apply Kd.S_alloc | apply Kd.S_drewN | apply Kd.S_drew)); exact HO_769037.out) (Kd.S_typed HO_11.out) (by decide) hg); replace HO_769038 := aM (Kd.R_over' (v := (.slice (some ⟨go44, 0, none⟩) x11_1.length co38)) (rq HO_769038.out) (Kd.S_typed HO_11.out) (by decide) hg); replace BK768 := aM (blk_grown (kq BK768.out) hg (Kd.S_ne HO_11.out BK768.out (by decide))); replace HI701 := aM (IsS149.grown (sq HI701.out) hg (IsS149.own_neS HI701.out HO_11.out (by decide))); replace HO_11 := aM (hp_); replace HB := aM ((by rw [hw]; exact bS (bS (bS (bS (HB.out) GB44.out) GB44.out) GB44.out) GB44.out : Below w.heap.size w w55)); clear hg hw hp_))
       (try simp only [← hl11_1])
       go_roundg k1
       case measure => have := HK1.out; omega
       case rel => exact ⟨(y788), (wrap64 (x30_1 + 1)), (t787), (ex), H', ⟨by have := HK1.out; omega⟩, ⟨by (try simp only [hl11_1]); (with_reducible repeat (first | apply Kd.S_alloc | apply Kd.S_drewN | apply Kd.S_drew)); exact HO_11.out⟩, ⟨by (try simp only [hl11_1]); (with_reducible repeat (first | apply rA | apply rN | apply rD)); exact HO_769005.out⟩, ⟨by (try simp only [hl11_1]); (with_reducible repeat (first | apply rA | apply rN | apply rD)); exact HO_769006.out⟩, ⟨by (try simp only [hl11_1]); (with_reducible repeat (first | apply rA | apply rN | apply rD)); exact HO_769010.out⟩, ⟨by (try simp only [hl11_1]); (with_reducible repeat (first | apply rA | apply rN | apply rD)); exact HO_769014.out⟩, ⟨by (try simp only [hl11_1]); (with_reducible repeat (first | apply Kd.S_alloc | apply Kd.S_drewN | apply Kd.S_drew)); exact HO_769019.out⟩, ⟨by (try simp only [hl11_1]); (with_reducible repeat (first | apply rA | apply rN | apply rD)); exact HO_769023.out⟩, ⟨by (try simp only [hl11_1]); (with_reducible repeat (first | apply rA | apply rN | apply rD)); exact HO_769027.out⟩, ⟨by (try simp only [hl11_1]); (with_reducible repeat (first | apply rA | apply rN | apply rD)); exact HO_769029.out⟩, ⟨by (try simp only [hl11_1]); (with_reducible repeat (first | apply rA | apply rN | apply rD)); exact HO_769030.out⟩, ⟨by (try simp only [hl11_1]); (with_reducible repeat (first | apply rA | apply rN | apply rD)); exact HO_769031.out⟩, ⟨by (try simp only [hl11_1]); (with_reducible repeat (first | apply rA | apply rN | apply rD)); exact HO_769034.out⟩, ⟨by (try simp only [hl11_1]); (with_reducible repeat (first | apply Kd.S_alloc | apply Kd.S_drewN | apply Kd.S_drew)); exact HO_769037.out⟩, ⟨by (try simp only [hl11_1]); (with_reducible repeat (first | apply rA | apply rN | apply rD)); exact HO_769038.out⟩, ⟨by (try simp only [hl11_1]); (with_reducible repeat (first | refine kN ?_ _ | refine kD ?_ | refine kA ?_ _)); exact BK768.out⟩, ⟨sq HI701.out⟩, ⟨bq⟩⟩
      ·rw [if_neg c43] at H
       exact absurd H (by simp)
     ·rw [if_neg c42] at H
      exact absurd H (by simp)
    ·rw [if_neg c40] at H
     have c40b0 : (a1 == 1) = false := beq_eq_false_iff_ne.mpr c40
     (try (have c40h0 := c40b0; simp only [hl11_1] at c40h0))
     have c40b1 : (a1 != 1) = true := bne_iff_ne.mpr c40
     (try (have c40h1 := c40b1; simp only [hl11_1] at c40h1))
     have H' := aM H
     clear H
     go_wp2
     (try simp only [← hl11_1])
     go_roundg k1
     case measure => have := HK1.out; omega
     case rel => exact ⟨(x11_1), (wrap64 (x30_1 + 1)), (x702001_1), (ex), H', ⟨by have := HK1.out; omega⟩, ⟨by (try simp only [hl11_1]); (with_reducible repeat (first | apply Kd.S_alloc | apply Kd.S_drewN | apply Kd.S_drew)); exact HO_11.out⟩, ⟨by (try simp only [hl11_1]); (with_reducible repeat (first | apply rA | apply rN | apply rD)); exact HO_769005.out⟩, ⟨by (try simp only [hl11_1]); (with_reducible repeat (first | apply rA | apply rN | apply rD)); exact HO_769006.out⟩, ⟨by (try simp only [hl11_1]); (with_reducible repeat (first | apply rA | apply rN | apply rD)); exact HO_769010.out⟩, ⟨by (try simp only [hl11_1]); (with_reducible repeat (first | apply rA | apply rN | apply rD)); exact HO_769014.out⟩, ⟨by (try simp only [hl11_1]); (with_reducible repeat (first | apply Kd.S_alloc | apply Kd.S_drewN | apply Kd.S_drew)); exact HO_769019.out⟩, ⟨by (try simp only [hl11_1]); (with_reducible repeat (first | apply rA | apply rN | apply rD)); exact HO_769023.out⟩, ⟨by (try simp only [hl11_1]); (with_reducible repeat (first | apply rA | apply rN | apply rD)); exact HO_769027.out⟩, ⟨by (try simp only [hl11_1]); (with_reducible repeat (first | apply rA | apply rN | apply rD)); exact HO_769029.out⟩, ⟨by (try simp only [hl11_1]); (with_reducible repeat (first | apply rA | apply rN | apply rD)); exact HO_769030.out⟩, ⟨by (try simp only [hl11_1]); (with_reducible repeat (first | apply rA | apply rN | apply rD)); exact HO_769031.out⟩, ⟨by (try simp only [hl11_1]); (with_reducible repeat (first | apply rA | apply rN | apply rD)); exact HO_769034.out⟩, ⟨by (try simp only [hl11_1]); (with_reducible repeat (first | apply Kd.S_alloc | apply Kd.S_drewN | apply Kd.S_drew)); exact HO_769037.out⟩, ⟨by (try simp only [hl11_1]); (with_reducible repeat (first | apply rA | apply rN | apply rD)); exact HO_769038.out⟩, ⟨by (try simp only [hl11_1]); (with_reducible repeat (first | refine kN ?_ _ | refine kD ?_ | refine kA ?_ _)); exact BK768.out⟩, ⟨sq HI701.out⟩, ⟨bq⟩⟩
   ·rw [if_neg c39] at H
    have c39b0 : decide (x30_1 < (t779.length : Int)) = false := decide_eq_false c39
    (try (have c39h0 := c39b0; simp only [hl11_1] at c39h0))
    clear c39
    simp only [Option.some.injEq, Prod.mk.injEq] at H
    obtain ⟨rfl, rfl, rfl, rfl, rfl⟩ := H
    try go_wp2
    replace HO_11 := aM (Kd.S_drew HO_11.out)
    replace HO_769005 := aM (rD HO_769005.out)
    replace HO_769006 := aM (rD HO_769006.out)
    replace HO_769010 := aM (rD HO_769010.out)
    replace HO_769014 := aM (rD HO_769014.out)
    replace HO_769019 := aM (Kd.S_drew HO_769019.out)
    replace HO_769023 := aM (rD HO_769023.out)
    replace HO_769027 := aM (rD HO_769027.out)
    replace HO_769029 := aM (rD HO_769029.out)
    replace HO_769030 := aM (rD HO_769030.out)
    replace HO_769031 := aM (rD HO_769031.out)
    replace HO_769034 := aM (rD HO_769034.out)
    replace HO_769037 := aM (Kd.S_drew HO_769037.out)
    replace HO_769038 := aM (rD HO_769038.out)
    replace BK768 := aM (kD BK768.out)
    replace HI701 := aM (IsS149.drew HI701.out)
    replace HB := aM (bD HB.out)
    refine start_ (n := 17) (S := fun w' => w'.cell? ⟨gb768, 0, none⟩ = some (.int .i64 t702) ∧ w'.cell? ⟨gb768, 1, none⟩ = some (.int .i64 t703) ∧ w'.cell? ⟨gb768, 2, none⟩ = some (.int .i64 t704) ∧ w'.cell? ⟨gb768, 3, none⟩ = some (.int .i64 t705) ∧ w'.cell? ⟨gb768, 4, none⟩ = some (.int .i64 t706) ∧ w'.cell? ⟨gb768, 5, none⟩ = some (.slice Ao13 t707.length co13) ∧ w'.cell? ⟨gb768, 6, none⟩ = some (.slice Ao14 t710.length co14) ∧ w'.cell? ⟨gb768, 7, none⟩ = some (.bool t713) ∧ w'.cell? ⟨gb768, 8, none⟩ = some (.int .i64 t714) ∧ w'.cell? ⟨gb768, 9, none⟩ = some (.int .i64 t715) ∧ w'.cell? ⟨gb768, 10, none⟩ = some (.slice Ao15 t716.length co15) ∧ w'.cell? ⟨gb768, 11, none⟩ = some (.bool t719) ∧ w'.cell? ⟨gb768, 12, none⟩ = some (.int .i64 t720) ∧ w'.cell? ⟨gb768, 13, none⟩ = some (.int .i64 t721) ∧ w'.cell? ⟨gb768, 14, none⟩ = some (.slice Ao16 t722.length co16) ∧ w'.cell? ⟨gb768, 15, none⟩ = some (.int .i64 t725) ∧ w'.cell? ⟨gb768, 16, none⟩ = some (.int .i64 t726) ∧ w'.cell? ⟨gb768, 17, none⟩ = some (.int .i64 t727) ∧ w'.cell? ⟨gb768, 18, none⟩ = some (.int .i64 t728) ∧ w'.cell? ⟨gb768, 19, none⟩ = some (.slice Ao17 t729.length co17) ∧ w'.cell? ⟨gb768, 20, none⟩ = some (.bool t732) ∧ w'.cell? ⟨gb768, 21, none⟩ = some (.int .i64 t733) ∧ w'.cell? ⟨gb768, 22, none⟩ = some (.int .i64 t734) ∧ w'.cell? ⟨gb768, 23, none⟩ = some (.slice Ao18 t735.length co18) ∧ w'.cell? ⟨gb768, 24, none⟩ = some (.bool t738) ∧ w'.cell? ⟨gb768, 25, none⟩ = some (.int .i64 t739) ∧ w'.cell? ⟨gb768, 26, none⟩ = some (.int .i64 t740) ∧ w'.cell? ⟨gb768, 27, none⟩ = some (.slice Ao19 t741.length co19) ∧ w'.cell? ⟨gb768, 28, none⟩ = some (.int .i64 t744) ∧ w'.cell? ⟨gb768, 29, none⟩ = some (.slice Ao20 t745.length co20) ∧ w'.cell? ⟨gb768, 30, none⟩ = some (.slice Ao21 t748.length co21) ∧ w'.cell? ⟨gb768, 31, none⟩ = some (.slice Ao22 t751.length co22) ∧ w'.cell? ⟨gb768, 32, none⟩ = some (.int .i64 t754) ∧ w'.cell? ⟨gb768, 33, none⟩ = some (.int .i64 t755) ∧ w'.cell? ⟨gb768, 34, none⟩ = some (.slice Ao23 t756.length co23) ∧ w'.cell? ⟨gb768, 35, none⟩ = some (.int .i64 t759) ∧ w'.cell? ⟨gb768, 36, none⟩ = some (.int .i64 t760) ∧ w'.cell? ⟨gb768, 37, none⟩ = some (.slice Ao24 t761.length co24) ∧ w'.cell? ⟨gb768, 38, none⟩ = some (.slice Ao25 t764.length co25)) (ds := []) #[N,N,N,N,N,N,N,N,N,N,N,N,N,N,N,N,N] kr rfl rfl ⟨cc, cc, cc, cc, cc, cc, cc, cc, cc, cc, cc, cc, cc, cc, cc, cc, cc, cc, cc, cc, cc, cc, cc, cc, cc, cc, cc, cc, cc, cc, cc, cc, cc, cc, cc, cc, cc, cc, cc⟩ (fun hHeld => ?_); refine with_tabW spec_DrawStory.tab11 spec_DrawStory.bits11 (fun HT_ HW_ => ?_)
    generalize wr.drew = w56 at HO_11 HO_769005 HO_769006 HO_769010 HO_769014 HO_769019 HO_769023 HO_769027 HO_769029 HO_769030 HO_769031 HO_769034 HO_769037 HO_769038 BK768 HI701 HB hHeld ⊢
    refine pp HT_ (N := some 56) 0 #[Y,N,N,N,N,N,N,N,N,N,N,N,N,N,N,N,N] ?_
    refine pp HT_ (N := some 57) 1 #[Y,Y,N,N,N,N,N,N,N,N,N,N,N,N,N,N,N] ?_
    refine pp HT_ (N := some 59) 3 #[Y,Y,N,Y,N,N,N,N,N,N,N,N,N,N,N,N,N] ?_
    refine pp HT_ (N := some 60) 4 #[Y,Y,N,Y,Y,N,N,N,N,N,N,N,N,N,N,N,N] ?_
    refine pp HT_ (N := some 62) 6 #[Y,Y,N,Y,Y,N,Y,N,N,N,N,N,N,N,N,N,N] ?_
    refine pp HT_ (N := some 63) 7 #[Y,Y,N,Y,Y,N,Y,Y,N,N,N,N,N,N,N,N,N] ?_
    refine pp HT_ (N := some 65) 9 #[Y,Y,N,Y,Y,N,Y,Y,N,Y,N,N,N,N,N,N,N] ?_
    refine pp HT_ (N := some 67) 11 #[Y,Y,N,Y,Y,N,Y,Y,N,Y,N,Y,N,N,N,N,N] ?_
    refine tt HT_ HW_ (N := some 58) 2 #[Y,Y,Y,Y,Y,N,Y,Y,N,Y,N,Y,N,N,N,N,N] hHeld ?_ (hy := by rintro w' ⟨s0, s1, s2, s3, s4, s5, s6, s7, s8, s9, s10, s11, s12, s13, s14, s15, s16, s17, s18, s19, s20, s21, s22, s23, s24, s25, s26, s27, s28, s29, s30, s31, s32, s33, s34, s35, s36, s37, s38⟩; go_simp; with_reducible rfl)
    refine pp HT_ (N := some 4) 12 #[Y,Y,Y,Y,Y,N,Y,Y,N,Y,N,Y,Y,N,N,N,N] ?_
    refine tt HT_ HW_ (N := some 61) 5 #[Y,Y,Y,Y,Y,Y,Y,Y,N,Y,N,Y,Y,N,N,N,N] hHeld ?_ (hy := by rintro w' ⟨s0, s1, s2, s3, s4, s5, s6, s7, s8, s9, s10, s11, s12, s13, s14, s15, s16, s17, s18, s19, s20, s21, s22, s23, s24, s25, s26, s27, s28, s29, s30, s31, s32, s33, s34, s35, s36, s37, s38⟩; go_simp; with_reducible rfl)
    refine pp HT_ (N := some 5) 13 #[Y,Y,Y,Y,Y,Y,Y,Y,N,Y,N,Y,Y,Y,N,N,N] ?_
    refine tt HT_ HW_ (N := some 64) 8 #[Y,Y,Y,Y,Y,Y,Y,Y,Y,Y,N,Y,Y,Y,N,N,N] hHeld ?_ (hy := by rintro w' ⟨s0, s1, s2, s3, s4, s5, s6, s7, s8, s9, s10, s11, s12, s13, s14, s15, s16, s17, s18, s19, s20, s21, s22, s23, s24, s25, s26, s27, s28, s29, s30, s31, s32, s33, s34, s35, s36, s37, s38⟩; go_simp; with_reducible rfl)
    refine pp HT_ (N := some 6) 14 #[Y,Y,Y,Y,Y,Y,Y,Y,Y,Y,N,Y,Y,Y,Y,N,N] ?_
    refine tt HT_ HW_ (N := some 66) 10 #[Y,Y,Y,Y,Y,Y,Y,Y,Y,Y,Y,Y,Y,Y,Y,N,N] hHeld ?_ (hy := by rintro w' ⟨s0, s1, s2, s3, s4, s5, s6, s7, s8, s9, s10, s11, s12, s13, s14, s15, s16, s17, s18, s19, s20, s21, s22, s23, s24, s25, s26, s27, s28, s29, s30, s31, s32, s33, s34, s35, s36, s37, s38⟩; go_simp; with_reducible rfl)
    refine pp HT_ (N := some 7) 15 #[Y,Y,Y,Y,Y,Y,Y,Y,Y,Y,Y,Y,Y,Y,Y,Y,N] ?_
    refine pp HT_ (N := some 8) 16 #[Y,Y,Y,Y,Y,Y,Y,Y,Y,Y,Y,Y,Y,Y,Y,Y,Y] ?_
    refine done_ (done_of HT_.out kr) ?_
    try go_wp2
    refine bodyPost_ret (results_list (rs := [.tmp 4, .tmp 5, .tmp 6, .tmp 7, .tmp 8]) rfl (by simp) (.tmp (.tmp (.tmp (.tmp (.tmp .nil)))))) rfl ?_
    exact ⟨_, ew, by (with_reducible repeat (first | apply Kd.S_alloc | apply Kd.S_drewN | apply Kd.S_drew)); exact Kd.S_mono HO_11.out (fun _ hk => trivial), bq⟩

end Go.Proofs.Ytmhnpogjkbmmnaa.PFnLaps
