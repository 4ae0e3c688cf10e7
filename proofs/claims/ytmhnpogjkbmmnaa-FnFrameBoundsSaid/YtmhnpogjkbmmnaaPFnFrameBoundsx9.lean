-- Written by a program of this session: wip/mkprint.py over the kit's print, with contracts proved by hand (wip/given.py)
-- told shortest
-- told shorter still
-- shortened
-- told short
-- worlds by letters
-- squeezed
import Derived.Test.YtmhnpogjkbmmnaaPFnFrameBoundsx0
import Derived.Test.YtmhnpogjkbmmnaaPFnFrameBoundsx4
import Derived.Test.YtmhnpogjkbmmnaaPFnFrameBoundsx5
import Derived.Test.YtmhnpogjkbmmnaaPFnFrameBoundsx7
import Derived.Test.YtmhnpogjkbmmnaaPFnFrameBoundsx8
namespace Go.Proofs.Ytmhnpogjkbmmnaa.PFnFrameBounds
open Go.RowKit Go.Proofs.YtmhnpogjkbmmnaaW.PrintWords Go.Proofs.YtmhnpogjkbmmnaaW.PrintLast Go.Proofs.YtmhnpogjkbmmnaaW.PrintMore
open Go.Proofs.YtmhnpogjkbmmnaaW.PrintWords.Kd renaming R_alloc → rA, R_drewN → rN, R_drew → rD, R_far → rF, R_mono → rM, R_base → rB, R_new' → rW, R_below → rL, R_lt → rT, R_lower → rG, R_elder' → rH, R_reads' → rR, C_below → cB
open Go.Proofs.YtmhnpogjkbmmnaaW.PrintMore.Kd renaming R_told → rO, R_old → rE
open Go.Proofs.YtmhnpogjkbmmnaaW.PrintWords renaming below_drew1 → bD, below_step → bT, below_size → bZ, blk_drewN → kN, blk_drew → kD, blk_alloc → kA, blk_below → kB, blk_cell → kC, blk_frozen → kF
open Go.Proofs.YtmhnpogjkbmmnaaW.PrintWords.Aside0 renaming mk → aM
attribute [local go_sem] max2_int min2_int max_two min_two max_three min_three max_four min_four   -- for this text's walks alone
set_option linter.unusedVariables false
set_option linter.unusedSimpArgs false

/-! ### impl_FrameBounds: function 11 -/
def impl_FrameBounds.j0 : Nat → List Int → List Int → List Int → Int → Int → Option (Int × List Int)
 | 0, _, _, _, _, _ => none
 | k + 1, x1, x2, x3, x10, x305000 => if x10 = 0 then ((impl_ofBounds.f).bind fun _ => ((impl_undo_gather.f k impl_ofBounds_1.f impl_partBounds.f x2).bind fun t337 => ((impl_undo_gather.f k impl_ofBounds_1.f impl_partBounds.f x1).bind fun t340 => (if 0 ≤ (wrap64 (Int.tdiv x305000 2)) then (if (wrap64 (Int.tdiv x305000 2)) ≤ (t340.length : Int) then (if (wrap64 (Int.tdiv x305000 2)) ≤ (t337.length : Int) then ((impl_seam.f k (t340.drop ((wrap64 (Int.tdiv x305000 2)) : Int).toNat) (t337.take ((wrap64 (Int.tdiv x305000 2)) : Int).toNat) (impl_ofBounds_1.f x305000)).bind fun bt353 => ((impl_undo_gather.f k impl_ofBounds_1.f impl_partBounds.f x3).bind fun t364 => (if (wrap64 (Int.tdiv x305000 2)) ≤ (t364.length : Int) then ((impl_seam.f k (t337.drop ((wrap64 (Int.tdiv x305000 2)) : Int).toNat) (t364.take ((wrap64 (Int.tdiv x305000 2)) : Int).toNat) (impl_ofBounds_1.f x305000)).bind fun bt372 => ((slices_Concat_int64_int64.f k (([bt353.2, bt372.1] : List (List Int)))).bind fun t381 => (some (0, t381)))) else (none)))) else (none)) else (none)) else (none))))) else (some (x10, ([] : List Int)))
def impl_FrameBounds.f (k : Nat) (a0 : Int) (l1 : List Int) (l2 : List Int) (l3 : List Int) : Option (Int × List Int) := (impl_SizeFault.f a0).bind fun t306 => ((impl_FrameBounds_1.f l1 a0).bind fun t307 => (if t307 = true then ((impl_codeIf.f true 2).bind fun t308 => ((impl_boundsFault.f k l1).bind fun t309 => ((impl_boundsFault.f k l2).bind fun t310 => ((impl_boundsFault.f k l3).bind fun t311 => ((impl_first.f k (([t306, t308, t309, t310, t311] : List Int))).bind fun t315 => (impl_FrameBounds.j0 k l1 l2 l3 t315 a0)))))) else ((impl_FrameBounds_1.f l2 a0).bind fun t316 => (if t316 = true then ((impl_codeIf.f true 2).bind fun t317 => ((impl_boundsFault.f k l1).bind fun t318 => ((impl_boundsFault.f k l2).bind fun t319 => ((impl_boundsFault.f k l3).bind fun t320 => ((impl_first.f k (([t306, t317, t318, t319, t320] : List Int))).bind fun t324 => (impl_FrameBounds.j0 k l1 l2 l3 t324 a0)))))) else ((impl_FrameBounds_1.f l3 a0).bind fun t325 => ((impl_codeIf.f t325 2).bind fun t326 => ((impl_boundsFault.f k l1).bind fun t327 => ((impl_boundsFault.f k l2).bind fun t328 => ((impl_boundsFault.f k l3).bind fun t329 => ((impl_first.f k (([t306, t326, t327, t328, t329] : List Int))).bind fun t333 => (impl_FrameBounds.j0 k l1 l2 l3 t333 a0)))))))))))
theorem impl_FrameBounds.mono_l : ∀ k, (∀ y0 y1 y2 y3 y4, LeO (impl_FrameBounds.j0 k y0 y1 y2 y3 y4) (impl_FrameBounds.j0 (k + 1) y0 y1 y2 y3 y4))
 | 0 => fun _ _ _ _ _ r h => by simp [impl_FrameBounds.j0] at h
 | k + 1 => by
  have ih0 := impl_FrameBounds.mono_l k
  ·intro y0 y1 y2 y3 y4
   unfold impl_FrameBounds.j0
   repeat' first
   | (with_reducible exact ih0 _ _ _ _ _)
   | (with_reducible exact impl_boundsFault.mono _ _)
   | (with_reducible exact impl_first.mono _ _)
   | (with_reducible exact impl_seam.mono _ _ _ _)
   | (with_reducible exact impl_undo_gather.mono _ _ _ _)
   | (with_reducible exact slices_Concat_int64_int64.mono _ _)
   | (with_reducible exact LeO.refl _)
   | (with_reducible exact LeO.none _)
   | (with_reducible refine LeO.ite ?_ ?_)
   | (with_reducible refine LeO.bind ?_ (fun _ => ?_))
   | exact ih0 _ _ _ _ _
   | exact impl_boundsFault.mono _ _
   | exact impl_first.mono _ _
   | exact impl_seam.mono _ _ _ _
   | exact impl_undo_gather.mono _ _ _ _
   | exact slices_Concat_int64_int64.mono _ _
   | exact LeO.none _
   | refine LeO.ite ?_ ?_
   | refine LeO.bind ?_ (fun _ => ?_)
theorem impl_FrameBounds.mono : ∀ a0 a1 a2 a3 k, LeO (impl_FrameBounds.f k a0 a1 a2 a3) (impl_FrameBounds.f (k + 1) a0 a1 a2 a3) := by
 intro a0 a1 a2 a3 k
 have ih0 := impl_FrameBounds.mono_l k
 unfold impl_FrameBounds.f
 repeat' first
   | (with_reducible exact ih0 _ _ _ _ _)
   | (with_reducible exact impl_boundsFault.mono _ _)
   | (with_reducible exact impl_first.mono _ _)
   | (with_reducible exact impl_seam.mono _ _ _ _)
   | (with_reducible exact impl_undo_gather.mono _ _ _ _)
   | (with_reducible exact slices_Concat_int64_int64.mono _ _)
   | (with_reducible exact LeO.refl _)
   | (with_reducible exact LeO.none _)
   | (with_reducible refine LeO.ite ?_ ?_)
   | (with_reducible refine LeO.bind ?_ (fun _ => ?_))
   | exact ih0 _ _ _ _ _
   | exact impl_boundsFault.mono _ _
   | exact impl_first.mono _ _
   | exact impl_seam.mono _ _ _ _
   | exact impl_undo_gather.mono _ _ _ _
   | exact slices_Concat_int64_int64.mono _ _
   | exact LeO.none _
   | refine LeO.ite ?_ ?_
   | refine LeO.bind ?_ (fun _ => ?_)
def impl_FrameBounds.T8 : Bool × List (List Nat × List Nat) := (true, [([], []), ([], []), ([0, 1], [0, 1]), ([], []), ([2, 3], [2, 3]), ([], []), ([], []), ([5, 6], [5, 6]), ([], []), ([4, 7, 8, 2], [4, 7, 8]), ([9], [9]), ([10], [10]), ([10], [10]), ([11, 9, 0, 1, 2, 3, 4, 5, 6, 7, 8, 9, 10, 11], [11]), ([12, 13, 0, 1, 2, 3, 4, 5, 6, 7, 8, 9, 10, 11, 12, 13], [12])])
def impl_FrameBounds.B8 : List Nat := [0, 0, 3, 0, 15, 0, 0, 96, 0, 511, 1023, 2047, 2047, 4095, 16383]
theorem impl_FrameBounds.tab8 : rtab .any (opsOf Try.f11 8) = impl_FrameBounds.T8 := by kernel_rfl
theorem impl_FrameBounds.bits8 : waitsOk impl_FrameBounds.T8.2 impl_FrameBounds.B8 = true := by kernel_rfl
def impl_FrameBounds.T9 : Bool × List (List Nat × List Nat) := (true, [([], []), ([], []), ([0, 1], [0, 1]), ([], []), ([], []), ([3, 4], [3, 4]), ([], []), ([5, 6], [5, 6]), ([], []), ([2, 7, 8, 5], [2, 7, 8]), ([9], [9]), ([10], [10]), ([10], [10]), ([11, 9, 0, 1, 2, 3, 4, 5, 6, 7, 8, 9, 10, 11], [11]), ([12, 13, 0, 1, 2, 3, 4, 5, 6, 7, 8, 9, 10, 11, 12, 13], [12])])
def impl_FrameBounds.B9 : List Nat := [0, 0, 3, 0, 0, 24, 0, 120, 0, 511, 1023, 2047, 2047, 4095, 16383]
theorem impl_FrameBounds.tab9 : rtab .any (opsOf Try.f11 9) = impl_FrameBounds.T9 := by kernel_rfl
theorem impl_FrameBounds.bits9 : waitsOk impl_FrameBounds.T9.2 impl_FrameBounds.B9 = true := by kernel_rfl
set_option maxHeartbeats 8000000 in
set_option maxRecDepth 100000 in
theorem impl_FrameBounds.calls (k : Nat) (a0 : Int) (A1 : Option Addr) (c1 : Nat) (l1 : List Int) (A2 : Option Addr) (c2 : Nat) (l2 : List Int) (A3 : Option Addr) (c3 : Nat) (l3 : List Int) (r1 : Int) (r2 : List Int) (w : World) (hr1 : Kd.C (Kd.int .i64) w A1 l1.length l1) (hc1 : l1.length ≤ c1) (hr2 : Kd.C (Kd.int .i64) w A2 l2.length l2) (hc2 : l2.length ≤ c2) (hr3 : Kd.C (Kd.int .i64) w A3 l3.length l3) (hc3 : l3.length ≤ c3) (h : impl_FrameBounds.f k a0 l1 l2 l3 = some (r1, r2)) :
  Calls Try.prog 11 #[.int .i64 a0, .slice A1 l1.length c1, .slice A2 l2.length c2, .slice A3 l3.length c3] w fun e w' => ∃ v1_ : Value, e = .returned (.agg #[.int .i64 r1, v1_]) ∧ Kd.R (Kd.int .i64) 2 w' w.heap.size (fun _ => True) v1_ r2 ∧ Below w.heap.size w w' := by
 have hu24 := Try.underlying24
 have hu94 := Try.underlying94
 have HR1 := aM hr1
 have HC1 := aM hc1
 clear hr1 hc1
 have HR2 := aM hr2
 have HC2 := aM hc2
 clear hr2 hc2
 have HR3 := aM hr3
 have HC3 := aM hc3
 clear hr3 hc3
 have HB := aM (Below.refl w.heap.size w)
 have H : ((impl_SizeFault.f a0).bind fun t306 => ((impl_FrameBounds_1.f l1 a0).bind fun t307 => (if t307 = true then ((impl_codeIf.f true 2).bind fun t308 => ((impl_boundsFault.f k l1).bind fun t309 => ((impl_boundsFault.f k l2).bind fun t310 => ((impl_boundsFault.f k l3).bind fun t311 => ((impl_first.f k (([t306, t308, t309, t310, t311] : List Int))).bind fun t315 => (impl_FrameBounds.j0 k l1 l2 l3 t315 a0)))))) else ((impl_FrameBounds_1.f l2 a0).bind fun t316 => (if t316 = true then ((impl_codeIf.f true 2).bind fun t317 => ((impl_boundsFault.f k l1).bind fun t318 => ((impl_boundsFault.f k l2).bind fun t319 => ((impl_boundsFault.f k l3).bind fun t320 => ((impl_first.f k (([t306, t317, t318, t319, t320] : List Int))).bind fun t324 => (impl_FrameBounds.j0 k l1 l2 l3 t324 a0)))))) else ((impl_FrameBounds_1.f l3 a0).bind fun t325 => ((impl_codeIf.f t325 2).bind fun t326 => ((impl_boundsFault.f k l1).bind fun t327 => ((impl_boundsFault.f k l2).bind fun t328 => ((impl_boundsFault.f k l3).bind fun t329 => ((impl_first.f k (([t306, t326, t327, t328, t329] : List Int))).bind fun t333 => (impl_FrameBounds.j0 k l1 l2 l3 t333 a0)))))))))))) = some (r1, r2) := h
 clear h
 have HC5 := aM H
 clear H
 go_enter Try.func11, Try.ntmps11
 go_upto_region 2 with (first | ((with_reducible refine gate_dst (N := 4) rfl ?_); refine box_event ?hg (N := 4) ?hd (cs := #[.int .i64 a0]) (t := 2) ?hr ?_; (case hd => rfl); (case hg => rfl); (case hr => first | (go_simp; done) | (go_simp; rfl)); intro gb304 hg w6 hbox hb; have BK304 := aM (hbox); have GW304 := aM ((by rw [hg]; exact (bZ bq) : w.heap.size ≤ gb304)); have GE304 := aM ((by rw [hg]; exact (bZ bq) : w.heap.size ≤ gb304)); replace HB := aM (bT bq hb); clear hb hbox hg) | ((with_reducible refine gate_dst (N := 8) rfl ?_); refine box_event ?hg (N := 8) ?hd (cs := #[.int .i64 0, .slice none 0 0]) (t := 24) ?hr ?_; (case hd => rfl); (case hg => rfl); (case hr => first | (go_simp; done) | (go_simp; rfl)); intro gb305 hg w7 hbox hb; have BK305 := aM (hbox); have GW305 := aM ((by rw [hg]; exact (bZ bq) : w.heap.size ≤ gb305)); have GE305 := aM ((by rw [hg]; exact (bZ bq) : w.heap.size ≤ gb305)); replace HB := aM (bT bq hb); have NB304_305 := aM ((by rw [hg]; exact Nat.ne_of_lt (blk_lt (kq BK304.out)) : gb304 ≠ gb305)); have NB305_304 := aM ((by rw [hg]; exact Nat.ne_of_gt (blk_lt (kq BK304.out)) : gb305 ≠ gb304)); replace BK304 := aM (kB (kq BK304.out) hb); clear hb hbox hg))
 (try simp only [Act.put, pa, pb, pc])
 go_cut [10] (fun v10 wc => ∃ (kq : Nat) (x10_4 : Int), v10 = .int .i64 x10_4 ∧ Aside0 (impl_FrameBounds.j0 kq l1 l2 l3 x10_4 a0 = some (r1, r2)) ∧ Aside0 (kq ≤ k) ∧ Aside0 (wc.heap[gb304]? = some (.cells #[.int .i64 a0] 2 (0, 0))) ∧ Aside0 (wc.heap[gb305]? = some (.cells #[.int .i64 0, (.slice none 0 0)] 24 (0, 0))) ∧ Aside0 (Below w.heap.size w wc))
 case first =>
  have H := HC5.out
  clear HC5
  replace H := Option.bind_eq_some_iff.mp H
  obtain ⟨t306, A80, H⟩ := H
  replace H : ((impl_FrameBounds_1.f l1 a0).bind fun t307 => (if t307 = true then ((impl_codeIf.f true 2).bind fun t308 => ((impl_boundsFault.f k l1).bind fun t309 => ((impl_boundsFault.f k l2).bind fun t310 => ((impl_boundsFault.f k l3).bind fun t311 => ((impl_first.f k (([t306, t308, t309, t310, t311] : List Int))).bind fun t315 => (impl_FrameBounds.j0 k l1 l2 l3 t315 a0)))))) else ((impl_FrameBounds_1.f l2 a0).bind fun t316 => (if t316 = true then ((impl_codeIf.f true 2).bind fun t317 => ((impl_boundsFault.f k l1).bind fun t318 => ((impl_boundsFault.f k l2).bind fun t319 => ((impl_boundsFault.f k l3).bind fun t320 => ((impl_first.f k (([t306, t317, t318, t319, t320] : List Int))).bind fun t324 => (impl_FrameBounds.j0 k l1 l2 l3 t324 a0)))))) else ((impl_FrameBounds_1.f l3 a0).bind fun t325 => ((impl_codeIf.f t325 2).bind fun t326 => ((impl_boundsFault.f k l1).bind fun t327 => ((impl_boundsFault.f k l2).bind fun t328 => ((impl_boundsFault.f k l3).bind fun t329 => ((impl_first.f k (([t306, t326, t327, t328, t329] : List Int))).bind fun t333 => (impl_FrameBounds.j0 k l1 l2 l3 t333 a0))))))))))) = some (r1, r2) := H
  have A8 := aM A80
  clear A80
  replace H := Option.bind_eq_some_iff.mp H
  obtain ⟨t307, A90, H⟩ := H
  replace H : (if t307 = true then ((impl_codeIf.f true 2).bind fun t308 => ((impl_boundsFault.f k l1).bind fun t309 => ((impl_boundsFault.f k l2).bind fun t310 => ((impl_boundsFault.f k l3).bind fun t311 => ((impl_first.f k (([t306, t308, t309, t310, t311] : List Int))).bind fun t315 => (impl_FrameBounds.j0 k l1 l2 l3 t315 a0)))))) else ((impl_FrameBounds_1.f l2 a0).bind fun t316 => (if t316 = true then ((impl_codeIf.f true 2).bind fun t317 => ((impl_boundsFault.f k l1).bind fun t318 => ((impl_boundsFault.f k l2).bind fun t319 => ((impl_boundsFault.f k l3).bind fun t320 => ((impl_first.f k (([t306, t317, t318, t319, t320] : List Int))).bind fun t324 => (impl_FrameBounds.j0 k l1 l2 l3 t324 a0)))))) else ((impl_FrameBounds_1.f l3 a0).bind fun t325 => ((impl_codeIf.f t325 2).bind fun t326 => ((impl_boundsFault.f k l1).bind fun t327 => ((impl_boundsFault.f k l2).bind fun t328 => ((impl_boundsFault.f k l3).bind fun t329 => ((impl_first.f k (([t306, t326, t327, t328, t329] : List Int))).bind fun t333 => (impl_FrameBounds.j0 k l1 l2 l3 t333 a0)))))))))) = some (r1, r2) := H
  have A9 := aM A90
  clear A90
  by_cases c10 : t307 = true
  ·subst c10
   have H1 : ((impl_codeIf.f true 2).bind fun t308 => ((impl_boundsFault.f k l1).bind fun t309 => ((impl_boundsFault.f k l2).bind fun t310 => ((impl_boundsFault.f k l3).bind fun t311 => ((impl_first.f k (([t306, t308, t309, t310, t311] : List Int))).bind fun t315 => (impl_FrameBounds.j0 k l1 l2 l3 t315 a0)))))) = some (r1, r2) := by rw [if_pos rfl] at H; exact H
   clear H
   have H := H1
   clear H1
   replace H := Option.bind_eq_some_iff.mp H
   obtain ⟨t308, A110, H⟩ := H
   replace H : ((impl_boundsFault.f k l1).bind fun t309 => ((impl_boundsFault.f k l2).bind fun t310 => ((impl_boundsFault.f k l3).bind fun t311 => ((impl_first.f k (([t306, t308, t309, t310, t311] : List Int))).bind fun t315 => (impl_FrameBounds.j0 k l1 l2 l3 t315 a0))))) = some (r1, r2) := H
   have A11 := aM A110
   clear A110
   replace H := Option.bind_eq_some_iff.mp H
   obtain ⟨t309, A120, H⟩ := H
   replace H : ((impl_boundsFault.f k l2).bind fun t310 => ((impl_boundsFault.f k l3).bind fun t311 => ((impl_first.f k (([t306, t308, t309, t310, t311] : List Int))).bind fun t315 => (impl_FrameBounds.j0 k l1 l2 l3 t315 a0)))) = some (r1, r2) := H
   have A12 := aM A120
   clear A120
   replace H := Option.bind_eq_some_iff.mp H
   obtain ⟨t310, A130, H⟩ := H
   replace H : ((impl_boundsFault.f k l3).bind fun t311 => ((impl_first.f k (([t306, t308, t309, t310, t311] : List Int))).bind fun t315 => (impl_FrameBounds.j0 k l1 l2 l3 t315 a0))) = some (r1, r2) := H
   have A13 := aM A130
   clear A130
   replace H := Option.bind_eq_some_iff.mp H
   obtain ⟨t311, A140, H⟩ := H
   replace H : ((impl_first.f k (([t306, t308, t309, t310, t311] : List Int))).bind fun t315 => (impl_FrameBounds.j0 k l1 l2 l3 t315 a0)) = some (r1, r2) := H
   have A14 := aM A140
   clear A140
   obtain ⟨y312, hy312⟩ : ∃ y_ : List Int, y_ = (([t306, t308, t309, t310, t311] : List Int)) := ⟨_, rfl⟩
   replace H : ((impl_first.f k y312).bind fun t315 => (impl_FrameBounds.j0 k l1 l2 l3 t315 a0)) = some (r1, r2) := by first | (rw [hy312]; with_reducible exact H) | (have H2_ := (Option.bind_some _ _).symm.trans H; rw [hy312]; with_reducible exact H2_) | (have H2_ := (Option.bind_some _ _).symm.trans H; with_reducible exact H2_) | with_reducible exact H | (rw [hy312]; exact H) | exact H
   have Ny312 := aM hy312
   clear hy312
   replace H := Option.bind_eq_some_iff.mp H
   obtain ⟨t315, A150, H⟩ := H
   replace H : (impl_FrameBounds.j0 k l1 l2 l3 t315 a0) = some (r1, r2) := H
   have A15 := aM A150
   clear A150
   have H' := aM H
   clear H
   have hnb16 := NB304_305.out
   have hnc16 := NB305_304.out
   have hcz17_0 : w7.cell? ⟨gb304, 0, none⟩ = some (.int .i64 a0) := (kC BK304.out 0).trans rfl
   have hfz17_0 := kF BK304.out 0
   go_wp2_with (first | ((with_reducible refine gate_callee (f := 55) rfl ?_); refine goesL_ (some 21) rfl rfl Try.func55 kr rfl #[.int .i64 a0] rfl mq ?_; (with_reducible refine (impl_SizeFault.calls a0 t306 _ A8.out).mono ?_); rintro e w' ⟨rfl, ⟨nd, rfl⟩⟩; refine ⟨_, rfl, ?_⟩) | (go_at_call 53; (with_reducible refine (impl_FrameBounds_1.calls _ _ l1 a0 true _ ?side1 ?side2 A9.out).mono ?_); (case side1 => exact cq (cB HR1.out bq)); (case side2 => exact HC1.out); rintro e w' ⟨rfl, ⟨nd, rfl⟩⟩) | ((with_reducible refine gate_callee (f := 56) rfl ?_); refine goesL_ (some 35) rfl rfl Try.func56 kr rfl #[.bool true, .int .i64 2] rfl mq ?_; (with_reducible refine (impl_codeIf.calls true 2 t308 _ A11.out).mono ?_); rintro e w' ⟨rfl, ⟨nd, rfl⟩⟩; refine ⟨_, rfl, ?_⟩) | ((with_reducible refine gate_callee (f := 57) rfl ?_); refine goesL_ (some 37) rfl rfl Try.func57 kr rfl #[.slice A1 l1.length c1] rfl mq ?_; (with_reducible refine (impl_boundsFault.calls k _ _ l1 t309 _ ?side1 ?side2 A12.out).mono ?_); (case side1 => exact cq (cB HR1.out bq)); (case side2 => exact HC1.out); rintro e w18 ⟨rfl, hb⟩; refine ⟨_, rfl, ?_⟩; replace BK304 := aM (kB (kq BK304.out) hb); replace BK305 := aM (kB (kq BK305.out) hb); replace HB := aM (bT bq hb); (try clear hb)) | ((with_reducible refine gate_callee (f := 57) rfl ?_); refine goesL_ (some 39) rfl rfl Try.func57 kr rfl #[.slice A2 l2.length c2] rfl mq ?_; (with_reducible refine (impl_boundsFault.calls k _ _ l2 t310 _ ?side1 ?side2 A13.out).mono ?_); (case side1 => exact cq (cB HR2.out HB.out)); (case side2 => exact HC2.out); rintro e w19 ⟨rfl, hb⟩; refine ⟨_, rfl, ?_⟩; replace BK304 := aM (kB (kq BK304.out) hb); replace BK305 := aM (kB (kq BK305.out) hb); replace HB := aM (bT bq hb); (try clear hb)) | ((with_reducible refine gate_callee (f := 57) rfl ?_); refine goesL_ (some 41) rfl rfl Try.func57 kr rfl #[.slice A3 l3.length c3] rfl mq ?_; (with_reducible refine (impl_boundsFault.calls k _ _ l3 t311 _ ?side1 ?side2 A14.out).mono ?_); (case side1 => exact cq (cB HR3.out HB.out)); (case side2 => exact HC3.out); rintro e w20 ⟨rfl, hb⟩; refine ⟨_, rfl, ?_⟩; replace BK304 := aM (kB (kq BK304.out) hb); replace BK305 := aM (kB (kq BK305.out) hb); replace HB := aM (bT bq hb); (try clear hb)) | ((with_reducible refine gate_dst (N := 42) rfl ?_); refine Kd.R_lit (Kd.int .i64) _ 2 ?hg (N := 42) ?hd (xs := ([t306, t308, t309, t310, t311] : List Int)) (inner := [.int .i64 t306, .int .i64 t308, .int .i64 t309, .int .i64 t310, .int .i64 t311]) (ok := fun _ => True) (okp := fun _ => True) ?hr ?hp (fun _ hk => hk) trivial (Below.refl _ _) (Nat.le_refl _) (by simp) ?_; (case hd => rfl); (case hg => rfl); (case hr => first | (go_simp; done) | (go_simp; rfl)); (case hp => exact (Reps.one (show Kd.M (Kd.int .i64) _ _ _ t306 [.int .i64 t306] from rfl) (Reps.one (show Kd.M (Kd.int .i64) _ _ _ t308 [.int .i64 t308] from rfl) (Reps.one (show Kd.M (Kd.int .i64) _ _ _ t309 [.int .i64 t309] from rfl) (Reps.one (show Kd.M (Kd.int .i64) _ _ _ t310 [.int .i64 t310] from rfl) (Reps.one (show Kd.M (Kd.int .i64) _ _ _ t311 [.int .i64 t311] from rfl) (Reps.none _ _))))))); intro v313 w21 ho22 hb hg_ hnew_; clear hg_ hnew_; (first | rw [← Ny312.out] at ho22 | (simp only [Int.reduceToNat] at ho22; rw [← Ny312.out] at ho22)); have HO314 := aM (rG (Kd.R_newB ho22 (kq BK304.out)) (bZ bq)); replace BK304 := aM (kB (kq BK304.out) hb); replace BK305 := aM (kB (kq BK305.out) hb); replace HB := aM (bT bq hb); clear hb ho22; obtain ⟨Ao23, co23, eo23⟩ := Kd.R_slice HO314.out; subst eo23) | ((with_reducible refine gate_callee (f := 54) rfl ?_); refine goesL_ (some 43) rfl rfl Try.func54 kr rfl #[.slice Ao23 y312.length co23] rfl mq ?_; (with_reducible refine (impl_first.calls k _ _ y312 t315 _ ?side1 ?side2 A15.out).mono ?_); (case side1 => exact cq (rR HO314.out).2.2); (case side2 => exact (rR HO314.out).2.1); rintro e w' ⟨rfl, ⟨nd, rfl⟩⟩; refine ⟨_, rfl, ?_⟩))
   go_meet
   case rel => exact ⟨_, (t315), (ex), H', ⟨by first | omega | exact Nat.le_refl _⟩, aM (kq BK304.out), aM (kq BK305.out), ⟨bq⟩⟩
  ·replace c10 := Bool.eq_false_iff.mpr c10
   subst c10
   have H1 : ((impl_FrameBounds_1.f l2 a0).bind fun t316 => (if t316 = true then ((impl_codeIf.f true 2).bind fun t317 => ((impl_boundsFault.f k l1).bind fun t318 => ((impl_boundsFault.f k l2).bind fun t319 => ((impl_boundsFault.f k l3).bind fun t320 => ((impl_first.f k (([t306, t317, t318, t319, t320] : List Int))).bind fun t324 => (impl_FrameBounds.j0 k l1 l2 l3 t324 a0)))))) else ((impl_FrameBounds_1.f l3 a0).bind fun t325 => ((impl_codeIf.f t325 2).bind fun t326 => ((impl_boundsFault.f k l1).bind fun t327 => ((impl_boundsFault.f k l2).bind fun t328 => ((impl_boundsFault.f k l3).bind fun t329 => ((impl_first.f k (([t306, t326, t327, t328, t329] : List Int))).bind fun t333 => (impl_FrameBounds.j0 k l1 l2 l3 t333 a0))))))))) = some (r1, r2) := by rw [if_neg (show ¬ (false = true) by decide)] at H; exact H
   clear H
   have H := H1
   clear H1
   replace H := Option.bind_eq_some_iff.mp H
   obtain ⟨t316, A240, H⟩ := H
   replace H : (if t316 = true then ((impl_codeIf.f true 2).bind fun t317 => ((impl_boundsFault.f k l1).bind fun t318 => ((impl_boundsFault.f k l2).bind fun t319 => ((impl_boundsFault.f k l3).bind fun t320 => ((impl_first.f k (([t306, t317, t318, t319, t320] : List Int))).bind fun t324 => (impl_FrameBounds.j0 k l1 l2 l3 t324 a0)))))) else ((impl_FrameBounds_1.f l3 a0).bind fun t325 => ((impl_codeIf.f t325 2).bind fun t326 => ((impl_boundsFault.f k l1).bind fun t327 => ((impl_boundsFault.f k l2).bind fun t328 => ((impl_boundsFault.f k l3).bind fun t329 => ((impl_first.f k (([t306, t326, t327, t328, t329] : List Int))).bind fun t333 => (impl_FrameBounds.j0 k l1 l2 l3 t333 a0)))))))) = some (r1, r2) := H
   have A24 := aM A240
   clear A240
   by_cases c25 : t316 = true
   ·subst c25
    have H1 : ((impl_codeIf.f true 2).bind fun t317 => ((impl_boundsFault.f k l1).bind fun t318 => ((impl_boundsFault.f k l2).bind fun t319 => ((impl_boundsFault.f k l3).bind fun t320 => ((impl_first.f k (([t306, t317, t318, t319, t320] : List Int))).bind fun t324 => (impl_FrameBounds.j0 k l1 l2 l3 t324 a0)))))) = some (r1, r2) := by rw [if_pos rfl] at H; exact H
    clear H
    have H := H1
    clear H1
    replace H := Option.bind_eq_some_iff.mp H
    obtain ⟨t317, A260, H⟩ := H
    replace H : ((impl_boundsFault.f k l1).bind fun t318 => ((impl_boundsFault.f k l2).bind fun t319 => ((impl_boundsFault.f k l3).bind fun t320 => ((impl_first.f k (([t306, t317, t318, t319, t320] : List Int))).bind fun t324 => (impl_FrameBounds.j0 k l1 l2 l3 t324 a0))))) = some (r1, r2) := H
    have A26 := aM A260
    clear A260
    replace H := Option.bind_eq_some_iff.mp H
    obtain ⟨t318, A270, H⟩ := H
    replace H : ((impl_boundsFault.f k l2).bind fun t319 => ((impl_boundsFault.f k l3).bind fun t320 => ((impl_first.f k (([t306, t317, t318, t319, t320] : List Int))).bind fun t324 => (impl_FrameBounds.j0 k l1 l2 l3 t324 a0)))) = some (r1, r2) := H
    have A27 := aM A270
    clear A270
    replace H := Option.bind_eq_some_iff.mp H
    obtain ⟨t319, A280, H⟩ := H
    replace H : ((impl_boundsFault.f k l3).bind fun t320 => ((impl_first.f k (([t306, t317, t318, t319, t320] : List Int))).bind fun t324 => (impl_FrameBounds.j0 k l1 l2 l3 t324 a0))) = some (r1, r2) := H
    have A28 := aM A280
    clear A280
    replace H := Option.bind_eq_some_iff.mp H
    obtain ⟨t320, A290, H⟩ := H
    replace H : ((impl_first.f k (([t306, t317, t318, t319, t320] : List Int))).bind fun t324 => (impl_FrameBounds.j0 k l1 l2 l3 t324 a0)) = some (r1, r2) := H
    have A29 := aM A290
    clear A290
    obtain ⟨y321, hy321⟩ : ∃ y_ : List Int, y_ = (([t306, t317, t318, t319, t320] : List Int)) := ⟨_, rfl⟩
    replace H : ((impl_first.f k y321).bind fun t324 => (impl_FrameBounds.j0 k l1 l2 l3 t324 a0)) = some (r1, r2) := by first | (rw [hy321]; with_reducible exact H) | (have H2_ := (Option.bind_some _ _).symm.trans H; rw [hy321]; with_reducible exact H2_) | (have H2_ := (Option.bind_some _ _).symm.trans H; with_reducible exact H2_) | with_reducible exact H | (rw [hy321]; exact H) | exact H
    have Ny321 := aM hy321
    clear hy321
    replace H := Option.bind_eq_some_iff.mp H
    obtain ⟨t324, A300, H⟩ := H
    replace H : (impl_FrameBounds.j0 k l1 l2 l3 t324 a0) = some (r1, r2) := H
    have A30 := aM A300
    clear A300
    have H' := aM H
    clear H
    have hnb31 := NB304_305.out
    have hnc31 := NB305_304.out
    have hcz32_0 : w7.cell? ⟨gb304, 0, none⟩ = some (.int .i64 a0) := (kC BK304.out 0).trans rfl
    have hfz32_0 := kF BK304.out 0
    go_wp2_with (first | ((with_reducible refine gate_callee (f := 55) rfl ?_); refine goesL_ (some 21) rfl rfl Try.func55 kr rfl #[.int .i64 a0] rfl mq ?_; (with_reducible refine (impl_SizeFault.calls a0 t306 _ A8.out).mono ?_); rintro e w' ⟨rfl, ⟨nd, rfl⟩⟩; refine ⟨_, rfl, ?_⟩) | (go_at_call 53; (with_reducible refine (impl_FrameBounds_1.calls _ _ l1 a0 false _ ?side1 ?side2 A9.out).mono ?_); (case side1 => exact cq (cB HR1.out bq)); (case side2 => exact HC1.out); rintro e w' ⟨rfl, ⟨nd, rfl⟩⟩) | (go_at_call 53; (with_reducible refine (impl_FrameBounds_1.calls _ _ l2 a0 true _ ?side1 ?side2 A24.out).mono ?_); (case side1 => exact cq (cB HR2.out bq)); (case side2 => exact HC2.out); rintro e w' ⟨rfl, ⟨nd, rfl⟩⟩) | ((with_reducible refine gate_callee (f := 56) rfl ?_); refine goesL_ (some 35) rfl rfl Try.func56 kr rfl #[.bool true, .int .i64 2] rfl mq ?_; (with_reducible refine (impl_codeIf.calls true 2 t317 _ A26.out).mono ?_); rintro e w' ⟨rfl, ⟨nd, rfl⟩⟩; refine ⟨_, rfl, ?_⟩) | ((with_reducible refine gate_callee (f := 57) rfl ?_); refine goesL_ (some 37) rfl rfl Try.func57 kr rfl #[.slice A1 l1.length c1] rfl mq ?_; (with_reducible refine (impl_boundsFault.calls k _ _ l1 t318 _ ?side1 ?side2 A27.out).mono ?_); (case side1 => exact cq (cB HR1.out bq)); (case side2 => exact HC1.out); rintro e w33 ⟨rfl, hb⟩; refine ⟨_, rfl, ?_⟩; replace BK304 := aM (kB (kq BK304.out) hb); replace BK305 := aM (kB (kq BK305.out) hb); replace HB := aM (bT bq hb); (try clear hb)) | ((with_reducible refine gate_callee (f := 57) rfl ?_); refine goesL_ (some 39) rfl rfl Try.func57 kr rfl #[.slice A2 l2.length c2] rfl mq ?_; (with_reducible refine (impl_boundsFault.calls k _ _ l2 t319 _ ?side1 ?side2 A28.out).mono ?_); (case side1 => exact cq (cB HR2.out HB.out)); (case side2 => exact HC2.out); rintro e w34 ⟨rfl, hb⟩; refine ⟨_, rfl, ?_⟩; replace BK304 := aM (kB (kq BK304.out) hb); replace BK305 := aM (kB (kq BK305.out) hb); replace HB := aM (bT bq hb); (try clear hb)) | ((with_reducible refine gate_callee (f := 57) rfl ?_); refine goesL_ (some 41) rfl rfl Try.func57 kr rfl #[.slice A3 l3.length c3] rfl mq ?_; (with_reducible refine (impl_boundsFault.calls k _ _ l3 t320 _ ?side1 ?side2 A29.out).mono ?_); (case side1 => exact cq (cB HR3.out HB.out)); (case side2 => exact HC3.out); rintro e w35 ⟨rfl, hb⟩; refine ⟨_, rfl, ?_⟩; replace BK304 := aM (kB (kq BK304.out) hb); replace BK305 := aM (kB (kq BK305.out) hb); replace HB := aM (bT bq hb); (try clear hb)) | ((with_reducible refine gate_dst (N := 42) rfl ?_); refine Kd.R_lit (Kd.int .i64) _ 2 ?hg (N := 42) ?hd (xs := ([t306, t317, t318, t319, t320] : List Int)) (inner := [.int .i64 t306, .int .i64 t317, .int .i64 t318, .int .i64 t319, .int .i64 t320]) (ok := fun _ => True) (okp := fun _ => True) ?hr ?hp (fun _ hk => hk) trivial (Below.refl _ _) (Nat.le_refl _) (by simp) ?_; (case hd => rfl); (case hg => rfl); (case hr => first | (go_simp; done) | (go_simp; rfl)); (case hp => exact (Reps.one (show Kd.M (Kd.int .i64) _ _ _ t306 [.int .i64 t306] from rfl) (Reps.one (show Kd.M (Kd.int .i64) _ _ _ t317 [.int .i64 t317] from rfl) (Reps.one (show Kd.M (Kd.int .i64) _ _ _ t318 [.int .i64 t318] from rfl) (Reps.one (show Kd.M (Kd.int .i64) _ _ _ t319 [.int .i64 t319] from rfl) (Reps.one (show Kd.M (Kd.int .i64) _ _ _ t320 [.int .i64 t320] from rfl) (Reps.none _ _))))))); intro v322 w36 ho37 hb hg_ hnew_; clear hg_ hnew_; (first | rw [← Ny321.out] at ho37 | (simp only [Int.reduceToNat] at ho37; rw [← Ny321.out] at ho37)); have HO323 := aM (rG (Kd.R_newB ho37 (kq BK304.out)) (bZ bq)); replace BK304 := aM (kB (kq BK304.out) hb); replace BK305 := aM (kB (kq BK305.out) hb); replace HB := aM (bT bq hb); clear hb ho37; obtain ⟨Ao38, co38, eo38⟩ := Kd.R_slice HO323.out; subst eo38) | ((with_reducible refine gate_callee (f := 54) rfl ?_); refine goesL_ (some 43) rfl rfl Try.func54 kr rfl #[.slice Ao38 y321.length co38] rfl mq ?_; (with_reducible refine (impl_first.calls k _ _ y321 t324 _ ?side1 ?side2 A30.out).mono ?_); (case side1 => exact cq (rR HO323.out).2.2); (case side2 => exact (rR HO323.out).2.1); rintro e w' ⟨rfl, ⟨nd, rfl⟩⟩; refine ⟨_, rfl, ?_⟩))
    go_meet
    case rel => exact ⟨_, (t324), (ex), H', ⟨by first | omega | exact Nat.le_refl _⟩, aM (kq BK304.out), aM (kq BK305.out), ⟨bq⟩⟩
   ·replace c25 := Bool.eq_false_iff.mpr c25
    subst c25
    have H1 : ((impl_FrameBounds_1.f l3 a0).bind fun t325 => ((impl_codeIf.f t325 2).bind fun t326 => ((impl_boundsFault.f k l1).bind fun t327 => ((impl_boundsFault.f k l2).bind fun t328 => ((impl_boundsFault.f k l3).bind fun t329 => ((impl_first.f k (([t306, t326, t327, t328, t329] : List Int))).bind fun t333 => (impl_FrameBounds.j0 k l1 l2 l3 t333 a0))))))) = some (r1, r2) := by rw [if_neg (show ¬ (false = true) by decide)] at H; exact H
    clear H
    have H := H1
    clear H1
    replace H := Option.bind_eq_some_iff.mp H
    obtain ⟨t325, A390, H⟩ := H
    replace H : ((impl_codeIf.f t325 2).bind fun t326 => ((impl_boundsFault.f k l1).bind fun t327 => ((impl_boundsFault.f k l2).bind fun t328 => ((impl_boundsFault.f k l3).bind fun t329 => ((impl_first.f k (([t306, t326, t327, t328, t329] : List Int))).bind fun t333 => (impl_FrameBounds.j0 k l1 l2 l3 t333 a0)))))) = some (r1, r2) := H
    have A39 := aM A390
    clear A390
    replace H := Option.bind_eq_some_iff.mp H
    obtain ⟨t326, A400, H⟩ := H
    replace H : ((impl_boundsFault.f k l1).bind fun t327 => ((impl_boundsFault.f k l2).bind fun t328 => ((impl_boundsFault.f k l3).bind fun t329 => ((impl_first.f k (([t306, t326, t327, t328, t329] : List Int))).bind fun t333 => (impl_FrameBounds.j0 k l1 l2 l3 t333 a0))))) = some (r1, r2) := H
    have A40 := aM A400
    clear A400
    replace H := Option.bind_eq_some_iff.mp H
    obtain ⟨t327, A410, H⟩ := H
    replace H : ((impl_boundsFault.f k l2).bind fun t328 => ((impl_boundsFault.f k l3).bind fun t329 => ((impl_first.f k (([t306, t326, t327, t328, t329] : List Int))).bind fun t333 => (impl_FrameBounds.j0 k l1 l2 l3 t333 a0)))) = some (r1, r2) := H
    have A41 := aM A410
    clear A410
    replace H := Option.bind_eq_some_iff.mp H
    obtain ⟨t328, A420, H⟩ := H
    replace H : ((impl_boundsFault.f k l3).bind fun t329 => ((impl_first.f k (([t306, t326, t327, t328, t329] : List Int))).bind fun t333 => (impl_FrameBounds.j0 k l1 l2 l3 t333 a0))) = some (r1, r2) := H
    have A42 := aM A420
    clear A420
    replace H := Option.bind_eq_some_iff.mp H
    obtain ⟨t329, A430, H⟩ := H
    replace H : ((impl_first.f k (([t306, t326, t327, t328, t329] : List Int))).bind fun t333 => (impl_FrameBounds.j0 k l1 l2 l3 t333 a0)) = some (r1, r2) := H
    have A43 := aM A430
    clear A430
    obtain ⟨y330, hy330⟩ : ∃ y_ : List Int, y_ = (([t306, t326, t327, t328, t329] : List Int)) := ⟨_, rfl⟩
    replace H : ((impl_first.f k y330).bind fun t333 => (impl_FrameBounds.j0 k l1 l2 l3 t333 a0)) = some (r1, r2) := by first | (rw [hy330]; with_reducible exact H) | (have H2_ := (Option.bind_some _ _).symm.trans H; rw [hy330]; with_reducible exact H2_) | (have H2_ := (Option.bind_some _ _).symm.trans H; with_reducible exact H2_) | with_reducible exact H | (rw [hy330]; exact H) | exact H
    have Ny330 := aM hy330
    clear hy330
    replace H := Option.bind_eq_some_iff.mp H
    obtain ⟨t333, A440, H⟩ := H
    replace H : (impl_FrameBounds.j0 k l1 l2 l3 t333 a0) = some (r1, r2) := H
    have A44 := aM A440
    clear A440
    have H' := aM H
    clear H
    have hnb45 := NB304_305.out
    have hnc45 := NB305_304.out
    have hcz46_0 : w7.cell? ⟨gb304, 0, none⟩ = some (.int .i64 a0) := (kC BK304.out 0).trans rfl
    have hfz46_0 := kF BK304.out 0
    go_wp2_with (first | ((with_reducible refine gate_callee (f := 55) rfl ?_); refine goesL_ (some 21) rfl rfl Try.func55 kr rfl #[.int .i64 a0] rfl mq ?_; (with_reducible refine (impl_SizeFault.calls a0 t306 _ A8.out).mono ?_); rintro e w' ⟨rfl, ⟨nd, rfl⟩⟩; refine ⟨_, rfl, ?_⟩) | (go_at_call 53; (with_reducible refine (impl_FrameBounds_1.calls _ _ l1 a0 false _ ?side1 ?side2 A9.out).mono ?_); (case side1 => exact cq (cB HR1.out bq)); (case side2 => exact HC1.out); rintro e w' ⟨rfl, ⟨nd, rfl⟩⟩) | (go_at_call 53; (with_reducible refine (impl_FrameBounds_1.calls _ _ l2 a0 false _ ?side1 ?side2 A24.out).mono ?_); (case side1 => exact cq (cB HR2.out bq)); (case side2 => exact HC2.out); rintro e w' ⟨rfl, ⟨nd, rfl⟩⟩) | (go_at_call 53; (with_reducible refine (impl_FrameBounds_1.calls _ _ l3 a0 t325 _ ?side1 ?side2 A39.out).mono ?_); (case side1 => exact cq (cB HR3.out bq)); (case side2 => exact HC3.out); rintro e w' ⟨rfl, ⟨nd, rfl⟩⟩) | ((with_reducible refine gate_callee (f := 56) rfl ?_); refine goesL_ (some 35) rfl rfl Try.func56 kr rfl #[.bool t325, .int .i64 2] rfl mq ?_; (with_reducible refine (impl_codeIf.calls t325 2 t326 _ A40.out).mono ?_); rintro e w' ⟨rfl, ⟨nd, rfl⟩⟩; refine ⟨_, rfl, ?_⟩) | ((with_reducible refine gate_callee (f := 57) rfl ?_); refine goesL_ (some 37) rfl rfl Try.func57 kr rfl #[.slice A1 l1.length c1] rfl mq ?_; (with_reducible refine (impl_boundsFault.calls k _ _ l1 t327 _ ?side1 ?side2 A41.out).mono ?_); (case side1 => exact cq (cB HR1.out bq)); (case side2 => exact HC1.out); rintro e w47 ⟨rfl, hb⟩; refine ⟨_, rfl, ?_⟩; replace BK304 := aM (kB (kq BK304.out) hb); replace BK305 := aM (kB (kq BK305.out) hb); replace HB := aM (bT bq hb); (try clear hb)) | ((with_reducible refine gate_callee (f := 57) rfl ?_); refine goesL_ (some 39) rfl rfl Try.func57 kr rfl #[.slice A2 l2.length c2] rfl mq ?_; (with_reducible refine (impl_boundsFault.calls k _ _ l2 t328 _ ?side1 ?side2 A42.out).mono ?_); (case side1 => exact cq (cB HR2.out HB.out)); (case side2 => exact HC2.out); rintro e w48 ⟨rfl, hb⟩; refine ⟨_, rfl, ?_⟩; replace BK304 := aM (kB (kq BK304.out) hb); replace BK305 := aM (kB (kq BK305.out) hb); replace HB := aM (bT bq hb); (try clear hb)) | ((with_reducible refine gate_callee (f := 57) rfl ?_); refine goesL_ (some 41) rfl rfl Try.func57 kr rfl #[.slice A3 l3.length c3] rfl mq ?_; (with_reducible refine (impl_boundsFault.calls k _ _ l3 t329 _ ?side1 ?side2 A43.out).mono ?_); (case side1 => exact cq (cB HR3.out HB.out)); (case side2 => exact HC3.out); rintro e w49 ⟨rfl, hb⟩; refine ⟨_, rfl, ?_⟩; replace BK304 := aM (kB (kq BK304.out) hb); replace BK305 := aM (kB (kq BK305.out) hb); replace HB := aM (bT bq hb); (try clear hb)) | ((with_reducible refine gate_dst (N := 42) rfl ?_); refine Kd.R_lit (Kd.int .i64) _ 2 ?hg (N := 42) ?hd (xs := ([t306, t326, t327, t328, t329] : List Int)) (inner := [.int .i64 t306, .int .i64 t326, .int .i64 t327, .int .i64 t328, .int .i64 t329]) (ok := fun _ => True) (okp := fun _ => True) ?hr ?hp (fun _ hk => hk) trivial (Below.refl _ _) (Nat.le_refl _) (by simp) ?_; (case hd => rfl); (case hg => rfl); (case hr => first | (go_simp; done) | (go_simp; rfl)); (case hp => exact (Reps.one (show Kd.M (Kd.int .i64) _ _ _ t306 [.int .i64 t306] from rfl) (Reps.one (show Kd.M (Kd.int .i64) _ _ _ t326 [.int .i64 t326] from rfl) (Reps.one (show Kd.M (Kd.int .i64) _ _ _ t327 [.int .i64 t327] from rfl) (Reps.one (show Kd.M (Kd.int .i64) _ _ _ t328 [.int .i64 t328] from rfl) (Reps.one (show Kd.M (Kd.int .i64) _ _ _ t329 [.int .i64 t329] from rfl) (Reps.none _ _))))))); intro v331 w50 ho51 hb hg_ hnew_; clear hg_ hnew_; (first | rw [← Ny330.out] at ho51 | (simp only [Int.reduceToNat] at ho51; rw [← Ny330.out] at ho51)); have HO332 := aM (rG (Kd.R_newB ho51 (kq BK304.out)) (bZ bq)); replace BK304 := aM (kB (kq BK304.out) hb); replace BK305 := aM (kB (kq BK305.out) hb); replace HB := aM (bT bq hb); clear hb ho51; obtain ⟨Ao52, co52, eo52⟩ := Kd.R_slice HO332.out; subst eo52) | ((with_reducible refine gate_callee (f := 54) rfl ?_); refine goesL_ (some 43) rfl rfl Try.func54 kr rfl #[.slice Ao52 y330.length co52] rfl mq ?_; (with_reducible refine (impl_first.calls k _ _ y330 t333 _ ?side1 ?side2 A44.out).mono ?_); (case side1 => exact cq (rR HO332.out).2.2); (case side2 => exact (rR HO332.out).2.1); rintro e w' ⟨rfl, ⟨nd, rfl⟩⟩; refine ⟨_, rfl, ?_⟩))
    go_meet
    case rel => exact ⟨_, (t333), (ex), H', ⟨by first | omega | exact Nat.le_refl _⟩, aM (kq BK304.out), aM (kq BK305.out), ⟨bq⟩⟩
 case rest =>
  clear HC5
  try clear c1
  try clear c2
  try clear p2
  try clear c3
  try clear c4
  try clear c5
  try clear c10
  try clear c11
  try clear c16
  try clear c25
  try clear c31
  try clear c45
  try clear hcz17_0
  try clear hcz32_0
  try clear hcz46_0
  try clear hfz17_0
  try clear hfz32_0
  try clear hfz46_0
  obtain ⟨kq, x10_4, rfl, HA, HJ4, BK304, BK305, HB⟩ := hcut
  cases kq with
  | zero => exact absurd HA.out (by simp [impl_FrameBounds.j0])
  | succ kj4 =>
   have H := HA.out
   clear HA
   simp only [impl_FrameBounds.j0] at H
   by_cases c53 : x10_4 = 0
   ·rw [if_pos c53] at H
    have c53b0 : (x10_4 == 0) = true := beq_iff_eq.mpr c53
    have c53b1 : (x10_4 != 0) = false := bne_eq_false_iff_eq.mpr c53
    clear c53
    replace H := Option.bind_eq_some_iff.mp H
    obtain ⟨_, A540, H⟩ := H
    replace H : ((impl_undo_gather.f kj4 impl_ofBounds_1.f impl_partBounds.f l2).bind fun t337 => ((impl_undo_gather.f kj4 impl_ofBounds_1.f impl_partBounds.f l1).bind fun t340 => (if 0 ≤ (wrap64 (Int.tdiv a0 2)) then (if (wrap64 (Int.tdiv a0 2)) ≤ (t340.length : Int) then (if (wrap64 (Int.tdiv a0 2)) ≤ (t337.length : Int) then ((impl_seam.f kj4 (t340.drop ((wrap64 (Int.tdiv a0 2)) : Int).toNat) (t337.take ((wrap64 (Int.tdiv a0 2)) : Int).toNat) (impl_ofBounds_1.f a0)).bind fun bt353 => ((impl_undo_gather.f kj4 impl_ofBounds_1.f impl_partBounds.f l3).bind fun t364 => (if (wrap64 (Int.tdiv a0 2)) ≤ (t364.length : Int) then ((impl_seam.f kj4 (t337.drop ((wrap64 (Int.tdiv a0 2)) : Int).toNat) (t364.take ((wrap64 (Int.tdiv a0 2)) : Int).toNat) (impl_ofBounds_1.f a0)).bind fun bt372 => ((slices_Concat_int64_int64.f kj4 (([bt353.2, bt372.1] : List (List Int)))).bind fun t381 => (some (0, t381)))) else (none)))) else (none)) else (none)) else (none)))) = some (r1, r2) := H
    have A54 := aM A540
    clear A540
    replace H := Option.bind_eq_some_iff.mp H
    obtain ⟨t337, A550, H⟩ := H
    replace H : ((impl_undo_gather.f kj4 impl_ofBounds_1.f impl_partBounds.f l1).bind fun t340 => (if 0 ≤ (wrap64 (Int.tdiv a0 2)) then (if (wrap64 (Int.tdiv a0 2)) ≤ (t340.length : Int) then (if (wrap64 (Int.tdiv a0 2)) ≤ (t337.length : Int) then ((impl_seam.f kj4 (t340.drop ((wrap64 (Int.tdiv a0 2)) : Int).toNat) (t337.take ((wrap64 (Int.tdiv a0 2)) : Int).toNat) (impl_ofBounds_1.f a0)).bind fun bt353 => ((impl_undo_gather.f kj4 impl_ofBounds_1.f impl_partBounds.f l3).bind fun t364 => (if (wrap64 (Int.tdiv a0 2)) ≤ (t364.length : Int) then ((impl_seam.f kj4 (t337.drop ((wrap64 (Int.tdiv a0 2)) : Int).toNat) (t364.take ((wrap64 (Int.tdiv a0 2)) : Int).toNat) (impl_ofBounds_1.f a0)).bind fun bt372 => ((slices_Concat_int64_int64.f kj4 (([bt353.2, bt372.1] : List (List Int)))).bind fun t381 => (some (0, t381)))) else (none)))) else (none)) else (none)) else (none))) = some (r1, r2) := H
    have A55 := aM A550
    clear A550
    replace H := Option.bind_eq_some_iff.mp H
    obtain ⟨t340, A560, H⟩ := H
    replace H : (if 0 ≤ (wrap64 (Int.tdiv a0 2)) then (if (wrap64 (Int.tdiv a0 2)) ≤ (t340.length : Int) then (if (wrap64 (Int.tdiv a0 2)) ≤ (t337.length : Int) then ((impl_seam.f kj4 (t340.drop ((wrap64 (Int.tdiv a0 2)) : Int).toNat) (t337.take ((wrap64 (Int.tdiv a0 2)) : Int).toNat) (impl_ofBounds_1.f a0)).bind fun bt353 => ((impl_undo_gather.f kj4 impl_ofBounds_1.f impl_partBounds.f l3).bind fun t364 => (if (wrap64 (Int.tdiv a0 2)) ≤ (t364.length : Int) then ((impl_seam.f kj4 (t337.drop ((wrap64 (Int.tdiv a0 2)) : Int).toNat) (t364.take ((wrap64 (Int.tdiv a0 2)) : Int).toNat) (impl_ofBounds_1.f a0)).bind fun bt372 => ((slices_Concat_int64_int64.f kj4 (([bt353.2, bt372.1] : List (List Int)))).bind fun t381 => (some (0, t381)))) else (none)))) else (none)) else (none)) else (none)) = some (r1, r2) := H
    have A56 := aM A560
    clear A560
    obtain ⟨ji57, hji57⟩ : ∃ j_ : Int, (wrap64 (Int.tdiv a0 2)) = j_ := ⟨_, rfl⟩
    replace H : (if 0 ≤ (ji57) then (if (ji57) ≤ (t340.length : Int) then (if (ji57) ≤ (t337.length : Int) then ((impl_seam.f kj4 (t340.drop ((ji57) : Int).toNat) (t337.take ((ji57) : Int).toNat) (impl_ofBounds_1.f a0)).bind fun bt353 => ((impl_undo_gather.f kj4 impl_ofBounds_1.f impl_partBounds.f l3).bind fun t364 => (if (ji57) ≤ (t364.length : Int) then ((impl_seam.f kj4 (t337.drop ((ji57) : Int).toNat) (t364.take ((ji57) : Int).toNat) (impl_ofBounds_1.f a0)).bind fun bt372 => ((slices_Concat_int64_int64.f kj4 (([bt353.2, bt372.1] : List (List Int)))).bind fun t381 => (some (0, t381)))) else (none)))) else (none)) else (none)) else (none)) = some (r1, r2) := by first | (rw [hji57] at H; exact H) | (simp only [hji57] at H ⊢; exact H)
    (try rw [hji57] at A54)
    (try rw [hji57] at A55)
    (try rw [hji57] at A56)
    have hji57w : (IntKind.i64.wrap (Int.tdiv a0 2)) = ji57 := (i64_w _).trans hji57
    by_cases c58 : 0 ≤ (ji57)
    ·rw [if_pos c58] at H
     have c58b0 := eq_true c58
     have c58b1 : decide (0 ≤ (ji57)) = true := decide_eq_true c58
     clear c58
     by_cases c59 : (ji57) ≤ (t340.length : Int)
     ·rw [if_pos c59] at H
      have c59b0 := eq_true c59
      have c59b1 : decide ((ji57) ≤ (t340.length : Int)) = true := decide_eq_true c59
      clear c59
      obtain ⟨y343, hy343⟩ : ∃ y_ : List Int, y_ = (t340.drop ((ji57) : Int).toNat) := ⟨_, rfl⟩
      replace H : (if (ji57) ≤ (t337.length : Int) then ((impl_seam.f kj4 y343 (t337.take ((ji57) : Int).toNat) (impl_ofBounds_1.f a0)).bind fun bt353 => ((impl_undo_gather.f kj4 impl_ofBounds_1.f impl_partBounds.f l3).bind fun t364 => (if (ji57) ≤ (t364.length : Int) then ((impl_seam.f kj4 (t337.drop ((ji57) : Int).toNat) (t364.take ((ji57) : Int).toNat) (impl_ofBounds_1.f a0)).bind fun bt372 => ((slices_Concat_int64_int64.f kj4 (([bt353.2, bt372.1] : List (List Int)))).bind fun t381 => (some (0, t381)))) else (none)))) else (none)) = some (r1, r2) := by first | (rw [hy343]; with_reducible exact H) | (have H2_ := (Option.bind_some _ _).symm.trans H; rw [hy343]; with_reducible exact H2_) | (have H2_ := (Option.bind_some _ _).symm.trans H; with_reducible exact H2_) | with_reducible exact H | (rw [hy343]; exact H) | exact H
      have Ny343 := aM hy343
      clear hy343
      have c60b0 := eq_true (of_decide_eq_true (by first | (with_reducible assumption) | assumption) : 0 ≤ (ji57))
      by_cases c61 : (ji57) ≤ (t337.length : Int)
      ·rw [if_pos c61] at H
       have c61b0 := eq_true c61
       have c61b1 : decide ((ji57) ≤ (t337.length : Int)) = true := decide_eq_true c61
       clear c61
       obtain ⟨y348, hy348⟩ : ∃ y_ : List Int, y_ = (t337.take ((ji57) : Int).toNat) := ⟨_, rfl⟩
       replace H : ((impl_seam.f kj4 y343 y348 (impl_ofBounds_1.f a0)).bind fun bt353 => ((impl_undo_gather.f kj4 impl_ofBounds_1.f impl_partBounds.f l3).bind fun t364 => (if (ji57) ≤ (t364.length : Int) then ((impl_seam.f kj4 (t337.drop ((ji57) : Int).toNat) (t364.take ((ji57) : Int).toNat) (impl_ofBounds_1.f a0)).bind fun bt372 => ((slices_Concat_int64_int64.f kj4 (([bt353.2, bt372.1] : List (List Int)))).bind fun t381 => (some (0, t381)))) else (none)))) = some (r1, r2) := by first | (rw [hy348]; with_reducible exact H) | (have H2_ := (Option.bind_some _ _).symm.trans H; rw [hy348]; with_reducible exact H2_) | (have H2_ := (Option.bind_some _ _).symm.trans H; with_reducible exact H2_) | with_reducible exact H | (rw [hy348]; exact H) | exact H
       have Ny348 := aM hy348
       clear hy348
       replace H := Option.bind_eq_some_iff.mp H
       obtain ⟨⟨t353, t354⟩, A620, H⟩ := H
       replace H : ((impl_undo_gather.f kj4 impl_ofBounds_1.f impl_partBounds.f l3).bind fun t364 => (if (ji57) ≤ (t364.length : Int) then ((impl_seam.f kj4 (t337.drop ((ji57) : Int).toNat) (t364.take ((ji57) : Int).toNat) (impl_ofBounds_1.f a0)).bind fun bt372 => ((slices_Concat_int64_int64.f kj4 (([t354, bt372.1] : List (List Int)))).bind fun t381 => (some (0, t381)))) else (none))) = some (r1, r2) := H
       have A62 := aM A620
       clear A620
       have c63b0 := eq_true (of_decide_eq_true (by first | (with_reducible assumption) | assumption) : 0 ≤ (ji57))
       have c64b0 := eq_true (of_decide_eq_true (by first | (with_reducible assumption) | assumption) : (ji57) ≤ (t337.length : Int))
       obtain ⟨y359, hy359⟩ : ∃ y_ : List Int, y_ = (t337.drop ((ji57) : Int).toNat) := ⟨_, rfl⟩
       replace H : ((impl_undo_gather.f kj4 impl_ofBounds_1.f impl_partBounds.f l3).bind fun t364 => (if (ji57) ≤ (t364.length : Int) then ((impl_seam.f kj4 y359 (t364.take ((ji57) : Int).toNat) (impl_ofBounds_1.f a0)).bind fun bt372 => ((slices_Concat_int64_int64.f kj4 (([t354, bt372.1] : List (List Int)))).bind fun t381 => (some (0, t381)))) else (none))) = some (r1, r2) := by first | (rw [hy359]; with_reducible exact H) | (have H2_ := (Option.bind_some _ _).symm.trans H; rw [hy359]; with_reducible exact H2_) | (have H2_ := (Option.bind_some _ _).symm.trans H; with_reducible exact H2_) | with_reducible exact H | (rw [hy359]; exact H) | exact H
       have Ny359 := aM hy359
       clear hy359
       replace H := Option.bind_eq_some_iff.mp H
       obtain ⟨t364, A650, H⟩ := H
       replace H : (if (ji57) ≤ (t364.length : Int) then ((impl_seam.f kj4 y359 (t364.take ((ji57) : Int).toNat) (impl_ofBounds_1.f a0)).bind fun bt372 => ((slices_Concat_int64_int64.f kj4 (([t354, bt372.1] : List (List Int)))).bind fun t381 => (some (0, t381)))) else (none)) = some (r1, r2) := H
       have A65 := aM A650
       clear A650
       have c66b0 := eq_true (of_decide_eq_true (by first | (with_reducible assumption) | assumption) : 0 ≤ (ji57))
       by_cases c67 : (ji57) ≤ (t364.length : Int)
       ·rw [if_pos c67] at H
        have c67b0 := eq_true c67
        have c67b1 : decide ((ji57) ≤ (t364.length : Int)) = true := decide_eq_true c67
        clear c67
        obtain ⟨y367, hy367⟩ : ∃ y_ : List Int, y_ = (t364.take ((ji57) : Int).toNat) := ⟨_, rfl⟩
        replace H : ((impl_seam.f kj4 y359 y367 (impl_ofBounds_1.f a0)).bind fun bt372 => ((slices_Concat_int64_int64.f kj4 (([t354, bt372.1] : List (List Int)))).bind fun t381 => (some (0, t381)))) = some (r1, r2) := by first | (rw [hy367]; with_reducible exact H) | (have H2_ := (Option.bind_some _ _).symm.trans H; rw [hy367]; with_reducible exact H2_) | (have H2_ := (Option.bind_some _ _).symm.trans H; with_reducible exact H2_) | with_reducible exact H | (rw [hy367]; exact H) | exact H
        have Ny367 := aM hy367
        clear hy367
        replace H := Option.bind_eq_some_iff.mp H
        obtain ⟨⟨t372, t373⟩, A680, H⟩ := H
        replace H : ((slices_Concat_int64_int64.f kj4 (([t354, t372] : List (List Int)))).bind fun t381 => (some (0, t381))) = some (r1, r2) := H
        have A68 := aM A680
        clear A680
        obtain ⟨y378, hy378⟩ : ∃ y_ : List (List Int), y_ = (([t354, t372] : List (List Int))) := ⟨_, rfl⟩
        replace H : ((slices_Concat_int64_int64.f kj4 y378).bind fun t381 => (some (0, t381))) = some (r1, r2) := by first | (rw [hy378]; with_reducible exact H) | (have H2_ := (Option.bind_some _ _).symm.trans H; rw [hy378]; with_reducible exact H2_) | (have H2_ := (Option.bind_some _ _).symm.trans H; with_reducible exact H2_) | with_reducible exact H | (rw [hy378]; exact H) | exact H
        have Ny378 := aM hy378
        clear hy378
        replace H := Option.bind_eq_some_iff.mp H
        obtain ⟨t381, A690, H⟩ := H
        replace H : (some (0, t381)) = some (r1, r2) := H
        have A69 := aM A690
        clear A690
        simp only [Option.some.injEq, Prod.mk.injEq] at H
        obtain ⟨rfl, rfl⟩ := H
        try go_wp2
        replace BK304 := aM (kD BK304.out)
        replace BK305 := aM (kD BK305.out)
        replace HB := aM (bD HB.out)
        refine start_ (n := 6) (S := fun w' => w'.cell? ⟨gb304, 0, none⟩ = some (.int .i64 a0)) (ds := []) #[N,N,N,N,N,N] kr rfl rfl ((kC BK304.out 0).trans rfl) (fun hHeld => ?_)
        generalize wc.drew = w70 at BK304 BK305 HB hHeld ⊢
        refine take_ (i := 0) (N := some 48) (v := ?_) (a' := ?_) #[Y,N,N,N,N,N] rfl rfl kr (fun _ _ _ h => h) (Or.inl ⟨by rfl, ?_⟩) hHeld ?_ ?_
        rotate_left
        ·intro w' s0
         go_simp
         with_reducible rfl
        rotate_left
        ·simp only [Act.put, pa, pb, pc, i64_w, i32_w]
         rfl
        refine pure_ (i := 1) (N := some 49) (v := ?_) (a' := ?_) #[Y,Y,N,N,N,N] rfl rfl kr (fun _ _ _ h => h) (Or.inl ⟨by rfl, ?_⟩) ?_ ?_
        rotate_left
        ·intro w'
         go_simp
         with_reducible rfl
        rotate_left
        ·simp only [Act.put, pa, pb, pc, i64_w, i32_w]
         rfl
        refine join_ (σ := Nat) 2 #[Y,Y,Y,Y,N,N] (fun s_ => [(50, .agg #[.func (.func 107) #[] #[], .func (.func 109) #[] #[]]), (12, .pointer (some ⟨s_, 0, none⟩))]) (fun s_ w' => (w'.cell? ⟨gb304, 0, none⟩ = some (.int .i64 a0)) ∧ (w'.heap[gb304]? = some (.cells #[.int .i64 a0] 2 (0, 0))) ∧ (w'.heap[gb305]? = some (.cells #[.int .i64 0, .slice none 0 0] 24 (0, 0))) ∧ (w'.heap[s_]? = some (.cells #[.nilFunc, .nilFunc] 94 (0, 0))) ∧ (w.heap.size ≤ s_) ∧ (w.heap.size ≤ s_) ∧ (gb304 ≠ s_) ∧ (s_ ≠ gb304) ∧ (gb305 ≠ s_) ∧ (s_ ≠ gb305) ∧ (Below w.heap.size w w')) ?_ ?_
        rotate_left
        ·intro hCont
         refine two_ (i := 2) (j := 3) (Ni := some 50) (Nj := some 12) #[Y,Y,Y,N,N,N] #[Y,Y,N,Y,N,N] rfl rfl rfl rfl kr (by decide) (by decide) (fun K hK => ?_) (fun K hK => ?_)
         ·skip
          refine goes_ Try.func58 kr rfl #[] (by rfl) rfl rfl mq ?_
          with_reducible refine (impl_ofBounds.calls   _ A54.out).mono ?_
          rintro e w71 ⟨rfl, hb⟩
          refine ⟨_, rfl, ?_⟩
          replace BK304 := aM (kB (kq BK304.out) hb)
          replace BK305 := aM (kB (kq BK305.out) hb)
          replace HB := aM (bT bq hb)
          (try clear hb)
          (try clear hb2)
          (try clear hk)
          (try clear hi)
          refine hK.out _ _ ((kC BK304.out 0).trans rfl) (fun hHeld => ?_)
          clear hK K
          refine norm_ (a' := ?_) ?_ ?_
          rotate_left
          ·show Act.put _ (some 50) _ = _
           simp only [Act.put, pa, pb, pc, i64_w, i32_w]
           rfl
          refine one_ (i := 3) (N := some 12) #[Y,Y,Y,Y,N,N] rfl rfl kr (by decide) (fun K hK => ?_)
          refine box_step ?hg (N := 12) ?hd (cs := #[.nilFunc, .nilFunc]) (t := 94) ?hr ?_; (case hd => rfl); (case hg => rfl); (case hr => first | (go_simp; done) | (go_simp; rfl))
          intro gb336 hg w72 hbox hb
          have BK336 := aM (hbox)
          have GW336 := aM ((by rw [hg]; exact (bZ bq) : w.heap.size ≤ gb336))
          have GE336 := aM ((by rw [hg]; exact (bZ bq) : w.heap.size ≤ gb336))
          replace HB := aM (bT bq hb)
          have NB304_336 := aM ((by rw [hg]; exact Nat.ne_of_lt (blk_lt (kq BK304.out)) : gb304 ≠ gb336))
          have NB336_304 := aM ((by rw [hg]; exact Nat.ne_of_gt (blk_lt (kq BK304.out)) : gb336 ≠ gb304))
          replace BK304 := aM (kB (kq BK304.out) hb)
          have NB305_336 := aM ((by rw [hg]; exact Nat.ne_of_lt (blk_lt (kq BK305.out)) : gb305 ≠ gb336))
          have NB336_305 := aM ((by rw [hg]; exact Nat.ne_of_gt (blk_lt (kq BK305.out)) : gb336 ≠ gb305))
          replace BK305 := aM (kB (kq BK305.out) hb)
          clear hb hbox hg
          refine hK.out _ _ ((kC BK304.out 0).trans rfl) (fun hHeld => ?_)
          clear hK K
          refine norm_ (a' := ?_) ?_ ?_
          rotate_left
          ·show Act.put _ (some 12) _ = _
           simp only [Act.put, pa, pb, pc, i64_w, i32_w]
           rfl
          exact norm_ (by simp only [putAll, Act.put, pa, pb, pc]) (hCont (gb336) _ ⟨hHeld, (kq BK304.out), (kq BK305.out), (kq BK336.out), GW336.out, GE336.out, NB304_336.out, NB336_304.out, NB305_336.out, NB336_305.out, bq⟩)
         ·skip
          refine box_step ?hg (N := 12) ?hd (cs := #[.nilFunc, .nilFunc]) (t := 94) ?hr ?_; (case hd => rfl); (case hg => rfl); (case hr => first | (go_simp; done) | (go_simp; rfl))
          intro gb336 hg w71 hbox hb
          have BK336 := aM (hbox)
          have GW336 := aM ((by rw [hg]; exact (bZ bq) : w.heap.size ≤ gb336))
          have GE336 := aM ((by rw [hg]; exact (bZ bq) : w.heap.size ≤ gb336))
          replace HB := aM (bT bq hb)
          have NB304_336 := aM ((by rw [hg]; exact Nat.ne_of_lt (blk_lt (kq BK304.out)) : gb304 ≠ gb336))
          have NB336_304 := aM ((by rw [hg]; exact Nat.ne_of_gt (blk_lt (kq BK304.out)) : gb336 ≠ gb304))
          replace BK304 := aM (kB (kq BK304.out) hb)
          have NB305_336 := aM ((by rw [hg]; exact Nat.ne_of_lt (blk_lt (kq BK305.out)) : gb305 ≠ gb336))
          have NB336_305 := aM ((by rw [hg]; exact Nat.ne_of_gt (blk_lt (kq BK305.out)) : gb336 ≠ gb305))
          replace BK305 := aM (kB (kq BK305.out) hb)
          clear hb hbox hg
          refine hK.out _ _ ((kC BK304.out 0).trans rfl) (fun hHeld => ?_)
          clear hK K
          refine norm_ (a' := ?_) ?_ ?_
          rotate_left
          ·show Act.put _ (some 12) _ = _
           simp only [Act.put, pa, pb, pc, i64_w, i32_w]
           rfl
          refine one_ (i := 2) (N := some 50) #[Y,Y,Y,Y,N,N] rfl rfl kr (by decide) (fun K hK => ?_)
          refine goes_ Try.func58 kr rfl #[] (by rfl) rfl rfl mq ?_
          with_reducible refine (impl_ofBounds.calls   _ A54.out).mono ?_
          rintro e w72 ⟨rfl, hb⟩
          refine ⟨_, rfl, ?_⟩
          replace BK304 := aM (kB (kq BK304.out) hb)
          replace BK305 := aM (kB (kq BK305.out) hb)
          replace BK336 := aM (kB (kq BK336.out) hb)
          replace HB := aM (bT bq hb)
          (try clear hb)
          (try clear hb2)
          (try clear hk)
          (try clear hi)
          refine hK.out _ _ ((kC BK304.out 0).trans rfl) (fun hHeld => ?_)
          clear hK K
          refine norm_ (a' := ?_) ?_ ?_
          rotate_left
          ·show Act.put _ (some 50) _ = _
           simp only [Act.put, pa, pb, pc, i64_w, i32_w]
           rfl
          exact norm_ (by simp only [putAll, Act.put, pa, pb, pc]) (hCont (gb336) _ ⟨hHeld, (kq BK304.out), (kq BK305.out), (kq BK336.out), GW336.out, GE336.out, NB304_336.out, NB336_304.out, NB305_336.out, NB336_305.out, bq⟩)
        rintro gb336 w73 ⟨hS_, h0_, h1_, h2_, h3_, h4_, h5_, h6_, h7_, h8_, h9_⟩
        have n0_ : Aside0 (w73.heap[gb304]? = some (.cells #[.int .i64 a0] 2 (0, 0))) := ⟨h0_⟩
        have n1_ : Aside0 (w73.heap[gb305]? = some (.cells #[.int .i64 0, .slice none 0 0] 24 (0, 0))) := ⟨h1_⟩
        have n2_ : Aside0 (w73.heap[gb336]? = some (.cells #[.nilFunc, .nilFunc] 94 (0, 0))) := ⟨h2_⟩
        have n3_ : Aside0 (w.heap.size ≤ gb336) := ⟨h3_⟩
        have n4_ : Aside0 (w.heap.size ≤ gb336) := ⟨h4_⟩
        have n5_ : Aside0 (gb304 ≠ gb336) := ⟨h5_⟩
        have n6_ : Aside0 (gb336 ≠ gb304) := ⟨h6_⟩
        have n7_ : Aside0 (gb305 ≠ gb336) := ⟨h7_⟩
        have n8_ : Aside0 (gb336 ≠ gb305) := ⟨h8_⟩
        have n9_ : Aside0 (Below w.heap.size w w73) := ⟨h9_⟩
        clear BK304 BK305 HB h0_ h1_ h2_ h3_ h4_ h5_ h6_ h7_ h8_ h9_
        have BK304 := n0_
        have BK305 := n1_
        have BK336 := n2_
        have GW336 := n3_
        have GE336 := n4_
        have NB304_336 := n5_
        have NB336_304 := n6_
        have NB305_336 := n7_
        have NB336_305 := n8_
        have HB := n9_
        clear n0_ n1_ n2_ n3_ n4_ n5_ n6_ n7_ n8_ n9_
        have hHeld : w73.cell? ⟨gb304, 0, none⟩ = some (.int .i64 a0) := hS_
        refine norm_ (a' := ?_) ?_ ?_
        rotate_left
        ·simp only [putAll, Act.put, pa, pb, pc]
         rfl
        refine pure_ (i := 4) (N := some 11) (v := ?_) (a' := ?_) #[Y,Y,Y,Y,Y,N] rfl rfl kr (fun _ _ _ h => h) (Or.inl ⟨by rfl, ?_⟩) ?_ ?_
        rotate_left
        ·intro w'
         go_simp
         with_reducible rfl
        rotate_left
        ·simp only [Act.put, pa, pb, pc, i64_w, i32_w]
         rfl
        refine one_ (i := 5) (N := none) #[Y,Y,Y,Y,Y,Y] rfl rfl kr (by decide) (fun K hK => ?_)
        have hs74 : w73.cell? ⟨gb336, 0, none⟩ = some (.nilFunc) := (kC BK336.out 0).trans rfl
        have hfs74 := kF BK336.out 0
        have hns74_0 := NB304_336.out
        have hns74_1 := NB305_336.out
        have hms74_0 := NB336_304.out
        have hms74_1 := NB336_305.out
        have hs75 : w73.cell? ⟨gb336, 1, none⟩ = some (.nilFunc) := (kC BK336.out 1).trans rfl
        have hfs75 := kF BK336.out 1
        have hns75_0 := NB304_336.out
        have hns75_1 := NB305_336.out
        have hms75_0 := NB336_304.out
        have hms75_1 := NB336_305.out
        refine skip_ (w1 := ?_) (by rfl) rfl ?_ ?_
        rotate_left
        ·go_simp
         rfl
        refine hK.out _ _ (((cell_far (p := ⟨gb336, _, none⟩) NB304_336.out _).trans (((cell_far (p := ⟨gb336, _, none⟩) NB304_336.out _).trans (hHeld))))) (fun hHeld => ?_)
        clear hK K
        refine done_ kr ?_
        have hnb76 := NB336_304.out
        have hnc76 := NB304_336.out
        have hnb77 := NB336_305.out
        have hnc77 := NB305_336.out
        have hcz78_0 : w73.cell? ⟨gb336, 0, none⟩ = some (.nilFunc) := (kC BK336.out 0).trans rfl
        have hcz78_1 : w73.cell? ⟨gb336, 1, none⟩ = some (.nilFunc) := (kC BK336.out 1).trans rfl
        have hfz78_0 := kF BK336.out 0
        have hfz78_1 := kF BK336.out 1
        try go_wp2_with (first | ((with_reducible refine gate_callee (f := 60) rfl ?_); refine goesL_ (some 54) rfl rfl Try.func60 kr rfl #[.agg #[.func (.func 107) #[] #[], .func (.func 109) #[] #[]], .slice A2 l2.length c2] rfl mq ?_; (with_reducible refine (impl_undo_gather.calls kj4 _ _ impl_ofBounds_1.f _ _ impl_partBounds.f _ _ l2 t337 _ ?side1 ?side2 ?side3 ?side4 A55.out).mono ?_); (case side1 => exact ok4_ofBounds_1 _); (case side2 => exact ok2_partBounds _); (case side3 => exact cB HR2.out bq); (case side4 => exact HC2.out); rintro e w79 ⟨v338, rfl, ho0, hb⟩; refine ⟨_, rfl, ?_⟩; have HO339 := aM (rG (Kd.R_newB ho0 (g := gb304) (o := .cells #[.int .i64 a0] 2 (0, 0)) (fq BK304.out)) (bZ bq)); replace BK304 := aM (kB (g := gb304) (o := .cells #[.int .i64 a0] 2 (0, 0)) (fq BK304.out) hb); replace BK305 := aM (kB (g := gb305) (o := .cells #[.int .i64 0, .slice none 0 0] 24 (0, 0)) (fq BK305.out) hb); replace BK336 := aM (kB (g := gb336) (o := .cells #[.func (.func 107) #[] #[], .func (.func 109) #[] #[]] 94 (0, 0)) (fq BK336.out) hb); replace HB := aM (bT bq hb); (try clear hb); (try clear ho0)))
        replace HO339 := aM (rD HO339.out)
        replace BK304 := aM (kD BK304.out)
        replace BK305 := aM (kD BK305.out)
        replace BK336 := aM (kD BK336.out)
        replace HB := aM (bD HB.out)
        obtain ⟨Ao82, co82, eo82⟩ := Kd.R_slice HO339.out
        (first | subst eo82 | (injection eo82 with f1_ f2_ f3_; have f4_ := f1_.symm; have f5_ := f3_.symm; clear f1_ f2_ f3_; subst f4_; subst f5_))
        have q81 : ((ji57) : Int) ≤ ((t337.length : Int) : Int) := of_decide_eq_true (by first | (with_reducible assumption) | assumption)
        obtain ⟨i081, hi081, _, hsz81, _⟩ := info_parts info2
        have hroom81 : t337.length ≤ co82 := (rR HO339.out).2.1
        have hC81 : Kd.F (Kd.int .i64) _ _ Ao82 t337.length t337 := (Kd.V_at (base := w.heap.size) (Kd.R_V (Kd.R_types (Kd.R_types (HO339.out) BK305.out (by decide)) BK336.out (by decide)))).2.2
        have hcut81 := cut_to (P := Try.prog) 22 2 .i64 Try.underlying22 hi081 Ao82 t337.length co82 (ji57) (of_decide_eq_true (by first | (with_reducible assumption) | assumption)) q81 hroom81
        have hr81 := Kd.F_take (m := ((ji57) : Int).toNat) hC81 (by omega)
        have hy81 : y348.length = ((ji57) : Int).toNat := (by rw [Ny348.out, List.length_take]; omega)
        rw [← Ny348.out] at hr81
        rw [← hy81] at hcut81
        have HO352 := aM (show Kd.V (Kd.int .i64) 2 _ w.heap.size _ (.slice Ao82 y348.length co82) y348 from Kd.V_mk (by omega) hr81)
        have HC352 := aM (show y348.length ≤ co82 from by omega)
        clear hr81 hC81 hroom81 hi081 hsz81
        have KY81 := aM hy81
        clear hy81
        replace q81 := eq_true q81
        refine start_ (n := 15) (S := fun w' => w'.cell? ⟨gb336, 0, none⟩ = some (.func (.func 107) #[] #[]) ∧ w'.cell? ⟨gb336, 1, none⟩ = some (.func (.func 109) #[] #[])) (ds := []) #[N,N,N,N,N,N,N,N,N,N,N,N,N,N,N] kr rfl rfl ⟨(kC BK336.out 0).trans rfl, (kC BK336.out 1).trans rfl⟩ (fun hHeld => ?_); refine with_tabW impl_FrameBounds.tab8 impl_FrameBounds.bits8 (fun HT_ HW_ => ?_)
        generalize w79.drew = w80 at HO339 BK304 BK305 BK336 HB HO352 hHeld ⊢
        refine pp HT_ (N := some 57) 1 #[N,Y,N,N,N,N,N,N,N,N,N,N,N,N,N] ?_
        refine pp HT_ (N := some 59) 3 #[N,Y,N,Y,N,N,N,N,N,N,N,N,N,N,N] ?_
        refine pp HT_ (N := some 61) 5 #[N,Y,N,Y,N,Y,N,N,N,N,N,N,N,N,N] ?_
        refine pp HT_ (N := some 62) 6 #[N,Y,N,Y,N,Y,Y,N,N,N,N,N,N,N,N] ?_
        refine pp HT_ (N := some 63) 7 #[N,Y,N,Y,N,Y,Y,Y,N,N,N,N,N,N,N] ?_
        refine pp HT_ (N := some 64) 8 #[N,Y,N,Y,N,Y,Y,Y,Y,N,N,N,N,N,N] ?_
        refine take_ (i := 0) (N := some 56) (v := ?_) (a' := ?_) #[Y,Y,N,Y,N,Y,Y,Y,Y,N,N,N,N,N,N] rfl rfl (take_ofW HT_.out HW_.out kr) (fun _ _ _ h => h) (Or.inl ⟨by rfl, ?_⟩) hHeld ?_ ?_
        rotate_left
        ·rintro w' ⟨s0, s1⟩
         go_simp
         with_reducible rfl
        rotate_left
        ·simp only [Act.put, pa, pb, pc, i64_w, i32_w]
         rfl
        refine one_ (i := 2) (N := some 58) #[Y,Y,Y,Y,N,Y,Y,Y,Y,N,N,N,N,N,N] rfl rfl (one_of HT_.out kr) (by decide) (fun K hK => ?_)
        refine goes_ Try.func60 kr rfl #[.agg #[.func (.func 107) #[] #[], .func (.func 109) #[] #[]], .slice A1 l1.length c1] (by rfl) rfl rfl mq ?_
        with_reducible refine (impl_undo_gather.calls kj4 _ _ impl_ofBounds_1.f _ _ impl_partBounds.f _ _ l1 t340 _ ?side1 ?side2 ?side3 ?side4 A56.out).mono ?_
        (case side1 => exact ok4_ofBounds_1 _)
        (case side2 => exact ok2_partBounds _)
        (case side3 => exact cq (cB HR1.out HB.out))
        (case side4 => exact HC1.out)
        rintro e w83 ⟨v341, rfl, ho0, hb⟩
        refine ⟨_, rfl, ?_⟩
        replace HO352 := aM (Kd.V_elder' (vq HO352.out) (rB ho0) hb)
        have HO342 := aM (rG (Kd.R_newB (rW ho0 (rT (rq HO339.out))) (kq BK304.out)) (bZ bq))
        replace HO339 := aM (rH (rq HO339.out) (rB ho0) hb)
        replace BK304 := aM (kB (kq BK304.out) hb)
        replace BK305 := aM (kB (kq BK305.out) hb)
        replace BK336 := aM (kB (kq BK336.out) hb)
        replace HB := aM (bT bq hb)
        (try clear hb)
        (try clear hb2)
        (try clear hk)
        (try clear hi)
        (try clear ho0)
        obtain ⟨Ao85, co85, eo85⟩ := Kd.R_slice HO342.out
        (first | subst eo85 | (injection eo85 with f1_ f2_ f3_; have f4_ := f1_.symm; have f5_ := f3_.symm; clear f1_ f2_ f3_; subst f4_; subst f5_))
        have q84 : ((ji57) : Int) ≤ ((t340.length : Int) : Int) := of_decide_eq_true (by first | (with_reducible assumption) | assumption)
        obtain ⟨i084, hi084, _, hsz84, _⟩ := info_parts info2
        have hroom84 : t340.length ≤ co85 := (rR HO342.out).2.1
        have hC84 : Kd.F (Kd.int .i64) _ _ Ao85 t340.length t340 := (Kd.V_at (base := w.heap.size) (Kd.R_V (Kd.R_types (Kd.R_types (HO342.out) BK305.out (by decide)) BK336.out (by decide)))).2.2
        have q084 : (0 : Int) ≤ ((ji57) : Int) := of_decide_eq_true (by first | (with_reducible assumption) | assumption)
        have hcut84 := cut_from (P := Try.prog) 22 2 .i64 Try.underlying22 hi084 1 hsz84 Ao85 t340.length co85 (ji57) q084 q84
        have hr84 := Kd.F_cut (m := ((ji57) : Int).toNat) (c := co85) hC84 (by omega) hroom84
        obtain ⟨A84, hA84⟩ : ∃ A1, A1 = (if co85 = ((ji57) : Int).toNat then Ao85 else (Ao85 : Option Addr).map (·.add (((ji57) : Int).toNat * 1))) := ⟨_, rfl⟩
        obtain ⟨c84, hc84⟩ : ∃ c1, c1 = co85 - ((ji57) : Int).toNat := ⟨_, rfl⟩
        have hy84 : y343.length = t340.length - ((ji57) : Int).toNat := (by rw [Ny343.out, List.length_drop] <;> omega)
        rw [show (t340).drop ((ji57) : Int).toNat = y343 from Ny343.out.symm] at hr84
        replace hr84 : Kd.F (Kd.int .i64) _ _ A84 y343.length y343 := (by rw [hA84]; exact hr84)
        rw [← hy84, ← hA84, ← hc84] at hcut84
        have HO347 := aM (show Kd.V (Kd.int .i64) 2 _ w.heap.size _ (.slice A84 y343.length c84) y343 from Kd.V_mk (by rw [hy84, hc84]; exact Nat.sub_le_sub_right hroom84 _) hr84)
        have HC347 := aM (show y343.length ≤ c84 from by rw [hy84, hc84]; exact Nat.sub_le_sub_right hroom84 _)
        clear hr84 hC84 hroom84 hi084 hsz84 hc84
        have KY84 := aM hy84
        have KA84 := aM hA84
        clear hy84 hA84
        replace q84 := eq_true q84
        refine hK.out _ _ ⟨(kC BK336.out 0).trans rfl, (kC BK336.out 1).trans rfl⟩ (fun hHeld => ?_)
        clear hK K
        refine norm_ (a' := ?_) ?_ ?_
        rotate_left
        ·show Act.put _ (some 58) _ = _
         simp only [Act.put, pa, pb, pc, i64_w, i32_w]
         rfl
        refine pp HT_ (N := some 60) 4 #[Y,Y,Y,Y,Y,Y,Y,Y,Y,N,N,N,N,N,N] ?_
        refine one_ (i := 9) (N := some 65) #[Y,Y,Y,Y,Y,Y,Y,Y,Y,Y,N,N,N,N,N] rfl rfl (one_of HT_.out kr) (by decide) (fun K hK => ?_)
        refine goes_ Try.func61 kr rfl #[.slice A84 y343.length c84, .slice Ao82 y348.length co82, .func (.func 59) #[] #[.pointer (some ⟨gb336, 0, none⟩), .pointer (some ⟨gb304, 0, none⟩)]] (by rfl) rfl rfl mq ?_
        with_reducible refine (impl_seam.calls kj4 _ _ y343 _ _ y348 _ _ (impl_ofBounds_1.f a0) t353 t354 _ ?side1 ?side2 ?side3 ?side4 ?side5 A62.out).mono ?_
        (case side1 => exact cq (Kd.V_reads' HO347.out).2.2)
        (case side2 => exact (Kd.V_reads' HO347.out).2.1)
        (case side3 => exact cq (Kd.V_reads' HO352.out).2.2)
        (case side4 => exact (Kd.V_reads' HO352.out).2.1)
        (case side5 => exact (ok3_FrameBounds_2 gb336 gb304 _ _ _ _ _ ((kC (kq BK336.out) 0).trans rfl) ((kC (kq BK304.out) 0).trans rfl) (ok4_ofBounds_1 _)))
        rintro e w86 ⟨v355, v357, rfl, ho0, ho1, hb⟩
        refine ⟨_, rfl, ?_⟩
        replace HO352 := aM (Kd.V_mono (Kd.V_told (Kd.V_told (Kd.V_old (vq HO352.out) hb) (rB ho0)) (rB ho1)) (fun _ h_ => h_.1))
        replace HO347 := aM (Kd.V_mono (Kd.V_told (Kd.V_told (Kd.V_old (vq HO347.out) hb) (rB ho0)) (rB ho1)) (fun _ h_ => h_.1))
        have HO356 := aM (rG (Kd.R_newB (rW (rW ho0 (rT (rq HO339.out))) (rT (rq HO342.out))) (kq BK304.out)) (bZ bq))
        have HO358 := aM (rG (Kd.R_newB (rW (rW ho1 (rT (rq HO339.out))) (rT (rq HO342.out))) (kq BK304.out)) (bZ bq))
        replace HO339 := aM (rM (rO (rO (rE (rq HO339.out) hb) (rB ho0)) (rB ho1)) (fun _ h_ => h_.1))
        replace HO342 := aM (rM (rO (rO (rE (rq HO342.out) hb) (rB ho0)) (rB ho1)) (fun _ h_ => h_.1))
        replace BK304 := aM (kB (kq BK304.out) hb)
        replace BK305 := aM (kB (kq BK305.out) hb)
        replace BK336 := aM (kB (kq BK336.out) hb)
        replace HB := aM (bT bq hb)
        (try clear hb)
        (try clear hb2)
        (try clear hk)
        (try clear hi)
        (try clear ho0)
        (try clear ho1)
        refine hK.out _ _ ⟨(kC BK336.out 0).trans rfl, (kC BK336.out 1).trans rfl⟩ (fun hHeld => ?_)
        clear hK K
        refine norm_ (a' := ?_) ?_ ?_
        rotate_left
        ·show Act.put _ (some 65) _ = _
         simp only [Act.put, pa, pb, pc, i64_w, i32_w]
         rfl
        refine pp HT_ (N := some 55) 10 #[Y,Y,Y,Y,Y,Y,Y,Y,Y,Y,Y,N,N,N,N] ?_
        refine pp HT_ (N := some 66) 11 #[Y,Y,Y,Y,Y,Y,Y,Y,Y,Y,Y,Y,N,N,N] ?_
        refine pp HT_ (N := some 67) 12 #[Y,Y,Y,Y,Y,Y,Y,Y,Y,Y,Y,Y,Y,N,N] ?_
        refine pp HT_ (N := some 15) 13 #[Y,Y,Y,Y,Y,Y,Y,Y,Y,Y,Y,Y,Y,Y,N] ?_
        refine pp HT_ (N := some 16) 14 #[Y,Y,Y,Y,Y,Y,Y,Y,Y,Y,Y,Y,Y,Y,Y] ?_
        refine done_ (done_of HT_.out kr) ?_
        try go_wp2
        replace HO339 := aM (rD HO339.out)
        replace HO352 := aM (Kd.V_drew HO352.out)
        replace HO342 := aM (rD HO342.out)
        replace HO347 := aM (Kd.V_drew HO347.out)
        replace HO356 := aM (rD HO356.out)
        replace HO358 := aM (rD HO358.out)
        replace BK304 := aM (kD BK304.out)
        replace BK305 := aM (kD BK305.out)
        replace BK336 := aM (kD BK336.out)
        replace HB := aM (bD HB.out)
        have q88 : ((ji57) : Int) ≤ ((t337.length : Int) : Int) := of_decide_eq_true (by first | (with_reducible assumption) | assumption)
        obtain ⟨i088, hi088, _, hsz88, _⟩ := info_parts info2
        have hroom88 : t337.length ≤ co82 := (rR HO339.out).2.1
        have hC88 : Kd.F (Kd.int .i64) _ _ Ao82 t337.length t337 := (Kd.V_at (base := w.heap.size) (Kd.R_V (Kd.R_types (Kd.R_types (HO339.out) BK305.out (by decide)) BK336.out (by decide)))).2.2
        have q088 : (0 : Int) ≤ ((ji57) : Int) := of_decide_eq_true (by first | (with_reducible assumption) | assumption)
        have hcut88 := cut_from (P := Try.prog) 22 2 .i64 Try.underlying22 hi088 1 hsz88 Ao82 t337.length co82 (ji57) q088 q88
        have hr88 := Kd.F_cut (m := ((ji57) : Int).toNat) (c := co82) hC88 (by omega) hroom88
        obtain ⟨A88, hA88⟩ : ∃ A1, A1 = (if co82 = ((ji57) : Int).toNat then Ao82 else (Ao82 : Option Addr).map (·.add (((ji57) : Int).toNat * 1))) := ⟨_, rfl⟩
        obtain ⟨c88, hc88⟩ : ∃ c1, c1 = co82 - ((ji57) : Int).toNat := ⟨_, rfl⟩
        have hy88 : y359.length = t337.length - ((ji57) : Int).toNat := (by rw [Ny359.out, List.length_drop] <;> omega)
        rw [show (t337).drop ((ji57) : Int).toNat = y359 from Ny359.out.symm] at hr88
        replace hr88 : Kd.F (Kd.int .i64) _ _ A88 y359.length y359 := (by rw [hA88]; exact hr88)
        rw [← hy88, ← hA88, ← hc88] at hcut88
        have HO363 := aM (show Kd.V (Kd.int .i64) 2 _ w.heap.size _ (.slice A88 y359.length c88) y359 from Kd.V_mk (by rw [hy88, hc88]; exact Nat.sub_le_sub_right hroom88 _) hr88)
        have HC363 := aM (show y359.length ≤ c88 from by rw [hy88, hc88]; exact Nat.sub_le_sub_right hroom88 _)
        clear hr88 hC88 hroom88 hi088 hsz88 hc88
        have KY88 := aM hy88
        have KA88 := aM hA88
        clear hy88 hA88
        replace q88 := eq_true q88
        refine start_ (n := 15) (S := fun w' => w'.cell? ⟨gb336, 0, none⟩ = some (.func (.func 107) #[] #[]) ∧ w'.cell? ⟨gb336, 1, none⟩ = some (.func (.func 109) #[] #[])) (ds := []) #[N,N,N,N,N,N,N,N,N,N,N,N,N,N,N] kr rfl rfl ⟨(kC BK336.out 0).trans rfl, (kC BK336.out 1).trans rfl⟩ (fun hHeld => ?_); refine with_tabW impl_FrameBounds.tab9 impl_FrameBounds.bits9 (fun HT_ HW_ => ?_)
        generalize w86.drew = w87 at HO339 HO352 HO342 HO347 HO356 HO358 BK304 BK305 BK336 HB HO363 hHeld ⊢
        refine pp HT_ (N := some 69) 0 #[Y,N,N,N,N,N,N,N,N,N,N,N,N,N,N] ?_
        refine pp HT_ (N := some 70) 1 #[Y,Y,N,N,N,N,N,N,N,N,N,N,N,N,N] ?_
        refine pp HT_ (N := some 71) 2 #[Y,Y,Y,N,N,N,N,N,N,N,N,N,N,N,N] ?_
        refine pp HT_ (N := some 73) 4 #[Y,Y,Y,N,Y,N,N,N,N,N,N,N,N,N,N] ?_
        refine pp HT_ (N := some 75) 6 #[Y,Y,Y,N,Y,N,Y,N,N,N,N,N,N,N,N] ?_
        refine pp HT_ (N := some 77) 8 #[Y,Y,Y,N,Y,N,Y,N,Y,N,N,N,N,N,N] ?_
        refine take_ (i := 3) (N := some 72) (v := ?_) (a' := ?_) #[Y,Y,Y,Y,Y,N,Y,N,Y,N,N,N,N,N,N] rfl rfl (take_ofW HT_.out HW_.out kr) (fun _ _ _ h => h) (Or.inl ⟨by rfl, ?_⟩) hHeld ?_ ?_
        rotate_left
        ·rintro w' ⟨s0, s1⟩
         go_simp
         with_reducible rfl
        rotate_left
        ·simp only [Act.put, pa, pb, pc, i64_w, i32_w]
         rfl
        refine one_ (i := 5) (N := some 74) #[Y,Y,Y,Y,Y,Y,Y,N,Y,N,N,N,N,N,N] rfl rfl (one_of HT_.out kr) (by decide) (fun K hK => ?_)
        refine goes_ Try.func60 kr rfl #[.agg #[.func (.func 107) #[] #[], .func (.func 109) #[] #[]], .slice A3 l3.length c3] (by rfl) rfl rfl mq ?_
        with_reducible refine (impl_undo_gather.calls kj4 _ _ impl_ofBounds_1.f _ _ impl_partBounds.f _ _ l3 t364 _ ?side1 ?side2 ?side3 ?side4 A65.out).mono ?_
        (case side1 => exact ok4_ofBounds_1 _)
        (case side2 => exact ok2_partBounds _)
        (case side3 => exact cq (cB HR3.out HB.out))
        (case side4 => exact HC3.out)
        rintro e w89 ⟨v365, rfl, ho0, hb⟩
        refine ⟨_, rfl, ?_⟩
        replace HO352 := aM (Kd.V_elder' (vq HO352.out) (rB ho0) hb)
        replace HO347 := aM (Kd.V_elder' (vq HO347.out) (rB ho0) hb)
        replace HO363 := aM (Kd.V_elder' (vq HO363.out) (rB ho0) hb)
        have HO366 := aM (rG (Kd.R_newB (rW (rW (rW (rW ho0 (rT (rq HO339.out))) (rT (rq HO342.out))) (rT (rq HO356.out))) (rT (rq HO358.out))) (kq BK304.out)) (bZ bq))
        replace HO339 := aM (rH (rq HO339.out) (rB ho0) hb)
        replace HO342 := aM (rH (rq HO342.out) (rB ho0) hb)
        replace HO356 := aM (rH (rq HO356.out) (rB ho0) hb)
        replace HO358 := aM (rH (rq HO358.out) (rB ho0) hb)
        replace BK304 := aM (kB (kq BK304.out) hb)
        replace BK305 := aM (kB (kq BK305.out) hb)
        replace BK336 := aM (kB (kq BK336.out) hb)
        replace HB := aM (bT bq hb)
        (try clear hb)
        (try clear hb2)
        (try clear hk)
        (try clear hi)
        (try clear ho0)
        obtain ⟨Ao91, co91, eo91⟩ := Kd.R_slice HO366.out
        (first | subst eo91 | (injection eo91 with f1_ f2_ f3_; have f4_ := f1_.symm; have f5_ := f3_.symm; clear f1_ f2_ f3_; subst f4_; subst f5_))
        have q90 : ((ji57) : Int) ≤ ((t364.length : Int) : Int) := of_decide_eq_true (by first | (with_reducible assumption) | assumption)
        obtain ⟨i090, hi090, _, hsz90, _⟩ := info_parts info2
        have hroom90 : t364.length ≤ co91 := (rR HO366.out).2.1
        have hC90 : Kd.F (Kd.int .i64) _ _ Ao91 t364.length t364 := (Kd.V_at (base := w.heap.size) (Kd.R_V (Kd.R_types (Kd.R_types (HO366.out) BK305.out (by decide)) BK336.out (by decide)))).2.2
        have hcut90 := cut_to (P := Try.prog) 22 2 .i64 Try.underlying22 hi090 Ao91 t364.length co91 (ji57) (of_decide_eq_true (by first | (with_reducible assumption) | assumption)) q90 hroom90
        have hr90 := Kd.F_take (m := ((ji57) : Int).toNat) hC90 (by omega)
        have hy90 : y367.length = ((ji57) : Int).toNat := (by rw [Ny367.out, List.length_take]; omega)
        rw [← Ny367.out] at hr90
        rw [← hy90] at hcut90
        have HO371 := aM (show Kd.V (Kd.int .i64) 2 _ w.heap.size _ (.slice Ao91 y367.length co91) y367 from Kd.V_mk (by omega) hr90)
        have HC371 := aM (show y367.length ≤ co91 from by omega)
        clear hr90 hC90 hroom90 hi090 hsz90
        have KY90 := aM hy90
        clear hy90
        replace q90 := eq_true q90
        refine hK.out _ _ ⟨(kC BK336.out 0).trans rfl, (kC BK336.out 1).trans rfl⟩ (fun hHeld => ?_)
        clear hK K
        refine norm_ (a' := ?_) ?_ ?_
        rotate_left
        ·show Act.put _ (some 74) _ = _
         simp only [Act.put, pa, pb, pc, i64_w, i32_w]
         rfl
        refine pp HT_ (N := some 76) 7 #[Y,Y,Y,Y,Y,Y,Y,Y,Y,N,N,N,N,N,N] ?_
        refine one_ (i := 9) (N := some 78) #[Y,Y,Y,Y,Y,Y,Y,Y,Y,Y,N,N,N,N,N] rfl rfl (one_of HT_.out kr) (by decide) (fun K hK => ?_)
        refine goes_ Try.func61 kr rfl #[.slice A88 y359.length c88, .slice Ao91 y367.length co91, .func (.func 59) #[] #[.pointer (some ⟨gb336, 0, none⟩), .pointer (some ⟨gb304, 0, none⟩)]] (by rfl) rfl rfl mq ?_
        with_reducible refine (impl_seam.calls kj4 _ _ y359 _ _ y367 _ _ (impl_ofBounds_1.f a0) t372 t373 _ ?side1 ?side2 ?side3 ?side4 ?side5 A68.out).mono ?_
        (case side1 => exact cq (Kd.V_reads' HO363.out).2.2)
        (case side2 => exact (Kd.V_reads' HO363.out).2.1)
        (case side3 => exact cq (Kd.V_reads' HO371.out).2.2)
        (case side4 => exact (Kd.V_reads' HO371.out).2.1)
        (case side5 => exact (ok3_FrameBounds_2 gb336 gb304 _ _ _ _ _ ((kC (kq BK336.out) 0).trans rfl) ((kC (kq BK304.out) 0).trans rfl) (ok4_ofBounds_1 _)))
        rintro e w92 ⟨v374, v376, rfl, ho0, ho1, hb⟩
        refine ⟨_, rfl, ?_⟩
        replace HO352 := aM (Kd.V_mono (Kd.V_told (Kd.V_told (Kd.V_old (vq HO352.out) hb) (rB ho0)) (rB ho1)) (fun _ h_ => h_.1))
        replace HO347 := aM (Kd.V_mono (Kd.V_told (Kd.V_told (Kd.V_old (vq HO347.out) hb) (rB ho0)) (rB ho1)) (fun _ h_ => h_.1))
        replace HO363 := aM (Kd.V_mono (Kd.V_told (Kd.V_told (Kd.V_old (vq HO363.out) hb) (rB ho0)) (rB ho1)) (fun _ h_ => h_.1))
        replace HO371 := aM (Kd.V_mono (Kd.V_told (Kd.V_told (Kd.V_old (vq HO371.out) hb) (rB ho0)) (rB ho1)) (fun _ h_ => h_.1))
        have HO375 := aM (rG (Kd.R_newB (rW (rW (rW (rW (rW ho0 (rT (rq HO339.out))) (rT (rq HO342.out))) (rT (rq HO356.out))) (rT (rq HO358.out))) (rT (rq HO366.out))) (kq BK304.out)) (bZ bq))
        have HO377 := aM (rG (Kd.R_newB (rW (rW (rW (rW (rW ho1 (rT (rq HO339.out))) (rT (rq HO342.out))) (rT (rq HO356.out))) (rT (rq HO358.out))) (rT (rq HO366.out))) (kq BK304.out)) (bZ bq))
        replace HO339 := aM (rM (rO (rO (rE (rq HO339.out) hb) (rB ho0)) (rB ho1)) (fun _ h_ => h_.1))
        replace HO342 := aM (rM (rO (rO (rE (rq HO342.out) hb) (rB ho0)) (rB ho1)) (fun _ h_ => h_.1))
        replace HO356 := aM (rM (rO (rO (rE (rq HO356.out) hb) (rB ho0)) (rB ho1)) (fun _ h_ => h_.1))
        replace HO358 := aM (rM (rO (rO (rE (rq HO358.out) hb) (rB ho0)) (rB ho1)) (fun _ h_ => h_.1))
        replace HO366 := aM (rM (rO (rO (rE (rq HO366.out) hb) (rB ho0)) (rB ho1)) (fun _ h_ => h_.1))
        replace BK304 := aM (kB (kq BK304.out) hb)
        replace BK305 := aM (kB (kq BK305.out) hb)
        replace BK336 := aM (kB (kq BK336.out) hb)
        replace HB := aM (bT bq hb)
        (try clear hb)
        (try clear hb2)
        (try clear hk)
        (try clear hi)
        (try clear ho0)
        (try clear ho1)
        refine hK.out _ _ ⟨(kC BK336.out 0).trans rfl, (kC BK336.out 1).trans rfl⟩ (fun hHeld => ?_)
        clear hK K
        refine norm_ (a' := ?_) ?_ ?_
        rotate_left
        ·show Act.put _ (some 78) _ = _
         simp only [Act.put, pa, pb, pc, i64_w, i32_w]
         rfl
        refine pp HT_ (N := some 68) 10 #[Y,Y,Y,Y,Y,Y,Y,Y,Y,Y,Y,N,N,N,N] ?_
        refine pp HT_ (N := some 79) 11 #[Y,Y,Y,Y,Y,Y,Y,Y,Y,Y,Y,Y,N,N,N] ?_
        refine pp HT_ (N := some 80) 12 #[Y,Y,Y,Y,Y,Y,Y,Y,Y,Y,Y,Y,Y,N,N] ?_
        refine pp HT_ (N := some 17) 13 #[Y,Y,Y,Y,Y,Y,Y,Y,Y,Y,Y,Y,Y,Y,N] ?_
        refine pp HT_ (N := some 18) 14 #[Y,Y,Y,Y,Y,Y,Y,Y,Y,Y,Y,Y,Y,Y,Y] ?_
        refine done_ (done_of HT_.out kr) ?_
        obtain ⟨Ao93, co93, eo93⟩ := Kd.R_slice HO358.out
        subst eo93
        obtain ⟨Ao94, co94, eo94⟩ := Kd.R_slice HO375.out
        subst eo94
        try go_wp2_with (first | ((with_reducible refine gate_dst (N := 83) rfl ?_); refine Kd.N_lit (Kd.slice 2 (Kd.int .i64)) _ 22 ?hg (N' := 83) ?hd (xs := ([t354, t372] : List (List Int))) (inner := [.slice Ao93 t354.length co93, .slice Ao94 t372.length co94]) (ok := (fun k_ => nS Ao82 t337 co82 k_ ∧ nS Ao85 t340 co85 k_ ∧ nb v355 k_ ∧ nS Ao91 t364 co91 k_ ∧ nb v376 k_ ∧ k_ ≠ gb304 ∧ k_ ≠ gb305 ∧ k_ ≠ gb336)) (okp := (fun k_ => nS Ao82 t337 co82 k_ ∧ nS Ao85 t340 co85 k_ ∧ nb v355 k_ ∧ nS Ao91 t364 co91 k_ ∧ nb v376 k_ ∧ k_ ≠ gb304 ∧ k_ ≠ gb305 ∧ k_ ≠ gb336)) ?hr ?hp (fun _ hk => hk) ((show ∀ k_, w92.heap.size ≤ k_ → (fun k_ => nS Ao82 t337 co82 k_ ∧ nS Ao85 t340 co85 k_ ∧ nb v355 k_ ∧ nS Ao91 t364 co91 k_ ∧ nb v376 k_ ∧ k_ ≠ gb304 ∧ k_ ≠ gb305 ∧ k_ ≠ gb336) k_ from fun k_ hk => ⟨Kd.fresh' (rT (rq HO339.out)) k_ hk, Kd.fresh' (rT (rq HO342.out)) k_ hk, Kd.fresh' (rT (rq HO356.out)) k_ hk, Kd.fresh' (rT (rq HO366.out)) k_ hk, Kd.fresh' (rT (rq HO377.out)) k_ hk, Kd.freshB (kq BK304.out) k_ hk, Kd.freshB (kq BK305.out) k_ hk, Kd.freshB (kq BK336.out) k_ hk⟩) _ (Nat.le_refl _)) (Below.refl _ _) (Nat.le_refl _) (by simp) ?_; (case hd => rfl); (case hg => rfl); (case hr => first | (go_simp; done) | (go_simp; rfl)); (case hp => exact (Reps.one (show Kd.FK (Kd.slice 2 (Kd.int .i64)) _ _ t354 [.slice Ao93 t354.length co93] from (Kd.FK_slice_mk (rR (rM (ok' := (fun k_ => nS Ao82 t337 co82 k_ ∧ nS Ao85 t340 co85 k_ ∧ nb v355 k_ ∧ nS Ao91 t364 co91 k_ ∧ nb v376 k_ ∧ k_ ≠ gb304 ∧ k_ ≠ gb305 ∧ k_ ≠ gb336)) (Kd.R_types (Kd.R_types (HO358.out) BK305.out (by decide)) BK336.out (by decide)) jq)).2.1 (Kd.R_F (rM (ok' := (fun k_ => nS Ao82 t337 co82 k_ ∧ nS Ao85 t340 co85 k_ ∧ nb v355 k_ ∧ nS Ao91 t364 co91 k_ ∧ nb v376 k_ ∧ k_ ≠ gb304 ∧ k_ ≠ gb305 ∧ k_ ≠ gb336)) (Kd.R_types (Kd.R_types (HO358.out) BK305.out (by decide)) BK336.out (by decide)) jq)))) (Reps.one (show Kd.FK (Kd.slice 2 (Kd.int .i64)) _ _ t372 [.slice Ao94 t372.length co94] from (Kd.FK_slice_mk (rR (rM (ok' := (fun k_ => nS Ao82 t337 co82 k_ ∧ nS Ao85 t340 co85 k_ ∧ nb v355 k_ ∧ nS Ao91 t364 co91 k_ ∧ nb v376 k_ ∧ k_ ≠ gb304 ∧ k_ ≠ gb305 ∧ k_ ≠ gb336)) (Kd.R_types (Kd.R_types (HO375.out) BK305.out (by decide)) BK336.out (by decide)) jq)).2.1 (Kd.R_F (rM (ok' := (fun k_ => nS Ao82 t337 co82 k_ ∧ nS Ao85 t340 co85 k_ ∧ nb v355 k_ ∧ nS Ao91 t364 co91 k_ ∧ nb v376 k_ ∧ k_ ≠ gb304 ∧ k_ ≠ gb305 ∧ k_ ≠ gb336)) (Kd.R_types (Kd.R_types (HO375.out) BK305.out (by decide)) BK336.out (by decide)) jq)))) (Reps.none _ _)))); intro v379 w95 ho96 hb hg_ hnew_; clear hg_ hnew_; (first | rw [← Ny378.out] at ho96 | (simp only [Int.reduceToNat] at ho96; rw [← Ny378.out] at ho96)); replace HO339 := aM (rL (rq HO339.out) hb); replace HO352 := aM (Kd.V_elder' (vq HO352.out) (Kd.N_base ho96) hb); replace HO342 := aM (rL (rq HO342.out) hb); replace HO347 := aM (Kd.V_elder' (vq HO347.out) (Kd.N_base ho96) hb); replace HO356 := aM (rL (rq HO356.out) hb); replace HO363 := aM (Kd.V_elder' (vq HO363.out) (Kd.N_base ho96) hb); replace HO366 := aM (rL (rq HO366.out) hb); replace HO371 := aM (Kd.V_elder' (vq HO371.out) (Kd.N_base ho96) hb); replace HO377 := aM (rL (rq HO377.out) hb); have HO380 := aM (Kd.N_lower ho96 (bZ bq)); replace BK304 := aM (kB (kq BK304.out) hb); replace BK305 := aM (kB (kq BK305.out) hb); replace BK336 := aM (kB (kq BK336.out) hb); replace HB := aM (bT bq hb); clear HO358 HO375 hb ho96; obtain ⟨Ao97, co97, eo97⟩ := Kd.N_slice HO380.out; subst eo97) | ((with_reducible refine gate_callee (f := 62) rfl ?_); refine goesL_ (some 84) rfl rfl Try.func62 kr rfl #[.slice Ao97 y378.length co97] rfl mq ?_; (with_reducible refine (slices_Concat_int64_int64.calls kj4 _ _ y378 t381 _ ?side1 ?side2 A69.out).mono ?_); (case side1 => exact cq (Kd.N_reads' HO380.out).2.2); (case side2 => exact (Kd.N_reads' HO380.out).2.1); rintro e w98 ⟨v382, rfl, ho0, hb⟩; refine ⟨_, rfl, ?_⟩; replace HO352 := aM (Kd.V_elder' (vq HO352.out) (rB ho0) hb); replace HO347 := aM (Kd.V_elder' (vq HO347.out) (rB ho0) hb); replace HO363 := aM (Kd.V_elder' (vq HO363.out) (rB ho0) hb); replace HO371 := aM (Kd.V_elder' (vq HO371.out) (rB ho0) hb); replace HO380 := aM (Kd.N_elder' (nq HO380.out) (rB ho0) hb); have HO383 := aM (rG (Kd.R_newB (rW (rW (rW (rW (rW ho0 (rT (rq HO339.out))) (rT (rq HO342.out))) (rT (rq HO356.out))) (rT (rq HO366.out))) (rT (rq HO377.out))) (kq BK304.out)) (bZ bq)); replace HO339 := aM (rH (rq HO339.out) (rB ho0) hb); replace HO342 := aM (rH (rq HO342.out) (rB ho0) hb); replace HO356 := aM (rH (rq HO356.out) (rB ho0) hb); replace HO366 := aM (rH (rq HO366.out) (rB ho0) hb); replace HO377 := aM (rH (rq HO377.out) (rB ho0) hb); replace BK304 := aM (kB (kq BK304.out) hb); replace BK305 := aM (kB (kq BK305.out) hb); replace BK336 := aM (kB (kq BK336.out) hb); replace HB := aM (bT bq hb); (try clear hb); (try clear ho0); obtain ⟨Ao99, co99, eo99⟩ := Kd.R_slice HO383.out; subst eo99; have hnb100 := NB305_304.out; have hnc100 := NB304_305.out; have hcz101_0 : w98.cell? ⟨gb305, 0, none⟩ = some (.int .i64 0) := (kC BK305.out 0).trans rfl; have hcz101_1 : w98.cell? ⟨gb305, 1, none⟩ = some (.slice none 0 0) := (kC BK305.out 1).trans rfl; have hfz101_0 := kF BK305.out 0; have hfz101_1 := kF BK305.out 1))
        refine bodyPost_ret (results_cell_row rfl _ _ gb305 24 #[.int .i64 0, .slice Ao99 t381.length co99] (0, 0) _ rfl (fq BK305.out) Try.underlying24 rfl kr) rfl ?_
        exact ⟨_, by first | rfl | (simp [errW_none, errW_some] <;> rfl) | (simp only [← hji57]; first | rfl | (simp [errW_none, errW_some] <;> rfl)) | (simp [*, errW_none, errW_some] <;> rfl), by (with_reducible repeat (first | apply rA | apply rN | apply rD)); exact rM (rf (Kd.R_types HO383.out BK305.out (by decide))) (fun _ hk => trivial), bq⟩
       ·rw [if_neg c67] at H
        exact absurd H (by simp)
      ·rw [if_neg c61] at H
       exact absurd H (by simp)
     ·rw [if_neg c59] at H
      exact absurd H (by simp)
    ·rw [if_neg c58] at H
     exact absurd H (by simp)
   ·rw [if_neg c53] at H
    have c53b0 : (x10_4 == 0) = false := beq_eq_false_iff_ne.mpr c53
    have c53b1 : (x10_4 != 0) = true := bne_iff_ne.mpr c53
    simp only [Option.some.injEq, Prod.mk.injEq] at H
    obtain ⟨rfl, rfl⟩ := H
    have hnb102 := NB305_304.out
    have hnc102 := NB304_305.out
    have hcz103_0 : wc.cell? ⟨gb305, 0, none⟩ = some (.int .i64 0) := (kC BK305.out 0).trans rfl
    have hcz103_1 : wc.cell? ⟨gb305, 1, none⟩ = some (.slice none 0 0) := (kC BK305.out 1).trans rfl
    have hfz103_0 := kF BK305.out 0
    have hfz103_1 := kF BK305.out 1
    go_wp2
    refine bodyPost_ret (results_cell_row rfl _ _ gb305 24 #[.int .i64 x10_4, .slice none 0 0] (0, 0) _ rfl (fq BK305.out) Try.underlying24 rfl kr) rfl ?_
    exact ⟨_, ew, by first | exact Kd.R_nil _ _ _ _ _ | exact Kd.N_nil _ _ _ _ _ | exact Kd.V_nil _ _ _ _ _ | exact Kd.Q_nil _ _ _ _ _ | exact Kd.S_nil _ _ _ _ _, bq⟩

end Go.Proofs.Ytmhnpogjkbmmnaa.PFnFrameBounds
