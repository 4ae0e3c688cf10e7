-- Written by a program of this session: wip/mkprint.py over the kit's print, with contracts proved by hand (wip/given.py)
-- shortened
-- told short
-- squeezed
import Derived.Test.YtjdgebfihbhbaaaPFnExactFrameBoundsx0
import Derived.Test.YtjdgebfihbhbaaaPFnExactFrameBoundsx5
import Derived.Test.YtjdgebfihbhbaaaPFnExactFrameBoundsx7
import Derived.Test.YtjdgebfihbhbaaaPFnExactFrameBoundsx8
namespace Go.Proofs.Ytjdgebfihbhbaaa.PFnExactFrameBounds
open Go.RowKit Go.Proofs.YtjdgebfihbhbaaaW.PrintWords Go.Proofs.YtjdgebfihbhbaaaW.PrintLast Go.Proofs.YtjdgebfihbhbaaaW.PrintMore
open Go.Proofs.YtjdgebfihbhbaaaW.PrintWords.Kd renaming R_alloc → rA, R_drewN → rN, R_drew → rD, R_far → rF, R_mono → rM, R_base → rB, R_new' → rW, R_below → rL, R_lt → rT, R_lower → rG, R_elder' → rH, R_reads' → rR, C_below → cB
open Go.Proofs.YtjdgebfihbhbaaaW.PrintMore.Kd renaming R_told → rO, R_old → rE
open Go.Proofs.YtjdgebfihbhbaaaW.PrintWords renaming below_drew1 → bD, below_step → bT, below_size → bZ, blk_drewN → kN, blk_drew → kD, blk_alloc → kA, blk_below → kB, blk_cell → kC, blk_frozen → kF
open Go.Proofs.YtjdgebfihbhbaaaW.PrintWords.Aside0 renaming mk → aM
attribute [local go_sem] max2_int min2_int max_two min_two max_three min_three max_four min_four   -- for this text's walks alone
set_option linter.unusedVariables false
set_option linter.unusedSimpArgs false

/-! ### impl_FrameBounds: function 10 -/
def impl_FrameBounds.j0 : Nat → List Int → List Int → List Int → Int → Int → Option (Int × List Int)
 | 0, _, _, _, _, _ => none
 | k + 1, x1, x2, x3, x10, x310000 => if x10 = 0 then ((impl_ofBounds.f).bind fun _ => ((impl_undo_gather.f k impl_ofBounds_1.f impl_partBounds.f x2).bind fun t342 => ((impl_undo_gather.f k impl_ofBounds_1.f impl_partBounds.f x1).bind fun t345 => (if 0 ≤ (wrap64 (Int.tdiv x310000 2)) then (if (wrap64 (Int.tdiv x310000 2)) ≤ (t345.length : Int) then (if (wrap64 (Int.tdiv x310000 2)) ≤ (t342.length : Int) then ((impl_seam.f k (t345.drop ((wrap64 (Int.tdiv x310000 2)) : Int).toNat) (t342.take ((wrap64 (Int.tdiv x310000 2)) : Int).toNat) (impl_ofBounds_1.f x310000)).bind fun bt358 => ((impl_undo_gather.f k impl_ofBounds_1.f impl_partBounds.f x3).bind fun t369 => (if (wrap64 (Int.tdiv x310000 2)) ≤ (t369.length : Int) then ((impl_seam.f k (t342.drop ((wrap64 (Int.tdiv x310000 2)) : Int).toNat) (t369.take ((wrap64 (Int.tdiv x310000 2)) : Int).toNat) (impl_ofBounds_1.f x310000)).bind fun bt377 => ((slices_Concat_int64_int64.f k (([bt358.2, bt377.1] : List (List Int)))).bind fun t386 => (some (0, t386)))) else (none)))) else (none)) else (none)) else (none))))) else (some (x10, ([] : List Int)))
def impl_FrameBounds.f (k : Nat) (a0 : Int) (l1 : List Int) (l2 : List Int) (l3 : List Int) : Option (Int × List Int) := (impl_SizeFault.f a0).bind fun t311 => ((impl_FrameBounds_1.f l1 a0).bind fun t312 => (if t312 = true then ((impl_codeIf.f true 2).bind fun t313 => ((impl_boundsFault.f k l1).bind fun t314 => ((impl_boundsFault.f k l2).bind fun t315 => ((impl_boundsFault.f k l3).bind fun t316 => ((impl_first.f k (([t311, t313, t314, t315, t316] : List Int))).bind fun t320 => (impl_FrameBounds.j0 k l1 l2 l3 t320 a0)))))) else ((impl_FrameBounds_1.f l2 a0).bind fun t321 => (if t321 = true then ((impl_codeIf.f true 2).bind fun t322 => ((impl_boundsFault.f k l1).bind fun t323 => ((impl_boundsFault.f k l2).bind fun t324 => ((impl_boundsFault.f k l3).bind fun t325 => ((impl_first.f k (([t311, t322, t323, t324, t325] : List Int))).bind fun t329 => (impl_FrameBounds.j0 k l1 l2 l3 t329 a0)))))) else ((impl_FrameBounds_1.f l3 a0).bind fun t330 => ((impl_codeIf.f t330 2).bind fun t331 => ((impl_boundsFault.f k l1).bind fun t332 => ((impl_boundsFault.f k l2).bind fun t333 => ((impl_boundsFault.f k l3).bind fun t334 => ((impl_first.f k (([t311, t331, t332, t333, t334] : List Int))).bind fun t338 => (impl_FrameBounds.j0 k l1 l2 l3 t338 a0)))))))))))
theorem impl_FrameBounds.mono_l : ∀ k, (∀ y0 y1 y2 y3 y4, LeO (impl_FrameBounds.j0 k y0 y1 y2 y3 y4) (impl_FrameBounds.j0 (k + 1) y0 y1 y2 y3 y4))
 | 0 => fun _ _ _ _ _ r h => by simp [impl_FrameBounds.j0] at h
 | k + 1 => by
  have ih0 := impl_FrameBounds.mono_l k
  ·intro y0 y1 y2 y3 y4
   unfold impl_FrameBounds.j0
   repeat' first
   | (with_reducible exact ih0 _ _ _ _ _)
   | (with_reducible exact impl_boundsFault.mono _ _)
   | (with_reducible exact impl_first.mono _ _)
   | (with_reducible exact impl_seam.mono _ _ _ _)
   | (with_reducible exact impl_undo_gather.mono _ _ _ _)
   | (with_reducible exact slices_Concat_int64_int64.mono _ _)
   | (with_reducible exact LeO.refl _)
   | (with_reducible exact LeO.none _)
   | (with_reducible refine LeO.ite ?_ ?_)
   | (with_reducible refine LeO.bind ?_ (fun _ => ?_))
   | exact ih0 _ _ _ _ _
   | exact impl_boundsFault.mono _ _
   | exact impl_first.mono _ _
   | exact impl_seam.mono _ _ _ _
   | exact impl_undo_gather.mono _ _ _ _
   | exact slices_Concat_int64_int64.mono _ _
   | exact LeO.none _
   | refine LeO.ite ?_ ?_
   | refine LeO.bind ?_ (fun _ => ?_)
theorem impl_FrameBounds.mono : ∀ a0 a1 a2 a3 k, LeO (impl_FrameBounds.f k a0 a1 a2 a3) (impl_FrameBounds.f (k + 1) a0 a1 a2 a3) := by
 intro a0 a1 a2 a3 k
 have ih0 := impl_FrameBounds.mono_l k
 unfold impl_FrameBounds.f
 repeat' first
   | (with_reducible exact ih0 _ _ _ _ _)
   | (with_reducible exact impl_boundsFault.mono _ _)
   | (with_reducible exact impl_first.mono _ _)
   | (with_reducible exact impl_seam.mono _ _ _ _)
   | (with_reducible exact impl_undo_gather.mono _ _ _ _)
   | (with_reducible exact slices_Concat_int64_int64.mono _ _)
   | (with_reducible exact LeO.refl _)
   | (with_reducible exact LeO.none _)
   | (with_reducible refine LeO.ite ?_ ?_)
   | (with_reducible refine LeO.bind ?_ (fun _ => ?_))
   | exact ih0 _ _ _ _ _
   | exact impl_boundsFault.mono _ _
   | exact impl_first.mono _ _
   | exact impl_seam.mono _ _ _ _
   | exact impl_undo_gather.mono _ _ _ _
   | exact slices_Concat_int64_int64.mono _ _
   | exact LeO.none _
   | refine LeO.ite ?_ ?_
   | refine LeO.bind ?_ (fun _ => ?_)
def impl_FrameBounds.T8 : Bool × List (List Nat × List Nat) := (true, [([], []), ([], []), ([0, 1], [0, 1]), ([], []), ([2, 3], [2, 3]), ([], []), ([], []), ([5, 6], [5, 6]), ([], []), ([4, 7, 8, 2], [4, 7, 8]), ([9], [9]), ([10], [10]), ([10], [10]), ([11, 9, 0, 1, 2, 3, 4, 5, 6, 7, 8, 9, 10, 11], [11]), ([12, 13, 0, 1, 2, 3, 4, 5, 6, 7, 8, 9, 10, 11, 12, 13], [12])])
def impl_FrameBounds.B8 : List Nat := [0, 0, 3, 0, 15, 0, 0, 96, 0, 511, 1023, 2047, 2047, 4095, 16383]
theorem impl_FrameBounds.tab8 : rtab .any (opsOf Try.f10 8) = impl_FrameBounds.T8 := by kernel_rfl
theorem impl_FrameBounds.bits8 : waitsOk impl_FrameBounds.T8.2 impl_FrameBounds.B8 = true := by kernel_rfl
def impl_FrameBounds.T9 : Bool × List (List Nat × List Nat) := (true, [([], []), ([], []), ([0, 1], [0, 1]), ([], []), ([], []), ([3, 4], [3, 4]), ([], []), ([5, 6], [5, 6]), ([], []), ([2, 7, 8, 5], [2, 7, 8]), ([9], [9]), ([10], [10]), ([10], [10]), ([11, 9, 0, 1, 2, 3, 4, 5, 6, 7, 8, 9, 10, 11], [11]), ([12, 13, 0, 1, 2, 3, 4, 5, 6, 7, 8, 9, 10, 11, 12, 13], [12])])
def impl_FrameBounds.B9 : List Nat := [0, 0, 3, 0, 0, 24, 0, 120, 0, 511, 1023, 2047, 2047, 4095, 16383]
theorem impl_FrameBounds.tab9 : rtab .any (opsOf Try.f10 9) = impl_FrameBounds.T9 := by kernel_rfl
theorem impl_FrameBounds.bits9 : waitsOk impl_FrameBounds.T9.2 impl_FrameBounds.B9 = true := by kernel_rfl
set_option maxHeartbeats 8000000 in
set_option maxRecDepth 100000 in
theorem impl_FrameBounds.calls (k : Nat) (a0 : Int) (A1 : Option Addr) (c1 : Nat) (l1 : List Int) (A2 : Option Addr) (c2 : Nat) (l2 : List Int) (A3 : Option Addr) (c3 : Nat) (l3 : List Int) (r1 : Int) (r2 : List Int) (w : World) (hr1 : Kd.C (Kd.int .i64) w A1 l1.length l1) (hc1 : l1.length ≤ c1) (hr2 : Kd.C (Kd.int .i64) w A2 l2.length l2) (hc2 : l2.length ≤ c2) (hr3 : Kd.C (Kd.int .i64) w A3 l3.length l3) (hc3 : l3.length ≤ c3) (h : impl_FrameBounds.f k a0 l1 l2 l3 = some (r1, r2)) :
  Calls Try.prog 10 #[.int .i64 a0, .slice A1 l1.length c1, .slice A2 l2.length c2, .slice A3 l3.length c3] w fun e w' => ∃ v1_ : Value, e = .returned (.agg #[.int .i64 r1, v1_]) ∧ Kd.R (Kd.int .i64) 2 w' w.heap.size (fun _ => True) v1_ r2 ∧ Below w.heap.size w w' := by
 have hu24 := Try.underlying24
 have hu87 := Try.underlying87
 have HR1 := aM hr1
 have HC1 := aM hc1
 clear hr1 hc1
 have HR2 := aM hr2
 have HC2 := aM hc2
 clear hr2 hc2
 have HR3 := aM hr3
 have HC3 := aM hc3
 clear hr3 hc3
 have HB := aM (Below.refl w.heap.size w)
 have H : ((impl_SizeFault.f a0).bind fun t311 => ((impl_FrameBounds_1.f l1 a0).bind fun t312 => (if t312 = true then ((impl_codeIf.f true 2).bind fun t313 => ((impl_boundsFault.f k l1).bind fun t314 => ((impl_boundsFault.f k l2).bind fun t315 => ((impl_boundsFault.f k l3).bind fun t316 => ((impl_first.f k (([t311, t313, t314, t315, t316] : List Int))).bind fun t320 => (impl_FrameBounds.j0 k l1 l2 l3 t320 a0)))))) else ((impl_FrameBounds_1.f l2 a0).bind fun t321 => (if t321 = true then ((impl_codeIf.f true 2).bind fun t322 => ((impl_boundsFault.f k l1).bind fun t323 => ((impl_boundsFault.f k l2).bind fun t324 => ((impl_boundsFault.f k l3).bind fun t325 => ((impl_first.f k (([t311, t322, t323, t324, t325] : List Int))).bind fun t329 => (impl_FrameBounds.j0 k l1 l2 l3 t329 a0)))))) else ((impl_FrameBounds_1.f l3 a0).bind fun t330 => ((impl_codeIf.f t330 2).bind fun t331 => ((impl_boundsFault.f k l1).bind fun t332 => ((impl_boundsFault.f k l2).bind fun t333 => ((impl_boundsFault.f k l3).bind fun t334 => ((impl_first.f k (([t311, t331, t332, t333, t334] : List Int))).bind fun t338 => (impl_FrameBounds.j0 k l1 l2 l3 t338 a0)))))))))))) = some (r1, r2) := h
 clear h
 have HC5 := aM H
 clear H
 go_enter Try.func10, Try.ntmps10
 go_upto_region 2 with (first | ((with_reducible refine gate_dst (N := 4) rfl ?_); refine box_event ?hg (N := 4) ?hd (cs := #[.int .i64 a0]) (t := 2) ?hr ?_; (case hd => rfl); (case hg => rfl); (case hr => first | (go_simp; done) | (go_simp; rfl)); intro gb309 hg w6 hbox hb; have n0_ := aM (bT bq hb); have n1_ := aM (hbox); have n2_ := aM ((by rw [hg]; exact (bZ bq) : w.heap.size ≤ gb309)); have n3_ := aM ((by rw [hg]; exact (bZ bq) : w.heap.size ≤ gb309)); clear HB; have HB := n0_; have BK309 := n1_; have GW309 := n2_; have GE309 := n3_; clear n0_ n1_ n2_ n3_ hb hbox hg) | ((with_reducible refine gate_dst (N := 8) rfl ?_); refine box_event ?hg (N := 8) ?hd (cs := #[.int .i64 0, .slice none 0 0]) (t := 24) ?hr ?_; (case hd => rfl); (case hg => rfl); (case hr => first | (go_simp; done) | (go_simp; rfl)); intro gb310 hg w7 hbox hb; have n0_ := aM (kB (g := gb309) (o := .cells #[.int .i64 a0] 2 (0, 0)) (kq BK309.out) hb); have n1_ := aM (bT bq hb); have n2_ := aM (hbox); have n3_ := aM ((by rw [hg]; exact (bZ bq) : w.heap.size ≤ gb310)); have n4_ := aM ((by rw [hg]; exact (bZ bq) : w.heap.size ≤ gb310)); have n5_ := aM ((by rw [hg]; exact Nat.ne_of_lt (blk_lt (g := gb309) (o := .cells #[.int .i64 a0] 2 (0, 0)) (kq BK309.out)) : gb309 ≠ gb310)); have n6_ := aM ((by rw [hg]; exact Nat.ne_of_gt (blk_lt (g := gb309) (o := .cells #[.int .i64 a0] 2 (0, 0)) (kq BK309.out)) : gb310 ≠ gb309)); clear BK309 HB; have BK309 := n0_; have HB := n1_; have BK310 := n2_; have GW310 := n3_; have GE310 := n4_; have NB309_310 := n5_; have NB310_309 := n6_; clear n0_ n1_ n2_ n3_ n4_ n5_ n6_ hb hbox hg))
 (try simp only [Act.put, pa, pb, pc])
 go_cut [10] (fun v10 wc => ∃ (kq : Nat) (x10_4 : Int), v10 = .int .i64 x10_4 ∧ Aside0 (impl_FrameBounds.j0 kq l1 l2 l3 x10_4 a0 = some (r1, r2)) ∧ Aside0 (kq ≤ k) ∧ Aside0 (wc.heap[gb309]? = some (.cells #[.int .i64 a0] 2 (0, 0))) ∧ Aside0 (wc.heap[gb310]? = some (.cells #[.int .i64 0, (.slice none 0 0)] 24 (0, 0))) ∧ Aside0 (Below w.heap.size w wc))
 case first =>
  have H := HC5.out
  clear HC5
  replace H := Option.bind_eq_some_iff.mp H
  obtain ⟨t311, A80, H⟩ := H
  replace H : ((impl_FrameBounds_1.f l1 a0).bind fun t312 => (if t312 = true then ((impl_codeIf.f true 2).bind fun t313 => ((impl_boundsFault.f k l1).bind fun t314 => ((impl_boundsFault.f k l2).bind fun t315 => ((impl_boundsFault.f k l3).bind fun t316 => ((impl_first.f k (([t311, t313, t314, t315, t316] : List Int))).bind fun t320 => (impl_FrameBounds.j0 k l1 l2 l3 t320 a0)))))) else ((impl_FrameBounds_1.f l2 a0).bind fun t321 => (if t321 = true then ((impl_codeIf.f true 2).bind fun t322 => ((impl_boundsFault.f k l1).bind fun t323 => ((impl_boundsFault.f k l2).bind fun t324 => ((impl_boundsFault.f k l3).bind fun t325 => ((impl_first.f k (([t311, t322, t323, t324, t325] : List Int))).bind fun t329 => (impl_FrameBounds.j0 k l1 l2 l3 t329 a0)))))) else ((impl_FrameBounds_1.f l3 a0).bind fun t330 => ((impl_codeIf.f t330 2).bind fun t331 => ((impl_boundsFault.f k l1).bind fun t332 => ((impl_boundsFault.f k l2).bind fun t333 => ((impl_boundsFault.f k l3).bind fun t334 => ((impl_first.f k (([t311, t331, t332, t333, t334] : List Int))).bind fun t338 => (impl_FrameBounds.j0 k l1 l2 l3 t338 a0))))))))))) = some (r1, r2) := H
  have A8 := aM A80
  clear A80
  replace H := Option.bind_eq_some_iff.mp H
  obtain ⟨t312, A90, H⟩ := H
  replace H : (if t312 = true then ((impl_codeIf.f true 2).bind fun t313 => ((impl_boundsFault.f k l1).bind fun t314 => ((impl_boundsFault.f k l2).bind fun t315 => ((impl_boundsFault.f k l3).bind fun t316 => ((impl_first.f k (([t311, t313, t314, t315, t316] : List Int))).bind fun t320 => (impl_FrameBounds.j0 k l1 l2 l3 t320 a0)))))) else ((impl_FrameBounds_1.f l2 a0).bind fun t321 => (if t321 = true then ((impl_codeIf.f true 2).bind fun t322 => ((impl_boundsFault.f k l1).bind fun t323 => ((impl_boundsFault.f k l2).bind fun t324 => ((impl_boundsFault.f k l3).bind fun t325 => ((impl_first.f k (([t311, t322, t323, t324, t325] : List Int))).bind fun t329 => (impl_FrameBounds.j0 k l1 l2 l3 t329 a0)))))) else ((impl_FrameBounds_1.f l3 a0).bind fun t330 => ((impl_codeIf.f t330 2).bind fun t331 => ((impl_boundsFault.f k l1).bind fun t332 => ((impl_boundsFault.f k l2).bind fun t333 => ((impl_boundsFault.f k l3).bind fun t334 => ((impl_first.f k (([t311, t331, t332, t333, t334] : List Int))).bind fun t338 => (impl_FrameBounds.j0 k l1 l2 l3 t338 a0)))))))))) = some (r1, r2) := H
  have A9 := aM A90
  clear A90
  by_cases c10 : t312 = true
  ·subst c10
   have H1 : ((impl_codeIf.f true 2).bind fun t313 => ((impl_boundsFault.f k l1).bind fun t314 => ((impl_boundsFault.f k l2).bind fun t315 => ((impl_boundsFault.f k l3).bind fun t316 => ((impl_first.f k (([t311, t313, t314, t315, t316] : List Int))).bind fun t320 => (impl_FrameBounds.j0 k l1 l2 l3 t320 a0)))))) = some (r1, r2) := by rw [if_pos rfl] at H; exact H
   clear H
   have H := H1
   clear H1
   replace H := Option.bind_eq_some_iff.mp H
   obtain ⟨t313, A110, H⟩ := H
   replace H : ((impl_boundsFault.f k l1).bind fun t314 => ((impl_boundsFault.f k l2).bind fun t315 => ((impl_boundsFault.f k l3).bind fun t316 => ((impl_first.f k (([t311, t313, t314, t315, t316] : List Int))).bind fun t320 => (impl_FrameBounds.j0 k l1 l2 l3 t320 a0))))) = some (r1, r2) := H
   have A11 := aM A110
   clear A110
   replace H := Option.bind_eq_some_iff.mp H
   obtain ⟨t314, A120, H⟩ := H
   replace H : ((impl_boundsFault.f k l2).bind fun t315 => ((impl_boundsFault.f k l3).bind fun t316 => ((impl_first.f k (([t311, t313, t314, t315, t316] : List Int))).bind fun t320 => (impl_FrameBounds.j0 k l1 l2 l3 t320 a0)))) = some (r1, r2) := H
   have A12 := aM A120
   clear A120
   replace H := Option.bind_eq_some_iff.mp H
   obtain ⟨t315, A130, H⟩ := H
   replace H : ((impl_boundsFault.f k l3).bind fun t316 => ((impl_first.f k (([t311, t313, t314, t315, t316] : List Int))).bind fun t320 => (impl_FrameBounds.j0 k l1 l2 l3 t320 a0))) = some (r1, r2) := H
   have A13 := aM A130
   clear A130
   replace H := Option.bind_eq_some_iff.mp H
   obtain ⟨t316, A140, H⟩ := H
   replace H : ((impl_first.f k (([t311, t313, t314, t315, t316] : List Int))).bind fun t320 => (impl_FrameBounds.j0 k l1 l2 l3 t320 a0)) = some (r1, r2) := H
   have A14 := aM A140
   clear A140
   obtain ⟨y317, hy317⟩ : ∃ y_ : List Int, y_ = (([t311, t313, t314, t315, t316] : List Int)) := ⟨_, rfl⟩
   replace H : ((impl_first.f k y317).bind fun t320 => (impl_FrameBounds.j0 k l1 l2 l3 t320 a0)) = some (r1, r2) := by first | (rw [hy317]; with_reducible exact H) | (have H2_ := (Option.bind_some _ _).symm.trans H; rw [hy317]; with_reducible exact H2_) | (have H2_ := (Option.bind_some _ _).symm.trans H; with_reducible exact H2_) | with_reducible exact H | (rw [hy317]; exact H) | exact H
   have Ny317 := aM hy317
   clear hy317
   replace H := Option.bind_eq_some_iff.mp H
   obtain ⟨t320, A150, H⟩ := H
   replace H : (impl_FrameBounds.j0 k l1 l2 l3 t320 a0) = some (r1, r2) := H
   have A15 := aM A150
   clear A150
   have H' := aM H
   clear H
   have hnb16 := NB309_310.out
   have hnc16 := NB310_309.out
   have hcz17_0 : w7.cell? ⟨gb309, 0, none⟩ = some (.int .i64 a0) := (kC BK309.out 0).trans rfl
   have hfz17_0 := kF BK309.out 0
   go_wp2_with (first | ((with_reducible refine gate_callee (f := 47) rfl ?_); refine goesL_ (some 21) rfl rfl Try.func47 (by kernel_rfl) rfl #[.int .i64 a0] rfl mq ?_; (with_reducible refine (impl_SizeFault.calls a0 t311 _ A8.out).mono ?_); rintro e w' ⟨rfl, ⟨nd, rfl⟩⟩; refine ⟨_, rfl, ?_⟩) | (go_at_call 45; (with_reducible refine (impl_FrameBounds_1.calls _ _ l1 a0 true _ ?side1 ?side2 A9.out).mono ?_); (case side1 => exact cq (cB HR1.out bq)); (case side2 => exact HC1.out); rintro e w' ⟨rfl, ⟨nd, rfl⟩⟩) | ((with_reducible refine gate_callee (f := 48) rfl ?_); refine goesL_ (some 35) rfl rfl Try.func48 (by kernel_rfl) rfl #[.bool true, .int .i64 2] rfl mq ?_; (with_reducible refine (impl_codeIf.calls true 2 t313 _ A11.out).mono ?_); rintro e w' ⟨rfl, ⟨nd, rfl⟩⟩; refine ⟨_, rfl, ?_⟩) | ((with_reducible refine gate_callee (f := 49) rfl ?_); refine goesL_ (some 37) rfl rfl Try.func49 (by kernel_rfl) rfl #[.slice A1 l1.length c1] rfl mq ?_; (with_reducible refine (impl_boundsFault.calls k _ _ l1 t314 _ ?side1 ?side2 A12.out).mono ?_); (case side1 => exact cq (cB HR1.out bq)); (case side2 => exact HC1.out); rintro e w18 ⟨rfl, hb⟩; refine ⟨_, rfl, ?_⟩; have n0_ := aM (kB (g := gb309) (o := .cells #[.int .i64 a0] 2 (0, 0)) (kq BK309.out) hb); have n1_ := aM (kB (g := gb310) (o := .cells #[.int .i64 0, .slice none 0 0] 24 (0, 0)) (kq BK310.out) hb); have n2_ := aM (bT bq hb); clear BK309 BK310 HB; have BK309 := n0_; have BK310 := n1_; have HB := n2_; clear n0_ n1_ n2_; (try clear hb)) | ((with_reducible refine gate_callee (f := 49) rfl ?_); refine goesL_ (some 39) rfl rfl Try.func49 (by kernel_rfl) rfl #[.slice A2 l2.length c2] rfl mq ?_; (with_reducible refine (impl_boundsFault.calls k _ _ l2 t315 _ ?side1 ?side2 A13.out).mono ?_); (case side1 => exact cq (cB HR2.out HB.out)); (case side2 => exact HC2.out); rintro e w19 ⟨rfl, hb⟩; refine ⟨_, rfl, ?_⟩; have n0_ := aM (kB (g := gb309) (o := .cells #[.int .i64 a0] 2 (0, 0)) (kq BK309.out) hb); have n1_ := aM (kB (g := gb310) (o := .cells #[.int .i64 0, .slice none 0 0] 24 (0, 0)) (kq BK310.out) hb); have n2_ := aM (bT bq hb); clear BK309 BK310 HB; have BK309 := n0_; have BK310 := n1_; have HB := n2_; clear n0_ n1_ n2_; (try clear hb)) | ((with_reducible refine gate_callee (f := 49) rfl ?_); refine goesL_ (some 41) rfl rfl Try.func49 (by kernel_rfl) rfl #[.slice A3 l3.length c3] rfl mq ?_; (with_reducible refine (impl_boundsFault.calls k _ _ l3 t316 _ ?side1 ?side2 A14.out).mono ?_); (case side1 => exact cq (cB HR3.out HB.out)); (case side2 => exact HC3.out); rintro e w20 ⟨rfl, hb⟩; refine ⟨_, rfl, ?_⟩; have n0_ := aM (kB (g := gb309) (o := .cells #[.int .i64 a0] 2 (0, 0)) (kq BK309.out) hb); have n1_ := aM (kB (g := gb310) (o := .cells #[.int .i64 0, .slice none 0 0] 24 (0, 0)) (kq BK310.out) hb); have n2_ := aM (bT bq hb); clear BK309 BK310 HB; have BK309 := n0_; have BK310 := n1_; have HB := n2_; clear n0_ n1_ n2_; (try clear hb)) | ((with_reducible refine gate_dst (N := 42) rfl ?_); refine Kd.R_lit (Kd.int .i64) _ 2 ?hg (N := 42) ?hd (xs := ([t311, t313, t314, t315, t316] : List Int)) (inner := [.int .i64 t311, .int .i64 t313, .int .i64 t314, .int .i64 t315, .int .i64 t316]) (ok := fun _ => True) (okp := fun _ => True) ?hr ?hp (fun _ hk => hk) trivial (Below.refl _ _) (Nat.le_refl _) (by simp) ?_; (case hd => rfl); (case hg => rfl); (case hr => first | (go_simp; done) | (go_simp; rfl)); (case hp => exact (Reps.one (show Kd.M (Kd.int .i64) _ _ _ t311 [.int .i64 t311] from rfl) (Reps.one (show Kd.M (Kd.int .i64) _ _ _ t313 [.int .i64 t313] from rfl) (Reps.one (show Kd.M (Kd.int .i64) _ _ _ t314 [.int .i64 t314] from rfl) (Reps.one (show Kd.M (Kd.int .i64) _ _ _ t315 [.int .i64 t315] from rfl) (Reps.one (show Kd.M (Kd.int .i64) _ _ _ t316 [.int .i64 t316] from rfl) (Reps.none _ _))))))); intro v318 w21 ho22 hb hg_ hnew_; clear hg_ hnew_; (first | rw [← Ny317.out] at ho22 | (simp only [Int.reduceToNat] at ho22; rw [← Ny317.out] at ho22)); have n0_ := aM (rG (Kd.R_newB ho22 (g := gb309) (o := .cells #[.int .i64 a0] 2 (0, 0)) (kq BK309.out)) (bZ bq)); have n1_ := aM (kB (g := gb309) (o := .cells #[.int .i64 a0] 2 (0, 0)) (kq BK309.out) hb); have n2_ := aM (kB (g := gb310) (o := .cells #[.int .i64 0, .slice none 0 0] 24 (0, 0)) (kq BK310.out) hb); have n3_ := aM (bT bq hb); clear BK309 BK310 HB; have HO319 := n0_; have BK309 := n1_; have BK310 := n2_; have HB := n3_; clear n0_ n1_ n2_ n3_ hb ho22; obtain ⟨Ao23, co23, eo23⟩ := Kd.R_slice HO319.out; subst eo23) | ((with_reducible refine gate_callee (f := 46) rfl ?_); refine goesL_ (some 43) rfl rfl Try.func46 (by kernel_rfl) rfl #[.slice Ao23 y317.length co23] rfl mq ?_; (with_reducible refine (impl_first.calls k _ _ y317 t320 _ ?side1 ?side2 A15.out).mono ?_); (case side1 => exact cq (rR HO319.out).2.2); (case side2 => exact (rR HO319.out).2.1); rintro e w' ⟨rfl, ⟨nd, rfl⟩⟩; refine ⟨_, rfl, ?_⟩))
   go_meet
   case rel => exact ⟨_, (t320), (by first | rfl | (simp; done) | (simp [*]; done)), H', ⟨by first | omega | exact Nat.le_refl _⟩, ⟨by (with_reducible repeat (first | refine kN ?_ _ | refine kD ?_ | refine kA ?_ _)); exact BK309.out⟩, ⟨by (with_reducible repeat (first | refine kN ?_ _ | refine kD ?_ | refine kA ?_ _)); exact BK310.out⟩, ⟨bq⟩⟩
  ·replace c10 := Bool.eq_false_iff.mpr c10
   subst c10
   have H1 : ((impl_FrameBounds_1.f l2 a0).bind fun t321 => (if t321 = true then ((impl_codeIf.f true 2).bind fun t322 => ((impl_boundsFault.f k l1).bind fun t323 => ((impl_boundsFault.f k l2).bind fun t324 => ((impl_boundsFault.f k l3).bind fun t325 => ((impl_first.f k (([t311, t322, t323, t324, t325] : List Int))).bind fun t329 => (impl_FrameBounds.j0 k l1 l2 l3 t329 a0)))))) else ((impl_FrameBounds_1.f l3 a0).bind fun t330 => ((impl_codeIf.f t330 2).bind fun t331 => ((impl_boundsFault.f k l1).bind fun t332 => ((impl_boundsFault.f k l2).bind fun t333 => ((impl_boundsFault.f k l3).bind fun t334 => ((impl_first.f k (([t311, t331, t332, t333, t334] : List Int))).bind fun t338 => (impl_FrameBounds.j0 k l1 l2 l3 t338 a0))))))))) = some (r1, r2) := by rw [if_neg (show ¬ (false = true) by decide)] at H; exact H
   clear H
   have H := H1
   clear H1
   replace H := Option.bind_eq_some_iff.mp H
   obtain ⟨t321, A240, H⟩ := H
   replace H : (if t321 = true then ((impl_codeIf.f true 2).bind fun t322 => ((impl_boundsFault.f k l1).bind fun t323 => ((impl_boundsFault.f k l2).bind fun t324 => ((impl_boundsFault.f k l3).bind fun t325 => ((impl_first.f k (([t311, t322, t323, t324, t325] : List Int))).bind fun t329 => (impl_FrameBounds.j0 k l1 l2 l3 t329 a0)))))) else ((impl_FrameBounds_1.f l3 a0).bind fun t330 => ((impl_codeIf.f t330 2).bind fun t331 => ((impl_boundsFault.f k l1).bind fun t332 => ((impl_boundsFault.f k l2).bind fun t333 => ((impl_boundsFault.f k l3).bind fun t334 => ((impl_first.f k (([t311, t331, t332, t333, t334] : List Int))).bind fun t338 => (impl_FrameBounds.j0 k l1 l2 l3 t338 a0)))))))) = some (r1, r2) := H
   have A24 := aM A240
   clear A240
   by_cases c25 : t321 = true
   ·subst c25
    have H1 : ((impl_codeIf.f true 2).bind fun t322 => ((impl_boundsFault.f k l1).bind fun t323 => ((impl_boundsFault.f k l2).bind fun t324 => ((impl_boundsFault.f k l3).bind fun t325 => ((impl_first.f k (([t311, t322, t323, t324, t325] : List Int))).bind fun t329 => (impl_FrameBounds.j0 k l1 l2 l3 t329 a0)))))) = some (r1, r2) := by rw [if_pos rfl] at H; exact H
    clear H
    have H := H1
    clear H1
    replace H := Option.bind_eq_some_iff.mp H
    obtain ⟨t322, A260, H⟩ := H
    replace H : ((impl_boundsFault.f k l1).bind fun t323 => ((impl_boundsFault.f k l2).bind fun t324 => ((impl_boundsFault.f k l3).bind fun t325 => ((impl_first.f k (([t311, t322, t323, t324, t325] : List Int))).bind fun t329 => (impl_FrameBounds.j0 k l1 l2 l3 t329 a0))))) = some (r1, r2) := H
    have A26 := aM A260
    clear A260
    replace H := Option.bind_eq_some_iff.mp H
    obtain ⟨t323, A270, H⟩ := H
    replace H : ((impl_boundsFault.f k l2).bind fun t324 => ((impl_boundsFault.f k l3).bind fun t325 => ((impl_first.f k (([t311, t322, t323, t324, t325] : List Int))).bind fun t329 => (impl_FrameBounds.j0 k l1 l2 l3 t329 a0)))) = some (r1, r2) := H
    have A27 := aM A270
    clear A270
    replace H := Option.bind_eq_some_iff.mp H
    obtain ⟨t324, A280, H⟩ := H
    replace H : ((impl_boundsFault.f k l3).bind fun t325 => ((impl_first.f k (([t311, t322, t323, t324, t325] : List Int))).bind fun t329 => (impl_FrameBounds.j0 k l1 l2 l3 t329 a0))) = some (r1, r2) := H
    have A28 := aM A280
    clear A280
    replace H := Option.bind_eq_some_iff.mp H
    obtain ⟨t325, A290, H⟩ := H
    replace H : ((impl_first.f k (([t311, t322, t323, t324, t325] : List Int))).bind fun t329 => (impl_FrameBounds.j0 k l1 l2 l3 t329 a0)) = some (r1, r2) := H
    have A29 := aM A290
    clear A290
    obtain ⟨y326, hy326⟩ : ∃ y_ : List Int, y_ = (([t311, t322, t323, t324, t325] : List Int)) := ⟨_, rfl⟩
    replace H : ((impl_first.f k y326).bind fun t329 => (impl_FrameBounds.j0 k l1 l2 l3 t329 a0)) = some (r1, r2) := by first | (rw [hy326]; with_reducible exact H) | (have H2_ := (Option.bind_some _ _).symm.trans H; rw [hy326]; with_reducible exact H2_) | (have H2_ := (Option.bind_some _ _).symm.trans H; with_reducible exact H2_) | with_reducible exact H | (rw [hy326]; exact H) | exact H
    have Ny326 := aM hy326
    clear hy326
    replace H := Option.bind_eq_some_iff.mp H
    obtain ⟨t329, A300, H⟩ := H
    replace H : (impl_FrameBounds.j0 k l1 l2 l3 t329 a0) = some (r1, r2) := H
    have A30 := aM A300
    clear A300
    have H' := aM H
    clear H
    have hnb31 := NB309_310.out
    have hnc31 := NB310_309.out
    have hcz32_0 : w7.cell? ⟨gb309, 0, none⟩ = some (.int .i64 a0) := (kC BK309.out 0).trans rfl
    have hfz32_0 := kF BK309.out 0
    go_wp2_with (first | ((with_reducible refine gate_callee (f := 47) rfl ?_); refine goesL_ (some 21) rfl rfl Try.func47 (by kernel_rfl) rfl #[.int .i64 a0] rfl mq ?_; (with_reducible refine (impl_SizeFault.calls a0 t311 _ A8.out).mono ?_); rintro e w' ⟨rfl, ⟨nd, rfl⟩⟩; refine ⟨_, rfl, ?_⟩) | (go_at_call 45; (with_reducible refine (impl_FrameBounds_1.calls _ _ l1 a0 false _ ?side1 ?side2 A9.out).mono ?_); (case side1 => exact cq (cB HR1.out bq)); (case side2 => exact HC1.out); rintro e w' ⟨rfl, ⟨nd, rfl⟩⟩) | (go_at_call 45; (with_reducible refine (impl_FrameBounds_1.calls _ _ l2 a0 true _ ?side1 ?side2 A24.out).mono ?_); (case side1 => exact cq (cB HR2.out bq)); (case side2 => exact HC2.out); rintro e w' ⟨rfl, ⟨nd, rfl⟩⟩) | ((with_reducible refine gate_callee (f := 48) rfl ?_); refine goesL_ (some 35) rfl rfl Try.func48 (by kernel_rfl) rfl #[.bool true, .int .i64 2] rfl mq ?_; (with_reducible refine (impl_codeIf.calls true 2 t322 _ A26.out).mono ?_); rintro e w' ⟨rfl, ⟨nd, rfl⟩⟩; refine ⟨_, rfl, ?_⟩) | ((with_reducible refine gate_callee (f := 49) rfl ?_); refine goesL_ (some 37) rfl rfl Try.func49 (by kernel_rfl) rfl #[.slice A1 l1.length c1] rfl mq ?_; (with_reducible refine (impl_boundsFault.calls k _ _ l1 t323 _ ?side1 ?side2 A27.out).mono ?_); (case side1 => exact cq (cB HR1.out bq)); (case side2 => exact HC1.out); rintro e w33 ⟨rfl, hb⟩; refine ⟨_, rfl, ?_⟩; have n0_ := aM (kB (g := gb309) (o := .cells #[.int .i64 a0] 2 (0, 0)) (kq BK309.out) hb); have n1_ := aM (kB (g := gb310) (o := .cells #[.int .i64 0, .slice none 0 0] 24 (0, 0)) (kq BK310.out) hb); have n2_ := aM (bT bq hb); clear BK309 BK310 HB; have BK309 := n0_; have BK310 := n1_; have HB := n2_; clear n0_ n1_ n2_; (try clear hb)) | ((with_reducible refine gate_callee (f := 49) rfl ?_); refine goesL_ (some 39) rfl rfl Try.func49 (by kernel_rfl) rfl #[.slice A2 l2.length c2] rfl mq ?_; (with_reducible refine (impl_boundsFault.calls k _ _ l2 t324 _ ?side1 ?side2 A28.out).mono ?_); (case side1 => exact cq (cB HR2.out HB.out)); (case side2 => exact HC2.out); rintro e w34 ⟨rfl, hb⟩; refine ⟨_, rfl, ?_⟩; have n0_ := aM (kB (g := gb309) (o := .cells #[.int .i64 a0] 2 (0, 0)) (kq BK309.out) hb); have n1_ := aM (kB (g := gb310) (o := .cells #[.int .i64 0, .slice none 0 0] 24 (0, 0)) (kq BK310.out) hb); have n2_ := aM (bT bq hb); clear BK309 BK310 HB; have BK309 := n0_; have BK310 := n1_; have HB := n2_; clear n0_ n1_ n2_; (try clear hb)) | ((with_reducible refine gate_callee (f := 49) rfl ?_); refine goesL_ (some 41) rfl rfl Try.func49 (by kernel_rfl) rfl #[.slice A3 l3.length c3] rfl mq ?_; (with_reducible refine (impl_boundsFault.calls k _ _ l3 t325 _ ?side1 ?side2 A29.out).mono ?_); (case side1 => exact cq (cB HR3.out HB.out)); (case side2 => exact HC3.out); rintro e w35 ⟨rfl, hb⟩; refine ⟨_, rfl, ?_⟩; have n0_ := aM (kB (g := gb309) (o := .cells #[.int .i64 a0] 2 (0, 0)) (kq BK309.out) hb); have n1_ := aM (kB (g := gb310) (o := .cells #[.int .i64 0, .slice none 0 0] 24 (0, 0)) (kq BK310.out) hb); have n2_ := aM (bT bq hb); clear BK309 BK310 HB; have BK309 := n0_; have BK310 := n1_; have HB := n2_; clear n0_ n1_ n2_; (try clear hb)) | ((with_reducible refine gate_dst (N := 42) rfl ?_); refine Kd.R_lit (Kd.int .i64) _ 2 ?hg (N := 42) ?hd (xs := ([t311, t322, t323, t324, t325] : List Int)) (inner := [.int .i64 t311, .int .i64 t322, .int .i64 t323, .int .i64 t324, .int .i64 t325]) (ok := fun _ => True) (okp := fun _ => True) ?hr ?hp (fun _ hk => hk) trivial (Below.refl _ _) (Nat.le_refl _) (by simp) ?_; (case hd => rfl); (case hg => rfl); (case hr => first | (go_simp; done) | (go_simp; rfl)); (case hp => exact (Reps.one (show Kd.M (Kd.int .i64) _ _ _ t311 [.int .i64 t311] from rfl) (Reps.one (show Kd.M (Kd.int .i64) _ _ _ t322 [.int .i64 t322] from rfl) (Reps.one (show Kd.M (Kd.int .i64) _ _ _ t323 [.int .i64 t323] from rfl) (Reps.one (show Kd.M (Kd.int .i64) _ _ _ t324 [.int .i64 t324] from rfl) (Reps.one (show Kd.M (Kd.int .i64) _ _ _ t325 [.int .i64 t325] from rfl) (Reps.none _ _))))))); intro v327 w36 ho37 hb hg_ hnew_; clear hg_ hnew_; (first | rw [← Ny326.out] at ho37 | (simp only [Int.reduceToNat] at ho37; rw [← Ny326.out] at ho37)); have n0_ := aM (rG (Kd.R_newB ho37 (g := gb309) (o := .cells #[.int .i64 a0] 2 (0, 0)) (kq BK309.out)) (bZ bq)); have n1_ := aM (kB (g := gb309) (o := .cells #[.int .i64 a0] 2 (0, 0)) (kq BK309.out) hb); have n2_ := aM (kB (g := gb310) (o := .cells #[.int .i64 0, .slice none 0 0] 24 (0, 0)) (kq BK310.out) hb); have n3_ := aM (bT bq hb); clear BK309 BK310 HB; have HO328 := n0_; have BK309 := n1_; have BK310 := n2_; have HB := n3_; clear n0_ n1_ n2_ n3_ hb ho37; obtain ⟨Ao38, co38, eo38⟩ := Kd.R_slice HO328.out; subst eo38) | ((with_reducible refine gate_callee (f := 46) rfl ?_); refine goesL_ (some 43) rfl rfl Try.func46 (by kernel_rfl) rfl #[.slice Ao38 y326.length co38] rfl mq ?_; (with_reducible refine (impl_first.calls k _ _ y326 t329 _ ?side1 ?side2 A30.out).mono ?_); (case side1 => exact cq (rR HO328.out).2.2); (case side2 => exact (rR HO328.out).2.1); rintro e w' ⟨rfl, ⟨nd, rfl⟩⟩; refine ⟨_, rfl, ?_⟩))
    go_meet
    case rel => exact ⟨_, (t329), (by first | rfl | (simp; done) | (simp [*]; done)), H', ⟨by first | omega | exact Nat.le_refl _⟩, ⟨by (with_reducible repeat (first | refine kN ?_ _ | refine kD ?_ | refine kA ?_ _)); exact BK309.out⟩, ⟨by (with_reducible repeat (first | refine kN ?_ _ | refine kD ?_ | refine kA ?_ _)); exact BK310.out⟩, ⟨bq⟩⟩
   ·replace c25 := Bool.eq_false_iff.mpr c25
    subst c25
    have H1 : ((impl_FrameBounds_1.f l3 a0).bind fun t330 => ((impl_codeIf.f t330 2).bind fun t331 => ((impl_boundsFault.f k l1).bind fun t332 => ((impl_boundsFault.f k l2).bind fun t333 => ((impl_boundsFault.f k l3).bind fun t334 => ((impl_first.f k (([t311, t331, t332, t333, t334] : List Int))).bind fun t338 => (impl_FrameBounds.j0 k l1 l2 l3 t338 a0))))))) = some (r1, r2) := by rw [if_neg (show ¬ (false = true) by decide)] at H; exact H
    clear H
    have H := H1
    clear H1
    replace H := Option.bind_eq_some_iff.mp H
    obtain ⟨t330, A390, H⟩ := H
    replace H : ((impl_codeIf.f t330 2).bind fun t331 => ((impl_boundsFault.f k l1).bind fun t332 => ((impl_boundsFault.f k l2).bind fun t333 => ((impl_boundsFault.f k l3).bind fun t334 => ((impl_first.f k (([t311, t331, t332, t333, t334] : List Int))).bind fun t338 => (impl_FrameBounds.j0 k l1 l2 l3 t338 a0)))))) = some (r1, r2) := H
    have A39 := aM A390
    clear A390
    replace H := Option.bind_eq_some_iff.mp H
    obtain ⟨t331, A400, H⟩ := H
    replace H : ((impl_boundsFault.f k l1).bind fun t332 => ((impl_boundsFault.f k l2).bind fun t333 => ((impl_boundsFault.f k l3).bind fun t334 => ((impl_first.f k (([t311, t331, t332, t333, t334] : List Int))).bind fun t338 => (impl_FrameBounds.j0 k l1 l2 l3 t338 a0))))) = some (r1, r2) := H
    have A40 := aM A400
    clear A400
    replace H := Option.bind_eq_some_iff.mp H
    obtain ⟨t332, A410, H⟩ := H
    replace H : ((impl_boundsFault.f k l2).bind fun t333 => ((impl_boundsFault.f k l3).bind fun t334 => ((impl_first.f k (([t311, t331, t332, t333, t334] : List Int))).bind fun t338 => (impl_FrameBounds.j0 k l1 l2 l3 t338 a0)))) = some (r1, r2) := H
    have A41 := aM A410
    clear A410
    replace H := Option.bind_eq_some_iff.mp H
    obtain ⟨t333, A420, H⟩ := H
    replace H : ((impl_boundsFault.f k l3).bind fun t334 => ((impl_first.f k (([t311, t331, t332, t333, t334] : List Int))).bind fun t338 => (impl_FrameBounds.j0 k l1 l2 l3 t338 a0))) = some (r1, r2) := H
    have A42 := aM A420
    clear A420
    replace H := Option.bind_eq_some_iff.mp H
    obtain ⟨t334, A430, H⟩ := H
    replace H : ((impl_first.f k (([t311, t331, t332, t333, t334] : List Int))).bind fun t338 => (impl_FrameBounds.j0 k l1 l2 l3 t338 a0)) = some (r1, r2) := H
    have A43 := aM A430
    clear A430
    obtain ⟨y335, hy335⟩ : ∃ y_ : List Int, y_ = (([t311, t331, t332, t333, t334] : List Int)) := ⟨_, rfl⟩
    replace H : ((impl_first.f k y335).bind fun t338 => (impl_FrameBounds.j0 k l1 l2 l3 t338 a0)) = some (r1, r2) := by first | (rw [hy335]; with_reducible exact H) | (have H2_ := (Option.bind_some _ _).symm.trans H; rw [hy335]; with_reducible exact H2_) | (have H2_ := (Option.bind_some _ _).symm.trans H; with_reducible exact H2_) | with_reducible exact H | (rw [hy335]; exact H) | exact H
    have Ny335 := aM hy335
    clear hy335
    replace H := Option.bind_eq_some_iff.mp H
    obtain ⟨t338, A440, H⟩ := H
    replace H : (impl_FrameBounds.j0 k l1 l2 l3 t338 a0) = some (r1, r2) := H
    have A44 := aM A440
    clear A440
    have H' := aM H
    clear H
    have hnb45 := NB309_310.out
    have hnc45 := NB310_309.out
    have hcz46_0 : w7.cell? ⟨gb309, 0, none⟩ = some (.int .i64 a0) := (kC BK309.out 0).trans rfl
    have hfz46_0 := kF BK309.out 0
    go_wp2_with (first | ((with_reducible refine gate_callee (f := 47) rfl ?_); refine goesL_ (some 21) rfl rfl Try.func47 (by kernel_rfl) rfl #[.int .i64 a0] rfl mq ?_; (with_reducible refine (impl_SizeFault.calls a0 t311 _ A8.out).mono ?_); rintro e w' ⟨rfl, ⟨nd, rfl⟩⟩; refine ⟨_, rfl, ?_⟩) | (go_at_call 45; (with_reducible refine (impl_FrameBounds_1.calls _ _ l1 a0 false _ ?side1 ?side2 A9.out).mono ?_); (case side1 => exact cq (cB HR1.out bq)); (case side2 => exact HC1.out); rintro e w' ⟨rfl, ⟨nd, rfl⟩⟩) | (go_at_call 45; (with_reducible refine (impl_FrameBounds_1.calls _ _ l2 a0 false _ ?side1 ?side2 A24.out).mono ?_); (case side1 => exact cq (cB HR2.out bq)); (case side2 => exact HC2.out); rintro e w' ⟨rfl, ⟨nd, rfl⟩⟩) | (go_at_call 45; (with_reducible refine (impl_FrameBounds_1.calls _ _ l3 a0 t330 _ ?side1 ?side2 A39.out).mono ?_); (case side1 => exact cq (cB HR3.out bq)); (case side2 => exact HC3.out); rintro e w' ⟨rfl, ⟨nd, rfl⟩⟩) | ((with_reducible refine gate_callee (f := 48) rfl ?_); refine goesL_ (some 35) rfl rfl Try.func48 (by kernel_rfl) rfl #[.bool t330, .int .i64 2] rfl mq ?_; (with_reducible refine (impl_codeIf.calls t330 2 t331 _ A40.out).mono ?_); rintro e w' ⟨rfl, ⟨nd, rfl⟩⟩; refine ⟨_, rfl, ?_⟩) | ((with_reducible refine gate_callee (f := 49) rfl ?_); refine goesL_ (some 37) rfl rfl Try.func49 (by kernel_rfl) rfl #[.slice A1 l1.length c1] rfl mq ?_; (with_reducible refine (impl_boundsFault.calls k _ _ l1 t332 _ ?side1 ?side2 A41.out).mono ?_); (case side1 => exact cq (cB HR1.out bq)); (case side2 => exact HC1.out); rintro e w47 ⟨rfl, hb⟩; refine ⟨_, rfl, ?_⟩; have n0_ := aM (kB (g := gb309) (o := .cells #[.int .i64 a0] 2 (0, 0)) (kq BK309.out) hb); have n1_ := aM (kB (g := gb310) (o := .cells #[.int .i64 0, .slice none 0 0] 24 (0, 0)) (kq BK310.out) hb); have n2_ := aM (bT bq hb); clear BK309 BK310 HB; have BK309 := n0_; have BK310 := n1_; have HB := n2_; clear n0_ n1_ n2_; (try clear hb)) | ((with_reducible refine gate_callee (f := 49) rfl ?_); refine goesL_ (some 39) rfl rfl Try.func49 (by kernel_rfl) rfl #[.slice A2 l2.length c2] rfl mq ?_; (with_reducible refine (impl_boundsFault.calls k _ _ l2 t333 _ ?side1 ?side2 A42.out).mono ?_); (case side1 => exact cq (cB HR2.out HB.out)); (case side2 => exact HC2.out); rintro e w48 ⟨rfl, hb⟩; refine ⟨_, rfl, ?_⟩; have n0_ := aM (kB (g := gb309) (o := .cells #[.int .i64 a0] 2 (0, 0)) (kq BK309.out) hb); have n1_ := aM (kB (g := gb310) (o := .cells #[.int .i64 0, .slice none 0 0] 24 (0, 0)) (kq BK310.out) hb); have n2_ := aM (bT bq hb); clear BK309 BK310 HB; have BK309 := n0_; have BK310 := n1_; have HB := n2_; clear n0_ n1_ n2_; (try clear hb)) | ((with_reducible refine gate_callee (f := 49) rfl ?_); refine goesL_ (some 41) rfl rfl Try.func49 (by kernel_rfl) rfl #[.slice A3 l3.length c3] rfl mq ?_; (with_reducible refine (impl_boundsFault.calls k _ _ l3 t334 _ ?side1 ?side2 A43.out).mono ?_); (case side1 => exact cq (cB HR3.out HB.out)); (case side2 => exact HC3.out); rintro e w49 ⟨rfl, hb⟩; refine ⟨_, rfl, ?_⟩; have n0_ := aM (kB (g := gb309) (o := .cells #[.int .i64 a0] 2 (0, 0)) (kq BK309.out) hb); have n1_ := aM (kB (g := gb310) (o := .cells #[.int .i64 0, .slice none 0 0] 24 (0, 0)) (kq BK310.out) hb); have n2_ := aM (bT bq hb); clear BK309 BK310 HB; have BK309 := n0_; have BK310 := n1_; have HB := n2_; clear n0_ n1_ n2_; (try clear hb)) | ((with_reducible refine gate_dst (N := 42) rfl ?_); refine Kd.R_lit (Kd.int .i64) _ 2 ?hg (N := 42) ?hd (xs := ([t311, t331, t332, t333, t334] : List Int)) (inner := [.int .i64 t311, .int .i64 t331, .int .i64 t332, .int .i64 t333, .int .i64 t334]) (ok := fun _ => True) (okp := fun _ => True) ?hr ?hp (fun _ hk => hk) trivial (Below.refl _ _) (Nat.le_refl _) (by simp) ?_; (case hd => rfl); (case hg => rfl); (case hr => first | (go_simp; done) | (go_simp; rfl)); (case hp => exact (Reps.one (show Kd.M (Kd.int .i64) _ _ _ t311 [.int .i64 t311] from rfl) (Reps.one (show Kd.M (Kd.int .i64) _ _ _ t331 [.int .i64 t331] from rfl) (Reps.one (show Kd.M (Kd.int .i64) _ _ _ t332 [.int .i64 t332] from rfl) (Reps.one (show Kd.M (Kd.int .i64) _ _ _ t333 [.int .i64 t333] from rfl) (Reps.one (show Kd.M (Kd.int .i64) _ _ _ t334 [.int .i64 t334] from rfl) (Reps.none _ _))))))); intro v336 w50 ho51 hb hg_ hnew_; clear hg_ hnew_; (first | rw [← Ny335.out] at ho51 | (simp only [Int.reduceToNat] at ho51; rw [← Ny335.out] at ho51)); have n0_ := aM (rG (Kd.R_newB ho51 (g := gb309) (o := .cells #[.int .i64 a0] 2 (0, 0)) (kq BK309.out)) (bZ bq)); have n1_ := aM (kB (g := gb309) (o := .cells #[.int .i64 a0] 2 (0, 0)) (kq BK309.out) hb); have n2_ := aM (kB (g := gb310) (o := .cells #[.int .i64 0, .slice none 0 0] 24 (0, 0)) (kq BK310.out) hb); have n3_ := aM (bT bq hb); clear BK309 BK310 HB; have HO337 := n0_; have BK309 := n1_; have BK310 := n2_; have HB := n3_; clear n0_ n1_ n2_ n3_ hb ho51; obtain ⟨Ao52, co52, eo52⟩ := Kd.R_slice HO337.out; subst eo52) | ((with_reducible refine gate_callee (f := 46) rfl ?_); refine goesL_ (some 43) rfl rfl Try.func46 (by kernel_rfl) rfl #[.slice Ao52 y335.length co52] rfl mq ?_; (with_reducible refine (impl_first.calls k _ _ y335 t338 _ ?side1 ?side2 A44.out).mono ?_); (case side1 => exact cq (rR HO337.out).2.2); (case side2 => exact (rR HO337.out).2.1); rintro e w' ⟨rfl, ⟨nd, rfl⟩⟩; refine ⟨_, rfl, ?_⟩))
    go_meet
    case rel => exact ⟨_, (t338), (by first | rfl | (simp; done) | (simp [*]; done)), H', ⟨by first | omega | exact Nat.le_refl _⟩, ⟨by (with_reducible repeat (first | refine kN ?_ _ | refine kD ?_ | refine kA ?_ _)); exact BK309.out⟩, ⟨by (with_reducible repeat (first | refine kN ?_ _ | refine kD ?_ | refine kA ?_ _)); exact BK310.out⟩, ⟨bq⟩⟩
 case rest =>
  clear HC5
  try clear c1
  try clear c2
  try clear p2
  try clear c3
  try clear c4
  try clear c10
  try clear c16
  try clear c25
  try clear c31
  try clear c45
  try clear c46
  try clear c47
  try clear c48
  try clear c49
  try clear hcz17_0
  try clear hcz32_0
  try clear hcz46_0
  try clear hfz17_0
  try clear hfz32_0
  try clear hfz46_0
  obtain ⟨kq, x10_4, rfl, HA, HJ4, BK309, BK310, HB⟩ := hcut
  cases kq with
  | zero => exact absurd HA.out (by simp [impl_FrameBounds.j0])
  | succ kj4 =>
   have H := HA.out
   clear HA
   simp only [impl_FrameBounds.j0] at H
   by_cases c53 : x10_4 = 0
   ·rw [if_pos c53] at H
    have c53b0 : (x10_4 == 0) = true := beq_iff_eq.mpr c53
    have c53b1 : (x10_4 != 0) = false := bne_eq_false_iff_eq.mpr c53
    clear c53
    replace H := Option.bind_eq_some_iff.mp H
    obtain ⟨_, A540, H⟩ := H
    replace H : ((impl_undo_gather.f kj4 impl_ofBounds_1.f impl_partBounds.f l2).bind fun t342 => ((impl_undo_gather.f kj4 impl_ofBounds_1.f impl_partBounds.f l1).bind fun t345 => (if 0 ≤ (wrap64 (Int.tdiv a0 2)) then (if (wrap64 (Int.tdiv a0 2)) ≤ (t345.length : Int) then (if (wrap64 (Int.tdiv a0 2)) ≤ (t342.length : Int) then ((impl_seam.f kj4 (t345.drop ((wrap64 (Int.tdiv a0 2)) : Int).toNat) (t342.take ((wrap64 (Int.tdiv a0 2)) : Int).toNat) (impl_ofBounds_1.f a0)).bind fun bt358 => ((impl_undo_gather.f kj4 impl_ofBounds_1.f impl_partBounds.f l3).bind fun t369 => (if (wrap64 (Int.tdiv a0 2)) ≤ (t369.length : Int) then ((impl_seam.f kj4 (t342.drop ((wrap64 (Int.tdiv a0 2)) : Int).toNat) (t369.take ((wrap64 (Int.tdiv a0 2)) : Int).toNat) (impl_ofBounds_1.f a0)).bind fun bt377 => ((slices_Concat_int64_int64.f kj4 (([bt358.2, bt377.1] : List (List Int)))).bind fun t386 => (some (0, t386)))) else (none)))) else (none)) else (none)) else (none)))) = some (r1, r2) := H
    have A54 := aM A540
    clear A540
    replace H := Option.bind_eq_some_iff.mp H
    obtain ⟨t342, A550, H⟩ := H
    replace H : ((impl_undo_gather.f kj4 impl_ofBounds_1.f impl_partBounds.f l1).bind fun t345 => (if 0 ≤ (wrap64 (Int.tdiv a0 2)) then (if (wrap64 (Int.tdiv a0 2)) ≤ (t345.length : Int) then (if (wrap64 (Int.tdiv a0 2)) ≤ (t342.length : Int) then ((impl_seam.f kj4 (t345.drop ((wrap64 (Int.tdiv a0 2)) : Int).toNat) (t342.take ((wrap64 (Int.tdiv a0 2)) : Int).toNat) (impl_ofBounds_1.f a0)).bind fun bt358 => ((impl_undo_gather.f kj4 impl_ofBounds_1.f impl_partBounds.f l3).bind fun t369 => (if (wrap64 (Int.tdiv a0 2)) ≤ (t369.length : Int) then ((impl_seam.f kj4 (t342.drop ((wrap64 (Int.tdiv a0 2)) : Int).toNat) (t369.take ((wrap64 (Int.tdiv a0 2)) : Int).toNat) (impl_ofBounds_1.f a0)).bind fun bt377 => ((slices_Concat_int64_int64.f kj4 (([bt358.2, bt377.1] : List (List Int)))).bind fun t386 => (some (0, t386)))) else (none)))) else (none)) else (none)) else (none))) = some (r1, r2) := H
    have A55 := aM A550
    clear A550
    replace H := Option.bind_eq_some_iff.mp H
    obtain ⟨t345, A560, H⟩ := H
    replace H : (if 0 ≤ (wrap64 (Int.tdiv a0 2)) then (if (wrap64 (Int.tdiv a0 2)) ≤ (t345.length : Int) then (if (wrap64 (Int.tdiv a0 2)) ≤ (t342.length : Int) then ((impl_seam.f kj4 (t345.drop ((wrap64 (Int.tdiv a0 2)) : Int).toNat) (t342.take ((wrap64 (Int.tdiv a0 2)) : Int).toNat) (impl_ofBounds_1.f a0)).bind fun bt358 => ((impl_undo_gather.f kj4 impl_ofBounds_1.f impl_partBounds.f l3).bind fun t369 => (if (wrap64 (Int.tdiv a0 2)) ≤ (t369.length : Int) then ((impl_seam.f kj4 (t342.drop ((wrap64 (Int.tdiv a0 2)) : Int).toNat) (t369.take ((wrap64 (Int.tdiv a0 2)) : Int).toNat) (impl_ofBounds_1.f a0)).bind fun bt377 => ((slices_Concat_int64_int64.f kj4 (([bt358.2, bt377.1] : List (List Int)))).bind fun t386 => (some (0, t386)))) else (none)))) else (none)) else (none)) else (none)) = some (r1, r2) := H
    have A56 := aM A560
    clear A560
    obtain ⟨ji57, hji57⟩ : ∃ j_ : Int, (wrap64 (Int.tdiv a0 2)) = j_ := ⟨_, rfl⟩
    replace H : (if 0 ≤ (ji57) then (if (ji57) ≤ (t345.length : Int) then (if (ji57) ≤ (t342.length : Int) then ((impl_seam.f kj4 (t345.drop ((ji57) : Int).toNat) (t342.take ((ji57) : Int).toNat) (impl_ofBounds_1.f a0)).bind fun bt358 => ((impl_undo_gather.f kj4 impl_ofBounds_1.f impl_partBounds.f l3).bind fun t369 => (if (ji57) ≤ (t369.length : Int) then ((impl_seam.f kj4 (t342.drop ((ji57) : Int).toNat) (t369.take ((ji57) : Int).toNat) (impl_ofBounds_1.f a0)).bind fun bt377 => ((slices_Concat_int64_int64.f kj4 (([bt358.2, bt377.1] : List (List Int)))).bind fun t386 => (some (0, t386)))) else (none)))) else (none)) else (none)) else (none)) = some (r1, r2) := by first | (rw [hji57] at H; exact H) | (simp only [hji57] at H ⊢; exact H)
    (try rw [hji57] at A54)
    (try rw [hji57] at A55)
    (try rw [hji57] at A56)
    have hji57w : (IntKind.i64.wrap (Int.tdiv a0 2)) = ji57 := (i64_w _).trans hji57
    by_cases c58 : 0 ≤ (ji57)
    ·rw [if_pos c58] at H
     have c58b0 := eq_true c58
     have c58b1 : decide (0 ≤ (ji57)) = true := decide_eq_true c58
     clear c58
     by_cases c59 : (ji57) ≤ (t345.length : Int)
     ·rw [if_pos c59] at H
      have c59b0 := eq_true c59
      have c59b1 : decide ((ji57) ≤ (t345.length : Int)) = true := decide_eq_true c59
      clear c59
      obtain ⟨y348, hy348⟩ : ∃ y_ : List Int, y_ = (t345.drop ((ji57) : Int).toNat) := ⟨_, rfl⟩
      replace H : (if (ji57) ≤ (t342.length : Int) then ((impl_seam.f kj4 y348 (t342.take ((ji57) : Int).toNat) (impl_ofBounds_1.f a0)).bind fun bt358 => ((impl_undo_gather.f kj4 impl_ofBounds_1.f impl_partBounds.f l3).bind fun t369 => (if (ji57) ≤ (t369.length : Int) then ((impl_seam.f kj4 (t342.drop ((ji57) : Int).toNat) (t369.take ((ji57) : Int).toNat) (impl_ofBounds_1.f a0)).bind fun bt377 => ((slices_Concat_int64_int64.f kj4 (([bt358.2, bt377.1] : List (List Int)))).bind fun t386 => (some (0, t386)))) else (none)))) else (none)) = some (r1, r2) := by first | (rw [hy348]; with_reducible exact H) | (have H2_ := (Option.bind_some _ _).symm.trans H; rw [hy348]; with_reducible exact H2_) | (have H2_ := (Option.bind_some _ _).symm.trans H; with_reducible exact H2_) | with_reducible exact H | (rw [hy348]; exact H) | exact H
      have Ny348 := aM hy348
      clear hy348
      have c60b0 := eq_true (of_decide_eq_true (by first | (with_reducible assumption) | assumption) : 0 ≤ (ji57))
      by_cases c61 : (ji57) ≤ (t342.length : Int)
      ·rw [if_pos c61] at H
       have c61b0 := eq_true c61
       have c61b1 : decide ((ji57) ≤ (t342.length : Int)) = true := decide_eq_true c61
       clear c61
       obtain ⟨y353, hy353⟩ : ∃ y_ : List Int, y_ = (t342.take ((ji57) : Int).toNat) := ⟨_, rfl⟩
       replace H : ((impl_seam.f kj4 y348 y353 (impl_ofBounds_1.f a0)).bind fun bt358 => ((impl_undo_gather.f kj4 impl_ofBounds_1.f impl_partBounds.f l3).bind fun t369 => (if (ji57) ≤ (t369.length : Int) then ((impl_seam.f kj4 (t342.drop ((ji57) : Int).toNat) (t369.take ((ji57) : Int).toNat) (impl_ofBounds_1.f a0)).bind fun bt377 => ((slices_Concat_int64_int64.f kj4 (([bt358.2, bt377.1] : List (List Int)))).bind fun t386 => (some (0, t386)))) else (none)))) = some (r1, r2) := by first | (rw [hy353]; with_reducible exact H) | (have H2_ := (Option.bind_some _ _).symm.trans H; rw [hy353]; with_reducible exact H2_) | (have H2_ := (Option.bind_some _ _).symm.trans H; with_reducible exact H2_) | with_reducible exact H | (rw [hy353]; exact H) | exact H
       have Ny353 := aM hy353
       clear hy353
       replace H := Option.bind_eq_some_iff.mp H
       obtain ⟨⟨t358, t359⟩, A620, H⟩ := H
       replace H : ((impl_undo_gather.f kj4 impl_ofBounds_1.f impl_partBounds.f l3).bind fun t369 => (if (ji57) ≤ (t369.length : Int) then ((impl_seam.f kj4 (t342.drop ((ji57) : Int).toNat) (t369.take ((ji57) : Int).toNat) (impl_ofBounds_1.f a0)).bind fun bt377 => ((slices_Concat_int64_int64.f kj4 (([t359, bt377.1] : List (List Int)))).bind fun t386 => (some (0, t386)))) else (none))) = some (r1, r2) := H
       have A62 := aM A620
       clear A620
       have c63b0 := eq_true (of_decide_eq_true (by first | (with_reducible assumption) | assumption) : 0 ≤ (ji57))
       have c64b0 := eq_true (of_decide_eq_true (by first | (with_reducible assumption) | assumption) : (ji57) ≤ (t342.length : Int))
       obtain ⟨y364, hy364⟩ : ∃ y_ : List Int, y_ = (t342.drop ((ji57) : Int).toNat) := ⟨_, rfl⟩
       replace H : ((impl_undo_gather.f kj4 impl_ofBounds_1.f impl_partBounds.f l3).bind fun t369 => (if (ji57) ≤ (t369.length : Int) then ((impl_seam.f kj4 y364 (t369.take ((ji57) : Int).toNat) (impl_ofBounds_1.f a0)).bind fun bt377 => ((slices_Concat_int64_int64.f kj4 (([t359, bt377.1] : List (List Int)))).bind fun t386 => (some (0, t386)))) else (none))) = some (r1, r2) := by first | (rw [hy364]; with_reducible exact H) | (have H2_ := (Option.bind_some _ _).symm.trans H; rw [hy364]; with_reducible exact H2_) | (have H2_ := (Option.bind_some _ _).symm.trans H; with_reducible exact H2_) | with_reducible exact H | (rw [hy364]; exact H) | exact H
       have Ny364 := aM hy364
       clear hy364
       replace H := Option.bind_eq_some_iff.mp H
       obtain ⟨t369, A650, H⟩ := H
       replace H : (if (ji57) ≤ (t369.length : Int) then ((impl_seam.f kj4 y364 (t369.take ((ji57) : Int).toNat) (impl_ofBounds_1.f a0)).bind fun bt377 => ((slices_Concat_int64_int64.f kj4 (([t359, bt377.1] : List (List Int)))).bind fun t386 => (some (0, t386)))) else (none)) = some (r1, r2) := H
       have A65 := aM A650
       clear A650
       have c66b0 := eq_true (of_decide_eq_true (by first | (with_reducible assumption) | assumption) : 0 ≤ (ji57))
       by_cases c67 : (ji57) ≤ (t369.length : Int)
       ·rw [if_pos c67] at H
        have c67b0 := eq_true c67
        have c67b1 : decide ((ji57) ≤ (t369.length : Int)) = true := decide_eq_true c67
        clear c67
        obtain ⟨y372, hy372⟩ : ∃ y_ : List Int, y_ = (t369.take ((ji57) : Int).toNat) := ⟨_, rfl⟩
        replace H : ((impl_seam.f kj4 y364 y372 (impl_ofBounds_1.f a0)).bind fun bt377 => ((slices_Concat_int64_int64.f kj4 (([t359, bt377.1] : List (List Int)))).bind fun t386 => (some (0, t386)))) = some (r1, r2) := by first | (rw [hy372]; with_reducible exact H) | (have H2_ := (Option.bind_some _ _).symm.trans H; rw [hy372]; with_reducible exact H2_) | (have H2_ := (Option.bind_some _ _).symm.trans H; with_reducible exact H2_) | with_reducible exact H | (rw [hy372]; exact H) | exact H
        have Ny372 := aM hy372
        clear hy372
        replace H := Option.bind_eq_some_iff.mp H
        obtain ⟨⟨t377, t378⟩, A680, H⟩ := H
        replace H : ((slices_Concat_int64_int64.f kj4 (([t359, t377] : List (List Int)))).bind fun t386 => (some (0, t386))) = some (r1, r2) := H
        have A68 := aM A680
        clear A680
        obtain ⟨y383, hy383⟩ : ∃ y_ : List (List Int), y_ = (([t359, t377] : List (List Int))) := ⟨_, rfl⟩
        replace H : ((slices_Concat_int64_int64.f kj4 y383).bind fun t386 => (some (0, t386))) = some (r1, r2) := by first | (rw [hy383]; with_reducible exact H) | (have H2_ := (Option.bind_some _ _).symm.trans H; rw [hy383]; with_reducible exact H2_) | (have H2_ := (Option.bind_some _ _).symm.trans H; with_reducible exact H2_) | with_reducible exact H | (rw [hy383]; exact H) | exact H
        have Ny383 := aM hy383
        clear hy383
        replace H := Option.bind_eq_some_iff.mp H
        obtain ⟨t386, A690, H⟩ := H
        replace H : (some (0, t386)) = some (r1, r2) := H
        have A69 := aM A690
        clear A690
        simp only [Option.some.injEq, Prod.mk.injEq] at H
        obtain ⟨rfl, rfl⟩ := H
        try go_wp2
        have n0_ := aM (kD BK309.out)
        have n1_ := aM (kD BK310.out)
        have n2_ := aM (bD HB.out)
        clear BK309
        clear BK310
        clear HB
        have BK309 := n0_
        have BK310 := n1_
        have HB := n2_
        clear n0_ n1_ n2_
        refine start_ (n := 6) (S := fun w' => w'.cell? ⟨gb309, 0, none⟩ = some (.int .i64 a0)) (ds := []) #[N,N,N,N,N,N] (by kernel_rfl) rfl rfl ((kC BK309.out 0).trans rfl) (fun hHeld => ?_)
        generalize wc.drew = w70 at BK309 BK310 HB hHeld ⊢
        refine take_ (i := 0) (N := some 48) (v := ?_) (a' := ?_) #[Y,N,N,N,N,N] rfl rfl (by kernel_rfl) (fun _ _ _ h => h) (Or.inl ⟨by rfl, ?_⟩) hHeld ?_ ?_
        rotate_left
        ·intro w' s0
         go_simp
         with_reducible rfl
        rotate_left
        ·simp only [Act.put, pa, pb, pc, i64_w, i32_w]
         rfl
        refine pure_ (i := 1) (N := some 49) (v := ?_) (a' := ?_) #[Y,Y,N,N,N,N] rfl rfl (by kernel_rfl) (fun _ _ _ h => h) (Or.inl ⟨by rfl, ?_⟩) ?_ ?_
        rotate_left
        ·intro w'
         go_simp
         with_reducible rfl
        rotate_left
        ·simp only [Act.put, pa, pb, pc, i64_w, i32_w]
         rfl
        refine join_ (σ := Nat) 2 #[Y,Y,Y,Y,N,N] (fun s_ => [(50, .agg #[.func (.func 98) #[] #[], .func (.func 100) #[] #[]]), (12, .pointer (some ⟨s_, 0, none⟩))]) (fun s_ w' => (w'.cell? ⟨gb309, 0, none⟩ = some (.int .i64 a0)) ∧ (w'.heap[gb309]? = some (.cells #[.int .i64 a0] 2 (0, 0))) ∧ (w'.heap[gb310]? = some (.cells #[.int .i64 0, .slice none 0 0] 24 (0, 0))) ∧ (w'.heap[s_]? = some (.cells #[.nilFunc, .nilFunc] 87 (0, 0))) ∧ (w.heap.size ≤ s_) ∧ (w.heap.size ≤ s_) ∧ (gb309 ≠ s_) ∧ (s_ ≠ gb309) ∧ (gb310 ≠ s_) ∧ (s_ ≠ gb310) ∧ (Below w.heap.size w w')) ?_ ?_
        rotate_left
        ·intro hCont
         refine two_ (i := 2) (j := 3) (Ni := some 50) (Nj := some 12) #[Y,Y,Y,N,N,N] #[Y,Y,N,Y,N,N] rfl rfl rfl rfl (by kernel_rfl) (by decide) (by decide) (fun K hK => ?_) (fun K hK => ?_)
         ·skip
          refine goes_ Try.func50 (by kernel_rfl) rfl #[] (by rfl) rfl rfl mq ?_
          with_reducible refine (impl_ofBounds.calls   _ A54.out).mono ?_
          rintro e w71 ⟨rfl, hb⟩
          refine ⟨_, rfl, ?_⟩
          have n0_ := aM (kB (g := gb309) (o := .cells #[.int .i64 a0] 2 (0, 0)) (kq BK309.out) hb)
          have n1_ := aM (kB (g := gb310) (o := .cells #[.int .i64 0, .slice none 0 0] 24 (0, 0)) (kq BK310.out) hb)
          have n2_ := aM (bT bq hb)
          clear BK309
          clear BK310
          clear HB
          have BK309 := n0_
          have BK310 := n1_
          have HB := n2_
          clear n0_ n1_ n2_
          (try clear hb)
          (try clear hb2)
          (try clear hk)
          (try clear hi)
          refine hK.out _ _ ((kC BK309.out 0).trans rfl) (fun hHeld => ?_)
          clear hK K
          refine norm_ (a' := ?_) ?_ ?_
          rotate_left
          ·show Act.put _ (some 50) _ = _
           simp only [Act.put, pa, pb, pc, i64_w, i32_w]
           rfl
          refine one_ (i := 3) (N := some 12) #[Y,Y,Y,Y,N,N] rfl rfl (by kernel_rfl) (by decide) (fun K hK => ?_)
          refine box_step ?hg (N := 12) ?hd (cs := #[.nilFunc, .nilFunc]) (t := 87) ?hr ?_; (case hd => rfl); (case hg => rfl); (case hr => first | (go_simp; done) | (go_simp; rfl))
          intro gb341 hg w72 hbox hb
          have n0_ := aM (kB (g := gb309) (o := .cells #[.int .i64 a0] 2 (0, 0)) (kq BK309.out) hb)
          have n1_ := aM (kB (g := gb310) (o := .cells #[.int .i64 0, .slice none 0 0] 24 (0, 0)) (kq BK310.out) hb)
          have n2_ := aM (bT bq hb)
          have n3_ := aM (hbox)
          have n4_ := aM ((by rw [hg]; exact (bZ bq) : w.heap.size ≤ gb341))
          have n5_ := aM ((by rw [hg]; exact (bZ bq) : w.heap.size ≤ gb341))
          have n6_ := aM ((by rw [hg]; exact Nat.ne_of_lt (blk_lt (g := gb309) (o := .cells #[.int .i64 a0] 2 (0, 0)) (kq BK309.out)) : gb309 ≠ gb341))
          have n7_ := aM ((by rw [hg]; exact Nat.ne_of_gt (blk_lt (g := gb309) (o := .cells #[.int .i64 a0] 2 (0, 0)) (kq BK309.out)) : gb341 ≠ gb309))
          have n8_ := aM ((by rw [hg]; exact Nat.ne_of_lt (blk_lt (g := gb310) (o := .cells #[.int .i64 0, .slice none 0 0] 24 (0, 0)) (kq BK310.out)) : gb310 ≠ gb341))
          have n9_ := aM ((by rw [hg]; exact Nat.ne_of_gt (blk_lt (g := gb310) (o := .cells #[.int .i64 0, .slice none 0 0] 24 (0, 0)) (kq BK310.out)) : gb341 ≠ gb310))
          clear BK309
          clear BK310
          clear HB
          have BK309 := n0_
          have BK310 := n1_
          have HB := n2_
          have BK341 := n3_
          have GW341 := n4_
          have GE341 := n5_
          have NB309_341 := n6_
          have NB341_309 := n7_
          have NB310_341 := n8_
          have NB341_310 := n9_
          clear n0_ n1_ n2_ n3_ n4_ n5_ n6_ n7_ n8_ n9_
          clear hb hbox hg
          refine hK.out _ _ ((kC BK309.out 0).trans rfl) (fun hHeld => ?_)
          clear hK K
          refine norm_ (a' := ?_) ?_ ?_
          rotate_left
          ·show Act.put _ (some 12) _ = _
           simp only [Act.put, pa, pb, pc, i64_w, i32_w]
           rfl
          exact norm_ (by simp only [putAll, Act.put, pa, pb, pc]) (hCont (gb341) _ ⟨hHeld, (kq BK309.out), (kq BK310.out), (kq BK341.out), GW341.out, GE341.out, NB309_341.out, NB341_309.out, NB310_341.out, NB341_310.out, bq⟩)
         ·skip
          refine box_step ?hg (N := 12) ?hd (cs := #[.nilFunc, .nilFunc]) (t := 87) ?hr ?_; (case hd => rfl); (case hg => rfl); (case hr => first | (go_simp; done) | (go_simp; rfl))
          intro gb341 hg w71 hbox hb
          have n0_ := aM (kB (g := gb309) (o := .cells #[.int .i64 a0] 2 (0, 0)) (kq BK309.out) hb)
          have n1_ := aM (kB (g := gb310) (o := .cells #[.int .i64 0, .slice none 0 0] 24 (0, 0)) (kq BK310.out) hb)
          have n2_ := aM (bT bq hb)
          have n3_ := aM (hbox)
          have n4_ := aM ((by rw [hg]; exact (bZ bq) : w.heap.size ≤ gb341))
          have n5_ := aM ((by rw [hg]; exact (bZ bq) : w.heap.size ≤ gb341))
          have n6_ := aM ((by rw [hg]; exact Nat.ne_of_lt (blk_lt (g := gb309) (o := .cells #[.int .i64 a0] 2 (0, 0)) (kq BK309.out)) : gb309 ≠ gb341))
          have n7_ := aM ((by rw [hg]; exact Nat.ne_of_gt (blk_lt (g := gb309) (o := .cells #[.int .i64 a0] 2 (0, 0)) (kq BK309.out)) : gb341 ≠ gb309))
          have n8_ := aM ((by rw [hg]; exact Nat.ne_of_lt (blk_lt (g := gb310) (o := .cells #[.int .i64 0, .slice none 0 0] 24 (0, 0)) (kq BK310.out)) : gb310 ≠ gb341))
          have n9_ := aM ((by rw [hg]; exact Nat.ne_of_gt (blk_lt (g := gb310) (o := .cells #[.int .i64 0, .slice none 0 0] 24 (0, 0)) (kq BK310.out)) : gb341 ≠ gb310))
          clear BK309
          clear BK310
          clear HB
          have BK309 := n0_
          have BK310 := n1_
          have HB := n2_
          have BK341 := n3_
          have GW341 := n4_
          have GE341 := n5_
          have NB309_341 := n6_
          have NB341_309 := n7_
          have NB310_341 := n8_
          have NB341_310 := n9_
          clear n0_ n1_ n2_ n3_ n4_ n5_ n6_ n7_ n8_ n9_
          clear hb hbox hg
          refine hK.out _ _ ((kC BK309.out 0).trans rfl) (fun hHeld => ?_)
          clear hK K
          refine norm_ (a' := ?_) ?_ ?_
          rotate_left
          ·show Act.put _ (some 12) _ = _
           simp only [Act.put, pa, pb, pc, i64_w, i32_w]
           rfl
          refine one_ (i := 2) (N := some 50) #[Y,Y,Y,Y,N,N] rfl rfl (by kernel_rfl) (by decide) (fun K hK => ?_)
          refine goes_ Try.func50 (by kernel_rfl) rfl #[] (by rfl) rfl rfl mq ?_
          with_reducible refine (impl_ofBounds.calls   _ A54.out).mono ?_
          rintro e w72 ⟨rfl, hb⟩
          refine ⟨_, rfl, ?_⟩
          have n0_ := aM (kB (g := gb309) (o := .cells #[.int .i64 a0] 2 (0, 0)) (kq BK309.out) hb)
          have n1_ := aM (kB (g := gb310) (o := .cells #[.int .i64 0, .slice none 0 0] 24 (0, 0)) (kq BK310.out) hb)
          have n2_ := aM (kB (g := gb341) (o := .cells #[.nilFunc, .nilFunc] 87 (0, 0)) (kq BK341.out) hb)
          have n3_ := aM (bT bq hb)
          clear BK309
          clear BK310
          clear BK341
          clear HB
          have BK309 := n0_
          have BK310 := n1_
          have BK341 := n2_
          have HB := n3_
          clear n0_ n1_ n2_ n3_
          (try clear hb)
          (try clear hb2)
          (try clear hk)
          (try clear hi)
          refine hK.out _ _ ((kC BK309.out 0).trans rfl) (fun hHeld => ?_)
          clear hK K
          refine norm_ (a' := ?_) ?_ ?_
          rotate_left
          ·show Act.put _ (some 50) _ = _
           simp only [Act.put, pa, pb, pc, i64_w, i32_w]
           rfl
          exact norm_ (by simp only [putAll, Act.put, pa, pb, pc]) (hCont (gb341) _ ⟨hHeld, (kq BK309.out), (kq BK310.out), (kq BK341.out), GW341.out, GE341.out, NB309_341.out, NB341_309.out, NB310_341.out, NB341_310.out, bq⟩)
        rintro gb341 w73 ⟨hS_, h0_, h1_, h2_, h3_, h4_, h5_, h6_, h7_, h8_, h9_⟩
        have n0_ : Aside0 (w73.heap[gb309]? = some (.cells #[.int .i64 a0] 2 (0, 0))) := ⟨h0_⟩
        have n1_ : Aside0 (w73.heap[gb310]? = some (.cells #[.int .i64 0, .slice none 0 0] 24 (0, 0))) := ⟨h1_⟩
        have n2_ : Aside0 (w73.heap[gb341]? = some (.cells #[.nilFunc, .nilFunc] 87 (0, 0))) := ⟨h2_⟩
        have n3_ : Aside0 (w.heap.size ≤ gb341) := ⟨h3_⟩
        have n4_ : Aside0 (w.heap.size ≤ gb341) := ⟨h4_⟩
        have n5_ : Aside0 (gb309 ≠ gb341) := ⟨h5_⟩
        have n6_ : Aside0 (gb341 ≠ gb309) := ⟨h6_⟩
        have n7_ : Aside0 (gb310 ≠ gb341) := ⟨h7_⟩
        have n8_ : Aside0 (gb341 ≠ gb310) := ⟨h8_⟩
        have n9_ : Aside0 (Below w.heap.size w w73) := ⟨h9_⟩
        clear BK309
        clear BK310
        clear HB
        clear h0_ h1_ h2_ h3_ h4_ h5_ h6_ h7_ h8_ h9_
        have BK309 := n0_
        have BK310 := n1_
        have BK341 := n2_
        have GW341 := n3_
        have GE341 := n4_
        have NB309_341 := n5_
        have NB341_309 := n6_
        have NB310_341 := n7_
        have NB341_310 := n8_
        have HB := n9_
        clear n0_ n1_ n2_ n3_ n4_ n5_ n6_ n7_ n8_ n9_
        have hHeld : w73.cell? ⟨gb309, 0, none⟩ = some (.int .i64 a0) := hS_
        refine norm_ (a' := ?_) ?_ ?_
        rotate_left
        ·simp only [putAll, Act.put, pa, pb, pc]
         rfl
        refine pure_ (i := 4) (N := some 11) (v := ?_) (a' := ?_) #[Y,Y,Y,Y,Y,N] rfl rfl (by kernel_rfl) (fun _ _ _ h => h) (Or.inl ⟨by rfl, ?_⟩) ?_ ?_
        rotate_left
        ·intro w'
         go_simp
         with_reducible rfl
        rotate_left
        ·simp only [Act.put, pa, pb, pc, i64_w, i32_w]
         rfl
        refine one_ (i := 5) (N := none) #[Y,Y,Y,Y,Y,Y] rfl rfl (by kernel_rfl) (by decide) (fun K hK => ?_)
        have hs74 : w73.cell? ⟨gb341, 0, none⟩ = some (.nilFunc) := (kC BK341.out 0).trans rfl
        have hfs74 := kF BK341.out 0
        have hns74_0 := NB309_341.out
        have hns74_1 := NB310_341.out
        have hms74_0 := NB341_309.out
        have hms74_1 := NB341_310.out
        have hs75 : w73.cell? ⟨gb341, 1, none⟩ = some (.nilFunc) := (kC BK341.out 1).trans rfl
        have hfs75 := kF BK341.out 1
        have hns75_0 := NB309_341.out
        have hns75_1 := NB310_341.out
        have hms75_0 := NB341_309.out
        have hms75_1 := NB341_310.out
        refine skip_ (w1 := ?_) (by rfl) rfl ?_ ?_
        rotate_left
        ·go_simp
         rfl
        refine hK.out _ _ (((cell_far (p := ⟨gb341, _, none⟩) NB309_341.out _).trans (((cell_far (p := ⟨gb341, _, none⟩) NB309_341.out _).trans (hHeld))))) (fun hHeld => ?_)
        clear hK K
        refine done_ (by kernel_rfl) ?_
        have hnb76 := NB341_309.out
        have hnc76 := NB309_341.out
        have hnb77 := NB341_310.out
        have hnc77 := NB310_341.out
        have hcz78_0 : w73.cell? ⟨gb341, 0, none⟩ = some (.nilFunc) := (kC BK341.out 0).trans rfl
        have hcz78_1 : w73.cell? ⟨gb341, 1, none⟩ = some (.nilFunc) := (kC BK341.out 1).trans rfl
        have hfz78_0 := kF BK341.out 0
        have hfz78_1 := kF BK341.out 1
        try go_wp2_with (first | ((with_reducible refine gate_callee (f := 52) rfl ?_); refine goesL_ (some 54) rfl rfl Try.func52 (by kernel_rfl) rfl #[.agg #[.func (.func 98) #[] #[], .func (.func 100) #[] #[]], .slice A2 l2.length c2] rfl mq ?_; (with_reducible refine (impl_undo_gather.calls kj4 _ _ impl_ofBounds_1.f _ _ impl_partBounds.f _ _ l2 t342 _ ?side1 ?side2 ?side3 ?side4 A55.out).mono ?_); (case side1 => exact ok4_ofBounds_1 _); (case side2 => exact ok2_partBounds _); (case side3 => exact cB HR2.out bq); (case side4 => exact HC2.out); rintro e w79 ⟨v343, rfl, ho0, hb⟩; refine ⟨_, rfl, ?_⟩; have n0_ := aM (rG (Kd.R_newB ho0 (g := gb309) (o := .cells #[.int .i64 a0] 2 (0, 0)) (by (with_reducible repeat (first | refine kN ?_ _ | refine kD ?_ | refine kA ?_ _)); refine blk_far ?_ NB309_341.out _; (with_reducible repeat (first | refine kN ?_ _ | refine kD ?_ | refine kA ?_ _)); refine blk_far ?_ NB309_341.out _; (with_reducible repeat (first | refine kN ?_ _ | refine kD ?_ | refine kA ?_ _)); exact BK309.out)) (bZ bq)); have n1_ := aM (kB (g := gb309) (o := .cells #[.int .i64 a0] 2 (0, 0)) (by (with_reducible repeat (first | refine kN ?_ _ | refine kD ?_ | refine kA ?_ _)); refine blk_far ?_ NB309_341.out _; (with_reducible repeat (first | refine kN ?_ _ | refine kD ?_ | refine kA ?_ _)); refine blk_far ?_ NB309_341.out _; (with_reducible repeat (first | refine kN ?_ _ | refine kD ?_ | refine kA ?_ _)); exact BK309.out) hb); have n2_ := aM (kB (g := gb310) (o := .cells #[.int .i64 0, .slice none 0 0] 24 (0, 0)) (by (with_reducible repeat (first | refine kN ?_ _ | refine kD ?_ | refine kA ?_ _)); refine blk_far ?_ NB310_341.out _; (with_reducible repeat (first | refine kN ?_ _ | refine kD ?_ | refine kA ?_ _)); refine blk_far ?_ NB310_341.out _; (with_reducible repeat (first | refine kN ?_ _ | refine kD ?_ | refine kA ?_ _)); exact BK310.out) hb); have n3_ := aM (kB (g := gb341) (o := .cells #[.func (.func 98) #[] #[], .func (.func 100) #[] #[]] 87 (0, 0)) (by (with_reducible repeat (first | refine kN ?_ _ | refine kD ?_ | refine kA ?_ _)); refine blk_put (cs := #[.func (.func 98) #[] #[], .nilFunc]) ?_ 1 _ rfl; (with_reducible repeat (first | refine kN ?_ _ | refine kD ?_ | refine kA ?_ _)); refine blk_put (cs := #[.nilFunc, .nilFunc]) ?_ 0 _ rfl; (with_reducible repeat (first | refine kN ?_ _ | refine kD ?_ | refine kA ?_ _)); exact BK341.out) hb); have n4_ := aM (bT bq hb); clear BK309 BK310 BK341 HB; have HO344 := n0_; have BK309 := n1_; have BK310 := n2_; have BK341 := n3_; have HB := n4_; clear n0_ n1_ n2_ n3_ n4_; (try clear hb); (try clear ho0)))
        have n0_ := aM (rD HO344.out)
        have n1_ := aM (kD BK309.out)
        have n2_ := aM (kD BK310.out)
        have n3_ := aM (kD BK341.out)
        have n4_ := aM (bD HB.out)
        clear HO344
        clear BK309
        clear BK310
        clear BK341
        clear HB
        have HO344 := n0_
        have BK309 := n1_
        have BK310 := n2_
        have BK341 := n3_
        have HB := n4_
        clear n0_ n1_ n2_ n3_ n4_
        obtain ⟨Ao82, co82, eo82⟩ := Kd.R_slice HO344.out
        (first | subst eo82 | (injection eo82 with f1_ f2_ f3_; have f4_ := f1_.symm; have f5_ := f3_.symm; clear f1_ f2_ f3_; subst f4_; subst f5_))
        have q81 : ((ji57) : Int) ≤ ((t342.length : Int) : Int) := of_decide_eq_true (by first | (with_reducible assumption) | assumption)
        obtain ⟨i081, hi081, _, hsz81, _⟩ := info_parts info2
        have hroom81 : t342.length ≤ co82 := (rR HO344.out).2.1
        have hC81 : Kd.F (Kd.int .i64) _ _ Ao82 t342.length t342 := (Kd.V_at (base := w.heap.size) (Kd.R_V (Kd.R_types (Kd.R_types (HO344.out) BK310.out (by decide)) BK341.out (by decide)))).2.2
        have hcut81 := cut_to (P := Try.prog) 22 2 .i64 Try.underlying22 hi081 Ao82 t342.length co82 (ji57) (of_decide_eq_true (by first | (with_reducible assumption) | assumption)) q81 hroom81
        have hr81 := Kd.F_take (m := ((ji57) : Int).toNat) hC81 (by omega)
        have hy81 : y353.length = ((ji57) : Int).toNat := (by rw [Ny353.out, List.length_take]; omega)
        rw [← Ny353.out] at hr81
        rw [← hy81] at hcut81
        have HO357 := aM (show Kd.V (Kd.int .i64) 2 _ w.heap.size _ (.slice Ao82 y353.length co82) y353 from Kd.V_mk (by omega) hr81)
        have HC357 := aM (show y353.length ≤ co82 from by omega)
        clear hr81 hC81 hroom81 hi081 hsz81
        have KY81 := aM hy81
        clear hy81
        replace q81 := eq_true q81
        refine start_ (n := 15) (S := fun w' => w'.cell? ⟨gb341, 0, none⟩ = some (.func (.func 98) #[] #[]) ∧ w'.cell? ⟨gb341, 1, none⟩ = some (.func (.func 100) #[] #[])) (ds := []) #[N,N,N,N,N,N,N,N,N,N,N,N,N,N,N] (by kernel_rfl) rfl rfl ⟨(kC BK341.out 0).trans rfl, (kC BK341.out 1).trans rfl⟩ (fun hHeld => ?_); refine with_tabW impl_FrameBounds.tab8 impl_FrameBounds.bits8 (fun HT_ HW_ => ?_)
        generalize w79.drew = w80 at HO344 BK309 BK310 BK341 HB HO357 hHeld ⊢
        refine pure_ (i := 1) (N := some 57) (v := ?_) (a' := ?_) #[N,Y,N,N,N,N,N,N,N,N,N,N,N,N,N] rfl rfl (any_of HT_.out (by kernel_rfl)) (fun _ _ _ h => h) (Or.inl ⟨by rfl, ?_⟩) ?_ ?_
        rotate_left
        ·intro w'
         go_simp
         with_reducible rfl
        rotate_left
        ·simp only [Act.put, pa, pb, pc, i64_w, i32_w]
         rfl
        refine pure_ (i := 3) (N := some 59) (v := ?_) (a' := ?_) #[N,Y,N,Y,N,N,N,N,N,N,N,N,N,N,N] rfl rfl (any_of HT_.out (by kernel_rfl)) (fun _ _ _ h => h) (Or.inl ⟨by rfl, ?_⟩) ?_ ?_
        rotate_left
        ·intro w'
         go_simp
         with_reducible rfl
        rotate_left
        ·simp only [Act.put, pa, pb, pc, i64_w, i32_w]
         rfl
        refine pure_ (i := 5) (N := some 61) (v := ?_) (a' := ?_) #[N,Y,N,Y,N,Y,N,N,N,N,N,N,N,N,N] rfl rfl (any_of HT_.out (by kernel_rfl)) (fun _ _ _ h => h) (Or.inl ⟨by rfl, ?_⟩) ?_ ?_
        rotate_left
        ·intro w'
         go_simp
         with_reducible rfl
        rotate_left
        ·simp only [Act.put, pa, pb, pc, i64_w, i32_w]
         rfl
        refine pure_ (i := 6) (N := some 62) (v := ?_) (a' := ?_) #[N,Y,N,Y,N,Y,Y,N,N,N,N,N,N,N,N] rfl rfl (any_of HT_.out (by kernel_rfl)) (fun _ _ _ h => h) (Or.inl ⟨by rfl, ?_⟩) ?_ ?_
        rotate_left
        ·intro w'
         go_simp
         with_reducible rfl
        rotate_left
        ·simp only [Act.put, pa, pb, pc, i64_w, i32_w]
         rfl
        refine pure_ (i := 7) (N := some 63) (v := ?_) (a' := ?_) #[N,Y,N,Y,N,Y,Y,Y,N,N,N,N,N,N,N] rfl rfl (any_of HT_.out (by kernel_rfl)) (fun _ _ _ h => h) (Or.inl ⟨by rfl, ?_⟩) ?_ ?_
        rotate_left
        ·intro w'
         go_simp
         with_reducible rfl
        rotate_left
        ·simp only [Act.put, pa, pb, pc, i64_w, i32_w]
         rfl
        refine pure_ (i := 8) (N := some 64) (v := ?_) (a' := ?_) #[N,Y,N,Y,N,Y,Y,Y,Y,N,N,N,N,N,N] rfl rfl (any_of HT_.out (by kernel_rfl)) (fun _ _ _ h => h) (Or.inl ⟨by rfl, ?_⟩) ?_ ?_
        rotate_left
        ·intro w'
         go_simp
         with_reducible rfl
        rotate_left
        ·simp only [Act.put, pa, pb, pc, i64_w, i32_w]
         rfl
        refine take_ (i := 0) (N := some 56) (v := ?_) (a' := ?_) #[Y,Y,N,Y,N,Y,Y,Y,Y,N,N,N,N,N,N] rfl rfl (take_ofW HT_.out HW_.out (by kernel_rfl)) (fun _ _ _ h => h) (Or.inl ⟨by rfl, ?_⟩) hHeld ?_ ?_
        rotate_left
        ·rintro w' ⟨s0, s1⟩
         go_simp
         with_reducible rfl
        rotate_left
        ·simp only [Act.put, pa, pb, pc, i64_w, i32_w]
         rfl
        refine one_ (i := 2) (N := some 58) #[Y,Y,Y,Y,N,Y,Y,Y,Y,N,N,N,N,N,N] rfl rfl (one_of HT_.out (by kernel_rfl)) (by decide) (fun K hK => ?_)
        refine goes_ Try.func52 (by kernel_rfl) rfl #[.agg #[.func (.func 98) #[] #[], .func (.func 100) #[] #[]], .slice A1 l1.length c1] (by rfl) rfl rfl mq ?_
        with_reducible refine (impl_undo_gather.calls kj4 _ _ impl_ofBounds_1.f _ _ impl_partBounds.f _ _ l1 t345 _ ?side1 ?side2 ?side3 ?side4 A56.out).mono ?_
        (case side1 => exact ok4_ofBounds_1 _)
        (case side2 => exact ok2_partBounds _)
        (case side3 => exact cq (cB HR1.out HB.out))
        (case side4 => exact HC1.out)
        rintro e w83 ⟨v346, rfl, ho0, hb⟩
        refine ⟨_, rfl, ?_⟩
        have n0_ := aM (rH (rq HO344.out) (rB ho0) hb)
        have n1_ := aM (Kd.V_elder' (vq HO357.out) (rB ho0) hb)
        have n2_ := aM (rG (Kd.R_newB (rW ho0 (rT (rq HO344.out))) (g := gb309) (o := .cells #[.int .i64 a0] 2 (0, 0)) (kq BK309.out)) (bZ bq))
        have n3_ := aM (kB (g := gb309) (o := .cells #[.int .i64 a0] 2 (0, 0)) (kq BK309.out) hb)
        have n4_ := aM (kB (g := gb310) (o := .cells #[.int .i64 0, .slice none 0 0] 24 (0, 0)) (kq BK310.out) hb)
        have n5_ := aM (kB (g := gb341) (o := .cells #[.func (.func 98) #[] #[], .func (.func 100) #[] #[]] 87 (0, 0)) (kq BK341.out) hb)
        have n6_ := aM (bT bq hb)
        clear HO344
        clear HO357
        clear BK309
        clear BK310
        clear BK341
        clear HB
        have HO344 := n0_
        have HO357 := n1_
        have HO347 := n2_
        have BK309 := n3_
        have BK310 := n4_
        have BK341 := n5_
        have HB := n6_
        clear n0_ n1_ n2_ n3_ n4_ n5_ n6_
        (try clear hb)
        (try clear hb2)
        (try clear hk)
        (try clear hi)
        (try clear ho0)
        obtain ⟨Ao85, co85, eo85⟩ := Kd.R_slice HO347.out
        (first | subst eo85 | (injection eo85 with f1_ f2_ f3_; have f4_ := f1_.symm; have f5_ := f3_.symm; clear f1_ f2_ f3_; subst f4_; subst f5_))
        have q84 : ((ji57) : Int) ≤ ((t345.length : Int) : Int) := of_decide_eq_true (by first | (with_reducible assumption) | assumption)
        obtain ⟨i084, hi084, _, hsz84, _⟩ := info_parts info2
        have hroom84 : t345.length ≤ co85 := (rR HO347.out).2.1
        have hC84 : Kd.F (Kd.int .i64) _ _ Ao85 t345.length t345 := (Kd.V_at (base := w.heap.size) (Kd.R_V (Kd.R_types (Kd.R_types (HO347.out) BK310.out (by decide)) BK341.out (by decide)))).2.2
        have q084 : (0 : Int) ≤ ((ji57) : Int) := of_decide_eq_true (by first | (with_reducible assumption) | assumption)
        have hcut84 := cut_from (P := Try.prog) 22 2 .i64 Try.underlying22 hi084 1 hsz84 Ao85 t345.length co85 (ji57) q084 q84
        have hr84 := Kd.F_cut (m := ((ji57) : Int).toNat) (c := co85) hC84 (by omega) hroom84
        obtain ⟨A84, hA84⟩ : ∃ A1, A1 = (if co85 = ((ji57) : Int).toNat then Ao85 else (Ao85 : Option Addr).map (·.add (((ji57) : Int).toNat * 1))) := ⟨_, rfl⟩
        obtain ⟨c84, hc84⟩ : ∃ c1, c1 = co85 - ((ji57) : Int).toNat := ⟨_, rfl⟩
        have hy84 : y348.length = t345.length - ((ji57) : Int).toNat := (by rw [Ny348.out, List.length_drop] <;> omega)
        rw [show (t345).drop ((ji57) : Int).toNat = y348 from Ny348.out.symm] at hr84
        replace hr84 : Kd.F (Kd.int .i64) _ _ A84 y348.length y348 := (by rw [hA84]; exact hr84)
        rw [← hy84, ← hA84, ← hc84] at hcut84
        have HO352 := aM (show Kd.V (Kd.int .i64) 2 _ w.heap.size _ (.slice A84 y348.length c84) y348 from Kd.V_mk (by rw [hy84, hc84]; exact Nat.sub_le_sub_right hroom84 _) hr84)
        have HC352 := aM (show y348.length ≤ c84 from by rw [hy84, hc84]; exact Nat.sub_le_sub_right hroom84 _)
        clear hr84 hC84 hroom84 hi084 hsz84 hc84
        have KY84 := aM hy84
        have KA84 := aM hA84
        clear hy84 hA84
        replace q84 := eq_true q84
        refine hK.out _ _ ⟨(kC BK341.out 0).trans rfl, (kC BK341.out 1).trans rfl⟩ (fun hHeld => ?_)
        clear hK K
        refine norm_ (a' := ?_) ?_ ?_
        rotate_left
        ·show Act.put _ (some 58) _ = _
         simp only [Act.put, pa, pb, pc, i64_w, i32_w]
         rfl
        refine pure_ (i := 4) (N := some 60) (v := ?_) (a' := ?_) #[Y,Y,Y,Y,Y,Y,Y,Y,Y,N,N,N,N,N,N] rfl rfl (any_of HT_.out (by kernel_rfl)) (fun _ _ _ h => h) (Or.inl ⟨by rfl, ?_⟩) ?_ ?_
        rotate_left
        ·intro w'
         go_simp
         with_reducible rfl
        rotate_left
        ·simp only [Act.put, pa, pb, pc, i64_w, i32_w]
         rfl
        refine one_ (i := 9) (N := some 65) #[Y,Y,Y,Y,Y,Y,Y,Y,Y,Y,N,N,N,N,N] rfl rfl (one_of HT_.out (by kernel_rfl)) (by decide) (fun K hK => ?_)
        refine goes_ Try.func53 (by kernel_rfl) rfl #[.slice A84 y348.length c84, .slice Ao82 y353.length co82, .func (.func 51) #[] #[.pointer (some ⟨gb341, 0, none⟩), .pointer (some ⟨gb309, 0, none⟩)]] (by rfl) rfl rfl mq ?_
        with_reducible refine (impl_seam.calls kj4 _ _ y348 _ _ y353 _ _ (impl_ofBounds_1.f a0) t358 t359 _ ?side1 ?side2 ?side3 ?side4 ?side5 A62.out).mono ?_
        (case side1 => exact cq (Kd.V_reads' HO352.out).2.2)
        (case side2 => exact (Kd.V_reads' HO352.out).2.1)
        (case side3 => exact cq (Kd.V_reads' HO357.out).2.2)
        (case side4 => exact (Kd.V_reads' HO357.out).2.1)
        (case side5 => exact (ok3_FrameBounds_2 gb341 gb309 _ _ _ _ _ ((kC (kq BK341.out) 0).trans rfl) ((kC (kq BK309.out) 0).trans rfl) (ok4_ofBounds_1 _)))
        rintro e w86 ⟨v360, v362, rfl, ho0, ho1, hb⟩
        refine ⟨_, rfl, ?_⟩
        have n0_ := aM (rM (rO (rO (rE (rq HO344.out) hb) (rB ho0)) (rB ho1)) (fun _ h_ => h_.1))
        have n1_ := aM (Kd.V_mono (Kd.V_told (Kd.V_told (Kd.V_old (vq HO357.out) hb) (rB ho0)) (rB ho1)) (fun _ h_ => h_.1))
        have n2_ := aM (rM (rO (rO (rE (rq HO347.out) hb) (rB ho0)) (rB ho1)) (fun _ h_ => h_.1))
        have n3_ := aM (Kd.V_mono (Kd.V_told (Kd.V_told (Kd.V_old (vq HO352.out) hb) (rB ho0)) (rB ho1)) (fun _ h_ => h_.1))
        have n4_ := aM (rG (Kd.R_newB (rW (rW ho0 (rT (rq HO344.out))) (rT (rq HO347.out))) (g := gb309) (o := .cells #[.int .i64 a0] 2 (0, 0)) (kq BK309.out)) (bZ bq))
        have n5_ := aM (rG (Kd.R_newB (rW (rW ho1 (rT (rq HO344.out))) (rT (rq HO347.out))) (g := gb309) (o := .cells #[.int .i64 a0] 2 (0, 0)) (kq BK309.out)) (bZ bq))
        have n6_ := aM (kB (g := gb309) (o := .cells #[.int .i64 a0] 2 (0, 0)) (kq BK309.out) hb)
        have n7_ := aM (kB (g := gb310) (o := .cells #[.int .i64 0, .slice none 0 0] 24 (0, 0)) (kq BK310.out) hb)
        have n8_ := aM (kB (g := gb341) (o := .cells #[.func (.func 98) #[] #[], .func (.func 100) #[] #[]] 87 (0, 0)) (kq BK341.out) hb)
        have n9_ := aM (bT bq hb)
        clear HO344
        clear HO357
        clear HO347
        clear HO352
        clear BK309
        clear BK310
        clear BK341
        clear HB
        have HO344 := n0_
        have HO357 := n1_
        have HO347 := n2_
        have HO352 := n3_
        have HO361 := n4_
        have HO363 := n5_
        have BK309 := n6_
        have BK310 := n7_
        have BK341 := n8_
        have HB := n9_
        clear n0_ n1_ n2_ n3_ n4_ n5_ n6_ n7_ n8_ n9_
        (try clear hb)
        (try clear hb2)
        (try clear hk)
        (try clear hi)
        (try clear ho0)
        (try clear ho1)
        refine hK.out _ _ ⟨(kC BK341.out 0).trans rfl, (kC BK341.out 1).trans rfl⟩ (fun hHeld => ?_)
        clear hK K
        refine norm_ (a' := ?_) ?_ ?_
        rotate_left
        ·show Act.put _ (some 65) _ = _
         simp only [Act.put, pa, pb, pc, i64_w, i32_w]
         rfl
        refine pure_ (i := 10) (N := some 55) (v := ?_) (a' := ?_) #[Y,Y,Y,Y,Y,Y,Y,Y,Y,Y,Y,N,N,N,N] rfl rfl (any_of HT_.out (by kernel_rfl)) (fun _ _ _ h => h) (Or.inl ⟨by rfl, ?_⟩) ?_ ?_
        rotate_left
        ·intro w'
         go_simp
         with_reducible rfl
        rotate_left
        ·simp only [Act.put, pa, pb, pc, i64_w, i32_w]
         rfl
        refine pure_ (i := 11) (N := some 66) (v := ?_) (a' := ?_) #[Y,Y,Y,Y,Y,Y,Y,Y,Y,Y,Y,Y,N,N,N] rfl rfl (any_of HT_.out (by kernel_rfl)) (fun _ _ _ h => h) (Or.inl ⟨by rfl, ?_⟩) ?_ ?_
        rotate_left
        ·intro w'
         go_simp
         with_reducible rfl
        rotate_left
        ·simp only [Act.put, pa, pb, pc, i64_w, i32_w]
         rfl
        refine pure_ (i := 12) (N := some 67) (v := ?_) (a' := ?_) #[Y,Y,Y,Y,Y,Y,Y,Y,Y,Y,Y,Y,Y,N,N] rfl rfl (any_of HT_.out (by kernel_rfl)) (fun _ _ _ h => h) (Or.inl ⟨by rfl, ?_⟩) ?_ ?_
        rotate_left
        ·intro w'
         go_simp
         with_reducible rfl
        rotate_left
        ·simp only [Act.put, pa, pb, pc, i64_w, i32_w]
         rfl
        refine pure_ (i := 13) (N := some 15) (v := ?_) (a' := ?_) #[Y,Y,Y,Y,Y,Y,Y,Y,Y,Y,Y,Y,Y,Y,N] rfl rfl (any_of HT_.out (by kernel_rfl)) (fun _ _ _ h => h) (Or.inl ⟨by rfl, ?_⟩) ?_ ?_
        rotate_left
        ·intro w'
         go_simp
         with_reducible rfl
        rotate_left
        ·simp only [Act.put, pa, pb, pc, i64_w, i32_w]
         rfl
        refine pure_ (i := 14) (N := some 16) (v := ?_) (a' := ?_) #[Y,Y,Y,Y,Y,Y,Y,Y,Y,Y,Y,Y,Y,Y,Y] rfl rfl (any_of HT_.out (by kernel_rfl)) (fun _ _ _ h => h) (Or.inl ⟨by rfl, ?_⟩) ?_ ?_
        rotate_left
        ·intro w'
         go_simp
         with_reducible rfl
        rotate_left
        ·simp only [Act.put, pa, pb, pc, i64_w, i32_w]
         rfl
        refine done_ (done_of HT_.out (by kernel_rfl)) ?_
        try go_wp2
        have n0_ := aM (rD HO344.out)
        have n1_ := aM (Kd.V_drew HO357.out)
        have n2_ := aM (rD HO347.out)
        have n3_ := aM (Kd.V_drew HO352.out)
        have n4_ := aM (rD HO361.out)
        have n5_ := aM (rD HO363.out)
        have n6_ := aM (kD BK309.out)
        have n7_ := aM (kD BK310.out)
        have n8_ := aM (kD BK341.out)
        have n9_ := aM (bD HB.out)
        clear HO344
        clear HO357
        clear HO347
        clear HO352
        clear HO361
        clear HO363
        clear BK309
        clear BK310
        clear BK341
        clear HB
        have HO344 := n0_
        have HO357 := n1_
        have HO347 := n2_
        have HO352 := n3_
        have HO361 := n4_
        have HO363 := n5_
        have BK309 := n6_
        have BK310 := n7_
        have BK341 := n8_
        have HB := n9_
        clear n0_ n1_ n2_ n3_ n4_ n5_ n6_ n7_ n8_ n9_
        have q88 : ((ji57) : Int) ≤ ((t342.length : Int) : Int) := of_decide_eq_true (by first | (with_reducible assumption) | assumption)
        obtain ⟨i088, hi088, _, hsz88, _⟩ := info_parts info2
        have hroom88 : t342.length ≤ co82 := (rR HO344.out).2.1
        have hC88 : Kd.F (Kd.int .i64) _ _ Ao82 t342.length t342 := (Kd.V_at (base := w.heap.size) (Kd.R_V (Kd.R_types (Kd.R_types (HO344.out) BK310.out (by decide)) BK341.out (by decide)))).2.2
        have q088 : (0 : Int) ≤ ((ji57) : Int) := of_decide_eq_true (by first | (with_reducible assumption) | assumption)
        have hcut88 := cut_from (P := Try.prog) 22 2 .i64 Try.underlying22 hi088 1 hsz88 Ao82 t342.length co82 (ji57) q088 q88
        have hr88 := Kd.F_cut (m := ((ji57) : Int).toNat) (c := co82) hC88 (by omega) hroom88
        obtain ⟨A88, hA88⟩ : ∃ A1, A1 = (if co82 = ((ji57) : Int).toNat then Ao82 else (Ao82 : Option Addr).map (·.add (((ji57) : Int).toNat * 1))) := ⟨_, rfl⟩
        obtain ⟨c88, hc88⟩ : ∃ c1, c1 = co82 - ((ji57) : Int).toNat := ⟨_, rfl⟩
        have hy88 : y364.length = t342.length - ((ji57) : Int).toNat := (by rw [Ny364.out, List.length_drop] <;> omega)
        rw [show (t342).drop ((ji57) : Int).toNat = y364 from Ny364.out.symm] at hr88
        replace hr88 : Kd.F (Kd.int .i64) _ _ A88 y364.length y364 := (by rw [hA88]; exact hr88)
        rw [← hy88, ← hA88, ← hc88] at hcut88
        have HO368 := aM (show Kd.V (Kd.int .i64) 2 _ w.heap.size _ (.slice A88 y364.length c88) y364 from Kd.V_mk (by rw [hy88, hc88]; exact Nat.sub_le_sub_right hroom88 _) hr88)
        have HC368 := aM (show y364.length ≤ c88 from by rw [hy88, hc88]; exact Nat.sub_le_sub_right hroom88 _)
        clear hr88 hC88 hroom88 hi088 hsz88 hc88
        have KY88 := aM hy88
        have KA88 := aM hA88
        clear hy88 hA88
        replace q88 := eq_true q88
        refine start_ (n := 15) (S := fun w' => w'.cell? ⟨gb341, 0, none⟩ = some (.func (.func 98) #[] #[]) ∧ w'.cell? ⟨gb341, 1, none⟩ = some (.func (.func 100) #[] #[])) (ds := []) #[N,N,N,N,N,N,N,N,N,N,N,N,N,N,N] (by kernel_rfl) rfl rfl ⟨(kC BK341.out 0).trans rfl, (kC BK341.out 1).trans rfl⟩ (fun hHeld => ?_); refine with_tabW impl_FrameBounds.tab9 impl_FrameBounds.bits9 (fun HT_ HW_ => ?_)
        generalize w86.drew = w87 at HO344 HO357 HO347 HO352 HO361 HO363 BK309 BK310 BK341 HB HO368 hHeld ⊢
        refine pure_ (i := 0) (N := some 69) (v := ?_) (a' := ?_) #[Y,N,N,N,N,N,N,N,N,N,N,N,N,N,N] rfl rfl (any_of HT_.out (by kernel_rfl)) (fun _ _ _ h => h) (Or.inl ⟨by rfl, ?_⟩) ?_ ?_
        rotate_left
        ·intro w'
         go_simp
         with_reducible rfl
        rotate_left
        ·simp only [Act.put, pa, pb, pc, i64_w, i32_w]
         rfl
        refine pure_ (i := 1) (N := some 70) (v := ?_) (a' := ?_) #[Y,Y,N,N,N,N,N,N,N,N,N,N,N,N,N] rfl rfl (any_of HT_.out (by kernel_rfl)) (fun _ _ _ h => h) (Or.inl ⟨by rfl, ?_⟩) ?_ ?_
        rotate_left
        ·intro w'
         go_simp
         with_reducible rfl
        rotate_left
        ·simp only [Act.put, pa, pb, pc, i64_w, i32_w]
         rfl
        refine pure_ (i := 2) (N := some 71) (v := ?_) (a' := ?_) #[Y,Y,Y,N,N,N,N,N,N,N,N,N,N,N,N] rfl rfl (any_of HT_.out (by kernel_rfl)) (fun _ _ _ h => h) (Or.inl ⟨by rfl, ?_⟩) ?_ ?_
        rotate_left
        ·intro w'
         go_simp
         with_reducible rfl
        rotate_left
        ·simp only [Act.put, pa, pb, pc, i64_w, i32_w]
         rfl
        refine pure_ (i := 4) (N := some 73) (v := ?_) (a' := ?_) #[Y,Y,Y,N,Y,N,N,N,N,N,N,N,N,N,N] rfl rfl (any_of HT_.out (by kernel_rfl)) (fun _ _ _ h => h) (Or.inl ⟨by rfl, ?_⟩) ?_ ?_
        rotate_left
        ·intro w'
         go_simp
         with_reducible rfl
        rotate_left
        ·simp only [Act.put, pa, pb, pc, i64_w, i32_w]
         rfl
        refine pure_ (i := 6) (N := some 75) (v := ?_) (a' := ?_) #[Y,Y,Y,N,Y,N,Y,N,N,N,N,N,N,N,N] rfl rfl (any_of HT_.out (by kernel_rfl)) (fun _ _ _ h => h) (Or.inl ⟨by rfl, ?_⟩) ?_ ?_
        rotate_left
        ·intro w'
         go_simp
         with_reducible rfl
        rotate_left
        ·simp only [Act.put, pa, pb, pc, i64_w, i32_w]
         rfl
        refine pure_ (i := 8) (N := some 77) (v := ?_) (a' := ?_) #[Y,Y,Y,N,Y,N,Y,N,Y,N,N,N,N,N,N] rfl rfl (any_of HT_.out (by kernel_rfl)) (fun _ _ _ h => h) (Or.inl ⟨by rfl, ?_⟩) ?_ ?_
        rotate_left
        ·intro w'
         go_simp
         with_reducible rfl
        rotate_left
        ·simp only [Act.put, pa, pb, pc, i64_w, i32_w]
         rfl
        refine take_ (i := 3) (N := some 72) (v := ?_) (a' := ?_) #[Y,Y,Y,Y,Y,N,Y,N,Y,N,N,N,N,N,N] rfl rfl (take_ofW HT_.out HW_.out (by kernel_rfl)) (fun _ _ _ h => h) (Or.inl ⟨by rfl, ?_⟩) hHeld ?_ ?_
        rotate_left
        ·rintro w' ⟨s0, s1⟩
         go_simp
         with_reducible rfl
        rotate_left
        ·simp only [Act.put, pa, pb, pc, i64_w, i32_w]
         rfl
        refine one_ (i := 5) (N := some 74) #[Y,Y,Y,Y,Y,Y,Y,N,Y,N,N,N,N,N,N] rfl rfl (one_of HT_.out (by kernel_rfl)) (by decide) (fun K hK => ?_)
        refine goes_ Try.func52 (by kernel_rfl) rfl #[.agg #[.func (.func 98) #[] #[], .func (.func 100) #[] #[]], .slice A3 l3.length c3] (by rfl) rfl rfl mq ?_
        with_reducible refine (impl_undo_gather.calls kj4 _ _ impl_ofBounds_1.f _ _ impl_partBounds.f _ _ l3 t369 _ ?side1 ?side2 ?side3 ?side4 A65.out).mono ?_
        (case side1 => exact ok4_ofBounds_1 _)
        (case side2 => exact ok2_partBounds _)
        (case side3 => exact cq (cB HR3.out HB.out))
        (case side4 => exact HC3.out)
        rintro e w89 ⟨v370, rfl, ho0, hb⟩
        refine ⟨_, rfl, ?_⟩
        have n0_ := aM (rH (rq HO344.out) (rB ho0) hb)
        have n1_ := aM (Kd.V_elder' (vq HO357.out) (rB ho0) hb)
        have n2_ := aM (rH (rq HO347.out) (rB ho0) hb)
        have n3_ := aM (Kd.V_elder' (vq HO352.out) (rB ho0) hb)
        have n4_ := aM (rH (rq HO361.out) (rB ho0) hb)
        have n5_ := aM (rH (rq HO363.out) (rB ho0) hb)
        have n6_ := aM (Kd.V_elder' (vq HO368.out) (rB ho0) hb)
        have n7_ := aM (rG (Kd.R_newB (rW (rW (rW (rW ho0 (rT (rq HO344.out))) (rT (rq HO347.out))) (rT (rq HO361.out))) (rT (rq HO363.out))) (g := gb309) (o := .cells #[.int .i64 a0] 2 (0, 0)) (kq BK309.out)) (bZ bq))
        have n8_ := aM (kB (g := gb309) (o := .cells #[.int .i64 a0] 2 (0, 0)) (kq BK309.out) hb)
        have n9_ := aM (kB (g := gb310) (o := .cells #[.int .i64 0, .slice none 0 0] 24 (0, 0)) (kq BK310.out) hb)
        have n10_ := aM (kB (g := gb341) (o := .cells #[.func (.func 98) #[] #[], .func (.func 100) #[] #[]] 87 (0, 0)) (kq BK341.out) hb)
        have n11_ := aM (bT bq hb)
        clear HO344
        clear HO357
        clear HO347
        clear HO352
        clear HO361
        clear HO363
        clear HO368
        clear BK309
        clear BK310
        clear BK341
        clear HB
        have HO344 := n0_
        have HO357 := n1_
        have HO347 := n2_
        have HO352 := n3_
        have HO361 := n4_
        have HO363 := n5_
        have HO368 := n6_
        have HO371 := n7_
        have BK309 := n8_
        have BK310 := n9_
        have BK341 := n10_
        have HB := n11_
        clear n0_ n1_ n2_ n3_ n4_ n5_ n6_ n7_ n8_ n9_ n10_ n11_
        (try clear hb)
        (try clear hb2)
        (try clear hk)
        (try clear hi)
        (try clear ho0)
        obtain ⟨Ao91, co91, eo91⟩ := Kd.R_slice HO371.out
        (first | subst eo91 | (injection eo91 with f1_ f2_ f3_; have f4_ := f1_.symm; have f5_ := f3_.symm; clear f1_ f2_ f3_; subst f4_; subst f5_))
        have q90 : ((ji57) : Int) ≤ ((t369.length : Int) : Int) := of_decide_eq_true (by first | (with_reducible assumption) | assumption)
        obtain ⟨i090, hi090, _, hsz90, _⟩ := info_parts info2
        have hroom90 : t369.length ≤ co91 := (rR HO371.out).2.1
        have hC90 : Kd.F (Kd.int .i64) _ _ Ao91 t369.length t369 := (Kd.V_at (base := w.heap.size) (Kd.R_V (Kd.R_types (Kd.R_types (HO371.out) BK310.out (by decide)) BK341.out (by decide)))).2.2
        have hcut90 := cut_to (P := Try.prog) 22 2 .i64 Try.underlying22 hi090 Ao91 t369.length co91 (ji57) (of_decide_eq_true (by first | (with_reducible assumption) | assumption)) q90 hroom90
        have hr90 := Kd.F_take (m := ((ji57) : Int).toNat) hC90 (by omega)
        have hy90 : y372.length = ((ji57) : Int).toNat := (by rw [Ny372.out, List.length_take]; omega)
        rw [← Ny372.out] at hr90
        rw [← hy90] at hcut90
        have HO376 := aM (show Kd.V (Kd.int .i64) 2 _ w.heap.size _ (.slice Ao91 y372.length co91) y372 from Kd.V_mk (by omega) hr90)
        have HC376 := aM (show y372.length ≤ co91 from by omega)
        clear hr90 hC90 hroom90 hi090 hsz90
        have KY90 := aM hy90
        clear hy90
        replace q90 := eq_true q90
        refine hK.out _ _ ⟨(kC BK341.out 0).trans rfl, (kC BK341.out 1).trans rfl⟩ (fun hHeld => ?_)
        clear hK K
        refine norm_ (a' := ?_) ?_ ?_
        rotate_left
        ·show Act.put _ (some 74) _ = _
         simp only [Act.put, pa, pb, pc, i64_w, i32_w]
         rfl
        refine pure_ (i := 7) (N := some 76) (v := ?_) (a' := ?_) #[Y,Y,Y,Y,Y,Y,Y,Y,Y,N,N,N,N,N,N] rfl rfl (any_of HT_.out (by kernel_rfl)) (fun _ _ _ h => h) (Or.inl ⟨by rfl, ?_⟩) ?_ ?_
        rotate_left
        ·intro w'
         go_simp
         with_reducible rfl
        rotate_left
        ·simp only [Act.put, pa, pb, pc, i64_w, i32_w]
         rfl
        refine one_ (i := 9) (N := some 78) #[Y,Y,Y,Y,Y,Y,Y,Y,Y,Y,N,N,N,N,N] rfl rfl (one_of HT_.out (by kernel_rfl)) (by decide) (fun K hK => ?_)
        refine goes_ Try.func53 (by kernel_rfl) rfl #[.slice A88 y364.length c88, .slice Ao91 y372.length co91, .func (.func 51) #[] #[.pointer (some ⟨gb341, 0, none⟩), .pointer (some ⟨gb309, 0, none⟩)]] (by rfl) rfl rfl mq ?_
        with_reducible refine (impl_seam.calls kj4 _ _ y364 _ _ y372 _ _ (impl_ofBounds_1.f a0) t377 t378 _ ?side1 ?side2 ?side3 ?side4 ?side5 A68.out).mono ?_
        (case side1 => exact cq (Kd.V_reads' HO368.out).2.2)
        (case side2 => exact (Kd.V_reads' HO368.out).2.1)
        (case side3 => exact cq (Kd.V_reads' HO376.out).2.2)
        (case side4 => exact (Kd.V_reads' HO376.out).2.1)
        (case side5 => exact (ok3_FrameBounds_2 gb341 gb309 _ _ _ _ _ ((kC (kq BK341.out) 0).trans rfl) ((kC (kq BK309.out) 0).trans rfl) (ok4_ofBounds_1 _)))
        rintro e w92 ⟨v379, v381, rfl, ho0, ho1, hb⟩
        refine ⟨_, rfl, ?_⟩
        have n0_ := aM (rM (rO (rO (rE (rq HO344.out) hb) (rB ho0)) (rB ho1)) (fun _ h_ => h_.1))
        have n1_ := aM (Kd.V_mono (Kd.V_told (Kd.V_told (Kd.V_old (vq HO357.out) hb) (rB ho0)) (rB ho1)) (fun _ h_ => h_.1))
        have n2_ := aM (rM (rO (rO (rE (rq HO347.out) hb) (rB ho0)) (rB ho1)) (fun _ h_ => h_.1))
        have n3_ := aM (Kd.V_mono (Kd.V_told (Kd.V_told (Kd.V_old (vq HO352.out) hb) (rB ho0)) (rB ho1)) (fun _ h_ => h_.1))
        have n4_ := aM (rM (rO (rO (rE (rq HO361.out) hb) (rB ho0)) (rB ho1)) (fun _ h_ => h_.1))
        have n5_ := aM (rM (rO (rO (rE (rq HO363.out) hb) (rB ho0)) (rB ho1)) (fun _ h_ => h_.1))
        have n6_ := aM (Kd.V_mono (Kd.V_told (Kd.V_told (Kd.V_old (vq HO368.out) hb) (rB ho0)) (rB ho1)) (fun _ h_ => h_.1))
        have n7_ := aM (rM (rO (rO (rE (rq HO371.out) hb) (rB ho0)) (rB ho1)) (fun _ h_ => h_.1))
        have n8_ := aM (Kd.V_mono (Kd.V_told (Kd.V_told (Kd.V_old (vq HO376.out) hb) (rB ho0)) (rB ho1)) (fun _ h_ => h_.1))
        have n9_ := aM (rG (Kd.R_newB (rW (rW (rW (rW (rW ho0 (rT (rq HO344.out))) (rT (rq HO347.out))) (rT (rq HO361.out))) (rT (rq HO363.out))) (rT (rq HO371.out))) (g := gb309) (o := .cells #[.int .i64 a0] 2 (0, 0)) (kq BK309.out)) (bZ bq))
        have n10_ := aM (rG (Kd.R_newB (rW (rW (rW (rW (rW ho1 (rT (rq HO344.out))) (rT (rq HO347.out))) (rT (rq HO361.out))) (rT (rq HO363.out))) (rT (rq HO371.out))) (g := gb309) (o := .cells #[.int .i64 a0] 2 (0, 0)) (kq BK309.out)) (bZ bq))
        have n11_ := aM (kB (g := gb309) (o := .cells #[.int .i64 a0] 2 (0, 0)) (kq BK309.out) hb)
        have n12_ := aM (kB (g := gb310) (o := .cells #[.int .i64 0, .slice none 0 0] 24 (0, 0)) (kq BK310.out) hb)
        have n13_ := aM (kB (g := gb341) (o := .cells #[.func (.func 98) #[] #[], .func (.func 100) #[] #[]] 87 (0, 0)) (kq BK341.out) hb)
        have n14_ := aM (bT bq hb)
        clear HO344
        clear HO357
        clear HO347
        clear HO352
        clear HO361
        clear HO363
        clear HO368
        clear HO371
        clear HO376
        clear BK309
        clear BK310
        clear BK341
        clear HB
        have HO344 := n0_
        have HO357 := n1_
        have HO347 := n2_
        have HO352 := n3_
        have HO361 := n4_
        have HO363 := n5_
        have HO368 := n6_
        have HO371 := n7_
        have HO376 := n8_
        have HO380 := n9_
        have HO382 := n10_
        have BK309 := n11_
        have BK310 := n12_
        have BK341 := n13_
        have HB := n14_
        clear n0_ n1_ n2_ n3_ n4_ n5_ n6_ n7_ n8_ n9_ n10_ n11_ n12_ n13_ n14_
        (try clear hb)
        (try clear hb2)
        (try clear hk)
        (try clear hi)
        (try clear ho0)
        (try clear ho1)
        refine hK.out _ _ ⟨(kC BK341.out 0).trans rfl, (kC BK341.out 1).trans rfl⟩ (fun hHeld => ?_)
        clear hK K
        refine norm_ (a' := ?_) ?_ ?_
        rotate_left
        ·show Act.put _ (some 78) _ = _
         simp only [Act.put, pa, pb, pc, i64_w, i32_w]
         rfl
        refine pure_ (i := 10) (N := some 68) (v := ?_) (a' := ?_) #[Y,Y,Y,Y,Y,Y,Y,Y,Y,Y,Y,N,N,N,N] rfl rfl (any_of HT_.out (by kernel_rfl)) (fun _ _ _ h => h) (Or.inl ⟨by rfl, ?_⟩) ?_ ?_
        rotate_left
        ·intro w'
         go_simp
         with_reducible rfl
        rotate_left
        ·simp only [Act.put, pa, pb, pc, i64_w, i32_w]
         rfl
        refine pure_ (i := 11) (N := some 79) (v := ?_) (a' := ?_) #[Y,Y,Y,Y,Y,Y,Y,Y,Y,Y,Y,Y,N,N,N] rfl rfl (any_of HT_.out (by kernel_rfl)) (fun _ _ _ h => h) (Or.inl ⟨by rfl, ?_⟩) ?_ ?_
        rotate_left
        ·intro w'
         go_simp
         with_reducible rfl
        rotate_left
        ·simp only [Act.put, pa, pb, pc, i64_w, i32_w]
         rfl
        refine pure_ (i := 12) (N := some 80) (v := ?_) (a' := ?_) #[Y,Y,Y,Y,Y,Y,Y,Y,Y,Y,Y,Y,Y,N,N] rfl rfl (any_of HT_.out (by kernel_rfl)) (fun _ _ _ h => h) (Or.inl ⟨by rfl, ?_⟩) ?_ ?_
        rotate_left
        ·intro w'
         go_simp
         with_reducible rfl
        rotate_left
        ·simp only [Act.put, pa, pb, pc, i64_w, i32_w]
         rfl
        refine pure_ (i := 13) (N := some 17) (v := ?_) (a' := ?_) #[Y,Y,Y,Y,Y,Y,Y,Y,Y,Y,Y,Y,Y,Y,N] rfl rfl (any_of HT_.out (by kernel_rfl)) (fun _ _ _ h => h) (Or.inl ⟨by rfl, ?_⟩) ?_ ?_
        rotate_left
        ·intro w'
         go_simp
         with_reducible rfl
        rotate_left
        ·simp only [Act.put, pa, pb, pc, i64_w, i32_w]
         rfl
        refine pure_ (i := 14) (N := some 18) (v := ?_) (a' := ?_) #[Y,Y,Y,Y,Y,Y,Y,Y,Y,Y,Y,Y,Y,Y,Y] rfl rfl (any_of HT_.out (by kernel_rfl)) (fun _ _ _ h => h) (Or.inl ⟨by rfl, ?_⟩) ?_ ?_
        rotate_left
        ·intro w'
         go_simp
         with_reducible rfl
        rotate_left
        ·simp only [Act.put, pa, pb, pc, i64_w, i32_w]
         rfl
        refine done_ (done_of HT_.out (by kernel_rfl)) ?_
        obtain ⟨Ao93, co93, eo93⟩ := Kd.R_slice HO363.out
        subst eo93
        obtain ⟨Ao94, co94, eo94⟩ := Kd.R_slice HO380.out
        subst eo94
        try go_wp2_with (first | ((with_reducible refine gate_dst (N := 83) rfl ?_); refine Kd.N_lit (Kd.slice 2 (Kd.int .i64)) _ 22 ?hg (N' := 83) ?hd (xs := ([t359, t377] : List (List Int))) (inner := [.slice Ao93 t359.length co93, .slice Ao94 t377.length co94]) (ok := (fun k_ => some k_ ≠ (.slice Ao82 t342.length co82 : Value).ownBlock ∧ some k_ ≠ (.slice Ao85 t345.length co85 : Value).ownBlock ∧ some k_ ≠ (v360 : Value).ownBlock ∧ some k_ ≠ (.slice Ao91 t369.length co91 : Value).ownBlock ∧ some k_ ≠ (v381 : Value).ownBlock ∧ k_ ≠ gb309 ∧ k_ ≠ gb310 ∧ k_ ≠ gb341)) (okp := (fun k_ => some k_ ≠ (.slice Ao82 t342.length co82 : Value).ownBlock ∧ some k_ ≠ (.slice Ao85 t345.length co85 : Value).ownBlock ∧ some k_ ≠ (v360 : Value).ownBlock ∧ some k_ ≠ (.slice Ao91 t369.length co91 : Value).ownBlock ∧ some k_ ≠ (v381 : Value).ownBlock ∧ k_ ≠ gb309 ∧ k_ ≠ gb310 ∧ k_ ≠ gb341)) ?hr ?hp (fun _ hk => hk) ((show ∀ k_, w92.heap.size ≤ k_ → (fun k_ => some k_ ≠ (.slice Ao82 t342.length co82 : Value).ownBlock ∧ some k_ ≠ (.slice Ao85 t345.length co85 : Value).ownBlock ∧ some k_ ≠ (v360 : Value).ownBlock ∧ some k_ ≠ (.slice Ao91 t369.length co91 : Value).ownBlock ∧ some k_ ≠ (v381 : Value).ownBlock ∧ k_ ≠ gb309 ∧ k_ ≠ gb310 ∧ k_ ≠ gb341) k_ from fun k_ hk => ⟨Kd.fresh' (rT (rq HO344.out)) k_ hk, Kd.fresh' (rT (rq HO347.out)) k_ hk, Kd.fresh' (rT (rq HO361.out)) k_ hk, Kd.fresh' (rT (rq HO371.out)) k_ hk, Kd.fresh' (rT (rq HO382.out)) k_ hk, Kd.freshB (g := gb309) (o := .cells #[.int .i64 a0] 2 (0, 0)) (kq BK309.out) k_ hk, Kd.freshB (g := gb310) (o := .cells #[.int .i64 0, .slice none 0 0] 24 (0, 0)) (kq BK310.out) k_ hk, Kd.freshB (g := gb341) (o := .cells #[.func (.func 98) #[] #[], .func (.func 100) #[] #[]] 87 (0, 0)) (kq BK341.out) k_ hk⟩) _ (Nat.le_refl _)) (Below.refl _ _) (Nat.le_refl _) (by simp) ?_; (case hd => rfl); (case hg => rfl); (case hr => first | (go_simp; done) | (go_simp; rfl)); (case hp => exact (Reps.one (show Kd.FK (Kd.slice 2 (Kd.int .i64)) _ _ t359 [.slice Ao93 t359.length co93] from (Kd.FK_slice_mk (rR (rM (ok' := (fun k_ => some k_ ≠ (.slice Ao82 t342.length co82 : Value).ownBlock ∧ some k_ ≠ (.slice Ao85 t345.length co85 : Value).ownBlock ∧ some k_ ≠ (v360 : Value).ownBlock ∧ some k_ ≠ (.slice Ao91 t369.length co91 : Value).ownBlock ∧ some k_ ≠ (v381 : Value).ownBlock ∧ k_ ≠ gb309 ∧ k_ ≠ gb310 ∧ k_ ≠ gb341)) (Kd.R_types (Kd.R_types (HO363.out) BK310.out (by decide)) BK341.out (by decide)) (fun k_ hk => ⟨hk.1.1.1.1.1.1.1.2, ⟨hk.1.1.1.1.1.1.2, ⟨hk.1.1.1.1.1.1.1.1, ⟨hk.1.1.1.1.2, ⟨hk.1.1.2, ⟨hk.1.1.1.1.1.2, ⟨hk.1.2, hk.2⟩⟩⟩⟩⟩⟩⟩))).2.1 (Kd.R_F (rM (ok' := (fun k_ => some k_ ≠ (.slice Ao82 t342.length co82 : Value).ownBlock ∧ some k_ ≠ (.slice Ao85 t345.length co85 : Value).ownBlock ∧ some k_ ≠ (v360 : Value).ownBlock ∧ some k_ ≠ (.slice Ao91 t369.length co91 : Value).ownBlock ∧ some k_ ≠ (v381 : Value).ownBlock ∧ k_ ≠ gb309 ∧ k_ ≠ gb310 ∧ k_ ≠ gb341)) (Kd.R_types (Kd.R_types (HO363.out) BK310.out (by decide)) BK341.out (by decide)) (fun k_ hk => ⟨hk.1.1.1.1.1.1.1.2, ⟨hk.1.1.1.1.1.1.2, ⟨hk.1.1.1.1.1.1.1.1, ⟨hk.1.1.1.1.2, ⟨hk.1.1.2, ⟨hk.1.1.1.1.1.2, ⟨hk.1.2, hk.2⟩⟩⟩⟩⟩⟩⟩))))) (Reps.one (show Kd.FK (Kd.slice 2 (Kd.int .i64)) _ _ t377 [.slice Ao94 t377.length co94] from (Kd.FK_slice_mk (rR (rM (ok' := (fun k_ => some k_ ≠ (.slice Ao82 t342.length co82 : Value).ownBlock ∧ some k_ ≠ (.slice Ao85 t345.length co85 : Value).ownBlock ∧ some k_ ≠ (v360 : Value).ownBlock ∧ some k_ ≠ (.slice Ao91 t369.length co91 : Value).ownBlock ∧ some k_ ≠ (v381 : Value).ownBlock ∧ k_ ≠ gb309 ∧ k_ ≠ gb310 ∧ k_ ≠ gb341)) (Kd.R_types (Kd.R_types (HO380.out) BK310.out (by decide)) BK341.out (by decide)) (fun k_ hk => ⟨hk.1.1.1.1.1.1.1.2, ⟨hk.1.1.1.1.1.1.2, ⟨hk.1.1.1.1.1.2, ⟨hk.1.1.1.2, ⟨hk.1.1.1.1.1.1.1.1, ⟨hk.1.1.2, ⟨hk.1.2, hk.2⟩⟩⟩⟩⟩⟩⟩))).2.1 (Kd.R_F (rM (ok' := (fun k_ => some k_ ≠ (.slice Ao82 t342.length co82 : Value).ownBlock ∧ some k_ ≠ (.slice Ao85 t345.length co85 : Value).ownBlock ∧ some k_ ≠ (v360 : Value).ownBlock ∧ some k_ ≠ (.slice Ao91 t369.length co91 : Value).ownBlock ∧ some k_ ≠ (v381 : Value).ownBlock ∧ k_ ≠ gb309 ∧ k_ ≠ gb310 ∧ k_ ≠ gb341)) (Kd.R_types (Kd.R_types (HO380.out) BK310.out (by decide)) BK341.out (by decide)) (fun k_ hk => ⟨hk.1.1.1.1.1.1.1.2, ⟨hk.1.1.1.1.1.1.2, ⟨hk.1.1.1.1.1.2, ⟨hk.1.1.1.2, ⟨hk.1.1.1.1.1.1.1.1, ⟨hk.1.1.2, ⟨hk.1.2, hk.2⟩⟩⟩⟩⟩⟩⟩))))) (Reps.none _ _)))); intro v384 w95 ho96 hb hg_ hnew_; clear hg_ hnew_; (first | rw [← Ny383.out] at ho96 | (simp only [Int.reduceToNat] at ho96; rw [← Ny383.out] at ho96)); have n0_ := aM (rL (rq HO344.out) hb); have n1_ := aM (Kd.V_elder' (vq HO357.out) (Kd.N_base ho96) hb); have n2_ := aM (rL (rq HO347.out) hb); have n3_ := aM (Kd.V_elder' (vq HO352.out) (Kd.N_base ho96) hb); have n4_ := aM (rL (rq HO361.out) hb); have n5_ := aM (Kd.V_elder' (vq HO368.out) (Kd.N_base ho96) hb); have n6_ := aM (rL (rq HO371.out) hb); have n7_ := aM (Kd.V_elder' (vq HO376.out) (Kd.N_base ho96) hb); have n8_ := aM (rL (rq HO382.out) hb); have n9_ := aM (Kd.N_lower ho96 (bZ bq)); have n10_ := aM (kB (g := gb309) (o := .cells #[.int .i64 a0] 2 (0, 0)) (kq BK309.out) hb); have n11_ := aM (kB (g := gb310) (o := .cells #[.int .i64 0, .slice none 0 0] 24 (0, 0)) (kq BK310.out) hb); have n12_ := aM (kB (g := gb341) (o := .cells #[.func (.func 98) #[] #[], .func (.func 100) #[] #[]] 87 (0, 0)) (kq BK341.out) hb); have n13_ := aM (bT bq hb); clear HO344 HO357 HO347 HO352 HO361 HO368 HO371 HO376 HO382 BK309 BK310 BK341 HB HO363 HO380; have HO344 := n0_; have HO357 := n1_; have HO347 := n2_; have HO352 := n3_; have HO361 := n4_; have HO368 := n5_; have HO371 := n6_; have HO376 := n7_; have HO382 := n8_; have HO385 := n9_; have BK309 := n10_; have BK310 := n11_; have BK341 := n12_; have HB := n13_; clear n0_ n1_ n2_ n3_ n4_ n5_ n6_ n7_ n8_ n9_ n10_ n11_ n12_ n13_ hb ho96; obtain ⟨Ao97, co97, eo97⟩ := Kd.N_slice HO385.out; subst eo97) | ((with_reducible refine gate_callee (f := 54) rfl ?_); refine goesL_ (some 84) rfl rfl Try.func54 (by kernel_rfl) rfl #[.slice Ao97 y383.length co97] rfl mq ?_; (with_reducible refine (slices_Concat_int64_int64.calls kj4 _ _ y383 t386 _ ?side1 ?side2 A69.out).mono ?_); (case side1 => exact cq (Kd.N_reads' HO385.out).2.2); (case side2 => exact (Kd.N_reads' HO385.out).2.1); rintro e w98 ⟨v387, rfl, ho0, hb⟩; refine ⟨_, rfl, ?_⟩; have n0_ := aM (rH (rq HO344.out) (rB ho0) hb); have n1_ := aM (Kd.V_elder' (vq HO357.out) (rB ho0) hb); have n2_ := aM (rH (rq HO347.out) (rB ho0) hb); have n3_ := aM (Kd.V_elder' (vq HO352.out) (rB ho0) hb); have n4_ := aM (rH (rq HO361.out) (rB ho0) hb); have n5_ := aM (Kd.V_elder' (vq HO368.out) (rB ho0) hb); have n6_ := aM (rH (rq HO371.out) (rB ho0) hb); have n7_ := aM (Kd.V_elder' (vq HO376.out) (rB ho0) hb); have n8_ := aM (rH (rq HO382.out) (rB ho0) hb); have n9_ := aM (Kd.N_elder' (nq HO385.out) (rB ho0) hb); have n10_ := aM (rG (Kd.R_newB (rW (rW (rW (rW (rW ho0 (rT (rq HO344.out))) (rT (rq HO347.out))) (rT (rq HO361.out))) (rT (rq HO371.out))) (rT (rq HO382.out))) (g := gb309) (o := .cells #[.int .i64 a0] 2 (0, 0)) (kq BK309.out)) (bZ bq)); have n11_ := aM (kB (g := gb309) (o := .cells #[.int .i64 a0] 2 (0, 0)) (kq BK309.out) hb); have n12_ := aM (kB (g := gb310) (o := .cells #[.int .i64 0, .slice none 0 0] 24 (0, 0)) (kq BK310.out) hb); have n13_ := aM (kB (g := gb341) (o := .cells #[.func (.func 98) #[] #[], .func (.func 100) #[] #[]] 87 (0, 0)) (kq BK341.out) hb); have n14_ := aM (bT bq hb); clear HO344 HO357 HO347 HO352 HO361 HO368 HO371 HO376 HO382 HO385 BK309 BK310 BK341 HB; have HO344 := n0_; have HO357 := n1_; have HO347 := n2_; have HO352 := n3_; have HO361 := n4_; have HO368 := n5_; have HO371 := n6_; have HO376 := n7_; have HO382 := n8_; have HO385 := n9_; have HO388 := n10_; have BK309 := n11_; have BK310 := n12_; have BK341 := n13_; have HB := n14_; clear n0_ n1_ n2_ n3_ n4_ n5_ n6_ n7_ n8_ n9_ n10_ n11_ n12_ n13_ n14_; (try clear hb); (try clear ho0); obtain ⟨Ao99, co99, eo99⟩ := Kd.R_slice HO388.out; subst eo99; have hnb100 := NB310_309.out; have hnc100 := NB309_310.out; have hcz101_0 : w98.cell? ⟨gb310, 0, none⟩ = some (.int .i64 0) := (kC BK310.out 0).trans rfl; have hcz101_1 : w98.cell? ⟨gb310, 1, none⟩ = some (.slice none 0 0) := (kC BK310.out 1).trans rfl; have hfz101_0 := kF BK310.out 0; have hfz101_1 := kF BK310.out 1))
        refine bodyPost_ret (results_cell_row rfl _ _ gb310 24 #[.int .i64 0, .slice Ao99 t386.length co99] (0, 0) _ rfl (by (with_reducible repeat (first | refine kN ?_ _ | refine kD ?_ | refine kA ?_ _)); refine blk_put (cs := #[.int .i64 0, .slice none 0 0]) ?_ 1 _ rfl; (with_reducible repeat (first | refine kN ?_ _ | refine kD ?_ | refine kA ?_ _)); refine blk_put (cs := #[.int .i64 0, .slice none 0 0]) ?_ 0 _ rfl; (with_reducible repeat (first | refine kN ?_ _ | refine kD ?_ | refine kA ?_ _)); exact BK310.out) Try.underlying24 rfl (by kernel_rfl)) rfl ?_
        exact ⟨_, by first | rfl | (simp [errW_none, errW_some] <;> rfl) | (simp only [← hji57]; first | rfl | (simp [errW_none, errW_some] <;> rfl)) | (simp [*, errW_none, errW_some] <;> rfl), by (with_reducible repeat (first | apply rA | apply rN | apply rD)); exact rM (rF (p := ⟨gb310, 1, none⟩) (rF (p := ⟨gb310, 0, none⟩) (Kd.R_types HO388.out BK310.out (by decide)) (fun _ hk => hk.2) (.int .i64 0)) (fun _ hk => hk.2) (.slice Ao99 t386.length co99)) (fun _ hk => trivial), bq⟩
       ·rw [if_neg c67] at H
        exact absurd H (by simp)
      ·rw [if_neg c61] at H
       exact absurd H (by simp)
     ·rw [if_neg c59] at H
      exact absurd H (by simp)
    ·rw [if_neg c58] at H
     exact absurd H (by simp)
   ·rw [if_neg c53] at H
    have c53b0 : (x10_4 == 0) = false := beq_eq_false_iff_ne.mpr c53
    have c53b1 : (x10_4 != 0) = true := bne_iff_ne.mpr c53
    simp only [Option.some.injEq, Prod.mk.injEq] at H
    obtain ⟨rfl, rfl⟩ := H
    have hnb102 := NB310_309.out
    have hnc102 := NB309_310.out
    have hcz103_0 : wc.cell? ⟨gb310, 0, none⟩ = some (.int .i64 0) := (kC BK310.out 0).trans rfl
    have hcz103_1 : wc.cell? ⟨gb310, 1, none⟩ = some (.slice none 0 0) := (kC BK310.out 1).trans rfl
    have hfz103_0 := kF BK310.out 0
    have hfz103_1 := kF BK310.out 1
    go_wp2
    refine bodyPost_ret (results_cell_row rfl _ _ gb310 24 #[.int .i64 x10_4, .slice none 0 0] (0, 0) _ rfl (by (with_reducible repeat (first | refine kN ?_ _ | refine kD ?_ | refine kA ?_ _)); refine blk_put (cs := #[.int .i64 x10_4, .slice none 0 0]) ?_ 1 _ rfl; (with_reducible repeat (first | refine kN ?_ _ | refine kD ?_ | refine kA ?_ _)); refine blk_put (cs := #[.int .i64 0, .slice none 0 0]) ?_ 0 _ rfl; (with_reducible repeat (first | refine kN ?_ _ | refine kD ?_ | refine kA ?_ _)); exact BK310.out) Try.underlying24 rfl (by kernel_rfl)) rfl ?_
    exact ⟨_, by first | rfl | (simp [errW_none, errW_some] <;> rfl) | (simp [*, errW_none, errW_some] <;> rfl), by first | exact Kd.R_nil _ _ _ _ _ | exact Kd.N_nil _ _ _ _ _ | exact Kd.V_nil _ _ _ _ _ | exact Kd.Q_nil _ _ _ _ _ | exact Kd.S_nil _ _ _ _ _, bq⟩

end Go.Proofs.Ytjdgebfihbhbaaa.PFnExactFrameBounds
