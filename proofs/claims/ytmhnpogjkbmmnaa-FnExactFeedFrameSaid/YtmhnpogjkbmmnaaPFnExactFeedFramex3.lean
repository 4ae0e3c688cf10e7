-- Written by a program of this session: wip/mkprint.py over the kit's print, with contracts proved by hand (wip/given.py)
-- shortened
-- squeezed
import Derived.Test.YtmhnpogjkbmmnaaPFnExactFeedFramex0
import Derived.Test.YtmhnpogjkbmmnaaPFnExactFeedFramex2
namespace Go.Proofs.Ytmhnpogjkbmmnaa.PFnExactFeedFrame
open Go.RowKit Go.Proofs.YtmhnpogjkbmmnaaW.PrintWords Go.Proofs.YtmhnpogjkbmmnaaW.PrintLast Go.Proofs.YtmhnpogjkbmmnaaW.PrintMore
open Go.Proofs.YtmhnpogjkbmmnaaW.PrintWords.Kd renaming R_alloc → rA, R_drewN → rN, R_drew → rD, R_mono → rM, R_base → rB, R_new' → rW, R_below → rL, R_lt → rT, R_lower → rG, R_elder' → rH, C_alloc → cA, C_drewN → cN, C_drew → cD, C_below → cB
open Go.Proofs.YtmhnpogjkbmmnaaW.PrintWords renaming below_alloc → bA, pw_below_drewN → bN, below_drew1 → bD, below_set → bS, below_step → bT, below_size → bZ
open Go.Proofs.YtmhnpogjkbmmnaaW.PrintWords.Aside0 renaming mk → aM
attribute [local go_sem] max2_int min2_int max_two min_two max_three min_three max_four min_four   -- for this text's walks alone
set_option linter.unusedVariables false
set_option linter.unusedSimpArgs false

/-! ### spec_l5Turn: function 143 -/
def spec_l5Turn.f (a0 : Int) (a1 : Int) (a2 : Int) (a3 : Int) : Option (Int × Int) := (spec_l5P.f a0 a1).bind fun t132 => ((spec_l1Ten.f (wrap64 (t132 * a3))).bind fun t133 => ((spec_l5U.f a0 a1).bind fun t134 => ((spec_l1Ten.f (wrap64 (t134 * (wrap64 (a2 - t133))))).bind fun t135 => ((spec_l5P.f a0 a1).bind fun t136 => ((spec_l1Ten.f (wrap64 (t136 * (wrap64 (a3 + t135))))).bind fun t137 => (some (wrap64 ((wrap64 (a2 - t133)) - t137), wrap64 (a3 + t135))))))))
set_option maxHeartbeats 8000000 in
set_option maxRecDepth 100000 in
theorem spec_l5Turn.calls (a0 : Int) (a1 : Int) (a2 : Int) (a3 : Int) (r1 : Int) (r2 : Int) (w : World) (h : spec_l5Turn.f a0 a1 a2 a3 = some (r1, r2)) :
  Calls Try.prog 143 #[.int .i64 a0, .int .i64 a1, .int .i64 a2, .int .i64 a3] w fun e w' => e = .returned (.tuple #[.int .i64 r1, .int .i64 r2]) ∧ Below w.heap.size w w' := by
 have HB := aM (Below.refl w.heap.size w)
 have H : ((spec_l5P.f a0 a1).bind fun t132 => ((spec_l1Ten.f (wrap64 (t132 * a3))).bind fun t133 => ((spec_l5U.f a0 a1).bind fun t134 => ((spec_l1Ten.f (wrap64 (t134 * (wrap64 (a2 - t133))))).bind fun t135 => ((spec_l5P.f a0 a1).bind fun t136 => ((spec_l1Ten.f (wrap64 (t136 * (wrap64 (a3 + t135))))).bind fun t137 => (some (wrap64 ((wrap64 (a2 - t133)) - t137), wrap64 (a3 + t135))))))))) = some (r1, r2) := h
 clear h
 replace H := Option.bind_eq_some_iff.mp H
 obtain ⟨t132, A50, H⟩ := H
 replace H : ((spec_l1Ten.f (wrap64 (t132 * a3))).bind fun t133 => ((spec_l5U.f a0 a1).bind fun t134 => ((spec_l1Ten.f (wrap64 (t134 * (wrap64 (a2 - t133))))).bind fun t135 => ((spec_l5P.f a0 a1).bind fun t136 => ((spec_l1Ten.f (wrap64 (t136 * (wrap64 (a3 + t135))))).bind fun t137 => (some (wrap64 ((wrap64 (a2 - t133)) - t137), wrap64 (a3 + t135)))))))) = some (r1, r2) := H
 have A5 := aM A50
 clear A50
 replace H := Option.bind_eq_some_iff.mp H
 obtain ⟨t133, A60, H⟩ := H
 replace H : ((spec_l5U.f a0 a1).bind fun t134 => ((spec_l1Ten.f (wrap64 (t134 * (wrap64 (a2 - t133))))).bind fun t135 => ((spec_l5P.f a0 a1).bind fun t136 => ((spec_l1Ten.f (wrap64 (t136 * (wrap64 (a3 + t135))))).bind fun t137 => (some (wrap64 ((wrap64 (a2 - t133)) - t137), wrap64 (a3 + t135))))))) = some (r1, r2) := H
 have A6 := aM A60
 clear A60
 replace H := Option.bind_eq_some_iff.mp H
 obtain ⟨t134, A70, H⟩ := H
 replace H : ((spec_l1Ten.f (wrap64 (t134 * (wrap64 (a2 - t133))))).bind fun t135 => ((spec_l5P.f a0 a1).bind fun t136 => ((spec_l1Ten.f (wrap64 (t136 * (wrap64 (a3 + t135))))).bind fun t137 => (some (wrap64 ((wrap64 (a2 - t133)) - t137), wrap64 (a3 + t135)))))) = some (r1, r2) := H
 have A7 := aM A70
 clear A70
 replace H := Option.bind_eq_some_iff.mp H
 obtain ⟨t135, A80, H⟩ := H
 replace H : ((spec_l5P.f a0 a1).bind fun t136 => ((spec_l1Ten.f (wrap64 (t136 * (wrap64 (a3 + t135))))).bind fun t137 => (some (wrap64 ((wrap64 (a2 - t133)) - t137), wrap64 (a3 + t135))))) = some (r1, r2) := H
 have A8 := aM A80
 clear A80
 replace H := Option.bind_eq_some_iff.mp H
 obtain ⟨t136, A90, H⟩ := H
 replace H : ((spec_l1Ten.f (wrap64 (t136 * (wrap64 (a3 + t135))))).bind fun t137 => (some (wrap64 ((wrap64 (a2 - t133)) - t137), wrap64 (a3 + t135)))) = some (r1, r2) := H
 have A9 := aM A90
 clear A90
 replace H := Option.bind_eq_some_iff.mp H
 obtain ⟨t137, A100, H⟩ := H
 replace H : (some (wrap64 ((wrap64 (a2 - t133)) - t137), wrap64 (a3 + t135))) = some (r1, r2) := H
 have A10 := aM A100
 clear A100
 simp only [Option.some.injEq, Prod.mk.injEq] at H
 obtain ⟨rfl, rfl⟩ := H
 go_enter Try.func143, Try.ntmps143
 go_wp2_with (first | ((with_reducible refine gate_callee (f := 155) rfl ?_); refine goesL_ (some 15) rfl rfl Try.func155 (by kernel_rfl) rfl #[.int .i64 a0, .int .i64 a1] rfl (by first | rfl | (simp only [List.map_toArray, List.map_cons, List.map_nil]; rfl)) ?_; (with_reducible refine (spec_l5P.calls a0 a1 t132 _ A5.out).mono ?_); rintro e w' ⟨rfl, ⟨nd, rfl⟩⟩; refine ⟨_, rfl, ?_⟩) | ((with_reducible refine gate_callee (f := 158) rfl ?_); refine goesL_ (some 18) rfl rfl Try.func158 (by kernel_rfl) rfl #[.int .i64 (wrap64 (t132 * a3))] rfl (by first | rfl | (simp only [List.map_toArray, List.map_cons, List.map_nil]; rfl)) ?_; (with_reducible refine (spec_l1Ten.calls (wrap64 (t132 * a3)) t133 _ A6.out).mono ?_); rintro e w' ⟨rfl, ⟨nd, rfl⟩⟩; refine ⟨_, rfl, ?_⟩) | ((with_reducible refine gate_callee (f := 156) rfl ?_); refine goesL_ (some 23) rfl rfl Try.func156 (by kernel_rfl) rfl #[.int .i64 a0, .int .i64 a1] rfl (by first | rfl | (simp only [List.map_toArray, List.map_cons, List.map_nil]; rfl)) ?_; (with_reducible refine (spec_l5U.calls a0 a1 t134 _ A7.out).mono ?_); rintro e w' ⟨rfl, ⟨nd, rfl⟩⟩; refine ⟨_, rfl, ?_⟩) | ((with_reducible refine gate_callee (f := 158) rfl ?_); refine goesL_ (some 26) rfl rfl Try.func158 (by kernel_rfl) rfl #[.int .i64 (wrap64 (t134 * (wrap64 (a2 - t133))))] rfl (by first | rfl | (simp only [List.map_toArray, List.map_cons, List.map_nil]; rfl)) ?_; (with_reducible refine (spec_l1Ten.calls (wrap64 (t134 * (wrap64 (a2 - t133)))) t135 _ A8.out).mono ?_); rintro e w' ⟨rfl, ⟨nd, rfl⟩⟩; refine ⟨_, rfl, ?_⟩) | ((with_reducible refine gate_callee (f := 155) rfl ?_); refine goesL_ (some 31) rfl rfl Try.func155 (by kernel_rfl) rfl #[.int .i64 a0, .int .i64 a1] rfl (by first | rfl | (simp only [List.map_toArray, List.map_cons, List.map_nil]; rfl)) ?_; (with_reducible refine (spec_l5P.calls a0 a1 t136 _ A9.out).mono ?_); rintro e w' ⟨rfl, ⟨nd, rfl⟩⟩; refine ⟨_, rfl, ?_⟩) | ((with_reducible refine gate_callee (f := 158) rfl ?_); refine goesL_ (some 34) rfl rfl Try.func158 (by kernel_rfl) rfl #[.int .i64 (wrap64 (t136 * (wrap64 (a3 + t135))))] rfl (by first | rfl | (simp only [List.map_toArray, List.map_cons, List.map_nil]; rfl)) ?_; (with_reducible refine (spec_l1Ten.calls (wrap64 (t136 * (wrap64 (a3 + t135)))) t137 _ A10.out).mono ?_); rintro e w' ⟨rfl, ⟨nd, rfl⟩⟩; refine ⟨_, rfl, ?_⟩))
 go_ret2
 exact ⟨by first | rfl | (simp [errW_none, errW_some] <;> rfl) | (simp [*, errW_none, errW_some] <;> rfl), by repeat (first | (with_reducible first | exact HB.out | apply bA | apply bN | apply bD) | exact HB.out)⟩

/-! ### spec_l7Seam: function 113 -/
def spec_l7Seam.l0 : Nat → Int → List Int → List Int → Bool → Int → List Int → List Int → Int → Option (List Int × List Int)
 | 0, _, _, _, _, _, _, _, _ => none
 | k + 1, x0, x1, x2, x3, x10, x11, x12, x13 => if x13 < x10 then (if x3 = true then (if 0 ≤ (wrap64 ((wrap64 (x10 - 1)) - x13)) then (if (wrap64 ((wrap64 (x10 - 1)) - x13)) < (x1.length : Int) then (if 0 ≤ x13 then (if x13 < (x2.length : Int) then ((spec_l5Back.f x0 x13 (rd x1 (wrap64 ((wrap64 (x10 - 1)) - x13))) (rd x2 x13)).bind fun bt146 => (if (wrap64 ((wrap64 (x10 - 1)) - x13)) < (x11.length : Int) then (if x13 < (x12.length : Int) then (spec_l7Seam.l0 k x0 x1 x2 x3 x10 (x11.set ((wrap64 ((wrap64 (x10 - 1)) - x13)) : Int).toNat bt146.1) (x12.set (x13 : Int).toNat bt146.2) (wrap64 (x13 + 1))) else (none)) else (none))) else (none)) else (none)) else (none)) else (none)) else (if 0 ≤ (wrap64 ((wrap64 (x10 - 1)) - x13)) then (if (wrap64 ((wrap64 (x10 - 1)) - x13)) < (x1.length : Int) then (if 0 ≤ x13 then (if x13 < (x2.length : Int) then ((spec_l5Turn.f x0 x13 (rd x1 (wrap64 ((wrap64 (x10 - 1)) - x13))) (rd x2 x13)).bind fun bt152 => (if (wrap64 ((wrap64 (x10 - 1)) - x13)) < (x11.length : Int) then (if x13 < (x12.length : Int) then (spec_l7Seam.l0 k x0 x1 x2 x3 x10 (x11.set ((wrap64 ((wrap64 (x10 - 1)) - x13)) : Int).toNat bt152.1) (x12.set (x13 : Int).toNat bt152.2) (wrap64 (x13 + 1))) else (none)) else (none))) else (none)) else (none)) else (none)) else (none))) else (some (x11, x12))
def spec_l7Seam.f (k : Nat) (a0 : Int) (l1 : List Int) (l2 : List Int) (a3 : Bool) : Option (List Int × List Int) := (spec_l1Zeros.f (wrap64 (Int.tdiv a0 2))).bind fun t138 => ((spec_l1Zeros.f (wrap64 (Int.tdiv a0 2))).bind fun t141 => (spec_l7Seam.l0 k a0 l1 l2 a3 (wrap64 (Int.tdiv a0 2)) t138 t141 0))
theorem spec_l7Seam.mono_l : ∀ k, (∀ y0 y1 y2 y3 y4 y5 y6 y7, LeO (spec_l7Seam.l0 k y0 y1 y2 y3 y4 y5 y6 y7) (spec_l7Seam.l0 (k + 1) y0 y1 y2 y3 y4 y5 y6 y7))
 | 0 => fun _ _ _ _ _ _ _ _ r h => by simp [spec_l7Seam.l0] at h
 | k + 1 => by
  have ih0 := spec_l7Seam.mono_l k
  ·intro y0 y1 y2 y3 y4 y5 y6 y7
   unfold spec_l7Seam.l0
   repeat' first
   | (with_reducible exact ih0 _ _ _ _ _ _ _ _)
   | (with_reducible exact LeO.refl _)
   | (with_reducible exact LeO.none _)
   | (with_reducible refine LeO.ite ?_ ?_)
   | (with_reducible refine LeO.bind ?_ (fun _ => ?_))
   | exact ih0 _ _ _ _ _ _ _ _
   | exact LeO.none _
   | refine LeO.ite ?_ ?_
   | refine LeO.bind ?_ (fun _ => ?_)
theorem spec_l7Seam.mono : ∀ a0 a1 a2 a3 k, LeO (spec_l7Seam.f k a0 a1 a2 a3) (spec_l7Seam.f (k + 1) a0 a1 a2 a3) := by
 intro a0 a1 a2 a3 k
 have ih0 := spec_l7Seam.mono_l k
 unfold spec_l7Seam.f
 repeat' first
   | (with_reducible exact ih0 _ _ _ _ _ _ _ _)
   | (with_reducible exact LeO.refl _)
   | (with_reducible exact LeO.none _)
   | (with_reducible refine LeO.ite ?_ ?_)
   | (with_reducible refine LeO.bind ?_ (fun _ => ?_))
   | exact ih0 _ _ _ _ _ _ _ _
   | exact LeO.none _
   | refine LeO.ite ?_ ?_
   | refine LeO.bind ?_ (fun _ => ?_)
def spec_l7Seam.T9 : Bool × List (List Nat × List Nat) := (true, [([], []), ([], []), ([], []), ([], []), ([3], [3]), ([], []), ([4, 5], [4, 5]), ([2, 6], [2, 6]), ([7], [7]), ([], []), ([], []), ([9, 10], [9, 10]), ([11], [11]), ([0, 1, 8, 12], [0, 1, 8, 12]), ([13], [13]), ([14], [14]), ([14], [14]), ([15, 13, 0, 1, 2, 3, 4, 5, 6, 7, 8, 9, 10, 11, 12, 13, 14, 15], [15]), ([16, 17, 0, 1, 2, 3, 4, 5, 6, 7, 8, 9, 10, 11, 12, 13, 14, 15, 16, 17], [16])])
def spec_l7Seam.B9 : List Nat := [0, 0, 0, 0, 8, 0, 56, 124, 252, 0, 0, 1536, 3584, 8191, 16383, 32767, 32767, 65535, 262143]
theorem spec_l7Seam.tab9 : rtab .any (opsOf Try.f113 9) = spec_l7Seam.T9 := by kernel_rfl
theorem spec_l7Seam.bits9 : waitsOk spec_l7Seam.T9.2 spec_l7Seam.B9 = true := by kernel_rfl
def spec_l7Seam.T10 : Bool × List (List Nat × List Nat) := (true, [([], []), ([], []), ([], []), ([], []), ([3], [3]), ([], []), ([4, 5], [4, 5]), ([2, 6], [2, 6]), ([7], [7]), ([], []), ([], []), ([9, 10], [9, 10]), ([11], [11]), ([0, 1, 8, 12], [0, 1, 8, 12]), ([13], [13]), ([14], [14]), ([14], [14]), ([15, 13, 0, 1, 2, 3, 4, 5, 6, 7, 8, 9, 10, 11, 12, 13, 14, 15], [15]), ([16, 17, 0, 1, 2, 3, 4, 5, 6, 7, 8, 9, 10, 11, 12, 13, 14, 15, 16, 17], [16])])
def spec_l7Seam.B10 : List Nat := [0, 0, 0, 0, 8, 0, 56, 124, 252, 0, 0, 1536, 3584, 8191, 16383, 32767, 32767, 65535, 262143]
theorem spec_l7Seam.tab10 : rtab .any (opsOf Try.f113 10) = spec_l7Seam.T10 := by kernel_rfl
theorem spec_l7Seam.bits10 : waitsOk spec_l7Seam.T10.2 spec_l7Seam.B10 = true := by kernel_rfl
set_option maxHeartbeats 8000000 in
set_option maxRecDepth 100000 in
theorem spec_l7Seam.calls (k : Nat) (a0 : Int) (A1 : Option Addr) (c1 : Nat) (l1 : List Int) (A2 : Option Addr) (c2 : Nat) (l2 : List Int) (a3 : Bool) (r1 : List Int) (r2 : List Int) (w : World) (hr1 : Kd.C (Kd.int .i64) w A1 l1.length l1) (hc1 : l1.length ≤ c1) (hr2 : Kd.C (Kd.int .i64) w A2 l2.length l2) (hc2 : l2.length ≤ c2) (h : spec_l7Seam.f k a0 l1 l2 a3 = some (r1, r2)) :
  Calls Try.prog 113 #[.int .i64 a0, .slice A1 l1.length c1, .slice A2 l2.length c2, .bool a3] w fun e w' => ∃ v0_ v1_ : Value, e = .returned (.tuple #[v0_, v1_]) ∧ Kd.R (Kd.int .i64) 2 w' w.heap.size (fun k_ => some k_ ≠ (v1_ : Value).ownBlock) v0_ r1 ∧ Kd.R (Kd.int .i64) 2 w' w.heap.size (fun k_ => some k_ ≠ (v0_ : Value).ownBlock) v1_ r2 ∧ Below w.heap.size w w' := by
 have HR1 := aM hr1
 have HC1 := aM hc1
 clear hr1 hc1
 have HR2 := aM hr2
 have HC2 := aM hc2
 clear hr2 hc2
 have HB := aM (Below.refl w.heap.size w)
 have H : ((spec_l1Zeros.f (wrap64 (Int.tdiv a0 2))).bind fun t138 => ((spec_l1Zeros.f (wrap64 (Int.tdiv a0 2))).bind fun t141 => (spec_l7Seam.l0 k a0 l1 l2 a3 (wrap64 (Int.tdiv a0 2)) t138 t141 0))) = some (r1, r2) := h
 clear h
 replace H := Option.bind_eq_some_iff.mp H
 obtain ⟨t138, A50, H⟩ := H
 replace H : ((spec_l1Zeros.f (wrap64 (Int.tdiv a0 2))).bind fun t141 => (spec_l7Seam.l0 k a0 l1 l2 a3 (wrap64 (Int.tdiv a0 2)) t138 t141 0)) = some (r1, r2) := H
 have A5 := aM A50
 clear A50
 replace H := Option.bind_eq_some_iff.mp H
 obtain ⟨t141, A60, H⟩ := H
 replace H : (spec_l7Seam.l0 k a0 l1 l2 a3 (wrap64 (Int.tdiv a0 2)) t138 t141 0) = some (r1, r2) := H
 have A6 := aM A60
 clear A60
 have H' := aM H
 clear H
 go_enter Try.func113, Try.ntmps113
 go_wp2_with (first | ((with_reducible refine gate_callee (f := 136) rfl ?_); refine goesL_ (some 19) rfl rfl Try.func136 (by kernel_rfl) rfl #[.int .i64 (wrap64 (Int.tdiv a0 2))] rfl (by first | rfl | (simp only [List.map_toArray, List.map_cons, List.map_nil]; rfl)) ?_; (with_reducible refine (spec_l1Zeros.calls (wrap64 (Int.tdiv a0 2)) t138 _ A5.out).mono ?_); rintro e w7 ⟨v139, rfl, ho0, hb⟩; refine ⟨_, rfl, ?_⟩; have n0_ := aM (rG ho0 (bZ (by repeat (first | exact HB.out | apply bA | apply bN | apply bD)))); have n1_ := aM (bT (by repeat (first | exact HB.out | apply bA | apply bN | apply bD)) hb); clear HB; have HO140 := n0_; have HB := n1_; clear n0_ n1_; (try clear hb); (try clear ho0)) | ((with_reducible refine gate_callee (f := 136) rfl ?_); refine goesL_ (some 21) rfl rfl Try.func136 (by kernel_rfl) rfl #[.int .i64 (wrap64 (Int.tdiv a0 2))] rfl (by first | rfl | (simp only [List.map_toArray, List.map_cons, List.map_nil]; rfl)) ?_; (with_reducible refine (spec_l1Zeros.calls (wrap64 (Int.tdiv a0 2)) t141 _ A6.out).mono ?_); rintro e w8 ⟨v142, rfl, ho0, hb⟩; refine ⟨_, rfl, ?_⟩; have n0_ := aM (rH (by (with_reducible repeat (first | apply rA | apply rN | apply rD)); exact HO140.out) (rB ho0) hb); have n1_ := aM (rG (rW ho0 (rT (by (with_reducible repeat (first | apply rA | apply rN | apply rD)); exact HO140.out))) (bZ (by repeat (first | exact HB.out | apply bA | apply bN | apply bD)))); have n2_ := aM (bT (by repeat (first | exact HB.out | apply bA | apply bN | apply bD)) hb); clear HO140 HB; have HO140 := n0_; have HO143 := n1_; have HB := n2_; clear n0_ n1_ n2_; (try clear hb); (try clear ho0)))
 go_loopg [13] k (fun kq v13 w' => ∃ (x11_1 : List Int) (x12_1 : List Int) (x13_1 : Int), v13 = .int .i64 x13_1 ∧ Aside0 (spec_l7Seam.l0 kq a0 l1 l2 a3 (wrap64 (Int.tdiv a0 2)) x11_1 x12_1 x13_1 = some (r1, r2)) ∧ Aside0 (kq ≤ k) ∧ Aside0 (Kd.R (Kd.int .i64) 2 w' w.heap.size (fun k_ => some k_ ≠ (v142 : Value).ownBlock) v139 x11_1) ∧ Aside0 (Kd.R (Kd.int .i64) 2 w' w.heap.size (fun k_ => some k_ ≠ (v139 : Value).ownBlock) v142 x12_1) ∧ Aside0 (Below w.heap.size w w'))
 case atStart => exact ⟨(t138), (t141), (0), (by first | rfl | (simp; done) | (simp [*]; done)), H', ⟨Nat.le_refl _⟩, ⟨by (with_reducible repeat (first | apply rA | apply rN | apply rD)); exact rM HO140.out (fun _ hk => hk.2)⟩, ⟨by (with_reducible repeat (first | apply rA | apply rN | apply rD)); exact rM HO143.out (fun _ hk => hk.2)⟩, ⟨by repeat (first | (with_reducible first | exact HB.out | apply bA | apply bN | apply bD) | exact HB.out)⟩⟩
 case round =>
  clear H'
  try clear c1
  try clear c2
  try clear p2
  try clear p6
  obtain ⟨x11_1, x12_1, x13_1, rfl, HA, HK1, HO_11, HO_12, HB⟩ := hrel
  cases gk with
  | zero => exact absurd HA.out (by simp [spec_l7Seam.l0])
  | succ k1 =>
   have H := HA.out
   clear HA
   simp only [spec_l7Seam.l0] at H
   by_cases c9 : x13_1 < (wrap64 (Int.tdiv a0 2))
   ·rw [if_pos c9] at H
    have c9b0 : decide (x13_1 < (wrap64 (Int.tdiv a0 2))) = true := decide_eq_true c9
    clear c9
    by_cases c10 : a3 = true
    ·subst c10
     have H1 : (if 0 ≤ (wrap64 ((wrap64 ((wrap64 (Int.tdiv a0 2)) - 1)) - x13_1)) then (if (wrap64 ((wrap64 ((wrap64 (Int.tdiv a0 2)) - 1)) - x13_1)) < (l1.length : Int) then (if 0 ≤ x13_1 then (if x13_1 < (l2.length : Int) then ((spec_l5Back.f a0 x13_1 (rd l1 (wrap64 ((wrap64 ((wrap64 (Int.tdiv a0 2)) - 1)) - x13_1))) (rd l2 x13_1)).bind fun bt146 => (if (wrap64 ((wrap64 ((wrap64 (Int.tdiv a0 2)) - 1)) - x13_1)) < (x11_1.length : Int) then (if x13_1 < (x12_1.length : Int) then (spec_l7Seam.l0 k1 a0 l1 l2 true (wrap64 (Int.tdiv a0 2)) (x11_1.set ((wrap64 ((wrap64 ((wrap64 (Int.tdiv a0 2)) - 1)) - x13_1)) : Int).toNat bt146.1) (x12_1.set (x13_1 : Int).toNat bt146.2) (wrap64 (x13_1 + 1))) else (none)) else (none))) else (none)) else (none)) else (none)) else (none)) = some (r1, r2) := by rw [if_pos rfl] at H; exact H
     clear H
     have H := H1
     clear H1
     obtain ⟨ji11, hji11⟩ : ∃ j_ : Int, (wrap64 ((wrap64 ((wrap64 (Int.tdiv a0 2)) - 1)) - x13_1)) = j_ := ⟨_, rfl⟩
     replace H : (if 0 ≤ (ji11) then (if (ji11) < (l1.length : Int) then (if 0 ≤ x13_1 then (if x13_1 < (l2.length : Int) then ((spec_l5Back.f a0 x13_1 (rd l1 (ji11)) (rd l2 x13_1)).bind fun bt146 => (if (ji11) < (x11_1.length : Int) then (if x13_1 < (x12_1.length : Int) then (spec_l7Seam.l0 k1 a0 l1 l2 true (wrap64 (Int.tdiv a0 2)) (x11_1.set ((ji11) : Int).toNat bt146.1) (x12_1.set (x13_1 : Int).toNat bt146.2) (wrap64 (x13_1 + 1))) else (none)) else (none))) else (none)) else (none)) else (none)) else (none)) = some (r1, r2) := by first | (rw [hji11] at H; exact H) | (simp only [hji11] at H ⊢; exact H)
     have hji11w : (IntKind.i64.wrap ((wrap64 ((wrap64 (Int.tdiv a0 2)) - 1)) - x13_1)) = ji11 := (i64_w _).trans hji11
     by_cases c12 : 0 ≤ (ji11)
     ·rw [if_pos c12] at H
      have c12b0 : decide (0 ≤ (ji11)) = true := decide_eq_true c12
      clear c12
      by_cases c13 : (ji11) < (l1.length : Int)
      ·rw [if_pos c13] at H
       have c13b0 : decide ((ji11) < (l1.length : Int)) = true := decide_eq_true c13
       clear c13
       by_cases c14 : 0 ≤ x13_1
       ·rw [if_pos c14] at H
        have c14b0 : decide (0 ≤ x13_1) = true := decide_eq_true c14
        clear c14
        by_cases c15 : x13_1 < (l2.length : Int)
        ·rw [if_pos c15] at H
         have c15b0 : decide (x13_1 < (l2.length : Int)) = true := decide_eq_true c15
         clear c15
         replace H := Option.bind_eq_some_iff.mp H
         obtain ⟨⟨t146, t147⟩, A160, H⟩ := H
         replace H : (if (ji11) < (x11_1.length : Int) then (if x13_1 < (x12_1.length : Int) then (spec_l7Seam.l0 k1 a0 l1 l2 true (wrap64 (Int.tdiv a0 2)) (x11_1.set ((ji11) : Int).toNat t146) (x12_1.set (x13_1 : Int).toNat t147) (wrap64 (x13_1 + 1))) else (none)) else (none)) = some (r1, r2) := H
         have A16 := aM A160
         clear A160
         by_cases c17 : (ji11) < (x11_1.length : Int)
         ·rw [if_pos c17] at H
          have c17b0 : decide ((ji11) < (x11_1.length : Int)) = true := decide_eq_true c17
          clear c17
          obtain ⟨y148, hy148⟩ : ∃ y_ : List Int, y_ = (x11_1.set ((ji11) : Int).toNat t146) := ⟨_, rfl⟩
          replace H : (if x13_1 < (x12_1.length : Int) then (spec_l7Seam.l0 k1 a0 l1 l2 true (wrap64 (Int.tdiv a0 2)) y148 (x12_1.set (x13_1 : Int).toNat t147) (wrap64 (x13_1 + 1))) else (none)) = some (r1, r2) := by first | (rw [hy148]; with_reducible exact H) | (have H2_ := (Option.bind_some _ _).symm.trans H; rw [hy148]; with_reducible exact H2_) | (have H2_ := (Option.bind_some _ _).symm.trans H; with_reducible exact H2_) | with_reducible exact H | (rw [hy148]; exact H) | exact H
          have Ny148 := aM hy148
          clear hy148
          by_cases c19 : x13_1 < (x12_1.length : Int)
          ·rw [if_pos c19] at H
           have c19b0 : decide (x13_1 < (x12_1.length : Int)) = true := decide_eq_true c19
           clear c19
           obtain ⟨y149, hy149⟩ : ∃ y_ : List Int, y_ = (x12_1.set (x13_1 : Int).toNat t147) := ⟨_, rfl⟩
           replace H : (spec_l7Seam.l0 k1 a0 l1 l2 true (wrap64 (Int.tdiv a0 2)) y148 y149 (wrap64 (x13_1 + 1))) = some (r1, r2) := by first | (rw [hy149]; with_reducible exact H) | (have H2_ := (Option.bind_some _ _).symm.trans H; rw [hy149]; with_reducible exact H2_) | (have H2_ := (Option.bind_some _ _).symm.trans H; with_reducible exact H2_) | with_reducible exact H | (rw [hy149]; exact H) | exact H
           have Ny149 := aM hy149
           clear hy149
           have H' := aM H
           clear H
           try go_wp2
           have n0_ := aM (rD HO_11.out)
           have n1_ := aM (rD HO_12.out)
           have n2_ := aM (bD HB.out)
           clear HO_11
           clear HO_12
           clear HB
           have HO_11 := n0_
           have HO_12 := n1_
           have HB := n2_
           clear n0_ n1_ n2_
           have p144 : 0 ≤ ((ji11) : Int) := of_decide_eq_true (by first | (with_reducible assumption) | assumption)
           have q144 : (ji11) < (l1.length : Int) := of_decide_eq_true (by first | (with_reducible assumption) | assumption)
           obtain ⟨ad144, e144, hx144_0⟩ := Kd.at_int HR1.out (ji11) p144 q144
           have hw144_0 := hx144_0
           cases e144
           replace hx144_0 := (HB.out.cell (World.block_lt_of_cell? w _ hx144_0)).trans hx144_0
           replace p144 := eq_true p144
           replace q144 := eq_true q144
           have p145 : 0 ≤ (x13_1 : Int) := of_decide_eq_true (by first | (with_reducible assumption) | assumption)
           have q145 : x13_1 < (l2.length : Int) := of_decide_eq_true (by first | (with_reducible assumption) | assumption)
           obtain ⟨ad145, e145, hx145_0⟩ := Kd.at_int HR2.out x13_1 p145 q145
           have hw145_0 := hx145_0
           cases e145
           replace hx145_0 := (HB.out.cell (World.block_lt_of_cell? w _ hx145_0)).trans hx145_0
           replace p145 := eq_true p145
           replace q145 := eq_true q145
           refine start_ (n := 19) (S := fun w' => w'.cell? (ad144.add ((ji11)).toNat) = some (.int .i64 (rd l1 (ji11))) ∧ w'.cell? (ad145.add (x13_1).toNat) = some (.int .i64 (rd l2 x13_1))) (ds := []) #[N,N,N,N,N,N,N,N,N,N,N,N,N,N,N,N,N,N,N] (by kernel_rfl) rfl rfl ⟨((HB.out.cell (World.block_lt_of_cell? w _ hw144_0)).trans hw144_0), ((HB.out.cell (World.block_lt_of_cell? w _ hw145_0)).trans hw145_0)⟩ (fun hHeld => ?_); refine with_tabW spec_l7Seam.tab9 spec_l7Seam.bits9 (fun HT_ HW_ => ?_)
           generalize wr.drew = w21 at HO_11 HO_12 HB hx144_0 hx145_0 hHeld ⊢
           refine pure_ (i := 0) (N := some 29) (v := ?_) (a' := ?_) #[Y,N,N,N,N,N,N,N,N,N,N,N,N,N,N,N,N,N,N] rfl rfl (any_of HT_.out (by kernel_rfl)) (fun _ _ _ h => h) (Or.inl ⟨by rfl, ?_⟩) ?_ ?_
           rotate_left
           ·intro w'
            go_simp
            with_reducible rfl
           rotate_left
           ·simp only [Act.put, pa, pb, pc, i64_w, i32_w]
            rfl
           refine pure_ (i := 1) (N := some 30) (v := ?_) (a' := ?_) #[Y,Y,N,N,N,N,N,N,N,N,N,N,N,N,N,N,N,N,N] rfl rfl (any_of HT_.out (by kernel_rfl)) (fun _ _ _ h => h) (Or.inl ⟨by rfl, ?_⟩) ?_ ?_
           rotate_left
           ·intro w'
            go_simp
            with_reducible rfl
           rotate_left
           ·simp only [Act.put, pa, pb, pc, i64_w, i32_w]
            rfl
           refine pure_ (i := 2) (N := some 31) (v := ?_) (a' := ?_) #[Y,Y,Y,N,N,N,N,N,N,N,N,N,N,N,N,N,N,N,N] rfl rfl (any_of HT_.out (by kernel_rfl)) (fun _ _ _ h => h) (Or.inl ⟨by rfl, ?_⟩) ?_ ?_
           rotate_left
           ·intro w'
            go_simp
            with_reducible rfl
           rotate_left
           ·simp only [Act.put, pa, pb, pc, i64_w, i32_w]
            rfl
           refine pure_ (i := 3) (N := some 32) (v := ?_) (a' := ?_) #[Y,Y,Y,Y,N,N,N,N,N,N,N,N,N,N,N,N,N,N,N] rfl rfl (any_of HT_.out (by kernel_rfl)) (fun _ _ _ h => h) (Or.inl ⟨by rfl, ?_⟩) ?_ ?_
           rotate_left
           ·intro w'
            go_simp
            with_reducible rfl
           rotate_left
           ·simp only [Act.put, pa, pb, pc, i64_w, i32_w]
            rfl
           refine pure_ (i := 4) (N := some 33) (v := ?_) (a' := ?_) #[Y,Y,Y,Y,Y,N,N,N,N,N,N,N,N,N,N,N,N,N,N] rfl rfl (any_of HT_.out (by kernel_rfl)) (fun _ _ _ h => h) (Or.inl ⟨by rfl, ?_⟩) ?_ ?_
           rotate_left
           ·intro w'
            go_simp
            with_reducible rfl
           rotate_left
           ·simp only [Act.put, pa, pb, pc, i64_w, i32_w]
            rfl
           refine pure_ (i := 5) (N := some 34) (v := ?_) (a' := ?_) #[Y,Y,Y,Y,Y,Y,N,N,N,N,N,N,N,N,N,N,N,N,N] rfl rfl (any_of HT_.out (by kernel_rfl)) (fun _ _ _ h => h) (Or.inl ⟨by rfl, ?_⟩) ?_ ?_
           rotate_left
           ·intro w'
            go_simp
            with_reducible rfl
           rotate_left
           ·simp only [Act.put, pa, pb, pc, i64_w, i32_w]
            rfl
           refine pure_ (i := 6) (N := some 35) (v := ?_) (a' := ?_) #[Y,Y,Y,Y,Y,Y,Y,N,N,N,N,N,N,N,N,N,N,N,N] rfl rfl (any_of HT_.out (by kernel_rfl)) (fun _ _ _ h => h) (Or.inl ⟨by rfl, ?_⟩) ?_ ?_
           rotate_left
           ·intro w'
            go_simp
            with_reducible rfl
           rotate_left
           ·simp only [Act.put, pa, pb, pc, i64_w, i32_w]
            rfl
           refine pure_ (i := 7) (N := some 36) (v := ?_) (a' := ?_) #[Y,Y,Y,Y,Y,Y,Y,Y,N,N,N,N,N,N,N,N,N,N,N] rfl rfl (any_of HT_.out (by kernel_rfl)) (fun _ _ _ h => h) (Or.inl ⟨by rfl, ?_⟩) ?_ ?_
           rotate_left
           ·intro w'
            go_simp
            with_reducible rfl
           rotate_left
           ·simp only [Act.put, pa, pb, pc, i64_w, i32_w]
            rfl
           refine pure_ (i := 9) (N := some 38) (v := ?_) (a' := ?_) #[Y,Y,Y,Y,Y,Y,Y,Y,N,Y,N,N,N,N,N,N,N,N,N] rfl rfl (any_of HT_.out (by kernel_rfl)) (fun _ _ _ h => h) (Or.inl ⟨by rfl, ?_⟩) ?_ ?_
           rotate_left
           ·intro w'
            go_simp
            with_reducible rfl
           rotate_left
           ·simp only [Act.put, pa, pb, pc, i64_w, i32_w]
            rfl
           refine pure_ (i := 10) (N := some 39) (v := ?_) (a' := ?_) #[Y,Y,Y,Y,Y,Y,Y,Y,N,Y,Y,N,N,N,N,N,N,N,N] rfl rfl (any_of HT_.out (by kernel_rfl)) (fun _ _ _ h => h) (Or.inl ⟨by rfl, ?_⟩) ?_ ?_
           rotate_left
           ·intro w'
            go_simp
            with_reducible rfl
           rotate_left
           ·simp only [Act.put, pa, pb, pc, i64_w, i32_w]
            rfl
           refine pure_ (i := 11) (N := some 40) (v := ?_) (a' := ?_) #[Y,Y,Y,Y,Y,Y,Y,Y,N,Y,Y,Y,N,N,N,N,N,N,N] rfl rfl (any_of HT_.out (by kernel_rfl)) (fun _ _ _ h => h) (Or.inl ⟨by rfl, ?_⟩) ?_ ?_
           rotate_left
           ·intro w'
            go_simp
            with_reducible rfl
           rotate_left
           ·simp only [Act.put, pa, pb, pc, i64_w, i32_w]
            rfl
           refine take_ (i := 8) (N := some 37) (v := ?_) (a' := ?_) #[Y,Y,Y,Y,Y,Y,Y,Y,Y,Y,Y,Y,N,N,N,N,N,N,N] rfl rfl (take_ofW HT_.out HW_.out (by kernel_rfl)) (fun _ _ _ h => h) (Or.inl ⟨by rfl, ?_⟩) hHeld ?_ ?_
           rotate_left
           ·rintro w' ⟨s0, s1⟩
            go_simp
            with_reducible rfl
           rotate_left
           ·simp only [Act.put, pa, pb, pc, i64_w, i32_w]
            rfl
           refine take_ (i := 12) (N := some 41) (v := ?_) (a' := ?_) #[Y,Y,Y,Y,Y,Y,Y,Y,Y,Y,Y,Y,Y,N,N,N,N,N,N] rfl rfl (take_ofW HT_.out HW_.out (by kernel_rfl)) (fun _ _ _ h => h) (Or.inl ⟨by rfl, ?_⟩) hHeld ?_ ?_
           rotate_left
           ·rintro w' ⟨s0, s1⟩
            go_simp
            with_reducible rfl
           rotate_left
           ·simp only [Act.put, pa, pb, pc, i64_w, i32_w]
            rfl
           refine one_ (i := 13) (N := some 42) #[Y,Y,Y,Y,Y,Y,Y,Y,Y,Y,Y,Y,Y,Y,N,N,N,N,N] rfl rfl (one_of HT_.out (by kernel_rfl)) (by decide) (fun K hK => ?_)
           refine goes_ Try.func142 (by kernel_rfl) rfl #[.int .i64 a0, .int .i64 x13_1, .int .i64 (rd l1 (ji11)), .int .i64 (rd l2 x13_1)] (by rfl) rfl rfl (by (try simp only [List.map_toArray, List.map_cons, List.map_nil]); first | done | (simp only [hji11]; rfl) | rfl | (simp only [List.length_drop, List.length_take]; rfl)) ?_
           with_reducible refine (spec_l5Back.calls a0 x13_1 (rd l1 (ji11)) (rd l2 x13_1) t146 t147 _ A16.out).mono ?_
           rintro e w22 ⟨rfl, hb⟩
           refine ⟨_, rfl, ?_⟩
           have n0_ := aM (rL (by (with_reducible repeat (first | apply rA | apply rN | apply rD)); exact HO_11.out) hb)
           have n1_ := aM (rL (by (with_reducible repeat (first | apply rA | apply rN | apply rD)); exact HO_12.out) hb)
           have n2_ := aM (bT (by repeat (first | exact HB.out | apply bA | apply bN | apply bD)) hb)
           clear HO_11
           clear HO_12
           clear HB
           have HO_11 := n0_
           have HO_12 := n1_
           have HB := n2_
           clear n0_ n1_ n2_
           (try clear hb)
           (try clear hb2)
           (try clear hk)
           (try clear hi)
           refine hK.out _ _ ⟨((HB.out.cell (World.block_lt_of_cell? w _ hw144_0)).trans hw144_0), ((HB.out.cell (World.block_lt_of_cell? w _ hw145_0)).trans hw145_0)⟩ (fun hHeld => ?_)
           clear hK K
           refine norm_ (a' := ?_) ?_ ?_
           rotate_left
           ·show Act.put _ (some 42) _ = _
            simp only [Act.put, pa, pb, pc, i64_w, i32_w]
            rfl
           refine pure_ (i := 14) (N := some 28) (v := ?_) (a' := ?_) #[Y,Y,Y,Y,Y,Y,Y,Y,Y,Y,Y,Y,Y,Y,Y,N,N,N,N] rfl rfl (any_of HT_.out (by kernel_rfl)) (fun _ _ _ h => h) (Or.inl ⟨by rfl, ?_⟩) ?_ ?_
           rotate_left
           ·intro w'
            go_simp
            with_reducible rfl
           rotate_left
           ·simp only [Act.put, pa, pb, pc, i64_w, i32_w]
            rfl
           refine pure_ (i := 15) (N := some 43) (v := ?_) (a' := ?_) #[Y,Y,Y,Y,Y,Y,Y,Y,Y,Y,Y,Y,Y,Y,Y,Y,N,N,N] rfl rfl (any_of HT_.out (by kernel_rfl)) (fun _ _ _ h => h) (Or.inl ⟨by rfl, ?_⟩) ?_ ?_
           rotate_left
           ·intro w'
            go_simp
            with_reducible rfl
           rotate_left
           ·simp only [Act.put, pa, pb, pc, i64_w, i32_w]
            rfl
           refine pure_ (i := 16) (N := some 44) (v := ?_) (a' := ?_) #[Y,Y,Y,Y,Y,Y,Y,Y,Y,Y,Y,Y,Y,Y,Y,Y,Y,N,N] rfl rfl (any_of HT_.out (by kernel_rfl)) (fun _ _ _ h => h) (Or.inl ⟨by rfl, ?_⟩) ?_ ?_
           rotate_left
           ·intro w'
            go_simp
            with_reducible rfl
           rotate_left
           ·simp only [Act.put, pa, pb, pc, i64_w, i32_w]
            rfl
           refine pure_ (i := 17) (N := some 14) (v := ?_) (a' := ?_) #[Y,Y,Y,Y,Y,Y,Y,Y,Y,Y,Y,Y,Y,Y,Y,Y,Y,Y,N] rfl rfl (any_of HT_.out (by kernel_rfl)) (fun _ _ _ h => h) (Or.inl ⟨by rfl, ?_⟩) ?_ ?_
           rotate_left
           ·intro w'
            go_simp
            with_reducible rfl
           rotate_left
           ·simp only [Act.put, pa, pb, pc, i64_w, i32_w]
            rfl
           refine pure_ (i := 18) (N := some 15) (v := ?_) (a' := ?_) #[Y,Y,Y,Y,Y,Y,Y,Y,Y,Y,Y,Y,Y,Y,Y,Y,Y,Y,Y] rfl rfl (any_of HT_.out (by kernel_rfl)) (fun _ _ _ h => h) (Or.inl ⟨by rfl, ?_⟩) ?_ ?_
           rotate_left
           ·intro w'
            go_simp
            with_reducible rfl
           rotate_left
           ·simp only [Act.put, pa, pb, pc, i64_w, i32_w]
            rfl
           refine done_ (done_of HT_.out (by kernel_rfl)) ?_
           have p18 : 0 ≤ ((ji11) : Int) := of_decide_eq_true (by first | (with_reducible assumption) | assumption)
           have q18 : ((ji11) : Int) < ((x11_1.length : Int) : Int) := of_decide_eq_true (by first | (with_reducible assumption) | assumption)
           obtain ⟨go18, co18, eo18, gb18, gl18, cl18, HG18⟩ := Kd.R_form HO_11.out (by omega)
           (first | cases eo18 | (injection eo18 with ea_ en_ ec_; (first | subst ea_ | (injection ea_ with ea_; subst ea_)); subst ec_; clear en_))
           have GB18 := aM gb18
           have GG18 := aM HG18
           clear gb18 gl18 HG18
           obtain ⟨hx18_0, hf18_0⟩ := Kd.R_celln 0 HO_11.out ((ji11) : Int) p18 q18
           replace p18 := eq_true p18
           replace q18 := eq_true q18
           obtain ⟨hy23_, hz23_⟩ := Kd.R_celln 0 HO_11.out ((ji11) : Int) (of_decide_eq_true (by first | (with_reducible assumption) | assumption)) (of_decide_eq_true (by first | (with_reducible assumption) | assumption))
           have HP23 := Kd.R_putg HO_11.out ((ji11) : Int) t146
           try go_wp2_with (first | ((with_reducible refine gate_store (t := 2) (p := 68) rfl ?_); refine store_event (t := 2) (p := 68) (v := ?vo_w24) (w1 := (w22.setCell ⟨go18, ((ji11) : Int).toNat, none⟩ (.int .i64 t146))) ?hg ?ho ?hn ?hr ?_; (case ho => rfl); (case hg => rfl); (case hn => rfl); (case hr => first | (go_simp; done) | (go_simp; rfl)); intro w24 hw; have hg : w22.grownBy w24 (some go18) := (by rw [hw]; exact HP23.2); have hp_ : Kd.R (Kd.int .i64) 2 w24 w.heap.size (fun k_ => some k_ ≠ (v142 : Value).ownBlock) (.slice (some ⟨go18, 0, none⟩) x11_1.length co18) y148 := (by rw [hw, Ny148.out]; exact HP23.1); clear HP23; have n0_ := aM (hp_); have n1_ := aM (Kd.R_after (v := (.slice (some ⟨go18, 0, none⟩) x11_1.length co18)) (v1 := (.slice (some ⟨go18, 0, none⟩) x11_1.length co18)) (ok := (fun _ => True)) (by (with_reducible repeat (first | apply rA | apply rN | apply rD)); exact rM HO_12.out (fun _ hk => ⟨trivial, hk⟩)) hg (.inl rfl)); have n2_ := aM ((by rw [hw]; exact bS (HB.out) GB18.out : Below w.heap.size w w24)); clear HO_11 HO_12 HB; have HO_11 := n0_; have HO_12 := n1_; have HB := n2_; clear n0_ n1_ n2_ hg hw hp_; have p20 : 0 ≤ (x13_1 : Int) := of_decide_eq_true (by first | (with_reducible assumption) | assumption); have q20 : (x13_1 : Int) < ((x12_1.length : Int) : Int) := of_decide_eq_true (by first | (with_reducible assumption) | assumption); obtain ⟨go20, co20, eo20, gb20, gl20, cl20, HG20⟩ := Kd.R_form HO_12.out (by omega); (first | cases eo20 | (injection eo20 with ea_ en_ ec_; (first | subst ea_ | (injection ea_ with ea_; subst ea_)); subst ec_; clear en_)); have GB20 := aM gb20; have GG20 := aM HG20; clear gb20 gl20 HG20; obtain ⟨hx20_0, hf20_0⟩ := Kd.R_celln 0 HO_12.out (x13_1 : Int) p20 q20; replace p20 := eq_true p20; replace q20 := eq_true q20; have n_ := aM (rM (ok' := (fun k_ => some k_ ≠ (.slice (some ⟨go18, 0, none⟩) x11_1.length co18 : Value).ownBlock)) HO_12.out (fun k_ hk => hk.2)); clear HO_12; have HO_12 := n_; clear n_; obtain ⟨hy25_, hz25_⟩ := Kd.R_celln 0 HO_12.out (x13_1 : Int) (of_decide_eq_true (by first | (with_reducible assumption) | assumption)) (of_decide_eq_true (by first | (with_reducible assumption) | assumption)); have HP25 := Kd.R_putg HO_12.out (x13_1 : Int) t147) | ((with_reducible refine gate_store (t := 2) (p := 72) rfl ?_); refine store_event (t := 2) (p := 72) (v := ?vo_w26) (w1 := (w24.setCell ⟨go20, (x13_1 : Int).toNat, none⟩ (.int .i64 t147))) ?hg ?ho ?hn ?hr ?_; (case ho => rfl); (case hg => rfl); (case hn => rfl); (case hr => first | (go_simp; done) | (go_simp; rfl)); intro w26 hw; have hg : w24.grownBy w26 (some go20) := (by rw [hw]; exact HP25.2); have hp_ : Kd.R (Kd.int .i64) 2 w26 w.heap.size (fun k_ => some k_ ≠ (.slice (some ⟨go18, 0, none⟩) x11_1.length co18 : Value).ownBlock) (.slice (some ⟨go20, 0, none⟩) x12_1.length co20) y149 := (by rw [hw, Ny149.out]; exact HP25.1); clear HP25; have n0_ := aM (Kd.R_after (v := (.slice (some ⟨go20, 0, none⟩) x12_1.length co20)) (v1 := (.slice (some ⟨go20, 0, none⟩) x12_1.length co20)) (ok := (fun _ => True)) (by (with_reducible repeat (first | apply rA | apply rN | apply rD)); exact rM HO_11.out (fun _ hk => ⟨trivial, hk⟩)) hg (.inl rfl)); have n1_ := aM (hp_); have n2_ := aM ((by rw [hw]; exact bS (HB.out) GB20.out : Below w.heap.size w w26)); clear HO_11 HO_12 HB; have HO_11 := n0_; have HO_12 := n1_; have HB := n2_; clear n0_ n1_ n2_ hg hw hp_))
           go_roundg k1
           case measure => have := HK1.out; omega
           case rel => exact ⟨(y148), (y149), (wrap64 (x13_1 + 1)), (by first | rfl | (simp; done) | (simp [*]; done)), H', ⟨by have := HK1.out; omega⟩, ⟨by (with_reducible repeat (first | apply rA | apply rN | apply rD)); exact rM HO_11.out (fun _ hk => hk.2)⟩, ⟨by (with_reducible repeat (first | apply rA | apply rN | apply rD)); exact HO_12.out⟩, ⟨by repeat (first | (with_reducible first | exact HB.out | apply bA | apply bN | apply bD) | exact HB.out)⟩⟩
          ·rw [if_neg c19] at H
           exact absurd H (by simp)
         ·rw [if_neg c17] at H
          exact absurd H (by simp)
        ·rw [if_neg c15] at H
         exact absurd H (by simp)
       ·rw [if_neg c14] at H
        exact absurd H (by simp)
      ·rw [if_neg c13] at H
       exact absurd H (by simp)
     ·rw [if_neg c12] at H
      exact absurd H (by simp)
    ·replace c10 := Bool.eq_false_iff.mpr c10
     subst c10
     have H1 : (if 0 ≤ (wrap64 ((wrap64 ((wrap64 (Int.tdiv a0 2)) - 1)) - x13_1)) then (if (wrap64 ((wrap64 ((wrap64 (Int.tdiv a0 2)) - 1)) - x13_1)) < (l1.length : Int) then (if 0 ≤ x13_1 then (if x13_1 < (l2.length : Int) then ((spec_l5Turn.f a0 x13_1 (rd l1 (wrap64 ((wrap64 ((wrap64 (Int.tdiv a0 2)) - 1)) - x13_1))) (rd l2 x13_1)).bind fun bt152 => (if (wrap64 ((wrap64 ((wrap64 (Int.tdiv a0 2)) - 1)) - x13_1)) < (x11_1.length : Int) then (if x13_1 < (x12_1.length : Int) then (spec_l7Seam.l0 k1 a0 l1 l2 false (wrap64 (Int.tdiv a0 2)) (x11_1.set ((wrap64 ((wrap64 ((wrap64 (Int.tdiv a0 2)) - 1)) - x13_1)) : Int).toNat bt152.1) (x12_1.set (x13_1 : Int).toNat bt152.2) (wrap64 (x13_1 + 1))) else (none)) else (none))) else (none)) else (none)) else (none)) else (none)) = some (r1, r2) := by rw [if_neg (show ¬ (false = true) by decide)] at H; exact H
     clear H
     have H := H1
     clear H1
     obtain ⟨ji27, hji27⟩ : ∃ j_ : Int, (wrap64 ((wrap64 ((wrap64 (Int.tdiv a0 2)) - 1)) - x13_1)) = j_ := ⟨_, rfl⟩
     replace H : (if 0 ≤ (ji27) then (if (ji27) < (l1.length : Int) then (if 0 ≤ x13_1 then (if x13_1 < (l2.length : Int) then ((spec_l5Turn.f a0 x13_1 (rd l1 (ji27)) (rd l2 x13_1)).bind fun bt152 => (if (ji27) < (x11_1.length : Int) then (if x13_1 < (x12_1.length : Int) then (spec_l7Seam.l0 k1 a0 l1 l2 false (wrap64 (Int.tdiv a0 2)) (x11_1.set ((ji27) : Int).toNat bt152.1) (x12_1.set (x13_1 : Int).toNat bt152.2) (wrap64 (x13_1 + 1))) else (none)) else (none))) else (none)) else (none)) else (none)) else (none)) = some (r1, r2) := by first | (rw [hji27] at H; exact H) | (simp only [hji27] at H ⊢; exact H)
     have hji27w : (IntKind.i64.wrap ((wrap64 ((wrap64 (Int.tdiv a0 2)) - 1)) - x13_1)) = ji27 := (i64_w _).trans hji27
     by_cases c28 : 0 ≤ (ji27)
     ·rw [if_pos c28] at H
      have c28b0 : decide (0 ≤ (ji27)) = true := decide_eq_true c28
      clear c28
      by_cases c29 : (ji27) < (l1.length : Int)
      ·rw [if_pos c29] at H
       have c29b0 : decide ((ji27) < (l1.length : Int)) = true := decide_eq_true c29
       clear c29
       by_cases c30 : 0 ≤ x13_1
       ·rw [if_pos c30] at H
        have c30b0 : decide (0 ≤ x13_1) = true := decide_eq_true c30
        clear c30
        by_cases c31 : x13_1 < (l2.length : Int)
        ·rw [if_pos c31] at H
         have c31b0 : decide (x13_1 < (l2.length : Int)) = true := decide_eq_true c31
         clear c31
         replace H := Option.bind_eq_some_iff.mp H
         obtain ⟨⟨t152, t153⟩, A320, H⟩ := H
         replace H : (if (ji27) < (x11_1.length : Int) then (if x13_1 < (x12_1.length : Int) then (spec_l7Seam.l0 k1 a0 l1 l2 false (wrap64 (Int.tdiv a0 2)) (x11_1.set ((ji27) : Int).toNat t152) (x12_1.set (x13_1 : Int).toNat t153) (wrap64 (x13_1 + 1))) else (none)) else (none)) = some (r1, r2) := H
         have A32 := aM A320
         clear A320
         by_cases c33 : (ji27) < (x11_1.length : Int)
         ·rw [if_pos c33] at H
          have c33b0 : decide ((ji27) < (x11_1.length : Int)) = true := decide_eq_true c33
          clear c33
          obtain ⟨y154, hy154⟩ : ∃ y_ : List Int, y_ = (x11_1.set ((ji27) : Int).toNat t152) := ⟨_, rfl⟩
          replace H : (if x13_1 < (x12_1.length : Int) then (spec_l7Seam.l0 k1 a0 l1 l2 false (wrap64 (Int.tdiv a0 2)) y154 (x12_1.set (x13_1 : Int).toNat t153) (wrap64 (x13_1 + 1))) else (none)) = some (r1, r2) := by first | (rw [hy154]; with_reducible exact H) | (have H2_ := (Option.bind_some _ _).symm.trans H; rw [hy154]; with_reducible exact H2_) | (have H2_ := (Option.bind_some _ _).symm.trans H; with_reducible exact H2_) | with_reducible exact H | (rw [hy154]; exact H) | exact H
          have Ny154 := aM hy154
          clear hy154
          by_cases c35 : x13_1 < (x12_1.length : Int)
          ·rw [if_pos c35] at H
           have c35b0 : decide (x13_1 < (x12_1.length : Int)) = true := decide_eq_true c35
           clear c35
           obtain ⟨y155, hy155⟩ : ∃ y_ : List Int, y_ = (x12_1.set (x13_1 : Int).toNat t153) := ⟨_, rfl⟩
           replace H : (spec_l7Seam.l0 k1 a0 l1 l2 false (wrap64 (Int.tdiv a0 2)) y154 y155 (wrap64 (x13_1 + 1))) = some (r1, r2) := by first | (rw [hy155]; with_reducible exact H) | (have H2_ := (Option.bind_some _ _).symm.trans H; rw [hy155]; with_reducible exact H2_) | (have H2_ := (Option.bind_some _ _).symm.trans H; with_reducible exact H2_) | with_reducible exact H | (rw [hy155]; exact H) | exact H
           have Ny155 := aM hy155
           clear hy155
           have H' := aM H
           clear H
           try go_wp2
           have n0_ := aM (rD HO_11.out)
           have n1_ := aM (rD HO_12.out)
           have n2_ := aM (bD HB.out)
           clear HO_11
           clear HO_12
           clear HB
           have HO_11 := n0_
           have HO_12 := n1_
           have HB := n2_
           clear n0_ n1_ n2_
           have p150 : 0 ≤ ((ji27) : Int) := of_decide_eq_true (by first | (with_reducible assumption) | assumption)
           have q150 : (ji27) < (l1.length : Int) := of_decide_eq_true (by first | (with_reducible assumption) | assumption)
           obtain ⟨ad150, e150, hx150_0⟩ := Kd.at_int HR1.out (ji27) p150 q150
           have hw150_0 := hx150_0
           cases e150
           replace hx150_0 := (HB.out.cell (World.block_lt_of_cell? w _ hx150_0)).trans hx150_0
           replace p150 := eq_true p150
           replace q150 := eq_true q150
           have p151 : 0 ≤ (x13_1 : Int) := of_decide_eq_true (by first | (with_reducible assumption) | assumption)
           have q151 : x13_1 < (l2.length : Int) := of_decide_eq_true (by first | (with_reducible assumption) | assumption)
           obtain ⟨ad151, e151, hx151_0⟩ := Kd.at_int HR2.out x13_1 p151 q151
           have hw151_0 := hx151_0
           cases e151
           replace hx151_0 := (HB.out.cell (World.block_lt_of_cell? w _ hx151_0)).trans hx151_0
           replace p151 := eq_true p151
           replace q151 := eq_true q151
           refine start_ (n := 19) (S := fun w' => w'.cell? (ad150.add ((ji27)).toNat) = some (.int .i64 (rd l1 (ji27))) ∧ w'.cell? (ad151.add (x13_1).toNat) = some (.int .i64 (rd l2 x13_1))) (ds := []) #[N,N,N,N,N,N,N,N,N,N,N,N,N,N,N,N,N,N,N] (by kernel_rfl) rfl rfl ⟨((HB.out.cell (World.block_lt_of_cell? w _ hw150_0)).trans hw150_0), ((HB.out.cell (World.block_lt_of_cell? w _ hw151_0)).trans hw151_0)⟩ (fun hHeld => ?_); refine with_tabW spec_l7Seam.tab10 spec_l7Seam.bits10 (fun HT_ HW_ => ?_)
           generalize wr.drew = w37 at HO_11 HO_12 HB hx150_0 hx151_0 hHeld ⊢
           refine pure_ (i := 0) (N := some 46) (v := ?_) (a' := ?_) #[Y,N,N,N,N,N,N,N,N,N,N,N,N,N,N,N,N,N,N] rfl rfl (any_of HT_.out (by kernel_rfl)) (fun _ _ _ h => h) (Or.inl ⟨by rfl, ?_⟩) ?_ ?_
           rotate_left
           ·intro w'
            go_simp
            with_reducible rfl
           rotate_left
           ·simp only [Act.put, pa, pb, pc, i64_w, i32_w]
            rfl
           refine pure_ (i := 1) (N := some 47) (v := ?_) (a' := ?_) #[Y,Y,N,N,N,N,N,N,N,N,N,N,N,N,N,N,N,N,N] rfl rfl (any_of HT_.out (by kernel_rfl)) (fun _ _ _ h => h) (Or.inl ⟨by rfl, ?_⟩) ?_ ?_
           rotate_left
           ·intro w'
            go_simp
            with_reducible rfl
           rotate_left
           ·simp only [Act.put, pa, pb, pc, i64_w, i32_w]
            rfl
           refine pure_ (i := 2) (N := some 48) (v := ?_) (a' := ?_) #[Y,Y,Y,N,N,N,N,N,N,N,N,N,N,N,N,N,N,N,N] rfl rfl (any_of HT_.out (by kernel_rfl)) (fun _ _ _ h => h) (Or.inl ⟨by rfl, ?_⟩) ?_ ?_
           rotate_left
           ·intro w'
            go_simp
            with_reducible rfl
           rotate_left
           ·simp only [Act.put, pa, pb, pc, i64_w, i32_w]
            rfl
           refine pure_ (i := 3) (N := some 49) (v := ?_) (a' := ?_) #[Y,Y,Y,Y,N,N,N,N,N,N,N,N,N,N,N,N,N,N,N] rfl rfl (any_of HT_.out (by kernel_rfl)) (fun _ _ _ h => h) (Or.inl ⟨by rfl, ?_⟩) ?_ ?_
           rotate_left
           ·intro w'
            go_simp
            with_reducible rfl
           rotate_left
           ·simp only [Act.put, pa, pb, pc, i64_w, i32_w]
            rfl
           refine pure_ (i := 4) (N := some 50) (v := ?_) (a' := ?_) #[Y,Y,Y,Y,Y,N,N,N,N,N,N,N,N,N,N,N,N,N,N] rfl rfl (any_of HT_.out (by kernel_rfl)) (fun _ _ _ h => h) (Or.inl ⟨by rfl, ?_⟩) ?_ ?_
           rotate_left
           ·intro w'
            go_simp
            with_reducible rfl
           rotate_left
           ·simp only [Act.put, pa, pb, pc, i64_w, i32_w]
            rfl
           refine pure_ (i := 5) (N := some 51) (v := ?_) (a' := ?_) #[Y,Y,Y,Y,Y,Y,N,N,N,N,N,N,N,N,N,N,N,N,N] rfl rfl (any_of HT_.out (by kernel_rfl)) (fun _ _ _ h => h) (Or.inl ⟨by rfl, ?_⟩) ?_ ?_
           rotate_left
           ·intro w'
            go_simp
            with_reducible rfl
           rotate_left
           ·simp only [Act.put, pa, pb, pc, i64_w, i32_w]
            rfl
           refine pure_ (i := 6) (N := some 52) (v := ?_) (a' := ?_) #[Y,Y,Y,Y,Y,Y,Y,N,N,N,N,N,N,N,N,N,N,N,N] rfl rfl (any_of HT_.out (by kernel_rfl)) (fun _ _ _ h => h) (Or.inl ⟨by rfl, ?_⟩) ?_ ?_
           rotate_left
           ·intro w'
            go_simp
            with_reducible rfl
           rotate_left
           ·simp only [Act.put, pa, pb, pc, i64_w, i32_w]
            rfl
           refine pure_ (i := 7) (N := some 53) (v := ?_) (a' := ?_) #[Y,Y,Y,Y,Y,Y,Y,Y,N,N,N,N,N,N,N,N,N,N,N] rfl rfl (any_of HT_.out (by kernel_rfl)) (fun _ _ _ h => h) (Or.inl ⟨by rfl, ?_⟩) ?_ ?_
           rotate_left
           ·intro w'
            go_simp
            with_reducible rfl
           rotate_left
           ·simp only [Act.put, pa, pb, pc, i64_w, i32_w]
            rfl
           refine pure_ (i := 9) (N := some 55) (v := ?_) (a' := ?_) #[Y,Y,Y,Y,Y,Y,Y,Y,N,Y,N,N,N,N,N,N,N,N,N] rfl rfl (any_of HT_.out (by kernel_rfl)) (fun _ _ _ h => h) (Or.inl ⟨by rfl, ?_⟩) ?_ ?_
           rotate_left
           ·intro w'
            go_simp
            with_reducible rfl
           rotate_left
           ·simp only [Act.put, pa, pb, pc, i64_w, i32_w]
            rfl
           refine pure_ (i := 10) (N := some 56) (v := ?_) (a' := ?_) #[Y,Y,Y,Y,Y,Y,Y,Y,N,Y,Y,N,N,N,N,N,N,N,N] rfl rfl (any_of HT_.out (by kernel_rfl)) (fun _ _ _ h => h) (Or.inl ⟨by rfl, ?_⟩) ?_ ?_
           rotate_left
           ·intro w'
            go_simp
            with_reducible rfl
           rotate_left
           ·simp only [Act.put, pa, pb, pc, i64_w, i32_w]
            rfl
           refine pure_ (i := 11) (N := some 57) (v := ?_) (a' := ?_) #[Y,Y,Y,Y,Y,Y,Y,Y,N,Y,Y,Y,N,N,N,N,N,N,N] rfl rfl (any_of HT_.out (by kernel_rfl)) (fun _ _ _ h => h) (Or.inl ⟨by rfl, ?_⟩) ?_ ?_
           rotate_left
           ·intro w'
            go_simp
            with_reducible rfl
           rotate_left
           ·simp only [Act.put, pa, pb, pc, i64_w, i32_w]
            rfl
           refine take_ (i := 8) (N := some 54) (v := ?_) (a' := ?_) #[Y,Y,Y,Y,Y,Y,Y,Y,Y,Y,Y,Y,N,N,N,N,N,N,N] rfl rfl (take_ofW HT_.out HW_.out (by kernel_rfl)) (fun _ _ _ h => h) (Or.inl ⟨by rfl, ?_⟩) hHeld ?_ ?_
           rotate_left
           ·rintro w' ⟨s0, s1⟩
            go_simp
            with_reducible rfl
           rotate_left
           ·simp only [Act.put, pa, pb, pc, i64_w, i32_w]
            rfl
           refine take_ (i := 12) (N := some 58) (v := ?_) (a' := ?_) #[Y,Y,Y,Y,Y,Y,Y,Y,Y,Y,Y,Y,Y,N,N,N,N,N,N] rfl rfl (take_ofW HT_.out HW_.out (by kernel_rfl)) (fun _ _ _ h => h) (Or.inl ⟨by rfl, ?_⟩) hHeld ?_ ?_
           rotate_left
           ·rintro w' ⟨s0, s1⟩
            go_simp
            with_reducible rfl
           rotate_left
           ·simp only [Act.put, pa, pb, pc, i64_w, i32_w]
            rfl
           refine one_ (i := 13) (N := some 59) #[Y,Y,Y,Y,Y,Y,Y,Y,Y,Y,Y,Y,Y,Y,N,N,N,N,N] rfl rfl (one_of HT_.out (by kernel_rfl)) (by decide) (fun K hK => ?_)
           refine goes_ Try.func143 (by kernel_rfl) rfl #[.int .i64 a0, .int .i64 x13_1, .int .i64 (rd l1 (ji27)), .int .i64 (rd l2 x13_1)] (by rfl) rfl rfl (by (try simp only [List.map_toArray, List.map_cons, List.map_nil]); first | done | (simp only [hji27]; rfl) | rfl | (simp only [List.length_drop, List.length_take]; rfl)) ?_
           with_reducible refine (spec_l5Turn.calls a0 x13_1 (rd l1 (ji27)) (rd l2 x13_1) t152 t153 _ A32.out).mono ?_
           rintro e w38 ⟨rfl, hb⟩
           refine ⟨_, rfl, ?_⟩
           have n0_ := aM (rL (by (with_reducible repeat (first | apply rA | apply rN | apply rD)); exact HO_11.out) hb)
           have n1_ := aM (rL (by (with_reducible repeat (first | apply rA | apply rN | apply rD)); exact HO_12.out) hb)
           have n2_ := aM (bT (by repeat (first | exact HB.out | apply bA | apply bN | apply bD)) hb)
           clear HO_11
           clear HO_12
           clear HB
           have HO_11 := n0_
           have HO_12 := n1_
           have HB := n2_
           clear n0_ n1_ n2_
           (try clear hb)
           (try clear hb2)
           (try clear hk)
           (try clear hi)
           refine hK.out _ _ ⟨((HB.out.cell (World.block_lt_of_cell? w _ hw150_0)).trans hw150_0), ((HB.out.cell (World.block_lt_of_cell? w _ hw151_0)).trans hw151_0)⟩ (fun hHeld => ?_)
           clear hK K
           refine norm_ (a' := ?_) ?_ ?_
           rotate_left
           ·show Act.put _ (some 59) _ = _
            simp only [Act.put, pa, pb, pc, i64_w, i32_w]
            rfl
           refine pure_ (i := 14) (N := some 45) (v := ?_) (a' := ?_) #[Y,Y,Y,Y,Y,Y,Y,Y,Y,Y,Y,Y,Y,Y,Y,N,N,N,N] rfl rfl (any_of HT_.out (by kernel_rfl)) (fun _ _ _ h => h) (Or.inl ⟨by rfl, ?_⟩) ?_ ?_
           rotate_left
           ·intro w'
            go_simp
            with_reducible rfl
           rotate_left
           ·simp only [Act.put, pa, pb, pc, i64_w, i32_w]
            rfl
           refine pure_ (i := 15) (N := some 60) (v := ?_) (a' := ?_) #[Y,Y,Y,Y,Y,Y,Y,Y,Y,Y,Y,Y,Y,Y,Y,Y,N,N,N] rfl rfl (any_of HT_.out (by kernel_rfl)) (fun _ _ _ h => h) (Or.inl ⟨by rfl, ?_⟩) ?_ ?_
           rotate_left
           ·intro w'
            go_simp
            with_reducible rfl
           rotate_left
           ·simp only [Act.put, pa, pb, pc, i64_w, i32_w]
            rfl
           refine pure_ (i := 16) (N := some 61) (v := ?_) (a' := ?_) #[Y,Y,Y,Y,Y,Y,Y,Y,Y,Y,Y,Y,Y,Y,Y,Y,Y,N,N] rfl rfl (any_of HT_.out (by kernel_rfl)) (fun _ _ _ h => h) (Or.inl ⟨by rfl, ?_⟩) ?_ ?_
           rotate_left
           ·intro w'
            go_simp
            with_reducible rfl
           rotate_left
           ·simp only [Act.put, pa, pb, pc, i64_w, i32_w]
            rfl
           refine pure_ (i := 17) (N := some 14) (v := ?_) (a' := ?_) #[Y,Y,Y,Y,Y,Y,Y,Y,Y,Y,Y,Y,Y,Y,Y,Y,Y,Y,N] rfl rfl (any_of HT_.out (by kernel_rfl)) (fun _ _ _ h => h) (Or.inl ⟨by rfl, ?_⟩) ?_ ?_
           rotate_left
           ·intro w'
            go_simp
            with_reducible rfl
           rotate_left
           ·simp only [Act.put, pa, pb, pc, i64_w, i32_w]
            rfl
           refine pure_ (i := 18) (N := some 15) (v := ?_) (a' := ?_) #[Y,Y,Y,Y,Y,Y,Y,Y,Y,Y,Y,Y,Y,Y,Y,Y,Y,Y,Y] rfl rfl (any_of HT_.out (by kernel_rfl)) (fun _ _ _ h => h) (Or.inl ⟨by rfl, ?_⟩) ?_ ?_
           rotate_left
           ·intro w'
            go_simp
            with_reducible rfl
           rotate_left
           ·simp only [Act.put, pa, pb, pc, i64_w, i32_w]
            rfl
           refine done_ (done_of HT_.out (by kernel_rfl)) ?_
           have p34 : 0 ≤ ((ji27) : Int) := of_decide_eq_true (by first | (with_reducible assumption) | assumption)
           have q34 : ((ji27) : Int) < ((x11_1.length : Int) : Int) := of_decide_eq_true (by first | (with_reducible assumption) | assumption)
           obtain ⟨go34, co34, eo34, gb34, gl34, cl34, HG34⟩ := Kd.R_form HO_11.out (by omega)
           (first | cases eo34 | (injection eo34 with ea_ en_ ec_; (first | subst ea_ | (injection ea_ with ea_; subst ea_)); subst ec_; clear en_))
           have GB34 := aM gb34
           have GG34 := aM HG34
           clear gb34 gl34 HG34
           obtain ⟨hx34_0, hf34_0⟩ := Kd.R_celln 0 HO_11.out ((ji27) : Int) p34 q34
           replace p34 := eq_true p34
           replace q34 := eq_true q34
           obtain ⟨hy39_, hz39_⟩ := Kd.R_celln 0 HO_11.out ((ji27) : Int) (of_decide_eq_true (by first | (with_reducible assumption) | assumption)) (of_decide_eq_true (by first | (with_reducible assumption) | assumption))
           have HP39 := Kd.R_putg HO_11.out ((ji27) : Int) t152
           try go_wp2_with (first | ((with_reducible refine gate_store (t := 2) (p := 68) rfl ?_); refine store_event (t := 2) (p := 68) (v := ?vo_w40) (w1 := (w38.setCell ⟨go34, ((ji27) : Int).toNat, none⟩ (.int .i64 t152))) ?hg ?ho ?hn ?hr ?_; (case ho => rfl); (case hg => rfl); (case hn => rfl); (case hr => first | (go_simp; done) | (go_simp; rfl)); intro w40 hw; have hg : w38.grownBy w40 (some go34) := (by rw [hw]; exact HP39.2); have hp_ : Kd.R (Kd.int .i64) 2 w40 w.heap.size (fun k_ => some k_ ≠ (v142 : Value).ownBlock) (.slice (some ⟨go34, 0, none⟩) x11_1.length co34) y154 := (by rw [hw, Ny154.out]; exact HP39.1); clear HP39; have n0_ := aM (hp_); have n1_ := aM (Kd.R_after (v := (.slice (some ⟨go34, 0, none⟩) x11_1.length co34)) (v1 := (.slice (some ⟨go34, 0, none⟩) x11_1.length co34)) (ok := (fun _ => True)) (by (with_reducible repeat (first | apply rA | apply rN | apply rD)); exact rM HO_12.out (fun _ hk => ⟨trivial, hk⟩)) hg (.inl rfl)); have n2_ := aM ((by rw [hw]; exact bS (HB.out) GB34.out : Below w.heap.size w w40)); clear HO_11 HO_12 HB; have HO_11 := n0_; have HO_12 := n1_; have HB := n2_; clear n0_ n1_ n2_ hg hw hp_; have p36 : 0 ≤ (x13_1 : Int) := of_decide_eq_true (by first | (with_reducible assumption) | assumption); have q36 : (x13_1 : Int) < ((x12_1.length : Int) : Int) := of_decide_eq_true (by first | (with_reducible assumption) | assumption); obtain ⟨go36, co36, eo36, gb36, gl36, cl36, HG36⟩ := Kd.R_form HO_12.out (by omega); (first | cases eo36 | (injection eo36 with ea_ en_ ec_; (first | subst ea_ | (injection ea_ with ea_; subst ea_)); subst ec_; clear en_)); have GB36 := aM gb36; have GG36 := aM HG36; clear gb36 gl36 HG36; obtain ⟨hx36_0, hf36_0⟩ := Kd.R_celln 0 HO_12.out (x13_1 : Int) p36 q36; replace p36 := eq_true p36; replace q36 := eq_true q36; have n_ := aM (rM (ok' := (fun k_ => some k_ ≠ (.slice (some ⟨go34, 0, none⟩) x11_1.length co34 : Value).ownBlock)) HO_12.out (fun k_ hk => hk.2)); clear HO_12; have HO_12 := n_; clear n_; obtain ⟨hy41_, hz41_⟩ := Kd.R_celln 0 HO_12.out (x13_1 : Int) (of_decide_eq_true (by first | (with_reducible assumption) | assumption)) (of_decide_eq_true (by first | (with_reducible assumption) | assumption)); have HP41 := Kd.R_putg HO_12.out (x13_1 : Int) t153) | ((with_reducible refine gate_store (t := 2) (p := 72) rfl ?_); refine store_event (t := 2) (p := 72) (v := ?vo_w42) (w1 := (w40.setCell ⟨go36, (x13_1 : Int).toNat, none⟩ (.int .i64 t153))) ?hg ?ho ?hn ?hr ?_; (case ho => rfl); (case hg => rfl); (case hn => rfl); (case hr => first | (go_simp; done) | (go_simp; rfl)); intro w42 hw; have hg : w40.grownBy w42 (some go36) := (by rw [hw]; exact HP41.2); have hp_ : Kd.R (Kd.int .i64) 2 w42 w.heap.size (fun k_ => some k_ ≠ (.slice (some ⟨go34, 0, none⟩) x11_1.length co34 : Value).ownBlock) (.slice (some ⟨go36, 0, none⟩) x12_1.length co36) y155 := (by rw [hw, Ny155.out]; exact HP41.1); clear HP41; have n0_ := aM (Kd.R_after (v := (.slice (some ⟨go36, 0, none⟩) x12_1.length co36)) (v1 := (.slice (some ⟨go36, 0, none⟩) x12_1.length co36)) (ok := (fun _ => True)) (by (with_reducible repeat (first | apply rA | apply rN | apply rD)); exact rM HO_11.out (fun _ hk => ⟨trivial, hk⟩)) hg (.inl rfl)); have n1_ := aM (hp_); have n2_ := aM ((by rw [hw]; exact bS (HB.out) GB36.out : Below w.heap.size w w42)); clear HO_11 HO_12 HB; have HO_11 := n0_; have HO_12 := n1_; have HB := n2_; clear n0_ n1_ n2_ hg hw hp_))
           go_roundg k1
           case measure => have := HK1.out; omega
           case rel => exact ⟨(y154), (y155), (wrap64 (x13_1 + 1)), (by first | rfl | (simp; done) | (simp [*]; done)), H', ⟨by have := HK1.out; omega⟩, ⟨by (with_reducible repeat (first | apply rA | apply rN | apply rD)); exact rM HO_11.out (fun _ hk => hk.2)⟩, ⟨by (with_reducible repeat (first | apply rA | apply rN | apply rD)); exact HO_12.out⟩, ⟨by repeat (first | (with_reducible first | exact HB.out | apply bA | apply bN | apply bD) | exact HB.out)⟩⟩
          ·rw [if_neg c35] at H
           exact absurd H (by simp)
         ·rw [if_neg c33] at H
          exact absurd H (by simp)
        ·rw [if_neg c31] at H
         exact absurd H (by simp)
       ·rw [if_neg c30] at H
        exact absurd H (by simp)
      ·rw [if_neg c29] at H
       exact absurd H (by simp)
     ·rw [if_neg c28] at H
      exact absurd H (by simp)
   ·rw [if_neg c9] at H
    have c9b0 : decide (x13_1 < (wrap64 (Int.tdiv a0 2))) = false := decide_eq_false c9
    clear c9
    simp only [Option.some.injEq, Prod.mk.injEq] at H
    obtain ⟨rfl, rfl⟩ := H
    go_wp2
    go_ret2
    exact ⟨_, _, by first | rfl | (simp [errW_none, errW_some] <;> rfl) | (simp [*, errW_none, errW_some] <;> rfl), by (with_reducible repeat (first | apply rA | apply rN | apply rD)); exact HO_11.out, by (with_reducible repeat (first | apply rA | apply rN | apply rD)); exact HO_12.out, by repeat (first | (with_reducible first | exact HB.out | apply bA | apply bN | apply bD) | exact HB.out)⟩

/-! ### spec_l1Ints: function 114 -/
def spec_l1Ints.f (l0 : List Int) : Option (List Int) := (some (([] : List Int) : List Int)).bind fun y156 => (if y156.length + l0.length < 17592186044416 then (some (y156 ++ l0)) else (none))
set_option maxHeartbeats 8000000 in
set_option maxRecDepth 100000 in
theorem spec_l1Ints.calls (A0 : Option Addr) (c0 : Nat) (l0 : List Int) (r : List Int) (w : World) (hr0 : Kd.C (Kd.int .i64) w A0 l0.length l0) (hc0 : l0.length ≤ c0) (h : spec_l1Ints.f l0 = some r) :
  Calls Try.prog 114 #[.slice A0 l0.length c0] w fun e w' => ∃ v0_ : Value, e = .returned (v0_) ∧ Kd.R (Kd.int .i64) 2 w' w.heap.size (fun _ => True) v0_ r ∧ Below w.heap.size w w' := by
 have HR0 := aM hr0
 have HC0 := aM hc0
 clear hr0 hc0
 have HB := aM (Below.refl w.heap.size w)
 have H : ((some (([] : List Int) : List Int)).bind fun y156 => (if y156.length + l0.length < 17592186044416 then (some (y156 ++ l0)) else (none))) = some r := h
 clear h
 obtain ⟨y156, hy156⟩ : ∃ y_ : List Int, y_ = (([] : List Int)) := ⟨_, rfl⟩
 replace H : (if y156.length + l0.length < 17592186044416 then (some (y156 ++ l0)) else (none)) = some r := by first | (rw [hy156]; with_reducible exact H) | (have H2_ := (Option.bind_some _ _).symm.trans H; rw [hy156]; with_reducible exact H2_) | (have H2_ := (Option.bind_some _ _).symm.trans H; with_reducible exact H2_) | with_reducible exact H | (rw [hy156]; exact H) | exact H
 have Ny156 := aM hy156
 clear hy156
 by_cases c2 : y156.length + l0.length < 17592186044416
 ·rw [if_pos c2] at H
  have LMc2 := aM c2
  clear c2
  obtain ⟨y159, hy159⟩ : ∃ y_ : List Int, y_ = (y156 ++ l0) := ⟨_, rfl⟩
  replace H : (some y159) = some r := by first | (rw [hy159]; with_reducible exact H) | (have H2_ := (Option.bind_some _ _).symm.trans H; rw [hy159]; with_reducible exact H2_) | (have H2_ := (Option.bind_some _ _).symm.trans H; with_reducible exact H2_) | with_reducible exact H | (rw [hy159]; exact H) | exact H
  have Ny159 := aM hy159
  clear hy159
  obtain rfl := Option.some.inj H
  go_enter Try.func114, Try.ntmps114
  go_wp2_with (first | ((with_reducible refine gate_dst (N := 3) rfl ?_); refine Kd.R_lit (Kd.int .i64) _ 2 ?hg (N := 3) ?hd (xs := ([] : List Int)) (inner := []) (ok := fun _ => True) (okp := fun _ => True) ?hr ?hp (fun _ hk => hk) trivial (Below.refl _ _) (Nat.le_refl _) (by simp) ?_; (case hd => rfl); (case hg => rfl); (case hr => first | (go_simp; done) | (go_simp; rfl)); (case hp => exact (Reps.none _ _)); intro v157 w3 ho4 hb hg_ hnew_; clear hg_ hnew_; (first | rw [← Ny156.out] at ho4 | (simp only [Int.reduceToNat] at ho4; rw [← Ny156.out] at ho4)); have n0_ := aM (rG ho4 (bZ (by repeat (first | exact HB.out | apply bA | apply bN | apply bD)))); have n1_ := aM (bT (by repeat (first | exact HB.out | apply bA | apply bN | apply bD)) hb); clear HB; have HO158 := n0_; have HB := n1_; clear n0_ n1_ hb ho4) | ((with_reducible refine gate_builtin (b := .append) (xs := #[.tmp 3, .tmp 4]) rfl ?_); at_builtin; refine Kd.R_append_rows (Kd.int .i64) (w0 := w) w.heap.size rfl (.tmp 3) (.tmp 4) 22 2 (.int .i64 0) 8 rfl Try.underlying22 info2 rfl (by decide) (by omega) v157 y156 l0 _ _ _ (fun _ => True) (fun _ => False) rfl rfl ?aO ?aR (fun _ _ h => h) (fun _ h => h.elim) ?aF ?aB ?aS ?aL ?_; (case aR => repeat (first | exact (cB HR0.out HB.out) | (with_reducible refine cA ?_ _) | (with_reducible refine cN ?_ _) | (with_reducible refine cD ?_))); (case aB => exact (by repeat (first | exact HB.out | apply bA | apply bN | apply bD))); (case aF => exact (fun _ _ => trivial)); (case aO => exact (by (with_reducible repeat (first | apply rA | apply rN | apply rD)); exact HO158.out)); (case aS => exact (bZ (by repeat (first | exact HB.out | apply bA | apply bN | apply bD)))); (case aL => have := LMc2.out; omega); intro v160 w5 ho hb hg hat; rw [← Ny159.out] at ho; have n0_ := aM (hb); have n1_ := aM (ho); clear HB HO158; have HB := n0_; have HO161 := n1_; clear n0_ n1_ ho hb hg hat))
  go_ret
  exact ⟨_, by first | rfl | (simp [errW_none, errW_some] <;> rfl) | (simp [*, errW_none, errW_some] <;> rfl), by (with_reducible repeat (first | apply rA | apply rN | apply rD)); exact HO161.out, by repeat (first | (with_reducible first | exact HB.out | apply bA | apply bN | apply bD) | exact HB.out)⟩
 ·rw [if_neg c2] at H
  exact absurd H (by simp)

/-! ### spec_l5Mix: function 159 -/
def spec_l5Mix.f (a0 : Int) (a1 : Int) : Option (Int × Int) := (spec_l1Floor.f (wrap64 (a0 - a1)) 2).bind fun t162 => (some (wrap64 (a1 + t162), wrap64 (a0 - a1)))
set_option maxHeartbeats 8000000 in
set_option maxRecDepth 100000 in
theorem spec_l5Mix.calls (a0 : Int) (a1 : Int) (r1 : Int) (r2 : Int) (w : World) (h : spec_l5Mix.f a0 a1 = some (r1, r2)) :
  Calls Try.prog 159 #[.int .i64 a0, .int .i64 a1] w fun e w' => e = .returned (.tuple #[.int .i64 r1, .int .i64 r2]) ∧ Below w.heap.size w w' := by
 have HB := aM (Below.refl w.heap.size w)
 have H : ((spec_l1Floor.f (wrap64 (a0 - a1)) 2).bind fun t162 => (some (wrap64 (a1 + t162), wrap64 (a0 - a1)))) = some (r1, r2) := h
 clear h
 replace H := Option.bind_eq_some_iff.mp H
 obtain ⟨t162, A30, H⟩ := H
 replace H : (some (wrap64 (a1 + t162), wrap64 (a0 - a1))) = some (r1, r2) := H
 have A3 := aM A30
 clear A30
 simp only [Option.some.injEq, Prod.mk.injEq] at H
 obtain ⟨rfl, rfl⟩ := H
 go_enter Try.func159, Try.ntmps159
 go_wp2_with (first | ((with_reducible refine gate_callee (f := 160) rfl ?_); refine goesL_ (some 10) rfl rfl Try.func160 (by kernel_rfl) rfl #[.int .i64 (wrap64 (a0 - a1)), .int .i64 2] rfl (by first | rfl | (simp only [List.map_toArray, List.map_cons, List.map_nil]; rfl)) ?_; (with_reducible refine (spec_l1Floor.calls (wrap64 (a0 - a1)) 2 t162 _ A3.out).mono ?_); rintro e w' ⟨rfl, ⟨nd, rfl⟩⟩; refine ⟨_, rfl, ?_⟩))
 go_ret2
 exact ⟨by first | rfl | (simp [errW_none, errW_some] <;> rfl) | (simp [*, errW_none, errW_some] <;> rfl), by repeat (first | (with_reducible first | exact HB.out | apply bA | apply bN | apply bD) | exact HB.out)⟩

end Go.Proofs.Ytmhnpogjkbmmnaa.PFnExactFeedFrame
