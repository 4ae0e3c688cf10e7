-- Written by a program of this session: wip/mkprint.py over the kit's print, with contracts proved by hand (wip/given.py)
-- told shortest
-- told shorter still
-- shortened
-- told short
-- worlds by letters
-- squeezed
import Derived.Test.YtmhnpogjkbmmnaaPFnFrameBoundsx0
import Derived.Test.YtmhnpogjkbmmnaaPFnFrameBoundsx15
namespace Go.Proofs.Ytmhnpogjkbmmnaa.PFnFrameBounds
open Go.RowKit Go.Proofs.YtmhnpogjkbmmnaaW.PrintWords Go.Proofs.YtmhnpogjkbmmnaaW.PrintLast Go.Proofs.YtmhnpogjkbmmnaaW.PrintMore
open Go.Proofs.YtmhnpogjkbmmnaaW.PrintWords.Kd renaming R_alloc → rA, R_drewN → rN, R_drew → rD, R_lower → rG, C_below → cB
open Go.Proofs.YtmhnpogjkbmmnaaW.PrintWords renaming below_drew1 → bD, below_step → bT, below_size → bZ
open Go.Proofs.YtmhnpogjkbmmnaaW.PrintWords.Aside0 renaming mk → aM
attribute [local go_sem] max2_int min2_int max_two min_two max_three min_three max_four min_four   -- for this text's walks alone
set_option linter.unusedVariables false
set_option linter.unusedSimpArgs false

/-! ### laws_lwBent: function 39 -/
mutual
def laws_lwBent.l0 : Nat → List Int → List Int → List Int → Int → List Int → Int → Option (List Int)
 | 0, _, _, _, _, _, _ => none
 | k + 1, x0, x1, x2, x3, x9, x10 => if x10 < (x0.length : Int) then (laws_lwBent.j1 k x0 x1 x2 x3 x9 x10 (decide (x10 < (x1.length : Int)))) else (laws_lwBent.j1 k x0 x1 x2 x3 x9 x10 false)
def laws_lwBent.j1 : Nat → List Int → List Int → List Int → Int → List Int → Int → Bool → Option (List Int)
 | 0, _, _, _, _, _, _, _ => none
 | k + 1, x0, x1, x2, x3, x9, x10, x22 => if x22 = true then (if 0 ≤ x10 then (if x10 < (x1.length : Int) then ((laws_lwAt.f x2 (wrap64 (x3 + x10)) (wrap64 ((wrap64 (2 * (rd x1 x10))) + 1))).bind fun t551 => ((laws_lwAt.f x2 (wrap64 ((wrap64 (x3 + x10)) + 1)) 3).bind fun t553 => (if t553 = 0 then ((laws_lwAt.f x2 (wrap64 ((wrap64 (x3 + x10)) + 2)) 5).bind fun t555 => (if t555 = 0 then (if x10 < (x0.length : Int) then (if x9.length < 17592186044416 then (laws_lwBent.l0 k x0 x1 x2 x3 (x9 ++ [wrap64 ((rd x0 x10) + (wrap64 (-(rd x1 x10))))]) (wrap64 (x10 + 1))) else (none)) else (none)) else (if x10 < (x0.length : Int) then (if x9.length < 17592186044416 then (laws_lwBent.l0 k x0 x1 x2 x3 (x9 ++ [wrap64 ((rd x0 x10) + (rd x1 x10))]) (wrap64 (x10 + 1))) else (none)) else (none)))) else ((laws_lwAt.f x2 (wrap64 ((wrap64 (x3 + x10)) + 2)) 5).bind fun t565 => (if t565 = 0 then (if x10 < (x0.length : Int) then (if x9.length < 17592186044416 then (laws_lwBent.l0 k x0 x1 x2 x3 (x9 ++ [wrap64 ((rd x0 x10) + (wrap64 (-(rd x1 x10))))]) (wrap64 (x10 + 1))) else (none)) else (none)) else (if x10 < (x0.length : Int) then (if x9.length < 17592186044416 then (laws_lwBent.l0 k x0 x1 x2 x3 (x9 ++ [wrap64 ((rd x0 x10) + (wrap64 (t551 - (rd x1 x10))))]) (wrap64 (x10 + 1))) else (none)) else (none))))))) else (none)) else (none)) else (some x9)
end
def laws_lwBent.f (k : Nat) (l0 : List Int) (l1 : List Int) (l2 : List Int) (a3 : Int) : Option (List Int) := laws_lwBent.l0 k l0 l1 l2 a3 (([] : List Int)) 0
theorem laws_lwBent.mono_l : ∀ k, (∀ y0 y1 y2 y3 y4 y5, LeO (laws_lwBent.l0 k y0 y1 y2 y3 y4 y5) (laws_lwBent.l0 (k + 1) y0 y1 y2 y3 y4 y5)) ∧ (∀ y0 y1 y2 y3 y4 y5 y6, LeO (laws_lwBent.j1 k y0 y1 y2 y3 y4 y5 y6) (laws_lwBent.j1 (k + 1) y0 y1 y2 y3 y4 y5 y6))
 | 0 => ⟨fun _ _ _ _ _ _ r h => by simp [laws_lwBent.l0] at h, fun _ _ _ _ _ _ _ r h => by simp [laws_lwBent.j1] at h⟩
 | k + 1 => by
  obtain ⟨ih0, ih1⟩ := laws_lwBent.mono_l k
  refine ⟨?_, ?_⟩
  ·intro y0 y1 y2 y3 y4 y5
   unfold laws_lwBent.l0
   repeat' first
   | (with_reducible exact ih0 _ _ _ _ _ _)
   | (with_reducible exact ih1 _ _ _ _ _ _ _)
   | (with_reducible exact LeO.refl _)
   | (with_reducible exact LeO.none _)
   | (with_reducible refine LeO.ite ?_ ?_)
   | (with_reducible refine LeO.bind ?_ (fun _ => ?_))
   | exact ih0 _ _ _ _ _ _
   | exact ih1 _ _ _ _ _ _ _
   | exact LeO.none _
   | refine LeO.ite ?_ ?_
   | refine LeO.bind ?_ (fun _ => ?_)
  ·intro y0 y1 y2 y3 y4 y5 y6
   unfold laws_lwBent.j1
   repeat' first
   | (with_reducible exact ih0 _ _ _ _ _ _)
   | (with_reducible exact ih1 _ _ _ _ _ _ _)
   | (with_reducible exact LeO.refl _)
   | (with_reducible exact LeO.none _)
   | (with_reducible refine LeO.ite ?_ ?_)
   | (with_reducible refine LeO.bind ?_ (fun _ => ?_))
   | exact ih0 _ _ _ _ _ _
   | exact ih1 _ _ _ _ _ _ _
   | exact LeO.none _
   | refine LeO.ite ?_ ?_
   | refine LeO.bind ?_ (fun _ => ?_)
theorem laws_lwBent.mono : ∀ a0 a1 a2 a3 k, LeO (laws_lwBent.f k a0 a1 a2 a3) (laws_lwBent.f (k + 1) a0 a1 a2 a3) := by
 intro a0 a1 a2 a3 k
 obtain ⟨ih0, ih1⟩ := laws_lwBent.mono_l k
 unfold laws_lwBent.f
 repeat' first
   | (with_reducible exact ih0 _ _ _ _ _ _)
   | (with_reducible exact ih1 _ _ _ _ _ _ _)
   | (with_reducible exact LeO.refl _)
   | (with_reducible exact LeO.none _)
   | (with_reducible refine LeO.ite ?_ ?_)
   | (with_reducible refine LeO.bind ?_ (fun _ => ?_))
   | exact ih0 _ _ _ _ _ _
   | exact ih1 _ _ _ _ _ _ _
   | exact LeO.none _
   | refine LeO.ite ?_ ?_
   | refine LeO.bind ?_ (fun _ => ?_)
def laws_lwBent.T5 : Bool × List (List Nat × List Nat) := (true, [([], []), ([], []), ([], []), ([1, 2], [1, 2]), ([], []), ([], []), ([4, 5], [4, 5]), ([6], [6]), ([7], [7]), ([8], [8]), ([0, 3, 9], [0, 3, 9]), ([], []), ([], []), ([11, 12], [11, 12]), ([13], [13]), ([10, 14], [10, 14]), ([15, 10, 0, 1, 2, 3, 4, 5, 6, 7, 8, 9, 10, 11, 12, 13, 14, 15], [15])])
def laws_lwBent.B5 : List Nat := [0, 0, 0, 6, 0, 0, 48, 112, 240, 496, 1023, 0, 0, 6144, 14336, 32767, 65535]
theorem laws_lwBent.tab5 : rtab .any (opsOf Try.f39 5) = laws_lwBent.T5 := by kernel_rfl
theorem laws_lwBent.bits5 : waitsOk laws_lwBent.T5.2 laws_lwBent.B5 = true := by kernel_rfl
set_option maxHeartbeats 8000000 in
set_option maxRecDepth 100000 in
theorem laws_lwBent.calls (k : Nat) (A0 : Option Addr) (c0 : Nat) (l0 : List Int) (A1 : Option Addr) (c1 : Nat) (l1 : List Int) (A2 : Option Addr) (c2 : Nat) (l2 : List Int) (a3 : Int) (r : List Int) (w : World) (hr0 : Kd.C (Kd.int .i64) w A0 l0.length l0) (hc0 : l0.length ≤ c0) (hr1 : Kd.C (Kd.int .i64) w A1 l1.length l1) (hc1 : l1.length ≤ c1) (hr2 : Kd.C (Kd.int .u8) w A2 l2.length l2) (hc2 : l2.length ≤ c2) (h : laws_lwBent.f k l0 l1 l2 a3 = some r) :
  Calls Try.prog 39 #[.slice A0 l0.length c0, .slice A1 l1.length c1, .slice A2 l2.length c2, .int .i64 a3] w fun e w' => ∃ v0_ : Value, e = .returned (v0_) ∧ Kd.R (Kd.int .i64) 2 w' w.heap.size (fun _ => True) v0_ r ∧ Below w.heap.size w w' := by
 have HR0 := aM hr0
 have HC0 := aM hc0
 clear hr0 hc0
 have HR1 := aM hr1
 have HC1 := aM hc1
 clear hr1 hc1
 have HR2 := aM hr2
 have HC2 := aM hc2
 clear hr2 hc2
 have HB := aM (Below.refl w.heap.size w)
 have H : (laws_lwBent.l0 k l0 l1 l2 a3 (([] : List Int)) 0) = some r := h
 clear h
 obtain ⟨y547, hy547⟩ : ∃ y_ : List Int, y_ = (([] : List Int)) := ⟨_, rfl⟩
 replace H : (laws_lwBent.l0 k l0 l1 l2 a3 y547 0) = some r := by first | (rw [hy547]; with_reducible exact H) | (have H2_ := (Option.bind_some _ _).symm.trans H; rw [hy547]; with_reducible exact H2_) | (have H2_ := (Option.bind_some _ _).symm.trans H; with_reducible exact H2_) | with_reducible exact H | (rw [hy547]; exact H) | exact H
 have Ny547 := aM hy547
 clear hy547
 have H' := aM H
 clear H
 go_enter Try.func39, Try.ntmps39
 go_wp2_with (first | ((with_reducible refine gate_dst (N := 12) rfl ?_); (try (refine gate_guard (by rfl) ?_; dsimp only)); refine Kd.R_lit (Kd.int .i64) _ 2 ?hg (N := 12) ?hd (xs := ([] : List Int)) (inner := []) (ok := fun _ => True) (okp := fun _ => True) ?hr ?hp (fun _ hk => hk) trivial (Below.refl _ _) (Nat.le_refl _) (by simp) ?_; (case hd => rfl); (case hg => rfl); (case hr => first | (go_simp; done) | (go_simp; rfl)); (case hp => exact (Reps.none _ _)); intro v548 w5 ho6 hb hg_ hnew_; clear hg_ hnew_; (first | rw [← Ny547.out] at ho6 | (simp only [Int.reduceToNat] at ho6; rw [← Ny547.out] at ho6)); have HO549 := aM (rG ho6 (bZ bq)); replace HB := aM (bT bq hb); clear hb ho6))
 go_loopg [9, 10] k (fun kq v9 v10 w' => ∃ (x9_1 : List Int) (x10_1 : Int), v10 = .int .i64 x10_1 ∧ Aside0 (laws_lwBent.l0 kq l0 l1 l2 a3 x9_1 x10_1 = some r) ∧ Aside0 (kq ≤ k) ∧ Aside0 (Kd.R (Kd.int .i64) 2 w' w.heap.size (fun _ => True) v9 x9_1) ∧ Aside0 (Below w.heap.size w w'))
 case atStart => exact ⟨(y547), (0), (ex), H', ⟨Nat.le_refl _⟩, aM (rq HO549.out), ⟨bq⟩⟩
 case round =>
  clear H'
  try clear c1
  try clear c2
  try clear p2
  try clear c3
  obtain ⟨x9_1, x10_1, rfl, HA, HK1, HO_9, HB⟩ := hrel
  cases gk with
  | zero => exact absurd HA.out (by simp [laws_lwBent.l0])
  | succ k1 =>
   have H := HA.out
   clear HA
   simp only [laws_lwBent.l0] at H
   have HC7 := aM H
   clear H
   go_upto_region 3 with (fail)
   go_cut [22] (fun v22 wc => ∃ (kq : Nat) (x22_6 : Bool), v22 = .bool x22_6 ∧ Aside0 (laws_lwBent.j1 kq l0 l1 l2 a3 x9_1 x10_1 x22_6 = some r) ∧ Aside0 (kq ≤ k1) ∧ Aside0 (Kd.R (Kd.int .i64) 2 wc w.heap.size (fun _ => True) u9 x9_1) ∧ Aside0 (Below w.heap.size w wc))
   case first =>
    have H := HC7.out
    clear HC7
    by_cases c8 : x10_1 < (l0.length : Int)
    ·rw [if_pos c8] at H
     have c8b0 : decide (x10_1 < (l0.length : Int)) = true := decide_eq_true c8
     clear c8
     (first | rw [c8b0] | (simp only [i64_w, i32_w]; rw [c8b0]) | skip)
     have H' := aM H
     clear H
     go_wp2
     go_meet
     case rel => exact ⟨_, (decide (x10_1 < (l1.length : Int))), (ex), H', ⟨by have := HK1.out; first | omega | exact Nat.le_refl _⟩, aM (rq HO_9.out), ⟨bq⟩⟩
    ·rw [if_neg c8] at H
     have c8b0 : decide (x10_1 < (l0.length : Int)) = false := decide_eq_false c8
     clear c8
     (first | rw [c8b0] | (simp only [i64_w, i32_w]; rw [c8b0]) | skip)
     have H' := aM H
     clear H
     go_wp2
     go_meet
     case rel => exact ⟨_, (false), (ex), H', ⟨by have := HK1.out; first | omega | exact Nat.le_refl _⟩, aM (rq HO_9.out), ⟨bq⟩⟩
   case rest =>
    clear HC7
    try clear c1
    try clear c2
    try clear p2
    try clear c3
    try clear c8
    try clear c8b0
    try clear p2
    obtain ⟨kq, x22_6, rfl, HA, HJ6, HO_9, HB⟩ := hcut
    cases kq with
    | zero => exact absurd HA.out (by simp [laws_lwBent.j1])
    | succ kj6 =>
     have H := HA.out
     clear HA
     simp only [laws_lwBent.j1] at H
     by_cases c9 : x22_6 = true
     ·subst c9
      have H1 : (if 0 ≤ x10_1 then (if x10_1 < (l1.length : Int) then ((laws_lwAt.f l2 (wrap64 (a3 + x10_1)) (wrap64 ((wrap64 (2 * (rd l1 x10_1))) + 1))).bind fun t551 => ((laws_lwAt.f l2 (wrap64 ((wrap64 (a3 + x10_1)) + 1)) 3).bind fun t553 => (if t553 = 0 then ((laws_lwAt.f l2 (wrap64 ((wrap64 (a3 + x10_1)) + 2)) 5).bind fun t555 => (if t555 = 0 then (if x10_1 < (l0.length : Int) then (if x9_1.length < 17592186044416 then (laws_lwBent.l0 kj6 l0 l1 l2 a3 (x9_1 ++ [wrap64 ((rd l0 x10_1) + (wrap64 (-(rd l1 x10_1))))]) (wrap64 (x10_1 + 1))) else (none)) else (none)) else (if x10_1 < (l0.length : Int) then (if x9_1.length < 17592186044416 then (laws_lwBent.l0 kj6 l0 l1 l2 a3 (x9_1 ++ [wrap64 ((rd l0 x10_1) + (rd l1 x10_1))]) (wrap64 (x10_1 + 1))) else (none)) else (none)))) else ((laws_lwAt.f l2 (wrap64 ((wrap64 (a3 + x10_1)) + 2)) 5).bind fun t565 => (if t565 = 0 then (if x10_1 < (l0.length : Int) then (if x9_1.length < 17592186044416 then (laws_lwBent.l0 kj6 l0 l1 l2 a3 (x9_1 ++ [wrap64 ((rd l0 x10_1) + (wrap64 (-(rd l1 x10_1))))]) (wrap64 (x10_1 + 1))) else (none)) else (none)) else (if x10_1 < (l0.length : Int) then (if x9_1.length < 17592186044416 then (laws_lwBent.l0 kj6 l0 l1 l2 a3 (x9_1 ++ [wrap64 ((rd l0 x10_1) + (wrap64 (t551 - (rd l1 x10_1))))]) (wrap64 (x10_1 + 1))) else (none)) else (none))))))) else (none)) else (none)) = some r := by rw [if_pos rfl] at H; exact H
      clear H
      have H := H1
      clear H1
      by_cases c10 : 0 ≤ x10_1
      ·rw [if_pos c10] at H
       have c10b0 : decide (0 ≤ x10_1) = true := decide_eq_true c10
       clear c10
       by_cases c11 : x10_1 < (l1.length : Int)
       ·rw [if_pos c11] at H
        have c11b0 : decide (x10_1 < (l1.length : Int)) = true := decide_eq_true c11
        clear c11
        replace H := Option.bind_eq_some_iff.mp H
        obtain ⟨t551, A120, H⟩ := H
        replace H : ((laws_lwAt.f l2 (wrap64 ((wrap64 (a3 + x10_1)) + 1)) 3).bind fun t553 => (if t553 = 0 then ((laws_lwAt.f l2 (wrap64 ((wrap64 (a3 + x10_1)) + 2)) 5).bind fun t555 => (if t555 = 0 then (if x10_1 < (l0.length : Int) then (if x9_1.length < 17592186044416 then (laws_lwBent.l0 kj6 l0 l1 l2 a3 (x9_1 ++ [wrap64 ((rd l0 x10_1) + (wrap64 (-(rd l1 x10_1))))]) (wrap64 (x10_1 + 1))) else (none)) else (none)) else (if x10_1 < (l0.length : Int) then (if x9_1.length < 17592186044416 then (laws_lwBent.l0 kj6 l0 l1 l2 a3 (x9_1 ++ [wrap64 ((rd l0 x10_1) + (rd l1 x10_1))]) (wrap64 (x10_1 + 1))) else (none)) else (none)))) else ((laws_lwAt.f l2 (wrap64 ((wrap64 (a3 + x10_1)) + 2)) 5).bind fun t565 => (if t565 = 0 then (if x10_1 < (l0.length : Int) then (if x9_1.length < 17592186044416 then (laws_lwBent.l0 kj6 l0 l1 l2 a3 (x9_1 ++ [wrap64 ((rd l0 x10_1) + (wrap64 (-(rd l1 x10_1))))]) (wrap64 (x10_1 + 1))) else (none)) else (none)) else (if x10_1 < (l0.length : Int) then (if x9_1.length < 17592186044416 then (laws_lwBent.l0 kj6 l0 l1 l2 a3 (x9_1 ++ [wrap64 ((rd l0 x10_1) + (wrap64 (t551 - (rd l1 x10_1))))]) (wrap64 (x10_1 + 1))) else (none)) else (none)))))) = some r := H
        have A12 := aM A120
        clear A120
        replace H := Option.bind_eq_some_iff.mp H
        obtain ⟨t553, A130, H⟩ := H
        replace H : (if t553 = 0 then ((laws_lwAt.f l2 (wrap64 ((wrap64 (a3 + x10_1)) + 2)) 5).bind fun t555 => (if t555 = 0 then (if x10_1 < (l0.length : Int) then (if x9_1.length < 17592186044416 then (laws_lwBent.l0 kj6 l0 l1 l2 a3 (x9_1 ++ [wrap64 ((rd l0 x10_1) + (wrap64 (-(rd l1 x10_1))))]) (wrap64 (x10_1 + 1))) else (none)) else (none)) else (if x10_1 < (l0.length : Int) then (if x9_1.length < 17592186044416 then (laws_lwBent.l0 kj6 l0 l1 l2 a3 (x9_1 ++ [wrap64 ((rd l0 x10_1) + (rd l1 x10_1))]) (wrap64 (x10_1 + 1))) else (none)) else (none)))) else ((laws_lwAt.f l2 (wrap64 ((wrap64 (a3 + x10_1)) + 2)) 5).bind fun t565 => (if t565 = 0 then (if x10_1 < (l0.length : Int) then (if x9_1.length < 17592186044416 then (laws_lwBent.l0 kj6 l0 l1 l2 a3 (x9_1 ++ [wrap64 ((rd l0 x10_1) + (wrap64 (-(rd l1 x10_1))))]) (wrap64 (x10_1 + 1))) else (none)) else (none)) else (if x10_1 < (l0.length : Int) then (if x9_1.length < 17592186044416 then (laws_lwBent.l0 kj6 l0 l1 l2 a3 (x9_1 ++ [wrap64 ((rd l0 x10_1) + (wrap64 (t551 - (rd l1 x10_1))))]) (wrap64 (x10_1 + 1))) else (none)) else (none))))) = some r := H
        have A13 := aM A130
        clear A130
        by_cases c14 : t553 = 0
        ·rw [if_pos c14] at H
         have c14b0 : (t553 == 0) = true := beq_iff_eq.mpr c14
         have c14b1 : (t553 != 0) = false := bne_eq_false_iff_eq.mpr c14
         clear c14
         replace H := Option.bind_eq_some_iff.mp H
         obtain ⟨t555, A150, H⟩ := H
         replace H : (if t555 = 0 then (if x10_1 < (l0.length : Int) then (if x9_1.length < 17592186044416 then (laws_lwBent.l0 kj6 l0 l1 l2 a3 (x9_1 ++ [wrap64 ((rd l0 x10_1) + (wrap64 (-(rd l1 x10_1))))]) (wrap64 (x10_1 + 1))) else (none)) else (none)) else (if x10_1 < (l0.length : Int) then (if x9_1.length < 17592186044416 then (laws_lwBent.l0 kj6 l0 l1 l2 a3 (x9_1 ++ [wrap64 ((rd l0 x10_1) + (rd l1 x10_1))]) (wrap64 (x10_1 + 1))) else (none)) else (none))) = some r := H
         have A15 := aM A150
         clear A150
         by_cases c16 : t555 = 0
         ·rw [if_pos c16] at H
          have c16b0 : (t555 == 0) = true := beq_iff_eq.mpr c16
          have c16b1 : (t555 != 0) = false := bne_eq_false_iff_eq.mpr c16
          clear c16
          by_cases c17 : x10_1 < (l0.length : Int)
          ·rw [if_pos c17] at H
           have c17b0 : decide (x10_1 < (l0.length : Int)) = true := decide_eq_true c17
           clear c17
           by_cases c18 : x9_1.length < 17592186044416
           ·rw [if_pos c18] at H
            have LMc18 := aM c18
            clear c18
            obtain ⟨y558, hy558⟩ : ∃ y_ : List Int, y_ = (x9_1 ++ [wrap64 ((rd l0 x10_1) + (wrap64 (-(rd l1 x10_1))))]) := ⟨_, rfl⟩
            replace H : (laws_lwBent.l0 kj6 l0 l1 l2 a3 y558 (wrap64 (x10_1 + 1))) = some r := by first | (rw [hy558]; with_reducible exact H) | (have H2_ := (Option.bind_some _ _).symm.trans H; rw [hy558]; with_reducible exact H2_) | (have H2_ := (Option.bind_some _ _).symm.trans H; with_reducible exact H2_) | with_reducible exact H | (rw [hy558]; exact H) | exact H
            have Ny558 := aM hy558
            clear hy558
            have H' := aM H
            clear H
            try go_wp2
            replace HO_9 := aM (rD HO_9.out)
            replace HB := aM (bD HB.out)
            have p550 : 0 ≤ (x10_1 : Int) := of_decide_eq_true (by first | (with_reducible assumption) | assumption)
            have q550 : x10_1 < (l1.length : Int) := of_decide_eq_true (by first | (with_reducible assumption) | assumption)
            obtain ⟨ad550, e550, hx550_0⟩ := Kd.at_int HR1.out x10_1 p550 q550
            have hw550_0 := hx550_0
            cases e550
            replace hx550_0 := (HB.out.cell (World.block_lt_of_cell? w _ hx550_0)).trans hx550_0
            replace p550 := eq_true p550
            replace q550 := eq_true q550
            have p552 : 0 ≤ (x10_1 : Int) := of_decide_eq_true (by first | (with_reducible assumption) | assumption)
            have q552 : x10_1 < (l1.length : Int) := of_decide_eq_true (by first | (with_reducible assumption) | assumption)
            obtain ⟨ad552, e552, hx552_0⟩ := Kd.at_int HR1.out x10_1 p552 q552
            have hw552_0 := hx552_0
            obtain rfl : ad550 = ad552 := (by injection e552)
            replace hx552_0 := (HB.out.cell (World.block_lt_of_cell? w _ hx552_0)).trans hx552_0
            replace p552 := eq_true p552
            replace q552 := eq_true q552
            refine start_ (n := 17) (S := fun w' => w'.cell? (ad550.add (x10_1).toNat) = some (.int .i64 (rd l1 x10_1)) ∧ w'.cell? (ad550.add (x10_1).toNat) = some (.int .i64 (rd l1 x10_1))) (ds := []) #[N,N,N,N,N,N,N,N,N,N,N,N,N,N,N,N,N] kr rfl rfl ⟨((HB.out.cell (World.block_lt_of_cell? w _ hw550_0)).trans hw550_0), ((HB.out.cell (World.block_lt_of_cell? w _ hw552_0)).trans hw552_0)⟩ (fun hHeld => ?_); refine with_tabW laws_lwBent.tab5 laws_lwBent.bits5 (fun HT_ HW_ => ?_)
            generalize wc.drew = w19 at HO_9 HB hx550_0 hx552_0 hHeld ⊢
            refine pp HT_ (N := some 25) 0 #[Y,N,N,N,N,N,N,N,N,N,N,N,N,N,N,N,N] ?_
            refine pp HT_ (N := some 26) 1 #[Y,Y,N,N,N,N,N,N,N,N,N,N,N,N,N,N,N] ?_
            refine pp HT_ (N := some 27) 2 #[Y,Y,Y,N,N,N,N,N,N,N,N,N,N,N,N,N,N] ?_
            refine pp HT_ (N := some 28) 3 #[Y,Y,Y,Y,N,N,N,N,N,N,N,N,N,N,N,N,N] ?_
            refine pp HT_ (N := some 29) 4 #[Y,Y,Y,Y,Y,N,N,N,N,N,N,N,N,N,N,N,N] ?_
            refine pp HT_ (N := some 30) 5 #[Y,Y,Y,Y,Y,Y,N,N,N,N,N,N,N,N,N,N,N] ?_
            refine pp HT_ (N := some 31) 6 #[Y,Y,Y,Y,Y,Y,Y,N,N,N,N,N,N,N,N,N,N] ?_
            refine pp HT_ (N := some 36) 11 #[Y,Y,Y,Y,Y,Y,Y,N,N,N,N,Y,N,N,N,N,N] ?_
            refine pp HT_ (N := some 37) 12 #[Y,Y,Y,Y,Y,Y,Y,N,N,N,N,Y,Y,N,N,N,N] ?_
            refine pp HT_ (N := some 38) 13 #[Y,Y,Y,Y,Y,Y,Y,N,N,N,N,Y,Y,Y,N,N,N] ?_
            refine take_ (i := 7) (N := some 32) (v := ?_) (a' := ?_) #[Y,Y,Y,Y,Y,Y,Y,Y,N,N,N,Y,Y,Y,N,N,N] rfl rfl (take_ofW HT_.out HW_.out kr) (fun _ _ _ h => h) (Or.inl ⟨by rfl, ?_⟩) hHeld ?_ ?_
            rotate_left
            ·rintro w' ⟨s0, s1⟩
             go_simp
             with_reducible rfl
            rotate_left
            ·simp only [Act.put, pa, pb, pc, i64_w, i32_w]
             rfl
            refine pp HT_ (N := some 33) 8 #[Y,Y,Y,Y,Y,Y,Y,Y,Y,N,N,Y,Y,Y,N,N,N] ?_
            refine pp HT_ (N := some 34) 9 #[Y,Y,Y,Y,Y,Y,Y,Y,Y,Y,N,Y,Y,Y,N,N,N] ?_
            refine take_ (i := 14) (N := some 39) (v := ?_) (a' := ?_) #[Y,Y,Y,Y,Y,Y,Y,Y,Y,Y,N,Y,Y,Y,Y,N,N] rfl rfl (take_ofW HT_.out HW_.out kr) (fun _ _ _ h => h) (Or.inl ⟨by rfl, ?_⟩) hHeld ?_ ?_
            rotate_left
            ·rintro w' ⟨s0, s1⟩
             go_simp
             with_reducible rfl
            rotate_left
            ·simp only [Act.put, pa, pb, pc, i64_w, i32_w]
             rfl
            refine one_ (i := 10) (N := some 35) #[Y,Y,Y,Y,Y,Y,Y,Y,Y,Y,Y,Y,Y,Y,Y,N,N] rfl rfl (one_of HT_.out kr) (by decide) (fun K hK => ?_)
            refine goes_ Try.func38 kr rfl #[.slice A2 l2.length c2, .int .i64 (wrap64 (a3 + x10_1)), .int .i64 (wrap64 ((wrap64 (2 * (rd l1 x10_1))) + 1))] (by rfl) rfl rfl mq ?_
            with_reducible refine (laws_lwAt.calls _ _ l2 (wrap64 (a3 + x10_1)) (wrap64 ((wrap64 (2 * (rd l1 x10_1))) + 1)) t551 _ ?side1 ?side2 A12.out).mono ?_
            (case side1 => exact cq (cB HR2.out HB.out))
            (case side2 => exact HC2.out)
            rintro e w' ⟨rfl, ⟨nd, rfl⟩⟩
            refine ⟨_, rfl, ?_⟩
            refine hK.out _ _ ⟨((HB.out.cell (World.block_lt_of_cell? w _ hw550_0)).trans hw550_0), ((HB.out.cell (World.block_lt_of_cell? w _ hw552_0)).trans hw552_0)⟩ (fun hHeld => ?_)
            clear hK K
            refine norm_ (a' := ?_) ?_ ?_
            rotate_left
            ·show Act.put _ (some 35) _ = _
             simp only [Act.put, pa, pb, pc, i64_w, i32_w]
             rfl
            refine pp HT_ (N := some 40) 15 #[Y,Y,Y,Y,Y,Y,Y,Y,Y,Y,Y,Y,Y,Y,Y,Y,N] ?_
            refine pp HT_ (N := some 11) 16 #[Y,Y,Y,Y,Y,Y,Y,Y,Y,Y,Y,Y,Y,Y,Y,Y,Y] ?_
            refine done_ (done_of HT_.out kr) ?_
            try go_wp2_with (first | ((with_reducible refine gate_callee (f := 38) rfl ?_); refine goesL_ (some 46) rfl rfl Try.func38 kr rfl #[.slice A2 l2.length c2, .int .i64 (wrap64 ((wrap64 (a3 + x10_1)) + 1)), .int .i64 3] rfl mq ?_; (with_reducible refine (laws_lwAt.calls _ _ l2 (wrap64 ((wrap64 (a3 + x10_1)) + 1)) 3 t553 _ ?side1 ?side2 A13.out).mono ?_); (case side1 => exact cq (cB HR2.out bq)); (case side2 => exact HC2.out); rintro e w' ⟨rfl, ⟨nd, rfl⟩⟩; refine ⟨_, rfl, ?_⟩; have p554 : 0 ≤ (x10_1 : Int) := of_decide_eq_true (by first | (with_reducible assumption) | assumption); have q554 : x10_1 < (l1.length : Int) := of_decide_eq_true (by first | (with_reducible assumption) | assumption); obtain ⟨ad554, e554, hx554_0⟩ := Kd.at_int HR1.out x10_1 p554 q554; obtain rfl : ad550 = ad554 := (by injection e554); replace hx554_0 := (HB.out.cell (World.block_lt_of_cell? w _ hx554_0)).trans hx554_0; replace p554 := eq_true p554; replace q554 := eq_true q554) | ((with_reducible refine gate_callee (f := 38) rfl ?_); refine goesL_ (some 57) rfl rfl Try.func38 kr rfl #[.slice A2 l2.length c2, .int .i64 (wrap64 ((wrap64 (a3 + x10_1)) + 2)), .int .i64 5] rfl mq ?_; (with_reducible refine (laws_lwAt.calls _ _ l2 (wrap64 ((wrap64 (a3 + x10_1)) + 2)) 5 t555 _ ?side1 ?side2 A15.out).mono ?_); (case side1 => exact cq (cB HR2.out bq)); (case side2 => exact HC2.out); rintro e w' ⟨rfl, ⟨nd, rfl⟩⟩; refine ⟨_, rfl, ?_⟩; have p556 : 0 ≤ (x10_1 : Int) := of_decide_eq_true (by first | (with_reducible assumption) | assumption); have q556 : x10_1 < (l1.length : Int) := of_decide_eq_true (by first | (with_reducible assumption) | assumption); obtain ⟨ad556, e556, hx556_0⟩ := Kd.at_int HR1.out x10_1 p556 q556; obtain rfl : ad550 = ad556 := (by injection e556); replace hx556_0 := (HB.out.cell (World.block_lt_of_cell? w _ hx556_0)).trans hx556_0; replace p556 := eq_true p556; replace q556 := eq_true q556; have p557 : 0 ≤ (x10_1 : Int) := of_decide_eq_true (by first | (with_reducible assumption) | assumption); have q557 : x10_1 < (l0.length : Int) := of_decide_eq_true (by first | (with_reducible assumption) | assumption); obtain ⟨ad557, e557, hx557_0⟩ := Kd.at_int HR0.out x10_1 p557 q557; cases e557; replace hx557_0 := (HB.out.cell (World.block_lt_of_cell? w _ hx557_0)).trans hx557_0; replace p557 := eq_true p557; replace q557 := eq_true q557) | ((with_reducible refine gate_builtin (b := .append) (xs := #[.tmp 64, .tmp 71]) rfl ?_); (try (refine gate_guard (by rfl) ?_; dsimp only)); at_builtin; refine Kd.R_append (Kd.int .i64) (w0 := w) w.heap.size rfl (.tmp 64) (.tmp 71) 22 2 (.int .i64 0) 8 rfl Try.underlying22 info2 rfl (by decide) (by omega) u9 x9_1 (wrap64 ((rd l0 x10_1) + (wrap64 (-(rd l1 x10_1))))) [.int .i64 (wrap64 ((rd l0 x10_1) + (wrap64 (-(rd l1 x10_1)))))] (fun _ => True) (fun _ => False) rfl rfl ?aP (fun _ hk => hk.elim) ?aF ?aO ?aB ?aS ?aL ?_; (case aP => exact rfl); (case aB => exact bq); (case aF => exact (fun _ _ => trivial)); (case aO => exact (rq HO_9.out)); (case aS => exact (bZ bq)); (case aL => have := LMc18.out; omega); intro v559 w20 ho hb hg hat; rw [← Ny558.out] at ho; replace HB := aM (hb); have HO560 := aM (ho); clear HO_9 ho hb hg hat))
            go_roundg kj6
            case measure => have := HK1.out; have := HJ6.out; omega
            case rel => exact ⟨(y558), (wrap64 (x10_1 + 1)), (ex), H', ⟨by have := HK1.out; have := HJ6.out; omega⟩, aM (rq HO560.out), ⟨bq⟩⟩
           ·rw [if_neg c18] at H
            exact absurd H (by simp)
          ·rw [if_neg c17] at H
           exact absurd H (by simp)
         ·rw [if_neg c16] at H
          have c16b0 : (t555 == 0) = false := beq_eq_false_iff_ne.mpr c16
          have c16b1 : (t555 != 0) = true := bne_iff_ne.mpr c16
          by_cases c21 : x10_1 < (l0.length : Int)
          ·rw [if_pos c21] at H
           have c21b0 : decide (x10_1 < (l0.length : Int)) = true := decide_eq_true c21
           clear c21
           by_cases c22 : x9_1.length < 17592186044416
           ·rw [if_pos c22] at H
            have LMc22 := aM c22
            clear c22
            obtain ⟨y562, hy562⟩ : ∃ y_ : List Int, y_ = (x9_1 ++ [wrap64 ((rd l0 x10_1) + (rd l1 x10_1))]) := ⟨_, rfl⟩
            replace H : (laws_lwBent.l0 kj6 l0 l1 l2 a3 y562 (wrap64 (x10_1 + 1))) = some r := by first | (rw [hy562]; with_reducible exact H) | (have H2_ := (Option.bind_some _ _).symm.trans H; rw [hy562]; with_reducible exact H2_) | (have H2_ := (Option.bind_some _ _).symm.trans H; with_reducible exact H2_) | with_reducible exact H | (rw [hy562]; exact H) | exact H
            have Ny562 := aM hy562
            clear hy562
            have H' := aM H
            clear H
            try go_wp2
            replace HO_9 := aM (rD HO_9.out)
            replace HB := aM (bD HB.out)
            have p550 : 0 ≤ (x10_1 : Int) := of_decide_eq_true (by first | (with_reducible assumption) | assumption)
            have q550 : x10_1 < (l1.length : Int) := of_decide_eq_true (by first | (with_reducible assumption) | assumption)
            obtain ⟨ad550, e550, hx550_0⟩ := Kd.at_int HR1.out x10_1 p550 q550
            have hw550_0 := hx550_0
            cases e550
            replace hx550_0 := (HB.out.cell (World.block_lt_of_cell? w _ hx550_0)).trans hx550_0
            replace p550 := eq_true p550
            replace q550 := eq_true q550
            have p552 : 0 ≤ (x10_1 : Int) := of_decide_eq_true (by first | (with_reducible assumption) | assumption)
            have q552 : x10_1 < (l1.length : Int) := of_decide_eq_true (by first | (with_reducible assumption) | assumption)
            obtain ⟨ad552, e552, hx552_0⟩ := Kd.at_int HR1.out x10_1 p552 q552
            have hw552_0 := hx552_0
            obtain rfl : ad550 = ad552 := (by injection e552)
            replace hx552_0 := (HB.out.cell (World.block_lt_of_cell? w _ hx552_0)).trans hx552_0
            replace p552 := eq_true p552
            replace q552 := eq_true q552
            refine start_ (n := 17) (S := fun w' => w'.cell? (ad550.add (x10_1).toNat) = some (.int .i64 (rd l1 x10_1)) ∧ w'.cell? (ad550.add (x10_1).toNat) = some (.int .i64 (rd l1 x10_1))) (ds := []) #[N,N,N,N,N,N,N,N,N,N,N,N,N,N,N,N,N] kr rfl rfl ⟨((HB.out.cell (World.block_lt_of_cell? w _ hw550_0)).trans hw550_0), ((HB.out.cell (World.block_lt_of_cell? w _ hw552_0)).trans hw552_0)⟩ (fun hHeld => ?_); refine with_tabW laws_lwBent.tab5 laws_lwBent.bits5 (fun HT_ HW_ => ?_)
            generalize wc.drew = w23 at HO_9 HB hx550_0 hx552_0 hHeld ⊢
            refine pp HT_ (N := some 25) 0 #[Y,N,N,N,N,N,N,N,N,N,N,N,N,N,N,N,N] ?_
            refine pp HT_ (N := some 26) 1 #[Y,Y,N,N,N,N,N,N,N,N,N,N,N,N,N,N,N] ?_
            refine pp HT_ (N := some 27) 2 #[Y,Y,Y,N,N,N,N,N,N,N,N,N,N,N,N,N,N] ?_
            refine pp HT_ (N := some 28) 3 #[Y,Y,Y,Y,N,N,N,N,N,N,N,N,N,N,N,N,N] ?_
            refine pp HT_ (N := some 29) 4 #[Y,Y,Y,Y,Y,N,N,N,N,N,N,N,N,N,N,N,N] ?_
            refine pp HT_ (N := some 30) 5 #[Y,Y,Y,Y,Y,Y,N,N,N,N,N,N,N,N,N,N,N] ?_
            refine pp HT_ (N := some 31) 6 #[Y,Y,Y,Y,Y,Y,Y,N,N,N,N,N,N,N,N,N,N] ?_
            refine pp HT_ (N := some 36) 11 #[Y,Y,Y,Y,Y,Y,Y,N,N,N,N,Y,N,N,N,N,N] ?_
            refine pp HT_ (N := some 37) 12 #[Y,Y,Y,Y,Y,Y,Y,N,N,N,N,Y,Y,N,N,N,N] ?_
            refine pp HT_ (N := some 38) 13 #[Y,Y,Y,Y,Y,Y,Y,N,N,N,N,Y,Y,Y,N,N,N] ?_
            refine take_ (i := 7) (N := some 32) (v := ?_) (a' := ?_) #[Y,Y,Y,Y,Y,Y,Y,Y,N,N,N,Y,Y,Y,N,N,N] rfl rfl (take_ofW HT_.out HW_.out kr) (fun _ _ _ h => h) (Or.inl ⟨by rfl, ?_⟩) hHeld ?_ ?_
            rotate_left
            ·rintro w' ⟨s0, s1⟩
             go_simp
             with_reducible rfl
            rotate_left
            ·simp only [Act.put, pa, pb, pc, i64_w, i32_w]
             rfl
            refine pp HT_ (N := some 33) 8 #[Y,Y,Y,Y,Y,Y,Y,Y,Y,N,N,Y,Y,Y,N,N,N] ?_
            refine pp HT_ (N := some 34) 9 #[Y,Y,Y,Y,Y,Y,Y,Y,Y,Y,N,Y,Y,Y,N,N,N] ?_
            refine take_ (i := 14) (N := some 39) (v := ?_) (a' := ?_) #[Y,Y,Y,Y,Y,Y,Y,Y,Y,Y,N,Y,Y,Y,Y,N,N] rfl rfl (take_ofW HT_.out HW_.out kr) (fun _ _ _ h => h) (Or.inl ⟨by rfl, ?_⟩) hHeld ?_ ?_
            rotate_left
            ·rintro w' ⟨s0, s1⟩
             go_simp
             with_reducible rfl
            rotate_left
            ·simp only [Act.put, pa, pb, pc, i64_w, i32_w]
             rfl
            refine one_ (i := 10) (N := some 35) #[Y,Y,Y,Y,Y,Y,Y,Y,Y,Y,Y,Y,Y,Y,Y,N,N] rfl rfl (one_of HT_.out kr) (by decide) (fun K hK => ?_)
            refine goes_ Try.func38 kr rfl #[.slice A2 l2.length c2, .int .i64 (wrap64 (a3 + x10_1)), .int .i64 (wrap64 ((wrap64 (2 * (rd l1 x10_1))) + 1))] (by rfl) rfl rfl mq ?_
            with_reducible refine (laws_lwAt.calls _ _ l2 (wrap64 (a3 + x10_1)) (wrap64 ((wrap64 (2 * (rd l1 x10_1))) + 1)) t551 _ ?side1 ?side2 A12.out).mono ?_
            (case side1 => exact cq (cB HR2.out HB.out))
            (case side2 => exact HC2.out)
            rintro e w' ⟨rfl, ⟨nd, rfl⟩⟩
            refine ⟨_, rfl, ?_⟩
            refine hK.out _ _ ⟨((HB.out.cell (World.block_lt_of_cell? w _ hw550_0)).trans hw550_0), ((HB.out.cell (World.block_lt_of_cell? w _ hw552_0)).trans hw552_0)⟩ (fun hHeld => ?_)
            clear hK K
            refine norm_ (a' := ?_) ?_ ?_
            rotate_left
            ·show Act.put _ (some 35) _ = _
             simp only [Act.put, pa, pb, pc, i64_w, i32_w]
             rfl
            refine pp HT_ (N := some 40) 15 #[Y,Y,Y,Y,Y,Y,Y,Y,Y,Y,Y,Y,Y,Y,Y,Y,N] ?_
            refine pp HT_ (N := some 11) 16 #[Y,Y,Y,Y,Y,Y,Y,Y,Y,Y,Y,Y,Y,Y,Y,Y,Y] ?_
            refine done_ (done_of HT_.out kr) ?_
            try go_wp2_with (first | ((with_reducible refine gate_callee (f := 38) rfl ?_); refine goesL_ (some 46) rfl rfl Try.func38 kr rfl #[.slice A2 l2.length c2, .int .i64 (wrap64 ((wrap64 (a3 + x10_1)) + 1)), .int .i64 3] rfl mq ?_; (with_reducible refine (laws_lwAt.calls _ _ l2 (wrap64 ((wrap64 (a3 + x10_1)) + 1)) 3 t553 _ ?side1 ?side2 A13.out).mono ?_); (case side1 => exact cq (cB HR2.out bq)); (case side2 => exact HC2.out); rintro e w' ⟨rfl, ⟨nd, rfl⟩⟩; refine ⟨_, rfl, ?_⟩; have p554 : 0 ≤ (x10_1 : Int) := of_decide_eq_true (by first | (with_reducible assumption) | assumption); have q554 : x10_1 < (l1.length : Int) := of_decide_eq_true (by first | (with_reducible assumption) | assumption); obtain ⟨ad554, e554, hx554_0⟩ := Kd.at_int HR1.out x10_1 p554 q554; obtain rfl : ad550 = ad554 := (by injection e554); replace hx554_0 := (HB.out.cell (World.block_lt_of_cell? w _ hx554_0)).trans hx554_0; replace p554 := eq_true p554; replace q554 := eq_true q554) | ((with_reducible refine gate_callee (f := 38) rfl ?_); refine goesL_ (some 57) rfl rfl Try.func38 kr rfl #[.slice A2 l2.length c2, .int .i64 (wrap64 ((wrap64 (a3 + x10_1)) + 2)), .int .i64 5] rfl mq ?_; (with_reducible refine (laws_lwAt.calls _ _ l2 (wrap64 ((wrap64 (a3 + x10_1)) + 2)) 5 t555 _ ?side1 ?side2 A15.out).mono ?_); (case side1 => exact cq (cB HR2.out bq)); (case side2 => exact HC2.out); rintro e w' ⟨rfl, ⟨nd, rfl⟩⟩; refine ⟨_, rfl, ?_⟩; have p561 : 0 ≤ (x10_1 : Int) := of_decide_eq_true (by first | (with_reducible assumption) | assumption); have q561 : x10_1 < (l0.length : Int) := of_decide_eq_true (by first | (with_reducible assumption) | assumption); obtain ⟨ad561, e561, hx561_0⟩ := Kd.at_int HR0.out x10_1 p561 q561; cases e561; replace hx561_0 := (HB.out.cell (World.block_lt_of_cell? w _ hx561_0)).trans hx561_0; replace p561 := eq_true p561; replace q561 := eq_true q561) | ((with_reducible refine gate_builtin (b := .append) (xs := #[.tmp 64, .tmp 71]) rfl ?_); (try (refine gate_guard (by rfl) ?_; dsimp only)); at_builtin; refine Kd.R_append (Kd.int .i64) (w0 := w) w.heap.size rfl (.tmp 64) (.tmp 71) 22 2 (.int .i64 0) 8 rfl Try.underlying22 info2 rfl (by decide) (by omega) u9 x9_1 (wrap64 ((rd l0 x10_1) + (rd l1 x10_1))) [.int .i64 (wrap64 ((rd l0 x10_1) + (rd l1 x10_1)))] (fun _ => True) (fun _ => False) rfl rfl ?aP (fun _ hk => hk.elim) ?aF ?aO ?aB ?aS ?aL ?_; (case aP => exact rfl); (case aB => exact bq); (case aF => exact (fun _ _ => trivial)); (case aO => exact (rq HO_9.out)); (case aS => exact (bZ bq)); (case aL => have := LMc22.out; omega); intro v563 w24 ho hb hg hat; rw [← Ny562.out] at ho; replace HB := aM (hb); have HO564 := aM (ho); clear HO_9 ho hb hg hat))
            go_roundg kj6
            case measure => have := HK1.out; have := HJ6.out; omega
            case rel => exact ⟨(y562), (wrap64 (x10_1 + 1)), (ex), H', ⟨by have := HK1.out; have := HJ6.out; omega⟩, aM (rq HO564.out), ⟨bq⟩⟩
           ·rw [if_neg c22] at H
            exact absurd H (by simp)
          ·rw [if_neg c21] at H
           exact absurd H (by simp)
        ·rw [if_neg c14] at H
         have c14b0 : (t553 == 0) = false := beq_eq_false_iff_ne.mpr c14
         have c14b1 : (t553 != 0) = true := bne_iff_ne.mpr c14
         replace H := Option.bind_eq_some_iff.mp H
         obtain ⟨t565, A250, H⟩ := H
         replace H : (if t565 = 0 then (if x10_1 < (l0.length : Int) then (if x9_1.length < 17592186044416 then (laws_lwBent.l0 kj6 l0 l1 l2 a3 (x9_1 ++ [wrap64 ((rd l0 x10_1) + (wrap64 (-(rd l1 x10_1))))]) (wrap64 (x10_1 + 1))) else (none)) else (none)) else (if x10_1 < (l0.length : Int) then (if x9_1.length < 17592186044416 then (laws_lwBent.l0 kj6 l0 l1 l2 a3 (x9_1 ++ [wrap64 ((rd l0 x10_1) + (wrap64 (t551 - (rd l1 x10_1))))]) (wrap64 (x10_1 + 1))) else (none)) else (none))) = some r := H
         have A25 := aM A250
         clear A250
         by_cases c26 : t565 = 0
         ·rw [if_pos c26] at H
          have c26b0 : (t565 == 0) = true := beq_iff_eq.mpr c26
          have c26b1 : (t565 != 0) = false := bne_eq_false_iff_eq.mpr c26
          clear c26
          by_cases c27 : x10_1 < (l0.length : Int)
          ·rw [if_pos c27] at H
           have c27b0 : decide (x10_1 < (l0.length : Int)) = true := decide_eq_true c27
           clear c27
           by_cases c28 : x9_1.length < 17592186044416
           ·rw [if_pos c28] at H
            have LMc28 := aM c28
            clear c28
            obtain ⟨y568, hy568⟩ : ∃ y_ : List Int, y_ = (x9_1 ++ [wrap64 ((rd l0 x10_1) + (wrap64 (-(rd l1 x10_1))))]) := ⟨_, rfl⟩
            replace H : (laws_lwBent.l0 kj6 l0 l1 l2 a3 y568 (wrap64 (x10_1 + 1))) = some r := by first | (rw [hy568]; with_reducible exact H) | (have H2_ := (Option.bind_some _ _).symm.trans H; rw [hy568]; with_reducible exact H2_) | (have H2_ := (Option.bind_some _ _).symm.trans H; with_reducible exact H2_) | with_reducible exact H | (rw [hy568]; exact H) | exact H
            have Ny568 := aM hy568
            clear hy568
            have H' := aM H
            clear H
            try go_wp2
            replace HO_9 := aM (rD HO_9.out)
            replace HB := aM (bD HB.out)
            have p550 : 0 ≤ (x10_1 : Int) := of_decide_eq_true (by first | (with_reducible assumption) | assumption)
            have q550 : x10_1 < (l1.length : Int) := of_decide_eq_true (by first | (with_reducible assumption) | assumption)
            obtain ⟨ad550, e550, hx550_0⟩ := Kd.at_int HR1.out x10_1 p550 q550
            have hw550_0 := hx550_0
            cases e550
            replace hx550_0 := (HB.out.cell (World.block_lt_of_cell? w _ hx550_0)).trans hx550_0
            replace p550 := eq_true p550
            replace q550 := eq_true q550
            have p552 : 0 ≤ (x10_1 : Int) := of_decide_eq_true (by first | (with_reducible assumption) | assumption)
            have q552 : x10_1 < (l1.length : Int) := of_decide_eq_true (by first | (with_reducible assumption) | assumption)
            obtain ⟨ad552, e552, hx552_0⟩ := Kd.at_int HR1.out x10_1 p552 q552
            have hw552_0 := hx552_0
            obtain rfl : ad550 = ad552 := (by injection e552)
            replace hx552_0 := (HB.out.cell (World.block_lt_of_cell? w _ hx552_0)).trans hx552_0
            replace p552 := eq_true p552
            replace q552 := eq_true q552
            refine start_ (n := 17) (S := fun w' => w'.cell? (ad550.add (x10_1).toNat) = some (.int .i64 (rd l1 x10_1)) ∧ w'.cell? (ad550.add (x10_1).toNat) = some (.int .i64 (rd l1 x10_1))) (ds := []) #[N,N,N,N,N,N,N,N,N,N,N,N,N,N,N,N,N] kr rfl rfl ⟨((HB.out.cell (World.block_lt_of_cell? w _ hw550_0)).trans hw550_0), ((HB.out.cell (World.block_lt_of_cell? w _ hw552_0)).trans hw552_0)⟩ (fun hHeld => ?_); refine with_tabW laws_lwBent.tab5 laws_lwBent.bits5 (fun HT_ HW_ => ?_)
            generalize wc.drew = w29 at HO_9 HB hx550_0 hx552_0 hHeld ⊢
            refine pp HT_ (N := some 25) 0 #[Y,N,N,N,N,N,N,N,N,N,N,N,N,N,N,N,N] ?_
            refine pp HT_ (N := some 26) 1 #[Y,Y,N,N,N,N,N,N,N,N,N,N,N,N,N,N,N] ?_
            refine pp HT_ (N := some 27) 2 #[Y,Y,Y,N,N,N,N,N,N,N,N,N,N,N,N,N,N] ?_
            refine pp HT_ (N := some 28) 3 #[Y,Y,Y,Y,N,N,N,N,N,N,N,N,N,N,N,N,N] ?_
            refine pp HT_ (N := some 29) 4 #[Y,Y,Y,Y,Y,N,N,N,N,N,N,N,N,N,N,N,N] ?_
            refine pp HT_ (N := some 30) 5 #[Y,Y,Y,Y,Y,Y,N,N,N,N,N,N,N,N,N,N,N] ?_
            refine pp HT_ (N := some 31) 6 #[Y,Y,Y,Y,Y,Y,Y,N,N,N,N,N,N,N,N,N,N] ?_
            refine pp HT_ (N := some 36) 11 #[Y,Y,Y,Y,Y,Y,Y,N,N,N,N,Y,N,N,N,N,N] ?_
            refine pp HT_ (N := some 37) 12 #[Y,Y,Y,Y,Y,Y,Y,N,N,N,N,Y,Y,N,N,N,N] ?_
            refine pp HT_ (N := some 38) 13 #[Y,Y,Y,Y,Y,Y,Y,N,N,N,N,Y,Y,Y,N,N,N] ?_
            refine take_ (i := 7) (N := some 32) (v := ?_) (a' := ?_) #[Y,Y,Y,Y,Y,Y,Y,Y,N,N,N,Y,Y,Y,N,N,N] rfl rfl (take_ofW HT_.out HW_.out kr) (fun _ _ _ h => h) (Or.inl ⟨by rfl, ?_⟩) hHeld ?_ ?_
            rotate_left
            ·rintro w' ⟨s0, s1⟩
             go_simp
             with_reducible rfl
            rotate_left
            ·simp only [Act.put, pa, pb, pc, i64_w, i32_w]
             rfl
            refine pp HT_ (N := some 33) 8 #[Y,Y,Y,Y,Y,Y,Y,Y,Y,N,N,Y,Y,Y,N,N,N] ?_
            refine pp HT_ (N := some 34) 9 #[Y,Y,Y,Y,Y,Y,Y,Y,Y,Y,N,Y,Y,Y,N,N,N] ?_
            refine take_ (i := 14) (N := some 39) (v := ?_) (a' := ?_) #[Y,Y,Y,Y,Y,Y,Y,Y,Y,Y,N,Y,Y,Y,Y,N,N] rfl rfl (take_ofW HT_.out HW_.out kr) (fun _ _ _ h => h) (Or.inl ⟨by rfl, ?_⟩) hHeld ?_ ?_
            rotate_left
            ·rintro w' ⟨s0, s1⟩
             go_simp
             with_reducible rfl
            rotate_left
            ·simp only [Act.put, pa, pb, pc, i64_w, i32_w]
             rfl
            refine one_ (i := 10) (N := some 35) #[Y,Y,Y,Y,Y,Y,Y,Y,Y,Y,Y,Y,Y,Y,Y,N,N] rfl rfl (one_of HT_.out kr) (by decide) (fun K hK => ?_)
            refine goes_ Try.func38 kr rfl #[.slice A2 l2.length c2, .int .i64 (wrap64 (a3 + x10_1)), .int .i64 (wrap64 ((wrap64 (2 * (rd l1 x10_1))) + 1))] (by rfl) rfl rfl mq ?_
            with_reducible refine (laws_lwAt.calls _ _ l2 (wrap64 (a3 + x10_1)) (wrap64 ((wrap64 (2 * (rd l1 x10_1))) + 1)) t551 _ ?side1 ?side2 A12.out).mono ?_
            (case side1 => exact cq (cB HR2.out HB.out))
            (case side2 => exact HC2.out)
            rintro e w' ⟨rfl, ⟨nd, rfl⟩⟩
            refine ⟨_, rfl, ?_⟩
            refine hK.out _ _ ⟨((HB.out.cell (World.block_lt_of_cell? w _ hw550_0)).trans hw550_0), ((HB.out.cell (World.block_lt_of_cell? w _ hw552_0)).trans hw552_0)⟩ (fun hHeld => ?_)
            clear hK K
            refine norm_ (a' := ?_) ?_ ?_
            rotate_left
            ·show Act.put _ (some 35) _ = _
             simp only [Act.put, pa, pb, pc, i64_w, i32_w]
             rfl
            refine pp HT_ (N := some 40) 15 #[Y,Y,Y,Y,Y,Y,Y,Y,Y,Y,Y,Y,Y,Y,Y,Y,N] ?_
            refine pp HT_ (N := some 11) 16 #[Y,Y,Y,Y,Y,Y,Y,Y,Y,Y,Y,Y,Y,Y,Y,Y,Y] ?_
            refine done_ (done_of HT_.out kr) ?_
            try go_wp2_with (first | ((with_reducible refine gate_callee (f := 38) rfl ?_); refine goesL_ (some 46) rfl rfl Try.func38 kr rfl #[.slice A2 l2.length c2, .int .i64 (wrap64 ((wrap64 (a3 + x10_1)) + 1)), .int .i64 3] rfl mq ?_; (with_reducible refine (laws_lwAt.calls _ _ l2 (wrap64 ((wrap64 (a3 + x10_1)) + 1)) 3 t553 _ ?side1 ?side2 A13.out).mono ?_); (case side1 => exact cq (cB HR2.out bq)); (case side2 => exact HC2.out); rintro e w' ⟨rfl, ⟨nd, rfl⟩⟩; refine ⟨_, rfl, ?_⟩) | ((with_reducible refine gate_callee (f := 38) rfl ?_); refine goesL_ (some 57) rfl rfl Try.func38 kr rfl #[.slice A2 l2.length c2, .int .i64 (wrap64 ((wrap64 (a3 + x10_1)) + 2)), .int .i64 5] rfl mq ?_; (with_reducible refine (laws_lwAt.calls _ _ l2 (wrap64 ((wrap64 (a3 + x10_1)) + 2)) 5 t565 _ ?side1 ?side2 A25.out).mono ?_); (case side1 => exact cq (cB HR2.out bq)); (case side2 => exact HC2.out); rintro e w' ⟨rfl, ⟨nd, rfl⟩⟩; refine ⟨_, rfl, ?_⟩; have p566 : 0 ≤ (x10_1 : Int) := of_decide_eq_true (by first | (with_reducible assumption) | assumption); have q566 : x10_1 < (l1.length : Int) := of_decide_eq_true (by first | (with_reducible assumption) | assumption); obtain ⟨ad566, e566, hx566_0⟩ := Kd.at_int HR1.out x10_1 p566 q566; obtain rfl : ad550 = ad566 := (by injection e566); replace hx566_0 := (HB.out.cell (World.block_lt_of_cell? w _ hx566_0)).trans hx566_0; replace p566 := eq_true p566; replace q566 := eq_true q566; have p567 : 0 ≤ (x10_1 : Int) := of_decide_eq_true (by first | (with_reducible assumption) | assumption); have q567 : x10_1 < (l0.length : Int) := of_decide_eq_true (by first | (with_reducible assumption) | assumption); obtain ⟨ad567, e567, hx567_0⟩ := Kd.at_int HR0.out x10_1 p567 q567; cases e567; replace hx567_0 := (HB.out.cell (World.block_lt_of_cell? w _ hx567_0)).trans hx567_0; replace p567 := eq_true p567; replace q567 := eq_true q567) | ((with_reducible refine gate_builtin (b := .append) (xs := #[.tmp 64, .tmp 71]) rfl ?_); (try (refine gate_guard (by rfl) ?_; dsimp only)); at_builtin; refine Kd.R_append (Kd.int .i64) (w0 := w) w.heap.size rfl (.tmp 64) (.tmp 71) 22 2 (.int .i64 0) 8 rfl Try.underlying22 info2 rfl (by decide) (by omega) u9 x9_1 (wrap64 ((rd l0 x10_1) + (wrap64 (-(rd l1 x10_1))))) [.int .i64 (wrap64 ((rd l0 x10_1) + (wrap64 (-(rd l1 x10_1)))))] (fun _ => True) (fun _ => False) rfl rfl ?aP (fun _ hk => hk.elim) ?aF ?aO ?aB ?aS ?aL ?_; (case aP => exact rfl); (case aB => exact bq); (case aF => exact (fun _ _ => trivial)); (case aO => exact (rq HO_9.out)); (case aS => exact (bZ bq)); (case aL => have := LMc28.out; omega); intro v569 w30 ho hb hg hat; rw [← Ny568.out] at ho; replace HB := aM (hb); have HO570 := aM (ho); clear HO_9 ho hb hg hat))
            go_roundg kj6
            case measure => have := HK1.out; have := HJ6.out; omega
            case rel => exact ⟨(y568), (wrap64 (x10_1 + 1)), (ex), H', ⟨by have := HK1.out; have := HJ6.out; omega⟩, aM (rq HO570.out), ⟨bq⟩⟩
           ·rw [if_neg c28] at H
            exact absurd H (by simp)
          ·rw [if_neg c27] at H
           exact absurd H (by simp)
         ·rw [if_neg c26] at H
          have c26b0 : (t565 == 0) = false := beq_eq_false_iff_ne.mpr c26
          have c26b1 : (t565 != 0) = true := bne_iff_ne.mpr c26
          by_cases c31 : x10_1 < (l0.length : Int)
          ·rw [if_pos c31] at H
           have c31b0 : decide (x10_1 < (l0.length : Int)) = true := decide_eq_true c31
           clear c31
           by_cases c32 : x9_1.length < 17592186044416
           ·rw [if_pos c32] at H
            have LMc32 := aM c32
            clear c32
            obtain ⟨y572, hy572⟩ : ∃ y_ : List Int, y_ = (x9_1 ++ [wrap64 ((rd l0 x10_1) + (wrap64 (t551 - (rd l1 x10_1))))]) := ⟨_, rfl⟩
            replace H : (laws_lwBent.l0 kj6 l0 l1 l2 a3 y572 (wrap64 (x10_1 + 1))) = some r := by first | (rw [hy572]; with_reducible exact H) | (have H2_ := (Option.bind_some _ _).symm.trans H; rw [hy572]; with_reducible exact H2_) | (have H2_ := (Option.bind_some _ _).symm.trans H; with_reducible exact H2_) | with_reducible exact H | (rw [hy572]; exact H) | exact H
            have Ny572 := aM hy572
            clear hy572
            have H' := aM H
            clear H
            try go_wp2
            replace HO_9 := aM (rD HO_9.out)
            replace HB := aM (bD HB.out)
            have p550 : 0 ≤ (x10_1 : Int) := of_decide_eq_true (by first | (with_reducible assumption) | assumption)
            have q550 : x10_1 < (l1.length : Int) := of_decide_eq_true (by first | (with_reducible assumption) | assumption)
            obtain ⟨ad550, e550, hx550_0⟩ := Kd.at_int HR1.out x10_1 p550 q550
            have hw550_0 := hx550_0
            cases e550
            replace hx550_0 := (HB.out.cell (World.block_lt_of_cell? w _ hx550_0)).trans hx550_0
            replace p550 := eq_true p550
            replace q550 := eq_true q550
            have p552 : 0 ≤ (x10_1 : Int) := of_decide_eq_true (by first | (with_reducible assumption) | assumption)
            have q552 : x10_1 < (l1.length : Int) := of_decide_eq_true (by first | (with_reducible assumption) | assumption)
            obtain ⟨ad552, e552, hx552_0⟩ := Kd.at_int HR1.out x10_1 p552 q552
            have hw552_0 := hx552_0
            obtain rfl : ad550 = ad552 := (by injection e552)
            replace hx552_0 := (HB.out.cell (World.block_lt_of_cell? w _ hx552_0)).trans hx552_0
            replace p552 := eq_true p552
            replace q552 := eq_true q552
            refine start_ (n := 17) (S := fun w' => w'.cell? (ad550.add (x10_1).toNat) = some (.int .i64 (rd l1 x10_1)) ∧ w'.cell? (ad550.add (x10_1).toNat) = some (.int .i64 (rd l1 x10_1))) (ds := []) #[N,N,N,N,N,N,N,N,N,N,N,N,N,N,N,N,N] kr rfl rfl ⟨((HB.out.cell (World.block_lt_of_cell? w _ hw550_0)).trans hw550_0), ((HB.out.cell (World.block_lt_of_cell? w _ hw552_0)).trans hw552_0)⟩ (fun hHeld => ?_); refine with_tabW laws_lwBent.tab5 laws_lwBent.bits5 (fun HT_ HW_ => ?_)
            generalize wc.drew = w33 at HO_9 HB hx550_0 hx552_0 hHeld ⊢
            refine pp HT_ (N := some 25) 0 #[Y,N,N,N,N,N,N,N,N,N,N,N,N,N,N,N,N] ?_
            refine pp HT_ (N := some 26) 1 #[Y,Y,N,N,N,N,N,N,N,N,N,N,N,N,N,N,N] ?_
            refine pp HT_ (N := some 27) 2 #[Y,Y,Y,N,N,N,N,N,N,N,N,N,N,N,N,N,N] ?_
            refine pp HT_ (N := some 28) 3 #[Y,Y,Y,Y,N,N,N,N,N,N,N,N,N,N,N,N,N] ?_
            refine pp HT_ (N := some 29) 4 #[Y,Y,Y,Y,Y,N,N,N,N,N,N,N,N,N,N,N,N] ?_
            refine pp HT_ (N := some 30) 5 #[Y,Y,Y,Y,Y,Y,N,N,N,N,N,N,N,N,N,N,N] ?_
            refine pp HT_ (N := some 31) 6 #[Y,Y,Y,Y,Y,Y,Y,N,N,N,N,N,N,N,N,N,N] ?_
            refine pp HT_ (N := some 36) 11 #[Y,Y,Y,Y,Y,Y,Y,N,N,N,N,Y,N,N,N,N,N] ?_
            refine pp HT_ (N := some 37) 12 #[Y,Y,Y,Y,Y,Y,Y,N,N,N,N,Y,Y,N,N,N,N] ?_
            refine pp HT_ (N := some 38) 13 #[Y,Y,Y,Y,Y,Y,Y,N,N,N,N,Y,Y,Y,N,N,N] ?_
            refine take_ (i := 7) (N := some 32) (v := ?_) (a' := ?_) #[Y,Y,Y,Y,Y,Y,Y,Y,N,N,N,Y,Y,Y,N,N,N] rfl rfl (take_ofW HT_.out HW_.out kr) (fun _ _ _ h => h) (Or.inl ⟨by rfl, ?_⟩) hHeld ?_ ?_
            rotate_left
            ·rintro w' ⟨s0, s1⟩
             go_simp
             with_reducible rfl
            rotate_left
            ·simp only [Act.put, pa, pb, pc, i64_w, i32_w]
             rfl
            refine pp HT_ (N := some 33) 8 #[Y,Y,Y,Y,Y,Y,Y,Y,Y,N,N,Y,Y,Y,N,N,N] ?_
            refine pp HT_ (N := some 34) 9 #[Y,Y,Y,Y,Y,Y,Y,Y,Y,Y,N,Y,Y,Y,N,N,N] ?_
            refine take_ (i := 14) (N := some 39) (v := ?_) (a' := ?_) #[Y,Y,Y,Y,Y,Y,Y,Y,Y,Y,N,Y,Y,Y,Y,N,N] rfl rfl (take_ofW HT_.out HW_.out kr) (fun _ _ _ h => h) (Or.inl ⟨by rfl, ?_⟩) hHeld ?_ ?_
            rotate_left
            ·rintro w' ⟨s0, s1⟩
             go_simp
             with_reducible rfl
            rotate_left
            ·simp only [Act.put, pa, pb, pc, i64_w, i32_w]
             rfl
            refine one_ (i := 10) (N := some 35) #[Y,Y,Y,Y,Y,Y,Y,Y,Y,Y,Y,Y,Y,Y,Y,N,N] rfl rfl (one_of HT_.out kr) (by decide) (fun K hK => ?_)
            refine goes_ Try.func38 kr rfl #[.slice A2 l2.length c2, .int .i64 (wrap64 (a3 + x10_1)), .int .i64 (wrap64 ((wrap64 (2 * (rd l1 x10_1))) + 1))] (by rfl) rfl rfl mq ?_
            with_reducible refine (laws_lwAt.calls _ _ l2 (wrap64 (a3 + x10_1)) (wrap64 ((wrap64 (2 * (rd l1 x10_1))) + 1)) t551 _ ?side1 ?side2 A12.out).mono ?_
            (case side1 => exact cq (cB HR2.out HB.out))
            (case side2 => exact HC2.out)
            rintro e w' ⟨rfl, ⟨nd, rfl⟩⟩
            refine ⟨_, rfl, ?_⟩
            refine hK.out _ _ ⟨((HB.out.cell (World.block_lt_of_cell? w _ hw550_0)).trans hw550_0), ((HB.out.cell (World.block_lt_of_cell? w _ hw552_0)).trans hw552_0)⟩ (fun hHeld => ?_)
            clear hK K
            refine norm_ (a' := ?_) ?_ ?_
            rotate_left
            ·show Act.put _ (some 35) _ = _
             simp only [Act.put, pa, pb, pc, i64_w, i32_w]
             rfl
            refine pp HT_ (N := some 40) 15 #[Y,Y,Y,Y,Y,Y,Y,Y,Y,Y,Y,Y,Y,Y,Y,Y,N] ?_
            refine pp HT_ (N := some 11) 16 #[Y,Y,Y,Y,Y,Y,Y,Y,Y,Y,Y,Y,Y,Y,Y,Y,Y] ?_
            refine done_ (done_of HT_.out kr) ?_
            try go_wp2_with (first | ((with_reducible refine gate_callee (f := 38) rfl ?_); refine goesL_ (some 46) rfl rfl Try.func38 kr rfl #[.slice A2 l2.length c2, .int .i64 (wrap64 ((wrap64 (a3 + x10_1)) + 1)), .int .i64 3] rfl mq ?_; (with_reducible refine (laws_lwAt.calls _ _ l2 (wrap64 ((wrap64 (a3 + x10_1)) + 1)) 3 t553 _ ?side1 ?side2 A13.out).mono ?_); (case side1 => exact cq (cB HR2.out bq)); (case side2 => exact HC2.out); rintro e w' ⟨rfl, ⟨nd, rfl⟩⟩; refine ⟨_, rfl, ?_⟩) | ((with_reducible refine gate_callee (f := 38) rfl ?_); refine goesL_ (some 57) rfl rfl Try.func38 kr rfl #[.slice A2 l2.length c2, .int .i64 (wrap64 ((wrap64 (a3 + x10_1)) + 2)), .int .i64 5] rfl mq ?_; (with_reducible refine (laws_lwAt.calls _ _ l2 (wrap64 ((wrap64 (a3 + x10_1)) + 2)) 5 t565 _ ?side1 ?side2 A25.out).mono ?_); (case side1 => exact cq (cB HR2.out bq)); (case side2 => exact HC2.out); rintro e w' ⟨rfl, ⟨nd, rfl⟩⟩; refine ⟨_, rfl, ?_⟩; have p571 : 0 ≤ (x10_1 : Int) := of_decide_eq_true (by first | (with_reducible assumption) | assumption); have q571 : x10_1 < (l0.length : Int) := of_decide_eq_true (by first | (with_reducible assumption) | assumption); obtain ⟨ad571, e571, hx571_0⟩ := Kd.at_int HR0.out x10_1 p571 q571; cases e571; replace hx571_0 := (HB.out.cell (World.block_lt_of_cell? w _ hx571_0)).trans hx571_0; replace p571 := eq_true p571; replace q571 := eq_true q571) | ((with_reducible refine gate_builtin (b := .append) (xs := #[.tmp 64, .tmp 71]) rfl ?_); (try (refine gate_guard (by rfl) ?_; dsimp only)); at_builtin; refine Kd.R_append (Kd.int .i64) (w0 := w) w.heap.size rfl (.tmp 64) (.tmp 71) 22 2 (.int .i64 0) 8 rfl Try.underlying22 info2 rfl (by decide) (by omega) u9 x9_1 (wrap64 ((rd l0 x10_1) + (wrap64 (t551 - (rd l1 x10_1))))) [.int .i64 (wrap64 ((rd l0 x10_1) + (wrap64 (t551 - (rd l1 x10_1)))))] (fun _ => True) (fun _ => False) rfl rfl ?aP (fun _ hk => hk.elim) ?aF ?aO ?aB ?aS ?aL ?_; (case aP => exact rfl); (case aB => exact bq); (case aF => exact (fun _ _ => trivial)); (case aO => exact (rq HO_9.out)); (case aS => exact (bZ bq)); (case aL => have := LMc32.out; omega); intro v573 w34 ho hb hg hat; rw [← Ny572.out] at ho; replace HB := aM (hb); have HO574 := aM (ho); clear HO_9 ho hb hg hat))
            go_roundg kj6
            case measure => have := HK1.out; have := HJ6.out; omega
            case rel => exact ⟨(y572), (wrap64 (x10_1 + 1)), (ex), H', ⟨by have := HK1.out; have := HJ6.out; omega⟩, aM (rq HO574.out), ⟨bq⟩⟩
           ·rw [if_neg c32] at H
            exact absurd H (by simp)
          ·rw [if_neg c31] at H
           exact absurd H (by simp)
       ·rw [if_neg c11] at H
        exact absurd H (by simp)
      ·rw [if_neg c10] at H
       exact absurd H (by simp)
     ·replace c9 := Bool.eq_false_iff.mpr c9
      subst c9
      have H1 : (some x9_1) = some r := by rw [if_neg (show ¬ (false = true) by decide)] at H; exact H
      clear H
      have H := H1
      clear H1
      obtain rfl := Option.some.inj H
      go_wp2
      go_ret
      exact ⟨_, ew, by (with_reducible repeat (first | apply rA | apply rN | apply rD)); exact HO_9.out, bq⟩

end Go.Proofs.Ytmhnpogjkbmmnaa.PFnFrameBounds
