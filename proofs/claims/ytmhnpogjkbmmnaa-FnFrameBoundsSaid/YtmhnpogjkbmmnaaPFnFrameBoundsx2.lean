-- Written by a program of this session: wip/mkprint.py over the kit's print, with contracts proved by hand (wip/given.py)
-- told shortest
-- told shorter still
-- shortened
-- told short
-- worlds by letters
-- squeezed
import Derived.Test.YtmhnpogjkbmmnaaPFnFrameBoundsx0
import Derived.Test.YtmhnpogjkbmmnaaPFnFrameBoundsx1
namespace Go.Proofs.Ytmhnpogjkbmmnaa.PFnFrameBounds
open Go.RowKit Go.Proofs.YtmhnpogjkbmmnaaW.PrintWords Go.Proofs.YtmhnpogjkbmmnaaW.PrintLast Go.Proofs.YtmhnpogjkbmmnaaW.PrintMore
open Go.Proofs.YtmhnpogjkbmmnaaW.PrintWords.Kd renaming R_alloc → rA, R_drewN → rN, R_drew → rD, R_mono → rM, R_base → rB, R_new' → rW, R_below → rL, R_lt → rT, R_lower → rG, R_elder' → rH, R_reads' → rR
open Go.Proofs.YtmhnpogjkbmmnaaW.PrintWords renaming below_drew1 → bD, below_set → bS, below_step → bT, below_size → bZ
open Go.Proofs.YtmhnpogjkbmmnaaW.PrintWords.Aside0 renaming mk → aM
attribute [local go_sem] max2_int min2_int max_two min_two max_three min_three max_four min_four   -- for this text's walks alone
set_option linter.unusedVariables false
set_option linter.unusedSimpArgs false

/-! ### spec_l8Gather: function 101 -/
mutual
def spec_l8Gather.l0 : Nat → List Int → Int → List Int → List Int → Int → Option (List Int)
 | 0, _, _, _, _, _ => none
 | k + 1, x0, x3, x4, x5, x6 => if (wrap64 (x6 + 1)) < x3 then (if 0 ≤ x6 then (if x6 < (x0.length : Int) then (if x4.length < 17592186044416 then (if 0 ≤ (wrap64 (x6 + 1)) then (if (wrap64 (x6 + 1)) < (x0.length : Int) then (if x5.length < 17592186044416 then (spec_l8Gather.l0 k x0 x3 (x4 ++ [rd x0 x6]) (x5 ++ [rd x0 (wrap64 (x6 + 1))]) (wrap64 (x6 + 2))) else (none)) else (none)) else (none)) else (none)) else (none)) else (none)) else ((spec_l8Gather.f k x4).bind fun t138 => ((spec_l8Gather.f k x5).bind fun t141 => (if x3 > 2 then (spec_l8Gather.l1 k x3 t138 t141 0) else (spec_l8Gather.j2 k x3 t138 t141))))
def spec_l8Gather.j2 : Nat → Int → List Int → List Int → Option (List Int)
 | 0, _, _, _ => none
 | k + 1, x3, x7, x8 => (spec_l1Zeros.f x3).bind fun t150 => (spec_l8Gather.l2 k x3 x7 x8 t150 0)
def spec_l8Gather.l2 : Nat → Int → List Int → List Int → List Int → Int → Option (List Int)
 | 0, _, _, _, _, _ => none
 | k + 1, x3, x7, x8, x12, x13 => if x13 < (wrap64 (Int.tdiv x3 2)) then (if 0 ≤ x13 then (if x13 < (x7.length : Int) then (if x13 < (x8.length : Int) then ((spec_l1Ceil.f (rd x8 x13) 2).bind fun t155 => (if x13 < (x12.length : Int) then (if 0 ≤ (wrap64 ((wrap64 (x3 - 1)) - x13)) then (if (wrap64 ((wrap64 (x3 - 1)) - x13)) < (x12.length : Int) then (spec_l8Gather.l2 k x3 x7 x8 ((x12.set (x13 : Int).toNat (wrap64 ((rd x7 x13) + t155))).set ((wrap64 ((wrap64 (x3 - 1)) - x13)) : Int).toNat (wrap64 ((rd x7 x13) + t155))) (wrap64 (x13 + 1))) else (none)) else (none)) else (none))) else (none)) else (none)) else (none)) else (some x12)
def spec_l8Gather.l1 : Nat → Int → List Int → List Int → Int → Option (List Int)
 | 0, _, _, _, _ => none
 | k + 1, x3, x7, x8, x9 => if x9 < (wrap64 (Int.tdiv x3 4)) then (if 0 ≤ x9 then (if x9 < (x8.length : Int) then (if 0 ≤ (wrap64 ((wrap64 ((wrap64 (Int.tdiv x3 2)) - 1)) - x9)) then (if (wrap64 ((wrap64 ((wrap64 (Int.tdiv x3 2)) - 1)) - x9)) < (x8.length : Int) then ((spec_l8Turn.f x3 x9 (rd x8 x9) (rd x8 (wrap64 ((wrap64 ((wrap64 (Int.tdiv x3 2)) - 1)) - x9)))).bind fun bt146 => (spec_l8Gather.l1 k x3 x7 ((x8.set (x9 : Int).toNat bt146.1).set ((wrap64 ((wrap64 ((wrap64 (Int.tdiv x3 2)) - 1)) - x9)) : Int).toNat bt146.2) (wrap64 (x9 + 1)))) else (none)) else (none)) else (none)) else (none)) else (spec_l8Gather.j2 k x3 x7 x8)
def spec_l8Gather.f : Nat → List Int → Option (List Int)
 | 0, _ => none
 | k + 1, l0 => if (l0.length : Int) = 1 then ((spec_l1Ints.f l0).bind fun t121 => (some t121)) else (spec_l8Gather.l0 k l0 (l0.length : Int) (([] : List Int)) (([] : List Int)) 0)
end
theorem spec_l8Gather.mono_l : ∀ k, (∀ y0, LeO (spec_l8Gather.f k y0) (spec_l8Gather.f (k + 1) y0)) ∧ (∀ y0 y1 y2 y3 y4, LeO (spec_l8Gather.l0 k y0 y1 y2 y3 y4) (spec_l8Gather.l0 (k + 1) y0 y1 y2 y3 y4)) ∧ (∀ y0 y1 y2, LeO (spec_l8Gather.j2 k y0 y1 y2) (spec_l8Gather.j2 (k + 1) y0 y1 y2)) ∧ (∀ y0 y1 y2 y3 y4, LeO (spec_l8Gather.l2 k y0 y1 y2 y3 y4) (spec_l8Gather.l2 (k + 1) y0 y1 y2 y3 y4)) ∧ (∀ y0 y1 y2 y3, LeO (spec_l8Gather.l1 k y0 y1 y2 y3) (spec_l8Gather.l1 (k + 1) y0 y1 y2 y3))
 | 0 => ⟨fun _ r h => by simp [spec_l8Gather.f] at h, fun _ _ _ _ _ r h => by simp [spec_l8Gather.l0] at h, fun _ _ _ r h => by simp [spec_l8Gather.j2] at h, fun _ _ _ _ _ r h => by simp [spec_l8Gather.l2] at h, fun _ _ _ _ r h => by simp [spec_l8Gather.l1] at h⟩
 | k + 1 => by
  obtain ⟨ih0, ih1, ih2, ih3, ih4⟩ := spec_l8Gather.mono_l k
  refine ⟨?_, ?_, ?_, ?_, ?_⟩
  ·intro y0
   unfold spec_l8Gather.f
   repeat' first
   | (with_reducible exact ih0 _)
   | (with_reducible exact ih1 _ _ _ _ _)
   | (with_reducible exact ih2 _ _ _)
   | (with_reducible exact ih3 _ _ _ _ _)
   | (with_reducible exact ih4 _ _ _ _)
   | (with_reducible exact LeO.refl _)
   | (with_reducible exact LeO.none _)
   | (with_reducible refine LeO.ite ?_ ?_)
   | (with_reducible refine LeO.bind ?_ (fun _ => ?_))
   | exact ih0 _
   | exact ih1 _ _ _ _ _
   | exact ih2 _ _ _
   | exact ih3 _ _ _ _ _
   | exact ih4 _ _ _ _
   | exact LeO.none _
   | refine LeO.ite ?_ ?_
   | refine LeO.bind ?_ (fun _ => ?_)
  ·intro y0 y1 y2 y3 y4
   unfold spec_l8Gather.l0
   repeat' first
   | (with_reducible exact ih0 _)
   | (with_reducible exact ih1 _ _ _ _ _)
   | (with_reducible exact ih2 _ _ _)
   | (with_reducible exact ih3 _ _ _ _ _)
   | (with_reducible exact ih4 _ _ _ _)
   | (with_reducible exact LeO.refl _)
   | (with_reducible exact LeO.none _)
   | (with_reducible refine LeO.ite ?_ ?_)
   | (with_reducible refine LeO.bind ?_ (fun _ => ?_))
   | exact ih0 _
   | exact ih1 _ _ _ _ _
   | exact ih2 _ _ _
   | exact ih3 _ _ _ _ _
   | exact ih4 _ _ _ _
   | exact LeO.none _
   | refine LeO.ite ?_ ?_
   | refine LeO.bind ?_ (fun _ => ?_)
  ·intro y0 y1 y2
   unfold spec_l8Gather.j2
   repeat' first
   | (with_reducible exact ih0 _)
   | (with_reducible exact ih1 _ _ _ _ _)
   | (with_reducible exact ih2 _ _ _)
   | (with_reducible exact ih3 _ _ _ _ _)
   | (with_reducible exact ih4 _ _ _ _)
   | (with_reducible exact LeO.refl _)
   | (with_reducible exact LeO.none _)
   | (with_reducible refine LeO.ite ?_ ?_)
   | (with_reducible refine LeO.bind ?_ (fun _ => ?_))
   | exact ih0 _
   | exact ih1 _ _ _ _ _
   | exact ih2 _ _ _
   | exact ih3 _ _ _ _ _
   | exact ih4 _ _ _ _
   | exact LeO.none _
   | refine LeO.ite ?_ ?_
   | refine LeO.bind ?_ (fun _ => ?_)
  ·intro y0 y1 y2 y3 y4
   unfold spec_l8Gather.l2
   repeat' first
   | (with_reducible exact ih0 _)
   | (with_reducible exact ih1 _ _ _ _ _)
   | (with_reducible exact ih2 _ _ _)
   | (with_reducible exact ih3 _ _ _ _ _)
   | (with_reducible exact ih4 _ _ _ _)
   | (with_reducible exact LeO.refl _)
   | (with_reducible exact LeO.none _)
   | (with_reducible refine LeO.ite ?_ ?_)
   | (with_reducible refine LeO.bind ?_ (fun _ => ?_))
   | exact ih0 _
   | exact ih1 _ _ _ _ _
   | exact ih2 _ _ _
   | exact ih3 _ _ _ _ _
   | exact ih4 _ _ _ _
   | exact LeO.none _
   | refine LeO.ite ?_ ?_
   | refine LeO.bind ?_ (fun _ => ?_)
  ·intro y0 y1 y2 y3
   unfold spec_l8Gather.l1
   repeat' first
   | (with_reducible exact ih0 _)
   | (with_reducible exact ih1 _ _ _ _ _)
   | (with_reducible exact ih2 _ _ _)
   | (with_reducible exact ih3 _ _ _ _ _)
   | (with_reducible exact ih4 _ _ _ _)
   | (with_reducible exact LeO.refl _)
   | (with_reducible exact LeO.none _)
   | (with_reducible refine LeO.ite ?_ ?_)
   | (with_reducible refine LeO.bind ?_ (fun _ => ?_))
   | exact ih0 _
   | exact ih1 _ _ _ _ _
   | exact ih2 _ _ _
   | exact ih3 _ _ _ _ _
   | exact ih4 _ _ _ _
   | exact LeO.none _
   | refine LeO.ite ?_ ?_
   | refine LeO.bind ?_ (fun _ => ?_)
theorem spec_l8Gather.mono : ∀ a0 k, LeO (spec_l8Gather.f k a0) (spec_l8Gather.f (k + 1) a0) := by
 intro a0 k
 obtain ⟨ih0, ih1, ih2, ih3, ih4⟩ := spec_l8Gather.mono_l k
 exact ih0 a0
def spec_l8Gather.T17 : Bool × List (List Nat × List Nat) := (true, [([], []), ([], []), ([], []), ([], []), ([2, 3], [2, 3]), ([4], [4]), ([], []), ([], []), ([7], [7]), ([8], [8]), ([], []), ([9, 10], [9, 10]), ([6, 11], [6, 11]), ([12], [12]), ([0, 1, 5, 13], [0, 1, 5, 13]), ([14], [14]), ([15], [15]), ([15], [15]), ([16, 14, 0, 1, 2, 3, 4, 5, 6, 7, 8, 9, 10, 11, 12, 13, 14, 15, 16], [16]), ([17, 18, 0, 1, 2, 3, 4, 5, 6, 7, 8, 9, 10, 11, 12, 13, 14, 15, 16, 17, 18], [17])])
def spec_l8Gather.B17 : List Nat := [0, 0, 0, 0, 12, 28, 0, 0, 128, 384, 0, 1920, 4032, 8128, 16383, 32767, 65535, 65535, 131071, 524287]
theorem spec_l8Gather.tab17 : rtab .any (opsOf Try.f101 17) = spec_l8Gather.T17 := by kernel_rfl
theorem spec_l8Gather.bits17 : waitsOk spec_l8Gather.T17.2 spec_l8Gather.B17 = true := by kernel_rfl
def spec_l8Gather.T24 : Bool × List (List Nat × List Nat) := (true, [([], []), ([], []), ([0, 1], [0, 1]), ([2], [2]), ([], []), ([], []), ([4, 5], [4, 5]), ([6], [6]), ([7], [7]), ([3, 8], [3, 8]), ([9, 8, 0, 1, 2, 3, 4, 5, 6, 7, 8, 9], [9])])
def spec_l8Gather.B24 : List Nat := [0, 0, 3, 7, 0, 0, 48, 112, 240, 511, 1023]
theorem spec_l8Gather.tab24 : rtab .any (opsOf Try.f101 24) = spec_l8Gather.T24 := by kernel_rfl
theorem spec_l8Gather.bits24 : waitsOk spec_l8Gather.T24.2 spec_l8Gather.B24 = true := by kernel_rfl
set_option maxHeartbeats 8000000 in
set_option maxRecDepth 100000 in
theorem spec_l8Gather.calls (k : Nat) : ∀ (A0 : Option Addr) (c0 : Nat) (l0 : List Int) (r : List Int) (w : World) (hr0 : Kd.C (Kd.int .i64) w A0 l0.length l0) (hc0 : l0.length ≤ c0) (h : spec_l8Gather.f k l0 = some r),
  Calls Try.prog 101 #[.slice A0 l0.length c0] w fun e w' => ∃ v0_ : Value, e = .returned (v0_) ∧ Kd.R (Kd.int .i64) 2 w' w.heap.size (fun _ => True) v0_ r ∧ Below w.heap.size w w' := by
 induction k using Nat.strongRecOn with
 | _ k ih =>
 intro A0 c0 l0 r w hr0 hc0 h
 cases k with
 | zero => exact absurd h (by simp [spec_l8Gather.f])
 | succ k =>
 simp only [spec_l8Gather.f] at h
 have HR0 := aM hr0
 have HC0 := aM hc0
 clear hr0 hc0
 have HB := aM (Below.refl w.heap.size w)
 have H : (if (l0.length : Int) = 1 then ((spec_l1Ints.f l0).bind fun t121 => (some t121)) else (spec_l8Gather.l0 k l0 (l0.length : Int) (([] : List Int)) (([] : List Int)) 0)) = some r := h
 clear h
 by_cases c2 : (l0.length : Int) = 1
 ·rw [if_pos c2] at H
  have c2b0 : ((l0.length : Int) == 1) = true := beq_iff_eq.mpr c2
  have c2b1 : ((l0.length : Int) != 1) = false := bne_eq_false_iff_eq.mpr c2
  clear c2
  replace H := Option.bind_eq_some_iff.mp H
  obtain ⟨t121, A30, H⟩ := H
  replace H : (some t121) = some r := H
  have A3 := aM A30
  clear A30
  obtain rfl := Option.some.inj H
  go_enter Try.func101, Try.ntmps101
  go_wp2_with (first | ((with_reducible refine gate_callee (f := 114) rfl ?_); refine goesL_ (some 20) rfl rfl Try.func114 kr rfl #[.slice A0 l0.length c0] rfl mq ?_; (with_reducible refine (spec_l1Ints.calls _ _ l0 t121 _ ?side1 ?side2 A3.out).mono ?_); (case side1 => exact cq HR0.out); (case side2 => exact HC0.out); rintro e w4 ⟨v122, rfl, ho0, hb⟩; refine ⟨_, rfl, ?_⟩; have HO123 := aM (rG ho0 (bZ bq)); replace HB := aM (bT bq hb); (try clear hb); (try clear ho0)))
  go_ret
  exact ⟨_, ew, by (with_reducible repeat (first | apply rA | apply rN | apply rD)); exact HO123.out, bq⟩
 ·rw [if_neg c2] at H
  have c2b0 : ((l0.length : Int) == 1) = false := beq_eq_false_iff_ne.mpr c2
  have c2b1 : ((l0.length : Int) != 1) = true := bne_iff_ne.mpr c2
  obtain ⟨y124, hy124⟩ : ∃ y_ : List Int, y_ = (([] : List Int)) := ⟨_, rfl⟩
  replace H : (spec_l8Gather.l0 k l0 (l0.length : Int) y124 (([] : List Int)) 0) = some r := by first | (rw [hy124]; with_reducible exact H) | (have H2_ := (Option.bind_some _ _).symm.trans H; rw [hy124]; with_reducible exact H2_) | (have H2_ := (Option.bind_some _ _).symm.trans H; with_reducible exact H2_) | with_reducible exact H | (rw [hy124]; exact H) | exact H
  have Ny124 := aM hy124
  clear hy124
  obtain ⟨y127, hy127⟩ : ∃ y_ : List Int, y_ = (([] : List Int)) := ⟨_, rfl⟩
  replace H : (spec_l8Gather.l0 k l0 (l0.length : Int) y124 y127 0) = some r := by first | (rw [hy127]; with_reducible exact H) | (have H2_ := (Option.bind_some _ _).symm.trans H; rw [hy127]; with_reducible exact H2_) | (have H2_ := (Option.bind_some _ _).symm.trans H; with_reducible exact H2_) | with_reducible exact H | (rw [hy127]; exact H) | exact H
  have Ny127 := aM hy127
  clear hy127
  have H' := aM H
  clear H
  go_enter Try.func101, Try.ntmps101
  go_wp2_with (first | ((with_reducible refine gate_dst (N := 21) rfl ?_); refine Kd.R_lit (Kd.int .i64) _ 2 ?hg (N := 21) ?hd (xs := ([] : List Int)) (inner := []) (ok := fun _ => True) (okp := fun _ => True) ?hr ?hp (fun _ hk => hk) trivial (Below.refl _ _) (Nat.le_refl _) (by simp) ?_; (case hd => rfl); (case hg => rfl); (case hr => first | (go_simp; done) | (go_simp; rfl)); (case hp => exact (Reps.none _ _)); intro v125 w5 ho6 hb hg_ hnew_; clear hg_ hnew_; (first | rw [← Ny124.out] at ho6 | (simp only [Int.reduceToNat] at ho6; rw [← Ny124.out] at ho6)); have HO126 := aM (rG ho6 (bZ bq)); replace HB := aM (bT bq hb); clear hb ho6) | ((with_reducible refine gate_dst (N := 22) rfl ?_); refine Kd.R_lit (Kd.int .i64) _ 2 ?hg (N := 22) ?hd (xs := ([] : List Int)) (inner := []) (ok := fun _ => True) (okp := fun _ => True) ?hr ?hp (fun _ hk => hk) trivial (Below.refl _ _) (Nat.le_refl _) (by simp) ?_; (case hd => rfl); (case hg => rfl); (case hr => first | (go_simp; done) | (go_simp; rfl)); (case hp => exact (Reps.none _ _)); intro v128 w7 ho8 hb hg_ hnew_; clear hg_ hnew_; (first | rw [← Ny127.out] at ho8 | (simp only [Int.reduceToNat] at ho8; rw [← Ny127.out] at ho8)); have HO129 := aM (rG (rW ho8 (rT (rq HO126.out))) (bZ bq)); replace HO126 := aM (rH (rq HO126.out) (rB ho8) hb); replace HB := aM (bT bq hb); clear hb ho8))
  go_loopg [4, 5, 6] k (fun kq v4 v5 v6 w' => ∃ (x4_1 : List Int) (x5_1 : List Int) (x6_1 : Int), v6 = .int .i64 x6_1 ∧ Aside0 (spec_l8Gather.l0 kq l0 (l0.length : Int) x4_1 x5_1 x6_1 = some r) ∧ Aside0 (kq ≤ k) ∧ Aside0 (Kd.R (Kd.int .i64) 2 w' w.heap.size (fun k_ => nb v5 k_) v4 x4_1) ∧ Aside0 (Kd.R (Kd.int .i64) 2 w' w.heap.size (fun k_ => nb v4 k_) v5 x5_1) ∧ Aside0 (Below w.heap.size w w'))
  case atStart => exact ⟨(y124), (y127), (0), (ex), H', ⟨Nat.le_refl _⟩, aM (rq (rM HO126.out (fun _ hk => hk.2))), aM (rq (rM HO129.out (fun _ hk => hk.2))), ⟨bq⟩⟩
  case round =>
   clear H'
   try clear c1
   try clear c2
   try clear c2b0
   try clear c2b1
   try clear p2
   obtain ⟨x4_1, x5_1, x6_1, rfl, HA, HK1, HO_4, HO_5, HB⟩ := hrel
   cases gk with
   | zero => exact absurd HA.out (by simp [spec_l8Gather.l0])
   | succ k1 =>
    have H := HA.out
    clear HA
    simp only [spec_l8Gather.l0] at H
    by_cases c9 : (wrap64 (x6_1 + 1)) < (l0.length : Int)
    ·rw [if_pos c9] at H
     have c9b0 : decide ((wrap64 (x6_1 + 1)) < (l0.length : Int)) = true := decide_eq_true c9
     clear c9
     by_cases c10 : 0 ≤ x6_1
     ·rw [if_pos c10] at H
      have c10b0 : decide (0 ≤ x6_1) = true := decide_eq_true c10
      clear c10
      by_cases c11 : x6_1 < (l0.length : Int)
      ·rw [if_pos c11] at H
       have c11b0 : decide (x6_1 < (l0.length : Int)) = true := decide_eq_true c11
       clear c11
       by_cases c12 : x4_1.length < 17592186044416
       ·rw [if_pos c12] at H
        have LMc12 := aM c12
        clear c12
        obtain ⟨y131, hy131⟩ : ∃ y_ : List Int, y_ = (x4_1 ++ [rd l0 x6_1]) := ⟨_, rfl⟩
        replace H : (if 0 ≤ (wrap64 (x6_1 + 1)) then (if (wrap64 (x6_1 + 1)) < (l0.length : Int) then (if x5_1.length < 17592186044416 then (spec_l8Gather.l0 k1 l0 (l0.length : Int) y131 (x5_1 ++ [rd l0 (wrap64 (x6_1 + 1))]) (wrap64 (x6_1 + 2))) else (none)) else (none)) else (none)) = some r := by first | (rw [hy131]; with_reducible exact H) | (have H2_ := (Option.bind_some _ _).symm.trans H; rw [hy131]; with_reducible exact H2_) | (have H2_ := (Option.bind_some _ _).symm.trans H; with_reducible exact H2_) | with_reducible exact H | (rw [hy131]; exact H) | exact H
        have Ny131 := aM hy131
        clear hy131
        obtain ⟨ji13, hji13⟩ : ∃ j_ : Int, (wrap64 (x6_1 + 1)) = j_ := ⟨_, rfl⟩
        replace H : (if 0 ≤ (ji13) then (if (ji13) < (l0.length : Int) then (if x5_1.length < 17592186044416 then (spec_l8Gather.l0 k1 l0 (l0.length : Int) y131 (x5_1 ++ [rd l0 (ji13)]) (wrap64 (x6_1 + 2))) else (none)) else (none)) else (none)) = some r := by first | (rw [hji13] at H; exact H) | (simp only [hji13] at H ⊢; exact H)
        (try rw [hji13] at c9b0)
        have hji13w : (IntKind.i64.wrap (x6_1 + 1)) = ji13 := (i64_w _).trans hji13
        by_cases c14 : 0 ≤ (ji13)
        ·rw [if_pos c14] at H
         have c14b0 : decide (0 ≤ (ji13)) = true := decide_eq_true c14
         clear c14
         by_cases c15 : (ji13) < (l0.length : Int)
         ·rw [if_pos c15] at H
          have c15b0 : decide ((ji13) < (l0.length : Int)) = true := decide_eq_true c15
          clear c15
          by_cases c16 : x5_1.length < 17592186044416
          ·rw [if_pos c16] at H
           have LMc16 := aM c16
           clear c16
           obtain ⟨y135, hy135⟩ : ∃ y_ : List Int, y_ = (x5_1 ++ [rd l0 (ji13)]) := ⟨_, rfl⟩
           replace H : (spec_l8Gather.l0 k1 l0 (l0.length : Int) y131 y135 (wrap64 (x6_1 + 2))) = some r := by first | (rw [hy135]; with_reducible exact H) | (have H2_ := (Option.bind_some _ _).symm.trans H; rw [hy135]; with_reducible exact H2_) | (have H2_ := (Option.bind_some _ _).symm.trans H; with_reducible exact H2_) | with_reducible exact H | (rw [hy135]; exact H) | exact H
           have Ny135 := aM hy135
           clear hy135
           have H' := aM H
           clear H
           have p130 : 0 ≤ (x6_1 : Int) := of_decide_eq_true (by first | (with_reducible assumption) | assumption)
           have q130 : x6_1 < (l0.length : Int) := of_decide_eq_true (by first | (with_reducible assumption) | assumption)
           obtain ⟨ad130, e130, hx130_0⟩ := Kd.at_int HR0.out x6_1 p130 q130
           cases e130
           replace hx130_0 := (HB.out.cell (World.block_lt_of_cell? w _ hx130_0)).trans hx130_0
           replace p130 := eq_true p130
           replace q130 := eq_true q130
           go_wp2_with (first | ((with_reducible refine gate_builtin (b := .append) (xs := #[.tmp 29, .tmp 34]) rfl ?_); at_builtin; refine Kd.R_append (Kd.int .i64) (w0 := w) w.heap.size rfl (.tmp 29) (.tmp 34) 22 2 (.int .i64 0) 8 rfl Try.underlying22 info2 rfl (by decide) (by omega) u4 x4_1 (rd l0 x6_1) [.int .i64 (rd l0 x6_1)] (fun k_ => nb u5 k_) (fun _ => False) rfl rfl ?aP (fun _ hk => hk.elim) ?aF ?aO ?aB ?aS ?aL ?_; (case aP => exact rfl); (case aB => exact bq); (case aF => exact (fun k_ hk => Kd.fresh' (rT (rq HO_5.out)) k_ hk)); (case aO => exact (rq HO_4.out)); (case aS => exact (bZ bq)); (case aL => have := LMc12.out; omega); intro v132 w17 ho hb hg hat; rw [← Ny131.out] at ho; replace HO_5 := aM (Kd.R_after (ok := (fun _ => True)) (rq (rM HO_5.out (fun _ hk => ⟨trivial, hk⟩))) hg hat); replace HB := aM (hb); have HO133 := aM (ho); clear HO_4 ho hb hg hat; have p134 : 0 ≤ ((ji13) : Int) := of_decide_eq_true (by first | (with_reducible assumption) | assumption); have q134 : (ji13) < (l0.length : Int) := of_decide_eq_true (by first | (with_reducible assumption) | assumption); obtain ⟨ad134, e134, hx134_0⟩ := Kd.at_int HR0.out (ji13) p134 q134; obtain rfl : ad130 = ad134 := (by injection e134); replace hx134_0 := (HB.out.cell (World.block_lt_of_cell? w _ hx134_0)).trans hx134_0; replace p134 := eq_true p134; replace q134 := eq_true q134) | ((with_reducible refine gate_builtin (b := .append) (xs := #[.tmp 36, .tmp 42]) rfl ?_); at_builtin; refine Kd.R_append (Kd.int .i64) (w0 := w) w.heap.size rfl (.tmp 36) (.tmp 42) 22 2 (.int .i64 0) 8 rfl Try.underlying22 info2 rfl (by decide) (by omega) u5 x5_1 (rd l0 (ji13)) [.int .i64 (rd l0 (ji13))] (fun k_ => nb v132 k_) (fun _ => False) rfl rfl ?aP (fun _ hk => hk.elim) ?aF ?aO ?aB ?aS ?aL ?_; (case aP => exact rfl); (case aB => exact bq); (case aF => exact (fun k_ hk => Kd.fresh' (rT (rq HO133.out)) k_ hk)); (case aO => exact (rq (rM HO_5.out (fun _ hk => hk.2)))); (case aS => exact (bZ bq)); (case aL => have := LMc16.out; omega); intro v136 w18 ho hb hg hat; rw [← Ny135.out] at ho; replace HO133 := aM (Kd.R_after (ok := (fun _ => True)) (rq (rM HO133.out (fun _ hk => ⟨trivial, hk⟩))) hg hat); replace HB := aM (hb); have HO137 := aM (ho); clear HO_5 ho hb hg hat))
           go_roundg k1
           case measure => have := HK1.out; omega
           case rel => exact ⟨(y131), (y135), (wrap64 (x6_1 + 2)), (ex), H', ⟨by have := HK1.out; omega⟩, aM (rq (rM HO133.out (fun _ hk => hk.2))), aM (rq HO137.out), ⟨bq⟩⟩
          ·rw [if_neg c16] at H
           exact absurd H (by simp)
         ·rw [if_neg c15] at H
          exact absurd H (by simp)
        ·rw [if_neg c14] at H
         exact absurd H (by simp)
       ·rw [if_neg c12] at H
        exact absurd H (by simp)
      ·rw [if_neg c11] at H
       exact absurd H (by simp)
     ·rw [if_neg c10] at H
      exact absurd H (by simp)
    ·rw [if_neg c9] at H
     have c9b0 : decide ((wrap64 (x6_1 + 1)) < (l0.length : Int)) = false := decide_eq_false c9
     clear c9
     replace H := Option.bind_eq_some_iff.mp H
     obtain ⟨t138, A190, H⟩ := H
     replace H : ((spec_l8Gather.f k1 x5_1).bind fun t141 => (if (l0.length : Int) > 2 then (spec_l8Gather.l1 k1 (l0.length : Int) t138 t141 0) else (spec_l8Gather.j2 k1 (l0.length : Int) t138 t141))) = some r := H
     have A19 := aM A190
     clear A190
     replace H := Option.bind_eq_some_iff.mp H
     obtain ⟨t141, A200, H⟩ := H
     replace H : (if (l0.length : Int) > 2 then (spec_l8Gather.l1 k1 (l0.length : Int) t138 t141 0) else (spec_l8Gather.j2 k1 (l0.length : Int) t138 t141)) = some r := H
     have A20 := aM A200
     clear A200
     have HC21 := aM H
     clear H
     obtain ⟨Ao22, co22, eo22⟩ := Kd.R_slice HO_4.out
     subst eo22
     go_upto_if 49 with (first | ((with_reducible refine gate_callee (f := 101) rfl ?_); refine goesL_ (some 45) rfl rfl Try.func101 kr rfl #[.slice Ao22 x4_1.length co22] rfl mq ?_; (with_reducible refine (ih k1 (by have := HK1.out; omega) _ _ x4_1 t138 _ ?side1 ?side2 A19.out).mono ?_); (case side1 => exact cq (rR HO_4.out).2.2); (case side2 => exact (rR HO_4.out).2.1); rintro e w23 ⟨v139, rfl, ho0, hb⟩; refine ⟨_, rfl, ?_⟩; have HO140 := aM (rG (rW (rW ho0 (rT (rq HO_4.out))) (rT (rq HO_5.out))) (bZ bq)); replace HO_4 := aM (rH (rq HO_4.out) (rB ho0) hb); replace HO_5 := aM (rH (rq HO_5.out) (rB ho0) hb); replace HB := aM (bT bq hb); (try clear hb); (try clear ho0); obtain ⟨Ao24, co24, eo24⟩ := Kd.R_slice HO_5.out; subst eo24) | ((with_reducible refine gate_callee (f := 101) rfl ?_); refine goesL_ (some 47) rfl rfl Try.func101 kr rfl #[.slice Ao24 x5_1.length co24] rfl mq ?_; (with_reducible refine (ih k1 (by have := HK1.out; omega) _ _ x5_1 t141 _ ?side1 ?side2 A20.out).mono ?_); (case side1 => exact cq (rR HO_5.out).2.2); (case side2 => exact (rR HO_5.out).2.1); rintro e w25 ⟨v142, rfl, ho0, hb⟩; refine ⟨_, rfl, ?_⟩; have HO143 := aM (rG (rW (rW (rW ho0 (rT (rq HO_4.out))) (rT (rq HO_5.out))) (rT (rq HO140.out))) (bZ bq)); replace HO_4 := aM (rH (rq HO_4.out) (rB ho0) hb); replace HO_5 := aM (rH (rq HO_5.out) (rB ho0) hb); replace HO140 := aM (rH (rq HO140.out) (rB ho0) hb); replace HB := aM (bT bq hb); (try clear hb); (try clear ho0)))
     (try simp only [Act.put, pa, pb, pc])
     go_cut [] (fun wc => ∃ (kq : Nat) (x8_20 : List Int), Aside0 (spec_l8Gather.j2 kq (l0.length : Int) t138 x8_20 = some r) ∧ Aside0 (kq ≤ k1) ∧ Aside0 (Kd.R (Kd.int .i64) 2 wc w.heap.size (fun k_ => nb v142 k_) v139 t138) ∧ Aside0 (Kd.R (Kd.int .i64) 2 wc w.heap.size (fun k_ => nb v139 k_) v142 x8_20) ∧ Aside0 (Below w.heap.size w wc))
     case first =>
      have H := HC21.out
      clear HC21
      by_cases c26 : (l0.length : Int) > 2
      ·rw [if_pos c26] at H
       have c26b0 : decide (2 < (l0.length : Int)) = true := decide_eq_true c26
       have c26b1 : decide (2 < l0.length) = true := decide_eq_true (by omega)
       clear c26
       (first | rw [c26b0] | (simp only [i64_w, i32_w]; rw [c26b0]) | skip)
       have H' := aM H
       clear H
       go_wp2
       go_loopg [9] k1 (fun kq v9 w' => ∃ (x8_2 : List Int) (x9_2 : Int), v9 = .int .i64 x9_2 ∧ Aside0 (spec_l8Gather.l1 kq (l0.length : Int) t138 x8_2 x9_2 = some r) ∧ Aside0 (kq ≤ k1) ∧ Aside0 (Kd.R (Kd.int .i64) 2 w' w.heap.size (fun k_ => nb v142 k_) v139 t138) ∧ Aside0 (Kd.R (Kd.int .i64) 2 w' w.heap.size (fun k_ => nb v139 k_) v142 x8_2) ∧ Aside0 (Below w.heap.size w w'))
       case atStart => exact ⟨(t141), (0), (ex), H', ⟨Nat.le_refl _⟩, aM (rq (rM HO140.out (fun _ hk => hk.2))), aM (rq (rM HO143.out (fun _ hk => hk.2))), ⟨bq⟩⟩
       case round =>
        clear H'
        try clear c1
        try clear p1
        try clear q1
        try clear hx1
        try clear c2
        try clear c2b0
        try clear c2b1
        try clear p2
        try clear p6
        try clear c9
        try clear c9b0
        try clear c10
        try clear c10b0
        try clear c11
        try clear c11b0
        try clear c12
        try clear p13
        try clear q13
        try clear hx13
        try clear c14
        try clear c14b0
        try clear c15
        try clear c15b0
        try clear c16
        try clear c26
        try clear c26b0
        try clear c26b1
        try clear hx130_0
        try clear hx134_0
        try clear p130
        try clear p134
        try clear p2
        try clear q130
        try clear q134
        obtain ⟨x8_2, x9_2, rfl, HA, HK2, HO_7, HO_8, HB⟩ := hrel
        cases gk with
        | zero => exact absurd HA.out (by simp [spec_l8Gather.l1])
        | succ k2 =>
         have H := HA.out
         clear HA
         simp only [spec_l8Gather.l1] at H
         by_cases c27 : x9_2 < (wrap64 (Int.tdiv (l0.length : Int) 4))
         ·rw [if_pos c27] at H
          have c27b0 : decide (x9_2 < (wrap64 (Int.tdiv (l0.length : Int) 4))) = true := decide_eq_true c27
          have c27b0t : decide (x9_2 < (wrap64 ((l0.length : Int) / 4))) = true := by have h_ := c27b0; rw [Int.tdiv_eq_ediv_of_nonneg (Int.natCast_nonneg _)] at h_; exact h_
          clear c27
          by_cases c28 : 0 ≤ x9_2
          ·rw [if_pos c28] at H
           have c28b0 : decide (0 ≤ x9_2) = true := decide_eq_true c28
           clear c28
           by_cases c29 : x9_2 < (x8_2.length : Int)
           ·rw [if_pos c29] at H
            have c29b0 : decide (x9_2 < (x8_2.length : Int)) = true := decide_eq_true c29
            clear c29
            obtain ⟨ji30, hji30⟩ : ∃ j_ : Int, (wrap64 ((wrap64 ((wrap64 (Int.tdiv (l0.length : Int) 2)) - 1)) - x9_2)) = j_ := ⟨_, rfl⟩
            have hji30t : (wrap64 ((wrap64 ((wrap64 ((l0.length : Int) / 2)) - 1)) - x9_2)) = ji30 := by have h_ := hji30; rw [Int.tdiv_eq_ediv_of_nonneg (Int.natCast_nonneg _)] at h_; exact h_
            replace H : (if 0 ≤ (ji30) then (if (ji30) < (x8_2.length : Int) then ((spec_l8Turn.f (l0.length : Int) x9_2 (rd x8_2 x9_2) (rd x8_2 (ji30))).bind fun bt146 => (spec_l8Gather.l1 k2 (l0.length : Int) t138 ((x8_2.set (x9_2 : Int).toNat bt146.1).set ((ji30) : Int).toNat bt146.2) (wrap64 (x9_2 + 1)))) else (none)) else (none)) = some r := by first | (rw [hji30] at H; exact H) | (simp only [hji30] at H ⊢; exact H)
            have hji30w : (IntKind.i64.wrap ((wrap64 ((wrap64 (Int.tdiv (l0.length : Int) 2)) - 1)) - x9_2)) = ji30 := (i64_w _).trans hji30
            have hji30wt : (IntKind.i64.wrap ((wrap64 ((wrap64 ((l0.length : Int) / 2)) - 1)) - x9_2)) = ji30 := by have h_ := hji30w; rw [Int.tdiv_eq_ediv_of_nonneg (Int.natCast_nonneg _)] at h_; exact h_
            by_cases c31 : 0 ≤ (ji30)
            ·rw [if_pos c31] at H
             have c31b0 : decide (0 ≤ (ji30)) = true := decide_eq_true c31
             clear c31
             by_cases c32 : (ji30) < (x8_2.length : Int)
             ·rw [if_pos c32] at H
              have c32b0 : decide ((ji30) < (x8_2.length : Int)) = true := decide_eq_true c32
              clear c32
              replace H := Option.bind_eq_some_iff.mp H
              obtain ⟨⟨t146, t147⟩, A330, H⟩ := H
              replace H : (spec_l8Gather.l1 k2 (l0.length : Int) t138 ((x8_2.set (x9_2 : Int).toNat t146).set ((ji30) : Int).toNat t147) (wrap64 (x9_2 + 1))) = some r := H
              have A33 := aM A330
              clear A330
              obtain ⟨y148, hy148⟩ : ∃ y_ : List Int, y_ = (x8_2.set (x9_2 : Int).toNat t146) := ⟨_, rfl⟩
              replace H : (spec_l8Gather.l1 k2 (l0.length : Int) t138 (y148.set ((ji30) : Int).toNat t147) (wrap64 (x9_2 + 1))) = some r := by first | (rw [hy148]; with_reducible exact H) | (have H2_ := (Option.bind_some _ _).symm.trans H; rw [hy148]; with_reducible exact H2_) | (have H2_ := (Option.bind_some _ _).symm.trans H; with_reducible exact H2_) | with_reducible exact H | (rw [hy148]; exact H) | exact H
              have Ny148 := aM hy148
              clear hy148
              obtain ⟨y149, hy149⟩ : ∃ y_ : List Int, y_ = (y148.set ((ji30) : Int).toNat t147) := ⟨_, rfl⟩
              replace H : (spec_l8Gather.l1 k2 (l0.length : Int) t138 y149 (wrap64 (x9_2 + 1))) = some r := by first | (rw [hy149]; with_reducible exact H) | (have H2_ := (Option.bind_some _ _).symm.trans H; rw [hy149]; with_reducible exact H2_) | (have H2_ := (Option.bind_some _ _).symm.trans H; with_reducible exact H2_) | with_reducible exact H | (rw [hy149]; exact H) | exact H
              have Ny149 := aM hy149
              clear hy149
              have H' := aM H
              clear H
              try go_wp2
              replace HO_7 := aM (rD HO_7.out)
              replace HO_8 := aM (rD HO_8.out)
              replace HB := aM (bD HB.out)
              obtain ⟨Ao37, co37, eo37⟩ := Kd.R_slice HO_8.out
              (first | subst eo37 | (injection eo37 with f1_ f2_ f3_; have f4_ := f1_.symm; have f5_ := f3_.symm; clear f1_ f2_ f3_; subst f4_; subst f5_))
              have p144 : 0 ≤ (x9_2 : Int) := of_decide_eq_true (by first | (with_reducible assumption) | assumption)
              have q144 : x9_2 < (x8_2.length : Int) := of_decide_eq_true (by first | (with_reducible assumption) | assumption)
              obtain ⟨ad144, e144, hx144_0⟩ := Kd.at_int (rR HO_8.out).2.2 x9_2 p144 q144
              cases e144
              replace p144 := eq_true p144
              replace q144 := eq_true q144
              have p145 : 0 ≤ ((ji30) : Int) := of_decide_eq_true (by first | (with_reducible assumption) | assumption)
              have q145 : (ji30) < (x8_2.length : Int) := of_decide_eq_true (by first | (with_reducible assumption) | assumption)
              obtain ⟨ad145, e145, hx145_0⟩ := Kd.at_int (rR HO_8.out).2.2 (ji30) p145 q145
              obtain rfl : ad144 = ad145 := (by injection e145)
              replace p145 := eq_true p145
              replace q145 := eq_true q145
              refine start_ (n := 20) (S := fun w' => w'.cell? (ad144.add (x9_2).toNat) = some (.int .i64 (rd x8_2 x9_2)) ∧ w'.cell? (ad144.add ((ji30)).toNat) = some (.int .i64 (rd x8_2 (ji30)))) (ds := []) #[N,N,N,N,N,N,N,N,N,N,N,N,N,N,N,N,N,N,N,N] kr rfl rfl ⟨hx144_0, hx145_0⟩ (fun hHeld => ?_); refine with_tabW spec_l8Gather.tab17 spec_l8Gather.bits17 (fun HT_ HW_ => ?_)
              generalize wr.drew = w36 at HO_7 HO_8 HB hx144_0 hx145_0 hHeld ⊢
              refine pp HT_ (N := some 57) 0 #[Y,N,N,N,N,N,N,N,N,N,N,N,N,N,N,N,N,N,N,N] ?_
              refine pp HT_ (N := some 58) 1 #[Y,Y,N,N,N,N,N,N,N,N,N,N,N,N,N,N,N,N,N,N] ?_
              refine pp HT_ (N := some 59) 2 #[Y,Y,Y,N,N,N,N,N,N,N,N,N,N,N,N,N,N,N,N,N] ?_
              refine pp HT_ (N := some 60) 3 #[Y,Y,Y,Y,N,N,N,N,N,N,N,N,N,N,N,N,N,N,N,N] ?_
              refine pp HT_ (N := some 61) 4 #[Y,Y,Y,Y,Y,N,N,N,N,N,N,N,N,N,N,N,N,N,N,N] ?_
              refine pp HT_ (N := some 63) 6 #[Y,Y,Y,Y,Y,N,Y,N,N,N,N,N,N,N,N,N,N,N,N,N] ?_
              refine pp HT_ (N := some 64) 7 #[Y,Y,Y,Y,Y,N,Y,Y,N,N,N,N,N,N,N,N,N,N,N,N] ?_
              refine pp HT_ (N := some 65) 8 #[Y,Y,Y,Y,Y,N,Y,Y,Y,N,N,N,N,N,N,N,N,N,N,N] ?_
              refine pp HT_ (N := some 66) 9 #[Y,Y,Y,Y,Y,N,Y,Y,Y,Y,N,N,N,N,N,N,N,N,N,N] ?_
              refine pp HT_ (N := some 67) 10 #[Y,Y,Y,Y,Y,N,Y,Y,Y,Y,Y,N,N,N,N,N,N,N,N,N] ?_
              refine pp HT_ (N := some 68) 11 #[Y,Y,Y,Y,Y,N,Y,Y,Y,Y,Y,Y,N,N,N,N,N,N,N,N] ?_
              refine pp HT_ (N := some 69) 12 #[Y,Y,Y,Y,Y,N,Y,Y,Y,Y,Y,Y,Y,N,N,N,N,N,N,N] ?_
              refine take_ (i := 5) (N := some 62) (v := ?_) (a' := ?_) #[Y,Y,Y,Y,Y,Y,Y,Y,Y,Y,Y,Y,Y,N,N,N,N,N,N,N] rfl rfl (take_ofW HT_.out HW_.out kr) (fun _ _ _ h => h) (Or.inl ⟨by rfl, ?_⟩) hHeld ?_ ?_
              rotate_left
              ·rintro w' ⟨s0, s1⟩
               go_simp
               with_reducible rfl
              rotate_left
              ·simp only [Act.put, pa, pb, pc, i64_w, i32_w]
               rfl
              refine take_ (i := 13) (N := some 70) (v := ?_) (a' := ?_) #[Y,Y,Y,Y,Y,Y,Y,Y,Y,Y,Y,Y,Y,Y,N,N,N,N,N,N] rfl rfl (take_ofW HT_.out HW_.out kr) (fun _ _ _ h => h) (Or.inl ⟨by rfl, ?_⟩) hHeld ?_ ?_
              rotate_left
              ·rintro w' ⟨s0, s1⟩
               go_simp
               with_reducible rfl
              rotate_left
              ·simp only [Act.put, pa, pb, pc, i64_w, i32_w]
               rfl
              refine one_ (i := 14) (N := some 71) #[Y,Y,Y,Y,Y,Y,Y,Y,Y,Y,Y,Y,Y,Y,Y,N,N,N,N,N] rfl rfl (one_of HT_.out kr) (by decide) (fun K hK => ?_)
              refine goes_ Try.func135 kr rfl #[.int .i64 (l0.length : Int), .int .i64 x9_2, .int .i64 (rd x8_2 x9_2), .int .i64 (rd x8_2 (ji30))] (by rfl) rfl rfl (by (try simp only [List.map_toArray, List.map_cons, List.map_nil]); first | done | (simp only [hji30]; rfl) | rfl | (simp only [List.length_drop, List.length_take]; rfl)) ?_
              with_reducible refine (spec_l8Turn.calls (l0.length : Int) x9_2 (rd x8_2 x9_2) (rd x8_2 (ji30)) t146 t147 _ A33.out).mono ?_
              rintro e w38 ⟨rfl, hb⟩
              have HS0_ := (hb.cell (World.block_lt_of_cell? _ _ (hHeld.1))).trans (hHeld.1)
              have HS1_ := (hb.cell (World.block_lt_of_cell? _ _ (hHeld.2))).trans (hHeld.2)
              refine ⟨_, rfl, ?_⟩
              replace HO_7 := aM (rL (rq HO_7.out) hb)
              replace HO_8 := aM (rL (rq HO_8.out) hb)
              replace HB := aM (bT bq hb)
              (try clear hb)
              (try clear hb2)
              (try clear hk)
              (try clear hi)
              refine hK.out _ _ ⟨HS0_, HS1_⟩ (fun hHeld => ?_)
              clear hK K
              refine norm_ (a' := ?_) ?_ ?_
              rotate_left
              ·show Act.put _ (some 71) _ = _
               simp only [Act.put, pa, pb, pc, i64_w, i32_w]
               rfl
              refine pp HT_ (N := some 56) 15 #[Y,Y,Y,Y,Y,Y,Y,Y,Y,Y,Y,Y,Y,Y,Y,Y,N,N,N,N] ?_
              refine pp HT_ (N := some 72) 16 #[Y,Y,Y,Y,Y,Y,Y,Y,Y,Y,Y,Y,Y,Y,Y,Y,Y,N,N,N] ?_
              refine pp HT_ (N := some 73) 17 #[Y,Y,Y,Y,Y,Y,Y,Y,Y,Y,Y,Y,Y,Y,Y,Y,Y,Y,N,N] ?_
              refine pp HT_ (N := some 10) 18 #[Y,Y,Y,Y,Y,Y,Y,Y,Y,Y,Y,Y,Y,Y,Y,Y,Y,Y,Y,N] ?_
              refine pp HT_ (N := some 11) 19 #[Y,Y,Y,Y,Y,Y,Y,Y,Y,Y,Y,Y,Y,Y,Y,Y,Y,Y,Y,Y] ?_
              refine done_ (done_of HT_.out kr) ?_
              have p34 : 0 ≤ (x9_2 : Int) := of_decide_eq_true (by first | (with_reducible assumption) | assumption)
              have q34 : (x9_2 : Int) < ((x8_2.length : Int) : Int) := of_decide_eq_true (by first | (with_reducible assumption) | assumption)
              obtain ⟨go34, co34, eo34, gb34, gl34, cl34, HG34⟩ := Kd.R_form HO_8.out (by omega)
              (first | cases eo34 | (injection eo34 with ea_ en_ ec_; (first | subst ea_ | (injection ea_ with ea_; subst ea_)); subst ec_; clear en_))
              have GB34 := aM gb34
              have GG34 := aM HG34
              clear gb34 gl34 HG34
              (first | simp only [add_plain] at hx144_0 | skip)
              (first | simp only [add_plain] at hx145_0 | skip)
              obtain ⟨hx34_0, hf34_0⟩ := Kd.R_celln 0 HO_8.out (x9_2 : Int) p34 q34
              replace p34 := eq_true p34
              replace q34 := eq_true q34
              obtain ⟨hy39_, hz39_⟩ := Kd.R_celln 0 HO_8.out (x9_2 : Int) (of_decide_eq_true (by first | (with_reducible assumption) | assumption)) (of_decide_eq_true (by first | (with_reducible assumption) | assumption))
              have HP39 := Kd.R_putg HO_8.out (x9_2 : Int) t146
              try go_wp2_with (first | ((with_reducible refine gate_store (t := 2) (p := 77) rfl ?_); refine store_event (t := 2) (p := 77) (v := ?vo_w40) (w1 := (w38.setCell ⟨go34, (x9_2 : Int).toNat, none⟩ (.int .i64 t146))) ?hg ?ho ?hn ?hr ?_; (case ho => rfl); (case hg => rfl); (case hn => rfl); (case hr => first | (go_simp; done) | (go_simp; rfl)); intro w40 hw; have hg : w38.grownBy w40 (some go34) := (by rw [hw]; exact HP39.2); have hp_ : Kd.R (Kd.int .i64) 2 w40 w.heap.size (fun k_ => nb v139 k_) (.slice (some ⟨go34, 0, none⟩) x8_2.length co37) y148 := (by rw [hw, Ny148.out]; exact HP39.1); clear HP39; replace HO_7 := aM (Kd.R_after (v := (.slice (some ⟨go34, 0, none⟩) x8_2.length co37)) (v1 := (.slice (some ⟨go34, 0, none⟩) x8_2.length co37)) (ok := (fun _ => True)) (rq (rM HO_7.out (fun _ hk => ⟨trivial, hk⟩))) hg (.inl rfl)); replace HO_8 := aM (hp_); replace HB := aM ((by rw [hw]; exact bS (HB.out) GB34.out : Below w.heap.size w w40)); clear hg hw hp_; have p35 : 0 ≤ ((ji30) : Int) := of_decide_eq_true (by first | (with_reducible assumption) | assumption); have q35 : ((ji30) : Int) < ((x8_2.length : Int) : Int) := of_decide_eq_true (by first | (with_reducible assumption) | assumption); obtain ⟨hx35_0, hf35_0⟩ := Kd.R_celln 0 HO_8.out ((ji30) : Int) p35 q35; replace p35 := eq_true p35; replace q35 := eq_true q35; obtain ⟨hy41_, hz41_⟩ := Kd.R_celln 0 HO_8.out ((ji30) : Int) (of_decide_eq_true (by first | (with_reducible assumption) | assumption)) (of_decide_eq_true (by first | (with_reducible assumption) | assumption)); have HP41 := Kd.R_putg HO_8.out ((ji30) : Int) t147) | ((with_reducible refine gate_store (t := 2) (p := 85) rfl ?_); refine store_event (t := 2) (p := 85) (v := ?vo_w42) (w1 := (w40.setCell ⟨go34, ((ji30) : Int).toNat, none⟩ (.int .i64 t147))) ?hg ?ho ?hn ?hr ?_; (case ho => rfl); (case hg => rfl); (case hn => rfl); (case hr => first | (go_simp; done) | (go_simp; rfl)); intro w42 hw; have hg : w40.grownBy w42 (some go34) := (by rw [hw]; exact HP41.2); have hp_ : Kd.R (Kd.int .i64) 2 w42 w.heap.size (fun k_ => nb v139 k_) (.slice (some ⟨go34, 0, none⟩) x8_2.length co37) y149 := (by rw [hw, Ny149.out]; exact HP41.1); clear HP41; replace HO_7 := aM (Kd.R_after (v := (.slice (some ⟨go34, 0, none⟩) x8_2.length co37)) (v1 := (.slice (some ⟨go34, 0, none⟩) x8_2.length co37)) (ok := (fun _ => True)) (rq HO_7.out) hg (.inl rfl)); replace HO_8 := aM (hp_); replace HB := aM ((by rw [hw]; exact bS (HB.out) GB34.out : Below w.heap.size w w42)); clear hg hw hp_))
              go_roundg k2
              case measure => have := HK1.out; have := HK2.out; omega
              case rel => exact ⟨(y149), (wrap64 (x9_2 + 1)), (ex), H', ⟨by have := HK1.out; have := HK2.out; omega⟩, aM (rq (rM HO_7.out (fun _ hk => hk.2))), aM (rq HO_8.out), ⟨bq⟩⟩
             ·rw [if_neg c32] at H
              exact absurd H (by simp)
            ·rw [if_neg c31] at H
             exact absurd H (by simp)
           ·rw [if_neg c29] at H
            exact absurd H (by simp)
          ·rw [if_neg c28] at H
           exact absurd H (by simp)
         ·rw [if_neg c27] at H
          have c27b0 : decide (x9_2 < (wrap64 (Int.tdiv (l0.length : Int) 4))) = false := decide_eq_false c27
          have c27b0t : decide (x9_2 < (wrap64 ((l0.length : Int) / 4))) = false := by have h_ := c27b0; rw [Int.tdiv_eq_ediv_of_nonneg (Int.natCast_nonneg _)] at h_; exact h_
          clear c27
          have H' := aM H
          clear H
          go_wp2
          go_meet
          case rel => exact ⟨_, (x8_2), H', ⟨by have := HK1.out; have := HK2.out; first | omega | exact Nat.le_refl _⟩, aM (rq HO_7.out), aM (rq HO_8.out), ⟨bq⟩⟩
      ·rw [if_neg c26] at H
       have c26b0 : decide (2 < (l0.length : Int)) = false := decide_eq_false c26
       have c26b1 : decide (2 < l0.length) = false := decide_eq_false (by omega)
       clear c26
       (first | rw [c26b0] | (simp only [i64_w, i32_w]; rw [c26b0]) | skip)
       have H' := aM H
       clear H
       go_wp2
       go_meet
       case rel => exact ⟨_, (t141), H', ⟨by have := HK1.out; first | omega | exact Nat.le_refl _⟩, aM (rq (rM HO140.out (fun _ hk => hk.2))), aM (rq (rM HO143.out (fun _ hk => hk.2))), ⟨bq⟩⟩
     case rest =>
      clear HC21
      try clear c1
      try clear p1
      try clear q1
      try clear hx1
      try clear c2
      try clear c2b0
      try clear c2b1
      try clear p2
      try clear c3
      try clear p3
      try clear q3
      try clear hx3
      try clear hf3
      try clear p6
      try clear c9
      try clear c9b0
      try clear c10
      try clear c10b0
      try clear c11
      try clear c11b0
      try clear c12
      try clear c13
      try clear p13
      try clear q13
      try clear hx13
      try clear c14
      try clear c14b0
      try clear p14
      try clear q14
      try clear hx14
      try clear c15
      try clear c15b0
      try clear c16
      try clear c26
      try clear c26b0
      try clear c26b1
      try clear c27
      try clear c27b0
      try clear c28
      try clear c28b0
      try clear c29
      try clear c29b0
      try clear c31
      try clear c31b0
      try clear c32
      try clear c32b0
      try clear p34
      try clear q34
      try clear hx34
      try clear hf34
      try clear p35
      try clear q35
      try clear hx35
      try clear hf35
      try clear hx130_0
      try clear hx134_0
      try clear hx144_0
      try clear hx145_0
      try clear hx34_0
      try clear hx35_0
      try clear p1
      try clear p13
      try clear p130
      try clear p134
      try clear p144
      try clear p145
      try clear p2
      try clear p34
      try clear p35
      try clear p6
      try clear q1
      try clear q13
      try clear q130
      try clear q134
      try clear q144
      try clear q145
      try clear q34
      try clear q35
      obtain ⟨kq, x8_20, HA, HJ20, HO_7, HO_8, HB⟩ := hcut
      cases kq with
      | zero => exact absurd HA.out (by simp [spec_l8Gather.j2])
      | succ kj20 =>
       have H := HA.out
       clear HA
       simp only [spec_l8Gather.j2] at H
       replace H := Option.bind_eq_some_iff.mp H
       obtain ⟨t150, A430, H⟩ := H
       replace H : (spec_l8Gather.l2 kj20 (l0.length : Int) t138 x8_20 t150 0) = some r := H
       have A43 := aM A430
       clear A430
       have H' := aM H
       clear H
       go_wp2_with (first | ((with_reducible refine gate_callee (f := 136) rfl ?_); refine goesL_ (some 87) rfl rfl Try.func136 kr rfl #[.int .i64 (l0.length : Int)] rfl mq ?_; (with_reducible refine (spec_l1Zeros.calls (l0.length : Int) t150 _ A43.out).mono ?_); rintro e w44 ⟨v151, rfl, ho0, hb⟩; refine ⟨_, rfl, ?_⟩; have HO152 := aM (rG (rW (rW ho0 (rT (rq HO_7.out))) (rT (rq HO_8.out))) (bZ bq)); replace HO_7 := aM (rH (rq HO_7.out) (rB ho0) hb); replace HO_8 := aM (rH (rq HO_8.out) (rB ho0) hb); replace HB := aM (bT bq hb); (try clear hb); (try clear ho0)))
       go_loopg [13] kj20 (fun kq v13 w' => ∃ (x12_3 : List Int) (x13_3 : Int), v13 = .int .i64 x13_3 ∧ Aside0 (spec_l8Gather.l2 kq (l0.length : Int) t138 x8_20 x12_3 x13_3 = some r) ∧ Aside0 (kq ≤ kj20) ∧ Aside0 (Kd.R (Kd.int .i64) 2 w' w.heap.size (fun k_ => nb v142 k_ ∧ nb v151 k_) v139 t138) ∧ Aside0 (Kd.R (Kd.int .i64) 2 w' w.heap.size (fun k_ => nb v139 k_ ∧ nb v151 k_) v142 x8_20) ∧ Aside0 (Kd.R (Kd.int .i64) 2 w' w.heap.size (fun k_ => nb v139 k_ ∧ nb v142 k_) v151 x12_3) ∧ Aside0 (Below w.heap.size w w'))
       case atStart => exact ⟨(t150), (0), (ex), H', ⟨Nat.le_refl _⟩, aM (rq HO_7.out), aM (rq HO_8.out), aM (rq (rM HO152.out jq)), ⟨bq⟩⟩
       case round =>
        clear H'
        try clear c1
        try clear p1
        try clear q1
        try clear hx1
        try clear c2
        try clear c2b0
        try clear c2b1
        try clear p2
        try clear c3
        try clear p3
        try clear q3
        try clear hx3
        try clear hf3
        try clear p6
        try clear c9
        try clear c9b0
        try clear c10
        try clear c10b0
        try clear c11
        try clear c11b0
        try clear c12
        try clear c13
        try clear p13
        try clear q13
        try clear hx13
        try clear c14
        try clear c14b0
        try clear p14
        try clear q14
        try clear hx14
        try clear c15
        try clear c15b0
        try clear c16
        try clear c26
        try clear c26b0
        try clear c26b1
        try clear c27
        try clear c27b0
        try clear c28
        try clear c28b0
        try clear c29
        try clear c29b0
        try clear c31
        try clear c31b0
        try clear c32
        try clear c32b0
        try clear p34
        try clear q34
        try clear hx34
        try clear hf34
        try clear p35
        try clear q35
        try clear hx35
        try clear hf35
        try clear hx130_0
        try clear hx134_0
        try clear hx144_0
        try clear hx145_0
        try clear hx34_0
        try clear hx35_0
        try clear p1
        try clear p13
        try clear p130
        try clear p134
        try clear p14
        try clear p144
        try clear p145
        try clear p2
        try clear p3
        try clear p34
        try clear p35
        try clear p6
        try clear q1
        try clear q13
        try clear q130
        try clear q134
        try clear q14
        try clear q144
        try clear q145
        try clear q3
        try clear q34
        try clear q35
        obtain ⟨x12_3, x13_3, rfl, HA, HK3, HO_7, HO_8, HO_12, HB⟩ := hrel
        cases gk with
        | zero => exact absurd HA.out (by simp [spec_l8Gather.l2])
        | succ k3 =>
         have H := HA.out
         clear HA
         simp only [spec_l8Gather.l2] at H
         by_cases c45 : x13_3 < (wrap64 (Int.tdiv (l0.length : Int) 2))
         ·rw [if_pos c45] at H
          have c45b0 : decide (x13_3 < (wrap64 (Int.tdiv (l0.length : Int) 2))) = true := decide_eq_true c45
          have c45b0t : decide (x13_3 < (wrap64 ((l0.length : Int) / 2))) = true := by have h_ := c45b0; rw [Int.tdiv_eq_ediv_of_nonneg (Int.natCast_nonneg _)] at h_; exact h_
          clear c45
          by_cases c46 : 0 ≤ x13_3
          ·rw [if_pos c46] at H
           have c46b0 : decide (0 ≤ x13_3) = true := decide_eq_true c46
           clear c46
           by_cases c47 : x13_3 < (t138.length : Int)
           ·rw [if_pos c47] at H
            have c47b0 : decide (x13_3 < (t138.length : Int)) = true := decide_eq_true c47
            clear c47
            by_cases c48 : x13_3 < (x8_20.length : Int)
            ·rw [if_pos c48] at H
             have c48b0 : decide (x13_3 < (x8_20.length : Int)) = true := decide_eq_true c48
             clear c48
             replace H := Option.bind_eq_some_iff.mp H
             obtain ⟨t155, A490, H⟩ := H
             replace H : (if x13_3 < (x12_3.length : Int) then (if 0 ≤ (wrap64 ((wrap64 ((l0.length : Int) - 1)) - x13_3)) then (if (wrap64 ((wrap64 ((l0.length : Int) - 1)) - x13_3)) < (x12_3.length : Int) then (spec_l8Gather.l2 k3 (l0.length : Int) t138 x8_20 ((x12_3.set (x13_3 : Int).toNat (wrap64 ((rd t138 x13_3) + t155))).set ((wrap64 ((wrap64 ((l0.length : Int) - 1)) - x13_3)) : Int).toNat (wrap64 ((rd t138 x13_3) + t155))) (wrap64 (x13_3 + 1))) else (none)) else (none)) else (none)) = some r := H
             have A49 := aM A490
             clear A490
             by_cases c50 : x13_3 < (x12_3.length : Int)
             ·rw [if_pos c50] at H
              have c50b0 : decide (x13_3 < (x12_3.length : Int)) = true := decide_eq_true c50
              clear c50
              obtain ⟨y156, hy156⟩ : ∃ y_ : List Int, y_ = (x12_3.set (x13_3 : Int).toNat (wrap64 ((rd t138 x13_3) + t155))) := ⟨_, rfl⟩
              replace H : (if 0 ≤ (wrap64 ((wrap64 ((l0.length : Int) - 1)) - x13_3)) then (if (wrap64 ((wrap64 ((l0.length : Int) - 1)) - x13_3)) < (x12_3.length : Int) then (spec_l8Gather.l2 k3 (l0.length : Int) t138 x8_20 (y156.set ((wrap64 ((wrap64 ((l0.length : Int) - 1)) - x13_3)) : Int).toNat (wrap64 ((rd t138 x13_3) + t155))) (wrap64 (x13_3 + 1))) else (none)) else (none)) = some r := by first | (rw [hy156]; with_reducible exact H) | (have H2_ := (Option.bind_some _ _).symm.trans H; rw [hy156]; with_reducible exact H2_) | (have H2_ := (Option.bind_some _ _).symm.trans H; with_reducible exact H2_) | with_reducible exact H | (rw [hy156]; exact H) | exact H
              have Ny156 := aM hy156
              clear hy156
              obtain ⟨ji52, hji52⟩ : ∃ j_ : Int, (wrap64 ((wrap64 ((l0.length : Int) - 1)) - x13_3)) = j_ := ⟨_, rfl⟩
              replace H : (if 0 ≤ (ji52) then (if (ji52) < (x12_3.length : Int) then (spec_l8Gather.l2 k3 (l0.length : Int) t138 x8_20 (y156.set ((ji52) : Int).toNat (wrap64 ((rd t138 x13_3) + t155))) (wrap64 (x13_3 + 1))) else (none)) else (none)) = some r := by first | (rw [hji52] at H; exact H) | (simp only [hji52] at H ⊢; exact H)
              (try rw [hji52] at A49)
              have hji52w : (IntKind.i64.wrap ((wrap64 ((l0.length : Int) - 1)) - x13_3)) = ji52 := (i64_w _).trans hji52
              by_cases c53 : 0 ≤ (ji52)
              ·rw [if_pos c53] at H
               have c53b0 : decide (0 ≤ (ji52)) = true := decide_eq_true c53
               clear c53
               by_cases c54 : (ji52) < (x12_3.length : Int)
               ·rw [if_pos c54] at H
                have c54b0 : decide ((ji52) < (x12_3.length : Int)) = true := decide_eq_true c54
                clear c54
                obtain ⟨y157, hy157⟩ : ∃ y_ : List Int, y_ = (y156.set ((ji52) : Int).toNat (wrap64 ((rd t138 x13_3) + t155))) := ⟨_, rfl⟩
                replace H : (spec_l8Gather.l2 k3 (l0.length : Int) t138 x8_20 y157 (wrap64 (x13_3 + 1))) = some r := by first | (rw [hy157]; with_reducible exact H) | (have H2_ := (Option.bind_some _ _).symm.trans H; rw [hy157]; with_reducible exact H2_) | (have H2_ := (Option.bind_some _ _).symm.trans H; with_reducible exact H2_) | with_reducible exact H | (rw [hy157]; exact H) | exact H
                have Ny157 := aM hy157
                clear hy157
                have H' := aM H
                clear H
                try go_wp2
                replace HO_7 := aM (rD HO_7.out)
                replace HO_8 := aM (rD HO_8.out)
                replace HO_12 := aM (rD HO_12.out)
                replace HB := aM (bD HB.out)
                obtain ⟨Ao57, co57, eo57⟩ := Kd.R_slice HO_7.out
                (first | subst eo57 | (injection eo57 with f1_ f2_ f3_; have f4_ := f1_.symm; have f5_ := f3_.symm; clear f1_ f2_ f3_; subst f4_; subst f5_))
                have p153 : 0 ≤ (x13_3 : Int) := of_decide_eq_true (by first | (with_reducible assumption) | assumption)
                have q153 : x13_3 < (t138.length : Int) := of_decide_eq_true (by first | (with_reducible assumption) | assumption)
                obtain ⟨ad153, e153, hx153_0⟩ := Kd.at_int (rR HO_7.out).2.2 x13_3 p153 q153
                cases e153
                replace p153 := eq_true p153
                replace q153 := eq_true q153
                obtain ⟨Ao58, co58, eo58⟩ := Kd.R_slice HO_8.out
                (first | subst eo58 | (injection eo58 with f1_ f2_ f3_; have f4_ := f1_.symm; have f5_ := f3_.symm; clear f1_ f2_ f3_; subst f4_; subst f5_))
                have p154 : 0 ≤ (x13_3 : Int) := of_decide_eq_true (by first | (with_reducible assumption) | assumption)
                have q154 : x13_3 < (x8_20.length : Int) := of_decide_eq_true (by first | (with_reducible assumption) | assumption)
                obtain ⟨ad154, e154, hx154_0⟩ := Kd.at_int (rR HO_8.out).2.2 x13_3 p154 q154
                cases e154
                replace p154 := eq_true p154
                replace q154 := eq_true q154
                refine start_ (n := 11) (S := fun w' => w'.cell? (ad153.add (x13_3).toNat) = some (.int .i64 (rd t138 x13_3)) ∧ w'.cell? (ad154.add (x13_3).toNat) = some (.int .i64 (rd x8_20 x13_3))) (ds := []) #[N,N,N,N,N,N,N,N,N,N,N] kr rfl rfl ⟨hx153_0, hx154_0⟩ (fun hHeld => ?_); refine with_tabW spec_l8Gather.tab24 spec_l8Gather.bits24 (fun HT_ HW_ => ?_)
                generalize wr.drew = w56 at HO_7 HO_8 HO_12 HB hx153_0 hx154_0 hHeld ⊢
                refine pp HT_ (N := some 94) 0 #[Y,N,N,N,N,N,N,N,N,N,N] ?_
                refine pp HT_ (N := some 95) 1 #[Y,Y,N,N,N,N,N,N,N,N,N] ?_
                refine pp HT_ (N := some 96) 2 #[Y,Y,Y,N,N,N,N,N,N,N,N] ?_
                refine pp HT_ (N := some 98) 4 #[Y,Y,Y,N,Y,N,N,N,N,N,N] ?_
                refine pp HT_ (N := some 99) 5 #[Y,Y,Y,N,Y,Y,N,N,N,N,N] ?_
                refine pp HT_ (N := some 100) 6 #[Y,Y,Y,N,Y,Y,Y,N,N,N,N] ?_
                refine take_ (i := 3) (N := some 97) (v := ?_) (a' := ?_) #[Y,Y,Y,Y,Y,Y,Y,N,N,N,N] rfl rfl (take_ofW HT_.out HW_.out kr) (fun _ _ _ h => h) (Or.inl ⟨by rfl, ?_⟩) hHeld ?_ ?_
                rotate_left
                ·rintro w' ⟨s0, s1⟩
                 go_simp
                 with_reducible rfl
                rotate_left
                ·simp only [Act.put, pa, pb, pc, i64_w, i32_w]
                 rfl
                refine take_ (i := 7) (N := some 101) (v := ?_) (a' := ?_) #[Y,Y,Y,Y,Y,Y,Y,Y,N,N,N] rfl rfl (take_ofW HT_.out HW_.out kr) (fun _ _ _ h => h) (Or.inl ⟨by rfl, ?_⟩) hHeld ?_ ?_
                rotate_left
                ·rintro w' ⟨s0, s1⟩
                 go_simp
                 with_reducible rfl
                rotate_left
                ·simp only [Act.put, pa, pb, pc, i64_w, i32_w]
                 rfl
                refine one_ (i := 8) (N := some 102) #[Y,Y,Y,Y,Y,Y,Y,Y,Y,N,N] rfl rfl (one_of HT_.out kr) (by decide) (fun K hK => ?_)
                refine goes_ Try.func137 kr rfl #[.int .i64 (rd x8_20 x13_3), .int .i64 2] (by rfl) rfl rfl mq ?_
                with_reducible refine (spec_l1Ceil.calls (rd x8_20 x13_3) 2 t155 _ A49.out).mono ?_
                rintro e w59 ⟨rfl, hdr_⟩; have hb := Drawn0.below hdr_
                have HS0_ := (hb.cell (World.block_lt_of_cell? _ _ (hHeld.1))).trans (hHeld.1)
                have HS1_ := (hb.cell (World.block_lt_of_cell? _ _ (hHeld.2))).trans (hHeld.2)
                refine ⟨_, rfl, ?_⟩
                replace HO_7 := aM (rL (rq HO_7.out) hb)
                replace HO_8 := aM (rL (rq HO_8.out) hb)
                replace HO_12 := aM (rL (rq HO_12.out) hb)
                replace HB := aM (bT bq hb)
                (try clear hb)
                (try clear hb2)
                (try clear hk)
                (try clear hi)
                refine hK.out _ _ ⟨HS0_, HS1_⟩ (fun hHeld => ?_)
                clear hK K
                refine norm_ (a' := ?_) ?_ ?_
                rotate_left
                ·show Act.put _ (some 102) _ = _
                 simp only [Act.put, pa, pb, pc, i64_w, i32_w]
                 rfl
                refine pp HT_ (N := some 103) 9 #[Y,Y,Y,Y,Y,Y,Y,Y,Y,Y,N] ?_
                refine pp HT_ (N := some 14) 10 #[Y,Y,Y,Y,Y,Y,Y,Y,Y,Y,Y] ?_
                refine done_ (done_of HT_.out kr) ?_
                have p51 : 0 ≤ (x13_3 : Int) := of_decide_eq_true (by first | (with_reducible assumption) | assumption)
                have q51 : (x13_3 : Int) < ((x12_3.length : Int) : Int) := of_decide_eq_true (by first | (with_reducible assumption) | assumption)
                obtain ⟨go51, co51, eo51, gb51, gl51, cl51, HG51⟩ := Kd.R_form HO_12.out (by omega)
                (first | cases eo51 | (injection eo51 with ea_ en_ ec_; (first | subst ea_ | (injection ea_ with ea_; subst ea_)); subst ec_; clear en_))
                have GB51 := aM gb51
                have GG51 := aM HG51
                clear gb51 gl51 HG51
                obtain ⟨hx51_0, hf51_0⟩ := Kd.R_celln 0 HO_12.out (x13_3 : Int) p51 q51
                replace p51 := eq_true p51
                replace q51 := eq_true q51
                obtain ⟨hy60_, hz60_⟩ := Kd.R_celln 0 HO_12.out (x13_3 : Int) (of_decide_eq_true (by first | (with_reducible assumption) | assumption)) (of_decide_eq_true (by first | (with_reducible assumption) | assumption))
                have HP60 := Kd.R_putg HO_12.out (x13_3 : Int) (wrap64 ((rd t138 x13_3) + t155))
                try go_wp2_with (first | ((with_reducible refine gate_store (t := 2) (p := 107) rfl ?_); refine store_event (t := 2) (p := 107) (v := ?vo_w61) (w1 := (w59.setCell ⟨go51, (x13_3 : Int).toNat, none⟩ (.int .i64 (wrap64 ((rd t138 x13_3) + t155))))) ?hg ?ho ?hn ?hr ?_; (case ho => rfl); (case hg => rfl); (case hn => rfl); (case hr => first | (go_simp; done) | (go_simp; rfl)); intro w61 hw; have hg : w59.grownBy w61 (some go51) := (by rw [hw]; exact HP60.2); have hp_ : Kd.R (Kd.int .i64) 2 w61 w.heap.size (fun k_ => some k_ ≠ (.slice (some ad153) t138.length co57 : Value).ownBlock ∧ some k_ ≠ (.slice (some ad154) x8_20.length co58 : Value).ownBlock) (.slice (some ⟨go51, 0, none⟩) x12_3.length co51) y156 := (by rw [hw, Ny156.out]; exact HP60.1); clear HP60; replace HO_7 := aM (Kd.R_after (v := (.slice (some ⟨go51, 0, none⟩) x12_3.length co51)) (v1 := (.slice (some ⟨go51, 0, none⟩) x12_3.length co51)) (ok := (fun k_ => some k_ ≠ (.slice (some ad154) x8_20.length co58 : Value).ownBlock)) (rq HO_7.out) hg (.inl rfl)); replace HO_8 := aM (Kd.R_after (v := (.slice (some ⟨go51, 0, none⟩) x12_3.length co51)) (v1 := (.slice (some ⟨go51, 0, none⟩) x12_3.length co51)) (ok := (fun k_ => some k_ ≠ (.slice (some ad153) t138.length co57 : Value).ownBlock)) (rq HO_8.out) hg (.inl rfl)); replace HO_12 := aM (hp_); replace HB := aM ((by rw [hw]; exact bS (HB.out) GB51.out : Below w.heap.size w w61)); clear hg hw hp_; have p55 : 0 ≤ ((ji52) : Int) := of_decide_eq_true (by first | (with_reducible assumption) | assumption); have q55 : ((ji52) : Int) < ((x12_3.length : Int) : Int) := of_decide_eq_true (by first | (with_reducible assumption) | assumption); obtain ⟨hx55_0, hf55_0⟩ := Kd.R_celln 0 HO_12.out ((ji52) : Int) p55 q55; replace p55 := eq_true p55; replace q55 := eq_true q55; obtain ⟨hy62_, hz62_⟩ := Kd.R_celln 0 HO_12.out ((ji52) : Int) (of_decide_eq_true (by first | (with_reducible assumption) | assumption)) (of_decide_eq_true (by first | (with_reducible assumption) | assumption)); have HP62 := Kd.R_putg HO_12.out ((ji52) : Int) (wrap64 ((rd t138 x13_3) + t155))) | ((with_reducible refine gate_store (t := 2) (p := 114) rfl ?_); refine store_event (t := 2) (p := 114) (v := ?vo_w63) (w1 := (w61.setCell ⟨go51, ((ji52) : Int).toNat, none⟩ (.int .i64 (wrap64 ((rd t138 x13_3) + t155))))) ?hg ?ho ?hn ?hr ?_; (case ho => rfl); (case hg => rfl); (case hn => rfl); (case hr => first | (go_simp; done) | (go_simp; rfl)); intro w63 hw; have hg : w61.grownBy w63 (some go51) := (by rw [hw]; exact HP62.2); have hp_ : Kd.R (Kd.int .i64) 2 w63 w.heap.size (fun k_ => some k_ ≠ (.slice (some ad153) t138.length co57 : Value).ownBlock ∧ some k_ ≠ (.slice (some ad154) x8_20.length co58 : Value).ownBlock) (.slice (some ⟨go51, 0, none⟩) x12_3.length co51) y157 := (by rw [hw, Ny157.out]; exact HP62.1); clear HP62; replace HO_7 := aM (Kd.R_after (v := (.slice (some ⟨go51, 0, none⟩) x12_3.length co51)) (v1 := (.slice (some ⟨go51, 0, none⟩) x12_3.length co51)) (ok := (fun k_ => some k_ ≠ (.slice (some ad154) x8_20.length co58 : Value).ownBlock)) (rq HO_7.out) hg (.inl rfl)); replace HO_8 := aM (Kd.R_after (v := (.slice (some ⟨go51, 0, none⟩) x12_3.length co51)) (v1 := (.slice (some ⟨go51, 0, none⟩) x12_3.length co51)) (ok := (fun k_ => some k_ ≠ (.slice (some ad153) t138.length co57 : Value).ownBlock)) (rq HO_8.out) hg (.inl rfl)); replace HO_12 := aM (hp_); replace HB := aM ((by rw [hw]; exact bS (HB.out) GB51.out : Below w.heap.size w w63)); clear hg hw hp_))
                go_roundg k3
                case measure => have := HK1.out; have := HJ20.out; have := HK3.out; omega
                case rel => exact ⟨(y157), (wrap64 (x13_3 + 1)), (ex), H', ⟨by have := HK1.out; have := HJ20.out; have := HK3.out; omega⟩, aM (rq HO_7.out), aM (rq HO_8.out), aM (rq HO_12.out), ⟨bq⟩⟩
               ·rw [if_neg c54] at H
                exact absurd H (by simp)
              ·rw [if_neg c53] at H
               exact absurd H (by simp)
             ·rw [if_neg c50] at H
              exact absurd H (by simp)
            ·rw [if_neg c48] at H
             exact absurd H (by simp)
           ·rw [if_neg c47] at H
            exact absurd H (by simp)
          ·rw [if_neg c46] at H
           exact absurd H (by simp)
         ·rw [if_neg c45] at H
          have c45b0 : decide (x13_3 < (wrap64 (Int.tdiv (l0.length : Int) 2))) = false := decide_eq_false c45
          have c45b0t : decide (x13_3 < (wrap64 ((l0.length : Int) / 2))) = false := by have h_ := c45b0; rw [Int.tdiv_eq_ediv_of_nonneg (Int.natCast_nonneg _)] at h_; exact h_
          clear c45
          obtain rfl := Option.some.inj H
          go_wp2
          go_ret
          exact ⟨_, ew, by (with_reducible repeat (first | apply rA | apply rN | apply rD)); exact rM HO_12.out (fun _ hk => trivial), bq⟩

end Go.Proofs.Ytmhnpogjkbmmnaa.PFnFrameBounds
