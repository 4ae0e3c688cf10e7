import Derived.Test.YtmhnpogjkbmmnaaPFnStatesx0
import Derived.Test.YtmhnpogjkbmmnaaPFnStatesx4
import Derived.Test.YtmhnpogjkbmmnaaPFnStatesx12
namespace Go.Proofs.Ytmhnpogjkbmmnaa.PFnStates
open Go.RowKit Go.Proofs.YtmhnpogjkbmmnaaW.PrintWords Go.Proofs.YtmhnpogjkbmmnaaW.PrintLast Go.Proofs.YtmhnpogjkbmmnaaW.PrintMore
open Go.Proofs.YtmhnpogjkbmmnaaW.PrintWords.Kd renaming R_alloc → rA, R_drewN → rN, R_drew → rD, R_mono → rM, R_base → rB, R_new' → rW, R_below → rL, R_lt → rT, R_lower → rG, R_elder' → rH, R_reads' → rR
open Go.Proofs.YtmhnpogjkbmmnaaW.PrintWords renaming below_drew1 → bD, below_set → bS, below_step → bT, below_size → bZ
open Go.Proofs.YtmhnpogjkbmmnaaW.PrintWords.Aside0 renaming mk → aM
attribute [local go_sem] max2_int min2_int max_two min_two max_three min_three max_four min_four
set_option maxHeartbeats 8000000
set_option maxRecDepth 100000
set_option linter.unusedVariables false
set_option linter.unusedSimpArgs false
mutual
def spec_l6Halve.l0 : Nat → List Int → Int → List Int → List Int → Int → Option (List Int × List Int)
 | 0, _, _, _, _, _ => none
 | k + 1, x0, x4, x5, x6, x7 => if x7 < (wrap64 (Int.tdiv x4 2)) then (if 0 ≤ x7 then (if x7 < (x0.length : Int) then (if 0 ≤ (wrap64 ((wrap64 (x4 - 1)) - x7)) then (if (wrap64 ((wrap64 (x4 - 1)) - x7)) < (x0.length : Int) then ((spec_l5Mix.f (rd x0 x7) (rd x0 (wrap64 ((wrap64 (x4 - 1)) - x7)))).bind fun bt407 => (if x5.length < 17592186044416 then (if x6.length < 17592186044416 then (spec_l6Halve.l0 k x0 x4 (x5 ++ [bt407.1]) (x6 ++ [bt407.2]) (wrap64 (x7 + 1))) else (none)) else (none))) else (none)) else (none)) else (none)) else (none)) else (if x4 > 2 then (spec_l6Halve.l1 k x4 x5 x6 0) else (some (x5, x6)))
def spec_l6Halve.l1 : Nat → Int → List Int → List Int → Int → Option (List Int × List Int)
 | 0, _, _, _, _ => none
 | k + 1, x4, x5, x6, x10 => if x10 < (wrap64 (Int.tdiv x4 4)) then (if 0 ≤ x10 then (if x10 < (x6.length : Int) then (if 0 ≤ (wrap64 ((wrap64 ((wrap64 (Int.tdiv x4 2)) - 1)) - x10)) then (if (wrap64 ((wrap64 ((wrap64 (Int.tdiv x4 2)) - 1)) - x10)) < (x6.length : Int) then ((spec_l5Turn.f x4 x10 (rd x6 x10) (rd x6 (wrap64 ((wrap64 ((wrap64 (Int.tdiv x4 2)) - 1)) - x10)))).bind fun bt417 => (spec_l6Halve.l1 k x4 x5 ((x6.set (x10 : Int).toNat bt417.1).set ((wrap64 ((wrap64 ((wrap64 (Int.tdiv x4 2)) - 1)) - x10)) : Int).toNat bt417.2) (wrap64 (x10 + 1)))) else (none)) else (none)) else (none)) else (none)) else (some (x5, x6))
end
def spec_l6Halve.f (k : Nat) (l0 : List Int) : Option (List Int × List Int) := spec_l6Halve.l0 k l0 (l0.length : Int) (([] : List Int)) (([] : List Int)) 0
def spec_l6Halve.T7 : Bool × List (List Nat × List Nat) := (true, [([], []), ([], []), ([0, 1], [0, 1]), ([2], [2]), ([], []), ([], []), ([5], [5]), ([], []), ([6, 7], [6, 7]), ([4, 8], [4, 8]), ([9], [9]), ([3, 10], [3, 10]), ([11], [11]), ([12], [12]), ([12], [12]), ([13, 11, 0, 1, 2, 3, 4, 5, 6, 7, 8, 9, 10, 11, 12, 13], [13]), ([14, 15, 0, 1, 2, 3, 4, 5, 6, 7, 8, 9, 10, 11, 12, 13, 14, 15], [14])])
def spec_l6Halve.B7 : List Nat := [0, 0, 3, 7, 0, 0, 32, 0, 224, 496, 1008, 2047, 4095, 8191, 8191, 16383, 65535]
theorem spec_l6Halve.tab7 : rtab .any (opsOf Try.f145 7) = spec_l6Halve.T7 := by kernel_rfl
theorem spec_l6Halve.bits7 : waitsOk spec_l6Halve.T7.2 spec_l6Halve.B7 = true := by kernel_rfl
def spec_l6Halve.T14 : Bool × List (List Nat × List Nat) := (true, [([], []), ([], []), ([], []), ([], []), ([2, 3], [2, 3]), ([4], [4]), ([], []), ([], []), ([7], [7]), ([8], [8]), ([], []), ([9, 10], [9, 10]), ([6, 11], [6, 11]), ([12], [12]), ([0, 1, 5, 13], [0, 1, 5, 13]), ([14], [14]), ([15], [15]), ([15], [15]), ([16, 14, 0, 1, 2, 3, 4, 5, 6, 7, 8, 9, 10, 11, 12, 13, 14, 15, 16], [16]), ([17, 18, 0, 1, 2, 3, 4, 5, 6, 7, 8, 9, 10, 11, 12, 13, 14, 15, 16, 17, 18], [17])])
def spec_l6Halve.B14 : List Nat := [0, 0, 0, 0, 12, 28, 0, 0, 128, 384, 0, 1920, 4032, 8128, 16383, 32767, 65535, 65535, 131071, 524287]
theorem spec_l6Halve.tab14 : rtab .any (opsOf Try.f145 14) = spec_l6Halve.T14 := by kernel_rfl
theorem spec_l6Halve.bits14 : waitsOk spec_l6Halve.T14.2 spec_l6Halve.B14 = true := by kernel_rfl
theorem spec_l6Halve.calls (k : Nat) (A0 : Option Addr) (c0 : Nat) (l0 : List Int) (r1 : List Int) (r2 : List Int) (w : World) (hr0 : Kd.C (Kd.int .i64) w A0 l0.length l0) (hc0 : l0.length ≤ c0) (h : spec_l6Halve.f k l0 = some (r1, r2)) :
  Calls Try.prog 145 #[.slice A0 l0.length c0] w fun e w' => ∃ v0_ v1_ : Value, e = .returned (.tuple #[v0_, v1_]) ∧ Kd.R (Kd.int .i64) 2 w' w.heap.size (fun k_ => nb v1_ k_) v0_ r1 ∧ Kd.R (Kd.int .i64) 2 w' w.heap.size (fun k_ => nb v0_ k_) v1_ r2 ∧ Below w.heap.size w w' := by
 have HR0 := aM hr0
 have HC0 := aM hc0
 clear hr0 hc0
 have HB := aM (Below.refl w.heap.size w)
 unfold spec_l6Halve.f at h
 have H := h
 clear h
 obtain ⟨y399, hy399⟩ : ∃ y_ : List Int, y_ = (([] : List Int)) := ⟨_, rfl⟩
 replace H : (spec_l6Halve.l0 k l0 (l0.length : Int) y399 (([] : List Int)) 0) = some (r1, r2) := hl hy399 H
 have Ny399 := aM hy399
 clear hy399
 obtain ⟨y402, hy402⟩ : ∃ y_ : List Int, y_ = (([] : List Int)) := ⟨_, rfl⟩
 replace H : (spec_l6Halve.l0 k l0 (l0.length : Int) y399 y402 0) = some (r1, r2) := hl hy402 H
 have Ny402 := aM hy402
 clear hy402
 have H' := aM H
 clear H
 go_enter Try.func145, Try.ntmps145
 go_wp2_with (first | ((with_reducible refine gD 15 rfl ?_); refine Kd.R_lit (Kd.int .i64) _ 2 ?hg (N := 15) ?hd (xs := ([] : List Int)) (inner := []) (ok := fun _ => True) (okp := fun _ => True) ?hr ?hp (fun _ hk => hk) trivial (Below.refl _ _) (Nat.le_refl _) (by simp) ?_; (case hd => rfl); (case hg => rfl); (case hr => first | (go_simp; done) | (go_simp; rfl)); (case hp => exact (Reps.none _ _)); intro v400 w2 ho3 hb hg_ hnew_; clear hg_ hnew_; rw [← Ny399.out] at ho3; have HO401 := aM (rG ho3 (bZ bq)); replace HB := aM (bT bq hb); clear hb ho3) | ((with_reducible refine gD 16 rfl ?_); refine Kd.R_lit (Kd.int .i64) _ 2 ?hg (N := 16) ?hd (xs := ([] : List Int)) (inner := []) (ok := fun _ => True) (okp := fun _ => True) ?hr ?hp (fun _ hk => hk) trivial (Below.refl _ _) (Nat.le_refl _) (by simp) ?_; (case hd => rfl); (case hg => rfl); (case hr => first | (go_simp; done) | (go_simp; rfl)); (case hp => exact (Reps.none _ _)); intro v403 w4 ho5 hb hg_ hnew_; clear hg_ hnew_; rw [← Ny402.out] at ho5; have HO404 := aM (rG (wq ho5 HO401) (bZ bq)); replace HO401 := zh (rq HO401.out) ho5 hb; replace HB := aM (bT bq hb); clear hb ho5))
 go_loopg [5, 6, 7] k (fun kq v5 v6 v7 w' => ∃ (x5_1 : List Int) (x6_1 : List Int) (x7_1 : Int), v7 = .int .i64 x7_1 ∧ Aside0 (spec_l6Halve.l0 kq l0 (l0.length : Int) x5_1 x6_1 x7_1 = some (r1, r2)) ∧ Aside0 (kq ≤ k) ∧ Aside0 (Kd.R (Kd.int .i64) 2 w' w.heap.size (fun k_ => nb v6 k_) v5 x5_1) ∧ Aside0 (Kd.R (Kd.int .i64) 2 w' w.heap.size (fun k_ => nb v5 k_) v6 x6_1) ∧ Aside0 (Below w.heap.size w w'))
 case atStart => exact ⟨(y399), (y402), (0), (ex), H', ⟨Nat.le_refl _⟩, aM (rq (rM HO401.out (fun _ hk => hk.2))), aM (rq (rM HO404.out (fun _ hk => hk.2))), ⟨bq⟩⟩
 case round =>
  clear H'
  try clear c1
  try clear p2
  obtain ⟨x5_1, x6_1, x7_1, rfl, HA, HK1, HO_5, HO_6, HB⟩ := hrel
  cases gk with
  | zero => exact absurd HA.out (by simp [spec_l6Halve.l0])
  | succ k1 =>
   have H := HA.out
   clear HA
   simp only [spec_l6Halve.l0] at H
   by_cases c6 : x7_1 < (wrap64 (Int.tdiv (l0.length : Int) 2))
   ·rw [if_pos c6] at H
    have c6b0 := dT c6
    have c6b0t : decide (x7_1 < (wrap64 ((l0.length : Int) / 2))) = true := by have h_ := c6b0; rw [Int.tdiv_eq_ediv_of_nonneg (Int.natCast_nonneg _)] at h_; exact h_
    clear c6
    by_cases c7 : 0 ≤ x7_1
    ·rw [if_pos c7] at H
     have c7b0 := dT c7
     clear c7
     by_cases c8 : x7_1 < (l0.length : Int)
     ·rw [if_pos c8] at H
      have c8b0 := dT c8
      clear c8
      obtain ⟨ji9, hji9⟩ : ∃ j_ : Int, (wrap64 ((wrap64 ((l0.length : Int) - 1)) - x7_1)) = j_ := ⟨_, rfl⟩
      rw [hji9] at H
      have hji9w : (IntKind.i64.wrap ((wrap64 ((l0.length : Int) - 1)) - x7_1)) = ji9 := (i64_w _).trans hji9
      by_cases c10 : 0 ≤ (ji9)
      ·rw [if_pos c10] at H
       have c10b0 := dT c10
       clear c10
       by_cases c11 : (ji9) < (l0.length : Int)
       ·rw [if_pos c11] at H
        have c11b0 := dT c11
        clear c11
        replace H := bo H
        obtain ⟨⟨t407, t408⟩, A12, H⟩ := H
        replace H := bz H
        by_cases c13 : x5_1.length < 17592186044416
        ·rw [if_pos c13] at H
         have LMc13 := aM c13
         clear c13
         obtain ⟨y409, Ny409⟩ : ∃ y_ : List Int, Aside0 (y_ = (x5_1 ++ [t407])) := ⟨_, ⟨rfl⟩⟩
         rw [← Ny409.out] at H
         by_cases c14 : x6_1.length < 17592186044416
         ·rw [if_pos c14] at H
          have LMc14 := aM c14
          clear c14
          obtain ⟨y412, Ny412⟩ : ∃ y_ : List Int, Aside0 (y_ = (x6_1 ++ [t408])) := ⟨_, ⟨rfl⟩⟩
          rw [← Ny412.out] at H
          have H' := aM H
          clear H
          try go_wp2
          replace HO_5 := zd HO_5
          replace HO_6 := zd HO_6
          replace HB := aM (bD HB.out)
          have p405 : 0 ≤ (x7_1 : Int) := dt
          have q405 : x7_1 < (l0.length : Int) := dt
          obtain ⟨ad405, e405, hx405_0⟩ := Kd.at_int HR0.out x7_1 p405 q405
          have hw405_0 := hx405_0
          cases e405
          replace hx405_0 := (HB.out.cell (World.block_lt_of_cell? w _ hx405_0)).trans hx405_0
          replace p405 := eq_true p405
          replace q405 := eq_true q405
          have p406 : 0 ≤ ((ji9) : Int) := dt
          have q406 : (ji9) < (l0.length : Int) := dt
          obtain ⟨ad406, e406, hx406_0⟩ := Kd.at_int HR0.out (ji9) p406 q406
          have hw406_0 := hx406_0
          obtain rfl : ad405 = ad406 := (by injection e406)
          replace hx406_0 := (HB.out.cell (World.block_lt_of_cell? w _ hx406_0)).trans hx406_0
          replace p406 := eq_true p406
          replace q406 := eq_true q406
          refine start_ (n := 17) (S := fun w' => w'.cell? (ad405.add (x7_1).toNat) = some (.int .i64 (rd l0 x7_1)) ∧ w'.cell? (ad405.add ((ji9)).toNat) = some (.int .i64 (rd l0 (ji9)))) (ds := []) #[N,N,N,N,N,N,N,N,N,N,N,N,N,N,N,N,N] kr rfl rfl ⟨((HB.out.cell (World.block_lt_of_cell? w _ hw405_0)).trans hw405_0), ((HB.out.cell (World.block_lt_of_cell? w _ hw406_0)).trans hw406_0)⟩ (fun hHeld => ?_); refine with_tabW spec_l6Halve.tab7 spec_l6Halve.bits7 (fun HT_ HW_ => ?_)
          generalize wr.drew = w15 at HO_5 HO_6 HB hx405_0 hx406_0 hHeld ⊢
          refine p1 24 0 ?_
          refine p1 25 1 ?_
          refine p1 26 2 ?_
          refine p1 28 4 ?_
          refine p1 29 5 ?_
          refine p1 30 6 ?_
          refine p1 31 7 ?_
          refine p1 32 8 ?_
          refine p1 33 9 ?_
          refine t1 27 3 ?_ (hy := by rintro w' ⟨s0, s1⟩; go_simp; with_reducible rfl)
          refine t1 34 10 ?_ (hy := by rintro w' ⟨s0, s1⟩; go_simp; with_reducible rfl)
          refine o1 35 11 fun K hK => ?_
          refine goes_ Try.func159 kr rfl #[.int .i64 (rd l0 x7_1), .int .i64 (rd l0 (ji9))] (by rfl) rfl rfl (by (try simp only [List.map_toArray, List.map_cons, List.map_nil]); first | done | (simp only [hji9]; rfl) | rfl | (simp only [List.length_drop, List.length_take]; rfl)) ?_
          with_reducible refine (spec_l5Mix.calls (rd l0 x7_1) (rd l0 (ji9)) t407 t408 _ A12.out).mono ?_
          rintro e w16 ⟨rfl, hb⟩
          refine ⟨_, rfl, ?_⟩
          replace HO_5 := zl HO_5 hb
          replace HO_6 := zl HO_6 hb
          replace HB := aM (bT bq hb)
          (try clear hb)
          (try clear hb2)
          (try clear hk)
          (try clear hi)
          refine hK.out _ _ ⟨((HB.out.cell (World.block_lt_of_cell? w _ hw405_0)).trans hw405_0), ((HB.out.cell (World.block_lt_of_cell? w _ hw406_0)).trans hw406_0)⟩ (fun hHeld => ?_)
          clear hK K
          refine nn ?_
          refine p1 23 12 ?_
          refine p1 36 13 ?_
          refine p1 37 14 ?_
          refine p1 8 15 ?_
          refine p1 9 16 ?_
          refine done_ (done_of HT_.out kr) ?_
          try go_wp2_with (first | ((with_reducible refine gate_builtin (b := .append) (xs := #[.tmp 38, .tmp 40]) rfl ?_); at_builtin; refine Kd.R_append (Kd.int .i64) (w0 := w) w.heap.size rfl (.tmp 38) (.tmp 40) 22 2 (.int .i64 0) 8 rfl Try.underlying22 info2 rfl (by decide) (by omega) u5 x5_1 t407 [.int .i64 t407] (fun k_ => nb u6 k_) (fun _ => False) rfl rfl ?aP (fun _ hk => hk.elim) ?aF ?aO ?aB ?aS ?aL ?_; (case aP => exact rfl); (case aB => exact bq); (case aF => exact (fun k_ hk => Kd.fresh' (rT (rq HO_6.out)) k_ hk)); (case aO => exact (rq HO_5.out)); (case aS => exact (bZ bq)); (case aL => have := LMc13.out; omega); intro v410 w17 ho hb hg hat; rw [← Ny409.out] at ho; replace HO_6 := aM (Kd.R_after (ok := (fun _ => True)) (rq (rM HO_6.out (fun _ hk => ⟨trivial, hk⟩))) hg hat); replace HB := aM hb; have HO411 := aM (ho); clear HO_5 ho hb hg hat) | ((with_reducible refine gate_builtin (b := .append) (xs := #[.tmp 42, .tmp 44]) rfl ?_); at_builtin; refine Kd.R_append (Kd.int .i64) (w0 := w) w.heap.size rfl (.tmp 42) (.tmp 44) 22 2 (.int .i64 0) 8 rfl Try.underlying22 info2 rfl (by decide) (by omega) u6 x6_1 t408 [.int .i64 t408] (fun k_ => nb v410 k_) (fun _ => False) rfl rfl ?aP (fun _ hk => hk.elim) ?aF ?aO ?aB ?aS ?aL ?_; (case aP => exact rfl); (case aB => exact bq); (case aF => exact (fun k_ hk => Kd.fresh' (rT (rq HO411.out)) k_ hk)); (case aO => exact (rq (rM HO_6.out (fun _ hk => hk.2)))); (case aS => exact (bZ bq)); (case aL => have := LMc14.out; omega); intro v413 w18 ho hb hg hat; rw [← Ny412.out] at ho; replace HO411 := aM (Kd.R_after (ok := (fun _ => True)) (rq (rM HO411.out (fun _ hk => ⟨trivial, hk⟩))) hg hat); replace HB := aM hb; have HO414 := aM (ho); clear HO_6 ho hb hg hat))
          go_roundg k1
          case measure => have := HK1.out; omega
          case rel => exact ⟨(y409), (y412), (wrap64 (x7_1 + 1)), (ex), H', ⟨by have := HK1.out; omega⟩, aM (rq (rM HO411.out (fun _ hk => hk.2))), aM (rq HO414.out), ⟨bq⟩⟩
         ·rw [if_neg c14] at H
          exact absurd H (by simp)
        ·rw [if_neg c13] at H
         exact absurd H (by simp)
       ·rw [if_neg c11] at H
        exact absurd H (by simp)
      ·rw [if_neg c10] at H
       exact absurd H (by simp)
     ·rw [if_neg c8] at H
      exact absurd H (by simp)
    ·rw [if_neg c7] at H
     exact absurd H (by simp)
   ·rw [if_neg c6] at H
    have c6b0 := dF c6
    have c6b0t : decide (x7_1 < (wrap64 ((l0.length : Int) / 2))) = false := by have h_ := c6b0; rw [Int.tdiv_eq_ediv_of_nonneg (Int.natCast_nonneg _)] at h_; exact h_
    clear c6
    by_cases c19 : (l0.length : Int) > 2
    ·rw [if_pos c19] at H
     have c19b0 : decide (2 < (l0.length : Int)) = true := decide_eq_true c19
     have c19b1 : decide (2 < l0.length) = true := decide_eq_true (by omega)
     clear c19
     have H' := aM H
     clear H
     go_wp2
     go_loopg [10] k1 (fun kq v10 w' => ∃ (x6_2 : List Int) (x10_2 : Int), v10 = .int .i64 x10_2 ∧ Aside0 (spec_l6Halve.l1 kq (l0.length : Int) x5_1 x6_2 x10_2 = some (r1, r2)) ∧ Aside0 (kq ≤ k1) ∧ Aside0 (Kd.R (Kd.int .i64) 2 w' w.heap.size (fun k_ => nb u6 k_) u5 x5_1) ∧ Aside0 (Kd.R (Kd.int .i64) 2 w' w.heap.size (fun k_ => nb u5 k_) u6 x6_2) ∧ Aside0 (Below w.heap.size w w'))
     case atStart => exact ⟨(x6_1), (0), (ex), H', ⟨Nat.le_refl _⟩, aM (rq HO_5.out), aM (rq HO_6.out), ⟨bq⟩⟩
     case round =>
      clear H'
      try clear c1
      try clear p2
      try clear p4
      try clear q4
      try clear hx4
      try clear c6
      try clear c6b0
      try clear p6
      try clear c7
      try clear c7b0
      try clear c8
      try clear c8b0
      try clear c10
      try clear c10b0
      try clear c11
      try clear c11b0
      try clear c13
      try clear c14
      try clear c15
      try clear c19
      try clear c19b0
      try clear c19b1
      try clear hx405_0
      try clear hx406_0
      try clear p2
      try clear p405
      try clear p406
      try clear q405
      try clear q406
      obtain ⟨x6_2, x10_2, rfl, HA, HK2, HO_5, HO_6, HB⟩ := hrel
      cases gk with
      | zero => exact absurd HA.out (by simp [spec_l6Halve.l1])
      | succ k2 =>
       have H := HA.out
       clear HA
       simp only [spec_l6Halve.l1] at H
       by_cases c20 : x10_2 < (wrap64 (Int.tdiv (l0.length : Int) 4))
       ·rw [if_pos c20] at H
        have c20b0 := dT c20
        have c20b0t : decide (x10_2 < (wrap64 ((l0.length : Int) / 4))) = true := by have h_ := c20b0; rw [Int.tdiv_eq_ediv_of_nonneg (Int.natCast_nonneg _)] at h_; exact h_
        clear c20
        by_cases c21 : 0 ≤ x10_2
        ·rw [if_pos c21] at H
         have c21b0 := dT c21
         clear c21
         by_cases c22 : x10_2 < (x6_2.length : Int)
         ·rw [if_pos c22] at H
          have c22b0 := dT c22
          clear c22
          obtain ⟨ji23, hji23⟩ : ∃ j_ : Int, (wrap64 ((wrap64 ((wrap64 (Int.tdiv (l0.length : Int) 2)) - 1)) - x10_2)) = j_ := ⟨_, rfl⟩
          have hji23t : (wrap64 ((wrap64 ((wrap64 ((l0.length : Int) / 2)) - 1)) - x10_2)) = ji23 := by have h_ := hji23; rw [Int.tdiv_eq_ediv_of_nonneg (Int.natCast_nonneg _)] at h_; exact h_
          rw [hji23] at H
          have hji23w : (IntKind.i64.wrap ((wrap64 ((wrap64 (Int.tdiv (l0.length : Int) 2)) - 1)) - x10_2)) = ji23 := (i64_w _).trans hji23
          have hji23wt : (IntKind.i64.wrap ((wrap64 ((wrap64 ((l0.length : Int) / 2)) - 1)) - x10_2)) = ji23 := by have h_ := hji23w; rw [Int.tdiv_eq_ediv_of_nonneg (Int.natCast_nonneg _)] at h_; exact h_
          by_cases c24 : 0 ≤ (ji23)
          ·rw [if_pos c24] at H
           have c24b0 := dT c24
           clear c24
           by_cases c25 : (ji23) < (x6_2.length : Int)
           ·rw [if_pos c25] at H
            have c25b0 := dT c25
            clear c25
            replace H := bo H
            obtain ⟨⟨t417, t418⟩, A26, H⟩ := H
            replace H := bz H
            obtain ⟨y419, Ny419⟩ : ∃ y_ : List Int, Aside0 (y_ = (x6_2.set (x10_2 : Int).toNat t417)) := ⟨_, ⟨rfl⟩⟩
            rw [← Ny419.out] at H
            obtain ⟨y420, Ny420⟩ : ∃ y_ : List Int, Aside0 (y_ = (y419.set ((ji23) : Int).toNat t418)) := ⟨_, ⟨rfl⟩⟩
            rw [← Ny420.out] at H
            have H' := aM H
            clear H
            try go_wp2
            replace HO_5 := zd HO_5
            replace HO_6 := zd HO_6
            replace HB := aM (bD HB.out)
            obtain ⟨Ao30, co30, eo30⟩ := Kd.R_slice HO_6.out
            (first | subst eo30 | (injection eo30 with f1_ f2_ f3_; have f4_ := f1_.symm; have f5_ := f3_.symm; clear f1_ f2_ f3_; subst f4_; subst f5_))
            have p415 : 0 ≤ (x10_2 : Int) := dt
            have q415 : x10_2 < (x6_2.length : Int) := dt
            obtain ⟨ad415, e415, hx415_0⟩ := Kd.at_int (rR HO_6.out).2.2 x10_2 p415 q415
            cases e415
            replace p415 := eq_true p415
            replace q415 := eq_true q415
            have p416 : 0 ≤ ((ji23) : Int) := dt
            have q416 : (ji23) < (x6_2.length : Int) := dt
            obtain ⟨ad416, e416, hx416_0⟩ := Kd.at_int (rR HO_6.out).2.2 (ji23) p416 q416
            obtain rfl : ad415 = ad416 := (by injection e416)
            replace p416 := eq_true p416
            replace q416 := eq_true q416
            refine start_ (n := 20) (S := fun w' => w'.cell? (ad415.add (x10_2).toNat) = some (.int .i64 (rd x6_2 x10_2)) ∧ w'.cell? (ad415.add ((ji23)).toNat) = some (.int .i64 (rd x6_2 (ji23)))) (ds := []) #[N,N,N,N,N,N,N,N,N,N,N,N,N,N,N,N,N,N,N,N] kr rfl rfl ⟨hx415_0, hx416_0⟩ (fun hHeld => ?_); refine with_tabW spec_l6Halve.tab14 spec_l6Halve.bits14 (fun HT_ HW_ => ?_)
            generalize wr.drew = w29 at HO_5 HO_6 HB hx415_0 hx416_0 hHeld ⊢
            refine p1 55 0 ?_
            refine p1 56 1 ?_
            refine p1 57 2 ?_
            refine p1 58 3 ?_
            refine p1 59 4 ?_
            refine p1 61 6 ?_
            refine p1 62 7 ?_
            refine p1 63 8 ?_
            refine p1 64 9 ?_
            refine p1 65 10 ?_
            refine p1 66 11 ?_
            refine p1 67 12 ?_
            refine t1 60 5 ?_ (hy := by rintro w' ⟨s0, s1⟩; go_simp; with_reducible rfl)
            refine t1 68 13 ?_ (hy := by rintro w' ⟨s0, s1⟩; go_simp; with_reducible rfl)
            refine o1 69 14 fun K hK => ?_
            refine goes_ Try.func143 kr rfl #[.int .i64 (l0.length : Int), .int .i64 x10_2, .int .i64 (rd x6_2 x10_2), .int .i64 (rd x6_2 (ji23))] (by rfl) rfl rfl (by (try simp only [List.map_toArray, List.map_cons, List.map_nil]); first | done | (simp only [hji23]; rfl) | rfl | (simp only [List.length_drop, List.length_take]; rfl)) ?_
            with_reducible refine (spec_l5Turn.calls (l0.length : Int) x10_2 (rd x6_2 x10_2) (rd x6_2 (ji23)) t417 t418 _ A26.out).mono ?_
            rintro e w31 ⟨rfl, hb⟩
            have HS0_ := (hb.cell (World.block_lt_of_cell? _ _ (hHeld.1))).trans (hHeld.1)
            have HS1_ := (hb.cell (World.block_lt_of_cell? _ _ (hHeld.2))).trans (hHeld.2)
            refine ⟨_, rfl, ?_⟩
            replace HO_5 := zl HO_5 hb
            replace HO_6 := zl HO_6 hb
            replace HB := aM (bT bq hb)
            (try clear hb)
            (try clear hb2)
            (try clear hk)
            (try clear hi)
            refine hK.out _ _ ⟨HS0_, HS1_⟩ (fun hHeld => ?_)
            clear hK K
            refine nn ?_
            refine p1 54 15 ?_
            refine p1 70 16 ?_
            refine p1 71 17 ?_
            refine p1 11 18 ?_
            refine p1 12 19 ?_
            refine done_ (done_of HT_.out kr) ?_
            have p27 : 0 ≤ (x10_2 : Int) := dt
            have q27 : (x10_2 : Int) < ((x6_2.length : Int) : Int) := dt
            obtain ⟨go27, co27, eo27, gb27, gl27, cl27, HG27⟩ := Kd.R_form HO_6.out (by omega)
            (first | cases eo27 | (injection eo27 with ea_ en_ ec_; (first | subst ea_ | (injection ea_ with ea_; subst ea_)); subst ec_; clear en_))
            have GB27 := aM gb27
            have GG27 := aM HG27
            clear gb27 gl27 HG27
            (first | simp only [add_plain] at hx415_0 | skip)
            (first | simp only [add_plain] at hx416_0 | skip)
            obtain ⟨hx27_0, hf27_0⟩ := Kd.R_celln 0 HO_6.out (x10_2 : Int) p27 q27
            replace p27 := eq_true p27
            replace q27 := eq_true q27
            obtain ⟨hy32_, hz32_⟩ := Kd.R_celln 0 HO_6.out (x10_2 : Int) (dt) (dt)
            have HP32 := Kd.R_putg HO_6.out (x10_2 : Int) t417
            try go_wp2_with (first | ((with_reducible refine gate_store (t := 2) (p := 75) rfl ?_); refine store_event (t := 2) (p := 75) (v := ?vo_w33) (w1 := (w31.setCell ⟨go27, (x10_2 : Int).toNat, none⟩ (.int .i64 t417))) ?hg ?ho ?hn ?hr ?_; (case ho => rfl); (case hg => rfl); (case hn => rfl); (case hr => first | (go_simp; done) | (go_simp; rfl)); intro w33 hw; have hg : w31.grownBy w33 (some go27) := (by rw [hw]; exact HP32.2); have hp_ : Kd.R (Kd.int .i64) 2 w33 w.heap.size (fun k_ => nb u5 k_) (.slice (some ⟨go27, 0, none⟩) x6_2.length co30) y419 := (by rw [hw, Ny419.out]; exact HP32.1); clear HP32; replace HO_5 := aM (Kd.R_after (v := (.slice (some ⟨go27, 0, none⟩) x6_2.length co30)) (v1 := (.slice (some ⟨go27, 0, none⟩) x6_2.length co30)) (ok := (fun _ => True)) (rq (rM HO_5.out (fun _ hk => ⟨trivial, hk⟩))) hg (.inl rfl)); replace HO_6 := aM (hp_); replace HB := aM ((by rw [hw]; exact bS (HB.out) GB27.out : Below w.heap.size w w33)); clear hg hw hp_; have p28 : 0 ≤ ((ji23) : Int) := dt; have q28 : ((ji23) : Int) < ((x6_2.length : Int) : Int) := dt; obtain ⟨hx28_0, hf28_0⟩ := Kd.R_celln 0 HO_6.out ((ji23) : Int) p28 q28; replace p28 := eq_true p28; replace q28 := eq_true q28; obtain ⟨hy34_, hz34_⟩ := Kd.R_celln 0 HO_6.out ((ji23) : Int) (dt) (dt); have HP34 := Kd.R_putg HO_6.out ((ji23) : Int) t418) | ((with_reducible refine gate_store (t := 2) (p := 83) rfl ?_); refine store_event (t := 2) (p := 83) (v := ?vo_w35) (w1 := (w33.setCell ⟨go27, ((ji23) : Int).toNat, none⟩ (.int .i64 t418))) ?hg ?ho ?hn ?hr ?_; (case ho => rfl); (case hg => rfl); (case hn => rfl); (case hr => first | (go_simp; done) | (go_simp; rfl)); intro w35 hw; have hg : w33.grownBy w35 (some go27) := (by rw [hw]; exact HP34.2); have hp_ : Kd.R (Kd.int .i64) 2 w35 w.heap.size (fun k_ => nb u5 k_) (.slice (some ⟨go27, 0, none⟩) x6_2.length co30) y420 := (by rw [hw, Ny420.out]; exact HP34.1); clear HP34; replace HO_5 := aM (Kd.R_after (v := (.slice (some ⟨go27, 0, none⟩) x6_2.length co30)) (v1 := (.slice (some ⟨go27, 0, none⟩) x6_2.length co30)) (ok := (fun _ => True)) (rq HO_5.out) hg (.inl rfl)); replace HO_6 := aM (hp_); replace HB := aM ((by rw [hw]; exact bS (HB.out) GB27.out : Below w.heap.size w w35)); clear hg hw hp_))
            go_roundg k2
            case measure => have := HK1.out; have := HK2.out; omega
            case rel => exact ⟨(y420), (wrap64 (x10_2 + 1)), (ex), H', ⟨by have := HK1.out; have := HK2.out; omega⟩, aM (rq (rM HO_5.out (fun _ hk => hk.2))), aM (rq HO_6.out), ⟨bq⟩⟩
           ·rw [if_neg c25] at H
            exact absurd H (by simp)
          ·rw [if_neg c24] at H
           exact absurd H (by simp)
         ·rw [if_neg c22] at H
          exact absurd H (by simp)
        ·rw [if_neg c21] at H
         exact absurd H (by simp)
       ·rw [if_neg c20] at H
        have c20b0 := dF c20
        have c20b0t : decide (x10_2 < (wrap64 ((l0.length : Int) / 4))) = false := by have h_ := c20b0; rw [Int.tdiv_eq_ediv_of_nonneg (Int.natCast_nonneg _)] at h_; exact h_
        clear c20
        simp only [Option.some.injEq, Prod.mk.injEq] at H
        obtain ⟨rfl, rfl⟩ := H
        go_wp2
        go_ret2
        exact ⟨_, _, ew, by (with_reducible repeat (first | apply rA | apply rN | apply rD)); exact HO_5.out, by (with_reducible repeat (first | apply rA | apply rN | apply rD)); exact HO_6.out, bq⟩
    ·rw [if_neg c19] at H
     have c19b0 : decide (2 < (l0.length : Int)) = false := decide_eq_false c19
     have c19b1 : decide (2 < l0.length) = false := decide_eq_false (by omega)
     clear c19
     simp only [Option.some.injEq, Prod.mk.injEq] at H
     obtain ⟨rfl, rfl⟩ := H
     go_wp2
     go_ret2
     exact ⟨_, _, ew, by (with_reducible repeat (first | apply rA | apply rN | apply rD)); exact HO_5.out, by (with_reducible repeat (first | apply rA | apply rN | apply rD)); exact HO_6.out, bq⟩
end Go.Proofs.Ytmhnpogjkbmmnaa.PFnStates
