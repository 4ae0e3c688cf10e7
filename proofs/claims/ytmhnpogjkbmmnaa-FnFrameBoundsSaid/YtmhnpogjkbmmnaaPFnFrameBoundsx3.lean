-- Written by a program of this session: wip/mkprint.py over the kit's print, with contracts proved by hand (wip/given.py)
-- told shortest
-- told shorter still
-- shortened
-- told short
-- worlds by letters
-- squeezed
import Derived.Test.YtmhnpogjkbmmnaaPFnFrameBoundsx0
import Derived.Test.YtmhnpogjkbmmnaaPFnFrameBoundsx1
namespace Go.Proofs.Ytmhnpogjkbmmnaa.PFnFrameBounds
open Go.RowKit Go.Proofs.YtmhnpogjkbmmnaaW.PrintWords Go.Proofs.YtmhnpogjkbmmnaaW.PrintLast Go.Proofs.YtmhnpogjkbmmnaaW.PrintMore
open Go.Proofs.YtmhnpogjkbmmnaaW.PrintWords.Kd renaming R_alloc → rA, R_drewN → rN, R_drew → rD, R_mono → rM, R_base → rB, R_new' → rW, R_below → rL, R_lt → rT, R_lower → rG, R_elder' → rH
open Go.Proofs.YtmhnpogjkbmmnaaW.PrintWords renaming below_drew1 → bD, below_set → bS, below_step → bT, below_size → bZ
open Go.Proofs.YtmhnpogjkbmmnaaW.PrintWords.Aside0 renaming mk → aM
attribute [local go_sem] max2_int min2_int max_two min_two max_three min_three max_four min_four   -- for this text's walks alone
set_option linter.unusedVariables false
set_option linter.unusedSimpArgs false

/-! ### spec_l8Seam: function 102 -/
def spec_l8Seam.l0 : Nat → Int → List Int → List Int → Int → List Int → List Int → Int → Option (List Int × List Int)
 | 0, _, _, _, _, _, _, _ => none
 | k + 1, x0, x1, x2, x8, x9, x10, x11 => if x11 < x8 then (if 0 ≤ (wrap64 ((wrap64 (x8 - 1)) - x11)) then (if (wrap64 ((wrap64 (x8 - 1)) - x11)) < (x1.length : Int) then (if 0 ≤ x11 then (if x11 < (x2.length : Int) then ((spec_l8Turn.f x0 x11 (rd x1 (wrap64 ((wrap64 (x8 - 1)) - x11))) (rd x2 x11)).bind fun bt166 => (if (wrap64 ((wrap64 (x8 - 1)) - x11)) < (x9.length : Int) then (if x11 < (x10.length : Int) then (spec_l8Seam.l0 k x0 x1 x2 x8 (x9.set ((wrap64 ((wrap64 (x8 - 1)) - x11)) : Int).toNat bt166.1) (x10.set (x11 : Int).toNat bt166.2) (wrap64 (x11 + 1))) else (none)) else (none))) else (none)) else (none)) else (none)) else (none)) else (some (x9, x10))
def spec_l8Seam.f (k : Nat) (a0 : Int) (l1 : List Int) (l2 : List Int) : Option (List Int × List Int) := (spec_l1Zeros.f (wrap64 (Int.tdiv a0 2))).bind fun t158 => ((spec_l1Zeros.f (wrap64 (Int.tdiv a0 2))).bind fun t161 => (spec_l8Seam.l0 k a0 l1 l2 (wrap64 (Int.tdiv a0 2)) t158 t161 0))
theorem spec_l8Seam.mono_l : ∀ k, (∀ y0 y1 y2 y3 y4 y5 y6, LeO (spec_l8Seam.l0 k y0 y1 y2 y3 y4 y5 y6) (spec_l8Seam.l0 (k + 1) y0 y1 y2 y3 y4 y5 y6))
 | 0 => fun _ _ _ _ _ _ _ r h => by simp [spec_l8Seam.l0] at h
 | k + 1 => by
  have ih0 := spec_l8Seam.mono_l k
  ·intro y0 y1 y2 y3 y4 y5 y6
   unfold spec_l8Seam.l0
   repeat' first
   | (with_reducible exact ih0 _ _ _ _ _ _ _)
   | (with_reducible exact LeO.refl _)
   | (with_reducible exact LeO.none _)
   | (with_reducible refine LeO.ite ?_ ?_)
   | (with_reducible refine LeO.bind ?_ (fun _ => ?_))
   | exact ih0 _ _ _ _ _ _ _
   | exact LeO.none _
   | refine LeO.ite ?_ ?_
   | refine LeO.bind ?_ (fun _ => ?_)
theorem spec_l8Seam.mono : ∀ a0 a1 a2 k, LeO (spec_l8Seam.f k a0 a1 a2) (spec_l8Seam.f (k + 1) a0 a1 a2) := by
 intro a0 a1 a2 k
 have ih0 := spec_l8Seam.mono_l k
 unfold spec_l8Seam.f
 repeat' first
   | (with_reducible exact ih0 _ _ _ _ _ _ _)
   | (with_reducible exact LeO.refl _)
   | (with_reducible exact LeO.none _)
   | (with_reducible refine LeO.ite ?_ ?_)
   | (with_reducible refine LeO.bind ?_ (fun _ => ?_))
   | exact ih0 _ _ _ _ _ _ _
   | exact LeO.none _
   | refine LeO.ite ?_ ?_
   | refine LeO.bind ?_ (fun _ => ?_)
def spec_l8Seam.T7 : Bool × List (List Nat × List Nat) := (true, [([], []), ([], []), ([], []), ([], []), ([3], [3]), ([], []), ([4, 5], [4, 5]), ([2, 6], [2, 6]), ([7], [7]), ([], []), ([], []), ([9, 10], [9, 10]), ([11], [11]), ([0, 1, 8, 12], [0, 1, 8, 12]), ([13], [13]), ([14], [14]), ([14], [14]), ([15, 13, 0, 1, 2, 3, 4, 5, 6, 7, 8, 9, 10, 11, 12, 13, 14, 15], [15]), ([16, 17, 0, 1, 2, 3, 4, 5, 6, 7, 8, 9, 10, 11, 12, 13, 14, 15, 16, 17], [16])])
def spec_l8Seam.B7 : List Nat := [0, 0, 0, 0, 8, 0, 56, 124, 252, 0, 0, 1536, 3584, 8191, 16383, 32767, 32767, 65535, 262143]
theorem spec_l8Seam.tab7 : rtab .any (opsOf Try.f102 7) = spec_l8Seam.T7 := by kernel_rfl
theorem spec_l8Seam.bits7 : waitsOk spec_l8Seam.T7.2 spec_l8Seam.B7 = true := by kernel_rfl
set_option maxHeartbeats 8000000 in
set_option maxRecDepth 100000 in
theorem spec_l8Seam.calls (k : Nat) (a0 : Int) (A1 : Option Addr) (c1 : Nat) (l1 : List Int) (A2 : Option Addr) (c2 : Nat) (l2 : List Int) (r1 : List Int) (r2 : List Int) (w : World) (hr1 : Kd.C (Kd.int .i64) w A1 l1.length l1) (hc1 : l1.length ≤ c1) (hr2 : Kd.C (Kd.int .i64) w A2 l2.length l2) (hc2 : l2.length ≤ c2) (h : spec_l8Seam.f k a0 l1 l2 = some (r1, r2)) :
  Calls Try.prog 102 #[.int .i64 a0, .slice A1 l1.length c1, .slice A2 l2.length c2] w fun e w' => ∃ v0_ v1_ : Value, e = .returned (.tuple #[v0_, v1_]) ∧ Kd.R (Kd.int .i64) 2 w' w.heap.size (fun k_ => nb v1_ k_) v0_ r1 ∧ Kd.R (Kd.int .i64) 2 w' w.heap.size (fun k_ => nb v0_ k_) v1_ r2 ∧ Below w.heap.size w w' := by
 have HR1 := aM hr1
 have HC1 := aM hc1
 clear hr1 hc1
 have HR2 := aM hr2
 have HC2 := aM hc2
 clear hr2 hc2
 have HB := aM (Below.refl w.heap.size w)
 have H : ((spec_l1Zeros.f (wrap64 (Int.tdiv a0 2))).bind fun t158 => ((spec_l1Zeros.f (wrap64 (Int.tdiv a0 2))).bind fun t161 => (spec_l8Seam.l0 k a0 l1 l2 (wrap64 (Int.tdiv a0 2)) t158 t161 0))) = some (r1, r2) := h
 clear h
 replace H := Option.bind_eq_some_iff.mp H
 obtain ⟨t158, A40, H⟩ := H
 replace H : ((spec_l1Zeros.f (wrap64 (Int.tdiv a0 2))).bind fun t161 => (spec_l8Seam.l0 k a0 l1 l2 (wrap64 (Int.tdiv a0 2)) t158 t161 0)) = some (r1, r2) := H
 have A4 := aM A40
 clear A40
 replace H := Option.bind_eq_some_iff.mp H
 obtain ⟨t161, A50, H⟩ := H
 replace H : (spec_l8Seam.l0 k a0 l1 l2 (wrap64 (Int.tdiv a0 2)) t158 t161 0) = some (r1, r2) := H
 have A5 := aM A50
 clear A50
 have H' := aM H
 clear H
 go_enter Try.func102, Try.ntmps102
 go_wp2_with (first | ((with_reducible refine gate_callee (f := 136) rfl ?_); refine goesL_ (some 17) rfl rfl Try.func136 kr rfl #[.int .i64 (wrap64 (Int.tdiv a0 2))] rfl mq ?_; (with_reducible refine (spec_l1Zeros.calls (wrap64 (Int.tdiv a0 2)) t158 _ A4.out).mono ?_); rintro e w6 ⟨v159, rfl, ho0, hb⟩; refine ⟨_, rfl, ?_⟩; have HO160 := aM (rG ho0 (bZ bq)); replace HB := aM (bT bq hb); (try clear hb); (try clear ho0)) | ((with_reducible refine gate_callee (f := 136) rfl ?_); refine goesL_ (some 19) rfl rfl Try.func136 kr rfl #[.int .i64 (wrap64 (Int.tdiv a0 2))] rfl mq ?_; (with_reducible refine (spec_l1Zeros.calls (wrap64 (Int.tdiv a0 2)) t161 _ A5.out).mono ?_); rintro e w7 ⟨v162, rfl, ho0, hb⟩; refine ⟨_, rfl, ?_⟩; have HO163 := aM (rG (rW ho0 (rT (rq HO160.out))) (bZ bq)); replace HO160 := aM (rH (rq HO160.out) (rB ho0) hb); replace HB := aM (bT bq hb); (try clear hb); (try clear ho0)))
 go_loopg [11] k (fun kq v11 w' => ∃ (x9_1 : List Int) (x10_1 : List Int) (x11_1 : Int), v11 = .int .i64 x11_1 ∧ Aside0 (spec_l8Seam.l0 kq a0 l1 l2 (wrap64 (Int.tdiv a0 2)) x9_1 x10_1 x11_1 = some (r1, r2)) ∧ Aside0 (kq ≤ k) ∧ Aside0 (Kd.R (Kd.int .i64) 2 w' w.heap.size (fun k_ => nb v162 k_) v159 x9_1) ∧ Aside0 (Kd.R (Kd.int .i64) 2 w' w.heap.size (fun k_ => nb v159 k_) v162 x10_1) ∧ Aside0 (Below w.heap.size w w'))
 case atStart => exact ⟨(t158), (t161), (0), (ex), H', ⟨Nat.le_refl _⟩, aM (rq (rM HO160.out (fun _ hk => hk.2))), aM (rq (rM HO163.out (fun _ hk => hk.2))), ⟨bq⟩⟩
 case round =>
  clear H'
  try clear c1
  try clear c2
  try clear p2
  try clear p6
  obtain ⟨x9_1, x10_1, x11_1, rfl, HA, HK1, HO_9, HO_10, HB⟩ := hrel
  cases gk with
  | zero => exact absurd HA.out (by simp [spec_l8Seam.l0])
  | succ k1 =>
   have H := HA.out
   clear HA
   simp only [spec_l8Seam.l0] at H
   by_cases c8 : x11_1 < (wrap64 (Int.tdiv a0 2))
   ·rw [if_pos c8] at H
    have c8b0 : decide (x11_1 < (wrap64 (Int.tdiv a0 2))) = true := decide_eq_true c8
    clear c8
    obtain ⟨ji9, hji9⟩ : ∃ j_ : Int, (wrap64 ((wrap64 ((wrap64 (Int.tdiv a0 2)) - 1)) - x11_1)) = j_ := ⟨_, rfl⟩
    replace H : (if 0 ≤ (ji9) then (if (ji9) < (l1.length : Int) then (if 0 ≤ x11_1 then (if x11_1 < (l2.length : Int) then ((spec_l8Turn.f a0 x11_1 (rd l1 (ji9)) (rd l2 x11_1)).bind fun bt166 => (if (ji9) < (x9_1.length : Int) then (if x11_1 < (x10_1.length : Int) then (spec_l8Seam.l0 k1 a0 l1 l2 (wrap64 (Int.tdiv a0 2)) (x9_1.set ((ji9) : Int).toNat bt166.1) (x10_1.set (x11_1 : Int).toNat bt166.2) (wrap64 (x11_1 + 1))) else (none)) else (none))) else (none)) else (none)) else (none)) else (none)) = some (r1, r2) := by first | (rw [hji9] at H; exact H) | (simp only [hji9] at H ⊢; exact H)
    have hji9w : (IntKind.i64.wrap ((wrap64 ((wrap64 (Int.tdiv a0 2)) - 1)) - x11_1)) = ji9 := (i64_w _).trans hji9
    by_cases c10 : 0 ≤ (ji9)
    ·rw [if_pos c10] at H
     have c10b0 : decide (0 ≤ (ji9)) = true := decide_eq_true c10
     clear c10
     by_cases c11 : (ji9) < (l1.length : Int)
     ·rw [if_pos c11] at H
      have c11b0 : decide ((ji9) < (l1.length : Int)) = true := decide_eq_true c11
      clear c11
      by_cases c12 : 0 ≤ x11_1
      ·rw [if_pos c12] at H
       have c12b0 : decide (0 ≤ x11_1) = true := decide_eq_true c12
       clear c12
       by_cases c13 : x11_1 < (l2.length : Int)
       ·rw [if_pos c13] at H
        have c13b0 : decide (x11_1 < (l2.length : Int)) = true := decide_eq_true c13
        clear c13
        replace H := Option.bind_eq_some_iff.mp H
        obtain ⟨⟨t166, t167⟩, A140, H⟩ := H
        replace H : (if (ji9) < (x9_1.length : Int) then (if x11_1 < (x10_1.length : Int) then (spec_l8Seam.l0 k1 a0 l1 l2 (wrap64 (Int.tdiv a0 2)) (x9_1.set ((ji9) : Int).toNat t166) (x10_1.set (x11_1 : Int).toNat t167) (wrap64 (x11_1 + 1))) else (none)) else (none)) = some (r1, r2) := H
        have A14 := aM A140
        clear A140
        by_cases c15 : (ji9) < (x9_1.length : Int)
        ·rw [if_pos c15] at H
         have c15b0 : decide ((ji9) < (x9_1.length : Int)) = true := decide_eq_true c15
         clear c15
         obtain ⟨y168, hy168⟩ : ∃ y_ : List Int, y_ = (x9_1.set ((ji9) : Int).toNat t166) := ⟨_, rfl⟩
         replace H : (if x11_1 < (x10_1.length : Int) then (spec_l8Seam.l0 k1 a0 l1 l2 (wrap64 (Int.tdiv a0 2)) y168 (x10_1.set (x11_1 : Int).toNat t167) (wrap64 (x11_1 + 1))) else (none)) = some (r1, r2) := by first | (rw [hy168]; with_reducible exact H) | (have H2_ := (Option.bind_some _ _).symm.trans H; rw [hy168]; with_reducible exact H2_) | (have H2_ := (Option.bind_some _ _).symm.trans H; with_reducible exact H2_) | with_reducible exact H | (rw [hy168]; exact H) | exact H
         have Ny168 := aM hy168
         clear hy168
         by_cases c17 : x11_1 < (x10_1.length : Int)
         ·rw [if_pos c17] at H
          have c17b0 : decide (x11_1 < (x10_1.length : Int)) = true := decide_eq_true c17
          clear c17
          obtain ⟨y169, hy169⟩ : ∃ y_ : List Int, y_ = (x10_1.set (x11_1 : Int).toNat t167) := ⟨_, rfl⟩
          replace H : (spec_l8Seam.l0 k1 a0 l1 l2 (wrap64 (Int.tdiv a0 2)) y168 y169 (wrap64 (x11_1 + 1))) = some (r1, r2) := by first | (rw [hy169]; with_reducible exact H) | (have H2_ := (Option.bind_some _ _).symm.trans H; rw [hy169]; with_reducible exact H2_) | (have H2_ := (Option.bind_some _ _).symm.trans H; with_reducible exact H2_) | with_reducible exact H | (rw [hy169]; exact H) | exact H
          have Ny169 := aM hy169
          clear hy169
          have H' := aM H
          clear H
          try go_wp2
          replace HO_9 := aM (rD HO_9.out)
          replace HO_10 := aM (rD HO_10.out)
          replace HB := aM (bD HB.out)
          have p164 : 0 ≤ ((ji9) : Int) := of_decide_eq_true (by first | (with_reducible assumption) | assumption)
          have q164 : (ji9) < (l1.length : Int) := of_decide_eq_true (by first | (with_reducible assumption) | assumption)
          obtain ⟨ad164, e164, hx164_0⟩ := Kd.at_int HR1.out (ji9) p164 q164
          have hw164_0 := hx164_0
          cases e164
          replace hx164_0 := (HB.out.cell (World.block_lt_of_cell? w _ hx164_0)).trans hx164_0
          replace p164 := eq_true p164
          replace q164 := eq_true q164
          have p165 : 0 ≤ (x11_1 : Int) := of_decide_eq_true (by first | (with_reducible assumption) | assumption)
          have q165 : x11_1 < (l2.length : Int) := of_decide_eq_true (by first | (with_reducible assumption) | assumption)
          obtain ⟨ad165, e165, hx165_0⟩ := Kd.at_int HR2.out x11_1 p165 q165
          have hw165_0 := hx165_0
          cases e165
          replace hx165_0 := (HB.out.cell (World.block_lt_of_cell? w _ hx165_0)).trans hx165_0
          replace p165 := eq_true p165
          replace q165 := eq_true q165
          refine start_ (n := 19) (S := fun w' => w'.cell? (ad164.add ((ji9)).toNat) = some (.int .i64 (rd l1 (ji9))) ∧ w'.cell? (ad165.add (x11_1).toNat) = some (.int .i64 (rd l2 x11_1))) (ds := []) #[N,N,N,N,N,N,N,N,N,N,N,N,N,N,N,N,N,N,N] kr rfl rfl ⟨((HB.out.cell (World.block_lt_of_cell? w _ hw164_0)).trans hw164_0), ((HB.out.cell (World.block_lt_of_cell? w _ hw165_0)).trans hw165_0)⟩ (fun hHeld => ?_); refine with_tabW spec_l8Seam.tab7 spec_l8Seam.bits7 (fun HT_ HW_ => ?_)
          generalize wr.drew = w19 at HO_9 HO_10 HB hx164_0 hx165_0 hHeld ⊢
          refine pp HT_ (N := some 26) 0 #[Y,N,N,N,N,N,N,N,N,N,N,N,N,N,N,N,N,N,N] ?_
          refine pp HT_ (N := some 27) 1 #[Y,Y,N,N,N,N,N,N,N,N,N,N,N,N,N,N,N,N,N] ?_
          refine pp HT_ (N := some 28) 2 #[Y,Y,Y,N,N,N,N,N,N,N,N,N,N,N,N,N,N,N,N] ?_
          refine pp HT_ (N := some 29) 3 #[Y,Y,Y,Y,N,N,N,N,N,N,N,N,N,N,N,N,N,N,N] ?_
          refine pp HT_ (N := some 30) 4 #[Y,Y,Y,Y,Y,N,N,N,N,N,N,N,N,N,N,N,N,N,N] ?_
          refine pp HT_ (N := some 31) 5 #[Y,Y,Y,Y,Y,Y,N,N,N,N,N,N,N,N,N,N,N,N,N] ?_
          refine pp HT_ (N := some 32) 6 #[Y,Y,Y,Y,Y,Y,Y,N,N,N,N,N,N,N,N,N,N,N,N] ?_
          refine pp HT_ (N := some 33) 7 #[Y,Y,Y,Y,Y,Y,Y,Y,N,N,N,N,N,N,N,N,N,N,N] ?_
          refine pp HT_ (N := some 35) 9 #[Y,Y,Y,Y,Y,Y,Y,Y,N,Y,N,N,N,N,N,N,N,N,N] ?_
          refine pp HT_ (N := some 36) 10 #[Y,Y,Y,Y,Y,Y,Y,Y,N,Y,Y,N,N,N,N,N,N,N,N] ?_
          refine pp HT_ (N := some 37) 11 #[Y,Y,Y,Y,Y,Y,Y,Y,N,Y,Y,Y,N,N,N,N,N,N,N] ?_
          refine take_ (i := 8) (N := some 34) (v := ?_) (a' := ?_) #[Y,Y,Y,Y,Y,Y,Y,Y,Y,Y,Y,Y,N,N,N,N,N,N,N] rfl rfl (take_ofW HT_.out HW_.out kr) (fun _ _ _ h => h) (Or.inl ⟨by rfl, ?_⟩) hHeld ?_ ?_
          rotate_left
          ·rintro w' ⟨s0, s1⟩
           go_simp
           with_reducible rfl
          rotate_left
          ·simp only [Act.put, pa, pb, pc, i64_w, i32_w]
           rfl
          refine take_ (i := 12) (N := some 38) (v := ?_) (a' := ?_) #[Y,Y,Y,Y,Y,Y,Y,Y,Y,Y,Y,Y,Y,N,N,N,N,N,N] rfl rfl (take_ofW HT_.out HW_.out kr) (fun _ _ _ h => h) (Or.inl ⟨by rfl, ?_⟩) hHeld ?_ ?_
          rotate_left
          ·rintro w' ⟨s0, s1⟩
           go_simp
           with_reducible rfl
          rotate_left
          ·simp only [Act.put, pa, pb, pc, i64_w, i32_w]
           rfl
          refine one_ (i := 13) (N := some 39) #[Y,Y,Y,Y,Y,Y,Y,Y,Y,Y,Y,Y,Y,Y,N,N,N,N,N] rfl rfl (one_of HT_.out kr) (by decide) (fun K hK => ?_)
          refine goes_ Try.func135 kr rfl #[.int .i64 a0, .int .i64 x11_1, .int .i64 (rd l1 (ji9)), .int .i64 (rd l2 x11_1)] (by rfl) rfl rfl (by (try simp only [List.map_toArray, List.map_cons, List.map_nil]); first | done | (simp only [hji9]; rfl) | rfl | (simp only [List.length_drop, List.length_take]; rfl)) ?_
          with_reducible refine (spec_l8Turn.calls a0 x11_1 (rd l1 (ji9)) (rd l2 x11_1) t166 t167 _ A14.out).mono ?_
          rintro e w20 ⟨rfl, hb⟩
          refine ⟨_, rfl, ?_⟩
          replace HO_9 := aM (rL (rq HO_9.out) hb)
          replace HO_10 := aM (rL (rq HO_10.out) hb)
          replace HB := aM (bT bq hb)
          (try clear hb)
          (try clear hb2)
          (try clear hk)
          (try clear hi)
          refine hK.out _ _ ⟨((HB.out.cell (World.block_lt_of_cell? w _ hw164_0)).trans hw164_0), ((HB.out.cell (World.block_lt_of_cell? w _ hw165_0)).trans hw165_0)⟩ (fun hHeld => ?_)
          clear hK K
          refine norm_ (a' := ?_) ?_ ?_
          rotate_left
          ·show Act.put _ (some 39) _ = _
           simp only [Act.put, pa, pb, pc, i64_w, i32_w]
           rfl
          refine pp HT_ (N := some 25) 14 #[Y,Y,Y,Y,Y,Y,Y,Y,Y,Y,Y,Y,Y,Y,Y,N,N,N,N] ?_
          refine pp HT_ (N := some 40) 15 #[Y,Y,Y,Y,Y,Y,Y,Y,Y,Y,Y,Y,Y,Y,Y,Y,N,N,N] ?_
          refine pp HT_ (N := some 41) 16 #[Y,Y,Y,Y,Y,Y,Y,Y,Y,Y,Y,Y,Y,Y,Y,Y,Y,N,N] ?_
          refine pp HT_ (N := some 12) 17 #[Y,Y,Y,Y,Y,Y,Y,Y,Y,Y,Y,Y,Y,Y,Y,Y,Y,Y,N] ?_
          refine pp HT_ (N := some 13) 18 #[Y,Y,Y,Y,Y,Y,Y,Y,Y,Y,Y,Y,Y,Y,Y,Y,Y,Y,Y] ?_
          refine done_ (done_of HT_.out kr) ?_
          have p16 : 0 ≤ ((ji9) : Int) := of_decide_eq_true (by first | (with_reducible assumption) | assumption)
          have q16 : ((ji9) : Int) < ((x9_1.length : Int) : Int) := of_decide_eq_true (by first | (with_reducible assumption) | assumption)
          obtain ⟨go16, co16, eo16, gb16, gl16, cl16, HG16⟩ := Kd.R_form HO_9.out (by omega)
          (first | cases eo16 | (injection eo16 with ea_ en_ ec_; (first | subst ea_ | (injection ea_ with ea_; subst ea_)); subst ec_; clear en_))
          have GB16 := aM gb16
          have GG16 := aM HG16
          clear gb16 gl16 HG16
          obtain ⟨hx16_0, hf16_0⟩ := Kd.R_celln 0 HO_9.out ((ji9) : Int) p16 q16
          replace p16 := eq_true p16
          replace q16 := eq_true q16
          obtain ⟨hy21_, hz21_⟩ := Kd.R_celln 0 HO_9.out ((ji9) : Int) (of_decide_eq_true (by first | (with_reducible assumption) | assumption)) (of_decide_eq_true (by first | (with_reducible assumption) | assumption))
          have HP21 := Kd.R_putg HO_9.out ((ji9) : Int) t166
          try go_wp2_with (first | ((with_reducible refine gate_store (t := 2) (p := 48) rfl ?_); refine store_event (t := 2) (p := 48) (v := ?vo_w22) (w1 := (w20.setCell ⟨go16, ((ji9) : Int).toNat, none⟩ (.int .i64 t166))) ?hg ?ho ?hn ?hr ?_; (case ho => rfl); (case hg => rfl); (case hn => rfl); (case hr => first | (go_simp; done) | (go_simp; rfl)); intro w22 hw; have hg : w20.grownBy w22 (some go16) := (by rw [hw]; exact HP21.2); have hp_ : Kd.R (Kd.int .i64) 2 w22 w.heap.size (fun k_ => nb v162 k_) (.slice (some ⟨go16, 0, none⟩) x9_1.length co16) y168 := (by rw [hw, Ny168.out]; exact HP21.1); clear HP21; replace HO_9 := aM (hp_); replace HO_10 := aM (Kd.R_after (v := (.slice (some ⟨go16, 0, none⟩) x9_1.length co16)) (v1 := (.slice (some ⟨go16, 0, none⟩) x9_1.length co16)) (ok := (fun _ => True)) (rq (rM HO_10.out (fun _ hk => ⟨trivial, hk⟩))) hg (.inl rfl)); replace HB := aM ((by rw [hw]; exact bS (HB.out) GB16.out : Below w.heap.size w w22)); clear hg hw hp_; have p18 : 0 ≤ (x11_1 : Int) := of_decide_eq_true (by first | (with_reducible assumption) | assumption); have q18 : (x11_1 : Int) < ((x10_1.length : Int) : Int) := of_decide_eq_true (by first | (with_reducible assumption) | assumption); obtain ⟨go18, co18, eo18, gb18, gl18, cl18, HG18⟩ := Kd.R_form HO_10.out (by omega); (first | cases eo18 | (injection eo18 with ea_ en_ ec_; (first | subst ea_ | (injection ea_ with ea_; subst ea_)); subst ec_; clear en_)); have GB18 := aM gb18; have GG18 := aM HG18; clear gb18 gl18 HG18; obtain ⟨hx18_0, hf18_0⟩ := Kd.R_celln 0 HO_10.out (x11_1 : Int) p18 q18; replace p18 := eq_true p18; replace q18 := eq_true q18; have n_ := aM (rM (ok' := (fun k_ => some k_ ≠ (.slice (some ⟨go16, 0, none⟩) x9_1.length co16 : Value).ownBlock)) HO_10.out (fun k_ hk => hk.2)); clear HO_10; have HO_10 := n_; clear n_; obtain ⟨hy23_, hz23_⟩ := Kd.R_celln 0 HO_10.out (x11_1 : Int) (of_decide_eq_true (by first | (with_reducible assumption) | assumption)) (of_decide_eq_true (by first | (with_reducible assumption) | assumption)); have HP23 := Kd.R_putg HO_10.out (x11_1 : Int) t167) | ((with_reducible refine gate_store (t := 2) (p := 52) rfl ?_); refine store_event (t := 2) (p := 52) (v := ?vo_w24) (w1 := (w22.setCell ⟨go18, (x11_1 : Int).toNat, none⟩ (.int .i64 t167))) ?hg ?ho ?hn ?hr ?_; (case ho => rfl); (case hg => rfl); (case hn => rfl); (case hr => first | (go_simp; done) | (go_simp; rfl)); intro w24 hw; have hg : w22.grownBy w24 (some go18) := (by rw [hw]; exact HP23.2); have hp_ : Kd.R (Kd.int .i64) 2 w24 w.heap.size (fun k_ => some k_ ≠ (.slice (some ⟨go16, 0, none⟩) x9_1.length co16 : Value).ownBlock) (.slice (some ⟨go18, 0, none⟩) x10_1.length co18) y169 := (by rw [hw, Ny169.out]; exact HP23.1); clear HP23; replace HO_9 := aM (Kd.R_after (v := (.slice (some ⟨go18, 0, none⟩) x10_1.length co18)) (v1 := (.slice (some ⟨go18, 0, none⟩) x10_1.length co18)) (ok := (fun _ => True)) (rq (rM HO_9.out (fun _ hk => ⟨trivial, hk⟩))) hg (.inl rfl)); replace HO_10 := aM (hp_); replace HB := aM ((by rw [hw]; exact bS (HB.out) GB18.out : Below w.heap.size w w24)); clear hg hw hp_))
          go_roundg k1
          case measure => have := HK1.out; omega
          case rel => exact ⟨(y168), (y169), (wrap64 (x11_1 + 1)), (ex), H', ⟨by have := HK1.out; omega⟩, aM (rq (rM HO_9.out (fun _ hk => hk.2))), aM (rq HO_10.out), ⟨bq⟩⟩
         ·rw [if_neg c17] at H
          exact absurd H (by simp)
        ·rw [if_neg c15] at H
         exact absurd H (by simp)
       ·rw [if_neg c13] at H
        exact absurd H (by simp)
      ·rw [if_neg c12] at H
       exact absurd H (by simp)
     ·rw [if_neg c11] at H
      exact absurd H (by simp)
    ·rw [if_neg c10] at H
     exact absurd H (by simp)
   ·rw [if_neg c8] at H
    have c8b0 : decide (x11_1 < (wrap64 (Int.tdiv a0 2))) = false := decide_eq_false c8
    clear c8
    simp only [Option.some.injEq, Prod.mk.injEq] at H
    obtain ⟨rfl, rfl⟩ := H
    go_wp2
    go_ret2
    exact ⟨_, _, ew, by (with_reducible repeat (first | apply rA | apply rN | apply rD)); exact HO_9.out, by (with_reducible repeat (first | apply rA | apply rN | apply rD)); exact HO_10.out, bq⟩

end Go.Proofs.Ytmhnpogjkbmmnaa.PFnFrameBounds
