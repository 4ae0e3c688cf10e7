-- Written by a program of this session: wip/mkprint.py over the kit's print, with contracts proved by hand (wip/given.py)
-- shortest of all
-- told shortest
-- told shorter still
-- shortened
-- told short
-- worlds by letters
-- squeezed
import Derived.Test.YtmhnpogjkbmmnaaPFnLapsx0
import Derived.Test.YtmhnpogjkbmmnaaPFnLapsx1
import Derived.Test.YtmhnpogjkbmmnaaPFnLapsx2
import Derived.Test.YtmhnpogjkbmmnaaPFnLapsx4
import Derived.Test.YtmhnpogjkbmmnaaPFnLapsx5
namespace Go.Proofs.Ytmhnpogjkbmmnaa.PFnLaps
open Go.RowKit Go.Proofs.YtmhnpogjkbmmnaaW.PrintWords Go.Proofs.YtmhnpogjkbmmnaaW.PrintLast Go.Proofs.YtmhnpogjkbmmnaaW.PrintMore
open Go.Proofs.YtmhnpogjkbmmnaaW.PrintWords.Kd renaming R_alloc → rA, R_drewN → rN, R_drew → rD, R_far → rF, R_mono → rM, R_base → rB, R_new' → rW, R_below → rL, R_lt → rT, R_lower → rG, R_elder' → rH, R_reads' → rR, C_below → cB
open Go.Proofs.YtmhnpogjkbmmnaaW.PrintMore.Kd renaming R_told → rO, R_old → rE
open Go.Proofs.YtmhnpogjkbmmnaaW.PrintWords renaming below_drew1 → bD, below_step → bT, below_size → bZ, blk_drewN → kN, blk_drew → kD, blk_alloc → kA, blk_below → kB, blk_cell → kC, blk_frozen → kF
open Go.Proofs.YtmhnpogjkbmmnaaW.PrintWords.Aside0 renaming mk → aM
attribute [local go_sem] max2_int min2_int max_two min_two max_three min_three max_four min_four   -- for this text's walks alone
set_option linter.unusedVariables false
set_option linter.unusedSimpArgs false

/-! ### impl_PlayBlock: function 20 -/
def impl_PlayBlock.f (k : Nat) (a0_0 : Int) (l0_1 : List Int) (l0_2 : List Int) (l1 : List Int) : Option (Int × Int × List Int × List Int × List Int) := (impl_SynthFault.f k a0_0 l0_1 l0_2).bind fun t217 => ((impl_codeIf.f ((l1.length : Int) != a0_0) 2).bind fun t218 => ((impl_gatherFault.f k l1).bind fun t219 => ((impl_first.f k (([t217, t218, t219] : List Int))).bind fun t223 => (if t223 = 0 then ((impl_samples.f).bind fun _ => ((impl_undo_gather.f k impl_samples_1.f impl_part.f l1).bind fun t227 => (if 0 ≤ (wrap64 (Int.tdiv a0_0 2)) then (if (wrap64 (Int.tdiv a0_0 2)) ≤ (t227.length : Int) then ((impl_seam.f k l0_2 (t227.take ((wrap64 (Int.tdiv a0_0 2)) : Int).toNat) (impl_samples_1.f a0_0)).bind fun bt235 => ((slices_Clone_int64_int64.f (t227.drop ((wrap64 (Int.tdiv a0_0 2)) : Int).toNat)).bind fun t246 => ((slices_Concat_int64_int64.f k (([l0_1, bt235.1] : List (List Int)))).bind fun t252 => (some (0, a0_0, bt235.2, t246, t252))))) else (none)) else (none)))) else (some (t223, 0, ([] : List Int), ([] : List Int), ([] : List Int)))))))
theorem impl_PlayBlock.mono : ∀ a0 a1 a2 a3 k, LeO (impl_PlayBlock.f k a0 a1 a2 a3) (impl_PlayBlock.f (k + 1) a0 a1 a2 a3) := by
 intro a0 a1 a2 a3 k
 unfold impl_PlayBlock.f
 repeat' first
   | (with_reducible exact impl_SynthFault.mono _ _ _ _)
   | (with_reducible exact impl_first.mono _ _)
   | (with_reducible exact impl_gatherFault.mono _ _)
   | (with_reducible exact impl_seam.mono _ _ _ _)
   | (with_reducible exact impl_undo_gather.mono _ _ _ _)
   | (with_reducible exact slices_Concat_int64_int64.mono _ _)
   | (with_reducible exact LeO.refl _)
   | (with_reducible exact LeO.none _)
   | (with_reducible refine LeO.ite ?_ ?_)
   | (with_reducible refine LeO.bind ?_ (fun _ => ?_))
   | exact impl_SynthFault.mono _ _ _ _
   | exact impl_first.mono _ _
   | exact impl_gatherFault.mono _ _
   | exact impl_seam.mono _ _ _ _
   | exact impl_undo_gather.mono _ _ _ _
   | exact slices_Concat_int64_int64.mono _ _
   | exact LeO.none _
   | refine LeO.ite ?_ ?_
   | refine LeO.bind ?_ (fun _ => ?_)
def impl_PlayBlock.T1 : Bool × List (List Nat × List Nat) := (true, [([], []), ([0], [0]), ([], []), ([2], [2]), ([], []), ([4], [4]), ([3, 5], [3, 5]), ([6, 1], [6]), ([], []), ([8, 7], [8]), ([1, 7, 9], [1, 7, 9]), ([10, 9], [10]), ([11, 11, 0, 1, 2, 3, 4, 5, 6, 7, 8, 9, 10, 11], [11])])
def impl_PlayBlock.B1 : List Nat := [0, 1, 0, 4, 0, 16, 60, 127, 0, 511, 1023, 2047, 4095]
theorem impl_PlayBlock.tab1 : rtab .any (opsOf Try.f20 1) = impl_PlayBlock.T1 := by kernel_rfl
theorem impl_PlayBlock.bits1 : waitsOk impl_PlayBlock.T1.2 impl_PlayBlock.B1 = true := by kernel_rfl
def impl_PlayBlock.T6 : Bool × List (List Nat × List Nat) := (true, [([], []), ([0], [0]), ([], []), ([], []), ([2, 3], [2, 3]), ([], []), ([1, 4, 5], [1, 4, 5]), ([6], [6]), ([7], [7]), ([7], [7]), ([8, 6, 0, 1, 2, 3, 4, 5, 6, 7, 8], [8]), ([9, 10, 0, 1, 2, 3, 4, 5, 6, 7, 8, 9, 10], [9])])
def impl_PlayBlock.B6 : List Nat := [0, 1, 0, 0, 12, 0, 63, 127, 255, 255, 511, 2047]
theorem impl_PlayBlock.tab6 : rtab .any (opsOf Try.f20 6) = impl_PlayBlock.T6 := by kernel_rfl
theorem impl_PlayBlock.bits6 : waitsOk impl_PlayBlock.T6.2 impl_PlayBlock.B6 = true := by kernel_rfl
def impl_PlayBlock.T7 : Bool × List (List Nat × List Nat) := (true, [([], []), ([0], [0]), ([], []), ([], []), ([], []), ([3, 4], [3, 4]), ([5], [5]), ([1, 2, 6], [1, 2, 6]), ([], []), ([8], [8]), ([], []), ([9, 10], [9, 10]), ([11, 6], [11]), ([7, 12], [7, 12]), ([13, 12, 0, 1, 2, 3, 4, 5, 6, 7, 8, 9, 10, 11, 12, 13], [13])])
def impl_PlayBlock.B7 : List Nat := [0, 1, 0, 0, 0, 24, 56, 127, 0, 256, 0, 1792, 3960, 8191, 16383]
theorem impl_PlayBlock.tab7 : rtab .any (opsOf Try.f20 7) = impl_PlayBlock.T7 := by kernel_rfl
theorem impl_PlayBlock.bits7 : waitsOk impl_PlayBlock.T7.2 impl_PlayBlock.B7 = true := by kernel_rfl
set_option maxHeartbeats 8000000 in
set_option maxRecDepth 100000 in
theorem impl_PlayBlock.callsV (k : Nat) (a0_0 : Int) (P0_1_ : Nat → Prop) (A0_1 : Option Addr) (c0_1 : Nat) (l0_1 : List Int) (A0_2 : Option Addr) (c0_2 : Nat) (l0_2 : List Int) (A1 : Option Addr) (c1 : Nat) (l1 : List Int) (r1 : Int) (r2 : Int) (r3 : List Int) (r4 : List Int) (r5 : List Int) (w : World) (hs0_1 : Kd.V (Kd.int .i64) 2 w w.heap.size (fun k_ => P0_1_ k_) (.slice A0_1 l0_1.length c0_1) l0_1) (hr0_2 : Kd.C (Kd.int .i64) w A0_2 l0_2.length l0_2) (hc0_2 : l0_2.length ≤ c0_2) (hr1 : Kd.C (Kd.int .i64) w A1 l1.length l1) (hc1 : l1.length ≤ c1) (h : impl_PlayBlock.f k a0_0 l0_1 l0_2 l1 = some (r1, r2, r3, r4, r5)) :
  Calls Try.prog 20 #[.agg #[.int .i64 a0_0, .slice A0_1 l0_1.length c0_1, .slice A0_2 l0_2.length c0_2], .slice A1 l1.length c1] w fun e w' => ∃ v2_ v3_ v4_ : Value, e = .returned (.agg #[.int .i64 r1, .int .i64 r2, v2_, v3_, v4_]) ∧ Kd.R (Kd.int .i64) 2 w' w.heap.size (fun k_ => (w.heap.size ≤ k_) ∧ nb v3_ k_ ∧ nb v4_ k_) v2_ r3 ∧ Kd.R (Kd.int .i64) 2 w' w.heap.size (fun k_ => (w.heap.size ≤ k_) ∧ nb v2_ k_ ∧ nb v4_ k_) v3_ r4 ∧ Kd.R (Kd.int .i64) 2 w' w.heap.size (fun k_ => (w.heap.size ≤ k_) ∧ nb v2_ k_ ∧ nb v3_ k_) v4_ r5 ∧ Below w.heap.size w w' := by
 have hu35 := Try.underlying35
 have hu37 := Try.underlying37
 have hu94 := Try.underlying94
 have HO0_1 := aM (show Kd.V (Kd.int .i64) 2 w w.heap.size (fun k_ => (P0_1_ k_ ∨ w.heap.size ≤ k_)) (.slice A0_1 l0_1.length c0_1) l0_1 from Kd.V_mono hs0_1 (fun k_ hk => .inl hk))
 have HR0_2 := aM hr0_2
 have HC0_2 := aM hc0_2
 clear hr0_2 hc0_2
 have HR1 := aM hr1
 have HC1 := aM hc1
 clear hr1 hc1
 have HB := aM (Below.refl w.heap.size w)
 have H : ((impl_SynthFault.f k a0_0 l0_1 l0_2).bind fun t217 => ((impl_codeIf.f ((l1.length : Int) != a0_0) 2).bind fun t218 => ((impl_gatherFault.f k l1).bind fun t219 => ((impl_first.f k (([t217, t218, t219] : List Int))).bind fun t223 => (if t223 = 0 then ((impl_samples.f).bind fun _ => ((impl_undo_gather.f k impl_samples_1.f impl_part.f l1).bind fun t227 => (if 0 ≤ (wrap64 (Int.tdiv a0_0 2)) then (if (wrap64 (Int.tdiv a0_0 2)) ≤ (t227.length : Int) then ((impl_seam.f k l0_2 (t227.take ((wrap64 (Int.tdiv a0_0 2)) : Int).toNat) (impl_samples_1.f a0_0)).bind fun bt235 => ((slices_Clone_int64_int64.f (t227.drop ((wrap64 (Int.tdiv a0_0 2)) : Int).toNat)).bind fun t246 => ((slices_Concat_int64_int64.f k (([l0_1, bt235.1] : List (List Int)))).bind fun t252 => (some (0, a0_0, bt235.2, t246, t252))))) else (none)) else (none)))) else (some (t223, 0, ([] : List Int), ([] : List Int), ([] : List Int)))))))) = some (r1, r2, r3, r4, r5) := h
 clear h
 replace H := bo H
 obtain ⟨t217, A3, H⟩ := H
 replace H := bz H
 replace H := bo H
 obtain ⟨t218, A4, H⟩ := H
 replace H := bz H
 replace H := bo H
 obtain ⟨t219, A5, H⟩ := H
 replace H := bz H
 obtain ⟨y220, hy220⟩ : ∃ y_ : List Int, y_ = (([t217, t218, t219] : List Int)) := ⟨_, rfl⟩
 replace H : ((impl_first.f k y220).bind fun t223 => (if t223 = 0 then ((impl_samples.f).bind fun _ => ((impl_undo_gather.f k impl_samples_1.f impl_part.f l1).bind fun t227 => (if 0 ≤ (wrap64 (Int.tdiv a0_0 2)) then (if (wrap64 (Int.tdiv a0_0 2)) ≤ (t227.length : Int) then ((impl_seam.f k l0_2 (t227.take ((wrap64 (Int.tdiv a0_0 2)) : Int).toNat) (impl_samples_1.f a0_0)).bind fun bt235 => ((slices_Clone_int64_int64.f (t227.drop ((wrap64 (Int.tdiv a0_0 2)) : Int).toNat)).bind fun t246 => ((slices_Concat_int64_int64.f k (([l0_1, bt235.1] : List (List Int)))).bind fun t252 => (some (0, a0_0, bt235.2, t246, t252))))) else (none)) else (none)))) else (some (t223, 0, ([] : List Int), ([] : List Int), ([] : List Int))))) = some (r1, r2, r3, r4, r5) := hl hy220 H
 have Ny220 := aM hy220
 clear hy220
 replace H := bo H
 obtain ⟨t223, A6, H⟩ := H
 replace H := bz H
 by_cases c7 : t223 = 0
 ·rw [if_pos c7] at H
  have c7b0 : (t223 == 0) = true := beq_iff_eq.mpr c7
  have c7b1 : (t223 != 0) = false := bne_eq_false_iff_eq.mpr c7
  clear c7
  replace H := bo H
  obtain ⟨_, A8, H⟩ := H
  replace H := bz H
  replace H := bo H
  obtain ⟨t227, A9, H⟩ := H
  replace H := bz H
  obtain ⟨ji10, hji10⟩ : ∃ j_ : Int, (wrap64 (Int.tdiv a0_0 2)) = j_ := ⟨_, rfl⟩
  replace H : (if 0 ≤ (ji10) then (if (ji10) ≤ (t227.length : Int) then ((impl_seam.f k l0_2 (t227.take ((ji10) : Int).toNat) (impl_samples_1.f a0_0)).bind fun bt235 => ((slices_Clone_int64_int64.f (t227.drop ((ji10) : Int).toNat)).bind fun t246 => ((slices_Concat_int64_int64.f k (([l0_1, bt235.1] : List (List Int)))).bind fun t252 => (some (0, a0_0, bt235.2, t246, t252))))) else (none)) else (none)) = some (r1, r2, r3, r4, r5) := by first | (rw [hji10] at H; exact H) | (simp only [hji10] at H ⊢; exact H)
  (try rw [hji10] at A3)
  (try rw [hji10] at A4)
  (try rw [hji10] at A5)
  (try rw [hji10] at A6)
  (try rw [hji10] at A8)
  (try rw [hji10] at A9)
  have hji10w : (IntKind.i64.wrap (Int.tdiv a0_0 2)) = ji10 := (i64_w _).trans hji10
  by_cases c11 : 0 ≤ (ji10)
  ·rw [if_pos c11] at H
   have c11b0 := eq_true c11
   have c11b1 : decide (0 ≤ (ji10)) = true := decide_eq_true c11
   clear c11
   by_cases c12 : (ji10) ≤ (t227.length : Int)
   ·rw [if_pos c12] at H
    have c12b0 := eq_true c12
    have c12b1 : decide ((ji10) ≤ (t227.length : Int)) = true := decide_eq_true c12
    clear c12
    obtain ⟨y230, hy230⟩ : ∃ y_ : List Int, y_ = (t227.take ((ji10) : Int).toNat) := ⟨_, rfl⟩
    replace H : ((impl_seam.f k l0_2 y230 (impl_samples_1.f a0_0)).bind fun bt235 => ((slices_Clone_int64_int64.f (t227.drop ((ji10) : Int).toNat)).bind fun t246 => ((slices_Concat_int64_int64.f k (([l0_1, bt235.1] : List (List Int)))).bind fun t252 => (some (0, a0_0, bt235.2, t246, t252))))) = some (r1, r2, r3, r4, r5) := hl hy230 H
    have Ny230 := aM hy230
    clear hy230
    replace H := bo H
    obtain ⟨⟨t235, t236⟩, A13, H⟩ := H
    replace H := bz H
    have c14b0 := eq_true (of_decide_eq_true (by first | (with_reducible assumption) | assumption) : 0 ≤ (ji10))
    have c15b0 := eq_true (of_decide_eq_true (by first | (with_reducible assumption) | assumption) : (ji10) ≤ (t227.length : Int))
    obtain ⟨y241, hy241⟩ : ∃ y_ : List Int, y_ = (t227.drop ((ji10) : Int).toNat) := ⟨_, rfl⟩
    replace H : ((slices_Clone_int64_int64.f y241).bind fun t246 => ((slices_Concat_int64_int64.f k (([l0_1, t235] : List (List Int)))).bind fun t252 => (some (0, a0_0, t236, t246, t252)))) = some (r1, r2, r3, r4, r5) := hl hy241 H
    have Ny241 := aM hy241
    clear hy241
    replace H := bo H
    obtain ⟨t246, A16, H⟩ := H
    replace H := bz H
    obtain ⟨y249, hy249⟩ : ∃ y_ : List (List Int), y_ = (([l0_1, t235] : List (List Int))) := ⟨_, rfl⟩
    replace H : ((slices_Concat_int64_int64.f k y249).bind fun t252 => (some (0, a0_0, t236, t246, t252))) = some (r1, r2, r3, r4, r5) := hl hy249 H
    have Ny249 := aM hy249
    clear hy249
    replace H := bo H
    obtain ⟨t252, A17, H⟩ := H
    replace H := bz H
    simp only [Option.some.injEq, Prod.mk.injEq] at H
    obtain ⟨rfl, rfl, rfl, rfl, rfl⟩ := H
    go_enter Try.func20, Try.ntmps20
    try go_wp2_with (first | ((with_reducible refine gate_dst (N := 2) rfl ?_); refine box_event ?hg (N := 2) ?hd (cs := #[.int .i64 a0_0, .slice A0_1 l0_1.length c0_1, .slice A0_2 l0_2.length c0_2]) (t := 35) ?hr ?_; (case hd => rfl); (case hg => rfl); (case hr => first | (go_simp; done) | (go_simp; rfl)); intro gb215 hg w18 hbox hb; replace HO0_1 := aM (Kd.V_below (Kd.V_elderB (vq HO0_1.out) gb215 (Nat.le_of_eq hg.symm)) hb); have BK215 := aM (hbox); have GW215 := aM ((by rw [hg]; exact (bZ bq) : w.heap.size ≤ gb215)); have GE215 := aM ((by rw [hg]; exact (bZ bq) : w.heap.size ≤ gb215)); replace HB := aM (bT bq hb); clear hb hbox hg) | ((with_reducible refine gate_dst (N := 4) rfl ?_); refine box_event ?hg (N := 4) ?hd (cs := #[.int .i64 0, .int .i64 0, .slice none 0 0, .slice none 0 0, .slice none 0 0]) (t := 37) ?hr ?_; (case hd => rfl); (case hg => rfl); (case hr => first | (go_simp; done) | (go_simp; rfl)); intro gb216 hg w19 hbox hb; replace HO0_1 := aM (Kd.V_below (Kd.V_elderB (vq HO0_1.out) gb216 (Nat.le_of_eq hg.symm)) hb); have BK216 := aM (hbox); have GW216 := aM ((by rw [hg]; exact (bZ bq) : w.heap.size ≤ gb216)); have GE216 := aM ((by rw [hg]; exact (bZ bq) : w.heap.size ≤ gb216)); replace HB := aM (bT bq hb); have NB215_216 := aM ((by rw [hg]; exact Nat.ne_of_lt (blk_lt (kq BK215.out)) : gb215 ≠ gb216)); have NB216_215 := aM ((by rw [hg]; exact Nat.ne_of_gt (blk_lt (kq BK215.out)) : gb216 ≠ gb215)); replace BK215 := aM (kB (kq BK215.out) hb); clear hb hbox hg))
    replace HO0_1 := aM (Kd.V_drew HO0_1.out)
    replace BK215 := aM (kD BK215.out)
    replace BK216 := aM (kD BK216.out)
    replace HB := aM (bD HB.out)
    refine start_ (n := 13) (S := fun w' => w'.cell? ⟨gb215, 0, none⟩ = some (.int .i64 a0_0) ∧ w'.cell? ⟨gb215, 1, none⟩ = some (.slice A0_1 l0_1.length c0_1) ∧ w'.cell? ⟨gb215, 2, none⟩ = some (.slice A0_2 l0_2.length c0_2)) (ds := []) #[N,N,N,N,N,N,N,N,N,N,N,N,N] kr rfl rfl ⟨cc, cc, cc⟩ (fun hHeld => ?_); refine with_tabW impl_PlayBlock.tab1 impl_PlayBlock.bits1 (fun HT_ HW_ => ?_)
    generalize w19.drew = w20 at HO0_1 BK215 BK216 HB hHeld ⊢
    refine pp HT_ (N := some 13) 2 #[N,N,Y,N,N,N,N,N,N,N,N,N,N] ?_
    refine pp HT_ (N := some 14) 3 #[N,N,Y,Y,N,N,N,N,N,N,N,N,N] ?_
    refine pp HT_ (N := some 15) 4 #[N,N,Y,Y,Y,N,N,N,N,N,N,N,N] ?_
    refine pp HT_ (N := some 19) 8 #[N,N,Y,Y,Y,N,N,N,Y,N,N,N,N] ?_
    refine tt HT_ HW_ (N := some 11) 0 #[Y,N,Y,Y,Y,N,N,N,Y,N,N,N,N] hHeld ?_ (hy := by rintro w' ⟨s0, s1, s2⟩; go_simp; with_reducible rfl)
    refine tt HT_ HW_ (N := some 16) 5 #[Y,N,Y,Y,Y,Y,N,N,Y,N,N,N,N] hHeld ?_ (hy := by rintro w' ⟨s0, s1, s2⟩; go_simp; with_reducible rfl)
    refine pp HT_ (N := some 17) 6 #[Y,N,Y,Y,Y,Y,Y,N,Y,N,N,N,N] ?_
    refine oo HT_ (N := some 12) 1 #[Y,Y,Y,Y,Y,Y,Y,N,Y,N,N,N,N] (fun K hK => ?_)
    refine goes_ Try.func46 kr rfl #[.agg #[.int .i64 a0_0, .slice A0_1 l0_1.length c0_1, .slice A0_2 l0_2.length c0_2]] (by rfl) rfl rfl mq ?_
    with_reducible refine (impl_SynthFault.calls k a0_0 _ _ l0_1 _ _ l0_2 t217 _ ?side1 ?side2 ?side3 ?side4 A3.out).mono ?_
    (case side1 => exact cq (Kd.V_reads' HO0_1.out).2.2)
    (case side2 => exact (Kd.V_reads' HO0_1.out).2.1)
    (case side3 => exact cq (cB HR0_2.out HB.out))
    (case side4 => exact HC0_2.out)
    rintro e w21 ⟨rfl, hb⟩
    refine ⟨_, rfl, ?_⟩
    replace HO0_1 := aM (Kd.V_below (vq HO0_1.out) hb)
    replace BK215 := aM (kB (kq BK215.out) hb)
    replace BK216 := aM (kB (kq BK216.out) hb)
    replace HB := aM (bT bq hb)
    (try clear hb)
    (try clear hb2)
    (try clear hk)
    (try clear hi)
    refine hK.out _ _ ⟨cc, cc, cc⟩ (fun hHeld => ?_)
    clear hK K
    refine nn ?_
    refine oo HT_ (N := some 18) 7 #[Y,Y,Y,Y,Y,Y,Y,Y,Y,N,N,N,N] (fun K hK => ?_)
    refine goes_ Try.func56 kr rfl #[.bool ((l1.length : Int) != a0_0), .int .i64 2] (by rfl) rfl rfl mq ?_
    with_reducible refine (impl_codeIf.calls ((l1.length : Int) != a0_0) 2 t218 _ A4.out).mono ?_
    rintro e w22 ⟨rfl, hdr_⟩; have hb := Drawn0.below hdr_
    refine ⟨_, rfl, ?_⟩
    replace HO0_1 := aM (Kd.V_below (vq HO0_1.out) hb)
    replace BK215 := aM (kB (kq BK215.out) hb)
    replace BK216 := aM (kB (kq BK216.out) hb)
    replace HB := aM (bT bq hb)
    (try clear hb)
    (try clear hb2)
    (try clear hk)
    (try clear hi)
    refine hK.out _ _ ⟨cc, cc, cc⟩ (fun hHeld => ?_)
    clear hK K
    refine nn ?_
    refine oo HT_ (N := some 20) 9 #[Y,Y,Y,Y,Y,Y,Y,Y,Y,Y,N,N,N] (fun K hK => ?_)
    refine goes_ Try.func68 kr rfl #[.slice A1 l1.length c1] (by rfl) rfl rfl mq ?_
    with_reducible refine (impl_gatherFault.calls k _ _ l1 t219 _ ?side1 ?side2 A5.out).mono ?_
    (case side1 => exact cq (cB HR1.out HB.out))
    (case side2 => exact HC1.out)
    rintro e w23 ⟨rfl, hb⟩
    refine ⟨_, rfl, ?_⟩
    replace HO0_1 := aM (Kd.V_below (vq HO0_1.out) hb)
    replace BK215 := aM (kB (kq BK215.out) hb)
    replace BK216 := aM (kB (kq BK216.out) hb)
    replace HB := aM (bT bq hb)
    (try clear hb)
    (try clear hb2)
    (try clear hk)
    (try clear hi)
    refine hK.out _ _ ⟨cc, cc, cc⟩ (fun hHeld => ?_)
    clear hK K
    refine nn ?_
    refine oo HT_ (N := some 21) 10 #[Y,Y,Y,Y,Y,Y,Y,Y,Y,Y,Y,N,N] (fun K hK => ?_)
    refine Kd.R_lit_step (Kd.int .i64) _ 2 ?hg (N := 21) ?hd (xs := ([t217, t218, t219] : List Int)) (inner := [.int .i64 t217, .int .i64 t218, .int .i64 t219]) (ok := fun _ => True) (okp := fun _ => True) ?hr ?hp (fun _ hk => hk) trivial (Below.refl _ _) (Nat.le_refl _) (by simp) ?_; (case hd => rfl); (case hg => rfl); (case hr => first | (go_simp; done) | (go_simp; rfl)); (case hp => exact (Reps.one (show Kd.M (Kd.int .i64) _ _ _ t217 [.int .i64 t217] from rfl) (Reps.one (show Kd.M (Kd.int .i64) _ _ _ t218 [.int .i64 t218] from rfl) (Reps.one (show Kd.M (Kd.int .i64) _ _ _ t219 [.int .i64 t219] from rfl) (Reps.none _ _)))))
    intro v221 w24 ho25 hb hg_ hnew_
    clear hg_ hnew_
    (first | rw [← Ny220.out] at ho25 | (simp only [Int.reduceToNat] at ho25; rw [← Ny220.out] at ho25))
    replace HO0_1 := aM (Kd.V_elder' (vq HO0_1.out) (rB ho25) hb)
    have HO222 := aM (rG (Kd.R_newM (M := fun k_ => (w.heap.size ≤ k_)) ho25 (bZ bq) (fun k_ h_ => h_)) (bZ bq))
    replace BK215 := aM (kB (kq BK215.out) hb)
    replace BK216 := aM (kB (kq BK216.out) hb)
    replace HB := aM (bT bq hb)
    clear hb ho25
    obtain ⟨Ao26, co26, eo26⟩ := Kd.R_slice HO222.out
    (first | subst eo26 | (injection eo26 with f1_ f2_ f3_; have f4_ := f1_.symm; have f5_ := f3_.symm; clear f1_ f2_ f3_; subst f4_; subst f5_))
    refine hK.out _ _ ⟨cc, cc, cc⟩ (fun hHeld => ?_)
    clear hK K
    refine nn ?_
    refine oo HT_ (N := some 22) 11 #[Y,Y,Y,Y,Y,Y,Y,Y,Y,Y,Y,Y,N] (fun K hK => ?_)
    refine goes_ Try.func54 kr rfl #[.slice Ao26 y220.length co26] (by rfl) rfl rfl mq ?_
    with_reducible refine (impl_first.calls k _ _ y220 t223 _ ?side1 ?side2 A6.out).mono ?_
    (case side1 => exact cq (rR HO222.out).2.2)
    (case side2 => exact (rR HO222.out).2.1)
    rintro e w27 ⟨rfl, hdr_⟩; have hb := Drawn0.below hdr_
    refine ⟨_, rfl, ?_⟩
    replace HO0_1 := aM (Kd.V_below (vq HO0_1.out) hb)
    replace HO222 := aM (rL (rq HO222.out) hb)
    replace BK215 := aM (kB (kq BK215.out) hb)
    replace BK216 := aM (kB (kq BK216.out) hb)
    replace HB := aM (bT bq hb)
    (try clear hb)
    (try clear hb2)
    (try clear hk)
    (try clear hi)
    refine hK.out _ _ ⟨cc, cc, cc⟩ (fun hHeld => ?_)
    clear hK K
    refine nn ?_
    refine pp HT_ (N := some 5) 12 #[Y,Y,Y,Y,Y,Y,Y,Y,Y,Y,Y,Y,Y] ?_
    refine done_ (done_of HT_.out kr) ?_
    try go_wp2
    replace HO0_1 := aM (Kd.V_drew HO0_1.out)
    replace HO222 := aM (rD HO222.out)
    replace BK215 := aM (kD BK215.out)
    replace BK216 := aM (kD BK216.out)
    replace HB := aM (bD HB.out)
    refine start_ (n := 7) (S := fun w' => w'.cell? ⟨gb215, 0, none⟩ = some (.int .i64 a0_0) ∧ w'.cell? ⟨gb215, 1, none⟩ = some (.slice A0_1 l0_1.length c0_1) ∧ w'.cell? ⟨gb215, 2, none⟩ = some (.slice A0_2 l0_2.length c0_2)) (ds := []) #[N,N,N,N,N,N,N] kr rfl rfl ⟨cc, cc, cc⟩ (fun hHeld => ?_)
    generalize w27.drew = w28 at HO0_1 HO222 BK215 BK216 HB hHeld ⊢
    refine pure_ (i := 0) (N := some 27) (v := ?_) (a' := ?_) #[Y,N,N,N,N,N,N] rfl rfl kr (fun _ _ _ h => h) (Or.inl ⟨by rfl, ?_⟩) ?_ ?_
    rotate_left
    ·intro w'
     go_simp
     with_reducible rfl
    rotate_left
    ·simp only [Act.put, pa, pb, pc, i64_w, i32_w]
     rfl
    refine take_ (i := 1) (N := some 28) (v := ?_) (a' := ?_) #[Y,Y,N,N,N,N,N] rfl rfl kr (fun _ _ _ h => h) (Or.inl ⟨by rfl, ?_⟩) hHeld ?_ ?_
    rotate_left
    ·rintro w' ⟨s0, s1, s2⟩
     go_simp
     with_reducible rfl
    rotate_left
    ·simp only [Act.put, pa, pb, pc, i64_w, i32_w]
     rfl
    refine pure_ (i := 2) (N := some 29) (v := ?_) (a' := ?_) #[Y,Y,Y,N,N,N,N] rfl rfl kr (fun _ _ _ h => h) (Or.inl ⟨by rfl, ?_⟩) ?_ ?_
    rotate_left
    ·intro w'
     go_simp
     with_reducible rfl
    rotate_left
    ·simp only [Act.put, pa, pb, pc, i64_w, i32_w]
     rfl
    refine join_ (σ := Nat) 2 #[Y,Y,Y,Y,Y,N,N] (fun s_ => [(30, .agg #[.func (.func 115) #[] #[], .func (.func 117) #[] #[]]), (7, .pointer (some ⟨s_, 0, none⟩))]) (fun s_ w' => (w'.cell? ⟨gb215, 0, none⟩ = some (.int .i64 a0_0) ∧ w'.cell? ⟨gb215, 1, none⟩ = some (.slice A0_1 l0_1.length c0_1) ∧ w'.cell? ⟨gb215, 2, none⟩ = some (.slice A0_2 l0_2.length c0_2)) ∧ (Kd.V (Kd.int .i64) 2 w' w.heap.size (fun k_ => (P0_1_ k_ ∨ w.heap.size ≤ k_) ∧ nS Ao26 y220 co26 k_ ∧ k_ ≠ gb215 ∧ k_ ≠ gb216 ∧ k_ ≠ s_) (.slice A0_1 l0_1.length c0_1) l0_1) ∧ (Kd.R (Kd.int .i64) 2 w' w.heap.size (fun k_ => (w.heap.size ≤ k_)) (.slice Ao26 y220.length co26) y220) ∧ (w'.heap[gb215]? = some (.cells #[.int .i64 a0_0, .slice A0_1 l0_1.length c0_1, .slice A0_2 l0_2.length c0_2] 35 (0, 0))) ∧ (w'.heap[gb216]? = some (.cells #[.int .i64 0, .int .i64 0, .slice none 0 0, .slice none 0 0, .slice none 0 0] 37 (0, 0))) ∧ (w'.heap[s_]? = some (.cells #[.nilFunc, .nilFunc] 94 (0, 0))) ∧ (w.heap.size ≤ s_) ∧ (w.heap.size ≤ s_) ∧ (gb215 ≠ s_) ∧ (s_ ≠ gb215) ∧ (gb216 ≠ s_) ∧ (s_ ≠ gb216) ∧ (Below w.heap.size w w')) ?_ ?_
    rotate_left
    ·intro hCont
     refine two_ (i := 3) (j := 4) (Ni := some 30) (Nj := some 7) #[Y,Y,Y,Y,N,N,N] #[Y,Y,Y,N,Y,N,N] rfl rfl rfl rfl kr (by decide) (by decide) (fun K hK => ?_) (fun K hK => ?_)
     ·skip
      refine goes_ Try.func69 kr rfl #[] (by rfl) rfl rfl mq ?_
      with_reducible refine (impl_samples.calls   _ A8.out).mono ?_
      rintro e w29 ⟨rfl, hb⟩
      refine ⟨_, rfl, ?_⟩
      replace HO0_1 := aM (Kd.V_below (vq HO0_1.out) hb)
      replace HO222 := aM (rL (rq HO222.out) hb)
      replace BK215 := aM (kB (kq BK215.out) hb)
      replace BK216 := aM (kB (kq BK216.out) hb)
      replace HB := aM (bT bq hb)
      (try clear hb)
      (try clear hb2)
      (try clear hk)
      (try clear hi)
      refine hK.out _ _ ⟨cc, cc, cc⟩ (fun hHeld => ?_)
      clear hK K
      refine nn ?_
      refine one_ (i := 4) (N := some 7) #[Y,Y,Y,Y,Y,N,N] rfl rfl kr (by decide) (fun K hK => ?_)
      refine box_step ?hg (N := 7) ?hd (cs := #[.nilFunc, .nilFunc]) (t := 94) ?hr ?_; (case hd => rfl); (case hg => rfl); (case hr => first | (go_simp; done) | (go_simp; rfl))
      intro gb226 hg w30 hbox hb
      replace HO0_1 := aM (Kd.V_below (Kd.V_elderB (vq HO0_1.out) gb226 (Nat.le_of_eq hg.symm)) hb)
      replace HO222 := aM (rL (rq HO222.out) hb)
      have BK226 := aM (hbox)
      have GW226 := aM ((by rw [hg]; exact (bZ bq) : w.heap.size ≤ gb226))
      have GE226 := aM ((by rw [hg]; exact (bZ bq) : w.heap.size ≤ gb226))
      replace HB := aM (bT bq hb)
      have NB215_226 := aM ((by rw [hg]; exact Nat.ne_of_lt (blk_lt (kq BK215.out)) : gb215 ≠ gb226))
      have NB226_215 := aM ((by rw [hg]; exact Nat.ne_of_gt (blk_lt (kq BK215.out)) : gb226 ≠ gb215))
      replace BK215 := aM (kB (kq BK215.out) hb)
      have NB216_226 := aM ((by rw [hg]; exact Nat.ne_of_lt (blk_lt (kq BK216.out)) : gb216 ≠ gb226))
      have NB226_216 := aM ((by rw [hg]; exact Nat.ne_of_gt (blk_lt (kq BK216.out)) : gb226 ≠ gb216))
      replace BK216 := aM (kB (kq BK216.out) hb)
      clear hb hbox hg
      refine hK.out _ _ ⟨cc, cc, cc⟩ (fun hHeld => ?_)
      clear hK K
      refine nn ?_
      exact norm_ (by simp only [putAll, Act.put, pa, pb, pc]) (hCont (gb226) _ ⟨hHeld, (vq (Kd.V_mono HO0_1.out jq)), (rq (rM HO222.out (fun _ hk => hk.1))), (kq BK215.out), (kq BK216.out), (kq BK226.out), GW226.out, GE226.out, NB215_226.out, NB226_215.out, NB216_226.out, NB226_216.out, bq⟩)
     ·skip
      refine box_step ?hg (N := 7) ?hd (cs := #[.nilFunc, .nilFunc]) (t := 94) ?hr ?_; (case hd => rfl); (case hg => rfl); (case hr => first | (go_simp; done) | (go_simp; rfl))
      intro gb226 hg w29 hbox hb
      replace HO0_1 := aM (Kd.V_below (Kd.V_elderB (vq HO0_1.out) gb226 (Nat.le_of_eq hg.symm)) hb)
      replace HO222 := aM (rL (rq HO222.out) hb)
      have BK226 := aM (hbox)
      have GW226 := aM ((by rw [hg]; exact (bZ bq) : w.heap.size ≤ gb226))
      have GE226 := aM ((by rw [hg]; exact (bZ bq) : w.heap.size ≤ gb226))
      replace HB := aM (bT bq hb)
      have NB215_226 := aM ((by rw [hg]; exact Nat.ne_of_lt (blk_lt (kq BK215.out)) : gb215 ≠ gb226))
      have NB226_215 := aM ((by rw [hg]; exact Nat.ne_of_gt (blk_lt (kq BK215.out)) : gb226 ≠ gb215))
      replace BK215 := aM (kB (kq BK215.out) hb)
      have NB216_226 := aM ((by rw [hg]; exact Nat.ne_of_lt (blk_lt (kq BK216.out)) : gb216 ≠ gb226))
      have NB226_216 := aM ((by rw [hg]; exact Nat.ne_of_gt (blk_lt (kq BK216.out)) : gb226 ≠ gb216))
      replace BK216 := aM (kB (kq BK216.out) hb)
      clear hb hbox hg
      refine hK.out _ _ ⟨cc, cc, cc⟩ (fun hHeld => ?_)
      clear hK K
      refine nn ?_
      refine one_ (i := 3) (N := some 30) #[Y,Y,Y,Y,Y,N,N] rfl rfl kr (by decide) (fun K hK => ?_)
      refine goes_ Try.func69 kr rfl #[] (by rfl) rfl rfl mq ?_
      with_reducible refine (impl_samples.calls   _ A8.out).mono ?_
      rintro e w30 ⟨rfl, hb⟩
      refine ⟨_, rfl, ?_⟩
      replace HO0_1 := aM (Kd.V_below (vq HO0_1.out) hb)
      replace HO222 := aM (rL (rq HO222.out) hb)
      replace BK215 := aM (kB (kq BK215.out) hb)
      replace BK216 := aM (kB (kq BK216.out) hb)
      replace BK226 := aM (kB (kq BK226.out) hb)
      replace HB := aM (bT bq hb)
      (try clear hb)
      (try clear hb2)
      (try clear hk)
      (try clear hi)
      refine hK.out _ _ ⟨cc, cc, cc⟩ (fun hHeld => ?_)
      clear hK K
      refine nn ?_
      exact norm_ (by simp only [putAll, Act.put, pa, pb, pc]) (hCont (gb226) _ ⟨hHeld, (vq (Kd.V_mono HO0_1.out jq)), (rq (rM HO222.out (fun _ hk => hk.1))), (kq BK215.out), (kq BK216.out), (kq BK226.out), GW226.out, GE226.out, NB215_226.out, NB226_215.out, NB216_226.out, NB226_216.out, bq⟩)
    rintro gb226 w31 ⟨hS_, h0_, h1_, h2_, h3_, h4_, h5_, h6_, h7_, h8_, h9_, h10_, h11_⟩
    have n0_ : Aside0 (Kd.V (Kd.int .i64) 2 w31 w.heap.size (fun k_ => (P0_1_ k_ ∨ w.heap.size ≤ k_) ∧ nS Ao26 y220 co26 k_ ∧ k_ ≠ gb215 ∧ k_ ≠ gb216 ∧ k_ ≠ gb226) (.slice A0_1 l0_1.length c0_1) l0_1) := ⟨h0_⟩
    have n1_ : Aside0 (Kd.R (Kd.int .i64) 2 w31 w.heap.size (fun k_ => (w.heap.size ≤ k_)) (.slice Ao26 y220.length co26) y220) := ⟨h1_⟩
    have n2_ : Aside0 (w31.heap[gb215]? = some (.cells #[.int .i64 a0_0, .slice A0_1 l0_1.length c0_1, .slice A0_2 l0_2.length c0_2] 35 (0, 0))) := ⟨h2_⟩
    have n3_ : Aside0 (w31.heap[gb216]? = some (.cells #[.int .i64 0, .int .i64 0, .slice none 0 0, .slice none 0 0, .slice none 0 0] 37 (0, 0))) := ⟨h3_⟩
    have n4_ : Aside0 (w31.heap[gb226]? = some (.cells #[.nilFunc, .nilFunc] 94 (0, 0))) := ⟨h4_⟩
    have n5_ : Aside0 (w.heap.size ≤ gb226) := ⟨h5_⟩
    have n6_ : Aside0 (w.heap.size ≤ gb226) := ⟨h6_⟩
    have n7_ : Aside0 (gb215 ≠ gb226) := ⟨h7_⟩
    have n8_ : Aside0 (gb226 ≠ gb215) := ⟨h8_⟩
    have n9_ : Aside0 (gb216 ≠ gb226) := ⟨h9_⟩
    have n10_ : Aside0 (gb226 ≠ gb216) := ⟨h10_⟩
    have n11_ : Aside0 (Below w.heap.size w w31) := ⟨h11_⟩
    clear HO0_1 HO222 BK215 BK216 HB h0_ h1_ h2_ h3_ h4_ h5_ h6_ h7_ h8_ h9_ h10_ h11_
    have HO0_1 := n0_
    have HO222 := n1_
    have BK215 := n2_
    have BK216 := n3_
    have BK226 := n4_
    have GW226 := n5_
    have GE226 := n6_
    have NB215_226 := n7_
    have NB226_215 := n8_
    have NB216_226 := n9_
    have NB226_216 := n10_
    have HB := n11_
    clear n0_ n1_ n2_ n3_ n4_ n5_ n6_ n7_ n8_ n9_ n10_ n11_
    have hHeld : w31.cell? ⟨gb215, 0, none⟩ = some (.int .i64 a0_0) ∧ w31.cell? ⟨gb215, 1, none⟩ = some (.slice A0_1 l0_1.length c0_1) ∧ w31.cell? ⟨gb215, 2, none⟩ = some (.slice A0_2 l0_2.length c0_2) := hS_
    refine norm_ (a' := ?_) ?_ ?_
    rotate_left
    ·simp only [putAll, Act.put, pa, pb, pc]
     rfl
    refine pure_ (i := 5) (N := some 6) (v := ?_) (a' := ?_) #[Y,Y,Y,Y,Y,Y,N] rfl rfl kr (fun _ _ _ h => h) (Or.inl ⟨by rfl, ?_⟩) ?_ ?_
    rotate_left
    ·intro w'
     go_simp
     with_reducible rfl
    rotate_left
    ·simp only [Act.put, pa, pb, pc, i64_w, i32_w]
     rfl
    refine one_ (i := 6) (N := none) #[Y,Y,Y,Y,Y,Y,Y] rfl rfl kr (by decide) (fun K hK => ?_)
    have hs32 : w31.cell? ⟨gb226, 0, none⟩ = some (.nilFunc) := cc
    have hfs32 := kF BK226.out 0
    have hns32_0 := NB215_226.out
    have hns32_1 := NB216_226.out
    have hms32_0 := NB226_215.out
    have hms32_1 := NB226_216.out
    have hs33 : w31.cell? ⟨gb226, 1, none⟩ = some (.nilFunc) := cc
    have hfs33 := kF BK226.out 1
    have hns33_0 := NB215_226.out
    have hns33_1 := NB216_226.out
    have hms33_0 := NB226_215.out
    have hms33_1 := NB226_216.out
    refine skip_ (w1 := ?_) (by rfl) rfl ?_ ?_
    rotate_left
    ·go_simp
     rfl
    refine hK.out _ _ ⟨(lf hHeld.1), (lf hHeld.2.1), (lf hHeld.2.2)⟩ (fun hHeld => ?_)
    clear hK K
    refine done_ kr ?_
    have hnb34 := NB226_215.out
    have hnc34 := NB215_226.out
    have hnb35 := NB226_216.out
    have hnc35 := NB216_226.out
    have hcz36_0 : w31.cell? ⟨gb226, 0, none⟩ = some (.nilFunc) := cc
    have hcz36_1 : w31.cell? ⟨gb226, 1, none⟩ = some (.nilFunc) := cc
    have hfz36_0 := kF BK226.out 0
    have hfz36_1 := kF BK226.out 1
    try go_wp2_with (first | ((with_reducible refine gate_callee (f := 60) rfl ?_); refine goesL_ (some 33) rfl rfl Try.func60 kr rfl #[.agg #[.func (.func 115) #[] #[], .func (.func 117) #[] #[]], .slice A1 l1.length c1] rfl mq ?_; (with_reducible refine (impl_undo_gather.calls k _ _ impl_samples_1.f _ _ impl_part.f _ _ l1 t227 _ ?side1 ?side2 ?side3 ?side4 A9.out).mono ?_); (case side1 => exact ok4_samples_1 _); (case side2 => exact ok2_part _); (case side3 => exact cB HR1.out bq); (case side4 => exact HC1.out); rintro e w37 ⟨v228, rfl, ho0, hb⟩; refine ⟨_, rfl, ?_⟩; replace HO0_1 := aM (Kd.V_elder' (vq ((Kd.V_mono (Kd.V_far (p := ⟨gb226, 1, none⟩) (Kd.V_far (p := ⟨gb226, 0, none⟩) (Kd.V_mono HO0_1.out (fun k_ hk => (⟨hk, hk.2.2.2.2⟩ : _ ∧ k_ ≠ gb226))) (fun _ hk => hk.2) (.func (.func 115) #[] #[])) (fun _ hk => hk.2) (.func (.func 117) #[] #[])) (fun _ h_ => h_.1)))) (rB ho0) hb); have HO229 := aM (rG (rW (Kd.R_newM (M := fun k_ => (w.heap.size ≤ k_)) ho0 (bZ bq) (fun k_ h_ => h_)) (rT (rM (rf (Kd.R_types HO222.out BK226.out (by decide))) (fun _ h_ => h_.1)))) (bZ bq)); replace HO222 := aM (rH (rM (rf (Kd.R_types HO222.out BK226.out (by decide))) (fun _ h_ => h_.1)) (rB ho0) hb); replace BK215 := aM (kB (g := gb215) (o := .cells #[.int .i64 a0_0, .slice A0_1 l0_1.length c0_1, .slice A0_2 l0_2.length c0_2] 35 (0, 0)) (fq BK215.out) hb); replace BK216 := aM (kB (g := gb216) (o := .cells #[.int .i64 0, .int .i64 0, .slice none 0 0, .slice none 0 0, .slice none 0 0] 37 (0, 0)) (fq BK216.out) hb); replace BK226 := aM (kB (g := gb226) (o := .cells #[.func (.func 115) #[] #[], .func (.func 117) #[] #[]] 94 (0, 0)) (fq BK226.out) hb); replace HB := aM (bT bq hb); (try clear hb); (try clear ho0)))
    replace HO0_1 := aM (Kd.V_drew HO0_1.out)
    replace HO222 := aM (rD HO222.out)
    replace HO229 := aM (rD HO229.out)
    replace BK215 := aM (kD BK215.out)
    replace BK216 := aM (kD BK216.out)
    replace BK226 := aM (kD BK226.out)
    replace HB := aM (bD HB.out)
    obtain ⟨Ao40, co40, eo40⟩ := Kd.R_slice HO229.out
    (first | subst eo40 | (injection eo40 with f1_ f2_ f3_; have f4_ := f1_.symm; have f5_ := f3_.symm; clear f1_ f2_ f3_; subst f4_; subst f5_))
    have q39 : ((ji10) : Int) ≤ ((t227.length : Int) : Int) := of_decide_eq_true (by first | (with_reducible assumption) | assumption)
    obtain ⟨i039, hi039, _, hsz39, _⟩ := info_parts info2
    have hroom39 : t227.length ≤ co40 := (rR HO229.out).2.1
    have hC39 : Kd.F (Kd.int .i64) _ _ Ao40 t227.length t227 := (Kd.V_at (base := w.heap.size) (Kd.V_mono (ok' := (fun k_ => ((((((P0_1_ k_ ∨ w.heap.size ≤ k_) ∧ True) ∧ nS Ao26 y220 co26 k_) ∧ k_ ≠ gb215) ∧ k_ ≠ gb216) ∧ k_ ≠ gb226))) (Kd.R_V (Kd.R_types (Kd.R_types (Kd.R_types (HO229.out) BK215.out (by decide)) BK216.out (by decide)) BK226.out (by decide))) (fun k_ hk => ⟨⟨⟨⟨⟨(.inr (hk.1.1.1.1.1)), trivial⟩, hk.1.1.1.2⟩, hk.1.1.2⟩, hk.1.2⟩, hk.2⟩))).2.2
    have hcut39 := cut_to (P := Try.prog) 22 2 .i64 Try.underlying22 hi039 Ao40 t227.length co40 (ji10) (of_decide_eq_true (by first | (with_reducible assumption) | assumption)) q39 hroom39
    have hr39 := Kd.F_take (m := ((ji10) : Int).toNat) hC39 (by omega)
    have hy39 : y230.length = ((ji10) : Int).toNat := (by rw [Ny230.out, List.length_take]; omega)
    rw [← Ny230.out] at hr39
    rw [← hy39] at hcut39
    have HO234 := aM (show Kd.V (Kd.int .i64) 2 _ w.heap.size _ (.slice Ao40 y230.length co40) y230 from Kd.V_mk (by omega) hr39)
    have HC234 := aM (show y230.length ≤ co40 from by omega)
    clear hr39 hC39 hroom39 hi039 hsz39
    have KY39 := aM hy39
    clear hy39
    replace q39 := eq_true q39
    refine start_ (n := 12) (S := fun w' => w'.cell? ⟨gb215, 0, none⟩ = some (.int .i64 a0_0) ∧ w'.cell? ⟨gb215, 1, none⟩ = some (.slice A0_1 l0_1.length c0_1) ∧ w'.cell? ⟨gb215, 2, none⟩ = some (.slice A0_2 l0_2.length c0_2)) (ds := []) #[N,N,N,N,N,N,N,N,N,N,N,N] kr rfl rfl ⟨cc, cc, cc⟩ (fun hHeld => ?_); refine with_tabW impl_PlayBlock.tab6 impl_PlayBlock.bits6 (fun HT_ HW_ => ?_)
    generalize w37.drew = w38 at HO0_1 HO222 HO229 BK215 BK216 BK226 HB HO234 hHeld ⊢
    refine pp HT_ (N := some 35) 0 #[Y,N,N,N,N,N,N,N,N,N,N,N] ?_
    refine pp HT_ (N := some 37) 2 #[Y,N,Y,N,N,N,N,N,N,N,N,N] ?_
    refine pp HT_ (N := some 38) 3 #[Y,N,Y,Y,N,N,N,N,N,N,N,N] ?_
    refine pp HT_ (N := some 39) 4 #[Y,N,Y,Y,Y,N,N,N,N,N,N,N] ?_
    refine pp HT_ (N := some 40) 5 #[Y,N,Y,Y,Y,Y,N,N,N,N,N,N] ?_
    refine tt HT_ HW_ (N := some 36) 1 #[Y,Y,Y,Y,Y,Y,N,N,N,N,N,N] hHeld ?_ (hy := by rintro w' ⟨s0, s1, s2⟩; go_simp; with_reducible rfl)
    refine oo HT_ (N := some 41) 6 #[Y,Y,Y,Y,Y,Y,Y,N,N,N,N,N] (fun K hK => ?_)
    refine goes_ Try.func61 kr rfl #[.slice A0_2 l0_2.length c0_2, .slice Ao40 y230.length co40, .func (.func 70) #[] #[.pointer (some ⟨gb226, 0, none⟩), .pointer (some ⟨gb215, 0, none⟩)]] (by rfl) rfl rfl mq ?_
    with_reducible refine (impl_seam.calls k _ _ l0_2 _ _ y230 _ _ (impl_samples_1.f a0_0) t235 t236 _ ?side1 ?side2 ?side3 ?side4 ?side5 A13.out).mono ?_
    (case side1 => exact cq (cB HR0_2.out HB.out))
    (case side2 => exact HC0_2.out)
    (case side3 => exact cq (Kd.V_reads' HO234.out).2.2)
    (case side4 => exact (Kd.V_reads' HO234.out).2.1)
    (case side5 => exact (ok3_PlayBlock_1 gb226 gb215 _ _ _ _ _ ((kC (kq BK226.out) 0).trans rfl) ((kC (kq BK215.out) 0).trans rfl) (ok4_samples_1 _)))
    rintro e w41 ⟨v237, v239, rfl, ho0, ho1, hb⟩
    refine ⟨_, rfl, ?_⟩
    replace HO0_1 := aM (Kd.V_mono (Kd.V_told (Kd.V_told (Kd.V_old (vq HO0_1.out) hb) (rB ho0)) (rB ho1)) (fun _ h_ => h_.1))
    replace HO234 := aM (Kd.V_mono (Kd.V_told (Kd.V_told (Kd.V_old (vq HO234.out) hb) (rB ho0)) (rB ho1)) (fun _ h_ => h_.1))
    have HO238 := aM (rG (rW (rW (Kd.R_newM (M := fun k_ => (w.heap.size ≤ k_)) ho0 (bZ bq) (fun k_ h_ => h_)) (rT (rq HO222.out))) (rT (rq HO229.out))) (bZ bq))
    have HO240 := aM (rG (rW (rW (Kd.R_newM (M := fun k_ => (w.heap.size ≤ k_)) ho1 (bZ bq) (fun k_ h_ => h_)) (rT (rq HO222.out))) (rT (rq HO229.out))) (bZ bq))
    replace HO222 := aM (rM (rO (rO (rE (rq HO222.out) hb) (rB ho0)) (rB ho1)) (fun _ h_ => h_.1))
    replace HO229 := aM (rM (rO (rO (rE (rq HO229.out) hb) (rB ho0)) (rB ho1)) (fun _ h_ => h_.1))
    replace BK215 := aM (kB (kq BK215.out) hb)
    replace BK216 := aM (kB (kq BK216.out) hb)
    replace BK226 := aM (kB (kq BK226.out) hb)
    replace HB := aM (bT bq hb)
    (try clear hb)
    (try clear hb2)
    (try clear hk)
    (try clear hi)
    (try clear ho0)
    (try clear ho1)
    refine hK.out _ _ ⟨cc, cc, cc⟩ (fun hHeld => ?_)
    clear hK K
    refine nn ?_
    refine pp HT_ (N := some 34) 7 #[Y,Y,Y,Y,Y,Y,Y,Y,N,N,N,N] ?_
    refine pp HT_ (N := some 42) 8 #[Y,Y,Y,Y,Y,Y,Y,Y,Y,N,N,N] ?_
    refine pp HT_ (N := some 43) 9 #[Y,Y,Y,Y,Y,Y,Y,Y,Y,Y,N,N] ?_
    refine pp HT_ (N := some 9) 10 #[Y,Y,Y,Y,Y,Y,Y,Y,Y,Y,Y,N] ?_
    refine pp HT_ (N := some 10) 11 #[Y,Y,Y,Y,Y,Y,Y,Y,Y,Y,Y,Y] ?_
    refine done_ (done_of HT_.out kr) ?_
    try go_wp2
    replace HO0_1 := aM (Kd.V_drew HO0_1.out)
    replace HO222 := aM (rD HO222.out)
    replace HO229 := aM (rD HO229.out)
    replace HO234 := aM (Kd.V_drew HO234.out)
    replace HO238 := aM (rD HO238.out)
    replace HO240 := aM (rD HO240.out)
    replace BK215 := aM (kD BK215.out)
    replace BK216 := aM (kD BK216.out)
    replace BK226 := aM (kD BK226.out)
    replace HB := aM (bD HB.out)
    have q43 : ((ji10) : Int) ≤ ((t227.length : Int) : Int) := of_decide_eq_true (by first | (with_reducible assumption) | assumption)
    obtain ⟨i043, hi043, _, hsz43, _⟩ := info_parts info2
    have hroom43 : t227.length ≤ co40 := (rR HO229.out).2.1
    have hC43 : Kd.F (Kd.int .i64) _ _ Ao40 t227.length t227 := (Kd.V_at (base := w.heap.size) (Kd.V_mono (ok' := (fun k_ => ((((((((P0_1_ k_ ∨ w.heap.size ≤ k_) ∧ True) ∧ nS Ao26 y220 co26 k_) ∧ nb v237 k_) ∧ nb v239 k_) ∧ k_ ≠ gb215) ∧ k_ ≠ gb216) ∧ k_ ≠ gb226))) (Kd.R_V (Kd.R_types (Kd.R_types (Kd.R_types (HO229.out) BK215.out (by decide)) BK216.out (by decide)) BK226.out (by decide))) (fun k_ hk => ⟨⟨⟨⟨⟨⟨⟨(.inr (hk.1.1.1.1.1.1.1)), trivial⟩, hk.1.1.1.1.1.2⟩, hk.1.1.1.1.2⟩, hk.1.1.1.2⟩, hk.1.1.2⟩, hk.1.2⟩, hk.2⟩))).2.2
    have q043 : (0 : Int) ≤ ((ji10) : Int) := of_decide_eq_true (by first | (with_reducible assumption) | assumption)
    have hcut43 := cut_from (P := Try.prog) 22 2 .i64 Try.underlying22 hi043 1 hsz43 Ao40 t227.length co40 (ji10) q043 q43
    have hr43 := Kd.F_cut (m := ((ji10) : Int).toNat) (c := co40) hC43 (by omega) hroom43
    obtain ⟨A43, hA43⟩ : ∃ A1, A1 = (if co40 = ((ji10) : Int).toNat then Ao40 else (Ao40 : Option Addr).map (·.add (((ji10) : Int).toNat * 1))) := ⟨_, rfl⟩
    obtain ⟨c43, hc43⟩ : ∃ c1, c1 = co40 - ((ji10) : Int).toNat := ⟨_, rfl⟩
    have hy43 : y241.length = t227.length - ((ji10) : Int).toNat := (by rw [Ny241.out, List.length_drop] <;> omega)
    rw [show (t227).drop ((ji10) : Int).toNat = y241 from Ny241.out.symm] at hr43
    replace hr43 : Kd.F (Kd.int .i64) _ _ A43 y241.length y241 := (by rw [hA43]; exact hr43)
    rw [← hy43, ← hA43, ← hc43] at hcut43
    have HO245 := aM (show Kd.V (Kd.int .i64) 2 _ w.heap.size _ (.slice A43 y241.length c43) y241 from Kd.V_mk (by rw [hy43, hc43]; exact Nat.sub_le_sub_right hroom43 _) hr43)
    have HC245 := aM (show y241.length ≤ c43 from by rw [hy43, hc43]; exact Nat.sub_le_sub_right hroom43 _)
    clear hr43 hC43 hroom43 hi043 hsz43 hc43
    have KY43 := aM hy43
    have KA43 := aM hA43
    clear hy43 hA43
    replace q43 := eq_true q43
    refine start_ (n := 15) (S := fun w' => w'.cell? ⟨gb215, 0, none⟩ = some (.int .i64 a0_0) ∧ w'.cell? ⟨gb215, 1, none⟩ = some (.slice A0_1 l0_1.length c0_1) ∧ w'.cell? ⟨gb215, 2, none⟩ = some (.slice A0_2 l0_2.length c0_2)) (ds := []) #[N,N,N,N,N,N,N,N,N,N,N,N,N,N,N] kr rfl rfl ⟨cc, cc, cc⟩ (fun hHeld => ?_); refine with_tabW impl_PlayBlock.tab7 impl_PlayBlock.bits7 (fun HT_ HW_ => ?_)
    generalize w41.drew = w42 at HO0_1 HO222 HO229 HO234 HO238 HO240 BK215 BK216 BK226 HB HO245 hHeld ⊢
    refine pp HT_ (N := some 44) 0 #[Y,N,N,N,N,N,N,N,N,N,N,N,N,N,N] ?_
    refine pp HT_ (N := some 46) 2 #[Y,N,Y,N,N,N,N,N,N,N,N,N,N,N,N] ?_
    refine pp HT_ (N := some 47) 3 #[Y,N,Y,Y,N,N,N,N,N,N,N,N,N,N,N] ?_
    refine pp HT_ (N := some 48) 4 #[Y,N,Y,Y,Y,N,N,N,N,N,N,N,N,N,N] ?_
    refine pp HT_ (N := some 49) 5 #[Y,N,Y,Y,Y,Y,N,N,N,N,N,N,N,N,N] ?_
    refine pp HT_ (N := some 52) 8 #[Y,N,Y,Y,Y,Y,N,N,Y,N,N,N,N,N,N] ?_
    refine pp HT_ (N := some 54) 10 #[Y,N,Y,Y,Y,Y,N,N,Y,N,Y,N,N,N,N] ?_
    refine tt HT_ HW_ (N := some 45) 1 #[Y,Y,Y,Y,Y,Y,N,N,Y,N,Y,N,N,N,N] hHeld ?_ (hy := by rintro w' ⟨s0, s1, s2⟩; go_simp; with_reducible rfl)
    refine tt HT_ HW_ (N := some 53) 9 #[Y,Y,Y,Y,Y,Y,N,N,Y,Y,Y,N,N,N,N] hHeld ?_ (hy := by rintro w' ⟨s0, s1, s2⟩; go_simp; with_reducible rfl)
    obtain ⟨Ao46, co46, eo46⟩ := Kd.R_slice HO240.out
    subst eo46
    refine join_ (σ := Value × Value) 3 #[Y,Y,Y,Y,Y,Y,Y,Y,Y,Y,Y,Y,N,N,N] (fun s_ => [(50, s_.1), (55, s_.2), (51, .agg #[.int .i64 a0_0, .slice Ao46 t236.length co46, s_.1])]) (fun s_ w' => (w'.cell? ⟨gb215, 0, none⟩ = some (.int .i64 a0_0) ∧ w'.cell? ⟨gb215, 1, none⟩ = some (.slice A0_1 l0_1.length c0_1) ∧ w'.cell? ⟨gb215, 2, none⟩ = some (.slice A0_2 l0_2.length c0_2)) ∧ (Kd.V (Kd.int .i64) 2 w' w.heap.size (fun k_ => (P0_1_ k_ ∨ w.heap.size ≤ k_) ∧ nS Ao26 y220 co26 k_ ∧ nS Ao40 t227 co40 k_ ∧ nS Ao46 t236 co46 k_ ∧ some k_ ≠ (s_.1 : Value).ownBlock ∧ some k_ ≠ (s_.2 : Value).ownBlock ∧ k_ ≠ gb215 ∧ k_ ≠ gb216 ∧ k_ ≠ gb226) (.slice A0_1 l0_1.length c0_1) l0_1) ∧ (Kd.R (Kd.int .i64) 2 w' w.heap.size (fun k_ => (w.heap.size ≤ k_) ∧ nS Ao40 t227 co40 k_ ∧ nS Ao46 t236 co46 k_ ∧ some k_ ≠ (s_.1 : Value).ownBlock) (.slice Ao26 y220.length co26) y220) ∧ (Kd.R (Kd.int .i64) 2 w' w.heap.size (fun k_ => (w.heap.size ≤ k_) ∧ nS Ao26 y220 co26 k_ ∧ nS Ao46 t236 co46 k_ ∧ some k_ ≠ (s_.1 : Value).ownBlock) (.slice Ao40 t227.length co40) t227) ∧ (Kd.V (Kd.int .i64) 2 w' w.heap.size (fun k_ => (P0_1_ k_ ∨ w.heap.size ≤ k_) ∧ nS Ao26 y220 co26 k_ ∧ nS Ao46 t236 co46 k_ ∧ some k_ ≠ (s_.1 : Value).ownBlock ∧ some k_ ≠ (s_.2 : Value).ownBlock ∧ k_ ≠ gb215 ∧ k_ ≠ gb216 ∧ k_ ≠ gb226) (.slice Ao40 y230.length co40) y230) ∧ (Kd.R (Kd.int .i64) 2 w' w.heap.size (fun k_ => (w.heap.size ≤ k_) ∧ nS Ao26 y220 co26 k_ ∧ nS Ao40 t227 co40 k_ ∧ some k_ ≠ (s_.1 : Value).ownBlock) (.slice Ao46 t236.length co46) t236) ∧ (Kd.V (Kd.int .i64) 2 w' w.heap.size (fun k_ => (P0_1_ k_ ∨ w.heap.size ≤ k_) ∧ nS Ao26 y220 co26 k_ ∧ nS Ao46 t236 co46 k_ ∧ some k_ ≠ (s_.1 : Value).ownBlock ∧ some k_ ≠ (s_.2 : Value).ownBlock ∧ k_ ≠ gb215 ∧ k_ ≠ gb216 ∧ k_ ≠ gb226) (.slice A43 y241.length c43) y241) ∧ (Kd.R (Kd.int .i64) 2 w' w.heap.size (fun k_ => (w.heap.size ≤ k_) ∧ nS Ao26 y220 co26 k_ ∧ nS Ao40 t227 co40 k_ ∧ nS Ao46 t236 co46 k_) s_.1 t246) ∧ (Kd.N (Kd.slice 2 (Kd.int .i64)) 22 w' w.heap.size (fun k_ => (P0_1_ k_ ∨ w.heap.size ≤ k_) ∧ nS Ao26 y220 co26 k_ ∧ nS Ao40 t227 co40 k_ ∧ nS Ao46 t236 co46 k_ ∧ some k_ ≠ (s_.1 : Value).ownBlock ∧ k_ ≠ gb215 ∧ k_ ≠ gb216 ∧ k_ ≠ gb226) s_.2 y249) ∧ (w'.heap[gb215]? = some (.cells #[.int .i64 a0_0, .slice A0_1 l0_1.length c0_1, .slice A0_2 l0_2.length c0_2] 35 (0, 0))) ∧ (w'.heap[gb216]? = some (.cells #[.int .i64 0, .int .i64 0, .slice none 0 0, .slice none 0 0, .slice none 0 0] 37 (0, 0))) ∧ (w'.heap[gb226]? = some (.cells #[.func (.func 115) #[] #[], .func (.func 117) #[] #[]] 94 (0, 0))) ∧ (Below w.heap.size w w')) ?_ ?_
    rotate_left
    ·intro hCont
     refine two_ (i := 6) (j := 11) (Ni := some 50) (Nj := some 55) #[Y,Y,Y,Y,Y,Y,Y,N,Y,Y,Y,N,N,N,N] #[Y,Y,Y,Y,Y,Y,N,N,Y,Y,Y,Y,N,N,N] rfl rfl rfl rfl (two_of HT_.out kr) (by decide) (by decide) (fun K hK => ?_) (fun K hK => ?_)
     ·skip
      refine goes_ Try.func71 kr rfl #[.slice A43 y241.length c43] (by rfl) rfl rfl mq ?_
      with_reducible refine (slices_Clone_int64_int64.calls _ _ y241 t246 _ ?side1 ?side2 A16.out).mono ?_
      (case side1 => exact cq (Kd.V_reads' HO245.out).2.2)
      (case side2 => exact (Kd.V_reads' HO245.out).2.1)
      rintro e w44 ⟨v247, rfl, ho0, hb⟩
      refine ⟨_, rfl, ?_⟩
      replace HO0_1 := aM (Kd.V_elder' (vq HO0_1.out) (rB ho0) hb)
      replace HO234 := aM (Kd.V_elder' (vq HO234.out) (rB ho0) hb)
      replace HO245 := aM (Kd.V_elder' (vq HO245.out) (rB ho0) hb)
      have HO248 := aM (rG (rW (rW (rW (rW (Kd.R_newM (M := fun k_ => (w.heap.size ≤ k_)) ho0 (bZ bq) (fun k_ h_ => h_)) (rT (rq HO222.out))) (rT (rq HO229.out))) (rT (rq HO238.out))) (rT (rq HO240.out))) (bZ bq))
      replace HO222 := aM (rH (rq HO222.out) (rB ho0) hb)
      replace HO229 := aM (rH (rq HO229.out) (rB ho0) hb)
      replace HO238 := aM (rH (rq HO238.out) (rB ho0) hb)
      replace HO240 := aM (rH (rq HO240.out) (rB ho0) hb)
      replace BK215 := aM (kB (kq BK215.out) hb)
      replace BK216 := aM (kB (kq BK216.out) hb)
      replace BK226 := aM (kB (kq BK226.out) hb)
      replace HB := aM (bT bq hb)
      (try clear hb)
      (try clear hb2)
      (try clear hk)
      (try clear hi)
      (try clear ho0)
      obtain ⟨Ao45, co45, eo45⟩ := Kd.R_slice HO248.out
      (first | subst eo45 | (injection eo45 with f1_ f2_ f3_; have f4_ := f1_.symm; have f5_ := f3_.symm; clear f1_ f2_ f3_; subst f4_; subst f5_))
      obtain ⟨Ao46, co46, eo46⟩ := Kd.R_slice HO240.out
      (first | subst eo46 | (injection eo46 with f1_ f2_ f3_; have f4_ := f1_.symm; have f5_ := f3_.symm; clear f1_ f2_ f3_; subst f4_; subst f5_))
      obtain ⟨Ao47, co47, eo47⟩ := Kd.R_slice HO238.out
      (first | subst eo47 | (injection eo47 with f1_ f2_ f3_; have f4_ := f1_.symm; have f5_ := f3_.symm; clear f1_ f2_ f3_; subst f4_; subst f5_))
      refine hK.out _ _ ⟨cc, cc, cc⟩ (fun hHeld => ?_)
      clear hK K
      refine nn ?_
      refine pp HT_ (N := some 51) 7 #[Y,Y,Y,Y,Y,Y,Y,Y,Y,Y,Y,N,N,N,N] ?_
      refine oo HT_ (N := some 55) 11 #[Y,Y,Y,Y,Y,Y,Y,Y,Y,Y,Y,Y,N,N,N] (fun K hK => ?_)
      refine Kd.N_lit_step (Kd.slice 2 (Kd.int .i64)) _ 22 ?hg (N' := 55) ?hd (xs := ([l0_1, t235] : List (List Int))) (inner := [.slice A0_1 l0_1.length c0_1, .slice Ao47 t235.length co47]) (ok := (fun k_ => (P0_1_ k_ ∨ w.heap.size ≤ k_) ∧ nS Ao26 y220 co26 k_ ∧ nS Ao40 t227 co40 k_ ∧ nS Ao46 t236 co46 k_ ∧ nS Ao45 t246 co45 k_ ∧ k_ ≠ gb215 ∧ k_ ≠ gb216 ∧ k_ ≠ gb226)) (okp := (fun k_ => (P0_1_ k_ ∨ w.heap.size ≤ k_) ∧ nS Ao26 y220 co26 k_ ∧ nS Ao40 t227 co40 k_ ∧ nS Ao46 t236 co46 k_ ∧ nS Ao45 t246 co45 k_ ∧ k_ ≠ gb215 ∧ k_ ≠ gb216 ∧ k_ ≠ gb226)) ?hr ?hp (fun _ hk => hk) ((show ∀ k_, w44.heap.size ≤ k_ → (fun k_ => (P0_1_ k_ ∨ w.heap.size ≤ k_) ∧ nS Ao26 y220 co26 k_ ∧ nS Ao40 t227 co40 k_ ∧ nS Ao46 t236 co46 k_ ∧ nS Ao45 t246 co45 k_ ∧ k_ ≠ gb215 ∧ k_ ≠ gb216 ∧ k_ ≠ gb226) k_ from fun k_ hk => ⟨(.inr (Nat.le_trans (bZ bq) hk)), Kd.fresh' (rT (rq HO222.out)) k_ hk, Kd.fresh' (rT (rq HO229.out)) k_ hk, Kd.fresh' (rT (rq HO240.out)) k_ hk, Kd.fresh' (rT (rq HO248.out)) k_ hk, Kd.freshB (kq BK215.out) k_ hk, Kd.freshB (kq BK216.out) k_ hk, Kd.freshB (kq BK226.out) k_ hk⟩) _ (Nat.le_refl _)) (Below.refl _ _) (Nat.le_refl _) (by simp) ?_; (case hd => rfl); (case hg => rfl); (case hr => first | (go_simp; done) | (go_simp; rfl)); (case hp => exact (Reps.one (show Kd.FK (Kd.slice 2 (Kd.int .i64)) _ _ l0_1 [.slice A0_1 l0_1.length c0_1] from (Kd.FK_slice_mk (Kd.V_reads' (Kd.V_mono (ok' := (fun k_ => (P0_1_ k_ ∨ w.heap.size ≤ k_) ∧ nS Ao26 y220 co26 k_ ∧ nS Ao40 t227 co40 k_ ∧ nS Ao46 t236 co46 k_ ∧ nS Ao45 t246 co45 k_ ∧ k_ ≠ gb215 ∧ k_ ≠ gb216 ∧ k_ ≠ gb226)) (HO0_1.out) jq)).2.1 (Kd.V_F (Kd.V_mono (ok' := (fun k_ => (P0_1_ k_ ∨ w.heap.size ≤ k_) ∧ nS Ao26 y220 co26 k_ ∧ nS Ao40 t227 co40 k_ ∧ nS Ao46 t236 co46 k_ ∧ nS Ao45 t246 co45 k_ ∧ k_ ≠ gb215 ∧ k_ ≠ gb216 ∧ k_ ≠ gb226)) (HO0_1.out) jq)))) (Reps.one (show Kd.FK (Kd.slice 2 (Kd.int .i64)) _ _ t235 [.slice Ao47 t235.length co47] from (Kd.FK_slice_mk (rR (rM (ok' := (fun k_ => (P0_1_ k_ ∨ w.heap.size ≤ k_) ∧ nS Ao26 y220 co26 k_ ∧ nS Ao40 t227 co40 k_ ∧ nS Ao46 t236 co46 k_ ∧ nS Ao45 t246 co45 k_ ∧ k_ ≠ gb215 ∧ k_ ≠ gb216 ∧ k_ ≠ gb226)) (Kd.R_types (Kd.R_types (Kd.R_types (HO238.out) BK215.out (by decide)) BK216.out (by decide)) BK226.out (by decide)) (fun k_ hk => ⟨(.inr (hk.1.1.1.1.1.1.1)), ⟨hk.1.1.1.1.1.2, ⟨hk.1.1.1.1.2, ⟨hk.1.1.1.1.1.1.2, ⟨hk.1.1.1.2, ⟨hk.1.1.2, ⟨hk.1.2, hk.2⟩⟩⟩⟩⟩⟩⟩))).2.1 (Kd.R_F (rM (ok' := (fun k_ => (P0_1_ k_ ∨ w.heap.size ≤ k_) ∧ nS Ao26 y220 co26 k_ ∧ nS Ao40 t227 co40 k_ ∧ nS Ao46 t236 co46 k_ ∧ nS Ao45 t246 co45 k_ ∧ k_ ≠ gb215 ∧ k_ ≠ gb216 ∧ k_ ≠ gb226)) (Kd.R_types (Kd.R_types (Kd.R_types (HO238.out) BK215.out (by decide)) BK216.out (by decide)) BK226.out (by decide)) (fun k_ hk => ⟨(.inr (hk.1.1.1.1.1.1.1)), ⟨hk.1.1.1.1.1.2, ⟨hk.1.1.1.1.2, ⟨hk.1.1.1.1.1.1.2, ⟨hk.1.1.1.2, ⟨hk.1.1.2, ⟨hk.1.2, hk.2⟩⟩⟩⟩⟩⟩⟩))))) (Reps.none _ _))))
      intro v250 w48 ho49 hb hg_ hnew_
      clear hg_ hnew_
      (first | rw [← Ny249.out] at ho49 | (simp only [Int.reduceToNat] at ho49; rw [← Ny249.out] at ho49))
      replace HO0_1 := aM (Kd.V_elder' (vq HO0_1.out) (Kd.N_base ho49) hb)
      replace HO222 := aM (rL (rq HO222.out) hb)
      replace HO229 := aM (rL (rq HO229.out) hb)
      replace HO234 := aM (Kd.V_elder' (vq HO234.out) (Kd.N_base ho49) hb)
      replace HO240 := aM (rL (rq HO240.out) hb)
      replace HO245 := aM (Kd.V_elder' (vq HO245.out) (Kd.N_base ho49) hb)
      replace HO248 := aM (rL (rq HO248.out) hb)
      have HO251 := aM (Kd.N_lower ho49 (bZ bq))
      replace BK215 := aM (kB (kq BK215.out) hb)
      replace BK216 := aM (kB (kq BK216.out) hb)
      replace BK226 := aM (kB (kq BK226.out) hb)
      replace HB := aM (bT bq hb)
      clear HO238 hb ho49
      refine hK.out _ _ ⟨cc, cc, cc⟩ (fun hHeld => ?_)
      clear hK K
      refine nn ?_
      exact norm_ (by simp only [putAll, Act.put, pa, pb, pc]) (hCont (.slice Ao45 t246.length co45, v250) _ ⟨hHeld, (vq (Kd.V_mono HO0_1.out jq)), (rq (rM HO222.out jq)), (rq (rM HO229.out jq)), (vq (Kd.V_mono HO234.out jq)), (rq (rM HO240.out jq)), (vq (Kd.V_mono HO245.out jq)), (rq (rM HO248.out jq)), (nq HO251.out), (kq BK215.out), (kq BK216.out), (kq BK226.out), bq⟩)
     ·skip
      obtain ⟨Ao44, co44, eo44⟩ := Kd.R_slice HO238.out
      (first | subst eo44 | (injection eo44 with f1_ f2_ f3_; have f4_ := f1_.symm; have f5_ := f3_.symm; clear f1_ f2_ f3_; subst f4_; subst f5_))
      refine Kd.N_lit_step (Kd.slice 2 (Kd.int .i64)) _ 22 ?hg (N' := 55) ?hd (xs := ([l0_1, t235] : List (List Int))) (inner := [.slice A0_1 l0_1.length c0_1, .slice Ao44 t235.length co44]) (ok := (fun k_ => (P0_1_ k_ ∨ w.heap.size ≤ k_) ∧ nS Ao26 y220 co26 k_ ∧ nS Ao40 t227 co40 k_ ∧ some k_ ≠ ((.slice Ao46 t236.length co46) : Value).ownBlock ∧ k_ ≠ gb215 ∧ k_ ≠ gb216 ∧ k_ ≠ gb226)) (okp := (fun k_ => (P0_1_ k_ ∨ w.heap.size ≤ k_) ∧ nS Ao26 y220 co26 k_ ∧ nS Ao40 t227 co40 k_ ∧ some k_ ≠ ((.slice Ao46 t236.length co46) : Value).ownBlock ∧ k_ ≠ gb215 ∧ k_ ≠ gb216 ∧ k_ ≠ gb226)) ?hr ?hp (fun _ hk => hk) ((show ∀ k_, w42.heap.size ≤ k_ → (fun k_ => (P0_1_ k_ ∨ w.heap.size ≤ k_) ∧ nS Ao26 y220 co26 k_ ∧ nS Ao40 t227 co40 k_ ∧ some k_ ≠ ((.slice Ao46 t236.length co46) : Value).ownBlock ∧ k_ ≠ gb215 ∧ k_ ≠ gb216 ∧ k_ ≠ gb226) k_ from fun k_ hk => ⟨(.inr (Nat.le_trans (bZ bq) hk)), Kd.fresh' (rT (rq HO222.out)) k_ hk, Kd.fresh' (rT (rq HO229.out)) k_ hk, Kd.fresh' (rT (rq HO240.out)) k_ hk, Kd.freshB (kq BK215.out) k_ hk, Kd.freshB (kq BK216.out) k_ hk, Kd.freshB (kq BK226.out) k_ hk⟩) _ (Nat.le_refl _)) (Below.refl _ _) (Nat.le_refl _) (by simp) ?_; (case hd => rfl); (case hg => rfl); (case hr => first | (go_simp; done) | (go_simp; rfl)); (case hp => exact (Reps.one (show Kd.FK (Kd.slice 2 (Kd.int .i64)) _ _ l0_1 [.slice A0_1 l0_1.length c0_1] from (Kd.FK_slice_mk (Kd.V_reads' (Kd.V_mono (ok' := (fun k_ => (P0_1_ k_ ∨ w.heap.size ≤ k_) ∧ nS Ao26 y220 co26 k_ ∧ nS Ao40 t227 co40 k_ ∧ some k_ ≠ ((.slice Ao46 t236.length co46) : Value).ownBlock ∧ k_ ≠ gb215 ∧ k_ ≠ gb216 ∧ k_ ≠ gb226)) (HO0_1.out) jq)).2.1 (Kd.V_F (Kd.V_mono (ok' := (fun k_ => (P0_1_ k_ ∨ w.heap.size ≤ k_) ∧ nS Ao26 y220 co26 k_ ∧ nS Ao40 t227 co40 k_ ∧ some k_ ≠ ((.slice Ao46 t236.length co46) : Value).ownBlock ∧ k_ ≠ gb215 ∧ k_ ≠ gb216 ∧ k_ ≠ gb226)) (HO0_1.out) jq)))) (Reps.one (show Kd.FK (Kd.slice 2 (Kd.int .i64)) _ _ t235 [.slice Ao44 t235.length co44] from (Kd.FK_slice_mk (rR (rM (ok' := (fun k_ => (P0_1_ k_ ∨ w.heap.size ≤ k_) ∧ nS Ao26 y220 co26 k_ ∧ nS Ao40 t227 co40 k_ ∧ some k_ ≠ ((.slice Ao46 t236.length co46) : Value).ownBlock ∧ k_ ≠ gb215 ∧ k_ ≠ gb216 ∧ k_ ≠ gb226)) (Kd.R_types (Kd.R_types (Kd.R_types (HO238.out) BK215.out (by decide)) BK216.out (by decide)) BK226.out (by decide)) (fun k_ hk => ⟨(.inr (hk.1.1.1.1.1.1)), ⟨hk.1.1.1.1.2, ⟨hk.1.1.1.2, ⟨hk.1.1.1.1.1.2, ⟨hk.1.1.2, ⟨hk.1.2, hk.2⟩⟩⟩⟩⟩⟩))).2.1 (Kd.R_F (rM (ok' := (fun k_ => (P0_1_ k_ ∨ w.heap.size ≤ k_) ∧ nS Ao26 y220 co26 k_ ∧ nS Ao40 t227 co40 k_ ∧ some k_ ≠ ((.slice Ao46 t236.length co46) : Value).ownBlock ∧ k_ ≠ gb215 ∧ k_ ≠ gb216 ∧ k_ ≠ gb226)) (Kd.R_types (Kd.R_types (Kd.R_types (HO238.out) BK215.out (by decide)) BK216.out (by decide)) BK226.out (by decide)) (fun k_ hk => ⟨(.inr (hk.1.1.1.1.1.1)), ⟨hk.1.1.1.1.2, ⟨hk.1.1.1.2, ⟨hk.1.1.1.1.1.2, ⟨hk.1.1.2, ⟨hk.1.2, hk.2⟩⟩⟩⟩⟩⟩))))) (Reps.none _ _))))
      intro v250 w45 ho46 hb hg_ hnew_
      clear hg_ hnew_
      (first | rw [← Ny249.out] at ho46 | (simp only [Int.reduceToNat] at ho46; rw [← Ny249.out] at ho46))
      replace HO0_1 := aM (Kd.V_elder' (vq HO0_1.out) (Kd.N_base ho46) hb)
      replace HO222 := aM (rL (rq HO222.out) hb)
      replace HO229 := aM (rL (rq HO229.out) hb)
      replace HO234 := aM (Kd.V_elder' (vq HO234.out) (Kd.N_base ho46) hb)
      replace HO240 := aM (rL (rq HO240.out) hb)
      replace HO245 := aM (Kd.V_elder' (vq HO245.out) (Kd.N_base ho46) hb)
      have HO251 := aM (Kd.N_lower ho46 (bZ bq))
      replace BK215 := aM (kB (kq BK215.out) hb)
      replace BK216 := aM (kB (kq BK216.out) hb)
      replace BK226 := aM (kB (kq BK226.out) hb)
      replace HB := aM (bT bq hb)
      clear HO238 hb ho46
      refine hK.out _ _ ⟨cc, cc, cc⟩ (fun hHeld => ?_)
      clear hK K
      refine nn ?_
      refine oo HT_ (N := some 50) 6 #[Y,Y,Y,Y,Y,Y,Y,N,Y,Y,Y,Y,N,N,N] (fun K hK => ?_)
      refine goes_ Try.func71 kr rfl #[.slice A43 y241.length c43] (by rfl) rfl rfl mq ?_
      with_reducible refine (slices_Clone_int64_int64.calls _ _ y241 t246 _ ?side1 ?side2 A16.out).mono ?_
      (case side1 => exact cq (Kd.V_reads' HO245.out).2.2)
      (case side2 => exact (Kd.V_reads' HO245.out).2.1)
      rintro e w47 ⟨v247, rfl, ho0, hb⟩
      refine ⟨_, rfl, ?_⟩
      replace HO0_1 := aM (Kd.V_elder' (vq HO0_1.out) (rB ho0) hb)
      replace HO234 := aM (Kd.V_elder' (vq HO234.out) (rB ho0) hb)
      replace HO245 := aM (Kd.V_elder' (vq HO245.out) (rB ho0) hb)
      replace HO251 := aM (Kd.N_elder' (nq HO251.out) (rB ho0) hb)
      have HO248 := aM (rG (rW (rW (rW (Kd.R_newM (M := fun k_ => (w.heap.size ≤ k_)) ho0 (bZ bq) (fun k_ h_ => h_)) (rT (rq HO222.out))) (rT (rq HO229.out))) (rT (rq HO240.out))) (bZ bq))
      replace HO222 := aM (rH (rq HO222.out) (rB ho0) hb)
      replace HO229 := aM (rH (rq HO229.out) (rB ho0) hb)
      replace HO240 := aM (rH (rq HO240.out) (rB ho0) hb)
      replace BK215 := aM (kB (kq BK215.out) hb)
      replace BK216 := aM (kB (kq BK216.out) hb)
      replace BK226 := aM (kB (kq BK226.out) hb)
      replace HB := aM (bT bq hb)
      (try clear hb)
      (try clear hb2)
      (try clear hk)
      (try clear hi)
      (try clear ho0)
      obtain ⟨Ao48, co48, eo48⟩ := Kd.R_slice HO248.out
      (first | subst eo48 | (injection eo48 with f1_ f2_ f3_; have f4_ := f1_.symm; have f5_ := f3_.symm; clear f1_ f2_ f3_; subst f4_; subst f5_))
      obtain ⟨Ao49, co49, eo49⟩ := Kd.R_slice HO240.out
      (first | subst eo49 | (injection eo49 with f1_ f2_ f3_; have f4_ := f1_.symm; have f5_ := f3_.symm; clear f1_ f2_ f3_; subst f4_; subst f5_))
      refine hK.out _ _ ⟨cc, cc, cc⟩ (fun hHeld => ?_)
      clear hK K
      refine nn ?_
      refine pp HT_ (N := some 51) 7 #[Y,Y,Y,Y,Y,Y,Y,Y,Y,Y,Y,Y,N,N,N] ?_
      exact norm_ (by simp only [putAll, Act.put, pa, pb, pc]) (hCont (.slice Ao48 t246.length co48, v250) _ ⟨hHeld, (vq (Kd.V_mono HO0_1.out jq)), (rq (rM HO222.out jq)), (rq (rM HO229.out jq)), (vq (Kd.V_mono HO234.out jq)), (rq (rM HO240.out jq)), (vq (Kd.V_mono HO245.out jq)), (rq (rM HO248.out jq)), (nq (Kd.N_mono HO251.out jq)), (kq BK215.out), (kq BK216.out), (kq BK226.out), bq⟩)
    rintro ⟨v247, v250⟩ w50 ⟨hS_, h0_, h1_, h2_, h3_, h4_, h5_, h6_, h7_, h8_, h9_, h10_, h11_⟩
    have n0_ : Aside0 (Kd.V (Kd.int .i64) 2 w50 w.heap.size (fun k_ => (P0_1_ k_ ∨ w.heap.size ≤ k_) ∧ nS Ao26 y220 co26 k_ ∧ nS Ao40 t227 co40 k_ ∧ nS Ao46 t236 co46 k_ ∧ nb v247 k_ ∧ nb v250 k_ ∧ k_ ≠ gb215 ∧ k_ ≠ gb216 ∧ k_ ≠ gb226) (.slice A0_1 l0_1.length c0_1) l0_1) := ⟨h0_⟩
    have n1_ : Aside0 (Kd.R (Kd.int .i64) 2 w50 w.heap.size (fun k_ => (w.heap.size ≤ k_) ∧ nS Ao40 t227 co40 k_ ∧ nS Ao46 t236 co46 k_ ∧ nb v247 k_) (.slice Ao26 y220.length co26) y220) := ⟨h1_⟩
    have n2_ : Aside0 (Kd.R (Kd.int .i64) 2 w50 w.heap.size (fun k_ => (w.heap.size ≤ k_) ∧ nS Ao26 y220 co26 k_ ∧ nS Ao46 t236 co46 k_ ∧ nb v247 k_) (.slice Ao40 t227.length co40) t227) := ⟨h2_⟩
    have n3_ : Aside0 (Kd.V (Kd.int .i64) 2 w50 w.heap.size (fun k_ => (P0_1_ k_ ∨ w.heap.size ≤ k_) ∧ nS Ao26 y220 co26 k_ ∧ nS Ao46 t236 co46 k_ ∧ nb v247 k_ ∧ nb v250 k_ ∧ k_ ≠ gb215 ∧ k_ ≠ gb216 ∧ k_ ≠ gb226) (.slice Ao40 y230.length co40) y230) := ⟨h3_⟩
    have n4_ : Aside0 (Kd.R (Kd.int .i64) 2 w50 w.heap.size (fun k_ => (w.heap.size ≤ k_) ∧ nS Ao26 y220 co26 k_ ∧ nS Ao40 t227 co40 k_ ∧ nb v247 k_) (.slice Ao46 t236.length co46) t236) := ⟨h4_⟩
    have n5_ : Aside0 (Kd.V (Kd.int .i64) 2 w50 w.heap.size (fun k_ => (P0_1_ k_ ∨ w.heap.size ≤ k_) ∧ nS Ao26 y220 co26 k_ ∧ nS Ao46 t236 co46 k_ ∧ nb v247 k_ ∧ nb v250 k_ ∧ k_ ≠ gb215 ∧ k_ ≠ gb216 ∧ k_ ≠ gb226) (.slice A43 y241.length c43) y241) := ⟨h5_⟩
    have n6_ : Aside0 (Kd.R (Kd.int .i64) 2 w50 w.heap.size (fun k_ => (w.heap.size ≤ k_) ∧ nS Ao26 y220 co26 k_ ∧ nS Ao40 t227 co40 k_ ∧ nS Ao46 t236 co46 k_) v247 t246) := ⟨h6_⟩
    have n7_ : Aside0 (Kd.N (Kd.slice 2 (Kd.int .i64)) 22 w50 w.heap.size (fun k_ => (P0_1_ k_ ∨ w.heap.size ≤ k_) ∧ nS Ao26 y220 co26 k_ ∧ nS Ao40 t227 co40 k_ ∧ nS Ao46 t236 co46 k_ ∧ nb v247 k_ ∧ k_ ≠ gb215 ∧ k_ ≠ gb216 ∧ k_ ≠ gb226) v250 y249) := ⟨h7_⟩
    have n8_ : Aside0 (w50.heap[gb215]? = some (.cells #[.int .i64 a0_0, .slice A0_1 l0_1.length c0_1, .slice A0_2 l0_2.length c0_2] 35 (0, 0))) := ⟨h8_⟩
    have n9_ : Aside0 (w50.heap[gb216]? = some (.cells #[.int .i64 0, .int .i64 0, .slice none 0 0, .slice none 0 0, .slice none 0 0] 37 (0, 0))) := ⟨h9_⟩
    have n10_ : Aside0 (w50.heap[gb226]? = some (.cells #[.func (.func 115) #[] #[], .func (.func 117) #[] #[]] 94 (0, 0))) := ⟨h10_⟩
    have n11_ : Aside0 (Below w.heap.size w w50) := ⟨h11_⟩
    clear HO0_1 HO222 HO229 HO234 HO238 HO240 BK215 BK216 BK226 HB h0_ h1_ h2_ h3_ h4_ h5_ h6_ h7_ h8_ h9_ h10_ h11_
    have HO0_1 := n0_
    have HO222 := n1_
    have HO229 := n2_
    have HO234 := n3_
    have HO240 := n4_
    have HO245 := n5_
    have HO248 := n6_
    have HO251 := n7_
    have BK215 := n8_
    have BK216 := n9_
    have BK226 := n10_
    have HB := n11_
    clear n0_ n1_ n2_ n3_ n4_ n5_ n6_ n7_ n8_ n9_ n10_ n11_
    have hHeld : w50.cell? ⟨gb215, 0, none⟩ = some (.int .i64 a0_0) ∧ w50.cell? ⟨gb215, 1, none⟩ = some (.slice A0_1 l0_1.length c0_1) ∧ w50.cell? ⟨gb215, 2, none⟩ = some (.slice A0_2 l0_2.length c0_2) := hS_
    obtain ⟨Ao51, co51, eo51⟩ := Kd.R_slice HO248.out
    (first | subst eo51 | (injection eo51 with f1_ f2_ f3_; have f4_ := f1_.symm; have f5_ := f3_.symm; clear f1_ f2_ f3_; subst f4_; subst f5_))
    obtain ⟨Ao52, co52, eo52⟩ := Kd.N_slice HO251.out
    (first | subst eo52 | (injection eo52 with f1_ f2_ f3_; have f4_ := f1_.symm; have f5_ := f3_.symm; clear f1_ f2_ f3_; subst f4_; subst f5_))
    refine norm_ (a' := ?_) ?_ ?_
    rotate_left
    ·simp only [putAll, Act.put, pa, pb, pc]
     rfl
    refine oo HT_ (N := some 56) 12 #[Y,Y,Y,Y,Y,Y,Y,Y,Y,Y,Y,Y,Y,N,N] (fun K hK => ?_)
    refine goes_ Try.func62 kr rfl #[.slice Ao52 y249.length co52] (by rfl) rfl rfl mq ?_
    with_reducible refine (slices_Concat_int64_int64.calls k _ _ y249 t252 _ ?side1 ?side2 A17.out).mono ?_
    (case side1 => exact cq (Kd.N_reads' HO251.out).2.2)
    (case side2 => exact (Kd.N_reads' HO251.out).2.1)
    rintro e w53 ⟨v253, rfl, ho0, hb⟩
    refine ⟨_, rfl, ?_⟩
    replace HO0_1 := aM (Kd.V_elder' (vq HO0_1.out) (rB ho0) hb)
    replace HO234 := aM (Kd.V_elder' (vq HO234.out) (rB ho0) hb)
    replace HO245 := aM (Kd.V_elder' (vq HO245.out) (rB ho0) hb)
    replace HO251 := aM (Kd.N_elder' (nq HO251.out) (rB ho0) hb)
    have HO254 := aM (rG (rW (rW (rW (rW (Kd.R_newM (M := fun k_ => (w.heap.size ≤ k_)) ho0 (bZ bq) (fun k_ h_ => h_)) (rT (rq HO222.out))) (rT (rq HO229.out))) (rT (rq HO240.out))) (rT (rq HO248.out))) (bZ bq))
    replace HO222 := aM (rH (rq HO222.out) (rB ho0) hb)
    replace HO229 := aM (rH (rq HO229.out) (rB ho0) hb)
    replace HO240 := aM (rH (rq HO240.out) (rB ho0) hb)
    replace HO248 := aM (rH (rq HO248.out) (rB ho0) hb)
    replace BK215 := aM (kB (kq BK215.out) hb)
    replace BK216 := aM (kB (kq BK216.out) hb)
    replace BK226 := aM (kB (kq BK226.out) hb)
    replace HB := aM (bT bq hb)
    (try clear hb)
    (try clear hb2)
    (try clear hk)
    (try clear hi)
    (try clear ho0)
    obtain ⟨Ao54, co54, eo54⟩ := Kd.R_slice HO254.out
    (first | subst eo54 | (injection eo54 with f1_ f2_ f3_; have f4_ := f1_.symm; have f5_ := f3_.symm; clear f1_ f2_ f3_; subst f4_; subst f5_))
    refine hK.out _ _ ⟨cc, cc, cc⟩ (fun hHeld => ?_)
    clear hK K
    refine nn ?_
    refine pp HT_ (N := some 57) 13 #[Y,Y,Y,Y,Y,Y,Y,Y,Y,Y,Y,Y,Y,Y,N] ?_
    refine oo HT_ (N := none) 14 #[Y,Y,Y,Y,Y,Y,Y,Y,Y,Y,Y,Y,Y,Y,Y] (fun K hK => ?_)
    have hs55 : w53.cell? ⟨gb216, 0, none⟩ = some (.int .i64 0) := cc
    have hfs55 := kF BK216.out 0
    have hns55_0 := NB215_216.out
    have hns55_2 := NB226_216.out
    have hms55_0 := NB216_215.out
    have hms55_2 := NB216_226.out
    have hs56 : w53.cell? ⟨gb216, 1, none⟩ = some (.int .i64 0) := cc
    have hfs56 := kF BK216.out 1
    have hns56_0 := NB215_216.out
    have hns56_2 := NB226_216.out
    have hms56_0 := NB216_215.out
    have hms56_2 := NB216_226.out
    have hs57 : w53.cell? ⟨gb216, 2, none⟩ = some (.slice none 0 0) := cc
    have hfs57 := kF BK216.out 2
    have hns57_0 := NB215_216.out
    have hns57_2 := NB226_216.out
    have hms57_0 := NB216_215.out
    have hms57_2 := NB216_226.out
    have hs58 : w53.cell? ⟨gb216, 3, none⟩ = some (.slice none 0 0) := cc
    have hfs58 := kF BK216.out 3
    have hns58_0 := NB215_216.out
    have hns58_2 := NB226_216.out
    have hms58_0 := NB216_215.out
    have hms58_2 := NB216_226.out
    have hs59 : w53.cell? ⟨gb216, 4, none⟩ = some (.slice none 0 0) := cc
    have hfs59 := kF BK216.out 4
    have hns59_0 := NB215_216.out
    have hns59_2 := NB226_216.out
    have hms59_0 := NB216_215.out
    have hms59_2 := NB216_226.out
    refine skip_ (w1 := ?_) (by rfl) rfl ?_ ?_
    rotate_left
    ·go_simp
     rfl
    refine hK.out _ _ ⟨(lf hHeld.1), (lf hHeld.2.1), (lf hHeld.2.2)⟩ (fun hHeld => ?_)
    clear hK K
    refine done_ (done_of HT_.out kr) ?_
    try go_wp2
    refine bodyPost_ret (results_cell_row rfl _ _ gb216 37 #[.int .i64 0, .int .i64 a0_0, .slice Ao46 t236.length co46, .slice Ao51 t246.length co51, .slice Ao54 t252.length co54] (0, 0) _ rfl (fq BK216.out) Try.underlying37 rfl kr) rfl ?_
    exact ⟨_, _, _, by first | rfl | (simp [errW_none, errW_some] <;> rfl) | (simp only [← hji10]; first | rfl | (simp [errW_none, errW_some] <;> rfl)) | (simp [*, errW_none, errW_some] <;> rfl), rM (rf (Kd.R_types HO240.out BK216.out (by decide))) (fun _ hk => ⟨hk.1.1.1, ⟨hk.1.1.2.2.2, hk.1.2⟩⟩), rM (rf (Kd.R_types HO248.out BK216.out (by decide))) (fun _ hk => ⟨hk.1.1.1, ⟨hk.1.1.2.2.2, hk.1.2⟩⟩), rM (rf (Kd.R_types HO254.out BK216.out (by decide))) (fun _ hk => ⟨hk.1.1.1.1.1.1, ⟨hk.1.1.2, hk.1.2⟩⟩), bq⟩
   ·rw [if_neg c12] at H
    exact absurd H (by simp)
  ·rw [if_neg c11] at H
   exact absurd H (by simp)
 ·rw [if_neg c7] at H
  have c7b0 : (t223 == 0) = false := beq_eq_false_iff_ne.mpr c7
  have c7b1 : (t223 != 0) = true := bne_iff_ne.mpr c7
  simp only [Option.some.injEq, Prod.mk.injEq] at H
  obtain ⟨rfl, rfl, rfl, rfl, rfl⟩ := H
  go_enter Try.func20, Try.ntmps20
  try go_wp2_with (first | ((with_reducible refine gate_dst (N := 2) rfl ?_); refine box_event ?hg (N := 2) ?hd (cs := #[.int .i64 a0_0, .slice A0_1 l0_1.length c0_1, .slice A0_2 l0_2.length c0_2]) (t := 35) ?hr ?_; (case hd => rfl); (case hg => rfl); (case hr => first | (go_simp; done) | (go_simp; rfl)); intro gb215 hg w60 hbox hb; replace HO0_1 := aM (Kd.V_below (Kd.V_elderB (vq HO0_1.out) gb215 (Nat.le_of_eq hg.symm)) hb); have BK215 := aM (hbox); have GW215 := aM ((by rw [hg]; exact (bZ bq) : w.heap.size ≤ gb215)); have GE215 := aM ((by rw [hg]; exact (bZ bq) : w.heap.size ≤ gb215)); replace HB := aM (bT bq hb); clear hb hbox hg) | ((with_reducible refine gate_dst (N := 4) rfl ?_); refine box_event ?hg (N := 4) ?hd (cs := #[.int .i64 0, .int .i64 0, .slice none 0 0, .slice none 0 0, .slice none 0 0]) (t := 37) ?hr ?_; (case hd => rfl); (case hg => rfl); (case hr => first | (go_simp; done) | (go_simp; rfl)); intro gb216 hg w61 hbox hb; replace HO0_1 := aM (Kd.V_below (Kd.V_elderB (vq HO0_1.out) gb216 (Nat.le_of_eq hg.symm)) hb); have BK216 := aM (hbox); have GW216 := aM ((by rw [hg]; exact (bZ bq) : w.heap.size ≤ gb216)); have GE216 := aM ((by rw [hg]; exact (bZ bq) : w.heap.size ≤ gb216)); replace HB := aM (bT bq hb); have NB215_216 := aM ((by rw [hg]; exact Nat.ne_of_lt (blk_lt (kq BK215.out)) : gb215 ≠ gb216)); have NB216_215 := aM ((by rw [hg]; exact Nat.ne_of_gt (blk_lt (kq BK215.out)) : gb216 ≠ gb215)); replace BK215 := aM (kB (kq BK215.out) hb); clear hb hbox hg))
  replace HO0_1 := aM (Kd.V_drew HO0_1.out)
  replace BK215 := aM (kD BK215.out)
  replace BK216 := aM (kD BK216.out)
  replace HB := aM (bD HB.out)
  refine start_ (n := 13) (S := fun w' => w'.cell? ⟨gb215, 0, none⟩ = some (.int .i64 a0_0) ∧ w'.cell? ⟨gb215, 1, none⟩ = some (.slice A0_1 l0_1.length c0_1) ∧ w'.cell? ⟨gb215, 2, none⟩ = some (.slice A0_2 l0_2.length c0_2)) (ds := []) #[N,N,N,N,N,N,N,N,N,N,N,N,N] kr rfl rfl ⟨cc, cc, cc⟩ (fun hHeld => ?_); refine with_tabW impl_PlayBlock.tab1 impl_PlayBlock.bits1 (fun HT_ HW_ => ?_)
  generalize w61.drew = w62 at HO0_1 BK215 BK216 HB hHeld ⊢
  refine pp HT_ (N := some 13) 2 #[N,N,Y,N,N,N,N,N,N,N,N,N,N] ?_
  refine pp HT_ (N := some 14) 3 #[N,N,Y,Y,N,N,N,N,N,N,N,N,N] ?_
  refine pp HT_ (N := some 15) 4 #[N,N,Y,Y,Y,N,N,N,N,N,N,N,N] ?_
  refine pp HT_ (N := some 19) 8 #[N,N,Y,Y,Y,N,N,N,Y,N,N,N,N] ?_
  refine tt HT_ HW_ (N := some 11) 0 #[Y,N,Y,Y,Y,N,N,N,Y,N,N,N,N] hHeld ?_ (hy := by rintro w' ⟨s0, s1, s2⟩; go_simp; with_reducible rfl)
  refine tt HT_ HW_ (N := some 16) 5 #[Y,N,Y,Y,Y,Y,N,N,Y,N,N,N,N] hHeld ?_ (hy := by rintro w' ⟨s0, s1, s2⟩; go_simp; with_reducible rfl)
  refine pp HT_ (N := some 17) 6 #[Y,N,Y,Y,Y,Y,Y,N,Y,N,N,N,N] ?_
  refine oo HT_ (N := some 12) 1 #[Y,Y,Y,Y,Y,Y,Y,N,Y,N,N,N,N] (fun K hK => ?_)
  refine goes_ Try.func46 kr rfl #[.agg #[.int .i64 a0_0, .slice A0_1 l0_1.length c0_1, .slice A0_2 l0_2.length c0_2]] (by rfl) rfl rfl mq ?_
  with_reducible refine (impl_SynthFault.calls k a0_0 _ _ l0_1 _ _ l0_2 t217 _ ?side1 ?side2 ?side3 ?side4 A3.out).mono ?_
  (case side1 => exact cq (Kd.V_reads' HO0_1.out).2.2)
  (case side2 => exact (Kd.V_reads' HO0_1.out).2.1)
  (case side3 => exact cq (cB HR0_2.out HB.out))
  (case side4 => exact HC0_2.out)
  rintro e w63 ⟨rfl, hb⟩
  refine ⟨_, rfl, ?_⟩
  replace HO0_1 := aM (Kd.V_below (vq HO0_1.out) hb)
  replace BK215 := aM (kB (kq BK215.out) hb)
  replace BK216 := aM (kB (kq BK216.out) hb)
  replace HB := aM (bT bq hb)
  (try clear hb)
  (try clear hb2)
  (try clear hk)
  (try clear hi)
  refine hK.out _ _ ⟨cc, cc, cc⟩ (fun hHeld => ?_)
  clear hK K
  refine nn ?_
  refine oo HT_ (N := some 18) 7 #[Y,Y,Y,Y,Y,Y,Y,Y,Y,N,N,N,N] (fun K hK => ?_)
  refine goes_ Try.func56 kr rfl #[.bool ((l1.length : Int) != a0_0), .int .i64 2] (by rfl) rfl rfl mq ?_
  with_reducible refine (impl_codeIf.calls ((l1.length : Int) != a0_0) 2 t218 _ A4.out).mono ?_
  rintro e w64 ⟨rfl, hdr_⟩; have hb := Drawn0.below hdr_
  refine ⟨_, rfl, ?_⟩
  replace HO0_1 := aM (Kd.V_below (vq HO0_1.out) hb)
  replace BK215 := aM (kB (kq BK215.out) hb)
  replace BK216 := aM (kB (kq BK216.out) hb)
  replace HB := aM (bT bq hb)
  (try clear hb)
  (try clear hb2)
  (try clear hk)
  (try clear hi)
  refine hK.out _ _ ⟨cc, cc, cc⟩ (fun hHeld => ?_)
  clear hK K
  refine nn ?_
  refine oo HT_ (N := some 20) 9 #[Y,Y,Y,Y,Y,Y,Y,Y,Y,Y,N,N,N] (fun K hK => ?_)
  refine goes_ Try.func68 kr rfl #[.slice A1 l1.length c1] (by rfl) rfl rfl mq ?_
  with_reducible refine (impl_gatherFault.calls k _ _ l1 t219 _ ?side1 ?side2 A5.out).mono ?_
  (case side1 => exact cq (cB HR1.out HB.out))
  (case side2 => exact HC1.out)
  rintro e w65 ⟨rfl, hb⟩
  refine ⟨_, rfl, ?_⟩
  replace HO0_1 := aM (Kd.V_below (vq HO0_1.out) hb)
  replace BK215 := aM (kB (kq BK215.out) hb)
  replace BK216 := aM (kB (kq BK216.out) hb)
  replace HB := aM (bT bq hb)
  (try clear hb)
  (try clear hb2)
  (try clear hk)
  (try clear hi)
  refine hK.out _ _ ⟨cc, cc, cc⟩ (fun hHeld => ?_)
  clear hK K
  refine nn ?_
  refine oo HT_ (N := some 21) 10 #[Y,Y,Y,Y,Y,Y,Y,Y,Y,Y,Y,N,N] (fun K hK => ?_)
  refine Kd.R_lit_step (Kd.int .i64) _ 2 ?hg (N := 21) ?hd (xs := ([t217, t218, t219] : List Int)) (inner := [.int .i64 t217, .int .i64 t218, .int .i64 t219]) (ok := fun _ => True) (okp := fun _ => True) ?hr ?hp (fun _ hk => hk) trivial (Below.refl _ _) (Nat.le_refl _) (by simp) ?_; (case hd => rfl); (case hg => rfl); (case hr => first | (go_simp; done) | (go_simp; rfl)); (case hp => exact (Reps.one (show Kd.M (Kd.int .i64) _ _ _ t217 [.int .i64 t217] from rfl) (Reps.one (show Kd.M (Kd.int .i64) _ _ _ t218 [.int .i64 t218] from rfl) (Reps.one (show Kd.M (Kd.int .i64) _ _ _ t219 [.int .i64 t219] from rfl) (Reps.none _ _)))))
  intro v221 w66 ho67 hb hg_ hnew_
  clear hg_ hnew_
  (first | rw [← Ny220.out] at ho67 | (simp only [Int.reduceToNat] at ho67; rw [← Ny220.out] at ho67))
  replace HO0_1 := aM (Kd.V_elder' (vq HO0_1.out) (rB ho67) hb)
  have HO222 := aM (rG (Kd.R_newM (M := fun k_ => (w.heap.size ≤ k_)) ho67 (bZ bq) (fun k_ h_ => h_)) (bZ bq))
  replace BK215 := aM (kB (kq BK215.out) hb)
  replace BK216 := aM (kB (kq BK216.out) hb)
  replace HB := aM (bT bq hb)
  clear hb ho67
  obtain ⟨Ao68, co68, eo68⟩ := Kd.R_slice HO222.out
  (first | subst eo68 | (injection eo68 with f1_ f2_ f3_; have f4_ := f1_.symm; have f5_ := f3_.symm; clear f1_ f2_ f3_; subst f4_; subst f5_))
  refine hK.out _ _ ⟨cc, cc, cc⟩ (fun hHeld => ?_)
  clear hK K
  refine nn ?_
  refine oo HT_ (N := some 22) 11 #[Y,Y,Y,Y,Y,Y,Y,Y,Y,Y,Y,Y,N] (fun K hK => ?_)
  refine goes_ Try.func54 kr rfl #[.slice Ao68 y220.length co68] (by rfl) rfl rfl mq ?_
  with_reducible refine (impl_first.calls k _ _ y220 t223 _ ?side1 ?side2 A6.out).mono ?_
  (case side1 => exact cq (rR HO222.out).2.2)
  (case side2 => exact (rR HO222.out).2.1)
  rintro e w69 ⟨rfl, hdr_⟩; have hb := Drawn0.below hdr_
  refine ⟨_, rfl, ?_⟩
  replace HO0_1 := aM (Kd.V_below (vq HO0_1.out) hb)
  replace HO222 := aM (rL (rq HO222.out) hb)
  replace BK215 := aM (kB (kq BK215.out) hb)
  replace BK216 := aM (kB (kq BK216.out) hb)
  replace HB := aM (bT bq hb)
  (try clear hb)
  (try clear hb2)
  (try clear hk)
  (try clear hi)
  refine hK.out _ _ ⟨cc, cc, cc⟩ (fun hHeld => ?_)
  clear hK K
  refine nn ?_
  refine pp HT_ (N := some 5) 12 #[Y,Y,Y,Y,Y,Y,Y,Y,Y,Y,Y,Y,Y] ?_
  refine done_ (done_of HT_.out kr) ?_
  have hnb70 := NB216_215.out
  have hnc70 := NB215_216.out
  have hcz71_0 : w69.cell? ⟨gb216, 0, none⟩ = some (.int .i64 0) := cc
  have hcz71_1 : w69.cell? ⟨gb216, 1, none⟩ = some (.int .i64 0) := cc
  have hcz71_2 : w69.cell? ⟨gb216, 2, none⟩ = some (.slice none 0 0) := cc
  have hcz71_3 : w69.cell? ⟨gb216, 3, none⟩ = some (.slice none 0 0) := cc
  have hcz71_4 : w69.cell? ⟨gb216, 4, none⟩ = some (.slice none 0 0) := cc
  have hfz71_0 := kF BK216.out 0
  have hfz71_1 := kF BK216.out 1
  have hfz71_2 := kF BK216.out 2
  have hfz71_3 := kF BK216.out 3
  have hfz71_4 := kF BK216.out 4
  try go_wp2
  refine bodyPost_ret (results_cell_row rfl _ _ gb216 37 #[.int .i64 t223, .int .i64 0, .slice none 0 0, .slice none 0 0, .slice none 0 0] (0, 0) _ rfl (fq BK216.out) Try.underlying37 rfl kr) rfl ?_
  exact ⟨_, _, _, ew, by first | exact Kd.R_nil _ _ _ _ _ | exact Kd.N_nil _ _ _ _ _ | exact Kd.V_nil _ _ _ _ _ | exact Kd.Q_nil _ _ _ _ _ | exact Kd.S_nil _ _ _ _ _, by first | exact Kd.R_nil _ _ _ _ _ | exact Kd.N_nil _ _ _ _ _ | exact Kd.V_nil _ _ _ _ _ | exact Kd.Q_nil _ _ _ _ _ | exact Kd.S_nil _ _ _ _ _, by first | exact Kd.R_nil _ _ _ _ _ | exact Kd.N_nil _ _ _ _ _ | exact Kd.V_nil _ _ _ _ _ | exact Kd.Q_nil _ _ _ _ _ | exact Kd.S_nil _ _ _ _ _, bq⟩
theorem impl_PlayBlock.calls (k : Nat) (a0_0 : Int) (A0_1 : Option Addr) (c0_1 : Nat) (l0_1 : List Int) (A0_2 : Option Addr) (c0_2 : Nat) (l0_2 : List Int) (A1 : Option Addr) (c1 : Nat) (l1 : List Int) (r1 : Int) (r2 : Int) (r3 : List Int) (r4 : List Int) (r5 : List Int) (w : World) (hr0_1 : Kd.C (Kd.int .i64) w A0_1 l0_1.length l0_1) (hc0_1 : l0_1.length ≤ c0_1) (hr0_2 : Kd.C (Kd.int .i64) w A0_2 l0_2.length l0_2) (hc0_2 : l0_2.length ≤ c0_2) (hr1 : Kd.C (Kd.int .i64) w A1 l1.length l1) (hc1 : l1.length ≤ c1) (h : impl_PlayBlock.f k a0_0 l0_1 l0_2 l1 = some (r1, r2, r3, r4, r5)) :
  Calls Try.prog 20 #[.agg #[.int .i64 a0_0, .slice A0_1 l0_1.length c0_1, .slice A0_2 l0_2.length c0_2], .slice A1 l1.length c1] w fun e w' => ∃ v2_ v3_ v4_ : Value, e = .returned (.agg #[.int .i64 r1, .int .i64 r2, v2_, v3_, v4_]) ∧ Kd.R (Kd.int .i64) 2 w' w.heap.size (fun k_ => nb v3_ k_ ∧ nb v4_ k_) v2_ r3 ∧ Kd.R (Kd.int .i64) 2 w' w.heap.size (fun k_ => nb v2_ k_ ∧ nb v4_ k_) v3_ r4 ∧ Kd.R (Kd.int .i64) 2 w' w.heap.size (fun k_ => nb v2_ k_ ∧ nb v3_ k_) v4_ r5 ∧ Below w.heap.size w w' := by
 refine (impl_PlayBlock.callsV k a0_0 (fun k_ => k_ < w.heap.size) A0_1 c0_1 l0_1 A0_2 c0_2 l0_2 A1 c1 l1 r1 r2 r3 r4 r5 w (Kd.V_mk hc0_1 (Kd.C_F (Kd.heap_int .i64) hr0_1)) hr0_2 hc0_2 hr1 hc1 h).mono fun e w' hh_ => ?_
 obtain ⟨v2_, v3_, v4_, he_, h0_, h1_, h2_, hb_⟩ := hh_
 exact ⟨v2_, v3_, v4_, he_, rM h0_ (fun _ hk => hk.2), rM h1_ (fun _ hk => hk.2), rM h2_ (fun _ hk => hk.2), hb_⟩

end Go.Proofs.Ytmhnpogjkbmmnaa.PFnLaps
