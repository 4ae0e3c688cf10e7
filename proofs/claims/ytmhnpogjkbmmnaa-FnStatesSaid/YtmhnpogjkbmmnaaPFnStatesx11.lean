import Derived.Test.YtmhnpogjkbmmnaaPFnStatesx0
import Derived.Test.YtmhnpogjkbmmnaaPFnStatesx5
import Derived.Test.YtmhnpogjkbmmnaaPFnStatesx6
import Derived.Test.YtmhnpogjkbmmnaaPFnStatesx7
import Derived.Test.YtmhnpogjkbmmnaaPFnStatesx9
import Derived.Test.YtmhnpogjkbmmnaaPFnStatesx10
namespace Go.Proofs.Ytmhnpogjkbmmnaa.PFnStates
open Go.RowKit Go.Proofs.YtmhnpogjkbmmnaaW.PrintWords Go.Proofs.YtmhnpogjkbmmnaaW.PrintLast Go.Proofs.YtmhnpogjkbmmnaaW.PrintMore
open Go.Proofs.YtmhnpogjkbmmnaaW.PrintWords.Kd renaming R_alloc → rA, R_drewN → rN, R_drew → rD, R_far → rF, R_mono → rM, R_base → rB, R_new' → rW, R_below → rL, R_lt → rT, R_lower → rG, R_elder' → rH, R_reads' → rR, C_below → cB
open Go.Proofs.YtmhnpogjkbmmnaaW.PrintMore.Kd renaming R_told → rO, R_old → rE
open Go.Proofs.YtmhnpogjkbmmnaaW.PrintWords renaming below_drew1 → bD, below_step → bT, below_size → bZ, blk_drewN → kN, blk_drew → kD, blk_alloc → kA, blk_below → kB, blk_cell → kC, blk_frozen → kF
open Go.Proofs.YtmhnpogjkbmmnaaW.PrintWords.Aside0 renaming mk → aM
attribute [local go_sem] max2_int min2_int max_two min_two max_three min_three max_four min_four
set_option maxHeartbeats 8000000
set_option maxRecDepth 100000
set_option linter.unusedVariables false
set_option linter.unusedSimpArgs false
def impl_PlayBlock.f (k : Nat) (a0_0 : Int) (l0_1 : List Int) (l0_2 : List Int) (l1 : List Int) : Option (Int × Int × List Int × List Int × List Int) := (impl_SynthFault.f k a0_0 l0_1 l0_2).bind fun t353 => ((impl_codeIf.f ((l1.length : Int) != a0_0) 2).bind fun t354 => ((impl_gatherFault.f k l1).bind fun t355 => ((impl_first.f k (([t353, t354, t355] : List Int))).bind fun t359 => (if t359 = 0 then ((impl_samples.f).bind fun _ => ((impl_undo_gather.f k impl_samples_1.f impl_part.f l1).bind fun t363 => (if 0 ≤ (wrap64 (Int.tdiv a0_0 2)) then (if (wrap64 (Int.tdiv a0_0 2)) ≤ (t363.length : Int) then ((impl_seam.f k l0_2 (t363.take ((wrap64 (Int.tdiv a0_0 2)) : Int).toNat) (impl_samples_1.f a0_0)).bind fun bt371 => ((slices_Clone_int64_int64.f (t363.drop ((wrap64 (Int.tdiv a0_0 2)) : Int).toNat)).bind fun t382 => ((slices_Concat_int64_int64.f k (([l0_1, bt371.1] : List (List Int)))).bind fun t388 => (some (0, a0_0, bt371.2, t382, t388))))) else (none)) else (none)))) else (some (t359, 0, ([] : List Int), ([] : List Int), ([] : List Int)))))))
def impl_PlayBlock.T1 : Bool × List (List Nat × List Nat) := (true, [([], []), ([0], [0]), ([], []), ([2], [2]), ([], []), ([4], [4]), ([3, 5], [3, 5]), ([6, 1], [6]), ([], []), ([8, 7], [8]), ([1, 7, 9], [1, 7, 9]), ([10, 9], [10]), ([11, 11, 0, 1, 2, 3, 4, 5, 6, 7, 8, 9, 10, 11], [11])])
def impl_PlayBlock.B1 : List Nat := [0, 1, 0, 4, 0, 16, 60, 127, 0, 511, 1023, 2047, 4095]
theorem impl_PlayBlock.tab1 : rtab .any (opsOf Try.f20 1) = impl_PlayBlock.T1 := by kernel_rfl
theorem impl_PlayBlock.bits1 : waitsOk impl_PlayBlock.T1.2 impl_PlayBlock.B1 = true := by kernel_rfl
def impl_PlayBlock.T6 : Bool × List (List Nat × List Nat) := (true, [([], []), ([0], [0]), ([], []), ([], []), ([2, 3], [2, 3]), ([], []), ([1, 4, 5], [1, 4, 5]), ([6], [6]), ([7], [7]), ([7], [7]), ([8, 6, 0, 1, 2, 3, 4, 5, 6, 7, 8], [8]), ([9, 10, 0, 1, 2, 3, 4, 5, 6, 7, 8, 9, 10], [9])])
def impl_PlayBlock.B6 : List Nat := [0, 1, 0, 0, 12, 0, 63, 127, 255, 255, 511, 2047]
theorem impl_PlayBlock.tab6 : rtab .any (opsOf Try.f20 6) = impl_PlayBlock.T6 := by kernel_rfl
theorem impl_PlayBlock.bits6 : waitsOk impl_PlayBlock.T6.2 impl_PlayBlock.B6 = true := by kernel_rfl
def impl_PlayBlock.T7 : Bool × List (List Nat × List Nat) := (true, [([], []), ([0], [0]), ([], []), ([], []), ([], []), ([3, 4], [3, 4]), ([5], [5]), ([1, 2, 6], [1, 2, 6]), ([], []), ([8], [8]), ([], []), ([9, 10], [9, 10]), ([11, 6], [11]), ([7, 12], [7, 12]), ([13, 12, 0, 1, 2, 3, 4, 5, 6, 7, 8, 9, 10, 11, 12, 13], [13])])
def impl_PlayBlock.B7 : List Nat := [0, 1, 0, 0, 0, 24, 56, 127, 0, 256, 0, 1792, 3960, 8191, 16383]
theorem impl_PlayBlock.tab7 : rtab .any (opsOf Try.f20 7) = impl_PlayBlock.T7 := by kernel_rfl
theorem impl_PlayBlock.bits7 : waitsOk impl_PlayBlock.T7.2 impl_PlayBlock.B7 = true := by kernel_rfl
theorem impl_PlayBlock.callsV (k : Nat) (a0_0 : Int) (P0_1_ : Nat → Prop) (A0_1 : Option Addr) (c0_1 : Nat) (l0_1 : List Int) (A0_2 : Option Addr) (c0_2 : Nat) (l0_2 : List Int) (A1 : Option Addr) (c1 : Nat) (l1 : List Int) (r1 : Int) (r2 : Int) (r3 : List Int) (r4 : List Int) (r5 : List Int) (w : World) (hs0_1 : Kd.V (Kd.int .i64) 2 w w.heap.size (fun k_ => P0_1_ k_) (.slice A0_1 l0_1.length c0_1) l0_1) (hr0_2 : Kd.C (Kd.int .i64) w A0_2 l0_2.length l0_2) (hc0_2 : l0_2.length ≤ c0_2) (hr1 : Kd.C (Kd.int .i64) w A1 l1.length l1) (hc1 : l1.length ≤ c1) (h : impl_PlayBlock.f k a0_0 l0_1 l0_2 l1 = some (r1, r2, r3, r4, r5)) :
  Calls Try.prog 20 #[.agg #[.int .i64 a0_0, .slice A0_1 l0_1.length c0_1, .slice A0_2 l0_2.length c0_2], .slice A1 l1.length c1] w fun e w' => ∃ v2_ v3_ v4_ : Value, e = .returned (.agg #[.int .i64 r1, .int .i64 r2, v2_, v3_, v4_]) ∧ Kd.R (Kd.int .i64) 2 w' w.heap.size (fun k_ => (w.heap.size ≤ k_) ∧ nb v3_ k_ ∧ nb v4_ k_) v2_ r3 ∧ Kd.R (Kd.int .i64) 2 w' w.heap.size (fun k_ => (w.heap.size ≤ k_) ∧ nb v2_ k_ ∧ nb v4_ k_) v3_ r4 ∧ Kd.R (Kd.int .i64) 2 w' w.heap.size (fun k_ => (w.heap.size ≤ k_) ∧ nb v2_ k_ ∧ nb v3_ k_) v4_ r5 ∧ Below w.heap.size w w' := by
 have hu35 := Try.underlying35
 have hu37 := Try.underlying37
 have hu94 := Try.underlying94
 have HO0_1 := aM (show Kd.V (Kd.int .i64) 2 w w.heap.size (fun k_ => (P0_1_ k_ ∨ w.heap.size ≤ k_)) (.slice A0_1 l0_1.length c0_1) l0_1 from Kd.V_mono hs0_1 (fun k_ hk => .inl hk))
 have HR0_2 := aM hr0_2
 have HC0_2 := aM hc0_2
 clear hr0_2 hc0_2
 have HR1 := aM hr1
 have HC1 := aM hc1
 clear hr1 hc1
 have HB := aM (Below.refl w.heap.size w)
 unfold impl_PlayBlock.f at h
 have H := h
 clear h
 replace H := bo H
 obtain ⟨t353, A3, H⟩ := H
 replace H := bz H
 replace H := bo H
 obtain ⟨t354, A4, H⟩ := H
 replace H := bz H
 replace H := bo H
 obtain ⟨t355, A5, H⟩ := H
 replace H := bz H
 obtain ⟨y356, Ny356⟩ : ∃ y_ : List Int, Aside0 (y_ = (([t353, t354, t355] : List Int))) := ⟨_, ⟨rfl⟩⟩
 rw [← Ny356.out] at H
 replace H := bo H
 obtain ⟨t359, A6, H⟩ := H
 replace H := bz H
 by_cases c7 : t359 = 0
 ·rw [if_pos c7] at H
  have c7b0 := eT c7
  have c7b1 := nF c7
  clear c7
  replace H := bo H
  obtain ⟨_, A8, H⟩ := H
  replace H := bz H
  replace H := bo H
  obtain ⟨t363, A9, H⟩ := H
  replace H := bz H
  obtain ⟨ji10, hji10⟩ : ∃ j_ : Int, (wrap64 (Int.tdiv a0_0 2)) = j_ := ⟨_, rfl⟩
  rw [hji10] at H
  (try rw [hji10] at A3)
  (try rw [hji10] at A4)
  (try rw [hji10] at A5)
  (try rw [hji10] at A6)
  (try rw [hji10] at A8)
  (try rw [hji10] at A9)
  have hji10w : (IntKind.i64.wrap (Int.tdiv a0_0 2)) = ji10 := (i64_w _).trans hji10
  by_cases c11 : 0 ≤ (ji10)
  ·rw [if_pos c11] at H
   have c11b0 := eq_true c11
   have c11b1 := dT c11
   clear c11
   by_cases c12 : (ji10) ≤ (t363.length : Int)
   ·rw [if_pos c12] at H
    have c12b0 := eq_true c12
    have c12b1 := dT c12
    clear c12
    obtain ⟨y366, Ny366⟩ : ∃ y_ : List Int, Aside0 (y_ = (t363.take ((ji10) : Int).toNat)) := ⟨_, ⟨rfl⟩⟩
    rw [← Ny366.out] at H
    replace H := bo H
    obtain ⟨⟨t371, t372⟩, A13, H⟩ := H
    replace H := bz H
    have c14b0 := eq_true (dt : 0 ≤ (ji10))
    have c15b0 := eq_true (dt : (ji10) ≤ (t363.length : Int))
    obtain ⟨y377, Ny377⟩ : ∃ y_ : List Int, Aside0 (y_ = (t363.drop ((ji10) : Int).toNat)) := ⟨_, ⟨rfl⟩⟩
    rw [← Ny377.out] at H
    replace H := bo H
    obtain ⟨t382, A16, H⟩ := H
    replace H := bz H
    obtain ⟨y385, Ny385⟩ : ∃ y_ : List (List Int), Aside0 (y_ = (([l0_1, t371] : List (List Int)))) := ⟨_, ⟨rfl⟩⟩
    rw [← Ny385.out] at H
    replace H := bo H
    obtain ⟨t388, A17, H⟩ := H
    replace H := bz H
    simp only [Option.some.injEq, Prod.mk.injEq] at H
    obtain ⟨rfl, rfl, rfl, rfl, rfl⟩ := H
    go_enter Try.func20, Try.ntmps20
    try go_wp2_with (first | ((with_reducible refine gD 2 rfl ?_); refine bx 2 35 #[.int .i64 a0_0, .slice A0_1 l0_1.length c0_1, .slice A0_2 l0_2.length c0_2] ?_; intro gb351 hg w18 hbox hb; replace HO0_1 := aM (Kd.V_below (Kd.V_elderB (vq HO0_1.out) gb351 (Nat.le_of_eq hg.symm)) hb); have BK351 := aM hbox; have GW351 := gw w hg; have GE351 := GW351; replace HB := aM (bT bq hb); clear hb hbox hg) | ((with_reducible refine gD 4 rfl ?_); refine bx 4 37 #[.int .i64 0, .int .i64 0, .slice none 0 0, .slice none 0 0, .slice none 0 0] ?_; intro gb352 hg w19 hbox hb; replace HO0_1 := aM (Kd.V_below (Kd.V_elderB (vq HO0_1.out) gb352 (Nat.le_of_eq hg.symm)) hb); have BK352 := aM hbox; have GW352 := gw w hg; have GE352 := GW352; replace HB := aM (bT bq hb); have NB351_352 := nl BK351 hg; have NB352_351 := aM NB351_352.out.symm; replace BK351 := zb BK351 hb; clear hb hbox hg))
    replace HO0_1 := aM (Kd.V_drew HO0_1.out)
    replace BK351 := zk BK351
    replace BK352 := zk BK352
    replace HB := aM (bD HB.out)
    refine start_ (n := 13) (S := fun w' => w'.cell? ⟨gb351, 0, none⟩ = some (.int .i64 a0_0) ∧ w'.cell? ⟨gb351, 1, none⟩ = some (.slice A0_1 l0_1.length c0_1) ∧ w'.cell? ⟨gb351, 2, none⟩ = some (.slice A0_2 l0_2.length c0_2)) (ds := []) #[N,N,N,N,N,N,N,N,N,N,N,N,N] kr rfl rfl ⟨cc, cc, cc⟩ (fun hHeld => ?_); refine with_tabW impl_PlayBlock.tab1 impl_PlayBlock.bits1 (fun HT_ HW_ => ?_)
    generalize w19.drew = w20 at HO0_1 BK351 BK352 HB hHeld ⊢
    refine p1 13 2 ?_
    refine p1 14 3 ?_
    refine p1 15 4 ?_
    refine p1 19 8 ?_
    refine t1 11 0 ?_ (hy := by rintro w' ⟨s0, s1, s2⟩; go_simp; with_reducible rfl)
    refine t1 16 5 ?_ (hy := by rintro w' ⟨s0, s1, s2⟩; go_simp; with_reducible rfl)
    refine p1 17 6 ?_
    refine o1 12 1 fun K hK => ?_
    refine goes_ Try.func46 kr rfl #[.agg #[.int .i64 a0_0, .slice A0_1 l0_1.length c0_1, .slice A0_2 l0_2.length c0_2]] (by rfl) rfl rfl mq ?_
    with_reducible refine (impl_SynthFault.calls k a0_0 _ _ l0_1 _ _ l0_2 t353 _ ?s1 ?s2 ?s3 ?s4 A3.out).mono ?_
    (case s1 => exact cq (Kd.V_reads' HO0_1.out).2.2)
    (case s2 => exact (Kd.V_reads' HO0_1.out).2.1)
    (case s3 => exact cq (cB HR0_2.out HB.out))
    (case s4 => exact HC0_2.out)
    rintro e w21 ⟨rfl, hb⟩
    refine ⟨_, rfl, ?_⟩
    replace HO0_1 := aM (Kd.V_below (vq HO0_1.out) hb)
    replace BK351 := zb BK351 hb
    replace BK352 := zb BK352 hb
    replace HB := aM (bT bq hb)
    (try clear hb)
    (try clear hb2)
    (try clear hk)
    (try clear hi)
    refine hK.out _ _ ⟨cc, cc, cc⟩ (fun hHeld => ?_)
    clear hK K
    refine nn ?_
    refine o1 18 7 fun K hK => ?_
    refine goes_ Try.func56 kr rfl #[.bool ((l1.length : Int) != a0_0), .int .i64 2] (by rfl) rfl rfl mq ?_
    with_reducible refine (impl_codeIf.calls ((l1.length : Int) != a0_0) 2 t354 _ A4.out).mono ?_
    rintro e w22 ⟨rfl, hdr_⟩; have hb := Drawn0.below hdr_
    refine ⟨_, rfl, ?_⟩
    replace HO0_1 := aM (Kd.V_below (vq HO0_1.out) hb)
    replace BK351 := zb BK351 hb
    replace BK352 := zb BK352 hb
    replace HB := aM (bT bq hb)
    (try clear hb)
    (try clear hb2)
    (try clear hk)
    (try clear hi)
    refine hK.out _ _ ⟨cc, cc, cc⟩ (fun hHeld => ?_)
    clear hK K
    refine nn ?_
    refine o1 20 9 fun K hK => ?_
    refine goes_ Try.func68 kr rfl #[.slice A1 l1.length c1] (by rfl) rfl rfl mq ?_
    with_reducible refine (impl_gatherFault.calls k _ _ l1 t355 _ ?s1 ?s2 A5.out).mono ?_
    (case s1 => exact cq (cB HR1.out HB.out))
    (case s2 => exact HC1.out)
    rintro e w23 ⟨rfl, hb⟩
    refine ⟨_, rfl, ?_⟩
    replace HO0_1 := aM (Kd.V_below (vq HO0_1.out) hb)
    replace BK351 := zb BK351 hb
    replace BK352 := zb BK352 hb
    replace HB := aM (bT bq hb)
    (try clear hb)
    (try clear hb2)
    (try clear hk)
    (try clear hi)
    refine hK.out _ _ ⟨cc, cc, cc⟩ (fun hHeld => ?_)
    clear hK K
    refine nn ?_
    refine o1 21 10 fun K hK => ?_
    refine Kd.R_lit_step (Kd.int .i64) _ 2 ?hg (N := 21) ?hd (xs := ([t353, t354, t355] : List Int)) (inner := [.int .i64 t353, .int .i64 t354, .int .i64 t355]) (ok := fun _ => True) (okp := fun _ => True) ?hr ?hp (fun _ hk => hk) trivial (Below.refl _ _) (Nat.le_refl _) (by simp) ?_; (case hd => rfl); (case hg => rfl); (case hr => first | (go_simp; done) | (go_simp; rfl)); (case hp => exact (Reps.one (show Kd.M (Kd.int .i64) _ _ _ t353 [.int .i64 t353] from rfl) (Reps.one (show Kd.M (Kd.int .i64) _ _ _ t354 [.int .i64 t354] from rfl) (Reps.one (show Kd.M (Kd.int .i64) _ _ _ t355 [.int .i64 t355] from rfl) (Reps.none _ _)))))
    intro v357 w24 ho25 hb hg_ hnew_
    clear hg_ hnew_
    rw [← Ny356.out] at ho25
    replace HO0_1 := aM (Kd.V_elder' (vq HO0_1.out) (rB ho25) hb)
    have HO358 := aM (rG (Kd.R_newM (M := fun k_ => (w.heap.size ≤ k_)) ho25 (bZ bq) (fun k_ h_ => h_)) (bZ bq))
    replace BK351 := zb BK351 hb
    replace BK352 := zb BK352 hb
    replace HB := aM (bT bq hb)
    clear hb ho25
    obtain ⟨Ao26, co26, eo26⟩ := Kd.R_slice HO358.out
    (first | subst eo26 | (injection eo26 with f1_ f2_ f3_; have f4_ := f1_.symm; have f5_ := f3_.symm; clear f1_ f2_ f3_; subst f4_; subst f5_))
    refine hK.out _ _ ⟨cc, cc, cc⟩ (fun hHeld => ?_)
    clear hK K
    refine nn ?_
    refine o1 22 11 fun K hK => ?_
    refine goes_ Try.func54 kr rfl #[.slice Ao26 y356.length co26] (by rfl) rfl rfl mq ?_
    with_reducible refine (impl_first.calls k _ _ y356 t359 _ ?s1 ?s2 A6.out).mono ?_
    (case s1 => exact cq (rR HO358.out).2.2)
    (case s2 => exact (rR HO358.out).2.1)
    rintro e w27 ⟨rfl, hdr_⟩; have hb := Drawn0.below hdr_
    refine ⟨_, rfl, ?_⟩
    replace HO0_1 := aM (Kd.V_below (vq HO0_1.out) hb)
    replace HO358 := zl HO358 hb
    replace BK351 := zb BK351 hb
    replace BK352 := zb BK352 hb
    replace HB := aM (bT bq hb)
    (try clear hb)
    (try clear hb2)
    (try clear hk)
    (try clear hi)
    refine hK.out _ _ ⟨cc, cc, cc⟩ (fun hHeld => ?_)
    clear hK K
    refine nn ?_
    refine p1 5 12 ?_
    refine done_ (done_of HT_.out kr) ?_
    try go_wp2
    replace HO0_1 := aM (Kd.V_drew HO0_1.out)
    replace HO358 := zd HO358
    replace BK351 := zk BK351
    replace BK352 := zk BK352
    replace HB := aM (bD HB.out)
    refine start_ (n := 7) (S := fun w' => w'.cell? ⟨gb351, 0, none⟩ = some (.int .i64 a0_0) ∧ w'.cell? ⟨gb351, 1, none⟩ = some (.slice A0_1 l0_1.length c0_1) ∧ w'.cell? ⟨gb351, 2, none⟩ = some (.slice A0_2 l0_2.length c0_2)) (ds := []) #[N,N,N,N,N,N,N] kr rfl rfl ⟨cc, cc, cc⟩ (fun hHeld => ?_)
    generalize w27.drew = w28 at HO0_1 HO358 BK351 BK352 HB hHeld ⊢
    refine pure_ (i := 0) (N := some 27) (v := ?_) (a' := ?_) #[Y,N,N,N,N,N,N] rfl rfl kr (fun _ _ _ h => h) (Or.inl ⟨by rfl, ?_⟩) ?_ ?_
    rotate_left
    ·intro w'
     go_simp
     with_reducible rfl
    rotate_left
    ·simp only [Act.put, pa, pb, pc, i64_w, i32_w]
     rfl
    refine take_ (i := 1) (N := some 28) (v := ?_) (a' := ?_) #[Y,Y,N,N,N,N,N] rfl rfl kr (fun _ _ _ h => h) (Or.inl ⟨by rfl, ?_⟩) hHeld ?_ ?_
    rotate_left
    ·rintro w' ⟨s0, s1, s2⟩
     go_simp
     with_reducible rfl
    rotate_left
    ·simp only [Act.put, pa, pb, pc, i64_w, i32_w]
     rfl
    refine pure_ (i := 2) (N := some 29) (v := ?_) (a' := ?_) #[Y,Y,Y,N,N,N,N] rfl rfl kr (fun _ _ _ h => h) (Or.inl ⟨by rfl, ?_⟩) ?_ ?_
    rotate_left
    ·intro w'
     go_simp
     with_reducible rfl
    rotate_left
    ·simp only [Act.put, pa, pb, pc, i64_w, i32_w]
     rfl
    refine join_ (σ := Nat) 2 #[Y,Y,Y,Y,Y,N,N] (fun s_ => [(30, .agg #[.func (.func 115) #[] #[], .func (.func 117) #[] #[]]), (7, .pointer (some ⟨s_, 0, none⟩))]) (fun s_ w' => (w'.cell? ⟨gb351, 0, none⟩ = some (.int .i64 a0_0) ∧ w'.cell? ⟨gb351, 1, none⟩ = some (.slice A0_1 l0_1.length c0_1) ∧ w'.cell? ⟨gb351, 2, none⟩ = some (.slice A0_2 l0_2.length c0_2)) ∧ (Kd.V (Kd.int .i64) 2 w' w.heap.size (fun k_ => (P0_1_ k_ ∨ w.heap.size ≤ k_) ∧ nS Ao26 y356 co26 k_ ∧ k_ ≠ gb351 ∧ k_ ≠ gb352 ∧ k_ ≠ s_) (.slice A0_1 l0_1.length c0_1) l0_1) ∧ (Kd.R (Kd.int .i64) 2 w' w.heap.size (fun k_ => (w.heap.size ≤ k_)) (.slice Ao26 y356.length co26) y356) ∧ (w'.heap[gb351]? = some (.cells #[.int .i64 a0_0, .slice A0_1 l0_1.length c0_1, .slice A0_2 l0_2.length c0_2] 35 (0, 0))) ∧ (w'.heap[gb352]? = some (.cells #[.int .i64 0, .int .i64 0, .slice none 0 0, .slice none 0 0, .slice none 0 0] 37 (0, 0))) ∧ (w'.heap[s_]? = some (.cells #[.nilFunc, .nilFunc] 94 (0, 0))) ∧ (w.heap.size ≤ s_) ∧ (w.heap.size ≤ s_) ∧ (gb351 ≠ s_) ∧ (s_ ≠ gb351) ∧ (gb352 ≠ s_) ∧ (s_ ≠ gb352) ∧ (Below w.heap.size w w')) ?_ ?_
    rotate_left
    ·intro hCont
     refine two_ (i := 3) (j := 4) (Ni := some 30) (Nj := some 7) #[Y,Y,Y,Y,N,N,N] #[Y,Y,Y,N,Y,N,N] rfl rfl rfl rfl kr (by decide) (by decide) (fun K hK => ?_) (fun K hK => ?_)
     ·skip
      refine goes_ Try.func69 kr rfl #[] (by rfl) rfl rfl mq ?_
      with_reducible refine (impl_samples.calls   _ A8.out).mono ?_
      rintro e w29 ⟨rfl, hb⟩
      refine ⟨_, rfl, ?_⟩
      replace HO0_1 := aM (Kd.V_below (vq HO0_1.out) hb)
      replace HO358 := zl HO358 hb
      replace BK351 := zb BK351 hb
      replace BK352 := zb BK352 hb
      replace HB := aM (bT bq hb)
      (try clear hb)
      (try clear hb2)
      (try clear hk)
      (try clear hi)
      refine hK.out _ _ ⟨cc, cc, cc⟩ (fun hHeld => ?_)
      clear hK K
      refine nn ?_
      refine one_ (i := 4) (N := some 7) #[Y,Y,Y,Y,Y,N,N] rfl rfl kr (by decide) (fun K hK => ?_)
      refine box_step ?hg (N := 7) ?hd (cs := #[.nilFunc, .nilFunc]) (t := 94) ?hr ?_; (case hd => rfl); (case hg => rfl); (case hr => first | (go_simp; done) | (go_simp; rfl))
      intro gb362 hg w30 hbox hb
      replace HO0_1 := aM (Kd.V_below (Kd.V_elderB (vq HO0_1.out) gb362 (Nat.le_of_eq hg.symm)) hb)
      replace HO358 := zl HO358 hb
      have BK362 := aM hbox
      have GW362 := gw w hg
      have GE362 := gw w hg
      replace HB := aM (bT bq hb)
      have NB351_362 := nl BK351 hg
      have NB362_351 := aM NB351_362.out.symm
      replace BK351 := zb BK351 hb
      have NB352_362 := nl BK352 hg
      have NB362_352 := aM NB352_362.out.symm
      replace BK352 := zb BK352 hb
      clear hb hbox hg
      refine hK.out _ _ ⟨cc, cc, cc⟩ (fun hHeld => ?_)
      clear hK K
      refine nn ?_
      exact norm_ (by simp only [putAll, Act.put, pa, pb, pc]) (hCont (gb362) _ ⟨hHeld, (vq (Kd.V_mono HO0_1.out jq)), (rq (rM HO358.out (fun _ hk => hk.1))), (kq BK351.out), (kq BK352.out), (kq BK362.out), GW362.out, GE362.out, NB351_362.out, NB362_351.out, NB352_362.out, NB362_352.out, bq⟩)
     ·skip
      refine box_step ?hg (N := 7) ?hd (cs := #[.nilFunc, .nilFunc]) (t := 94) ?hr ?_; (case hd => rfl); (case hg => rfl); (case hr => first | (go_simp; done) | (go_simp; rfl))
      intro gb362 hg w29 hbox hb
      replace HO0_1 := aM (Kd.V_below (Kd.V_elderB (vq HO0_1.out) gb362 (Nat.le_of_eq hg.symm)) hb)
      replace HO358 := zl HO358 hb
      have BK362 := aM hbox
      have GW362 := gw w hg
      have GE362 := gw w hg
      replace HB := aM (bT bq hb)
      have NB351_362 := nl BK351 hg
      have NB362_351 := aM NB351_362.out.symm
      replace BK351 := zb BK351 hb
      have NB352_362 := nl BK352 hg
      have NB362_352 := aM NB352_362.out.symm
      replace BK352 := zb BK352 hb
      clear hb hbox hg
      refine hK.out _ _ ⟨cc, cc, cc⟩ (fun hHeld => ?_)
      clear hK K
      refine nn ?_
      refine one_ (i := 3) (N := some 30) #[Y,Y,Y,Y,Y,N,N] rfl rfl kr (by decide) (fun K hK => ?_)
      refine goes_ Try.func69 kr rfl #[] (by rfl) rfl rfl mq ?_
      with_reducible refine (impl_samples.calls   _ A8.out).mono ?_
      rintro e w30 ⟨rfl, hb⟩
      refine ⟨_, rfl, ?_⟩
      replace HO0_1 := aM (Kd.V_below (vq HO0_1.out) hb)
      replace HO358 := zl HO358 hb
      replace BK351 := zb BK351 hb
      replace BK352 := zb BK352 hb
      replace BK362 := zb BK362 hb
      replace HB := aM (bT bq hb)
      (try clear hb)
      (try clear hb2)
      (try clear hk)
      (try clear hi)
      refine hK.out _ _ ⟨cc, cc, cc⟩ (fun hHeld => ?_)
      clear hK K
      refine nn ?_
      exact norm_ (by simp only [putAll, Act.put, pa, pb, pc]) (hCont (gb362) _ ⟨hHeld, (vq (Kd.V_mono HO0_1.out jq)), (rq (rM HO358.out (fun _ hk => hk.1))), (kq BK351.out), (kq BK352.out), (kq BK362.out), GW362.out, GE362.out, NB351_362.out, NB362_351.out, NB352_362.out, NB362_352.out, bq⟩)
    rintro gb362 w31 ⟨hS_, h0_, h1_, h2_, h3_, h4_, h5_, h6_, h7_, h8_, h9_, h10_, h11_⟩
    have n0_ := aM h0_
    have n1_ := aM h1_
    have n2_ := aM h2_
    have n3_ := aM h3_
    have n4_ := aM h4_
    have n5_ := aM h5_
    have n6_ := aM h6_
    have n7_ := aM h7_
    have n8_ := aM h8_
    have n9_ := aM h9_
    have n10_ := aM h10_
    have n11_ := aM h11_
    clear HO0_1 HO358 BK351 BK352 HB h0_ h1_ h2_ h3_ h4_ h5_ h6_ h7_ h8_ h9_ h10_ h11_
    have HO0_1 := n0_
    have HO358 := n1_
    have BK351 := n2_
    have BK352 := n3_
    have BK362 := n4_
    have GW362 := n5_
    have GE362 := n6_
    have NB351_362 := n7_
    have NB362_351 := n8_
    have NB352_362 := n9_
    have NB362_352 := n10_
    have HB := n11_
    clear n0_ n1_ n2_ n3_ n4_ n5_ n6_ n7_ n8_ n9_ n10_ n11_
    have hHeld : w31.cell? ⟨gb351, 0, none⟩ = some (.int .i64 a0_0) ∧ w31.cell? ⟨gb351, 1, none⟩ = some (.slice A0_1 l0_1.length c0_1) ∧ w31.cell? ⟨gb351, 2, none⟩ = some (.slice A0_2 l0_2.length c0_2) := hS_
    refine norm_ (a' := ?_) ?_ ?_
    rotate_left
    ·simp only [putAll, Act.put, pa, pb, pc]
     rfl
    refine pure_ (i := 5) (N := some 6) (v := ?_) (a' := ?_) #[Y,Y,Y,Y,Y,Y,N] rfl rfl kr (fun _ _ _ h => h) (Or.inl ⟨by rfl, ?_⟩) ?_ ?_
    rotate_left
    ·intro w'
     go_simp
     with_reducible rfl
    rotate_left
    ·simp only [Act.put, pa, pb, pc, i64_w, i32_w]
     rfl
    refine one_ (i := 6) (N := none) #[Y,Y,Y,Y,Y,Y,Y] rfl rfl kr (by decide) (fun K hK => ?_)
    have hs32 : w31.cell? ⟨gb362, 0, none⟩ = some (.nilFunc) := cc
    have hfs32 := kF BK362.out 0
    have hns32_0 := NB351_362.out
    have hns32_1 := NB352_362.out
    have hms32_0 := NB362_351.out
    have hms32_1 := NB362_352.out
    have hs33 : w31.cell? ⟨gb362, 1, none⟩ = some (.nilFunc) := cc
    have hfs33 := kF BK362.out 1
    have hns33_0 := NB351_362.out
    have hns33_1 := NB352_362.out
    have hms33_0 := NB362_351.out
    have hms33_1 := NB362_352.out
    refine skip_ (w1 := ?_) (by rfl) rfl ?_ ?_
    rotate_left
    ·go_simp
     rfl
    refine hK.out _ _ ⟨(lf hHeld.1), (lf hHeld.2.1), (lf hHeld.2.2)⟩ (fun hHeld => ?_)
    clear hK K
    refine done_ kr ?_
    have hnb34 := NB362_351.out
    have hnc34 := NB351_362.out
    have hnb35 := NB362_352.out
    have hnc35 := NB352_362.out
    obtain ⟨hcz36_0, hcz36_1, hfz36_0, hfz36_1⟩ := b2 BK362.out
    try go_wp2_with (first | ((with_reducible refine gC 60 rfl ?_); refine gl (some 33) Try.func60 #[.agg #[.func (.func 115) #[] #[], .func (.func 117) #[] #[]], .slice A1 l1.length c1] ?_; (with_reducible refine (impl_undo_gather.calls k _ _ impl_samples_1.f _ _ impl_part.f _ _ l1 t363 _ ?s1 ?s2 ?s3 ?s4 A9.out).mono ?_); (case s1 => exact ok4_samples_1 _); (case s2 => exact ok2_part _); (case s3 => exact cB HR1.out bq); (case s4 => exact HC1.out); rintro e w37 ⟨v364, rfl, ho0, hb⟩; refine ii ?_; replace HO0_1 := aM (Kd.V_elder' (vq ((Kd.V_mono (Kd.V_far (p := ⟨gb362, 1, none⟩) (Kd.V_far (p := ⟨gb362, 0, none⟩) (Kd.V_mono HO0_1.out (fun k_ hk => (⟨hk, hk.2.2.2.2⟩ : _ ∧ k_ ≠ gb362))) (fun _ hk => hk.2) (.func (.func 115) #[] #[])) (fun _ hk => hk.2) (.func (.func 117) #[] #[])) (fun _ h_ => h_.1)))) (rB ho0) hb); have HO365 := aM (rG (rW (Kd.R_newM (M := fun k_ => (w.heap.size ≤ k_)) ho0 (bZ bq) (fun k_ h_ => h_)) (rT (tf HO358 BK362))) (bZ bq)); replace HO358 := zh (tf HO358 BK362) ho0 hb; replace BK351 := aM (kB (g := gb351) (o := .cells #[.int .i64 a0_0, .slice A0_1 l0_1.length c0_1, .slice A0_2 l0_2.length c0_2] 35 (0, 0)) (fq BK351.out) hb); replace BK352 := aM (kB (g := gb352) (o := .cells #[.int .i64 0, .int .i64 0, .slice none 0 0, .slice none 0 0, .slice none 0 0] 37 (0, 0)) (fq BK352.out) hb); replace BK362 := aM (kB (g := gb362) (o := .cells #[.func (.func 115) #[] #[], .func (.func 117) #[] #[]] 94 (0, 0)) (fq BK362.out) hb); replace HB := aM (bT bq hb); (try clear hb); (try clear ho0)))
    replace HO0_1 := aM (Kd.V_drew HO0_1.out)
    replace HO358 := zd HO358
    replace HO365 := zd HO365
    replace BK351 := zk BK351
    replace BK352 := zk BK352
    replace BK362 := zk BK362
    replace HB := aM (bD HB.out)
    obtain ⟨Ao40, co40, eo40⟩ := Kd.R_slice HO365.out
    (first | subst eo40 | (injection eo40 with f1_ f2_ f3_; have f4_ := f1_.symm; have f5_ := f3_.symm; clear f1_ f2_ f3_; subst f4_; subst f5_))
    have q39 : ((ji10) : Int) ≤ ((t363.length : Int) : Int) := dt
    obtain ⟨i039, hi039, _, hsz39, _⟩ := info_parts info2
    have hroom39 : t363.length ≤ co40 := (rR HO365.out).2.1
    have hC39 : Kd.F (Kd.int .i64) _ _ Ao40 t363.length t363 := (Kd.V_at (base := w.heap.size) (Kd.V_mono (ok' := (fun k_ => ((((((P0_1_ k_ ∨ w.heap.size ≤ k_) ∧ True) ∧ nS Ao26 y356 co26 k_) ∧ k_ ≠ gb351) ∧ k_ ≠ gb352) ∧ k_ ≠ gb362))) (Kd.R_V (Kd.R_types (Kd.R_types (Kd.R_types (HO365.out) BK351.out (by decide)) BK352.out (by decide)) BK362.out (by decide))) (fun k_ hk => ⟨⟨⟨⟨⟨(.inr (hk.1.1.1.1.1)), trivial⟩, hk.1.1.1.2⟩, hk.1.1.2⟩, hk.1.2⟩, hk.2⟩))).2.2
    have hcut39 := cut_to (P := Try.prog) 22 2 .i64 Try.underlying22 hi039 Ao40 t363.length co40 (ji10) (dt) q39 hroom39
    have hr39 := Kd.F_take (m := ((ji10) : Int).toNat) hC39 (by omega)
    have hy39 : y366.length = ((ji10) : Int).toNat := (by rw [Ny366.out, List.length_take]; omega)
    rw [← Ny366.out] at hr39
    rw [← hy39] at hcut39
    have HO370 := aM (show Kd.V (Kd.int .i64) 2 _ w.heap.size _ (.slice Ao40 y366.length co40) y366 from Kd.V_mk (by omega) hr39)
    have HC370 := aM (show y366.length ≤ co40 from by omega)
    clear hr39 hC39 hroom39 hi039 hsz39
    have KY39 := aM hy39
    clear hy39
    replace q39 := eq_true q39
    refine start_ (n := 12) (S := fun w' => w'.cell? ⟨gb351, 0, none⟩ = some (.int .i64 a0_0) ∧ w'.cell? ⟨gb351, 1, none⟩ = some (.slice A0_1 l0_1.length c0_1) ∧ w'.cell? ⟨gb351, 2, none⟩ = some (.slice A0_2 l0_2.length c0_2)) (ds := []) #[N,N,N,N,N,N,N,N,N,N,N,N] kr rfl rfl ⟨cc, cc, cc⟩ (fun hHeld => ?_); refine with_tabW impl_PlayBlock.tab6 impl_PlayBlock.bits6 (fun HT_ HW_ => ?_)
    generalize w37.drew = w38 at HO0_1 HO358 HO365 BK351 BK352 BK362 HB HO370 hHeld ⊢
    refine p1 35 0 ?_
    refine p1 37 2 ?_
    refine p1 38 3 ?_
    refine p1 39 4 ?_
    refine p1 40 5 ?_
    refine t1 36 1 ?_ (hy := by rintro w' ⟨s0, s1, s2⟩; go_simp; with_reducible rfl)
    refine o1 41 6 fun K hK => ?_
    refine goes_ Try.func61 kr rfl #[.slice A0_2 l0_2.length c0_2, .slice Ao40 y366.length co40, .func (.func 70) #[] #[.pointer (some ⟨gb362, 0, none⟩), .pointer (some ⟨gb351, 0, none⟩)]] (by rfl) rfl rfl mq ?_
    with_reducible refine (impl_seam.calls k _ _ l0_2 _ _ y366 _ _ (impl_samples_1.f a0_0) t371 t372 _ ?s1 ?s2 ?s3 ?s4 ?s5 A13.out).mono ?_
    (case s1 => exact cq (cB HR0_2.out HB.out))
    (case s2 => exact HC0_2.out)
    (case s3 => exact cq (Kd.V_reads' HO370.out).2.2)
    (case s4 => exact (Kd.V_reads' HO370.out).2.1)
    (case s5 => exact (ok3_PlayBlock_1 gb362 gb351 _ _ _ _ _ ((kC (kq BK362.out) 0).trans rfl) ((kC (kq BK351.out) 0).trans rfl) (ok4_samples_1 _)))
    rintro e w41 ⟨v373, v375, rfl, ho0, ho1, hb⟩
    refine ⟨_, rfl, ?_⟩
    replace HO0_1 := aM (Kd.V_mono (Kd.V_told (Kd.V_told (Kd.V_old (vq HO0_1.out) hb) (rB ho0)) (rB ho1)) (fun _ h_ => h_.1))
    replace HO370 := aM (Kd.V_mono (Kd.V_told (Kd.V_told (Kd.V_old (vq HO370.out) hb) (rB ho0)) (rB ho1)) (fun _ h_ => h_.1))
    have HO374 := aM (rG (wq (wq (Kd.R_newM (M := fun k_ => (w.heap.size ≤ k_)) ho0 (bZ bq) (fun k_ h_ => h_)) HO358) HO365) (bZ bq))
    have HO376 := aM (rG (wq (wq (Kd.R_newM (M := fun k_ => (w.heap.size ≤ k_)) ho1 (bZ bq) (fun k_ h_ => h_)) HO358) HO365) (bZ bq))
    replace HO358 := z2 (rq HO358.out) hb ho0 ho1
    replace HO365 := z2 (rq HO365.out) hb ho0 ho1
    replace BK351 := zb BK351 hb
    replace BK352 := zb BK352 hb
    replace BK362 := zb BK362 hb
    replace HB := aM (bT bq hb)
    (try clear hb)
    (try clear hb2)
    (try clear hk)
    (try clear hi)
    (try clear ho0)
    (try clear ho1)
    refine hK.out _ _ ⟨cc, cc, cc⟩ (fun hHeld => ?_)
    clear hK K
    refine nn ?_
    refine p1 34 7 ?_
    refine p1 42 8 ?_
    refine p1 43 9 ?_
    refine p1 9 10 ?_
    refine p1 10 11 ?_
    refine done_ (done_of HT_.out kr) ?_
    try go_wp2
    replace HO0_1 := aM (Kd.V_drew HO0_1.out)
    replace HO358 := zd HO358
    replace HO365 := zd HO365
    replace HO370 := aM (Kd.V_drew HO370.out)
    replace HO374 := zd HO374
    replace HO376 := zd HO376
    replace BK351 := zk BK351
    replace BK352 := zk BK352
    replace BK362 := zk BK362
    replace HB := aM (bD HB.out)
    have q43 : ((ji10) : Int) ≤ ((t363.length : Int) : Int) := dt
    obtain ⟨i043, hi043, _, hsz43, _⟩ := info_parts info2
    have hroom43 : t363.length ≤ co40 := (rR HO365.out).2.1
    have hC43 : Kd.F (Kd.int .i64) _ _ Ao40 t363.length t363 := (Kd.V_at (base := w.heap.size) (Kd.V_mono (ok' := (fun k_ => ((((((((P0_1_ k_ ∨ w.heap.size ≤ k_) ∧ True) ∧ nS Ao26 y356 co26 k_) ∧ nb v373 k_) ∧ nb v375 k_) ∧ k_ ≠ gb351) ∧ k_ ≠ gb352) ∧ k_ ≠ gb362))) (Kd.R_V (Kd.R_types (Kd.R_types (Kd.R_types (HO365.out) BK351.out (by decide)) BK352.out (by decide)) BK362.out (by decide))) (fun k_ hk => ⟨⟨⟨⟨⟨⟨⟨(.inr (hk.1.1.1.1.1.1.1)), trivial⟩, hk.1.1.1.1.1.2⟩, hk.1.1.1.1.2⟩, hk.1.1.1.2⟩, hk.1.1.2⟩, hk.1.2⟩, hk.2⟩))).2.2
    have q043 : 0 ≤ ji10 := dt
    have hcut43 := cut_from (P := Try.prog) 22 2 .i64 Try.underlying22 hi043 1 hsz43 Ao40 t363.length co40 (ji10) q043 q43
    have hr43 := Kd.F_cut (m := ((ji10) : Int).toNat) (c := co40) hC43 (by omega) hroom43
    obtain ⟨A43, hA43⟩ : ∃ A1, A1 = (if co40 = ((ji10) : Int).toNat then Ao40 else (Ao40 : Option Addr).map (·.add (((ji10) : Int).toNat * 1))) := ⟨_, rfl⟩
    obtain ⟨c43, hc43⟩ : ∃ c1, c1 = co40 - ((ji10) : Int).toNat := ⟨_, rfl⟩
    have hy43 : y377.length = t363.length - ((ji10) : Int).toNat := (by rw [Ny377.out, List.length_drop] <;> omega)
    rw [show (t363).drop ((ji10) : Int).toNat = y377 from Ny377.out.symm] at hr43
    replace hr43 : Kd.F (Kd.int .i64) _ _ A43 y377.length y377 := (by rw [hA43]; exact hr43)
    rw [← hy43, ← hA43, ← hc43] at hcut43
    have HO381 := aM (show Kd.V (Kd.int .i64) 2 _ w.heap.size _ (.slice A43 y377.length c43) y377 from Kd.V_mk (by rw [hy43, hc43]; exact Nat.sub_le_sub_right hroom43 _) hr43)
    have HC381 := aM (show y377.length ≤ c43 from by rw [hy43, hc43]; exact Nat.sub_le_sub_right hroom43 _)
    clear hr43 hC43 hroom43 hi043 hsz43 hc43
    have KY43 := aM hy43
    have KA43 := aM hA43
    clear hy43 hA43
    replace q43 := eq_true q43
    refine start_ (n := 15) (S := fun w' => w'.cell? ⟨gb351, 0, none⟩ = some (.int .i64 a0_0) ∧ w'.cell? ⟨gb351, 1, none⟩ = some (.slice A0_1 l0_1.length c0_1) ∧ w'.cell? ⟨gb351, 2, none⟩ = some (.slice A0_2 l0_2.length c0_2)) (ds := []) #[N,N,N,N,N,N,N,N,N,N,N,N,N,N,N] kr rfl rfl ⟨cc, cc, cc⟩ (fun hHeld => ?_); refine with_tabW impl_PlayBlock.tab7 impl_PlayBlock.bits7 (fun HT_ HW_ => ?_)
    generalize w41.drew = w42 at HO0_1 HO358 HO365 HO370 HO374 HO376 BK351 BK352 BK362 HB HO381 hHeld ⊢
    refine p1 44 0 ?_
    refine p1 46 2 ?_
    refine p1 47 3 ?_
    refine p1 48 4 ?_
    refine p1 49 5 ?_
    refine p1 52 8 ?_
    refine p1 54 10 ?_
    refine t1 45 1 ?_ (hy := by rintro w' ⟨s0, s1, s2⟩; go_simp; with_reducible rfl)
    refine t1 53 9 ?_ (hy := by rintro w' ⟨s0, s1, s2⟩; go_simp; with_reducible rfl)
    obtain ⟨Ao46, co46, eo46⟩ := Kd.R_slice HO376.out
    subst eo46
    refine join_ (σ := Value × Value) 3 #[Y,Y,Y,Y,Y,Y,Y,Y,Y,Y,Y,Y,N,N,N] (fun s_ => [(50, s_.1), (55, s_.2), (51, .agg #[.int .i64 a0_0, .slice Ao46 t372.length co46, s_.1])]) (fun s_ w' => (w'.cell? ⟨gb351, 0, none⟩ = some (.int .i64 a0_0) ∧ w'.cell? ⟨gb351, 1, none⟩ = some (.slice A0_1 l0_1.length c0_1) ∧ w'.cell? ⟨gb351, 2, none⟩ = some (.slice A0_2 l0_2.length c0_2)) ∧ (Kd.V (Kd.int .i64) 2 w' w.heap.size (fun k_ => (P0_1_ k_ ∨ w.heap.size ≤ k_) ∧ nS Ao26 y356 co26 k_ ∧ nS Ao40 t363 co40 k_ ∧ nS Ao46 t372 co46 k_ ∧ some k_ ≠ (s_.1 : Value).ownBlock ∧ some k_ ≠ (s_.2 : Value).ownBlock ∧ k_ ≠ gb351 ∧ k_ ≠ gb352 ∧ k_ ≠ gb362) (.slice A0_1 l0_1.length c0_1) l0_1) ∧ (Kd.R (Kd.int .i64) 2 w' w.heap.size (fun k_ => (w.heap.size ≤ k_) ∧ nS Ao40 t363 co40 k_ ∧ nS Ao46 t372 co46 k_ ∧ some k_ ≠ (s_.1 : Value).ownBlock) (.slice Ao26 y356.length co26) y356) ∧ (Kd.R (Kd.int .i64) 2 w' w.heap.size (fun k_ => (w.heap.size ≤ k_) ∧ nS Ao26 y356 co26 k_ ∧ nS Ao46 t372 co46 k_ ∧ some k_ ≠ (s_.1 : Value).ownBlock) (.slice Ao40 t363.length co40) t363) ∧ (Kd.V (Kd.int .i64) 2 w' w.heap.size (fun k_ => (P0_1_ k_ ∨ w.heap.size ≤ k_) ∧ nS Ao26 y356 co26 k_ ∧ nS Ao46 t372 co46 k_ ∧ some k_ ≠ (s_.1 : Value).ownBlock ∧ some k_ ≠ (s_.2 : Value).ownBlock ∧ k_ ≠ gb351 ∧ k_ ≠ gb352 ∧ k_ ≠ gb362) (.slice Ao40 y366.length co40) y366) ∧ (Kd.R (Kd.int .i64) 2 w' w.heap.size (fun k_ => (w.heap.size ≤ k_) ∧ nS Ao26 y356 co26 k_ ∧ nS Ao40 t363 co40 k_ ∧ some k_ ≠ (s_.1 : Value).ownBlock) (.slice Ao46 t372.length co46) t372) ∧ (Kd.V (Kd.int .i64) 2 w' w.heap.size (fun k_ => (P0_1_ k_ ∨ w.heap.size ≤ k_) ∧ nS Ao26 y356 co26 k_ ∧ nS Ao46 t372 co46 k_ ∧ some k_ ≠ (s_.1 : Value).ownBlock ∧ some k_ ≠ (s_.2 : Value).ownBlock ∧ k_ ≠ gb351 ∧ k_ ≠ gb352 ∧ k_ ≠ gb362) (.slice A43 y377.length c43) y377) ∧ (Kd.R (Kd.int .i64) 2 w' w.heap.size (fun k_ => (w.heap.size ≤ k_) ∧ nS Ao26 y356 co26 k_ ∧ nS Ao40 t363 co40 k_ ∧ nS Ao46 t372 co46 k_) s_.1 t382) ∧ (Kd.N (Kd.slice 2 (Kd.int .i64)) 22 w' w.heap.size (fun k_ => (P0_1_ k_ ∨ w.heap.size ≤ k_) ∧ nS Ao26 y356 co26 k_ ∧ nS Ao40 t363 co40 k_ ∧ nS Ao46 t372 co46 k_ ∧ some k_ ≠ (s_.1 : Value).ownBlock ∧ k_ ≠ gb351 ∧ k_ ≠ gb352 ∧ k_ ≠ gb362) s_.2 y385) ∧ (w'.heap[gb351]? = some (.cells #[.int .i64 a0_0, .slice A0_1 l0_1.length c0_1, .slice A0_2 l0_2.length c0_2] 35 (0, 0))) ∧ (w'.heap[gb352]? = some (.cells #[.int .i64 0, .int .i64 0, .slice none 0 0, .slice none 0 0, .slice none 0 0] 37 (0, 0))) ∧ (w'.heap[gb362]? = some (.cells #[.func (.func 115) #[] #[], .func (.func 117) #[] #[]] 94 (0, 0))) ∧ (Below w.heap.size w w')) ?_ ?_
    rotate_left
    ·intro hCont
     refine two_ (i := 6) (j := 11) (Ni := some 50) (Nj := some 55) #[Y,Y,Y,Y,Y,Y,Y,N,Y,Y,Y,N,N,N,N] #[Y,Y,Y,Y,Y,Y,N,N,Y,Y,Y,Y,N,N,N] rfl rfl rfl rfl (two_of HT_.out kr) (by decide) (by decide) (fun K hK => ?_) (fun K hK => ?_)
     ·skip
      refine goes_ Try.func71 kr rfl #[.slice A43 y377.length c43] (by rfl) rfl rfl mq ?_
      with_reducible refine (slices_Clone_int64_int64.calls _ _ y377 t382 _ ?s1 ?s2 A16.out).mono ?_
      (case s1 => exact cq (Kd.V_reads' HO381.out).2.2)
      (case s2 => exact (Kd.V_reads' HO381.out).2.1)
      rintro e w44 ⟨v383, rfl, ho0, hb⟩
      refine ⟨_, rfl, ?_⟩
      replace HO0_1 := aM (Kd.V_elder' (vq HO0_1.out) (rB ho0) hb)
      replace HO370 := aM (Kd.V_elder' (vq HO370.out) (rB ho0) hb)
      replace HO381 := aM (Kd.V_elder' (vq HO381.out) (rB ho0) hb)
      have HO384 := aM (rG (wq (wq (wq (wq (Kd.R_newM (M := fun k_ => (w.heap.size ≤ k_)) ho0 (bZ bq) (fun k_ h_ => h_)) HO358) HO365) HO374) HO376) (bZ bq))
      replace HO358 := zh (rq HO358.out) ho0 hb
      replace HO365 := zh (rq HO365.out) ho0 hb
      replace HO374 := zh (rq HO374.out) ho0 hb
      replace HO376 := zh (rq HO376.out) ho0 hb
      replace BK351 := zb BK351 hb
      replace BK352 := zb BK352 hb
      replace BK362 := zb BK362 hb
      replace HB := aM (bT bq hb)
      (try clear hb)
      (try clear hb2)
      (try clear hk)
      (try clear hi)
      (try clear ho0)
      obtain ⟨Ao45, co45, eo45⟩ := Kd.R_slice HO384.out
      (first | subst eo45 | (injection eo45 with f1_ f2_ f3_; have f4_ := f1_.symm; have f5_ := f3_.symm; clear f1_ f2_ f3_; subst f4_; subst f5_))
      obtain ⟨Ao46, co46, eo46⟩ := Kd.R_slice HO376.out
      (first | subst eo46 | (injection eo46 with f1_ f2_ f3_; have f4_ := f1_.symm; have f5_ := f3_.symm; clear f1_ f2_ f3_; subst f4_; subst f5_))
      obtain ⟨Ao47, co47, eo47⟩ := Kd.R_slice HO374.out
      (first | subst eo47 | (injection eo47 with f1_ f2_ f3_; have f4_ := f1_.symm; have f5_ := f3_.symm; clear f1_ f2_ f3_; subst f4_; subst f5_))
      refine hK.out _ _ ⟨cc, cc, cc⟩ (fun hHeld => ?_)
      clear hK K
      refine nn ?_
      refine p1 51 7 ?_
      refine o1 55 11 fun K hK => ?_
      refine Kd.N_lit_step (Kd.slice 2 (Kd.int .i64)) _ 22 ?hg (N' := 55) ?hd (xs := ([l0_1, t371] : List (List Int))) (inner := [.slice A0_1 l0_1.length c0_1, .slice Ao47 t371.length co47]) (ok := (fun k_ => (P0_1_ k_ ∨ w.heap.size ≤ k_) ∧ nS Ao26 y356 co26 k_ ∧ nS Ao40 t363 co40 k_ ∧ nS Ao46 t372 co46 k_ ∧ nS Ao45 t382 co45 k_ ∧ k_ ≠ gb351 ∧ k_ ≠ gb352 ∧ k_ ≠ gb362)) (okp := (fun k_ => (P0_1_ k_ ∨ w.heap.size ≤ k_) ∧ nS Ao26 y356 co26 k_ ∧ nS Ao40 t363 co40 k_ ∧ nS Ao46 t372 co46 k_ ∧ nS Ao45 t382 co45 k_ ∧ k_ ≠ gb351 ∧ k_ ≠ gb352 ∧ k_ ≠ gb362)) ?hr ?hp (fun _ hk => hk) ((show ∀ k_, w44.heap.size ≤ k_ → (fun k_ => (P0_1_ k_ ∨ w.heap.size ≤ k_) ∧ nS Ao26 y356 co26 k_ ∧ nS Ao40 t363 co40 k_ ∧ nS Ao46 t372 co46 k_ ∧ nS Ao45 t382 co45 k_ ∧ k_ ≠ gb351 ∧ k_ ≠ gb352 ∧ k_ ≠ gb362) k_ from fun k_ hk => ⟨(.inr (Nat.le_trans (bZ bq) hk)), Kd.fresh' (rT (rq HO358.out)) k_ hk, Kd.fresh' (rT (rq HO365.out)) k_ hk, Kd.fresh' (rT (rq HO376.out)) k_ hk, Kd.fresh' (rT (rq HO384.out)) k_ hk, Kd.freshB (kq BK351.out) k_ hk, Kd.freshB (kq BK352.out) k_ hk, Kd.freshB (kq BK362.out) k_ hk⟩) _ (Nat.le_refl _)) (Below.refl _ _) (Nat.le_refl _) (by simp) ?_; (case hd => rfl); (case hg => rfl); (case hr => first | (go_simp; done) | (go_simp; rfl)); (case hp => exact (Reps.one (show Kd.FK (Kd.slice 2 (Kd.int .i64)) _ _ l0_1 [.slice A0_1 l0_1.length c0_1] from (Kd.FK_slice_mk (Kd.V_reads' (Kd.V_mono (ok' := (fun k_ => (P0_1_ k_ ∨ w.heap.size ≤ k_) ∧ nS Ao26 y356 co26 k_ ∧ nS Ao40 t363 co40 k_ ∧ nS Ao46 t372 co46 k_ ∧ nS Ao45 t382 co45 k_ ∧ k_ ≠ gb351 ∧ k_ ≠ gb352 ∧ k_ ≠ gb362)) (HO0_1.out) jq)).2.1 (Kd.V_F (Kd.V_mono (ok' := (fun k_ => (P0_1_ k_ ∨ w.heap.size ≤ k_) ∧ nS Ao26 y356 co26 k_ ∧ nS Ao40 t363 co40 k_ ∧ nS Ao46 t372 co46 k_ ∧ nS Ao45 t382 co45 k_ ∧ k_ ≠ gb351 ∧ k_ ≠ gb352 ∧ k_ ≠ gb362)) (HO0_1.out) jq)))) (Reps.one (show Kd.FK (Kd.slice 2 (Kd.int .i64)) _ _ t371 [.slice Ao47 t371.length co47] from (Kd.FK_slice_mk (rR (rM (ok' := (fun k_ => (P0_1_ k_ ∨ w.heap.size ≤ k_) ∧ nS Ao26 y356 co26 k_ ∧ nS Ao40 t363 co40 k_ ∧ nS Ao46 t372 co46 k_ ∧ nS Ao45 t382 co45 k_ ∧ k_ ≠ gb351 ∧ k_ ≠ gb352 ∧ k_ ≠ gb362)) (Kd.R_types (Kd.R_types (Kd.R_types (HO374.out) BK351.out (by decide)) BK352.out (by decide)) BK362.out (by decide)) (fun k_ hk => ⟨(.inr (hk.1.1.1.1.1.1.1)), ⟨hk.1.1.1.1.1.2, ⟨hk.1.1.1.1.2, ⟨hk.1.1.1.1.1.1.2, ⟨hk.1.1.1.2, ⟨hk.1.1.2, ⟨hk.1.2, hk.2⟩⟩⟩⟩⟩⟩⟩))).2.1 (Kd.R_F (rM (ok' := (fun k_ => (P0_1_ k_ ∨ w.heap.size ≤ k_) ∧ nS Ao26 y356 co26 k_ ∧ nS Ao40 t363 co40 k_ ∧ nS Ao46 t372 co46 k_ ∧ nS Ao45 t382 co45 k_ ∧ k_ ≠ gb351 ∧ k_ ≠ gb352 ∧ k_ ≠ gb362)) (Kd.R_types (Kd.R_types (Kd.R_types (HO374.out) BK351.out (by decide)) BK352.out (by decide)) BK362.out (by decide)) (fun k_ hk => ⟨(.inr (hk.1.1.1.1.1.1.1)), ⟨hk.1.1.1.1.1.2, ⟨hk.1.1.1.1.2, ⟨hk.1.1.1.1.1.1.2, ⟨hk.1.1.1.2, ⟨hk.1.1.2, ⟨hk.1.2, hk.2⟩⟩⟩⟩⟩⟩⟩))))) (Reps.none _ _))))
      intro v386 w48 ho49 hb hg_ hnew_
      clear hg_ hnew_
      rw [← Ny385.out] at ho49
      replace HO0_1 := aM (Kd.V_elder' (vq HO0_1.out) (Kd.N_base ho49) hb)
      replace HO358 := zl HO358 hb
      replace HO365 := zl HO365 hb
      replace HO370 := aM (Kd.V_elder' (vq HO370.out) (Kd.N_base ho49) hb)
      replace HO376 := zl HO376 hb
      replace HO381 := aM (Kd.V_elder' (vq HO381.out) (Kd.N_base ho49) hb)
      replace HO384 := zl HO384 hb
      have HO387 := aM (Kd.N_lower ho49 (bZ bq))
      replace BK351 := zb BK351 hb
      replace BK352 := zb BK352 hb
      replace BK362 := zb BK362 hb
      replace HB := aM (bT bq hb)
      clear HO374 hb ho49
      refine hK.out _ _ ⟨cc, cc, cc⟩ (fun hHeld => ?_)
      clear hK K
      refine nn ?_
      exact norm_ (by simp only [putAll, Act.put, pa, pb, pc]) (hCont (.slice Ao45 t382.length co45, v386) _ ⟨hHeld, (vq (Kd.V_mono HO0_1.out jq)), (rq (rM HO358.out jq)), (rq (rM HO365.out jq)), (vq (Kd.V_mono HO370.out jq)), (rq (rM HO376.out jq)), (vq (Kd.V_mono HO381.out jq)), (rq (rM HO384.out jq)), (nq HO387.out), (kq BK351.out), (kq BK352.out), (kq BK362.out), bq⟩)
     ·skip
      obtain ⟨Ao44, co44, eo44⟩ := Kd.R_slice HO374.out
      (first | subst eo44 | (injection eo44 with f1_ f2_ f3_; have f4_ := f1_.symm; have f5_ := f3_.symm; clear f1_ f2_ f3_; subst f4_; subst f5_))
      refine Kd.N_lit_step (Kd.slice 2 (Kd.int .i64)) _ 22 ?hg (N' := 55) ?hd (xs := ([l0_1, t371] : List (List Int))) (inner := [.slice A0_1 l0_1.length c0_1, .slice Ao44 t371.length co44]) (ok := (fun k_ => (P0_1_ k_ ∨ w.heap.size ≤ k_) ∧ nS Ao26 y356 co26 k_ ∧ nS Ao40 t363 co40 k_ ∧ some k_ ≠ ((.slice Ao46 t372.length co46) : Value).ownBlock ∧ k_ ≠ gb351 ∧ k_ ≠ gb352 ∧ k_ ≠ gb362)) (okp := (fun k_ => (P0_1_ k_ ∨ w.heap.size ≤ k_) ∧ nS Ao26 y356 co26 k_ ∧ nS Ao40 t363 co40 k_ ∧ some k_ ≠ ((.slice Ao46 t372.length co46) : Value).ownBlock ∧ k_ ≠ gb351 ∧ k_ ≠ gb352 ∧ k_ ≠ gb362)) ?hr ?hp (fun _ hk => hk) ((show ∀ k_, w42.heap.size ≤ k_ → (fun k_ => (P0_1_ k_ ∨ w.heap.size ≤ k_) ∧ nS Ao26 y356 co26 k_ ∧ nS Ao40 t363 co40 k_ ∧ some k_ ≠ ((.slice Ao46 t372.length co46) : Value).ownBlock ∧ k_ ≠ gb351 ∧ k_ ≠ gb352 ∧ k_ ≠ gb362) k_ from fun k_ hk => ⟨(.inr (Nat.le_trans (bZ bq) hk)), Kd.fresh' (rT (rq HO358.out)) k_ hk, Kd.fresh' (rT (rq HO365.out)) k_ hk, Kd.fresh' (rT (rq HO376.out)) k_ hk, Kd.freshB (kq BK351.out) k_ hk, Kd.freshB (kq BK352.out) k_ hk, Kd.freshB (kq BK362.out) k_ hk⟩) _ (Nat.le_refl _)) (Below.refl _ _) (Nat.le_refl _) (by simp) ?_; (case hd => rfl); (case hg => rfl); (case hr => first | (go_simp; done) | (go_simp; rfl)); (case hp => exact (Reps.one (show Kd.FK (Kd.slice 2 (Kd.int .i64)) _ _ l0_1 [.slice A0_1 l0_1.length c0_1] from (Kd.FK_slice_mk (Kd.V_reads' (Kd.V_mono (ok' := (fun k_ => (P0_1_ k_ ∨ w.heap.size ≤ k_) ∧ nS Ao26 y356 co26 k_ ∧ nS Ao40 t363 co40 k_ ∧ some k_ ≠ ((.slice Ao46 t372.length co46) : Value).ownBlock ∧ k_ ≠ gb351 ∧ k_ ≠ gb352 ∧ k_ ≠ gb362)) (HO0_1.out) jq)).2.1 (Kd.V_F (Kd.V_mono (ok' := (fun k_ => (P0_1_ k_ ∨ w.heap.size ≤ k_) ∧ nS Ao26 y356 co26 k_ ∧ nS Ao40 t363 co40 k_ ∧ some k_ ≠ ((.slice Ao46 t372.length co46) : Value).ownBlock ∧ k_ ≠ gb351 ∧ k_ ≠ gb352 ∧ k_ ≠ gb362)) (HO0_1.out) jq)))) (Reps.one (show Kd.FK (Kd.slice 2 (Kd.int .i64)) _ _ t371 [.slice Ao44 t371.length co44] from (Kd.FK_slice_mk (rR (rM (ok' := (fun k_ => (P0_1_ k_ ∨ w.heap.size ≤ k_) ∧ nS Ao26 y356 co26 k_ ∧ nS Ao40 t363 co40 k_ ∧ some k_ ≠ ((.slice Ao46 t372.length co46) : Value).ownBlock ∧ k_ ≠ gb351 ∧ k_ ≠ gb352 ∧ k_ ≠ gb362)) (Kd.R_types (Kd.R_types (Kd.R_types (HO374.out) BK351.out (by decide)) BK352.out (by decide)) BK362.out (by decide)) (fun k_ hk => ⟨(.inr (hk.1.1.1.1.1.1)), ⟨hk.1.1.1.1.2, ⟨hk.1.1.1.2, ⟨hk.1.1.1.1.1.2, ⟨hk.1.1.2, ⟨hk.1.2, hk.2⟩⟩⟩⟩⟩⟩))).2.1 (Kd.R_F (rM (ok' := (fun k_ => (P0_1_ k_ ∨ w.heap.size ≤ k_) ∧ nS Ao26 y356 co26 k_ ∧ nS Ao40 t363 co40 k_ ∧ some k_ ≠ ((.slice Ao46 t372.length co46) : Value).ownBlock ∧ k_ ≠ gb351 ∧ k_ ≠ gb352 ∧ k_ ≠ gb362)) (Kd.R_types (Kd.R_types (Kd.R_types (HO374.out) BK351.out (by decide)) BK352.out (by decide)) BK362.out (by decide)) (fun k_ hk => ⟨(.inr (hk.1.1.1.1.1.1)), ⟨hk.1.1.1.1.2, ⟨hk.1.1.1.2, ⟨hk.1.1.1.1.1.2, ⟨hk.1.1.2, ⟨hk.1.2, hk.2⟩⟩⟩⟩⟩⟩))))) (Reps.none _ _))))
      intro v386 w45 ho46 hb hg_ hnew_
      clear hg_ hnew_
      rw [← Ny385.out] at ho46
      replace HO0_1 := aM (Kd.V_elder' (vq HO0_1.out) (Kd.N_base ho46) hb)
      replace HO358 := zl HO358 hb
      replace HO365 := zl HO365 hb
      replace HO370 := aM (Kd.V_elder' (vq HO370.out) (Kd.N_base ho46) hb)
      replace HO376 := zl HO376 hb
      replace HO381 := aM (Kd.V_elder' (vq HO381.out) (Kd.N_base ho46) hb)
      have HO387 := aM (Kd.N_lower ho46 (bZ bq))
      replace BK351 := zb BK351 hb
      replace BK352 := zb BK352 hb
      replace BK362 := zb BK362 hb
      replace HB := aM (bT bq hb)
      clear HO374 hb ho46
      refine hK.out _ _ ⟨cc, cc, cc⟩ (fun hHeld => ?_)
      clear hK K
      refine nn ?_
      refine o1 50 6 fun K hK => ?_
      refine goes_ Try.func71 kr rfl #[.slice A43 y377.length c43] (by rfl) rfl rfl mq ?_
      with_reducible refine (slices_Clone_int64_int64.calls _ _ y377 t382 _ ?s1 ?s2 A16.out).mono ?_
      (case s1 => exact cq (Kd.V_reads' HO381.out).2.2)
      (case s2 => exact (Kd.V_reads' HO381.out).2.1)
      rintro e w47 ⟨v383, rfl, ho0, hb⟩
      refine ⟨_, rfl, ?_⟩
      replace HO0_1 := aM (Kd.V_elder' (vq HO0_1.out) (rB ho0) hb)
      replace HO370 := aM (Kd.V_elder' (vq HO370.out) (rB ho0) hb)
      replace HO381 := aM (Kd.V_elder' (vq HO381.out) (rB ho0) hb)
      replace HO387 := aM (Kd.N_elder' (nq HO387.out) (rB ho0) hb)
      have HO384 := aM (rG (wq (wq (wq (Kd.R_newM (M := fun k_ => (w.heap.size ≤ k_)) ho0 (bZ bq) (fun k_ h_ => h_)) HO358) HO365) HO376) (bZ bq))
      replace HO358 := zh (rq HO358.out) ho0 hb
      replace HO365 := zh (rq HO365.out) ho0 hb
      replace HO376 := zh (rq HO376.out) ho0 hb
      replace BK351 := zb BK351 hb
      replace BK352 := zb BK352 hb
      replace BK362 := zb BK362 hb
      replace HB := aM (bT bq hb)
      (try clear hb)
      (try clear hb2)
      (try clear hk)
      (try clear hi)
      (try clear ho0)
      obtain ⟨Ao48, co48, eo48⟩ := Kd.R_slice HO384.out
      (first | subst eo48 | (injection eo48 with f1_ f2_ f3_; have f4_ := f1_.symm; have f5_ := f3_.symm; clear f1_ f2_ f3_; subst f4_; subst f5_))
      obtain ⟨Ao49, co49, eo49⟩ := Kd.R_slice HO376.out
      (first | subst eo49 | (injection eo49 with f1_ f2_ f3_; have f4_ := f1_.symm; have f5_ := f3_.symm; clear f1_ f2_ f3_; subst f4_; subst f5_))
      refine hK.out _ _ ⟨cc, cc, cc⟩ (fun hHeld => ?_)
      clear hK K
      refine nn ?_
      refine p1 51 7 ?_
      exact norm_ (by simp only [putAll, Act.put, pa, pb, pc]) (hCont (.slice Ao48 t382.length co48, v386) _ ⟨hHeld, (vq (Kd.V_mono HO0_1.out jq)), (rq (rM HO358.out jq)), (rq (rM HO365.out jq)), (vq (Kd.V_mono HO370.out jq)), (rq (rM HO376.out jq)), (vq (Kd.V_mono HO381.out jq)), (rq (rM HO384.out jq)), (nq (Kd.N_mono HO387.out jq)), (kq BK351.out), (kq BK352.out), (kq BK362.out), bq⟩)
    rintro ⟨v383, v386⟩ w50 ⟨hS_, h0_, h1_, h2_, h3_, h4_, h5_, h6_, h7_, h8_, h9_, h10_, h11_⟩
    have n0_ := aM h0_
    have n1_ := aM h1_
    have n2_ := aM h2_
    have n3_ := aM h3_
    have n4_ := aM h4_
    have n5_ := aM h5_
    have n6_ := aM h6_
    have n7_ := aM h7_
    have n8_ := aM h8_
    have n9_ := aM h9_
    have n10_ := aM h10_
    have n11_ := aM h11_
    clear HO0_1 HO358 HO365 HO370 HO374 HO376 BK351 BK352 BK362 HB h0_ h1_ h2_ h3_ h4_ h5_ h6_ h7_ h8_ h9_ h10_ h11_
    have HO0_1 := n0_
    have HO358 := n1_
    have HO365 := n2_
    have HO370 := n3_
    have HO376 := n4_
    have HO381 := n5_
    have HO384 := n6_
    have HO387 := n7_
    have BK351 := n8_
    have BK352 := n9_
    have BK362 := n10_
    have HB := n11_
    clear n0_ n1_ n2_ n3_ n4_ n5_ n6_ n7_ n8_ n9_ n10_ n11_
    have hHeld : w50.cell? ⟨gb351, 0, none⟩ = some (.int .i64 a0_0) ∧ w50.cell? ⟨gb351, 1, none⟩ = some (.slice A0_1 l0_1.length c0_1) ∧ w50.cell? ⟨gb351, 2, none⟩ = some (.slice A0_2 l0_2.length c0_2) := hS_
    obtain ⟨Ao51, co51, eo51⟩ := Kd.R_slice HO384.out
    (first | subst eo51 | (injection eo51 with f1_ f2_ f3_; have f4_ := f1_.symm; have f5_ := f3_.symm; clear f1_ f2_ f3_; subst f4_; subst f5_))
    obtain ⟨Ao52, co52, eo52⟩ := Kd.N_slice HO387.out
    (first | subst eo52 | (injection eo52 with f1_ f2_ f3_; have f4_ := f1_.symm; have f5_ := f3_.symm; clear f1_ f2_ f3_; subst f4_; subst f5_))
    refine norm_ (a' := ?_) ?_ ?_
    rotate_left
    ·simp only [putAll, Act.put, pa, pb, pc]
     rfl
    refine o1 56 12 fun K hK => ?_
    refine goes_ Try.func62 kr rfl #[.slice Ao52 y385.length co52] (by rfl) rfl rfl mq ?_
    with_reducible refine (slices_Concat_int64_int64.calls k _ _ y385 t388 _ ?s1 ?s2 A17.out).mono ?_
    (case s1 => exact cq (Kd.N_reads' HO387.out).2.2)
    (case s2 => exact (Kd.N_reads' HO387.out).2.1)
    rintro e w53 ⟨v389, rfl, ho0, hb⟩
    refine ⟨_, rfl, ?_⟩
    replace HO0_1 := aM (Kd.V_elder' (vq HO0_1.out) (rB ho0) hb)
    replace HO370 := aM (Kd.V_elder' (vq HO370.out) (rB ho0) hb)
    replace HO381 := aM (Kd.V_elder' (vq HO381.out) (rB ho0) hb)
    replace HO387 := aM (Kd.N_elder' (nq HO387.out) (rB ho0) hb)
    have HO390 := aM (rG (wq (wq (wq (wq (Kd.R_newM (M := fun k_ => (w.heap.size ≤ k_)) ho0 (bZ bq) (fun k_ h_ => h_)) HO358) HO365) HO376) HO384) (bZ bq))
    replace HO358 := zh (rq HO358.out) ho0 hb
    replace HO365 := zh (rq HO365.out) ho0 hb
    replace HO376 := zh (rq HO376.out) ho0 hb
    replace HO384 := zh (rq HO384.out) ho0 hb
    replace BK351 := zb BK351 hb
    replace BK352 := zb BK352 hb
    replace BK362 := zb BK362 hb
    replace HB := aM (bT bq hb)
    (try clear hb)
    (try clear hb2)
    (try clear hk)
    (try clear hi)
    (try clear ho0)
    obtain ⟨Ao54, co54, eo54⟩ := Kd.R_slice HO390.out
    (first | subst eo54 | (injection eo54 with f1_ f2_ f3_; have f4_ := f1_.symm; have f5_ := f3_.symm; clear f1_ f2_ f3_; subst f4_; subst f5_))
    refine hK.out _ _ ⟨cc, cc, cc⟩ (fun hHeld => ?_)
    clear hK K
    refine nn ?_
    refine p1 57 13 ?_
    refine oo HT_ (N := none) 14 #[Y,Y,Y,Y,Y,Y,Y,Y,Y,Y,Y,Y,Y,Y,Y] (fun K hK => ?_)
    have hs55 : w53.cell? ⟨gb352, 0, none⟩ = some (.int .i64 0) := cc
    have hfs55 := kF BK352.out 0
    have hns55_0 := NB351_352.out
    have hns55_2 := NB362_352.out
    have hms55_0 := NB352_351.out
    have hms55_2 := NB352_362.out
    have hs56 : w53.cell? ⟨gb352, 1, none⟩ = some (.int .i64 0) := cc
    have hfs56 := kF BK352.out 1
    have hns56_0 := NB351_352.out
    have hns56_2 := NB362_352.out
    have hms56_0 := NB352_351.out
    have hms56_2 := NB352_362.out
    have hs57 : w53.cell? ⟨gb352, 2, none⟩ = some (.slice none 0 0) := cc
    have hfs57 := kF BK352.out 2
    have hns57_0 := NB351_352.out
    have hns57_2 := NB362_352.out
    have hms57_0 := NB352_351.out
    have hms57_2 := NB352_362.out
    have hs58 : w53.cell? ⟨gb352, 3, none⟩ = some (.slice none 0 0) := cc
    have hfs58 := kF BK352.out 3
    have hns58_0 := NB351_352.out
    have hns58_2 := NB362_352.out
    have hms58_0 := NB352_351.out
    have hms58_2 := NB352_362.out
    have hs59 : w53.cell? ⟨gb352, 4, none⟩ = some (.slice none 0 0) := cc
    have hfs59 := kF BK352.out 4
    have hns59_0 := NB351_352.out
    have hns59_2 := NB362_352.out
    have hms59_0 := NB352_351.out
    have hms59_2 := NB352_362.out
    refine skip_ (w1 := ?_) (by rfl) rfl ?_ ?_
    rotate_left
    ·go_simp
     rfl
    refine hK.out _ _ ⟨(lf hHeld.1), (lf hHeld.2.1), (lf hHeld.2.2)⟩ (fun hHeld => ?_)
    clear hK K
    refine done_ (done_of HT_.out kr) ?_
    try go_wp2
    refine bodyPost_ret (results_cell_row rfl _ _ gb352 37 #[.int .i64 0, .int .i64 a0_0, .slice Ao46 t372.length co46, .slice Ao51 t382.length co51, .slice Ao54 t388.length co54] (0, 0) _ rfl (fq BK352.out) Try.underlying37 rfl kr) rfl ?_
    exact ⟨_, _, _, by first | rfl | (simp [errW_none, errW_some] <;> rfl) | (simp only [← hji10]; first | rfl | (simp [errW_none, errW_some] <;> rfl)) | (simp [*, errW_none, errW_some] <;> rfl), rM (rf (Kd.R_types HO376.out BK352.out (by decide))) (fun _ hk => ⟨hk.1.1.1, ⟨hk.1.1.2.2.2, hk.1.2⟩⟩), rM (rf (Kd.R_types HO384.out BK352.out (by decide))) (fun _ hk => ⟨hk.1.1.1, ⟨hk.1.1.2.2.2, hk.1.2⟩⟩), rM (rf (Kd.R_types HO390.out BK352.out (by decide))) (fun _ hk => ⟨hk.1.1.1.1.1.1, ⟨hk.1.1.2, hk.1.2⟩⟩), bq⟩
   ·rw [if_neg c12] at H
    exact absurd H (by simp)
  ·rw [if_neg c11] at H
   exact absurd H (by simp)
 ·rw [if_neg c7] at H
  have c7b0 := eF c7
  have c7b1 := nT c7
  simp only [Option.some.injEq, Prod.mk.injEq] at H
  obtain ⟨rfl, rfl, rfl, rfl, rfl⟩ := H
  go_enter Try.func20, Try.ntmps20
  try go_wp2_with (first | ((with_reducible refine gD 2 rfl ?_); refine bx 2 35 #[.int .i64 a0_0, .slice A0_1 l0_1.length c0_1, .slice A0_2 l0_2.length c0_2] ?_; intro gb351 hg w60 hbox hb; replace HO0_1 := aM (Kd.V_below (Kd.V_elderB (vq HO0_1.out) gb351 (Nat.le_of_eq hg.symm)) hb); have BK351 := aM hbox; have GW351 := gw w hg; have GE351 := GW351; replace HB := aM (bT bq hb); clear hb hbox hg) | ((with_reducible refine gD 4 rfl ?_); refine bx 4 37 #[.int .i64 0, .int .i64 0, .slice none 0 0, .slice none 0 0, .slice none 0 0] ?_; intro gb352 hg w61 hbox hb; replace HO0_1 := aM (Kd.V_below (Kd.V_elderB (vq HO0_1.out) gb352 (Nat.le_of_eq hg.symm)) hb); have BK352 := aM hbox; have GW352 := gw w hg; have GE352 := GW352; replace HB := aM (bT bq hb); have NB351_352 := nl BK351 hg; have NB352_351 := aM NB351_352.out.symm; replace BK351 := zb BK351 hb; clear hb hbox hg))
  replace HO0_1 := aM (Kd.V_drew HO0_1.out)
  replace BK351 := zk BK351
  replace BK352 := zk BK352
  replace HB := aM (bD HB.out)
  refine start_ (n := 13) (S := fun w' => w'.cell? ⟨gb351, 0, none⟩ = some (.int .i64 a0_0) ∧ w'.cell? ⟨gb351, 1, none⟩ = some (.slice A0_1 l0_1.length c0_1) ∧ w'.cell? ⟨gb351, 2, none⟩ = some (.slice A0_2 l0_2.length c0_2)) (ds := []) #[N,N,N,N,N,N,N,N,N,N,N,N,N] kr rfl rfl ⟨cc, cc, cc⟩ (fun hHeld => ?_); refine with_tabW impl_PlayBlock.tab1 impl_PlayBlock.bits1 (fun HT_ HW_ => ?_)
  generalize w61.drew = w62 at HO0_1 BK351 BK352 HB hHeld ⊢
  refine p1 13 2 ?_
  refine p1 14 3 ?_
  refine p1 15 4 ?_
  refine p1 19 8 ?_
  refine t1 11 0 ?_ (hy := by rintro w' ⟨s0, s1, s2⟩; go_simp; with_reducible rfl)
  refine t1 16 5 ?_ (hy := by rintro w' ⟨s0, s1, s2⟩; go_simp; with_reducible rfl)
  refine p1 17 6 ?_
  refine o1 12 1 fun K hK => ?_
  refine goes_ Try.func46 kr rfl #[.agg #[.int .i64 a0_0, .slice A0_1 l0_1.length c0_1, .slice A0_2 l0_2.length c0_2]] (by rfl) rfl rfl mq ?_
  with_reducible refine (impl_SynthFault.calls k a0_0 _ _ l0_1 _ _ l0_2 t353 _ ?s1 ?s2 ?s3 ?s4 A3.out).mono ?_
  (case s1 => exact cq (Kd.V_reads' HO0_1.out).2.2)
  (case s2 => exact (Kd.V_reads' HO0_1.out).2.1)
  (case s3 => exact cq (cB HR0_2.out HB.out))
  (case s4 => exact HC0_2.out)
  rintro e w63 ⟨rfl, hb⟩
  refine ⟨_, rfl, ?_⟩
  replace HO0_1 := aM (Kd.V_below (vq HO0_1.out) hb)
  replace BK351 := zb BK351 hb
  replace BK352 := zb BK352 hb
  replace HB := aM (bT bq hb)
  (try clear hb)
  (try clear hb2)
  (try clear hk)
  (try clear hi)
  refine hK.out _ _ ⟨cc, cc, cc⟩ (fun hHeld => ?_)
  clear hK K
  refine nn ?_
  refine o1 18 7 fun K hK => ?_
  refine goes_ Try.func56 kr rfl #[.bool ((l1.length : Int) != a0_0), .int .i64 2] (by rfl) rfl rfl mq ?_
  with_reducible refine (impl_codeIf.calls ((l1.length : Int) != a0_0) 2 t354 _ A4.out).mono ?_
  rintro e w64 ⟨rfl, hdr_⟩; have hb := Drawn0.below hdr_
  refine ⟨_, rfl, ?_⟩
  replace HO0_1 := aM (Kd.V_below (vq HO0_1.out) hb)
  replace BK351 := zb BK351 hb
  replace BK352 := zb BK352 hb
  replace HB := aM (bT bq hb)
  (try clear hb)
  (try clear hb2)
  (try clear hk)
  (try clear hi)
  refine hK.out _ _ ⟨cc, cc, cc⟩ (fun hHeld => ?_)
  clear hK K
  refine nn ?_
  refine o1 20 9 fun K hK => ?_
  refine goes_ Try.func68 kr rfl #[.slice A1 l1.length c1] (by rfl) rfl rfl mq ?_
  with_reducible refine (impl_gatherFault.calls k _ _ l1 t355 _ ?s1 ?s2 A5.out).mono ?_
  (case s1 => exact cq (cB HR1.out HB.out))
  (case s2 => exact HC1.out)
  rintro e w65 ⟨rfl, hb⟩
  refine ⟨_, rfl, ?_⟩
  replace HO0_1 := aM (Kd.V_below (vq HO0_1.out) hb)
  replace BK351 := zb BK351 hb
  replace BK352 := zb BK352 hb
  replace HB := aM (bT bq hb)
  (try clear hb)
  (try clear hb2)
  (try clear hk)
  (try clear hi)
  refine hK.out _ _ ⟨cc, cc, cc⟩ (fun hHeld => ?_)
  clear hK K
  refine nn ?_
  refine o1 21 10 fun K hK => ?_
  refine Kd.R_lit_step (Kd.int .i64) _ 2 ?hg (N := 21) ?hd (xs := ([t353, t354, t355] : List Int)) (inner := [.int .i64 t353, .int .i64 t354, .int .i64 t355]) (ok := fun _ => True) (okp := fun _ => True) ?hr ?hp (fun _ hk => hk) trivial (Below.refl _ _) (Nat.le_refl _) (by simp) ?_; (case hd => rfl); (case hg => rfl); (case hr => first | (go_simp; done) | (go_simp; rfl)); (case hp => exact (Reps.one (show Kd.M (Kd.int .i64) _ _ _ t353 [.int .i64 t353] from rfl) (Reps.one (show Kd.M (Kd.int .i64) _ _ _ t354 [.int .i64 t354] from rfl) (Reps.one (show Kd.M (Kd.int .i64) _ _ _ t355 [.int .i64 t355] from rfl) (Reps.none _ _)))))
  intro v357 w66 ho67 hb hg_ hnew_
  clear hg_ hnew_
  rw [← Ny356.out] at ho67
  replace HO0_1 := aM (Kd.V_elder' (vq HO0_1.out) (rB ho67) hb)
  have HO358 := aM (rG (Kd.R_newM (M := fun k_ => (w.heap.size ≤ k_)) ho67 (bZ bq) (fun k_ h_ => h_)) (bZ bq))
  replace BK351 := zb BK351 hb
  replace BK352 := zb BK352 hb
  replace HB := aM (bT bq hb)
  clear hb ho67
  obtain ⟨Ao68, co68, eo68⟩ := Kd.R_slice HO358.out
  (first | subst eo68 | (injection eo68 with f1_ f2_ f3_; have f4_ := f1_.symm; have f5_ := f3_.symm; clear f1_ f2_ f3_; subst f4_; subst f5_))
  refine hK.out _ _ ⟨cc, cc, cc⟩ (fun hHeld => ?_)
  clear hK K
  refine nn ?_
  refine o1 22 11 fun K hK => ?_
  refine goes_ Try.func54 kr rfl #[.slice Ao68 y356.length co68] (by rfl) rfl rfl mq ?_
  with_reducible refine (impl_first.calls k _ _ y356 t359 _ ?s1 ?s2 A6.out).mono ?_
  (case s1 => exact cq (rR HO358.out).2.2)
  (case s2 => exact (rR HO358.out).2.1)
  rintro e w69 ⟨rfl, hdr_⟩; have hb := Drawn0.below hdr_
  refine ⟨_, rfl, ?_⟩
  replace HO0_1 := aM (Kd.V_below (vq HO0_1.out) hb)
  replace HO358 := zl HO358 hb
  replace BK351 := zb BK351 hb
  replace BK352 := zb BK352 hb
  replace HB := aM (bT bq hb)
  (try clear hb)
  (try clear hb2)
  (try clear hk)
  (try clear hi)
  refine hK.out _ _ ⟨cc, cc, cc⟩ (fun hHeld => ?_)
  clear hK K
  refine nn ?_
  refine p1 5 12 ?_
  refine done_ (done_of HT_.out kr) ?_
  have hnb70 := NB352_351.out
  have hnc70 := NB351_352.out
  obtain ⟨hcz71_0, hcz71_1, hcz71_2, hcz71_3, hcz71_4, hfz71_0, hfz71_1, hfz71_2, hfz71_3, hfz71_4⟩ := b5 BK352.out
  try go_wp2
  refine bodyPost_ret (results_cell_row rfl _ _ gb352 37 #[.int .i64 t359, .int .i64 0, .slice none 0 0, .slice none 0 0, .slice none 0 0] (0, 0) _ rfl (fq BK352.out) Try.underlying37 rfl kr) rfl ?_
  exact ⟨_, _, _, ew, rn, rn, rn, bq⟩
theorem impl_PlayBlock.calls (k : Nat) (a0_0 : Int) (A0_1 : Option Addr) (c0_1 : Nat) (l0_1 : List Int) (A0_2 : Option Addr) (c0_2 : Nat) (l0_2 : List Int) (A1 : Option Addr) (c1 : Nat) (l1 : List Int) (r1 : Int) (r2 : Int) (r3 : List Int) (r4 : List Int) (r5 : List Int) (w : World) (hr0_1 : Kd.C (Kd.int .i64) w A0_1 l0_1.length l0_1) (hc0_1 : l0_1.length ≤ c0_1) (hr0_2 : Kd.C (Kd.int .i64) w A0_2 l0_2.length l0_2) (hc0_2 : l0_2.length ≤ c0_2) (hr1 : Kd.C (Kd.int .i64) w A1 l1.length l1) (hc1 : l1.length ≤ c1) (h : impl_PlayBlock.f k a0_0 l0_1 l0_2 l1 = some (r1, r2, r3, r4, r5)) :
  Calls Try.prog 20 #[.agg #[.int .i64 a0_0, .slice A0_1 l0_1.length c0_1, .slice A0_2 l0_2.length c0_2], .slice A1 l1.length c1] w fun e w' => ∃ v2_ v3_ v4_ : Value, e = .returned (.agg #[.int .i64 r1, .int .i64 r2, v2_, v3_, v4_]) ∧ Kd.R (Kd.int .i64) 2 w' w.heap.size (fun k_ => nb v3_ k_ ∧ nb v4_ k_) v2_ r3 ∧ Kd.R (Kd.int .i64) 2 w' w.heap.size (fun k_ => nb v2_ k_ ∧ nb v4_ k_) v3_ r4 ∧ Kd.R (Kd.int .i64) 2 w' w.heap.size (fun k_ => nb v2_ k_ ∧ nb v3_ k_) v4_ r5 ∧ Below w.heap.size w w' := by
 refine (impl_PlayBlock.callsV k a0_0 (fun k_ => k_ < w.heap.size) A0_1 c0_1 l0_1 A0_2 c0_2 l0_2 A1 c1 l1 r1 r2 r3 r4 r5 w (Kd.V_mk hc0_1 (Kd.C_F (Kd.heap_int .i64) hr0_1)) hr0_2 hc0_2 hr1 hc1 h).mono fun e w' hh_ => ?_
 obtain ⟨v2_, v3_, v4_, he_, h0_, h1_, h2_, hb_⟩ := hh_
 exact ⟨v2_, v3_, v4_, he_, rM h0_ (fun _ hk => hk.2), rM h1_ (fun _ hk => hk.2), rM h2_ (fun _ hk => hk.2), hb_⟩
end Go.Proofs.Ytmhnpogjkbmmnaa.PFnStates
