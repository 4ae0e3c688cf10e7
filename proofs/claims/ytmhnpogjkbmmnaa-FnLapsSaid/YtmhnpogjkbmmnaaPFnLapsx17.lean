-- Written by a program of this session: wip/mkprint.py over the kit's print, with contracts proved by hand (wip/given.py)
-- shortest of all
-- told shortest
-- told shorter still
-- shortened
-- told short
-- worlds by letters
-- squeezed
import Derived.Test.YtmhnpogjkbmmnaaPFnLapsx0
import Derived.Test.YtmhnpogjkbmmnaaPFnLapsx1
namespace Go.Proofs.Ytmhnpogjkbmmnaa.PFnLaps
open Go.RowKit Go.Proofs.YtmhnpogjkbmmnaaW.PrintWords Go.Proofs.YtmhnpogjkbmmnaaW.PrintLast Go.Proofs.YtmhnpogjkbmmnaaW.PrintMore
open Go.Proofs.YtmhnpogjkbmmnaaW.PrintWords.Kd renaming R_alloc → rA, R_drewN → rN, R_drew → rD, R_far → rF, R_mono → rM, R_base → rB, R_new' → rW, R_lt → rT, R_lower → rG, R_elder' → rH
open Go.Proofs.YtmhnpogjkbmmnaaW.PrintWords renaming below_drew1 → bD, below_step → bT, below_size → bZ, blk_drewN → kN, blk_drew → kD, blk_alloc → kA, blk_below → kB, blk_cell → kC, blk_frozen → kF
open Go.Proofs.YtmhnpogjkbmmnaaW.PrintWords.Aside0 renaming mk → aM
attribute [local go_sem] max2_int min2_int max_two min_two max_three min_three max_four min_four   -- for this text's walks alone
set_option linter.unusedVariables false
set_option linter.unusedSimpArgs false

/-! ### impl_NewLap: function 49 -/
def impl_NewLap.f (a0 : Int) : Option (Int × Int × List Int × List Int) := (impl_SizeFault.f a0).bind fun t790 => (if t790 = 0 then (if 0 ≤ (wrap64 (Int.tdiv a0 2)) then (if (wrap64 (Int.tdiv a0 2) : Int).toNat ≤ 35184372088832 then (some (0, a0, (List.replicate (wrap64 (Int.tdiv a0 2) : Int).toNat 0), (List.replicate (wrap64 (Int.tdiv a0 2) : Int).toNat 0))) else (none)) else (none)) else (some (t790, 0, ([] : List Int), ([] : List Int))))
def impl_NewLap.T4 : Bool × List (List Nat × List Nat) := (true, [([], []), ([], []), ([1], [1]), ([2, 2], [2]), ([], []), ([4], [4]), ([5, 5], [5]), ([0, 3, 6], [0, 3, 6]), ([7], [7]), ([8, 0, 1, 2, 3, 4, 5, 6, 7, 8], [8])])
def impl_NewLap.B4 : List Nat := [0, 0, 2, 6, 0, 16, 48, 127, 255, 511]
theorem impl_NewLap.tab4 : rtab .any (opsOf Try.f49 4) = impl_NewLap.T4 := by kernel_rfl
theorem impl_NewLap.bits4 : waitsOk impl_NewLap.T4.2 impl_NewLap.B4 = true := by kernel_rfl
set_option maxHeartbeats 8000000 in
set_option maxRecDepth 100000 in
theorem impl_NewLap.calls (a0 : Int) (r1 : Int) (r2 : Int) (r3 : List Int) (r4 : List Int) (w : World) (h : impl_NewLap.f a0 = some (r1, r2, r3, r4)) :
  Calls Try.prog 49 #[.int .i64 a0] w fun e w' => ∃ v2_ v3_ : Value, e = .returned (.agg #[.int .i64 r1, .int .i64 r2, v2_, v3_]) ∧ Kd.R (Kd.int .i64) 2 w' w.heap.size (fun k_ => nb v3_ k_) v2_ r3 ∧ Kd.R (Kd.int .i64) 2 w' w.heap.size (fun k_ => nb v2_ k_) v3_ r4 ∧ Below w.heap.size w w' := by
 have hu79 := Try.underlying79
 have hu48 := Try.underlying48
 have HB := aM (Below.refl w.heap.size w)
 have H : ((impl_SizeFault.f a0).bind fun t790 => (if t790 = 0 then (if 0 ≤ (wrap64 (Int.tdiv a0 2)) then (if (wrap64 (Int.tdiv a0 2) : Int).toNat ≤ 35184372088832 then (some (0, a0, (List.replicate (wrap64 (Int.tdiv a0 2) : Int).toNat 0), (List.replicate (wrap64 (Int.tdiv a0 2) : Int).toNat 0))) else (none)) else (none)) else (some (t790, 0, ([] : List Int), ([] : List Int))))) = some (r1, r2, r3, r4) := h
 clear h
 replace H := bo H
 obtain ⟨t790, A2, H⟩ := H
 replace H := bz H
 by_cases c3 : t790 = 0
 ·rw [if_pos c3] at H
  have c3b0 : (t790 == 0) = true := beq_iff_eq.mpr c3
  have c3b1 : (t790 != 0) = false := bne_eq_false_iff_eq.mpr c3
  clear c3
  obtain ⟨ji4, hji4⟩ : ∃ j_ : Int, (wrap64 (Int.tdiv a0 2)) = j_ := ⟨_, rfl⟩
  replace H : (if 0 ≤ (ji4) then (if (ji4 : Int).toNat ≤ 35184372088832 then (some (0, a0, (List.replicate (ji4 : Int).toNat 0), (List.replicate (ji4 : Int).toNat 0))) else (none)) else (none)) = some (r1, r2, r3, r4) := by first | (rw [hji4] at H; exact H) | (simp only [hji4] at H ⊢; exact H)
  (try rw [hji4] at A2)
  have hji4w : (IntKind.i64.wrap (Int.tdiv a0 2)) = ji4 := (i64_w _).trans hji4
  by_cases c5 : 0 ≤ (ji4)
  ·rw [if_pos c5] at H
   have c5b0 := eq_true c5
   have c5b1 : decide (0 ≤ (ji4)) = true := decide_eq_true c5
   clear c5
   by_cases c6 : (ji4 : Int).toNat ≤ 35184372088832
   ·rw [if_pos c6] at H
    have c6b0 := eq_true c6
    have c6b1 : decide ((ji4 : Int).toNat ≤ 35184372088832) = true := decide_eq_true c6
    clear c6
    obtain ⟨y791, hy791⟩ : ∃ y_ : List Int, y_ = (List.replicate (ji4 : Int).toNat 0) := ⟨_, rfl⟩
    replace H : (some (0, a0, y791, (List.replicate (ji4 : Int).toNat 0))) = some (r1, r2, r3, r4) := hl hy791 H
    have Ny791 := aM hy791
    clear hy791
    obtain ⟨y794, hy794⟩ : ∃ y_ : List Int, y_ = (List.replicate (ji4 : Int).toNat 0) := ⟨_, rfl⟩
    replace H : (some (0, a0, y791, y794)) = some (r1, r2, r3, r4) := hl hy794 H
    have Ny794 := aM hy794
    clear hy794
    simp only [Option.some.injEq, Prod.mk.injEq] at H
    obtain ⟨rfl, rfl, rfl, rfl⟩ := H
    go_enter Try.func49, Try.ntmps49
    try go_wp2_with (first | ((with_reducible refine gate_dst (N := 2) rfl ?_); refine box_event ?hg (N := 2) ?hd (cs := #[.int .i64 0, .int .i64 0, .slice none 0 0, .slice none 0 0]) (t := 79) ?hr ?_; (case hd => rfl); (case hg => rfl); (case hr => first | (go_simp; done) | (go_simp; rfl)); intro gb789 hg w7 hbox hb; have BK789 := aM (hbox); have GW789 := aM ((by rw [hg]; exact (bZ bq) : w.heap.size ≤ gb789)); have GE789 := aM ((by rw [hg]; exact (bZ bq) : w.heap.size ≤ gb789)); replace HB := aM (bT bq hb); clear hb hbox hg) | ((with_reducible refine gate_callee (f := 55) rfl ?_); refine goesL_ (some 5) rfl rfl Try.func55 kr rfl #[.int .i64 a0] rfl mq ?_; (with_reducible refine (impl_SizeFault.calls a0 t790 _ A2.out).mono ?_); rintro e w' ⟨rfl, ⟨nd, rfl⟩⟩; refine ⟨_, rfl, ?_⟩; (try (rw [drewN_self w7]; generalize hq_ : World.drewN w7 _ = w7; have n0_ : Aside0 (w7.heap[gb789]? = some (.cells #[.int .i64 0, .int .i64 0, .slice none 0 0, .slice none 0 0] 79 (0, 0))) := ⟨by rw [← hq_]; exact (kq BK789.out)⟩; have n1_ : Aside0 (Below w.heap.size w w7) := ⟨by rw [← hq_]; exact bq⟩; clear BK789 HB hq_; have BK789 := n0_; have HB := n1_; clear n0_ n1_))))
    replace BK789 := aM (kD BK789.out)
    replace HB := aM (bD HB.out)
    refine start_ (n := 10) (S := fun w' => True) (ds := []) #[N,N,N,N,N,N,N,N,N,N] kr rfl rfl trivial (fun hHeld => ?_); refine with_tabW impl_NewLap.tab4 impl_NewLap.bits4 (fun HT_ HW_ => ?_)
    generalize w7.drew = w8 at BK789 HB hHeld ⊢
    refine pp HT_ (N := some 10) 0 #[Y,N,N,N,N,N,N,N,N,N] ?_
    refine pp HT_ (N := some 11) 1 #[Y,Y,N,N,N,N,N,N,N,N] ?_
    refine pp HT_ (N := some 12) 2 #[Y,Y,Y,N,N,N,N,N,N,N] ?_
    refine pp HT_ (N := some 14) 4 #[Y,Y,Y,N,Y,N,N,N,N,N] ?_
    refine pp HT_ (N := some 15) 5 #[Y,Y,Y,N,Y,Y,N,N,N,N] ?_
    refine join_ (σ := Value × Value) 3 #[Y,Y,Y,Y,Y,Y,Y,N,N,N] (fun s_ => [(13, s_.1), (16, s_.2)]) (fun s_ w' => (Kd.R (Kd.int .i64) 2 w' w.heap.size (fun k_ => some k_ ≠ (s_.2 : Value).ownBlock) s_.1 y791) ∧ (Kd.R (Kd.int .i64) 2 w' w.heap.size (fun k_ => some k_ ≠ (s_.1 : Value).ownBlock) s_.2 y794) ∧ (w'.heap[gb789]? = some (.cells #[.int .i64 0, .int .i64 0, .slice none 0 0, .slice none 0 0] 79 (0, 0))) ∧ (Below w.heap.size w w')) ?_ ?_
    rotate_left
    ·intro hCont
     refine two_ (i := 3) (j := 6) (Ni := some 13) (Nj := some 16) #[Y,Y,Y,Y,Y,Y,N,N,N,N] #[Y,Y,Y,N,Y,Y,Y,N,N,N] rfl rfl rfl rfl (two_of HT_.out kr) (by decide) (by decide) (fun K hK => ?_) (fun K hK => ?_)
     ·skip
      refine Kd.R_make_step (Kd.int .i64) _ 2 (by rfl) (N := 13) rfl 22 _ _ rfl ji4 rfl rfl Try.underlying22 (.int .i64 0) 8 info2 rfl (by decide) (by omega) 0 (ok := fun _ => True) (okp := fun _ => True) rfl (fun _ hk => hk) trivial (of_decide_eq_true (by first | (with_reducible assumption) | assumption)) (Nat.le_trans (Nat.mul_le_mul_right _ (of_decide_eq_true (by first | (with_reducible assumption) | assumption) : ji4.toNat ≤ 35184372088832)) (by omega)) (Below.refl _ _) (Nat.le_refl _) ?_
      intro v792 w9 ho10 hb hg_ hnew_
      clear hg_ hnew_
      (first | rw [← Ny791.out] at ho10 | (simp only [Int.reduceToNat] at ho10; rw [← Ny791.out] at ho10))
      have HO793 := aM (rG ho10 (bZ bq))
      replace BK789 := aM (kB (kq BK789.out) hb)
      replace HB := aM (bT bq hb)
      clear hb ho10
      refine hK.out _ _ trivial (fun hHeld => ?_)
      clear hK K
      refine nn ?_
      refine oo HT_ (N := some 16) 6 #[Y,Y,Y,Y,Y,Y,Y,N,N,N] (fun K hK => ?_)
      refine Kd.R_make_step (Kd.int .i64) _ 2 (by rfl) (N := 16) rfl 22 _ _ rfl ji4 rfl rfl Try.underlying22 (.int .i64 0) 8 info2 rfl (by decide) (by omega) 0 (ok := fun _ => True) (okp := fun _ => True) rfl (fun _ hk => hk) trivial (of_decide_eq_true (by first | (with_reducible assumption) | assumption)) (Nat.le_trans (Nat.mul_le_mul_right _ (of_decide_eq_true (by first | (with_reducible assumption) | assumption) : ji4.toNat ≤ 35184372088832)) (by omega)) (Below.refl _ _) (Nat.le_refl _) ?_
      intro v795 w11 ho12 hb hg_ hnew_
      clear hg_ hnew_
      (first | rw [← Ny794.out] at ho12 | (simp only [Int.reduceToNat] at ho12; rw [← Ny794.out] at ho12))
      have HO796 := aM (rG (rW ho12 (rT (rq HO793.out))) (bZ bq))
      replace HO793 := aM (rH (rq HO793.out) (rB ho12) hb)
      replace BK789 := aM (kB (kq BK789.out) hb)
      replace HB := aM (bT bq hb)
      clear hb ho12
      obtain ⟨Ao13, co13, eo13⟩ := Kd.R_slice HO796.out
      (first | subst eo13 | (injection eo13 with f1_ f2_ f3_; have f4_ := f1_.symm; have f5_ := f3_.symm; clear f1_ f2_ f3_; subst f4_; subst f5_))
      obtain ⟨Ao14, co14, eo14⟩ := Kd.R_slice HO793.out
      (first | subst eo14 | (injection eo14 with f1_ f2_ f3_; have f4_ := f1_.symm; have f5_ := f3_.symm; clear f1_ f2_ f3_; subst f4_; subst f5_))
      refine hK.out _ _ trivial (fun hHeld => ?_)
      clear hK K
      refine nn ?_
      exact norm_ (by simp only [putAll, Act.put, pa, pb, pc]) (hCont (.slice Ao14 y791.length co14, .slice Ao13 y794.length co13) _ ⟨(rq (rM HO793.out (fun _ hk => hk.2))), (rq (rM HO796.out (fun _ hk => hk.2))), (kq BK789.out), bq⟩)
     ·skip
      refine Kd.R_make_step (Kd.int .i64) _ 2 (by rfl) (N := 16) rfl 22 _ _ rfl ji4 rfl rfl Try.underlying22 (.int .i64 0) 8 info2 rfl (by decide) (by omega) 0 (ok := fun _ => True) (okp := fun _ => True) rfl (fun _ hk => hk) trivial (of_decide_eq_true (by first | (with_reducible assumption) | assumption)) (Nat.le_trans (Nat.mul_le_mul_right _ (of_decide_eq_true (by first | (with_reducible assumption) | assumption) : ji4.toNat ≤ 35184372088832)) (by omega)) (Below.refl _ _) (Nat.le_refl _) ?_
      intro v795 w9 ho10 hb hg_ hnew_
      clear hg_ hnew_
      (first | rw [← Ny794.out] at ho10 | (simp only [Int.reduceToNat] at ho10; rw [← Ny794.out] at ho10))
      have HO796 := aM (rG ho10 (bZ bq))
      replace BK789 := aM (kB (kq BK789.out) hb)
      replace HB := aM (bT bq hb)
      clear hb ho10
      refine hK.out _ _ trivial (fun hHeld => ?_)
      clear hK K
      refine nn ?_
      refine oo HT_ (N := some 13) 3 #[Y,Y,Y,Y,Y,Y,Y,N,N,N] (fun K hK => ?_)
      refine Kd.R_make_step (Kd.int .i64) _ 2 (by rfl) (N := 13) rfl 22 _ _ rfl ji4 rfl rfl Try.underlying22 (.int .i64 0) 8 info2 rfl (by decide) (by omega) 0 (ok := fun _ => True) (okp := fun _ => True) rfl (fun _ hk => hk) trivial (of_decide_eq_true (by first | (with_reducible assumption) | assumption)) (Nat.le_trans (Nat.mul_le_mul_right _ (of_decide_eq_true (by first | (with_reducible assumption) | assumption) : ji4.toNat ≤ 35184372088832)) (by omega)) (Below.refl _ _) (Nat.le_refl _) ?_
      intro v792 w11 ho12 hb hg_ hnew_
      clear hg_ hnew_
      (first | rw [← Ny791.out] at ho12 | (simp only [Int.reduceToNat] at ho12; rw [← Ny791.out] at ho12))
      have HO793 := aM (rG (rW ho12 (rT (rq HO796.out))) (bZ bq))
      replace HO796 := aM (rH (rq HO796.out) (rB ho12) hb)
      replace BK789 := aM (kB (kq BK789.out) hb)
      replace HB := aM (bT bq hb)
      clear hb ho12
      obtain ⟨Ao13, co13, eo13⟩ := Kd.R_slice HO796.out
      (first | subst eo13 | (injection eo13 with f1_ f2_ f3_; have f4_ := f1_.symm; have f5_ := f3_.symm; clear f1_ f2_ f3_; subst f4_; subst f5_))
      obtain ⟨Ao14, co14, eo14⟩ := Kd.R_slice HO793.out
      (first | subst eo14 | (injection eo14 with f1_ f2_ f3_; have f4_ := f1_.symm; have f5_ := f3_.symm; clear f1_ f2_ f3_; subst f4_; subst f5_))
      refine hK.out _ _ trivial (fun hHeld => ?_)
      clear hK K
      refine nn ?_
      exact norm_ (by simp only [putAll, Act.put, pa, pb, pc]) (hCont (.slice Ao14 y791.length co14, .slice Ao13 y794.length co13) _ ⟨(rq (rM HO793.out (fun _ hk => hk.2))), (rq (rM HO796.out (fun _ hk => hk.2))), (kq BK789.out), bq⟩)
    rintro ⟨v792, v795⟩ w15 ⟨h0_, h1_, h2_, h3_⟩
    have n0_ : Aside0 (Kd.R (Kd.int .i64) 2 w15 w.heap.size (fun k_ => nb v795 k_) v792 y791) := ⟨h0_⟩
    have n1_ : Aside0 (Kd.R (Kd.int .i64) 2 w15 w.heap.size (fun k_ => nb v792 k_) v795 y794) := ⟨h1_⟩
    have n2_ : Aside0 (w15.heap[gb789]? = some (.cells #[.int .i64 0, .int .i64 0, .slice none 0 0, .slice none 0 0] 79 (0, 0))) := ⟨h2_⟩
    have n3_ : Aside0 (Below w.heap.size w w15) := ⟨h3_⟩
    clear BK789 HB h0_ h1_ h2_ h3_
    have HO793 := n0_
    have HO796 := n1_
    have BK789 := n2_
    have HB := n3_
    clear n0_ n1_ n2_ n3_
    have hHeld := trivial
    obtain ⟨Ao16, co16, eo16⟩ := Kd.R_slice HO796.out
    (first | subst eo16 | (injection eo16 with f1_ f2_ f3_; have f4_ := f1_.symm; have f5_ := f3_.symm; clear f1_ f2_ f3_; subst f4_; subst f5_))
    obtain ⟨Ao17, co17, eo17⟩ := Kd.R_slice HO793.out
    (first | subst eo17 | (injection eo17 with f1_ f2_ f3_; have f4_ := f1_.symm; have f5_ := f3_.symm; clear f1_ f2_ f3_; subst f4_; subst f5_))
    refine norm_ (a' := ?_) ?_ ?_
    rotate_left
    ·simp only [putAll, Act.put, pa, pb, pc]
     rfl
    refine pp HT_ (N := some 17) 7 #[Y,Y,Y,Y,Y,Y,Y,Y,N,N] ?_
    refine pp HT_ (N := some 18) 8 #[Y,Y,Y,Y,Y,Y,Y,Y,Y,N] ?_
    refine oo HT_ (N := none) 9 #[Y,Y,Y,Y,Y,Y,Y,Y,Y,Y] (fun K hK => ?_)
    have hs18 : w15.cell? ⟨gb789, 0, none⟩ = some (.int .i64 0) := cc
    have hfs18 := kF BK789.out 0
    have hs19 : w15.cell? ⟨gb789, 1, none⟩ = some (.int .i64 0) := cc
    have hfs19 := kF BK789.out 1
    have hs20 : w15.cell? ⟨gb789, 2, none⟩ = some (.slice none 0 0) := cc
    have hfs20 := kF BK789.out 2
    have hs21 : w15.cell? ⟨gb789, 3, none⟩ = some (.slice none 0 0) := cc
    have hfs21 := kF BK789.out 3
    refine skip_ (w1 := ?_) (by rfl) rfl ?_ ?_
    rotate_left
    ·go_simp
     rfl
    refine hK.out _ _ trivial (fun hHeld => ?_)
    clear hK K
    refine done_ (done_of HT_.out kr) ?_
    try go_wp2
    refine bodyPost_ret (results_cell_row rfl _ _ gb789 79 #[.int .i64 0, .int .i64 a0, .slice Ao17 y791.length co17, .slice Ao16 y794.length co16] (0, 0) _ rfl (fq BK789.out) Try.underlying79 rfl kr) rfl ?_
    exact ⟨_, _, by first | rfl | (simp [errW_none, errW_some] <;> rfl) | (simp only [← hji4]; first | rfl | (simp [errW_none, errW_some] <;> rfl)) | (simp [*, errW_none, errW_some] <;> rfl), rM (rf (Kd.R_types HO793.out BK789.out (by decide))) (fun _ hk => hk.1), rM (rf (Kd.R_types HO796.out BK789.out (by decide))) (fun _ hk => hk.1), bq⟩
   ·rw [if_neg c6] at H
    exact absurd H (by simp)
  ·rw [if_neg c5] at H
   exact absurd H (by simp)
 ·rw [if_neg c3] at H
  have c3b0 : (t790 == 0) = false := beq_eq_false_iff_ne.mpr c3
  have c3b1 : (t790 != 0) = true := bne_iff_ne.mpr c3
  simp only [Option.some.injEq, Prod.mk.injEq] at H
  obtain ⟨rfl, rfl, rfl, rfl⟩ := H
  go_enter Try.func49, Try.ntmps49
  go_wp2_with (first | ((with_reducible refine gate_dst (N := 2) rfl ?_); refine box_event ?hg (N := 2) ?hd (cs := #[.int .i64 0, .int .i64 0, .slice none 0 0, .slice none 0 0]) (t := 79) ?hr ?_; (case hd => rfl); (case hg => rfl); (case hr => first | (go_simp; done) | (go_simp; rfl)); intro gb789 hg w22 hbox hb; have BK789 := aM (hbox); have GW789 := aM ((by rw [hg]; exact (bZ bq) : w.heap.size ≤ gb789)); have GE789 := aM ((by rw [hg]; exact (bZ bq) : w.heap.size ≤ gb789)); replace HB := aM (bT bq hb); clear hb hbox hg) | ((with_reducible refine gate_callee (f := 55) rfl ?_); refine goesL_ (some 5) rfl rfl Try.func55 kr rfl #[.int .i64 a0] rfl mq ?_; (with_reducible refine (impl_SizeFault.calls a0 t790 _ A2.out).mono ?_); rintro e w' ⟨rfl, ⟨nd, rfl⟩⟩; refine ⟨_, rfl, ?_⟩; (try (rw [drewN_self w22]; generalize hq_ : World.drewN w22 _ = w22; have n0_ : Aside0 (w22.heap[gb789]? = some (.cells #[.int .i64 0, .int .i64 0, .slice none 0 0, .slice none 0 0] 79 (0, 0))) := ⟨by rw [← hq_]; exact (kq BK789.out)⟩; have n1_ : Aside0 (Below w.heap.size w w22) := ⟨by rw [← hq_]; exact bq⟩; clear BK789 HB hq_; have BK789 := n0_; have HB := n1_; clear n0_ n1_)); have hcz23_0 : w22.cell? ⟨gb789, 0, none⟩ = some (.int .i64 0) := cc; have hcz23_1 : w22.cell? ⟨gb789, 1, none⟩ = some (.int .i64 0) := cc; have hcz23_2 : w22.cell? ⟨gb789, 2, none⟩ = some (.slice none 0 0) := cc; have hcz23_3 : w22.cell? ⟨gb789, 3, none⟩ = some (.slice none 0 0) := cc; have hfz23_0 := kF BK789.out 0; have hfz23_1 := kF BK789.out 1; have hfz23_2 := kF BK789.out 2; have hfz23_3 := kF BK789.out 3))
  refine bodyPost_ret (results_cell_row rfl _ _ gb789 79 #[.int .i64 t790, .int .i64 0, .slice none 0 0, .slice none 0 0] (0, 0) _ rfl (fq BK789.out) Try.underlying79 rfl kr) rfl ?_
  exact ⟨_, _, ew, by first | exact Kd.R_nil _ _ _ _ _ | exact Kd.N_nil _ _ _ _ _ | exact Kd.V_nil _ _ _ _ _ | exact Kd.Q_nil _ _ _ _ _ | exact Kd.S_nil _ _ _ _ _, by first | exact Kd.R_nil _ _ _ _ _ | exact Kd.N_nil _ _ _ _ _ | exact Kd.V_nil _ _ _ _ _ | exact Kd.Q_nil _ _ _ _ _ | exact Kd.S_nil _ _ _ _ _, bq⟩

end Go.Proofs.Ytmhnpogjkbmmnaa.PFnLaps
