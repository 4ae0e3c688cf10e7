-- Written by a program of this session: wip/mkprint.py over the kit's print, with contracts proved by hand (wip/given.py)
-- shortest of all
-- told shortest
-- told shorter still
-- shortened
-- told short
-- worlds by letters
-- squeezed
import Derived.Test.YtmhnpogjkbmmnaaPFnLapsx0
import Derived.Test.YtmhnpogjkbmmnaaPFnLapsx10
namespace Go.Proofs.Ytmhnpogjkbmmnaa.PFnLaps
open Go.RowKit Go.Proofs.YtmhnpogjkbmmnaaW.PrintWords Go.Proofs.YtmhnpogjkbmmnaaW.PrintLast Go.Proofs.YtmhnpogjkbmmnaaW.PrintMore
open Go.Proofs.YtmhnpogjkbmmnaaW.PrintWords.Kd renaming R_alloc → rA, R_drewN → rN, R_drew → rD, R_mono → rM, R_base → rB, R_new' → rW, R_lt → rT, R_lower → rG, R_elder' → rH, R_reads' → rR
open Go.Proofs.YtmhnpogjkbmmnaaW.PrintWords renaming below_drew1 → bD, below_step → bT, below_size → bZ
open Go.Proofs.YtmhnpogjkbmmnaaW.PrintWords.Aside0 renaming mk → aM
attribute [local go_sem] max2_int min2_int max_two min_two max_three min_three max_four min_four   -- for this text's walks alone
set_option linter.unusedVariables false
set_option linter.unusedSimpArgs false

/-! ### impl_spread: function 80 -/
mutual
def impl_spread.l0 : Nat → List Int → List Int → List Int → Int → Int → Option (List Int)
 | 0, _, _, _, _, _ => none
 | k + 1, x5, x6, x7, x27, x28 => if x28 < x27 then (if 0 ≤ x28 then (if x28 < (x5.length : Int) then (if x28 < (x6.length : Int) then ((some (([rd x5 x28, rd x6 x28] : List Int) : List Int)).bind fun y342 => (if x7.length + y342.length < 17592186044416 then (impl_spread.l0 k x5 x6 (x7 ++ y342) x27 (wrap64 (x28 + 1))) else (none))) else (none)) else (none)) else (none)) else (some x7)
def impl_spread.f : Nat → List Int → Option (List Int)
 | 0, _ => none
 | k + 1, l0 => if (l0.length : Int) = 1 then (if 0 < (l0.length : Int) then (some (([rd l0 0] : List Int))) else (none)) else ((impl_halve.f k l0).bind fun bt325 => ((impl_spread.f k bt325.1).bind fun t331 => ((impl_spread.f k bt325.2).bind fun t334 => (impl_spread.l0 k t331 t334 (([] : List Int)) (t331.length : Int) 0))))
end
theorem impl_spread.mono_l : ∀ k, (∀ y0, LeO (impl_spread.f k y0) (impl_spread.f (k + 1) y0)) ∧ (∀ y0 y1 y2 y3 y4, LeO (impl_spread.l0 k y0 y1 y2 y3 y4) (impl_spread.l0 (k + 1) y0 y1 y2 y3 y4))
 | 0 => ⟨fun _ r h => by simp [impl_spread.f] at h, fun _ _ _ _ _ r h => by simp [impl_spread.l0] at h⟩
 | k + 1 => by
  obtain ⟨ih0, ih1⟩ := impl_spread.mono_l k
  refine ⟨?_, ?_⟩
  ·intro y0
   unfold impl_spread.f
   repeat' first
   | (with_reducible exact ih0 _)
   | (with_reducible exact ih1 _ _ _ _ _)
   | (with_reducible exact impl_halve.mono _ _)
   | (with_reducible exact LeO.refl _)
   | (with_reducible exact LeO.none _)
   | (with_reducible refine LeO.ite ?_ ?_)
   | (with_reducible refine LeO.bind ?_ (fun _ => ?_))
   | exact ih0 _
   | exact ih1 _ _ _ _ _
   | exact impl_halve.mono _ _
   | exact LeO.none _
   | refine LeO.ite ?_ ?_
   | refine LeO.bind ?_ (fun _ => ?_)
  ·intro y0 y1 y2 y3 y4
   unfold impl_spread.l0
   repeat' first
   | (with_reducible exact ih0 _)
   | (with_reducible exact ih1 _ _ _ _ _)
   | (with_reducible exact impl_halve.mono _ _)
   | (with_reducible exact LeO.refl _)
   | (with_reducible exact LeO.none _)
   | (with_reducible refine LeO.ite ?_ ?_)
   | (with_reducible refine LeO.bind ?_ (fun _ => ?_))
   | exact ih0 _
   | exact ih1 _ _ _ _ _
   | exact impl_halve.mono _ _
   | exact LeO.none _
   | refine LeO.ite ?_ ?_
   | refine LeO.bind ?_ (fun _ => ?_)
theorem impl_spread.mono : ∀ a0 k, LeO (impl_spread.f k a0) (impl_spread.f (k + 1) a0) := by
 intro a0 k
 obtain ⟨ih0, ih1⟩ := impl_spread.mono_l k
 exact ih0 a0
def impl_spread.T8 : Bool × List (List Nat × List Nat) := (true, [([], []), ([], []), ([], []), ([1, 2], [1, 2]), ([3], [3]), ([], []), ([], []), ([5, 6], [5, 6]), ([7], [7]), ([4, 8], [4, 8]), ([0, 9], [0, 9]), ([10, 10, 0, 1, 2, 3, 4, 5, 6, 7, 8, 9, 10], [0, 10])])
def impl_spread.B8 : List Nat := [0, 0, 0, 6, 14, 0, 0, 96, 224, 510, 1023, 2047]
theorem impl_spread.tab8 : rtab .any (opsOf Try.f80 8) = impl_spread.T8 := by kernel_rfl
theorem impl_spread.bits8 : waitsOk impl_spread.T8.2 impl_spread.B8 = true := by kernel_rfl
set_option maxHeartbeats 8000000 in
set_option maxRecDepth 100000 in
theorem impl_spread.calls (k : Nat) : ∀ (A0 : Option Addr) (c0 : Nat) (l0 : List Int) (r : List Int) (w : World) (hr0 : Kd.C (Kd.int .i64) w A0 l0.length l0) (hc0 : l0.length ≤ c0) (h : impl_spread.f k l0 = some r),
  Calls Try.prog 80 #[.slice A0 l0.length c0] w fun e w' => ∃ v0_ : Value, e = .returned (v0_) ∧ Kd.R (Kd.int .i64) 2 w' w.heap.size (fun _ => True) v0_ r ∧ Below w.heap.size w w' := by
 induction k using Nat.strongRecOn with
 | _ k ih =>
 intro A0 c0 l0 r w hr0 hc0 h
 cases k with
 | zero => exact absurd h (by simp [impl_spread.f])
 | succ k =>
 simp only [impl_spread.f] at h
 have HR0 := aM hr0
 have HC0 := aM hc0
 clear hr0 hc0
 have HB := aM (Below.refl w.heap.size w)
 have H : (if (l0.length : Int) = 1 then (if 0 < (l0.length : Int) then (some (([rd l0 0] : List Int))) else (none)) else ((impl_halve.f k l0).bind fun bt325 => ((impl_spread.f k bt325.1).bind fun t331 => ((impl_spread.f k bt325.2).bind fun t334 => (impl_spread.l0 k t331 t334 (([] : List Int)) (t331.length : Int) 0))))) = some r := h
 clear h
 by_cases c2 : (l0.length : Int) = 1
 ·rw [if_pos c2] at H
  have c2b0 : ((l0.length : Int) == 1) = true := beq_iff_eq.mpr c2
  have c2b1 : ((l0.length : Int) != 1) = false := bne_eq_false_iff_eq.mpr c2
  clear c2
  by_cases c3 : 0 < (l0.length : Int)
  ·rw [if_pos c3] at H
   have c3b0 : decide (0 < (l0.length : Int)) = true := decide_eq_true c3
   have c3b1 : decide (0 < l0.length) = true := decide_eq_true (by omega)
   clear c3
   obtain ⟨y322, hy322⟩ : ∃ y_ : List Int, y_ = (([rd l0 0] : List Int)) := ⟨_, rfl⟩
   replace H : (some y322) = some r := hl hy322 H
   have Ny322 := aM hy322
   clear hy322
   obtain rfl := Option.some.inj H
   have p321 : 0 ≤ (0 : Int) := (by omega)
   have q321 : 0 < (l0.length : Int) := of_decide_eq_true (by first | (with_reducible assumption) | assumption)
   obtain ⟨ad321, e321, hx321_0⟩ := Kd.at_int HR0.out 0 p321 q321
   cases e321
   have qi321 : (0 < l0.length) = True := eq_true (by omega)
   (try rw [show ((0 : Int)).toNat = 0 from rfl] at hx321_0)
   (try rw [Addr.add_zero'] at hx321_0)
   replace p321 := eq_true p321
   replace q321 := eq_true q321
   go_enter Try.func80, Try.ntmps80
   go_wp2_with (first | ((with_reducible refine gate_dst (N := 15) rfl ?_); refine Kd.R_lit (Kd.int .i64) _ 2 ?hg (N := 15) ?hd (xs := ([rd l0 0] : List Int)) (inner := [.int .i64 (rd l0 0)]) (ok := fun _ => True) (okp := fun _ => True) ?hr ?hp (fun _ hk => hk) trivial (Below.refl _ _) (Nat.le_refl _) (by simp) ?_; (case hd => rfl); (case hg => rfl); (case hr => first | (go_simp; done) | (go_simp; rfl)); (case hp => exact (Reps.one (show Kd.M (Kd.int .i64) _ _ _ (rd l0 0) [.int .i64 (rd l0 0)] from rfl) (Reps.none _ _))); intro v323 w4 ho5 hb hg_ hnew_; clear hg_ hnew_; (first | rw [← Ny322.out] at ho5 | (simp only [Int.reduceToNat] at ho5; rw [← Ny322.out] at ho5)); have HO324 := aM (rG ho5 (bZ bq)); replace HB := aM (bT bq hb); clear hb ho5))
   go_ret
   exact ⟨_, ew, by (with_reducible repeat (first | apply rA | apply rN | apply rD)); exact HO324.out, bq⟩
  ·rw [if_neg c3] at H
   exact absurd H (by simp)
 ·rw [if_neg c2] at H
  have c2b0 : ((l0.length : Int) == 1) = false := beq_eq_false_iff_ne.mpr c2
  have c2b1 : ((l0.length : Int) != 1) = true := bne_iff_ne.mpr c2
  replace H := bo H
  obtain ⟨⟨t325, t326⟩, A6, H⟩ := H
  replace H := bz H
  replace H := bo H
  obtain ⟨t331, A7, H⟩ := H
  replace H := bz H
  replace H := bo H
  obtain ⟨t334, A8, H⟩ := H
  replace H := bz H
  obtain ⟨y337, hy337⟩ : ∃ y_ : List Int, y_ = (([] : List Int)) := ⟨_, rfl⟩
  replace H : (impl_spread.l0 k t331 t334 y337 (t331.length : Int) 0) = some r := hl hy337 H
  have Ny337 := aM hy337
  clear hy337
  have H' := aM H
  clear H
  go_enter Try.func80, Try.ntmps80
  go_wp2_with (first | ((with_reducible refine gate_callee (f := 121) rfl ?_); refine goesL_ (some 18) rfl rfl Try.func121 kr rfl #[.slice A0 l0.length c0] rfl mq ?_; (with_reducible refine (impl_halve.calls k _ _ l0 t325 t326 _ ?side1 ?side2 A6.out).mono ?_); (case side1 => exact cq HR0.out); (case side2 => exact HC0.out); rintro e w9 ⟨v327, v329, rfl, ho0, ho1, hb⟩; refine ⟨_, rfl, ?_⟩; have HO328 := aM (rG ho0 (bZ bq)); have HO330 := aM (rG ho1 (bZ bq)); replace HB := aM (bT bq hb); (try clear hb); (try clear ho0); (try clear ho1); obtain ⟨Ao10, co10, eo10⟩ := Kd.R_slice HO328.out; subst eo10) | ((with_reducible refine gate_callee (f := 80) rfl ?_); refine goesL_ (some 22) rfl rfl Try.func80 kr rfl #[.slice Ao10 t325.length co10] rfl mq ?_; (with_reducible refine (ih k (by omega) _ _ t325 t331 _ ?side1 ?side2 A7.out).mono ?_); (case side1 => exact cq (rR HO328.out).2.2); (case side2 => exact (rR HO328.out).2.1); rintro e w11 ⟨v332, rfl, ho0, hb⟩; refine ⟨_, rfl, ?_⟩; have HO333 := aM (rG (rW (rW ho0 (rT (rq HO328.out))) (rT (rq HO330.out))) (bZ bq)); replace HO328 := aM (rH (rq HO328.out) (rB ho0) hb); replace HO330 := aM (rH (rq HO330.out) (rB ho0) hb); replace HB := aM (bT bq hb); (try clear hb); (try clear ho0); obtain ⟨Ao12, co12, eo12⟩ := Kd.R_slice HO330.out; subst eo12) | ((with_reducible refine gate_callee (f := 80) rfl ?_); refine goesL_ (some 24) rfl rfl Try.func80 kr rfl #[.slice Ao12 t326.length co12] rfl mq ?_; (with_reducible refine (ih k (by omega) _ _ t326 t334 _ ?side1 ?side2 A8.out).mono ?_); (case side1 => exact cq (rR HO330.out).2.2); (case side2 => exact (rR HO330.out).2.1); rintro e w13 ⟨v335, rfl, ho0, hb⟩; refine ⟨_, rfl, ?_⟩; have HO336 := aM (rG (rW (rW (rW ho0 (rT (rq HO328.out))) (rT (rq HO330.out))) (rT (rq HO333.out))) (bZ bq)); replace HO328 := aM (rH (rq HO328.out) (rB ho0) hb); replace HO330 := aM (rH (rq HO330.out) (rB ho0) hb); replace HO333 := aM (rH (rq HO333.out) (rB ho0) hb); replace HB := aM (bT bq hb); (try clear hb); (try clear ho0)) | ((with_reducible refine gate_dst (N := 25) rfl ?_); refine Kd.R_lit (Kd.int .i64) _ 2 ?hg (N := 25) ?hd (xs := ([] : List Int)) (inner := []) (ok := fun _ => True) (okp := fun _ => True) ?hr ?hp (fun _ hk => hk) trivial (Below.refl _ _) (Nat.le_refl _) (by simp) ?_; (case hd => rfl); (case hg => rfl); (case hr => first | (go_simp; done) | (go_simp; rfl)); (case hp => exact (Reps.none _ _)); intro v338 w14 ho15 hb hg_ hnew_; clear hg_ hnew_; (first | rw [← Ny337.out] at ho15 | (simp only [Int.reduceToNat] at ho15; rw [← Ny337.out] at ho15)); have HO339 := aM (rG (rW (rW (rW (rW ho15 (rT (rq HO328.out))) (rT (rq HO330.out))) (rT (rq HO333.out))) (rT (rq HO336.out))) (bZ bq)); replace HO328 := aM (rH (rq HO328.out) (rB ho15) hb); replace HO330 := aM (rH (rq HO330.out) (rB ho15) hb); replace HO333 := aM (rH (rq HO333.out) (rB ho15) hb); replace HO336 := aM (rH (rq HO336.out) (rB ho15) hb); replace HB := aM (bT bq hb); clear hb ho15; obtain ⟨Ao16, co16, eo16⟩ := Kd.R_slice HO333.out; subst eo16))
  go_loopg [7, 28] k (fun kq v7 v28 w' => ∃ (x7_1 : List Int) (x28_1 : Int), v28 = .int .i64 x28_1 ∧ Aside0 (impl_spread.l0 kq t331 t334 x7_1 (t331.length : Int) x28_1 = some r) ∧ Aside0 (kq ≤ k) ∧ Aside0 (Kd.R (Kd.int .i64) 2 w' w.heap.size (fun k_ => nb v335 k_ ∧ nb v7 k_) (.slice Ao16 t331.length co16) t331) ∧ Aside0 (Kd.R (Kd.int .i64) 2 w' w.heap.size (fun k_ => some k_ ≠ ((.slice Ao16 t331.length co16) : Value).ownBlock ∧ nb v7 k_) v335 t334) ∧ Aside0 (Kd.R (Kd.int .i64) 2 w' w.heap.size (fun k_ => some k_ ≠ ((.slice Ao16 t331.length co16) : Value).ownBlock ∧ nb v335 k_) v7 x7_1) ∧ Aside0 (Below w.heap.size w w'))
  case atStart => exact ⟨(y337), (0), (ex), H', ⟨Nat.le_refl _⟩, aM (rq (rM HO333.out jq)), aM (rq (rM HO336.out jq)), aM (rq (rM HO339.out jq)), ⟨bq⟩⟩
  case round =>
   clear H'
   try clear c1
   try clear c2
   try clear c2b0
   try clear c2b1
   try clear p2
   try clear c3
   try clear c3b0
   try clear c3b1
   try clear p3
   try clear q3
   try clear hx3
   try clear qi3
   try clear c8
   try clear c12
   try clear hx321_0
   try clear p321
   try clear q321
   obtain ⟨x7_1, x28_1, rfl, HA, HK1, HO_5, HO_6, HO_7, HB⟩ := hrel
   cases gk with
   | zero => exact absurd HA.out (by simp [impl_spread.l0])
   | succ k1 =>
    have H := HA.out
    clear HA
    simp only [impl_spread.l0] at H
    by_cases c17 : x28_1 < (t331.length : Int)
    ·rw [if_pos c17] at H
     have c17b0 : decide (x28_1 < (t331.length : Int)) = true := decide_eq_true c17
     clear c17
     by_cases c18 : 0 ≤ x28_1
     ·rw [if_pos c18] at H
      have c18b0 : decide (0 ≤ x28_1) = true := decide_eq_true c18
      clear c18
      by_cases c19 : x28_1 < (t331.length : Int)
      ·rw [if_pos c19] at H
       have c19b0 : decide (x28_1 < (t331.length : Int)) = true := decide_eq_true c19
       clear c19
       by_cases c20 : x28_1 < (t334.length : Int)
       ·rw [if_pos c20] at H
        have c20b0 : decide (x28_1 < (t334.length : Int)) = true := decide_eq_true c20
        clear c20
        obtain ⟨y342, hy342⟩ : ∃ y_ : List Int, y_ = (([rd t331 x28_1, rd t334 x28_1] : List Int)) := ⟨_, rfl⟩
        replace H : (if x7_1.length + y342.length < 17592186044416 then (impl_spread.l0 k1 t331 t334 (x7_1 ++ y342) (t331.length : Int) (wrap64 (x28_1 + 1))) else (none)) = some r := hl hy342 H
        have Ny342 := aM hy342
        clear hy342
        by_cases c21 : x7_1.length + y342.length < 17592186044416
        ·rw [if_pos c21] at H
         have LMc21 := aM c21
         clear c21
         obtain ⟨y345, hy345⟩ : ∃ y_ : List Int, y_ = (x7_1 ++ y342) := ⟨_, rfl⟩
         replace H : (impl_spread.l0 k1 t331 t334 y345 (t331.length : Int) (wrap64 (x28_1 + 1))) = some r := hl hy345 H
         have Ny345 := aM hy345
         clear hy345
         have H' := aM H
         clear H
         try go_wp2
         replace HO_5 := aM (rD HO_5.out)
         replace HO_6 := aM (rD HO_6.out)
         replace HO_7 := aM (rD HO_7.out)
         replace HB := aM (bD HB.out)
         have p340 : 0 ≤ (x28_1 : Int) := of_decide_eq_true (by first | (with_reducible assumption) | assumption)
         have q340 : x28_1 < (t331.length : Int) := of_decide_eq_true (by first | (with_reducible assumption) | assumption)
         obtain ⟨ad340, e340, hx340_0⟩ := Kd.at_int (rR HO_5.out).2.2 x28_1 p340 q340
         cases e340
         replace p340 := eq_true p340
         replace q340 := eq_true q340
         obtain ⟨Ao23, co23, eo23⟩ := Kd.R_slice HO_6.out
         (first | subst eo23 | (injection eo23 with f1_ f2_ f3_; have f4_ := f1_.symm; have f5_ := f3_.symm; clear f1_ f2_ f3_; subst f4_; subst f5_))
         have p341 : 0 ≤ (x28_1 : Int) := of_decide_eq_true (by first | (with_reducible assumption) | assumption)
         have q341 : x28_1 < (t334.length : Int) := of_decide_eq_true (by first | (with_reducible assumption) | assumption)
         obtain ⟨ad341, e341, hx341_0⟩ := Kd.at_int (rR HO_6.out).2.2 x28_1 p341 q341
         cases e341
         replace p341 := eq_true p341
         replace q341 := eq_true q341
         refine start_ (n := 12) (S := fun w' => w'.cell? (ad340.add (x28_1).toNat) = some (.int .i64 (rd t331 x28_1)) ∧ w'.cell? (ad341.add (x28_1).toNat) = some (.int .i64 (rd t334 x28_1))) (ds := [10]) #[N,N,N,N,N,N,N,N,N,N,N,N] kr rfl rfl ⟨hx340_0, hx341_0⟩ (fun hHeld => ?_); refine with_tabW impl_spread.tab8 impl_spread.bits8 (fun HT_ HW_ => ?_)
         generalize wr.drew = w22 at HO_5 HO_6 HO_7 HB hx340_0 hx341_0 hHeld ⊢
         refine pp HT_ (N := some 31) 0 #[Y,N,N,N,N,N,N,N,N,N,N,N] ?_
         refine pp HT_ (N := some 32) 1 #[Y,Y,N,N,N,N,N,N,N,N,N,N] ?_
         refine pp HT_ (N := some 33) 2 #[Y,Y,Y,N,N,N,N,N,N,N,N,N] ?_
         refine pp HT_ (N := some 34) 3 #[Y,Y,Y,Y,N,N,N,N,N,N,N,N] ?_
         refine pp HT_ (N := some 36) 5 #[Y,Y,Y,Y,N,Y,N,N,N,N,N,N] ?_
         refine pp HT_ (N := some 37) 6 #[Y,Y,Y,Y,N,Y,Y,N,N,N,N,N] ?_
         refine pp HT_ (N := some 38) 7 #[Y,Y,Y,Y,N,Y,Y,Y,N,N,N,N] ?_
         refine tt HT_ HW_ (N := some 35) 4 #[Y,Y,Y,Y,Y,Y,Y,Y,N,N,N,N] hHeld ?_ (hy := by rintro w' ⟨s0, s1⟩; go_simp; with_reducible rfl)
         refine tt HT_ HW_ (N := some 39) 8 #[Y,Y,Y,Y,Y,Y,Y,Y,Y,N,N,N] hHeld ?_ (hy := by rintro w' ⟨s0, s1⟩; go_simp; with_reducible rfl)
         refine oo HT_ (N := some 40) 9 #[Y,Y,Y,Y,Y,Y,Y,Y,Y,Y,N,N] (fun K hK => ?_)
         refine Kd.R_lit_step (Kd.int .i64) _ 2 ?hg (N := 40) ?hd (xs := ([rd t331 x28_1, rd t334 x28_1] : List Int)) (inner := [.int .i64 (rd t331 x28_1), .int .i64 (rd t334 x28_1)]) (ok := fun _ => True) (okp := fun _ => True) ?hr ?hp (fun _ hk => hk) trivial (Below.refl _ _) (Nat.le_refl _) (by simp) ?_; (case hd => rfl); (case hg => rfl); (case hr => first | (go_simp; done) | (go_simp; rfl)); (case hp => exact (Reps.one (show Kd.M (Kd.int .i64) _ _ _ (rd t331 x28_1) [.int .i64 (rd t331 x28_1)] from rfl) (Reps.one (show Kd.M (Kd.int .i64) _ _ _ (rd t334 x28_1) [.int .i64 (rd t334 x28_1)] from rfl) (Reps.none _ _))))
         intro v343 w24 ho25 hb hg_ hnew_
         have HS0_ := (hb.cell (World.block_lt_of_cell? _ _ (hHeld.1))).trans (hHeld.1)
         have HS1_ := (hb.cell (World.block_lt_of_cell? _ _ (hHeld.2))).trans (hHeld.2)
         clear hg_ hnew_
         (first | rw [← Ny342.out] at ho25 | (simp only [Int.reduceToNat] at ho25; rw [← Ny342.out] at ho25))
         have HO344 := aM (rG (rW (rW (rW ho25 (rT (rq HO_5.out))) (rT (rq HO_6.out))) (rT (rq HO_7.out))) (bZ bq))
         replace HO_5 := aM (rH (rq HO_5.out) (rB ho25) hb)
         replace HO_6 := aM (rH (rq HO_6.out) (rB ho25) hb)
         replace HO_7 := aM (rH (rq HO_7.out) (rB ho25) hb)
         replace HB := aM (bT bq hb)
         clear hb ho25
         obtain ⟨Ao27, co27, eo27⟩ := Kd.R_slice HO344.out
         (first | subst eo27 | (injection eo27 with f1_ f2_ f3_; have f4_ := f1_.symm; have f5_ := f3_.symm; clear f1_ f2_ f3_; subst f4_; subst f5_))
         refine hK.out _ _ ⟨HS0_, HS1_⟩ (fun hHeld => ?_)
         clear hK K
         refine nn ?_
         refine last_ (i := 10) (N := some 41) #[Y,Y,Y,Y,Y,Y,Y,Y,Y,Y,Y,N] rfl rfl (one_of HT_.out kr) (by decide) (fun K hK => ?_)
         refine Kd.R_append_rows_step (Kd.int .i64) (w0 := w) w.heap.size (by rfl) (.tmp 31) (.tmp 40) 22 2 (.int .i64 0) 8 rfl Try.underlying22 info2 rfl (by decide) (by omega) u7 x7_1 y342 _ _ _ (fun k_ => some k_ ≠ (.slice (some ad340) t331.length co16 : Value).ownBlock ∧ some k_ ≠ (.slice (some ad341) t334.length co23 : Value).ownBlock ∧ nS Ao27 y342 co27 k_) (fun _ => False) rfl rfl ?aO ?aR (fun _ _ h => h) (fun _ h => h.elim) ?aF ?aB ?aS ?aL ?_
         (case aR => exact cq (rR HO344.out).2.2)
         (case aB => exact bq)
         (case aF => exact (fun k_ hk => ⟨Kd.fresh' (rT (rq HO_5.out)) k_ hk, Kd.fresh' (rT (rq HO_6.out)) k_ hk, Kd.fresh' (rT (rq HO344.out)) k_ hk⟩))
         (case aO => exact (rq (rM HO_7.out jq)))
         (case aS => exact (bZ bq))
         (case aL => have := LMc21.out; omega)
         intro v346 w26 ho hb hg hat
         rw [← Ny345.out] at ho
         replace HO_5 := aM (Kd.R_after (ok := (fun k_ => some k_ ≠ (.slice (some ad341) t334.length co23 : Value).ownBlock ∧ nS Ao27 y342 co27 k_)) (rq (rM HO_5.out jq)) hg hat)
         replace HO_6 := aM (Kd.R_after (ok := (fun k_ => some k_ ≠ (.slice (some ad340) t331.length co16 : Value).ownBlock ∧ nS Ao27 y342 co27 k_)) (rq (rM HO_6.out jq)) hg hat)
         replace HO344 := aM (Kd.R_after (ok := (fun k_ => some k_ ≠ (.slice (some ad340) t331.length co16 : Value).ownBlock ∧ some k_ ≠ (.slice (some ad341) t334.length co23 : Value).ownBlock)) (rq (rM HO344.out jq)) hg hat)
         replace HB := aM (hb)
         have HO347 := aM (ho)
         clear HO_7 ho hb hg hat
         refine hK.out _ _ ?_
         clear hK K
         refine nn ?_
         refine pp HT_ (N := some 7) 11 #[Y,Y,Y,Y,Y,Y,Y,Y,Y,Y,Y,Y] ?_
         refine done_ (done_of HT_.out kr) ?_
         try go_wp2
         go_roundg k1
         case measure => have := HK1.out; omega
         case rel => exact ⟨(y345), (wrap64 (x28_1 + 1)), (ex), H', ⟨by have := HK1.out; omega⟩, aM (rq (rM HO_5.out jq)), aM (rq (rM HO_6.out jq)), aM (rq (rM HO347.out jq)), ⟨bq⟩⟩
        ·rw [if_neg c21] at H
         exact absurd H (by simp)
       ·rw [if_neg c20] at H
        exact absurd H (by simp)
      ·rw [if_neg c19] at H
       exact absurd H (by simp)
     ·rw [if_neg c18] at H
      exact absurd H (by simp)
    ·rw [if_neg c17] at H
     have c17b0 : decide (x28_1 < (t331.length : Int)) = false := decide_eq_false c17
     clear c17
     obtain rfl := Option.some.inj H
     go_wp2
     go_ret
     exact ⟨_, ew, by (with_reducible repeat (first | apply rA | apply rN | apply rD)); exact rM HO_7.out (fun _ hk => trivial), bq⟩

end Go.Proofs.Ytmhnpogjkbmmnaa.PFnLaps
