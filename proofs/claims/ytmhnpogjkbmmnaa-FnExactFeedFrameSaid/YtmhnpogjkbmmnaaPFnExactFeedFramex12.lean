-- Written by a program of this session: wip/mkprint.py over the kit's print, with contracts proved by hand (wip/given.py)
-- shortened
-- squeezed
import Derived.Test.YtmhnpogjkbmmnaaPFnExactFeedFramex0
import Derived.Test.YtmhnpogjkbmmnaaPFnExactFeedFramex11
namespace Go.Proofs.Ytmhnpogjkbmmnaa.PFnExactFeedFrame
open Go.RowKit Go.Proofs.YtmhnpogjkbmmnaaW.PrintWords Go.Proofs.YtmhnpogjkbmmnaaW.PrintLast Go.Proofs.YtmhnpogjkbmmnaaW.PrintMore
open Go.Proofs.YtmhnpogjkbmmnaaW.PrintWords.Kd renaming R_alloc → rA, R_drewN → rN, R_drew → rD, R_mono → rM, R_base → rB, R_new' → rW, R_lt → rT, R_lower → rG, R_elder' → rH, R_reads' → rR, C_alloc → cA, C_drewN → cN, C_drew → cD
open Go.Proofs.YtmhnpogjkbmmnaaW.PrintWords renaming below_alloc → bA, pw_below_drewN → bN, below_drew1 → bD, below_step → bT, below_size → bZ
open Go.Proofs.YtmhnpogjkbmmnaaW.PrintWords.Aside0 renaming mk → aM
attribute [local go_sem] max2_int min2_int max_two min_two max_three min_three max_four min_four   -- for this text's walks alone
set_option linter.unusedVariables false
set_option linter.unusedSimpArgs false

/-! ### impl_spread: function 80 -/
mutual
def impl_spread.l0 : Nat → List Int → List Int → List Int → Int → Int → Option (List Int)
 | 0, _, _, _, _, _ => none
 | k + 1, x5, x6, x7, x27, x28 => if x28 < x27 then (if 0 ≤ x28 then (if x28 < (x5.length : Int) then (if x28 < (x6.length : Int) then ((some (([rd x5 x28, rd x6 x28] : List Int) : List Int)).bind fun y366 => (if x7.length + y366.length < 17592186044416 then (impl_spread.l0 k x5 x6 (x7 ++ y366) x27 (wrap64 (x28 + 1))) else (none))) else (none)) else (none)) else (none)) else (some x7)
def impl_spread.f : Nat → List Int → Option (List Int)
 | 0, _ => none
 | k + 1, l0 => if (l0.length : Int) = 1 then (if 0 < (l0.length : Int) then (some (([rd l0 0] : List Int))) else (none)) else ((impl_halve.f k l0).bind fun bt349 => ((impl_spread.f k bt349.1).bind fun t355 => ((impl_spread.f k bt349.2).bind fun t358 => (impl_spread.l0 k t355 t358 (([] : List Int)) (t355.length : Int) 0))))
end
theorem impl_spread.mono_l : ∀ k, (∀ y0, LeO (impl_spread.f k y0) (impl_spread.f (k + 1) y0)) ∧ (∀ y0 y1 y2 y3 y4, LeO (impl_spread.l0 k y0 y1 y2 y3 y4) (impl_spread.l0 (k + 1) y0 y1 y2 y3 y4))
 | 0 => ⟨fun _ r h => by simp [impl_spread.f] at h, fun _ _ _ _ _ r h => by simp [impl_spread.l0] at h⟩
 | k + 1 => by
  obtain ⟨ih0, ih1⟩ := impl_spread.mono_l k
  refine ⟨?_, ?_⟩
  ·intro y0
   unfold impl_spread.f
   repeat' first
   | (with_reducible exact ih0 _)
   | (with_reducible exact ih1 _ _ _ _ _)
   | (with_reducible exact impl_halve.mono _ _)
   | (with_reducible exact LeO.refl _)
   | (with_reducible exact LeO.none _)
   | (with_reducible refine LeO.ite ?_ ?_)
   | (with_reducible refine LeO.bind ?_ (fun _ => ?_))
   | exact ih0 _
   | exact ih1 _ _ _ _ _
   | exact impl_halve.mono _ _
   | exact LeO.none _
   | refine LeO.ite ?_ ?_
   | refine LeO.bind ?_ (fun _ => ?_)
  ·intro y0 y1 y2 y3 y4
   unfold impl_spread.l0
   repeat' first
   | (with_reducible exact ih0 _)
   | (with_reducible exact ih1 _ _ _ _ _)
   | (with_reducible exact impl_halve.mono _ _)
   | (with_reducible exact LeO.refl _)
   | (with_reducible exact LeO.none _)
   | (with_reducible refine LeO.ite ?_ ?_)
   | (with_reducible refine LeO.bind ?_ (fun _ => ?_))
   | exact ih0 _
   | exact ih1 _ _ _ _ _
   | exact impl_halve.mono _ _
   | exact LeO.none _
   | refine LeO.ite ?_ ?_
   | refine LeO.bind ?_ (fun _ => ?_)
theorem impl_spread.mono : ∀ a0 k, LeO (impl_spread.f k a0) (impl_spread.f (k + 1) a0) := by
 intro a0 k
 obtain ⟨ih0, ih1⟩ := impl_spread.mono_l k
 exact ih0 a0
def impl_spread.T8 : Bool × List (List Nat × List Nat) := (true, [([], []), ([], []), ([], []), ([1, 2], [1, 2]), ([3], [3]), ([], []), ([], []), ([5, 6], [5, 6]), ([7], [7]), ([4, 8], [4, 8]), ([0, 9], [0, 9]), ([10, 10, 0, 1, 2, 3, 4, 5, 6, 7, 8, 9, 10], [0, 10])])
def impl_spread.B8 : List Nat := [0, 0, 0, 6, 14, 0, 0, 96, 224, 510, 1023, 2047]
theorem impl_spread.tab8 : rtab .any (opsOf Try.f80 8) = impl_spread.T8 := by kernel_rfl
theorem impl_spread.bits8 : waitsOk impl_spread.T8.2 impl_spread.B8 = true := by kernel_rfl
set_option maxHeartbeats 8000000 in
set_option maxRecDepth 100000 in
theorem impl_spread.calls (k : Nat) : ∀ (A0 : Option Addr) (c0 : Nat) (l0 : List Int) (r : List Int) (w : World) (hr0 : Kd.C (Kd.int .i64) w A0 l0.length l0) (hc0 : l0.length ≤ c0) (h : impl_spread.f k l0 = some r),
  Calls Try.prog 80 #[.slice A0 l0.length c0] w fun e w' => ∃ v0_ : Value, e = .returned (v0_) ∧ Kd.R (Kd.int .i64) 2 w' w.heap.size (fun _ => True) v0_ r ∧ Below w.heap.size w w' := by
 induction k using Nat.strongRecOn with
 | _ k ih =>
 intro A0 c0 l0 r w hr0 hc0 h
 cases k with
 | zero => exact absurd h (by simp [impl_spread.f])
 | succ k =>
 simp only [impl_spread.f] at h
 have HR0 := aM hr0
 have HC0 := aM hc0
 clear hr0 hc0
 have HB := aM (Below.refl w.heap.size w)
 have H : (if (l0.length : Int) = 1 then (if 0 < (l0.length : Int) then (some (([rd l0 0] : List Int))) else (none)) else ((impl_halve.f k l0).bind fun bt349 => ((impl_spread.f k bt349.1).bind fun t355 => ((impl_spread.f k bt349.2).bind fun t358 => (impl_spread.l0 k t355 t358 (([] : List Int)) (t355.length : Int) 0))))) = some r := h
 clear h
 by_cases c2 : (l0.length : Int) = 1
 ·rw [if_pos c2] at H
  have c2b0 : ((l0.length : Int) == 1) = true := beq_iff_eq.mpr c2
  have c2b1 : ((l0.length : Int) != 1) = false := bne_eq_false_iff_eq.mpr c2
  clear c2
  by_cases c3 : 0 < (l0.length : Int)
  ·rw [if_pos c3] at H
   have c3b0 : decide (0 < (l0.length : Int)) = true := decide_eq_true c3
   have c3b1 : decide (0 < l0.length) = true := decide_eq_true (by omega)
   clear c3
   obtain ⟨y346, hy346⟩ : ∃ y_ : List Int, y_ = (([rd l0 0] : List Int)) := ⟨_, rfl⟩
   replace H : (some y346) = some r := by first | (rw [hy346]; with_reducible exact H) | (have H2_ := (Option.bind_some _ _).symm.trans H; rw [hy346]; with_reducible exact H2_) | (have H2_ := (Option.bind_some _ _).symm.trans H; with_reducible exact H2_) | with_reducible exact H | (rw [hy346]; exact H) | exact H
   have Ny346 := aM hy346
   clear hy346
   obtain rfl := Option.some.inj H
   have p345 : 0 ≤ (0 : Int) := (by omega)
   have q345 : 0 < (l0.length : Int) := of_decide_eq_true (by first | (with_reducible assumption) | assumption)
   obtain ⟨ad345, e345, hx345_0⟩ := Kd.at_int HR0.out 0 p345 q345
   cases e345
   have qi345 : (0 < l0.length) = True := eq_true (by omega)
   (try rw [show ((0 : Int)).toNat = 0 from rfl] at hx345_0)
   (try rw [Addr.add_zero'] at hx345_0)
   replace p345 := eq_true p345
   replace q345 := eq_true q345
   go_enter Try.func80, Try.ntmps80
   go_wp2_with (first | ((with_reducible refine gate_dst (N := 15) rfl ?_); refine Kd.R_lit (Kd.int .i64) _ 2 ?hg (N := 15) ?hd (xs := ([rd l0 0] : List Int)) (inner := [.int .i64 (rd l0 0)]) (ok := fun _ => True) (okp := fun _ => True) ?hr ?hp (fun _ hk => hk) trivial (Below.refl _ _) (Nat.le_refl _) (by simp) ?_; (case hd => rfl); (case hg => rfl); (case hr => first | (go_simp; done) | (go_simp; rfl)); (case hp => exact (Reps.one (show Kd.M (Kd.int .i64) _ _ _ (rd l0 0) [.int .i64 (rd l0 0)] from rfl) (Reps.none _ _))); intro v347 w4 ho5 hb hg_ hnew_; clear hg_ hnew_; (first | rw [← Ny346.out] at ho5 | (simp only [Int.reduceToNat] at ho5; rw [← Ny346.out] at ho5)); have n0_ := aM (rG ho5 (bZ (by repeat (first | exact HB.out | apply bA | apply bN | apply bD)))); have n1_ := aM (bT (by repeat (first | exact HB.out | apply bA | apply bN | apply bD)) hb); clear HB; have HO348 := n0_; have HB := n1_; clear n0_ n1_ hb ho5))
   go_ret
   exact ⟨_, by first | rfl | (simp [errW_none, errW_some] <;> rfl) | (simp [*, errW_none, errW_some] <;> rfl), by (with_reducible repeat (first | apply rA | apply rN | apply rD)); exact HO348.out, by repeat (first | (with_reducible first | exact HB.out | apply bA | apply bN | apply bD) | exact HB.out)⟩
  ·rw [if_neg c3] at H
   exact absurd H (by simp)
 ·rw [if_neg c2] at H
  have c2b0 : ((l0.length : Int) == 1) = false := beq_eq_false_iff_ne.mpr c2
  have c2b1 : ((l0.length : Int) != 1) = true := bne_iff_ne.mpr c2
  replace H := Option.bind_eq_some_iff.mp H
  obtain ⟨⟨t349, t350⟩, A60, H⟩ := H
  replace H : ((impl_spread.f k t349).bind fun t355 => ((impl_spread.f k t350).bind fun t358 => (impl_spread.l0 k t355 t358 (([] : List Int)) (t355.length : Int) 0))) = some r := H
  have A6 := aM A60
  clear A60
  replace H := Option.bind_eq_some_iff.mp H
  obtain ⟨t355, A70, H⟩ := H
  replace H : ((impl_spread.f k t350).bind fun t358 => (impl_spread.l0 k t355 t358 (([] : List Int)) (t355.length : Int) 0)) = some r := H
  have A7 := aM A70
  clear A70
  replace H := Option.bind_eq_some_iff.mp H
  obtain ⟨t358, A80, H⟩ := H
  replace H : (impl_spread.l0 k t355 t358 (([] : List Int)) (t355.length : Int) 0) = some r := H
  have A8 := aM A80
  clear A80
  obtain ⟨y361, hy361⟩ : ∃ y_ : List Int, y_ = (([] : List Int)) := ⟨_, rfl⟩
  replace H : (impl_spread.l0 k t355 t358 y361 (t355.length : Int) 0) = some r := by first | (rw [hy361]; with_reducible exact H) | (have H2_ := (Option.bind_some _ _).symm.trans H; rw [hy361]; with_reducible exact H2_) | (have H2_ := (Option.bind_some _ _).symm.trans H; with_reducible exact H2_) | with_reducible exact H | (rw [hy361]; exact H) | exact H
  have Ny361 := aM hy361
  clear hy361
  have H' := aM H
  clear H
  go_enter Try.func80, Try.ntmps80
  go_wp2_with (first | ((with_reducible refine gate_callee (f := 121) rfl ?_); refine goesL_ (some 18) rfl rfl Try.func121 (by kernel_rfl) rfl #[.slice A0 l0.length c0] rfl (by first | rfl | (simp only [List.map_toArray, List.map_cons, List.map_nil]; rfl)) ?_; (with_reducible refine (impl_halve.calls k _ _ l0 t349 t350 _ ?side1 ?side2 A6.out).mono ?_); (case side1 => repeat (first | exact HR0.out | (with_reducible refine cA ?_ _) | (with_reducible refine cN ?_ _) | (with_reducible refine cD ?_))); (case side2 => exact HC0.out); rintro e w9 ⟨v351, v353, rfl, ho0, ho1, hb⟩; refine ⟨_, rfl, ?_⟩; have n0_ := aM (rG ho0 (bZ (by repeat (first | exact HB.out | apply bA | apply bN | apply bD)))); have n1_ := aM (rG ho1 (bZ (by repeat (first | exact HB.out | apply bA | apply bN | apply bD)))); have n2_ := aM (bT (by repeat (first | exact HB.out | apply bA | apply bN | apply bD)) hb); clear HB; have HO352 := n0_; have HO354 := n1_; have HB := n2_; clear n0_ n1_ n2_; (try clear hb); (try clear ho0); (try clear ho1); obtain ⟨Ao10, co10, eo10⟩ := Kd.R_slice HO352.out; subst eo10) | ((with_reducible refine gate_callee (f := 80) rfl ?_); refine goesL_ (some 22) rfl rfl Try.func80 (by kernel_rfl) rfl #[.slice Ao10 t349.length co10] rfl (by first | rfl | (simp only [List.map_toArray, List.map_cons, List.map_nil]; rfl)) ?_; (with_reducible refine (ih k (by omega) _ _ t349 t355 _ ?side1 ?side2 A7.out).mono ?_); (case side1 => repeat (first | exact (rR HO352.out).2.2 | (with_reducible refine cA ?_ _) | (with_reducible refine cN ?_ _) | (with_reducible refine cD ?_))); (case side2 => exact (rR HO352.out).2.1); rintro e w11 ⟨v356, rfl, ho0, hb⟩; refine ⟨_, rfl, ?_⟩; have n0_ := aM (rH (by (with_reducible repeat (first | apply rA | apply rN | apply rD)); exact HO352.out) (rB ho0) hb); have n1_ := aM (rH (by (with_reducible repeat (first | apply rA | apply rN | apply rD)); exact HO354.out) (rB ho0) hb); have n2_ := aM (rG (rW (rW ho0 (rT (by (with_reducible repeat (first | apply rA | apply rN | apply rD)); exact HO352.out))) (rT (by (with_reducible repeat (first | apply rA | apply rN | apply rD)); exact HO354.out))) (bZ (by repeat (first | exact HB.out | apply bA | apply bN | apply bD)))); have n3_ := aM (bT (by repeat (first | exact HB.out | apply bA | apply bN | apply bD)) hb); clear HO352 HO354 HB; have HO352 := n0_; have HO354 := n1_; have HO357 := n2_; have HB := n3_; clear n0_ n1_ n2_ n3_; (try clear hb); (try clear ho0); obtain ⟨Ao12, co12, eo12⟩ := Kd.R_slice HO354.out; subst eo12) | ((with_reducible refine gate_callee (f := 80) rfl ?_); refine goesL_ (some 24) rfl rfl Try.func80 (by kernel_rfl) rfl #[.slice Ao12 t350.length co12] rfl (by first | rfl | (simp only [List.map_toArray, List.map_cons, List.map_nil]; rfl)) ?_; (with_reducible refine (ih k (by omega) _ _ t350 t358 _ ?side1 ?side2 A8.out).mono ?_); (case side1 => repeat (first | exact (rR HO354.out).2.2 | (with_reducible refine cA ?_ _) | (with_reducible refine cN ?_ _) | (with_reducible refine cD ?_))); (case side2 => exact (rR HO354.out).2.1); rintro e w13 ⟨v359, rfl, ho0, hb⟩; refine ⟨_, rfl, ?_⟩; have n0_ := aM (rH (by (with_reducible repeat (first | apply rA | apply rN | apply rD)); exact HO352.out) (rB ho0) hb); have n1_ := aM (rH (by (with_reducible repeat (first | apply rA | apply rN | apply rD)); exact HO354.out) (rB ho0) hb); have n2_ := aM (rH (by (with_reducible repeat (first | apply rA | apply rN | apply rD)); exact HO357.out) (rB ho0) hb); have n3_ := aM (rG (rW (rW (rW ho0 (rT (by (with_reducible repeat (first | apply rA | apply rN | apply rD)); exact HO352.out))) (rT (by (with_reducible repeat (first | apply rA | apply rN | apply rD)); exact HO354.out))) (rT (by (with_reducible repeat (first | apply rA | apply rN | apply rD)); exact HO357.out))) (bZ (by repeat (first | exact HB.out | apply bA | apply bN | apply bD)))); have n4_ := aM (bT (by repeat (first | exact HB.out | apply bA | apply bN | apply bD)) hb); clear HO352 HO354 HO357 HB; have HO352 := n0_; have HO354 := n1_; have HO357 := n2_; have HO360 := n3_; have HB := n4_; clear n0_ n1_ n2_ n3_ n4_; (try clear hb); (try clear ho0)) | ((with_reducible refine gate_dst (N := 25) rfl ?_); refine Kd.R_lit (Kd.int .i64) _ 2 ?hg (N := 25) ?hd (xs := ([] : List Int)) (inner := []) (ok := fun _ => True) (okp := fun _ => True) ?hr ?hp (fun _ hk => hk) trivial (Below.refl _ _) (Nat.le_refl _) (by simp) ?_; (case hd => rfl); (case hg => rfl); (case hr => first | (go_simp; done) | (go_simp; rfl)); (case hp => exact (Reps.none _ _)); intro v362 w14 ho15 hb hg_ hnew_; clear hg_ hnew_; (first | rw [← Ny361.out] at ho15 | (simp only [Int.reduceToNat] at ho15; rw [← Ny361.out] at ho15)); have n0_ := aM (rH (by (with_reducible repeat (first | apply rA | apply rN | apply rD)); exact HO352.out) (rB ho15) hb); have n1_ := aM (rH (by (with_reducible repeat (first | apply rA | apply rN | apply rD)); exact HO354.out) (rB ho15) hb); have n2_ := aM (rH (by (with_reducible repeat (first | apply rA | apply rN | apply rD)); exact HO357.out) (rB ho15) hb); have n3_ := aM (rH (by (with_reducible repeat (first | apply rA | apply rN | apply rD)); exact HO360.out) (rB ho15) hb); have n4_ := aM (rG (rW (rW (rW (rW ho15 (rT (by (with_reducible repeat (first | apply rA | apply rN | apply rD)); exact HO352.out))) (rT (by (with_reducible repeat (first | apply rA | apply rN | apply rD)); exact HO354.out))) (rT (by (with_reducible repeat (first | apply rA | apply rN | apply rD)); exact HO357.out))) (rT (by (with_reducible repeat (first | apply rA | apply rN | apply rD)); exact HO360.out))) (bZ (by repeat (first | exact HB.out | apply bA | apply bN | apply bD)))); have n5_ := aM (bT (by repeat (first | exact HB.out | apply bA | apply bN | apply bD)) hb); clear HO352 HO354 HO357 HO360 HB; have HO352 := n0_; have HO354 := n1_; have HO357 := n2_; have HO360 := n3_; have HO363 := n4_; have HB := n5_; clear n0_ n1_ n2_ n3_ n4_ n5_ hb ho15; obtain ⟨Ao16, co16, eo16⟩ := Kd.R_slice HO357.out; subst eo16))
  go_loopg [7, 28] k (fun kq v7 v28 w' => ∃ (x7_1 : List Int) (x28_1 : Int), v28 = .int .i64 x28_1 ∧ Aside0 (impl_spread.l0 kq t355 t358 x7_1 (t355.length : Int) x28_1 = some r) ∧ Aside0 (kq ≤ k) ∧ Aside0 (Kd.R (Kd.int .i64) 2 w' w.heap.size (fun k_ => some k_ ≠ (v359 : Value).ownBlock ∧ some k_ ≠ (v7 : Value).ownBlock) (.slice Ao16 t355.length co16) t355) ∧ Aside0 (Kd.R (Kd.int .i64) 2 w' w.heap.size (fun k_ => some k_ ≠ ((.slice Ao16 t355.length co16) : Value).ownBlock ∧ some k_ ≠ (v7 : Value).ownBlock) v359 t358) ∧ Aside0 (Kd.R (Kd.int .i64) 2 w' w.heap.size (fun k_ => some k_ ≠ ((.slice Ao16 t355.length co16) : Value).ownBlock ∧ some k_ ≠ (v359 : Value).ownBlock) v7 x7_1) ∧ Aside0 (Below w.heap.size w w'))
  case atStart => exact ⟨(y361), (0), (by first | rfl | (simp; done) | (simp [*]; done)), H', ⟨Nat.le_refl _⟩, ⟨by (with_reducible repeat (first | apply rA | apply rN | apply rD)); exact rM HO357.out (fun _ hk => ⟨hk.1.2, hk.2⟩)⟩, ⟨by (with_reducible repeat (first | apply rA | apply rN | apply rD)); exact rM HO360.out (fun _ hk => ⟨hk.1.2, hk.2⟩)⟩, ⟨by (with_reducible repeat (first | apply rA | apply rN | apply rD)); exact rM HO363.out (fun _ hk => ⟨hk.1.2, hk.2⟩)⟩, ⟨by repeat (first | (with_reducible first | exact HB.out | apply bA | apply bN | apply bD) | exact HB.out)⟩⟩
  case round =>
   clear H'
   try clear c1
   try clear c2
   try clear c2b0
   try clear c2b1
   try clear p2
   try clear c3
   try clear c3b0
   try clear c3b1
   try clear p3
   try clear q3
   try clear hx3
   try clear qi3
   try clear c8
   try clear c12
   try clear hx345_0
   try clear p345
   try clear q345
   obtain ⟨x7_1, x28_1, rfl, HA, HK1, HO_5, HO_6, HO_7, HB⟩ := hrel
   cases gk with
   | zero => exact absurd HA.out (by simp [impl_spread.l0])
   | succ k1 =>
    have H := HA.out
    clear HA
    simp only [impl_spread.l0] at H
    by_cases c17 : x28_1 < (t355.length : Int)
    ·rw [if_pos c17] at H
     have c17b0 : decide (x28_1 < (t355.length : Int)) = true := decide_eq_true c17
     clear c17
     by_cases c18 : 0 ≤ x28_1
     ·rw [if_pos c18] at H
      have c18b0 : decide (0 ≤ x28_1) = true := decide_eq_true c18
      clear c18
      by_cases c19 : x28_1 < (t355.length : Int)
      ·rw [if_pos c19] at H
       have c19b0 : decide (x28_1 < (t355.length : Int)) = true := decide_eq_true c19
       clear c19
       by_cases c20 : x28_1 < (t358.length : Int)
       ·rw [if_pos c20] at H
        have c20b0 : decide (x28_1 < (t358.length : Int)) = true := decide_eq_true c20
        clear c20
        obtain ⟨y366, hy366⟩ : ∃ y_ : List Int, y_ = (([rd t355 x28_1, rd t358 x28_1] : List Int)) := ⟨_, rfl⟩
        replace H : (if x7_1.length + y366.length < 17592186044416 then (impl_spread.l0 k1 t355 t358 (x7_1 ++ y366) (t355.length : Int) (wrap64 (x28_1 + 1))) else (none)) = some r := by first | (rw [hy366]; with_reducible exact H) | (have H2_ := (Option.bind_some _ _).symm.trans H; rw [hy366]; with_reducible exact H2_) | (have H2_ := (Option.bind_some _ _).symm.trans H; with_reducible exact H2_) | with_reducible exact H | (rw [hy366]; exact H) | exact H
        have Ny366 := aM hy366
        clear hy366
        by_cases c21 : x7_1.length + y366.length < 17592186044416
        ·rw [if_pos c21] at H
         have LMc21 := aM c21
         clear c21
         obtain ⟨y369, hy369⟩ : ∃ y_ : List Int, y_ = (x7_1 ++ y366) := ⟨_, rfl⟩
         replace H : (impl_spread.l0 k1 t355 t358 y369 (t355.length : Int) (wrap64 (x28_1 + 1))) = some r := by first | (rw [hy369]; with_reducible exact H) | (have H2_ := (Option.bind_some _ _).symm.trans H; rw [hy369]; with_reducible exact H2_) | (have H2_ := (Option.bind_some _ _).symm.trans H; with_reducible exact H2_) | with_reducible exact H | (rw [hy369]; exact H) | exact H
         have Ny369 := aM hy369
         clear hy369
         have H' := aM H
         clear H
         try go_wp2
         have n0_ := aM (rD HO_5.out)
         have n1_ := aM (rD HO_6.out)
         have n2_ := aM (rD HO_7.out)
         have n3_ := aM (bD HB.out)
         clear HO_5
         clear HO_6
         clear HO_7
         clear HB
         have HO_5 := n0_
         have HO_6 := n1_
         have HO_7 := n2_
         have HB := n3_
         clear n0_ n1_ n2_ n3_
         have p364 : 0 ≤ (x28_1 : Int) := of_decide_eq_true (by first | (with_reducible assumption) | assumption)
         have q364 : x28_1 < (t355.length : Int) := of_decide_eq_true (by first | (with_reducible assumption) | assumption)
         obtain ⟨ad364, e364, hx364_0⟩ := Kd.at_int (rR HO_5.out).2.2 x28_1 p364 q364
         cases e364
         replace p364 := eq_true p364
         replace q364 := eq_true q364
         obtain ⟨Ao23, co23, eo23⟩ := Kd.R_slice HO_6.out
         (first | subst eo23 | (injection eo23 with f1_ f2_ f3_; have f4_ := f1_.symm; have f5_ := f3_.symm; clear f1_ f2_ f3_; subst f4_; subst f5_))
         have p365 : 0 ≤ (x28_1 : Int) := of_decide_eq_true (by first | (with_reducible assumption) | assumption)
         have q365 : x28_1 < (t358.length : Int) := of_decide_eq_true (by first | (with_reducible assumption) | assumption)
         obtain ⟨ad365, e365, hx365_0⟩ := Kd.at_int (rR HO_6.out).2.2 x28_1 p365 q365
         cases e365
         replace p365 := eq_true p365
         replace q365 := eq_true q365
         refine start_ (n := 12) (S := fun w' => w'.cell? (ad364.add (x28_1).toNat) = some (.int .i64 (rd t355 x28_1)) ∧ w'.cell? (ad365.add (x28_1).toNat) = some (.int .i64 (rd t358 x28_1))) (ds := [10]) #[N,N,N,N,N,N,N,N,N,N,N,N] (by kernel_rfl) rfl rfl ⟨hx364_0, hx365_0⟩ (fun hHeld => ?_); refine with_tabW impl_spread.tab8 impl_spread.bits8 (fun HT_ HW_ => ?_)
         generalize wr.drew = w22 at HO_5 HO_6 HO_7 HB hx364_0 hx365_0 hHeld ⊢
         refine pure_ (i := 0) (N := some 31) (v := ?_) (a' := ?_) #[Y,N,N,N,N,N,N,N,N,N,N,N] rfl rfl (any_of HT_.out (by kernel_rfl)) (fun _ _ _ h => h) (Or.inl ⟨by rfl, ?_⟩) ?_ ?_
         rotate_left
         ·intro w'
          go_simp
          with_reducible rfl
         rotate_left
         ·simp only [Act.put, pa, pb, pc, i64_w, i32_w]
          rfl
         refine pure_ (i := 1) (N := some 32) (v := ?_) (a' := ?_) #[Y,Y,N,N,N,N,N,N,N,N,N,N] rfl rfl (any_of HT_.out (by kernel_rfl)) (fun _ _ _ h => h) (Or.inl ⟨by rfl, ?_⟩) ?_ ?_
         rotate_left
         ·intro w'
          go_simp
          with_reducible rfl
         rotate_left
         ·simp only [Act.put, pa, pb, pc, i64_w, i32_w]
          rfl
         refine pure_ (i := 2) (N := some 33) (v := ?_) (a' := ?_) #[Y,Y,Y,N,N,N,N,N,N,N,N,N] rfl rfl (any_of HT_.out (by kernel_rfl)) (fun _ _ _ h => h) (Or.inl ⟨by rfl, ?_⟩) ?_ ?_
         rotate_left
         ·intro w'
          go_simp
          with_reducible rfl
         rotate_left
         ·simp only [Act.put, pa, pb, pc, i64_w, i32_w]
          rfl
         refine pure_ (i := 3) (N := some 34) (v := ?_) (a' := ?_) #[Y,Y,Y,Y,N,N,N,N,N,N,N,N] rfl rfl (any_of HT_.out (by kernel_rfl)) (fun _ _ _ h => h) (Or.inl ⟨by rfl, ?_⟩) ?_ ?_
         rotate_left
         ·intro w'
          go_simp
          with_reducible rfl
         rotate_left
         ·simp only [Act.put, pa, pb, pc, i64_w, i32_w]
          rfl
         refine pure_ (i := 5) (N := some 36) (v := ?_) (a' := ?_) #[Y,Y,Y,Y,N,Y,N,N,N,N,N,N] rfl rfl (any_of HT_.out (by kernel_rfl)) (fun _ _ _ h => h) (Or.inl ⟨by rfl, ?_⟩) ?_ ?_
         rotate_left
         ·intro w'
          go_simp
          with_reducible rfl
         rotate_left
         ·simp only [Act.put, pa, pb, pc, i64_w, i32_w]
          rfl
         refine pure_ (i := 6) (N := some 37) (v := ?_) (a' := ?_) #[Y,Y,Y,Y,N,Y,Y,N,N,N,N,N] rfl rfl (any_of HT_.out (by kernel_rfl)) (fun _ _ _ h => h) (Or.inl ⟨by rfl, ?_⟩) ?_ ?_
         rotate_left
         ·intro w'
          go_simp
          with_reducible rfl
         rotate_left
         ·simp only [Act.put, pa, pb, pc, i64_w, i32_w]
          rfl
         refine pure_ (i := 7) (N := some 38) (v := ?_) (a' := ?_) #[Y,Y,Y,Y,N,Y,Y,Y,N,N,N,N] rfl rfl (any_of HT_.out (by kernel_rfl)) (fun _ _ _ h => h) (Or.inl ⟨by rfl, ?_⟩) ?_ ?_
         rotate_left
         ·intro w'
          go_simp
          with_reducible rfl
         rotate_left
         ·simp only [Act.put, pa, pb, pc, i64_w, i32_w]
          rfl
         refine take_ (i := 4) (N := some 35) (v := ?_) (a' := ?_) #[Y,Y,Y,Y,Y,Y,Y,Y,N,N,N,N] rfl rfl (take_ofW HT_.out HW_.out (by kernel_rfl)) (fun _ _ _ h => h) (Or.inl ⟨by rfl, ?_⟩) hHeld ?_ ?_
         rotate_left
         ·rintro w' ⟨s0, s1⟩
          go_simp
          with_reducible rfl
         rotate_left
         ·simp only [Act.put, pa, pb, pc, i64_w, i32_w]
          rfl
         refine take_ (i := 8) (N := some 39) (v := ?_) (a' := ?_) #[Y,Y,Y,Y,Y,Y,Y,Y,Y,N,N,N] rfl rfl (take_ofW HT_.out HW_.out (by kernel_rfl)) (fun _ _ _ h => h) (Or.inl ⟨by rfl, ?_⟩) hHeld ?_ ?_
         rotate_left
         ·rintro w' ⟨s0, s1⟩
          go_simp
          with_reducible rfl
         rotate_left
         ·simp only [Act.put, pa, pb, pc, i64_w, i32_w]
          rfl
         refine one_ (i := 9) (N := some 40) #[Y,Y,Y,Y,Y,Y,Y,Y,Y,Y,N,N] rfl rfl (one_of HT_.out (by kernel_rfl)) (by decide) (fun K hK => ?_)
         refine Kd.R_lit_step (Kd.int .i64) _ 2 ?hg (N := 40) ?hd (xs := ([rd t355 x28_1, rd t358 x28_1] : List Int)) (inner := [.int .i64 (rd t355 x28_1), .int .i64 (rd t358 x28_1)]) (ok := fun _ => True) (okp := fun _ => True) ?hr ?hp (fun _ hk => hk) trivial (Below.refl _ _) (Nat.le_refl _) (by simp) ?_; (case hd => rfl); (case hg => rfl); (case hr => first | (go_simp; done) | (go_simp; rfl)); (case hp => exact (Reps.one (show Kd.M (Kd.int .i64) _ _ _ (rd t355 x28_1) [.int .i64 (rd t355 x28_1)] from rfl) (Reps.one (show Kd.M (Kd.int .i64) _ _ _ (rd t358 x28_1) [.int .i64 (rd t358 x28_1)] from rfl) (Reps.none _ _))))
         intro v367 w24 ho25 hb hg_ hnew_
         have HS0_ := (hb.cell (World.block_lt_of_cell? _ _ (hHeld.1))).trans (hHeld.1)
         have HS1_ := (hb.cell (World.block_lt_of_cell? _ _ (hHeld.2))).trans (hHeld.2)
         clear hg_ hnew_
         (first | rw [← Ny366.out] at ho25 | (simp only [Int.reduceToNat] at ho25; rw [← Ny366.out] at ho25))
         have n0_ := aM (rH (by (with_reducible repeat (first | apply rA | apply rN | apply rD)); exact HO_5.out) (rB ho25) hb)
         have n1_ := aM (rH (by (with_reducible repeat (first | apply rA | apply rN | apply rD)); exact HO_6.out) (rB ho25) hb)
         have n2_ := aM (rH (by (with_reducible repeat (first | apply rA | apply rN | apply rD)); exact HO_7.out) (rB ho25) hb)
         have n3_ := aM (rG (rW (rW (rW ho25 (rT (by (with_reducible repeat (first | apply rA | apply rN | apply rD)); exact HO_5.out))) (rT (by (with_reducible repeat (first | apply rA | apply rN | apply rD)); exact HO_6.out))) (rT (by (with_reducible repeat (first | apply rA | apply rN | apply rD)); exact HO_7.out))) (bZ (by repeat (first | exact HB.out | apply bA | apply bN | apply bD))))
         have n4_ := aM (bT (by repeat (first | exact HB.out | apply bA | apply bN | apply bD)) hb)
         clear HO_5
         clear HO_6
         clear HO_7
         clear HB
         have HO_5 := n0_
         have HO_6 := n1_
         have HO_7 := n2_
         have HO368 := n3_
         have HB := n4_
         clear n0_ n1_ n2_ n3_ n4_
         clear hb ho25
         obtain ⟨Ao27, co27, eo27⟩ := Kd.R_slice HO368.out
         (first | subst eo27 | (injection eo27 with f1_ f2_ f3_; have f4_ := f1_.symm; have f5_ := f3_.symm; clear f1_ f2_ f3_; subst f4_; subst f5_))
         refine hK.out _ _ ⟨HS0_, HS1_⟩ (fun hHeld => ?_)
         clear hK K
         refine norm_ (a' := ?_) ?_ ?_
         rotate_left
         ·show Act.put _ (some 40) _ = _
          simp only [Act.put, pa, pb, pc, i64_w, i32_w]
          rfl
         refine last_ (i := 10) (N := some 41) #[Y,Y,Y,Y,Y,Y,Y,Y,Y,Y,Y,N] rfl rfl (one_of HT_.out (by kernel_rfl)) (by decide) (fun K hK => ?_)
         refine Kd.R_append_rows_step (Kd.int .i64) (w0 := w) w.heap.size (by rfl) (.tmp 31) (.tmp 40) 22 2 (.int .i64 0) 8 rfl Try.underlying22 info2 rfl (by decide) (by omega) u7 x7_1 y366 _ _ _ (fun k_ => some k_ ≠ (.slice (some ad364) t355.length co16 : Value).ownBlock ∧ some k_ ≠ (.slice (some ad365) t358.length co23 : Value).ownBlock ∧ some k_ ≠ (.slice Ao27 y366.length co27 : Value).ownBlock) (fun _ => False) rfl rfl ?aO ?aR (fun _ _ h => h) (fun _ h => h.elim) ?aF ?aB ?aS ?aL ?_
         (case aR => repeat (first | exact (rR HO368.out).2.2 | (with_reducible refine cA ?_ _) | (with_reducible refine cN ?_ _) | (with_reducible refine cD ?_)))
         (case aB => exact (by repeat (first | exact HB.out | apply bA | apply bN | apply bD)))
         (case aF => exact (fun k_ hk => ⟨Kd.fresh' (rT (by (with_reducible repeat (first | apply rA | apply rN | apply rD)); exact HO_5.out)) k_ hk, Kd.fresh' (rT (by (with_reducible repeat (first | apply rA | apply rN | apply rD)); exact HO_6.out)) k_ hk, Kd.fresh' (rT (by (with_reducible repeat (first | apply rA | apply rN | apply rD)); exact HO368.out)) k_ hk⟩))
         (case aO => exact (by (with_reducible repeat (first | apply rA | apply rN | apply rD)); exact rM HO_7.out (fun _ hk => ⟨hk.1.1, ⟨hk.1.2, hk.2⟩⟩)))
         (case aS => exact (bZ (by repeat (first | exact HB.out | apply bA | apply bN | apply bD))))
         (case aL => have := LMc21.out; omega)
         intro v370 w26 ho hb hg hat
         rw [← Ny369.out] at ho
         have n0_ := aM (Kd.R_after (ok := (fun k_ => some k_ ≠ (.slice (some ad365) t358.length co23 : Value).ownBlock ∧ some k_ ≠ (.slice Ao27 y366.length co27 : Value).ownBlock)) (by (with_reducible repeat (first | apply rA | apply rN | apply rD)); exact rM HO_5.out (fun _ hk => ⟨⟨hk.1.1, hk.2⟩, hk.1.2⟩)) hg hat)
         have n1_ := aM (Kd.R_after (ok := (fun k_ => some k_ ≠ (.slice (some ad364) t355.length co16 : Value).ownBlock ∧ some k_ ≠ (.slice Ao27 y366.length co27 : Value).ownBlock)) (by (with_reducible repeat (first | apply rA | apply rN | apply rD)); exact rM HO_6.out (fun _ hk => ⟨⟨hk.1.1, hk.2⟩, hk.1.2⟩)) hg hat)
         have n2_ := aM (Kd.R_after (ok := (fun k_ => some k_ ≠ (.slice (some ad364) t355.length co16 : Value).ownBlock ∧ some k_ ≠ (.slice (some ad365) t358.length co23 : Value).ownBlock)) (by (with_reducible repeat (first | apply rA | apply rN | apply rD)); exact rM HO368.out (fun _ hk => ⟨⟨hk.1.1.2, hk.1.2⟩, hk.2⟩)) hg hat)
         have n3_ := aM (hb)
         have n4_ := aM (ho)
         clear HO_5
         clear HO_6
         clear HO368
         clear HB
         clear HO_7
         have HO_5 := n0_
         have HO_6 := n1_
         have HO368 := n2_
         have HB := n3_
         have HO371 := n4_
         clear n0_ n1_ n2_ n3_ n4_
         clear ho hb hg hat
         refine hK.out _ _ ?_
         clear hK K
         refine norm_ (a' := ?_) ?_ ?_
         rotate_left
         ·show Act.put _ (some 41) _ = _
          simp only [Act.put, pa, pb, pc, i64_w, i32_w]
          rfl
         refine pure_ (i := 11) (N := some 7) (v := ?_) (a' := ?_) #[Y,Y,Y,Y,Y,Y,Y,Y,Y,Y,Y,Y] rfl rfl (any_of HT_.out (by kernel_rfl)) (fun _ _ _ h => h) (Or.inl ⟨by rfl, ?_⟩) ?_ ?_
         rotate_left
         ·intro w'
          go_simp
          with_reducible rfl
         rotate_left
         ·simp only [Act.put, pa, pb, pc, i64_w, i32_w]
          rfl
         refine done_ (done_of HT_.out (by kernel_rfl)) ?_
         try go_wp2
         go_roundg k1
         case measure => have := HK1.out; omega
         case rel => exact ⟨(y369), (wrap64 (x28_1 + 1)), (by first | rfl | (simp; done) | (simp [*]; done)), H', ⟨by have := HK1.out; omega⟩, ⟨by (with_reducible repeat (first | apply rA | apply rN | apply rD)); exact rM HO_5.out (fun _ hk => ⟨hk.1.1, hk.2⟩)⟩, ⟨by (with_reducible repeat (first | apply rA | apply rN | apply rD)); exact rM HO_6.out (fun _ hk => ⟨hk.1.1, hk.2⟩)⟩, ⟨by (with_reducible repeat (first | apply rA | apply rN | apply rD)); exact rM HO371.out (fun _ hk => ⟨hk.1, hk.2.1⟩)⟩, ⟨by repeat (first | (with_reducible first | exact HB.out | apply bA | apply bN | apply bD) | exact HB.out)⟩⟩
        ·rw [if_neg c21] at H
         exact absurd H (by simp)
       ·rw [if_neg c20] at H
        exact absurd H (by simp)
      ·rw [if_neg c19] at H
       exact absurd H (by simp)
     ·rw [if_neg c18] at H
      exact absurd H (by simp)
    ·rw [if_neg c17] at H
     have c17b0 : decide (x28_1 < (t355.length : Int)) = false := decide_eq_false c17
     clear c17
     obtain rfl := Option.some.inj H
     go_wp2
     go_ret
     exact ⟨_, by first | rfl | (simp [errW_none, errW_some] <;> rfl) | (simp [*, errW_none, errW_some] <;> rfl), by (with_reducible repeat (first | apply rA | apply rN | apply rD)); exact rM HO_7.out (fun _ hk => trivial), by repeat (first | (with_reducible first | exact HB.out | apply bA | apply bN | apply bD) | exact HB.out)⟩

end Go.Proofs.Ytmhnpogjkbmmnaa.PFnExactFeedFrame
