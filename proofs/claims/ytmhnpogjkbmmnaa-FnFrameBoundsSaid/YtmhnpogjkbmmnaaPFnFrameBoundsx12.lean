-- Written by a program of this session: wip/mkprint.py over the kit's print, with contracts proved by hand (wip/given.py)
-- told shortest
-- told shorter still
-- shortened
-- told short
-- worlds by letters
-- squeezed
import Derived.Test.YtmhnpogjkbmmnaaPFnFrameBoundsx0
import Derived.Test.YtmhnpogjkbmmnaaPFnFrameBoundsx5
import Derived.Test.YtmhnpogjkbmmnaaPFnFrameBoundsx10
namespace Go.Proofs.Ytmhnpogjkbmmnaa.PFnFrameBounds
open Go.RowKit Go.Proofs.YtmhnpogjkbmmnaaW.PrintWords Go.Proofs.YtmhnpogjkbmmnaaW.PrintLast Go.Proofs.YtmhnpogjkbmmnaaW.PrintMore
open Go.Proofs.YtmhnpogjkbmmnaaW.PrintWords.Kd renaming R_lower → rG, R_reads' → rR
open Go.Proofs.YtmhnpogjkbmmnaaW.PrintWords renaming pw_below_drewN → bN, below_drew1 → bD, below_step → bT, below_size → bZ, blk_cell → kC, blk_frozen → kF
open Go.Proofs.YtmhnpogjkbmmnaaW.PrintWords.Aside0 renaming mk → aM
attribute [local go_sem] max2_int min2_int max_two min_two max_three min_three max_four min_four   -- for this text's walks alone
set_option linter.unusedVariables false
set_option linter.unusedSimpArgs false

/-! ### impl_gatherFault: function 68 -/
def impl_gatherFault.f (k : Nat) (l0 : List Int) : Option (Int) := (impl_isBlock.f l0).bind fun t415 => ((impl_codeIf.f (!t415) 2).bind fun t416 => ((impl_allWithin.f l0 16777216).bind fun t417 => ((impl_codeIf.f (!t417) 3).bind fun t418 => ((impl_first.f k (([t416, t418] : List Int))).bind fun t422 => (some t422)))))
theorem impl_gatherFault.mono : ∀ a0 k, LeO (impl_gatherFault.f k a0) (impl_gatherFault.f (k + 1) a0) := by
 intro a0 k
 unfold impl_gatherFault.f
 repeat' first
   | (with_reducible exact impl_first.mono _ _)
   | (with_reducible exact LeO.refl _)
   | (with_reducible exact LeO.none _)
   | (with_reducible refine LeO.ite ?_ ?_)
   | (with_reducible refine LeO.bind ?_ (fun _ => ?_))
   | exact impl_first.mono _ _
   | exact LeO.none _
   | refine LeO.ite ?_ ?_
   | refine LeO.bind ?_ (fun _ => ?_)
set_option maxHeartbeats 8000000 in
set_option maxRecDepth 100000 in
theorem impl_gatherFault.calls (k : Nat) (A0 : Option Addr) (c0 : Nat) (l0 : List Int) (r : Int) (w : World) (hr0 : Kd.C (Kd.int .i64) w A0 l0.length l0) (hc0 : l0.length ≤ c0) (h : impl_gatherFault.f k l0 = some r) :
  Calls Try.prog 68 #[.slice A0 l0.length c0] w fun e w' => e = .returned (.int .i64 r) ∧ Below w.heap.size w w' := by
 have HR0 := aM hr0
 have HC0 := aM hc0
 clear hr0 hc0
 have HB := aM (Below.refl w.heap.size w)
 have H : ((impl_isBlock.f l0).bind fun t415 => ((impl_codeIf.f (!t415) 2).bind fun t416 => ((impl_allWithin.f l0 16777216).bind fun t417 => ((impl_codeIf.f (!t417) 3).bind fun t418 => ((impl_first.f k (([t416, t418] : List Int))).bind fun t422 => (some t422)))))) = some r := h
 clear h
 replace H := Option.bind_eq_some_iff.mp H
 obtain ⟨t415, A20, H⟩ := H
 replace H : ((impl_codeIf.f (!t415) 2).bind fun t416 => ((impl_allWithin.f l0 16777216).bind fun t417 => ((impl_codeIf.f (!t417) 3).bind fun t418 => ((impl_first.f k (([t416, t418] : List Int))).bind fun t422 => (some t422))))) = some r := H
 have A2 := aM A20
 clear A20
 replace H := Option.bind_eq_some_iff.mp H
 obtain ⟨t416, A30, H⟩ := H
 replace H : ((impl_allWithin.f l0 16777216).bind fun t417 => ((impl_codeIf.f (!t417) 3).bind fun t418 => ((impl_first.f k (([t416, t418] : List Int))).bind fun t422 => (some t422)))) = some r := H
 have A3 := aM A30
 clear A30
 replace H := Option.bind_eq_some_iff.mp H
 obtain ⟨t417, A40, H⟩ := H
 replace H : ((impl_codeIf.f (!t417) 3).bind fun t418 => ((impl_first.f k (([t416, t418] : List Int))).bind fun t422 => (some t422))) = some r := H
 have A4 := aM A40
 clear A40
 replace H := Option.bind_eq_some_iff.mp H
 obtain ⟨t418, A50, H⟩ := H
 replace H : ((impl_first.f k (([t416, t418] : List Int))).bind fun t422 => (some t422)) = some r := H
 have A5 := aM A50
 clear A50
 obtain ⟨y419, hy419⟩ : ∃ y_ : List Int, y_ = (([t416, t418] : List Int)) := ⟨_, rfl⟩
 replace H : ((impl_first.f k y419).bind fun t422 => (some t422)) = some r := by first | (rw [hy419]; with_reducible exact H) | (have H2_ := (Option.bind_some _ _).symm.trans H; rw [hy419]; with_reducible exact H2_) | (have H2_ := (Option.bind_some _ _).symm.trans H; with_reducible exact H2_) | with_reducible exact H | (rw [hy419]; exact H) | exact H
 have Ny419 := aM hy419
 clear hy419
 replace H := Option.bind_eq_some_iff.mp H
 obtain ⟨t422, A60, H⟩ := H
 replace H : (some t422) = some r := H
 have A6 := aM A60
 clear A60
 obtain rfl := Option.some.inj H
 go_enter Try.func68, Try.ntmps68
 go_wp2_with (first | ((with_reducible refine gate_callee (f := 106) rfl ?_); refine goesL_ (some 4) rfl rfl Try.func106 kr rfl #[.slice A0 l0.length c0] rfl mq ?_; (with_reducible refine (impl_isBlock.calls _ _ l0 t415 _ ?side1 ?side2 A2.out).mono ?_); (case side1 => exact cq HR0.out); (case side2 => exact HC0.out); rintro e w' ⟨rfl, ⟨nd, rfl⟩⟩; refine ⟨_, rfl, ?_⟩) | ((with_reducible refine gate_callee (f := 56) rfl ?_); refine goesL_ (some 6) rfl rfl Try.func56 kr rfl #[.bool (!t415), .int .i64 2] rfl mq ?_; (with_reducible refine (impl_codeIf.calls (!t415) 2 t416 _ A3.out).mono ?_); rintro e w' ⟨rfl, ⟨nd, rfl⟩⟩; refine ⟨_, rfl, ?_⟩) | ((with_reducible refine gate_callee (f := 87) rfl ?_); refine goesL_ (some 8) rfl rfl Try.func87 kr rfl #[.slice A0 l0.length c0, .int .i64 16777216] rfl mq ?_; (with_reducible refine (impl_allWithin.calls _ _ l0 16777216 t417 _ ?side1 ?side2 A4.out).mono ?_); (case side1 => exact cq HR0.out); (case side2 => exact HC0.out); rintro e w7 ⟨rfl, hb⟩; refine ⟨_, rfl, ?_⟩; replace HB := aM (bT bq hb); (try clear hb)) | ((with_reducible refine gate_callee (f := 56) rfl ?_); refine goesL_ (some 10) rfl rfl Try.func56 kr rfl #[.bool (!t417), .int .i64 3] rfl mq ?_; (with_reducible refine (impl_codeIf.calls (!t417) 3 t418 _ A5.out).mono ?_); rintro e w' ⟨rfl, ⟨nd, rfl⟩⟩; refine ⟨_, rfl, ?_⟩) | ((with_reducible refine gate_dst (N := 11) rfl ?_); refine Kd.R_lit (Kd.int .i64) _ 2 ?hg (N := 11) ?hd (xs := ([t416, t418] : List Int)) (inner := [.int .i64 t416, .int .i64 t418]) (ok := fun _ => True) (okp := fun _ => True) ?hr ?hp (fun _ hk => hk) trivial (Below.refl _ _) (Nat.le_refl _) (by simp) ?_; (case hd => rfl); (case hg => rfl); (case hr => first | (go_simp; done) | (go_simp; rfl)); (case hp => exact (Reps.one (show Kd.M (Kd.int .i64) _ _ _ t416 [.int .i64 t416] from rfl) (Reps.one (show Kd.M (Kd.int .i64) _ _ _ t418 [.int .i64 t418] from rfl) (Reps.none _ _)))); intro v420 w8 ho9 hb hg_ hnew_; clear hg_ hnew_; (first | rw [← Ny419.out] at ho9 | (simp only [Int.reduceToNat] at ho9; rw [← Ny419.out] at ho9)); have HO421 := aM (rG ho9 (bZ bq)); replace HB := aM (bT bq hb); clear hb ho9; obtain ⟨Ao10, co10, eo10⟩ := Kd.R_slice HO421.out; subst eo10) | ((with_reducible refine gate_callee (f := 54) rfl ?_); refine goesL_ (some 12) rfl rfl Try.func54 kr rfl #[.slice Ao10 y419.length co10] rfl mq ?_; (with_reducible refine (impl_first.calls k _ _ y419 t422 _ ?side1 ?side2 A6.out).mono ?_); (case side1 => exact cq (rR HO421.out).2.2); (case side2 => exact (rR HO421.out).2.1); rintro e w' ⟨rfl, ⟨nd, rfl⟩⟩; refine ⟨_, rfl, ?_⟩))
 go_ret
 exact ⟨ew, bq⟩

/-! ### impl_tenOf: function 120 -/
def impl_tenOf.f (a0 : Int) : Option (Int) := some ((wrap64 (a0 + 512)) / 1024)
set_option maxHeartbeats 8000000 in
set_option maxRecDepth 100000 in
theorem impl_tenOf.calls (a0 : Int) (r : Int) (w : World) (h : impl_tenOf.f a0 = some r) :
  Calls Try.prog 120 #[.int .i64 a0] w fun e w' => e = .returned (.int .i64 r) ∧ Drawn0 w w' := by
 have H : (some ((wrap64 (a0 + 512)) / 1024)) = some r := h
 clear h
 obtain rfl := Option.some.inj H
 go_enter Try.func120, Try.ntmps120
 go_wp2
 go_ret
 exact ⟨ex, by repeat (first | exact Drawn0.refl _ | apply Drawn0.step)⟩

/-! ### impl_turn_back: function 116 -/
def impl_turn_back.f (a0_0 : Int) (a0_1 : Int) (a1 : Int) (a2 : Int) : Option (Int × Int) := (impl_tenOf.f (wrap64 (a0_0 * a2))).bind fun t424 => ((impl_tenOf.f (wrap64 (a0_1 * (wrap64 (a1 + t424))))).bind fun t425 => ((impl_tenOf.f (wrap64 (a0_0 * (wrap64 (a2 - t425))))).bind fun t426 => (some (wrap64 ((wrap64 (a1 + t424)) + t426), wrap64 (a2 - t425)))))
set_option maxHeartbeats 8000000 in
set_option maxRecDepth 100000 in
theorem impl_turn_back.calls (a0_0 : Int) (a0_1 : Int) (a1 : Int) (a2 : Int) (r1 : Int) (r2 : Int) (w : World) (h : impl_turn_back.f a0_0 a0_1 a1 a2 = some (r1, r2)) :
  Calls Try.prog 116 #[.agg #[.int .i64 a0_0, .int .i64 a0_1], .int .i64 a1, .int .i64 a2] w fun e w' => e = .returned (.tuple #[.int .i64 r1, .int .i64 r2]) ∧ Below w.heap.size w w' := by
 have hu108 := Try.underlying108
 have HB := aM (Below.refl w.heap.size w)
 have H : ((impl_tenOf.f (wrap64 (a0_0 * a2))).bind fun t424 => ((impl_tenOf.f (wrap64 (a0_1 * (wrap64 (a1 + t424))))).bind fun t425 => ((impl_tenOf.f (wrap64 (a0_0 * (wrap64 (a2 - t425))))).bind fun t426 => (some (wrap64 ((wrap64 (a1 + t424)) + t426), wrap64 (a2 - t425)))))) = some (r1, r2) := h
 clear h
 replace H := Option.bind_eq_some_iff.mp H
 obtain ⟨t424, A40, H⟩ := H
 replace H : ((impl_tenOf.f (wrap64 (a0_1 * (wrap64 (a1 + t424))))).bind fun t425 => ((impl_tenOf.f (wrap64 (a0_0 * (wrap64 (a2 - t425))))).bind fun t426 => (some (wrap64 ((wrap64 (a1 + t424)) + t426), wrap64 (a2 - t425))))) = some (r1, r2) := H
 have A4 := aM A40
 clear A40
 replace H := Option.bind_eq_some_iff.mp H
 obtain ⟨t425, A50, H⟩ := H
 replace H : ((impl_tenOf.f (wrap64 (a0_0 * (wrap64 (a2 - t425))))).bind fun t426 => (some (wrap64 ((wrap64 (a1 + t424)) + t426), wrap64 (a2 - t425)))) = some (r1, r2) := H
 have A5 := aM A50
 clear A50
 replace H := Option.bind_eq_some_iff.mp H
 obtain ⟨t426, A60, H⟩ := H
 replace H : (some (wrap64 ((wrap64 (a1 + t424)) + t426), wrap64 (a2 - t425))) = some (r1, r2) := H
 have A6 := aM A60
 clear A60
 simp only [Option.some.injEq, Prod.mk.injEq] at H
 obtain ⟨rfl, rfl⟩ := H
 go_enter Try.func116, Try.ntmps116
 go_wp2_with (first | ((with_reducible refine gate_dst (N := 3) rfl ?_); refine box_event ?hg (N := 3) ?hd (cs := #[.int .i64 a0_0, .int .i64 a0_1]) (t := 108) ?hr ?_; (case hd => rfl); (case hg => rfl); (case hr => first | (go_simp; done) | (go_simp; rfl)); intro gb423 hg w7 hbox hb; have BK423 := aM (hbox); have GW423 := aM ((by rw [hg]; exact (bZ bq) : w.heap.size ≤ gb423)); have GE423 := aM ((by rw [hg]; exact (bZ bq) : w.heap.size ≤ gb423)); replace HB := aM (bT bq hb); clear hb hbox hg; have hcz8_0 : w7.cell? ⟨gb423, 0, none⟩ = some (.int .i64 a0_0) := (kC BK423.out 0).trans rfl; have hcz8_1 : w7.cell? ⟨gb423, 1, none⟩ = some (.int .i64 a0_1) := (kC BK423.out 1).trans rfl; have hfz8_0 := kF BK423.out 0; have hfz8_1 := kF BK423.out 1) | ((with_reducible refine gate_callee (f := 120) rfl ?_); refine goesL_ (some 13) rfl rfl Try.func120 kr rfl #[.int .i64 (wrap64 (a0_0 * a2))] rfl mq ?_; (with_reducible refine (impl_tenOf.calls (wrap64 (a0_0 * a2)) t424 _ A4.out).mono ?_); rintro e w' ⟨rfl, ⟨nd, rfl⟩⟩; refine ⟨_, rfl, ?_⟩) | ((with_reducible refine gate_callee (f := 120) rfl ?_); refine goesL_ (some 20) rfl rfl Try.func120 kr rfl #[.int .i64 (wrap64 (a0_1 * (wrap64 (a1 + t424))))] rfl mq ?_; (with_reducible refine (impl_tenOf.calls (wrap64 (a0_1 * (wrap64 (a1 + t424)))) t425 _ A5.out).mono ?_); rintro e w' ⟨rfl, ⟨nd, rfl⟩⟩; refine ⟨_, rfl, ?_⟩) | ((with_reducible refine gate_callee (f := 120) rfl ?_); refine goesL_ (some 27) rfl rfl Try.func120 kr rfl #[.int .i64 (wrap64 (a0_0 * (wrap64 (a2 - t425))))] rfl mq ?_; (with_reducible refine (impl_tenOf.calls (wrap64 (a0_0 * (wrap64 (a2 - t425)))) t426 _ A6.out).mono ?_); rintro e w' ⟨rfl, ⟨nd, rfl⟩⟩; refine ⟨_, rfl, ?_⟩))
 go_ret2
 exact ⟨ew, bq⟩

/-! ### impl_samples_1: function 115 -/
def impl_samples_1.f (a0 : Int) (a1 : Int) (a2 : Int) (a3 : Int) : Option (Int × Int) := (impl_turnOf.f a0 a1).bind fun bt427 => ((impl_turn_back.f bt427.1 bt427.2 a2 a3).bind fun bt429 => (some (bt429.1, bt429.2)))
set_option maxHeartbeats 8000000 in
set_option maxRecDepth 100000 in
theorem impl_samples_1.calls (a0 : Int) (a1 : Int) (a2 : Int) (a3 : Int) (r1 : Int) (r2 : Int) (w : World) (h : impl_samples_1.f a0 a1 a2 a3 = some (r1, r2)) :
  Calls Try.prog 115 #[.int .i64 a0, .int .i64 a1, .int .i64 a2, .int .i64 a3] w fun e w' => e = .returned (.tuple #[.int .i64 r1, .int .i64 r2]) ∧ Below w.heap.size w w' := by
 have HB := aM (Below.refl w.heap.size w)
 have H : ((impl_turnOf.f a0 a1).bind fun bt427 => ((impl_turn_back.f bt427.1 bt427.2 a2 a3).bind fun bt429 => (some (bt429.1, bt429.2)))) = some (r1, r2) := h
 clear h
 replace H := Option.bind_eq_some_iff.mp H
 obtain ⟨⟨t427, t428⟩, A50, H⟩ := H
 replace H : ((impl_turn_back.f t427 t428 a2 a3).bind fun bt429 => (some (bt429.1, bt429.2))) = some (r1, r2) := H
 have A5 := aM A50
 clear A50
 replace H := Option.bind_eq_some_iff.mp H
 obtain ⟨⟨t429, t430⟩, A60, H⟩ := H
 replace H : (some (t429, t430)) = some (r1, r2) := H
 have A6 := aM A60
 clear A60
 simp only [Option.some.injEq, Prod.mk.injEq] at H
 obtain ⟨rfl, rfl⟩ := H
 go_enter Try.func115, Try.ntmps115
 go_wp2_with (first | ((with_reducible refine gate_callee (f := 78) rfl ?_); refine goesL_ (some 12) rfl rfl Try.func78 kr rfl #[.int .i64 a0, .int .i64 a1] rfl mq ?_; (with_reducible refine (impl_turnOf.calls a0 a1 t427 t428 _ A5.out).mono ?_); rintro e w7 ⟨rfl, hb⟩; refine ⟨_, rfl, ?_⟩; replace HB := aM (bT bq hb); (try clear hb)) | ((with_reducible refine gate_callee (f := 116) rfl ?_); refine goesL_ (some 15) rfl rfl Try.func116 kr rfl #[.agg #[.int .i64 t427, .int .i64 t428], .int .i64 a2, .int .i64 a3] rfl mq ?_; (with_reducible refine (impl_turn_back.calls t427 t428 a2 a3 t429 t430 _ A6.out).mono ?_); rintro e w8 ⟨rfl, hb⟩; refine ⟨_, rfl, ?_⟩; replace HB := aM (bT bq hb); (try clear hb)))
 go_ret2
 exact ⟨ew, bq⟩
theorem ok4_samples_1 (w : World) : FnOK4 115 #[] impl_samples_1.f w :=
 ⟨fun args w => enters_ Try.func115 kr rfl args w, fun W _ a b c d r1 r2 h => impl_samples_1.calls a b c d r1 r2 W h⟩

/-! ### impl_part: function 117 -/
def impl_part.f (a0 : Int) (a1 : Int) : Option (Int × Int) := (impl_floorDiv.f a1 2).bind fun t431 => (some (wrap64 ((wrap64 (a0 - t431)) + a1), wrap64 (a0 - t431)))
set_option maxHeartbeats 8000000 in
set_option maxRecDepth 100000 in
theorem impl_part.calls (a0 : Int) (a1 : Int) (r1 : Int) (r2 : Int) (w : World) (h : impl_part.f a0 a1 = some (r1, r2)) :
  Calls Try.prog 117 #[.int .i64 a0, .int .i64 a1] w fun e w' => e = .returned (.tuple #[.int .i64 r1, .int .i64 r2]) ∧ Below w.heap.size w w' := by
 have HB := aM (Below.refl w.heap.size w)
 have H : ((impl_floorDiv.f a1 2).bind fun t431 => (some (wrap64 ((wrap64 (a0 - t431)) + a1), wrap64 (a0 - t431)))) = some (r1, r2) := h
 clear h
 replace H := Option.bind_eq_some_iff.mp H
 obtain ⟨t431, A30, H⟩ := H
 replace H : (some (wrap64 ((wrap64 (a0 - t431)) + a1), wrap64 (a0 - t431))) = some (r1, r2) := H
 have A3 := aM A30
 clear A30
 simp only [Option.some.injEq, Prod.mk.injEq] at H
 obtain ⟨rfl, rfl⟩ := H
 go_enter Try.func117, Try.ntmps117
 go_wp2_with (first | ((with_reducible refine gate_callee (f := 144) rfl ?_); refine goesL_ (some 9) rfl rfl Try.func144 kr rfl #[.int .i64 a1, .int .i64 2] rfl mq ?_; (with_reducible refine (impl_floorDiv.calls a1 2 t431 _ A3.out).mono ?_); rintro e w' ⟨rfl, ⟨nd, rfl⟩⟩; refine ⟨_, rfl, ?_⟩))
 go_ret2
 exact ⟨ew, bq⟩
theorem ok2_part (w : World) : FnOK2 117 #[] impl_part.f w :=
 ⟨fun args w => enters_ Try.func117 kr rfl args w, fun W _ a b r1 r2 h => impl_part.calls a b r1 r2 W h⟩

/-! ### impl_samples: function 69 -/
def impl_samples.f : Option Unit := some ()
set_option maxHeartbeats 8000000 in
set_option maxRecDepth 100000 in
theorem impl_samples.calls (w : World) (h : impl_samples.f = some ()) :
  Calls Try.prog 69 #[] w fun e w' => e = .returned (.agg #[.func (.func 115) #[] #[], .func (.func 117) #[] #[]]) ∧ Below w.heap.size w w' := by
 have hu94 := Try.underlying94
 go_enter Try.func69, Try.ntmps69
 go_wp2
 exact bodyPost_ret (v := .agg #[.func (.func 115) #[] #[], .func (.func 117) #[] #[]]) (by simp [results, Try.results69, go_sem]) rfl ⟨rfl, (Below.refl _ _).alloc (Nat.le_refl _) _⟩

/-! ### impl_PlayBlock_1: function 70 -/
set_option maxHeartbeats 8000000 in
set_option maxRecDepth 100000 in
theorem impl_PlayBlock_1.calls (B0 B1 g : Nat) (lb : Array Value) (S : Int → Int → Int → Int → Option (Int × Int)) (sz n a b r1 r2 : Int) (w : World) (hc0 : w.cell? ⟨B0, 0, none⟩ = some (.func (.func g) #[] lb)) (hc1 : w.cell? ⟨B1, 0, none⟩ = some (.int .i64 sz)) (hS : FnOK4 g lb S w) (h : S sz n a b = some (r1, r2)) :
  Calls Try.prog 70 #[.int .i64 n, .int .i64 a, .int .i64 b, .pointer (some ⟨B0, 0, none⟩), .pointer (some ⟨B1, 0, none⟩)] w fun e w' => e = .returned (.tuple #[.int .i64 r1, .int .i64 r2]) ∧ Below w.heap.size w w' := by
 have hen := hS.en
 have hcall : ∀ q : Nat, Calls Try.prog g (#[.int .i64 sz, .int .i64 n, .int .i64 a, .int .i64 b] ++ lb) (w.drewN q) fun e w' => e = .returned (.tuple #[.int .i64 r1, .int .i64 r2]) ∧ Below (w.drewN q).heap.size (w.drewN q) w' := fun q => hS.calls (bN (Below.refl _ _) q) sz n a b r1 r2 h
 have hcall0 : Calls Try.prog g (#[.int .i64 sz, .int .i64 n, .int .i64 a, .int .i64 b] ++ lb) w fun e w' => e = .returned (.tuple #[.int .i64 r1, .int .i64 r2]) ∧ Below w.heap.size w w' := hS.calls (Below.refl _ _) sz n a b r1 r2 h
 clear hS h
 go_enter Try.func70, Try.ntmps70
 go_wp2_with ((first | with_reducible refine hcall0.mono ?_ | with_reducible refine (hcall _).mono ?_); rintro e w1 ⟨rfl, hb⟩; have HB := aM hb; clear hb)
 go_ret2
 exact ⟨rfl, bq⟩
theorem ok3_PlayBlock_1 (B0 B1 g : Nat) (lb : Array Value) (S : Int → Int → Int → Int → Option (Int × Int)) (sz : Int) (w : World) (hc0 : w.cell? ⟨B0, 0, none⟩ = some (.func (.func g) #[] lb)) (hc1 : w.cell? ⟨B1, 0, none⟩ = some (.int .i64 sz)) (hS : FnOK4 g lb S w) :
  FnOK3 70 #[.pointer (some ⟨B0, 0, none⟩), .pointer (some ⟨B1, 0, none⟩)] (S sz) w :=
 ⟨fun args w => enters_ Try.func70 kr rfl args w, fun W hb a b c r1 r2 h => impl_PlayBlock_1.calls B0 B1 g lb S sz a b c r1 r2 W (by rw [hb.cell (World.block_lt_of_cell? w _ hc0)]; exact hc0) (by rw [hb.cell (World.block_lt_of_cell? w _ hc1)]; exact hc1) (hS.later hb) h⟩

end Go.Proofs.Ytmhnpogjkbmmnaa.PFnFrameBounds
