-- Written by a program of this session: wip/mkprint.py over the kit's print, with contracts proved by hand (wip/given.py)
-- shortest of all
-- told shortest
-- told shorter still
-- shortened
-- told short
-- worlds by letters
-- squeezed
import Derived.Test.YtmhnpogjkbmmnaaPFnLapsx0
import Derived.Test.YtmhnpogjkbmmnaaPFnLapsx1
import Derived.Test.YtmhnpogjkbmmnaaPFnLapsx5
import Derived.Test.YtmhnpogjkbmmnaaPFnLapsx7
namespace Go.Proofs.Ytmhnpogjkbmmnaa.PFnLaps
open Go.RowKit Go.Proofs.YtmhnpogjkbmmnaaW.PrintWords Go.Proofs.YtmhnpogjkbmmnaaW.PrintLast Go.Proofs.YtmhnpogjkbmmnaaW.PrintMore
open Go.Proofs.YtmhnpogjkbmmnaaW.PrintWords.Kd renaming R_lower → rG, R_reads' → rR
open Go.Proofs.YtmhnpogjkbmmnaaW.PrintWords renaming pw_below_drewN → bN, below_drew1 → bD, below_step → bT, below_size → bZ, blk_cell → kC, blk_frozen → kF
open Go.Proofs.YtmhnpogjkbmmnaaW.PrintWords.Aside0 renaming mk → aM
attribute [local go_sem] max2_int min2_int max_two min_two max_three min_three max_four min_four   -- for this text's walks alone
set_option linter.unusedVariables false
set_option linter.unusedSimpArgs false

/-! ### impl_SamplesFault: function 76 -/
def impl_SamplesFault.f (k : Nat) (a0 : Int) (l1 : List Int) : Option (Int) := (impl_SizeFault.f a0).bind fun t288 => ((impl_codeIf.f ((l1.length : Int) != a0) 2).bind fun t289 => ((impl_areSamples.f l1).bind fun t290 => ((impl_codeIf.f (!t290) 3).bind fun t291 => ((impl_first.f k (([t288, t289, t291] : List Int))).bind fun t295 => (some t295)))))
theorem impl_SamplesFault.mono : ∀ a0 a1 k, LeO (impl_SamplesFault.f k a0 a1) (impl_SamplesFault.f (k + 1) a0 a1) := by
 intro a0 a1 k
 unfold impl_SamplesFault.f
 repeat' first
   | (with_reducible exact impl_first.mono _ _)
   | (with_reducible exact LeO.refl _)
   | (with_reducible exact LeO.none _)
   | (with_reducible refine LeO.ite ?_ ?_)
   | (with_reducible refine LeO.bind ?_ (fun _ => ?_))
   | exact impl_first.mono _ _
   | exact LeO.none _
   | refine LeO.ite ?_ ?_
   | refine LeO.bind ?_ (fun _ => ?_)
set_option maxHeartbeats 8000000 in
set_option maxRecDepth 100000 in
theorem impl_SamplesFault.calls (k : Nat) (a0 : Int) (A1 : Option Addr) (c1 : Nat) (l1 : List Int) (r : Int) (w : World) (hr1 : Kd.C (Kd.int .i64) w A1 l1.length l1) (hc1 : l1.length ≤ c1) (h : impl_SamplesFault.f k a0 l1 = some r) :
  Calls Try.prog 76 #[.int .i64 a0, .slice A1 l1.length c1] w fun e w' => e = .returned (.int .i64 r) ∧ Below w.heap.size w w' := by
 have HR1 := aM hr1
 have HC1 := aM hc1
 clear hr1 hc1
 have HB := aM (Below.refl w.heap.size w)
 have H : ((impl_SizeFault.f a0).bind fun t288 => ((impl_codeIf.f ((l1.length : Int) != a0) 2).bind fun t289 => ((impl_areSamples.f l1).bind fun t290 => ((impl_codeIf.f (!t290) 3).bind fun t291 => ((impl_first.f k (([t288, t289, t291] : List Int))).bind fun t295 => (some t295)))))) = some r := h
 clear h
 replace H := bo H
 obtain ⟨t288, A3, H⟩ := H
 replace H := bz H
 replace H := bo H
 obtain ⟨t289, A4, H⟩ := H
 replace H := bz H
 replace H := bo H
 obtain ⟨t290, A5, H⟩ := H
 replace H := bz H
 replace H := bo H
 obtain ⟨t291, A6, H⟩ := H
 replace H := bz H
 obtain ⟨y292, hy292⟩ : ∃ y_ : List Int, y_ = (([t288, t289, t291] : List Int)) := ⟨_, rfl⟩
 replace H : ((impl_first.f k y292).bind fun t295 => (some t295)) = some r := hl hy292 H
 have Ny292 := aM hy292
 clear hy292
 replace H := bo H
 obtain ⟨t295, A7, H⟩ := H
 replace H : (some t295) = some r := H
 obtain rfl := Option.some.inj H
 go_enter Try.func76, Try.ntmps76
 go_wp2_with (first | ((with_reducible refine gate_callee (f := 55) rfl ?_); refine goesL_ (some 6) rfl rfl Try.func55 kr rfl #[.int .i64 a0] rfl mq ?_; (with_reducible refine (impl_SizeFault.calls a0 t288 _ A3.out).mono ?_); rintro e w' ⟨rfl, ⟨nd, rfl⟩⟩; refine ⟨_, rfl, ?_⟩) | ((with_reducible refine gate_callee (f := 56) rfl ?_); refine goesL_ (some 11) rfl rfl Try.func56 kr rfl #[.bool ((l1.length : Int) != a0), .int .i64 2] rfl mq ?_; (with_reducible refine (impl_codeIf.calls ((l1.length : Int) != a0) 2 t289 _ A4.out).mono ?_); rintro e w' ⟨rfl, ⟨nd, rfl⟩⟩; refine ⟨_, rfl, ?_⟩) | ((with_reducible refine gate_callee (f := 96) rfl ?_); refine goesL_ (some 13) rfl rfl Try.func96 kr rfl #[.slice A1 l1.length c1] rfl mq ?_; (with_reducible refine (impl_areSamples.calls _ _ l1 t290 _ ?side1 ?side2 A5.out).mono ?_); (case side1 => exact cq HR1.out); (case side2 => exact HC1.out); rintro e w' ⟨rfl, ⟨nd, rfl⟩⟩; refine ⟨_, rfl, ?_⟩) | ((with_reducible refine gate_callee (f := 56) rfl ?_); refine goesL_ (some 15) rfl rfl Try.func56 kr rfl #[.bool (!t290), .int .i64 3] rfl mq ?_; (with_reducible refine (impl_codeIf.calls (!t290) 3 t291 _ A6.out).mono ?_); rintro e w' ⟨rfl, ⟨nd, rfl⟩⟩; refine ⟨_, rfl, ?_⟩) | ((with_reducible refine gate_dst (N := 16) rfl ?_); refine Kd.R_lit (Kd.int .i64) _ 2 ?hg (N := 16) ?hd (xs := ([t288, t289, t291] : List Int)) (inner := [.int .i64 t288, .int .i64 t289, .int .i64 t291]) (ok := fun _ => True) (okp := fun _ => True) ?hr ?hp (fun _ hk => hk) trivial (Below.refl _ _) (Nat.le_refl _) (by simp) ?_; (case hd => rfl); (case hg => rfl); (case hr => first | (go_simp; done) | (go_simp; rfl)); (case hp => exact (Reps.one (show Kd.M (Kd.int .i64) _ _ _ t288 [.int .i64 t288] from rfl) (Reps.one (show Kd.M (Kd.int .i64) _ _ _ t289 [.int .i64 t289] from rfl) (Reps.one (show Kd.M (Kd.int .i64) _ _ _ t291 [.int .i64 t291] from rfl) (Reps.none _ _))))); intro v293 w8 ho9 hb hg_ hnew_; clear hg_ hnew_; (first | rw [← Ny292.out] at ho9 | (simp only [Int.reduceToNat] at ho9; rw [← Ny292.out] at ho9)); have HO294 := aM (rG ho9 (bZ bq)); replace HB := aM (bT bq hb); clear hb ho9; obtain ⟨Ao10, co10, eo10⟩ := Kd.R_slice HO294.out; subst eo10) | ((with_reducible refine gate_callee (f := 54) rfl ?_); refine goesL_ (some 17) rfl rfl Try.func54 kr rfl #[.slice Ao10 y292.length co10] rfl mq ?_; (with_reducible refine (impl_first.calls k _ _ y292 t295 _ ?side1 ?side2 A7.out).mono ?_); (case side1 => exact cq (rR HO294.out).2.2); (case side2 => exact (rR HO294.out).2.1); rintro e w' ⟨rfl, ⟨nd, rfl⟩⟩; refine ⟨_, rfl, ?_⟩))
 go_ret
 exact ⟨ew, bq⟩

/-! ### impl_turn_forth: function 79 -/
def impl_turn_forth.f (a0_0 : Int) (a0_1 : Int) (a1 : Int) (a2 : Int) : Option (Int × Int) := (impl_tenOf.f (wrap64 (a0_0 * a2))).bind fun t297 => ((impl_tenOf.f (wrap64 (a0_1 * (wrap64 (a1 - t297))))).bind fun t298 => ((impl_tenOf.f (wrap64 (a0_0 * (wrap64 (a2 + t298))))).bind fun t299 => (some (wrap64 ((wrap64 (a1 - t297)) - t299), wrap64 (a2 + t298)))))
set_option maxHeartbeats 8000000 in
set_option maxRecDepth 100000 in
theorem impl_turn_forth.calls (a0_0 : Int) (a0_1 : Int) (a1 : Int) (a2 : Int) (r1 : Int) (r2 : Int) (w : World) (h : impl_turn_forth.f a0_0 a0_1 a1 a2 = some (r1, r2)) :
  Calls Try.prog 79 #[.agg #[.int .i64 a0_0, .int .i64 a0_1], .int .i64 a1, .int .i64 a2] w fun e w' => e = .returned (.tuple #[.int .i64 r1, .int .i64 r2]) ∧ Below w.heap.size w w' := by
 have hu108 := Try.underlying108
 have HB := aM (Below.refl w.heap.size w)
 have H : ((impl_tenOf.f (wrap64 (a0_0 * a2))).bind fun t297 => ((impl_tenOf.f (wrap64 (a0_1 * (wrap64 (a1 - t297))))).bind fun t298 => ((impl_tenOf.f (wrap64 (a0_0 * (wrap64 (a2 + t298))))).bind fun t299 => (some (wrap64 ((wrap64 (a1 - t297)) - t299), wrap64 (a2 + t298)))))) = some (r1, r2) := h
 clear h
 replace H := bo H
 obtain ⟨t297, A4, H⟩ := H
 replace H := bz H
 replace H := bo H
 obtain ⟨t298, A5, H⟩ := H
 replace H := bz H
 replace H := bo H
 obtain ⟨t299, A6, H⟩ := H
 replace H := bz H
 simp only [Option.some.injEq, Prod.mk.injEq] at H
 obtain ⟨rfl, rfl⟩ := H
 go_enter Try.func79, Try.ntmps79
 go_wp2_with (first | ((with_reducible refine gate_dst (N := 3) rfl ?_); refine box_event ?hg (N := 3) ?hd (cs := #[.int .i64 a0_0, .int .i64 a0_1]) (t := 108) ?hr ?_; (case hd => rfl); (case hg => rfl); (case hr => first | (go_simp; done) | (go_simp; rfl)); intro gb296 hg w7 hbox hb; have BK296 := aM (hbox); have GW296 := aM ((by rw [hg]; exact (bZ bq) : w.heap.size ≤ gb296)); have GE296 := aM ((by rw [hg]; exact (bZ bq) : w.heap.size ≤ gb296)); replace HB := aM (bT bq hb); clear hb hbox hg; have hcz8_0 : w7.cell? ⟨gb296, 0, none⟩ = some (.int .i64 a0_0) := cc; have hcz8_1 : w7.cell? ⟨gb296, 1, none⟩ = some (.int .i64 a0_1) := cc; have hfz8_0 := kF BK296.out 0; have hfz8_1 := kF BK296.out 1) | ((with_reducible refine gate_callee (f := 120) rfl ?_); refine goesL_ (some 13) rfl rfl Try.func120 kr rfl #[.int .i64 (wrap64 (a0_0 * a2))] rfl mq ?_; (with_reducible refine (impl_tenOf.calls (wrap64 (a0_0 * a2)) t297 _ A4.out).mono ?_); rintro e w' ⟨rfl, ⟨nd, rfl⟩⟩; refine ⟨_, rfl, ?_⟩) | ((with_reducible refine gate_callee (f := 120) rfl ?_); refine goesL_ (some 20) rfl rfl Try.func120 kr rfl #[.int .i64 (wrap64 (a0_1 * (wrap64 (a1 - t297))))] rfl mq ?_; (with_reducible refine (impl_tenOf.calls (wrap64 (a0_1 * (wrap64 (a1 - t297)))) t298 _ A5.out).mono ?_); rintro e w' ⟨rfl, ⟨nd, rfl⟩⟩; refine ⟨_, rfl, ?_⟩) | ((with_reducible refine gate_callee (f := 120) rfl ?_); refine goesL_ (some 27) rfl rfl Try.func120 kr rfl #[.int .i64 (wrap64 (a0_0 * (wrap64 (a2 + t298))))] rfl mq ?_; (with_reducible refine (impl_tenOf.calls (wrap64 (a0_0 * (wrap64 (a2 + t298)))) t299 _ A6.out).mono ?_); rintro e w' ⟨rfl, ⟨nd, rfl⟩⟩; refine ⟨_, rfl, ?_⟩))
 go_ret2
 exact ⟨ew, bq⟩

/-! ### impl_FeedFrame_1: function 77 -/
def impl_FeedFrame_1.f (sz : Int) (a : Int) (b : Int) (c : Int) : Option (Int × Int) := (impl_turnOf.f sz a).bind fun t => (impl_turn_forth.f t.1 t.2 b c).bind fun u => some (u.1, u.2)
set_option maxHeartbeats 8000000 in
set_option maxRecDepth 100000 in
theorem impl_FeedFrame_1.calls (B : Nat) (sz a b c r1 r2 : Int) (w : World) (hc : w.cell? ⟨B, 0, none⟩ = some (.int .i64 sz)) (h : impl_FeedFrame_1.f sz a b c = some (r1, r2)) :
  Calls Try.prog 77 #[.int .i64 a, .int .i64 b, .int .i64 c, .pointer (some ⟨B, 0, none⟩)] w fun e w' => e = .returned (.tuple #[.int .i64 r1, .int .i64 r2]) ∧ Below w.heap.size w w' := by
 unfold impl_FeedFrame_1.f at h
 obtain ⟨⟨t1, t2⟩, e1, h⟩ := Option.bind_eq_some_iff.mp h
 obtain ⟨⟨u1, u2⟩, e2, h⟩ := Option.bind_eq_some_iff.mp h
 simp only [Option.some.injEq, Prod.mk.injEq] at h
 obtain ⟨rfl, rfl⟩ := h
 have A1 := aM e1
 have A2 := aM e2
 clear e1 e2
 go_enter Try.func77, Try.ntmps77
 go_wp2_with (first | (go_at_call 78; (with_reducible refine (impl_turnOf.calls _ _ _ _ _ A1.out).mono ?_); rintro e w1 ⟨rfl, hb⟩; have HB := aM hb; clear hb) | (go_at_call 79; (with_reducible refine (impl_turn_forth.calls _ _ _ _ _ _ _ A2.out).mono ?_); rintro e w2 ⟨rfl, hb⟩; have HB2 := aM (bT HB.out hb); clear hb))
 go_ret2
 exact ⟨rfl, by repeat (first | exact HB2.out | apply bN | apply bD)⟩
theorem ok3_FeedFrame_1 (B : Nat) (sz : Int) (w : World) (hc : w.cell? ⟨B, 0, none⟩ = some (.int .i64 sz)) : FnOK3 77 #[.pointer (some ⟨B, 0, none⟩)] (impl_FeedFrame_1.f sz) w :=
 ⟨fun args w => enters_ Try.func77 kr rfl args w, fun W hb a b c r1 r2 h => impl_FeedFrame_1.calls B sz a b c r1 r2 W (by rw [hb.cell (World.block_lt_of_cell? w _ hc)]; exact hc) h⟩

/-! ### impl_mix: function 146 -/
def impl_mix.f (a0 : Int) (a1 : Int) : Option (Int × Int) := (impl_floorDiv.f (wrap64 (a0 - a1)) 2).bind fun t300 => (some (wrap64 (a1 + t300), wrap64 (a0 - a1)))
set_option maxHeartbeats 8000000 in
set_option maxRecDepth 100000 in
theorem impl_mix.calls (a0 : Int) (a1 : Int) (r1 : Int) (r2 : Int) (w : World) (h : impl_mix.f a0 a1 = some (r1, r2)) :
  Calls Try.prog 146 #[.int .i64 a0, .int .i64 a1] w fun e w' => e = .returned (.tuple #[.int .i64 r1, .int .i64 r2]) ∧ Drawn0 w w' := by
 have H : ((impl_floorDiv.f (wrap64 (a0 - a1)) 2).bind fun t300 => (some (wrap64 (a1 + t300), wrap64 (a0 - a1)))) = some (r1, r2) := h
 clear h
 replace H := bo H
 obtain ⟨t300, A3, H⟩ := H
 replace H := bz H
 simp only [Option.some.injEq, Prod.mk.injEq] at H
 obtain ⟨rfl, rfl⟩ := H
 go_enter Try.func146, Try.ntmps146
 go_wp2_with (first | ((with_reducible refine gate_callee (f := 144) rfl ?_); refine goesL_ (some 12) rfl rfl Try.func144 kr rfl #[.int .i64 (wrap64 (a0 - a1)), .int .i64 2] rfl mq ?_; (with_reducible refine (impl_floorDiv.calls (wrap64 (a0 - a1)) 2 t300 _ A3.out).mono ?_); rintro e w' ⟨rfl, ⟨nd, rfl⟩⟩; refine ⟨_, rfl, ?_⟩))
 go_ret2
 exact ⟨ex, by repeat (first | exact Drawn0.refl _ | apply Drawn0.step)⟩

end Go.Proofs.Ytmhnpogjkbmmnaa.PFnLaps
