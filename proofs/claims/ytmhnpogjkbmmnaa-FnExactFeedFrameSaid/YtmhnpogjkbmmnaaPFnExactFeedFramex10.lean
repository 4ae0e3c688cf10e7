-- Written by a program of this session: wip/mkprint.py over the kit's print, with contracts proved by hand (wip/given.py)
-- shortened
-- squeezed
import Derived.Test.YtmhnpogjkbmmnaaPFnExactFeedFramex0
import Derived.Test.YtmhnpogjkbmmnaaPFnExactFeedFramex9
namespace Go.Proofs.Ytmhnpogjkbmmnaa.PFnExactFeedFrame
open Go.RowKit Go.Proofs.YtmhnpogjkbmmnaaW.PrintWords Go.Proofs.YtmhnpogjkbmmnaaW.PrintLast Go.Proofs.YtmhnpogjkbmmnaaW.PrintMore
open Go.Proofs.YtmhnpogjkbmmnaaW.PrintWords renaming below_alloc → bA, pw_below_drewN → bN, below_drew1 → bD, below_set → bS, below_step → bT, below_size → bZ, blk_cell → kC, blk_frozen → kF
open Go.Proofs.YtmhnpogjkbmmnaaW.PrintWords.Aside0 renaming mk → aM
attribute [local go_sem] max2_int min2_int max_two min_two max_three min_three max_four min_four   -- for this text's walks alone
set_option linter.unusedVariables false
set_option linter.unusedSimpArgs false

/-! ### impl_tenOf: function 120 -/
def impl_tenOf.f (a0 : Int) : Option (Int) := some ((wrap64 (a0 + 512)) / 1024)
set_option maxHeartbeats 8000000 in
set_option maxRecDepth 100000 in
theorem impl_tenOf.calls (a0 : Int) (r : Int) (w : World) (h : impl_tenOf.f a0 = some r) :
  Calls Try.prog 120 #[.int .i64 a0] w fun e w' => e = .returned (.int .i64 r) ∧ Drawn0 w w' := by
 have H : (some ((wrap64 (a0 + 512)) / 1024)) = some r := h
 clear h
 obtain rfl := Option.some.inj H
 go_enter Try.func120, Try.ntmps120
 go_wp2
 go_ret
 exact ⟨by first | rfl | (simp; done) | (simp [*]; done), by repeat (first | exact Drawn0.refl _ | apply Drawn0.step)⟩

/-! ### impl_turn_forth: function 79 -/
def impl_turn_forth.f (a0_0 : Int) (a0_1 : Int) (a1 : Int) (a2 : Int) : Option (Int × Int) := (impl_tenOf.f (wrap64 (a0_0 * a2))).bind fun t321 => ((impl_tenOf.f (wrap64 (a0_1 * (wrap64 (a1 - t321))))).bind fun t322 => ((impl_tenOf.f (wrap64 (a0_0 * (wrap64 (a2 + t322))))).bind fun t323 => (some (wrap64 ((wrap64 (a1 - t321)) - t323), wrap64 (a2 + t322)))))
set_option maxHeartbeats 8000000 in
set_option maxRecDepth 100000 in
theorem impl_turn_forth.calls (a0_0 : Int) (a0_1 : Int) (a1 : Int) (a2 : Int) (r1 : Int) (r2 : Int) (w : World) (h : impl_turn_forth.f a0_0 a0_1 a1 a2 = some (r1, r2)) :
  Calls Try.prog 79 #[.agg #[.int .i64 a0_0, .int .i64 a0_1], .int .i64 a1, .int .i64 a2] w fun e w' => e = .returned (.tuple #[.int .i64 r1, .int .i64 r2]) ∧ Below w.heap.size w w' := by
 have hu108 := Try.underlying108
 have HB := aM (Below.refl w.heap.size w)
 have H : ((impl_tenOf.f (wrap64 (a0_0 * a2))).bind fun t321 => ((impl_tenOf.f (wrap64 (a0_1 * (wrap64 (a1 - t321))))).bind fun t322 => ((impl_tenOf.f (wrap64 (a0_0 * (wrap64 (a2 + t322))))).bind fun t323 => (some (wrap64 ((wrap64 (a1 - t321)) - t323), wrap64 (a2 + t322)))))) = some (r1, r2) := h
 clear h
 replace H := Option.bind_eq_some_iff.mp H
 obtain ⟨t321, A40, H⟩ := H
 replace H : ((impl_tenOf.f (wrap64 (a0_1 * (wrap64 (a1 - t321))))).bind fun t322 => ((impl_tenOf.f (wrap64 (a0_0 * (wrap64 (a2 + t322))))).bind fun t323 => (some (wrap64 ((wrap64 (a1 - t321)) - t323), wrap64 (a2 + t322))))) = some (r1, r2) := H
 have A4 := aM A40
 clear A40
 replace H := Option.bind_eq_some_iff.mp H
 obtain ⟨t322, A50, H⟩ := H
 replace H : ((impl_tenOf.f (wrap64 (a0_0 * (wrap64 (a2 + t322))))).bind fun t323 => (some (wrap64 ((wrap64 (a1 - t321)) - t323), wrap64 (a2 + t322)))) = some (r1, r2) := H
 have A5 := aM A50
 clear A50
 replace H := Option.bind_eq_some_iff.mp H
 obtain ⟨t323, A60, H⟩ := H
 replace H : (some (wrap64 ((wrap64 (a1 - t321)) - t323), wrap64 (a2 + t322))) = some (r1, r2) := H
 have A6 := aM A60
 clear A60
 simp only [Option.some.injEq, Prod.mk.injEq] at H
 obtain ⟨rfl, rfl⟩ := H
 go_enter Try.func79, Try.ntmps79
 go_wp2_with (first | ((with_reducible refine gate_dst (N := 3) rfl ?_); refine box_event ?hg (N := 3) ?hd (cs := #[.int .i64 a0_0, .int .i64 a0_1]) (t := 108) ?hr ?_; (case hd => rfl); (case hg => rfl); (case hr => first | (go_simp; done) | (go_simp; rfl)); intro gb320 hg w7 hbox hb; have n0_ := aM (bT (by repeat (first | exact HB.out | apply bA | apply bN | apply bD)) hb); have n1_ := aM (hbox); have n2_ := aM ((by rw [hg]; exact (bZ (by repeat (first | exact HB.out | apply bA | apply bN | apply bD))) : w.heap.size ≤ gb320)); have n3_ := aM ((by rw [hg]; exact (bZ (by repeat (first | exact HB.out | apply bA | apply bN | apply bD))) : w.heap.size ≤ gb320)); clear HB; have HB := n0_; have BK320 := n1_; have GW320 := n2_; have GE320 := n3_; clear n0_ n1_ n2_ n3_ hb hbox hg; have hcz8_0 : w7.cell? ⟨gb320, 0, none⟩ = some (.int .i64 a0_0) := (kC BK320.out 0).trans rfl; have hcz8_1 : w7.cell? ⟨gb320, 1, none⟩ = some (.int .i64 a0_1) := (kC BK320.out 1).trans rfl; have hfz8_0 := kF BK320.out 0; have hfz8_1 := kF BK320.out 1) | ((with_reducible refine gate_callee (f := 120) rfl ?_); refine goesL_ (some 13) rfl rfl Try.func120 (by kernel_rfl) rfl #[.int .i64 (wrap64 (a0_0 * a2))] rfl (by first | rfl | (simp only [List.map_toArray, List.map_cons, List.map_nil]; rfl)) ?_; (with_reducible refine (impl_tenOf.calls (wrap64 (a0_0 * a2)) t321 _ A4.out).mono ?_); rintro e w' ⟨rfl, ⟨nd, rfl⟩⟩; refine ⟨_, rfl, ?_⟩) | ((with_reducible refine gate_callee (f := 120) rfl ?_); refine goesL_ (some 20) rfl rfl Try.func120 (by kernel_rfl) rfl #[.int .i64 (wrap64 (a0_1 * (wrap64 (a1 - t321))))] rfl (by first | rfl | (simp only [List.map_toArray, List.map_cons, List.map_nil]; rfl)) ?_; (with_reducible refine (impl_tenOf.calls (wrap64 (a0_1 * (wrap64 (a1 - t321)))) t322 _ A5.out).mono ?_); rintro e w' ⟨rfl, ⟨nd, rfl⟩⟩; refine ⟨_, rfl, ?_⟩) | ((with_reducible refine gate_callee (f := 120) rfl ?_); refine goesL_ (some 27) rfl rfl Try.func120 (by kernel_rfl) rfl #[.int .i64 (wrap64 (a0_0 * (wrap64 (a2 + t322))))] rfl (by first | rfl | (simp only [List.map_toArray, List.map_cons, List.map_nil]; rfl)) ?_; (with_reducible refine (impl_tenOf.calls (wrap64 (a0_0 * (wrap64 (a2 + t322)))) t323 _ A6.out).mono ?_); rintro e w' ⟨rfl, ⟨nd, rfl⟩⟩; refine ⟨_, rfl, ?_⟩))
 go_ret2
 exact ⟨by first | rfl | (simp [errW_none, errW_some] <;> rfl) | (simp [*, errW_none, errW_some] <;> rfl), by repeat (first | (with_reducible first | exact HB.out | apply bA | apply bN | apply bD | refine bS ?_ GE320.out) | exact HB.out)⟩

/-! ### impl_FeedFrame_1: function 77 -/
def impl_FeedFrame_1.f (sz : Int) (a : Int) (b : Int) (c : Int) : Option (Int × Int) := (impl_turnOf.f sz a).bind fun t => (impl_turn_forth.f t.1 t.2 b c).bind fun u => some (u.1, u.2)
set_option maxHeartbeats 8000000 in
set_option maxRecDepth 100000 in
theorem impl_FeedFrame_1.calls (B : Nat) (sz a b c r1 r2 : Int) (w : World) (hc : w.cell? ⟨B, 0, none⟩ = some (.int .i64 sz)) (h : impl_FeedFrame_1.f sz a b c = some (r1, r2)) :
  Calls Try.prog 77 #[.int .i64 a, .int .i64 b, .int .i64 c, .pointer (some ⟨B, 0, none⟩)] w fun e w' => e = .returned (.tuple #[.int .i64 r1, .int .i64 r2]) ∧ Below w.heap.size w w' := by
 unfold impl_FeedFrame_1.f at h
 obtain ⟨⟨t1, t2⟩, e1, h⟩ := Option.bind_eq_some_iff.mp h
 obtain ⟨⟨u1, u2⟩, e2, h⟩ := Option.bind_eq_some_iff.mp h
 simp only [Option.some.injEq, Prod.mk.injEq] at h
 obtain ⟨rfl, rfl⟩ := h
 have A1 := aM e1
 have A2 := aM e2
 clear e1 e2
 go_enter Try.func77, Try.ntmps77
 go_wp2_with (first | (go_at_call 78; (with_reducible refine (impl_turnOf.calls _ _ _ _ _ A1.out).mono ?_); rintro e w1 ⟨rfl, hb⟩; have HB := aM hb; clear hb) | (go_at_call 79; (with_reducible refine (impl_turn_forth.calls _ _ _ _ _ _ _ A2.out).mono ?_); rintro e w2 ⟨rfl, hb⟩; have HB2 := aM (bT HB.out hb); clear hb))
 go_ret2
 exact ⟨rfl, by repeat (first | exact HB2.out | apply bN | apply bD)⟩
theorem ok3_FeedFrame_1 (B : Nat) (sz : Int) (w : World) (hc : w.cell? ⟨B, 0, none⟩ = some (.int .i64 sz)) : FnOK3 77 #[.pointer (some ⟨B, 0, none⟩)] (impl_FeedFrame_1.f sz) w :=
 ⟨fun args w => enters_ Try.func77 (by kernel_rfl) rfl args w, fun W hb a b c r1 r2 h => impl_FeedFrame_1.calls B sz a b c r1 r2 W (by rw [hb.cell (World.block_lt_of_cell? w _ hc)]; exact hc) h⟩

/-! ### impl_floorDiv: function 144 -/
def impl_floorDiv.f (a0 : Int) (a1 : Int) : Option (Int) := if a1 = 0 then (none) else (if (Int.tmod a0 a1) < 0 then (some (wrap64 ((wrap64 (Int.tdiv a0 a1)) - 1))) else (some (wrap64 (Int.tdiv a0 a1))))
set_option maxHeartbeats 8000000 in
set_option maxRecDepth 100000 in
theorem impl_floorDiv.calls (a0 : Int) (a1 : Int) (r : Int) (w : World) (h : impl_floorDiv.f a0 a1 = some r) :
  Calls Try.prog 144 #[.int .i64 a0, .int .i64 a1] w fun e w' => e = .returned (.int .i64 r) ∧ Drawn0 w w' := by
 have H : (if a1 = 0 then (none) else (if (Int.tmod a0 a1) < 0 then (some (wrap64 ((wrap64 (Int.tdiv a0 a1)) - 1))) else (some (wrap64 (Int.tdiv a0 a1))))) = some r := h
 clear h
 by_cases c3 : a1 = 0
 ·rw [if_pos c3] at H
  exact absurd H (by simp)
 ·rw [if_neg c3] at H
  have c3b0 : (a1 == 0) = false := beq_eq_false_iff_ne.mpr c3
  have c3b1 : (a1 != 0) = true := bne_iff_ne.mpr c3
  by_cases c4 : (Int.tmod a0 a1) < 0
  ·rw [if_pos c4] at H
   have c4b0 : decide ((Int.tmod a0 a1) < 0) = true := decide_eq_true c4
   clear c4
   obtain rfl := Option.some.inj H
   go_enter Try.func144, Try.ntmps144
   go_wp2
   go_ret
   exact ⟨by first | rfl | (simp; done) | (simp [*]; done), by repeat (first | exact Drawn0.refl _ | apply Drawn0.step)⟩
  ·rw [if_neg c4] at H
   have c4b0 : decide ((Int.tmod a0 a1) < 0) = false := decide_eq_false c4
   clear c4
   obtain rfl := Option.some.inj H
   go_enter Try.func144, Try.ntmps144
   go_wp2
   go_ret
   exact ⟨by first | rfl | (simp; done) | (simp [*]; done), by repeat (first | exact Drawn0.refl _ | apply Drawn0.step)⟩

/-! ### impl_mix: function 146 -/
def impl_mix.f (a0 : Int) (a1 : Int) : Option (Int × Int) := (impl_floorDiv.f (wrap64 (a0 - a1)) 2).bind fun t324 => (some (wrap64 (a1 + t324), wrap64 (a0 - a1)))
set_option maxHeartbeats 8000000 in
set_option maxRecDepth 100000 in
theorem impl_mix.calls (a0 : Int) (a1 : Int) (r1 : Int) (r2 : Int) (w : World) (h : impl_mix.f a0 a1 = some (r1, r2)) :
  Calls Try.prog 146 #[.int .i64 a0, .int .i64 a1] w fun e w' => e = .returned (.tuple #[.int .i64 r1, .int .i64 r2]) ∧ Drawn0 w w' := by
 have H : ((impl_floorDiv.f (wrap64 (a0 - a1)) 2).bind fun t324 => (some (wrap64 (a1 + t324), wrap64 (a0 - a1)))) = some (r1, r2) := h
 clear h
 replace H := Option.bind_eq_some_iff.mp H
 obtain ⟨t324, A30, H⟩ := H
 replace H : (some (wrap64 (a1 + t324), wrap64 (a0 - a1))) = some (r1, r2) := H
 have A3 := aM A30
 clear A30
 simp only [Option.some.injEq, Prod.mk.injEq] at H
 obtain ⟨rfl, rfl⟩ := H
 go_enter Try.func146, Try.ntmps146
 go_wp2_with (first | ((with_reducible refine gate_callee (f := 144) rfl ?_); refine goesL_ (some 12) rfl rfl Try.func144 (by kernel_rfl) rfl #[.int .i64 (wrap64 (a0 - a1)), .int .i64 2] rfl (by first | rfl | (simp only [List.map_toArray, List.map_cons, List.map_nil]; rfl)) ?_; (with_reducible refine (impl_floorDiv.calls (wrap64 (a0 - a1)) 2 t324 _ A3.out).mono ?_); rintro e w' ⟨rfl, ⟨nd, rfl⟩⟩; refine ⟨_, rfl, ?_⟩))
 go_ret2
 exact ⟨by first | rfl | (simp; done) | (simp [*]; done), by repeat (first | exact Drawn0.refl _ | apply Drawn0.step)⟩

end Go.Proofs.Ytmhnpogjkbmmnaa.PFnExactFeedFrame
