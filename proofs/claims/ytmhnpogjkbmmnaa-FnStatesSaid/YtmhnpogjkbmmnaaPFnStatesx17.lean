import Derived.Test.YtmhnpogjkbmmnaaPFnStatesx0
import Derived.Test.YtmhnpogjkbmmnaaPFnStatesx5
import Derived.Test.YtmhnpogjkbmmnaaPFnStatesx6
import Derived.Test.YtmhnpogjkbmmnaaPFnStatesx10
import Derived.Test.YtmhnpogjkbmmnaaPFnStatesx15
namespace Go.Proofs.Ytmhnpogjkbmmnaa.PFnStates
open Go.RowKit Go.Proofs.YtmhnpogjkbmmnaaW.PrintWords Go.Proofs.YtmhnpogjkbmmnaaW.PrintLast Go.Proofs.YtmhnpogjkbmmnaaW.PrintMore
open Go.Proofs.YtmhnpogjkbmmnaaW.PrintWords.Kd renaming R_lower → rG, R_reads' → rR
open Go.Proofs.YtmhnpogjkbmmnaaW.PrintWords renaming pw_below_drewN → bN, below_drew1 → bD, below_step → bT, below_size → bZ, blk_cell → kC, blk_frozen → kF
open Go.Proofs.YtmhnpogjkbmmnaaW.PrintWords.Aside0 renaming mk → aM
attribute [local go_sem] max2_int min2_int max_two min_two max_three min_three max_four min_four
set_option maxHeartbeats 8000000
set_option maxRecDepth 100000
set_option linter.unusedVariables false
set_option linter.unusedSimpArgs false
def impl_SamplesFault.f (k : Nat) (a0 : Int) (l1 : List Int) : Option (Int) := (impl_SizeFault.f a0).bind fun t516 => ((impl_codeIf.f ((l1.length : Int) != a0) 2).bind fun t517 => ((impl_areSamples.f l1).bind fun t518 => ((impl_codeIf.f (!t518) 3).bind fun t519 => ((impl_first.f k (([t516, t517, t519] : List Int))).bind fun t523 => (some t523)))))
theorem impl_SamplesFault.calls (k : Nat) (a0 : Int) (A1 : Option Addr) (c1 : Nat) (l1 : List Int) (r : Int) (w : World) (hr1 : Kd.C (Kd.int .i64) w A1 l1.length l1) (hc1 : l1.length ≤ c1) (h : impl_SamplesFault.f k a0 l1 = some r) :
  Calls Try.prog 76 #[.int .i64 a0, .slice A1 l1.length c1] w fun e w' => e = .returned (.int .i64 r) ∧ Below w.heap.size w w' := by
 have HR1 := aM hr1
 have HC1 := aM hc1
 clear hr1 hc1
 have HB := aM (Below.refl w.heap.size w)
 unfold impl_SamplesFault.f at h
 have H := h
 clear h
 replace H := bo H
 obtain ⟨t516, A3, H⟩ := H
 replace H := bz H
 replace H := bo H
 obtain ⟨t517, A4, H⟩ := H
 replace H := bz H
 replace H := bo H
 obtain ⟨t518, A5, H⟩ := H
 replace H := bz H
 replace H := bo H
 obtain ⟨t519, A6, H⟩ := H
 replace H := bz H
 obtain ⟨y520, Ny520⟩ : ∃ y_ : List Int, Aside0 (y_ = (([t516, t517, t519] : List Int))) := ⟨_, ⟨rfl⟩⟩
 rw [← Ny520.out] at H
 replace H := bo H
 obtain ⟨t523, A7, H⟩ := H
 replace H : (some t523) = some r := H
 obtain rfl := Option.some.inj H
 go_enter Try.func76, Try.ntmps76
 go_wp2_with (first | ((with_reducible refine gC 55 rfl ?_); refine gl (some 6) Try.func55 #[.int .i64 a0] ?_; (with_reducible refine (impl_SizeFault.calls a0 t516 _ A3.out).mono ?_); rintro e w' ⟨rfl, ⟨nd, rfl⟩⟩; refine ii ?_) | ((with_reducible refine gC 56 rfl ?_); refine gl (some 11) Try.func56 #[.bool ((l1.length : Int) != a0), .int .i64 2] ?_; (with_reducible refine (impl_codeIf.calls ((l1.length : Int) != a0) 2 t517 _ A4.out).mono ?_); rintro e w' ⟨rfl, ⟨nd, rfl⟩⟩; refine ii ?_) | ((with_reducible refine gC 96 rfl ?_); refine gl (some 13) Try.func96 #[.slice A1 l1.length c1] ?_; (with_reducible refine (impl_areSamples.calls _ _ l1 t518 _ ?s1 ?s2 A5.out).mono ?_); (case s1 => exact cq HR1.out); (case s2 => exact HC1.out); rintro e w' ⟨rfl, ⟨nd, rfl⟩⟩; refine ii ?_) | ((with_reducible refine gC 56 rfl ?_); refine gl (some 15) Try.func56 #[.bool (!t518), .int .i64 3] ?_; (with_reducible refine (impl_codeIf.calls (!t518) 3 t519 _ A6.out).mono ?_); rintro e w' ⟨rfl, ⟨nd, rfl⟩⟩; refine ii ?_) | ((with_reducible refine gD 16 rfl ?_); refine Kd.R_lit (Kd.int .i64) _ 2 ?hg (N := 16) ?hd (xs := ([t516, t517, t519] : List Int)) (inner := [.int .i64 t516, .int .i64 t517, .int .i64 t519]) (ok := fun _ => True) (okp := fun _ => True) ?hr ?hp (fun _ hk => hk) trivial (Below.refl _ _) (Nat.le_refl _) (by simp) ?_; (case hd => rfl); (case hg => rfl); (case hr => first | (go_simp; done) | (go_simp; rfl)); (case hp => exact (Reps.one (show Kd.M (Kd.int .i64) _ _ _ t516 [.int .i64 t516] from rfl) (Reps.one (show Kd.M (Kd.int .i64) _ _ _ t517 [.int .i64 t517] from rfl) (Reps.one (show Kd.M (Kd.int .i64) _ _ _ t519 [.int .i64 t519] from rfl) (Reps.none _ _))))); intro v521 w8 ho9 hb hg_ hnew_; clear hg_ hnew_; rw [← Ny520.out] at ho9; have HO522 := aM (rG ho9 (bZ bq)); replace HB := aM (bT bq hb); clear hb ho9; obtain ⟨Ao10, co10, rfl⟩ := rS HO522.out) | ((with_reducible refine gC 54 rfl ?_); refine gl (some 17) Try.func54 #[.slice Ao10 y520.length co10] ?_; (with_reducible refine (impl_first.calls k _ _ y520 t523 _ ?s1 ?s2 A7.out).mono ?_); (case s1 => exact cq (rR HO522.out).2.2); (case s2 => exact (rR HO522.out).2.1); rintro e w' ⟨rfl, ⟨nd, rfl⟩⟩; refine ii ?_))
 go_ret
 exact ⟨ew, bq⟩
def impl_turn_forth.f (a0_0 : Int) (a0_1 : Int) (a1 : Int) (a2 : Int) : Option (Int × Int) := (impl_tenOf.f (wrap64 (a0_0 * a2))).bind fun t525 => ((impl_tenOf.f (wrap64 (a0_1 * (wrap64 (a1 - t525))))).bind fun t526 => ((impl_tenOf.f (wrap64 (a0_0 * (wrap64 (a2 + t526))))).bind fun t527 => (some (wrap64 ((wrap64 (a1 - t525)) - t527), wrap64 (a2 + t526)))))
theorem impl_turn_forth.calls (a0_0 : Int) (a0_1 : Int) (a1 : Int) (a2 : Int) (r1 : Int) (r2 : Int) (w : World) (h : impl_turn_forth.f a0_0 a0_1 a1 a2 = some (r1, r2)) :
  Calls Try.prog 79 #[.agg #[.int .i64 a0_0, .int .i64 a0_1], .int .i64 a1, .int .i64 a2] w fun e w' => e = .returned (.tuple #[.int .i64 r1, .int .i64 r2]) ∧ Below w.heap.size w w' := by
 have hu108 := Try.underlying108
 have HB := aM (Below.refl w.heap.size w)
 unfold impl_turn_forth.f at h
 have H := h
 clear h
 replace H := bo H
 obtain ⟨t525, A4, H⟩ := H
 replace H := bz H
 replace H := bo H
 obtain ⟨t526, A5, H⟩ := H
 replace H := bz H
 replace H := bo H
 obtain ⟨t527, A6, H⟩ := H
 replace H := bz H
 simp only [Option.some.injEq, Prod.mk.injEq] at H
 obtain ⟨rfl, rfl⟩ := H
 go_enter Try.func79, Try.ntmps79
 go_wp2_with (first | ((with_reducible refine gD 3 rfl ?_); refine bx 3 108 #[.int .i64 a0_0, .int .i64 a0_1] ?_; intro gb524 hg w7 hbox hb; have BK524 := aM hbox; have GW524 := gw w hg; have GE524 := GW524; replace HB := aM (bT bq hb); clear hb hbox hg; obtain ⟨hcz8_0, hcz8_1, hfz8_0, hfz8_1⟩ := b2 BK524.out) | ((with_reducible refine gC 120 rfl ?_); refine gl (some 13) Try.func120 #[.int .i64 (wrap64 (a0_0 * a2))] ?_; (with_reducible refine (impl_tenOf.calls (wrap64 (a0_0 * a2)) t525 _ A4.out).mono ?_); rintro e w' ⟨rfl, ⟨nd, rfl⟩⟩; refine ii ?_) | ((with_reducible refine gC 120 rfl ?_); refine gl (some 20) Try.func120 #[.int .i64 (wrap64 (a0_1 * (wrap64 (a1 - t525))))] ?_; (with_reducible refine (impl_tenOf.calls (wrap64 (a0_1 * (wrap64 (a1 - t525)))) t526 _ A5.out).mono ?_); rintro e w' ⟨rfl, ⟨nd, rfl⟩⟩; refine ii ?_) | ((with_reducible refine gC 120 rfl ?_); refine gl (some 27) Try.func120 #[.int .i64 (wrap64 (a0_0 * (wrap64 (a2 + t526))))] ?_; (with_reducible refine (impl_tenOf.calls (wrap64 (a0_0 * (wrap64 (a2 + t526)))) t527 _ A6.out).mono ?_); rintro e w' ⟨rfl, ⟨nd, rfl⟩⟩; refine ii ?_))
 go_ret2
 exact ⟨ew, bq⟩
def impl_FeedFrame_1.f (sz : Int) (a : Int) (b : Int) (c : Int) : Option (Int × Int) := (impl_turnOf.f sz a).bind fun t => (impl_turn_forth.f t.1 t.2 b c).bind fun u => some (u.1, u.2)
theorem impl_FeedFrame_1.calls (B : Nat) (sz a b c r1 r2 : Int) (w : World) (hc : w.cell? ⟨B, 0, none⟩ = some (.int .i64 sz)) (h : impl_FeedFrame_1.f sz a b c = some (r1, r2)) :
  Calls Try.prog 77 #[.int .i64 a, .int .i64 b, .int .i64 c, .pointer (some ⟨B, 0, none⟩)] w fun e w' => e = .returned (.tuple #[.int .i64 r1, .int .i64 r2]) ∧ Below w.heap.size w w' := by
 unfold impl_FeedFrame_1.f at h
 obtain ⟨⟨t1, t2⟩, e1, h⟩ := Option.bind_eq_some_iff.mp h
 obtain ⟨⟨u1, u2⟩, e2, h⟩ := Option.bind_eq_some_iff.mp h
 simp only [Option.some.injEq, Prod.mk.injEq] at h
 obtain ⟨rfl, rfl⟩ := h
 have A1 := aM e1
 have A2 := aM e2
 clear e1 e2
 go_enter Try.func77, Try.ntmps77
 go_wp2_with (first | (go_at_call 78; (with_reducible refine (impl_turnOf.calls _ _ _ _ _ A1.out).mono ?_); rintro e w1 ⟨rfl, hb⟩; have HB := aM hb; clear hb) | (go_at_call 79; (with_reducible refine (impl_turn_forth.calls _ _ _ _ _ _ _ A2.out).mono ?_); rintro e w2 ⟨rfl, hb⟩; have HB2 := aM (bT HB.out hb); clear hb))
 go_ret2
 exact ⟨rfl, by repeat (first | exact HB2.out | apply bN | apply bD)⟩
theorem ok3_FeedFrame_1 (B : Nat) (sz : Int) (w : World) (hc : w.cell? ⟨B, 0, none⟩ = some (.int .i64 sz)) : FnOK3 77 #[.pointer (some ⟨B, 0, none⟩)] (impl_FeedFrame_1.f sz) w :=
 ⟨fun args w => enters_ Try.func77 kr rfl args w, fun W hb a b c r1 r2 h => impl_FeedFrame_1.calls B sz a b c r1 r2 W (by rw [hb.cell (World.block_lt_of_cell? w _ hc)]; exact hc) h⟩
def impl_mix.f (a0 : Int) (a1 : Int) : Option (Int × Int) := (impl_floorDiv.f (wrap64 (a0 - a1)) 2).bind fun t528 => (some (wrap64 (a1 + t528), wrap64 (a0 - a1)))
theorem impl_mix.calls (a0 : Int) (a1 : Int) (r1 : Int) (r2 : Int) (w : World) (h : impl_mix.f a0 a1 = some (r1, r2)) :
  Calls Try.prog 146 #[.int .i64 a0, .int .i64 a1] w fun e w' => e = .returned (.tuple #[.int .i64 r1, .int .i64 r2]) ∧ Drawn0 w w' := by
 unfold impl_mix.f at h
 have H := h
 clear h
 replace H := bo H
 obtain ⟨t528, A3, H⟩ := H
 replace H := bz H
 simp only [Option.some.injEq, Prod.mk.injEq] at H
 obtain ⟨rfl, rfl⟩ := H
 go_enter Try.func146, Try.ntmps146
 go_wp2_with (first | ((with_reducible refine gC 144 rfl ?_); refine gl (some 12) Try.func144 #[.int .i64 (wrap64 (a0 - a1)), .int .i64 2] ?_; (with_reducible refine (impl_floorDiv.calls (wrap64 (a0 - a1)) 2 t528 _ A3.out).mono ?_); rintro e w' ⟨rfl, ⟨nd, rfl⟩⟩; refine ii ?_))
 go_ret2
 exact ⟨ex, dr⟩
end Go.Proofs.Ytmhnpogjkbmmnaa.PFnStates
