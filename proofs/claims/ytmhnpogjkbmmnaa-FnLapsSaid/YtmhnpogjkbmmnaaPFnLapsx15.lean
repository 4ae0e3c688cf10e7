-- Written by a program of this session: wip/mkprint.py over the kit's print, with contracts proved by hand (wip/given.py)
-- shortest of all
-- told shortest
-- told shorter still
-- shortened
-- told short
-- worlds by letters
-- squeezed
import Derived.Test.YtmhnpogjkbmmnaaPFnLapsx0
import Derived.Test.YtmhnpogjkbmmnaaPFnLapsx13
import Derived.Test.YtmhnpogjkbmmnaaPFnLapsx14
namespace Go.Proofs.Ytmhnpogjkbmmnaa.PFnLaps
open Go.RowKit Go.Proofs.YtmhnpogjkbmmnaaW.PrintWords Go.Proofs.YtmhnpogjkbmmnaaW.PrintLast Go.Proofs.YtmhnpogjkbmmnaaW.PrintMore
open Go.Proofs.YtmhnpogjkbmmnaaW.PrintWords.Kd renaming R_alloc → rA, R_drewN → rN, R_drew → rD, R_far → rF, R_mono → rM, R_base → rB, R_lower → rG
open Go.Proofs.YtmhnpogjkbmmnaaW.PrintWords renaming below_alloc → bA, pw_below_drewN → bN, below_drew1 → bD, below_set → bS, below_step → bT, blk_drewN → kN, blk_drew → kD, blk_alloc → kA, blk_cell → kC, blk_frozen → kF
open Go.Proofs.YtmhnpogjkbmmnaaW.PrintWords.Aside0 renaming mk → aM
attribute [local go_sem] max2_int min2_int max_two min_two max_three min_three max_four min_four   -- for this text's walks alone
set_option linter.unusedVariables false
set_option linter.unusedSimpArgs false

/-! ### spec_l20Step: function 134 -/
def spec_l20Step.f (k : Nat) (s0_0 : List Int) (s0_1 : Int) (a1 : Int) (a2 : Int) : Option (List Int × Int × Int × Int × Int × Int × Int × Int × Int × Int × Int × Int × Int × Int) := (spec_l1Samples.f k s0_0 s0_1 a1).bind fun bt658 => ((spec_l20Fate.f k s0_0 bt658.2 a2).bind fun bt662 => ((spec_l20Fate.f k s0_0 bt662.2.2.2.2 a2).bind fun bt667 => ((spec_l20Back.f s0_0 bt667.2.2.2.2).bind fun bt672 => (some (bt658.1, bt662.1, bt662.2.1, bt662.2.2.1, bt662.2.2.2.1, bt667.1, bt667.2.1, bt667.2.2.1, bt667.2.2.2.1, bt672.1, bt672.2.1, bt672.2.2.1, bt672.2.2.2.1, bt672.2.2.2.2)))))
theorem spec_l20Step.mono : ∀ a0 a1 a2 a3 k, LeO (spec_l20Step.f k a0 a1 a2 a3) (spec_l20Step.f (k + 1) a0 a1 a2 a3) := by
 intro a0 a1 a2 a3 k
 unfold spec_l20Step.f
 repeat' first
   | (with_reducible exact spec_l1Samples.mono _ _ _ _)
   | (with_reducible exact spec_l20Fate.mono _ _ _ _)
   | (with_reducible exact LeO.refl _)
   | (with_reducible exact LeO.none _)
   | (with_reducible refine LeO.ite ?_ ?_)
   | (with_reducible refine LeO.bind ?_ (fun _ => ?_))
   | exact spec_l1Samples.mono _ _ _ _
   | exact spec_l20Fate.mono _ _ _ _
   | exact LeO.none _
   | refine LeO.ite ?_ ?_
   | refine LeO.bind ?_ (fun _ => ?_)
set_option maxHeartbeats 8000000 in
set_option maxRecDepth 100000 in
theorem spec_l20Step.calls (k : Nat) (g : Nat) (s0_0 : List Int) (s0_1 : Int) (a1 : Int) (a2 : Int) (r1 : List Int) (r2 : Int) (r3 : Int) (r4 : Int) (r5 : Int) (r6 : Int) (r7 : Int) (r8 : Int) (r9 : Int) (r10 : Int) (r11 : Int) (r12 : Int) (r13 : Int) (r14 : Int) (w0 w : World) (hI : IsS149 w0 w g s0_0 s0_1) (hB : Below w0.heap.size w0 w) (h : spec_l20Step.f k s0_0 s0_1 a1 a2 = some (r1, r2, r3, r4, r5, r6, r7, r8, r9, r10, r11, r12, r13, r14)) :
  Calls Try.prog 134 #[.pointer (some ⟨g, 0, none⟩), .int .i64 a1, .int .i64 a2] w fun e w' => ∃ v0_ : Value, e = .returned (.agg #[v0_, .int .i64 r2, .int .i64 r3, .int .i64 r4, .int .i64 r5, .int .i64 r6, .int .i64 r7, .int .i64 r8, .int .i64 r9, .int .i64 r10, .int .i64 r11, .int .i64 r12, .int .i64 r13]) ∧ Kd.R (Kd.int .i64) 2 w' w.heap.size (fun _ => True) v0_ r1 ∧ IsS149 w0 w' g s0_0 r14 ∧ Below w0.heap.size w0 w' ∧ KeepBut w w' g none := by
 have hu84 := Try.underlying84
 have HI0 := aM hI
 have HK := aM (KeepBut.refl w g none)
 have HL := aM hB.size
 clear hI
 have HW0 := aM hB.size
 have HB := aM hB
 clear hB
 have H : ((spec_l1Samples.f k s0_0 s0_1 a1).bind fun bt658 => ((spec_l20Fate.f k s0_0 bt658.2 a2).bind fun bt662 => ((spec_l20Fate.f k s0_0 bt662.2.2.2.2 a2).bind fun bt667 => ((spec_l20Back.f s0_0 bt667.2.2.2.2).bind fun bt672 => (some (bt658.1, bt662.1, bt662.2.1, bt662.2.2.1, bt662.2.2.2.1, bt667.1, bt667.2.1, bt667.2.2.1, bt667.2.2.2.1, bt672.1, bt672.2.1, bt672.2.2.1, bt672.2.2.2.1, bt672.2.2.2.2)))))) = some (r1, r2, r3, r4, r5, r6, r7, r8, r9, r10, r11, r12, r13, r14) := h
 clear h
 replace H := bo H
 obtain ⟨⟨t658, t661⟩, A4, H⟩ := H
 replace H := bz H
 replace H := bo H
 obtain ⟨⟨t662, t663, t664, t665, t666⟩, A5, H⟩ := H
 replace H := bz H
 replace H := bo H
 obtain ⟨⟨t667, t668, t669, t670, t671⟩, A6, H⟩ := H
 replace H := bz H
 replace H := bo H
 obtain ⟨⟨t672, t673, t674, t675, t676⟩, A7, H⟩ := H
 replace H := bz H
 simp only [Option.some.injEq, Prod.mk.injEq] at H
 obtain ⟨rfl, rfl, rfl, rfl, rfl, rfl, rfl, rfl, rfl, rfl, rfl, rfl, rfl, rfl⟩ := H
 go_enter Try.func134, Try.ntmps134
 go_wp2_with (first | ((with_reducible refine gate_dst (N := 6) rfl ?_); refine box_event ?hg (N := 6) ?hd (cs := #[.slice none 0 0, .int .i64 0, .int .i64 0, .int .i64 0, .int .i64 0, .int .i64 0, .int .i64 0, .int .i64 0, .int .i64 0, .int .i64 0, .int .i64 0, .int .i64 0, .int .i64 0]) (t := 84) ?hr ?_; (case hd => rfl); (case hg => rfl); (case hr => first | (go_simp; done) | (go_simp; rfl)); intro gb657 hg w8 hbox hb; replace HB := aM (bT bq hb); have BK657 := aM (hbox); have GW657 := aM ((by rw [hg]; exact (keep_size (w := w) (g := g) (row := none) hq) : w.heap.size ≤ gb657)); have GE657 := aM ((Nat.le_trans HW0.out (by rw [hg]; exact (keep_size (w := w) (g := g) (row := none) hq) : w.heap.size ≤ gb657) : w0.heap.size ≤ gb657)); replace HK := aM (KeepBut.trans hq (KeepBut.of_below hb g none) (.inl rfl)); have NB0_657 := aM ((by rw [hg]; exact Nat.ne_of_lt (IsS149.lt (show IsS149 w0 _ g s0_0 s0_1 from sq HI0.out)) : g ≠ gb657)); have NB657_0 := aM ((by rw [hg]; exact Nat.ne_of_gt (IsS149.lt (show IsS149 w0 _ g s0_0 s0_1 from sq HI0.out)) : gb657 ≠ g)); replace HI0 := aM (IsS149.below (sq HI0.out) hb); clear hb hbox hg) | ((with_reducible refine gate_callee (f := 127) rfl ?_); refine goesL_ (some 9) rfl rfl Try.func127 kr rfl #[.pointer (some ⟨g, 0, none⟩), .int .i64 a1] rfl mq ?_; (with_reducible refine (spec_l1Samples.calls k g s0_0 s0_1 a1 t658 t661 w0 _ ?side1 ?side2 A4.out).mono ?_); (case side1 => exact sq HI0.out); (case side2 => exact bq); rintro e w9 ⟨v659, rfl, ho0, hi, hb, hk⟩; refine ⟨_, rfl, ?_⟩; replace BK657 := aM (KeepBut.blk hk (kq BK657.out) NB657_0.out (by simp)); have HO660 := aM (rG ho0 (keep_size (w := w) (g := g) (row := none) hq)); replace HK := aM (KeepBut.trans hq hk (.inl rfl)); replace HB := aM (hb); replace HI0 := aM (hi); (try clear hb); (try clear ho0)) | ((with_reducible refine gate_callee (f := 152) rfl ?_); refine goesL_ (some 12) rfl rfl Try.func152 kr rfl #[.pointer (some ⟨g, 0, none⟩), .int .i64 a2] rfl mq ?_; (with_reducible refine (spec_l20Fate.calls k g s0_0 t661 a2 t662 t663 t664 t665 t666 w0 _ ?side1 ?side2 A5.out).mono ?_); (case side1 => exact sq HI0.out); (case side2 => exact bq); rintro e w10 ⟨rfl, hi, hb, hk⟩; refine ⟨_, rfl, ?_⟩; replace BK657 := aM (KeepBut.blk hk (kq BK657.out) NB657_0.out (by simp)); replace HO660 := aM (rM (Kd.R_keep (IsS149.apart (show IsS149 w0 _ g s0_0 t661 from sq HI0.out) (rq HO660.out) (by decide)) hk (fun _ h => h.2)) (fun _ h => h.1)); replace HK := aM (KeepBut.trans hq hk (.inl rfl)); replace HB := aM (hb); replace HI0 := aM (hi); (try clear hb)) | ((with_reducible refine gate_callee (f := 152) rfl ?_); refine goesL_ (some 15) rfl rfl Try.func152 kr rfl #[.pointer (some ⟨g, 0, none⟩), .int .i64 a2] rfl mq ?_; (with_reducible refine (spec_l20Fate.calls k g s0_0 t666 a2 t667 t668 t669 t670 t671 w0 _ ?side1 ?side2 A6.out).mono ?_); (case side1 => exact sq HI0.out); (case side2 => exact bq); rintro e w11 ⟨rfl, hi, hb, hk⟩; refine ⟨_, rfl, ?_⟩; replace BK657 := aM (KeepBut.blk hk (kq BK657.out) NB657_0.out (by simp)); replace HO660 := aM (rM (Kd.R_keep (IsS149.apart (show IsS149 w0 _ g s0_0 t666 from sq HI0.out) (rq HO660.out) (by decide)) hk (fun _ h => h.2)) (fun _ h => h.1)); replace HK := aM (KeepBut.trans hq hk (.inl rfl)); replace HB := aM (hb); replace HI0 := aM (hi); (try clear hb)) | ((with_reducible refine gate_callee (f := 153) rfl ?_); refine goesL_ (some 17) rfl rfl Try.func153 kr rfl #[.pointer (some ⟨g, 0, none⟩)] rfl mq ?_; (with_reducible refine (spec_l20Back.calls g s0_0 t671 t672 t673 t674 t675 t676 w0 _ ?side1 ?side2 A7.out).mono ?_); (case side1 => exact sq HI0.out); (case side2 => exact bq); rintro e w12 ⟨rfl, hi, hb, hk⟩; refine ⟨_, rfl, ?_⟩; replace BK657 := aM (KeepBut.blk hk (kq BK657.out) NB657_0.out (by simp)); replace HO660 := aM (rM (Kd.R_keep (IsS149.apart (show IsS149 w0 _ g s0_0 t671 from sq HI0.out) (rq HO660.out) (by decide)) hk (fun _ h => h.2)) (fun _ h => h.1)); replace HK := aM (KeepBut.trans hq hk (.inl rfl)); replace HB := aM (hb); replace HI0 := aM (hi); (try clear hb); obtain ⟨Ao13, co13, eo13⟩ := Kd.R_slice HO660.out; subst eo13; have hnb14 := NB657_0.out; have hnc14 := NB0_657.out; have hcz15_0 : w12.cell? ⟨gb657, 0, none⟩ = some (.slice none 0 0) := cc; have hcz15_1 : w12.cell? ⟨gb657, 1, none⟩ = some (.int .i64 0) := cc; have hcz15_2 : w12.cell? ⟨gb657, 2, none⟩ = some (.int .i64 0) := cc; have hcz15_3 : w12.cell? ⟨gb657, 3, none⟩ = some (.int .i64 0) := cc; have hcz15_4 : w12.cell? ⟨gb657, 4, none⟩ = some (.int .i64 0) := cc; have hcz15_5 : w12.cell? ⟨gb657, 5, none⟩ = some (.int .i64 0) := cc; have hcz15_6 : w12.cell? ⟨gb657, 6, none⟩ = some (.int .i64 0) := cc; have hcz15_7 : w12.cell? ⟨gb657, 7, none⟩ = some (.int .i64 0) := cc; have hcz15_8 : w12.cell? ⟨gb657, 8, none⟩ = some (.int .i64 0) := cc; have hcz15_9 : w12.cell? ⟨gb657, 9, none⟩ = some (.int .i64 0) := cc; have hcz15_10 : w12.cell? ⟨gb657, 10, none⟩ = some (.int .i64 0) := cc; have hcz15_11 : w12.cell? ⟨gb657, 11, none⟩ = some (.int .i64 0) := cc; have hcz15_12 : w12.cell? ⟨gb657, 12, none⟩ = some (.int .i64 0) := cc; have hfz15_0 := kF BK657.out 0; have hfz15_1 := kF BK657.out 1; have hfz15_2 := kF BK657.out 2; have hfz15_3 := kF BK657.out 3; have hfz15_4 := kF BK657.out 4; have hfz15_5 := kF BK657.out 5; have hfz15_6 := kF BK657.out 6; have hfz15_7 := kF BK657.out 7; have hfz15_8 := kF BK657.out 8; have hfz15_9 := kF BK657.out 9; have hfz15_10 := kF BK657.out 10; have hfz15_11 := kF BK657.out 11; have hfz15_12 := kF BK657.out 12))
 refine bodyPost_ret (results_cell_row rfl _ _ gb657 84 #[.slice Ao13 t658.length co13, .int .i64 t662, .int .i64 t663, .int .i64 t664, .int .i64 t665, .int .i64 t667, .int .i64 t668, .int .i64 t669, .int .i64 t670, .int .i64 t672, .int .i64 t673, .int .i64 t674, .int .i64 t675] (0, 0) _ rfl (fq BK657.out) Try.underlying84 rfl kr) rfl ?_
 exact ⟨_, ew, rM (rf (Kd.R_types HO660.out BK657.out (by decide))) (fun _ hk => trivial), sq HI0.out, bq, hq⟩

/-! ### spec_l20Steps: function 99 -/
def spec_l20Steps.l0 : Nat → Int → Int → Int → List (S84) → List Int → Int → Option ((List (S84)) × Int)
 | 0, _, _, _, _, _, _ => none
 | k + 1, x1, x2, x3, x9, x1000, x1001 => if x2 > 0 then ((spec_l20Step.f k x1000 x1001 x1 x3).bind fun bt680 => (if x9.length < 1172812402961 then (spec_l20Steps.l0 k x1 (wrap64 (x2 - 1)) x3 (x9 ++ [(⟨bt680.1, (⟨bt680.2.1, bt680.2.2.1, bt680.2.2.2.1, bt680.2.2.2.2.1⟩ : S82), (⟨bt680.2.2.2.2.2.1, bt680.2.2.2.2.2.2.1, bt680.2.2.2.2.2.2.2.1, bt680.2.2.2.2.2.2.2.2.1⟩ : S82), (⟨bt680.2.2.2.2.2.2.2.2.2.1, bt680.2.2.2.2.2.2.2.2.2.2.1, bt680.2.2.2.2.2.2.2.2.2.2.2.1, bt680.2.2.2.2.2.2.2.2.2.2.2.2.1⟩ : S82)⟩ : S84)]) x1000 bt680.2.2.2.2.2.2.2.2.2.2.2.2.2) else (none))) else (some (x9, x1001))
def spec_l20Steps.f (k : Nat) (s0_0 : List Int) (s0_1 : Int) (a1 : Int) (a2 : Int) (a3 : Int) : Option ((List (S84)) × Int) := spec_l20Steps.l0 k a1 a2 a3 (([] : List (S84))) s0_0 s0_1
theorem spec_l20Steps.mono_l : ∀ k, (∀ y0 y1 y2 y3 y4 y5, LeO (spec_l20Steps.l0 k y0 y1 y2 y3 y4 y5) (spec_l20Steps.l0 (k + 1) y0 y1 y2 y3 y4 y5))
 | 0 => fun _ _ _ _ _ _ r h => by simp [spec_l20Steps.l0] at h
 | k + 1 => by
  have ih0 := spec_l20Steps.mono_l k
  ·intro y0 y1 y2 y3 y4 y5
   unfold spec_l20Steps.l0
   repeat' first
   | (with_reducible exact ih0 _ _ _ _ _ _)
   | (with_reducible exact spec_l20Step.mono _ _ _ _ _)
   | (with_reducible exact LeO.refl _)
   | (with_reducible exact LeO.none _)
   | (with_reducible refine LeO.ite ?_ ?_)
   | (with_reducible refine LeO.bind ?_ (fun _ => ?_))
   | exact ih0 _ _ _ _ _ _
   | exact spec_l20Step.mono _ _ _ _ _
   | exact LeO.none _
   | refine LeO.ite ?_ ?_
   | refine LeO.bind ?_ (fun _ => ?_)
theorem spec_l20Steps.mono : ∀ a0 a1 a2 a3 a4 k, LeO (spec_l20Steps.f k a0 a1 a2 a3 a4) (spec_l20Steps.f (k + 1) a0 a1 a2 a3 a4) := by
 intro a0 a1 a2 a3 a4 k
 have ih0 := spec_l20Steps.mono_l k
 unfold spec_l20Steps.f
 repeat' first
   | (with_reducible exact ih0 _ _ _ _ _ _)
   | (with_reducible exact spec_l20Step.mono _ _ _ _ _)
   | (with_reducible exact LeO.refl _)
   | (with_reducible exact LeO.none _)
   | (with_reducible refine LeO.ite ?_ ?_)
   | (with_reducible refine LeO.bind ?_ (fun _ => ?_))
   | exact ih0 _ _ _ _ _ _
   | exact spec_l20Step.mono _ _ _ _ _
   | exact LeO.none _
   | refine LeO.ite ?_ ?_
   | refine LeO.bind ?_ (fun _ => ?_)
set_option maxHeartbeats 8000000 in
set_option maxRecDepth 100000 in
theorem spec_l20Steps.calls (k : Nat) (g : Nat) (s0_0 : List Int) (s0_1 : Int) (a1 : Int) (a2 : Int) (a3 : Int) (r1 : List (S84)) (r2 : Int) (w0 w : World) (hI : IsS149 w0 w g s0_0 s0_1) (hB : Below w0.heap.size w0 w) (h : spec_l20Steps.f k s0_0 s0_1 a1 a2 a3 = some (r1, r2)) :
  Calls Try.prog 99 #[.pointer (some ⟨g, 0, none⟩), .int .i64 a1, .int .i64 a2, .int .i64 a3] w fun e w' => ∃ v0_ : Value, e = .returned (v0_) ∧ Kd.S k84 84 w' w.heap.size (fun _ => True) v0_ r1 ∧ IsS149 w0 w' g s0_0 r2 ∧ Below w0.heap.size w0 w' ∧ KeepBut w w' g none := by
 have HI0 := aM hI
 have HK := aM (KeepBut.refl w g none)
 have HL := aM hB.size
 clear hI
 have HW0 := aM hB.size
 have HB := aM hB
 clear hB
 have H : (spec_l20Steps.l0 k a1 a2 a3 (([] : List (S84))) s0_0 s0_1) = some (r1, r2) := h
 clear h
 obtain ⟨y677, hy677⟩ : ∃ y_ : List (S84), y_ = (([] : List (S84))) := ⟨_, rfl⟩
 replace H : (spec_l20Steps.l0 k a1 a2 a3 y677 s0_0 s0_1) = some (r1, r2) := hl hy677 H
 have Ny677 := aM hy677
 clear hy677
 have H' := aM H
 clear H
 go_enter Try.func99, Try.ntmps99
 go_wp2_with (first | ((with_reducible refine gate_dst (N := 10) rfl ?_); refine Kd.S_lit k84 _ 84 ?hg (N := 10) ?hd (xs := ([] : List (S84))) (inner := []) (ok := fun _ => True) (okp := fun _ => True) ?hr ?hp (fun _ hk => hk) trivial (Below.refl _ _) (Nat.le_refl _) (by simp) ?_; (case hd => rfl); (case hg => rfl); (case hr => first | (go_simp; done) | (go_simp; rfl)); (case hp => exact (Reps.none _ _)); intro v678 w5 ho6 hb hg_ hnew_; clear hg_ hnew_; (first | rw [← Ny677.out] at ho6 | (simp only [Int.reduceToNat] at ho6; rw [← Ny677.out] at ho6)); have HO679 := aM (Kd.S_lower ho6 (keep_size (w := w) (g := g) (row := none) hq)); replace HK := aM (KeepBut.trans hq (KeepBut.of_below hb g none) (.inl rfl)); replace HB := aM (bT bq hb); replace HI0 := aM (IsS149.below (sq HI0.out) hb); clear hb ho6))
 go_loopg [2, 9] k (fun kq v2 v9 w' => ∃ (x2_1 : Int) (x9_1 : List (S84)) (x1001_1 : Int), v2 = .int .i64 x2_1 ∧ Aside0 (spec_l20Steps.l0 kq a1 x2_1 a3 x9_1 s0_0 x1001_1 = some (r1, r2)) ∧ Aside0 (kq ≤ k) ∧ Aside0 (Kd.S k84 84 w' w.heap.size (fun _ => True) v9 x9_1) ∧ Aside0 (IsS149 w0 w' g s0_0 x1001_1) ∧ Aside0 (KeepBut w w' g none) ∧ Aside0 (Below w0.heap.size w0 w'))
 case atStart => exact ⟨(a2), (y677), (s0_1), (ex), H', ⟨Nat.le_refl _⟩, ⟨by (with_reducible repeat (first | apply Kd.S_alloc | apply Kd.S_drewN | apply Kd.S_drew)); exact HO679.out⟩, ⟨sq HI0.out⟩, ⟨hq⟩, ⟨bq⟩⟩
 case round =>
  clear H'
  try clear p2
  obtain ⟨x2_1, x9_1, x1001_1, rfl, HA, HK1, HO_9, HI0, HK, HB⟩ := hrel
  cases gk with
  | zero => exact absurd HA.out (by simp [spec_l20Steps.l0])
  | succ k1 =>
   have H := HA.out
   clear HA
   simp only [spec_l20Steps.l0] at H
   by_cases c7 : x2_1 > 0
   ·rw [if_pos c7] at H
    have c7b0 : decide (0 < x2_1) = true := decide_eq_true c7
    clear c7
    replace H := bo H
    obtain ⟨⟨t680, t683, t684, t685, t686, t687, t688, t689, t690, t691, t692, t693, t694, t695⟩, A8, H⟩ := H
    replace H := bz H
    by_cases c9 : x9_1.length < 1172812402961
    ·rw [if_pos c9] at H
     have LMc9 := aM c9
     clear c9
     obtain ⟨y696, hy696⟩ : ∃ y_ : List (S84), y_ = (x9_1 ++ [(⟨t680, (⟨t683, t684, t685, t686⟩ : S82), (⟨t687, t688, t689, t690⟩ : S82), (⟨t691, t692, t693, t694⟩ : S82)⟩ : S84)]) := ⟨_, rfl⟩
     replace H : (spec_l20Steps.l0 k1 a1 (wrap64 (x2_1 - 1)) a3 y696 s0_0 t695) = some (r1, r2) := hl hy696 H
     have Ny696 := aM hy696
     clear hy696
     have H' := aM H
     clear H
     go_wp2_with (first | ((with_reducible refine gate_callee (f := 134) rfl ?_); refine goesL_ (some 19) rfl rfl Try.func134 kr rfl #[.pointer (some ⟨g, 0, none⟩), .int .i64 a1, .int .i64 a3] rfl mq ?_; (with_reducible refine (spec_l20Step.calls k1 g s0_0 x1001_1 a1 a3 t680 t683 t684 t685 t686 t687 t688 t689 t690 t691 t692 t693 t694 t695 w0 _ ?side1 ?side2 A8.out).mono ?_); (case side1 => exact sq HI0.out); (case side2 => exact bq); rintro e w10 ⟨v681, rfl, ho0, hi, hb, hk⟩; refine ⟨_, rfl, ?_⟩; replace HO_9 := aM (Kd.S_mono (Kd.S_told (Kd.S_oldK (IsS149.apartS (show IsS149 w0 _ g s0_0 x1001_1 from sq HI0.out) (by (with_reducible repeat (first | apply Kd.S_alloc | apply Kd.S_drewN | apply Kd.S_drew)); exact HO_9.out) (by decide)) hk) (rB ho0)) (fun _ h_ => h_.1)); have HO682 := aM (rG ho0 (keep_size (w := w) (g := g) (row := none) hq)); replace HK := aM (KeepBut.trans hq hk (.inl rfl)); replace HB := aM (hb); replace HI0 := aM (hi); (try clear hb); (try clear ho0); obtain ⟨Ao12, co12, eo12⟩ := Kd.R_slice HO682.out; subst eo12) | ((with_reducible refine gate_builtin (b := .append) (xs := #[.tmp 15, .tmp 20]) rfl ?_); at_builtin; refine Kd.S_append k84 w.heap.size rfl (.tmp 15) (.tmp 20) 75 84 (.agg #[(.slice none 0 0), (.int .i64 0), (.int .i64 0), (.int .i64 0), (.int .i64 0), (.int .i64 0), (.int .i64 0), (.int .i64 0), (.int .i64 0), (.int .i64 0), (.int .i64 0), (.int .i64 0), (.int .i64 0)]) 120 rfl Try.underlying75 info84 rfl (by decide) (by omega) u9 x9_1 (⟨t680, (⟨t683, t684, t685, t686⟩ : S82), (⟨t687, t688, t689, t690⟩ : S82), (⟨t691, t692, t693, t694⟩ : S82)⟩ : S84) [.slice Ao12 t680.length co12, .int .i64 t683, .int .i64 t684, .int .i64 t685, .int .i64 t686, .int .i64 t687, .int .i64 t688, .int .i64 t689, .int .i64 t690, .int .i64 t691, .int .i64 t692, .int .i64 t693, .int .i64 t694] (fun _ => True) (fun k_ => some k_ = (.slice Ao12 t680.length co12 : Value).ownBlock) rfl rfl ?aP (fun k_ hk_ => ((rM (ok' := fun k_ => ((fun _ => True)) k_ ∧ nb u9 k_) (Kd.R_apart' (HO682.out) (Kd.S_typed HO_9.out) (by decide)) (fun k_ hk => ⟨trivial, hk.2⟩))).1 k_ hk_.symm) ?aF ?aO (Below.refl _ _) ?aS ?aL ?_; (case aP => exact k84_mkM _ _ _ (⟨t680, (⟨t683, t684, t685, t686⟩ : S82), (⟨t687, t688, t689, t690⟩ : S82), (⟨t691, t692, t693, t694⟩ : S82)⟩ : S84) (rM (Kd.R_tight rfl (rM (ok' := fun k_ => ((fun _ => True)) k_ ∧ nb u9 k_) (Kd.R_apart' (HO682.out) (Kd.S_typed HO_9.out) (by decide)) (fun k_ hk => ⟨trivial, hk.2⟩))) (fun _ h_ => h_))); (case aF => exact (fun _ _ => trivial)); (case aO => exact (by (with_reducible repeat (first | apply Kd.S_alloc | apply Kd.S_drewN | apply Kd.S_drew)); exact Kd.S_mono HO_9.out (fun k_ hk => ⟨trivial, fun e_ => hk.2 e_⟩))); (case aS => exact (keep_size (w := w) (g := g) (row := none) hq)); (case aL => have := LMc9.out; omega); intro v697 w11 ho hb hg hat; rw [← Ny696.out] at ho; replace HB := aM (below_weaken bq HL.out hb); replace HI0 := aM (IsS149.grown (sq HI0.out) hg (IsS149.own_neS HI0.out HO_9.out (by decide))); replace HK := aM (KeepBut.trans hq (KeepBut.of_grown hg g) (Kd.S_base2 HO_9.out)); have HO698 := aM (ho); clear HO_9 HO682 ho hb hg hat))
     go_roundg k1
     case measure => have := HK1.out; omega
     case rel => exact ⟨(wrap64 (x2_1 - 1)), (y696), (t695), (ex), H', ⟨by have := HK1.out; omega⟩, ⟨by (with_reducible repeat (first | apply Kd.S_alloc | apply Kd.S_drewN | apply Kd.S_drew)); exact HO698.out⟩, ⟨sq HI0.out⟩, ⟨hq⟩, ⟨bq⟩⟩
    ·rw [if_neg c9] at H
     exact absurd H (by simp)
   ·rw [if_neg c7] at H
    have c7b0 : decide (0 < x2_1) = false := decide_eq_false c7
    clear c7
    simp only [Option.some.injEq, Prod.mk.injEq] at H
    obtain ⟨rfl, rfl⟩ := H
    go_wp2
    go_ret
    exact ⟨_, ew, by (with_reducible repeat (first | apply Kd.S_alloc | apply Kd.S_drewN | apply Kd.S_drew)); exact HO_9.out, sq HI0.out, bq, hq⟩

end Go.Proofs.Ytmhnpogjkbmmnaa.PFnLaps
