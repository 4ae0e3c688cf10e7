-- Written by a program of this session: wip/mkprint.py over the kit's print, with contracts proved by hand (wip/given.py)
-- shortened
-- told short
-- squeezed
import Derived.Test.YtjdgebfihbhbaaaPFnExactPlayBlockx0
import Derived.Test.YtjdgebfihbhbaaaPFnExactPlayBlockx1
namespace Go.Proofs.Ytjdgebfihbhbaaa.PFnExactPlayBlock
open Go.RowKit Go.Proofs.YtjdgebfihbhbaaaW.PrintWords Go.Proofs.YtjdgebfihbhbaaaW.PrintLast Go.Proofs.YtjdgebfihbhbaaaW.PrintMore
open Go.Proofs.YtjdgebfihbhbaaaW.PrintWords.Kd renaming R_alloc → rA, R_drewN → rN, R_drew → rD, R_mono → rM, R_below → rL, C_below → cB
open Go.Proofs.YtjdgebfihbhbaaaW.PrintWords renaming below_alloc → bA, pw_below_drewN → bN, below_drew1 → bD, below_set → bS, below_step → bT, below_size → bZ, blk_below → kB, blk_cell → kC, blk_frozen → kF
open Go.Proofs.YtjdgebfihbhbaaaW.PrintWords.Aside0 renaming mk → aM
attribute [local go_sem] max2_int min2_int max_two min_two max_three min_three max_four min_four   -- for this text's walks alone
set_option linter.unusedVariables false
set_option linter.unusedSimpArgs false

/-! ### laws_eqSynth: function 21 -/
def laws_eqSynth.f (k : Nat) (a0_0 : Int) (l0_1 : List Int) (l0_2 : List Int) (a1_0 : Int) (l1_1 : List Int) (l1_2 : List Int) : Option (Bool) := if a0_0 = a1_0 then ((laws_eqInt64S.f k l0_1 l1_1).bind fun t414 => (if t414 = true then ((laws_eqInt64S.f k l0_2 l1_2).bind fun t415 => (if t415 = true then (some true) else (some false))) else (some false))) else (some false)
theorem laws_eqSynth.mono : ∀ a0 a1 a2 a3 a4 a5 k, LeO (laws_eqSynth.f k a0 a1 a2 a3 a4 a5) (laws_eqSynth.f (k + 1) a0 a1 a2 a3 a4 a5) := by
 intro a0 a1 a2 a3 a4 a5 k
 unfold laws_eqSynth.f
 repeat' first
   | (with_reducible exact laws_eqInt64S.mono _ _ _)
   | (with_reducible exact LeO.refl _)
   | (with_reducible exact LeO.none _)
   | (with_reducible refine LeO.ite ?_ ?_)
   | (with_reducible refine LeO.bind ?_ (fun _ => ?_))
   | exact laws_eqInt64S.mono _ _ _
   | exact LeO.none _
   | refine LeO.ite ?_ ?_
   | refine LeO.bind ?_ (fun _ => ?_)
set_option maxHeartbeats 8000000 in
set_option maxRecDepth 100000 in
theorem laws_eqSynth.calls (k : Nat) (a0_0 : Int) (A0_1 : Option Addr) (c0_1 : Nat) (l0_1 : List Int) (A0_2 : Option Addr) (c0_2 : Nat) (l0_2 : List Int) (a1_0 : Int) (A1_1 : Option Addr) (c1_1 : Nat) (l1_1 : List Int) (A1_2 : Option Addr) (c1_2 : Nat) (l1_2 : List Int) (r : Bool) (w : World) (hr0_1 : Kd.C (Kd.int .i64) w A0_1 l0_1.length l0_1) (hc0_1 : l0_1.length ≤ c0_1) (hr0_2 : Kd.C (Kd.int .i64) w A0_2 l0_2.length l0_2) (hc0_2 : l0_2.length ≤ c0_2) (hr1_1 : Kd.C (Kd.int .i64) w A1_1 l1_1.length l1_1) (hc1_1 : l1_1.length ≤ c1_1) (hr1_2 : Kd.C (Kd.int .i64) w A1_2 l1_2.length l1_2) (hc1_2 : l1_2.length ≤ c1_2) (h : laws_eqSynth.f k a0_0 l0_1 l0_2 a1_0 l1_1 l1_2 = some r) :
  Calls Try.prog 21 #[.agg #[.int .i64 a0_0, .slice A0_1 l0_1.length c0_1, .slice A0_2 l0_2.length c0_2], .agg #[.int .i64 a1_0, .slice A1_1 l1_1.length c1_1, .slice A1_2 l1_2.length c1_2]] w fun e w' => e = .returned (.bool r) ∧ Below w.heap.size w w' := by
 have hu35 := Try.underlying35
 have HR0_1 := aM hr0_1
 have HC0_1 := aM hc0_1
 clear hr0_1 hc0_1
 have HR0_2 := aM hr0_2
 have HC0_2 := aM hc0_2
 clear hr0_2 hc0_2
 have HR1_1 := aM hr1_1
 have HC1_1 := aM hc1_1
 clear hr1_1 hc1_1
 have HR1_2 := aM hr1_2
 have HC1_2 := aM hc1_2
 clear hr1_2 hc1_2
 have HB := aM (Below.refl w.heap.size w)
 have H : (if a0_0 = a1_0 then ((laws_eqInt64S.f k l0_1 l1_1).bind fun t414 => (if t414 = true then ((laws_eqInt64S.f k l0_2 l1_2).bind fun t415 => (if t415 = true then (some true) else (some false))) else (some false))) else (some false)) = some r := h
 clear h
 by_cases c3 : a0_0 = a1_0
 ·rw [if_pos c3] at H
  have c3b0 : (a0_0 == a1_0) = true := beq_iff_eq.mpr c3
  have c3b1 : (a0_0 != a1_0) = false := bne_eq_false_iff_eq.mpr c3
  clear c3
  replace H := Option.bind_eq_some_iff.mp H
  obtain ⟨t414, A40, H⟩ := H
  replace H : (if t414 = true then ((laws_eqInt64S.f k l0_2 l1_2).bind fun t415 => (if t415 = true then (some true) else (some false))) else (some false)) = some r := H
  have A4 := aM A40
  clear A40
  by_cases c5 : t414 = true
  ·subst c5
   have H1 : ((laws_eqInt64S.f k l0_2 l1_2).bind fun t415 => (if t415 = true then (some true) else (some false))) = some r := by rw [if_pos rfl] at H; exact H
   clear H
   have H := H1
   clear H1
   replace H := Option.bind_eq_some_iff.mp H
   obtain ⟨t415, A60, H⟩ := H
   replace H : (if t415 = true then (some true) else (some false)) = some r := H
   have A6 := aM A60
   clear A60
   by_cases c7 : t415 = true
   ·subst c7
    have H1 : (some true) = some r := by rw [if_pos rfl] at H; exact H
    clear H
    have H := H1
    clear H1
    obtain rfl := Option.some.inj H
    go_enter Try.func21, Try.ntmps21
    go_wp2_with (first | ((with_reducible refine gate_dst (N := 2) rfl ?_); refine box_event ?hg (N := 2) ?hd (cs := #[.int .i64 a0_0, .slice A0_1 l0_1.length c0_1, .slice A0_2 l0_2.length c0_2]) (t := 35) ?hr ?_; (case hd => rfl); (case hg => rfl); (case hr => first | (go_simp; done) | (go_simp; rfl)); intro gb412 hg w8 hbox hb; have n0_ := aM (bT bq hb); have n1_ := aM (hbox); have n2_ := aM ((by rw [hg]; exact (bZ bq) : w.heap.size ≤ gb412)); have n3_ := aM ((by rw [hg]; exact (bZ bq) : w.heap.size ≤ gb412)); clear HB; have HB := n0_; have BK412 := n1_; have GW412 := n2_; have GE412 := n3_; clear n0_ n1_ n2_ n3_ hb hbox hg) | ((with_reducible refine gate_dst (N := 3) rfl ?_); refine box_event ?hg (N := 3) ?hd (cs := #[.int .i64 a1_0, .slice A1_1 l1_1.length c1_1, .slice A1_2 l1_2.length c1_2]) (t := 35) ?hr ?_; (case hd => rfl); (case hg => rfl); (case hr => first | (go_simp; done) | (go_simp; rfl)); intro gb413 hg w9 hbox hb; have n0_ := aM (kB (g := gb412) (o := .cells #[.int .i64 a0_0, .slice A0_1 l0_1.length c0_1, .slice A0_2 l0_2.length c0_2] 35 (0, 0)) (kq BK412.out) hb); have n1_ := aM (bT bq hb); have n2_ := aM (hbox); have n3_ := aM ((by rw [hg]; exact (bZ bq) : w.heap.size ≤ gb413)); have n4_ := aM ((by rw [hg]; exact (bZ bq) : w.heap.size ≤ gb413)); have n5_ := aM ((by rw [hg]; exact Nat.ne_of_lt (blk_lt (g := gb412) (o := .cells #[.int .i64 a0_0, .slice A0_1 l0_1.length c0_1, .slice A0_2 l0_2.length c0_2] 35 (0, 0)) (kq BK412.out)) : gb412 ≠ gb413)); have n6_ := aM ((by rw [hg]; exact Nat.ne_of_gt (blk_lt (g := gb412) (o := .cells #[.int .i64 a0_0, .slice A0_1 l0_1.length c0_1, .slice A0_2 l0_2.length c0_2] 35 (0, 0)) (kq BK412.out)) : gb413 ≠ gb412)); clear BK412 HB; have BK412 := n0_; have HB := n1_; have BK413 := n2_; have GW413 := n3_; have GE413 := n4_; have NB412_413 := n5_; have NB413_412 := n6_; clear n0_ n1_ n2_ n3_ n4_ n5_ n6_ hb hbox hg; have hnb10 := NB412_413.out; have hnc10 := NB413_412.out; have hcz11_0 : w9.cell? ⟨gb412, 0, none⟩ = some (.int .i64 a0_0) := (kC BK412.out 0).trans rfl; have hcz11_1 : w9.cell? ⟨gb412, 1, none⟩ = some (.slice A0_1 l0_1.length c0_1) := (kC BK412.out 1).trans rfl; have hcz11_2 : w9.cell? ⟨gb412, 2, none⟩ = some (.slice A0_2 l0_2.length c0_2) := (kC BK412.out 2).trans rfl; have hfz11_0 := kF BK412.out 0; have hfz11_1 := kF BK412.out 1; have hfz11_2 := kF BK412.out 2; have hcz12_0 : w9.cell? ⟨gb413, 0, none⟩ = some (.int .i64 a1_0) := (kC BK413.out 0).trans rfl; have hcz12_1 : w9.cell? ⟨gb413, 1, none⟩ = some (.slice A1_1 l1_1.length c1_1) := (kC BK413.out 1).trans rfl; have hcz12_2 : w9.cell? ⟨gb413, 2, none⟩ = some (.slice A1_2 l1_2.length c1_2) := (kC BK413.out 2).trans rfl; have hfz12_0 := kF BK413.out 0; have hfz12_1 := kF BK413.out 1; have hfz12_2 := kF BK413.out 2) | ((with_reducible refine gate_callee (f := 12) rfl ?_); refine goesL_ (some 14) rfl rfl Try.func12 (by kernel_rfl) rfl #[.slice A0_1 l0_1.length c0_1, .slice A1_1 l1_1.length c1_1] rfl mq ?_; (with_reducible refine (laws_eqInt64S.calls k _ _ l0_1 _ _ l1_1 true _ ?side1 ?side2 ?side3 ?side4 A4.out).mono ?_); (case side1 => exact cq (cB HR0_1.out HB.out)); (case side2 => exact HC0_1.out); (case side3 => exact cq (cB HR1_1.out HB.out)); (case side4 => exact HC1_1.out); rintro e w' ⟨rfl, ⟨nd, rfl⟩⟩; refine ⟨_, rfl, ?_⟩) | ((with_reducible refine gate_callee (f := 12) rfl ?_); refine goesL_ (some 20) rfl rfl Try.func12 (by kernel_rfl) rfl #[.slice A0_2 l0_2.length c0_2, .slice A1_2 l1_2.length c1_2] rfl mq ?_; (with_reducible refine (laws_eqInt64S.calls k _ _ l0_2 _ _ l1_2 true _ ?side1 ?side2 ?side3 ?side4 A6.out).mono ?_); (case side1 => exact cq (cB HR0_2.out bq)); (case side2 => exact HC0_2.out); (case side3 => exact cq (cB HR1_2.out bq)); (case side4 => exact HC1_2.out); rintro e w' ⟨rfl, ⟨nd, rfl⟩⟩; refine ⟨_, rfl, ?_⟩))
    go_ret
    exact ⟨by first | rfl | (simp [errW_none, errW_some] <;> rfl) | (simp [*, errW_none, errW_some] <;> rfl), bq⟩
   ·replace c7 := Bool.eq_false_iff.mpr c7
    subst c7
    have H1 : (some false) = some r := by rw [if_neg (show ¬ (false = true) by decide)] at H; exact H
    clear H
    have H := H1
    clear H1
    obtain rfl := Option.some.inj H
    go_enter Try.func21, Try.ntmps21
    go_wp2_with (first | ((with_reducible refine gate_dst (N := 2) rfl ?_); refine box_event ?hg (N := 2) ?hd (cs := #[.int .i64 a0_0, .slice A0_1 l0_1.length c0_1, .slice A0_2 l0_2.length c0_2]) (t := 35) ?hr ?_; (case hd => rfl); (case hg => rfl); (case hr => first | (go_simp; done) | (go_simp; rfl)); intro gb412 hg w13 hbox hb; have n0_ := aM (bT bq hb); have n1_ := aM (hbox); have n2_ := aM ((by rw [hg]; exact (bZ bq) : w.heap.size ≤ gb412)); have n3_ := aM ((by rw [hg]; exact (bZ bq) : w.heap.size ≤ gb412)); clear HB; have HB := n0_; have BK412 := n1_; have GW412 := n2_; have GE412 := n3_; clear n0_ n1_ n2_ n3_ hb hbox hg) | ((with_reducible refine gate_dst (N := 3) rfl ?_); refine box_event ?hg (N := 3) ?hd (cs := #[.int .i64 a1_0, .slice A1_1 l1_1.length c1_1, .slice A1_2 l1_2.length c1_2]) (t := 35) ?hr ?_; (case hd => rfl); (case hg => rfl); (case hr => first | (go_simp; done) | (go_simp; rfl)); intro gb413 hg w14 hbox hb; have n0_ := aM (kB (g := gb412) (o := .cells #[.int .i64 a0_0, .slice A0_1 l0_1.length c0_1, .slice A0_2 l0_2.length c0_2] 35 (0, 0)) (kq BK412.out) hb); have n1_ := aM (bT bq hb); have n2_ := aM (hbox); have n3_ := aM ((by rw [hg]; exact (bZ bq) : w.heap.size ≤ gb413)); have n4_ := aM ((by rw [hg]; exact (bZ bq) : w.heap.size ≤ gb413)); have n5_ := aM ((by rw [hg]; exact Nat.ne_of_lt (blk_lt (g := gb412) (o := .cells #[.int .i64 a0_0, .slice A0_1 l0_1.length c0_1, .slice A0_2 l0_2.length c0_2] 35 (0, 0)) (kq BK412.out)) : gb412 ≠ gb413)); have n6_ := aM ((by rw [hg]; exact Nat.ne_of_gt (blk_lt (g := gb412) (o := .cells #[.int .i64 a0_0, .slice A0_1 l0_1.length c0_1, .slice A0_2 l0_2.length c0_2] 35 (0, 0)) (kq BK412.out)) : gb413 ≠ gb412)); clear BK412 HB; have BK412 := n0_; have HB := n1_; have BK413 := n2_; have GW413 := n3_; have GE413 := n4_; have NB412_413 := n5_; have NB413_412 := n6_; clear n0_ n1_ n2_ n3_ n4_ n5_ n6_ hb hbox hg; have hnb15 := NB412_413.out; have hnc15 := NB413_412.out; have hcz16_0 : w14.cell? ⟨gb412, 0, none⟩ = some (.int .i64 a0_0) := (kC BK412.out 0).trans rfl; have hcz16_1 : w14.cell? ⟨gb412, 1, none⟩ = some (.slice A0_1 l0_1.length c0_1) := (kC BK412.out 1).trans rfl; have hcz16_2 : w14.cell? ⟨gb412, 2, none⟩ = some (.slice A0_2 l0_2.length c0_2) := (kC BK412.out 2).trans rfl; have hfz16_0 := kF BK412.out 0; have hfz16_1 := kF BK412.out 1; have hfz16_2 := kF BK412.out 2; have hcz17_0 : w14.cell? ⟨gb413, 0, none⟩ = some (.int .i64 a1_0) := (kC BK413.out 0).trans rfl; have hcz17_1 : w14.cell? ⟨gb413, 1, none⟩ = some (.slice A1_1 l1_1.length c1_1) := (kC BK413.out 1).trans rfl; have hcz17_2 : w14.cell? ⟨gb413, 2, none⟩ = some (.slice A1_2 l1_2.length c1_2) := (kC BK413.out 2).trans rfl; have hfz17_0 := kF BK413.out 0; have hfz17_1 := kF BK413.out 1; have hfz17_2 := kF BK413.out 2) | ((with_reducible refine gate_callee (f := 12) rfl ?_); refine goesL_ (some 14) rfl rfl Try.func12 (by kernel_rfl) rfl #[.slice A0_1 l0_1.length c0_1, .slice A1_1 l1_1.length c1_1] rfl mq ?_; (with_reducible refine (laws_eqInt64S.calls k _ _ l0_1 _ _ l1_1 true _ ?side1 ?side2 ?side3 ?side4 A4.out).mono ?_); (case side1 => exact cq (cB HR0_1.out HB.out)); (case side2 => exact HC0_1.out); (case side3 => exact cq (cB HR1_1.out HB.out)); (case side4 => exact HC1_1.out); rintro e w' ⟨rfl, ⟨nd, rfl⟩⟩; refine ⟨_, rfl, ?_⟩) | ((with_reducible refine gate_callee (f := 12) rfl ?_); refine goesL_ (some 20) rfl rfl Try.func12 (by kernel_rfl) rfl #[.slice A0_2 l0_2.length c0_2, .slice A1_2 l1_2.length c1_2] rfl mq ?_; (with_reducible refine (laws_eqInt64S.calls k _ _ l0_2 _ _ l1_2 false _ ?side1 ?side2 ?side3 ?side4 A6.out).mono ?_); (case side1 => exact cq (cB HR0_2.out bq)); (case side2 => exact HC0_2.out); (case side3 => exact cq (cB HR1_2.out bq)); (case side4 => exact HC1_2.out); rintro e w' ⟨rfl, ⟨nd, rfl⟩⟩; refine ⟨_, rfl, ?_⟩))
    go_ret
    exact ⟨by first | rfl | (simp [errW_none, errW_some] <;> rfl) | (simp [*, errW_none, errW_some] <;> rfl), bq⟩
  ·replace c5 := Bool.eq_false_iff.mpr c5
   subst c5
   have H1 : (some false) = some r := by rw [if_neg (show ¬ (false = true) by decide)] at H; exact H
   clear H
   have H := H1
   clear H1
   obtain rfl := Option.some.inj H
   go_enter Try.func21, Try.ntmps21
   go_wp2_with (first | ((with_reducible refine gate_dst (N := 2) rfl ?_); refine box_event ?hg (N := 2) ?hd (cs := #[.int .i64 a0_0, .slice A0_1 l0_1.length c0_1, .slice A0_2 l0_2.length c0_2]) (t := 35) ?hr ?_; (case hd => rfl); (case hg => rfl); (case hr => first | (go_simp; done) | (go_simp; rfl)); intro gb412 hg w18 hbox hb; have n0_ := aM (bT bq hb); have n1_ := aM (hbox); have n2_ := aM ((by rw [hg]; exact (bZ bq) : w.heap.size ≤ gb412)); have n3_ := aM ((by rw [hg]; exact (bZ bq) : w.heap.size ≤ gb412)); clear HB; have HB := n0_; have BK412 := n1_; have GW412 := n2_; have GE412 := n3_; clear n0_ n1_ n2_ n3_ hb hbox hg) | ((with_reducible refine gate_dst (N := 3) rfl ?_); refine box_event ?hg (N := 3) ?hd (cs := #[.int .i64 a1_0, .slice A1_1 l1_1.length c1_1, .slice A1_2 l1_2.length c1_2]) (t := 35) ?hr ?_; (case hd => rfl); (case hg => rfl); (case hr => first | (go_simp; done) | (go_simp; rfl)); intro gb413 hg w19 hbox hb; have n0_ := aM (kB (g := gb412) (o := .cells #[.int .i64 a0_0, .slice A0_1 l0_1.length c0_1, .slice A0_2 l0_2.length c0_2] 35 (0, 0)) (kq BK412.out) hb); have n1_ := aM (bT bq hb); have n2_ := aM (hbox); have n3_ := aM ((by rw [hg]; exact (bZ bq) : w.heap.size ≤ gb413)); have n4_ := aM ((by rw [hg]; exact (bZ bq) : w.heap.size ≤ gb413)); have n5_ := aM ((by rw [hg]; exact Nat.ne_of_lt (blk_lt (g := gb412) (o := .cells #[.int .i64 a0_0, .slice A0_1 l0_1.length c0_1, .slice A0_2 l0_2.length c0_2] 35 (0, 0)) (kq BK412.out)) : gb412 ≠ gb413)); have n6_ := aM ((by rw [hg]; exact Nat.ne_of_gt (blk_lt (g := gb412) (o := .cells #[.int .i64 a0_0, .slice A0_1 l0_1.length c0_1, .slice A0_2 l0_2.length c0_2] 35 (0, 0)) (kq BK412.out)) : gb413 ≠ gb412)); clear BK412 HB; have BK412 := n0_; have HB := n1_; have BK413 := n2_; have GW413 := n3_; have GE413 := n4_; have NB412_413 := n5_; have NB413_412 := n6_; clear n0_ n1_ n2_ n3_ n4_ n5_ n6_ hb hbox hg; have hnb20 := NB412_413.out; have hnc20 := NB413_412.out; have hcz21_0 : w19.cell? ⟨gb412, 0, none⟩ = some (.int .i64 a0_0) := (kC BK412.out 0).trans rfl; have hcz21_1 : w19.cell? ⟨gb412, 1, none⟩ = some (.slice A0_1 l0_1.length c0_1) := (kC BK412.out 1).trans rfl; have hcz21_2 : w19.cell? ⟨gb412, 2, none⟩ = some (.slice A0_2 l0_2.length c0_2) := (kC BK412.out 2).trans rfl; have hfz21_0 := kF BK412.out 0; have hfz21_1 := kF BK412.out 1; have hfz21_2 := kF BK412.out 2; have hcz22_0 : w19.cell? ⟨gb413, 0, none⟩ = some (.int .i64 a1_0) := (kC BK413.out 0).trans rfl; have hcz22_1 : w19.cell? ⟨gb413, 1, none⟩ = some (.slice A1_1 l1_1.length c1_1) := (kC BK413.out 1).trans rfl; have hcz22_2 : w19.cell? ⟨gb413, 2, none⟩ = some (.slice A1_2 l1_2.length c1_2) := (kC BK413.out 2).trans rfl; have hfz22_0 := kF BK413.out 0; have hfz22_1 := kF BK413.out 1; have hfz22_2 := kF BK413.out 2) | ((with_reducible refine gate_callee (f := 12) rfl ?_); refine goesL_ (some 14) rfl rfl Try.func12 (by kernel_rfl) rfl #[.slice A0_1 l0_1.length c0_1, .slice A1_1 l1_1.length c1_1] rfl mq ?_; (with_reducible refine (laws_eqInt64S.calls k _ _ l0_1 _ _ l1_1 false _ ?side1 ?side2 ?side3 ?side4 A4.out).mono ?_); (case side1 => exact cq (cB HR0_1.out HB.out)); (case side2 => exact HC0_1.out); (case side3 => exact cq (cB HR1_1.out HB.out)); (case side4 => exact HC1_1.out); rintro e w' ⟨rfl, ⟨nd, rfl⟩⟩; refine ⟨_, rfl, ?_⟩))
   go_ret
   exact ⟨by first | rfl | (simp [errW_none, errW_some] <;> rfl) | (simp [*, errW_none, errW_some] <;> rfl), bq⟩
 ·rw [if_neg c3] at H
  have c3b0 : (a0_0 == a1_0) = false := beq_eq_false_iff_ne.mpr c3
  have c3b1 : (a0_0 != a1_0) = true := bne_iff_ne.mpr c3
  obtain rfl := Option.some.inj H
  go_enter Try.func21, Try.ntmps21
  go_wp2_with (first | ((with_reducible refine gate_dst (N := 2) rfl ?_); refine box_event ?hg (N := 2) ?hd (cs := #[.int .i64 a0_0, .slice A0_1 l0_1.length c0_1, .slice A0_2 l0_2.length c0_2]) (t := 35) ?hr ?_; (case hd => rfl); (case hg => rfl); (case hr => first | (go_simp; done) | (go_simp; rfl)); intro gb412 hg w23 hbox hb; have n0_ := aM (bT bq hb); have n1_ := aM (hbox); have n2_ := aM ((by rw [hg]; exact (bZ bq) : w.heap.size ≤ gb412)); have n3_ := aM ((by rw [hg]; exact (bZ bq) : w.heap.size ≤ gb412)); clear HB; have HB := n0_; have BK412 := n1_; have GW412 := n2_; have GE412 := n3_; clear n0_ n1_ n2_ n3_ hb hbox hg) | ((with_reducible refine gate_dst (N := 3) rfl ?_); refine box_event ?hg (N := 3) ?hd (cs := #[.int .i64 a1_0, .slice A1_1 l1_1.length c1_1, .slice A1_2 l1_2.length c1_2]) (t := 35) ?hr ?_; (case hd => rfl); (case hg => rfl); (case hr => first | (go_simp; done) | (go_simp; rfl)); intro gb413 hg w24 hbox hb; have n0_ := aM (kB (g := gb412) (o := .cells #[.int .i64 a0_0, .slice A0_1 l0_1.length c0_1, .slice A0_2 l0_2.length c0_2] 35 (0, 0)) (kq BK412.out) hb); have n1_ := aM (bT bq hb); have n2_ := aM (hbox); have n3_ := aM ((by rw [hg]; exact (bZ bq) : w.heap.size ≤ gb413)); have n4_ := aM ((by rw [hg]; exact (bZ bq) : w.heap.size ≤ gb413)); have n5_ := aM ((by rw [hg]; exact Nat.ne_of_lt (blk_lt (g := gb412) (o := .cells #[.int .i64 a0_0, .slice A0_1 l0_1.length c0_1, .slice A0_2 l0_2.length c0_2] 35 (0, 0)) (kq BK412.out)) : gb412 ≠ gb413)); have n6_ := aM ((by rw [hg]; exact Nat.ne_of_gt (blk_lt (g := gb412) (o := .cells #[.int .i64 a0_0, .slice A0_1 l0_1.length c0_1, .slice A0_2 l0_2.length c0_2] 35 (0, 0)) (kq BK412.out)) : gb413 ≠ gb412)); clear BK412 HB; have BK412 := n0_; have HB := n1_; have BK413 := n2_; have GW413 := n3_; have GE413 := n4_; have NB412_413 := n5_; have NB413_412 := n6_; clear n0_ n1_ n2_ n3_ n4_ n5_ n6_ hb hbox hg; have hnb25 := NB412_413.out; have hnc25 := NB413_412.out; have hcz26_0 : w24.cell? ⟨gb412, 0, none⟩ = some (.int .i64 a0_0) := (kC BK412.out 0).trans rfl; have hcz26_1 : w24.cell? ⟨gb412, 1, none⟩ = some (.slice A0_1 l0_1.length c0_1) := (kC BK412.out 1).trans rfl; have hcz26_2 : w24.cell? ⟨gb412, 2, none⟩ = some (.slice A0_2 l0_2.length c0_2) := (kC BK412.out 2).trans rfl; have hfz26_0 := kF BK412.out 0; have hfz26_1 := kF BK412.out 1; have hfz26_2 := kF BK412.out 2; have hcz27_0 : w24.cell? ⟨gb413, 0, none⟩ = some (.int .i64 a1_0) := (kC BK413.out 0).trans rfl; have hcz27_1 : w24.cell? ⟨gb413, 1, none⟩ = some (.slice A1_1 l1_1.length c1_1) := (kC BK413.out 1).trans rfl; have hcz27_2 : w24.cell? ⟨gb413, 2, none⟩ = some (.slice A1_2 l1_2.length c1_2) := (kC BK413.out 2).trans rfl; have hfz27_0 := kF BK413.out 0; have hfz27_1 := kF BK413.out 1; have hfz27_2 := kF BK413.out 2))
  go_ret
  exact ⟨by first | rfl | (simp [errW_none, errW_some] <;> rfl) | (simp [*, errW_none, errW_some] <;> rfl), bq⟩

/-! ### laws_eqPlayResult: function 20 -/
def laws_eqPlayResult.f (k : Nat) (a0_0 : Int) (a0_1 : Int) (l0_2 : List Int) (l0_3 : List Int) (l0_4 : List Int) (a1_0 : Int) (a1_1 : Int) (l1_2 : List Int) (l1_3 : List Int) (l1_4 : List Int) : Option (Bool) := if a0_0 = a1_0 then ((laws_eqSynth.f k a0_1 l0_2 l0_3 a1_1 l1_2 l1_3).bind fun t418 => (if t418 = true then ((laws_eqInt64S.f k l0_4 l1_4).bind fun t419 => (if t419 = true then (some true) else (some false))) else (some false))) else (some false)
theorem laws_eqPlayResult.mono : ∀ a0 a1 a2 a3 a4 a5 a6 a7 a8 a9 k, LeO (laws_eqPlayResult.f k a0 a1 a2 a3 a4 a5 a6 a7 a8 a9) (laws_eqPlayResult.f (k + 1) a0 a1 a2 a3 a4 a5 a6 a7 a8 a9) := by
 intro a0 a1 a2 a3 a4 a5 a6 a7 a8 a9 k
 unfold laws_eqPlayResult.f
 repeat' first
   | (with_reducible exact laws_eqInt64S.mono _ _ _)
   | (with_reducible exact laws_eqSynth.mono _ _ _ _ _ _ _)
   | (with_reducible exact LeO.refl _)
   | (with_reducible exact LeO.none _)
   | (with_reducible refine LeO.ite ?_ ?_)
   | (with_reducible refine LeO.bind ?_ (fun _ => ?_))
   | exact laws_eqInt64S.mono _ _ _
   | exact laws_eqSynth.mono _ _ _ _ _ _ _
   | exact LeO.none _
   | refine LeO.ite ?_ ?_
   | refine LeO.bind ?_ (fun _ => ?_)
set_option maxHeartbeats 8000000 in
set_option maxRecDepth 100000 in
theorem laws_eqPlayResult.calls (k : Nat) (a0_0 : Int) (a0_1 : Int) (A0_2 : Option Addr) (c0_2 : Nat) (l0_2 : List Int) (A0_3 : Option Addr) (c0_3 : Nat) (l0_3 : List Int) (A0_4 : Option Addr) (c0_4 : Nat) (l0_4 : List Int) (a1_0 : Int) (a1_1 : Int) (A1_2 : Option Addr) (c1_2 : Nat) (l1_2 : List Int) (A1_3 : Option Addr) (c1_3 : Nat) (l1_3 : List Int) (A1_4 : Option Addr) (c1_4 : Nat) (l1_4 : List Int) (r : Bool) (w : World) (hr0_2 : Kd.C (Kd.int .i64) w A0_2 l0_2.length l0_2) (hc0_2 : l0_2.length ≤ c0_2) (hr0_3 : Kd.C (Kd.int .i64) w A0_3 l0_3.length l0_3) (hc0_3 : l0_3.length ≤ c0_3) (hr0_4 : Kd.C (Kd.int .i64) w A0_4 l0_4.length l0_4) (hc0_4 : l0_4.length ≤ c0_4) (hr1_2 : Kd.C (Kd.int .i64) w A1_2 l1_2.length l1_2) (hc1_2 : l1_2.length ≤ c1_2) (hr1_3 : Kd.C (Kd.int .i64) w A1_3 l1_3.length l1_3) (hc1_3 : l1_3.length ≤ c1_3) (hr1_4 : Kd.C (Kd.int .i64) w A1_4 l1_4.length l1_4) (hc1_4 : l1_4.length ≤ c1_4) (h : laws_eqPlayResult.f k a0_0 a0_1 l0_2 l0_3 l0_4 a1_0 a1_1 l1_2 l1_3 l1_4 = some r) :
  Calls Try.prog 20 #[.agg #[.int .i64 a0_0, .int .i64 a0_1, .slice A0_2 l0_2.length c0_2, .slice A0_3 l0_3.length c0_3, .slice A0_4 l0_4.length c0_4], .agg #[.int .i64 a1_0, .int .i64 a1_1, .slice A1_2 l1_2.length c1_2, .slice A1_3 l1_3.length c1_3, .slice A1_4 l1_4.length c1_4]] w fun e w' => e = .returned (.bool r) ∧ Below w.heap.size w w' := by
 have hu37 := Try.underlying37
 have hu35 := Try.underlying35
 have HR0_2 := aM hr0_2
 have HC0_2 := aM hc0_2
 clear hr0_2 hc0_2
 have HR0_3 := aM hr0_3
 have HC0_3 := aM hc0_3
 clear hr0_3 hc0_3
 have HR0_4 := aM hr0_4
 have HC0_4 := aM hc0_4
 clear hr0_4 hc0_4
 have HR1_2 := aM hr1_2
 have HC1_2 := aM hc1_2
 clear hr1_2 hc1_2
 have HR1_3 := aM hr1_3
 have HC1_3 := aM hc1_3
 clear hr1_3 hc1_3
 have HR1_4 := aM hr1_4
 have HC1_4 := aM hc1_4
 clear hr1_4 hc1_4
 have HB := aM (Below.refl w.heap.size w)
 have H : (if a0_0 = a1_0 then ((laws_eqSynth.f k a0_1 l0_2 l0_3 a1_1 l1_2 l1_3).bind fun t418 => (if t418 = true then ((laws_eqInt64S.f k l0_4 l1_4).bind fun t419 => (if t419 = true then (some true) else (some false))) else (some false))) else (some false)) = some r := h
 clear h
 by_cases c3 : a0_0 = a1_0
 ·rw [if_pos c3] at H
  have c3b0 : (a0_0 == a1_0) = true := beq_iff_eq.mpr c3
  have c3b1 : (a0_0 != a1_0) = false := bne_eq_false_iff_eq.mpr c3
  clear c3
  replace H := Option.bind_eq_some_iff.mp H
  obtain ⟨t418, A40, H⟩ := H
  replace H : (if t418 = true then ((laws_eqInt64S.f k l0_4 l1_4).bind fun t419 => (if t419 = true then (some true) else (some false))) else (some false)) = some r := H
  have A4 := aM A40
  clear A40
  by_cases c5 : t418 = true
  ·subst c5
   have H1 : ((laws_eqInt64S.f k l0_4 l1_4).bind fun t419 => (if t419 = true then (some true) else (some false))) = some r := by rw [if_pos rfl] at H; exact H
   clear H
   have H := H1
   clear H1
   replace H := Option.bind_eq_some_iff.mp H
   obtain ⟨t419, A60, H⟩ := H
   replace H : (if t419 = true then (some true) else (some false)) = some r := H
   have A6 := aM A60
   clear A60
   by_cases c7 : t419 = true
   ·subst c7
    have H1 : (some true) = some r := by rw [if_pos rfl] at H; exact H
    clear H
    have H := H1
    clear H1
    obtain rfl := Option.some.inj H
    go_enter Try.func20, Try.ntmps20
    go_wp2_with (first | ((with_reducible refine gate_dst (N := 2) rfl ?_); refine box_event ?hg (N := 2) ?hd (cs := #[.int .i64 a0_0, .int .i64 a0_1, .slice A0_2 l0_2.length c0_2, .slice A0_3 l0_3.length c0_3, .slice A0_4 l0_4.length c0_4]) (t := 37) ?hr ?_; (case hd => rfl); (case hg => rfl); (case hr => first | (go_simp; done) | (go_simp; rfl)); intro gb416 hg w8 hbox hb; have n0_ := aM (bT bq hb); have n1_ := aM (hbox); have n2_ := aM ((by rw [hg]; exact (bZ bq) : w.heap.size ≤ gb416)); have n3_ := aM ((by rw [hg]; exact (bZ bq) : w.heap.size ≤ gb416)); clear HB; have HB := n0_; have BK416 := n1_; have GW416 := n2_; have GE416 := n3_; clear n0_ n1_ n2_ n3_ hb hbox hg) | ((with_reducible refine gate_dst (N := 3) rfl ?_); refine box_event ?hg (N := 3) ?hd (cs := #[.int .i64 a1_0, .int .i64 a1_1, .slice A1_2 l1_2.length c1_2, .slice A1_3 l1_3.length c1_3, .slice A1_4 l1_4.length c1_4]) (t := 37) ?hr ?_; (case hd => rfl); (case hg => rfl); (case hr => first | (go_simp; done) | (go_simp; rfl)); intro gb417 hg w9 hbox hb; have n0_ := aM (kB (g := gb416) (o := .cells #[.int .i64 a0_0, .int .i64 a0_1, .slice A0_2 l0_2.length c0_2, .slice A0_3 l0_3.length c0_3, .slice A0_4 l0_4.length c0_4] 37 (0, 0)) (kq BK416.out) hb); have n1_ := aM (bT bq hb); have n2_ := aM (hbox); have n3_ := aM ((by rw [hg]; exact (bZ bq) : w.heap.size ≤ gb417)); have n4_ := aM ((by rw [hg]; exact (bZ bq) : w.heap.size ≤ gb417)); have n5_ := aM ((by rw [hg]; exact Nat.ne_of_lt (blk_lt (g := gb416) (o := .cells #[.int .i64 a0_0, .int .i64 a0_1, .slice A0_2 l0_2.length c0_2, .slice A0_3 l0_3.length c0_3, .slice A0_4 l0_4.length c0_4] 37 (0, 0)) (kq BK416.out)) : gb416 ≠ gb417)); have n6_ := aM ((by rw [hg]; exact Nat.ne_of_gt (blk_lt (g := gb416) (o := .cells #[.int .i64 a0_0, .int .i64 a0_1, .slice A0_2 l0_2.length c0_2, .slice A0_3 l0_3.length c0_3, .slice A0_4 l0_4.length c0_4] 37 (0, 0)) (kq BK416.out)) : gb417 ≠ gb416)); clear BK416 HB; have BK416 := n0_; have HB := n1_; have BK417 := n2_; have GW417 := n3_; have GE417 := n4_; have NB416_417 := n5_; have NB417_416 := n6_; clear n0_ n1_ n2_ n3_ n4_ n5_ n6_ hb hbox hg; have hnb10 := NB416_417.out; have hnc10 := NB417_416.out; have hcz11_0 : w9.cell? ⟨gb416, 0, none⟩ = some (.int .i64 a0_0) := (kC BK416.out 0).trans rfl; have hcz11_1 : w9.cell? ⟨gb416, 1, none⟩ = some (.int .i64 a0_1) := (kC BK416.out 1).trans rfl; have hcz11_2 : w9.cell? ⟨gb416, 2, none⟩ = some (.slice A0_2 l0_2.length c0_2) := (kC BK416.out 2).trans rfl; have hcz11_3 : w9.cell? ⟨gb416, 3, none⟩ = some (.slice A0_3 l0_3.length c0_3) := (kC BK416.out 3).trans rfl; have hcz11_4 : w9.cell? ⟨gb416, 4, none⟩ = some (.slice A0_4 l0_4.length c0_4) := (kC BK416.out 4).trans rfl; have hfz11_0 := kF BK416.out 0; have hfz11_1 := kF BK416.out 1; have hfz11_2 := kF BK416.out 2; have hfz11_3 := kF BK416.out 3; have hfz11_4 := kF BK416.out 4; have hcz12_0 : w9.cell? ⟨gb417, 0, none⟩ = some (.int .i64 a1_0) := (kC BK417.out 0).trans rfl; have hcz12_1 : w9.cell? ⟨gb417, 1, none⟩ = some (.int .i64 a1_1) := (kC BK417.out 1).trans rfl; have hcz12_2 : w9.cell? ⟨gb417, 2, none⟩ = some (.slice A1_2 l1_2.length c1_2) := (kC BK417.out 2).trans rfl; have hcz12_3 : w9.cell? ⟨gb417, 3, none⟩ = some (.slice A1_3 l1_3.length c1_3) := (kC BK417.out 3).trans rfl; have hcz12_4 : w9.cell? ⟨gb417, 4, none⟩ = some (.slice A1_4 l1_4.length c1_4) := (kC BK417.out 4).trans rfl; have hfz12_0 := kF BK417.out 0; have hfz12_1 := kF BK417.out 1; have hfz12_2 := kF BK417.out 2; have hfz12_3 := kF BK417.out 3; have hfz12_4 := kF BK417.out 4) | ((with_reducible refine gate_callee (f := 21) rfl ?_); refine goesL_ (some 14) rfl rfl Try.func21 (by kernel_rfl) rfl #[.agg #[.int .i64 a0_1, .slice A0_2 l0_2.length c0_2, .slice A0_3 l0_3.length c0_3], .agg #[.int .i64 a1_1, .slice A1_2 l1_2.length c1_2, .slice A1_3 l1_3.length c1_3]] rfl mq ?_; (with_reducible refine (laws_eqSynth.calls k a0_1 _ _ l0_2 _ _ l0_3 a1_1 _ _ l1_2 _ _ l1_3 true _ ?side1 ?side2 ?side3 ?side4 ?side5 ?side6 ?side7 ?side8 A4.out).mono ?_); (case side1 => exact cq (cB HR0_2.out HB.out)); (case side2 => exact HC0_2.out); (case side3 => exact cq (cB HR0_3.out HB.out)); (case side4 => exact HC0_3.out); (case side5 => exact cq (cB HR1_2.out HB.out)); (case side6 => exact HC1_2.out); (case side7 => exact cq (cB HR1_3.out HB.out)); (case side8 => exact HC1_3.out); rintro e w13 ⟨rfl, hb⟩; refine ⟨_, rfl, ?_⟩; have n0_ := aM (kB (g := gb416) (o := .cells #[.int .i64 a0_0, .int .i64 a0_1, .slice A0_2 l0_2.length c0_2, .slice A0_3 l0_3.length c0_3, .slice A0_4 l0_4.length c0_4] 37 (0, 0)) (kq BK416.out) hb); have n1_ := aM (kB (g := gb417) (o := .cells #[.int .i64 a1_0, .int .i64 a1_1, .slice A1_2 l1_2.length c1_2, .slice A1_3 l1_3.length c1_3, .slice A1_4 l1_4.length c1_4] 37 (0, 0)) (kq BK417.out) hb); have n2_ := aM (bT bq hb); clear BK416 BK417 HB; have BK416 := n0_; have BK417 := n1_; have HB := n2_; clear n0_ n1_ n2_; (try clear hb); have hcz14_0 : w13.cell? ⟨gb416, 0, none⟩ = some (.int .i64 a0_0) := (kC BK416.out 0).trans rfl; have hcz14_1 : w13.cell? ⟨gb416, 1, none⟩ = some (.int .i64 a0_1) := (kC BK416.out 1).trans rfl; have hcz14_2 : w13.cell? ⟨gb416, 2, none⟩ = some (.slice A0_2 l0_2.length c0_2) := (kC BK416.out 2).trans rfl; have hcz14_3 : w13.cell? ⟨gb416, 3, none⟩ = some (.slice A0_3 l0_3.length c0_3) := (kC BK416.out 3).trans rfl; have hcz14_4 : w13.cell? ⟨gb416, 4, none⟩ = some (.slice A0_4 l0_4.length c0_4) := (kC BK416.out 4).trans rfl; have hfz14_0 := kF BK416.out 0; have hfz14_1 := kF BK416.out 1; have hfz14_2 := kF BK416.out 2; have hfz14_3 := kF BK416.out 3; have hfz14_4 := kF BK416.out 4; have hcz15_0 : w13.cell? ⟨gb417, 0, none⟩ = some (.int .i64 a1_0) := (kC BK417.out 0).trans rfl; have hcz15_1 : w13.cell? ⟨gb417, 1, none⟩ = some (.int .i64 a1_1) := (kC BK417.out 1).trans rfl; have hcz15_2 : w13.cell? ⟨gb417, 2, none⟩ = some (.slice A1_2 l1_2.length c1_2) := (kC BK417.out 2).trans rfl; have hcz15_3 : w13.cell? ⟨gb417, 3, none⟩ = some (.slice A1_3 l1_3.length c1_3) := (kC BK417.out 3).trans rfl; have hcz15_4 : w13.cell? ⟨gb417, 4, none⟩ = some (.slice A1_4 l1_4.length c1_4) := (kC BK417.out 4).trans rfl; have hfz15_0 := kF BK417.out 0; have hfz15_1 := kF BK417.out 1; have hfz15_2 := kF BK417.out 2; have hfz15_3 := kF BK417.out 3; have hfz15_4 := kF BK417.out 4) | ((with_reducible refine gate_callee (f := 12) rfl ?_); refine goesL_ (some 20) rfl rfl Try.func12 (by kernel_rfl) rfl #[.slice A0_4 l0_4.length c0_4, .slice A1_4 l1_4.length c1_4] rfl mq ?_; (with_reducible refine (laws_eqInt64S.calls k _ _ l0_4 _ _ l1_4 true _ ?side1 ?side2 ?side3 ?side4 A6.out).mono ?_); (case side1 => exact cq (cB HR0_4.out HB.out)); (case side2 => exact HC0_4.out); (case side3 => exact cq (cB HR1_4.out HB.out)); (case side4 => exact HC1_4.out); rintro e w' ⟨rfl, ⟨nd, rfl⟩⟩; refine ⟨_, rfl, ?_⟩))
    go_ret
    exact ⟨by first | rfl | (simp [errW_none, errW_some] <;> rfl) | (simp [*, errW_none, errW_some] <;> rfl), bq⟩
   ·replace c7 := Bool.eq_false_iff.mpr c7
    subst c7
    have H1 : (some false) = some r := by rw [if_neg (show ¬ (false = true) by decide)] at H; exact H
    clear H
    have H := H1
    clear H1
    obtain rfl := Option.some.inj H
    go_enter Try.func20, Try.ntmps20
    go_wp2_with (first | ((with_reducible refine gate_dst (N := 2) rfl ?_); refine box_event ?hg (N := 2) ?hd (cs := #[.int .i64 a0_0, .int .i64 a0_1, .slice A0_2 l0_2.length c0_2, .slice A0_3 l0_3.length c0_3, .slice A0_4 l0_4.length c0_4]) (t := 37) ?hr ?_; (case hd => rfl); (case hg => rfl); (case hr => first | (go_simp; done) | (go_simp; rfl)); intro gb416 hg w16 hbox hb; have n0_ := aM (bT bq hb); have n1_ := aM (hbox); have n2_ := aM ((by rw [hg]; exact (bZ bq) : w.heap.size ≤ gb416)); have n3_ := aM ((by rw [hg]; exact (bZ bq) : w.heap.size ≤ gb416)); clear HB; have HB := n0_; have BK416 := n1_; have GW416 := n2_; have GE416 := n3_; clear n0_ n1_ n2_ n3_ hb hbox hg) | ((with_reducible refine gate_dst (N := 3) rfl ?_); refine box_event ?hg (N := 3) ?hd (cs := #[.int .i64 a1_0, .int .i64 a1_1, .slice A1_2 l1_2.length c1_2, .slice A1_3 l1_3.length c1_3, .slice A1_4 l1_4.length c1_4]) (t := 37) ?hr ?_; (case hd => rfl); (case hg => rfl); (case hr => first | (go_simp; done) | (go_simp; rfl)); intro gb417 hg w17 hbox hb; have n0_ := aM (kB (g := gb416) (o := .cells #[.int .i64 a0_0, .int .i64 a0_1, .slice A0_2 l0_2.length c0_2, .slice A0_3 l0_3.length c0_3, .slice A0_4 l0_4.length c0_4] 37 (0, 0)) (kq BK416.out) hb); have n1_ := aM (bT bq hb); have n2_ := aM (hbox); have n3_ := aM ((by rw [hg]; exact (bZ bq) : w.heap.size ≤ gb417)); have n4_ := aM ((by rw [hg]; exact (bZ bq) : w.heap.size ≤ gb417)); have n5_ := aM ((by rw [hg]; exact Nat.ne_of_lt (blk_lt (g := gb416) (o := .cells #[.int .i64 a0_0, .int .i64 a0_1, .slice A0_2 l0_2.length c0_2, .slice A0_3 l0_3.length c0_3, .slice A0_4 l0_4.length c0_4] 37 (0, 0)) (kq BK416.out)) : gb416 ≠ gb417)); have n6_ := aM ((by rw [hg]; exact Nat.ne_of_gt (blk_lt (g := gb416) (o := .cells #[.int .i64 a0_0, .int .i64 a0_1, .slice A0_2 l0_2.length c0_2, .slice A0_3 l0_3.length c0_3, .slice A0_4 l0_4.length c0_4] 37 (0, 0)) (kq BK416.out)) : gb417 ≠ gb416)); clear BK416 HB; have BK416 := n0_; have HB := n1_; have BK417 := n2_; have GW417 := n3_; have GE417 := n4_; have NB416_417 := n5_; have NB417_416 := n6_; clear n0_ n1_ n2_ n3_ n4_ n5_ n6_ hb hbox hg; have hnb18 := NB416_417.out; have hnc18 := NB417_416.out; have hcz19_0 : w17.cell? ⟨gb416, 0, none⟩ = some (.int .i64 a0_0) := (kC BK416.out 0).trans rfl; have hcz19_1 : w17.cell? ⟨gb416, 1, none⟩ = some (.int .i64 a0_1) := (kC BK416.out 1).trans rfl; have hcz19_2 : w17.cell? ⟨gb416, 2, none⟩ = some (.slice A0_2 l0_2.length c0_2) := (kC BK416.out 2).trans rfl; have hcz19_3 : w17.cell? ⟨gb416, 3, none⟩ = some (.slice A0_3 l0_3.length c0_3) := (kC BK416.out 3).trans rfl; have hcz19_4 : w17.cell? ⟨gb416, 4, none⟩ = some (.slice A0_4 l0_4.length c0_4) := (kC BK416.out 4).trans rfl; have hfz19_0 := kF BK416.out 0; have hfz19_1 := kF BK416.out 1; have hfz19_2 := kF BK416.out 2; have hfz19_3 := kF BK416.out 3; have hfz19_4 := kF BK416.out 4; have hcz20_0 : w17.cell? ⟨gb417, 0, none⟩ = some (.int .i64 a1_0) := (kC BK417.out 0).trans rfl; have hcz20_1 : w17.cell? ⟨gb417, 1, none⟩ = some (.int .i64 a1_1) := (kC BK417.out 1).trans rfl; have hcz20_2 : w17.cell? ⟨gb417, 2, none⟩ = some (.slice A1_2 l1_2.length c1_2) := (kC BK417.out 2).trans rfl; have hcz20_3 : w17.cell? ⟨gb417, 3, none⟩ = some (.slice A1_3 l1_3.length c1_3) := (kC BK417.out 3).trans rfl; have hcz20_4 : w17.cell? ⟨gb417, 4, none⟩ = some (.slice A1_4 l1_4.length c1_4) := (kC BK417.out 4).trans rfl; have hfz20_0 := kF BK417.out 0; have hfz20_1 := kF BK417.out 1; have hfz20_2 := kF BK417.out 2; have hfz20_3 := kF BK417.out 3; have hfz20_4 := kF BK417.out 4) | ((with_reducible refine gate_callee (f := 21) rfl ?_); refine goesL_ (some 14) rfl rfl Try.func21 (by kernel_rfl) rfl #[.agg #[.int .i64 a0_1, .slice A0_2 l0_2.length c0_2, .slice A0_3 l0_3.length c0_3], .agg #[.int .i64 a1_1, .slice A1_2 l1_2.length c1_2, .slice A1_3 l1_3.length c1_3]] rfl mq ?_; (with_reducible refine (laws_eqSynth.calls k a0_1 _ _ l0_2 _ _ l0_3 a1_1 _ _ l1_2 _ _ l1_3 true _ ?side1 ?side2 ?side3 ?side4 ?side5 ?side6 ?side7 ?side8 A4.out).mono ?_); (case side1 => exact cq (cB HR0_2.out HB.out)); (case side2 => exact HC0_2.out); (case side3 => exact cq (cB HR0_3.out HB.out)); (case side4 => exact HC0_3.out); (case side5 => exact cq (cB HR1_2.out HB.out)); (case side6 => exact HC1_2.out); (case side7 => exact cq (cB HR1_3.out HB.out)); (case side8 => exact HC1_3.out); rintro e w21 ⟨rfl, hb⟩; refine ⟨_, rfl, ?_⟩; have n0_ := aM (kB (g := gb416) (o := .cells #[.int .i64 a0_0, .int .i64 a0_1, .slice A0_2 l0_2.length c0_2, .slice A0_3 l0_3.length c0_3, .slice A0_4 l0_4.length c0_4] 37 (0, 0)) (kq BK416.out) hb); have n1_ := aM (kB (g := gb417) (o := .cells #[.int .i64 a1_0, .int .i64 a1_1, .slice A1_2 l1_2.length c1_2, .slice A1_3 l1_3.length c1_3, .slice A1_4 l1_4.length c1_4] 37 (0, 0)) (kq BK417.out) hb); have n2_ := aM (bT bq hb); clear BK416 BK417 HB; have BK416 := n0_; have BK417 := n1_; have HB := n2_; clear n0_ n1_ n2_; (try clear hb); have hcz22_0 : w21.cell? ⟨gb416, 0, none⟩ = some (.int .i64 a0_0) := (kC BK416.out 0).trans rfl; have hcz22_1 : w21.cell? ⟨gb416, 1, none⟩ = some (.int .i64 a0_1) := (kC BK416.out 1).trans rfl; have hcz22_2 : w21.cell? ⟨gb416, 2, none⟩ = some (.slice A0_2 l0_2.length c0_2) := (kC BK416.out 2).trans rfl; have hcz22_3 : w21.cell? ⟨gb416, 3, none⟩ = some (.slice A0_3 l0_3.length c0_3) := (kC BK416.out 3).trans rfl; have hcz22_4 : w21.cell? ⟨gb416, 4, none⟩ = some (.slice A0_4 l0_4.length c0_4) := (kC BK416.out 4).trans rfl; have hfz22_0 := kF BK416.out 0; have hfz22_1 := kF BK416.out 1; have hfz22_2 := kF BK416.out 2; have hfz22_3 := kF BK416.out 3; have hfz22_4 := kF BK416.out 4; have hcz23_0 : w21.cell? ⟨gb417, 0, none⟩ = some (.int .i64 a1_0) := (kC BK417.out 0).trans rfl; have hcz23_1 : w21.cell? ⟨gb417, 1, none⟩ = some (.int .i64 a1_1) := (kC BK417.out 1).trans rfl; have hcz23_2 : w21.cell? ⟨gb417, 2, none⟩ = some (.slice A1_2 l1_2.length c1_2) := (kC BK417.out 2).trans rfl; have hcz23_3 : w21.cell? ⟨gb417, 3, none⟩ = some (.slice A1_3 l1_3.length c1_3) := (kC BK417.out 3).trans rfl; have hcz23_4 : w21.cell? ⟨gb417, 4, none⟩ = some (.slice A1_4 l1_4.length c1_4) := (kC BK417.out 4).trans rfl; have hfz23_0 := kF BK417.out 0; have hfz23_1 := kF BK417.out 1; have hfz23_2 := kF BK417.out 2; have hfz23_3 := kF BK417.out 3; have hfz23_4 := kF BK417.out 4) | ((with_reducible refine gate_callee (f := 12) rfl ?_); refine goesL_ (some 20) rfl rfl Try.func12 (by kernel_rfl) rfl #[.slice A0_4 l0_4.length c0_4, .slice A1_4 l1_4.length c1_4] rfl mq ?_; (with_reducible refine (laws_eqInt64S.calls k _ _ l0_4 _ _ l1_4 false _ ?side1 ?side2 ?side3 ?side4 A6.out).mono ?_); (case side1 => exact cq (cB HR0_4.out HB.out)); (case side2 => exact HC0_4.out); (case side3 => exact cq (cB HR1_4.out HB.out)); (case side4 => exact HC1_4.out); rintro e w' ⟨rfl, ⟨nd, rfl⟩⟩; refine ⟨_, rfl, ?_⟩))
    go_ret
    exact ⟨by first | rfl | (simp [errW_none, errW_some] <;> rfl) | (simp [*, errW_none, errW_some] <;> rfl), bq⟩
  ·replace c5 := Bool.eq_false_iff.mpr c5
   subst c5
   have H1 : (some false) = some r := by rw [if_neg (show ¬ (false = true) by decide)] at H; exact H
   clear H
   have H := H1
   clear H1
   obtain rfl := Option.some.inj H
   go_enter Try.func20, Try.ntmps20
   go_wp2_with (first | ((with_reducible refine gate_dst (N := 2) rfl ?_); refine box_event ?hg (N := 2) ?hd (cs := #[.int .i64 a0_0, .int .i64 a0_1, .slice A0_2 l0_2.length c0_2, .slice A0_3 l0_3.length c0_3, .slice A0_4 l0_4.length c0_4]) (t := 37) ?hr ?_; (case hd => rfl); (case hg => rfl); (case hr => first | (go_simp; done) | (go_simp; rfl)); intro gb416 hg w24 hbox hb; have n0_ := aM (bT bq hb); have n1_ := aM (hbox); have n2_ := aM ((by rw [hg]; exact (bZ bq) : w.heap.size ≤ gb416)); have n3_ := aM ((by rw [hg]; exact (bZ bq) : w.heap.size ≤ gb416)); clear HB; have HB := n0_; have BK416 := n1_; have GW416 := n2_; have GE416 := n3_; clear n0_ n1_ n2_ n3_ hb hbox hg) | ((with_reducible refine gate_dst (N := 3) rfl ?_); refine box_event ?hg (N := 3) ?hd (cs := #[.int .i64 a1_0, .int .i64 a1_1, .slice A1_2 l1_2.length c1_2, .slice A1_3 l1_3.length c1_3, .slice A1_4 l1_4.length c1_4]) (t := 37) ?hr ?_; (case hd => rfl); (case hg => rfl); (case hr => first | (go_simp; done) | (go_simp; rfl)); intro gb417 hg w25 hbox hb; have n0_ := aM (kB (g := gb416) (o := .cells #[.int .i64 a0_0, .int .i64 a0_1, .slice A0_2 l0_2.length c0_2, .slice A0_3 l0_3.length c0_3, .slice A0_4 l0_4.length c0_4] 37 (0, 0)) (kq BK416.out) hb); have n1_ := aM (bT bq hb); have n2_ := aM (hbox); have n3_ := aM ((by rw [hg]; exact (bZ bq) : w.heap.size ≤ gb417)); have n4_ := aM ((by rw [hg]; exact (bZ bq) : w.heap.size ≤ gb417)); have n5_ := aM ((by rw [hg]; exact Nat.ne_of_lt (blk_lt (g := gb416) (o := .cells #[.int .i64 a0_0, .int .i64 a0_1, .slice A0_2 l0_2.length c0_2, .slice A0_3 l0_3.length c0_3, .slice A0_4 l0_4.length c0_4] 37 (0, 0)) (kq BK416.out)) : gb416 ≠ gb417)); have n6_ := aM ((by rw [hg]; exact Nat.ne_of_gt (blk_lt (g := gb416) (o := .cells #[.int .i64 a0_0, .int .i64 a0_1, .slice A0_2 l0_2.length c0_2, .slice A0_3 l0_3.length c0_3, .slice A0_4 l0_4.length c0_4] 37 (0, 0)) (kq BK416.out)) : gb417 ≠ gb416)); clear BK416 HB; have BK416 := n0_; have HB := n1_; have BK417 := n2_; have GW417 := n3_; have GE417 := n4_; have NB416_417 := n5_; have NB417_416 := n6_; clear n0_ n1_ n2_ n3_ n4_ n5_ n6_ hb hbox hg; have hnb26 := NB416_417.out; have hnc26 := NB417_416.out; have hcz27_0 : w25.cell? ⟨gb416, 0, none⟩ = some (.int .i64 a0_0) := (kC BK416.out 0).trans rfl; have hcz27_1 : w25.cell? ⟨gb416, 1, none⟩ = some (.int .i64 a0_1) := (kC BK416.out 1).trans rfl; have hcz27_2 : w25.cell? ⟨gb416, 2, none⟩ = some (.slice A0_2 l0_2.length c0_2) := (kC BK416.out 2).trans rfl; have hcz27_3 : w25.cell? ⟨gb416, 3, none⟩ = some (.slice A0_3 l0_3.length c0_3) := (kC BK416.out 3).trans rfl; have hcz27_4 : w25.cell? ⟨gb416, 4, none⟩ = some (.slice A0_4 l0_4.length c0_4) := (kC BK416.out 4).trans rfl; have hfz27_0 := kF BK416.out 0; have hfz27_1 := kF BK416.out 1; have hfz27_2 := kF BK416.out 2; have hfz27_3 := kF BK416.out 3; have hfz27_4 := kF BK416.out 4; have hcz28_0 : w25.cell? ⟨gb417, 0, none⟩ = some (.int .i64 a1_0) := (kC BK417.out 0).trans rfl; have hcz28_1 : w25.cell? ⟨gb417, 1, none⟩ = some (.int .i64 a1_1) := (kC BK417.out 1).trans rfl; have hcz28_2 : w25.cell? ⟨gb417, 2, none⟩ = some (.slice A1_2 l1_2.length c1_2) := (kC BK417.out 2).trans rfl; have hcz28_3 : w25.cell? ⟨gb417, 3, none⟩ = some (.slice A1_3 l1_3.length c1_3) := (kC BK417.out 3).trans rfl; have hcz28_4 : w25.cell? ⟨gb417, 4, none⟩ = some (.slice A1_4 l1_4.length c1_4) := (kC BK417.out 4).trans rfl; have hfz28_0 := kF BK417.out 0; have hfz28_1 := kF BK417.out 1; have hfz28_2 := kF BK417.out 2; have hfz28_3 := kF BK417.out 3; have hfz28_4 := kF BK417.out 4) | ((with_reducible refine gate_callee (f := 21) rfl ?_); refine goesL_ (some 14) rfl rfl Try.func21 (by kernel_rfl) rfl #[.agg #[.int .i64 a0_1, .slice A0_2 l0_2.length c0_2, .slice A0_3 l0_3.length c0_3], .agg #[.int .i64 a1_1, .slice A1_2 l1_2.length c1_2, .slice A1_3 l1_3.length c1_3]] rfl mq ?_; (with_reducible refine (laws_eqSynth.calls k a0_1 _ _ l0_2 _ _ l0_3 a1_1 _ _ l1_2 _ _ l1_3 false _ ?side1 ?side2 ?side3 ?side4 ?side5 ?side6 ?side7 ?side8 A4.out).mono ?_); (case side1 => exact cq (cB HR0_2.out HB.out)); (case side2 => exact HC0_2.out); (case side3 => exact cq (cB HR0_3.out HB.out)); (case side4 => exact HC0_3.out); (case side5 => exact cq (cB HR1_2.out HB.out)); (case side6 => exact HC1_2.out); (case side7 => exact cq (cB HR1_3.out HB.out)); (case side8 => exact HC1_3.out); rintro e w29 ⟨rfl, hb⟩; refine ⟨_, rfl, ?_⟩; have n0_ := aM (kB (g := gb416) (o := .cells #[.int .i64 a0_0, .int .i64 a0_1, .slice A0_2 l0_2.length c0_2, .slice A0_3 l0_3.length c0_3, .slice A0_4 l0_4.length c0_4] 37 (0, 0)) (kq BK416.out) hb); have n1_ := aM (kB (g := gb417) (o := .cells #[.int .i64 a1_0, .int .i64 a1_1, .slice A1_2 l1_2.length c1_2, .slice A1_3 l1_3.length c1_3, .slice A1_4 l1_4.length c1_4] 37 (0, 0)) (kq BK417.out) hb); have n2_ := aM (bT bq hb); clear BK416 BK417 HB; have BK416 := n0_; have BK417 := n1_; have HB := n2_; clear n0_ n1_ n2_; (try clear hb)))
   go_ret
   exact ⟨by first | rfl | (simp [errW_none, errW_some] <;> rfl) | (simp [*, errW_none, errW_some] <;> rfl), bq⟩
 ·rw [if_neg c3] at H
  have c3b0 : (a0_0 == a1_0) = false := beq_eq_false_iff_ne.mpr c3
  have c3b1 : (a0_0 != a1_0) = true := bne_iff_ne.mpr c3
  obtain rfl := Option.some.inj H
  go_enter Try.func20, Try.ntmps20
  go_wp2_with (first | ((with_reducible refine gate_dst (N := 2) rfl ?_); refine box_event ?hg (N := 2) ?hd (cs := #[.int .i64 a0_0, .int .i64 a0_1, .slice A0_2 l0_2.length c0_2, .slice A0_3 l0_3.length c0_3, .slice A0_4 l0_4.length c0_4]) (t := 37) ?hr ?_; (case hd => rfl); (case hg => rfl); (case hr => first | (go_simp; done) | (go_simp; rfl)); intro gb416 hg w30 hbox hb; have n0_ := aM (bT bq hb); have n1_ := aM (hbox); have n2_ := aM ((by rw [hg]; exact (bZ bq) : w.heap.size ≤ gb416)); have n3_ := aM ((by rw [hg]; exact (bZ bq) : w.heap.size ≤ gb416)); clear HB; have HB := n0_; have BK416 := n1_; have GW416 := n2_; have GE416 := n3_; clear n0_ n1_ n2_ n3_ hb hbox hg) | ((with_reducible refine gate_dst (N := 3) rfl ?_); refine box_event ?hg (N := 3) ?hd (cs := #[.int .i64 a1_0, .int .i64 a1_1, .slice A1_2 l1_2.length c1_2, .slice A1_3 l1_3.length c1_3, .slice A1_4 l1_4.length c1_4]) (t := 37) ?hr ?_; (case hd => rfl); (case hg => rfl); (case hr => first | (go_simp; done) | (go_simp; rfl)); intro gb417 hg w31 hbox hb; have n0_ := aM (kB (g := gb416) (o := .cells #[.int .i64 a0_0, .int .i64 a0_1, .slice A0_2 l0_2.length c0_2, .slice A0_3 l0_3.length c0_3, .slice A0_4 l0_4.length c0_4] 37 (0, 0)) (kq BK416.out) hb); have n1_ := aM (bT bq hb); have n2_ := aM (hbox); have n3_ := aM ((by rw [hg]; exact (bZ bq) : w.heap.size ≤ gb417)); have n4_ := aM ((by rw [hg]; exact (bZ bq) : w.heap.size ≤ gb417)); have n5_ := aM ((by rw [hg]; exact Nat.ne_of_lt (blk_lt (g := gb416) (o := .cells #[.int .i64 a0_0, .int .i64 a0_1, .slice A0_2 l0_2.length c0_2, .slice A0_3 l0_3.length c0_3, .slice A0_4 l0_4.length c0_4] 37 (0, 0)) (kq BK416.out)) : gb416 ≠ gb417)); have n6_ := aM ((by rw [hg]; exact Nat.ne_of_gt (blk_lt (g := gb416) (o := .cells #[.int .i64 a0_0, .int .i64 a0_1, .slice A0_2 l0_2.length c0_2, .slice A0_3 l0_3.length c0_3, .slice A0_4 l0_4.length c0_4] 37 (0, 0)) (kq BK416.out)) : gb417 ≠ gb416)); clear BK416 HB; have BK416 := n0_; have HB := n1_; have BK417 := n2_; have GW417 := n3_; have GE417 := n4_; have NB416_417 := n5_; have NB417_416 := n6_; clear n0_ n1_ n2_ n3_ n4_ n5_ n6_ hb hbox hg; have hnb32 := NB416_417.out; have hnc32 := NB417_416.out; have hcz33_0 : w31.cell? ⟨gb416, 0, none⟩ = some (.int .i64 a0_0) := (kC BK416.out 0).trans rfl; have hcz33_1 : w31.cell? ⟨gb416, 1, none⟩ = some (.int .i64 a0_1) := (kC BK416.out 1).trans rfl; have hcz33_2 : w31.cell? ⟨gb416, 2, none⟩ = some (.slice A0_2 l0_2.length c0_2) := (kC BK416.out 2).trans rfl; have hcz33_3 : w31.cell? ⟨gb416, 3, none⟩ = some (.slice A0_3 l0_3.length c0_3) := (kC BK416.out 3).trans rfl; have hcz33_4 : w31.cell? ⟨gb416, 4, none⟩ = some (.slice A0_4 l0_4.length c0_4) := (kC BK416.out 4).trans rfl; have hfz33_0 := kF BK416.out 0; have hfz33_1 := kF BK416.out 1; have hfz33_2 := kF BK416.out 2; have hfz33_3 := kF BK416.out 3; have hfz33_4 := kF BK416.out 4; have hcz34_0 : w31.cell? ⟨gb417, 0, none⟩ = some (.int .i64 a1_0) := (kC BK417.out 0).trans rfl; have hcz34_1 : w31.cell? ⟨gb417, 1, none⟩ = some (.int .i64 a1_1) := (kC BK417.out 1).trans rfl; have hcz34_2 : w31.cell? ⟨gb417, 2, none⟩ = some (.slice A1_2 l1_2.length c1_2) := (kC BK417.out 2).trans rfl; have hcz34_3 : w31.cell? ⟨gb417, 3, none⟩ = some (.slice A1_3 l1_3.length c1_3) := (kC BK417.out 3).trans rfl; have hcz34_4 : w31.cell? ⟨gb417, 4, none⟩ = some (.slice A1_4 l1_4.length c1_4) := (kC BK417.out 4).trans rfl; have hfz34_0 := kF BK417.out 0; have hfz34_1 := kF BK417.out 1; have hfz34_2 := kF BK417.out 2; have hfz34_3 := kF BK417.out 3; have hfz34_4 := kF BK417.out 4))
  go_ret
  exact ⟨by first | rfl | (simp [errW_none, errW_some] <;> rfl) | (simp [*, errW_none, errW_some] <;> rfl), bq⟩

/-! ### laws_markSynth: function 22 -/
def laws_markSynth.f (k : Nat) (a0_0 : Int) (l0_1 : List Int) (l0_2 : List Int) (a1 : Int) : Option (Int × List Int × List Int) := (laws_markInt64S.f k l0_1 a1).bind fun bt421 => ((laws_markInt64S.f k l0_2 bt421.1).bind fun bt423 => (some (bt423.1, bt421.2, bt423.2)))
theorem laws_markSynth.mono : ∀ a0 a1 a2 a3 k, LeO (laws_markSynth.f k a0 a1 a2 a3) (laws_markSynth.f (k + 1) a0 a1 a2 a3) := by
 intro a0 a1 a2 a3 k
 unfold laws_markSynth.f
 repeat' first
   | (with_reducible exact laws_markInt64S.mono _ _ _)
   | (with_reducible exact LeO.refl _)
   | (with_reducible exact LeO.none _)
   | (with_reducible refine LeO.ite ?_ ?_)
   | (with_reducible refine LeO.bind ?_ (fun _ => ?_))
   | exact laws_markInt64S.mono _ _ _
   | exact LeO.none _
   | refine LeO.ite ?_ ?_
   | refine LeO.bind ?_ (fun _ => ?_)
set_option maxHeartbeats 8000000 in
set_option maxRecDepth 100000 in
theorem laws_markSynth.calls (k : Nat) (a0_0 : Int) (P0_1_ : Nat → Prop) (u9000_ : Value) (l0_1 : List Int) (P0_2_ : Nat → Prop) (u9001_ : Value) (l0_2 : List Int) (a1 : Int) (r1 : Int) (r2 : List Int) (r3 : List Int) (w0 w : World) (hB : Below w0.heap.size w0 w) (ho0_1 : Kd.R (Kd.int .i64) 2 w w0.heap.size P0_1_ u9000_ l0_1) (hp0_1_0_2 : ∀ k_, P0_1_ k_ → ¬ P0_2_ k_) (ho0_2 : Kd.R (Kd.int .i64) 2 w w0.heap.size P0_2_ u9001_ l0_2) (hp0_2_0_1 : ∀ k_, P0_2_ k_ → ¬ P0_1_ k_) (h : laws_markSynth.f k a0_0 l0_1 l0_2 a1 = some (r1, r2, r3)) :
  Calls Try.prog 22 #[.agg #[.int .i64 a0_0, u9000_, u9001_], .int .i64 a1] w fun e w' => e = .returned (.int .i64 r1) ∧ Kd.R (Kd.int .i64) 2 w' w0.heap.size (fun k_ => ((P0_1_ k_ ∨ P0_2_ k_) ∨ w.heap.size ≤ k_)) u9000_ r2 ∧ Kd.R (Kd.int .i64) 2 w' w0.heap.size (fun k_ => ((P0_1_ k_ ∨ P0_2_ k_) ∨ w.heap.size ≤ k_)) u9001_ r3 ∧ Below w0.heap.size w0 w' ∧ Kept w w' (fun k_ => P0_1_ k_ ∨ P0_2_ k_) := by
 have hu35 := Try.underlying35
 have HO0_1 := aM (show Kd.R (Kd.int .i64) 2 w w0.heap.size (fun k_ => ((P0_1_ k_ ∨ P0_2_ k_) ∨ w.heap.size ≤ k_) ∧ some k_ ≠ (u9001_ : Value).ownBlock) u9000_ l0_1 from rM ho0_1 (fun k_ hk => ⟨(.inl (.inl hk)), fun e_ => hp0_1_0_2 k_ hk (ho0_2.1 k_ e_.symm)⟩))
 have HO0_2 := aM (show Kd.R (Kd.int .i64) 2 w w0.heap.size (fun k_ => ((P0_1_ k_ ∨ P0_2_ k_) ∨ w.heap.size ≤ k_) ∧ some k_ ≠ (u9000_ : Value).ownBlock) u9001_ l0_2 from rM ho0_2 (fun k_ hk => ⟨(.inl (.inr hk)), fun e_ => hp0_2_0_1 k_ hk (ho0_1.1 k_ e_.symm)⟩))
 have HK := aM (Kept.refl w (fun k_ => P0_1_ k_ ∨ P0_2_ k_))
 have HW0 := aM hB.size
 have HB := aM hB
 clear hB
 have H : ((laws_markInt64S.f k l0_1 a1).bind fun bt421 => ((laws_markInt64S.f k l0_2 bt421.1).bind fun bt423 => (some (bt423.1, bt421.2, bt423.2)))) = some (r1, r2, r3) := h
 clear h
 replace H := Option.bind_eq_some_iff.mp H
 obtain ⟨⟨t421, t422⟩, A30, H⟩ := H
 replace H : ((laws_markInt64S.f k l0_2 t421).bind fun bt423 => (some (bt423.1, t422, bt423.2))) = some (r1, r2, r3) := H
 have A3 := aM A30
 clear A30
 replace H := Option.bind_eq_some_iff.mp H
 obtain ⟨⟨t423, t424⟩, A40, H⟩ := H
 replace H : (some (t423, t422, t424)) = some (r1, r2, r3) := H
 have A4 := aM A40
 clear A40
 simp only [Option.some.injEq, Prod.mk.injEq] at H
 obtain ⟨rfl, rfl, rfl⟩ := H
 obtain ⟨Ao5, co5, eo5⟩ := Kd.R_slice HO0_1.out
 subst eo5
 obtain ⟨Ao6, co6, eo6⟩ := Kd.R_slice HO0_2.out
 subst eo6
 go_enter Try.func22, Try.ntmps22
 go_wp2_with (first | ((with_reducible refine gate_dst (N := 2) rfl ?_); refine box_event ?hg (N := 2) ?hd (cs := #[.int .i64 a0_0, .slice Ao5 l0_1.length co5, .slice Ao6 l0_2.length co6]) (t := 35) ?hr ?_; (case hd => rfl); (case hg => rfl); (case hr => first | (go_simp; done) | (go_simp; rfl)); intro gb420 hg w7 hbox hb; have n0_ := aM (rL (rq HO0_1.out) hb); have n1_ := aM (rL (rq HO0_2.out) hb); have n2_ := aM (Kept.below (S := (fun k_ => P0_1_ k_ ∨ P0_2_ k_)) (by repeat (first | (with_reducible first | exact HK.out | apply Kept.alloc | apply Kept.drewN | apply Kept.drew) | exact HK.out)) hb); have n3_ := aM (bT bq hb); have n4_ := aM (hbox); have n5_ := aM ((by rw [hg]; exact (by first | exact HK.out.1 | exact (show Kept w _ (fun k_ => P0_1_ k_ ∨ P0_2_ k_) from by repeat (first | (with_reducible first | exact HK.out | apply Kept.alloc | apply Kept.drewN | apply Kept.drew) | exact HK.out)).1) : w.heap.size ≤ gb420)); have n6_ := aM ((by rw [hg]; exact (bZ bq) : w0.heap.size ≤ gb420)); clear HO0_1 HO0_2 HK HB; have HO0_1 := n0_; have HO0_2 := n1_; have HK := n2_; have HB := n3_; have BK420 := n4_; have GW420 := n5_; have GE420 := n6_; clear n0_ n1_ n2_ n3_ n4_ n5_ n6_ hb hbox hg; have hcz8_0 : w7.cell? ⟨gb420, 0, none⟩ = some (.int .i64 a0_0) := (kC BK420.out 0).trans rfl; have hcz8_1 : w7.cell? ⟨gb420, 1, none⟩ = some (.slice Ao5 l0_1.length co5) := (kC BK420.out 1).trans rfl; have hcz8_2 : w7.cell? ⟨gb420, 2, none⟩ = some (.slice Ao6 l0_2.length co6) := (kC BK420.out 2).trans rfl; have hfz8_0 := kF BK420.out 0; have hfz8_1 := kF BK420.out 1; have hfz8_2 := kF BK420.out 2) | ((with_reducible refine gate_callee (f := 13) rfl ?_); refine goesL_ (some 8) rfl rfl Try.func13 (by kernel_rfl) rfl #[.slice Ao5 l0_1.length co5, .int .i64 a1] rfl mq ?_; (with_reducible refine (laws_markInt64S.calls k (fun k_ => some k_ = (.slice Ao5 l0_1.length co5 : Value).ownBlock) (.slice Ao5 l0_1.length co5) l0_1 a1 t421 t422 w0 _ ?side1 ?side2 A3.out).mono ?_); (case side1 => repeat (first | (with_reducible first | exact HB.out | apply bA | apply bN | apply bD | refine bS ?_ GE420.out) | exact HB.out)); (case side2 => exact Kd.R_tight rfl HO0_1.out); rintro e w9 ⟨rfl, hy0, hb, hkp⟩; refine ⟨_, rfl, ?_⟩; have n0_ := aM (Kd.R_reok rfl hy0 (fun k_ e_ => HO0_1.out.1 k_ e_)); have n1_ := aM (rM (ok' := fun k_ => ((P0_1_ k_ ∨ P0_2_ k_) ∨ w.heap.size ≤ k_) ∧ some k_ ≠ (.slice Ao5 l0_1.length co5 : Value).ownBlock) (Kd.R_keptB (HO0_2.out) hkp (fun k_ hk_ hs_ => (hk_.2) hs_)) (fun k_ hk_ => ⟨hk_.1.1, hk_.1.2⟩)); have n2_ := aM (blk_kept (kq BK420.out) hkp (fun hs_ => (fun e_ => (Kd.R_ne HO0_1.out BK420.out (by decide)) e_) hs_)); have n3_ := aM (Kept.then_ (S := (fun k_ => P0_1_ k_ ∨ P0_2_ k_)) (by repeat (first | (with_reducible first | exact HK.out | apply Kept.alloc | apply Kept.drewN | apply Kept.drew | refine Kept.setCell ?_ (.inr GW420.out) _) | exact HK.out)) hkp (fun k_ hs_ => (fun e_ => (HO0_1.out.1 k_ e_.symm).1) hs_)); have n4_ := aM (hb); clear HO0_1 HO0_2 BK420 HK HB; have HO0_1 := n0_; have HO0_2 := n1_; have BK420 := n2_; have HK := n3_; have HB := n4_; clear n0_ n1_ n2_ n3_ n4_; (try clear hb); (try clear hkp); (try clear hy0); have hcz10_0 : w9.cell? ⟨gb420, 0, none⟩ = some (.int .i64 a0_0) := (kC BK420.out 0).trans rfl; have hcz10_1 : w9.cell? ⟨gb420, 1, none⟩ = some (.slice Ao5 l0_1.length co5) := (kC BK420.out 1).trans rfl; have hcz10_2 : w9.cell? ⟨gb420, 2, none⟩ = some (.slice Ao6 l0_2.length co6) := (kC BK420.out 2).trans rfl; have hfz10_0 := kF BK420.out 0; have hfz10_1 := kF BK420.out 1; have hfz10_2 := kF BK420.out 2) | ((with_reducible refine gate_callee (f := 13) rfl ?_); refine goesL_ (some 12) rfl rfl Try.func13 (by kernel_rfl) rfl #[.slice Ao6 l0_2.length co6, .int .i64 t421] rfl mq ?_; (with_reducible refine (laws_markInt64S.calls k (fun k_ => some k_ = (.slice Ao6 l0_2.length co6 : Value).ownBlock) (.slice Ao6 l0_2.length co6) l0_2 t421 t423 t424 w0 _ ?side1 ?side2 A4.out).mono ?_); (case side1 => repeat (first | (with_reducible first | exact HB.out | apply bA | apply bN | apply bD | refine bS ?_ GE420.out) | exact HB.out)); (case side2 => exact Kd.R_tight rfl HO0_2.out); rintro e w11 ⟨rfl, hy0, hb, hkp⟩; refine ⟨_, rfl, ?_⟩; have n0_ := aM (rM (ok' := fun k_ => ((P0_1_ k_ ∨ P0_2_ k_) ∨ w.heap.size ≤ k_) ∧ some k_ ≠ (.slice Ao6 l0_2.length co6 : Value).ownBlock) (Kd.R_keptB (HO0_1.out) hkp (fun k_ hk_ hs_ => (hk_.2) hs_)) (fun k_ hk_ => ⟨hk_.1.1, hk_.1.2⟩)); have n1_ := aM (Kd.R_reok rfl hy0 (fun k_ e_ => HO0_2.out.1 k_ e_)); have n2_ := aM (blk_kept (kq BK420.out) hkp (fun hs_ => (fun e_ => (Kd.R_ne HO0_2.out BK420.out (by decide)) e_) hs_)); have n3_ := aM (Kept.then_ (S := (fun k_ => P0_1_ k_ ∨ P0_2_ k_)) (by repeat (first | (with_reducible first | exact HK.out | apply Kept.alloc | apply Kept.drewN | apply Kept.drew | refine Kept.setCell ?_ (.inr GW420.out) _) | exact HK.out)) hkp (fun k_ hs_ => (fun e_ => (HO0_2.out.1 k_ e_.symm).1) hs_)); have n4_ := aM (hb); clear HO0_1 HO0_2 BK420 HK HB; have HO0_1 := n0_; have HO0_2 := n1_; have BK420 := n2_; have HK := n3_; have HB := n4_; clear n0_ n1_ n2_ n3_ n4_; (try clear hb); (try clear hkp); (try clear hy0)))
 go_ret
 exact ⟨by first | rfl | (simp [errW_none, errW_some] <;> rfl) | (simp [*, errW_none, errW_some] <;> rfl), by (with_reducible repeat (first | apply rA | apply rN | apply rD)); exact rM HO0_1.out (fun _ hk => hk.1), by (with_reducible repeat (first | apply rA | apply rN | apply rD)); exact rM HO0_2.out (fun _ hk => hk.1), by repeat (first | (with_reducible first | exact HB.out | apply bA | apply bN | apply bD | refine bS ?_ GE420.out) | exact HB.out), by repeat (first | (with_reducible first | exact HK.out | apply Kept.alloc | apply Kept.drewN | apply Kept.drew | refine Kept.setCell ?_ (.inr GW420.out) _) | exact HK.out)⟩

/-! ### laws_markPlayResult: function 23 -/
def laws_markPlayResult.f (k : Nat) (a0_0 : Int) (a0_1 : Int) (l0_2 : List Int) (l0_3 : List Int) (l0_4 : List Int) (a1 : Int) : Option (Int × List Int × List Int × List Int) := (laws_markSynth.f k a0_1 l0_2 l0_3 a1).bind fun bt426 => ((laws_markInt64S.f k l0_4 bt426.1).bind fun bt429 => (some (bt429.1, bt426.2.1, bt426.2.2, bt429.2)))
theorem laws_markPlayResult.mono : ∀ a0 a1 a2 a3 a4 a5 k, LeO (laws_markPlayResult.f k a0 a1 a2 a3 a4 a5) (laws_markPlayResult.f (k + 1) a0 a1 a2 a3 a4 a5) := by
 intro a0 a1 a2 a3 a4 a5 k
 unfold laws_markPlayResult.f
 repeat' first
   | (with_reducible exact laws_markInt64S.mono _ _ _)
   | (with_reducible exact laws_markSynth.mono _ _ _ _ _)
   | (with_reducible exact LeO.refl _)
   | (with_reducible exact LeO.none _)
   | (with_reducible refine LeO.ite ?_ ?_)
   | (with_reducible refine LeO.bind ?_ (fun _ => ?_))
   | exact laws_markInt64S.mono _ _ _
   | exact laws_markSynth.mono _ _ _ _ _
   | exact LeO.none _
   | refine LeO.ite ?_ ?_
   | refine LeO.bind ?_ (fun _ => ?_)
set_option maxHeartbeats 8000000 in
set_option maxRecDepth 100000 in
theorem laws_markPlayResult.calls (k : Nat) (a0_0 : Int) (a0_1 : Int) (P0_2_ : Nat → Prop) (u9000_ : Value) (l0_2 : List Int) (P0_3_ : Nat → Prop) (u9001_ : Value) (l0_3 : List Int) (P0_4_ : Nat → Prop) (u9002_ : Value) (l0_4 : List Int) (a1 : Int) (r1 : Int) (r2 : List Int) (r3 : List Int) (r4 : List Int) (w0 w : World) (hB : Below w0.heap.size w0 w) (ho0_2 : Kd.R (Kd.int .i64) 2 w w0.heap.size P0_2_ u9000_ l0_2) (hp0_2_0_3 : ∀ k_, P0_2_ k_ → ¬ P0_3_ k_) (hp0_2_0_4 : ∀ k_, P0_2_ k_ → ¬ P0_4_ k_) (ho0_3 : Kd.R (Kd.int .i64) 2 w w0.heap.size P0_3_ u9001_ l0_3) (hp0_3_0_2 : ∀ k_, P0_3_ k_ → ¬ P0_2_ k_) (hp0_3_0_4 : ∀ k_, P0_3_ k_ → ¬ P0_4_ k_) (ho0_4 : Kd.R (Kd.int .i64) 2 w w0.heap.size P0_4_ u9002_ l0_4) (hp0_4_0_2 : ∀ k_, P0_4_ k_ → ¬ P0_2_ k_) (hp0_4_0_3 : ∀ k_, P0_4_ k_ → ¬ P0_3_ k_) (h : laws_markPlayResult.f k a0_0 a0_1 l0_2 l0_3 l0_4 a1 = some (r1, r2, r3, r4)) :
  Calls Try.prog 23 #[.agg #[.int .i64 a0_0, .int .i64 a0_1, u9000_, u9001_, u9002_], .int .i64 a1] w fun e w' => e = .returned (.int .i64 r1) ∧ Kd.R (Kd.int .i64) 2 w' w0.heap.size (fun k_ => ((P0_2_ k_ ∨ P0_3_ k_ ∨ P0_4_ k_) ∨ w.heap.size ≤ k_)) u9000_ r2 ∧ Kd.R (Kd.int .i64) 2 w' w0.heap.size (fun k_ => ((P0_2_ k_ ∨ P0_3_ k_ ∨ P0_4_ k_) ∨ w.heap.size ≤ k_)) u9001_ r3 ∧ Kd.R (Kd.int .i64) 2 w' w0.heap.size (fun k_ => ((P0_2_ k_ ∨ P0_3_ k_ ∨ P0_4_ k_) ∨ w.heap.size ≤ k_)) u9002_ r4 ∧ Below w0.heap.size w0 w' ∧ Kept w w' (fun k_ => P0_2_ k_ ∨ P0_3_ k_ ∨ P0_4_ k_) := by
 have hu37 := Try.underlying37
 have hu35 := Try.underlying35
 have HO0_2 := aM (show Kd.R (Kd.int .i64) 2 w w0.heap.size (fun k_ => ((P0_2_ k_ ∨ P0_3_ k_ ∨ P0_4_ k_) ∨ w.heap.size ≤ k_) ∧ some k_ ≠ (u9001_ : Value).ownBlock ∧ some k_ ≠ (u9002_ : Value).ownBlock) u9000_ l0_2 from rM ho0_2 (fun k_ hk => ⟨(.inl (.inl hk)), fun e_ => hp0_2_0_3 k_ hk (ho0_3.1 k_ e_.symm), fun e_ => hp0_2_0_4 k_ hk (ho0_4.1 k_ e_.symm)⟩))
 have HO0_3 := aM (show Kd.R (Kd.int .i64) 2 w w0.heap.size (fun k_ => ((P0_2_ k_ ∨ P0_3_ k_ ∨ P0_4_ k_) ∨ w.heap.size ≤ k_) ∧ some k_ ≠ (u9000_ : Value).ownBlock ∧ some k_ ≠ (u9002_ : Value).ownBlock) u9001_ l0_3 from rM ho0_3 (fun k_ hk => ⟨(.inl (.inr (.inl hk))), fun e_ => hp0_3_0_2 k_ hk (ho0_2.1 k_ e_.symm), fun e_ => hp0_3_0_4 k_ hk (ho0_4.1 k_ e_.symm)⟩))
 have HO0_4 := aM (show Kd.R (Kd.int .i64) 2 w w0.heap.size (fun k_ => ((P0_2_ k_ ∨ P0_3_ k_ ∨ P0_4_ k_) ∨ w.heap.size ≤ k_) ∧ some k_ ≠ (u9000_ : Value).ownBlock ∧ some k_ ≠ (u9001_ : Value).ownBlock) u9002_ l0_4 from rM ho0_4 (fun k_ hk => ⟨(.inl (.inr (.inr hk))), fun e_ => hp0_4_0_2 k_ hk (ho0_2.1 k_ e_.symm), fun e_ => hp0_4_0_3 k_ hk (ho0_3.1 k_ e_.symm)⟩))
 have HK := aM (Kept.refl w (fun k_ => P0_2_ k_ ∨ P0_3_ k_ ∨ P0_4_ k_))
 have HW0 := aM hB.size
 have HB := aM hB
 clear hB
 have H : ((laws_markSynth.f k a0_1 l0_2 l0_3 a1).bind fun bt426 => ((laws_markInt64S.f k l0_4 bt426.1).bind fun bt429 => (some (bt429.1, bt426.2.1, bt426.2.2, bt429.2)))) = some (r1, r2, r3, r4) := h
 clear h
 replace H := Option.bind_eq_some_iff.mp H
 obtain ⟨⟨t426, t427, t428⟩, A30, H⟩ := H
 replace H : ((laws_markInt64S.f k l0_4 t426).bind fun bt429 => (some (bt429.1, t427, t428, bt429.2))) = some (r1, r2, r3, r4) := H
 have A3 := aM A30
 clear A30
 replace H := Option.bind_eq_some_iff.mp H
 obtain ⟨⟨t429, t430⟩, A40, H⟩ := H
 replace H : (some (t429, t427, t428, t430)) = some (r1, r2, r3, r4) := H
 have A4 := aM A40
 clear A40
 simp only [Option.some.injEq, Prod.mk.injEq] at H
 obtain ⟨rfl, rfl, rfl, rfl⟩ := H
 obtain ⟨Ao5, co5, eo5⟩ := Kd.R_slice HO0_2.out
 subst eo5
 obtain ⟨Ao6, co6, eo6⟩ := Kd.R_slice HO0_3.out
 subst eo6
 obtain ⟨Ao7, co7, eo7⟩ := Kd.R_slice HO0_4.out
 subst eo7
 go_enter Try.func23, Try.ntmps23
 go_wp2_with (first | ((with_reducible refine gate_dst (N := 2) rfl ?_); refine box_event ?hg (N := 2) ?hd (cs := #[.int .i64 a0_0, .int .i64 a0_1, .slice Ao5 l0_2.length co5, .slice Ao6 l0_3.length co6, .slice Ao7 l0_4.length co7]) (t := 37) ?hr ?_; (case hd => rfl); (case hg => rfl); (case hr => first | (go_simp; done) | (go_simp; rfl)); intro gb425 hg w8 hbox hb; have n0_ := aM (rL (rq HO0_2.out) hb); have n1_ := aM (rL (rq HO0_3.out) hb); have n2_ := aM (rL (rq HO0_4.out) hb); have n3_ := aM (Kept.below (S := (fun k_ => P0_2_ k_ ∨ P0_3_ k_ ∨ P0_4_ k_)) (by repeat (first | (with_reducible first | exact HK.out | apply Kept.alloc | apply Kept.drewN | apply Kept.drew) | exact HK.out)) hb); have n4_ := aM (bT bq hb); have n5_ := aM (hbox); have n6_ := aM ((by rw [hg]; exact (by first | exact HK.out.1 | exact (show Kept w _ (fun k_ => P0_2_ k_ ∨ P0_3_ k_ ∨ P0_4_ k_) from by repeat (first | (with_reducible first | exact HK.out | apply Kept.alloc | apply Kept.drewN | apply Kept.drew) | exact HK.out)).1) : w.heap.size ≤ gb425)); have n7_ := aM ((by rw [hg]; exact (bZ bq) : w0.heap.size ≤ gb425)); clear HO0_2 HO0_3 HO0_4 HK HB; have HO0_2 := n0_; have HO0_3 := n1_; have HO0_4 := n2_; have HK := n3_; have HB := n4_; have BK425 := n5_; have GW425 := n6_; have GE425 := n7_; clear n0_ n1_ n2_ n3_ n4_ n5_ n6_ n7_ hb hbox hg; have hcz9_0 : w8.cell? ⟨gb425, 0, none⟩ = some (.int .i64 a0_0) := (kC BK425.out 0).trans rfl; have hcz9_1 : w8.cell? ⟨gb425, 1, none⟩ = some (.int .i64 a0_1) := (kC BK425.out 1).trans rfl; have hcz9_2 : w8.cell? ⟨gb425, 2, none⟩ = some (.slice Ao5 l0_2.length co5) := (kC BK425.out 2).trans rfl; have hcz9_3 : w8.cell? ⟨gb425, 3, none⟩ = some (.slice Ao6 l0_3.length co6) := (kC BK425.out 3).trans rfl; have hcz9_4 : w8.cell? ⟨gb425, 4, none⟩ = some (.slice Ao7 l0_4.length co7) := (kC BK425.out 4).trans rfl; have hfz9_0 := kF BK425.out 0; have hfz9_1 := kF BK425.out 1; have hfz9_2 := kF BK425.out 2; have hfz9_3 := kF BK425.out 3; have hfz9_4 := kF BK425.out 4) | ((with_reducible refine gate_callee (f := 22) rfl ?_); refine goesL_ (some 8) rfl rfl Try.func22 (by kernel_rfl) rfl #[.agg #[.int .i64 a0_1, .slice Ao5 l0_2.length co5, .slice Ao6 l0_3.length co6], .int .i64 a1] rfl mq ?_; (with_reducible refine (laws_markSynth.calls k a0_1 (fun k_ => some k_ = (.slice Ao5 l0_2.length co5 : Value).ownBlock) (.slice Ao5 l0_2.length co5) l0_2 (fun k_ => some k_ = (.slice Ao6 l0_3.length co6 : Value).ownBlock) (.slice Ao6 l0_3.length co6) l0_3 a1 t426 t427 t428 w0 _ ?side1 ?side2 ?side3 ?side4 ?side5 A3.out).mono ?_); (case side1 => repeat (first | (with_reducible first | exact HB.out | apply bA | apply bN | apply bD | refine bS ?_ GE425.out) | exact HB.out)); (case side2 => exact Kd.R_tight rfl HO0_2.out); (case side3 => exact fun k_ e_ => (HO0_2.out.1 k_ e_.symm).2.1); (case side4 => exact Kd.R_tight rfl HO0_3.out); (case side5 => exact fun k_ e_ => (HO0_3.out.1 k_ e_.symm).2.1); rintro e w10 ⟨rfl, hy0, hy1, hb, hkp⟩; refine ⟨_, rfl, ?_⟩; have n0_ := aM (Kd.R_reok rfl hy0 (fun k_ e_ => HO0_2.out.1 k_ e_)); have n1_ := aM (Kd.R_reok rfl hy1 (fun k_ e_ => HO0_3.out.1 k_ e_)); have n2_ := aM (rM (ok' := fun k_ => ((P0_2_ k_ ∨ P0_3_ k_ ∨ P0_4_ k_) ∨ w.heap.size ≤ k_) ∧ some k_ ≠ (.slice Ao5 l0_2.length co5 : Value).ownBlock ∧ some k_ ≠ (.slice Ao6 l0_3.length co6 : Value).ownBlock) (Kd.R_keptB (HO0_4.out) hkp (fun k_ hk_ hs_ => Or.elim hs_ (fun e_ => (hk_.2.1) e_) (fun e_ => (hk_.2.2) e_))) (fun k_ hk_ => ⟨hk_.1.1, hk_.1.2.1, hk_.1.2.2⟩)); have n3_ := aM (blk_kept (kq BK425.out) hkp (fun hs_ => Or.elim hs_ (fun e_ => (fun e_ => (Kd.R_ne HO0_2.out BK425.out (by decide)) e_) e_) (fun e_ => (fun e_ => (Kd.R_ne HO0_3.out BK425.out (by decide)) e_) e_))); have n4_ := aM (Kept.then_ (S := (fun k_ => P0_2_ k_ ∨ P0_3_ k_ ∨ P0_4_ k_)) (by repeat (first | (with_reducible first | exact HK.out | apply Kept.alloc | apply Kept.drewN | apply Kept.drew | refine Kept.setCell ?_ (.inr GW425.out) _) | exact HK.out)) hkp (fun k_ hs_ => Or.elim hs_ (fun e_ => (fun e_ => (HO0_2.out.1 k_ e_.symm).1) e_) (fun e_ => (fun e_ => (HO0_3.out.1 k_ e_.symm).1) e_))); have n5_ := aM (hb); clear HO0_2 HO0_3 HO0_4 BK425 HK HB; have HO0_2 := n0_; have HO0_3 := n1_; have HO0_4 := n2_; have BK425 := n3_; have HK := n4_; have HB := n5_; clear n0_ n1_ n2_ n3_ n4_ n5_; (try clear hb); (try clear hkp); (try clear hy0); (try clear hy1); have hcz11_0 : w10.cell? ⟨gb425, 0, none⟩ = some (.int .i64 a0_0) := (kC BK425.out 0).trans rfl; have hcz11_1 : w10.cell? ⟨gb425, 1, none⟩ = some (.int .i64 a0_1) := (kC BK425.out 1).trans rfl; have hcz11_2 : w10.cell? ⟨gb425, 2, none⟩ = some (.slice Ao5 l0_2.length co5) := (kC BK425.out 2).trans rfl; have hcz11_3 : w10.cell? ⟨gb425, 3, none⟩ = some (.slice Ao6 l0_3.length co6) := (kC BK425.out 3).trans rfl; have hcz11_4 : w10.cell? ⟨gb425, 4, none⟩ = some (.slice Ao7 l0_4.length co7) := (kC BK425.out 4).trans rfl; have hfz11_0 := kF BK425.out 0; have hfz11_1 := kF BK425.out 1; have hfz11_2 := kF BK425.out 2; have hfz11_3 := kF BK425.out 3; have hfz11_4 := kF BK425.out 4) | ((with_reducible refine gate_callee (f := 13) rfl ?_); refine goesL_ (some 12) rfl rfl Try.func13 (by kernel_rfl) rfl #[.slice Ao7 l0_4.length co7, .int .i64 t426] rfl mq ?_; (with_reducible refine (laws_markInt64S.calls k (fun k_ => some k_ = (.slice Ao7 l0_4.length co7 : Value).ownBlock) (.slice Ao7 l0_4.length co7) l0_4 t426 t429 t430 w0 _ ?side1 ?side2 A4.out).mono ?_); (case side1 => repeat (first | (with_reducible first | exact HB.out | apply bA | apply bN | apply bD | refine bS ?_ GE425.out) | exact HB.out)); (case side2 => exact Kd.R_tight rfl HO0_4.out); rintro e w12 ⟨rfl, hy0, hb, hkp⟩; refine ⟨_, rfl, ?_⟩; have n0_ := aM (rM (ok' := fun k_ => ((P0_2_ k_ ∨ P0_3_ k_ ∨ P0_4_ k_) ∨ w.heap.size ≤ k_) ∧ some k_ ≠ (.slice Ao6 l0_3.length co6 : Value).ownBlock ∧ some k_ ≠ (.slice Ao7 l0_4.length co7 : Value).ownBlock) (Kd.R_keptB (HO0_2.out) hkp (fun k_ hk_ hs_ => (hk_.2.2) hs_)) (fun k_ hk_ => ⟨hk_.1.1, hk_.1.2.1, hk_.1.2.2⟩)); have n1_ := aM (rM (ok' := fun k_ => ((P0_2_ k_ ∨ P0_3_ k_ ∨ P0_4_ k_) ∨ w.heap.size ≤ k_) ∧ some k_ ≠ (.slice Ao5 l0_2.length co5 : Value).ownBlock ∧ some k_ ≠ (.slice Ao7 l0_4.length co7 : Value).ownBlock) (Kd.R_keptB (HO0_3.out) hkp (fun k_ hk_ hs_ => (hk_.2.2) hs_)) (fun k_ hk_ => ⟨hk_.1.1, hk_.1.2.1, hk_.1.2.2⟩)); have n2_ := aM (Kd.R_reok rfl hy0 (fun k_ e_ => HO0_4.out.1 k_ e_)); have n3_ := aM (blk_kept (kq BK425.out) hkp (fun hs_ => (fun e_ => (Kd.R_ne HO0_4.out BK425.out (by decide)) e_) hs_)); have n4_ := aM (Kept.then_ (S := (fun k_ => P0_2_ k_ ∨ P0_3_ k_ ∨ P0_4_ k_)) (by repeat (first | (with_reducible first | exact HK.out | apply Kept.alloc | apply Kept.drewN | apply Kept.drew | refine Kept.setCell ?_ (.inr GW425.out) _) | exact HK.out)) hkp (fun k_ hs_ => (fun e_ => (HO0_4.out.1 k_ e_.symm).1) hs_)); have n5_ := aM (hb); clear HO0_2 HO0_3 HO0_4 BK425 HK HB; have HO0_2 := n0_; have HO0_3 := n1_; have HO0_4 := n2_; have BK425 := n3_; have HK := n4_; have HB := n5_; clear n0_ n1_ n2_ n3_ n4_ n5_; (try clear hb); (try clear hkp); (try clear hy0)))
 go_ret
 exact ⟨by first | rfl | (simp [errW_none, errW_some] <;> rfl) | (simp [*, errW_none, errW_some] <;> rfl), by (with_reducible repeat (first | apply rA | apply rN | apply rD)); exact rM HO0_2.out (fun _ hk => hk.1), by (with_reducible repeat (first | apply rA | apply rN | apply rD)); exact rM HO0_3.out (fun _ hk => hk.1), by (with_reducible repeat (first | apply rA | apply rN | apply rD)); exact rM HO0_4.out (fun _ hk => hk.1), by repeat (first | (with_reducible first | exact HB.out | apply bA | apply bN | apply bD | refine bS ?_ GE425.out) | exact HB.out), by repeat (first | (with_reducible first | exact HK.out | apply Kept.alloc | apply Kept.drewN | apply Kept.drew | refine Kept.setCell ?_ (.inr GW425.out) _) | exact HK.out)⟩

/-! ### laws_heldInt64S: function 55 -/
def laws_heldInt64S.l0 : Nat → List Int → Int → Int → Option (Int)
 | 0, _, _, _ => none
 | k + 1, x0, x1, x5 => if x5 < (x0.length : Int) then (if 0 ≤ x5 then (if (rd x0 x5) = x1 then (laws_heldInt64S.l0 k x0 (wrap64 (x1 + 1)) (wrap64 (x5 + 1))) else (some (-1))) else (none)) else (some x1)
def laws_heldInt64S.f (k : Nat) (l0 : List Int) (a1 : Int) : Option (Int) := laws_heldInt64S.l0 k l0 a1 0
theorem laws_heldInt64S.mono_l : ∀ k, (∀ y0 y1 y2, LeO (laws_heldInt64S.l0 k y0 y1 y2) (laws_heldInt64S.l0 (k + 1) y0 y1 y2))
 | 0 => fun _ _ _ r h => by simp [laws_heldInt64S.l0] at h
 | k + 1 => by
  have ih0 := laws_heldInt64S.mono_l k
  ·intro y0 y1 y2
   unfold laws_heldInt64S.l0
   repeat' first
   | (with_reducible exact ih0 _ _ _)
   | (with_reducible exact LeO.refl _)
   | (with_reducible exact LeO.none _)
   | (with_reducible refine LeO.ite ?_ ?_)
   | (with_reducible refine LeO.bind ?_ (fun _ => ?_))
   | exact ih0 _ _ _
   | exact LeO.none _
   | refine LeO.ite ?_ ?_
   | refine LeO.bind ?_ (fun _ => ?_)
theorem laws_heldInt64S.mono : ∀ a0 a1 k, LeO (laws_heldInt64S.f k a0 a1) (laws_heldInt64S.f (k + 1) a0 a1) := by
 intro a0 a1 k
 have ih0 := laws_heldInt64S.mono_l k
 unfold laws_heldInt64S.f
 repeat' first
   | (with_reducible exact ih0 _ _ _)
   | (with_reducible exact LeO.refl _)
   | (with_reducible exact LeO.none _)
   | (with_reducible refine LeO.ite ?_ ?_)
   | (with_reducible refine LeO.bind ?_ (fun _ => ?_))
   | exact ih0 _ _ _
   | exact LeO.none _
   | refine LeO.ite ?_ ?_
   | refine LeO.bind ?_ (fun _ => ?_)
set_option maxHeartbeats 8000000 in
set_option maxRecDepth 100000 in
theorem laws_heldInt64S.calls (k : Nat) (A0 : Option Addr) (c0 : Nat) (l0 : List Int) (a1 : Int) (r : Int) (w : World) (hr0 : Kd.C (Kd.int .i64) w A0 l0.length l0) (hc0 : l0.length ≤ c0) (h : laws_heldInt64S.f k l0 a1 = some r) :
  Calls Try.prog 55 #[.slice A0 l0.length c0, .int .i64 a1] w fun e w' => e = .returned (.int .i64 r) ∧ Drawn0 w w' := by
 have HR0 := aM hr0
 have HC0 := aM hc0
 clear hr0 hc0
 have H : (laws_heldInt64S.l0 k l0 a1 0) = some r := h
 clear h
 have H' := aM H
 clear H
 go_enter Try.func55, Try.ntmps55
 go_wp2
 go_loopg [1, 5] k (fun kq v1 v5 w' => ∃ (x1_1 : Int) (x5_1 : Int), v1 = .int .i64 x1_1 ∧ v5 = .int .i64 x5_1 ∧ Aside0 (laws_heldInt64S.l0 kq l0 x1_1 x5_1 = some r) ∧ Aside0 (kq ≤ k) ∧ Drawn0 w w')
 case atStart => exact ⟨(a1), (0), (by first | rfl | (simp; done) | (simp [*]; done)), (by first | rfl | (simp; done) | (simp [*]; done)), H', ⟨Nat.le_refl _⟩, by repeat (first | exact Drawn0.refl _ | apply Drawn0.step)⟩
 case round =>
  clear H'
  try clear p2
  obtain ⟨x1_1, x5_1, rfl, rfl, HA, HK1, ⟨m1, rfl⟩⟩ := hrel
  cases gk with
  | zero => exact absurd HA.out (by simp [laws_heldInt64S.l0])
  | succ k1 =>
   have H := HA.out
   clear HA
   simp only [laws_heldInt64S.l0] at H
   by_cases c3 : x5_1 < (l0.length : Int)
   ·rw [if_pos c3] at H
    have c3b0 : decide (x5_1 < (l0.length : Int)) = true := decide_eq_true c3
    clear c3
    by_cases c4 : 0 ≤ x5_1
    ·rw [if_pos c4] at H
     have c4b0 : decide (0 ≤ x5_1) = true := decide_eq_true c4
     clear c4
     by_cases c5 : (rd l0 x5_1) = x1_1
     ·rw [if_pos c5] at H
      have c5b0 : ((rd l0 x5_1) == x1_1) = true := beq_iff_eq.mpr c5
      have c5b1 : ((rd l0 x5_1) != x1_1) = false := bne_eq_false_iff_eq.mpr c5
      clear c5
      have H' := aM H
      clear H
      have p431 : 0 ≤ (x5_1 : Int) := of_decide_eq_true (by first | (with_reducible assumption) | assumption)
      have q431 : x5_1 < (l0.length : Int) := of_decide_eq_true (by first | (with_reducible assumption) | assumption)
      obtain ⟨ad431, e431, hx431_0⟩ := Kd.at_int HR0.out x5_1 p431 q431
      cases e431
      replace p431 := eq_true p431
      replace q431 := eq_true q431
      go_wp2
      go_roundg k1
      case measure => have := HK1.out; omega
      case rel => exact ⟨(wrap64 (x1_1 + 1)), (wrap64 (x5_1 + 1)), (by first | rfl | (simp; done) | (simp [*]; done)), (by first | rfl | (simp; done) | (simp [*]; done)), H', ⟨by have := HK1.out; omega⟩, by repeat (first | exact Drawn0.refl _ | apply Drawn0.step)⟩
     ·rw [if_neg c5] at H
      have c5b0 : ((rd l0 x5_1) == x1_1) = false := beq_eq_false_iff_ne.mpr c5
      have c5b1 : ((rd l0 x5_1) != x1_1) = true := bne_iff_ne.mpr c5
      obtain rfl := Option.some.inj H
      have p431 : 0 ≤ (x5_1 : Int) := of_decide_eq_true (by first | (with_reducible assumption) | assumption)
      have q431 : x5_1 < (l0.length : Int) := of_decide_eq_true (by first | (with_reducible assumption) | assumption)
      obtain ⟨ad431, e431, hx431_0⟩ := Kd.at_int HR0.out x5_1 p431 q431
      cases e431
      replace p431 := eq_true p431
      replace q431 := eq_true q431
      go_wp2
      go_ret
      exact ⟨by first | rfl | (simp; done) | (simp [*]; done), by repeat (first | exact Drawn0.refl _ | apply Drawn0.step)⟩
    ·rw [if_neg c4] at H
     exact absurd H (by simp)
   ·rw [if_neg c3] at H
    have c3b0 : decide (x5_1 < (l0.length : Int)) = false := decide_eq_false c3
    clear c3
    obtain rfl := Option.some.inj H
    go_wp2
    go_ret
    exact ⟨by first | rfl | (simp; done) | (simp [*]; done), by repeat (first | exact Drawn0.refl _ | apply Drawn0.step)⟩

/-! ### laws_heldSynth: function 64 -/
def laws_heldSynth.f (k : Nat) (a0_0 : Int) (l0_1 : List Int) (l0_2 : List Int) (a1 : Int) : Option (Int) := (laws_heldInt64S.f k l0_1 a1).bind fun t433 => (if t433 < 0 then (some (-1)) else ((laws_heldInt64S.f k l0_2 t433).bind fun t434 => (if t434 < 0 then (some (-1)) else (some t434))))
theorem laws_heldSynth.mono : ∀ a0 a1 a2 a3 k, LeO (laws_heldSynth.f k a0 a1 a2 a3) (laws_heldSynth.f (k + 1) a0 a1 a2 a3) := by
 intro a0 a1 a2 a3 k
 unfold laws_heldSynth.f
 repeat' first
   | (with_reducible exact laws_heldInt64S.mono _ _ _)
   | (with_reducible exact LeO.refl _)
   | (with_reducible exact LeO.none _)
   | (with_reducible refine LeO.ite ?_ ?_)
   | (with_reducible refine LeO.bind ?_ (fun _ => ?_))
   | exact laws_heldInt64S.mono _ _ _
   | exact LeO.none _
   | refine LeO.ite ?_ ?_
   | refine LeO.bind ?_ (fun _ => ?_)
set_option maxHeartbeats 8000000 in
set_option maxRecDepth 100000 in
theorem laws_heldSynth.calls (k : Nat) (a0_0 : Int) (A0_1 : Option Addr) (c0_1 : Nat) (l0_1 : List Int) (A0_2 : Option Addr) (c0_2 : Nat) (l0_2 : List Int) (a1 : Int) (r : Int) (w : World) (hr0_1 : Kd.C (Kd.int .i64) w A0_1 l0_1.length l0_1) (hc0_1 : l0_1.length ≤ c0_1) (hr0_2 : Kd.C (Kd.int .i64) w A0_2 l0_2.length l0_2) (hc0_2 : l0_2.length ≤ c0_2) (h : laws_heldSynth.f k a0_0 l0_1 l0_2 a1 = some r) :
  Calls Try.prog 64 #[.agg #[.int .i64 a0_0, .slice A0_1 l0_1.length c0_1, .slice A0_2 l0_2.length c0_2], .int .i64 a1] w fun e w' => e = .returned (.int .i64 r) ∧ Below w.heap.size w w' := by
 have hu35 := Try.underlying35
 have HR0_1 := aM hr0_1
 have HC0_1 := aM hc0_1
 clear hr0_1 hc0_1
 have HR0_2 := aM hr0_2
 have HC0_2 := aM hc0_2
 clear hr0_2 hc0_2
 have HB := aM (Below.refl w.heap.size w)
 have H : ((laws_heldInt64S.f k l0_1 a1).bind fun t433 => (if t433 < 0 then (some (-1)) else ((laws_heldInt64S.f k l0_2 t433).bind fun t434 => (if t434 < 0 then (some (-1)) else (some t434))))) = some r := h
 clear h
 replace H := Option.bind_eq_some_iff.mp H
 obtain ⟨t433, A30, H⟩ := H
 replace H : (if t433 < 0 then (some (-1)) else ((laws_heldInt64S.f k l0_2 t433).bind fun t434 => (if t434 < 0 then (some (-1)) else (some t434)))) = some r := H
 have A3 := aM A30
 clear A30
 by_cases c4 : t433 < 0
 ·rw [if_pos c4] at H
  have c4b0 : decide (t433 < 0) = true := decide_eq_true c4
  clear c4
  obtain rfl := Option.some.inj H
  go_enter Try.func64, Try.ntmps64
  go_wp2_with (first | ((with_reducible refine gate_dst (N := 2) rfl ?_); refine box_event ?hg (N := 2) ?hd (cs := #[.int .i64 a0_0, .slice A0_1 l0_1.length c0_1, .slice A0_2 l0_2.length c0_2]) (t := 35) ?hr ?_; (case hd => rfl); (case hg => rfl); (case hr => first | (go_simp; done) | (go_simp; rfl)); intro gb432 hg w5 hbox hb; have n0_ := aM (bT bq hb); have n1_ := aM (hbox); have n2_ := aM ((by rw [hg]; exact (bZ bq) : w.heap.size ≤ gb432)); have n3_ := aM ((by rw [hg]; exact (bZ bq) : w.heap.size ≤ gb432)); clear HB; have HB := n0_; have BK432 := n1_; have GW432 := n2_; have GE432 := n3_; clear n0_ n1_ n2_ n3_ hb hbox hg; have hcz6_0 : w5.cell? ⟨gb432, 0, none⟩ = some (.int .i64 a0_0) := (kC BK432.out 0).trans rfl; have hcz6_1 : w5.cell? ⟨gb432, 1, none⟩ = some (.slice A0_1 l0_1.length c0_1) := (kC BK432.out 1).trans rfl; have hcz6_2 : w5.cell? ⟨gb432, 2, none⟩ = some (.slice A0_2 l0_2.length c0_2) := (kC BK432.out 2).trans rfl; have hfz6_0 := kF BK432.out 0; have hfz6_1 := kF BK432.out 1; have hfz6_2 := kF BK432.out 2) | ((with_reducible refine gate_callee (f := 55) rfl ?_); refine goesL_ (some 8) rfl rfl Try.func55 (by kernel_rfl) rfl #[.slice A0_1 l0_1.length c0_1, .int .i64 a1] rfl mq ?_; (with_reducible refine (laws_heldInt64S.calls k _ _ l0_1 a1 t433 _ ?side1 ?side2 A3.out).mono ?_); (case side1 => exact cq (cB HR0_1.out HB.out)); (case side2 => exact HC0_1.out); rintro e w' ⟨rfl, ⟨nd, rfl⟩⟩; refine ⟨_, rfl, ?_⟩))
  go_ret
  exact ⟨by first | rfl | (simp [errW_none, errW_some] <;> rfl) | (simp [*, errW_none, errW_some] <;> rfl), bq⟩
 ·rw [if_neg c4] at H
  have c4b0 : decide (t433 < 0) = false := decide_eq_false c4
  clear c4
  replace H := Option.bind_eq_some_iff.mp H
  obtain ⟨t434, A70, H⟩ := H
  replace H : (if t434 < 0 then (some (-1)) else (some t434)) = some r := H
  have A7 := aM A70
  clear A70
  by_cases c8 : t434 < 0
  ·rw [if_pos c8] at H
   have c8b0 : decide (t434 < 0) = true := decide_eq_true c8
   clear c8
   obtain rfl := Option.some.inj H
   go_enter Try.func64, Try.ntmps64
   go_wp2_with (first | ((with_reducible refine gate_dst (N := 2) rfl ?_); refine box_event ?hg (N := 2) ?hd (cs := #[.int .i64 a0_0, .slice A0_1 l0_1.length c0_1, .slice A0_2 l0_2.length c0_2]) (t := 35) ?hr ?_; (case hd => rfl); (case hg => rfl); (case hr => first | (go_simp; done) | (go_simp; rfl)); intro gb432 hg w9 hbox hb; have n0_ := aM (bT bq hb); have n1_ := aM (hbox); have n2_ := aM ((by rw [hg]; exact (bZ bq) : w.heap.size ≤ gb432)); have n3_ := aM ((by rw [hg]; exact (bZ bq) : w.heap.size ≤ gb432)); clear HB; have HB := n0_; have BK432 := n1_; have GW432 := n2_; have GE432 := n3_; clear n0_ n1_ n2_ n3_ hb hbox hg; have hcz10_0 : w9.cell? ⟨gb432, 0, none⟩ = some (.int .i64 a0_0) := (kC BK432.out 0).trans rfl; have hcz10_1 : w9.cell? ⟨gb432, 1, none⟩ = some (.slice A0_1 l0_1.length c0_1) := (kC BK432.out 1).trans rfl; have hcz10_2 : w9.cell? ⟨gb432, 2, none⟩ = some (.slice A0_2 l0_2.length c0_2) := (kC BK432.out 2).trans rfl; have hfz10_0 := kF BK432.out 0; have hfz10_1 := kF BK432.out 1; have hfz10_2 := kF BK432.out 2) | ((with_reducible refine gate_callee (f := 55) rfl ?_); refine goesL_ (some 8) rfl rfl Try.func55 (by kernel_rfl) rfl #[.slice A0_1 l0_1.length c0_1, .int .i64 a1] rfl mq ?_; (with_reducible refine (laws_heldInt64S.calls k _ _ l0_1 a1 t433 _ ?side1 ?side2 A3.out).mono ?_); (case side1 => exact cq (cB HR0_1.out HB.out)); (case side2 => exact HC0_1.out); rintro e w' ⟨rfl, ⟨nd, rfl⟩⟩; refine ⟨_, rfl, ?_⟩) | ((with_reducible refine gate_callee (f := 55) rfl ?_); refine goesL_ (some 14) rfl rfl Try.func55 (by kernel_rfl) rfl #[.slice A0_2 l0_2.length c0_2, .int .i64 t433] rfl mq ?_; (with_reducible refine (laws_heldInt64S.calls k _ _ l0_2 t433 t434 _ ?side1 ?side2 A7.out).mono ?_); (case side1 => exact cq (cB HR0_2.out bq)); (case side2 => exact HC0_2.out); rintro e w' ⟨rfl, ⟨nd, rfl⟩⟩; refine ⟨_, rfl, ?_⟩))
   go_ret
   exact ⟨by first | rfl | (simp [errW_none, errW_some] <;> rfl) | (simp [*, errW_none, errW_some] <;> rfl), bq⟩
  ·rw [if_neg c8] at H
   have c8b0 : decide (t434 < 0) = false := decide_eq_false c8
   clear c8
   obtain rfl := Option.some.inj H
   go_enter Try.func64, Try.ntmps64
   go_wp2_with (first | ((with_reducible refine gate_dst (N := 2) rfl ?_); refine box_event ?hg (N := 2) ?hd (cs := #[.int .i64 a0_0, .slice A0_1 l0_1.length c0_1, .slice A0_2 l0_2.length c0_2]) (t := 35) ?hr ?_; (case hd => rfl); (case hg => rfl); (case hr => first | (go_simp; done) | (go_simp; rfl)); intro gb432 hg w11 hbox hb; have n0_ := aM (bT bq hb); have n1_ := aM (hbox); have n2_ := aM ((by rw [hg]; exact (bZ bq) : w.heap.size ≤ gb432)); have n3_ := aM ((by rw [hg]; exact (bZ bq) : w.heap.size ≤ gb432)); clear HB; have HB := n0_; have BK432 := n1_; have GW432 := n2_; have GE432 := n3_; clear n0_ n1_ n2_ n3_ hb hbox hg; have hcz12_0 : w11.cell? ⟨gb432, 0, none⟩ = some (.int .i64 a0_0) := (kC BK432.out 0).trans rfl; have hcz12_1 : w11.cell? ⟨gb432, 1, none⟩ = some (.slice A0_1 l0_1.length c0_1) := (kC BK432.out 1).trans rfl; have hcz12_2 : w11.cell? ⟨gb432, 2, none⟩ = some (.slice A0_2 l0_2.length c0_2) := (kC BK432.out 2).trans rfl; have hfz12_0 := kF BK432.out 0; have hfz12_1 := kF BK432.out 1; have hfz12_2 := kF BK432.out 2) | ((with_reducible refine gate_callee (f := 55) rfl ?_); refine goesL_ (some 8) rfl rfl Try.func55 (by kernel_rfl) rfl #[.slice A0_1 l0_1.length c0_1, .int .i64 a1] rfl mq ?_; (with_reducible refine (laws_heldInt64S.calls k _ _ l0_1 a1 t433 _ ?side1 ?side2 A3.out).mono ?_); (case side1 => exact cq (cB HR0_1.out HB.out)); (case side2 => exact HC0_1.out); rintro e w' ⟨rfl, ⟨nd, rfl⟩⟩; refine ⟨_, rfl, ?_⟩) | ((with_reducible refine gate_callee (f := 55) rfl ?_); refine goesL_ (some 14) rfl rfl Try.func55 (by kernel_rfl) rfl #[.slice A0_2 l0_2.length c0_2, .int .i64 t433] rfl mq ?_; (with_reducible refine (laws_heldInt64S.calls k _ _ l0_2 t433 t434 _ ?side1 ?side2 A7.out).mono ?_); (case side1 => exact cq (cB HR0_2.out bq)); (case side2 => exact HC0_2.out); rintro e w' ⟨rfl, ⟨nd, rfl⟩⟩; refine ⟨_, rfl, ?_⟩))
   go_ret
   exact ⟨by first | rfl | (simp [errW_none, errW_some] <;> rfl) | (simp [*, errW_none, errW_some] <;> rfl), bq⟩

/-! ### laws_heldPlayResult: function 24 -/
def laws_heldPlayResult.f (k : Nat) (a0_0 : Int) (a0_1 : Int) (l0_2 : List Int) (l0_3 : List Int) (l0_4 : List Int) (a1 : Int) : Option (Int) := (laws_heldSynth.f k a0_1 l0_2 l0_3 a1).bind fun t436 => (if t436 < 0 then (some (-1)) else ((laws_heldInt64S.f k l0_4 t436).bind fun t437 => (if t437 < 0 then (some (-1)) else (some t437))))
theorem laws_heldPlayResult.mono : ∀ a0 a1 a2 a3 a4 a5 k, LeO (laws_heldPlayResult.f k a0 a1 a2 a3 a4 a5) (laws_heldPlayResult.f (k + 1) a0 a1 a2 a3 a4 a5) := by
 intro a0 a1 a2 a3 a4 a5 k
 unfold laws_heldPlayResult.f
 repeat' first
   | (with_reducible exact laws_heldInt64S.mono _ _ _)
   | (with_reducible exact laws_heldSynth.mono _ _ _ _ _)
   | (with_reducible exact LeO.refl _)
   | (with_reducible exact LeO.none _)
   | (with_reducible refine LeO.ite ?_ ?_)
   | (with_reducible refine LeO.bind ?_ (fun _ => ?_))
   | exact laws_heldInt64S.mono _ _ _
   | exact laws_heldSynth.mono _ _ _ _ _
   | exact LeO.none _
   | refine LeO.ite ?_ ?_
   | refine LeO.bind ?_ (fun _ => ?_)
set_option maxHeartbeats 8000000 in
set_option maxRecDepth 100000 in
theorem laws_heldPlayResult.calls (k : Nat) (a0_0 : Int) (a0_1 : Int) (A0_2 : Option Addr) (c0_2 : Nat) (l0_2 : List Int) (A0_3 : Option Addr) (c0_3 : Nat) (l0_3 : List Int) (A0_4 : Option Addr) (c0_4 : Nat) (l0_4 : List Int) (a1 : Int) (r : Int) (w : World) (hr0_2 : Kd.C (Kd.int .i64) w A0_2 l0_2.length l0_2) (hc0_2 : l0_2.length ≤ c0_2) (hr0_3 : Kd.C (Kd.int .i64) w A0_3 l0_3.length l0_3) (hc0_3 : l0_3.length ≤ c0_3) (hr0_4 : Kd.C (Kd.int .i64) w A0_4 l0_4.length l0_4) (hc0_4 : l0_4.length ≤ c0_4) (h : laws_heldPlayResult.f k a0_0 a0_1 l0_2 l0_3 l0_4 a1 = some r) :
  Calls Try.prog 24 #[.agg #[.int .i64 a0_0, .int .i64 a0_1, .slice A0_2 l0_2.length c0_2, .slice A0_3 l0_3.length c0_3, .slice A0_4 l0_4.length c0_4], .int .i64 a1] w fun e w' => e = .returned (.int .i64 r) ∧ Below w.heap.size w w' := by
 have hu37 := Try.underlying37
 have hu35 := Try.underlying35
 have HR0_2 := aM hr0_2
 have HC0_2 := aM hc0_2
 clear hr0_2 hc0_2
 have HR0_3 := aM hr0_3
 have HC0_3 := aM hc0_3
 clear hr0_3 hc0_3
 have HR0_4 := aM hr0_4
 have HC0_4 := aM hc0_4
 clear hr0_4 hc0_4
 have HB := aM (Below.refl w.heap.size w)
 have H : ((laws_heldSynth.f k a0_1 l0_2 l0_3 a1).bind fun t436 => (if t436 < 0 then (some (-1)) else ((laws_heldInt64S.f k l0_4 t436).bind fun t437 => (if t437 < 0 then (some (-1)) else (some t437))))) = some r := h
 clear h
 replace H := Option.bind_eq_some_iff.mp H
 obtain ⟨t436, A30, H⟩ := H
 replace H : (if t436 < 0 then (some (-1)) else ((laws_heldInt64S.f k l0_4 t436).bind fun t437 => (if t437 < 0 then (some (-1)) else (some t437)))) = some r := H
 have A3 := aM A30
 clear A30
 by_cases c4 : t436 < 0
 ·rw [if_pos c4] at H
  have c4b0 : decide (t436 < 0) = true := decide_eq_true c4
  clear c4
  obtain rfl := Option.some.inj H
  go_enter Try.func24, Try.ntmps24
  go_wp2_with (first | ((with_reducible refine gate_dst (N := 2) rfl ?_); refine box_event ?hg (N := 2) ?hd (cs := #[.int .i64 a0_0, .int .i64 a0_1, .slice A0_2 l0_2.length c0_2, .slice A0_3 l0_3.length c0_3, .slice A0_4 l0_4.length c0_4]) (t := 37) ?hr ?_; (case hd => rfl); (case hg => rfl); (case hr => first | (go_simp; done) | (go_simp; rfl)); intro gb435 hg w5 hbox hb; have n0_ := aM (bT bq hb); have n1_ := aM (hbox); have n2_ := aM ((by rw [hg]; exact (bZ bq) : w.heap.size ≤ gb435)); have n3_ := aM ((by rw [hg]; exact (bZ bq) : w.heap.size ≤ gb435)); clear HB; have HB := n0_; have BK435 := n1_; have GW435 := n2_; have GE435 := n3_; clear n0_ n1_ n2_ n3_ hb hbox hg; have hcz6_0 : w5.cell? ⟨gb435, 0, none⟩ = some (.int .i64 a0_0) := (kC BK435.out 0).trans rfl; have hcz6_1 : w5.cell? ⟨gb435, 1, none⟩ = some (.int .i64 a0_1) := (kC BK435.out 1).trans rfl; have hcz6_2 : w5.cell? ⟨gb435, 2, none⟩ = some (.slice A0_2 l0_2.length c0_2) := (kC BK435.out 2).trans rfl; have hcz6_3 : w5.cell? ⟨gb435, 3, none⟩ = some (.slice A0_3 l0_3.length c0_3) := (kC BK435.out 3).trans rfl; have hcz6_4 : w5.cell? ⟨gb435, 4, none⟩ = some (.slice A0_4 l0_4.length c0_4) := (kC BK435.out 4).trans rfl; have hfz6_0 := kF BK435.out 0; have hfz6_1 := kF BK435.out 1; have hfz6_2 := kF BK435.out 2; have hfz6_3 := kF BK435.out 3; have hfz6_4 := kF BK435.out 4) | ((with_reducible refine gate_callee (f := 64) rfl ?_); refine goesL_ (some 8) rfl rfl Try.func64 (by kernel_rfl) rfl #[.agg #[.int .i64 a0_1, .slice A0_2 l0_2.length c0_2, .slice A0_3 l0_3.length c0_3], .int .i64 a1] rfl mq ?_; (with_reducible refine (laws_heldSynth.calls k a0_1 _ _ l0_2 _ _ l0_3 a1 t436 _ ?side1 ?side2 ?side3 ?side4 A3.out).mono ?_); (case side1 => exact cq (cB HR0_2.out HB.out)); (case side2 => exact HC0_2.out); (case side3 => exact cq (cB HR0_3.out HB.out)); (case side4 => exact HC0_3.out); rintro e w7 ⟨rfl, hb⟩; refine ⟨_, rfl, ?_⟩; have n0_ := aM (kB (g := gb435) (o := .cells #[.int .i64 a0_0, .int .i64 a0_1, .slice A0_2 l0_2.length c0_2, .slice A0_3 l0_3.length c0_3, .slice A0_4 l0_4.length c0_4] 37 (0, 0)) (kq BK435.out) hb); have n1_ := aM (bT bq hb); clear BK435 HB; have BK435 := n0_; have HB := n1_; clear n0_ n1_; (try clear hb)))
  go_ret
  exact ⟨by first | rfl | (simp [errW_none, errW_some] <;> rfl) | (simp [*, errW_none, errW_some] <;> rfl), bq⟩
 ·rw [if_neg c4] at H
  have c4b0 : decide (t436 < 0) = false := decide_eq_false c4
  clear c4
  replace H := Option.bind_eq_some_iff.mp H
  obtain ⟨t437, A80, H⟩ := H
  replace H : (if t437 < 0 then (some (-1)) else (some t437)) = some r := H
  have A8 := aM A80
  clear A80
  by_cases c9 : t437 < 0
  ·rw [if_pos c9] at H
   have c9b0 : decide (t437 < 0) = true := decide_eq_true c9
   clear c9
   obtain rfl := Option.some.inj H
   go_enter Try.func24, Try.ntmps24
   go_wp2_with (first | ((with_reducible refine gate_dst (N := 2) rfl ?_); refine box_event ?hg (N := 2) ?hd (cs := #[.int .i64 a0_0, .int .i64 a0_1, .slice A0_2 l0_2.length c0_2, .slice A0_3 l0_3.length c0_3, .slice A0_4 l0_4.length c0_4]) (t := 37) ?hr ?_; (case hd => rfl); (case hg => rfl); (case hr => first | (go_simp; done) | (go_simp; rfl)); intro gb435 hg w10 hbox hb; have n0_ := aM (bT bq hb); have n1_ := aM (hbox); have n2_ := aM ((by rw [hg]; exact (bZ bq) : w.heap.size ≤ gb435)); have n3_ := aM ((by rw [hg]; exact (bZ bq) : w.heap.size ≤ gb435)); clear HB; have HB := n0_; have BK435 := n1_; have GW435 := n2_; have GE435 := n3_; clear n0_ n1_ n2_ n3_ hb hbox hg; have hcz11_0 : w10.cell? ⟨gb435, 0, none⟩ = some (.int .i64 a0_0) := (kC BK435.out 0).trans rfl; have hcz11_1 : w10.cell? ⟨gb435, 1, none⟩ = some (.int .i64 a0_1) := (kC BK435.out 1).trans rfl; have hcz11_2 : w10.cell? ⟨gb435, 2, none⟩ = some (.slice A0_2 l0_2.length c0_2) := (kC BK435.out 2).trans rfl; have hcz11_3 : w10.cell? ⟨gb435, 3, none⟩ = some (.slice A0_3 l0_3.length c0_3) := (kC BK435.out 3).trans rfl; have hcz11_4 : w10.cell? ⟨gb435, 4, none⟩ = some (.slice A0_4 l0_4.length c0_4) := (kC BK435.out 4).trans rfl; have hfz11_0 := kF BK435.out 0; have hfz11_1 := kF BK435.out 1; have hfz11_2 := kF BK435.out 2; have hfz11_3 := kF BK435.out 3; have hfz11_4 := kF BK435.out 4) | ((with_reducible refine gate_callee (f := 64) rfl ?_); refine goesL_ (some 8) rfl rfl Try.func64 (by kernel_rfl) rfl #[.agg #[.int .i64 a0_1, .slice A0_2 l0_2.length c0_2, .slice A0_3 l0_3.length c0_3], .int .i64 a1] rfl mq ?_; (with_reducible refine (laws_heldSynth.calls k a0_1 _ _ l0_2 _ _ l0_3 a1 t436 _ ?side1 ?side2 ?side3 ?side4 A3.out).mono ?_); (case side1 => exact cq (cB HR0_2.out HB.out)); (case side2 => exact HC0_2.out); (case side3 => exact cq (cB HR0_3.out HB.out)); (case side4 => exact HC0_3.out); rintro e w12 ⟨rfl, hb⟩; refine ⟨_, rfl, ?_⟩; have n0_ := aM (kB (g := gb435) (o := .cells #[.int .i64 a0_0, .int .i64 a0_1, .slice A0_2 l0_2.length c0_2, .slice A0_3 l0_3.length c0_3, .slice A0_4 l0_4.length c0_4] 37 (0, 0)) (kq BK435.out) hb); have n1_ := aM (bT bq hb); clear BK435 HB; have BK435 := n0_; have HB := n1_; clear n0_ n1_; (try clear hb); have hcz13_0 : w12.cell? ⟨gb435, 0, none⟩ = some (.int .i64 a0_0) := (kC BK435.out 0).trans rfl; have hcz13_1 : w12.cell? ⟨gb435, 1, none⟩ = some (.int .i64 a0_1) := (kC BK435.out 1).trans rfl; have hcz13_2 : w12.cell? ⟨gb435, 2, none⟩ = some (.slice A0_2 l0_2.length c0_2) := (kC BK435.out 2).trans rfl; have hcz13_3 : w12.cell? ⟨gb435, 3, none⟩ = some (.slice A0_3 l0_3.length c0_3) := (kC BK435.out 3).trans rfl; have hcz13_4 : w12.cell? ⟨gb435, 4, none⟩ = some (.slice A0_4 l0_4.length c0_4) := (kC BK435.out 4).trans rfl; have hfz13_0 := kF BK435.out 0; have hfz13_1 := kF BK435.out 1; have hfz13_2 := kF BK435.out 2; have hfz13_3 := kF BK435.out 3; have hfz13_4 := kF BK435.out 4) | ((with_reducible refine gate_callee (f := 55) rfl ?_); refine goesL_ (some 14) rfl rfl Try.func55 (by kernel_rfl) rfl #[.slice A0_4 l0_4.length c0_4, .int .i64 t436] rfl mq ?_; (with_reducible refine (laws_heldInt64S.calls k _ _ l0_4 t436 t437 _ ?side1 ?side2 A8.out).mono ?_); (case side1 => exact cq (cB HR0_4.out HB.out)); (case side2 => exact HC0_4.out); rintro e w' ⟨rfl, ⟨nd, rfl⟩⟩; refine ⟨_, rfl, ?_⟩))
   go_ret
   exact ⟨by first | rfl | (simp [errW_none, errW_some] <;> rfl) | (simp [*, errW_none, errW_some] <;> rfl), bq⟩
  ·rw [if_neg c9] at H
   have c9b0 : decide (t437 < 0) = false := decide_eq_false c9
   clear c9
   obtain rfl := Option.some.inj H
   go_enter Try.func24, Try.ntmps24
   go_wp2_with (first | ((with_reducible refine gate_dst (N := 2) rfl ?_); refine box_event ?hg (N := 2) ?hd (cs := #[.int .i64 a0_0, .int .i64 a0_1, .slice A0_2 l0_2.length c0_2, .slice A0_3 l0_3.length c0_3, .slice A0_4 l0_4.length c0_4]) (t := 37) ?hr ?_; (case hd => rfl); (case hg => rfl); (case hr => first | (go_simp; done) | (go_simp; rfl)); intro gb435 hg w14 hbox hb; have n0_ := aM (bT bq hb); have n1_ := aM (hbox); have n2_ := aM ((by rw [hg]; exact (bZ bq) : w.heap.size ≤ gb435)); have n3_ := aM ((by rw [hg]; exact (bZ bq) : w.heap.size ≤ gb435)); clear HB; have HB := n0_; have BK435 := n1_; have GW435 := n2_; have GE435 := n3_; clear n0_ n1_ n2_ n3_ hb hbox hg; have hcz15_0 : w14.cell? ⟨gb435, 0, none⟩ = some (.int .i64 a0_0) := (kC BK435.out 0).trans rfl; have hcz15_1 : w14.cell? ⟨gb435, 1, none⟩ = some (.int .i64 a0_1) := (kC BK435.out 1).trans rfl; have hcz15_2 : w14.cell? ⟨gb435, 2, none⟩ = some (.slice A0_2 l0_2.length c0_2) := (kC BK435.out 2).trans rfl; have hcz15_3 : w14.cell? ⟨gb435, 3, none⟩ = some (.slice A0_3 l0_3.length c0_3) := (kC BK435.out 3).trans rfl; have hcz15_4 : w14.cell? ⟨gb435, 4, none⟩ = some (.slice A0_4 l0_4.length c0_4) := (kC BK435.out 4).trans rfl; have hfz15_0 := kF BK435.out 0; have hfz15_1 := kF BK435.out 1; have hfz15_2 := kF BK435.out 2; have hfz15_3 := kF BK435.out 3; have hfz15_4 := kF BK435.out 4) | ((with_reducible refine gate_callee (f := 64) rfl ?_); refine goesL_ (some 8) rfl rfl Try.func64 (by kernel_rfl) rfl #[.agg #[.int .i64 a0_1, .slice A0_2 l0_2.length c0_2, .slice A0_3 l0_3.length c0_3], .int .i64 a1] rfl mq ?_; (with_reducible refine (laws_heldSynth.calls k a0_1 _ _ l0_2 _ _ l0_3 a1 t436 _ ?side1 ?side2 ?side3 ?side4 A3.out).mono ?_); (case side1 => exact cq (cB HR0_2.out HB.out)); (case side2 => exact HC0_2.out); (case side3 => exact cq (cB HR0_3.out HB.out)); (case side4 => exact HC0_3.out); rintro e w16 ⟨rfl, hb⟩; refine ⟨_, rfl, ?_⟩; have n0_ := aM (kB (g := gb435) (o := .cells #[.int .i64 a0_0, .int .i64 a0_1, .slice A0_2 l0_2.length c0_2, .slice A0_3 l0_3.length c0_3, .slice A0_4 l0_4.length c0_4] 37 (0, 0)) (kq BK435.out) hb); have n1_ := aM (bT bq hb); clear BK435 HB; have BK435 := n0_; have HB := n1_; clear n0_ n1_; (try clear hb); have hcz17_0 : w16.cell? ⟨gb435, 0, none⟩ = some (.int .i64 a0_0) := (kC BK435.out 0).trans rfl; have hcz17_1 : w16.cell? ⟨gb435, 1, none⟩ = some (.int .i64 a0_1) := (kC BK435.out 1).trans rfl; have hcz17_2 : w16.cell? ⟨gb435, 2, none⟩ = some (.slice A0_2 l0_2.length c0_2) := (kC BK435.out 2).trans rfl; have hcz17_3 : w16.cell? ⟨gb435, 3, none⟩ = some (.slice A0_3 l0_3.length c0_3) := (kC BK435.out 3).trans rfl; have hcz17_4 : w16.cell? ⟨gb435, 4, none⟩ = some (.slice A0_4 l0_4.length c0_4) := (kC BK435.out 4).trans rfl; have hfz17_0 := kF BK435.out 0; have hfz17_1 := kF BK435.out 1; have hfz17_2 := kF BK435.out 2; have hfz17_3 := kF BK435.out 3; have hfz17_4 := kF BK435.out 4) | ((with_reducible refine gate_callee (f := 55) rfl ?_); refine goesL_ (some 14) rfl rfl Try.func55 (by kernel_rfl) rfl #[.slice A0_4 l0_4.length c0_4, .int .i64 t436] rfl mq ?_; (with_reducible refine (laws_heldInt64S.calls k _ _ l0_4 t436 t437 _ ?side1 ?side2 A8.out).mono ?_); (case side1 => exact cq (cB HR0_4.out HB.out)); (case side2 => exact HC0_4.out); rintro e w' ⟨rfl, ⟨nd, rfl⟩⟩; refine ⟨_, rfl, ?_⟩))
   go_ret
   exact ⟨by first | rfl | (simp [errW_none, errW_some] <;> rfl) | (simp [*, errW_none, errW_some] <;> rfl), bq⟩

end Go.Proofs.Ytjdgebfihbhbaaa.PFnExactPlayBlock
