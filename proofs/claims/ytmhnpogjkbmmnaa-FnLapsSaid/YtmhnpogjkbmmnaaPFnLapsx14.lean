-- Written by a program of this session: wip/mkprint.py over the kit's print, with contracts proved by hand (wip/given.py)
-- shortest of all
-- told shortest
-- told shorter still
-- shortened
-- told short
-- worlds by letters
-- squeezed
import Derived.Deep.MidRow
import Derived.Test.YtmhnpogjkbmmnaaPFnLapsx0
import Derived.Test.YtmhnpogjkbmmnaaPFnLapsx13
namespace Go.Proofs.Ytmhnpogjkbmmnaa.PFnLaps
open Go.RowKit Go.Proofs.YtmhnpogjkbmmnaaW.PrintWords Go.Proofs.YtmhnpogjkbmmnaaW.PrintLast Go.Proofs.YtmhnpogjkbmmnaaW.PrintMore
open Go.Proofs.YtmhnpogjkbmmnaaW.PrintWords.Kd renaming R_alloc → rA, R_drewN → rN, R_drew → rD, R_far → rF, R_mono → rM, R_base → rB, R_new' → rW, R_lt → rT, R_lower → rG, R_elder' → rH, R_reads' → rR
open Go.Proofs.YtmhnpogjkbmmnaaW.PrintMore.Kd renaming R_told → rO, R_old → rE
open Go.Proofs.YtmhnpogjkbmmnaaW.PrintWords renaming below_alloc → bA, pw_below_drewN → bN, below_drew1 → bD, below_set → bS, below_step → bT, below_size → bZ, blk_drewN → kN, blk_drew → kD, blk_alloc → kA, blk_below → kB, blk_cell → kC, blk_frozen → kF
open Go.Proofs.YtmhnpogjkbmmnaaW.PrintWords.Aside0 renaming mk → aM
attribute [local go_sem] max2_int min2_int max_two min_two max_three min_three max_four min_four   -- for this text's walks alone
set_option linter.unusedVariables false
set_option linter.unusedSimpArgs false

theorem sa {P : Program} {ops : Array Oper} {rest : List Oper} {op : Oper} {a : Act} {Q : Exit → Act → World → Prop} {w : World} (hgd : op.guard = none) (ty : TypeId) (x y : Operand) (ho : op.op = .store ty x y) (g : Nat) (cs cells : Array Value) {t : TypeId} (hb : w.heap[g]? = some (.cells cs t (0, 0))) (hx : a.eval x = .pointer (some ⟨g, 0, none⟩)) (hy : a.eval y = .agg cells) (hi : (P.info? ty).map (·.size) = some cells.size) (hl : cells.size ≤ cs.size) (h1 : cells.toList.all (·.oneCell') = true)
  (h : wpList P ops Q rest (a.put op.dst undef) (w.setCells g 0 cells.toList)) : wpList P ops Q (op :: rest) a w :=
 wpList_store_mid hgd ty x y ho g 0 cells hx hy (fun j hj => ⟨by rw [blk_cell hb]; simp; omega, blk_frozen hb _⟩) hi (by simpa using h1) h

/-! ### spec_l7New: function 147 -/
def spec_l7New.f (a0 : Int) : Option (Int × List Int × List Int) := (spec_l1Zeros.f (wrap64 (Int.tdiv a0 2))).bind fun t398 => ((spec_l1Zeros.f (wrap64 (Int.tdiv a0 2))).bind fun t401 => (some (a0, t398, t401)))
set_option maxHeartbeats 8000000 in
set_option maxRecDepth 100000 in
theorem spec_l7New.calls (a0 : Int) (r1 : Int) (r2 : List Int) (r3 : List Int) (w : World) (h : spec_l7New.f a0 = some (r1, r2, r3)) :
  Calls Try.prog 147 #[.int .i64 a0] w fun e w' => ∃ v1_ v2_ : Value, e = .returned (.agg #[.int .i64 r1, v1_, v2_]) ∧ Kd.R (Kd.int .i64) 2 w' w.heap.size (fun k_ => nb v2_ k_) v1_ r2 ∧ Kd.R (Kd.int .i64) 2 w' w.heap.size (fun k_ => nb v1_ k_) v2_ r3 ∧ Below w.heap.size w w' := by
 have hu48 := Try.underlying48
 have HB := aM (Below.refl w.heap.size w)
 have H : ((spec_l1Zeros.f (wrap64 (Int.tdiv a0 2))).bind fun t398 => ((spec_l1Zeros.f (wrap64 (Int.tdiv a0 2))).bind fun t401 => (some (a0, t398, t401)))) = some (r1, r2, r3) := h
 clear h
 replace H := bo H
 obtain ⟨t398, A2, H⟩ := H
 replace H := bz H
 replace H := bo H
 obtain ⟨t401, A3, H⟩ := H
 replace H := bz H
 simp only [Option.some.injEq, Prod.mk.injEq] at H
 obtain ⟨rfl, rfl, rfl⟩ := H
 go_enter Try.func147, Try.ntmps147
 go_wp2_with (first | ((with_reducible refine gate_dst (N := 2) rfl ?_); refine box_event ?hg (N := 2) ?hd (cs := #[.int .i64 0, .slice none 0 0, .slice none 0 0]) (t := 48) ?hr ?_; (case hd => rfl); (case hg => rfl); (case hr => first | (go_simp; done) | (go_simp; rfl)); intro gb397 hg w4 hbox hb; have BK397 := aM (hbox); have GW397 := aM ((by rw [hg]; exact (bZ bq) : w.heap.size ≤ gb397)); have GE397 := aM ((by rw [hg]; exact (bZ bq) : w.heap.size ≤ gb397)); replace HB := aM (bT bq hb); clear hb hbox hg) | ((with_reducible refine gate_callee (f := 136) rfl ?_); refine goesL_ (some 6) rfl rfl Try.func136 kr rfl #[.int .i64 (wrap64 (Int.tdiv a0 2))] rfl mq ?_; (with_reducible refine (spec_l1Zeros.calls (wrap64 (Int.tdiv a0 2)) t398 _ A2.out).mono ?_); rintro e w5 ⟨v399, rfl, ho0, hb⟩; refine ⟨_, rfl, ?_⟩; have HO400 := aM (rG ho0 (bZ bq)); replace BK397 := aM (kB (kq BK397.out) hb); replace HB := aM (bT bq hb); (try clear hb); (try clear ho0)) | ((with_reducible refine gate_callee (f := 136) rfl ?_); refine goesL_ (some 9) rfl rfl Try.func136 kr rfl #[.int .i64 (wrap64 (Int.tdiv a0 2))] rfl mq ?_; (with_reducible refine (spec_l1Zeros.calls (wrap64 (Int.tdiv a0 2)) t401 _ A3.out).mono ?_); rintro e w6 ⟨v402, rfl, ho0, hb⟩; refine ⟨_, rfl, ?_⟩; have HO403 := aM (rG (rW ho0 (rT (rq HO400.out))) (bZ bq)); replace HO400 := aM (rH (rq HO400.out) (rB ho0) hb); replace BK397 := aM (kB (kq BK397.out) hb); replace HB := aM (bT bq hb); (try clear hb); (try clear ho0); obtain ⟨Ao7, co7, eo7⟩ := Kd.R_slice HO403.out; subst eo7; obtain ⟨Ao8, co8, eo8⟩ := Kd.R_slice HO400.out; subst eo8; have hcz9_0 : w6.cell? ⟨gb397, 0, none⟩ = some (.int .i64 0) := cc; have hcz9_1 : w6.cell? ⟨gb397, 1, none⟩ = some (.slice none 0 0) := cc; have hcz9_2 : w6.cell? ⟨gb397, 2, none⟩ = some (.slice none 0 0) := cc; have hfz9_0 := kF BK397.out 0; have hfz9_1 := kF BK397.out 1; have hfz9_2 := kF BK397.out 2))
 refine bodyPost_ret (results_cell_row rfl _ _ gb397 48 #[.int .i64 a0, .slice Ao8 t398.length co8, .slice Ao7 t401.length co7] (0, 0) _ rfl (fq BK397.out) Try.underlying48 rfl kr) rfl ?_
 exact ⟨_, _, ew, rM (rf (Kd.R_types HO400.out BK397.out (by decide))) (fun _ hk => hk.1.2), rM (rf (Kd.R_types HO403.out BK397.out (by decide))) (fun _ hk => hk.1.2), bq⟩

/-! ### spec_l17New: function 150 -/
def spec_l17New.f (a0 : Int) (a1 : Int) (a2 : Int) : Option (Int × Int × Int × Int × Int × List Int × List Int × Bool × Int × Int × List Int × Bool × Int × Int × List Int × Int × Int) := (spec_l7New.f a0).bind fun bt405 => (some (a0, a1, a2, 0, bt405.1, bt405.2.1, bt405.2.2, false, 0, 0, ([] : List Int), false, 0, 0, ([] : List Int), 0, 0))
set_option maxHeartbeats 8000000 in
set_option maxRecDepth 100000 in
theorem spec_l17New.calls (a0 : Int) (a1 : Int) (a2 : Int) (r1 : Int) (r2 : Int) (r3 : Int) (r4 : Int) (r5 : Int) (r6 : List Int) (r7 : List Int) (r8 : Bool) (r9 : Int) (r10 : Int) (r11 : List Int) (r12 : Bool) (r13 : Int) (r14 : Int) (r15 : List Int) (r16 : Int) (r17 : Int) (w : World) (h : spec_l17New.f a0 a1 a2 = some (r1, r2, r3, r4, r5, r6, r7, r8, r9, r10, r11, r12, r13, r14, r15, r16, r17)) :
  Calls Try.prog 150 #[.int .i64 a0, .int .i64 a1, .int .i64 a2] w fun e w' => ∃ v5_ v6_ v10_ v14_ : Value, e = .returned (.agg #[.int .i64 r1, .int .i64 r2, .int .i64 r3, .int .i64 r4, .int .i64 r5, v5_, v6_, .bool r8, .int .i64 r9, .int .i64 r10, v10_, .bool r12, .int .i64 r13, .int .i64 r14, v14_, .int .i64 r16, .int .i64 r17]) ∧ Kd.R (Kd.int .i64) 2 w' w.heap.size (fun k_ => nb v6_ k_ ∧ nb v10_ k_ ∧ nb v14_ k_) v5_ r6 ∧ Kd.R (Kd.int .i64) 2 w' w.heap.size (fun k_ => nb v5_ k_ ∧ nb v10_ k_ ∧ nb v14_ k_) v6_ r7 ∧ Kd.R (Kd.int .i64) 2 w' w.heap.size (fun k_ => nb v5_ k_ ∧ nb v6_ k_ ∧ nb v14_ k_) v10_ r11 ∧ Kd.R (Kd.int .i64) 2 w' w.heap.size (fun k_ => nb v5_ k_ ∧ nb v6_ k_ ∧ nb v10_ k_) v14_ r15 ∧ Below w.heap.size w w' := by
 have hu124 := Try.underlying124
 have HB := aM (Below.refl w.heap.size w)
 have H : ((spec_l7New.f a0).bind fun bt405 => (some (a0, a1, a2, 0, bt405.1, bt405.2.1, bt405.2.2, false, 0, 0, ([] : List Int), false, 0, 0, ([] : List Int), 0, 0))) = some (r1, r2, r3, r4, r5, r6, r7, r8, r9, r10, r11, r12, r13, r14, r15, r16, r17) := h
 clear h
 replace H := bo H
 obtain ⟨⟨t405, t406, t409⟩, A4, H⟩ := H
 replace H := bz H
 simp only [Option.some.injEq, Prod.mk.injEq] at H
 obtain ⟨rfl, rfl, rfl, rfl, rfl, rfl, rfl, rfl, rfl, rfl, rfl, rfl, rfl, rfl, rfl, rfl, rfl⟩ := H
 go_enter Try.func150, Try.ntmps150
 go_wp2_with (first | ((with_reducible refine gate_dst (N := 6) rfl ?_); refine box_event ?hg (N := 6) ?hd (cs := #[.int .i64 0, .int .i64 0, .int .i64 0, .int .i64 0, .int .i64 0, .slice none 0 0, .slice none 0 0, .bool false, .int .i64 0, .int .i64 0, .slice none 0 0, .bool false, .int .i64 0, .int .i64 0, .slice none 0 0, .int .i64 0, .int .i64 0]) (t := 124) ?hr ?_; (case hd => rfl); (case hg => rfl); (case hr => first | (go_simp; done) | (go_simp; rfl)); intro gb404 hg w5 hbox hb; have BK404 := aM (hbox); have GW404 := aM ((by rw [hg]; exact (bZ bq) : w.heap.size ≤ gb404)); have GE404 := aM ((by rw [hg]; exact (bZ bq) : w.heap.size ≤ gb404)); replace HB := aM (bT bq hb); clear hb hbox hg) | ((with_reducible refine gate_callee (f := 147) rfl ?_); refine goesL_ (some 11) rfl rfl Try.func147 kr rfl #[.int .i64 a0] rfl mq ?_; (with_reducible refine (spec_l7New.calls a0 t405 t406 t409 _ A4.out).mono ?_); rintro e w6 ⟨v407, v410, rfl, ho0, ho1, hb⟩; refine ⟨_, rfl, ?_⟩; have HO408 := aM (rG ho0 (bZ bq)); have HO411 := aM (rG ho1 (bZ bq)); replace BK404 := aM (kB (kq BK404.out) hb); replace HB := aM (bT bq hb); (try clear hb); (try clear ho0); (try clear ho1); obtain ⟨Ao7, co7, eo7⟩ := Kd.R_slice HO411.out; subst eo7; obtain ⟨Ao8, co8, eo8⟩ := Kd.R_slice HO408.out; subst eo8; have hcz9_0 : w6.cell? ⟨gb404, 0, none⟩ = some (.int .i64 0) := cc; have hcz9_1 : w6.cell? ⟨gb404, 1, none⟩ = some (.int .i64 0) := cc; have hcz9_2 : w6.cell? ⟨gb404, 2, none⟩ = some (.int .i64 0) := cc; have hcz9_3 : w6.cell? ⟨gb404, 3, none⟩ = some (.int .i64 0) := cc; have hcz9_4 : w6.cell? ⟨gb404, 4, none⟩ = some (.int .i64 0) := cc; have hcz9_5 : w6.cell? ⟨gb404, 5, none⟩ = some (.slice none 0 0) := cc; have hcz9_6 : w6.cell? ⟨gb404, 6, none⟩ = some (.slice none 0 0) := cc; have hcz9_7 : w6.cell? ⟨gb404, 7, none⟩ = some (.bool false) := cc; have hcz9_8 : w6.cell? ⟨gb404, 8, none⟩ = some (.int .i64 0) := cc; have hcz9_9 : w6.cell? ⟨gb404, 9, none⟩ = some (.int .i64 0) := cc; have hcz9_10 : w6.cell? ⟨gb404, 10, none⟩ = some (.slice none 0 0) := cc; have hcz9_11 : w6.cell? ⟨gb404, 11, none⟩ = some (.bool false) := cc; have hcz9_12 : w6.cell? ⟨gb404, 12, none⟩ = some (.int .i64 0) := cc; have hcz9_13 : w6.cell? ⟨gb404, 13, none⟩ = some (.int .i64 0) := cc; have hcz9_14 : w6.cell? ⟨gb404, 14, none⟩ = some (.slice none 0 0) := cc; have hcz9_15 : w6.cell? ⟨gb404, 15, none⟩ = some (.int .i64 0) := cc; have hcz9_16 : w6.cell? ⟨gb404, 16, none⟩ = some (.int .i64 0) := cc; have hfz9_0 := kF BK404.out 0; have hfz9_1 := kF BK404.out 1; have hfz9_2 := kF BK404.out 2; have hfz9_3 := kF BK404.out 3; have hfz9_4 := kF BK404.out 4; have hfz9_5 := kF BK404.out 5; have hfz9_6 := kF BK404.out 6; have hfz9_7 := kF BK404.out 7; have hfz9_8 := kF BK404.out 8; have hfz9_9 := kF BK404.out 9; have hfz9_10 := kF BK404.out 10; have hfz9_11 := kF BK404.out 11; have hfz9_12 := kF BK404.out 12; have hfz9_13 := kF BK404.out 13; have hfz9_14 := kF BK404.out 14; have hfz9_15 := kF BK404.out 15; have hfz9_16 := kF BK404.out 16))
 refine bodyPost_ret (results_cell_row rfl _ _ gb404 124 #[.int .i64 a0, .int .i64 a1, .int .i64 a2, .int .i64 0, .int .i64 t405, .slice Ao8 t406.length co8, .slice Ao7 t409.length co7, .bool false, .int .i64 0, .int .i64 0, .slice none 0 0, .bool false, .int .i64 0, .int .i64 0, .slice none 0 0, .int .i64 0, .int .i64 0] (0, 0) _ rfl (fq BK404.out) Try.underlying124 rfl kr) rfl ?_
 exact ⟨_, _, _, _, ew, rM (rf (Kd.R_types HO408.out BK404.out (by decide))) (fun _ hk => ⟨hk.1, ⟨(by simp [Value.ownBlock]), (by simp [Value.ownBlock])⟩⟩), rM (rf (Kd.R_types HO411.out BK404.out (by decide))) (fun _ hk => ⟨hk.1, ⟨(by simp [Value.ownBlock]), (by simp [Value.ownBlock])⟩⟩), by first | exact Kd.R_nil _ _ _ _ _ | exact Kd.N_nil _ _ _ _ _ | exact Kd.V_nil _ _ _ _ _ | exact Kd.Q_nil _ _ _ _ _ | exact Kd.S_nil _ _ _ _ _, by first | exact Kd.R_nil _ _ _ _ _ | exact Kd.N_nil _ _ _ _ _ | exact Kd.V_nil _ _ _ _ _ | exact Kd.Q_nil _ _ _ _ _ | exact Kd.S_nil _ _ _ _ _, bq⟩

/-! ### spec_l7NewSynth: function 149 -/
def spec_l7NewSynth.f (a0 : Int) : Option (Int × List Int × List Int) := (spec_l1Zeros.f (wrap64 (Int.tdiv a0 2))).bind fun t413 => ((spec_l1Zeros.f (wrap64 (Int.tdiv a0 2))).bind fun t416 => (some (a0, t413, t416)))
set_option maxHeartbeats 8000000 in
set_option maxRecDepth 100000 in
theorem spec_l7NewSynth.calls (a0 : Int) (r1 : Int) (r2 : List Int) (r3 : List Int) (w : World) (h : spec_l7NewSynth.f a0 = some (r1, r2, r3)) :
  Calls Try.prog 149 #[.int .i64 a0] w fun e w' => ∃ v1_ v2_ : Value, e = .returned (.agg #[.int .i64 r1, v1_, v2_]) ∧ Kd.R (Kd.int .i64) 2 w' w.heap.size (fun k_ => nb v2_ k_) v1_ r2 ∧ Kd.R (Kd.int .i64) 2 w' w.heap.size (fun k_ => nb v1_ k_) v2_ r3 ∧ Below w.heap.size w w' := by
 have hu35 := Try.underlying35
 have HB := aM (Below.refl w.heap.size w)
 have H : ((spec_l1Zeros.f (wrap64 (Int.tdiv a0 2))).bind fun t413 => ((spec_l1Zeros.f (wrap64 (Int.tdiv a0 2))).bind fun t416 => (some (a0, t413, t416)))) = some (r1, r2, r3) := h
 clear h
 replace H := bo H
 obtain ⟨t413, A2, H⟩ := H
 replace H := bz H
 replace H := bo H
 obtain ⟨t416, A3, H⟩ := H
 replace H := bz H
 simp only [Option.some.injEq, Prod.mk.injEq] at H
 obtain ⟨rfl, rfl, rfl⟩ := H
 go_enter Try.func149, Try.ntmps149
 go_wp2_with (first | ((with_reducible refine gate_dst (N := 2) rfl ?_); refine box_event ?hg (N := 2) ?hd (cs := #[.int .i64 0, .slice none 0 0, .slice none 0 0]) (t := 35) ?hr ?_; (case hd => rfl); (case hg => rfl); (case hr => first | (go_simp; done) | (go_simp; rfl)); intro gb412 hg w4 hbox hb; have BK412 := aM (hbox); have GW412 := aM ((by rw [hg]; exact (bZ bq) : w.heap.size ≤ gb412)); have GE412 := aM ((by rw [hg]; exact (bZ bq) : w.heap.size ≤ gb412)); replace HB := aM (bT bq hb); clear hb hbox hg) | ((with_reducible refine gate_callee (f := 136) rfl ?_); refine goesL_ (some 6) rfl rfl Try.func136 kr rfl #[.int .i64 (wrap64 (Int.tdiv a0 2))] rfl mq ?_; (with_reducible refine (spec_l1Zeros.calls (wrap64 (Int.tdiv a0 2)) t413 _ A2.out).mono ?_); rintro e w5 ⟨v414, rfl, ho0, hb⟩; refine ⟨_, rfl, ?_⟩; have HO415 := aM (rG ho0 (bZ bq)); replace BK412 := aM (kB (kq BK412.out) hb); replace HB := aM (bT bq hb); (try clear hb); (try clear ho0)) | ((with_reducible refine gate_callee (f := 136) rfl ?_); refine goesL_ (some 9) rfl rfl Try.func136 kr rfl #[.int .i64 (wrap64 (Int.tdiv a0 2))] rfl mq ?_; (with_reducible refine (spec_l1Zeros.calls (wrap64 (Int.tdiv a0 2)) t416 _ A3.out).mono ?_); rintro e w6 ⟨v417, rfl, ho0, hb⟩; refine ⟨_, rfl, ?_⟩; have HO418 := aM (rG (rW ho0 (rT (rq HO415.out))) (bZ bq)); replace HO415 := aM (rH (rq HO415.out) (rB ho0) hb); replace BK412 := aM (kB (kq BK412.out) hb); replace HB := aM (bT bq hb); (try clear hb); (try clear ho0); obtain ⟨Ao7, co7, eo7⟩ := Kd.R_slice HO418.out; subst eo7; obtain ⟨Ao8, co8, eo8⟩ := Kd.R_slice HO415.out; subst eo8; have hcz9_0 : w6.cell? ⟨gb412, 0, none⟩ = some (.int .i64 0) := cc; have hcz9_1 : w6.cell? ⟨gb412, 1, none⟩ = some (.slice none 0 0) := cc; have hcz9_2 : w6.cell? ⟨gb412, 2, none⟩ = some (.slice none 0 0) := cc; have hfz9_0 := kF BK412.out 0; have hfz9_1 := kF BK412.out 1; have hfz9_2 := kF BK412.out 2))
 refine bodyPost_ret (results_cell_row rfl _ _ gb412 35 #[.int .i64 a0, .slice Ao8 t413.length co8, .slice Ao7 t416.length co7] (0, 0) _ rfl (fq BK412.out) Try.underlying35 rfl kr) rfl ?_
 exact ⟨_, _, ew, rM (rf (Kd.R_types HO415.out BK412.out (by decide))) (fun _ hk => hk.1.2), rM (rf (Kd.R_types HO418.out BK412.out (by decide))) (fun _ hk => hk.1.2), bq⟩

/-! ### spec_l18New: function 151 -/
def spec_l18New.f (a0 : Int) : Option (Int × Int × (List (S183)) × Bool × Int × Int × List Int × Bool × Int × Int × List Int × Int × List Int × List Int × List Int × Int) := (spec_l1Zeros.f a0).bind fun t420 => ((spec_l7NewSynth.f a0).bind fun bt423 => (some (a0, 0, ([] : List (S183)), false, 0, 0, ([] : List Int), false, 0, 0, ([] : List Int), bt423.1, bt423.2.1, bt423.2.2, t420, 0)))
set_option maxHeartbeats 8000000 in
set_option maxRecDepth 100000 in
theorem spec_l18New.calls (a0 : Int) (r1 : Int) (r2 : Int) (r3 : List (S183)) (r4 : Bool) (r5 : Int) (r6 : Int) (r7 : List Int) (r8 : Bool) (r9 : Int) (r10 : Int) (r11 : List Int) (r12 : Int) (r13 : List Int) (r14 : List Int) (r15 : List Int) (r16 : Int) (w : World) (h : spec_l18New.f a0 = some (r1, r2, r3, r4, r5, r6, r7, r8, r9, r10, r11, r12, r13, r14, r15, r16)) :
  Calls Try.prog 151 #[.int .i64 a0] w fun e w' => ∃ v2_ v6_ v10_ v12_ v13_ v14_ : Value, e = .returned (.agg #[.int .i64 r1, .int .i64 r2, v2_, .bool r4, .int .i64 r5, .int .i64 r6, v6_, .bool r8, .int .i64 r9, .int .i64 r10, v10_, .int .i64 r12, v12_, v13_, v14_, .int .i64 r16]) ∧ Kd.S k183 183 w' w.heap.size (fun _ => True) v2_ r3 ∧ Kd.R (Kd.int .i64) 2 w' w.heap.size (fun k_ => nb v10_ k_ ∧ nb v12_ k_ ∧ nb v13_ k_ ∧ nb v14_ k_) v6_ r7 ∧ Kd.R (Kd.int .i64) 2 w' w.heap.size (fun k_ => nb v6_ k_ ∧ nb v12_ k_ ∧ nb v13_ k_ ∧ nb v14_ k_) v10_ r11 ∧ Kd.R (Kd.int .i64) 2 w' w.heap.size (fun k_ => nb v6_ k_ ∧ nb v10_ k_ ∧ nb v13_ k_ ∧ nb v14_ k_) v12_ r13 ∧ Kd.R (Kd.int .i64) 2 w' w.heap.size (fun k_ => nb v6_ k_ ∧ nb v10_ k_ ∧ nb v12_ k_ ∧ nb v14_ k_) v13_ r14 ∧ Kd.R (Kd.int .i64) 2 w' w.heap.size (fun k_ => nb v6_ k_ ∧ nb v10_ k_ ∧ nb v12_ k_ ∧ nb v13_ k_) v14_ r15 ∧ Below w.heap.size w w' := by
 have hu127 := Try.underlying127
 have HB := aM (Below.refl w.heap.size w)
 have H : ((spec_l1Zeros.f a0).bind fun t420 => ((spec_l7NewSynth.f a0).bind fun bt423 => (some (a0, 0, ([] : List (S183)), false, 0, 0, ([] : List Int), false, 0, 0, ([] : List Int), bt423.1, bt423.2.1, bt423.2.2, t420, 0)))) = some (r1, r2, r3, r4, r5, r6, r7, r8, r9, r10, r11, r12, r13, r14, r15, r16) := h
 clear h
 replace H := bo H
 obtain ⟨t420, A2, H⟩ := H
 replace H := bz H
 replace H := bo H
 obtain ⟨⟨t423, t424, t427⟩, A3, H⟩ := H
 replace H := bz H
 simp only [Option.some.injEq, Prod.mk.injEq] at H
 obtain ⟨rfl, rfl, rfl, rfl, rfl, rfl, rfl, rfl, rfl, rfl, rfl, rfl, rfl, rfl, rfl, rfl⟩ := H
 go_enter Try.func151, Try.ntmps151
 go_wp2_with (first | ((with_reducible refine gate_dst (N := 2) rfl ?_); refine box_event ?hg (N := 2) ?hd (cs := #[.int .i64 0, .int .i64 0, .slice none 0 0, .bool false, .int .i64 0, .int .i64 0, .slice none 0 0, .bool false, .int .i64 0, .int .i64 0, .slice none 0 0, .int .i64 0, .slice none 0 0, .slice none 0 0, .slice none 0 0, .int .i64 0]) (t := 127) ?hr ?_; (case hd => rfl); (case hg => rfl); (case hr => first | (go_simp; done) | (go_simp; rfl)); intro gb419 hg w4 hbox hb; have BK419 := aM (hbox); have GW419 := aM ((by rw [hg]; exact (bZ bq) : w.heap.size ≤ gb419)); have GE419 := aM ((by rw [hg]; exact (bZ bq) : w.heap.size ≤ gb419)); replace HB := aM (bT bq hb); clear hb hbox hg) | ((with_reducible refine gate_callee (f := 136) rfl ?_); refine goesL_ (some 5) rfl rfl Try.func136 kr rfl #[.int .i64 a0] rfl mq ?_; (with_reducible refine (spec_l1Zeros.calls a0 t420 _ A2.out).mono ?_); rintro e w5 ⟨v421, rfl, ho0, hb⟩; refine ⟨_, rfl, ?_⟩; have HO422 := aM (rG ho0 (bZ bq)); replace BK419 := aM (kB (kq BK419.out) hb); replace HB := aM (bT bq hb); (try clear hb); (try clear ho0)) | ((with_reducible refine gate_callee (f := 149) rfl ?_); refine goesL_ (some 7) rfl rfl Try.func149 kr rfl #[.int .i64 a0] rfl mq ?_; (with_reducible refine (spec_l7NewSynth.calls a0 t423 t424 t427 _ A3.out).mono ?_); rintro e w6 ⟨v425, v428, rfl, ho0, ho1, hb⟩; refine ⟨_, rfl, ?_⟩; have HO426 := aM (rG (rW ho0 (rT (rq HO422.out))) (bZ bq)); have HO429 := aM (rG (rW ho1 (rT (rq HO422.out))) (bZ bq)); replace HO422 := aM (rM (rO (rO (rE (rq HO422.out) hb) (rB ho0)) (rB ho1)) (fun _ h_ => h_.1)); replace BK419 := aM (kB (kq BK419.out) hb); replace HB := aM (bT bq hb); (try clear hb); (try clear ho0); (try clear ho1); obtain ⟨Ao7, co7, eo7⟩ := Kd.R_slice HO422.out; subst eo7; obtain ⟨Ao8, co8, eo8⟩ := Kd.R_slice HO429.out; subst eo8; obtain ⟨Ao9, co9, eo9⟩ := Kd.R_slice HO426.out; subst eo9; have hcz10_0 : w6.cell? ⟨gb419, 0, none⟩ = some (.int .i64 0) := cc; have hcz10_1 : w6.cell? ⟨gb419, 1, none⟩ = some (.int .i64 0) := cc; have hcz10_2 : w6.cell? ⟨gb419, 2, none⟩ = some (.slice none 0 0) := cc; have hcz10_3 : w6.cell? ⟨gb419, 3, none⟩ = some (.bool false) := cc; have hcz10_4 : w6.cell? ⟨gb419, 4, none⟩ = some (.int .i64 0) := cc; have hcz10_5 : w6.cell? ⟨gb419, 5, none⟩ = some (.int .i64 0) := cc; have hcz10_6 : w6.cell? ⟨gb419, 6, none⟩ = some (.slice none 0 0) := cc; have hcz10_7 : w6.cell? ⟨gb419, 7, none⟩ = some (.bool false) := cc; have hcz10_8 : w6.cell? ⟨gb419, 8, none⟩ = some (.int .i64 0) := cc; have hcz10_9 : w6.cell? ⟨gb419, 9, none⟩ = some (.int .i64 0) := cc; have hcz10_10 : w6.cell? ⟨gb419, 10, none⟩ = some (.slice none 0 0) := cc; have hcz10_11 : w6.cell? ⟨gb419, 11, none⟩ = some (.int .i64 0) := cc; have hcz10_12 : w6.cell? ⟨gb419, 12, none⟩ = some (.slice none 0 0) := cc; have hcz10_13 : w6.cell? ⟨gb419, 13, none⟩ = some (.slice none 0 0) := cc; have hcz10_14 : w6.cell? ⟨gb419, 14, none⟩ = some (.slice none 0 0) := cc; have hcz10_15 : w6.cell? ⟨gb419, 15, none⟩ = some (.int .i64 0) := cc; have hfz10_0 := kF BK419.out 0; have hfz10_1 := kF BK419.out 1; have hfz10_2 := kF BK419.out 2; have hfz10_3 := kF BK419.out 3; have hfz10_4 := kF BK419.out 4; have hfz10_5 := kF BK419.out 5; have hfz10_6 := kF BK419.out 6; have hfz10_7 := kF BK419.out 7; have hfz10_8 := kF BK419.out 8; have hfz10_9 := kF BK419.out 9; have hfz10_10 := kF BK419.out 10; have hfz10_11 := kF BK419.out 11; have hfz10_12 := kF BK419.out 12; have hfz10_13 := kF BK419.out 13; have hfz10_14 := kF BK419.out 14; have hfz10_15 := kF BK419.out 15))
 refine bodyPost_ret (results_cell_row rfl _ _ gb419 127 #[.int .i64 a0, .int .i64 0, .slice none 0 0, .bool false, .int .i64 0, .int .i64 0, .slice none 0 0, .bool false, .int .i64 0, .int .i64 0, .slice none 0 0, .int .i64 t423, .slice Ao9 t424.length co9, .slice Ao8 t427.length co8, .slice Ao7 t420.length co7, .int .i64 0] (0, 0) _ rfl (fq BK419.out) Try.underlying127 rfl kr) rfl ?_
 exact ⟨_, _, _, _, _, _, ew, by first | exact Kd.S_nil _ _ _ _ _ | exact Kd.N_nil _ _ _ _ _ | exact Kd.V_nil _ _ _ _ _ | exact Kd.Q_nil _ _ _ _ _ | exact Kd.R_nil _ _ _ _ _, by first | exact Kd.R_nil _ _ _ _ _ | exact Kd.N_nil _ _ _ _ _ | exact Kd.V_nil _ _ _ _ _ | exact Kd.Q_nil _ _ _ _ _ | exact Kd.S_nil _ _ _ _ _, by first | exact Kd.R_nil _ _ _ _ _ | exact Kd.N_nil _ _ _ _ _ | exact Kd.V_nil _ _ _ _ _ | exact Kd.Q_nil _ _ _ _ _ | exact Kd.S_nil _ _ _ _ _, rM (rf (Kd.R_types HO426.out BK419.out (by decide))) (fun _ hk => ⟨(by simp [Value.ownBlock]), ⟨(by simp [Value.ownBlock]), ⟨hk.1.1, hk.1.2⟩⟩⟩), rM (rf (Kd.R_types HO429.out BK419.out (by decide))) (fun _ hk => ⟨(by simp [Value.ownBlock]), ⟨(by simp [Value.ownBlock]), ⟨hk.1.1, hk.1.2⟩⟩⟩), rM (rf (Kd.R_types HO422.out BK419.out (by decide))) (fun _ hk => ⟨(by simp [Value.ownBlock]), ⟨(by simp [Value.ownBlock]), ⟨hk.1.1.2, hk.1.2⟩⟩⟩), bq⟩

/-! ### spec_l20New: function 132 -/
def spec_l20New.f (a0 : Int) (a1 : Int) (a2 : Int) (a3 : Int) : Option (Int × Int × Int × Int × Int × List Int × List Int × Bool × Int × Int × List Int × Bool × Int × Int × List Int × Int × Int × Int × Int × (List (S183)) × Bool × Int × Int × List Int × Bool × Int × Int × List Int × Int × List Int × List Int × List Int × Int × Int × List Int × Int × Int × (List (S186)) × (List (S190))) := (spec_l17New.f a0 a1 a2).bind fun bt431 => ((spec_l18New.f a0).bind fun bt456 => (some (bt431.1, bt431.2.1, bt431.2.2.1, bt431.2.2.2.1, bt431.2.2.2.2.1, bt431.2.2.2.2.2.1, bt431.2.2.2.2.2.2.1, bt431.2.2.2.2.2.2.2.1, bt431.2.2.2.2.2.2.2.2.1, bt431.2.2.2.2.2.2.2.2.2.1, bt431.2.2.2.2.2.2.2.2.2.2.1, bt431.2.2.2.2.2.2.2.2.2.2.2.1, bt431.2.2.2.2.2.2.2.2.2.2.2.2.1, bt431.2.2.2.2.2.2.2.2.2.2.2.2.2.1, bt431.2.2.2.2.2.2.2.2.2.2.2.2.2.2.1, bt431.2.2.2.2.2.2.2.2.2.2.2.2.2.2.2.1, bt431.2.2.2.2.2.2.2.2.2.2.2.2.2.2.2.2, bt456.1, bt456.2.1, bt456.2.2.1, bt456.2.2.2.1, bt456.2.2.2.2.1, bt456.2.2.2.2.2.1, bt456.2.2.2.2.2.2.1, bt456.2.2.2.2.2.2.2.1, bt456.2.2.2.2.2.2.2.2.1, bt456.2.2.2.2.2.2.2.2.2.1, bt456.2.2.2.2.2.2.2.2.2.2.1, bt456.2.2.2.2.2.2.2.2.2.2.2.1, bt456.2.2.2.2.2.2.2.2.2.2.2.2.1, bt456.2.2.2.2.2.2.2.2.2.2.2.2.2.1, bt456.2.2.2.2.2.2.2.2.2.2.2.2.2.2.1, bt456.2.2.2.2.2.2.2.2.2.2.2.2.2.2.2, (-1), ([] : List Int), 0, a3, ([] : List (S186)), ([] : List (S190)))))
set_option maxHeartbeats 8000000 in
set_option maxRecDepth 100000 in
theorem spec_l20New.calls (a0 : Int) (a1 : Int) (a2 : Int) (a3 : Int) (r1 : Int) (r2 : Int) (r3 : Int) (r4 : Int) (r5 : Int) (r6 : List Int) (r7 : List Int) (r8 : Bool) (r9 : Int) (r10 : Int) (r11 : List Int) (r12 : Bool) (r13 : Int) (r14 : Int) (r15 : List Int) (r16 : Int) (r17 : Int) (r18 : Int) (r19 : Int) (r20 : List (S183)) (r21 : Bool) (r22 : Int) (r23 : Int) (r24 : List Int) (r25 : Bool) (r26 : Int) (r27 : Int) (r28 : List Int) (r29 : Int) (r30 : List Int) (r31 : List Int) (r32 : List Int) (r33 : Int) (r34 : Int) (r35 : List Int) (r36 : Int) (r37 : Int) (r38 : List (S186)) (r39 : List (S190)) (w : World) (h : spec_l20New.f a0 a1 a2 a3 = some (r1, r2, r3, r4, r5, r6, r7, r8, r9, r10, r11, r12, r13, r14, r15, r16, r17, r18, r19, r20, r21, r22, r23, r24, r25, r26, r27, r28, r29, r30, r31, r32, r33, r34, r35, r36, r37, r38, r39)) :
  Calls Try.prog 132 #[.int .i64 a0, .int .i64 a1, .int .i64 a2, .int .i64 a3] w fun e w' => ∃ v5_ v6_ v10_ v14_ v19_ v23_ v27_ v29_ v30_ v31_ v34_ v37_ v38_ : Value, e = .returned (.agg #[.int .i64 r1, .int .i64 r2, .int .i64 r3, .int .i64 r4, .int .i64 r5, v5_, v6_, .bool r8, .int .i64 r9, .int .i64 r10, v10_, .bool r12, .int .i64 r13, .int .i64 r14, v14_, .int .i64 r16, .int .i64 r17, .int .i64 r18, .int .i64 r19, v19_, .bool r21, .int .i64 r22, .int .i64 r23, v23_, .bool r25, .int .i64 r26, .int .i64 r27, v27_, .int .i64 r29, v29_, v30_, v31_, .int .i64 r33, .int .i64 r34, v34_, .int .i64 r36, .int .i64 r37, v37_, v38_]) ∧ Kd.R (Kd.int .i64) 2 w' w.heap.size (fun k_ => nb v6_ k_ ∧ nb v10_ k_ ∧ nb v14_ k_ ∧ nb v23_ k_ ∧ nb v27_ k_ ∧ nb v29_ k_ ∧ nb v30_ k_ ∧ nb v31_ k_ ∧ nb v34_ k_) v5_ r6 ∧ Kd.R (Kd.int .i64) 2 w' w.heap.size (fun k_ => nb v5_ k_ ∧ nb v10_ k_ ∧ nb v14_ k_ ∧ nb v23_ k_ ∧ nb v27_ k_ ∧ nb v29_ k_ ∧ nb v30_ k_ ∧ nb v31_ k_ ∧ nb v34_ k_) v6_ r7 ∧ Kd.R (Kd.int .i64) 2 w' w.heap.size (fun k_ => nb v5_ k_ ∧ nb v6_ k_ ∧ nb v14_ k_ ∧ nb v23_ k_ ∧ nb v27_ k_ ∧ nb v29_ k_ ∧ nb v30_ k_ ∧ nb v31_ k_ ∧ nb v34_ k_) v10_ r11 ∧ Kd.R (Kd.int .i64) 2 w' w.heap.size (fun k_ => nb v5_ k_ ∧ nb v6_ k_ ∧ nb v10_ k_ ∧ nb v23_ k_ ∧ nb v27_ k_ ∧ nb v29_ k_ ∧ nb v30_ k_ ∧ nb v31_ k_ ∧ nb v34_ k_) v14_ r15 ∧ Kd.S k183 183 w' w.heap.size (fun _ => True) v19_ r20 ∧ Kd.R (Kd.int .i64) 2 w' w.heap.size (fun k_ => nb v5_ k_ ∧ nb v6_ k_ ∧ nb v10_ k_ ∧ nb v14_ k_ ∧ nb v27_ k_ ∧ nb v29_ k_ ∧ nb v30_ k_ ∧ nb v31_ k_ ∧ nb v34_ k_) v23_ r24 ∧ Kd.R (Kd.int .i64) 2 w' w.heap.size (fun k_ => nb v5_ k_ ∧ nb v6_ k_ ∧ nb v10_ k_ ∧ nb v14_ k_ ∧ nb v23_ k_ ∧ nb v29_ k_ ∧ nb v30_ k_ ∧ nb v31_ k_ ∧ nb v34_ k_) v27_ r28 ∧ Kd.R (Kd.int .i64) 2 w' w.heap.size (fun k_ => nb v5_ k_ ∧ nb v6_ k_ ∧ nb v10_ k_ ∧ nb v14_ k_ ∧ nb v23_ k_ ∧ nb v27_ k_ ∧ nb v30_ k_ ∧ nb v31_ k_ ∧ nb v34_ k_) v29_ r30 ∧ Kd.R (Kd.int .i64) 2 w' w.heap.size (fun k_ => nb v5_ k_ ∧ nb v6_ k_ ∧ nb v10_ k_ ∧ nb v14_ k_ ∧ nb v23_ k_ ∧ nb v27_ k_ ∧ nb v29_ k_ ∧ nb v31_ k_ ∧ nb v34_ k_) v30_ r31 ∧ Kd.R (Kd.int .i64) 2 w' w.heap.size (fun k_ => nb v5_ k_ ∧ nb v6_ k_ ∧ nb v10_ k_ ∧ nb v14_ k_ ∧ nb v23_ k_ ∧ nb v27_ k_ ∧ nb v29_ k_ ∧ nb v30_ k_ ∧ nb v34_ k_) v31_ r32 ∧ Kd.R (Kd.int .i64) 2 w' w.heap.size (fun k_ => nb v5_ k_ ∧ nb v6_ k_ ∧ nb v10_ k_ ∧ nb v14_ k_ ∧ nb v23_ k_ ∧ nb v27_ k_ ∧ nb v29_ k_ ∧ nb v30_ k_ ∧ nb v31_ k_) v34_ r35 ∧ Kd.S k186 186 w' w.heap.size (fun _ => True) v37_ r38 ∧ Kd.R k190 190 w' w.heap.size (fun _ => True) v38_ r39 ∧ Below w.heap.size w w' := by
 have hu133 := Try.underlying133
 have hu129 := Try.underlying129
 have HB := aM (Below.refl w.heap.size w)
 have H : ((spec_l17New.f a0 a1 a2).bind fun bt431 => ((spec_l18New.f a0).bind fun bt456 => (some (bt431.1, bt431.2.1, bt431.2.2.1, bt431.2.2.2.1, bt431.2.2.2.2.1, bt431.2.2.2.2.2.1, bt431.2.2.2.2.2.2.1, bt431.2.2.2.2.2.2.2.1, bt431.2.2.2.2.2.2.2.2.1, bt431.2.2.2.2.2.2.2.2.2.1, bt431.2.2.2.2.2.2.2.2.2.2.1, bt431.2.2.2.2.2.2.2.2.2.2.2.1, bt431.2.2.2.2.2.2.2.2.2.2.2.2.1, bt431.2.2.2.2.2.2.2.2.2.2.2.2.2.1, bt431.2.2.2.2.2.2.2.2.2.2.2.2.2.2.1, bt431.2.2.2.2.2.2.2.2.2.2.2.2.2.2.2.1, bt431.2.2.2.2.2.2.2.2.2.2.2.2.2.2.2.2, bt456.1, bt456.2.1, bt456.2.2.1, bt456.2.2.2.1, bt456.2.2.2.2.1, bt456.2.2.2.2.2.1, bt456.2.2.2.2.2.2.1, bt456.2.2.2.2.2.2.2.1, bt456.2.2.2.2.2.2.2.2.1, bt456.2.2.2.2.2.2.2.2.2.1, bt456.2.2.2.2.2.2.2.2.2.2.1, bt456.2.2.2.2.2.2.2.2.2.2.2.1, bt456.2.2.2.2.2.2.2.2.2.2.2.2.1, bt456.2.2.2.2.2.2.2.2.2.2.2.2.2.1, bt456.2.2.2.2.2.2.2.2.2.2.2.2.2.2.1, bt456.2.2.2.2.2.2.2.2.2.2.2.2.2.2.2, (-1), ([] : List Int), 0, a3, ([] : List (S186)), ([] : List (S190)))))) = some (r1, r2, r3, r4, r5, r6, r7, r8, r9, r10, r11, r12, r13, r14, r15, r16, r17, r18, r19, r20, r21, r22, r23, r24, r25, r26, r27, r28, r29, r30, r31, r32, r33, r34, r35, r36, r37, r38, r39) := h
 clear h
 replace H := bo H
 obtain ⟨⟨t431, t432, t433, t434, t435, t436, t439, t442, t443, t444, t445, t448, t449, t450, t451, t454, t455⟩, A5, H⟩ := H
 replace H := bz H
 replace H := bo H
 obtain ⟨⟨t456, t457, t458, t461, t462, t463, t464, t467, t468, t469, t470, t473, t474, t477, t480, t483⟩, A6, H⟩ := H
 replace H := bz H
 simp only [Option.some.injEq, Prod.mk.injEq] at H
 obtain ⟨rfl, rfl, rfl, rfl, rfl, rfl, rfl, rfl, rfl, rfl, rfl, rfl, rfl, rfl, rfl, rfl, rfl, rfl, rfl, rfl, rfl, rfl, rfl, rfl, rfl, rfl, rfl, rfl, rfl, rfl, rfl, rfl, rfl, rfl, rfl, rfl, rfl, rfl, rfl⟩ := H
 go_enter Try.func132, Try.ntmps132
 go_wp2_with (first | ((with_reducible refine gate_dst (N := 8) rfl ?_); refine box_event ?hg (N := 8) ?hd (cs := #[.int .i64 0, .int .i64 0, .int .i64 0, .int .i64 0, .int .i64 0, .slice none 0 0, .slice none 0 0, .bool false, .int .i64 0, .int .i64 0, .slice none 0 0, .bool false, .int .i64 0, .int .i64 0, .slice none 0 0, .int .i64 0, .int .i64 0, .int .i64 0, .int .i64 0, .slice none 0 0, .bool false, .int .i64 0, .int .i64 0, .slice none 0 0, .bool false, .int .i64 0, .int .i64 0, .slice none 0 0, .int .i64 0, .slice none 0 0, .slice none 0 0, .slice none 0 0, .int .i64 0, .int .i64 0, .slice none 0 0, .int .i64 0, .int .i64 0, .slice none 0 0, .slice none 0 0]) (t := 133) ?hr ?_; (case hd => rfl); (case hg => rfl); (case hr => first | (go_simp; done) | (go_simp; rfl)); intro gb430 hg w7 hbox hb; have BK430 := aM (hbox); have GW430 := aM ((by rw [hg]; exact (bZ bq) : w.heap.size ≤ gb430)); have GE430 := aM ((by rw [hg]; exact (bZ bq) : w.heap.size ≤ gb430)); replace HB := aM (bT bq hb); clear hb hbox hg) | ((with_reducible refine gate_callee (f := 150) rfl ?_); refine goesL_ (some 12) rfl rfl Try.func150 kr rfl #[.int .i64 a0, .int .i64 a1, .int .i64 a2] rfl mq ?_; (with_reducible refine (spec_l17New.calls a0 a1 a2 t431 t432 t433 t434 t435 t436 t439 t442 t443 t444 t445 t448 t449 t450 t451 t454 t455 _ A5.out).mono ?_); rintro e w8 ⟨v437, v440, v446, v452, rfl, ho0, ho1, ho2, ho3, hb⟩; refine ⟨_, rfl, ?_⟩; have HO438 := aM (rG ho0 (bZ bq)); have HO441 := aM (rG ho1 (bZ bq)); have HO447 := aM (rG ho2 (bZ bq)); have HO453 := aM (rG ho3 (bZ bq)); replace BK430 := aM (kB (kq BK430.out) hb); replace HB := aM (bT bq hb); (try clear hb); (try clear ho0); (try clear ho1); (try clear ho2); (try clear ho3)) | ((with_reducible refine gate_callee (f := 151) rfl ?_); refine goesL_ (some 14) rfl rfl Try.func151 kr rfl #[.int .i64 a0] rfl mq ?_; (with_reducible refine (spec_l18New.calls a0 t456 t457 t458 t461 t462 t463 t464 t467 t468 t469 t470 t473 t474 t477 t480 t483 _ A6.out).mono ?_); rintro e w9 ⟨v459, v465, v471, v475, v478, v481, rfl, ho0, ho1, ho2, ho3, ho4, ho5, hb⟩; refine ⟨_, rfl, ?_⟩; have HO460 := aM (Kd.S_lower ho0 (bZ bq)); have HO466 := aM (rG (rW (rW (rW (rW ho1 (rT (rq HO438.out))) (rT (rq HO441.out))) (rT (rq HO447.out))) (rT (rq HO453.out))) (bZ bq)); have HO472 := aM (rG (rW (rW (rW (rW ho2 (rT (rq HO438.out))) (rT (rq HO441.out))) (rT (rq HO447.out))) (rT (rq HO453.out))) (bZ bq)); have HO476 := aM (rG (rW (rW (rW (rW ho3 (rT (rq HO438.out))) (rT (rq HO441.out))) (rT (rq HO447.out))) (rT (rq HO453.out))) (bZ bq)); have HO479 := aM (rG (rW (rW (rW (rW ho4 (rT (rq HO438.out))) (rT (rq HO441.out))) (rT (rq HO447.out))) (rT (rq HO453.out))) (bZ bq)); have HO482 := aM (rG (rW (rW (rW (rW ho5 (rT (rq HO438.out))) (rT (rq HO441.out))) (rT (rq HO447.out))) (rT (rq HO453.out))) (bZ bq)); replace HO438 := aM (rM (rO (rO (rO (rO (rO (rE (rq HO438.out) hb) (rB ho1)) (rB ho2)) (rB ho3)) (rB ho4)) (rB ho5)) (fun _ h_ => h_.1)); replace HO441 := aM (rM (rO (rO (rO (rO (rO (rE (rq HO441.out) hb) (rB ho1)) (rB ho2)) (rB ho3)) (rB ho4)) (rB ho5)) (fun _ h_ => h_.1)); replace HO447 := aM (rM (rO (rO (rO (rO (rO (rE (rq HO447.out) hb) (rB ho1)) (rB ho2)) (rB ho3)) (rB ho4)) (rB ho5)) (fun _ h_ => h_.1)); replace HO453 := aM (rM (rO (rO (rO (rO (rO (rE (rq HO453.out) hb) (rB ho1)) (rB ho2)) (rB ho3)) (rB ho4)) (rB ho5)) (fun _ h_ => h_.1)); replace BK430 := aM (kB (kq BK430.out) hb); replace HB := aM (bT bq hb); (try clear hb); (try clear ho0); (try clear ho1); (try clear ho2); (try clear ho3); (try clear ho4); (try clear ho5); obtain ⟨Ao10, co10, eo10⟩ := Kd.R_slice HO482.out; subst eo10; obtain ⟨Ao11, co11, eo11⟩ := Kd.R_slice HO479.out; subst eo11; obtain ⟨Ao12, co12, eo12⟩ := Kd.R_slice HO476.out; subst eo12; obtain ⟨Ao13, co13, eo13⟩ := Kd.R_slice HO472.out; subst eo13; obtain ⟨Ao14, co14, eo14⟩ := Kd.R_slice HO466.out; subst eo14; obtain ⟨Ao15, co15, eo15⟩ := Kd.S_slice HO460.out; subst eo15; obtain ⟨Ao16, co16, eo16⟩ := Kd.R_slice HO453.out; subst eo16; obtain ⟨Ao17, co17, eo17⟩ := Kd.R_slice HO447.out; subst eo17; obtain ⟨Ao18, co18, eo18⟩ := Kd.R_slice HO441.out; subst eo18; obtain ⟨Ao19, co19, eo19⟩ := Kd.R_slice HO438.out; subst eo19) | ((with_reducible refine gate_store (t := 133) (p := 8) (v := .tmp 17) rfl ?_); refine sa rfl 133 (.tmp 8) (.tmp 17) rfl gb430 _ ?vs BK430.out ?hx ?hy ?hi ?hl ?h1 ?_; (case hx => rfl); (case hy => rfl); (case hi => rfl); (case hl => simp); (case h1 => rfl); simp only [World.setCells, List.toList_toArray, Nat.reduceAdd]))
 refine bodyPost_ret (results_cell_row rfl _ _ gb430 133 #[.int .i64 t431, .int .i64 t432, .int .i64 t433, .int .i64 t434, .int .i64 t435, .slice Ao19 t436.length co19, .slice Ao18 t439.length co18, .bool t442, .int .i64 t443, .int .i64 t444, .slice Ao17 t445.length co17, .bool t448, .int .i64 t449, .int .i64 t450, .slice Ao16 t451.length co16, .int .i64 t454, .int .i64 t455, .int .i64 t456, .int .i64 t457, .slice Ao15 t458.length co15, .bool t461, .int .i64 t462, .int .i64 t463, .slice Ao14 t464.length co14, .bool t467, .int .i64 t468, .int .i64 t469, .slice Ao13 t470.length co13, .int .i64 t473, .slice Ao12 t474.length co12, .slice Ao11 t477.length co11, .slice Ao10 t480.length co10, .int .i64 t483, .int .i64 (-1), .slice none 0 0, .int .i64 0, .int .i64 a3, .slice none 0 0, .slice none 0 0] (0, 0) _ rfl (fq BK430.out) Try.underlying133 rfl kr) rfl ?_
 exact ⟨_, _, _, _, _, _, _, _, _, _, _, _, _, ew, rM (rf (Kd.R_types HO438.out BK430.out (by decide))) (fun _ hk => ⟨hk.1.1.1.1.1.1.1, ⟨hk.1.1.1.1.1.1.2.1, ⟨hk.1.1.1.1.1.1.2.2, ⟨hk.1.1.1.1.1.2, ⟨hk.1.1.1.1.2, ⟨hk.1.1.1.2, ⟨hk.1.1.2, ⟨hk.1.2, (by simp [Value.ownBlock])⟩⟩⟩⟩⟩⟩⟩⟩), rM (rf (Kd.R_types HO441.out BK430.out (by decide))) (fun _ hk => ⟨hk.1.1.1.1.1.1.1, ⟨hk.1.1.1.1.1.1.2.1, ⟨hk.1.1.1.1.1.1.2.2, ⟨hk.1.1.1.1.1.2, ⟨hk.1.1.1.1.2, ⟨hk.1.1.1.2, ⟨hk.1.1.2, ⟨hk.1.2, (by simp [Value.ownBlock])⟩⟩⟩⟩⟩⟩⟩⟩), rM (rf (Kd.R_types HO447.out BK430.out (by decide))) (fun _ hk => ⟨hk.1.1.1.1.1.1.1, ⟨hk.1.1.1.1.1.1.2.1, ⟨hk.1.1.1.1.1.1.2.2, ⟨hk.1.1.1.1.1.2, ⟨hk.1.1.1.1.2, ⟨hk.1.1.1.2, ⟨hk.1.1.2, ⟨hk.1.2, (by simp [Value.ownBlock])⟩⟩⟩⟩⟩⟩⟩⟩), rM (rf (Kd.R_types HO453.out BK430.out (by decide))) (fun _ hk => ⟨hk.1.1.1.1.1.1.1, ⟨hk.1.1.1.1.1.1.2.1, ⟨hk.1.1.1.1.1.1.2.2, ⟨hk.1.1.1.1.1.2, ⟨hk.1.1.1.1.2, ⟨hk.1.1.1.2, ⟨hk.1.1.2, ⟨hk.1.2, (by simp [Value.ownBlock])⟩⟩⟩⟩⟩⟩⟩⟩), by (with_reducible repeat (first | apply Kd.S_alloc | apply Kd.S_drewN | apply Kd.S_drew)); exact Kd.S_mono (Kd.S_far (p := ⟨gb430, 38, none⟩) (Kd.S_far (p := ⟨gb430, 37, none⟩) (Kd.S_far (p := ⟨gb430, 36, none⟩) (Kd.S_far (p := ⟨gb430, 35, none⟩) (Kd.S_far (p := ⟨gb430, 34, none⟩) (Kd.S_far (p := ⟨gb430, 33, none⟩) (Kd.S_far (p := ⟨gb430, 32, none⟩) (Kd.S_far (p := ⟨gb430, 31, none⟩) (Kd.S_far (p := ⟨gb430, 30, none⟩) (Kd.S_far (p := ⟨gb430, 29, none⟩) (Kd.S_far (p := ⟨gb430, 28, none⟩) (Kd.S_far (p := ⟨gb430, 27, none⟩) (Kd.S_far (p := ⟨gb430, 26, none⟩) (Kd.S_far (p := ⟨gb430, 25, none⟩) (Kd.S_far (p := ⟨gb430, 24, none⟩) (Kd.S_far (p := ⟨gb430, 23, none⟩) (Kd.S_far (p := ⟨gb430, 22, none⟩) (Kd.S_far (p := ⟨gb430, 21, none⟩) (Kd.S_far (p := ⟨gb430, 20, none⟩) (Kd.S_far (p := ⟨gb430, 19, none⟩) (Kd.S_far (p := ⟨gb430, 18, none⟩) (Kd.S_far (p := ⟨gb430, 17, none⟩) (Kd.S_far (p := ⟨gb430, 16, none⟩) (Kd.S_far (p := ⟨gb430, 15, none⟩) (Kd.S_far (p := ⟨gb430, 14, none⟩) (Kd.S_far (p := ⟨gb430, 13, none⟩) (Kd.S_far (p := ⟨gb430, 12, none⟩) (Kd.S_far (p := ⟨gb430, 11, none⟩) (Kd.S_far (p := ⟨gb430, 10, none⟩) (Kd.S_far (p := ⟨gb430, 9, none⟩) (Kd.S_far (p := ⟨gb430, 8, none⟩) (Kd.S_far (p := ⟨gb430, 7, none⟩) (Kd.S_far (p := ⟨gb430, 6, none⟩) (Kd.S_far (p := ⟨gb430, 5, none⟩) (Kd.S_far (p := ⟨gb430, 4, none⟩) (Kd.S_far (p := ⟨gb430, 3, none⟩) (Kd.S_far (p := ⟨gb430, 2, none⟩) (Kd.S_far (p := ⟨gb430, 1, none⟩) (Kd.S_far (p := ⟨gb430, 0, none⟩) (Kd.S_types HO460.out BK430.out (by decide)) (fun _ hk => hk.2) (.int .i64 t431)) (fun _ hk => hk.2) (.int .i64 t432)) (fun _ hk => hk.2) (.int .i64 t433)) (fun _ hk => hk.2) (.int .i64 t434)) (fun _ hk => hk.2) (.int .i64 t435)) (fun _ hk => hk.2) (.slice Ao19 t436.length co19)) (fun _ hk => hk.2) (.slice Ao18 t439.length co18)) (fun _ hk => hk.2) (.bool t442)) (fun _ hk => hk.2) (.int .i64 t443)) (fun _ hk => hk.2) (.int .i64 t444)) (fun _ hk => hk.2) (.slice Ao17 t445.length co17)) (fun _ hk => hk.2) (.bool t448)) (fun _ hk => hk.2) (.int .i64 t449)) (fun _ hk => hk.2) (.int .i64 t450)) (fun _ hk => hk.2) (.slice Ao16 t451.length co16)) (fun _ hk => hk.2) (.int .i64 t454)) (fun _ hk => hk.2) (.int .i64 t455)) (fun _ hk => hk.2) (.int .i64 t456)) (fun _ hk => hk.2) (.int .i64 t457)) (fun _ hk => hk.2) (.slice Ao15 t458.length co15)) (fun _ hk => hk.2) (.bool t461)) (fun _ hk => hk.2) (.int .i64 t462)) (fun _ hk => hk.2) (.int .i64 t463)) (fun _ hk => hk.2) (.slice Ao14 t464.length co14)) (fun _ hk => hk.2) (.bool t467)) (fun _ hk => hk.2) (.int .i64 t468)) (fun _ hk => hk.2) (.int .i64 t469)) (fun _ hk => hk.2) (.slice Ao13 t470.length co13)) (fun _ hk => hk.2) (.int .i64 t473)) (fun _ hk => hk.2) (.slice Ao12 t474.length co12)) (fun _ hk => hk.2) (.slice Ao11 t477.length co11)) (fun _ hk => hk.2) (.slice Ao10 t480.length co10)) (fun _ hk => hk.2) (.int .i64 t483)) (fun _ hk => hk.2) (.int .i64 (-1))) (fun _ hk => hk.2) (.slice none 0 0)) (fun _ hk => hk.2) (.int .i64 0)) (fun _ hk => hk.2) (.int .i64 a3)) (fun _ hk => hk.2) (.slice none 0 0)) (fun _ hk => hk.2) (.slice none 0 0)) (fun _ hk => trivial), rM (rf (Kd.R_types HO466.out BK430.out (by decide))) (fun _ hk => ⟨hk.1.1.1.1.2, ⟨hk.1.1.1.2, ⟨hk.1.1.2, ⟨hk.1.2, ⟨hk.1.1.1.1.1.1, ⟨hk.1.1.1.1.1.2.1, ⟨hk.1.1.1.1.1.2.2.1, ⟨hk.1.1.1.1.1.2.2.2, (by simp [Value.ownBlock])⟩⟩⟩⟩⟩⟩⟩⟩), rM (rf (Kd.R_types HO472.out BK430.out (by decide))) (fun _ hk => ⟨hk.1.1.1.1.2, ⟨hk.1.1.1.2, ⟨hk.1.1.2, ⟨hk.1.2, ⟨hk.1.1.1.1.1.1, ⟨hk.1.1.1.1.1.2.1, ⟨hk.1.1.1.1.1.2.2.1, ⟨hk.1.1.1.1.1.2.2.2, (by simp [Value.ownBlock])⟩⟩⟩⟩⟩⟩⟩⟩), rM (rf (Kd.R_types HO476.out BK430.out (by decide))) (fun _ hk => ⟨hk.1.1.1.1.2, ⟨hk.1.1.1.2, ⟨hk.1.1.2, ⟨hk.1.2, ⟨hk.1.1.1.1.1.1, ⟨hk.1.1.1.1.1.2.1, ⟨hk.1.1.1.1.1.2.2.1, ⟨hk.1.1.1.1.1.2.2.2, (by simp [Value.ownBlock])⟩⟩⟩⟩⟩⟩⟩⟩), rM (rf (Kd.R_types HO479.out BK430.out (by decide))) (fun _ hk => ⟨hk.1.1.1.1.2, ⟨hk.1.1.1.2, ⟨hk.1.1.2, ⟨hk.1.2, ⟨hk.1.1.1.1.1.1, ⟨hk.1.1.1.1.1.2.1, ⟨hk.1.1.1.1.1.2.2.1, ⟨hk.1.1.1.1.1.2.2.2, (by simp [Value.ownBlock])⟩⟩⟩⟩⟩⟩⟩⟩), rM (rf (Kd.R_types HO482.out BK430.out (by decide))) (fun _ hk => ⟨hk.1.1.1.1.2, ⟨hk.1.1.1.2, ⟨hk.1.1.2, ⟨hk.1.2, ⟨hk.1.1.1.1.1.1, ⟨hk.1.1.1.1.1.2.1, ⟨hk.1.1.1.1.1.2.2.1, ⟨hk.1.1.1.1.1.2.2.2, (by simp [Value.ownBlock])⟩⟩⟩⟩⟩⟩⟩⟩), by first | exact Kd.R_nil _ _ _ _ _ | exact Kd.N_nil _ _ _ _ _ | exact Kd.V_nil _ _ _ _ _ | exact Kd.Q_nil _ _ _ _ _ | exact Kd.S_nil _ _ _ _ _, by first | exact Kd.S_nil _ _ _ _ _ | exact Kd.N_nil _ _ _ _ _ | exact Kd.V_nil _ _ _ _ _ | exact Kd.Q_nil _ _ _ _ _ | exact Kd.R_nil _ _ _ _ _, by first | exact Kd.R_nil _ _ _ _ _ | exact Kd.N_nil _ _ _ _ _ | exact Kd.V_nil _ _ _ _ _ | exact Kd.Q_nil _ _ _ _ _ | exact Kd.S_nil _ _ _ _ _, bq⟩

/-! ### spec_l1Size: function 133 -/
def spec_l1Size.f (s0_0 : List Int) (s0_1 : Int) : Option (Int × Int) := (spec_l1Pick.f s0_0 s0_1 (([4, 8, 16, 8] : List Int))).bind fun bt487 => (some (bt487.1, bt487.2))
set_option maxHeartbeats 8000000 in
set_option maxRecDepth 100000 in
theorem spec_l1Size.calls (g : Nat) (s0_0 : List Int) (s0_1 : Int) (r1 : Int) (r2 : Int) (w0 w : World) (hI : IsS149 w0 w g s0_0 s0_1) (hB : Below w0.heap.size w0 w) (h : spec_l1Size.f s0_0 s0_1 = some (r1, r2)) :
  Calls Try.prog 133 #[.pointer (some ⟨g, 0, none⟩)] w fun e w' => e = .returned (.int .i64 r1) ∧ IsS149 w0 w' g s0_0 r2 ∧ Below w0.heap.size w0 w' ∧ KeepBut w w' g none := by
 have HI0 := aM hI
 have HK := aM (KeepBut.refl w g none)
 have HL := aM hB.size
 clear hI
 have HW0 := aM hB.size
 have HB := aM hB
 clear hB
 have H : ((spec_l1Pick.f s0_0 s0_1 (([4, 8, 16, 8] : List Int))).bind fun bt487 => (some (bt487.1, bt487.2))) = some (r1, r2) := h
 clear h
 obtain ⟨y484, hy484⟩ : ∃ y_ : List Int, y_ = (([4, 8, 16, 8] : List Int)) := ⟨_, rfl⟩
 replace H : ((spec_l1Pick.f s0_0 s0_1 y484).bind fun bt487 => (some (bt487.1, bt487.2))) = some (r1, r2) := hl hy484 H
 have Ny484 := aM hy484
 clear hy484
 replace H := bo H
 obtain ⟨⟨t487, t488⟩, A2, H⟩ := H
 replace H := bz H
 simp only [Option.some.injEq, Prod.mk.injEq] at H
 obtain ⟨rfl, rfl⟩ := H
 go_enter Try.func133, Try.ntmps133
 go_wp2_with (first | ((with_reducible refine gate_dst (N := 4) rfl ?_); refine Kd.R_lit (Kd.int .i64) _ 2 ?hg (N := 4) ?hd (xs := ([4, 8, 16, 8] : List Int)) (inner := [.int .i64 4, .int .i64 8, .int .i64 16, .int .i64 8]) (ok := fun _ => True) (okp := fun _ => True) ?hr ?hp (fun _ hk => hk) trivial (Below.refl _ _) (Nat.le_refl _) (by simp) ?_; (case hd => rfl); (case hg => rfl); (case hr => first | (go_simp; done) | (go_simp; rfl)); (case hp => exact (Reps.one (show Kd.M (Kd.int .i64) _ _ _ 4 [.int .i64 4] from rfl) (Reps.one (show Kd.M (Kd.int .i64) _ _ _ 8 [.int .i64 8] from rfl) (Reps.one (show Kd.M (Kd.int .i64) _ _ _ 16 [.int .i64 16] from rfl) (Reps.one (show Kd.M (Kd.int .i64) _ _ _ 8 [.int .i64 8] from rfl) (Reps.none _ _)))))); intro v485 w3 ho4 hb hg_ hnew_; clear hg_ hnew_; (first | rw [← Ny484.out] at ho4 | (simp only [Int.reduceToNat] at ho4; rw [← Ny484.out] at ho4)); have HO486 := aM (rG ho4 (keep_size (w := w) (g := g) (row := none) hq)); replace HK := aM (KeepBut.trans hq (KeepBut.of_below hb g none) (.inl rfl)); replace HB := aM (bT bq hb); replace HI0 := aM (IsS149.below (sq HI0.out) hb); clear hb ho4; obtain ⟨Ao5, co5, eo5⟩ := Kd.R_slice HO486.out; subst eo5) | ((with_reducible refine gate_callee (f := 86) rfl ?_); refine goesL_ (some 5) rfl rfl Try.func86 kr rfl #[.pointer (some ⟨g, 0, none⟩), .slice Ao5 y484.length co5] rfl mq ?_; (with_reducible refine (spec_l1Pick.calls g s0_0 s0_1 _ _ y484 t487 t488 w0 _ ?side1 ?side2 ?side3 ?side4 ?side5 A2.out).mono ?_); (case side1 => exact sq HI0.out); (case side2 => exact bq); (case side3 => exact cq (rR HO486.out).2.2); (case side4 => exact (rR HO486.out).2.1); (case side5 => exact far_slice (IsS149.own_ne HI0.out HO486.out (by decide))); rintro e w6 ⟨rfl, hi, hb, hk⟩; refine ⟨_, rfl, ?_⟩; replace HO486 := aM (rM (Kd.R_keep (IsS149.apart (show IsS149 w0 _ g s0_0 s0_1 from sq HI0.out) (rq HO486.out) (by decide)) hk (fun _ h => h.2)) (fun _ h => h.1)); replace HK := aM (KeepBut.trans hq hk (.inl rfl)); replace HB := aM (hb); replace HI0 := aM (hi); (try clear hb)))
 go_ret
 exact ⟨ew, sq HI0.out, bq, hq⟩

/-! ### spec_l20Start: function 98 -/
def spec_l20Start.f (s0_0 : List Int) (s0_1 : Int) : Option (Int × Int × Int × Int × Int × List Int × List Int × Bool × Int × Int × List Int × Bool × Int × Int × List Int × Int × Int × Int × Int × (List (S183)) × Bool × Int × Int × List Int × Bool × Int × Int × List Int × Int × List Int × List Int × List Int × Int × Int × List Int × Int × Int × (List (S186)) × (List (S190)) × Int) := (spec_l1Size.f s0_0 s0_1).bind fun bt490 => ((spec_l1Pick.f s0_0 bt490.2 (([24, 30, 40, 160] : List Int))).bind fun bt495 => ((spec_l1Pick.f s0_0 bt495.2 (([1, 2, 3, 5, 50] : List Int))).bind fun bt500 => ((spec_l1Pick.f s0_0 bt500.2 (([0, 1, 1, 2, 6] : List Int))).bind fun bt505 => ((spec_l20New.f bt490.1 bt495.1 bt500.1 bt505.1).bind fun bt507 => (some (bt507.1, bt507.2.1, bt507.2.2.1, bt507.2.2.2.1, bt507.2.2.2.2.1, bt507.2.2.2.2.2.1, bt507.2.2.2.2.2.2.1, bt507.2.2.2.2.2.2.2.1, bt507.2.2.2.2.2.2.2.2.1, bt507.2.2.2.2.2.2.2.2.2.1, bt507.2.2.2.2.2.2.2.2.2.2.1, bt507.2.2.2.2.2.2.2.2.2.2.2.1, bt507.2.2.2.2.2.2.2.2.2.2.2.2.1, bt507.2.2.2.2.2.2.2.2.2.2.2.2.2.1, bt507.2.2.2.2.2.2.2.2.2.2.2.2.2.2.1, bt507.2.2.2.2.2.2.2.2.2.2.2.2.2.2.2.1, bt507.2.2.2.2.2.2.2.2.2.2.2.2.2.2.2.2.1, bt507.2.2.2.2.2.2.2.2.2.2.2.2.2.2.2.2.2.1, bt507.2.2.2.2.2.2.2.2.2.2.2.2.2.2.2.2.2.2.1, bt507.2.2.2.2.2.2.2.2.2.2.2.2.2.2.2.2.2.2.2.1, bt507.2.2.2.2.2.2.2.2.2.2.2.2.2.2.2.2.2.2.2.2.1, bt507.2.2.2.2.2.2.2.2.2.2.2.2.2.2.2.2.2.2.2.2.2.1, bt507.2.2.2.2.2.2.2.2.2.2.2.2.2.2.2.2.2.2.2.2.2.2.1, bt507.2.2.2.2.2.2.2.2.2.2.2.2.2.2.2.2.2.2.2.2.2.2.2.1, bt507.2.2.2.2.2.2.2.2.2.2.2.2.2.2.2.2.2.2.2.2.2.2.2.2.1, bt507.2.2.2.2.2.2.2.2.2.2.2.2.2.2.2.2.2.2.2.2.2.2.2.2.2.1, bt507.2.2.2.2.2.2.2.2.2.2.2.2.2.2.2.2.2.2.2.2.2.2.2.2.2.2.1, bt507.2.2.2.2.2.2.2.2.2.2.2.2.2.2.2.2.2.2.2.2.2.2.2.2.2.2.2.1, bt507.2.2.2.2.2.2.2.2.2.2.2.2.2.2.2.2.2.2.2.2.2.2.2.2.2.2.2.2.1, bt507.2.2.2.2.2.2.2.2.2.2.2.2.2.2.2.2.2.2.2.2.2.2.2.2.2.2.2.2.2.1, bt507.2.2.2.2.2.2.2.2.2.2.2.2.2.2.2.2.2.2.2.2.2.2.2.2.2.2.2.2.2.2.1, bt507.2.2.2.2.2.2.2.2.2.2.2.2.2.2.2.2.2.2.2.2.2.2.2.2.2.2.2.2.2.2.2.1, bt507.2.2.2.2.2.2.2.2.2.2.2.2.2.2.2.2.2.2.2.2.2.2.2.2.2.2.2.2.2.2.2.2.1, bt507.2.2.2.2.2.2.2.2.2.2.2.2.2.2.2.2.2.2.2.2.2.2.2.2.2.2.2.2.2.2.2.2.2.1, bt507.2.2.2.2.2.2.2.2.2.2.2.2.2.2.2.2.2.2.2.2.2.2.2.2.2.2.2.2.2.2.2.2.2.2.1, bt507.2.2.2.2.2.2.2.2.2.2.2.2.2.2.2.2.2.2.2.2.2.2.2.2.2.2.2.2.2.2.2.2.2.2.2.1, bt507.2.2.2.2.2.2.2.2.2.2.2.2.2.2.2.2.2.2.2.2.2.2.2.2.2.2.2.2.2.2.2.2.2.2.2.2.1, bt507.2.2.2.2.2.2.2.2.2.2.2.2.2.2.2.2.2.2.2.2.2.2.2.2.2.2.2.2.2.2.2.2.2.2.2.2.2.1, bt507.2.2.2.2.2.2.2.2.2.2.2.2.2.2.2.2.2.2.2.2.2.2.2.2.2.2.2.2.2.2.2.2.2.2.2.2.2.2, bt505.2))))))
set_option maxHeartbeats 8000000 in
set_option maxRecDepth 100000 in
theorem spec_l20Start.calls (g : Nat) (s0_0 : List Int) (s0_1 : Int) (r1 : Int) (r2 : Int) (r3 : Int) (r4 : Int) (r5 : Int) (r6 : List Int) (r7 : List Int) (r8 : Bool) (r9 : Int) (r10 : Int) (r11 : List Int) (r12 : Bool) (r13 : Int) (r14 : Int) (r15 : List Int) (r16 : Int) (r17 : Int) (r18 : Int) (r19 : Int) (r20 : List (S183)) (r21 : Bool) (r22 : Int) (r23 : Int) (r24 : List Int) (r25 : Bool) (r26 : Int) (r27 : Int) (r28 : List Int) (r29 : Int) (r30 : List Int) (r31 : List Int) (r32 : List Int) (r33 : Int) (r34 : Int) (r35 : List Int) (r36 : Int) (r37 : Int) (r38 : List (S186)) (r39 : List (S190)) (r40 : Int) (w0 w : World) (hI : IsS149 w0 w g s0_0 s0_1) (hB : Below w0.heap.size w0 w) (h : spec_l20Start.f s0_0 s0_1 = some (r1, r2, r3, r4, r5, r6, r7, r8, r9, r10, r11, r12, r13, r14, r15, r16, r17, r18, r19, r20, r21, r22, r23, r24, r25, r26, r27, r28, r29, r30, r31, r32, r33, r34, r35, r36, r37, r38, r39, r40)) :
  Calls Try.prog 98 #[.pointer (some ⟨g, 0, none⟩)] w fun e w' => ∃ v5_ v6_ v10_ v14_ v19_ v23_ v27_ v29_ v30_ v31_ v34_ v37_ v38_ : Value, e = .returned (.agg #[.int .i64 r1, .int .i64 r2, .int .i64 r3, .int .i64 r4, .int .i64 r5, v5_, v6_, .bool r8, .int .i64 r9, .int .i64 r10, v10_, .bool r12, .int .i64 r13, .int .i64 r14, v14_, .int .i64 r16, .int .i64 r17, .int .i64 r18, .int .i64 r19, v19_, .bool r21, .int .i64 r22, .int .i64 r23, v23_, .bool r25, .int .i64 r26, .int .i64 r27, v27_, .int .i64 r29, v29_, v30_, v31_, .int .i64 r33, .int .i64 r34, v34_, .int .i64 r36, .int .i64 r37, v37_, v38_]) ∧ Kd.R (Kd.int .i64) 2 w' w.heap.size (fun k_ => nb v6_ k_ ∧ nb v10_ k_ ∧ nb v14_ k_ ∧ nb v23_ k_ ∧ nb v27_ k_ ∧ nb v29_ k_ ∧ nb v30_ k_ ∧ nb v31_ k_ ∧ nb v34_ k_) v5_ r6 ∧ Kd.R (Kd.int .i64) 2 w' w.heap.size (fun k_ => nb v5_ k_ ∧ nb v10_ k_ ∧ nb v14_ k_ ∧ nb v23_ k_ ∧ nb v27_ k_ ∧ nb v29_ k_ ∧ nb v30_ k_ ∧ nb v31_ k_ ∧ nb v34_ k_) v6_ r7 ∧ Kd.R (Kd.int .i64) 2 w' w.heap.size (fun k_ => nb v5_ k_ ∧ nb v6_ k_ ∧ nb v14_ k_ ∧ nb v23_ k_ ∧ nb v27_ k_ ∧ nb v29_ k_ ∧ nb v30_ k_ ∧ nb v31_ k_ ∧ nb v34_ k_) v10_ r11 ∧ Kd.R (Kd.int .i64) 2 w' w.heap.size (fun k_ => nb v5_ k_ ∧ nb v6_ k_ ∧ nb v10_ k_ ∧ nb v23_ k_ ∧ nb v27_ k_ ∧ nb v29_ k_ ∧ nb v30_ k_ ∧ nb v31_ k_ ∧ nb v34_ k_) v14_ r15 ∧ Kd.S k183 183 w' w.heap.size (fun _ => True) v19_ r20 ∧ Kd.R (Kd.int .i64) 2 w' w.heap.size (fun k_ => nb v5_ k_ ∧ nb v6_ k_ ∧ nb v10_ k_ ∧ nb v14_ k_ ∧ nb v27_ k_ ∧ nb v29_ k_ ∧ nb v30_ k_ ∧ nb v31_ k_ ∧ nb v34_ k_) v23_ r24 ∧ Kd.R (Kd.int .i64) 2 w' w.heap.size (fun k_ => nb v5_ k_ ∧ nb v6_ k_ ∧ nb v10_ k_ ∧ nb v14_ k_ ∧ nb v23_ k_ ∧ nb v29_ k_ ∧ nb v30_ k_ ∧ nb v31_ k_ ∧ nb v34_ k_) v27_ r28 ∧ Kd.R (Kd.int .i64) 2 w' w.heap.size (fun k_ => nb v5_ k_ ∧ nb v6_ k_ ∧ nb v10_ k_ ∧ nb v14_ k_ ∧ nb v23_ k_ ∧ nb v27_ k_ ∧ nb v30_ k_ ∧ nb v31_ k_ ∧ nb v34_ k_) v29_ r30 ∧ Kd.R (Kd.int .i64) 2 w' w.heap.size (fun k_ => nb v5_ k_ ∧ nb v6_ k_ ∧ nb v10_ k_ ∧ nb v14_ k_ ∧ nb v23_ k_ ∧ nb v27_ k_ ∧ nb v29_ k_ ∧ nb v31_ k_ ∧ nb v34_ k_) v30_ r31 ∧ Kd.R (Kd.int .i64) 2 w' w.heap.size (fun k_ => nb v5_ k_ ∧ nb v6_ k_ ∧ nb v10_ k_ ∧ nb v14_ k_ ∧ nb v23_ k_ ∧ nb v27_ k_ ∧ nb v29_ k_ ∧ nb v30_ k_ ∧ nb v34_ k_) v31_ r32 ∧ Kd.R (Kd.int .i64) 2 w' w.heap.size (fun k_ => nb v5_ k_ ∧ nb v6_ k_ ∧ nb v10_ k_ ∧ nb v14_ k_ ∧ nb v23_ k_ ∧ nb v27_ k_ ∧ nb v29_ k_ ∧ nb v30_ k_ ∧ nb v31_ k_) v34_ r35 ∧ Kd.S k186 186 w' w.heap.size (fun _ => True) v37_ r38 ∧ Kd.R k190 190 w' w.heap.size (fun _ => True) v38_ r39 ∧ IsS149 w0 w' g s0_0 r40 ∧ Below w0.heap.size w0 w' ∧ KeepBut w w' g none := by
 have hu133 := Try.underlying133
 have HI0 := aM hI
 have HK := aM (KeepBut.refl w g none)
 have HL := aM hB.size
 clear hI
 have HW0 := aM hB.size
 have HB := aM hB
 clear hB
 have H : ((spec_l1Size.f s0_0 s0_1).bind fun bt490 => ((spec_l1Pick.f s0_0 bt490.2 (([24, 30, 40, 160] : List Int))).bind fun bt495 => ((spec_l1Pick.f s0_0 bt495.2 (([1, 2, 3, 5, 50] : List Int))).bind fun bt500 => ((spec_l1Pick.f s0_0 bt500.2 (([0, 1, 1, 2, 6] : List Int))).bind fun bt505 => ((spec_l20New.f bt490.1 bt495.1 bt500.1 bt505.1).bind fun bt507 => (some (bt507.1, bt507.2.1, bt507.2.2.1, bt507.2.2.2.1, bt507.2.2.2.2.1, bt507.2.2.2.2.2.1, bt507.2.2.2.2.2.2.1, bt507.2.2.2.2.2.2.2.1, bt507.2.2.2.2.2.2.2.2.1, bt507.2.2.2.2.2.2.2.2.2.1, bt507.2.2.2.2.2.2.2.2.2.2.1, bt507.2.2.2.2.2.2.2.2.2.2.2.1, bt507.2.2.2.2.2.2.2.2.2.2.2.2.1, bt507.2.2.2.2.2.2.2.2.2.2.2.2.2.1, bt507.2.2.2.2.2.2.2.2.2.2.2.2.2.2.1, bt507.2.2.2.2.2.2.2.2.2.2.2.2.2.2.2.1, bt507.2.2.2.2.2.2.2.2.2.2.2.2.2.2.2.2.1, bt507.2.2.2.2.2.2.2.2.2.2.2.2.2.2.2.2.2.1, bt507.2.2.2.2.2.2.2.2.2.2.2.2.2.2.2.2.2.2.1, bt507.2.2.2.2.2.2.2.2.2.2.2.2.2.2.2.2.2.2.2.1, bt507.2.2.2.2.2.2.2.2.2.2.2.2.2.2.2.2.2.2.2.2.1, bt507.2.2.2.2.2.2.2.2.2.2.2.2.2.2.2.2.2.2.2.2.2.1, bt507.2.2.2.2.2.2.2.2.2.2.2.2.2.2.2.2.2.2.2.2.2.2.1, bt507.2.2.2.2.2.2.2.2.2.2.2.2.2.2.2.2.2.2.2.2.2.2.2.1, bt507.2.2.2.2.2.2.2.2.2.2.2.2.2.2.2.2.2.2.2.2.2.2.2.2.1, bt507.2.2.2.2.2.2.2.2.2.2.2.2.2.2.2.2.2.2.2.2.2.2.2.2.2.1, bt507.2.2.2.2.2.2.2.2.2.2.2.2.2.2.2.2.2.2.2.2.2.2.2.2.2.2.1, bt507.2.2.2.2.2.2.2.2.2.2.2.2.2.2.2.2.2.2.2.2.2.2.2.2.2.2.2.1, bt507.2.2.2.2.2.2.2.2.2.2.2.2.2.2.2.2.2.2.2.2.2.2.2.2.2.2.2.2.1, bt507.2.2.2.2.2.2.2.2.2.2.2.2.2.2.2.2.2.2.2.2.2.2.2.2.2.2.2.2.2.1, bt507.2.2.2.2.2.2.2.2.2.2.2.2.2.2.2.2.2.2.2.2.2.2.2.2.2.2.2.2.2.2.1, bt507.2.2.2.2.2.2.2.2.2.2.2.2.2.2.2.2.2.2.2.2.2.2.2.2.2.2.2.2.2.2.2.1, bt507.2.2.2.2.2.2.2.2.2.2.2.2.2.2.2.2.2.2.2.2.2.2.2.2.2.2.2.2.2.2.2.2.1, bt507.2.2.2.2.2.2.2.2.2.2.2.2.2.2.2.2.2.2.2.2.2.2.2.2.2.2.2.2.2.2.2.2.2.1, bt507.2.2.2.2.2.2.2.2.2.2.2.2.2.2.2.2.2.2.2.2.2.2.2.2.2.2.2.2.2.2.2.2.2.2.1, bt507.2.2.2.2.2.2.2.2.2.2.2.2.2.2.2.2.2.2.2.2.2.2.2.2.2.2.2.2.2.2.2.2.2.2.2.1, bt507.2.2.2.2.2.2.2.2.2.2.2.2.2.2.2.2.2.2.2.2.2.2.2.2.2.2.2.2.2.2.2.2.2.2.2.2.1, bt507.2.2.2.2.2.2.2.2.2.2.2.2.2.2.2.2.2.2.2.2.2.2.2.2.2.2.2.2.2.2.2.2.2.2.2.2.2.1, bt507.2.2.2.2.2.2.2.2.2.2.2.2.2.2.2.2.2.2.2.2.2.2.2.2.2.2.2.2.2.2.2.2.2.2.2.2.2.2, bt505.2))))))) = some (r1, r2, r3, r4, r5, r6, r7, r8, r9, r10, r11, r12, r13, r14, r15, r16, r17, r18, r19, r20, r21, r22, r23, r24, r25, r26, r27, r28, r29, r30, r31, r32, r33, r34, r35, r36, r37, r38, r39, r40) := h
 clear h
 replace H := bo H
 obtain ⟨⟨t490, t491⟩, A2, H⟩ := H
 replace H := bz H
 obtain ⟨y492, hy492⟩ : ∃ y_ : List Int, y_ = (([24, 30, 40, 160] : List Int)) := ⟨_, rfl⟩
 replace H : ((spec_l1Pick.f s0_0 t491 y492).bind fun bt495 => ((spec_l1Pick.f s0_0 bt495.2 (([1, 2, 3, 5, 50] : List Int))).bind fun bt500 => ((spec_l1Pick.f s0_0 bt500.2 (([0, 1, 1, 2, 6] : List Int))).bind fun bt505 => ((spec_l20New.f t490 bt495.1 bt500.1 bt505.1).bind fun bt507 => (some (bt507.1, bt507.2.1, bt507.2.2.1, bt507.2.2.2.1, bt507.2.2.2.2.1, bt507.2.2.2.2.2.1, bt507.2.2.2.2.2.2.1, bt507.2.2.2.2.2.2.2.1, bt507.2.2.2.2.2.2.2.2.1, bt507.2.2.2.2.2.2.2.2.2.1, bt507.2.2.2.2.2.2.2.2.2.2.1, bt507.2.2.2.2.2.2.2.2.2.2.2.1, bt507.2.2.2.2.2.2.2.2.2.2.2.2.1, bt507.2.2.2.2.2.2.2.2.2.2.2.2.2.1, bt507.2.2.2.2.2.2.2.2.2.2.2.2.2.2.1, bt507.2.2.2.2.2.2.2.2.2.2.2.2.2.2.2.1, bt507.2.2.2.2.2.2.2.2.2.2.2.2.2.2.2.2.1, bt507.2.2.2.2.2.2.2.2.2.2.2.2.2.2.2.2.2.1, bt507.2.2.2.2.2.2.2.2.2.2.2.2.2.2.2.2.2.2.1, bt507.2.2.2.2.2.2.2.2.2.2.2.2.2.2.2.2.2.2.2.1, bt507.2.2.2.2.2.2.2.2.2.2.2.2.2.2.2.2.2.2.2.2.1, bt507.2.2.2.2.2.2.2.2.2.2.2.2.2.2.2.2.2.2.2.2.2.1, bt507.2.2.2.2.2.2.2.2.2.2.2.2.2.2.2.2.2.2.2.2.2.2.1, bt507.2.2.2.2.2.2.2.2.2.2.2.2.2.2.2.2.2.2.2.2.2.2.2.1, bt507.2.2.2.2.2.2.2.2.2.2.2.2.2.2.2.2.2.2.2.2.2.2.2.2.1, bt507.2.2.2.2.2.2.2.2.2.2.2.2.2.2.2.2.2.2.2.2.2.2.2.2.2.1, bt507.2.2.2.2.2.2.2.2.2.2.2.2.2.2.2.2.2.2.2.2.2.2.2.2.2.2.1, bt507.2.2.2.2.2.2.2.2.2.2.2.2.2.2.2.2.2.2.2.2.2.2.2.2.2.2.2.1, bt507.2.2.2.2.2.2.2.2.2.2.2.2.2.2.2.2.2.2.2.2.2.2.2.2.2.2.2.2.1, bt507.2.2.2.2.2.2.2.2.2.2.2.2.2.2.2.2.2.2.2.2.2.2.2.2.2.2.2.2.2.1, bt507.2.2.2.2.2.2.2.2.2.2.2.2.2.2.2.2.2.2.2.2.2.2.2.2.2.2.2.2.2.2.1, bt507.2.2.2.2.2.2.2.2.2.2.2.2.2.2.2.2.2.2.2.2.2.2.2.2.2.2.2.2.2.2.2.1, bt507.2.2.2.2.2.2.2.2.2.2.2.2.2.2.2.2.2.2.2.2.2.2.2.2.2.2.2.2.2.2.2.2.1, bt507.2.2.2.2.2.2.2.2.2.2.2.2.2.2.2.2.2.2.2.2.2.2.2.2.2.2.2.2.2.2.2.2.2.1, bt507.2.2.2.2.2.2.2.2.2.2.2.2.2.2.2.2.2.2.2.2.2.2.2.2.2.2.2.2.2.2.2.2.2.2.1, bt507.2.2.2.2.2.2.2.2.2.2.2.2.2.2.2.2.2.2.2.2.2.2.2.2.2.2.2.2.2.2.2.2.2.2.2.1, bt507.2.2.2.2.2.2.2.2.2.2.2.2.2.2.2.2.2.2.2.2.2.2.2.2.2.2.2.2.2.2.2.2.2.2.2.2.1, bt507.2.2.2.2.2.2.2.2.2.2.2.2.2.2.2.2.2.2.2.2.2.2.2.2.2.2.2.2.2.2.2.2.2.2.2.2.2.1, bt507.2.2.2.2.2.2.2.2.2.2.2.2.2.2.2.2.2.2.2.2.2.2.2.2.2.2.2.2.2.2.2.2.2.2.2.2.2.2, bt505.2)))))) = some (r1, r2, r3, r4, r5, r6, r7, r8, r9, r10, r11, r12, r13, r14, r15, r16, r17, r18, r19, r20, r21, r22, r23, r24, r25, r26, r27, r28, r29, r30, r31, r32, r33, r34, r35, r36, r37, r38, r39, r40) := hl hy492 H
 have Ny492 := aM hy492
 clear hy492
 replace H := bo H
 obtain ⟨⟨t495, t496⟩, A3, H⟩ := H
 replace H := bz H
 obtain ⟨y497, hy497⟩ : ∃ y_ : List Int, y_ = (([1, 2, 3, 5, 50] : List Int)) := ⟨_, rfl⟩
 replace H : ((spec_l1Pick.f s0_0 t496 y497).bind fun bt500 => ((spec_l1Pick.f s0_0 bt500.2 (([0, 1, 1, 2, 6] : List Int))).bind fun bt505 => ((spec_l20New.f t490 t495 bt500.1 bt505.1).bind fun bt507 => (some (bt507.1, bt507.2.1, bt507.2.2.1, bt507.2.2.2.1, bt507.2.2.2.2.1, bt507.2.2.2.2.2.1, bt507.2.2.2.2.2.2.1, bt507.2.2.2.2.2.2.2.1, bt507.2.2.2.2.2.2.2.2.1, bt507.2.2.2.2.2.2.2.2.2.1, bt507.2.2.2.2.2.2.2.2.2.2.1, bt507.2.2.2.2.2.2.2.2.2.2.2.1, bt507.2.2.2.2.2.2.2.2.2.2.2.2.1, bt507.2.2.2.2.2.2.2.2.2.2.2.2.2.1, bt507.2.2.2.2.2.2.2.2.2.2.2.2.2.2.1, bt507.2.2.2.2.2.2.2.2.2.2.2.2.2.2.2.1, bt507.2.2.2.2.2.2.2.2.2.2.2.2.2.2.2.2.1, bt507.2.2.2.2.2.2.2.2.2.2.2.2.2.2.2.2.2.1, bt507.2.2.2.2.2.2.2.2.2.2.2.2.2.2.2.2.2.2.1, bt507.2.2.2.2.2.2.2.2.2.2.2.2.2.2.2.2.2.2.2.1, bt507.2.2.2.2.2.2.2.2.2.2.2.2.2.2.2.2.2.2.2.2.1, bt507.2.2.2.2.2.2.2.2.2.2.2.2.2.2.2.2.2.2.2.2.2.1, bt507.2.2.2.2.2.2.2.2.2.2.2.2.2.2.2.2.2.2.2.2.2.2.1, bt507.2.2.2.2.2.2.2.2.2.2.2.2.2.2.2.2.2.2.2.2.2.2.2.1, bt507.2.2.2.2.2.2.2.2.2.2.2.2.2.2.2.2.2.2.2.2.2.2.2.2.1, bt507.2.2.2.2.2.2.2.2.2.2.2.2.2.2.2.2.2.2.2.2.2.2.2.2.2.1, bt507.2.2.2.2.2.2.2.2.2.2.2.2.2.2.2.2.2.2.2.2.2.2.2.2.2.2.1, bt507.2.2.2.2.2.2.2.2.2.2.2.2.2.2.2.2.2.2.2.2.2.2.2.2.2.2.2.1, bt507.2.2.2.2.2.2.2.2.2.2.2.2.2.2.2.2.2.2.2.2.2.2.2.2.2.2.2.2.1, bt507.2.2.2.2.2.2.2.2.2.2.2.2.2.2.2.2.2.2.2.2.2.2.2.2.2.2.2.2.2.1, bt507.2.2.2.2.2.2.2.2.2.2.2.2.2.2.2.2.2.2.2.2.2.2.2.2.2.2.2.2.2.2.1, bt507.2.2.2.2.2.2.2.2.2.2.2.2.2.2.2.2.2.2.2.2.2.2.2.2.2.2.2.2.2.2.2.1, bt507.2.2.2.2.2.2.2.2.2.2.2.2.2.2.2.2.2.2.2.2.2.2.2.2.2.2.2.2.2.2.2.2.1, bt507.2.2.2.2.2.2.2.2.2.2.2.2.2.2.2.2.2.2.2.2.2.2.2.2.2.2.2.2.2.2.2.2.2.1, bt507.2.2.2.2.2.2.2.2.2.2.2.2.2.2.2.2.2.2.2.2.2.2.2.2.2.2.2.2.2.2.2.2.2.2.1, bt507.2.2.2.2.2.2.2.2.2.2.2.2.2.2.2.2.2.2.2.2.2.2.2.2.2.2.2.2.2.2.2.2.2.2.2.1, bt507.2.2.2.2.2.2.2.2.2.2.2.2.2.2.2.2.2.2.2.2.2.2.2.2.2.2.2.2.2.2.2.2.2.2.2.2.1, bt507.2.2.2.2.2.2.2.2.2.2.2.2.2.2.2.2.2.2.2.2.2.2.2.2.2.2.2.2.2.2.2.2.2.2.2.2.2.1, bt507.2.2.2.2.2.2.2.2.2.2.2.2.2.2.2.2.2.2.2.2.2.2.2.2.2.2.2.2.2.2.2.2.2.2.2.2.2.2, bt505.2))))) = some (r1, r2, r3, r4, r5, r6, r7, r8, r9, r10, r11, r12, r13, r14, r15, r16, r17, r18, r19, r20, r21, r22, r23, r24, r25, r26, r27, r28, r29, r30, r31, r32, r33, r34, r35, r36, r37, r38, r39, r40) := hl hy497 H
 have Ny497 := aM hy497
 clear hy497
 replace H := bo H
 obtain ⟨⟨t500, t501⟩, A4, H⟩ := H
 replace H := bz H
 obtain ⟨y502, hy502⟩ : ∃ y_ : List Int, y_ = (([0, 1, 1, 2, 6] : List Int)) := ⟨_, rfl⟩
 replace H : ((spec_l1Pick.f s0_0 t501 y502).bind fun bt505 => ((spec_l20New.f t490 t495 t500 bt505.1).bind fun bt507 => (some (bt507.1, bt507.2.1, bt507.2.2.1, bt507.2.2.2.1, bt507.2.2.2.2.1, bt507.2.2.2.2.2.1, bt507.2.2.2.2.2.2.1, bt507.2.2.2.2.2.2.2.1, bt507.2.2.2.2.2.2.2.2.1, bt507.2.2.2.2.2.2.2.2.2.1, bt507.2.2.2.2.2.2.2.2.2.2.1, bt507.2.2.2.2.2.2.2.2.2.2.2.1, bt507.2.2.2.2.2.2.2.2.2.2.2.2.1, bt507.2.2.2.2.2.2.2.2.2.2.2.2.2.1, bt507.2.2.2.2.2.2.2.2.2.2.2.2.2.2.1, bt507.2.2.2.2.2.2.2.2.2.2.2.2.2.2.2.1, bt507.2.2.2.2.2.2.2.2.2.2.2.2.2.2.2.2.1, bt507.2.2.2.2.2.2.2.2.2.2.2.2.2.2.2.2.2.1, bt507.2.2.2.2.2.2.2.2.2.2.2.2.2.2.2.2.2.2.1, bt507.2.2.2.2.2.2.2.2.2.2.2.2.2.2.2.2.2.2.2.1, bt507.2.2.2.2.2.2.2.2.2.2.2.2.2.2.2.2.2.2.2.2.1, bt507.2.2.2.2.2.2.2.2.2.2.2.2.2.2.2.2.2.2.2.2.2.1, bt507.2.2.2.2.2.2.2.2.2.2.2.2.2.2.2.2.2.2.2.2.2.2.1, bt507.2.2.2.2.2.2.2.2.2.2.2.2.2.2.2.2.2.2.2.2.2.2.2.1, bt507.2.2.2.2.2.2.2.2.2.2.2.2.2.2.2.2.2.2.2.2.2.2.2.2.1, bt507.2.2.2.2.2.2.2.2.2.2.2.2.2.2.2.2.2.2.2.2.2.2.2.2.2.1, bt507.2.2.2.2.2.2.2.2.2.2.2.2.2.2.2.2.2.2.2.2.2.2.2.2.2.2.1, bt507.2.2.2.2.2.2.2.2.2.2.2.2.2.2.2.2.2.2.2.2.2.2.2.2.2.2.2.1, bt507.2.2.2.2.2.2.2.2.2.2.2.2.2.2.2.2.2.2.2.2.2.2.2.2.2.2.2.2.1, bt507.2.2.2.2.2.2.2.2.2.2.2.2.2.2.2.2.2.2.2.2.2.2.2.2.2.2.2.2.2.1, bt507.2.2.2.2.2.2.2.2.2.2.2.2.2.2.2.2.2.2.2.2.2.2.2.2.2.2.2.2.2.2.1, bt507.2.2.2.2.2.2.2.2.2.2.2.2.2.2.2.2.2.2.2.2.2.2.2.2.2.2.2.2.2.2.2.1, bt507.2.2.2.2.2.2.2.2.2.2.2.2.2.2.2.2.2.2.2.2.2.2.2.2.2.2.2.2.2.2.2.2.1, bt507.2.2.2.2.2.2.2.2.2.2.2.2.2.2.2.2.2.2.2.2.2.2.2.2.2.2.2.2.2.2.2.2.2.1, bt507.2.2.2.2.2.2.2.2.2.2.2.2.2.2.2.2.2.2.2.2.2.2.2.2.2.2.2.2.2.2.2.2.2.2.1, bt507.2.2.2.2.2.2.2.2.2.2.2.2.2.2.2.2.2.2.2.2.2.2.2.2.2.2.2.2.2.2.2.2.2.2.2.1, bt507.2.2.2.2.2.2.2.2.2.2.2.2.2.2.2.2.2.2.2.2.2.2.2.2.2.2.2.2.2.2.2.2.2.2.2.2.1, bt507.2.2.2.2.2.2.2.2.2.2.2.2.2.2.2.2.2.2.2.2.2.2.2.2.2.2.2.2.2.2.2.2.2.2.2.2.2.1, bt507.2.2.2.2.2.2.2.2.2.2.2.2.2.2.2.2.2.2.2.2.2.2.2.2.2.2.2.2.2.2.2.2.2.2.2.2.2.2, bt505.2)))) = some (r1, r2, r3, r4, r5, r6, r7, r8, r9, r10, r11, r12, r13, r14, r15, r16, r17, r18, r19, r20, r21, r22, r23, r24, r25, r26, r27, r28, r29, r30, r31, r32, r33, r34, r35, r36, r37, r38, r39, r40) := hl hy502 H
 have Ny502 := aM hy502
 clear hy502
 replace H := bo H
 obtain ⟨⟨t505, t506⟩, A5, H⟩ := H
 replace H := bz H
 replace H := bo H
 obtain ⟨⟨t507, t508, t509, t510, t511, t512, t515, t518, t519, t520, t521, t524, t525, t526, t527, t530, t531, t532, t533, t534, t537, t538, t539, t540, t543, t544, t545, t546, t549, t550, t553, t556, t559, t560, t561, t564, t565, t566, t569⟩, A6, H⟩ := H
 replace H := bz H
 simp only [Option.some.injEq, Prod.mk.injEq] at H
 obtain ⟨rfl, rfl, rfl, rfl, rfl, rfl, rfl, rfl, rfl, rfl, rfl, rfl, rfl, rfl, rfl, rfl, rfl, rfl, rfl, rfl, rfl, rfl, rfl, rfl, rfl, rfl, rfl, rfl, rfl, rfl, rfl, rfl, rfl, rfl, rfl, rfl, rfl, rfl, rfl, rfl⟩ := H
 go_enter Try.func98, Try.ntmps98
 go_wp2_with (first | ((with_reducible refine gate_dst (N := 2) rfl ?_); refine box_event ?hg (N := 2) ?hd (cs := #[.int .i64 0, .int .i64 0, .int .i64 0, .int .i64 0, .int .i64 0, .slice none 0 0, .slice none 0 0, .bool false, .int .i64 0, .int .i64 0, .slice none 0 0, .bool false, .int .i64 0, .int .i64 0, .slice none 0 0, .int .i64 0, .int .i64 0, .int .i64 0, .int .i64 0, .slice none 0 0, .bool false, .int .i64 0, .int .i64 0, .slice none 0 0, .bool false, .int .i64 0, .int .i64 0, .slice none 0 0, .int .i64 0, .slice none 0 0, .slice none 0 0, .slice none 0 0, .int .i64 0, .int .i64 0, .slice none 0 0, .int .i64 0, .int .i64 0, .slice none 0 0, .slice none 0 0]) (t := 133) ?hr ?_; (case hd => rfl); (case hg => rfl); (case hr => first | (go_simp; done) | (go_simp; rfl)); intro gb489 hg w7 hbox hb; replace HB := aM (bT bq hb); have BK489 := aM (hbox); have GW489 := aM ((by rw [hg]; exact (keep_size (w := w) (g := g) (row := none) hq) : w.heap.size ≤ gb489)); have GE489 := aM ((Nat.le_trans HW0.out (by rw [hg]; exact (keep_size (w := w) (g := g) (row := none) hq) : w.heap.size ≤ gb489) : w0.heap.size ≤ gb489)); replace HK := aM (KeepBut.trans hq (KeepBut.of_below hb g none) (.inl rfl)); have NB0_489 := aM ((by rw [hg]; exact Nat.ne_of_lt (IsS149.lt (show IsS149 w0 _ g s0_0 s0_1 from sq HI0.out)) : g ≠ gb489)); have NB489_0 := aM ((by rw [hg]; exact Nat.ne_of_gt (IsS149.lt (show IsS149 w0 _ g s0_0 s0_1 from sq HI0.out)) : gb489 ≠ g)); replace HI0 := aM (IsS149.below (sq HI0.out) hb); clear hb hbox hg) | ((with_reducible refine gate_callee (f := 133) rfl ?_); refine goesL_ (some 4) rfl rfl Try.func133 kr rfl #[.pointer (some ⟨g, 0, none⟩)] rfl mq ?_; (with_reducible refine (spec_l1Size.calls g s0_0 s0_1 t490 t491 w0 _ ?side1 ?side2 A2.out).mono ?_); (case side1 => exact sq HI0.out); (case side2 => exact bq); rintro e w8 ⟨rfl, hi, hb, hk⟩; refine ⟨_, rfl, ?_⟩; replace BK489 := aM (KeepBut.blk hk (kq BK489.out) NB489_0.out (by simp)); replace HK := aM (KeepBut.trans hq hk (.inl rfl)); replace HB := aM (hb); replace HI0 := aM (hi); (try clear hb)) | ((with_reducible refine gate_dst (N := 6) rfl ?_); refine Kd.R_lit (Kd.int .i64) _ 2 ?hg (N := 6) ?hd (xs := ([24, 30, 40, 160] : List Int)) (inner := [.int .i64 24, .int .i64 30, .int .i64 40, .int .i64 160]) (ok := fun _ => True) (okp := fun _ => True) ?hr ?hp (fun _ hk => hk) trivial (Below.refl _ _) (Nat.le_refl _) (by simp) ?_; (case hd => rfl); (case hg => rfl); (case hr => first | (go_simp; done) | (go_simp; rfl)); (case hp => exact (Reps.one (show Kd.M (Kd.int .i64) _ _ _ 24 [.int .i64 24] from rfl) (Reps.one (show Kd.M (Kd.int .i64) _ _ _ 30 [.int .i64 30] from rfl) (Reps.one (show Kd.M (Kd.int .i64) _ _ _ 40 [.int .i64 40] from rfl) (Reps.one (show Kd.M (Kd.int .i64) _ _ _ 160 [.int .i64 160] from rfl) (Reps.none _ _)))))); intro v493 w9 ho10 hb hg_ hnew_; clear hg_ hnew_; (first | rw [← Ny492.out] at ho10 | (simp only [Int.reduceToNat] at ho10; rw [← Ny492.out] at ho10)); have HO494 := aM (rG ho10 (keep_size (w := w) (g := g) (row := none) hq)); replace BK489 := aM (kB (kq BK489.out) hb); replace HK := aM (KeepBut.trans hq (KeepBut.of_below hb g none) (.inl rfl)); replace HB := aM (bT bq hb); replace HI0 := aM (IsS149.below (sq HI0.out) hb); clear hb ho10; obtain ⟨Ao11, co11, eo11⟩ := Kd.R_slice HO494.out; subst eo11) | ((with_reducible refine gate_callee (f := 86) rfl ?_); refine goesL_ (some 7) rfl rfl Try.func86 kr rfl #[.pointer (some ⟨g, 0, none⟩), .slice Ao11 y492.length co11] rfl mq ?_; (with_reducible refine (spec_l1Pick.calls g s0_0 t491 _ _ y492 t495 t496 w0 _ ?side1 ?side2 ?side3 ?side4 ?side5 A3.out).mono ?_); (case side1 => exact sq HI0.out); (case side2 => exact bq); (case side3 => exact cq (rR HO494.out).2.2); (case side4 => exact (rR HO494.out).2.1); (case side5 => exact far_slice (IsS149.own_ne HI0.out HO494.out (by decide))); rintro e w12 ⟨rfl, hi, hb, hk⟩; refine ⟨_, rfl, ?_⟩; replace BK489 := aM (KeepBut.blk hk (kq BK489.out) NB489_0.out (by simp)); replace HO494 := aM (rM (Kd.R_keep (IsS149.apart (show IsS149 w0 _ g s0_0 t491 from sq HI0.out) (rq HO494.out) (by decide)) hk (fun _ h => h.2)) (fun _ h => h.1)); replace HK := aM (KeepBut.trans hq hk (.inl rfl)); replace HB := aM (hb); replace HI0 := aM (hi); (try clear hb)) | ((with_reducible refine gate_dst (N := 9) rfl ?_); refine Kd.R_lit (Kd.int .i64) _ 2 ?hg (N := 9) ?hd (xs := ([1, 2, 3, 5, 50] : List Int)) (inner := [.int .i64 1, .int .i64 2, .int .i64 3, .int .i64 5, .int .i64 50]) (ok := fun _ => True) (okp := fun _ => True) ?hr ?hp (fun _ hk => hk) trivial (Below.refl _ _) (Nat.le_refl _) (by simp) ?_; (case hd => rfl); (case hg => rfl); (case hr => first | (go_simp; done) | (go_simp; rfl)); (case hp => exact (Reps.one (show Kd.M (Kd.int .i64) _ _ _ 1 [.int .i64 1] from rfl) (Reps.one (show Kd.M (Kd.int .i64) _ _ _ 2 [.int .i64 2] from rfl) (Reps.one (show Kd.M (Kd.int .i64) _ _ _ 3 [.int .i64 3] from rfl) (Reps.one (show Kd.M (Kd.int .i64) _ _ _ 5 [.int .i64 5] from rfl) (Reps.one (show Kd.M (Kd.int .i64) _ _ _ 50 [.int .i64 50] from rfl) (Reps.none _ _))))))); intro v498 w13 ho14 hb hg_ hnew_; clear hg_ hnew_; (first | rw [← Ny497.out] at ho14 | (simp only [Int.reduceToNat] at ho14; rw [← Ny497.out] at ho14)); have HO499 := aM (rG (rW ho14 (rT (rq HO494.out))) (keep_size (w := w) (g := g) (row := none) hq)); replace HO494 := aM (rH (rq HO494.out) (rB ho14) hb); replace BK489 := aM (kB (kq BK489.out) hb); replace HK := aM (KeepBut.trans hq (KeepBut.of_below hb g none) (.inl rfl)); replace HB := aM (bT bq hb); replace HI0 := aM (IsS149.below (sq HI0.out) hb); clear hb ho14; obtain ⟨Ao15, co15, eo15⟩ := Kd.R_slice HO499.out; subst eo15) | ((with_reducible refine gate_callee (f := 86) rfl ?_); refine goesL_ (some 10) rfl rfl Try.func86 kr rfl #[.pointer (some ⟨g, 0, none⟩), .slice Ao15 y497.length co15] rfl mq ?_; (with_reducible refine (spec_l1Pick.calls g s0_0 t496 _ _ y497 t500 t501 w0 _ ?side1 ?side2 ?side3 ?side4 ?side5 A4.out).mono ?_); (case side1 => exact sq HI0.out); (case side2 => exact bq); (case side3 => exact cq (rR HO499.out).2.2); (case side4 => exact (rR HO499.out).2.1); (case side5 => exact far_slice (IsS149.own_ne HI0.out HO499.out (by decide))); rintro e w16 ⟨rfl, hi, hb, hk⟩; refine ⟨_, rfl, ?_⟩; replace BK489 := aM (KeepBut.blk hk (kq BK489.out) NB489_0.out (by simp)); replace HO494 := aM (rM (Kd.R_keep (IsS149.apart (show IsS149 w0 _ g s0_0 t496 from sq HI0.out) (rq HO494.out) (by decide)) hk (fun _ h => h.2)) (fun _ h => h.1)); replace HO499 := aM (rM (Kd.R_keep (IsS149.apart (show IsS149 w0 _ g s0_0 t496 from sq HI0.out) (rq HO499.out) (by decide)) hk (fun _ h => h.2)) (fun _ h => h.1)); replace HK := aM (KeepBut.trans hq hk (.inl rfl)); replace HB := aM (hb); replace HI0 := aM (hi); (try clear hb)) | ((with_reducible refine gate_dst (N := 12) rfl ?_); refine Kd.R_lit (Kd.int .i64) _ 2 ?hg (N := 12) ?hd (xs := ([0, 1, 1, 2, 6] : List Int)) (inner := [.int .i64 0, .int .i64 1, .int .i64 1, .int .i64 2, .int .i64 6]) (ok := fun _ => True) (okp := fun _ => True) ?hr ?hp (fun _ hk => hk) trivial (Below.refl _ _) (Nat.le_refl _) (by simp) ?_; (case hd => rfl); (case hg => rfl); (case hr => first | (go_simp; done) | (go_simp; rfl)); (case hp => exact (Reps.one (show Kd.M (Kd.int .i64) _ _ _ 0 [.int .i64 0] from rfl) (Reps.one (show Kd.M (Kd.int .i64) _ _ _ 1 [.int .i64 1] from rfl) (Reps.one (show Kd.M (Kd.int .i64) _ _ _ 1 [.int .i64 1] from rfl) (Reps.one (show Kd.M (Kd.int .i64) _ _ _ 2 [.int .i64 2] from rfl) (Reps.one (show Kd.M (Kd.int .i64) _ _ _ 6 [.int .i64 6] from rfl) (Reps.none _ _))))))); intro v503 w17 ho18 hb hg_ hnew_; clear hg_ hnew_; (first | rw [← Ny502.out] at ho18 | (simp only [Int.reduceToNat] at ho18; rw [← Ny502.out] at ho18)); have HO504 := aM (rG (rW (rW ho18 (rT (rq HO494.out))) (rT (rq HO499.out))) (keep_size (w := w) (g := g) (row := none) hq)); replace HO494 := aM (rH (rq HO494.out) (rB ho18) hb); replace HO499 := aM (rH (rq HO499.out) (rB ho18) hb); replace BK489 := aM (kB (kq BK489.out) hb); replace HK := aM (KeepBut.trans hq (KeepBut.of_below hb g none) (.inl rfl)); replace HB := aM (bT bq hb); replace HI0 := aM (IsS149.below (sq HI0.out) hb); clear hb ho18; obtain ⟨Ao19, co19, eo19⟩ := Kd.R_slice HO504.out; subst eo19) | ((with_reducible refine gate_callee (f := 86) rfl ?_); refine goesL_ (some 13) rfl rfl Try.func86 kr rfl #[.pointer (some ⟨g, 0, none⟩), .slice Ao19 y502.length co19] rfl mq ?_; (with_reducible refine (spec_l1Pick.calls g s0_0 t501 _ _ y502 t505 t506 w0 _ ?side1 ?side2 ?side3 ?side4 ?side5 A5.out).mono ?_); (case side1 => exact sq HI0.out); (case side2 => exact bq); (case side3 => exact cq (rR HO504.out).2.2); (case side4 => exact (rR HO504.out).2.1); (case side5 => exact far_slice (IsS149.own_ne HI0.out HO504.out (by decide))); rintro e w20 ⟨rfl, hi, hb, hk⟩; refine ⟨_, rfl, ?_⟩; replace BK489 := aM (KeepBut.blk hk (kq BK489.out) NB489_0.out (by simp)); replace HO494 := aM (rM (Kd.R_keep (IsS149.apart (show IsS149 w0 _ g s0_0 t501 from sq HI0.out) (rq HO494.out) (by decide)) hk (fun _ h => h.2)) (fun _ h => h.1)); replace HO499 := aM (rM (Kd.R_keep (IsS149.apart (show IsS149 w0 _ g s0_0 t501 from sq HI0.out) (rq HO499.out) (by decide)) hk (fun _ h => h.2)) (fun _ h => h.1)); replace HO504 := aM (rM (Kd.R_keep (IsS149.apart (show IsS149 w0 _ g s0_0 t501 from sq HI0.out) (rq HO504.out) (by decide)) hk (fun _ h => h.2)) (fun _ h => h.1)); replace HK := aM (KeepBut.trans hq hk (.inl rfl)); replace HB := aM (hb); replace HI0 := aM (hi); (try clear hb)) | ((with_reducible refine gate_callee (f := 132) rfl ?_); refine goesL_ (some 14) rfl rfl Try.func132 kr rfl #[.int .i64 t490, .int .i64 t495, .int .i64 t500, .int .i64 t505] rfl mq ?_; (with_reducible refine (spec_l20New.calls t490 t495 t500 t505 t507 t508 t509 t510 t511 t512 t515 t518 t519 t520 t521 t524 t525 t526 t527 t530 t531 t532 t533 t534 t537 t538 t539 t540 t543 t544 t545 t546 t549 t550 t553 t556 t559 t560 t561 t564 t565 t566 t569 _ A6.out).mono ?_); rintro e w21 ⟨v513, v516, v522, v528, v535, v541, v547, v551, v554, v557, v562, v567, v570, rfl, ho0, ho1, ho2, ho3, ho4, ho5, ho6, ho7, ho8, ho9, ho10, ho11, ho12, hb⟩; refine ⟨_, rfl, ?_⟩; have HO514 := aM (rG (rW (rW (rW ho0 (rT (rq HO494.out))) (rT (rq HO499.out))) (rT (rq HO504.out))) (keep_size (w := w) (g := g) (row := none) hq)); have HO517 := aM (rG (rW (rW (rW ho1 (rT (rq HO494.out))) (rT (rq HO499.out))) (rT (rq HO504.out))) (keep_size (w := w) (g := g) (row := none) hq)); have HO523 := aM (rG (rW (rW (rW ho2 (rT (rq HO494.out))) (rT (rq HO499.out))) (rT (rq HO504.out))) (keep_size (w := w) (g := g) (row := none) hq)); have HO529 := aM (rG (rW (rW (rW ho3 (rT (rq HO494.out))) (rT (rq HO499.out))) (rT (rq HO504.out))) (keep_size (w := w) (g := g) (row := none) hq)); have HO536 := aM (Kd.S_lower ho4 (keep_size (w := w) (g := g) (row := none) hq)); have HO542 := aM (rG (rW (rW (rW ho5 (rT (rq HO494.out))) (rT (rq HO499.out))) (rT (rq HO504.out))) (keep_size (w := w) (g := g) (row := none) hq)); have HO548 := aM (rG (rW (rW (rW ho6 (rT (rq HO494.out))) (rT (rq HO499.out))) (rT (rq HO504.out))) (keep_size (w := w) (g := g) (row := none) hq)); have HO552 := aM (rG (rW (rW (rW ho7 (rT (rq HO494.out))) (rT (rq HO499.out))) (rT (rq HO504.out))) (keep_size (w := w) (g := g) (row := none) hq)); have HO555 := aM (rG (rW (rW (rW ho8 (rT (rq HO494.out))) (rT (rq HO499.out))) (rT (rq HO504.out))) (keep_size (w := w) (g := g) (row := none) hq)); have HO558 := aM (rG (rW (rW (rW ho9 (rT (rq HO494.out))) (rT (rq HO499.out))) (rT (rq HO504.out))) (keep_size (w := w) (g := g) (row := none) hq)); have HO563 := aM (rG (rW (rW (rW ho10 (rT (rq HO494.out))) (rT (rq HO499.out))) (rT (rq HO504.out))) (keep_size (w := w) (g := g) (row := none) hq)); replace HO494 := aM (rM (rO (rO (rO (rO (rO (rO (rO (rO (rO (rO (rE (rq HO494.out) hb) (rB ho0)) (rB ho1)) (rB ho2)) (rB ho3)) (rB ho5)) (rB ho6)) (rB ho7)) (rB ho8)) (rB ho9)) (rB ho10)) (fun _ h_ => h_.1)); replace HO499 := aM (rM (rO (rO (rO (rO (rO (rO (rO (rO (rO (rO (rE (rq HO499.out) hb) (rB ho0)) (rB ho1)) (rB ho2)) (rB ho3)) (rB ho5)) (rB ho6)) (rB ho7)) (rB ho8)) (rB ho9)) (rB ho10)) (fun _ h_ => h_.1)); replace HO504 := aM (rM (rO (rO (rO (rO (rO (rO (rO (rO (rO (rO (rE (rq HO504.out) hb) (rB ho0)) (rB ho1)) (rB ho2)) (rB ho3)) (rB ho5)) (rB ho6)) (rB ho7)) (rB ho8)) (rB ho9)) (rB ho10)) (fun _ h_ => h_.1)); have HO568 := aM (Kd.S_lower ho11 (keep_size (w := w) (g := g) (row := none) hq)); have HO571 := aM (rG ho12 (keep_size (w := w) (g := g) (row := none) hq)); replace BK489 := aM (kB (kq BK489.out) hb); replace HK := aM (KeepBut.trans hq (KeepBut.of_below hb g none) (.inl rfl)); replace HB := aM (bT bq hb); replace HI0 := aM (IsS149.below (sq HI0.out) hb); (try clear hb); (try clear ho0); (try clear ho1); (try clear ho2); (try clear ho3); (try clear ho4); (try clear ho5); (try clear ho6); (try clear ho7); (try clear ho8); (try clear ho9); (try clear ho10); (try clear ho11); (try clear ho12); have hnb22 := NB489_0.out; have hnc22 := NB0_489.out; obtain ⟨Ao24, co24, eo24⟩ := Kd.R_slice HO514.out; subst eo24; obtain ⟨Ao25, co25, eo25⟩ := Kd.R_slice HO517.out; subst eo25; obtain ⟨Ao26, co26, eo26⟩ := Kd.R_slice HO523.out; subst eo26; obtain ⟨Ao27, co27, eo27⟩ := Kd.R_slice HO529.out; subst eo27; obtain ⟨Ao28, co28, eo28⟩ := Kd.S_slice HO536.out; subst eo28; obtain ⟨Ao29, co29, eo29⟩ := Kd.R_slice HO542.out; subst eo29; obtain ⟨Ao30, co30, eo30⟩ := Kd.R_slice HO548.out; subst eo30; obtain ⟨Ao31, co31, eo31⟩ := Kd.R_slice HO552.out; subst eo31; obtain ⟨Ao32, co32, eo32⟩ := Kd.R_slice HO555.out; subst eo32; obtain ⟨Ao33, co33, eo33⟩ := Kd.R_slice HO558.out; subst eo33; obtain ⟨Ao34, co34, eo34⟩ := Kd.R_slice HO563.out; subst eo34; obtain ⟨Ao35, co35, eo35⟩ := Kd.S_slice HO568.out; subst eo35; obtain ⟨Ao36, co36, eo36⟩ := Kd.R_slice HO571.out; subst eo36) | ((with_reducible refine gate_store (t := 133) (p := 2) (v := .tmp 14) rfl ?_); refine sa rfl 133 (.tmp 2) (.tmp 14) rfl gb489 _ ?vs BK489.out ?hx ?hy ?hi ?hl ?h1 ?_; (case hx => rfl); (case hy => rfl); (case hi => rfl); (case hl => simp); (case h1 => rfl); simp only [World.setCells, List.toList_toArray, Nat.reduceAdd]))
 refine bodyPost_ret (results_cell_row rfl _ _ gb489 133 #[.int .i64 t507, .int .i64 t508, .int .i64 t509, .int .i64 t510, .int .i64 t511, .slice Ao24 t512.length co24, .slice Ao25 t515.length co25, .bool t518, .int .i64 t519, .int .i64 t520, .slice Ao26 t521.length co26, .bool t524, .int .i64 t525, .int .i64 t526, .slice Ao27 t527.length co27, .int .i64 t530, .int .i64 t531, .int .i64 t532, .int .i64 t533, .slice Ao28 t534.length co28, .bool t537, .int .i64 t538, .int .i64 t539, .slice Ao29 t540.length co29, .bool t543, .int .i64 t544, .int .i64 t545, .slice Ao30 t546.length co30, .int .i64 t549, .slice Ao31 t550.length co31, .slice Ao32 t553.length co32, .slice Ao33 t556.length co33, .int .i64 t559, .int .i64 t560, .slice Ao34 t561.length co34, .int .i64 t564, .int .i64 t565, .slice Ao35 t566.length co35, .slice Ao36 t569.length co36] (0, 0) _ rfl (fq BK489.out) Try.underlying133 rfl kr) rfl ?_
 exact ⟨_, _, _, _, _, _, _, _, _, _, _, _, _, ew, rM (rf (Kd.R_types HO514.out BK489.out (by decide))) (fun _ hk => ⟨hk.1.1.1.1.1, ⟨hk.1.1.1.1.2.1, ⟨hk.1.1.1.1.2.2.1, ⟨hk.1.1.1.1.2.2.2.1, ⟨hk.1.1.1.1.2.2.2.2.1, ⟨hk.1.1.1.1.2.2.2.2.2.1, ⟨hk.1.1.1.1.2.2.2.2.2.2.1, ⟨hk.1.1.1.1.2.2.2.2.2.2.2.1, hk.1.1.1.1.2.2.2.2.2.2.2.2⟩⟩⟩⟩⟩⟩⟩⟩), rM (rf (Kd.R_types HO517.out BK489.out (by decide))) (fun _ hk => ⟨hk.1.1.1.1.1, ⟨hk.1.1.1.1.2.1, ⟨hk.1.1.1.1.2.2.1, ⟨hk.1.1.1.1.2.2.2.1, ⟨hk.1.1.1.1.2.2.2.2.1, ⟨hk.1.1.1.1.2.2.2.2.2.1, ⟨hk.1.1.1.1.2.2.2.2.2.2.1, ⟨hk.1.1.1.1.2.2.2.2.2.2.2.1, hk.1.1.1.1.2.2.2.2.2.2.2.2⟩⟩⟩⟩⟩⟩⟩⟩), rM (rf (Kd.R_types HO523.out BK489.out (by decide))) (fun _ hk => ⟨hk.1.1.1.1.1, ⟨hk.1.1.1.1.2.1, ⟨hk.1.1.1.1.2.2.1, ⟨hk.1.1.1.1.2.2.2.1, ⟨hk.1.1.1.1.2.2.2.2.1, ⟨hk.1.1.1.1.2.2.2.2.2.1, ⟨hk.1.1.1.1.2.2.2.2.2.2.1, ⟨hk.1.1.1.1.2.2.2.2.2.2.2.1, hk.1.1.1.1.2.2.2.2.2.2.2.2⟩⟩⟩⟩⟩⟩⟩⟩), rM (rf (Kd.R_types HO529.out BK489.out (by decide))) (fun _ hk => ⟨hk.1.1.1.1.1, ⟨hk.1.1.1.1.2.1, ⟨hk.1.1.1.1.2.2.1, ⟨hk.1.1.1.1.2.2.2.1, ⟨hk.1.1.1.1.2.2.2.2.1, ⟨hk.1.1.1.1.2.2.2.2.2.1, ⟨hk.1.1.1.1.2.2.2.2.2.2.1, ⟨hk.1.1.1.1.2.2.2.2.2.2.2.1, hk.1.1.1.1.2.2.2.2.2.2.2.2⟩⟩⟩⟩⟩⟩⟩⟩), by (with_reducible repeat (first | apply Kd.S_alloc | apply Kd.S_drewN | apply Kd.S_drew)); exact Kd.S_mono (Kd.S_far (p := ⟨gb489, 38, none⟩) (Kd.S_far (p := ⟨gb489, 37, none⟩) (Kd.S_far (p := ⟨gb489, 36, none⟩) (Kd.S_far (p := ⟨gb489, 35, none⟩) (Kd.S_far (p := ⟨gb489, 34, none⟩) (Kd.S_far (p := ⟨gb489, 33, none⟩) (Kd.S_far (p := ⟨gb489, 32, none⟩) (Kd.S_far (p := ⟨gb489, 31, none⟩) (Kd.S_far (p := ⟨gb489, 30, none⟩) (Kd.S_far (p := ⟨gb489, 29, none⟩) (Kd.S_far (p := ⟨gb489, 28, none⟩) (Kd.S_far (p := ⟨gb489, 27, none⟩) (Kd.S_far (p := ⟨gb489, 26, none⟩) (Kd.S_far (p := ⟨gb489, 25, none⟩) (Kd.S_far (p := ⟨gb489, 24, none⟩) (Kd.S_far (p := ⟨gb489, 23, none⟩) (Kd.S_far (p := ⟨gb489, 22, none⟩) (Kd.S_far (p := ⟨gb489, 21, none⟩) (Kd.S_far (p := ⟨gb489, 20, none⟩) (Kd.S_far (p := ⟨gb489, 19, none⟩) (Kd.S_far (p := ⟨gb489, 18, none⟩) (Kd.S_far (p := ⟨gb489, 17, none⟩) (Kd.S_far (p := ⟨gb489, 16, none⟩) (Kd.S_far (p := ⟨gb489, 15, none⟩) (Kd.S_far (p := ⟨gb489, 14, none⟩) (Kd.S_far (p := ⟨gb489, 13, none⟩) (Kd.S_far (p := ⟨gb489, 12, none⟩) (Kd.S_far (p := ⟨gb489, 11, none⟩) (Kd.S_far (p := ⟨gb489, 10, none⟩) (Kd.S_far (p := ⟨gb489, 9, none⟩) (Kd.S_far (p := ⟨gb489, 8, none⟩) (Kd.S_far (p := ⟨gb489, 7, none⟩) (Kd.S_far (p := ⟨gb489, 6, none⟩) (Kd.S_far (p := ⟨gb489, 5, none⟩) (Kd.S_far (p := ⟨gb489, 4, none⟩) (Kd.S_far (p := ⟨gb489, 3, none⟩) (Kd.S_far (p := ⟨gb489, 2, none⟩) (Kd.S_far (p := ⟨gb489, 1, none⟩) (Kd.S_far (p := ⟨gb489, 0, none⟩) (Kd.S_types HO536.out BK489.out (by decide)) (fun _ hk => hk.2) (.int .i64 t507)) (fun _ hk => hk.2) (.int .i64 t508)) (fun _ hk => hk.2) (.int .i64 t509)) (fun _ hk => hk.2) (.int .i64 t510)) (fun _ hk => hk.2) (.int .i64 t511)) (fun _ hk => hk.2) (.slice Ao24 t512.length co24)) (fun _ hk => hk.2) (.slice Ao25 t515.length co25)) (fun _ hk => hk.2) (.bool t518)) (fun _ hk => hk.2) (.int .i64 t519)) (fun _ hk => hk.2) (.int .i64 t520)) (fun _ hk => hk.2) (.slice Ao26 t521.length co26)) (fun _ hk => hk.2) (.bool t524)) (fun _ hk => hk.2) (.int .i64 t525)) (fun _ hk => hk.2) (.int .i64 t526)) (fun _ hk => hk.2) (.slice Ao27 t527.length co27)) (fun _ hk => hk.2) (.int .i64 t530)) (fun _ hk => hk.2) (.int .i64 t531)) (fun _ hk => hk.2) (.int .i64 t532)) (fun _ hk => hk.2) (.int .i64 t533)) (fun _ hk => hk.2) (.slice Ao28 t534.length co28)) (fun _ hk => hk.2) (.bool t537)) (fun _ hk => hk.2) (.int .i64 t538)) (fun _ hk => hk.2) (.int .i64 t539)) (fun _ hk => hk.2) (.slice Ao29 t540.length co29)) (fun _ hk => hk.2) (.bool t543)) (fun _ hk => hk.2) (.int .i64 t544)) (fun _ hk => hk.2) (.int .i64 t545)) (fun _ hk => hk.2) (.slice Ao30 t546.length co30)) (fun _ hk => hk.2) (.int .i64 t549)) (fun _ hk => hk.2) (.slice Ao31 t550.length co31)) (fun _ hk => hk.2) (.slice Ao32 t553.length co32)) (fun _ hk => hk.2) (.slice Ao33 t556.length co33)) (fun _ hk => hk.2) (.int .i64 t559)) (fun _ hk => hk.2) (.int .i64 t560)) (fun _ hk => hk.2) (.slice Ao34 t561.length co34)) (fun _ hk => hk.2) (.int .i64 t564)) (fun _ hk => hk.2) (.int .i64 t565)) (fun _ hk => hk.2) (.slice Ao35 t566.length co35)) (fun _ hk => hk.2) (.slice Ao36 t569.length co36)) (fun _ hk => trivial), rM (rf (Kd.R_types HO542.out BK489.out (by decide))) (fun _ hk => ⟨hk.1.1.1.1.1, ⟨hk.1.1.1.1.2.1, ⟨hk.1.1.1.1.2.2.1, ⟨hk.1.1.1.1.2.2.2.1, ⟨hk.1.1.1.1.2.2.2.2.1, ⟨hk.1.1.1.1.2.2.2.2.2.1, ⟨hk.1.1.1.1.2.2.2.2.2.2.1, ⟨hk.1.1.1.1.2.2.2.2.2.2.2.1, hk.1.1.1.1.2.2.2.2.2.2.2.2⟩⟩⟩⟩⟩⟩⟩⟩), rM (rf (Kd.R_types HO548.out BK489.out (by decide))) (fun _ hk => ⟨hk.1.1.1.1.1, ⟨hk.1.1.1.1.2.1, ⟨hk.1.1.1.1.2.2.1, ⟨hk.1.1.1.1.2.2.2.1, ⟨hk.1.1.1.1.2.2.2.2.1, ⟨hk.1.1.1.1.2.2.2.2.2.1, ⟨hk.1.1.1.1.2.2.2.2.2.2.1, ⟨hk.1.1.1.1.2.2.2.2.2.2.2.1, hk.1.1.1.1.2.2.2.2.2.2.2.2⟩⟩⟩⟩⟩⟩⟩⟩), rM (rf (Kd.R_types HO552.out BK489.out (by decide))) (fun _ hk => ⟨hk.1.1.1.1.1, ⟨hk.1.1.1.1.2.1, ⟨hk.1.1.1.1.2.2.1, ⟨hk.1.1.1.1.2.2.2.1, ⟨hk.1.1.1.1.2.2.2.2.1, ⟨hk.1.1.1.1.2.2.2.2.2.1, ⟨hk.1.1.1.1.2.2.2.2.2.2.1, ⟨hk.1.1.1.1.2.2.2.2.2.2.2.1, hk.1.1.1.1.2.2.2.2.2.2.2.2⟩⟩⟩⟩⟩⟩⟩⟩), rM (rf (Kd.R_types HO555.out BK489.out (by decide))) (fun _ hk => ⟨hk.1.1.1.1.1, ⟨hk.1.1.1.1.2.1, ⟨hk.1.1.1.1.2.2.1, ⟨hk.1.1.1.1.2.2.2.1, ⟨hk.1.1.1.1.2.2.2.2.1, ⟨hk.1.1.1.1.2.2.2.2.2.1, ⟨hk.1.1.1.1.2.2.2.2.2.2.1, ⟨hk.1.1.1.1.2.2.2.2.2.2.2.1, hk.1.1.1.1.2.2.2.2.2.2.2.2⟩⟩⟩⟩⟩⟩⟩⟩), rM (rf (Kd.R_types HO558.out BK489.out (by decide))) (fun _ hk => ⟨hk.1.1.1.1.1, ⟨hk.1.1.1.1.2.1, ⟨hk.1.1.1.1.2.2.1, ⟨hk.1.1.1.1.2.2.2.1, ⟨hk.1.1.1.1.2.2.2.2.1, ⟨hk.1.1.1.1.2.2.2.2.2.1, ⟨hk.1.1.1.1.2.2.2.2.2.2.1, ⟨hk.1.1.1.1.2.2.2.2.2.2.2.1, hk.1.1.1.1.2.2.2.2.2.2.2.2⟩⟩⟩⟩⟩⟩⟩⟩), rM (rf (Kd.R_types HO563.out BK489.out (by decide))) (fun _ hk => ⟨hk.1.1.1.1.1, ⟨hk.1.1.1.1.2.1, ⟨hk.1.1.1.1.2.2.1, ⟨hk.1.1.1.1.2.2.2.1, ⟨hk.1.1.1.1.2.2.2.2.1, ⟨hk.1.1.1.1.2.2.2.2.2.1, ⟨hk.1.1.1.1.2.2.2.2.2.2.1, ⟨hk.1.1.1.1.2.2.2.2.2.2.2.1, hk.1.1.1.1.2.2.2.2.2.2.2.2⟩⟩⟩⟩⟩⟩⟩⟩), by (with_reducible repeat (first | apply Kd.S_alloc | apply Kd.S_drewN | apply Kd.S_drew)); exact Kd.S_mono (Kd.S_far (p := ⟨gb489, 38, none⟩) (Kd.S_far (p := ⟨gb489, 37, none⟩) (Kd.S_far (p := ⟨gb489, 36, none⟩) (Kd.S_far (p := ⟨gb489, 35, none⟩) (Kd.S_far (p := ⟨gb489, 34, none⟩) (Kd.S_far (p := ⟨gb489, 33, none⟩) (Kd.S_far (p := ⟨gb489, 32, none⟩) (Kd.S_far (p := ⟨gb489, 31, none⟩) (Kd.S_far (p := ⟨gb489, 30, none⟩) (Kd.S_far (p := ⟨gb489, 29, none⟩) (Kd.S_far (p := ⟨gb489, 28, none⟩) (Kd.S_far (p := ⟨gb489, 27, none⟩) (Kd.S_far (p := ⟨gb489, 26, none⟩) (Kd.S_far (p := ⟨gb489, 25, none⟩) (Kd.S_far (p := ⟨gb489, 24, none⟩) (Kd.S_far (p := ⟨gb489, 23, none⟩) (Kd.S_far (p := ⟨gb489, 22, none⟩) (Kd.S_far (p := ⟨gb489, 21, none⟩) (Kd.S_far (p := ⟨gb489, 20, none⟩) (Kd.S_far (p := ⟨gb489, 19, none⟩) (Kd.S_far (p := ⟨gb489, 18, none⟩) (Kd.S_far (p := ⟨gb489, 17, none⟩) (Kd.S_far (p := ⟨gb489, 16, none⟩) (Kd.S_far (p := ⟨gb489, 15, none⟩) (Kd.S_far (p := ⟨gb489, 14, none⟩) (Kd.S_far (p := ⟨gb489, 13, none⟩) (Kd.S_far (p := ⟨gb489, 12, none⟩) (Kd.S_far (p := ⟨gb489, 11, none⟩) (Kd.S_far (p := ⟨gb489, 10, none⟩) (Kd.S_far (p := ⟨gb489, 9, none⟩) (Kd.S_far (p := ⟨gb489, 8, none⟩) (Kd.S_far (p := ⟨gb489, 7, none⟩) (Kd.S_far (p := ⟨gb489, 6, none⟩) (Kd.S_far (p := ⟨gb489, 5, none⟩) (Kd.S_far (p := ⟨gb489, 4, none⟩) (Kd.S_far (p := ⟨gb489, 3, none⟩) (Kd.S_far (p := ⟨gb489, 2, none⟩) (Kd.S_far (p := ⟨gb489, 1, none⟩) (Kd.S_far (p := ⟨gb489, 0, none⟩) (Kd.S_types HO568.out BK489.out (by decide)) (fun _ hk => hk.2) (.int .i64 t507)) (fun _ hk => hk.2) (.int .i64 t508)) (fun _ hk => hk.2) (.int .i64 t509)) (fun _ hk => hk.2) (.int .i64 t510)) (fun _ hk => hk.2) (.int .i64 t511)) (fun _ hk => hk.2) (.slice Ao24 t512.length co24)) (fun _ hk => hk.2) (.slice Ao25 t515.length co25)) (fun _ hk => hk.2) (.bool t518)) (fun _ hk => hk.2) (.int .i64 t519)) (fun _ hk => hk.2) (.int .i64 t520)) (fun _ hk => hk.2) (.slice Ao26 t521.length co26)) (fun _ hk => hk.2) (.bool t524)) (fun _ hk => hk.2) (.int .i64 t525)) (fun _ hk => hk.2) (.int .i64 t526)) (fun _ hk => hk.2) (.slice Ao27 t527.length co27)) (fun _ hk => hk.2) (.int .i64 t530)) (fun _ hk => hk.2) (.int .i64 t531)) (fun _ hk => hk.2) (.int .i64 t532)) (fun _ hk => hk.2) (.int .i64 t533)) (fun _ hk => hk.2) (.slice Ao28 t534.length co28)) (fun _ hk => hk.2) (.bool t537)) (fun _ hk => hk.2) (.int .i64 t538)) (fun _ hk => hk.2) (.int .i64 t539)) (fun _ hk => hk.2) (.slice Ao29 t540.length co29)) (fun _ hk => hk.2) (.bool t543)) (fun _ hk => hk.2) (.int .i64 t544)) (fun _ hk => hk.2) (.int .i64 t545)) (fun _ hk => hk.2) (.slice Ao30 t546.length co30)) (fun _ hk => hk.2) (.int .i64 t549)) (fun _ hk => hk.2) (.slice Ao31 t550.length co31)) (fun _ hk => hk.2) (.slice Ao32 t553.length co32)) (fun _ hk => hk.2) (.slice Ao33 t556.length co33)) (fun _ hk => hk.2) (.int .i64 t559)) (fun _ hk => hk.2) (.int .i64 t560)) (fun _ hk => hk.2) (.slice Ao34 t561.length co34)) (fun _ hk => hk.2) (.int .i64 t564)) (fun _ hk => hk.2) (.int .i64 t565)) (fun _ hk => hk.2) (.slice Ao35 t566.length co35)) (fun _ hk => hk.2) (.slice Ao36 t569.length co36)) (fun _ hk => trivial), rM (rf (Kd.R_types HO571.out BK489.out (by decide))) (fun _ hk => trivial), sq HI0.out, bq, hq⟩

/-! ### spec_l1Signed: function 129 -/
def spec_l1Signed.f (s0_0 : List Int) (s0_1 : Int) (a1 : Int) : Option (Int × Int) := (spec_l1Next.f s0_0 s0_1 (wrap64 ((wrap64 (2 * a1)) + 1))).bind fun bt572 => (some (wrap64 (bt572.1 - a1), bt572.2))
set_option maxHeartbeats 8000000 in
set_option maxRecDepth 100000 in
theorem spec_l1Signed.calls (g : Nat) (s0_0 : List Int) (s0_1 : Int) (a1 : Int) (r1 : Int) (r2 : Int) (w0 w : World) (hI : IsS149 w0 w g s0_0 s0_1) (hB : Below w0.heap.size w0 w) (h : spec_l1Signed.f s0_0 s0_1 a1 = some (r1, r2)) :
  Calls Try.prog 129 #[.pointer (some ⟨g, 0, none⟩), .int .i64 a1] w fun e w' => e = .returned (.int .i64 r1) ∧ IsS149 w0 w' g s0_0 r2 ∧ Below w0.heap.size w0 w' ∧ KeepBut w w' g none := by
 have HI0 := aM hI
 have HK := aM (KeepBut.refl w g none)
 have HL := aM hB.size
 clear hI
 have HW0 := aM hB.size
 have HB := aM hB
 clear hB
 have H : ((spec_l1Next.f s0_0 s0_1 (wrap64 ((wrap64 (2 * a1)) + 1))).bind fun bt572 => (some (wrap64 (bt572.1 - a1), bt572.2))) = some (r1, r2) := h
 clear h
 replace H := bo H
 obtain ⟨⟨t572, t573⟩, A3, H⟩ := H
 replace H := bz H
 simp only [Option.some.injEq, Prod.mk.injEq] at H
 obtain ⟨rfl, rfl⟩ := H
 go_enter Try.func129, Try.ntmps129
 go_wp2_with (first | ((with_reducible refine gate_callee (f := 94) rfl ?_); refine goesL_ (some 9) rfl rfl Try.func94 kr rfl #[.pointer (some ⟨g, 0, none⟩), .int .i64 (wrap64 ((wrap64 (2 * a1)) + 1))] rfl mq ?_; (with_reducible refine (spec_l1Next.calls g s0_0 s0_1 (wrap64 ((wrap64 (2 * a1)) + 1)) t572 t573 w0 _ ?side1 ?side2 A3.out).mono ?_); (case side1 => exact sq HI0.out); (case side2 => exact bq); rintro e w4 ⟨rfl, hi, hb, hk⟩; refine ⟨_, rfl, ?_⟩; replace HK := aM (KeepBut.trans hq hk (.inl rfl)); replace HB := aM (hb); replace HI0 := aM (hi); (try clear hb)))
 go_ret
 exact ⟨ew, sq HI0.out, bq, hq⟩

/-! ### spec_Clamp16: function 148 -/
def spec_Clamp16.f (a0 : Int) : Option (Int) := if a0 < (-32768) then (some (-32768)) else (if a0 > 32767 then (some 32767) else (some a0))
set_option maxHeartbeats 8000000 in
set_option maxRecDepth 100000 in
theorem spec_Clamp16.calls (a0 : Int) (r : Int) (w : World) (h : spec_Clamp16.f a0 = some r) :
  Calls Try.prog 148 #[.int .i64 a0] w fun e w' => e = .returned (.int .i64 r) ∧ Drawn0 w w' := by
 have H : (if a0 < (-32768) then (some (-32768)) else (if a0 > 32767 then (some 32767) else (some a0))) = some r := h
 clear h
 by_cases c2 : a0 < (-32768)
 ·rw [if_pos c2] at H
  have c2b0 : decide (a0 < (-32768)) = true := decide_eq_true c2
  clear c2
  obtain rfl := Option.some.inj H
  go_enter Try.func148, Try.ntmps148
  go_wp2
  go_ret
  exact ⟨ex, by repeat (first | exact Drawn0.refl _ | apply Drawn0.step)⟩
 ·rw [if_neg c2] at H
  have c2b0 : decide (a0 < (-32768)) = false := decide_eq_false c2
  clear c2
  by_cases c3 : a0 > 32767
  ·rw [if_pos c3] at H
   have c3b0 : decide (32767 < a0) = true := decide_eq_true c3
   clear c3
   obtain rfl := Option.some.inj H
   go_enter Try.func148, Try.ntmps148
   go_wp2
   go_ret
   exact ⟨ex, by repeat (first | exact Drawn0.refl _ | apply Drawn0.step)⟩
  ·rw [if_neg c3] at H
   have c3b0 : decide (32767 < a0) = false := decide_eq_false c3
   clear c3
   obtain rfl := Option.some.inj H
   go_enter Try.func148, Try.ntmps148
   go_wp2
   go_ret
   exact ⟨ex, by repeat (first | exact Drawn0.refl _ | apply Drawn0.step)⟩

/-! ### spec_l1Samples: function 127 -/
def spec_l1Samples.l0 : Nat → Int → List Int → Int → Int → Int → Int → List Int → Int → Option (List Int × Int)
 | 0, _, _, _, _, _, _, _, _ => none
 | k + 1, x1, x5, x6, x7, x8, x9, x1000, x1001 => if x9 < x1 then (if x8 = 0 then ((spec_Clamp16.f 0).bind fun t586 => (if x5.length < 17592186044416 then (spec_l1Samples.l0 k x1 (x5 ++ [t586]) x6 x7 x8 (wrap64 (x9 + 1)) x1000 x1001) else (none))) else (if x8 = 1 then ((spec_l1Signed.f x1000 x1001 32767).bind fun bt590 => ((spec_Clamp16.f bt590.1).bind fun t592 => (if x5.length < 17592186044416 then (spec_l1Samples.l0 k x1 (x5 ++ [t592]) x6 x7 x8 (wrap64 (x9 + 1)) x1000 bt590.2) else (none)))) else (if x8 = 2 then ((spec_l1Pick.f x1000 x1001 (([32767, (-32768), 0] : List Int))).bind fun bt599 => ((spec_Clamp16.f bt599.1).bind fun t601 => (if x5.length < 17592186044416 then (spec_l1Samples.l0 k x1 (x5 ++ [t601]) x6 x7 x8 (wrap64 (x9 + 1)) x1000 bt599.2) else (none)))) else (if x8 = 3 then ((spec_l1Signed.f x1000 x1001 20).bind fun bt605 => ((spec_Clamp16.f (wrap64 ((wrap64 (x6 + (wrap64 (x7 * x9)))) + bt605.1))).bind fun t607 => (if x5.length < 17592186044416 then (spec_l1Samples.l0 k x1 (x5 ++ [t607]) x6 x7 x8 (wrap64 (x9 + 1)) x1000 bt605.2) else (none)))) else ((spec_Clamp16.f (wrap64 (x6 + (wrap64 (x7 * x9))))).bind fun t611 => (if x5.length < 17592186044416 then (spec_l1Samples.l0 k x1 (x5 ++ [t611]) x6 x7 x8 (wrap64 (x9 + 1)) x1000 x1001) else (none))))))) else (some (x5, x1001))
def spec_l1Samples.f (k : Nat) (s0_0 : List Int) (s0_1 : Int) (a1 : Int) : Option (List Int × Int) := (spec_l1Signed.f s0_0 s0_1 20000).bind fun bt577 => ((spec_l1Pick.f s0_0 bt577.2 (([0, 1, 50, 700, (-300)] : List Int))).bind fun bt582 => ((spec_l1Next.f s0_0 bt582.2 5).bind fun bt584 => (spec_l1Samples.l0 k a1 (([] : List Int)) bt577.1 bt582.1 bt584.1 0 s0_0 bt584.2)))
theorem spec_l1Samples.mono_l : ∀ k, (∀ y0 y1 y2 y3 y4 y5 y6 y7, LeO (spec_l1Samples.l0 k y0 y1 y2 y3 y4 y5 y6 y7) (spec_l1Samples.l0 (k + 1) y0 y1 y2 y3 y4 y5 y6 y7))
 | 0 => fun _ _ _ _ _ _ _ _ r h => by simp [spec_l1Samples.l0] at h
 | k + 1 => by
  have ih0 := spec_l1Samples.mono_l k
  ·intro y0 y1 y2 y3 y4 y5 y6 y7
   unfold spec_l1Samples.l0
   repeat' first
   | (with_reducible exact ih0 _ _ _ _ _ _ _ _)
   | (with_reducible exact LeO.refl _)
   | (with_reducible exact LeO.none _)
   | (with_reducible refine LeO.ite ?_ ?_)
   | (with_reducible refine LeO.bind ?_ (fun _ => ?_))
   | exact ih0 _ _ _ _ _ _ _ _
   | exact LeO.none _
   | refine LeO.ite ?_ ?_
   | refine LeO.bind ?_ (fun _ => ?_)
theorem spec_l1Samples.mono : ∀ a0 a1 a2 k, LeO (spec_l1Samples.f k a0 a1 a2) (spec_l1Samples.f (k + 1) a0 a1 a2) := by
 intro a0 a1 a2 k
 have ih0 := spec_l1Samples.mono_l k
 unfold spec_l1Samples.f
 repeat' first
   | (with_reducible exact ih0 _ _ _ _ _ _ _ _)
   | (with_reducible exact LeO.refl _)
   | (with_reducible exact LeO.none _)
   | (with_reducible refine LeO.ite ?_ ?_)
   | (with_reducible refine LeO.bind ?_ (fun _ => ?_))
   | exact ih0 _ _ _ _ _ _ _ _
   | exact LeO.none _
   | refine LeO.ite ?_ ?_
   | refine LeO.bind ?_ (fun _ => ?_)
set_option maxHeartbeats 8000000 in
set_option maxRecDepth 100000 in
theorem spec_l1Samples.calls (k : Nat) (g : Nat) (s0_0 : List Int) (s0_1 : Int) (a1 : Int) (r1 : List Int) (r2 : Int) (w0 w : World) (hI : IsS149 w0 w g s0_0 s0_1) (hB : Below w0.heap.size w0 w) (h : spec_l1Samples.f k s0_0 s0_1 a1 = some (r1, r2)) :
  Calls Try.prog 127 #[.pointer (some ⟨g, 0, none⟩), .int .i64 a1] w fun e w' => ∃ v0_ : Value, e = .returned (v0_) ∧ Kd.R (Kd.int .i64) 2 w' w.heap.size (fun _ => True) v0_ r1 ∧ IsS149 w0 w' g s0_0 r2 ∧ Below w0.heap.size w0 w' ∧ KeepBut w w' g none := by
 have HI0 := aM hI
 have HK := aM (KeepBut.refl w g none)
 have HL := aM hB.size
 clear hI
 have HW0 := aM hB.size
 have HB := aM hB
 clear hB
 have H : ((spec_l1Signed.f s0_0 s0_1 20000).bind fun bt577 => ((spec_l1Pick.f s0_0 bt577.2 (([0, 1, 50, 700, (-300)] : List Int))).bind fun bt582 => ((spec_l1Next.f s0_0 bt582.2 5).bind fun bt584 => (spec_l1Samples.l0 k a1 (([] : List Int)) bt577.1 bt582.1 bt584.1 0 s0_0 bt584.2)))) = some (r1, r2) := h
 clear h
 obtain ⟨y574, hy574⟩ : ∃ y_ : List Int, y_ = (([] : List Int)) := ⟨_, rfl⟩
 replace H : ((spec_l1Signed.f s0_0 s0_1 20000).bind fun bt577 => ((spec_l1Pick.f s0_0 bt577.2 (([0, 1, 50, 700, (-300)] : List Int))).bind fun bt582 => ((spec_l1Next.f s0_0 bt582.2 5).bind fun bt584 => (spec_l1Samples.l0 k a1 y574 bt577.1 bt582.1 bt584.1 0 s0_0 bt584.2)))) = some (r1, r2) := hl hy574 H
 have Ny574 := aM hy574
 clear hy574
 replace H := bo H
 obtain ⟨⟨t577, t578⟩, A3, H⟩ := H
 replace H := bz H
 obtain ⟨y579, hy579⟩ : ∃ y_ : List Int, y_ = (([0, 1, 50, 700, (-300)] : List Int)) := ⟨_, rfl⟩
 replace H : ((spec_l1Pick.f s0_0 t578 y579).bind fun bt582 => ((spec_l1Next.f s0_0 bt582.2 5).bind fun bt584 => (spec_l1Samples.l0 k a1 y574 t577 bt582.1 bt584.1 0 s0_0 bt584.2))) = some (r1, r2) := hl hy579 H
 have Ny579 := aM hy579
 clear hy579
 replace H := bo H
 obtain ⟨⟨t582, t583⟩, A4, H⟩ := H
 replace H := bz H
 replace H := bo H
 obtain ⟨⟨t584, t585⟩, A5, H⟩ := H
 replace H := bz H
 have H' := aM H
 clear H
 go_enter Try.func127, Try.ntmps127
 go_wp2_with (first | ((with_reducible refine gate_dst (N := 11) rfl ?_); refine Kd.R_lit (Kd.int .i64) _ 2 ?hg (N := 11) ?hd (xs := ([] : List Int)) (inner := []) (ok := fun _ => True) (okp := fun _ => True) ?hr ?hp (fun _ hk => hk) trivial (Below.refl _ _) (Nat.le_refl _) (by simp) ?_; (case hd => rfl); (case hg => rfl); (case hr => first | (go_simp; done) | (go_simp; rfl)); (case hp => exact (Reps.none _ _)); intro v575 w6 ho7 hb hg_ hnew_; clear hg_ hnew_; (first | rw [← Ny574.out] at ho7 | (simp only [Int.reduceToNat] at ho7; rw [← Ny574.out] at ho7)); have HO576 := aM (rG ho7 (keep_size (w := w) (g := g) (row := none) hq)); replace HK := aM (KeepBut.trans hq (KeepBut.of_below hb g none) (.inl rfl)); replace HB := aM (bT bq hb); replace HI0 := aM (IsS149.below (sq HI0.out) hb); clear hb ho7) | ((with_reducible refine gate_callee (f := 129) rfl ?_); refine goesL_ (some 13) rfl rfl Try.func129 kr rfl #[.pointer (some ⟨g, 0, none⟩), .int .i64 20000] rfl mq ?_; (with_reducible refine (spec_l1Signed.calls g s0_0 s0_1 20000 t577 t578 w0 _ ?side1 ?side2 A3.out).mono ?_); (case side1 => exact sq HI0.out); (case side2 => exact bq); rintro e w8 ⟨rfl, hi, hb, hk⟩; refine ⟨_, rfl, ?_⟩; replace HO576 := aM (rM (Kd.R_keep (IsS149.apart (show IsS149 w0 _ g s0_0 s0_1 from sq HI0.out) (rq HO576.out) (by decide)) hk (fun _ h => h.2)) (fun _ h => h.1)); replace HK := aM (KeepBut.trans hq hk (.inl rfl)); replace HB := aM (hb); replace HI0 := aM (hi); (try clear hb)) | ((with_reducible refine gate_dst (N := 15) rfl ?_); refine Kd.R_lit (Kd.int .i64) _ 2 ?hg (N := 15) ?hd (xs := ([0, 1, 50, 700, (-300)] : List Int)) (inner := [.int .i64 0, .int .i64 1, .int .i64 50, .int .i64 700, .int .i64 (-300)]) (ok := fun _ => True) (okp := fun _ => True) ?hr ?hp (fun _ hk => hk) trivial (Below.refl _ _) (Nat.le_refl _) (by simp) ?_; (case hd => rfl); (case hg => rfl); (case hr => first | (go_simp; done) | (go_simp; rfl)); (case hp => exact (Reps.one (show Kd.M (Kd.int .i64) _ _ _ 0 [.int .i64 0] from rfl) (Reps.one (show Kd.M (Kd.int .i64) _ _ _ 1 [.int .i64 1] from rfl) (Reps.one (show Kd.M (Kd.int .i64) _ _ _ 50 [.int .i64 50] from rfl) (Reps.one (show Kd.M (Kd.int .i64) _ _ _ 700 [.int .i64 700] from rfl) (Reps.one (show Kd.M (Kd.int .i64) _ _ _ (-300) [.int .i64 (-300)] from rfl) (Reps.none _ _))))))); intro v580 w9 ho10 hb hg_ hnew_; clear hg_ hnew_; (first | rw [← Ny579.out] at ho10 | (simp only [Int.reduceToNat] at ho10; rw [← Ny579.out] at ho10)); have HO581 := aM (rG (rW ho10 (rT (rq HO576.out))) (keep_size (w := w) (g := g) (row := none) hq)); replace HO576 := aM (rH (rq HO576.out) (rB ho10) hb); replace HK := aM (KeepBut.trans hq (KeepBut.of_below hb g none) (.inl rfl)); replace HB := aM (bT bq hb); replace HI0 := aM (IsS149.below (sq HI0.out) hb); clear hb ho10; obtain ⟨Ao11, co11, eo11⟩ := Kd.R_slice HO581.out; subst eo11) | ((with_reducible refine gate_callee (f := 86) rfl ?_); refine goesL_ (some 16) rfl rfl Try.func86 kr rfl #[.pointer (some ⟨g, 0, none⟩), .slice Ao11 y579.length co11] rfl mq ?_; (with_reducible refine (spec_l1Pick.calls g s0_0 t578 _ _ y579 t582 t583 w0 _ ?side1 ?side2 ?side3 ?side4 ?side5 A4.out).mono ?_); (case side1 => exact sq HI0.out); (case side2 => exact bq); (case side3 => exact cq (rR HO581.out).2.2); (case side4 => exact (rR HO581.out).2.1); (case side5 => exact far_slice (IsS149.own_ne HI0.out HO581.out (by decide))); rintro e w12 ⟨rfl, hi, hb, hk⟩; refine ⟨_, rfl, ?_⟩; replace HO576 := aM (rM (Kd.R_keep (IsS149.apart (show IsS149 w0 _ g s0_0 t578 from sq HI0.out) (rq HO576.out) (by decide)) hk (fun _ h => h.2)) (fun _ h => h.1)); replace HO581 := aM (rM (Kd.R_keep (IsS149.apart (show IsS149 w0 _ g s0_0 t578 from sq HI0.out) (rq HO581.out) (by decide)) hk (fun _ h => h.2)) (fun _ h => h.1)); replace HK := aM (KeepBut.trans hq hk (.inl rfl)); replace HB := aM (hb); replace HI0 := aM (hi); (try clear hb)) | ((with_reducible refine gate_callee (f := 94) rfl ?_); refine goesL_ (some 18) rfl rfl Try.func94 kr rfl #[.pointer (some ⟨g, 0, none⟩), .int .i64 5] rfl mq ?_; (with_reducible refine (spec_l1Next.calls g s0_0 t583 5 t584 t585 w0 _ ?side1 ?side2 A5.out).mono ?_); (case side1 => exact sq HI0.out); (case side2 => exact bq); rintro e w13 ⟨rfl, hi, hb, hk⟩; refine ⟨_, rfl, ?_⟩; replace HO576 := aM (rM (Kd.R_keep (IsS149.apart (show IsS149 w0 _ g s0_0 t583 from sq HI0.out) (rq HO576.out) (by decide)) hk (fun _ h => h.2)) (fun _ h => h.1)); replace HO581 := aM (rM (Kd.R_keep (IsS149.apart (show IsS149 w0 _ g s0_0 t583 from sq HI0.out) (rq HO581.out) (by decide)) hk (fun _ h => h.2)) (fun _ h => h.1)); replace HK := aM (KeepBut.trans hq hk (.inl rfl)); replace HB := aM (hb); replace HI0 := aM (hi); (try clear hb)))
 go_loopg [5, 9] k (fun kq v5 v9 w' => ∃ (x5_1 : List Int) (x9_1 : Int) (x1001_1 : Int), v9 = .int .i64 x9_1 ∧ Aside0 (spec_l1Samples.l0 kq a1 x5_1 t577 t582 t584 x9_1 s0_0 x1001_1 = some (r1, r2)) ∧ Aside0 (kq ≤ k) ∧ Aside0 (Kd.R (Kd.int .i64) 2 w' w.heap.size (fun _ => True) v5 x5_1) ∧ Aside0 (IsS149 w0 w' g s0_0 x1001_1) ∧ Aside0 (KeepBut w w' g none) ∧ Aside0 (Below w0.heap.size w0 w'))
 case atStart => exact ⟨(y574), (0), (t585), (ex), H', ⟨Nat.le_refl _⟩, aM (rq (rM HO576.out (fun _ hk => trivial))), ⟨sq HI0.out⟩, ⟨hq⟩, ⟨bq⟩⟩
 case round =>
  clear H'
  try clear c1
  try clear p2
  try clear c8
  try clear c9
  try clear c12
  obtain ⟨x5_1, x9_1, x1001_1, rfl, HA, HK1, HO_5, HI0, HK, HB⟩ := hrel
  cases gk with
  | zero => exact absurd HA.out (by simp [spec_l1Samples.l0])
  | succ k1 =>
   have H := HA.out
   clear HA
   simp only [spec_l1Samples.l0] at H
   by_cases c14 : x9_1 < a1
   ·rw [if_pos c14] at H
    have c14b0 : decide (x9_1 < a1) = true := decide_eq_true c14
    clear c14
    by_cases c15 : t584 = 0
    ·rw [if_pos c15] at H
     have c15b0 : (t584 == 0) = true := beq_iff_eq.mpr c15
     have c15b1 : (t584 != 0) = false := bne_eq_false_iff_eq.mpr c15
     clear c15
     replace H := bo H
     obtain ⟨t586, A16, H⟩ := H
     replace H := bz H
     by_cases c17 : x5_1.length < 17592186044416
     ·rw [if_pos c17] at H
      have LMc17 := aM c17
      clear c17
      obtain ⟨y587, hy587⟩ : ∃ y_ : List Int, y_ = (x5_1 ++ [t586]) := ⟨_, rfl⟩
      replace H : (spec_l1Samples.l0 k1 a1 y587 t577 t582 t584 (wrap64 (x9_1 + 1)) s0_0 x1001_1) = some (r1, r2) := hl hy587 H
      have Ny587 := aM hy587
      clear hy587
      have H' := aM H
      clear H
      go_wp2_with (first | ((with_reducible refine gate_callee (f := 148) rfl ?_); refine goesL_ (some 49) rfl rfl Try.func148 kr rfl #[.int .i64 0] rfl mq ?_; (with_reducible refine (spec_Clamp16.calls 0 t586 _ A16.out).mono ?_); rintro e w' ⟨rfl, ⟨nd, rfl⟩⟩; refine ⟨_, rfl, ?_⟩) | ((with_reducible refine gate_builtin (b := .append) (xs := #[.tmp 47, .tmp 50]) rfl ?_); at_builtin; refine Kd.R_append (Kd.int .i64) w.heap.size rfl (.tmp 47) (.tmp 50) 22 2 (.int .i64 0) 8 rfl Try.underlying22 info2 rfl (by decide) (by omega) u5 x5_1 t586 [.int .i64 t586] (fun _ => True) (fun _ => False) rfl rfl ?aP (fun _ hk => hk.elim) ?aF ?aO (Below.refl _ _) ?aS ?aL ?_; (case aP => exact rfl); (case aF => exact (fun _ _ => trivial)); (case aO => exact (rq HO_5.out)); (case aS => exact (keep_size (w := w) (g := g) (row := none) hq)); (case aL => have := LMc17.out; omega); intro v588 w18 ho hb hg hat; rw [← Ny587.out] at ho; replace HB := aM (below_weaken bq HL.out hb); replace HI0 := aM (IsS149.grown (sq HI0.out) hg (IsS149.own_ne HI0.out HO_5.out (by decide))); replace HK := aM (KeepBut.trans hq (KeepBut.of_grown hg g) (Kd.R_base2 HO_5.out)); have HO589 := aM (ho); clear HO_5 ho hb hg hat))
      go_roundg k1
      case measure => have := HK1.out; omega
      case rel => exact ⟨(y587), (wrap64 (x9_1 + 1)), (x1001_1), (ex), H', ⟨by have := HK1.out; omega⟩, aM (rq HO589.out), ⟨sq HI0.out⟩, ⟨hq⟩, ⟨bq⟩⟩
     ·rw [if_neg c17] at H
      exact absurd H (by simp)
    ·rw [if_neg c15] at H
     have c15b0 : (t584 == 0) = false := beq_eq_false_iff_ne.mpr c15
     have c15b1 : (t584 != 0) = true := bne_iff_ne.mpr c15
     by_cases c19 : t584 = 1
     ·rw [if_pos c19] at H
      have c19b0 : (t584 == 1) = true := beq_iff_eq.mpr c19
      have c19b1 : (t584 != 1) = false := bne_eq_false_iff_eq.mpr c19
      clear c19
      replace H := bo H
      obtain ⟨⟨t590, t591⟩, A20, H⟩ := H
      replace H := bz H
      replace H := bo H
      obtain ⟨t592, A21, H⟩ := H
      replace H := bz H
      by_cases c22 : x5_1.length < 17592186044416
      ·rw [if_pos c22] at H
       have LMc22 := aM c22
       clear c22
       obtain ⟨y593, hy593⟩ : ∃ y_ : List Int, y_ = (x5_1 ++ [t592]) := ⟨_, rfl⟩
       replace H : (spec_l1Samples.l0 k1 a1 y593 t577 t582 t584 (wrap64 (x9_1 + 1)) s0_0 t591) = some (r1, r2) := hl hy593 H
       have Ny593 := aM hy593
       clear hy593
       have H' := aM H
       clear H
       go_wp2_with (first | ((with_reducible refine gate_callee (f := 129) rfl ?_); refine goesL_ (some 35) rfl rfl Try.func129 kr rfl #[.pointer (some ⟨g, 0, none⟩), .int .i64 32767] rfl mq ?_; (with_reducible refine (spec_l1Signed.calls g s0_0 x1001_1 32767 t590 t591 w0 _ ?side1 ?side2 A20.out).mono ?_); (case side1 => exact sq HI0.out); (case side2 => exact bq); rintro e w23 ⟨rfl, hi, hb, hk⟩; refine ⟨_, rfl, ?_⟩; replace HO_5 := aM (rM (Kd.R_keep (IsS149.apart (show IsS149 w0 _ g s0_0 x1001_1 from sq HI0.out) (rq HO_5.out) (by decide)) hk (fun _ h => h.2)) (fun _ h => h.1)); replace HK := aM (KeepBut.trans hq hk (.inl rfl)); replace HB := aM (hb); replace HI0 := aM (hi); (try clear hb)) | ((with_reducible refine gate_callee (f := 148) rfl ?_); refine goesL_ (some 49) rfl rfl Try.func148 kr rfl #[.int .i64 t590] rfl mq ?_; (with_reducible refine (spec_Clamp16.calls t590 t592 _ A21.out).mono ?_); rintro e w' ⟨rfl, ⟨nd, rfl⟩⟩; refine ⟨_, rfl, ?_⟩) | ((with_reducible refine gate_builtin (b := .append) (xs := #[.tmp 47, .tmp 50]) rfl ?_); at_builtin; refine Kd.R_append (Kd.int .i64) w.heap.size rfl (.tmp 47) (.tmp 50) 22 2 (.int .i64 0) 8 rfl Try.underlying22 info2 rfl (by decide) (by omega) u5 x5_1 t592 [.int .i64 t592] (fun _ => True) (fun _ => False) rfl rfl ?aP (fun _ hk => hk.elim) ?aF ?aO (Below.refl _ _) ?aS ?aL ?_; (case aP => exact rfl); (case aF => exact (fun _ _ => trivial)); (case aO => exact (rq HO_5.out)); (case aS => exact (keep_size (w := w) (g := g) (row := none) hq)); (case aL => have := LMc22.out; omega); intro v594 w24 ho hb hg hat; rw [← Ny593.out] at ho; replace HB := aM (below_weaken bq HL.out hb); replace HI0 := aM (IsS149.grown (sq HI0.out) hg (IsS149.own_ne HI0.out HO_5.out (by decide))); replace HK := aM (KeepBut.trans hq (KeepBut.of_grown hg g) (Kd.R_base2 HO_5.out)); have HO595 := aM (ho); clear HO_5 ho hb hg hat))
       go_roundg k1
       case measure => have := HK1.out; omega
       case rel => exact ⟨(y593), (wrap64 (x9_1 + 1)), (t591), (ex), H', ⟨by have := HK1.out; omega⟩, aM (rq HO595.out), ⟨sq HI0.out⟩, ⟨hq⟩, ⟨bq⟩⟩
      ·rw [if_neg c22] at H
       exact absurd H (by simp)
     ·rw [if_neg c19] at H
      have c19b0 : (t584 == 1) = false := beq_eq_false_iff_ne.mpr c19
      have c19b1 : (t584 != 1) = true := bne_iff_ne.mpr c19
      by_cases c25 : t584 = 2
      ·rw [if_pos c25] at H
       have c25b0 : (t584 == 2) = true := beq_iff_eq.mpr c25
       have c25b1 : (t584 != 2) = false := bne_eq_false_iff_eq.mpr c25
       clear c25
       obtain ⟨y596, hy596⟩ : ∃ y_ : List Int, y_ = (([32767, (-32768), 0] : List Int)) := ⟨_, rfl⟩
       replace H : ((spec_l1Pick.f s0_0 x1001_1 y596).bind fun bt599 => ((spec_Clamp16.f bt599.1).bind fun t601 => (if x5_1.length < 17592186044416 then (spec_l1Samples.l0 k1 a1 (x5_1 ++ [t601]) t577 t582 t584 (wrap64 (x9_1 + 1)) s0_0 bt599.2) else (none)))) = some (r1, r2) := hl hy596 H
       have Ny596 := aM hy596
       clear hy596
       replace H := bo H
       obtain ⟨⟨t599, t600⟩, A26, H⟩ := H
       replace H := bz H
       replace H := bo H
       obtain ⟨t601, A27, H⟩ := H
       replace H := bz H
       by_cases c28 : x5_1.length < 17592186044416
       ·rw [if_pos c28] at H
        have LMc28 := aM c28
        clear c28
        obtain ⟨y602, hy602⟩ : ∃ y_ : List Int, y_ = (x5_1 ++ [t601]) := ⟨_, rfl⟩
        replace H : (spec_l1Samples.l0 k1 a1 y602 t577 t582 t584 (wrap64 (x9_1 + 1)) s0_0 t600) = some (r1, r2) := hl hy602 H
        have Ny602 := aM hy602
        clear hy602
        have H' := aM H
        clear H
        go_wp2_with (first | ((with_reducible refine gate_dst (N := 39) rfl ?_); refine Kd.R_lit (Kd.int .i64) _ 2 ?hg (N := 39) ?hd (xs := ([32767, (-32768), 0] : List Int)) (inner := [.int .i64 32767, .int .i64 (-32768), .int .i64 0]) (ok := fun _ => True) (okp := fun _ => True) ?hr ?hp (fun _ hk => hk) trivial (Below.refl _ _) (Nat.le_refl _) (by simp) ?_; (case hd => rfl); (case hg => rfl); (case hr => first | (go_simp; done) | (go_simp; rfl)); (case hp => exact (Reps.one (show Kd.M (Kd.int .i64) _ _ _ 32767 [.int .i64 32767] from rfl) (Reps.one (show Kd.M (Kd.int .i64) _ _ _ (-32768) [.int .i64 (-32768)] from rfl) (Reps.one (show Kd.M (Kd.int .i64) _ _ _ 0 [.int .i64 0] from rfl) (Reps.none _ _))))); intro v597 w29 ho30 hb hg_ hnew_; clear hg_ hnew_; (first | rw [← Ny596.out] at ho30 | (simp only [Int.reduceToNat] at ho30; rw [← Ny596.out] at ho30)); have HO598 := aM (rG (rW ho30 (rT (rq HO_5.out))) (keep_size (w := w) (g := g) (row := none) hq)); replace HO_5 := aM (rH (rq HO_5.out) (rB ho30) hb); replace HK := aM (KeepBut.trans hq (KeepBut.of_below hb g none) (.inl rfl)); replace HB := aM (bT bq hb); replace HI0 := aM (IsS149.below (sq HI0.out) hb); clear hb ho30; obtain ⟨Ao31, co31, eo31⟩ := Kd.R_slice HO598.out; subst eo31) | ((with_reducible refine gate_callee (f := 86) rfl ?_); refine goesL_ (some 40) rfl rfl Try.func86 kr rfl #[.pointer (some ⟨g, 0, none⟩), .slice Ao31 y596.length co31] rfl mq ?_; (with_reducible refine (spec_l1Pick.calls g s0_0 x1001_1 _ _ y596 t599 t600 w0 _ ?side1 ?side2 ?side3 ?side4 ?side5 A26.out).mono ?_); (case side1 => exact sq HI0.out); (case side2 => exact bq); (case side3 => exact cq (rR HO598.out).2.2); (case side4 => exact (rR HO598.out).2.1); (case side5 => exact far_slice (IsS149.own_ne HI0.out HO598.out (by decide))); rintro e w32 ⟨rfl, hi, hb, hk⟩; refine ⟨_, rfl, ?_⟩; replace HO_5 := aM (rM (Kd.R_keep (IsS149.apart (show IsS149 w0 _ g s0_0 x1001_1 from sq HI0.out) (rq HO_5.out) (by decide)) hk (fun _ h => h.2)) (fun _ h => h.1)); replace HO598 := aM (rM (Kd.R_keep (IsS149.apart (show IsS149 w0 _ g s0_0 x1001_1 from sq HI0.out) (rq HO598.out) (by decide)) hk (fun _ h => h.2)) (fun _ h => h.1)); replace HK := aM (KeepBut.trans hq hk (.inl rfl)); replace HB := aM (hb); replace HI0 := aM (hi); (try clear hb)) | ((with_reducible refine gate_callee (f := 148) rfl ?_); refine goesL_ (some 49) rfl rfl Try.func148 kr rfl #[.int .i64 t599] rfl mq ?_; (with_reducible refine (spec_Clamp16.calls t599 t601 _ A27.out).mono ?_); rintro e w' ⟨rfl, ⟨nd, rfl⟩⟩; refine ⟨_, rfl, ?_⟩) | ((with_reducible refine gate_builtin (b := .append) (xs := #[.tmp 47, .tmp 50]) rfl ?_); at_builtin; refine Kd.R_append (Kd.int .i64) w.heap.size rfl (.tmp 47) (.tmp 50) 22 2 (.int .i64 0) 8 rfl Try.underlying22 info2 rfl (by decide) (by omega) u5 x5_1 t601 [.int .i64 t601] (fun k_ => nS Ao31 y596 co31 k_) (fun _ => False) rfl rfl ?aP (fun _ hk => hk.elim) ?aF ?aO (Below.refl _ _) ?aS ?aL ?_; (case aP => exact rfl); (case aF => exact (fun k_ hk => Kd.fresh' (rT (rq HO598.out)) k_ hk)); (case aO => exact (rq (rM HO_5.out (fun _ hk => hk.2)))); (case aS => exact (keep_size (w := w) (g := g) (row := none) hq)); (case aL => have := LMc28.out; omega); intro v603 w33 ho hb hg hat; rw [← Ny602.out] at ho; replace HO598 := aM (Kd.R_after (ok := (fun _ => True)) (rq HO598.out) hg hat); replace HB := aM (below_weaken bq HL.out hb); replace HI0 := aM (IsS149.grown (sq HI0.out) hg (IsS149.own_ne HI0.out HO_5.out (by decide))); replace HK := aM (KeepBut.trans hq (KeepBut.of_grown hg g) (Kd.R_base2 HO_5.out)); have HO604 := aM (ho); clear HO_5 ho hb hg hat))
        go_roundg k1
        case measure => have := HK1.out; omega
        case rel => exact ⟨(y602), (wrap64 (x9_1 + 1)), (t600), (ex), H', ⟨by have := HK1.out; omega⟩, aM (rq (rM HO604.out (fun _ hk => trivial))), ⟨sq HI0.out⟩, ⟨hq⟩, ⟨bq⟩⟩
       ·rw [if_neg c28] at H
        exact absurd H (by simp)
      ·rw [if_neg c25] at H
       have c25b0 : (t584 == 2) = false := beq_eq_false_iff_ne.mpr c25
       have c25b1 : (t584 != 2) = true := bne_iff_ne.mpr c25
       by_cases c34 : t584 = 3
       ·rw [if_pos c34] at H
        have c34b0 : (t584 == 3) = true := beq_iff_eq.mpr c34
        have c34b1 : (t584 != 3) = false := bne_eq_false_iff_eq.mpr c34
        clear c34
        replace H := bo H
        obtain ⟨⟨t605, t606⟩, A35, H⟩ := H
        replace H := bz H
        replace H := bo H
        obtain ⟨t607, A36, H⟩ := H
        replace H := bz H
        by_cases c37 : x5_1.length < 17592186044416
        ·rw [if_pos c37] at H
         have LMc37 := aM c37
         clear c37
         obtain ⟨y608, hy608⟩ : ∃ y_ : List Int, y_ = (x5_1 ++ [t607]) := ⟨_, rfl⟩
         replace H : (spec_l1Samples.l0 k1 a1 y608 t577 t582 t584 (wrap64 (x9_1 + 1)) s0_0 t606) = some (r1, r2) := hl hy608 H
         have Ny608 := aM hy608
         clear hy608
         have H' := aM H
         clear H
         go_wp2_with (first | ((with_reducible refine gate_callee (f := 129) rfl ?_); refine goesL_ (some 45) rfl rfl Try.func129 kr rfl #[.pointer (some ⟨g, 0, none⟩), .int .i64 20] rfl mq ?_; (with_reducible refine (spec_l1Signed.calls g s0_0 x1001_1 20 t605 t606 w0 _ ?side1 ?side2 A35.out).mono ?_); (case side1 => exact sq HI0.out); (case side2 => exact bq); rintro e w38 ⟨rfl, hi, hb, hk⟩; refine ⟨_, rfl, ?_⟩; replace HO_5 := aM (rM (Kd.R_keep (IsS149.apart (show IsS149 w0 _ g s0_0 x1001_1 from sq HI0.out) (rq HO_5.out) (by decide)) hk (fun _ h => h.2)) (fun _ h => h.1)); replace HK := aM (KeepBut.trans hq hk (.inl rfl)); replace HB := aM (hb); replace HI0 := aM (hi); (try clear hb)) | ((with_reducible refine gate_callee (f := 148) rfl ?_); refine goesL_ (some 49) rfl rfl Try.func148 kr rfl #[.int .i64 (wrap64 ((wrap64 (t577 + (wrap64 (t582 * x9_1)))) + t605))] rfl mq ?_; (with_reducible refine (spec_Clamp16.calls (wrap64 ((wrap64 (t577 + (wrap64 (t582 * x9_1)))) + t605)) t607 _ A36.out).mono ?_); rintro e w' ⟨rfl, ⟨nd, rfl⟩⟩; refine ⟨_, rfl, ?_⟩) | ((with_reducible refine gate_builtin (b := .append) (xs := #[.tmp 47, .tmp 50]) rfl ?_); at_builtin; refine Kd.R_append (Kd.int .i64) w.heap.size rfl (.tmp 47) (.tmp 50) 22 2 (.int .i64 0) 8 rfl Try.underlying22 info2 rfl (by decide) (by omega) u5 x5_1 t607 [.int .i64 t607] (fun _ => True) (fun _ => False) rfl rfl ?aP (fun _ hk => hk.elim) ?aF ?aO (Below.refl _ _) ?aS ?aL ?_; (case aP => exact rfl); (case aF => exact (fun _ _ => trivial)); (case aO => exact (rq HO_5.out)); (case aS => exact (keep_size (w := w) (g := g) (row := none) hq)); (case aL => have := LMc37.out; omega); intro v609 w39 ho hb hg hat; rw [← Ny608.out] at ho; replace HB := aM (below_weaken bq HL.out hb); replace HI0 := aM (IsS149.grown (sq HI0.out) hg (IsS149.own_ne HI0.out HO_5.out (by decide))); replace HK := aM (KeepBut.trans hq (KeepBut.of_grown hg g) (Kd.R_base2 HO_5.out)); have HO610 := aM (ho); clear HO_5 ho hb hg hat))
         go_roundg k1
         case measure => have := HK1.out; omega
         case rel => exact ⟨(y608), (wrap64 (x9_1 + 1)), (t606), (ex), H', ⟨by have := HK1.out; omega⟩, aM (rq HO610.out), ⟨sq HI0.out⟩, ⟨hq⟩, ⟨bq⟩⟩
        ·rw [if_neg c37] at H
         exact absurd H (by simp)
       ·rw [if_neg c34] at H
        have c34b0 : (t584 == 3) = false := beq_eq_false_iff_ne.mpr c34
        have c34b1 : (t584 != 3) = true := bne_iff_ne.mpr c34
        replace H := bo H
        obtain ⟨t611, A40, H⟩ := H
        replace H := bz H
        by_cases c41 : x5_1.length < 17592186044416
        ·rw [if_pos c41] at H
         have LMc41 := aM c41
         clear c41
         obtain ⟨y612, hy612⟩ : ∃ y_ : List Int, y_ = (x5_1 ++ [t611]) := ⟨_, rfl⟩
         replace H : (spec_l1Samples.l0 k1 a1 y612 t577 t582 t584 (wrap64 (x9_1 + 1)) s0_0 x1001_1) = some (r1, r2) := hl hy612 H
         have Ny612 := aM hy612
         clear hy612
         have H' := aM H
         clear H
         go_wp2_with (first | ((with_reducible refine gate_callee (f := 148) rfl ?_); refine goesL_ (some 49) rfl rfl Try.func148 kr rfl #[.int .i64 (wrap64 (t577 + (wrap64 (t582 * x9_1))))] rfl mq ?_; (with_reducible refine (spec_Clamp16.calls (wrap64 (t577 + (wrap64 (t582 * x9_1)))) t611 _ A40.out).mono ?_); rintro e w' ⟨rfl, ⟨nd, rfl⟩⟩; refine ⟨_, rfl, ?_⟩) | ((with_reducible refine gate_builtin (b := .append) (xs := #[.tmp 47, .tmp 50]) rfl ?_); at_builtin; refine Kd.R_append (Kd.int .i64) w.heap.size rfl (.tmp 47) (.tmp 50) 22 2 (.int .i64 0) 8 rfl Try.underlying22 info2 rfl (by decide) (by omega) u5 x5_1 t611 [.int .i64 t611] (fun _ => True) (fun _ => False) rfl rfl ?aP (fun _ hk => hk.elim) ?aF ?aO (Below.refl _ _) ?aS ?aL ?_; (case aP => exact rfl); (case aF => exact (fun _ _ => trivial)); (case aO => exact (rq HO_5.out)); (case aS => exact (keep_size (w := w) (g := g) (row := none) hq)); (case aL => have := LMc41.out; omega); intro v613 w42 ho hb hg hat; rw [← Ny612.out] at ho; replace HB := aM (below_weaken bq HL.out hb); replace HI0 := aM (IsS149.grown (sq HI0.out) hg (IsS149.own_ne HI0.out HO_5.out (by decide))); replace HK := aM (KeepBut.trans hq (KeepBut.of_grown hg g) (Kd.R_base2 HO_5.out)); have HO614 := aM (ho); clear HO_5 ho hb hg hat))
         go_roundg k1
         case measure => have := HK1.out; omega
         case rel => exact ⟨(y612), (wrap64 (x9_1 + 1)), (x1001_1), (ex), H', ⟨by have := HK1.out; omega⟩, aM (rq HO614.out), ⟨sq HI0.out⟩, ⟨hq⟩, ⟨bq⟩⟩
        ·rw [if_neg c41] at H
         exact absurd H (by simp)
   ·rw [if_neg c14] at H
    have c14b0 : decide (x9_1 < a1) = false := decide_eq_false c14
    clear c14
    simp only [Option.some.injEq, Prod.mk.injEq] at H
    obtain ⟨rfl, rfl⟩ := H
    go_wp2
    go_ret
    exact ⟨_, ew, by (with_reducible repeat (first | apply rA | apply rN | apply rD)); exact HO_5.out, sq HI0.out, bq, hq⟩

/-! ### spec_l20Fate: function 152 -/
def spec_l20Fate.j0 : Nat → Int → Bool → List Int → Int → Option (Int × Int × Int × Int × Int)
 | 0, _, _, _, _ => none
 | k + 1, x14, x15, x1000, x1001 => if x15 = true then (some (0, 0, 0, 0, x1001)) else (if x14 = 2 then ((spec_l1Next.f x1000 x1001 7).bind fun bt625 => (some (2, bt625.1, 0, 0, bt625.2))) else (if x14 = 3 then ((spec_l1Next.f x1000 x1001 3).bind fun bt627 => ((spec_l1Next.f x1000 bt627.2 90).bind fun bt629 => ((spec_l1Next.f x1000 bt629.2 300).bind fun bt631 => ((spec_l1Pick.f x1000 bt631.2 (([bt629.1, bt631.1, 0] : List Int))).bind fun bt636 => ((spec_l1Next.f x1000 bt636.2 65535).bind fun bt638 => ((spec_l1Pick.f x1000 bt638.2 (([1, 3, 65535, wrap64 (1 + bt638.1)] : List Int))).bind fun bt643 => (some (3, bt627.1, bt636.1, bt643.1, bt643.2)))))))) else ((spec_l1Next.f x1000 x1001 7).bind fun bt645 => (some (1, bt645.1, 0, 0, bt645.2)))))
def spec_l20Fate.f (k : Nat) (s0_0 : List Int) (s0_1 : Int) (a1 : Int) : Option (Int × Int × Int × Int × Int) := (spec_l1Next.f s0_0 s0_1 10).bind fun bt616 => (if bt616.1 < a1 then ((spec_l1Pick.f s0_0 bt616.2 (([0, 0, 0, 1] : List Int))).bind fun bt621 => (some (1, bt621.1, 0, 0, bt621.2))) else ((spec_l1Next.f s0_0 bt616.2 5).bind fun bt623 => (if bt623.1 = 0 then (spec_l20Fate.j0 k bt623.1 (bt623.1 == 0) s0_0 bt623.2) else (spec_l20Fate.j0 k bt623.1 (bt623.1 == 1) s0_0 bt623.2))))
theorem spec_l20Fate.mono_l : ∀ k, (∀ y0 y1 y2 y3, LeO (spec_l20Fate.j0 k y0 y1 y2 y3) (spec_l20Fate.j0 (k + 1) y0 y1 y2 y3))
 | 0 => fun _ _ _ _ r h => by simp [spec_l20Fate.j0] at h
 | k + 1 => by
  have ih0 := spec_l20Fate.mono_l k
  ·intro y0 y1 y2 y3
   unfold spec_l20Fate.j0
   repeat' first
   | (with_reducible exact ih0 _ _ _ _)
   | (with_reducible exact LeO.refl _)
   | (with_reducible exact LeO.none _)
   | (with_reducible refine LeO.ite ?_ ?_)
   | (with_reducible refine LeO.bind ?_ (fun _ => ?_))
   | exact ih0 _ _ _ _
   | exact LeO.none _
   | refine LeO.ite ?_ ?_
   | refine LeO.bind ?_ (fun _ => ?_)
theorem spec_l20Fate.mono : ∀ a0 a1 a2 k, LeO (spec_l20Fate.f k a0 a1 a2) (spec_l20Fate.f (k + 1) a0 a1 a2) := by
 intro a0 a1 a2 k
 have ih0 := spec_l20Fate.mono_l k
 unfold spec_l20Fate.f
 repeat' first
   | (with_reducible exact ih0 _ _ _ _)
   | (with_reducible exact LeO.refl _)
   | (with_reducible exact LeO.none _)
   | (with_reducible refine LeO.ite ?_ ?_)
   | (with_reducible refine LeO.bind ?_ (fun _ => ?_))
   | exact ih0 _ _ _ _
   | exact LeO.none _
   | refine LeO.ite ?_ ?_
   | refine LeO.bind ?_ (fun _ => ?_)
set_option maxHeartbeats 8000000 in
set_option maxRecDepth 100000 in
theorem spec_l20Fate.calls (k : Nat) (g : Nat) (s0_0 : List Int) (s0_1 : Int) (a1 : Int) (r1 : Int) (r2 : Int) (r3 : Int) (r4 : Int) (r5 : Int) (w0 w : World) (hI : IsS149 w0 w g s0_0 s0_1) (hB : Below w0.heap.size w0 w) (h : spec_l20Fate.f k s0_0 s0_1 a1 = some (r1, r2, r3, r4, r5)) :
  Calls Try.prog 152 #[.pointer (some ⟨g, 0, none⟩), .int .i64 a1] w fun e w' => e = .returned (.agg #[.int .i64 r1, .int .i64 r2, .int .i64 r3, .int .i64 r4]) ∧ IsS149 w0 w' g s0_0 r5 ∧ Below w0.heap.size w0 w' ∧ KeepBut w w' g none := by
 have hu82 := Try.underlying82
 have HI0 := aM hI
 have HK := aM (KeepBut.refl w g none)
 have HL := aM hB.size
 clear hI
 have HW0 := aM hB.size
 have HB := aM hB
 clear hB
 have H : ((spec_l1Next.f s0_0 s0_1 10).bind fun bt616 => (if bt616.1 < a1 then ((spec_l1Pick.f s0_0 bt616.2 (([0, 0, 0, 1] : List Int))).bind fun bt621 => (some (1, bt621.1, 0, 0, bt621.2))) else ((spec_l1Next.f s0_0 bt616.2 5).bind fun bt623 => (if bt623.1 = 0 then (spec_l20Fate.j0 k bt623.1 (bt623.1 == 0) s0_0 bt623.2) else (spec_l20Fate.j0 k bt623.1 (bt623.1 == 1) s0_0 bt623.2))))) = some (r1, r2, r3, r4, r5) := h
 clear h
 replace H := bo H
 obtain ⟨⟨t616, t617⟩, A3, H⟩ := H
 replace H := bz H
 by_cases c4 : t616 < a1
 ·rw [if_pos c4] at H
  have c4b0 : decide (t616 < a1) = true := decide_eq_true c4
  clear c4
  obtain ⟨y618, hy618⟩ : ∃ y_ : List Int, y_ = (([0, 0, 0, 1] : List Int)) := ⟨_, rfl⟩
  replace H : ((spec_l1Pick.f s0_0 t617 y618).bind fun bt621 => (some (1, bt621.1, 0, 0, bt621.2))) = some (r1, r2, r3, r4, r5) := hl hy618 H
  have Ny618 := aM hy618
  clear hy618
  replace H := bo H
  obtain ⟨⟨t621, t622⟩, A5, H⟩ := H
  replace H := bz H
  simp only [Option.some.injEq, Prod.mk.injEq] at H
  obtain ⟨rfl, rfl, rfl, rfl, rfl⟩ := H
  go_enter Try.func152, Try.ntmps152
  go_wp2_with (first | ((with_reducible refine gate_dst (N := 4) rfl ?_); refine box_event ?hg (N := 4) ?hd (cs := #[.int .i64 0, .int .i64 0, .int .i64 0, .int .i64 0]) (t := 82) ?hr ?_; (case hd => rfl); (case hg => rfl); (case hr => first | (go_simp; done) | (go_simp; rfl)); intro gb615 hg w6 hbox hb; replace HB := aM (bT bq hb); have BK615 := aM (hbox); have GW615 := aM ((by rw [hg]; exact (keep_size (w := w) (g := g) (row := none) hq) : w.heap.size ≤ gb615)); have GE615 := aM ((Nat.le_trans HW0.out (by rw [hg]; exact (keep_size (w := w) (g := g) (row := none) hq) : w.heap.size ≤ gb615) : w0.heap.size ≤ gb615)); replace HK := aM (KeepBut.trans hq (KeepBut.of_below hb g none) (.inl rfl)); have NB0_615 := aM ((by rw [hg]; exact Nat.ne_of_lt (IsS149.lt (show IsS149 w0 _ g s0_0 s0_1 from sq HI0.out)) : g ≠ gb615)); have NB615_0 := aM ((by rw [hg]; exact Nat.ne_of_gt (IsS149.lt (show IsS149 w0 _ g s0_0 s0_1 from sq HI0.out)) : gb615 ≠ g)); replace HI0 := aM (IsS149.below (sq HI0.out) hb); clear hb hbox hg) | ((with_reducible refine gate_callee (f := 94) rfl ?_); refine goesL_ (some 6) rfl rfl Try.func94 kr rfl #[.pointer (some ⟨g, 0, none⟩), .int .i64 10] rfl mq ?_; (with_reducible refine (spec_l1Next.calls g s0_0 s0_1 10 t616 t617 w0 _ ?side1 ?side2 A3.out).mono ?_); (case side1 => exact sq HI0.out); (case side2 => exact bq); rintro e w7 ⟨rfl, hi, hb, hk⟩; refine ⟨_, rfl, ?_⟩; replace BK615 := aM (KeepBut.blk hk (kq BK615.out) NB615_0.out (by simp)); replace HK := aM (KeepBut.trans hq hk (.inl rfl)); replace HB := aM (hb); replace HI0 := aM (hi); (try clear hb)) | ((with_reducible refine gate_dst (N := 10) rfl ?_); refine Kd.R_lit (Kd.int .i64) _ 2 ?hg (N := 10) ?hd (xs := ([0, 0, 0, 1] : List Int)) (inner := [.int .i64 0, .int .i64 0, .int .i64 0, .int .i64 1]) (ok := fun _ => True) (okp := fun _ => True) ?hr ?hp (fun _ hk => hk) trivial (Below.refl _ _) (Nat.le_refl _) (by simp) ?_; (case hd => rfl); (case hg => rfl); (case hr => first | (go_simp; done) | (go_simp; rfl)); (case hp => exact (Reps.one (show Kd.M (Kd.int .i64) _ _ _ 0 [.int .i64 0] from rfl) (Reps.one (show Kd.M (Kd.int .i64) _ _ _ 0 [.int .i64 0] from rfl) (Reps.one (show Kd.M (Kd.int .i64) _ _ _ 0 [.int .i64 0] from rfl) (Reps.one (show Kd.M (Kd.int .i64) _ _ _ 1 [.int .i64 1] from rfl) (Reps.none _ _)))))); intro v619 w8 ho9 hb hg_ hnew_; clear hg_ hnew_; (first | rw [← Ny618.out] at ho9 | (simp only [Int.reduceToNat] at ho9; rw [← Ny618.out] at ho9)); have HO620 := aM (rG ho9 (keep_size (w := w) (g := g) (row := none) hq)); replace BK615 := aM (kB (kq BK615.out) hb); replace HK := aM (KeepBut.trans hq (KeepBut.of_below hb g none) (.inl rfl)); replace HB := aM (bT bq hb); replace HI0 := aM (IsS149.below (sq HI0.out) hb); clear hb ho9; obtain ⟨Ao10, co10, eo10⟩ := Kd.R_slice HO620.out; subst eo10) | ((with_reducible refine gate_callee (f := 86) rfl ?_); refine goesL_ (some 11) rfl rfl Try.func86 kr rfl #[.pointer (some ⟨g, 0, none⟩), .slice Ao10 y618.length co10] rfl mq ?_; (with_reducible refine (spec_l1Pick.calls g s0_0 t617 _ _ y618 t621 t622 w0 _ ?side1 ?side2 ?side3 ?side4 ?side5 A5.out).mono ?_); (case side1 => exact sq HI0.out); (case side2 => exact bq); (case side3 => exact cq (rR HO620.out).2.2); (case side4 => exact (rR HO620.out).2.1); (case side5 => exact far_slice (IsS149.own_ne HI0.out HO620.out (by decide))); rintro e w11 ⟨rfl, hi, hb, hk⟩; refine ⟨_, rfl, ?_⟩; replace BK615 := aM (KeepBut.blk hk (kq BK615.out) NB615_0.out (by simp)); replace HO620 := aM (rM (Kd.R_keep (IsS149.apart (show IsS149 w0 _ g s0_0 t617 from sq HI0.out) (rq HO620.out) (by decide)) hk (fun _ h => h.2)) (fun _ h => h.1)); replace HK := aM (KeepBut.trans hq hk (.inl rfl)); replace HB := aM (hb); replace HI0 := aM (hi); (try clear hb); have hnb12 := NB615_0.out; have hnc12 := NB0_615.out; have hcz13_0 : w11.cell? ⟨gb615, 0, none⟩ = some (.int .i64 0) := cc; have hcz13_1 : w11.cell? ⟨gb615, 1, none⟩ = some (.int .i64 0) := cc; have hcz13_2 : w11.cell? ⟨gb615, 2, none⟩ = some (.int .i64 0) := cc; have hcz13_3 : w11.cell? ⟨gb615, 3, none⟩ = some (.int .i64 0) := cc; have hfz13_0 := kF BK615.out 0; have hfz13_1 := kF BK615.out 1; have hfz13_2 := kF BK615.out 2; have hfz13_3 := kF BK615.out 3))
  refine bodyPost_ret (results_cell_row rfl _ _ gb615 82 #[.int .i64 1, .int .i64 t621, .int .i64 0, .int .i64 0] (0, 0) _ rfl (fq BK615.out) Try.underlying82 rfl kr) rfl ?_
  exact ⟨ew, sq HI0.out, bq, hq⟩
 ·rw [if_neg c4] at H
  have c4b0 : decide (t616 < a1) = false := decide_eq_false c4
  clear c4
  replace H := bo H
  obtain ⟨⟨t623, t624⟩, A14, H⟩ := H
  replace H := bz H
  have HC15 := aM H
  clear H
  go_enter Try.func152, Try.ntmps152
  go_upto_if 15 with (first | ((with_reducible refine gate_dst (N := 4) rfl ?_); refine box_event ?hg (N := 4) ?hd (cs := #[.int .i64 0, .int .i64 0, .int .i64 0, .int .i64 0]) (t := 82) ?hr ?_; (case hd => rfl); (case hg => rfl); (case hr => first | (go_simp; done) | (go_simp; rfl)); intro gb615 hg w16 hbox hb; replace HB := aM (bT bq hb); have BK615 := aM (hbox); have GW615 := aM ((by rw [hg]; exact (keep_size (w := w) (g := g) (row := none) hq) : w.heap.size ≤ gb615)); have GE615 := aM ((Nat.le_trans HW0.out (by rw [hg]; exact (keep_size (w := w) (g := g) (row := none) hq) : w.heap.size ≤ gb615) : w0.heap.size ≤ gb615)); replace HK := aM (KeepBut.trans hq (KeepBut.of_below hb g none) (.inl rfl)); have NB0_615 := aM ((by rw [hg]; exact Nat.ne_of_lt (IsS149.lt (show IsS149 w0 _ g s0_0 s0_1 from sq HI0.out)) : g ≠ gb615)); have NB615_0 := aM ((by rw [hg]; exact Nat.ne_of_gt (IsS149.lt (show IsS149 w0 _ g s0_0 s0_1 from sq HI0.out)) : gb615 ≠ g)); replace HI0 := aM (IsS149.below (sq HI0.out) hb); clear hb hbox hg) | ((with_reducible refine gate_callee (f := 94) rfl ?_); refine goesL_ (some 6) rfl rfl Try.func94 kr rfl #[.pointer (some ⟨g, 0, none⟩), .int .i64 10] rfl mq ?_; (with_reducible refine (spec_l1Next.calls g s0_0 s0_1 10 t616 t617 w0 _ ?side1 ?side2 A3.out).mono ?_); (case side1 => exact sq HI0.out); (case side2 => exact bq); rintro e w17 ⟨rfl, hi, hb, hk⟩; refine ⟨_, rfl, ?_⟩; replace BK615 := aM (KeepBut.blk hk (kq BK615.out) NB615_0.out (by simp)); replace HK := aM (KeepBut.trans hq hk (.inl rfl)); replace HB := aM (hb); replace HI0 := aM (hi); (try clear hb)) | ((with_reducible refine gate_callee (f := 94) rfl ?_); refine goesL_ (some 14) rfl rfl Try.func94 kr rfl #[.pointer (some ⟨g, 0, none⟩), .int .i64 5] rfl mq ?_; (with_reducible refine (spec_l1Next.calls g s0_0 t617 5 t623 t624 w0 _ ?side1 ?side2 A14.out).mono ?_); (case side1 => exact sq HI0.out); (case side2 => exact bq); rintro e w18 ⟨rfl, hi, hb, hk⟩; refine ⟨_, rfl, ?_⟩; replace BK615 := aM (KeepBut.blk hk (kq BK615.out) NB615_0.out (by simp)); replace HK := aM (KeepBut.trans hq hk (.inl rfl)); replace HB := aM (hb); replace HI0 := aM (hi); (try clear hb)))
  (try simp only [Act.put, pa, pb, pc])
  go_cut [15] (fun v15 wc => ∃ (kq : Nat) (x15_14 : Bool), v15 = .bool x15_14 ∧ Aside0 (spec_l20Fate.j0 kq t623 x15_14 s0_0 t624 = some (r1, r2, r3, r4, r5)) ∧ Aside0 (kq ≤ k) ∧ Aside0 (wc.heap[gb615]? = some (.cells #[.int .i64 0, .int .i64 0, .int .i64 0, .int .i64 0] 82 (0, 0))) ∧ Aside0 (IsS149 w0 wc g s0_0 t624) ∧ Aside0 (KeepBut w wc g none) ∧ Aside0 (Below w0.heap.size w0 wc))
  case first =>
   have H := HC15.out
   clear HC15
   by_cases c19 : t623 = 0
   ·rw [if_pos c19] at H
    have c19b0 : (t623 == 0) = true := beq_iff_eq.mpr c19
    have c19b1 : (t623 != 0) = false := bne_eq_false_iff_eq.mpr c19
    clear c19
    (first | rw [c19b0] | (simp only [i64_w, i32_w]; rw [c19b0]) | skip)
    have H' := aM H
    clear H
    go_wp2
    go_meet
    case rel => exact ⟨_, ((t623 == 0)), (ex), H', ⟨by first | omega | exact Nat.le_refl _⟩, aM (kq BK615.out), ⟨sq HI0.out⟩, ⟨hq⟩, ⟨bq⟩⟩
   ·rw [if_neg c19] at H
    have c19b0 : (t623 == 0) = false := beq_eq_false_iff_ne.mpr c19
    have c19b1 : (t623 != 0) = true := bne_iff_ne.mpr c19
    (first | rw [c19b0] | (simp only [i64_w, i32_w]; rw [c19b0]) | skip)
    have H' := aM H
    clear H
    go_wp2
    go_meet
    case rel => exact ⟨_, ((t623 == 1)), (ex), H', ⟨by first | omega | exact Nat.le_refl _⟩, aM (kq BK615.out), ⟨sq HI0.out⟩, ⟨hq⟩, ⟨bq⟩⟩
  case rest =>
   clear HC15
   try clear c1
   try clear p2
   try clear c4
   try clear c4b0
   try clear c8
   try clear c9
   try clear c12
   try clear c15
   try clear c19
   try clear c19b0
   try clear c19b1
   try clear hcz13_0
   try clear hcz13_1
   try clear hcz13_2
   try clear hcz13_3
   try clear hfz13_0
   try clear hfz13_1
   try clear hfz13_2
   try clear hfz13_3
   obtain ⟨kq, x15_14, rfl, HA, HJ14, BK615, HI0, HK, HB⟩ := hcut
   cases kq with
   | zero => exact absurd HA.out (by simp [spec_l20Fate.j0])
   | succ kj14 =>
    have H := HA.out
    clear HA
    simp only [spec_l20Fate.j0] at H
    by_cases c20 : x15_14 = true
    ·subst c20
     have H1 : (some (0, 0, 0, 0, t624)) = some (r1, r2, r3, r4, r5) := by rw [if_pos rfl] at H; exact H
     clear H
     have H := H1
     clear H1
     simp only [Option.some.injEq, Prod.mk.injEq] at H
     obtain ⟨rfl, rfl, rfl, rfl, rfl⟩ := H
     have hnb21 := NB615_0.out
     have hnc21 := NB0_615.out
     have hcz22_0 : wc.cell? ⟨gb615, 0, none⟩ = some (.int .i64 0) := cc
     have hcz22_1 : wc.cell? ⟨gb615, 1, none⟩ = some (.int .i64 0) := cc
     have hcz22_2 : wc.cell? ⟨gb615, 2, none⟩ = some (.int .i64 0) := cc
     have hcz22_3 : wc.cell? ⟨gb615, 3, none⟩ = some (.int .i64 0) := cc
     have hfz22_0 := kF BK615.out 0
     have hfz22_1 := kF BK615.out 1
     have hfz22_2 := kF BK615.out 2
     have hfz22_3 := kF BK615.out 3
     go_wp2
     refine bodyPost_ret (results_cell_row rfl _ _ gb615 82 #[.int .i64 0, .int .i64 0, .int .i64 0, .int .i64 0] (0, 0) _ rfl (fq BK615.out) Try.underlying82 rfl kr) rfl ?_
     exact ⟨ew, sq HI0.out, bq, hq⟩
    ·replace c20 := Bool.eq_false_iff.mpr c20
     subst c20
     have H1 : (if t623 = 2 then ((spec_l1Next.f s0_0 t624 7).bind fun bt625 => (some (2, bt625.1, 0, 0, bt625.2))) else (if t623 = 3 then ((spec_l1Next.f s0_0 t624 3).bind fun bt627 => ((spec_l1Next.f s0_0 bt627.2 90).bind fun bt629 => ((spec_l1Next.f s0_0 bt629.2 300).bind fun bt631 => ((spec_l1Pick.f s0_0 bt631.2 (([bt629.1, bt631.1, 0] : List Int))).bind fun bt636 => ((spec_l1Next.f s0_0 bt636.2 65535).bind fun bt638 => ((spec_l1Pick.f s0_0 bt638.2 (([1, 3, 65535, wrap64 (1 + bt638.1)] : List Int))).bind fun bt643 => (some (3, bt627.1, bt636.1, bt643.1, bt643.2)))))))) else ((spec_l1Next.f s0_0 t624 7).bind fun bt645 => (some (1, bt645.1, 0, 0, bt645.2))))) = some (r1, r2, r3, r4, r5) := by rw [if_neg (show ¬ (false = true) by decide)] at H; exact H
     clear H
     have H := H1
     clear H1
     by_cases c23 : t623 = 2
     ·rw [if_pos c23] at H
      have c23b0 : (t623 == 2) = true := beq_iff_eq.mpr c23
      have c23b1 : (t623 != 2) = false := bne_eq_false_iff_eq.mpr c23
      clear c23
      replace H := bo H
      obtain ⟨⟨t625, t626⟩, A24, H⟩ := H
      replace H := bz H
      simp only [Option.some.injEq, Prod.mk.injEq] at H
      obtain ⟨rfl, rfl, rfl, rfl, rfl⟩ := H
      go_wp2_with (first | ((with_reducible refine gate_callee (f := 94) rfl ?_); refine goesL_ (some 22) rfl rfl Try.func94 kr rfl #[.pointer (some ⟨g, 0, none⟩), .int .i64 7] rfl mq ?_; (with_reducible refine (spec_l1Next.calls g s0_0 t624 7 t625 t626 w0 _ ?side1 ?side2 A24.out).mono ?_); (case side1 => exact sq HI0.out); (case side2 => exact bq); rintro e w25 ⟨rfl, hi, hb, hk⟩; refine ⟨_, rfl, ?_⟩; replace BK615 := aM (KeepBut.blk hk (kq BK615.out) NB615_0.out (by simp)); replace HK := aM (KeepBut.trans hq hk (.inl rfl)); replace HB := aM (hb); replace HI0 := aM (hi); (try clear hb); have hnb26 := NB615_0.out; have hnc26 := NB0_615.out; have hcz27_0 : w25.cell? ⟨gb615, 0, none⟩ = some (.int .i64 0) := cc; have hcz27_1 : w25.cell? ⟨gb615, 1, none⟩ = some (.int .i64 0) := cc; have hcz27_2 : w25.cell? ⟨gb615, 2, none⟩ = some (.int .i64 0) := cc; have hcz27_3 : w25.cell? ⟨gb615, 3, none⟩ = some (.int .i64 0) := cc; have hfz27_0 := kF BK615.out 0; have hfz27_1 := kF BK615.out 1; have hfz27_2 := kF BK615.out 2; have hfz27_3 := kF BK615.out 3))
      refine bodyPost_ret (results_cell_row rfl _ _ gb615 82 #[.int .i64 2, .int .i64 t625, .int .i64 0, .int .i64 0] (0, 0) _ rfl (fq BK615.out) Try.underlying82 rfl kr) rfl ?_
      exact ⟨ew, sq HI0.out, bq, hq⟩
     ·rw [if_neg c23] at H
      have c23b0 : (t623 == 2) = false := beq_eq_false_iff_ne.mpr c23
      have c23b1 : (t623 != 2) = true := bne_iff_ne.mpr c23
      by_cases c28 : t623 = 3
      ·rw [if_pos c28] at H
       have c28b0 : (t623 == 3) = true := beq_iff_eq.mpr c28
       have c28b1 : (t623 != 3) = false := bne_eq_false_iff_eq.mpr c28
       clear c28
       replace H := bo H
       obtain ⟨⟨t627, t628⟩, A29, H⟩ := H
       replace H := bz H
       replace H := bo H
       obtain ⟨⟨t629, t630⟩, A30, H⟩ := H
       replace H := bz H
       replace H := bo H
       obtain ⟨⟨t631, t632⟩, A31, H⟩ := H
       replace H := bz H
       obtain ⟨y633, hy633⟩ : ∃ y_ : List Int, y_ = (([t629, t631, 0] : List Int)) := ⟨_, rfl⟩
       replace H : ((spec_l1Pick.f s0_0 t632 y633).bind fun bt636 => ((spec_l1Next.f s0_0 bt636.2 65535).bind fun bt638 => ((spec_l1Pick.f s0_0 bt638.2 (([1, 3, 65535, wrap64 (1 + bt638.1)] : List Int))).bind fun bt643 => (some (3, t627, bt636.1, bt643.1, bt643.2))))) = some (r1, r2, r3, r4, r5) := hl hy633 H
       have Ny633 := aM hy633
       clear hy633
       replace H := bo H
       obtain ⟨⟨t636, t637⟩, A32, H⟩ := H
       replace H := bz H
       replace H := bo H
       obtain ⟨⟨t638, t639⟩, A33, H⟩ := H
       replace H := bz H
       obtain ⟨y640, hy640⟩ : ∃ y_ : List Int, y_ = (([1, 3, 65535, wrap64 (1 + t638)] : List Int)) := ⟨_, rfl⟩
       replace H : ((spec_l1Pick.f s0_0 t639 y640).bind fun bt643 => (some (3, t627, t636, bt643.1, bt643.2))) = some (r1, r2, r3, r4, r5) := hl hy640 H
       have Ny640 := aM hy640
       clear hy640
       replace H := bo H
       obtain ⟨⟨t643, t644⟩, A34, H⟩ := H
       replace H := bz H
       simp only [Option.some.injEq, Prod.mk.injEq] at H
       obtain ⟨rfl, rfl, rfl, rfl, rfl⟩ := H
       go_wp2_with (first | ((with_reducible refine gate_callee (f := 94) rfl ?_); refine goesL_ (some 27) rfl rfl Try.func94 kr rfl #[.pointer (some ⟨g, 0, none⟩), .int .i64 3] rfl mq ?_; (with_reducible refine (spec_l1Next.calls g s0_0 t624 3 t627 t628 w0 _ ?side1 ?side2 A29.out).mono ?_); (case side1 => exact sq HI0.out); (case side2 => exact bq); rintro e w35 ⟨rfl, hi, hb, hk⟩; refine ⟨_, rfl, ?_⟩; replace BK615 := aM (KeepBut.blk hk (kq BK615.out) NB615_0.out (by simp)); replace HK := aM (KeepBut.trans hq hk (.inl rfl)); replace HB := aM (hb); replace HI0 := aM (hi); (try clear hb)) | ((with_reducible refine gate_callee (f := 94) rfl ?_); refine goesL_ (some 30) rfl rfl Try.func94 kr rfl #[.pointer (some ⟨g, 0, none⟩), .int .i64 90] rfl mq ?_; (with_reducible refine (spec_l1Next.calls g s0_0 t628 90 t629 t630 w0 _ ?side1 ?side2 A30.out).mono ?_); (case side1 => exact sq HI0.out); (case side2 => exact bq); rintro e w36 ⟨rfl, hi, hb, hk⟩; refine ⟨_, rfl, ?_⟩; replace BK615 := aM (KeepBut.blk hk (kq BK615.out) NB615_0.out (by simp)); replace HK := aM (KeepBut.trans hq hk (.inl rfl)); replace HB := aM (hb); replace HI0 := aM (hi); (try clear hb)) | ((with_reducible refine gate_callee (f := 94) rfl ?_); refine goesL_ (some 32) rfl rfl Try.func94 kr rfl #[.pointer (some ⟨g, 0, none⟩), .int .i64 300] rfl mq ?_; (with_reducible refine (spec_l1Next.calls g s0_0 t630 300 t631 t632 w0 _ ?side1 ?side2 A31.out).mono ?_); (case side1 => exact sq HI0.out); (case side2 => exact bq); rintro e w37 ⟨rfl, hi, hb, hk⟩; refine ⟨_, rfl, ?_⟩; replace BK615 := aM (KeepBut.blk hk (kq BK615.out) NB615_0.out (by simp)); replace HK := aM (KeepBut.trans hq hk (.inl rfl)); replace HB := aM (hb); replace HI0 := aM (hi); (try clear hb)) | ((with_reducible refine gate_dst (N := 33) rfl ?_); refine Kd.R_lit (Kd.int .i64) _ 2 ?hg (N := 33) ?hd (xs := ([t629, t631, 0] : List Int)) (inner := [.int .i64 t629, .int .i64 t631, .int .i64 0]) (ok := fun _ => True) (okp := fun _ => True) ?hr ?hp (fun _ hk => hk) trivial (Below.refl _ _) (Nat.le_refl _) (by simp) ?_; (case hd => rfl); (case hg => rfl); (case hr => first | (go_simp; done) | (go_simp; rfl)); (case hp => exact (Reps.one (show Kd.M (Kd.int .i64) _ _ _ t629 [.int .i64 t629] from rfl) (Reps.one (show Kd.M (Kd.int .i64) _ _ _ t631 [.int .i64 t631] from rfl) (Reps.one (show Kd.M (Kd.int .i64) _ _ _ 0 [.int .i64 0] from rfl) (Reps.none _ _))))); intro v634 w38 ho39 hb hg_ hnew_; clear hg_ hnew_; (first | rw [← Ny633.out] at ho39 | (simp only [Int.reduceToNat] at ho39; rw [← Ny633.out] at ho39)); have HO635 := aM (rG ho39 (keep_size (w := w) (g := g) (row := none) hq)); replace BK615 := aM (kB (kq BK615.out) hb); replace HK := aM (KeepBut.trans hq (KeepBut.of_below hb g none) (.inl rfl)); replace HB := aM (bT bq hb); replace HI0 := aM (IsS149.below (sq HI0.out) hb); clear hb ho39; obtain ⟨Ao40, co40, eo40⟩ := Kd.R_slice HO635.out; subst eo40) | ((with_reducible refine gate_callee (f := 86) rfl ?_); refine goesL_ (some 34) rfl rfl Try.func86 kr rfl #[.pointer (some ⟨g, 0, none⟩), .slice Ao40 y633.length co40] rfl mq ?_; (with_reducible refine (spec_l1Pick.calls g s0_0 t632 _ _ y633 t636 t637 w0 _ ?side1 ?side2 ?side3 ?side4 ?side5 A32.out).mono ?_); (case side1 => exact sq HI0.out); (case side2 => exact bq); (case side3 => exact cq (rR HO635.out).2.2); (case side4 => exact (rR HO635.out).2.1); (case side5 => exact far_slice (IsS149.own_ne HI0.out HO635.out (by decide))); rintro e w41 ⟨rfl, hi, hb, hk⟩; refine ⟨_, rfl, ?_⟩; replace BK615 := aM (KeepBut.blk hk (kq BK615.out) NB615_0.out (by simp)); replace HO635 := aM (rM (Kd.R_keep (IsS149.apart (show IsS149 w0 _ g s0_0 t632 from sq HI0.out) (rq HO635.out) (by decide)) hk (fun _ h => h.2)) (fun _ h => h.1)); replace HK := aM (KeepBut.trans hq hk (.inl rfl)); replace HB := aM (hb); replace HI0 := aM (hi); (try clear hb)) | ((with_reducible refine gate_callee (f := 94) rfl ?_); refine goesL_ (some 37) rfl rfl Try.func94 kr rfl #[.pointer (some ⟨g, 0, none⟩), .int .i64 65535] rfl mq ?_; (with_reducible refine (spec_l1Next.calls g s0_0 t637 65535 t638 t639 w0 _ ?side1 ?side2 A33.out).mono ?_); (case side1 => exact sq HI0.out); (case side2 => exact bq); rintro e w42 ⟨rfl, hi, hb, hk⟩; refine ⟨_, rfl, ?_⟩; replace BK615 := aM (KeepBut.blk hk (kq BK615.out) NB615_0.out (by simp)); replace HO635 := aM (rM (Kd.R_keep (IsS149.apart (show IsS149 w0 _ g s0_0 t637 from sq HI0.out) (rq HO635.out) (by decide)) hk (fun _ h => h.2)) (fun _ h => h.1)); replace HK := aM (KeepBut.trans hq hk (.inl rfl)); replace HB := aM (hb); replace HI0 := aM (hi); (try clear hb)) | ((with_reducible refine gate_dst (N := 39) rfl ?_); refine Kd.R_lit (Kd.int .i64) _ 2 ?hg (N := 39) ?hd (xs := ([1, 3, 65535, wrap64 (1 + t638)] : List Int)) (inner := [.int .i64 1, .int .i64 3, .int .i64 65535, .int .i64 (wrap64 (1 + t638))]) (ok := fun _ => True) (okp := fun _ => True) ?hr ?hp (fun _ hk => hk) trivial (Below.refl _ _) (Nat.le_refl _) (by simp) ?_; (case hd => rfl); (case hg => rfl); (case hr => first | (go_simp; done) | (go_simp; rfl)); (case hp => exact (Reps.one (show Kd.M (Kd.int .i64) _ _ _ 1 [.int .i64 1] from rfl) (Reps.one (show Kd.M (Kd.int .i64) _ _ _ 3 [.int .i64 3] from rfl) (Reps.one (show Kd.M (Kd.int .i64) _ _ _ 65535 [.int .i64 65535] from rfl) (Reps.one (show Kd.M (Kd.int .i64) _ _ _ (wrap64 (1 + t638)) [.int .i64 (wrap64 (1 + t638))] from rfl) (Reps.none _ _)))))); intro v641 w43 ho44 hb hg_ hnew_; clear hg_ hnew_; (first | rw [← Ny640.out] at ho44 | (simp only [Int.reduceToNat] at ho44; rw [← Ny640.out] at ho44)); have HO642 := aM (rG (rW ho44 (rT (rq HO635.out))) (keep_size (w := w) (g := g) (row := none) hq)); replace HO635 := aM (rH (rq HO635.out) (rB ho44) hb); replace BK615 := aM (kB (kq BK615.out) hb); replace HK := aM (KeepBut.trans hq (KeepBut.of_below hb g none) (.inl rfl)); replace HB := aM (bT bq hb); replace HI0 := aM (IsS149.below (sq HI0.out) hb); clear hb ho44; obtain ⟨Ao45, co45, eo45⟩ := Kd.R_slice HO642.out; subst eo45) | ((with_reducible refine gate_callee (f := 86) rfl ?_); refine goesL_ (some 40) rfl rfl Try.func86 kr rfl #[.pointer (some ⟨g, 0, none⟩), .slice Ao45 y640.length co45] rfl mq ?_; (with_reducible refine (spec_l1Pick.calls g s0_0 t639 _ _ y640 t643 t644 w0 _ ?side1 ?side2 ?side3 ?side4 ?side5 A34.out).mono ?_); (case side1 => exact sq HI0.out); (case side2 => exact bq); (case side3 => exact cq (rR HO642.out).2.2); (case side4 => exact (rR HO642.out).2.1); (case side5 => exact far_slice (IsS149.own_ne HI0.out HO642.out (by decide))); rintro e w46 ⟨rfl, hi, hb, hk⟩; refine ⟨_, rfl, ?_⟩; replace BK615 := aM (KeepBut.blk hk (kq BK615.out) NB615_0.out (by simp)); replace HO635 := aM (rM (Kd.R_keep (IsS149.apart (show IsS149 w0 _ g s0_0 t639 from sq HI0.out) (rq HO635.out) (by decide)) hk (fun _ h => h.2)) (fun _ h => h.1)); replace HO642 := aM (rM (Kd.R_keep (IsS149.apart (show IsS149 w0 _ g s0_0 t639 from sq HI0.out) (rq HO642.out) (by decide)) hk (fun _ h => h.2)) (fun _ h => h.1)); replace HK := aM (KeepBut.trans hq hk (.inl rfl)); replace HB := aM (hb); replace HI0 := aM (hi); (try clear hb); have hnb47 := NB615_0.out; have hnc47 := NB0_615.out; have hcz48_0 : w46.cell? ⟨gb615, 0, none⟩ = some (.int .i64 0) := cc; have hcz48_1 : w46.cell? ⟨gb615, 1, none⟩ = some (.int .i64 0) := cc; have hcz48_2 : w46.cell? ⟨gb615, 2, none⟩ = some (.int .i64 0) := cc; have hcz48_3 : w46.cell? ⟨gb615, 3, none⟩ = some (.int .i64 0) := cc; have hfz48_0 := kF BK615.out 0; have hfz48_1 := kF BK615.out 1; have hfz48_2 := kF BK615.out 2; have hfz48_3 := kF BK615.out 3))
       refine bodyPost_ret (results_cell_row rfl _ _ gb615 82 #[.int .i64 3, .int .i64 t627, .int .i64 t636, .int .i64 t643] (0, 0) _ rfl (fq BK615.out) Try.underlying82 rfl kr) rfl ?_
       exact ⟨ew, sq HI0.out, bq, hq⟩
      ·rw [if_neg c28] at H
       have c28b0 : (t623 == 3) = false := beq_eq_false_iff_ne.mpr c28
       have c28b1 : (t623 != 3) = true := bne_iff_ne.mpr c28
       replace H := bo H
       obtain ⟨⟨t645, t646⟩, A49, H⟩ := H
       replace H := bz H
       simp only [Option.some.injEq, Prod.mk.injEq] at H
       obtain ⟨rfl, rfl, rfl, rfl, rfl⟩ := H
       go_wp2_with (first | ((with_reducible refine gate_callee (f := 94) rfl ?_); refine goesL_ (some 43) rfl rfl Try.func94 kr rfl #[.pointer (some ⟨g, 0, none⟩), .int .i64 7] rfl mq ?_; (with_reducible refine (spec_l1Next.calls g s0_0 t624 7 t645 t646 w0 _ ?side1 ?side2 A49.out).mono ?_); (case side1 => exact sq HI0.out); (case side2 => exact bq); rintro e w50 ⟨rfl, hi, hb, hk⟩; refine ⟨_, rfl, ?_⟩; replace BK615 := aM (KeepBut.blk hk (kq BK615.out) NB615_0.out (by simp)); replace HK := aM (KeepBut.trans hq hk (.inl rfl)); replace HB := aM (hb); replace HI0 := aM (hi); (try clear hb); have hnb51 := NB615_0.out; have hnc51 := NB0_615.out; have hcz52_0 : w50.cell? ⟨gb615, 0, none⟩ = some (.int .i64 0) := cc; have hcz52_1 : w50.cell? ⟨gb615, 1, none⟩ = some (.int .i64 0) := cc; have hcz52_2 : w50.cell? ⟨gb615, 2, none⟩ = some (.int .i64 0) := cc; have hcz52_3 : w50.cell? ⟨gb615, 3, none⟩ = some (.int .i64 0) := cc; have hfz52_0 := kF BK615.out 0; have hfz52_1 := kF BK615.out 1; have hfz52_2 := kF BK615.out 2; have hfz52_3 := kF BK615.out 3))
       refine bodyPost_ret (results_cell_row rfl _ _ gb615 82 #[.int .i64 1, .int .i64 t645, .int .i64 0, .int .i64 0] (0, 0) _ rfl (fq BK615.out) Try.underlying82 rfl kr) rfl ?_
       exact ⟨ew, sq HI0.out, bq, hq⟩

/-! ### spec_l1Chance: function 123 -/
def spec_l1Chance.f (s0_0 : List Int) (s0_1 : Int) (a1 : Int) : Option (Bool × Int) := (spec_l1Next.f s0_0 s0_1 a1).bind fun bt647 => (some ((bt647.1 == 0), bt647.2))
set_option maxHeartbeats 8000000 in
set_option maxRecDepth 100000 in
theorem spec_l1Chance.calls (g : Nat) (s0_0 : List Int) (s0_1 : Int) (a1 : Int) (r1 : Bool) (r2 : Int) (w0 w : World) (hI : IsS149 w0 w g s0_0 s0_1) (hB : Below w0.heap.size w0 w) (h : spec_l1Chance.f s0_0 s0_1 a1 = some (r1, r2)) :
  Calls Try.prog 123 #[.pointer (some ⟨g, 0, none⟩), .int .i64 a1] w fun e w' => e = .returned (.bool r1) ∧ IsS149 w0 w' g s0_0 r2 ∧ Below w0.heap.size w0 w' ∧ KeepBut w w' g none := by
 have HI0 := aM hI
 have HK := aM (KeepBut.refl w g none)
 have HL := aM hB.size
 clear hI
 have HW0 := aM hB.size
 have HB := aM hB
 clear hB
 have H : ((spec_l1Next.f s0_0 s0_1 a1).bind fun bt647 => (some ((bt647.1 == 0), bt647.2))) = some (r1, r2) := h
 clear h
 replace H := bo H
 obtain ⟨⟨t647, t648⟩, A3, H⟩ := H
 replace H := bz H
 simp only [Option.some.injEq, Prod.mk.injEq] at H
 obtain ⟨rfl, rfl⟩ := H
 go_enter Try.func123, Try.ntmps123
 go_wp2_with (first | ((with_reducible refine gate_callee (f := 94) rfl ?_); refine goesL_ (some 7) rfl rfl Try.func94 kr rfl #[.pointer (some ⟨g, 0, none⟩), .int .i64 a1] rfl mq ?_; (with_reducible refine (spec_l1Next.calls g s0_0 s0_1 a1 t647 t648 w0 _ ?side1 ?side2 A3.out).mono ?_); (case side1 => exact sq HI0.out); (case side2 => exact bq); rintro e w4 ⟨rfl, hi, hb, hk⟩; refine ⟨_, rfl, ?_⟩; replace HK := aM (KeepBut.trans hq hk (.inl rfl)); replace HB := aM (hb); replace HI0 := aM (hi); (try clear hb)))
 go_ret
 exact ⟨ew, sq HI0.out, bq, hq⟩

/-! ### spec_l20Back: function 153 -/
def spec_l20Back.f (s0_0 : List Int) (s0_1 : Int) : Option (Int × Int × Int × Int × Int) := (spec_l1Chance.f s0_0 s0_1 4).bind fun bt650 => (if bt650.1 = true then (some (0, 0, 0, 0, bt650.2)) else ((spec_l1Pick.f s0_0 bt650.2 (([0, 0, 1, 3] : List Int))).bind fun bt655 => (some (1, bt655.1, 0, 0, bt655.2))))
set_option maxHeartbeats 8000000 in
set_option maxRecDepth 100000 in
theorem spec_l20Back.calls (g : Nat) (s0_0 : List Int) (s0_1 : Int) (r1 : Int) (r2 : Int) (r3 : Int) (r4 : Int) (r5 : Int) (w0 w : World) (hI : IsS149 w0 w g s0_0 s0_1) (hB : Below w0.heap.size w0 w) (h : spec_l20Back.f s0_0 s0_1 = some (r1, r2, r3, r4, r5)) :
  Calls Try.prog 153 #[.pointer (some ⟨g, 0, none⟩)] w fun e w' => e = .returned (.agg #[.int .i64 r1, .int .i64 r2, .int .i64 r3, .int .i64 r4]) ∧ IsS149 w0 w' g s0_0 r5 ∧ Below w0.heap.size w0 w' ∧ KeepBut w w' g none := by
 have hu82 := Try.underlying82
 have HI0 := aM hI
 have HK := aM (KeepBut.refl w g none)
 have HL := aM hB.size
 clear hI
 have HW0 := aM hB.size
 have HB := aM hB
 clear hB
 have H : ((spec_l1Chance.f s0_0 s0_1 4).bind fun bt650 => (if bt650.1 = true then (some (0, 0, 0, 0, bt650.2)) else ((spec_l1Pick.f s0_0 bt650.2 (([0, 0, 1, 3] : List Int))).bind fun bt655 => (some (1, bt655.1, 0, 0, bt655.2))))) = some (r1, r2, r3, r4, r5) := h
 clear h
 replace H := bo H
 obtain ⟨⟨t650, t651⟩, A2, H⟩ := H
 replace H := bz H
 by_cases c3 : t650 = true
 ·subst c3
  have H1 : (some (0, 0, 0, 0, t651)) = some (r1, r2, r3, r4, r5) := by rw [if_pos rfl] at H; exact H
  clear H
  have H := H1
  clear H1
  simp only [Option.some.injEq, Prod.mk.injEq] at H
  obtain ⟨rfl, rfl, rfl, rfl, rfl⟩ := H
  go_enter Try.func153, Try.ntmps153
  go_wp2_with (first | ((with_reducible refine gate_dst (N := 2) rfl ?_); refine box_event ?hg (N := 2) ?hd (cs := #[.int .i64 0, .int .i64 0, .int .i64 0, .int .i64 0]) (t := 82) ?hr ?_; (case hd => rfl); (case hg => rfl); (case hr => first | (go_simp; done) | (go_simp; rfl)); intro gb649 hg w4 hbox hb; replace HB := aM (bT bq hb); have BK649 := aM (hbox); have GW649 := aM ((by rw [hg]; exact (keep_size (w := w) (g := g) (row := none) hq) : w.heap.size ≤ gb649)); have GE649 := aM ((Nat.le_trans HW0.out (by rw [hg]; exact (keep_size (w := w) (g := g) (row := none) hq) : w.heap.size ≤ gb649) : w0.heap.size ≤ gb649)); replace HK := aM (KeepBut.trans hq (KeepBut.of_below hb g none) (.inl rfl)); have NB0_649 := aM ((by rw [hg]; exact Nat.ne_of_lt (IsS149.lt (show IsS149 w0 _ g s0_0 s0_1 from sq HI0.out)) : g ≠ gb649)); have NB649_0 := aM ((by rw [hg]; exact Nat.ne_of_gt (IsS149.lt (show IsS149 w0 _ g s0_0 s0_1 from sq HI0.out)) : gb649 ≠ g)); replace HI0 := aM (IsS149.below (sq HI0.out) hb); clear hb hbox hg) | ((with_reducible refine gate_callee (f := 123) rfl ?_); refine goesL_ (some 4) rfl rfl Try.func123 kr rfl #[.pointer (some ⟨g, 0, none⟩), .int .i64 4] rfl mq ?_; (with_reducible refine (spec_l1Chance.calls g s0_0 s0_1 4 true t651 w0 _ ?side1 ?side2 A2.out).mono ?_); (case side1 => exact sq HI0.out); (case side2 => exact bq); rintro e w5 ⟨rfl, hi, hb, hk⟩; refine ⟨_, rfl, ?_⟩; replace BK649 := aM (KeepBut.blk hk (kq BK649.out) NB649_0.out (by simp)); replace HK := aM (KeepBut.trans hq hk (.inl rfl)); replace HB := aM (hb); replace HI0 := aM (hi); (try clear hb); have hnb6 := NB649_0.out; have hnc6 := NB0_649.out; have hcz7_0 : w5.cell? ⟨gb649, 0, none⟩ = some (.int .i64 0) := cc; have hcz7_1 : w5.cell? ⟨gb649, 1, none⟩ = some (.int .i64 0) := cc; have hcz7_2 : w5.cell? ⟨gb649, 2, none⟩ = some (.int .i64 0) := cc; have hcz7_3 : w5.cell? ⟨gb649, 3, none⟩ = some (.int .i64 0) := cc; have hfz7_0 := kF BK649.out 0; have hfz7_1 := kF BK649.out 1; have hfz7_2 := kF BK649.out 2; have hfz7_3 := kF BK649.out 3))
  refine bodyPost_ret (results_cell_row rfl _ _ gb649 82 #[.int .i64 0, .int .i64 0, .int .i64 0, .int .i64 0] (0, 0) _ rfl (fq BK649.out) Try.underlying82 rfl kr) rfl ?_
  exact ⟨ew, sq HI0.out, bq, hq⟩
 ·replace c3 := Bool.eq_false_iff.mpr c3
  subst c3
  have H1 : ((spec_l1Pick.f s0_0 t651 (([0, 0, 1, 3] : List Int))).bind fun bt655 => (some (1, bt655.1, 0, 0, bt655.2))) = some (r1, r2, r3, r4, r5) := by rw [if_neg (show ¬ (false = true) by decide)] at H; exact H
  clear H
  have H := H1
  clear H1
  obtain ⟨y652, hy652⟩ : ∃ y_ : List Int, y_ = (([0, 0, 1, 3] : List Int)) := ⟨_, rfl⟩
  replace H : ((spec_l1Pick.f s0_0 t651 y652).bind fun bt655 => (some (1, bt655.1, 0, 0, bt655.2))) = some (r1, r2, r3, r4, r5) := hl hy652 H
  have Ny652 := aM hy652
  clear hy652
  replace H := bo H
  obtain ⟨⟨t655, t656⟩, A8, H⟩ := H
  replace H := bz H
  simp only [Option.some.injEq, Prod.mk.injEq] at H
  obtain ⟨rfl, rfl, rfl, rfl, rfl⟩ := H
  go_enter Try.func153, Try.ntmps153
  go_wp2_with (first | ((with_reducible refine gate_dst (N := 2) rfl ?_); refine box_event ?hg (N := 2) ?hd (cs := #[.int .i64 0, .int .i64 0, .int .i64 0, .int .i64 0]) (t := 82) ?hr ?_; (case hd => rfl); (case hg => rfl); (case hr => first | (go_simp; done) | (go_simp; rfl)); intro gb649 hg w9 hbox hb; replace HB := aM (bT bq hb); have BK649 := aM (hbox); have GW649 := aM ((by rw [hg]; exact (keep_size (w := w) (g := g) (row := none) hq) : w.heap.size ≤ gb649)); have GE649 := aM ((Nat.le_trans HW0.out (by rw [hg]; exact (keep_size (w := w) (g := g) (row := none) hq) : w.heap.size ≤ gb649) : w0.heap.size ≤ gb649)); replace HK := aM (KeepBut.trans hq (KeepBut.of_below hb g none) (.inl rfl)); have NB0_649 := aM ((by rw [hg]; exact Nat.ne_of_lt (IsS149.lt (show IsS149 w0 _ g s0_0 s0_1 from sq HI0.out)) : g ≠ gb649)); have NB649_0 := aM ((by rw [hg]; exact Nat.ne_of_gt (IsS149.lt (show IsS149 w0 _ g s0_0 s0_1 from sq HI0.out)) : gb649 ≠ g)); replace HI0 := aM (IsS149.below (sq HI0.out) hb); clear hb hbox hg) | ((with_reducible refine gate_callee (f := 123) rfl ?_); refine goesL_ (some 4) rfl rfl Try.func123 kr rfl #[.pointer (some ⟨g, 0, none⟩), .int .i64 4] rfl mq ?_; (with_reducible refine (spec_l1Chance.calls g s0_0 s0_1 4 false t651 w0 _ ?side1 ?side2 A2.out).mono ?_); (case side1 => exact sq HI0.out); (case side2 => exact bq); rintro e w10 ⟨rfl, hi, hb, hk⟩; refine ⟨_, rfl, ?_⟩; replace BK649 := aM (KeepBut.blk hk (kq BK649.out) NB649_0.out (by simp)); replace HK := aM (KeepBut.trans hq hk (.inl rfl)); replace HB := aM (hb); replace HI0 := aM (hi); (try clear hb)) | ((with_reducible refine gate_dst (N := 7) rfl ?_); refine Kd.R_lit (Kd.int .i64) _ 2 ?hg (N := 7) ?hd (xs := ([0, 0, 1, 3] : List Int)) (inner := [.int .i64 0, .int .i64 0, .int .i64 1, .int .i64 3]) (ok := fun _ => True) (okp := fun _ => True) ?hr ?hp (fun _ hk => hk) trivial (Below.refl _ _) (Nat.le_refl _) (by simp) ?_; (case hd => rfl); (case hg => rfl); (case hr => first | (go_simp; done) | (go_simp; rfl)); (case hp => exact (Reps.one (show Kd.M (Kd.int .i64) _ _ _ 0 [.int .i64 0] from rfl) (Reps.one (show Kd.M (Kd.int .i64) _ _ _ 0 [.int .i64 0] from rfl) (Reps.one (show Kd.M (Kd.int .i64) _ _ _ 1 [.int .i64 1] from rfl) (Reps.one (show Kd.M (Kd.int .i64) _ _ _ 3 [.int .i64 3] from rfl) (Reps.none _ _)))))); intro v653 w11 ho12 hb hg_ hnew_; clear hg_ hnew_; (first | rw [← Ny652.out] at ho12 | (simp only [Int.reduceToNat] at ho12; rw [← Ny652.out] at ho12)); have HO654 := aM (rG ho12 (keep_size (w := w) (g := g) (row := none) hq)); replace BK649 := aM (kB (kq BK649.out) hb); replace HK := aM (KeepBut.trans hq (KeepBut.of_below hb g none) (.inl rfl)); replace HB := aM (bT bq hb); replace HI0 := aM (IsS149.below (sq HI0.out) hb); clear hb ho12; obtain ⟨Ao13, co13, eo13⟩ := Kd.R_slice HO654.out; subst eo13) | ((with_reducible refine gate_callee (f := 86) rfl ?_); refine goesL_ (some 8) rfl rfl Try.func86 kr rfl #[.pointer (some ⟨g, 0, none⟩), .slice Ao13 y652.length co13] rfl mq ?_; (with_reducible refine (spec_l1Pick.calls g s0_0 t651 _ _ y652 t655 t656 w0 _ ?side1 ?side2 ?side3 ?side4 ?side5 A8.out).mono ?_); (case side1 => exact sq HI0.out); (case side2 => exact bq); (case side3 => exact cq (rR HO654.out).2.2); (case side4 => exact (rR HO654.out).2.1); (case side5 => exact far_slice (IsS149.own_ne HI0.out HO654.out (by decide))); rintro e w14 ⟨rfl, hi, hb, hk⟩; refine ⟨_, rfl, ?_⟩; replace BK649 := aM (KeepBut.blk hk (kq BK649.out) NB649_0.out (by simp)); replace HO654 := aM (rM (Kd.R_keep (IsS149.apart (show IsS149 w0 _ g s0_0 t651 from sq HI0.out) (rq HO654.out) (by decide)) hk (fun _ h => h.2)) (fun _ h => h.1)); replace HK := aM (KeepBut.trans hq hk (.inl rfl)); replace HB := aM (hb); replace HI0 := aM (hi); (try clear hb); have hnb15 := NB649_0.out; have hnc15 := NB0_649.out; have hcz16_0 : w14.cell? ⟨gb649, 0, none⟩ = some (.int .i64 0) := cc; have hcz16_1 : w14.cell? ⟨gb649, 1, none⟩ = some (.int .i64 0) := cc; have hcz16_2 : w14.cell? ⟨gb649, 2, none⟩ = some (.int .i64 0) := cc; have hcz16_3 : w14.cell? ⟨gb649, 3, none⟩ = some (.int .i64 0) := cc; have hfz16_0 := kF BK649.out 0; have hfz16_1 := kF BK649.out 1; have hfz16_2 := kF BK649.out 2; have hfz16_3 := kF BK649.out 3))
  refine bodyPost_ret (results_cell_row rfl _ _ gb649 82 #[.int .i64 1, .int .i64 t655, .int .i64 0, .int .i64 0] (0, 0) _ rfl (fq BK649.out) Try.underlying82 rfl kr) rfl ?_
  exact ⟨ew, sq HI0.out, bq, hq⟩

end Go.Proofs.Ytmhnpogjkbmmnaa.PFnLaps
