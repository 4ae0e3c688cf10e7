-- Written by a program of this session: wip/mkprint.py over the kit's print, with contracts proved by hand (wip/given.py)
-- shortened
-- squeezed
import Derived.Test.YtmhnpogjkbmmnaaPFnExactFeedFramex0
import Derived.Test.YtmhnpogjkbmmnaaPFnExactFeedFramex1
namespace Go.Proofs.Ytmhnpogjkbmmnaa.PFnExactFeedFrame
open Go.RowKit Go.Proofs.YtmhnpogjkbmmnaaW.PrintWords Go.Proofs.YtmhnpogjkbmmnaaW.PrintLast Go.Proofs.YtmhnpogjkbmmnaaW.PrintMore
open Go.Proofs.YtmhnpogjkbmmnaaW.PrintWords.Kd renaming R_alloc → rA, R_drewN → rN, R_drew → rD, R_lower → rG, C_alloc → cA, C_drewN → cN, C_drew → cD, C_below → cB
open Go.Proofs.YtmhnpogjkbmmnaaW.PrintWords renaming below_alloc → bA, pw_below_drewN → bN, below_drew1 → bD, below_set → bS, below_step → bT, below_size → bZ, blk_drewN → kN, blk_drew → kD, blk_alloc → kA, blk_cell → kC, blk_frozen → kF
open Go.Proofs.YtmhnpogjkbmmnaaW.PrintWords.Aside0 renaming mk → aM
attribute [local go_sem] max2_int min2_int max_two min_two max_three min_three max_four min_four   -- for this text's walks alone
set_option linter.unusedVariables false
set_option linter.unusedSimpArgs false

/-! ### spec_LapFault: function 73 -/
def spec_LapFault.j0 : Nat → Bool → Int → List Int → List Int → Option (Int)
 | 0, _, _, _, _ => none
 | k + 1, x25, x115000, x115001, x115002 => if x25 = true then (some 2) else ((spec_l1All.f k x115001 (-65536) 65536).bind fun t116 => (if t116 = true then ((spec_l1All.f k x115002 (-32768) 32767).bind fun t117 => (if t117 = true then (some 0) else (some 3))) else (some 3)))
def spec_LapFault.f (k : Nat) (a0_0 : Int) (l0_1 : List Int) (l0_2 : List Int) : Option (Int) := (spec_SizeFault.f a0_0).bind fun t115 => (if t115 = 0 then (if (l0_1.length : Int) = (wrap64 (Int.tdiv a0_0 2)) then (spec_LapFault.j0 k ((l0_2.length : Int) != (wrap64 (Int.tdiv a0_0 2))) a0_0 l0_1 l0_2) else (spec_LapFault.j0 k true a0_0 l0_1 l0_2)) else (some t115))
theorem spec_LapFault.mono_l : ∀ k, (∀ y0 y1 y2 y3, LeO (spec_LapFault.j0 k y0 y1 y2 y3) (spec_LapFault.j0 (k + 1) y0 y1 y2 y3))
 | 0 => fun _ _ _ _ r h => by simp [spec_LapFault.j0] at h
 | k + 1 => by
  have ih0 := spec_LapFault.mono_l k
  ·intro y0 y1 y2 y3
   unfold spec_LapFault.j0
   repeat' first
   | (with_reducible exact ih0 _ _ _ _)
   | (with_reducible exact spec_l1All.mono _ _ _ _)
   | (with_reducible exact LeO.refl _)
   | (with_reducible exact LeO.none _)
   | (with_reducible refine LeO.ite ?_ ?_)
   | (with_reducible refine LeO.bind ?_ (fun _ => ?_))
   | exact ih0 _ _ _ _
   | exact spec_l1All.mono _ _ _ _
   | exact LeO.none _
   | refine LeO.ite ?_ ?_
   | refine LeO.bind ?_ (fun _ => ?_)
theorem spec_LapFault.mono : ∀ a0 a1 a2 k, LeO (spec_LapFault.f k a0 a1 a2) (spec_LapFault.f (k + 1) a0 a1 a2) := by
 intro a0 a1 a2 k
 have ih0 := spec_LapFault.mono_l k
 unfold spec_LapFault.f
 repeat' first
   | (with_reducible exact ih0 _ _ _ _)
   | (with_reducible exact spec_l1All.mono _ _ _ _)
   | (with_reducible exact LeO.refl _)
   | (with_reducible exact LeO.none _)
   | (with_reducible refine LeO.ite ?_ ?_)
   | (with_reducible refine LeO.bind ?_ (fun _ => ?_))
   | exact ih0 _ _ _ _
   | exact spec_l1All.mono _ _ _ _
   | exact LeO.none _
   | refine LeO.ite ?_ ?_
   | refine LeO.bind ?_ (fun _ => ?_)
set_option maxHeartbeats 8000000 in
set_option maxRecDepth 100000 in
theorem spec_LapFault.calls (k : Nat) (a0_0 : Int) (A0_1 : Option Addr) (c0_1 : Nat) (l0_1 : List Int) (A0_2 : Option Addr) (c0_2 : Nat) (l0_2 : List Int) (r : Int) (w : World) (hr0_1 : Kd.C (Kd.int .i64) w A0_1 l0_1.length l0_1) (hc0_1 : l0_1.length ≤ c0_1) (hr0_2 : Kd.C (Kd.int .i64) w A0_2 l0_2.length l0_2) (hc0_2 : l0_2.length ≤ c0_2) (h : spec_LapFault.f k a0_0 l0_1 l0_2 = some r) :
  Calls Try.prog 73 #[.agg #[.int .i64 a0_0, .slice A0_1 l0_1.length c0_1, .slice A0_2 l0_2.length c0_2]] w fun e w' => e = .returned (.int .i64 r) ∧ Below w.heap.size w w' := by
 have hu48 := Try.underlying48
 have HR0_1 := aM hr0_1
 have HC0_1 := aM hc0_1
 clear hr0_1 hc0_1
 have HR0_2 := aM hr0_2
 have HC0_2 := aM hc0_2
 clear hr0_2 hc0_2
 have HB := aM (Below.refl w.heap.size w)
 have H : ((spec_SizeFault.f a0_0).bind fun t115 => (if t115 = 0 then (if (l0_1.length : Int) = (wrap64 (Int.tdiv a0_0 2)) then (spec_LapFault.j0 k ((l0_2.length : Int) != (wrap64 (Int.tdiv a0_0 2))) a0_0 l0_1 l0_2) else (spec_LapFault.j0 k true a0_0 l0_1 l0_2)) else (some t115))) = some r := h
 clear h
 replace H := Option.bind_eq_some_iff.mp H
 obtain ⟨t115, A20, H⟩ := H
 replace H : (if t115 = 0 then (if (l0_1.length : Int) = (wrap64 (Int.tdiv a0_0 2)) then (spec_LapFault.j0 k ((l0_2.length : Int) != (wrap64 (Int.tdiv a0_0 2))) a0_0 l0_1 l0_2) else (spec_LapFault.j0 k true a0_0 l0_1 l0_2)) else (some t115)) = some r := H
 have A2 := aM A20
 clear A20
 by_cases c3 : t115 = 0
 ·rw [if_pos c3] at H
  have c3b0 : (t115 == 0) = true := beq_iff_eq.mpr c3
  have c3b1 : (t115 != 0) = false := bne_eq_false_iff_eq.mpr c3
  clear c3
  have HC4 := aM H
  clear H
  go_enter Try.func73, Try.ntmps73
  go_upto_region 5 with (first | ((with_reducible refine gate_dst (N := 1) rfl ?_); (try (refine gate_guard (by rfl) ?_; dsimp only)); refine box_event ?hg (N := 1) ?hd (cs := #[.int .i64 a0_0, .slice A0_1 l0_1.length c0_1, .slice A0_2 l0_2.length c0_2]) (t := 48) ?hr ?_; (case hd => rfl); (case hg => rfl); (case hr => first | (go_simp; done) | (go_simp; rfl)); intro gb114 hg w5 hbox hb; have n0_ := aM (bT (by repeat (first | exact HB.out | apply bA | apply bN | apply bD)) hb); have n1_ := aM (hbox); have n2_ := aM ((by rw [hg]; exact (bZ (by repeat (first | exact HB.out | apply bA | apply bN | apply bD))) : w.heap.size ≤ gb114)); have n3_ := aM ((by rw [hg]; exact (bZ (by repeat (first | exact HB.out | apply bA | apply bN | apply bD))) : w.heap.size ≤ gb114)); clear HB; have HB := n0_; have BK114 := n1_; have GW114 := n2_; have GE114 := n3_; clear n0_ n1_ n2_ n3_ hb hbox hg; have hcz6_0 : w5.cell? ⟨gb114, 0, none⟩ = some (.int .i64 a0_0) := (kC BK114.out 0).trans rfl; have hcz6_1 : w5.cell? ⟨gb114, 1, none⟩ = some (.slice A0_1 l0_1.length c0_1) := (kC BK114.out 1).trans rfl; have hcz6_2 : w5.cell? ⟨gb114, 2, none⟩ = some (.slice A0_2 l0_2.length c0_2) := (kC BK114.out 2).trans rfl; have hfz6_0 := kF BK114.out 0; have hfz6_1 := kF BK114.out 1; have hfz6_2 := kF BK114.out 2) | ((with_reducible refine gate_callee (f := 50) rfl ?_); refine goesL_ (some 7) rfl rfl Try.func50 (by kernel_rfl) rfl #[.int .i64 a0_0] rfl (by first | rfl | (simp only [List.map_toArray, List.map_cons, List.map_nil]; rfl)) ?_; (with_reducible refine (spec_SizeFault.calls a0_0 t115 _ A2.out).mono ?_); rintro e w' ⟨rfl, ⟨nd, rfl⟩⟩; refine ⟨_, rfl, ?_⟩))
  (try simp only [Act.put, pa, pb, pc])
  go_cut [25] (fun v25 wc => ∃ (kq : Nat) (x25_3 : Bool), v25 = .bool x25_3 ∧ Aside0 (spec_LapFault.j0 kq x25_3 a0_0 l0_1 l0_2 = some r) ∧ Aside0 (kq ≤ k) ∧ Aside0 (wc.heap[gb114]? = some (.cells #[.int .i64 a0_0, (.slice A0_1 l0_1.length c0_1), (.slice A0_2 l0_2.length c0_2)] 48 (0, 0))) ∧ Aside0 (Below w.heap.size w wc))
  case first =>
   have H := HC4.out
   clear HC4
   by_cases c7 : (l0_1.length : Int) = (wrap64 (Int.tdiv a0_0 2))
   ·rw [if_pos c7] at H
    have c7b0 : ((l0_1.length : Int) == (wrap64 (Int.tdiv a0_0 2))) = true := beq_iff_eq.mpr c7
    have c7b1 : ((l0_1.length : Int) != (wrap64 (Int.tdiv a0_0 2))) = false := bne_eq_false_iff_eq.mpr c7
    clear c7
    (first | rw [c7b0] | (simp only [i64_w, i32_w]; rw [c7b0]) | skip)
    have H' := aM H
    clear H
    have hcz8_0 : w5.cell? ⟨gb114, 0, none⟩ = some (.int .i64 a0_0) := (kC BK114.out 0).trans rfl
    have hcz8_1 : w5.cell? ⟨gb114, 1, none⟩ = some (.slice A0_1 l0_1.length c0_1) := (kC BK114.out 1).trans rfl
    have hcz8_2 : w5.cell? ⟨gb114, 2, none⟩ = some (.slice A0_2 l0_2.length c0_2) := (kC BK114.out 2).trans rfl
    have hfz8_0 := kF BK114.out 0
    have hfz8_1 := kF BK114.out 1
    have hfz8_2 := kF BK114.out 2
    go_wp2
    go_meet
    case rel => exact ⟨_, (((l0_2.length : Int) != (wrap64 (Int.tdiv a0_0 2)))), (by first | rfl | (simp; done) | (simp [*]; done)), H', ⟨by first | omega | exact Nat.le_refl _⟩, ⟨by (with_reducible repeat (first | refine kN ?_ _ | refine kD ?_ | refine kA ?_ _)); exact BK114.out⟩, ⟨by repeat (first | (with_reducible first | exact HB.out | apply bA | apply bN | apply bD | refine bS ?_ GE114.out) | exact HB.out)⟩⟩
   ·rw [if_neg c7] at H
    have c7b0 : ((l0_1.length : Int) == (wrap64 (Int.tdiv a0_0 2))) = false := beq_eq_false_iff_ne.mpr c7
    have c7b1 : ((l0_1.length : Int) != (wrap64 (Int.tdiv a0_0 2))) = true := bne_iff_ne.mpr c7
    (first | rw [c7b0] | (simp only [i64_w, i32_w]; rw [c7b0]) | skip)
    have H' := aM H
    clear H
    have hcz9_0 : w5.cell? ⟨gb114, 0, none⟩ = some (.int .i64 a0_0) := (kC BK114.out 0).trans rfl
    have hcz9_1 : w5.cell? ⟨gb114, 1, none⟩ = some (.slice A0_1 l0_1.length c0_1) := (kC BK114.out 1).trans rfl
    have hcz9_2 : w5.cell? ⟨gb114, 2, none⟩ = some (.slice A0_2 l0_2.length c0_2) := (kC BK114.out 2).trans rfl
    have hfz9_0 := kF BK114.out 0
    have hfz9_1 := kF BK114.out 1
    have hfz9_2 := kF BK114.out 2
    go_wp2
    go_meet
    case rel => exact ⟨_, (true), (by first | rfl | (simp; done) | (simp [*]; done)), H', ⟨by first | omega | exact Nat.le_refl _⟩, ⟨by (with_reducible repeat (first | refine kN ?_ _ | refine kD ?_ | refine kA ?_ _)); exact BK114.out⟩, ⟨by repeat (first | (with_reducible first | exact HB.out | apply bA | apply bN | apply bD | refine bS ?_ GE114.out) | exact HB.out)⟩⟩
  case rest =>
   clear HC4
   try clear p2
   try clear c3
   try clear c3b0
   try clear c3b1
   try clear c5
   try clear p6
   try clear c7
   try clear c7b0
   try clear c7b1
   try clear hcz6_0
   try clear hcz6_1
   try clear hcz6_2
   try clear hcz8_0
   try clear hcz8_1
   try clear hcz8_2
   try clear hcz9_0
   try clear hcz9_1
   try clear hcz9_2
   try clear hfz6_0
   try clear hfz6_1
   try clear hfz6_2
   try clear hfz8_0
   try clear hfz8_1
   try clear hfz8_2
   try clear hfz9_0
   try clear hfz9_1
   try clear hfz9_2
   obtain ⟨kq, x25_3, rfl, HA, HJ3, BK114, HB⟩ := hcut
   cases kq with
   | zero => exact absurd HA.out (by simp [spec_LapFault.j0])
   | succ kj3 =>
    have H := HA.out
    clear HA
    simp only [spec_LapFault.j0] at H
    by_cases c10 : x25_3 = true
    ·subst c10
     have H1 : (some 2) = some r := by rw [if_pos rfl] at H; exact H
     clear H
     have H := H1
     clear H1
     obtain rfl := Option.some.inj H
     go_wp2
     go_ret
     exact ⟨by first | rfl | (simp [errW_none, errW_some] <;> rfl) | (simp [*, errW_none, errW_some] <;> rfl), by repeat (first | (with_reducible first | exact HB.out | apply bA | apply bN | apply bD | refine bS ?_ GE114.out) | exact HB.out)⟩
    ·replace c10 := Bool.eq_false_iff.mpr c10
     subst c10
     have H1 : ((spec_l1All.f kj3 l0_1 (-65536) 65536).bind fun t116 => (if t116 = true then ((spec_l1All.f kj3 l0_2 (-32768) 32767).bind fun t117 => (if t117 = true then (some 0) else (some 3))) else (some 3))) = some r := by rw [if_neg (show ¬ (false = true) by decide)] at H; exact H
     clear H
     have H := H1
     clear H1
     replace H := Option.bind_eq_some_iff.mp H
     obtain ⟨t116, A110, H⟩ := H
     replace H : (if t116 = true then ((spec_l1All.f kj3 l0_2 (-32768) 32767).bind fun t117 => (if t117 = true then (some 0) else (some 3))) else (some 3)) = some r := H
     have A11 := aM A110
     clear A110
     by_cases c12 : t116 = true
     ·subst c12
      have H1 : ((spec_l1All.f kj3 l0_2 (-32768) 32767).bind fun t117 => (if t117 = true then (some 0) else (some 3))) = some r := by rw [if_pos rfl] at H; exact H
      clear H
      have H := H1
      clear H1
      replace H := Option.bind_eq_some_iff.mp H
      obtain ⟨t117, A130, H⟩ := H
      replace H : (if t117 = true then (some 0) else (some 3)) = some r := H
      have A13 := aM A130
      clear A130
      by_cases c14 : t117 = true
      ·subst c14
       have H1 : (some 0) = some r := by rw [if_pos rfl] at H; exact H
       clear H
       have H := H1
       clear H1
       obtain rfl := Option.some.inj H
       have hcz15_0 : wc.cell? ⟨gb114, 0, none⟩ = some (.int .i64 a0_0) := (kC BK114.out 0).trans rfl
       have hcz15_1 : wc.cell? ⟨gb114, 1, none⟩ = some (.slice A0_1 l0_1.length c0_1) := (kC BK114.out 1).trans rfl
       have hcz15_2 : wc.cell? ⟨gb114, 2, none⟩ = some (.slice A0_2 l0_2.length c0_2) := (kC BK114.out 2).trans rfl
       have hfz15_0 := kF BK114.out 0
       have hfz15_1 := kF BK114.out 1
       have hfz15_2 := kF BK114.out 2
       go_wp2_with (first | ((with_reducible refine gate_callee (f := 100) rfl ?_); refine goesL_ (some 28) rfl rfl Try.func100 (by kernel_rfl) rfl #[.slice A0_1 l0_1.length c0_1, .int .i64 (-65536), .int .i64 65536] rfl (by first | rfl | (simp only [List.map_toArray, List.map_cons, List.map_nil]; rfl)) ?_; (with_reducible refine (spec_l1All.calls kj3 _ _ l0_1 (-65536) 65536 true _ ?side1 ?side2 A11.out).mono ?_); (case side1 => repeat (first | exact (cB HR0_1.out HB.out) | (with_reducible refine cA ?_ _) | (with_reducible refine cN ?_ _) | (with_reducible refine cD ?_))); (case side2 => exact HC0_1.out); rintro e w' ⟨rfl, ⟨nd, rfl⟩⟩; refine ⟨_, rfl, ?_⟩) | (go_at_call 100; (with_reducible refine (spec_l1All.calls kj3 _ _ l0_2 (-32768) 32767 true _ ?side1 ?side2 A13.out).mono ?_); (case side1 => repeat (first | exact (cB HR0_2.out (by repeat (first | (with_reducible first | exact HB.out | apply bA | apply bN | apply bD | refine bS ?_ GE114.out) | exact HB.out))) | (with_reducible refine cA ?_ _) | (with_reducible refine cN ?_ _) | (with_reducible refine cD ?_))); (case side2 => exact HC0_2.out); rintro e w' ⟨rfl, ⟨nd, rfl⟩⟩))
       go_ret
       exact ⟨by first | rfl | (simp [errW_none, errW_some] <;> rfl) | (simp [*, errW_none, errW_some] <;> rfl), by repeat (first | (with_reducible first | exact HB.out | apply bA | apply bN | apply bD | refine bS ?_ GE114.out) | exact HB.out)⟩
      ·replace c14 := Bool.eq_false_iff.mpr c14
       subst c14
       have H1 : (some 3) = some r := by rw [if_neg (show ¬ (false = true) by decide)] at H; exact H
       clear H
       have H := H1
       clear H1
       obtain rfl := Option.some.inj H
       have hcz16_0 : wc.cell? ⟨gb114, 0, none⟩ = some (.int .i64 a0_0) := (kC BK114.out 0).trans rfl
       have hcz16_1 : wc.cell? ⟨gb114, 1, none⟩ = some (.slice A0_1 l0_1.length c0_1) := (kC BK114.out 1).trans rfl
       have hcz16_2 : wc.cell? ⟨gb114, 2, none⟩ = some (.slice A0_2 l0_2.length c0_2) := (kC BK114.out 2).trans rfl
       have hfz16_0 := kF BK114.out 0
       have hfz16_1 := kF BK114.out 1
       have hfz16_2 := kF BK114.out 2
       go_wp2_with (first | ((with_reducible refine gate_callee (f := 100) rfl ?_); refine goesL_ (some 28) rfl rfl Try.func100 (by kernel_rfl) rfl #[.slice A0_1 l0_1.length c0_1, .int .i64 (-65536), .int .i64 65536] rfl (by first | rfl | (simp only [List.map_toArray, List.map_cons, List.map_nil]; rfl)) ?_; (with_reducible refine (spec_l1All.calls kj3 _ _ l0_1 (-65536) 65536 true _ ?side1 ?side2 A11.out).mono ?_); (case side1 => repeat (first | exact (cB HR0_1.out HB.out) | (with_reducible refine cA ?_ _) | (with_reducible refine cN ?_ _) | (with_reducible refine cD ?_))); (case side2 => exact HC0_1.out); rintro e w' ⟨rfl, ⟨nd, rfl⟩⟩; refine ⟨_, rfl, ?_⟩) | (go_at_call 100; (with_reducible refine (spec_l1All.calls kj3 _ _ l0_2 (-32768) 32767 false _ ?side1 ?side2 A13.out).mono ?_); (case side1 => repeat (first | exact (cB HR0_2.out (by repeat (first | (with_reducible first | exact HB.out | apply bA | apply bN | apply bD | refine bS ?_ GE114.out) | exact HB.out))) | (with_reducible refine cA ?_ _) | (with_reducible refine cN ?_ _) | (with_reducible refine cD ?_))); (case side2 => exact HC0_2.out); rintro e w' ⟨rfl, ⟨nd, rfl⟩⟩))
       go_ret
       exact ⟨by first | rfl | (simp [errW_none, errW_some] <;> rfl) | (simp [*, errW_none, errW_some] <;> rfl), by repeat (first | (with_reducible first | exact HB.out | apply bA | apply bN | apply bD | refine bS ?_ GE114.out) | exact HB.out)⟩
     ·replace c12 := Bool.eq_false_iff.mpr c12
      subst c12
      have H1 : (some 3) = some r := by rw [if_neg (show ¬ (false = true) by decide)] at H; exact H
      clear H
      have H := H1
      clear H1
      obtain rfl := Option.some.inj H
      have hcz17_0 : wc.cell? ⟨gb114, 0, none⟩ = some (.int .i64 a0_0) := (kC BK114.out 0).trans rfl
      have hcz17_1 : wc.cell? ⟨gb114, 1, none⟩ = some (.slice A0_1 l0_1.length c0_1) := (kC BK114.out 1).trans rfl
      have hcz17_2 : wc.cell? ⟨gb114, 2, none⟩ = some (.slice A0_2 l0_2.length c0_2) := (kC BK114.out 2).trans rfl
      have hfz17_0 := kF BK114.out 0
      have hfz17_1 := kF BK114.out 1
      have hfz17_2 := kF BK114.out 2
      go_wp2_with (first | ((with_reducible refine gate_callee (f := 100) rfl ?_); refine goesL_ (some 28) rfl rfl Try.func100 (by kernel_rfl) rfl #[.slice A0_1 l0_1.length c0_1, .int .i64 (-65536), .int .i64 65536] rfl (by first | rfl | (simp only [List.map_toArray, List.map_cons, List.map_nil]; rfl)) ?_; (with_reducible refine (spec_l1All.calls kj3 _ _ l0_1 (-65536) 65536 false _ ?side1 ?side2 A11.out).mono ?_); (case side1 => repeat (first | exact (cB HR0_1.out HB.out) | (with_reducible refine cA ?_ _) | (with_reducible refine cN ?_ _) | (with_reducible refine cD ?_))); (case side2 => exact HC0_1.out); rintro e w' ⟨rfl, ⟨nd, rfl⟩⟩; refine ⟨_, rfl, ?_⟩))
      go_ret
      exact ⟨by first | rfl | (simp [errW_none, errW_some] <;> rfl) | (simp [*, errW_none, errW_some] <;> rfl), by repeat (first | (with_reducible first | exact HB.out | apply bA | apply bN | apply bD | refine bS ?_ GE114.out) | exact HB.out)⟩
 ·rw [if_neg c3] at H
  have c3b0 : (t115 == 0) = false := beq_eq_false_iff_ne.mpr c3
  have c3b1 : (t115 != 0) = true := bne_iff_ne.mpr c3
  obtain rfl := Option.some.inj H
  go_enter Try.func73, Try.ntmps73
  go_wp2_with (first | ((with_reducible refine gate_dst (N := 1) rfl ?_); (try (refine gate_guard (by rfl) ?_; dsimp only)); refine box_event ?hg (N := 1) ?hd (cs := #[.int .i64 a0_0, .slice A0_1 l0_1.length c0_1, .slice A0_2 l0_2.length c0_2]) (t := 48) ?hr ?_; (case hd => rfl); (case hg => rfl); (case hr => first | (go_simp; done) | (go_simp; rfl)); intro gb114 hg w18 hbox hb; have n0_ := aM (bT (by repeat (first | exact HB.out | apply bA | apply bN | apply bD)) hb); have n1_ := aM (hbox); have n2_ := aM ((by rw [hg]; exact (bZ (by repeat (first | exact HB.out | apply bA | apply bN | apply bD))) : w.heap.size ≤ gb114)); have n3_ := aM ((by rw [hg]; exact (bZ (by repeat (first | exact HB.out | apply bA | apply bN | apply bD))) : w.heap.size ≤ gb114)); clear HB; have HB := n0_; have BK114 := n1_; have GW114 := n2_; have GE114 := n3_; clear n0_ n1_ n2_ n3_ hb hbox hg; have hcz19_0 : w18.cell? ⟨gb114, 0, none⟩ = some (.int .i64 a0_0) := (kC BK114.out 0).trans rfl; have hcz19_1 : w18.cell? ⟨gb114, 1, none⟩ = some (.slice A0_1 l0_1.length c0_1) := (kC BK114.out 1).trans rfl; have hcz19_2 : w18.cell? ⟨gb114, 2, none⟩ = some (.slice A0_2 l0_2.length c0_2) := (kC BK114.out 2).trans rfl; have hfz19_0 := kF BK114.out 0; have hfz19_1 := kF BK114.out 1; have hfz19_2 := kF BK114.out 2) | ((with_reducible refine gate_callee (f := 50) rfl ?_); refine goesL_ (some 7) rfl rfl Try.func50 (by kernel_rfl) rfl #[.int .i64 a0_0] rfl (by first | rfl | (simp only [List.map_toArray, List.map_cons, List.map_nil]; rfl)) ?_; (with_reducible refine (spec_SizeFault.calls a0_0 t115 _ A2.out).mono ?_); rintro e w' ⟨rfl, ⟨nd, rfl⟩⟩; refine ⟨_, rfl, ?_⟩))
  go_ret
  exact ⟨by first | rfl | (simp [errW_none, errW_some] <;> rfl) | (simp [*, errW_none, errW_some] <;> rfl), by repeat (first | (with_reducible first | exact HB.out | apply bA | apply bN | apply bD | refine bS ?_ GE114.out) | exact HB.out)⟩

/-! ### spec_SamplesFault: function 74 -/
def spec_SamplesFault.l0 : Nat → List Int → Int → Option (Int)
 | 0, _, _ => none
 | k + 1, x1, x6 => if x6 < (x1.length : Int) then (if 0 ≤ x6 then ((spec_l1In.f (rd x1 x6) (-32768) 32767).bind fun t120 => (if t120 = true then (spec_SamplesFault.l0 k x1 (wrap64 (x6 + 1))) else (some 3))) else (none)) else (some 0)
def spec_SamplesFault.f (k : Nat) (a0 : Int) (l1 : List Int) : Option (Int) := (spec_SizeFault.f a0).bind fun t118 => (if t118 = 0 then (if (l1.length : Int) = a0 then (spec_SamplesFault.l0 k l1 0) else (some 2)) else (some t118))
theorem spec_SamplesFault.mono_l : ∀ k, (∀ y0 y1, LeO (spec_SamplesFault.l0 k y0 y1) (spec_SamplesFault.l0 (k + 1) y0 y1))
 | 0 => fun _ _ r h => by simp [spec_SamplesFault.l0] at h
 | k + 1 => by
  have ih0 := spec_SamplesFault.mono_l k
  ·intro y0 y1
   unfold spec_SamplesFault.l0
   repeat' first
   | (with_reducible exact ih0 _ _)
   | (with_reducible exact LeO.refl _)
   | (with_reducible exact LeO.none _)
   | (with_reducible refine LeO.ite ?_ ?_)
   | (with_reducible refine LeO.bind ?_ (fun _ => ?_))
   | exact ih0 _ _
   | exact LeO.none _
   | refine LeO.ite ?_ ?_
   | refine LeO.bind ?_ (fun _ => ?_)
theorem spec_SamplesFault.mono : ∀ a0 a1 k, LeO (spec_SamplesFault.f k a0 a1) (spec_SamplesFault.f (k + 1) a0 a1) := by
 intro a0 a1 k
 have ih0 := spec_SamplesFault.mono_l k
 unfold spec_SamplesFault.f
 repeat' first
   | (with_reducible exact ih0 _ _)
   | (with_reducible exact LeO.refl _)
   | (with_reducible exact LeO.none _)
   | (with_reducible refine LeO.ite ?_ ?_)
   | (with_reducible refine LeO.bind ?_ (fun _ => ?_))
   | exact ih0 _ _
   | exact LeO.none _
   | refine LeO.ite ?_ ?_
   | refine LeO.bind ?_ (fun _ => ?_)
set_option maxHeartbeats 8000000 in
set_option maxRecDepth 100000 in
theorem spec_SamplesFault.calls (k : Nat) (a0 : Int) (A1 : Option Addr) (c1 : Nat) (l1 : List Int) (r : Int) (w : World) (hr1 : Kd.C (Kd.int .i64) w A1 l1.length l1) (hc1 : l1.length ≤ c1) (h : spec_SamplesFault.f k a0 l1 = some r) :
  Calls Try.prog 74 #[.int .i64 a0, .slice A1 l1.length c1] w fun e w' => e = .returned (.int .i64 r) ∧ Drawn0 w w' := by
 have HR1 := aM hr1
 have HC1 := aM hc1
 clear hr1 hc1
 have H : ((spec_SizeFault.f a0).bind fun t118 => (if t118 = 0 then (if (l1.length : Int) = a0 then (spec_SamplesFault.l0 k l1 0) else (some 2)) else (some t118))) = some r := h
 clear h
 replace H := Option.bind_eq_some_iff.mp H
 obtain ⟨t118, A30, H⟩ := H
 replace H : (if t118 = 0 then (if (l1.length : Int) = a0 then (spec_SamplesFault.l0 k l1 0) else (some 2)) else (some t118)) = some r := H
 have A3 := aM A30
 clear A30
 by_cases c4 : t118 = 0
 ·rw [if_pos c4] at H
  have c4b0 : (t118 == 0) = true := beq_iff_eq.mpr c4
  have c4b1 : (t118 != 0) = false := bne_eq_false_iff_eq.mpr c4
  clear c4
  by_cases c5 : (l1.length : Int) = a0
  ·rw [if_pos c5] at H
   have c5b0 : ((l1.length : Int) == a0) = true := beq_iff_eq.mpr c5
   have c5b1 : ((l1.length : Int) != a0) = false := bne_eq_false_iff_eq.mpr c5
   clear c5
   have H' := aM H
   clear H
   go_enter Try.func74, Try.ntmps74
   go_wp2_with (first | ((with_reducible refine gate_callee (f := 50) rfl ?_); refine goesL_ (some 8) rfl rfl Try.func50 (by kernel_rfl) rfl #[.int .i64 a0] rfl (by first | rfl | (simp only [List.map_toArray, List.map_cons, List.map_nil]; rfl)) ?_; (with_reducible refine (spec_SizeFault.calls a0 t118 _ A3.out).mono ?_); rintro e w' ⟨rfl, ⟨nd, rfl⟩⟩; refine ⟨_, rfl, ?_⟩))
   go_loopg [6] k (fun kq v6 w' => ∃ (x6_1 : Int), v6 = .int .i64 x6_1 ∧ Aside0 (spec_SamplesFault.l0 kq l1 x6_1 = some r) ∧ Aside0 (kq ≤ k) ∧ Drawn0 w w')
   case atStart => exact ⟨(0), (by first | rfl | (simp; done) | (simp [*]; done)), H', ⟨Nat.le_refl _⟩, by repeat (first | exact Drawn0.refl _ | apply Drawn0.step)⟩
   case round =>
    clear H'
    try clear c1
    try clear p2
    try clear c4
    try clear c4b0
    try clear c4b1
    try clear c5
    try clear c5b0
    try clear c5b1
    obtain ⟨x6_1, rfl, HA, HK1, ⟨m1, rfl⟩⟩ := hrel
    cases gk with
    | zero => exact absurd HA.out (by simp [spec_SamplesFault.l0])
    | succ k1 =>
     have H := HA.out
     clear HA
     simp only [spec_SamplesFault.l0] at H
     by_cases c6 : x6_1 < (l1.length : Int)
     ·rw [if_pos c6] at H
      have c6b0 : decide (x6_1 < (l1.length : Int)) = true := decide_eq_true c6
      clear c6
      by_cases c7 : 0 ≤ x6_1
      ·rw [if_pos c7] at H
       have c7b0 : decide (0 ≤ x6_1) = true := decide_eq_true c7
       clear c7
       replace H := Option.bind_eq_some_iff.mp H
       obtain ⟨t120, A80, H⟩ := H
       replace H : (if t120 = true then (spec_SamplesFault.l0 k1 l1 (wrap64 (x6_1 + 1))) else (some 3)) = some r := H
       have A8 := aM A80
       clear A80
       by_cases c9 : t120 = true
       ·subst c9
        have H1 : (spec_SamplesFault.l0 k1 l1 (wrap64 (x6_1 + 1))) = some r := by rw [if_pos rfl] at H; exact H
        clear H
        have H := H1
        clear H1
        have H' := aM H
        clear H
        have p119 : 0 ≤ (x6_1 : Int) := of_decide_eq_true (by first | (with_reducible assumption) | assumption)
        have q119 : x6_1 < (l1.length : Int) := of_decide_eq_true (by first | (with_reducible assumption) | assumption)
        obtain ⟨ad119, e119, hx119_0⟩ := Kd.at_int HR1.out x6_1 p119 q119
        cases e119
        replace p119 := eq_true p119
        replace q119 := eq_true q119
        go_wp2_with (first | ((with_reducible refine gate_callee (f := 118) rfl ?_); refine goesL_ (some 26) rfl rfl Try.func118 (by kernel_rfl) rfl #[.int .i64 (rd l1 x6_1), .int .i64 (-32768), .int .i64 32767] rfl (by first | rfl | (simp only [List.map_toArray, List.map_cons, List.map_nil]; rfl)) ?_; (with_reducible refine (spec_l1In.calls (rd l1 x6_1) (-32768) 32767 true _ A8.out).mono ?_); rintro e w' ⟨rfl, ⟨nd, rfl⟩⟩; refine ⟨_, rfl, ?_⟩))
        go_roundg k1
        case measure => have := HK1.out; omega
        case rel => exact ⟨(wrap64 (x6_1 + 1)), (by first | rfl | (simp; done) | (simp [*]; done)), H', ⟨by have := HK1.out; omega⟩, by repeat (first | exact Drawn0.refl _ | apply Drawn0.step)⟩
       ·replace c9 := Bool.eq_false_iff.mpr c9
        subst c9
        have H1 : (some 3) = some r := by rw [if_neg (show ¬ (false = true) by decide)] at H; exact H
        clear H
        have H := H1
        clear H1
        obtain rfl := Option.some.inj H
        have p119 : 0 ≤ (x6_1 : Int) := of_decide_eq_true (by first | (with_reducible assumption) | assumption)
        have q119 : x6_1 < (l1.length : Int) := of_decide_eq_true (by first | (with_reducible assumption) | assumption)
        obtain ⟨ad119, e119, hx119_0⟩ := Kd.at_int HR1.out x6_1 p119 q119
        cases e119
        replace p119 := eq_true p119
        replace q119 := eq_true q119
        go_wp2_with (first | ((with_reducible refine gate_callee (f := 118) rfl ?_); refine goesL_ (some 26) rfl rfl Try.func118 (by kernel_rfl) rfl #[.int .i64 (rd l1 x6_1), .int .i64 (-32768), .int .i64 32767] rfl (by first | rfl | (simp only [List.map_toArray, List.map_cons, List.map_nil]; rfl)) ?_; (with_reducible refine (spec_l1In.calls (rd l1 x6_1) (-32768) 32767 false _ A8.out).mono ?_); rintro e w' ⟨rfl, ⟨nd, rfl⟩⟩; refine ⟨_, rfl, ?_⟩))
        go_ret
        exact ⟨by first | rfl | (simp; done) | (simp [*]; done), by repeat (first | exact Drawn0.refl _ | apply Drawn0.step)⟩
      ·rw [if_neg c7] at H
       exact absurd H (by simp)
     ·rw [if_neg c6] at H
      have c6b0 : decide (x6_1 < (l1.length : Int)) = false := decide_eq_false c6
      clear c6
      obtain rfl := Option.some.inj H
      go_wp2
      go_ret
      exact ⟨by first | rfl | (simp; done) | (simp [*]; done), by repeat (first | exact Drawn0.refl _ | apply Drawn0.step)⟩
  ·rw [if_neg c5] at H
   have c5b0 : ((l1.length : Int) == a0) = false := beq_eq_false_iff_ne.mpr c5
   have c5b1 : ((l1.length : Int) != a0) = true := bne_iff_ne.mpr c5
   obtain rfl := Option.some.inj H
   go_enter Try.func74, Try.ntmps74
   go_wp2_with (first | ((with_reducible refine gate_callee (f := 50) rfl ?_); refine goesL_ (some 8) rfl rfl Try.func50 (by kernel_rfl) rfl #[.int .i64 a0] rfl (by first | rfl | (simp only [List.map_toArray, List.map_cons, List.map_nil]; rfl)) ?_; (with_reducible refine (spec_SizeFault.calls a0 t118 _ A3.out).mono ?_); rintro e w' ⟨rfl, ⟨nd, rfl⟩⟩; refine ⟨_, rfl, ?_⟩))
   go_ret
   exact ⟨by first | rfl | (simp; done) | (simp [*]; done), by repeat (first | exact Drawn0.refl _ | apply Drawn0.step)⟩
 ·rw [if_neg c4] at H
  have c4b0 : (t118 == 0) = false := beq_eq_false_iff_ne.mpr c4
  have c4b1 : (t118 != 0) = true := bne_iff_ne.mpr c4
  obtain rfl := Option.some.inj H
  go_enter Try.func74, Try.ntmps74
  go_wp2_with (first | ((with_reducible refine gate_callee (f := 50) rfl ?_); refine goesL_ (some 8) rfl rfl Try.func50 (by kernel_rfl) rfl #[.int .i64 a0] rfl (by first | rfl | (simp only [List.map_toArray, List.map_cons, List.map_nil]; rfl)) ?_; (with_reducible refine (spec_SizeFault.calls a0 t118 _ A3.out).mono ?_); rintro e w' ⟨rfl, ⟨nd, rfl⟩⟩; refine ⟨_, rfl, ?_⟩))
  go_ret
  exact ⟨by first | rfl | (simp; done) | (simp [*]; done), by repeat (first | exact Drawn0.refl _ | apply Drawn0.step)⟩

/-! ### spec_l1Zeros: function 136 -/
def spec_l1Zeros.f (a0 : Int) : Option (List Int) := if 0 ≤ a0 then (if (a0 : Int).toNat ≤ 35184372088832 then (some (List.replicate (a0 : Int).toNat 0)) else (none)) else (none)
set_option maxHeartbeats 8000000 in
set_option maxRecDepth 100000 in
theorem spec_l1Zeros.calls (a0 : Int) (r : List Int) (w : World) (h : spec_l1Zeros.f a0 = some r) :
  Calls Try.prog 136 #[.int .i64 a0] w fun e w' => ∃ v0_ : Value, e = .returned (v0_) ∧ Kd.R (Kd.int .i64) 2 w' w.heap.size (fun _ => True) v0_ r ∧ Below w.heap.size w w' := by
 have HB := aM (Below.refl w.heap.size w)
 have H : (if 0 ≤ a0 then (if (a0 : Int).toNat ≤ 35184372088832 then (some (List.replicate (a0 : Int).toNat 0)) else (none)) else (none)) = some r := h
 clear h
 by_cases c2 : 0 ≤ a0
 ·rw [if_pos c2] at H
  have c2b0 := eq_true c2
  have c2b1 : decide (0 ≤ a0) = true := decide_eq_true c2
  clear c2
  by_cases c3 : (a0 : Int).toNat ≤ 35184372088832
  ·rw [if_pos c3] at H
   have c3b0 := eq_true c3
   have c3b1 : decide ((a0 : Int).toNat ≤ 35184372088832) = true := decide_eq_true c3
   clear c3
   obtain ⟨y121, hy121⟩ : ∃ y_ : List Int, y_ = (List.replicate (a0 : Int).toNat 0) := ⟨_, rfl⟩
   replace H : (some y121) = some r := by first | (rw [hy121]; with_reducible exact H) | (have H2_ := (Option.bind_some _ _).symm.trans H; rw [hy121]; with_reducible exact H2_) | (have H2_ := (Option.bind_some _ _).symm.trans H; with_reducible exact H2_) | with_reducible exact H | (rw [hy121]; exact H) | exact H
   have Ny121 := aM hy121
   clear hy121
   obtain rfl := Option.some.inj H
   go_enter Try.func136, Try.ntmps136
   go_wp2_with (first | ((with_reducible refine gate_dst (N := 4) rfl ?_); refine Kd.R_make (Kd.int .i64) _ 2 rfl (N := 4) rfl 22 _ _ rfl a0 rfl rfl Try.underlying22 (.int .i64 0) 8 info2 rfl (by decide) (by omega) 0 (ok := fun _ => True) (okp := fun _ => True) rfl (fun _ hk => hk) trivial (of_decide_eq_true (by first | (with_reducible assumption) | assumption)) (Nat.le_trans (Nat.mul_le_mul_right _ (of_decide_eq_true (by first | (with_reducible assumption) | assumption) : a0.toNat ≤ 35184372088832)) (by omega)) (Below.refl _ _) (Nat.le_refl _) ?_; intro v122 w4 ho5 hb hg_ hnew_; clear hg_ hnew_; (first | rw [← Ny121.out] at ho5 | (simp only [Int.reduceToNat] at ho5; rw [← Ny121.out] at ho5)); have n0_ := aM (rG ho5 (bZ (by repeat (first | exact HB.out | apply bA | apply bN | apply bD)))); have n1_ := aM (bT (by repeat (first | exact HB.out | apply bA | apply bN | apply bD)) hb); clear HB; have HO123 := n0_; have HB := n1_; clear n0_ n1_ hb ho5))
   go_ret
   exact ⟨_, by first | rfl | (simp [errW_none, errW_some] <;> rfl) | (simp [*, errW_none, errW_some] <;> rfl), by (with_reducible repeat (first | apply rA | apply rN | apply rD)); exact HO123.out, by repeat (first | (with_reducible first | exact HB.out | apply bA | apply bN | apply bD) | exact HB.out)⟩
  ·rw [if_neg c3] at H
   exact absurd H (by simp)
 ·rw [if_neg c2] at H
  exact absurd H (by simp)

/-! ### spec_l5P: function 155 -/
def spec_l5P.f (a0 : Int) (a1 : Int) : Option (Int) := if (wrap64 ((wrap64 (a0 * 16)) + a1)) = 64 then (some 101) else (if (wrap64 ((wrap64 (a0 * 16)) + a1)) = 65 then (some 311) else (if (wrap64 ((wrap64 (a0 * 16)) + a1)) = 128 then (some 50) else (if (wrap64 ((wrap64 (a0 * 16)) + a1)) = 129 then (some 152) else (if (wrap64 ((wrap64 (a0 * 16)) + a1)) = 130 then (some 257) else (if (wrap64 ((wrap64 (a0 * 16)) + a1)) = 131 then (some 366) else (if (wrap64 ((wrap64 (a0 * 16)) + a1)) = 256 then (some 25) else (if (wrap64 ((wrap64 (a0 * 16)) + a1)) = 257 then (some 76) else (if (wrap64 ((wrap64 (a0 * 16)) + a1)) = 258 then (some 126) else (if (wrap64 ((wrap64 (a0 * 16)) + a1)) = 259 then (some 178) else (if (wrap64 ((wrap64 (a0 * 16)) + a1)) = 260 then (some 230) else (if (wrap64 ((wrap64 (a0 * 16)) + a1)) = 261 then (some 283) else (if (wrap64 ((wrap64 (a0 * 16)) + a1)) = 262 then (some 338) else (some 395)))))))))))))
set_option maxHeartbeats 8000000 in
set_option maxRecDepth 100000 in
theorem spec_l5P.calls (a0 : Int) (a1 : Int) (r : Int) (w : World) (h : spec_l5P.f a0 a1 = some r) :
  Calls Try.prog 155 #[.int .i64 a0, .int .i64 a1] w fun e w' => e = .returned (.int .i64 r) ∧ Drawn0 w w' := by
 have H : (if (wrap64 ((wrap64 (a0 * 16)) + a1)) = 64 then (some 101) else (if (wrap64 ((wrap64 (a0 * 16)) + a1)) = 65 then (some 311) else (if (wrap64 ((wrap64 (a0 * 16)) + a1)) = 128 then (some 50) else (if (wrap64 ((wrap64 (a0 * 16)) + a1)) = 129 then (some 152) else (if (wrap64 ((wrap64 (a0 * 16)) + a1)) = 130 then (some 257) else (if (wrap64 ((wrap64 (a0 * 16)) + a1)) = 131 then (some 366) else (if (wrap64 ((wrap64 (a0 * 16)) + a1)) = 256 then (some 25) else (if (wrap64 ((wrap64 (a0 * 16)) + a1)) = 257 then (some 76) else (if (wrap64 ((wrap64 (a0 * 16)) + a1)) = 258 then (some 126) else (if (wrap64 ((wrap64 (a0 * 16)) + a1)) = 259 then (some 178) else (if (wrap64 ((wrap64 (a0 * 16)) + a1)) = 260 then (some 230) else (if (wrap64 ((wrap64 (a0 * 16)) + a1)) = 261 then (some 283) else (if (wrap64 ((wrap64 (a0 * 16)) + a1)) = 262 then (some 338) else (some 395)))))))))))))) = some r := h
 clear h
 by_cases c3 : (wrap64 ((wrap64 (a0 * 16)) + a1)) = 64
 ·rw [if_pos c3] at H
  have c3b0 : ((wrap64 ((wrap64 (a0 * 16)) + a1)) == 64) = true := beq_iff_eq.mpr c3
  have c3b1 : ((wrap64 ((wrap64 (a0 * 16)) + a1)) != 64) = false := bne_eq_false_iff_eq.mpr c3
  clear c3
  obtain rfl := Option.some.inj H
  go_enter Try.func155, Try.ntmps155
  go_wp2
  go_ret
  exact ⟨by first | rfl | (simp; done) | (simp [*]; done), by repeat (first | exact Drawn0.refl _ | apply Drawn0.step)⟩
 ·rw [if_neg c3] at H
  have c3b0 : ((wrap64 ((wrap64 (a0 * 16)) + a1)) == 64) = false := beq_eq_false_iff_ne.mpr c3
  have c3b1 : ((wrap64 ((wrap64 (a0 * 16)) + a1)) != 64) = true := bne_iff_ne.mpr c3
  by_cases c4 : (wrap64 ((wrap64 (a0 * 16)) + a1)) = 65
  ·rw [if_pos c4] at H
   have c4b0 : ((wrap64 ((wrap64 (a0 * 16)) + a1)) == 65) = true := beq_iff_eq.mpr c4
   have c4b1 : ((wrap64 ((wrap64 (a0 * 16)) + a1)) != 65) = false := bne_eq_false_iff_eq.mpr c4
   clear c4
   obtain rfl := Option.some.inj H
   go_enter Try.func155, Try.ntmps155
   go_wp2
   go_ret
   exact ⟨by first | rfl | (simp; done) | (simp [*]; done), by repeat (first | exact Drawn0.refl _ | apply Drawn0.step)⟩
  ·rw [if_neg c4] at H
   have c4b0 : ((wrap64 ((wrap64 (a0 * 16)) + a1)) == 65) = false := beq_eq_false_iff_ne.mpr c4
   have c4b1 : ((wrap64 ((wrap64 (a0 * 16)) + a1)) != 65) = true := bne_iff_ne.mpr c4
   by_cases c5 : (wrap64 ((wrap64 (a0 * 16)) + a1)) = 128
   ·rw [if_pos c5] at H
    have c5b0 : ((wrap64 ((wrap64 (a0 * 16)) + a1)) == 128) = true := beq_iff_eq.mpr c5
    have c5b1 : ((wrap64 ((wrap64 (a0 * 16)) + a1)) != 128) = false := bne_eq_false_iff_eq.mpr c5
    clear c5
    obtain rfl := Option.some.inj H
    go_enter Try.func155, Try.ntmps155
    go_wp2
    go_ret
    exact ⟨by first | rfl | (simp; done) | (simp [*]; done), by repeat (first | exact Drawn0.refl _ | apply Drawn0.step)⟩
   ·rw [if_neg c5] at H
    have c5b0 : ((wrap64 ((wrap64 (a0 * 16)) + a1)) == 128) = false := beq_eq_false_iff_ne.mpr c5
    have c5b1 : ((wrap64 ((wrap64 (a0 * 16)) + a1)) != 128) = true := bne_iff_ne.mpr c5
    by_cases c6 : (wrap64 ((wrap64 (a0 * 16)) + a1)) = 129
    ·rw [if_pos c6] at H
     have c6b0 : ((wrap64 ((wrap64 (a0 * 16)) + a1)) == 129) = true := beq_iff_eq.mpr c6
     have c6b1 : ((wrap64 ((wrap64 (a0 * 16)) + a1)) != 129) = false := bne_eq_false_iff_eq.mpr c6
     clear c6
     obtain rfl := Option.some.inj H
     go_enter Try.func155, Try.ntmps155
     go_wp2
     go_ret
     exact ⟨by first | rfl | (simp; done) | (simp [*]; done), by repeat (first | exact Drawn0.refl _ | apply Drawn0.step)⟩
    ·rw [if_neg c6] at H
     have c6b0 : ((wrap64 ((wrap64 (a0 * 16)) + a1)) == 129) = false := beq_eq_false_iff_ne.mpr c6
     have c6b1 : ((wrap64 ((wrap64 (a0 * 16)) + a1)) != 129) = true := bne_iff_ne.mpr c6
     by_cases c7 : (wrap64 ((wrap64 (a0 * 16)) + a1)) = 130
     ·rw [if_pos c7] at H
      have c7b0 : ((wrap64 ((wrap64 (a0 * 16)) + a1)) == 130) = true := beq_iff_eq.mpr c7
      have c7b1 : ((wrap64 ((wrap64 (a0 * 16)) + a1)) != 130) = false := bne_eq_false_iff_eq.mpr c7
      clear c7
      obtain rfl := Option.some.inj H
      go_enter Try.func155, Try.ntmps155
      go_wp2
      go_ret
      exact ⟨by first | rfl | (simp; done) | (simp [*]; done), by repeat (first | exact Drawn0.refl _ | apply Drawn0.step)⟩
     ·rw [if_neg c7] at H
      have c7b0 : ((wrap64 ((wrap64 (a0 * 16)) + a1)) == 130) = false := beq_eq_false_iff_ne.mpr c7
      have c7b1 : ((wrap64 ((wrap64 (a0 * 16)) + a1)) != 130) = true := bne_iff_ne.mpr c7
      by_cases c8 : (wrap64 ((wrap64 (a0 * 16)) + a1)) = 131
      ·rw [if_pos c8] at H
       have c8b0 : ((wrap64 ((wrap64 (a0 * 16)) + a1)) == 131) = true := beq_iff_eq.mpr c8
       have c8b1 : ((wrap64 ((wrap64 (a0 * 16)) + a1)) != 131) = false := bne_eq_false_iff_eq.mpr c8
       clear c8
       obtain rfl := Option.some.inj H
       go_enter Try.func155, Try.ntmps155
       go_wp2
       go_ret
       exact ⟨by first | rfl | (simp; done) | (simp [*]; done), by repeat (first | exact Drawn0.refl _ | apply Drawn0.step)⟩
      ·rw [if_neg c8] at H
       have c8b0 : ((wrap64 ((wrap64 (a0 * 16)) + a1)) == 131) = false := beq_eq_false_iff_ne.mpr c8
       have c8b1 : ((wrap64 ((wrap64 (a0 * 16)) + a1)) != 131) = true := bne_iff_ne.mpr c8
       by_cases c9 : (wrap64 ((wrap64 (a0 * 16)) + a1)) = 256
       ·rw [if_pos c9] at H
        have c9b0 : ((wrap64 ((wrap64 (a0 * 16)) + a1)) == 256) = true := beq_iff_eq.mpr c9
        have c9b1 : ((wrap64 ((wrap64 (a0 * 16)) + a1)) != 256) = false := bne_eq_false_iff_eq.mpr c9
        clear c9
        obtain rfl := Option.some.inj H
        go_enter Try.func155, Try.ntmps155
        go_wp2
        go_ret
        exact ⟨by first | rfl | (simp; done) | (simp [*]; done), by repeat (first | exact Drawn0.refl _ | apply Drawn0.step)⟩
       ·rw [if_neg c9] at H
        have c9b0 : ((wrap64 ((wrap64 (a0 * 16)) + a1)) == 256) = false := beq_eq_false_iff_ne.mpr c9
        have c9b1 : ((wrap64 ((wrap64 (a0 * 16)) + a1)) != 256) = true := bne_iff_ne.mpr c9
        by_cases c10 : (wrap64 ((wrap64 (a0 * 16)) + a1)) = 257
        ·rw [if_pos c10] at H
         have c10b0 : ((wrap64 ((wrap64 (a0 * 16)) + a1)) == 257) = true := beq_iff_eq.mpr c10
         have c10b1 : ((wrap64 ((wrap64 (a0 * 16)) + a1)) != 257) = false := bne_eq_false_iff_eq.mpr c10
         clear c10
         obtain rfl := Option.some.inj H
         go_enter Try.func155, Try.ntmps155
         go_wp2
         go_ret
         exact ⟨by first | rfl | (simp; done) | (simp [*]; done), by repeat (first | exact Drawn0.refl _ | apply Drawn0.step)⟩
        ·rw [if_neg c10] at H
         have c10b0 : ((wrap64 ((wrap64 (a0 * 16)) + a1)) == 257) = false := beq_eq_false_iff_ne.mpr c10
         have c10b1 : ((wrap64 ((wrap64 (a0 * 16)) + a1)) != 257) = true := bne_iff_ne.mpr c10
         by_cases c11 : (wrap64 ((wrap64 (a0 * 16)) + a1)) = 258
         ·rw [if_pos c11] at H
          have c11b0 : ((wrap64 ((wrap64 (a0 * 16)) + a1)) == 258) = true := beq_iff_eq.mpr c11
          have c11b1 : ((wrap64 ((wrap64 (a0 * 16)) + a1)) != 258) = false := bne_eq_false_iff_eq.mpr c11
          clear c11
          obtain rfl := Option.some.inj H
          go_enter Try.func155, Try.ntmps155
          go_wp2
          go_ret
          exact ⟨by first | rfl | (simp; done) | (simp [*]; done), by repeat (first | exact Drawn0.refl _ | apply Drawn0.step)⟩
         ·rw [if_neg c11] at H
          have c11b0 : ((wrap64 ((wrap64 (a0 * 16)) + a1)) == 258) = false := beq_eq_false_iff_ne.mpr c11
          have c11b1 : ((wrap64 ((wrap64 (a0 * 16)) + a1)) != 258) = true := bne_iff_ne.mpr c11
          by_cases c12 : (wrap64 ((wrap64 (a0 * 16)) + a1)) = 259
          ·rw [if_pos c12] at H
           have c12b0 : ((wrap64 ((wrap64 (a0 * 16)) + a1)) == 259) = true := beq_iff_eq.mpr c12
           have c12b1 : ((wrap64 ((wrap64 (a0 * 16)) + a1)) != 259) = false := bne_eq_false_iff_eq.mpr c12
           clear c12
           obtain rfl := Option.some.inj H
           go_enter Try.func155, Try.ntmps155
           go_wp2
           go_ret
           exact ⟨by first | rfl | (simp; done) | (simp [*]; done), by repeat (first | exact Drawn0.refl _ | apply Drawn0.step)⟩
          ·rw [if_neg c12] at H
           have c12b0 : ((wrap64 ((wrap64 (a0 * 16)) + a1)) == 259) = false := beq_eq_false_iff_ne.mpr c12
           have c12b1 : ((wrap64 ((wrap64 (a0 * 16)) + a1)) != 259) = true := bne_iff_ne.mpr c12
           by_cases c13 : (wrap64 ((wrap64 (a0 * 16)) + a1)) = 260
           ·rw [if_pos c13] at H
            have c13b0 : ((wrap64 ((wrap64 (a0 * 16)) + a1)) == 260) = true := beq_iff_eq.mpr c13
            have c13b1 : ((wrap64 ((wrap64 (a0 * 16)) + a1)) != 260) = false := bne_eq_false_iff_eq.mpr c13
            clear c13
            obtain rfl := Option.some.inj H
            go_enter Try.func155, Try.ntmps155
            go_wp2
            go_ret
            exact ⟨by first | rfl | (simp; done) | (simp [*]; done), by repeat (first | exact Drawn0.refl _ | apply Drawn0.step)⟩
           ·rw [if_neg c13] at H
            have c13b0 : ((wrap64 ((wrap64 (a0 * 16)) + a1)) == 260) = false := beq_eq_false_iff_ne.mpr c13
            have c13b1 : ((wrap64 ((wrap64 (a0 * 16)) + a1)) != 260) = true := bne_iff_ne.mpr c13
            by_cases c14 : (wrap64 ((wrap64 (a0 * 16)) + a1)) = 261
            ·rw [if_pos c14] at H
             have c14b0 : ((wrap64 ((wrap64 (a0 * 16)) + a1)) == 261) = true := beq_iff_eq.mpr c14
             have c14b1 : ((wrap64 ((wrap64 (a0 * 16)) + a1)) != 261) = false := bne_eq_false_iff_eq.mpr c14
             clear c14
             obtain rfl := Option.some.inj H
             go_enter Try.func155, Try.ntmps155
             go_wp2
             go_ret
             exact ⟨by first | rfl | (simp; done) | (simp [*]; done), by repeat (first | exact Drawn0.refl _ | apply Drawn0.step)⟩
            ·rw [if_neg c14] at H
             have c14b0 : ((wrap64 ((wrap64 (a0 * 16)) + a1)) == 261) = false := beq_eq_false_iff_ne.mpr c14
             have c14b1 : ((wrap64 ((wrap64 (a0 * 16)) + a1)) != 261) = true := bne_iff_ne.mpr c14
             by_cases c15 : (wrap64 ((wrap64 (a0 * 16)) + a1)) = 262
             ·rw [if_pos c15] at H
              have c15b0 : ((wrap64 ((wrap64 (a0 * 16)) + a1)) == 262) = true := beq_iff_eq.mpr c15
              have c15b1 : ((wrap64 ((wrap64 (a0 * 16)) + a1)) != 262) = false := bne_eq_false_iff_eq.mpr c15
              clear c15
              obtain rfl := Option.some.inj H
              go_enter Try.func155, Try.ntmps155
              go_wp2
              go_ret
              exact ⟨by first | rfl | (simp; done) | (simp [*]; done), by repeat (first | exact Drawn0.refl _ | apply Drawn0.step)⟩
             ·rw [if_neg c15] at H
              have c15b0 : ((wrap64 ((wrap64 (a0 * 16)) + a1)) == 262) = false := beq_eq_false_iff_ne.mpr c15
              have c15b1 : ((wrap64 ((wrap64 (a0 * 16)) + a1)) != 262) = true := bne_iff_ne.mpr c15
              obtain rfl := Option.some.inj H
              go_enter Try.func155, Try.ntmps155
              go_wp2
              go_ret
              exact ⟨by first | rfl | (simp; done) | (simp [*]; done), by repeat (first | exact Drawn0.refl _ | apply Drawn0.step)⟩

/-! ### spec_l5U: function 156 -/
def spec_l5U.f (a0 : Int) (a1 : Int) : Option (Int) := if (wrap64 ((wrap64 (a0 * 16)) + a1)) = 64 then (some 200) else (if (wrap64 ((wrap64 (a0 * 16)) + a1)) = 65 then (some 569) else (if (wrap64 ((wrap64 (a0 * 16)) + a1)) = 128 then (some 100) else (if (wrap64 ((wrap64 (a0 * 16)) + a1)) = 129 then (some 297) else (if (wrap64 ((wrap64 (a0 * 16)) + a1)) = 130 then (some 483) else (if (wrap64 ((wrap64 (a0 * 16)) + a1)) = 131 then (some 650) else (if (wrap64 ((wrap64 (a0 * 16)) + a1)) = 256 then (some 50) else (if (wrap64 ((wrap64 (a0 * 16)) + a1)) = 257 then (some 150) else (if (wrap64 ((wrap64 (a0 * 16)) + a1)) = 258 then (some 249) else (if (wrap64 ((wrap64 (a0 * 16)) + a1)) = 259 then (some 345) else (if (wrap64 ((wrap64 (a0 * 16)) + a1)) = 260 then (some 438) else (if (wrap64 ((wrap64 (a0 * 16)) + a1)) = 261 then (some 526) else (if (wrap64 ((wrap64 (a0 * 16)) + a1)) = 262 then (some 610) else (some 688)))))))))))))
set_option maxHeartbeats 8000000 in
set_option maxRecDepth 100000 in
theorem spec_l5U.calls (a0 : Int) (a1 : Int) (r : Int) (w : World) (h : spec_l5U.f a0 a1 = some r) :
  Calls Try.prog 156 #[.int .i64 a0, .int .i64 a1] w fun e w' => e = .returned (.int .i64 r) ∧ Drawn0 w w' := by
 have H : (if (wrap64 ((wrap64 (a0 * 16)) + a1)) = 64 then (some 200) else (if (wrap64 ((wrap64 (a0 * 16)) + a1)) = 65 then (some 569) else (if (wrap64 ((wrap64 (a0 * 16)) + a1)) = 128 then (some 100) else (if (wrap64 ((wrap64 (a0 * 16)) + a1)) = 129 then (some 297) else (if (wrap64 ((wrap64 (a0 * 16)) + a1)) = 130 then (some 483) else (if (wrap64 ((wrap64 (a0 * 16)) + a1)) = 131 then (some 650) else (if (wrap64 ((wrap64 (a0 * 16)) + a1)) = 256 then (some 50) else (if (wrap64 ((wrap64 (a0 * 16)) + a1)) = 257 then (some 150) else (if (wrap64 ((wrap64 (a0 * 16)) + a1)) = 258 then (some 249) else (if (wrap64 ((wrap64 (a0 * 16)) + a1)) = 259 then (some 345) else (if (wrap64 ((wrap64 (a0 * 16)) + a1)) = 260 then (some 438) else (if (wrap64 ((wrap64 (a0 * 16)) + a1)) = 261 then (some 526) else (if (wrap64 ((wrap64 (a0 * 16)) + a1)) = 262 then (some 610) else (some 688)))))))))))))) = some r := h
 clear h
 by_cases c3 : (wrap64 ((wrap64 (a0 * 16)) + a1)) = 64
 ·rw [if_pos c3] at H
  have c3b0 : ((wrap64 ((wrap64 (a0 * 16)) + a1)) == 64) = true := beq_iff_eq.mpr c3
  have c3b1 : ((wrap64 ((wrap64 (a0 * 16)) + a1)) != 64) = false := bne_eq_false_iff_eq.mpr c3
  clear c3
  obtain rfl := Option.some.inj H
  go_enter Try.func156, Try.ntmps156
  go_wp2
  go_ret
  exact ⟨by first | rfl | (simp; done) | (simp [*]; done), by repeat (first | exact Drawn0.refl _ | apply Drawn0.step)⟩
 ·rw [if_neg c3] at H
  have c3b0 : ((wrap64 ((wrap64 (a0 * 16)) + a1)) == 64) = false := beq_eq_false_iff_ne.mpr c3
  have c3b1 : ((wrap64 ((wrap64 (a0 * 16)) + a1)) != 64) = true := bne_iff_ne.mpr c3
  by_cases c4 : (wrap64 ((wrap64 (a0 * 16)) + a1)) = 65
  ·rw [if_pos c4] at H
   have c4b0 : ((wrap64 ((wrap64 (a0 * 16)) + a1)) == 65) = true := beq_iff_eq.mpr c4
   have c4b1 : ((wrap64 ((wrap64 (a0 * 16)) + a1)) != 65) = false := bne_eq_false_iff_eq.mpr c4
   clear c4
   obtain rfl := Option.some.inj H
   go_enter Try.func156, Try.ntmps156
   go_wp2
   go_ret
   exact ⟨by first | rfl | (simp; done) | (simp [*]; done), by repeat (first | exact Drawn0.refl _ | apply Drawn0.step)⟩
  ·rw [if_neg c4] at H
   have c4b0 : ((wrap64 ((wrap64 (a0 * 16)) + a1)) == 65) = false := beq_eq_false_iff_ne.mpr c4
   have c4b1 : ((wrap64 ((wrap64 (a0 * 16)) + a1)) != 65) = true := bne_iff_ne.mpr c4
   by_cases c5 : (wrap64 ((wrap64 (a0 * 16)) + a1)) = 128
   ·rw [if_pos c5] at H
    have c5b0 : ((wrap64 ((wrap64 (a0 * 16)) + a1)) == 128) = true := beq_iff_eq.mpr c5
    have c5b1 : ((wrap64 ((wrap64 (a0 * 16)) + a1)) != 128) = false := bne_eq_false_iff_eq.mpr c5
    clear c5
    obtain rfl := Option.some.inj H
    go_enter Try.func156, Try.ntmps156
    go_wp2
    go_ret
    exact ⟨by first | rfl | (simp; done) | (simp [*]; done), by repeat (first | exact Drawn0.refl _ | apply Drawn0.step)⟩
   ·rw [if_neg c5] at H
    have c5b0 : ((wrap64 ((wrap64 (a0 * 16)) + a1)) == 128) = false := beq_eq_false_iff_ne.mpr c5
    have c5b1 : ((wrap64 ((wrap64 (a0 * 16)) + a1)) != 128) = true := bne_iff_ne.mpr c5
    by_cases c6 : (wrap64 ((wrap64 (a0 * 16)) + a1)) = 129
    ·rw [if_pos c6] at H
     have c6b0 : ((wrap64 ((wrap64 (a0 * 16)) + a1)) == 129) = true := beq_iff_eq.mpr c6
     have c6b1 : ((wrap64 ((wrap64 (a0 * 16)) + a1)) != 129) = false := bne_eq_false_iff_eq.mpr c6
     clear c6
     obtain rfl := Option.some.inj H
     go_enter Try.func156, Try.ntmps156
     go_wp2
     go_ret
     exact ⟨by first | rfl | (simp; done) | (simp [*]; done), by repeat (first | exact Drawn0.refl _ | apply Drawn0.step)⟩
    ·rw [if_neg c6] at H
     have c6b0 : ((wrap64 ((wrap64 (a0 * 16)) + a1)) == 129) = false := beq_eq_false_iff_ne.mpr c6
     have c6b1 : ((wrap64 ((wrap64 (a0 * 16)) + a1)) != 129) = true := bne_iff_ne.mpr c6
     by_cases c7 : (wrap64 ((wrap64 (a0 * 16)) + a1)) = 130
     ·rw [if_pos c7] at H
      have c7b0 : ((wrap64 ((wrap64 (a0 * 16)) + a1)) == 130) = true := beq_iff_eq.mpr c7
      have c7b1 : ((wrap64 ((wrap64 (a0 * 16)) + a1)) != 130) = false := bne_eq_false_iff_eq.mpr c7
      clear c7
      obtain rfl := Option.some.inj H
      go_enter Try.func156, Try.ntmps156
      go_wp2
      go_ret
      exact ⟨by first | rfl | (simp; done) | (simp [*]; done), by repeat (first | exact Drawn0.refl _ | apply Drawn0.step)⟩
     ·rw [if_neg c7] at H
      have c7b0 : ((wrap64 ((wrap64 (a0 * 16)) + a1)) == 130) = false := beq_eq_false_iff_ne.mpr c7
      have c7b1 : ((wrap64 ((wrap64 (a0 * 16)) + a1)) != 130) = true := bne_iff_ne.mpr c7
      by_cases c8 : (wrap64 ((wrap64 (a0 * 16)) + a1)) = 131
      ·rw [if_pos c8] at H
       have c8b0 : ((wrap64 ((wrap64 (a0 * 16)) + a1)) == 131) = true := beq_iff_eq.mpr c8
       have c8b1 : ((wrap64 ((wrap64 (a0 * 16)) + a1)) != 131) = false := bne_eq_false_iff_eq.mpr c8
       clear c8
       obtain rfl := Option.some.inj H
       go_enter Try.func156, Try.ntmps156
       go_wp2
       go_ret
       exact ⟨by first | rfl | (simp; done) | (simp [*]; done), by repeat (first | exact Drawn0.refl _ | apply Drawn0.step)⟩
      ·rw [if_neg c8] at H
       have c8b0 : ((wrap64 ((wrap64 (a0 * 16)) + a1)) == 131) = false := beq_eq_false_iff_ne.mpr c8
       have c8b1 : ((wrap64 ((wrap64 (a0 * 16)) + a1)) != 131) = true := bne_iff_ne.mpr c8
       by_cases c9 : (wrap64 ((wrap64 (a0 * 16)) + a1)) = 256
       ·rw [if_pos c9] at H
        have c9b0 : ((wrap64 ((wrap64 (a0 * 16)) + a1)) == 256) = true := beq_iff_eq.mpr c9
        have c9b1 : ((wrap64 ((wrap64 (a0 * 16)) + a1)) != 256) = false := bne_eq_false_iff_eq.mpr c9
        clear c9
        obtain rfl := Option.some.inj H
        go_enter Try.func156, Try.ntmps156
        go_wp2
        go_ret
        exact ⟨by first | rfl | (simp; done) | (simp [*]; done), by repeat (first | exact Drawn0.refl _ | apply Drawn0.step)⟩
       ·rw [if_neg c9] at H
        have c9b0 : ((wrap64 ((wrap64 (a0 * 16)) + a1)) == 256) = false := beq_eq_false_iff_ne.mpr c9
        have c9b1 : ((wrap64 ((wrap64 (a0 * 16)) + a1)) != 256) = true := bne_iff_ne.mpr c9
        by_cases c10 : (wrap64 ((wrap64 (a0 * 16)) + a1)) = 257
        ·rw [if_pos c10] at H
         have c10b0 : ((wrap64 ((wrap64 (a0 * 16)) + a1)) == 257) = true := beq_iff_eq.mpr c10
         have c10b1 : ((wrap64 ((wrap64 (a0 * 16)) + a1)) != 257) = false := bne_eq_false_iff_eq.mpr c10
         clear c10
         obtain rfl := Option.some.inj H
         go_enter Try.func156, Try.ntmps156
         go_wp2
         go_ret
         exact ⟨by first | rfl | (simp; done) | (simp [*]; done), by repeat (first | exact Drawn0.refl _ | apply Drawn0.step)⟩
        ·rw [if_neg c10] at H
         have c10b0 : ((wrap64 ((wrap64 (a0 * 16)) + a1)) == 257) = false := beq_eq_false_iff_ne.mpr c10
         have c10b1 : ((wrap64 ((wrap64 (a0 * 16)) + a1)) != 257) = true := bne_iff_ne.mpr c10
         by_cases c11 : (wrap64 ((wrap64 (a0 * 16)) + a1)) = 258
         ·rw [if_pos c11] at H
          have c11b0 : ((wrap64 ((wrap64 (a0 * 16)) + a1)) == 258) = true := beq_iff_eq.mpr c11
          have c11b1 : ((wrap64 ((wrap64 (a0 * 16)) + a1)) != 258) = false := bne_eq_false_iff_eq.mpr c11
          clear c11
          obtain rfl := Option.some.inj H
          go_enter Try.func156, Try.ntmps156
          go_wp2
          go_ret
          exact ⟨by first | rfl | (simp; done) | (simp [*]; done), by repeat (first | exact Drawn0.refl _ | apply Drawn0.step)⟩
         ·rw [if_neg c11] at H
          have c11b0 : ((wrap64 ((wrap64 (a0 * 16)) + a1)) == 258) = false := beq_eq_false_iff_ne.mpr c11
          have c11b1 : ((wrap64 ((wrap64 (a0 * 16)) + a1)) != 258) = true := bne_iff_ne.mpr c11
          by_cases c12 : (wrap64 ((wrap64 (a0 * 16)) + a1)) = 259
          ·rw [if_pos c12] at H
           have c12b0 : ((wrap64 ((wrap64 (a0 * 16)) + a1)) == 259) = true := beq_iff_eq.mpr c12
           have c12b1 : ((wrap64 ((wrap64 (a0 * 16)) + a1)) != 259) = false := bne_eq_false_iff_eq.mpr c12
           clear c12
           obtain rfl := Option.some.inj H
           go_enter Try.func156, Try.ntmps156
           go_wp2
           go_ret
           exact ⟨by first | rfl | (simp; done) | (simp [*]; done), by repeat (first | exact Drawn0.refl _ | apply Drawn0.step)⟩
          ·rw [if_neg c12] at H
           have c12b0 : ((wrap64 ((wrap64 (a0 * 16)) + a1)) == 259) = false := beq_eq_false_iff_ne.mpr c12
           have c12b1 : ((wrap64 ((wrap64 (a0 * 16)) + a1)) != 259) = true := bne_iff_ne.mpr c12
           by_cases c13 : (wrap64 ((wrap64 (a0 * 16)) + a1)) = 260
           ·rw [if_pos c13] at H
            have c13b0 : ((wrap64 ((wrap64 (a0 * 16)) + a1)) == 260) = true := beq_iff_eq.mpr c13
            have c13b1 : ((wrap64 ((wrap64 (a0 * 16)) + a1)) != 260) = false := bne_eq_false_iff_eq.mpr c13
            clear c13
            obtain rfl := Option.some.inj H
            go_enter Try.func156, Try.ntmps156
            go_wp2
            go_ret
            exact ⟨by first | rfl | (simp; done) | (simp [*]; done), by repeat (first | exact Drawn0.refl _ | apply Drawn0.step)⟩
           ·rw [if_neg c13] at H
            have c13b0 : ((wrap64 ((wrap64 (a0 * 16)) + a1)) == 260) = false := beq_eq_false_iff_ne.mpr c13
            have c13b1 : ((wrap64 ((wrap64 (a0 * 16)) + a1)) != 260) = true := bne_iff_ne.mpr c13
            by_cases c14 : (wrap64 ((wrap64 (a0 * 16)) + a1)) = 261
            ·rw [if_pos c14] at H
             have c14b0 : ((wrap64 ((wrap64 (a0 * 16)) + a1)) == 261) = true := beq_iff_eq.mpr c14
             have c14b1 : ((wrap64 ((wrap64 (a0 * 16)) + a1)) != 261) = false := bne_eq_false_iff_eq.mpr c14
             clear c14
             obtain rfl := Option.some.inj H
             go_enter Try.func156, Try.ntmps156
             go_wp2
             go_ret
             exact ⟨by first | rfl | (simp; done) | (simp [*]; done), by repeat (first | exact Drawn0.refl _ | apply Drawn0.step)⟩
            ·rw [if_neg c14] at H
             have c14b0 : ((wrap64 ((wrap64 (a0 * 16)) + a1)) == 261) = false := beq_eq_false_iff_ne.mpr c14
             have c14b1 : ((wrap64 ((wrap64 (a0 * 16)) + a1)) != 261) = true := bne_iff_ne.mpr c14
             by_cases c15 : (wrap64 ((wrap64 (a0 * 16)) + a1)) = 262
             ·rw [if_pos c15] at H
              have c15b0 : ((wrap64 ((wrap64 (a0 * 16)) + a1)) == 262) = true := beq_iff_eq.mpr c15
              have c15b1 : ((wrap64 ((wrap64 (a0 * 16)) + a1)) != 262) = false := bne_eq_false_iff_eq.mpr c15
              clear c15
              obtain rfl := Option.some.inj H
              go_enter Try.func156, Try.ntmps156
              go_wp2
              go_ret
              exact ⟨by first | rfl | (simp; done) | (simp [*]; done), by repeat (first | exact Drawn0.refl _ | apply Drawn0.step)⟩
             ·rw [if_neg c15] at H
              have c15b0 : ((wrap64 ((wrap64 (a0 * 16)) + a1)) == 262) = false := beq_eq_false_iff_ne.mpr c15
              have c15b1 : ((wrap64 ((wrap64 (a0 * 16)) + a1)) != 262) = true := bne_iff_ne.mpr c15
              obtain rfl := Option.some.inj H
              go_enter Try.func156, Try.ntmps156
              go_wp2
              go_ret
              exact ⟨by first | rfl | (simp; done) | (simp [*]; done), by repeat (first | exact Drawn0.refl _ | apply Drawn0.step)⟩

/-! ### spec_l1Ceil: function 137 -/
def spec_l1Ceil.f (a0 : Int) (a1 : Int) : Option (Int) := if a1 = 0 then (none) else (some (wrap64 (Int.tdiv (wrap64 ((wrap64 (a0 + a1)) - 1)) a1)))
set_option maxHeartbeats 8000000 in
set_option maxRecDepth 100000 in
theorem spec_l1Ceil.calls (a0 : Int) (a1 : Int) (r : Int) (w : World) (h : spec_l1Ceil.f a0 a1 = some r) :
  Calls Try.prog 137 #[.int .i64 a0, .int .i64 a1] w fun e w' => e = .returned (.int .i64 r) ∧ Drawn0 w w' := by
 have H : (if a1 = 0 then (none) else (some (wrap64 (Int.tdiv (wrap64 ((wrap64 (a0 + a1)) - 1)) a1)))) = some r := h
 clear h
 by_cases c3 : a1 = 0
 ·rw [if_pos c3] at H
  exact absurd H (by simp)
 ·rw [if_neg c3] at H
  have c3b0 : (a1 == 0) = false := beq_eq_false_iff_ne.mpr c3
  have c3b1 : (a1 != 0) = true := bne_iff_ne.mpr c3
  obtain rfl := Option.some.inj H
  go_enter Try.func137, Try.ntmps137
  go_wp2
  go_ret
  exact ⟨by first | rfl | (simp; done) | (simp [*]; done), by repeat (first | exact Drawn0.refl _ | apply Drawn0.step)⟩

/-! ### spec_l1Floor: function 160 -/
def spec_l1Floor.f (a0 : Int) (a1 : Int) : Option (Int) := if a0 < 0 then ((spec_l1Ceil.f (wrap64 (-a0)) a1).bind fun t124 => (some (wrap64 (-t124)))) else (if a1 = 0 then (none) else (some (wrap64 (Int.tdiv a0 a1))))
set_option maxHeartbeats 8000000 in
set_option maxRecDepth 100000 in
theorem spec_l1Floor.calls (a0 : Int) (a1 : Int) (r : Int) (w : World) (h : spec_l1Floor.f a0 a1 = some r) :
  Calls Try.prog 160 #[.int .i64 a0, .int .i64 a1] w fun e w' => e = .returned (.int .i64 r) ∧ Drawn0 w w' := by
 have H : (if a0 < 0 then ((spec_l1Ceil.f (wrap64 (-a0)) a1).bind fun t124 => (some (wrap64 (-t124)))) else (if a1 = 0 then (none) else (some (wrap64 (Int.tdiv a0 a1))))) = some r := h
 clear h
 by_cases c3 : a0 < 0
 ·rw [if_pos c3] at H
  have c3b0 : decide (a0 < 0) = true := decide_eq_true c3
  clear c3
  replace H := Option.bind_eq_some_iff.mp H
  obtain ⟨t124, A40, H⟩ := H
  replace H : (some (wrap64 (-t124))) = some r := H
  have A4 := aM A40
  clear A40
  obtain rfl := Option.some.inj H
  go_enter Try.func160, Try.ntmps160
  go_wp2_with (first | ((with_reducible refine gate_callee (f := 137) rfl ?_); refine goesL_ (some 10) rfl rfl Try.func137 (by kernel_rfl) rfl #[.int .i64 (wrap64 (-a0)), .int .i64 a1] rfl (by first | rfl | (simp only [List.map_toArray, List.map_cons, List.map_nil]; rfl)) ?_; (with_reducible refine (spec_l1Ceil.calls (wrap64 (-a0)) a1 t124 _ A4.out).mono ?_); rintro e w' ⟨rfl, ⟨nd, rfl⟩⟩; refine ⟨_, rfl, ?_⟩))
  go_ret
  exact ⟨by first | rfl | (simp; done) | (simp [*]; done), by repeat (first | exact Drawn0.refl _ | apply Drawn0.step)⟩
 ·rw [if_neg c3] at H
  have c3b0 : decide (a0 < 0) = false := decide_eq_false c3
  clear c3
  by_cases c5 : a1 = 0
  ·rw [if_pos c5] at H
   exact absurd H (by simp)
  ·rw [if_neg c5] at H
   have c5b0 : (a1 == 0) = false := beq_eq_false_iff_ne.mpr c5
   have c5b1 : (a1 != 0) = true := bne_iff_ne.mpr c5
   obtain rfl := Option.some.inj H
   go_enter Try.func160, Try.ntmps160
   go_wp2
   go_ret
   exact ⟨by first | rfl | (simp; done) | (simp [*]; done), by repeat (first | exact Drawn0.refl _ | apply Drawn0.step)⟩

/-! ### spec_l1Ten: function 158 -/
def spec_l1Ten.f (a0 : Int) : Option (Int) := (spec_l1Floor.f (wrap64 (a0 + 512)) 1024).bind fun t125 => (some t125)
set_option maxHeartbeats 8000000 in
set_option maxRecDepth 100000 in
theorem spec_l1Ten.calls (a0 : Int) (r : Int) (w : World) (h : spec_l1Ten.f a0 = some r) :
  Calls Try.prog 158 #[.int .i64 a0] w fun e w' => e = .returned (.int .i64 r) ∧ Drawn0 w w' := by
 have H : ((spec_l1Floor.f (wrap64 (a0 + 512)) 1024).bind fun t125 => (some t125)) = some r := h
 clear h
 replace H := Option.bind_eq_some_iff.mp H
 obtain ⟨t125, A20, H⟩ := H
 replace H : (some t125) = some r := H
 have A2 := aM A20
 clear A20
 obtain rfl := Option.some.inj H
 go_enter Try.func158, Try.ntmps158
 go_wp2_with (first | ((with_reducible refine gate_callee (f := 160) rfl ?_); refine goesL_ (some 5) rfl rfl Try.func160 (by kernel_rfl) rfl #[.int .i64 (wrap64 (a0 + 512)), .int .i64 1024] rfl (by first | rfl | (simp only [List.map_toArray, List.map_cons, List.map_nil]; rfl)) ?_; (with_reducible refine (spec_l1Floor.calls (wrap64 (a0 + 512)) 1024 t125 _ A2.out).mono ?_); rintro e w' ⟨rfl, ⟨nd, rfl⟩⟩; refine ⟨_, rfl, ?_⟩))
 go_ret
 exact ⟨by first | rfl | (simp; done) | (simp [*]; done), by repeat (first | exact Drawn0.refl _ | apply Drawn0.step)⟩

/-! ### spec_l5Back: function 142 -/
def spec_l5Back.f (a0 : Int) (a1 : Int) (a2 : Int) (a3 : Int) : Option (Int × Int) := (spec_l5P.f a0 a1).bind fun t126 => ((spec_l1Ten.f (wrap64 (t126 * a3))).bind fun t127 => ((spec_l5U.f a0 a1).bind fun t128 => ((spec_l1Ten.f (wrap64 (t128 * (wrap64 (a2 + t127))))).bind fun t129 => ((spec_l5P.f a0 a1).bind fun t130 => ((spec_l1Ten.f (wrap64 (t130 * (wrap64 (a3 - t129))))).bind fun t131 => (some (wrap64 ((wrap64 (a2 + t127)) + t131), wrap64 (a3 - t129))))))))
set_option maxHeartbeats 8000000 in
set_option maxRecDepth 100000 in
theorem spec_l5Back.calls (a0 : Int) (a1 : Int) (a2 : Int) (a3 : Int) (r1 : Int) (r2 : Int) (w : World) (h : spec_l5Back.f a0 a1 a2 a3 = some (r1, r2)) :
  Calls Try.prog 142 #[.int .i64 a0, .int .i64 a1, .int .i64 a2, .int .i64 a3] w fun e w' => e = .returned (.tuple #[.int .i64 r1, .int .i64 r2]) ∧ Below w.heap.size w w' := by
 have HB := aM (Below.refl w.heap.size w)
 have H : ((spec_l5P.f a0 a1).bind fun t126 => ((spec_l1Ten.f (wrap64 (t126 * a3))).bind fun t127 => ((spec_l5U.f a0 a1).bind fun t128 => ((spec_l1Ten.f (wrap64 (t128 * (wrap64 (a2 + t127))))).bind fun t129 => ((spec_l5P.f a0 a1).bind fun t130 => ((spec_l1Ten.f (wrap64 (t130 * (wrap64 (a3 - t129))))).bind fun t131 => (some (wrap64 ((wrap64 (a2 + t127)) + t131), wrap64 (a3 - t129))))))))) = some (r1, r2) := h
 clear h
 replace H := Option.bind_eq_some_iff.mp H
 obtain ⟨t126, A50, H⟩ := H
 replace H : ((spec_l1Ten.f (wrap64 (t126 * a3))).bind fun t127 => ((spec_l5U.f a0 a1).bind fun t128 => ((spec_l1Ten.f (wrap64 (t128 * (wrap64 (a2 + t127))))).bind fun t129 => ((spec_l5P.f a0 a1).bind fun t130 => ((spec_l1Ten.f (wrap64 (t130 * (wrap64 (a3 - t129))))).bind fun t131 => (some (wrap64 ((wrap64 (a2 + t127)) + t131), wrap64 (a3 - t129)))))))) = some (r1, r2) := H
 have A5 := aM A50
 clear A50
 replace H := Option.bind_eq_some_iff.mp H
 obtain ⟨t127, A60, H⟩ := H
 replace H : ((spec_l5U.f a0 a1).bind fun t128 => ((spec_l1Ten.f (wrap64 (t128 * (wrap64 (a2 + t127))))).bind fun t129 => ((spec_l5P.f a0 a1).bind fun t130 => ((spec_l1Ten.f (wrap64 (t130 * (wrap64 (a3 - t129))))).bind fun t131 => (some (wrap64 ((wrap64 (a2 + t127)) + t131), wrap64 (a3 - t129))))))) = some (r1, r2) := H
 have A6 := aM A60
 clear A60
 replace H := Option.bind_eq_some_iff.mp H
 obtain ⟨t128, A70, H⟩ := H
 replace H : ((spec_l1Ten.f (wrap64 (t128 * (wrap64 (a2 + t127))))).bind fun t129 => ((spec_l5P.f a0 a1).bind fun t130 => ((spec_l1Ten.f (wrap64 (t130 * (wrap64 (a3 - t129))))).bind fun t131 => (some (wrap64 ((wrap64 (a2 + t127)) + t131), wrap64 (a3 - t129)))))) = some (r1, r2) := H
 have A7 := aM A70
 clear A70
 replace H := Option.bind_eq_some_iff.mp H
 obtain ⟨t129, A80, H⟩ := H
 replace H : ((spec_l5P.f a0 a1).bind fun t130 => ((spec_l1Ten.f (wrap64 (t130 * (wrap64 (a3 - t129))))).bind fun t131 => (some (wrap64 ((wrap64 (a2 + t127)) + t131), wrap64 (a3 - t129))))) = some (r1, r2) := H
 have A8 := aM A80
 clear A80
 replace H := Option.bind_eq_some_iff.mp H
 obtain ⟨t130, A90, H⟩ := H
 replace H : ((spec_l1Ten.f (wrap64 (t130 * (wrap64 (a3 - t129))))).bind fun t131 => (some (wrap64 ((wrap64 (a2 + t127)) + t131), wrap64 (a3 - t129)))) = some (r1, r2) := H
 have A9 := aM A90
 clear A90
 replace H := Option.bind_eq_some_iff.mp H
 obtain ⟨t131, A100, H⟩ := H
 replace H : (some (wrap64 ((wrap64 (a2 + t127)) + t131), wrap64 (a3 - t129))) = some (r1, r2) := H
 have A10 := aM A100
 clear A100
 simp only [Option.some.injEq, Prod.mk.injEq] at H
 obtain ⟨rfl, rfl⟩ := H
 go_enter Try.func142, Try.ntmps142
 go_wp2_with (first | ((with_reducible refine gate_callee (f := 155) rfl ?_); refine goesL_ (some 15) rfl rfl Try.func155 (by kernel_rfl) rfl #[.int .i64 a0, .int .i64 a1] rfl (by first | rfl | (simp only [List.map_toArray, List.map_cons, List.map_nil]; rfl)) ?_; (with_reducible refine (spec_l5P.calls a0 a1 t126 _ A5.out).mono ?_); rintro e w' ⟨rfl, ⟨nd, rfl⟩⟩; refine ⟨_, rfl, ?_⟩) | ((with_reducible refine gate_callee (f := 158) rfl ?_); refine goesL_ (some 18) rfl rfl Try.func158 (by kernel_rfl) rfl #[.int .i64 (wrap64 (t126 * a3))] rfl (by first | rfl | (simp only [List.map_toArray, List.map_cons, List.map_nil]; rfl)) ?_; (with_reducible refine (spec_l1Ten.calls (wrap64 (t126 * a3)) t127 _ A6.out).mono ?_); rintro e w' ⟨rfl, ⟨nd, rfl⟩⟩; refine ⟨_, rfl, ?_⟩) | ((with_reducible refine gate_callee (f := 156) rfl ?_); refine goesL_ (some 23) rfl rfl Try.func156 (by kernel_rfl) rfl #[.int .i64 a0, .int .i64 a1] rfl (by first | rfl | (simp only [List.map_toArray, List.map_cons, List.map_nil]; rfl)) ?_; (with_reducible refine (spec_l5U.calls a0 a1 t128 _ A7.out).mono ?_); rintro e w' ⟨rfl, ⟨nd, rfl⟩⟩; refine ⟨_, rfl, ?_⟩) | ((with_reducible refine gate_callee (f := 158) rfl ?_); refine goesL_ (some 26) rfl rfl Try.func158 (by kernel_rfl) rfl #[.int .i64 (wrap64 (t128 * (wrap64 (a2 + t127))))] rfl (by first | rfl | (simp only [List.map_toArray, List.map_cons, List.map_nil]; rfl)) ?_; (with_reducible refine (spec_l1Ten.calls (wrap64 (t128 * (wrap64 (a2 + t127)))) t129 _ A8.out).mono ?_); rintro e w' ⟨rfl, ⟨nd, rfl⟩⟩; refine ⟨_, rfl, ?_⟩) | ((with_reducible refine gate_callee (f := 155) rfl ?_); refine goesL_ (some 31) rfl rfl Try.func155 (by kernel_rfl) rfl #[.int .i64 a0, .int .i64 a1] rfl (by first | rfl | (simp only [List.map_toArray, List.map_cons, List.map_nil]; rfl)) ?_; (with_reducible refine (spec_l5P.calls a0 a1 t130 _ A9.out).mono ?_); rintro e w' ⟨rfl, ⟨nd, rfl⟩⟩; refine ⟨_, rfl, ?_⟩) | ((with_reducible refine gate_callee (f := 158) rfl ?_); refine goesL_ (some 34) rfl rfl Try.func158 (by kernel_rfl) rfl #[.int .i64 (wrap64 (t130 * (wrap64 (a3 - t129))))] rfl (by first | rfl | (simp only [List.map_toArray, List.map_cons, List.map_nil]; rfl)) ?_; (with_reducible refine (spec_l1Ten.calls (wrap64 (t130 * (wrap64 (a3 - t129)))) t131 _ A10.out).mono ?_); rintro e w' ⟨rfl, ⟨nd, rfl⟩⟩; refine ⟨_, rfl, ?_⟩))
 go_ret2
 exact ⟨by first | rfl | (simp [errW_none, errW_some] <;> rfl) | (simp [*, errW_none, errW_some] <;> rfl), by repeat (first | (with_reducible first | exact HB.out | apply bA | apply bN | apply bD) | exact HB.out)⟩

end Go.Proofs.Ytmhnpogjkbmmnaa.PFnExactFeedFrame
