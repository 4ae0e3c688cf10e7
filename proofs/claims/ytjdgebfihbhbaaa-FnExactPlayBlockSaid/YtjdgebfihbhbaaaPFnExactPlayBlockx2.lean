-- Written by a program of this session: wip/mkprint.py over the kit's print, with contracts proved by hand (wip/given.py)
-- shortened
-- told short
-- squeezed
import Derived.Test.YtjdgebfihbhbaaaPFnExactPlayBlockx0
import Derived.Test.YtjdgebfihbhbaaaPFnExactPlayBlockx1
namespace Go.Proofs.Ytjdgebfihbhbaaa.PFnExactPlayBlock
open Go.RowKit Go.Proofs.YtjdgebfihbhbaaaW.PrintWords Go.Proofs.YtjdgebfihbhbaaaW.PrintLast Go.Proofs.YtjdgebfihbhbaaaW.PrintMore
open Go.Proofs.YtjdgebfihbhbaaaW.PrintWords.Kd renaming R_alloc → rA, R_drewN → rN, R_drew → rD, R_lower → rG, C_below → cB
open Go.Proofs.YtjdgebfihbhbaaaW.PrintWords renaming below_step → bT, below_size → bZ, blk_drewN → kN, blk_drew → kD, blk_alloc → kA, blk_cell → kC, blk_frozen → kF
open Go.Proofs.YtjdgebfihbhbaaaW.PrintWords.Aside0 renaming mk → aM
attribute [local go_sem] max2_int min2_int max_two min_two max_three min_three max_four min_four   -- for this text's walks alone
set_option linter.unusedVariables false
set_option linter.unusedSimpArgs false

/-! ### spec_SynthFault: function 57 -/
def spec_SynthFault.j0 : Nat → Bool → Int → List Int → List Int → Option (Int)
 | 0, _, _, _, _ => none
 | k + 1, x25, x115000, x115001, x115002 => if x25 = true then (some 2) else ((spec_l1All.f k x115001 (-1073741824) 1073741824).bind fun t116 => (if t116 = true then ((spec_l1All.f k x115002 (-268435456) 268435456).bind fun t117 => (if t117 = true then (some 0) else (some 3))) else (some 3)))
def spec_SynthFault.f (k : Nat) (a0_0 : Int) (l0_1 : List Int) (l0_2 : List Int) : Option (Int) := (spec_SizeFault.f a0_0).bind fun t115 => (if t115 = 0 then (if (l0_1.length : Int) = (wrap64 (Int.tdiv a0_0 2)) then (spec_SynthFault.j0 k ((l0_2.length : Int) != (wrap64 (Int.tdiv a0_0 2))) a0_0 l0_1 l0_2) else (spec_SynthFault.j0 k true a0_0 l0_1 l0_2)) else (some t115))
theorem spec_SynthFault.mono_l : ∀ k, (∀ y0 y1 y2 y3, LeO (spec_SynthFault.j0 k y0 y1 y2 y3) (spec_SynthFault.j0 (k + 1) y0 y1 y2 y3))
 | 0 => fun _ _ _ _ r h => by simp [spec_SynthFault.j0] at h
 | k + 1 => by
  have ih0 := spec_SynthFault.mono_l k
  ·intro y0 y1 y2 y3
   unfold spec_SynthFault.j0
   repeat' first
   | (with_reducible exact ih0 _ _ _ _)
   | (with_reducible exact spec_l1All.mono _ _ _ _)
   | (with_reducible exact LeO.refl _)
   | (with_reducible exact LeO.none _)
   | (with_reducible refine LeO.ite ?_ ?_)
   | (with_reducible refine LeO.bind ?_ (fun _ => ?_))
   | exact ih0 _ _ _ _
   | exact spec_l1All.mono _ _ _ _
   | exact LeO.none _
   | refine LeO.ite ?_ ?_
   | refine LeO.bind ?_ (fun _ => ?_)
theorem spec_SynthFault.mono : ∀ a0 a1 a2 k, LeO (spec_SynthFault.f k a0 a1 a2) (spec_SynthFault.f (k + 1) a0 a1 a2) := by
 intro a0 a1 a2 k
 have ih0 := spec_SynthFault.mono_l k
 unfold spec_SynthFault.f
 repeat' first
   | (with_reducible exact ih0 _ _ _ _)
   | (with_reducible exact spec_l1All.mono _ _ _ _)
   | (with_reducible exact LeO.refl _)
   | (with_reducible exact LeO.none _)
   | (with_reducible refine LeO.ite ?_ ?_)
   | (with_reducible refine LeO.bind ?_ (fun _ => ?_))
   | exact ih0 _ _ _ _
   | exact spec_l1All.mono _ _ _ _
   | exact LeO.none _
   | refine LeO.ite ?_ ?_
   | refine LeO.bind ?_ (fun _ => ?_)
set_option maxHeartbeats 8000000 in
set_option maxRecDepth 100000 in
theorem spec_SynthFault.calls (k : Nat) (a0_0 : Int) (A0_1 : Option Addr) (c0_1 : Nat) (l0_1 : List Int) (A0_2 : Option Addr) (c0_2 : Nat) (l0_2 : List Int) (r : Int) (w : World) (hr0_1 : Kd.C (Kd.int .i64) w A0_1 l0_1.length l0_1) (hc0_1 : l0_1.length ≤ c0_1) (hr0_2 : Kd.C (Kd.int .i64) w A0_2 l0_2.length l0_2) (hc0_2 : l0_2.length ≤ c0_2) (h : spec_SynthFault.f k a0_0 l0_1 l0_2 = some r) :
  Calls Try.prog 57 #[.agg #[.int .i64 a0_0, .slice A0_1 l0_1.length c0_1, .slice A0_2 l0_2.length c0_2]] w fun e w' => e = .returned (.int .i64 r) ∧ Below w.heap.size w w' := by
 have hu35 := Try.underlying35
 have HR0_1 := aM hr0_1
 have HC0_1 := aM hc0_1
 clear hr0_1 hc0_1
 have HR0_2 := aM hr0_2
 have HC0_2 := aM hc0_2
 clear hr0_2 hc0_2
 have HB := aM (Below.refl w.heap.size w)
 have H : ((spec_SizeFault.f a0_0).bind fun t115 => (if t115 = 0 then (if (l0_1.length : Int) = (wrap64 (Int.tdiv a0_0 2)) then (spec_SynthFault.j0 k ((l0_2.length : Int) != (wrap64 (Int.tdiv a0_0 2))) a0_0 l0_1 l0_2) else (spec_SynthFault.j0 k true a0_0 l0_1 l0_2)) else (some t115))) = some r := h
 clear h
 replace H := Option.bind_eq_some_iff.mp H
 obtain ⟨t115, A20, H⟩ := H
 replace H : (if t115 = 0 then (if (l0_1.length : Int) = (wrap64 (Int.tdiv a0_0 2)) then (spec_SynthFault.j0 k ((l0_2.length : Int) != (wrap64 (Int.tdiv a0_0 2))) a0_0 l0_1 l0_2) else (spec_SynthFault.j0 k true a0_0 l0_1 l0_2)) else (some t115)) = some r := H
 have A2 := aM A20
 clear A20
 by_cases c3 : t115 = 0
 ·rw [if_pos c3] at H
  have c3b0 : (t115 == 0) = true := beq_iff_eq.mpr c3
  have c3b1 : (t115 != 0) = false := bne_eq_false_iff_eq.mpr c3
  clear c3
  have HC4 := aM H
  clear H
  go_enter Try.func57, Try.ntmps57
  go_upto_region 5 with (first | ((with_reducible refine gate_dst (N := 1) rfl ?_); (try (refine gate_guard (by rfl) ?_; dsimp only)); refine box_event ?hg (N := 1) ?hd (cs := #[.int .i64 a0_0, .slice A0_1 l0_1.length c0_1, .slice A0_2 l0_2.length c0_2]) (t := 35) ?hr ?_; (case hd => rfl); (case hg => rfl); (case hr => first | (go_simp; done) | (go_simp; rfl)); intro gb114 hg w5 hbox hb; have n0_ := aM (bT bq hb); have n1_ := aM (hbox); have n2_ := aM ((by rw [hg]; exact (bZ bq) : w.heap.size ≤ gb114)); have n3_ := aM ((by rw [hg]; exact (bZ bq) : w.heap.size ≤ gb114)); clear HB; have HB := n0_; have BK114 := n1_; have GW114 := n2_; have GE114 := n3_; clear n0_ n1_ n2_ n3_ hb hbox hg; have hcz6_0 : w5.cell? ⟨gb114, 0, none⟩ = some (.int .i64 a0_0) := (kC BK114.out 0).trans rfl; have hcz6_1 : w5.cell? ⟨gb114, 1, none⟩ = some (.slice A0_1 l0_1.length c0_1) := (kC BK114.out 1).trans rfl; have hcz6_2 : w5.cell? ⟨gb114, 2, none⟩ = some (.slice A0_2 l0_2.length c0_2) := (kC BK114.out 2).trans rfl; have hfz6_0 := kF BK114.out 0; have hfz6_1 := kF BK114.out 1; have hfz6_2 := kF BK114.out 2) | ((with_reducible refine gate_callee (f := 42) rfl ?_); refine goesL_ (some 7) rfl rfl Try.func42 (by kernel_rfl) rfl #[.int .i64 a0_0] rfl mq ?_; (with_reducible refine (spec_SizeFault.calls a0_0 t115 _ A2.out).mono ?_); rintro e w' ⟨rfl, ⟨nd, rfl⟩⟩; refine ⟨_, rfl, ?_⟩))
  (try simp only [Act.put, pa, pb, pc])
  go_cut [25] (fun v25 wc => ∃ (kq : Nat) (x25_3 : Bool), v25 = .bool x25_3 ∧ Aside0 (spec_SynthFault.j0 kq x25_3 a0_0 l0_1 l0_2 = some r) ∧ Aside0 (kq ≤ k) ∧ Aside0 (wc.heap[gb114]? = some (.cells #[.int .i64 a0_0, (.slice A0_1 l0_1.length c0_1), (.slice A0_2 l0_2.length c0_2)] 35 (0, 0))) ∧ Aside0 (Below w.heap.size w wc))
  case first =>
   have H := HC4.out
   clear HC4
   by_cases c7 : (l0_1.length : Int) = (wrap64 (Int.tdiv a0_0 2))
   ·rw [if_pos c7] at H
    have c7b0 : ((l0_1.length : Int) == (wrap64 (Int.tdiv a0_0 2))) = true := beq_iff_eq.mpr c7
    have c7b1 : ((l0_1.length : Int) != (wrap64 (Int.tdiv a0_0 2))) = false := bne_eq_false_iff_eq.mpr c7
    clear c7
    (first | rw [c7b0] | (simp only [i64_w, i32_w]; rw [c7b0]) | skip)
    have H' := aM H
    clear H
    have hcz8_0 : w5.cell? ⟨gb114, 0, none⟩ = some (.int .i64 a0_0) := (kC BK114.out 0).trans rfl
    have hcz8_1 : w5.cell? ⟨gb114, 1, none⟩ = some (.slice A0_1 l0_1.length c0_1) := (kC BK114.out 1).trans rfl
    have hcz8_2 : w5.cell? ⟨gb114, 2, none⟩ = some (.slice A0_2 l0_2.length c0_2) := (kC BK114.out 2).trans rfl
    have hfz8_0 := kF BK114.out 0
    have hfz8_1 := kF BK114.out 1
    have hfz8_2 := kF BK114.out 2
    go_wp2
    go_meet
    case rel => exact ⟨_, (((l0_2.length : Int) != (wrap64 (Int.tdiv a0_0 2)))), (by first | rfl | (simp; done) | (simp [*]; done)), H', ⟨by first | omega | exact Nat.le_refl _⟩, ⟨by (with_reducible repeat (first | refine kN ?_ _ | refine kD ?_ | refine kA ?_ _)); exact BK114.out⟩, ⟨bq⟩⟩
   ·rw [if_neg c7] at H
    have c7b0 : ((l0_1.length : Int) == (wrap64 (Int.tdiv a0_0 2))) = false := beq_eq_false_iff_ne.mpr c7
    have c7b1 : ((l0_1.length : Int) != (wrap64 (Int.tdiv a0_0 2))) = true := bne_iff_ne.mpr c7
    (first | rw [c7b0] | (simp only [i64_w, i32_w]; rw [c7b0]) | skip)
    have H' := aM H
    clear H
    have hcz9_0 : w5.cell? ⟨gb114, 0, none⟩ = some (.int .i64 a0_0) := (kC BK114.out 0).trans rfl
    have hcz9_1 : w5.cell? ⟨gb114, 1, none⟩ = some (.slice A0_1 l0_1.length c0_1) := (kC BK114.out 1).trans rfl
    have hcz9_2 : w5.cell? ⟨gb114, 2, none⟩ = some (.slice A0_2 l0_2.length c0_2) := (kC BK114.out 2).trans rfl
    have hfz9_0 := kF BK114.out 0
    have hfz9_1 := kF BK114.out 1
    have hfz9_2 := kF BK114.out 2
    go_wp2
    go_meet
    case rel => exact ⟨_, (true), (by first | rfl | (simp; done) | (simp [*]; done)), H', ⟨by first | omega | exact Nat.le_refl _⟩, ⟨by (with_reducible repeat (first | refine kN ?_ _ | refine kD ?_ | refine kA ?_ _)); exact BK114.out⟩, ⟨bq⟩⟩
  case rest =>
   clear HC4
   try clear p2
   try clear c3
   try clear c3b0
   try clear c3b1
   try clear c4
   try clear c5
   try clear p6
   try clear c7
   try clear c7b0
   try clear c7b1
   try clear hcz6_0
   try clear hcz6_1
   try clear hcz6_2
   try clear hcz8_0
   try clear hcz8_1
   try clear hcz8_2
   try clear hcz9_0
   try clear hcz9_1
   try clear hcz9_2
   try clear hfz6_0
   try clear hfz6_1
   try clear hfz6_2
   try clear hfz8_0
   try clear hfz8_1
   try clear hfz8_2
   try clear hfz9_0
   try clear hfz9_1
   try clear hfz9_2
   obtain ⟨kq, x25_3, rfl, HA, HJ3, BK114, HB⟩ := hcut
   cases kq with
   | zero => exact absurd HA.out (by simp [spec_SynthFault.j0])
   | succ kj3 =>
    have H := HA.out
    clear HA
    simp only [spec_SynthFault.j0] at H
    by_cases c10 : x25_3 = true
    ·subst c10
     have H1 : (some 2) = some r := by rw [if_pos rfl] at H; exact H
     clear H
     have H := H1
     clear H1
     obtain rfl := Option.some.inj H
     go_wp2
     go_ret
     exact ⟨by first | rfl | (simp [errW_none, errW_some] <;> rfl) | (simp [*, errW_none, errW_some] <;> rfl), bq⟩
    ·replace c10 := Bool.eq_false_iff.mpr c10
     subst c10
     have H1 : ((spec_l1All.f kj3 l0_1 (-1073741824) 1073741824).bind fun t116 => (if t116 = true then ((spec_l1All.f kj3 l0_2 (-268435456) 268435456).bind fun t117 => (if t117 = true then (some 0) else (some 3))) else (some 3))) = some r := by rw [if_neg (show ¬ (false = true) by decide)] at H; exact H
     clear H
     have H := H1
     clear H1
     replace H := Option.bind_eq_some_iff.mp H
     obtain ⟨t116, A110, H⟩ := H
     replace H : (if t116 = true then ((spec_l1All.f kj3 l0_2 (-268435456) 268435456).bind fun t117 => (if t117 = true then (some 0) else (some 3))) else (some 3)) = some r := H
     have A11 := aM A110
     clear A110
     by_cases c12 : t116 = true
     ·subst c12
      have H1 : ((spec_l1All.f kj3 l0_2 (-268435456) 268435456).bind fun t117 => (if t117 = true then (some 0) else (some 3))) = some r := by rw [if_pos rfl] at H; exact H
      clear H
      have H := H1
      clear H1
      replace H := Option.bind_eq_some_iff.mp H
      obtain ⟨t117, A130, H⟩ := H
      replace H : (if t117 = true then (some 0) else (some 3)) = some r := H
      have A13 := aM A130
      clear A130
      by_cases c14 : t117 = true
      ·subst c14
       have H1 : (some 0) = some r := by rw [if_pos rfl] at H; exact H
       clear H
       have H := H1
       clear H1
       obtain rfl := Option.some.inj H
       have hcz15_0 : wc.cell? ⟨gb114, 0, none⟩ = some (.int .i64 a0_0) := (kC BK114.out 0).trans rfl
       have hcz15_1 : wc.cell? ⟨gb114, 1, none⟩ = some (.slice A0_1 l0_1.length c0_1) := (kC BK114.out 1).trans rfl
       have hcz15_2 : wc.cell? ⟨gb114, 2, none⟩ = some (.slice A0_2 l0_2.length c0_2) := (kC BK114.out 2).trans rfl
       have hfz15_0 := kF BK114.out 0
       have hfz15_1 := kF BK114.out 1
       have hfz15_2 := kF BK114.out 2
       go_wp2_with (first | ((with_reducible refine gate_callee (f := 91) rfl ?_); refine goesL_ (some 28) rfl rfl Try.func91 (by kernel_rfl) rfl #[.slice A0_1 l0_1.length c0_1, .int .i64 (-1073741824), .int .i64 1073741824] rfl mq ?_; (with_reducible refine (spec_l1All.calls kj3 _ _ l0_1 (-1073741824) 1073741824 true _ ?side1 ?side2 A11.out).mono ?_); (case side1 => exact cq (cB HR0_1.out HB.out)); (case side2 => exact HC0_1.out); rintro e w' ⟨rfl, ⟨nd, rfl⟩⟩; refine ⟨_, rfl, ?_⟩) | (go_at_call 91; (with_reducible refine (spec_l1All.calls kj3 _ _ l0_2 (-268435456) 268435456 true _ ?side1 ?side2 A13.out).mono ?_); (case side1 => exact cq (cB HR0_2.out bq)); (case side2 => exact HC0_2.out); rintro e w' ⟨rfl, ⟨nd, rfl⟩⟩))
       go_ret
       exact ⟨by first | rfl | (simp [errW_none, errW_some] <;> rfl) | (simp [*, errW_none, errW_some] <;> rfl), bq⟩
      ·replace c14 := Bool.eq_false_iff.mpr c14
       subst c14
       have H1 : (some 3) = some r := by rw [if_neg (show ¬ (false = true) by decide)] at H; exact H
       clear H
       have H := H1
       clear H1
       obtain rfl := Option.some.inj H
       have hcz16_0 : wc.cell? ⟨gb114, 0, none⟩ = some (.int .i64 a0_0) := (kC BK114.out 0).trans rfl
       have hcz16_1 : wc.cell? ⟨gb114, 1, none⟩ = some (.slice A0_1 l0_1.length c0_1) := (kC BK114.out 1).trans rfl
       have hcz16_2 : wc.cell? ⟨gb114, 2, none⟩ = some (.slice A0_2 l0_2.length c0_2) := (kC BK114.out 2).trans rfl
       have hfz16_0 := kF BK114.out 0
       have hfz16_1 := kF BK114.out 1
       have hfz16_2 := kF BK114.out 2
       go_wp2_with (first | ((with_reducible refine gate_callee (f := 91) rfl ?_); refine goesL_ (some 28) rfl rfl Try.func91 (by kernel_rfl) rfl #[.slice A0_1 l0_1.length c0_1, .int .i64 (-1073741824), .int .i64 1073741824] rfl mq ?_; (with_reducible refine (spec_l1All.calls kj3 _ _ l0_1 (-1073741824) 1073741824 true _ ?side1 ?side2 A11.out).mono ?_); (case side1 => exact cq (cB HR0_1.out HB.out)); (case side2 => exact HC0_1.out); rintro e w' ⟨rfl, ⟨nd, rfl⟩⟩; refine ⟨_, rfl, ?_⟩) | (go_at_call 91; (with_reducible refine (spec_l1All.calls kj3 _ _ l0_2 (-268435456) 268435456 false _ ?side1 ?side2 A13.out).mono ?_); (case side1 => exact cq (cB HR0_2.out bq)); (case side2 => exact HC0_2.out); rintro e w' ⟨rfl, ⟨nd, rfl⟩⟩))
       go_ret
       exact ⟨by first | rfl | (simp [errW_none, errW_some] <;> rfl) | (simp [*, errW_none, errW_some] <;> rfl), bq⟩
     ·replace c12 := Bool.eq_false_iff.mpr c12
      subst c12
      have H1 : (some 3) = some r := by rw [if_neg (show ¬ (false = true) by decide)] at H; exact H
      clear H
      have H := H1
      clear H1
      obtain rfl := Option.some.inj H
      have hcz17_0 : wc.cell? ⟨gb114, 0, none⟩ = some (.int .i64 a0_0) := (kC BK114.out 0).trans rfl
      have hcz17_1 : wc.cell? ⟨gb114, 1, none⟩ = some (.slice A0_1 l0_1.length c0_1) := (kC BK114.out 1).trans rfl
      have hcz17_2 : wc.cell? ⟨gb114, 2, none⟩ = some (.slice A0_2 l0_2.length c0_2) := (kC BK114.out 2).trans rfl
      have hfz17_0 := kF BK114.out 0
      have hfz17_1 := kF BK114.out 1
      have hfz17_2 := kF BK114.out 2
      go_wp2_with (first | ((with_reducible refine gate_callee (f := 91) rfl ?_); refine goesL_ (some 28) rfl rfl Try.func91 (by kernel_rfl) rfl #[.slice A0_1 l0_1.length c0_1, .int .i64 (-1073741824), .int .i64 1073741824] rfl mq ?_; (with_reducible refine (spec_l1All.calls kj3 _ _ l0_1 (-1073741824) 1073741824 false _ ?side1 ?side2 A11.out).mono ?_); (case side1 => exact cq (cB HR0_1.out HB.out)); (case side2 => exact HC0_1.out); rintro e w' ⟨rfl, ⟨nd, rfl⟩⟩; refine ⟨_, rfl, ?_⟩))
      go_ret
      exact ⟨by first | rfl | (simp [errW_none, errW_some] <;> rfl) | (simp [*, errW_none, errW_some] <;> rfl), bq⟩
 ·rw [if_neg c3] at H
  have c3b0 : (t115 == 0) = false := beq_eq_false_iff_ne.mpr c3
  have c3b1 : (t115 != 0) = true := bne_iff_ne.mpr c3
  obtain rfl := Option.some.inj H
  go_enter Try.func57, Try.ntmps57
  go_wp2_with (first | ((with_reducible refine gate_dst (N := 1) rfl ?_); (try (refine gate_guard (by rfl) ?_; dsimp only)); refine box_event ?hg (N := 1) ?hd (cs := #[.int .i64 a0_0, .slice A0_1 l0_1.length c0_1, .slice A0_2 l0_2.length c0_2]) (t := 35) ?hr ?_; (case hd => rfl); (case hg => rfl); (case hr => first | (go_simp; done) | (go_simp; rfl)); intro gb114 hg w18 hbox hb; have n0_ := aM (bT bq hb); have n1_ := aM (hbox); have n2_ := aM ((by rw [hg]; exact (bZ bq) : w.heap.size ≤ gb114)); have n3_ := aM ((by rw [hg]; exact (bZ bq) : w.heap.size ≤ gb114)); clear HB; have HB := n0_; have BK114 := n1_; have GW114 := n2_; have GE114 := n3_; clear n0_ n1_ n2_ n3_ hb hbox hg; have hcz19_0 : w18.cell? ⟨gb114, 0, none⟩ = some (.int .i64 a0_0) := (kC BK114.out 0).trans rfl; have hcz19_1 : w18.cell? ⟨gb114, 1, none⟩ = some (.slice A0_1 l0_1.length c0_1) := (kC BK114.out 1).trans rfl; have hcz19_2 : w18.cell? ⟨gb114, 2, none⟩ = some (.slice A0_2 l0_2.length c0_2) := (kC BK114.out 2).trans rfl; have hfz19_0 := kF BK114.out 0; have hfz19_1 := kF BK114.out 1; have hfz19_2 := kF BK114.out 2) | ((with_reducible refine gate_callee (f := 42) rfl ?_); refine goesL_ (some 7) rfl rfl Try.func42 (by kernel_rfl) rfl #[.int .i64 a0_0] rfl mq ?_; (with_reducible refine (spec_SizeFault.calls a0_0 t115 _ A2.out).mono ?_); rintro e w' ⟨rfl, ⟨nd, rfl⟩⟩; refine ⟨_, rfl, ?_⟩))
  go_ret
  exact ⟨by first | rfl | (simp [errW_none, errW_some] <;> rfl) | (simp [*, errW_none, errW_some] <;> rfl), bq⟩

/-! ### spec_l6Ask: function 58 -/
def spec_l6Ask.f (k : Nat) (l0 : List Int) (a1 : Int) : Option (Int) := (spec_SizeFault.f (l0.length : Int)).bind fun t118 => (if t118 = 0 then ((spec_l1All.f k l0 (wrap64 (-a1)) a1).bind fun t119 => (if t119 = true then (some 0) else (some 3))) else (some 2))
theorem spec_l6Ask.mono : ∀ a0 a1 k, LeO (spec_l6Ask.f k a0 a1) (spec_l6Ask.f (k + 1) a0 a1) := by
 intro a0 a1 k
 unfold spec_l6Ask.f
 repeat' first
   | (with_reducible exact spec_l1All.mono _ _ _ _)
   | (with_reducible exact LeO.refl _)
   | (with_reducible exact LeO.none _)
   | (with_reducible refine LeO.ite ?_ ?_)
   | (with_reducible refine LeO.bind ?_ (fun _ => ?_))
   | exact spec_l1All.mono _ _ _ _
   | exact LeO.none _
   | refine LeO.ite ?_ ?_
   | refine LeO.bind ?_ (fun _ => ?_)
set_option maxHeartbeats 8000000 in
set_option maxRecDepth 100000 in
theorem spec_l6Ask.calls (k : Nat) (A0 : Option Addr) (c0 : Nat) (l0 : List Int) (a1 : Int) (r : Int) (w : World) (hr0 : Kd.C (Kd.int .i64) w A0 l0.length l0) (hc0 : l0.length ≤ c0) (h : spec_l6Ask.f k l0 a1 = some r) :
  Calls Try.prog 58 #[.slice A0 l0.length c0, .int .i64 a1] w fun e w' => e = .returned (.int .i64 r) ∧ Drawn0 w w' := by
 have HR0 := aM hr0
 have HC0 := aM hc0
 clear hr0 hc0
 have H : ((spec_SizeFault.f (l0.length : Int)).bind fun t118 => (if t118 = 0 then ((spec_l1All.f k l0 (wrap64 (-a1)) a1).bind fun t119 => (if t119 = true then (some 0) else (some 3))) else (some 2))) = some r := h
 clear h
 replace H := Option.bind_eq_some_iff.mp H
 obtain ⟨t118, A30, H⟩ := H
 replace H : (if t118 = 0 then ((spec_l1All.f k l0 (wrap64 (-a1)) a1).bind fun t119 => (if t119 = true then (some 0) else (some 3))) else (some 2)) = some r := H
 have A3 := aM A30
 clear A30
 by_cases c4 : t118 = 0
 ·rw [if_pos c4] at H
  have c4b0 : (t118 == 0) = true := beq_iff_eq.mpr c4
  have c4b1 : (t118 != 0) = false := bne_eq_false_iff_eq.mpr c4
  clear c4
  replace H := Option.bind_eq_some_iff.mp H
  obtain ⟨t119, A50, H⟩ := H
  replace H : (if t119 = true then (some 0) else (some 3)) = some r := H
  have A5 := aM A50
  clear A50
  by_cases c6 : t119 = true
  ·subst c6
   have H1 : (some 0) = some r := by rw [if_pos rfl] at H; exact H
   clear H
   have H := H1
   clear H1
   obtain rfl := Option.some.inj H
   go_enter Try.func58, Try.ntmps58
   go_wp2_with (first | ((with_reducible refine gate_callee (f := 42) rfl ?_); refine goesL_ (some 7) rfl rfl Try.func42 (by kernel_rfl) rfl #[.int .i64 (l0.length : Int)] rfl mq ?_; (with_reducible refine (spec_SizeFault.calls (l0.length : Int) t118 _ A3.out).mono ?_); rintro e w' ⟨rfl, ⟨nd, rfl⟩⟩; refine ⟨_, rfl, ?_⟩) | ((with_reducible refine gate_callee (f := 91) rfl ?_); refine goesL_ (some 13) rfl rfl Try.func91 (by kernel_rfl) rfl #[.slice A0 l0.length c0, .int .i64 (wrap64 (-a1)), .int .i64 a1] rfl mq ?_; (with_reducible refine (spec_l1All.calls k _ _ l0 (wrap64 (-a1)) a1 true _ ?side1 ?side2 A5.out).mono ?_); (case side1 => exact cq HR0.out); (case side2 => exact HC0.out); rintro e w' ⟨rfl, ⟨nd, rfl⟩⟩; refine ⟨_, rfl, ?_⟩))
   go_ret
   exact ⟨by first | rfl | (simp; done) | (simp [*]; done), by repeat (first | exact Drawn0.refl _ | apply Drawn0.step)⟩
  ·replace c6 := Bool.eq_false_iff.mpr c6
   subst c6
   have H1 : (some 3) = some r := by rw [if_neg (show ¬ (false = true) by decide)] at H; exact H
   clear H
   have H := H1
   clear H1
   obtain rfl := Option.some.inj H
   go_enter Try.func58, Try.ntmps58
   go_wp2_with (first | ((with_reducible refine gate_callee (f := 42) rfl ?_); refine goesL_ (some 7) rfl rfl Try.func42 (by kernel_rfl) rfl #[.int .i64 (l0.length : Int)] rfl mq ?_; (with_reducible refine (spec_SizeFault.calls (l0.length : Int) t118 _ A3.out).mono ?_); rintro e w' ⟨rfl, ⟨nd, rfl⟩⟩; refine ⟨_, rfl, ?_⟩) | ((with_reducible refine gate_callee (f := 91) rfl ?_); refine goesL_ (some 13) rfl rfl Try.func91 (by kernel_rfl) rfl #[.slice A0 l0.length c0, .int .i64 (wrap64 (-a1)), .int .i64 a1] rfl mq ?_; (with_reducible refine (spec_l1All.calls k _ _ l0 (wrap64 (-a1)) a1 false _ ?side1 ?side2 A5.out).mono ?_); (case side1 => exact cq HR0.out); (case side2 => exact HC0.out); rintro e w' ⟨rfl, ⟨nd, rfl⟩⟩; refine ⟨_, rfl, ?_⟩))
   go_ret
   exact ⟨by first | rfl | (simp; done) | (simp [*]; done), by repeat (first | exact Drawn0.refl _ | apply Drawn0.step)⟩
 ·rw [if_neg c4] at H
  have c4b0 : (t118 == 0) = false := beq_eq_false_iff_ne.mpr c4
  have c4b1 : (t118 != 0) = true := bne_iff_ne.mpr c4
  obtain rfl := Option.some.inj H
  go_enter Try.func58, Try.ntmps58
  go_wp2_with (first | ((with_reducible refine gate_callee (f := 42) rfl ?_); refine goesL_ (some 7) rfl rfl Try.func42 (by kernel_rfl) rfl #[.int .i64 (l0.length : Int)] rfl mq ?_; (with_reducible refine (spec_SizeFault.calls (l0.length : Int) t118 _ A3.out).mono ?_); rintro e w' ⟨rfl, ⟨nd, rfl⟩⟩; refine ⟨_, rfl, ?_⟩))
  go_ret
  exact ⟨by first | rfl | (simp; done) | (simp [*]; done), by repeat (first | exact Drawn0.refl _ | apply Drawn0.step)⟩

/-! ### spec_l1Ints: function 105 -/
def spec_l1Ints.f (l0 : List Int) : Option (List Int) := (some (([] : List Int) : List Int)).bind fun y120 => (if y120.length + l0.length < 17592186044416 then (some (y120 ++ l0)) else (none))
set_option maxHeartbeats 8000000 in
set_option maxRecDepth 100000 in
theorem spec_l1Ints.calls (A0 : Option Addr) (c0 : Nat) (l0 : List Int) (r : List Int) (w : World) (hr0 : Kd.C (Kd.int .i64) w A0 l0.length l0) (hc0 : l0.length ≤ c0) (h : spec_l1Ints.f l0 = some r) :
  Calls Try.prog 105 #[.slice A0 l0.length c0] w fun e w' => ∃ v0_ : Value, e = .returned (v0_) ∧ Kd.R (Kd.int .i64) 2 w' w.heap.size (fun _ => True) v0_ r ∧ Below w.heap.size w w' := by
 have HR0 := aM hr0
 have HC0 := aM hc0
 clear hr0 hc0
 have HB := aM (Below.refl w.heap.size w)
 have H : ((some (([] : List Int) : List Int)).bind fun y120 => (if y120.length + l0.length < 17592186044416 then (some (y120 ++ l0)) else (none))) = some r := h
 clear h
 obtain ⟨y120, hy120⟩ : ∃ y_ : List Int, y_ = (([] : List Int)) := ⟨_, rfl⟩
 replace H : (if y120.length + l0.length < 17592186044416 then (some (y120 ++ l0)) else (none)) = some r := by first | (rw [hy120]; with_reducible exact H) | (have H2_ := (Option.bind_some _ _).symm.trans H; rw [hy120]; with_reducible exact H2_) | (have H2_ := (Option.bind_some _ _).symm.trans H; with_reducible exact H2_) | with_reducible exact H | (rw [hy120]; exact H) | exact H
 have Ny120 := aM hy120
 clear hy120
 by_cases c2 : y120.length + l0.length < 17592186044416
 ·rw [if_pos c2] at H
  have LMc2 := aM c2
  clear c2
  obtain ⟨y123, hy123⟩ : ∃ y_ : List Int, y_ = (y120 ++ l0) := ⟨_, rfl⟩
  replace H : (some y123) = some r := by first | (rw [hy123]; with_reducible exact H) | (have H2_ := (Option.bind_some _ _).symm.trans H; rw [hy123]; with_reducible exact H2_) | (have H2_ := (Option.bind_some _ _).symm.trans H; with_reducible exact H2_) | with_reducible exact H | (rw [hy123]; exact H) | exact H
  have Ny123 := aM hy123
  clear hy123
  obtain rfl := Option.some.inj H
  go_enter Try.func105, Try.ntmps105
  go_wp2_with (first | ((with_reducible refine gate_dst (N := 3) rfl ?_); refine Kd.R_lit (Kd.int .i64) _ 2 ?hg (N := 3) ?hd (xs := ([] : List Int)) (inner := []) (ok := fun _ => True) (okp := fun _ => True) ?hr ?hp (fun _ hk => hk) trivial (Below.refl _ _) (Nat.le_refl _) (by simp) ?_; (case hd => rfl); (case hg => rfl); (case hr => first | (go_simp; done) | (go_simp; rfl)); (case hp => exact (Reps.none _ _)); intro v121 w3 ho4 hb hg_ hnew_; clear hg_ hnew_; (first | rw [← Ny120.out] at ho4 | (simp only [Int.reduceToNat] at ho4; rw [← Ny120.out] at ho4)); have n0_ := aM (rG ho4 (bZ bq)); have n1_ := aM (bT bq hb); clear HB; have HO122 := n0_; have HB := n1_; clear n0_ n1_ hb ho4) | ((with_reducible refine gate_builtin (b := .append) (xs := #[.tmp 3, .tmp 4]) rfl ?_); at_builtin; refine Kd.R_append_rows (Kd.int .i64) (w0 := w) w.heap.size rfl (.tmp 3) (.tmp 4) 22 2 (.int .i64 0) 8 rfl Try.underlying22 info2 rfl (by decide) (by omega) v121 y120 l0 _ _ _ (fun _ => True) (fun _ => False) rfl rfl ?aO ?aR (fun _ _ h => h) (fun _ h => h.elim) ?aF ?aB ?aS ?aL ?_; (case aR => exact cq (cB HR0.out HB.out)); (case aB => exact bq); (case aF => exact (fun _ _ => trivial)); (case aO => exact (rq HO122.out)); (case aS => exact (bZ bq)); (case aL => have := LMc2.out; omega); intro v124 w5 ho hb hg hat; rw [← Ny123.out] at ho; have n0_ := aM (hb); have n1_ := aM (ho); clear HB HO122; have HB := n0_; have HO125 := n1_; clear n0_ n1_ ho hb hg hat))
  go_ret
  exact ⟨_, by first | rfl | (simp [errW_none, errW_some] <;> rfl) | (simp [*, errW_none, errW_some] <;> rfl), by (with_reducible repeat (first | apply rA | apply rN | apply rD)); exact HO125.out, bq⟩
 ·rw [if_neg c2] at H
  exact absurd H (by simp)

/-! ### spec_l1Zeros: function 127 -/
def spec_l1Zeros.f (a0 : Int) : Option (List Int) := if 0 ≤ a0 then (if (a0 : Int).toNat ≤ 35184372088832 then (some (List.replicate (a0 : Int).toNat 0)) else (none)) else (none)
set_option maxHeartbeats 8000000 in
set_option maxRecDepth 100000 in
theorem spec_l1Zeros.calls (a0 : Int) (r : List Int) (w : World) (h : spec_l1Zeros.f a0 = some r) :
  Calls Try.prog 127 #[.int .i64 a0] w fun e w' => ∃ v0_ : Value, e = .returned (v0_) ∧ Kd.R (Kd.int .i64) 2 w' w.heap.size (fun _ => True) v0_ r ∧ Below w.heap.size w w' := by
 have HB := aM (Below.refl w.heap.size w)
 have H : (if 0 ≤ a0 then (if (a0 : Int).toNat ≤ 35184372088832 then (some (List.replicate (a0 : Int).toNat 0)) else (none)) else (none)) = some r := h
 clear h
 by_cases c2 : 0 ≤ a0
 ·rw [if_pos c2] at H
  have c2b0 := eq_true c2
  have c2b1 : decide (0 ≤ a0) = true := decide_eq_true c2
  clear c2
  by_cases c3 : (a0 : Int).toNat ≤ 35184372088832
  ·rw [if_pos c3] at H
   have c3b0 := eq_true c3
   have c3b1 : decide ((a0 : Int).toNat ≤ 35184372088832) = true := decide_eq_true c3
   clear c3
   obtain ⟨y126, hy126⟩ : ∃ y_ : List Int, y_ = (List.replicate (a0 : Int).toNat 0) := ⟨_, rfl⟩
   replace H : (some y126) = some r := by first | (rw [hy126]; with_reducible exact H) | (have H2_ := (Option.bind_some _ _).symm.trans H; rw [hy126]; with_reducible exact H2_) | (have H2_ := (Option.bind_some _ _).symm.trans H; with_reducible exact H2_) | with_reducible exact H | (rw [hy126]; exact H) | exact H
   have Ny126 := aM hy126
   clear hy126
   obtain rfl := Option.some.inj H
   go_enter Try.func127, Try.ntmps127
   go_wp2_with (first | ((with_reducible refine gate_dst (N := 4) rfl ?_); refine Kd.R_make (Kd.int .i64) _ 2 rfl (N := 4) rfl 22 _ _ rfl a0 rfl rfl Try.underlying22 (.int .i64 0) 8 info2 rfl (by decide) (by omega) 0 (ok := fun _ => True) (okp := fun _ => True) rfl (fun _ hk => hk) trivial (of_decide_eq_true (by first | (with_reducible assumption) | assumption)) (Nat.le_trans (Nat.mul_le_mul_right _ (of_decide_eq_true (by first | (with_reducible assumption) | assumption) : a0.toNat ≤ 35184372088832)) (by omega)) (Below.refl _ _) (Nat.le_refl _) ?_; intro v127 w4 ho5 hb hg_ hnew_; clear hg_ hnew_; (first | rw [← Ny126.out] at ho5 | (simp only [Int.reduceToNat] at ho5; rw [← Ny126.out] at ho5)); have n0_ := aM (rG ho5 (bZ bq)); have n1_ := aM (bT bq hb); clear HB; have HO128 := n0_; have HB := n1_; clear n0_ n1_ hb ho5))
   go_ret
   exact ⟨_, by first | rfl | (simp [errW_none, errW_some] <;> rfl) | (simp [*, errW_none, errW_some] <;> rfl), by (with_reducible repeat (first | apply rA | apply rN | apply rD)); exact HO128.out, bq⟩
  ·rw [if_neg c3] at H
   exact absurd H (by simp)
 ·rw [if_neg c2] at H
  exact absurd H (by simp)

/-! ### spec_l5P: function 146 -/
def spec_l5P.f (a0 : Int) (a1 : Int) : Option (Int) := if (wrap64 ((wrap64 (a0 * 16)) + a1)) = 64 then (some 101) else (if (wrap64 ((wrap64 (a0 * 16)) + a1)) = 65 then (some 311) else (if (wrap64 ((wrap64 (a0 * 16)) + a1)) = 128 then (some 50) else (if (wrap64 ((wrap64 (a0 * 16)) + a1)) = 129 then (some 152) else (if (wrap64 ((wrap64 (a0 * 16)) + a1)) = 130 then (some 257) else (if (wrap64 ((wrap64 (a0 * 16)) + a1)) = 131 then (some 366) else (if (wrap64 ((wrap64 (a0 * 16)) + a1)) = 256 then (some 25) else (if (wrap64 ((wrap64 (a0 * 16)) + a1)) = 257 then (some 76) else (if (wrap64 ((wrap64 (a0 * 16)) + a1)) = 258 then (some 126) else (if (wrap64 ((wrap64 (a0 * 16)) + a1)) = 259 then (some 178) else (if (wrap64 ((wrap64 (a0 * 16)) + a1)) = 260 then (some 230) else (if (wrap64 ((wrap64 (a0 * 16)) + a1)) = 261 then (some 283) else (if (wrap64 ((wrap64 (a0 * 16)) + a1)) = 262 then (some 338) else (some 395)))))))))))))
set_option maxHeartbeats 8000000 in
set_option maxRecDepth 100000 in
theorem spec_l5P.calls (a0 : Int) (a1 : Int) (r : Int) (w : World) (h : spec_l5P.f a0 a1 = some r) :
  Calls Try.prog 146 #[.int .i64 a0, .int .i64 a1] w fun e w' => e = .returned (.int .i64 r) ∧ Drawn0 w w' := by
 have H : (if (wrap64 ((wrap64 (a0 * 16)) + a1)) = 64 then (some 101) else (if (wrap64 ((wrap64 (a0 * 16)) + a1)) = 65 then (some 311) else (if (wrap64 ((wrap64 (a0 * 16)) + a1)) = 128 then (some 50) else (if (wrap64 ((wrap64 (a0 * 16)) + a1)) = 129 then (some 152) else (if (wrap64 ((wrap64 (a0 * 16)) + a1)) = 130 then (some 257) else (if (wrap64 ((wrap64 (a0 * 16)) + a1)) = 131 then (some 366) else (if (wrap64 ((wrap64 (a0 * 16)) + a1)) = 256 then (some 25) else (if (wrap64 ((wrap64 (a0 * 16)) + a1)) = 257 then (some 76) else (if (wrap64 ((wrap64 (a0 * 16)) + a1)) = 258 then (some 126) else (if (wrap64 ((wrap64 (a0 * 16)) + a1)) = 259 then (some 178) else (if (wrap64 ((wrap64 (a0 * 16)) + a1)) = 260 then (some 230) else (if (wrap64 ((wrap64 (a0 * 16)) + a1)) = 261 then (some 283) else (if (wrap64 ((wrap64 (a0 * 16)) + a1)) = 262 then (some 338) else (some 395)))))))))))))) = some r := h
 clear h
 by_cases c3 : (wrap64 ((wrap64 (a0 * 16)) + a1)) = 64
 ·rw [if_pos c3] at H
  have c3b0 : ((wrap64 ((wrap64 (a0 * 16)) + a1)) == 64) = true := beq_iff_eq.mpr c3
  have c3b1 : ((wrap64 ((wrap64 (a0 * 16)) + a1)) != 64) = false := bne_eq_false_iff_eq.mpr c3
  clear c3
  obtain rfl := Option.some.inj H
  go_enter Try.func146, Try.ntmps146
  go_wp2
  go_ret
  exact ⟨by first | rfl | (simp; done) | (simp [*]; done), by repeat (first | exact Drawn0.refl _ | apply Drawn0.step)⟩
 ·rw [if_neg c3] at H
  have c3b0 : ((wrap64 ((wrap64 (a0 * 16)) + a1)) == 64) = false := beq_eq_false_iff_ne.mpr c3
  have c3b1 : ((wrap64 ((wrap64 (a0 * 16)) + a1)) != 64) = true := bne_iff_ne.mpr c3
  by_cases c4 : (wrap64 ((wrap64 (a0 * 16)) + a1)) = 65
  ·rw [if_pos c4] at H
   have c4b0 : ((wrap64 ((wrap64 (a0 * 16)) + a1)) == 65) = true := beq_iff_eq.mpr c4
   have c4b1 : ((wrap64 ((wrap64 (a0 * 16)) + a1)) != 65) = false := bne_eq_false_iff_eq.mpr c4
   clear c4
   obtain rfl := Option.some.inj H
   go_enter Try.func146, Try.ntmps146
   go_wp2
   go_ret
   exact ⟨by first | rfl | (simp; done) | (simp [*]; done), by repeat (first | exact Drawn0.refl _ | apply Drawn0.step)⟩
  ·rw [if_neg c4] at H
   have c4b0 : ((wrap64 ((wrap64 (a0 * 16)) + a1)) == 65) = false := beq_eq_false_iff_ne.mpr c4
   have c4b1 : ((wrap64 ((wrap64 (a0 * 16)) + a1)) != 65) = true := bne_iff_ne.mpr c4
   by_cases c5 : (wrap64 ((wrap64 (a0 * 16)) + a1)) = 128
   ·rw [if_pos c5] at H
    have c5b0 : ((wrap64 ((wrap64 (a0 * 16)) + a1)) == 128) = true := beq_iff_eq.mpr c5
    have c5b1 : ((wrap64 ((wrap64 (a0 * 16)) + a1)) != 128) = false := bne_eq_false_iff_eq.mpr c5
    clear c5
    obtain rfl := Option.some.inj H
    go_enter Try.func146, Try.ntmps146
    go_wp2
    go_ret
    exact ⟨by first | rfl | (simp; done) | (simp [*]; done), by repeat (first | exact Drawn0.refl _ | apply Drawn0.step)⟩
   ·rw [if_neg c5] at H
    have c5b0 : ((wrap64 ((wrap64 (a0 * 16)) + a1)) == 128) = false := beq_eq_false_iff_ne.mpr c5
    have c5b1 : ((wrap64 ((wrap64 (a0 * 16)) + a1)) != 128) = true := bne_iff_ne.mpr c5
    by_cases c6 : (wrap64 ((wrap64 (a0 * 16)) + a1)) = 129
    ·rw [if_pos c6] at H
     have c6b0 : ((wrap64 ((wrap64 (a0 * 16)) + a1)) == 129) = true := beq_iff_eq.mpr c6
     have c6b1 : ((wrap64 ((wrap64 (a0 * 16)) + a1)) != 129) = false := bne_eq_false_iff_eq.mpr c6
     clear c6
     obtain rfl := Option.some.inj H
     go_enter Try.func146, Try.ntmps146
     go_wp2
     go_ret
     exact ⟨by first | rfl | (simp; done) | (simp [*]; done), by repeat (first | exact Drawn0.refl _ | apply Drawn0.step)⟩
    ·rw [if_neg c6] at H
     have c6b0 : ((wrap64 ((wrap64 (a0 * 16)) + a1)) == 129) = false := beq_eq_false_iff_ne.mpr c6
     have c6b1 : ((wrap64 ((wrap64 (a0 * 16)) + a1)) != 129) = true := bne_iff_ne.mpr c6
     by_cases c7 : (wrap64 ((wrap64 (a0 * 16)) + a1)) = 130
     ·rw [if_pos c7] at H
      have c7b0 : ((wrap64 ((wrap64 (a0 * 16)) + a1)) == 130) = true := beq_iff_eq.mpr c7
      have c7b1 : ((wrap64 ((wrap64 (a0 * 16)) + a1)) != 130) = false := bne_eq_false_iff_eq.mpr c7
      clear c7
      obtain rfl := Option.some.inj H
      go_enter Try.func146, Try.ntmps146
      go_wp2
      go_ret
      exact ⟨by first | rfl | (simp; done) | (simp [*]; done), by repeat (first | exact Drawn0.refl _ | apply Drawn0.step)⟩
     ·rw [if_neg c7] at H
      have c7b0 : ((wrap64 ((wrap64 (a0 * 16)) + a1)) == 130) = false := beq_eq_false_iff_ne.mpr c7
      have c7b1 : ((wrap64 ((wrap64 (a0 * 16)) + a1)) != 130) = true := bne_iff_ne.mpr c7
      by_cases c8 : (wrap64 ((wrap64 (a0 * 16)) + a1)) = 131
      ·rw [if_pos c8] at H
       have c8b0 : ((wrap64 ((wrap64 (a0 * 16)) + a1)) == 131) = true := beq_iff_eq.mpr c8
       have c8b1 : ((wrap64 ((wrap64 (a0 * 16)) + a1)) != 131) = false := bne_eq_false_iff_eq.mpr c8
       clear c8
       obtain rfl := Option.some.inj H
       go_enter Try.func146, Try.ntmps146
       go_wp2
       go_ret
       exact ⟨by first | rfl | (simp; done) | (simp [*]; done), by repeat (first | exact Drawn0.refl _ | apply Drawn0.step)⟩
      ·rw [if_neg c8] at H
       have c8b0 : ((wrap64 ((wrap64 (a0 * 16)) + a1)) == 131) = false := beq_eq_false_iff_ne.mpr c8
       have c8b1 : ((wrap64 ((wrap64 (a0 * 16)) + a1)) != 131) = true := bne_iff_ne.mpr c8
       by_cases c9 : (wrap64 ((wrap64 (a0 * 16)) + a1)) = 256
       ·rw [if_pos c9] at H
        have c9b0 : ((wrap64 ((wrap64 (a0 * 16)) + a1)) == 256) = true := beq_iff_eq.mpr c9
        have c9b1 : ((wrap64 ((wrap64 (a0 * 16)) + a1)) != 256) = false := bne_eq_false_iff_eq.mpr c9
        clear c9
        obtain rfl := Option.some.inj H
        go_enter Try.func146, Try.ntmps146
        go_wp2
        go_ret
        exact ⟨by first | rfl | (simp; done) | (simp [*]; done), by repeat (first | exact Drawn0.refl _ | apply Drawn0.step)⟩
       ·rw [if_neg c9] at H
        have c9b0 : ((wrap64 ((wrap64 (a0 * 16)) + a1)) == 256) = false := beq_eq_false_iff_ne.mpr c9
        have c9b1 : ((wrap64 ((wrap64 (a0 * 16)) + a1)) != 256) = true := bne_iff_ne.mpr c9
        by_cases c10 : (wrap64 ((wrap64 (a0 * 16)) + a1)) = 257
        ·rw [if_pos c10] at H
         have c10b0 : ((wrap64 ((wrap64 (a0 * 16)) + a1)) == 257) = true := beq_iff_eq.mpr c10
         have c10b1 : ((wrap64 ((wrap64 (a0 * 16)) + a1)) != 257) = false := bne_eq_false_iff_eq.mpr c10
         clear c10
         obtain rfl := Option.some.inj H
         go_enter Try.func146, Try.ntmps146
         go_wp2
         go_ret
         exact ⟨by first | rfl | (simp; done) | (simp [*]; done), by repeat (first | exact Drawn0.refl _ | apply Drawn0.step)⟩
        ·rw [if_neg c10] at H
         have c10b0 : ((wrap64 ((wrap64 (a0 * 16)) + a1)) == 257) = false := beq_eq_false_iff_ne.mpr c10
         have c10b1 : ((wrap64 ((wrap64 (a0 * 16)) + a1)) != 257) = true := bne_iff_ne.mpr c10
         by_cases c11 : (wrap64 ((wrap64 (a0 * 16)) + a1)) = 258
         ·rw [if_pos c11] at H
          have c11b0 : ((wrap64 ((wrap64 (a0 * 16)) + a1)) == 258) = true := beq_iff_eq.mpr c11
          have c11b1 : ((wrap64 ((wrap64 (a0 * 16)) + a1)) != 258) = false := bne_eq_false_iff_eq.mpr c11
          clear c11
          obtain rfl := Option.some.inj H
          go_enter Try.func146, Try.ntmps146
          go_wp2
          go_ret
          exact ⟨by first | rfl | (simp; done) | (simp [*]; done), by repeat (first | exact Drawn0.refl _ | apply Drawn0.step)⟩
         ·rw [if_neg c11] at H
          have c11b0 : ((wrap64 ((wrap64 (a0 * 16)) + a1)) == 258) = false := beq_eq_false_iff_ne.mpr c11
          have c11b1 : ((wrap64 ((wrap64 (a0 * 16)) + a1)) != 258) = true := bne_iff_ne.mpr c11
          by_cases c12 : (wrap64 ((wrap64 (a0 * 16)) + a1)) = 259
          ·rw [if_pos c12] at H
           have c12b0 : ((wrap64 ((wrap64 (a0 * 16)) + a1)) == 259) = true := beq_iff_eq.mpr c12
           have c12b1 : ((wrap64 ((wrap64 (a0 * 16)) + a1)) != 259) = false := bne_eq_false_iff_eq.mpr c12
           clear c12
           obtain rfl := Option.some.inj H
           go_enter Try.func146, Try.ntmps146
           go_wp2
           go_ret
           exact ⟨by first | rfl | (simp; done) | (simp [*]; done), by repeat (first | exact Drawn0.refl _ | apply Drawn0.step)⟩
          ·rw [if_neg c12] at H
           have c12b0 : ((wrap64 ((wrap64 (a0 * 16)) + a1)) == 259) = false := beq_eq_false_iff_ne.mpr c12
           have c12b1 : ((wrap64 ((wrap64 (a0 * 16)) + a1)) != 259) = true := bne_iff_ne.mpr c12
           by_cases c13 : (wrap64 ((wrap64 (a0 * 16)) + a1)) = 260
           ·rw [if_pos c13] at H
            have c13b0 : ((wrap64 ((wrap64 (a0 * 16)) + a1)) == 260) = true := beq_iff_eq.mpr c13
            have c13b1 : ((wrap64 ((wrap64 (a0 * 16)) + a1)) != 260) = false := bne_eq_false_iff_eq.mpr c13
            clear c13
            obtain rfl := Option.some.inj H
            go_enter Try.func146, Try.ntmps146
            go_wp2
            go_ret
            exact ⟨by first | rfl | (simp; done) | (simp [*]; done), by repeat (first | exact Drawn0.refl _ | apply Drawn0.step)⟩
           ·rw [if_neg c13] at H
            have c13b0 : ((wrap64 ((wrap64 (a0 * 16)) + a1)) == 260) = false := beq_eq_false_iff_ne.mpr c13
            have c13b1 : ((wrap64 ((wrap64 (a0 * 16)) + a1)) != 260) = true := bne_iff_ne.mpr c13
            by_cases c14 : (wrap64 ((wrap64 (a0 * 16)) + a1)) = 261
            ·rw [if_pos c14] at H
             have c14b0 : ((wrap64 ((wrap64 (a0 * 16)) + a1)) == 261) = true := beq_iff_eq.mpr c14
             have c14b1 : ((wrap64 ((wrap64 (a0 * 16)) + a1)) != 261) = false := bne_eq_false_iff_eq.mpr c14
             clear c14
             obtain rfl := Option.some.inj H
             go_enter Try.func146, Try.ntmps146
             go_wp2
             go_ret
             exact ⟨by first | rfl | (simp; done) | (simp [*]; done), by repeat (first | exact Drawn0.refl _ | apply Drawn0.step)⟩
            ·rw [if_neg c14] at H
             have c14b0 : ((wrap64 ((wrap64 (a0 * 16)) + a1)) == 261) = false := beq_eq_false_iff_ne.mpr c14
             have c14b1 : ((wrap64 ((wrap64 (a0 * 16)) + a1)) != 261) = true := bne_iff_ne.mpr c14
             by_cases c15 : (wrap64 ((wrap64 (a0 * 16)) + a1)) = 262
             ·rw [if_pos c15] at H
              have c15b0 : ((wrap64 ((wrap64 (a0 * 16)) + a1)) == 262) = true := beq_iff_eq.mpr c15
              have c15b1 : ((wrap64 ((wrap64 (a0 * 16)) + a1)) != 262) = false := bne_eq_false_iff_eq.mpr c15
              clear c15
              obtain rfl := Option.some.inj H
              go_enter Try.func146, Try.ntmps146
              go_wp2
              go_ret
              exact ⟨by first | rfl | (simp; done) | (simp [*]; done), by repeat (first | exact Drawn0.refl _ | apply Drawn0.step)⟩
             ·rw [if_neg c15] at H
              have c15b0 : ((wrap64 ((wrap64 (a0 * 16)) + a1)) == 262) = false := beq_eq_false_iff_ne.mpr c15
              have c15b1 : ((wrap64 ((wrap64 (a0 * 16)) + a1)) != 262) = true := bne_iff_ne.mpr c15
              obtain rfl := Option.some.inj H
              go_enter Try.func146, Try.ntmps146
              go_wp2
              go_ret
              exact ⟨by first | rfl | (simp; done) | (simp [*]; done), by repeat (first | exact Drawn0.refl _ | apply Drawn0.step)⟩

/-! ### spec_l5U: function 147 -/
def spec_l5U.f (a0 : Int) (a1 : Int) : Option (Int) := if (wrap64 ((wrap64 (a0 * 16)) + a1)) = 64 then (some 200) else (if (wrap64 ((wrap64 (a0 * 16)) + a1)) = 65 then (some 569) else (if (wrap64 ((wrap64 (a0 * 16)) + a1)) = 128 then (some 100) else (if (wrap64 ((wrap64 (a0 * 16)) + a1)) = 129 then (some 297) else (if (wrap64 ((wrap64 (a0 * 16)) + a1)) = 130 then (some 483) else (if (wrap64 ((wrap64 (a0 * 16)) + a1)) = 131 then (some 650) else (if (wrap64 ((wrap64 (a0 * 16)) + a1)) = 256 then (some 50) else (if (wrap64 ((wrap64 (a0 * 16)) + a1)) = 257 then (some 150) else (if (wrap64 ((wrap64 (a0 * 16)) + a1)) = 258 then (some 249) else (if (wrap64 ((wrap64 (a0 * 16)) + a1)) = 259 then (some 345) else (if (wrap64 ((wrap64 (a0 * 16)) + a1)) = 260 then (some 438) else (if (wrap64 ((wrap64 (a0 * 16)) + a1)) = 261 then (some 526) else (if (wrap64 ((wrap64 (a0 * 16)) + a1)) = 262 then (some 610) else (some 688)))))))))))))
set_option maxHeartbeats 8000000 in
set_option maxRecDepth 100000 in
theorem spec_l5U.calls (a0 : Int) (a1 : Int) (r : Int) (w : World) (h : spec_l5U.f a0 a1 = some r) :
  Calls Try.prog 147 #[.int .i64 a0, .int .i64 a1] w fun e w' => e = .returned (.int .i64 r) ∧ Drawn0 w w' := by
 have H : (if (wrap64 ((wrap64 (a0 * 16)) + a1)) = 64 then (some 200) else (if (wrap64 ((wrap64 (a0 * 16)) + a1)) = 65 then (some 569) else (if (wrap64 ((wrap64 (a0 * 16)) + a1)) = 128 then (some 100) else (if (wrap64 ((wrap64 (a0 * 16)) + a1)) = 129 then (some 297) else (if (wrap64 ((wrap64 (a0 * 16)) + a1)) = 130 then (some 483) else (if (wrap64 ((wrap64 (a0 * 16)) + a1)) = 131 then (some 650) else (if (wrap64 ((wrap64 (a0 * 16)) + a1)) = 256 then (some 50) else (if (wrap64 ((wrap64 (a0 * 16)) + a1)) = 257 then (some 150) else (if (wrap64 ((wrap64 (a0 * 16)) + a1)) = 258 then (some 249) else (if (wrap64 ((wrap64 (a0 * 16)) + a1)) = 259 then (some 345) else (if (wrap64 ((wrap64 (a0 * 16)) + a1)) = 260 then (some 438) else (if (wrap64 ((wrap64 (a0 * 16)) + a1)) = 261 then (some 526) else (if (wrap64 ((wrap64 (a0 * 16)) + a1)) = 262 then (some 610) else (some 688)))))))))))))) = some r := h
 clear h
 by_cases c3 : (wrap64 ((wrap64 (a0 * 16)) + a1)) = 64
 ·rw [if_pos c3] at H
  have c3b0 : ((wrap64 ((wrap64 (a0 * 16)) + a1)) == 64) = true := beq_iff_eq.mpr c3
  have c3b1 : ((wrap64 ((wrap64 (a0 * 16)) + a1)) != 64) = false := bne_eq_false_iff_eq.mpr c3
  clear c3
  obtain rfl := Option.some.inj H
  go_enter Try.func147, Try.ntmps147
  go_wp2
  go_ret
  exact ⟨by first | rfl | (simp; done) | (simp [*]; done), by repeat (first | exact Drawn0.refl _ | apply Drawn0.step)⟩
 ·rw [if_neg c3] at H
  have c3b0 : ((wrap64 ((wrap64 (a0 * 16)) + a1)) == 64) = false := beq_eq_false_iff_ne.mpr c3
  have c3b1 : ((wrap64 ((wrap64 (a0 * 16)) + a1)) != 64) = true := bne_iff_ne.mpr c3
  by_cases c4 : (wrap64 ((wrap64 (a0 * 16)) + a1)) = 65
  ·rw [if_pos c4] at H
   have c4b0 : ((wrap64 ((wrap64 (a0 * 16)) + a1)) == 65) = true := beq_iff_eq.mpr c4
   have c4b1 : ((wrap64 ((wrap64 (a0 * 16)) + a1)) != 65) = false := bne_eq_false_iff_eq.mpr c4
   clear c4
   obtain rfl := Option.some.inj H
   go_enter Try.func147, Try.ntmps147
   go_wp2
   go_ret
   exact ⟨by first | rfl | (simp; done) | (simp [*]; done), by repeat (first | exact Drawn0.refl _ | apply Drawn0.step)⟩
  ·rw [if_neg c4] at H
   have c4b0 : ((wrap64 ((wrap64 (a0 * 16)) + a1)) == 65) = false := beq_eq_false_iff_ne.mpr c4
   have c4b1 : ((wrap64 ((wrap64 (a0 * 16)) + a1)) != 65) = true := bne_iff_ne.mpr c4
   by_cases c5 : (wrap64 ((wrap64 (a0 * 16)) + a1)) = 128
   ·rw [if_pos c5] at H
    have c5b0 : ((wrap64 ((wrap64 (a0 * 16)) + a1)) == 128) = true := beq_iff_eq.mpr c5
    have c5b1 : ((wrap64 ((wrap64 (a0 * 16)) + a1)) != 128) = false := bne_eq_false_iff_eq.mpr c5
    clear c5
    obtain rfl := Option.some.inj H
    go_enter Try.func147, Try.ntmps147
    go_wp2
    go_ret
    exact ⟨by first | rfl | (simp; done) | (simp [*]; done), by repeat (first | exact Drawn0.refl _ | apply Drawn0.step)⟩
   ·rw [if_neg c5] at H
    have c5b0 : ((wrap64 ((wrap64 (a0 * 16)) + a1)) == 128) = false := beq_eq_false_iff_ne.mpr c5
    have c5b1 : ((wrap64 ((wrap64 (a0 * 16)) + a1)) != 128) = true := bne_iff_ne.mpr c5
    by_cases c6 : (wrap64 ((wrap64 (a0 * 16)) + a1)) = 129
    ·rw [if_pos c6] at H
     have c6b0 : ((wrap64 ((wrap64 (a0 * 16)) + a1)) == 129) = true := beq_iff_eq.mpr c6
     have c6b1 : ((wrap64 ((wrap64 (a0 * 16)) + a1)) != 129) = false := bne_eq_false_iff_eq.mpr c6
     clear c6
     obtain rfl := Option.some.inj H
     go_enter Try.func147, Try.ntmps147
     go_wp2
     go_ret
     exact ⟨by first | rfl | (simp; done) | (simp [*]; done), by repeat (first | exact Drawn0.refl _ | apply Drawn0.step)⟩
    ·rw [if_neg c6] at H
     have c6b0 : ((wrap64 ((wrap64 (a0 * 16)) + a1)) == 129) = false := beq_eq_false_iff_ne.mpr c6
     have c6b1 : ((wrap64 ((wrap64 (a0 * 16)) + a1)) != 129) = true := bne_iff_ne.mpr c6
     by_cases c7 : (wrap64 ((wrap64 (a0 * 16)) + a1)) = 130
     ·rw [if_pos c7] at H
      have c7b0 : ((wrap64 ((wrap64 (a0 * 16)) + a1)) == 130) = true := beq_iff_eq.mpr c7
      have c7b1 : ((wrap64 ((wrap64 (a0 * 16)) + a1)) != 130) = false := bne_eq_false_iff_eq.mpr c7
      clear c7
      obtain rfl := Option.some.inj H
      go_enter Try.func147, Try.ntmps147
      go_wp2
      go_ret
      exact ⟨by first | rfl | (simp; done) | (simp [*]; done), by repeat (first | exact Drawn0.refl _ | apply Drawn0.step)⟩
     ·rw [if_neg c7] at H
      have c7b0 : ((wrap64 ((wrap64 (a0 * 16)) + a1)) == 130) = false := beq_eq_false_iff_ne.mpr c7
      have c7b1 : ((wrap64 ((wrap64 (a0 * 16)) + a1)) != 130) = true := bne_iff_ne.mpr c7
      by_cases c8 : (wrap64 ((wrap64 (a0 * 16)) + a1)) = 131
      ·rw [if_pos c8] at H
       have c8b0 : ((wrap64 ((wrap64 (a0 * 16)) + a1)) == 131) = true := beq_iff_eq.mpr c8
       have c8b1 : ((wrap64 ((wrap64 (a0 * 16)) + a1)) != 131) = false := bne_eq_false_iff_eq.mpr c8
       clear c8
       obtain rfl := Option.some.inj H
       go_enter Try.func147, Try.ntmps147
       go_wp2
       go_ret
       exact ⟨by first | rfl | (simp; done) | (simp [*]; done), by repeat (first | exact Drawn0.refl _ | apply Drawn0.step)⟩
      ·rw [if_neg c8] at H
       have c8b0 : ((wrap64 ((wrap64 (a0 * 16)) + a1)) == 131) = false := beq_eq_false_iff_ne.mpr c8
       have c8b1 : ((wrap64 ((wrap64 (a0 * 16)) + a1)) != 131) = true := bne_iff_ne.mpr c8
       by_cases c9 : (wrap64 ((wrap64 (a0 * 16)) + a1)) = 256
       ·rw [if_pos c9] at H
        have c9b0 : ((wrap64 ((wrap64 (a0 * 16)) + a1)) == 256) = true := beq_iff_eq.mpr c9
        have c9b1 : ((wrap64 ((wrap64 (a0 * 16)) + a1)) != 256) = false := bne_eq_false_iff_eq.mpr c9
        clear c9
        obtain rfl := Option.some.inj H
        go_enter Try.func147, Try.ntmps147
        go_wp2
        go_ret
        exact ⟨by first | rfl | (simp; done) | (simp [*]; done), by repeat (first | exact Drawn0.refl _ | apply Drawn0.step)⟩
       ·rw [if_neg c9] at H
        have c9b0 : ((wrap64 ((wrap64 (a0 * 16)) + a1)) == 256) = false := beq_eq_false_iff_ne.mpr c9
        have c9b1 : ((wrap64 ((wrap64 (a0 * 16)) + a1)) != 256) = true := bne_iff_ne.mpr c9
        by_cases c10 : (wrap64 ((wrap64 (a0 * 16)) + a1)) = 257
        ·rw [if_pos c10] at H
         have c10b0 : ((wrap64 ((wrap64 (a0 * 16)) + a1)) == 257) = true := beq_iff_eq.mpr c10
         have c10b1 : ((wrap64 ((wrap64 (a0 * 16)) + a1)) != 257) = false := bne_eq_false_iff_eq.mpr c10
         clear c10
         obtain rfl := Option.some.inj H
         go_enter Try.func147, Try.ntmps147
         go_wp2
         go_ret
         exact ⟨by first | rfl | (simp; done) | (simp [*]; done), by repeat (first | exact Drawn0.refl _ | apply Drawn0.step)⟩
        ·rw [if_neg c10] at H
         have c10b0 : ((wrap64 ((wrap64 (a0 * 16)) + a1)) == 257) = false := beq_eq_false_iff_ne.mpr c10
         have c10b1 : ((wrap64 ((wrap64 (a0 * 16)) + a1)) != 257) = true := bne_iff_ne.mpr c10
         by_cases c11 : (wrap64 ((wrap64 (a0 * 16)) + a1)) = 258
         ·rw [if_pos c11] at H
          have c11b0 : ((wrap64 ((wrap64 (a0 * 16)) + a1)) == 258) = true := beq_iff_eq.mpr c11
          have c11b1 : ((wrap64 ((wrap64 (a0 * 16)) + a1)) != 258) = false := bne_eq_false_iff_eq.mpr c11
          clear c11
          obtain rfl := Option.some.inj H
          go_enter Try.func147, Try.ntmps147
          go_wp2
          go_ret
          exact ⟨by first | rfl | (simp; done) | (simp [*]; done), by repeat (first | exact Drawn0.refl _ | apply Drawn0.step)⟩
         ·rw [if_neg c11] at H
          have c11b0 : ((wrap64 ((wrap64 (a0 * 16)) + a1)) == 258) = false := beq_eq_false_iff_ne.mpr c11
          have c11b1 : ((wrap64 ((wrap64 (a0 * 16)) + a1)) != 258) = true := bne_iff_ne.mpr c11
          by_cases c12 : (wrap64 ((wrap64 (a0 * 16)) + a1)) = 259
          ·rw [if_pos c12] at H
           have c12b0 : ((wrap64 ((wrap64 (a0 * 16)) + a1)) == 259) = true := beq_iff_eq.mpr c12
           have c12b1 : ((wrap64 ((wrap64 (a0 * 16)) + a1)) != 259) = false := bne_eq_false_iff_eq.mpr c12
           clear c12
           obtain rfl := Option.some.inj H
           go_enter Try.func147, Try.ntmps147
           go_wp2
           go_ret
           exact ⟨by first | rfl | (simp; done) | (simp [*]; done), by repeat (first | exact Drawn0.refl _ | apply Drawn0.step)⟩
          ·rw [if_neg c12] at H
           have c12b0 : ((wrap64 ((wrap64 (a0 * 16)) + a1)) == 259) = false := beq_eq_false_iff_ne.mpr c12
           have c12b1 : ((wrap64 ((wrap64 (a0 * 16)) + a1)) != 259) = true := bne_iff_ne.mpr c12
           by_cases c13 : (wrap64 ((wrap64 (a0 * 16)) + a1)) = 260
           ·rw [if_pos c13] at H
            have c13b0 : ((wrap64 ((wrap64 (a0 * 16)) + a1)) == 260) = true := beq_iff_eq.mpr c13
            have c13b1 : ((wrap64 ((wrap64 (a0 * 16)) + a1)) != 260) = false := bne_eq_false_iff_eq.mpr c13
            clear c13
            obtain rfl := Option.some.inj H
            go_enter Try.func147, Try.ntmps147
            go_wp2
            go_ret
            exact ⟨by first | rfl | (simp; done) | (simp [*]; done), by repeat (first | exact Drawn0.refl _ | apply Drawn0.step)⟩
           ·rw [if_neg c13] at H
            have c13b0 : ((wrap64 ((wrap64 (a0 * 16)) + a1)) == 260) = false := beq_eq_false_iff_ne.mpr c13
            have c13b1 : ((wrap64 ((wrap64 (a0 * 16)) + a1)) != 260) = true := bne_iff_ne.mpr c13
            by_cases c14 : (wrap64 ((wrap64 (a0 * 16)) + a1)) = 261
            ·rw [if_pos c14] at H
             have c14b0 : ((wrap64 ((wrap64 (a0 * 16)) + a1)) == 261) = true := beq_iff_eq.mpr c14
             have c14b1 : ((wrap64 ((wrap64 (a0 * 16)) + a1)) != 261) = false := bne_eq_false_iff_eq.mpr c14
             clear c14
             obtain rfl := Option.some.inj H
             go_enter Try.func147, Try.ntmps147
             go_wp2
             go_ret
             exact ⟨by first | rfl | (simp; done) | (simp [*]; done), by repeat (first | exact Drawn0.refl _ | apply Drawn0.step)⟩
            ·rw [if_neg c14] at H
             have c14b0 : ((wrap64 ((wrap64 (a0 * 16)) + a1)) == 261) = false := beq_eq_false_iff_ne.mpr c14
             have c14b1 : ((wrap64 ((wrap64 (a0 * 16)) + a1)) != 261) = true := bne_iff_ne.mpr c14
             by_cases c15 : (wrap64 ((wrap64 (a0 * 16)) + a1)) = 262
             ·rw [if_pos c15] at H
              have c15b0 : ((wrap64 ((wrap64 (a0 * 16)) + a1)) == 262) = true := beq_iff_eq.mpr c15
              have c15b1 : ((wrap64 ((wrap64 (a0 * 16)) + a1)) != 262) = false := bne_eq_false_iff_eq.mpr c15
              clear c15
              obtain rfl := Option.some.inj H
              go_enter Try.func147, Try.ntmps147
              go_wp2
              go_ret
              exact ⟨by first | rfl | (simp; done) | (simp [*]; done), by repeat (first | exact Drawn0.refl _ | apply Drawn0.step)⟩
             ·rw [if_neg c15] at H
              have c15b0 : ((wrap64 ((wrap64 (a0 * 16)) + a1)) == 262) = false := beq_eq_false_iff_ne.mpr c15
              have c15b1 : ((wrap64 ((wrap64 (a0 * 16)) + a1)) != 262) = true := bne_iff_ne.mpr c15
              obtain rfl := Option.some.inj H
              go_enter Try.func147, Try.ntmps147
              go_wp2
              go_ret
              exact ⟨by first | rfl | (simp; done) | (simp [*]; done), by repeat (first | exact Drawn0.refl _ | apply Drawn0.step)⟩

/-! ### spec_l1Ceil: function 128 -/
def spec_l1Ceil.f (a0 : Int) (a1 : Int) : Option (Int) := if a1 = 0 then (none) else (some (wrap64 (Int.tdiv (wrap64 ((wrap64 (a0 + a1)) - 1)) a1)))
set_option maxHeartbeats 8000000 in
set_option maxRecDepth 100000 in
theorem spec_l1Ceil.calls (a0 : Int) (a1 : Int) (r : Int) (w : World) (h : spec_l1Ceil.f a0 a1 = some r) :
  Calls Try.prog 128 #[.int .i64 a0, .int .i64 a1] w fun e w' => e = .returned (.int .i64 r) ∧ Drawn0 w w' := by
 have H : (if a1 = 0 then (none) else (some (wrap64 (Int.tdiv (wrap64 ((wrap64 (a0 + a1)) - 1)) a1)))) = some r := h
 clear h
 by_cases c3 : a1 = 0
 ·rw [if_pos c3] at H
  exact absurd H (by simp)
 ·rw [if_neg c3] at H
  have c3b0 : (a1 == 0) = false := beq_eq_false_iff_ne.mpr c3
  have c3b1 : (a1 != 0) = true := bne_iff_ne.mpr c3
  obtain rfl := Option.some.inj H
  go_enter Try.func128, Try.ntmps128
  go_wp2
  go_ret
  exact ⟨by first | rfl | (simp; done) | (simp [*]; done), by repeat (first | exact Drawn0.refl _ | apply Drawn0.step)⟩

/-! ### spec_l1Floor: function 151 -/
def spec_l1Floor.f (a0 : Int) (a1 : Int) : Option (Int) := if a0 < 0 then ((spec_l1Ceil.f (wrap64 (-a0)) a1).bind fun t129 => (some (wrap64 (-t129)))) else (if a1 = 0 then (none) else (some (wrap64 (Int.tdiv a0 a1))))
set_option maxHeartbeats 8000000 in
set_option maxRecDepth 100000 in
theorem spec_l1Floor.calls (a0 : Int) (a1 : Int) (r : Int) (w : World) (h : spec_l1Floor.f a0 a1 = some r) :
  Calls Try.prog 151 #[.int .i64 a0, .int .i64 a1] w fun e w' => e = .returned (.int .i64 r) ∧ Drawn0 w w' := by
 have H : (if a0 < 0 then ((spec_l1Ceil.f (wrap64 (-a0)) a1).bind fun t129 => (some (wrap64 (-t129)))) else (if a1 = 0 then (none) else (some (wrap64 (Int.tdiv a0 a1))))) = some r := h
 clear h
 by_cases c3 : a0 < 0
 ·rw [if_pos c3] at H
  have c3b0 : decide (a0 < 0) = true := decide_eq_true c3
  clear c3
  replace H := Option.bind_eq_some_iff.mp H
  obtain ⟨t129, A40, H⟩ := H
  replace H : (some (wrap64 (-t129))) = some r := H
  have A4 := aM A40
  clear A40
  obtain rfl := Option.some.inj H
  go_enter Try.func151, Try.ntmps151
  go_wp2_with (first | ((with_reducible refine gate_callee (f := 128) rfl ?_); refine goesL_ (some 10) rfl rfl Try.func128 (by kernel_rfl) rfl #[.int .i64 (wrap64 (-a0)), .int .i64 a1] rfl mq ?_; (with_reducible refine (spec_l1Ceil.calls (wrap64 (-a0)) a1 t129 _ A4.out).mono ?_); rintro e w' ⟨rfl, ⟨nd, rfl⟩⟩; refine ⟨_, rfl, ?_⟩))
  go_ret
  exact ⟨by first | rfl | (simp; done) | (simp [*]; done), by repeat (first | exact Drawn0.refl _ | apply Drawn0.step)⟩
 ·rw [if_neg c3] at H
  have c3b0 : decide (a0 < 0) = false := decide_eq_false c3
  clear c3
  by_cases c5 : a1 = 0
  ·rw [if_pos c5] at H
   exact absurd H (by simp)
  ·rw [if_neg c5] at H
   have c5b0 : (a1 == 0) = false := beq_eq_false_iff_ne.mpr c5
   have c5b1 : (a1 != 0) = true := bne_iff_ne.mpr c5
   obtain rfl := Option.some.inj H
   go_enter Try.func151, Try.ntmps151
   go_wp2
   go_ret
   exact ⟨by first | rfl | (simp; done) | (simp [*]; done), by repeat (first | exact Drawn0.refl _ | apply Drawn0.step)⟩

/-! ### spec_l1Ten: function 149 -/
def spec_l1Ten.f (a0 : Int) : Option (Int) := (spec_l1Floor.f (wrap64 (a0 + 512)) 1024).bind fun t130 => (some t130)
set_option maxHeartbeats 8000000 in
set_option maxRecDepth 100000 in
theorem spec_l1Ten.calls (a0 : Int) (r : Int) (w : World) (h : spec_l1Ten.f a0 = some r) :
  Calls Try.prog 149 #[.int .i64 a0] w fun e w' => e = .returned (.int .i64 r) ∧ Drawn0 w w' := by
 have H : ((spec_l1Floor.f (wrap64 (a0 + 512)) 1024).bind fun t130 => (some t130)) = some r := h
 clear h
 replace H := Option.bind_eq_some_iff.mp H
 obtain ⟨t130, A20, H⟩ := H
 replace H : (some t130) = some r := H
 have A2 := aM A20
 clear A20
 obtain rfl := Option.some.inj H
 go_enter Try.func149, Try.ntmps149
 go_wp2_with (first | ((with_reducible refine gate_callee (f := 151) rfl ?_); refine goesL_ (some 5) rfl rfl Try.func151 (by kernel_rfl) rfl #[.int .i64 (wrap64 (a0 + 512)), .int .i64 1024] rfl mq ?_; (with_reducible refine (spec_l1Floor.calls (wrap64 (a0 + 512)) 1024 t130 _ A2.out).mono ?_); rintro e w' ⟨rfl, ⟨nd, rfl⟩⟩; refine ⟨_, rfl, ?_⟩))
 go_ret
 exact ⟨by first | rfl | (simp; done) | (simp [*]; done), by repeat (first | exact Drawn0.refl _ | apply Drawn0.step)⟩

/-! ### spec_l5Back: function 133 -/
def spec_l5Back.f (a0 : Int) (a1 : Int) (a2 : Int) (a3 : Int) : Option (Int × Int) := (spec_l5P.f a0 a1).bind fun t131 => ((spec_l1Ten.f (wrap64 (t131 * a3))).bind fun t132 => ((spec_l5U.f a0 a1).bind fun t133 => ((spec_l1Ten.f (wrap64 (t133 * (wrap64 (a2 + t132))))).bind fun t134 => ((spec_l5P.f a0 a1).bind fun t135 => ((spec_l1Ten.f (wrap64 (t135 * (wrap64 (a3 - t134))))).bind fun t136 => (some (wrap64 ((wrap64 (a2 + t132)) + t136), wrap64 (a3 - t134))))))))
set_option maxHeartbeats 8000000 in
set_option maxRecDepth 100000 in
theorem spec_l5Back.calls (a0 : Int) (a1 : Int) (a2 : Int) (a3 : Int) (r1 : Int) (r2 : Int) (w : World) (h : spec_l5Back.f a0 a1 a2 a3 = some (r1, r2)) :
  Calls Try.prog 133 #[.int .i64 a0, .int .i64 a1, .int .i64 a2, .int .i64 a3] w fun e w' => e = .returned (.tuple #[.int .i64 r1, .int .i64 r2]) ∧ Below w.heap.size w w' := by
 have HB := aM (Below.refl w.heap.size w)
 have H : ((spec_l5P.f a0 a1).bind fun t131 => ((spec_l1Ten.f (wrap64 (t131 * a3))).bind fun t132 => ((spec_l5U.f a0 a1).bind fun t133 => ((spec_l1Ten.f (wrap64 (t133 * (wrap64 (a2 + t132))))).bind fun t134 => ((spec_l5P.f a0 a1).bind fun t135 => ((spec_l1Ten.f (wrap64 (t135 * (wrap64 (a3 - t134))))).bind fun t136 => (some (wrap64 ((wrap64 (a2 + t132)) + t136), wrap64 (a3 - t134))))))))) = some (r1, r2) := h
 clear h
 replace H := Option.bind_eq_some_iff.mp H
 obtain ⟨t131, A50, H⟩ := H
 replace H : ((spec_l1Ten.f (wrap64 (t131 * a3))).bind fun t132 => ((spec_l5U.f a0 a1).bind fun t133 => ((spec_l1Ten.f (wrap64 (t133 * (wrap64 (a2 + t132))))).bind fun t134 => ((spec_l5P.f a0 a1).bind fun t135 => ((spec_l1Ten.f (wrap64 (t135 * (wrap64 (a3 - t134))))).bind fun t136 => (some (wrap64 ((wrap64 (a2 + t132)) + t136), wrap64 (a3 - t134)))))))) = some (r1, r2) := H
 have A5 := aM A50
 clear A50
 replace H := Option.bind_eq_some_iff.mp H
 obtain ⟨t132, A60, H⟩ := H
 replace H : ((spec_l5U.f a0 a1).bind fun t133 => ((spec_l1Ten.f (wrap64 (t133 * (wrap64 (a2 + t132))))).bind fun t134 => ((spec_l5P.f a0 a1).bind fun t135 => ((spec_l1Ten.f (wrap64 (t135 * (wrap64 (a3 - t134))))).bind fun t136 => (some (wrap64 ((wrap64 (a2 + t132)) + t136), wrap64 (a3 - t134))))))) = some (r1, r2) := H
 have A6 := aM A60
 clear A60
 replace H := Option.bind_eq_some_iff.mp H
 obtain ⟨t133, A70, H⟩ := H
 replace H : ((spec_l1Ten.f (wrap64 (t133 * (wrap64 (a2 + t132))))).bind fun t134 => ((spec_l5P.f a0 a1).bind fun t135 => ((spec_l1Ten.f (wrap64 (t135 * (wrap64 (a3 - t134))))).bind fun t136 => (some (wrap64 ((wrap64 (a2 + t132)) + t136), wrap64 (a3 - t134)))))) = some (r1, r2) := H
 have A7 := aM A70
 clear A70
 replace H := Option.bind_eq_some_iff.mp H
 obtain ⟨t134, A80, H⟩ := H
 replace H : ((spec_l5P.f a0 a1).bind fun t135 => ((spec_l1Ten.f (wrap64 (t135 * (wrap64 (a3 - t134))))).bind fun t136 => (some (wrap64 ((wrap64 (a2 + t132)) + t136), wrap64 (a3 - t134))))) = some (r1, r2) := H
 have A8 := aM A80
 clear A80
 replace H := Option.bind_eq_some_iff.mp H
 obtain ⟨t135, A90, H⟩ := H
 replace H : ((spec_l1Ten.f (wrap64 (t135 * (wrap64 (a3 - t134))))).bind fun t136 => (some (wrap64 ((wrap64 (a2 + t132)) + t136), wrap64 (a3 - t134)))) = some (r1, r2) := H
 have A9 := aM A90
 clear A90
 replace H := Option.bind_eq_some_iff.mp H
 obtain ⟨t136, A100, H⟩ := H
 replace H : (some (wrap64 ((wrap64 (a2 + t132)) + t136), wrap64 (a3 - t134))) = some (r1, r2) := H
 have A10 := aM A100
 clear A100
 simp only [Option.some.injEq, Prod.mk.injEq] at H
 obtain ⟨rfl, rfl⟩ := H
 go_enter Try.func133, Try.ntmps133
 go_wp2_with (first | ((with_reducible refine gate_callee (f := 146) rfl ?_); refine goesL_ (some 15) rfl rfl Try.func146 (by kernel_rfl) rfl #[.int .i64 a0, .int .i64 a1] rfl mq ?_; (with_reducible refine (spec_l5P.calls a0 a1 t131 _ A5.out).mono ?_); rintro e w' ⟨rfl, ⟨nd, rfl⟩⟩; refine ⟨_, rfl, ?_⟩) | ((with_reducible refine gate_callee (f := 149) rfl ?_); refine goesL_ (some 18) rfl rfl Try.func149 (by kernel_rfl) rfl #[.int .i64 (wrap64 (t131 * a3))] rfl mq ?_; (with_reducible refine (spec_l1Ten.calls (wrap64 (t131 * a3)) t132 _ A6.out).mono ?_); rintro e w' ⟨rfl, ⟨nd, rfl⟩⟩; refine ⟨_, rfl, ?_⟩) | ((with_reducible refine gate_callee (f := 147) rfl ?_); refine goesL_ (some 23) rfl rfl Try.func147 (by kernel_rfl) rfl #[.int .i64 a0, .int .i64 a1] rfl mq ?_; (with_reducible refine (spec_l5U.calls a0 a1 t133 _ A7.out).mono ?_); rintro e w' ⟨rfl, ⟨nd, rfl⟩⟩; refine ⟨_, rfl, ?_⟩) | ((with_reducible refine gate_callee (f := 149) rfl ?_); refine goesL_ (some 26) rfl rfl Try.func149 (by kernel_rfl) rfl #[.int .i64 (wrap64 (t133 * (wrap64 (a2 + t132))))] rfl mq ?_; (with_reducible refine (spec_l1Ten.calls (wrap64 (t133 * (wrap64 (a2 + t132)))) t134 _ A8.out).mono ?_); rintro e w' ⟨rfl, ⟨nd, rfl⟩⟩; refine ⟨_, rfl, ?_⟩) | ((with_reducible refine gate_callee (f := 146) rfl ?_); refine goesL_ (some 31) rfl rfl Try.func146 (by kernel_rfl) rfl #[.int .i64 a0, .int .i64 a1] rfl mq ?_; (with_reducible refine (spec_l5P.calls a0 a1 t135 _ A9.out).mono ?_); rintro e w' ⟨rfl, ⟨nd, rfl⟩⟩; refine ⟨_, rfl, ?_⟩) | ((with_reducible refine gate_callee (f := 149) rfl ?_); refine goesL_ (some 34) rfl rfl Try.func149 (by kernel_rfl) rfl #[.int .i64 (wrap64 (t135 * (wrap64 (a3 - t134))))] rfl mq ?_; (with_reducible refine (spec_l1Ten.calls (wrap64 (t135 * (wrap64 (a3 - t134)))) t136 _ A10.out).mono ?_); rintro e w' ⟨rfl, ⟨nd, rfl⟩⟩; refine ⟨_, rfl, ?_⟩))
 go_ret2
 exact ⟨by first | rfl | (simp [errW_none, errW_some] <;> rfl) | (simp [*, errW_none, errW_some] <;> rfl), bq⟩

/-! ### spec_l5Part: function 148 -/
def spec_l5Part.f (a0 : Int) (a1 : Int) : Option (Int × Int) := (spec_l1Floor.f a1 2).bind fun t137 => (some (wrap64 ((wrap64 (a0 - t137)) + a1), wrap64 (a0 - t137)))
set_option maxHeartbeats 8000000 in
set_option maxRecDepth 100000 in
theorem spec_l5Part.calls (a0 : Int) (a1 : Int) (r1 : Int) (r2 : Int) (w : World) (h : spec_l5Part.f a0 a1 = some (r1, r2)) :
  Calls Try.prog 148 #[.int .i64 a0, .int .i64 a1] w fun e w' => e = .returned (.tuple #[.int .i64 r1, .int .i64 r2]) ∧ Below w.heap.size w w' := by
 have HB := aM (Below.refl w.heap.size w)
 have H : ((spec_l1Floor.f a1 2).bind fun t137 => (some (wrap64 ((wrap64 (a0 - t137)) + a1), wrap64 (a0 - t137)))) = some (r1, r2) := h
 clear h
 replace H := Option.bind_eq_some_iff.mp H
 obtain ⟨t137, A30, H⟩ := H
 replace H : (some (wrap64 ((wrap64 (a0 - t137)) + a1), wrap64 (a0 - t137))) = some (r1, r2) := H
 have A3 := aM A30
 clear A30
 simp only [Option.some.injEq, Prod.mk.injEq] at H
 obtain ⟨rfl, rfl⟩ := H
 go_enter Try.func148, Try.ntmps148
 go_wp2_with (first | ((with_reducible refine gate_callee (f := 151) rfl ?_); refine goesL_ (some 9) rfl rfl Try.func151 (by kernel_rfl) rfl #[.int .i64 a1, .int .i64 2] rfl mq ?_; (with_reducible refine (spec_l1Floor.calls a1 2 t137 _ A3.out).mono ?_); rintro e w' ⟨rfl, ⟨nd, rfl⟩⟩; refine ⟨_, rfl, ?_⟩))
 go_ret2
 exact ⟨by first | rfl | (simp [errW_none, errW_some] <;> rfl) | (simp [*, errW_none, errW_some] <;> rfl), bq⟩

end Go.Proofs.Ytjdgebfihbhbaaa.PFnExactPlayBlock
