-- Written by a program of this session: wip/mkprint.py over the kit's print, with contracts proved by hand (wip/given.py)
-- shortened
-- told short
-- squeezed
import Derived.Test.YtjdgebfihbhbaaaPFnExactPlayBlockx0
import Derived.Test.YtjdgebfihbhbaaaPFnExactPlayBlockx2
import Derived.Test.YtjdgebfihbhbaaaPFnExactPlayBlockx3
namespace Go.Proofs.Ytjdgebfihbhbaaa.PFnExactPlayBlock
open Go.RowKit Go.Proofs.YtjdgebfihbhbaaaW.PrintWords Go.Proofs.YtjdgebfihbhbaaaW.PrintLast Go.Proofs.YtjdgebfihbhbaaaW.PrintMore
open Go.Proofs.YtjdgebfihbhbaaaW.PrintWords.Kd renaming R_alloc → rA, R_drewN → rN, R_drew → rD, R_mono → rM, R_base → rB, R_new' → rW, R_below → rL, R_lt → rT, R_lower → rG, R_elder' → rH, R_reads' → rR
open Go.Proofs.YtjdgebfihbhbaaaW.PrintWords renaming below_drew1 → bD, below_set → bS, below_step → bT, below_size → bZ
open Go.Proofs.YtjdgebfihbhbaaaW.PrintWords.Aside0 renaming mk → aM
attribute [local go_sem] max2_int min2_int max_two min_two max_three min_three max_four min_four   -- for this text's walks alone
set_option linter.unusedVariables false
set_option linter.unusedSimpArgs false

/-! ### spec_l6Gather: function 103 -/
mutual
def spec_l6Gather.l0 : Nat → List Int → List Int → List Int → Int → Option (List Int)
 | 0, _, _, _, _ => none
 | k + 1, x0, x3, x4, x5 => if (wrap64 (x5 + 1)) < (x0.length : Int) then (if 0 ≤ x5 then (if x5 < (x0.length : Int) then (if x3.length < 17592186044416 then (if 0 ≤ (wrap64 (x5 + 1)) then (if x4.length < 17592186044416 then (spec_l6Gather.l0 k x0 (x3 ++ [rd x0 x5]) (x4 ++ [rd x0 (wrap64 (x5 + 1))]) (wrap64 (x5 + 2))) else (none)) else (none)) else (none)) else (none)) else (none)) else ((spec_l6Gather.f k x3).bind fun t173 => ((spec_l6Gather.f k x4).bind fun t176 => ((spec_l6Unite.f k t173 t176).bind fun t179 => (some t179))))
def spec_l6Gather.f : Nat → List Int → Option (List Int)
 | 0, _ => none
 | k + 1, l0 => if (l0.length : Int) = 1 then ((spec_l1Ints.f l0).bind fun t156 => (some t156)) else (spec_l6Gather.l0 k l0 (([] : List Int)) (([] : List Int)) 0)
end
theorem spec_l6Gather.mono_l : ∀ k, (∀ y0, LeO (spec_l6Gather.f k y0) (spec_l6Gather.f (k + 1) y0)) ∧ (∀ y0 y1 y2 y3, LeO (spec_l6Gather.l0 k y0 y1 y2 y3) (spec_l6Gather.l0 (k + 1) y0 y1 y2 y3))
 | 0 => ⟨fun _ r h => by simp [spec_l6Gather.f] at h, fun _ _ _ _ r h => by simp [spec_l6Gather.l0] at h⟩
 | k + 1 => by
  obtain ⟨ih0, ih1⟩ := spec_l6Gather.mono_l k
  refine ⟨?_, ?_⟩
  ·intro y0
   unfold spec_l6Gather.f
   repeat' first
   | (with_reducible exact ih0 _)
   | (with_reducible exact ih1 _ _ _ _)
   | (with_reducible exact spec_l6Unite.mono _ _ _)
   | (with_reducible exact LeO.refl _)
   | (with_reducible exact LeO.none _)
   | (with_reducible refine LeO.ite ?_ ?_)
   | (with_reducible refine LeO.bind ?_ (fun _ => ?_))
   | exact ih0 _
   | exact ih1 _ _ _ _
   | exact spec_l6Unite.mono _ _ _
   | exact LeO.none _
   | refine LeO.ite ?_ ?_
   | refine LeO.bind ?_ (fun _ => ?_)
  ·intro y0 y1 y2 y3
   unfold spec_l6Gather.l0
   repeat' first
   | (with_reducible exact ih0 _)
   | (with_reducible exact ih1 _ _ _ _)
   | (with_reducible exact spec_l6Unite.mono _ _ _)
   | (with_reducible exact LeO.refl _)
   | (with_reducible exact LeO.none _)
   | (with_reducible refine LeO.ite ?_ ?_)
   | (with_reducible refine LeO.bind ?_ (fun _ => ?_))
   | exact ih0 _
   | exact ih1 _ _ _ _
   | exact spec_l6Unite.mono _ _ _
   | exact LeO.none _
   | refine LeO.ite ?_ ?_
   | refine LeO.bind ?_ (fun _ => ?_)
theorem spec_l6Gather.mono : ∀ a0 k, LeO (spec_l6Gather.f k a0) (spec_l6Gather.f (k + 1) a0) := by
 intro a0 k
 obtain ⟨ih0, ih1⟩ := spec_l6Gather.mono_l k
 exact ih0 a0
set_option maxHeartbeats 8000000 in
set_option maxRecDepth 100000 in
theorem spec_l6Gather.calls (k : Nat) : ∀ (A0 : Option Addr) (c0 : Nat) (l0 : List Int) (r : List Int) (w : World) (hr0 : Kd.C (Kd.int .i64) w A0 l0.length l0) (hc0 : l0.length ≤ c0) (h : spec_l6Gather.f k l0 = some r),
  Calls Try.prog 103 #[.slice A0 l0.length c0] w fun e w' => ∃ v0_ : Value, e = .returned (v0_) ∧ Kd.R (Kd.int .i64) 2 w' w.heap.size (fun _ => True) v0_ r ∧ Below w.heap.size w w' := by
 induction k using Nat.strongRecOn with
 | _ k ih =>
 intro A0 c0 l0 r w hr0 hc0 h
 cases k with
 | zero => exact absurd h (by simp [spec_l6Gather.f])
 | succ k =>
 simp only [spec_l6Gather.f] at h
 have HR0 := aM hr0
 have HC0 := aM hc0
 clear hr0 hc0
 have HB := aM (Below.refl w.heap.size w)
 have H : (if (l0.length : Int) = 1 then ((spec_l1Ints.f l0).bind fun t156 => (some t156)) else (spec_l6Gather.l0 k l0 (([] : List Int)) (([] : List Int)) 0)) = some r := h
 clear h
 by_cases c2 : (l0.length : Int) = 1
 ·rw [if_pos c2] at H
  have c2b0 : ((l0.length : Int) == 1) = true := beq_iff_eq.mpr c2
  have c2b1 : ((l0.length : Int) != 1) = false := bne_eq_false_iff_eq.mpr c2
  clear c2
  replace H := Option.bind_eq_some_iff.mp H
  obtain ⟨t156, A30, H⟩ := H
  replace H : (some t156) = some r := H
  have A3 := aM A30
  clear A30
  obtain rfl := Option.some.inj H
  go_enter Try.func103, Try.ntmps103
  go_wp2_with (first | ((with_reducible refine gate_callee (f := 105) rfl ?_); refine goesL_ (some 10) rfl rfl Try.func105 (by kernel_rfl) rfl #[.slice A0 l0.length c0] rfl mq ?_; (with_reducible refine (spec_l1Ints.calls _ _ l0 t156 _ ?side1 ?side2 A3.out).mono ?_); (case side1 => exact cq HR0.out); (case side2 => exact HC0.out); rintro e w4 ⟨v157, rfl, ho0, hb⟩; refine ⟨_, rfl, ?_⟩; have n0_ := aM (rG ho0 (bZ bq)); have n1_ := aM (bT bq hb); clear HB; have HO158 := n0_; have HB := n1_; clear n0_ n1_; (try clear hb); (try clear ho0)))
  go_ret
  exact ⟨_, by first | rfl | (simp [errW_none, errW_some] <;> rfl) | (simp [*, errW_none, errW_some] <;> rfl), by (with_reducible repeat (first | apply rA | apply rN | apply rD)); exact HO158.out, bq⟩
 ·rw [if_neg c2] at H
  have c2b0 : ((l0.length : Int) == 1) = false := beq_eq_false_iff_ne.mpr c2
  have c2b1 : ((l0.length : Int) != 1) = true := bne_iff_ne.mpr c2
  obtain ⟨y159, hy159⟩ : ∃ y_ : List Int, y_ = (([] : List Int)) := ⟨_, rfl⟩
  replace H : (spec_l6Gather.l0 k l0 y159 (([] : List Int)) 0) = some r := by first | (rw [hy159]; with_reducible exact H) | (have H2_ := (Option.bind_some _ _).symm.trans H; rw [hy159]; with_reducible exact H2_) | (have H2_ := (Option.bind_some _ _).symm.trans H; with_reducible exact H2_) | with_reducible exact H | (rw [hy159]; exact H) | exact H
  have Ny159 := aM hy159
  clear hy159
  obtain ⟨y162, hy162⟩ : ∃ y_ : List Int, y_ = (([] : List Int)) := ⟨_, rfl⟩
  replace H : (spec_l6Gather.l0 k l0 y159 y162 0) = some r := by first | (rw [hy162]; with_reducible exact H) | (have H2_ := (Option.bind_some _ _).symm.trans H; rw [hy162]; with_reducible exact H2_) | (have H2_ := (Option.bind_some _ _).symm.trans H; with_reducible exact H2_) | with_reducible exact H | (rw [hy162]; exact H) | exact H
  have Ny162 := aM hy162
  clear hy162
  have H' := aM H
  clear H
  go_enter Try.func103, Try.ntmps103
  go_wp2_with (first | ((with_reducible refine gate_dst (N := 11) rfl ?_); refine Kd.R_lit (Kd.int .i64) _ 2 ?hg (N := 11) ?hd (xs := ([] : List Int)) (inner := []) (ok := fun _ => True) (okp := fun _ => True) ?hr ?hp (fun _ hk => hk) trivial (Below.refl _ _) (Nat.le_refl _) (by simp) ?_; (case hd => rfl); (case hg => rfl); (case hr => first | (go_simp; done) | (go_simp; rfl)); (case hp => exact (Reps.none _ _)); intro v160 w5 ho6 hb hg_ hnew_; clear hg_ hnew_; (first | rw [← Ny159.out] at ho6 | (simp only [Int.reduceToNat] at ho6; rw [← Ny159.out] at ho6)); have n0_ := aM (rG ho6 (bZ bq)); have n1_ := aM (bT bq hb); clear HB; have HO161 := n0_; have HB := n1_; clear n0_ n1_ hb ho6) | ((with_reducible refine gate_dst (N := 12) rfl ?_); refine Kd.R_lit (Kd.int .i64) _ 2 ?hg (N := 12) ?hd (xs := ([] : List Int)) (inner := []) (ok := fun _ => True) (okp := fun _ => True) ?hr ?hp (fun _ hk => hk) trivial (Below.refl _ _) (Nat.le_refl _) (by simp) ?_; (case hd => rfl); (case hg => rfl); (case hr => first | (go_simp; done) | (go_simp; rfl)); (case hp => exact (Reps.none _ _)); intro v163 w7 ho8 hb hg_ hnew_; clear hg_ hnew_; (first | rw [← Ny162.out] at ho8 | (simp only [Int.reduceToNat] at ho8; rw [← Ny162.out] at ho8)); have n0_ := aM (rH (rq HO161.out) (rB ho8) hb); have n1_ := aM (rG (rW ho8 (rT (rq HO161.out))) (bZ bq)); have n2_ := aM (bT bq hb); clear HO161 HB; have HO161 := n0_; have HO164 := n1_; have HB := n2_; clear n0_ n1_ n2_ hb ho8))
  go_loopg [3, 4, 5] k (fun kq v3 v4 v5 w' => ∃ (x3_1 : List Int) (x4_1 : List Int) (x5_1 : Int), v5 = .int .i64 x5_1 ∧ Aside0 (spec_l6Gather.l0 kq l0 x3_1 x4_1 x5_1 = some r) ∧ Aside0 (kq ≤ k) ∧ Aside0 (Kd.R (Kd.int .i64) 2 w' w.heap.size (fun k_ => some k_ ≠ (v4 : Value).ownBlock) v3 x3_1) ∧ Aside0 (Kd.R (Kd.int .i64) 2 w' w.heap.size (fun k_ => some k_ ≠ (v3 : Value).ownBlock) v4 x4_1) ∧ Aside0 (Below w.heap.size w w'))
  case atStart => exact ⟨(y159), (y162), (0), (by first | rfl | (simp; done) | (simp [*]; done)), H', ⟨Nat.le_refl _⟩, ⟨by (with_reducible repeat (first | apply rA | apply rN | apply rD)); exact rM HO161.out (fun _ hk => hk.2)⟩, ⟨by (with_reducible repeat (first | apply rA | apply rN | apply rD)); exact rM HO164.out (fun _ hk => hk.2)⟩, ⟨bq⟩⟩
  case round =>
   clear H'
   try clear c1
   try clear c2
   try clear c2b0
   try clear c2b1
   try clear p2
   obtain ⟨x3_1, x4_1, x5_1, rfl, HA, HK1, HO_3, HO_4, HB⟩ := hrel
   cases gk with
   | zero => exact absurd HA.out (by simp [spec_l6Gather.l0])
   | succ k1 =>
    have H := HA.out
    clear HA
    simp only [spec_l6Gather.l0] at H
    by_cases c9 : (wrap64 (x5_1 + 1)) < (l0.length : Int)
    ·rw [if_pos c9] at H
     have c9b0 : decide ((wrap64 (x5_1 + 1)) < (l0.length : Int)) = true := decide_eq_true c9
     clear c9
     by_cases c10 : 0 ≤ x5_1
     ·rw [if_pos c10] at H
      have c10b0 : decide (0 ≤ x5_1) = true := decide_eq_true c10
      clear c10
      by_cases c11 : x5_1 < (l0.length : Int)
      ·rw [if_pos c11] at H
       have c11b0 : decide (x5_1 < (l0.length : Int)) = true := decide_eq_true c11
       clear c11
       by_cases c12 : x3_1.length < 17592186044416
       ·rw [if_pos c12] at H
        have LMc12 := aM c12
        clear c12
        obtain ⟨y166, hy166⟩ : ∃ y_ : List Int, y_ = (x3_1 ++ [rd l0 x5_1]) := ⟨_, rfl⟩
        replace H : (if 0 ≤ (wrap64 (x5_1 + 1)) then (if x4_1.length < 17592186044416 then (spec_l6Gather.l0 k1 l0 y166 (x4_1 ++ [rd l0 (wrap64 (x5_1 + 1))]) (wrap64 (x5_1 + 2))) else (none)) else (none)) = some r := by first | (rw [hy166]; with_reducible exact H) | (have H2_ := (Option.bind_some _ _).symm.trans H; rw [hy166]; with_reducible exact H2_) | (have H2_ := (Option.bind_some _ _).symm.trans H; with_reducible exact H2_) | with_reducible exact H | (rw [hy166]; exact H) | exact H
        have Ny166 := aM hy166
        clear hy166
        obtain ⟨ji13, hji13⟩ : ∃ j_ : Int, (wrap64 (x5_1 + 1)) = j_ := ⟨_, rfl⟩
        replace H : (if 0 ≤ (ji13) then (if x4_1.length < 17592186044416 then (spec_l6Gather.l0 k1 l0 y166 (x4_1 ++ [rd l0 (ji13)]) (wrap64 (x5_1 + 2))) else (none)) else (none)) = some r := by first | (rw [hji13] at H; exact H) | (simp only [hji13] at H ⊢; exact H)
        (try rw [hji13] at c9b0)
        have hji13w : (IntKind.i64.wrap (x5_1 + 1)) = ji13 := (i64_w _).trans hji13
        by_cases c14 : 0 ≤ (ji13)
        ·rw [if_pos c14] at H
         have c14b0 : decide (0 ≤ (ji13)) = true := decide_eq_true c14
         clear c14
         by_cases c15 : x4_1.length < 17592186044416
         ·rw [if_pos c15] at H
          have LMc15 := aM c15
          clear c15
          obtain ⟨y170, hy170⟩ : ∃ y_ : List Int, y_ = (x4_1 ++ [rd l0 (ji13)]) := ⟨_, rfl⟩
          replace H : (spec_l6Gather.l0 k1 l0 y166 y170 (wrap64 (x5_1 + 2))) = some r := by first | (rw [hy170]; with_reducible exact H) | (have H2_ := (Option.bind_some _ _).symm.trans H; rw [hy170]; with_reducible exact H2_) | (have H2_ := (Option.bind_some _ _).symm.trans H; with_reducible exact H2_) | with_reducible exact H | (rw [hy170]; exact H) | exact H
          have Ny170 := aM hy170
          clear hy170
          have H' := aM H
          clear H
          have p165 : 0 ≤ (x5_1 : Int) := of_decide_eq_true (by first | (with_reducible assumption) | assumption)
          have q165 : x5_1 < (l0.length : Int) := of_decide_eq_true (by first | (with_reducible assumption) | assumption)
          obtain ⟨ad165, e165, hx165_0⟩ := Kd.at_int HR0.out x5_1 p165 q165
          cases e165
          replace hx165_0 := (HB.out.cell (World.block_lt_of_cell? w _ hx165_0)).trans hx165_0
          replace p165 := eq_true p165
          replace q165 := eq_true q165
          go_wp2_with (first | ((with_reducible refine gate_builtin (b := .append) (xs := #[.tmp 20, .tmp 25]) rfl ?_); at_builtin; refine Kd.R_append (Kd.int .i64) (w0 := w) w.heap.size rfl (.tmp 20) (.tmp 25) 22 2 (.int .i64 0) 8 rfl Try.underlying22 info2 rfl (by decide) (by omega) u3 x3_1 (rd l0 x5_1) [.int .i64 (rd l0 x5_1)] (fun k_ => some k_ ≠ (u4 : Value).ownBlock) (fun _ => False) rfl rfl ?aP (fun _ hk => hk.elim) ?aF ?aO ?aB ?aS ?aL ?_; (case aP => exact rfl); (case aB => exact bq); (case aF => exact (fun k_ hk => Kd.fresh' (rT (rq HO_4.out)) k_ hk)); (case aO => exact (rq HO_3.out)); (case aS => exact (bZ bq)); (case aL => have := LMc12.out; omega); intro v167 w16 ho hb hg hat; rw [← Ny166.out] at ho; have n0_ := aM (Kd.R_after (ok := (fun _ => True)) (by (with_reducible repeat (first | apply rA | apply rN | apply rD)); exact rM HO_4.out (fun _ hk => ⟨trivial, hk⟩)) hg hat); have n1_ := aM (hb); have n2_ := aM (ho); clear HO_4 HB HO_3; have HO_4 := n0_; have HB := n1_; have HO168 := n2_; clear n0_ n1_ n2_ ho hb hg hat; have p169 : 0 ≤ ((ji13) : Int) := of_decide_eq_true (by first | (with_reducible assumption) | assumption); have q169 : (ji13) < (l0.length : Int) := of_decide_eq_true (by first | (with_reducible assumption) | assumption); obtain ⟨ad169, e169, hx169_0⟩ := Kd.at_int HR0.out (ji13) p169 q169; obtain rfl : ad165 = ad169 := (by injection e169); replace hx169_0 := (HB.out.cell (World.block_lt_of_cell? w _ hx169_0)).trans hx169_0; replace p169 := eq_true p169; replace q169 := eq_true q169) | ((with_reducible refine gate_builtin (b := .append) (xs := #[.tmp 27, .tmp 33]) rfl ?_); at_builtin; refine Kd.R_append (Kd.int .i64) (w0 := w) w.heap.size rfl (.tmp 27) (.tmp 33) 22 2 (.int .i64 0) 8 rfl Try.underlying22 info2 rfl (by decide) (by omega) u4 x4_1 (rd l0 (ji13)) [.int .i64 (rd l0 (ji13))] (fun k_ => some k_ ≠ (v167 : Value).ownBlock) (fun _ => False) rfl rfl ?aP (fun _ hk => hk.elim) ?aF ?aO ?aB ?aS ?aL ?_; (case aP => exact rfl); (case aB => exact bq); (case aF => exact (fun k_ hk => Kd.fresh' (rT (rq HO168.out)) k_ hk)); (case aO => exact (by (with_reducible repeat (first | apply rA | apply rN | apply rD)); exact rM HO_4.out (fun _ hk => hk.2))); (case aS => exact (bZ bq)); (case aL => have := LMc15.out; omega); intro v171 w17 ho hb hg hat; rw [← Ny170.out] at ho; have n0_ := aM (Kd.R_after (ok := (fun _ => True)) (by (with_reducible repeat (first | apply rA | apply rN | apply rD)); exact rM HO168.out (fun _ hk => ⟨trivial, hk⟩)) hg hat); have n1_ := aM (hb); have n2_ := aM (ho); clear HO168 HB HO_4; have HO168 := n0_; have HB := n1_; have HO172 := n2_; clear n0_ n1_ n2_ ho hb hg hat))
          go_roundg k1
          case measure => have := HK1.out; omega
          case rel => exact ⟨(y166), (y170), (wrap64 (x5_1 + 2)), (by first | rfl | (simp; done) | (simp [*]; done)), H', ⟨by have := HK1.out; omega⟩, ⟨by (with_reducible repeat (first | apply rA | apply rN | apply rD)); exact rM HO168.out (fun _ hk => hk.2)⟩, ⟨by (with_reducible repeat (first | apply rA | apply rN | apply rD)); exact HO172.out⟩, ⟨bq⟩⟩
         ·rw [if_neg c15] at H
          exact absurd H (by simp)
        ·rw [if_neg c14] at H
         exact absurd H (by simp)
       ·rw [if_neg c12] at H
        exact absurd H (by simp)
      ·rw [if_neg c11] at H
       exact absurd H (by simp)
     ·rw [if_neg c10] at H
      exact absurd H (by simp)
    ·rw [if_neg c9] at H
     have c9b0 : decide ((wrap64 (x5_1 + 1)) < (l0.length : Int)) = false := decide_eq_false c9
     clear c9
     replace H := Option.bind_eq_some_iff.mp H
     obtain ⟨t173, A180, H⟩ := H
     replace H : ((spec_l6Gather.f k1 x4_1).bind fun t176 => ((spec_l6Unite.f k1 t173 t176).bind fun t179 => (some t179))) = some r := H
     have A18 := aM A180
     clear A180
     replace H := Option.bind_eq_some_iff.mp H
     obtain ⟨t176, A190, H⟩ := H
     replace H : ((spec_l6Unite.f k1 t173 t176).bind fun t179 => (some t179)) = some r := H
     have A19 := aM A190
     clear A190
     replace H := Option.bind_eq_some_iff.mp H
     obtain ⟨t179, A200, H⟩ := H
     replace H : (some t179) = some r := H
     have A20 := aM A200
     clear A200
     obtain rfl := Option.some.inj H
     obtain ⟨Ao21, co21, eo21⟩ := Kd.R_slice HO_3.out
     subst eo21
     go_wp2_with (first | ((with_reducible refine gate_callee (f := 103) rfl ?_); refine goesL_ (some 36) rfl rfl Try.func103 (by kernel_rfl) rfl #[.slice Ao21 x3_1.length co21] rfl mq ?_; (with_reducible refine (ih k1 (by have := HK1.out; omega) _ _ x3_1 t173 _ ?side1 ?side2 A18.out).mono ?_); (case side1 => exact cq (rR HO_3.out).2.2); (case side2 => exact (rR HO_3.out).2.1); rintro e w22 ⟨v174, rfl, ho0, hb⟩; refine ⟨_, rfl, ?_⟩; have n0_ := aM (rH (rq HO_3.out) (rB ho0) hb); have n1_ := aM (rH (rq HO_4.out) (rB ho0) hb); have n2_ := aM (rG (rW (rW ho0 (rT (rq HO_3.out))) (rT (rq HO_4.out))) (bZ bq)); have n3_ := aM (bT bq hb); clear HO_3 HO_4 HB; have HO_3 := n0_; have HO_4 := n1_; have HO175 := n2_; have HB := n3_; clear n0_ n1_ n2_ n3_; (try clear hb); (try clear ho0); obtain ⟨Ao23, co23, eo23⟩ := Kd.R_slice HO_4.out; subst eo23) | ((with_reducible refine gate_callee (f := 103) rfl ?_); refine goesL_ (some 38) rfl rfl Try.func103 (by kernel_rfl) rfl #[.slice Ao23 x4_1.length co23] rfl mq ?_; (with_reducible refine (ih k1 (by have := HK1.out; omega) _ _ x4_1 t176 _ ?side1 ?side2 A19.out).mono ?_); (case side1 => exact cq (rR HO_4.out).2.2); (case side2 => exact (rR HO_4.out).2.1); rintro e w24 ⟨v177, rfl, ho0, hb⟩; refine ⟨_, rfl, ?_⟩; have n0_ := aM (rH (rq HO_3.out) (rB ho0) hb); have n1_ := aM (rH (rq HO_4.out) (rB ho0) hb); have n2_ := aM (rH (rq HO175.out) (rB ho0) hb); have n3_ := aM (rG (rW (rW (rW ho0 (rT (rq HO_3.out))) (rT (rq HO_4.out))) (rT (rq HO175.out))) (bZ bq)); have n4_ := aM (bT bq hb); clear HO_3 HO_4 HO175 HB; have HO_3 := n0_; have HO_4 := n1_; have HO175 := n2_; have HO178 := n3_; have HB := n4_; clear n0_ n1_ n2_ n3_ n4_; (try clear hb); (try clear ho0); obtain ⟨Ao25, co25, eo25⟩ := Kd.R_slice HO175.out; subst eo25; obtain ⟨Ao26, co26, eo26⟩ := Kd.R_slice HO178.out; subst eo26) | ((with_reducible refine gate_callee (f := 132) rfl ?_); refine goesL_ (some 39) rfl rfl Try.func132 (by kernel_rfl) rfl #[.slice Ao25 t173.length co25, .slice Ao26 t176.length co26] rfl mq ?_; (with_reducible refine (spec_l6Unite.calls k1 (fun k_ => some k_ = (.slice Ao25 t173.length co25 : Value).ownBlock) _ _ t173 _ _ t176 t179 _ ?side1 ?side2 ?side3 A20.out).mono ?_); (case side1 => exact Kd.R_V (Kd.R_tight rfl (HO175.out))); (case side2 => exact cq (rR HO178.out).2.2); (case side3 => exact (rR HO178.out).2.1); rintro e w27 ⟨v180, rfl, ho0, hb⟩; refine ⟨_, rfl, ?_⟩; have n0_ := aM (rH (rq HO_3.out) (rB ho0) hb); have n1_ := aM (rH (rq HO_4.out) (rB ho0) hb); have n2_ := aM (rH (rq HO175.out) (rB ho0) hb); have n3_ := aM (rH (rq HO178.out) (rB ho0) hb); have n4_ := aM (rG (rW (rW (rW (rW (rM (ok' := fun k_ => True) ho0 (fun _ hk_ => trivial)) (rT (rq HO_3.out))) (rT (rq HO_4.out))) (rT (rq HO175.out))) (rT (rq HO178.out))) (bZ bq)); have n5_ := aM (bT bq hb); clear HO_3 HO_4 HO175 HO178 HB; have HO_3 := n0_; have HO_4 := n1_; have HO175 := n2_; have HO178 := n3_; have HO181 := n4_; have HB := n5_; clear n0_ n1_ n2_ n3_ n4_ n5_; (try clear hb); (try clear ho0)))
     go_ret
     exact ⟨_, by first | rfl | (simp [errW_none, errW_some] <;> rfl) | (simp [*, errW_none, errW_some] <;> rfl), by (with_reducible repeat (first | apply rA | apply rN | apply rD)); exact rM HO181.out (fun _ hk => trivial), bq⟩

/-! ### spec_l5Turn: function 134 -/
def spec_l5Turn.f (a0 : Int) (a1 : Int) (a2 : Int) (a3 : Int) : Option (Int × Int) := (spec_l5P.f a0 a1).bind fun t182 => ((spec_l1Ten.f (wrap64 (t182 * a3))).bind fun t183 => ((spec_l5U.f a0 a1).bind fun t184 => ((spec_l1Ten.f (wrap64 (t184 * (wrap64 (a2 - t183))))).bind fun t185 => ((spec_l5P.f a0 a1).bind fun t186 => ((spec_l1Ten.f (wrap64 (t186 * (wrap64 (a3 + t185))))).bind fun t187 => (some (wrap64 ((wrap64 (a2 - t183)) - t187), wrap64 (a3 + t185))))))))
set_option maxHeartbeats 8000000 in
set_option maxRecDepth 100000 in
theorem spec_l5Turn.calls (a0 : Int) (a1 : Int) (a2 : Int) (a3 : Int) (r1 : Int) (r2 : Int) (w : World) (h : spec_l5Turn.f a0 a1 a2 a3 = some (r1, r2)) :
  Calls Try.prog 134 #[.int .i64 a0, .int .i64 a1, .int .i64 a2, .int .i64 a3] w fun e w' => e = .returned (.tuple #[.int .i64 r1, .int .i64 r2]) ∧ Below w.heap.size w w' := by
 have HB := aM (Below.refl w.heap.size w)
 have H : ((spec_l5P.f a0 a1).bind fun t182 => ((spec_l1Ten.f (wrap64 (t182 * a3))).bind fun t183 => ((spec_l5U.f a0 a1).bind fun t184 => ((spec_l1Ten.f (wrap64 (t184 * (wrap64 (a2 - t183))))).bind fun t185 => ((spec_l5P.f a0 a1).bind fun t186 => ((spec_l1Ten.f (wrap64 (t186 * (wrap64 (a3 + t185))))).bind fun t187 => (some (wrap64 ((wrap64 (a2 - t183)) - t187), wrap64 (a3 + t185))))))))) = some (r1, r2) := h
 clear h
 replace H := Option.bind_eq_some_iff.mp H
 obtain ⟨t182, A50, H⟩ := H
 replace H : ((spec_l1Ten.f (wrap64 (t182 * a3))).bind fun t183 => ((spec_l5U.f a0 a1).bind fun t184 => ((spec_l1Ten.f (wrap64 (t184 * (wrap64 (a2 - t183))))).bind fun t185 => ((spec_l5P.f a0 a1).bind fun t186 => ((spec_l1Ten.f (wrap64 (t186 * (wrap64 (a3 + t185))))).bind fun t187 => (some (wrap64 ((wrap64 (a2 - t183)) - t187), wrap64 (a3 + t185)))))))) = some (r1, r2) := H
 have A5 := aM A50
 clear A50
 replace H := Option.bind_eq_some_iff.mp H
 obtain ⟨t183, A60, H⟩ := H
 replace H : ((spec_l5U.f a0 a1).bind fun t184 => ((spec_l1Ten.f (wrap64 (t184 * (wrap64 (a2 - t183))))).bind fun t185 => ((spec_l5P.f a0 a1).bind fun t186 => ((spec_l1Ten.f (wrap64 (t186 * (wrap64 (a3 + t185))))).bind fun t187 => (some (wrap64 ((wrap64 (a2 - t183)) - t187), wrap64 (a3 + t185))))))) = some (r1, r2) := H
 have A6 := aM A60
 clear A60
 replace H := Option.bind_eq_some_iff.mp H
 obtain ⟨t184, A70, H⟩ := H
 replace H : ((spec_l1Ten.f (wrap64 (t184 * (wrap64 (a2 - t183))))).bind fun t185 => ((spec_l5P.f a0 a1).bind fun t186 => ((spec_l1Ten.f (wrap64 (t186 * (wrap64 (a3 + t185))))).bind fun t187 => (some (wrap64 ((wrap64 (a2 - t183)) - t187), wrap64 (a3 + t185)))))) = some (r1, r2) := H
 have A7 := aM A70
 clear A70
 replace H := Option.bind_eq_some_iff.mp H
 obtain ⟨t185, A80, H⟩ := H
 replace H : ((spec_l5P.f a0 a1).bind fun t186 => ((spec_l1Ten.f (wrap64 (t186 * (wrap64 (a3 + t185))))).bind fun t187 => (some (wrap64 ((wrap64 (a2 - t183)) - t187), wrap64 (a3 + t185))))) = some (r1, r2) := H
 have A8 := aM A80
 clear A80
 replace H := Option.bind_eq_some_iff.mp H
 obtain ⟨t186, A90, H⟩ := H
 replace H : ((spec_l1Ten.f (wrap64 (t186 * (wrap64 (a3 + t185))))).bind fun t187 => (some (wrap64 ((wrap64 (a2 - t183)) - t187), wrap64 (a3 + t185)))) = some (r1, r2) := H
 have A9 := aM A90
 clear A90
 replace H := Option.bind_eq_some_iff.mp H
 obtain ⟨t187, A100, H⟩ := H
 replace H : (some (wrap64 ((wrap64 (a2 - t183)) - t187), wrap64 (a3 + t185))) = some (r1, r2) := H
 have A10 := aM A100
 clear A100
 simp only [Option.some.injEq, Prod.mk.injEq] at H
 obtain ⟨rfl, rfl⟩ := H
 go_enter Try.func134, Try.ntmps134
 go_wp2_with (first | ((with_reducible refine gate_callee (f := 146) rfl ?_); refine goesL_ (some 15) rfl rfl Try.func146 (by kernel_rfl) rfl #[.int .i64 a0, .int .i64 a1] rfl mq ?_; (with_reducible refine (spec_l5P.calls a0 a1 t182 _ A5.out).mono ?_); rintro e w' ⟨rfl, ⟨nd, rfl⟩⟩; refine ⟨_, rfl, ?_⟩) | ((with_reducible refine gate_callee (f := 149) rfl ?_); refine goesL_ (some 18) rfl rfl Try.func149 (by kernel_rfl) rfl #[.int .i64 (wrap64 (t182 * a3))] rfl mq ?_; (with_reducible refine (spec_l1Ten.calls (wrap64 (t182 * a3)) t183 _ A6.out).mono ?_); rintro e w' ⟨rfl, ⟨nd, rfl⟩⟩; refine ⟨_, rfl, ?_⟩) | ((with_reducible refine gate_callee (f := 147) rfl ?_); refine goesL_ (some 23) rfl rfl Try.func147 (by kernel_rfl) rfl #[.int .i64 a0, .int .i64 a1] rfl mq ?_; (with_reducible refine (spec_l5U.calls a0 a1 t184 _ A7.out).mono ?_); rintro e w' ⟨rfl, ⟨nd, rfl⟩⟩; refine ⟨_, rfl, ?_⟩) | ((with_reducible refine gate_callee (f := 149) rfl ?_); refine goesL_ (some 26) rfl rfl Try.func149 (by kernel_rfl) rfl #[.int .i64 (wrap64 (t184 * (wrap64 (a2 - t183))))] rfl mq ?_; (with_reducible refine (spec_l1Ten.calls (wrap64 (t184 * (wrap64 (a2 - t183)))) t185 _ A8.out).mono ?_); rintro e w' ⟨rfl, ⟨nd, rfl⟩⟩; refine ⟨_, rfl, ?_⟩) | ((with_reducible refine gate_callee (f := 146) rfl ?_); refine goesL_ (some 31) rfl rfl Try.func146 (by kernel_rfl) rfl #[.int .i64 a0, .int .i64 a1] rfl mq ?_; (with_reducible refine (spec_l5P.calls a0 a1 t186 _ A9.out).mono ?_); rintro e w' ⟨rfl, ⟨nd, rfl⟩⟩; refine ⟨_, rfl, ?_⟩) | ((with_reducible refine gate_callee (f := 149) rfl ?_); refine goesL_ (some 34) rfl rfl Try.func149 (by kernel_rfl) rfl #[.int .i64 (wrap64 (t186 * (wrap64 (a3 + t185))))] rfl mq ?_; (with_reducible refine (spec_l1Ten.calls (wrap64 (t186 * (wrap64 (a3 + t185)))) t187 _ A10.out).mono ?_); rintro e w' ⟨rfl, ⟨nd, rfl⟩⟩; refine ⟨_, rfl, ?_⟩))
 go_ret2
 exact ⟨by first | rfl | (simp [errW_none, errW_some] <;> rfl) | (simp [*, errW_none, errW_some] <;> rfl), bq⟩

/-! ### spec_l7Seam: function 104 -/
def spec_l7Seam.l0 : Nat → Int → List Int → List Int → Bool → Int → List Int → List Int → Int → Option (List Int × List Int)
 | 0, _, _, _, _, _, _, _, _ => none
 | k + 1, x0, x1, x2, x3, x10, x11, x12, x13 => if x13 < x10 then (if x3 = true then (if 0 ≤ (wrap64 ((wrap64 (x10 - 1)) - x13)) then (if (wrap64 ((wrap64 (x10 - 1)) - x13)) < (x1.length : Int) then (if 0 ≤ x13 then (if x13 < (x2.length : Int) then ((spec_l5Back.f x0 x13 (rd x1 (wrap64 ((wrap64 (x10 - 1)) - x13))) (rd x2 x13)).bind fun bt196 => (if (wrap64 ((wrap64 (x10 - 1)) - x13)) < (x11.length : Int) then (if x13 < (x12.length : Int) then (spec_l7Seam.l0 k x0 x1 x2 x3 x10 (x11.set ((wrap64 ((wrap64 (x10 - 1)) - x13)) : Int).toNat bt196.1) (x12.set (x13 : Int).toNat bt196.2) (wrap64 (x13 + 1))) else (none)) else (none))) else (none)) else (none)) else (none)) else (none)) else (if 0 ≤ (wrap64 ((wrap64 (x10 - 1)) - x13)) then (if (wrap64 ((wrap64 (x10 - 1)) - x13)) < (x1.length : Int) then (if 0 ≤ x13 then (if x13 < (x2.length : Int) then ((spec_l5Turn.f x0 x13 (rd x1 (wrap64 ((wrap64 (x10 - 1)) - x13))) (rd x2 x13)).bind fun bt202 => (if (wrap64 ((wrap64 (x10 - 1)) - x13)) < (x11.length : Int) then (if x13 < (x12.length : Int) then (spec_l7Seam.l0 k x0 x1 x2 x3 x10 (x11.set ((wrap64 ((wrap64 (x10 - 1)) - x13)) : Int).toNat bt202.1) (x12.set (x13 : Int).toNat bt202.2) (wrap64 (x13 + 1))) else (none)) else (none))) else (none)) else (none)) else (none)) else (none))) else (some (x11, x12))
def spec_l7Seam.f (k : Nat) (a0 : Int) (l1 : List Int) (l2 : List Int) (a3 : Bool) : Option (List Int × List Int) := (spec_l1Zeros.f (wrap64 (Int.tdiv a0 2))).bind fun t188 => ((spec_l1Zeros.f (wrap64 (Int.tdiv a0 2))).bind fun t191 => (spec_l7Seam.l0 k a0 l1 l2 a3 (wrap64 (Int.tdiv a0 2)) t188 t191 0))
theorem spec_l7Seam.mono_l : ∀ k, (∀ y0 y1 y2 y3 y4 y5 y6 y7, LeO (spec_l7Seam.l0 k y0 y1 y2 y3 y4 y5 y6 y7) (spec_l7Seam.l0 (k + 1) y0 y1 y2 y3 y4 y5 y6 y7))
 | 0 => fun _ _ _ _ _ _ _ _ r h => by simp [spec_l7Seam.l0] at h
 | k + 1 => by
  have ih0 := spec_l7Seam.mono_l k
  ·intro y0 y1 y2 y3 y4 y5 y6 y7
   unfold spec_l7Seam.l0
   repeat' first
   | (with_reducible exact ih0 _ _ _ _ _ _ _ _)
   | (with_reducible exact LeO.refl _)
   | (with_reducible exact LeO.none _)
   | (with_reducible refine LeO.ite ?_ ?_)
   | (with_reducible refine LeO.bind ?_ (fun _ => ?_))
   | exact ih0 _ _ _ _ _ _ _ _
   | exact LeO.none _
   | refine LeO.ite ?_ ?_
   | refine LeO.bind ?_ (fun _ => ?_)
theorem spec_l7Seam.mono : ∀ a0 a1 a2 a3 k, LeO (spec_l7Seam.f k a0 a1 a2 a3) (spec_l7Seam.f (k + 1) a0 a1 a2 a3) := by
 intro a0 a1 a2 a3 k
 have ih0 := spec_l7Seam.mono_l k
 unfold spec_l7Seam.f
 repeat' first
   | (with_reducible exact ih0 _ _ _ _ _ _ _ _)
   | (with_reducible exact LeO.refl _)
   | (with_reducible exact LeO.none _)
   | (with_reducible refine LeO.ite ?_ ?_)
   | (with_reducible refine LeO.bind ?_ (fun _ => ?_))
   | exact ih0 _ _ _ _ _ _ _ _
   | exact LeO.none _
   | refine LeO.ite ?_ ?_
   | refine LeO.bind ?_ (fun _ => ?_)
def spec_l7Seam.T9 : Bool × List (List Nat × List Nat) := (true, [([], []), ([], []), ([], []), ([], []), ([3], [3]), ([], []), ([4, 5], [4, 5]), ([2, 6], [2, 6]), ([7], [7]), ([], []), ([], []), ([9, 10], [9, 10]), ([11], [11]), ([0, 1, 8, 12], [0, 1, 8, 12]), ([13], [13]), ([14], [14]), ([14], [14]), ([15, 13, 0, 1, 2, 3, 4, 5, 6, 7, 8, 9, 10, 11, 12, 13, 14, 15], [15]), ([16, 17, 0, 1, 2, 3, 4, 5, 6, 7, 8, 9, 10, 11, 12, 13, 14, 15, 16, 17], [16])])
def spec_l7Seam.B9 : List Nat := [0, 0, 0, 0, 8, 0, 56, 124, 252, 0, 0, 1536, 3584, 8191, 16383, 32767, 32767, 65535, 262143]
theorem spec_l7Seam.tab9 : rtab .any (opsOf Try.f104 9) = spec_l7Seam.T9 := by kernel_rfl
theorem spec_l7Seam.bits9 : waitsOk spec_l7Seam.T9.2 spec_l7Seam.B9 = true := by kernel_rfl
def spec_l7Seam.T10 : Bool × List (List Nat × List Nat) := (true, [([], []), ([], []), ([], []), ([], []), ([3], [3]), ([], []), ([4, 5], [4, 5]), ([2, 6], [2, 6]), ([7], [7]), ([], []), ([], []), ([9, 10], [9, 10]), ([11], [11]), ([0, 1, 8, 12], [0, 1, 8, 12]), ([13], [13]), ([14], [14]), ([14], [14]), ([15, 13, 0, 1, 2, 3, 4, 5, 6, 7, 8, 9, 10, 11, 12, 13, 14, 15], [15]), ([16, 17, 0, 1, 2, 3, 4, 5, 6, 7, 8, 9, 10, 11, 12, 13, 14, 15, 16, 17], [16])])
def spec_l7Seam.B10 : List Nat := [0, 0, 0, 0, 8, 0, 56, 124, 252, 0, 0, 1536, 3584, 8191, 16383, 32767, 32767, 65535, 262143]
theorem spec_l7Seam.tab10 : rtab .any (opsOf Try.f104 10) = spec_l7Seam.T10 := by kernel_rfl
theorem spec_l7Seam.bits10 : waitsOk spec_l7Seam.T10.2 spec_l7Seam.B10 = true := by kernel_rfl
set_option maxHeartbeats 8000000 in
set_option maxRecDepth 100000 in
theorem spec_l7Seam.calls (k : Nat) (a0 : Int) (A1 : Option Addr) (c1 : Nat) (l1 : List Int) (A2 : Option Addr) (c2 : Nat) (l2 : List Int) (a3 : Bool) (r1 : List Int) (r2 : List Int) (w : World) (hr1 : Kd.C (Kd.int .i64) w A1 l1.length l1) (hc1 : l1.length ≤ c1) (hr2 : Kd.C (Kd.int .i64) w A2 l2.length l2) (hc2 : l2.length ≤ c2) (h : spec_l7Seam.f k a0 l1 l2 a3 = some (r1, r2)) :
  Calls Try.prog 104 #[.int .i64 a0, .slice A1 l1.length c1, .slice A2 l2.length c2, .bool a3] w fun e w' => ∃ v0_ v1_ : Value, e = .returned (.tuple #[v0_, v1_]) ∧ Kd.R (Kd.int .i64) 2 w' w.heap.size (fun k_ => some k_ ≠ (v1_ : Value).ownBlock) v0_ r1 ∧ Kd.R (Kd.int .i64) 2 w' w.heap.size (fun k_ => some k_ ≠ (v0_ : Value).ownBlock) v1_ r2 ∧ Below w.heap.size w w' := by
 have HR1 := aM hr1
 have HC1 := aM hc1
 clear hr1 hc1
 have HR2 := aM hr2
 have HC2 := aM hc2
 clear hr2 hc2
 have HB := aM (Below.refl w.heap.size w)
 have H : ((spec_l1Zeros.f (wrap64 (Int.tdiv a0 2))).bind fun t188 => ((spec_l1Zeros.f (wrap64 (Int.tdiv a0 2))).bind fun t191 => (spec_l7Seam.l0 k a0 l1 l2 a3 (wrap64 (Int.tdiv a0 2)) t188 t191 0))) = some (r1, r2) := h
 clear h
 replace H := Option.bind_eq_some_iff.mp H
 obtain ⟨t188, A50, H⟩ := H
 replace H : ((spec_l1Zeros.f (wrap64 (Int.tdiv a0 2))).bind fun t191 => (spec_l7Seam.l0 k a0 l1 l2 a3 (wrap64 (Int.tdiv a0 2)) t188 t191 0)) = some (r1, r2) := H
 have A5 := aM A50
 clear A50
 replace H := Option.bind_eq_some_iff.mp H
 obtain ⟨t191, A60, H⟩ := H
 replace H : (spec_l7Seam.l0 k a0 l1 l2 a3 (wrap64 (Int.tdiv a0 2)) t188 t191 0) = some (r1, r2) := H
 have A6 := aM A60
 clear A60
 have H' := aM H
 clear H
 go_enter Try.func104, Try.ntmps104
 go_wp2_with (first | ((with_reducible refine gate_callee (f := 127) rfl ?_); refine goesL_ (some 19) rfl rfl Try.func127 (by kernel_rfl) rfl #[.int .i64 (wrap64 (Int.tdiv a0 2))] rfl mq ?_; (with_reducible refine (spec_l1Zeros.calls (wrap64 (Int.tdiv a0 2)) t188 _ A5.out).mono ?_); rintro e w7 ⟨v189, rfl, ho0, hb⟩; refine ⟨_, rfl, ?_⟩; have n0_ := aM (rG ho0 (bZ bq)); have n1_ := aM (bT bq hb); clear HB; have HO190 := n0_; have HB := n1_; clear n0_ n1_; (try clear hb); (try clear ho0)) | ((with_reducible refine gate_callee (f := 127) rfl ?_); refine goesL_ (some 21) rfl rfl Try.func127 (by kernel_rfl) rfl #[.int .i64 (wrap64 (Int.tdiv a0 2))] rfl mq ?_; (with_reducible refine (spec_l1Zeros.calls (wrap64 (Int.tdiv a0 2)) t191 _ A6.out).mono ?_); rintro e w8 ⟨v192, rfl, ho0, hb⟩; refine ⟨_, rfl, ?_⟩; have n0_ := aM (rH (rq HO190.out) (rB ho0) hb); have n1_ := aM (rG (rW ho0 (rT (rq HO190.out))) (bZ bq)); have n2_ := aM (bT bq hb); clear HO190 HB; have HO190 := n0_; have HO193 := n1_; have HB := n2_; clear n0_ n1_ n2_; (try clear hb); (try clear ho0)))
 go_loopg [13] k (fun kq v13 w' => ∃ (x11_1 : List Int) (x12_1 : List Int) (x13_1 : Int), v13 = .int .i64 x13_1 ∧ Aside0 (spec_l7Seam.l0 kq a0 l1 l2 a3 (wrap64 (Int.tdiv a0 2)) x11_1 x12_1 x13_1 = some (r1, r2)) ∧ Aside0 (kq ≤ k) ∧ Aside0 (Kd.R (Kd.int .i64) 2 w' w.heap.size (fun k_ => some k_ ≠ (v192 : Value).ownBlock) v189 x11_1) ∧ Aside0 (Kd.R (Kd.int .i64) 2 w' w.heap.size (fun k_ => some k_ ≠ (v189 : Value).ownBlock) v192 x12_1) ∧ Aside0 (Below w.heap.size w w'))
 case atStart => exact ⟨(t188), (t191), (0), (by first | rfl | (simp; done) | (simp [*]; done)), H', ⟨Nat.le_refl _⟩, ⟨by (with_reducible repeat (first | apply rA | apply rN | apply rD)); exact rM HO190.out (fun _ hk => hk.2)⟩, ⟨by (with_reducible repeat (first | apply rA | apply rN | apply rD)); exact rM HO193.out (fun _ hk => hk.2)⟩, ⟨bq⟩⟩
 case round =>
  clear H'
  try clear c1
  try clear c2
  try clear p2
  try clear p6
  obtain ⟨x11_1, x12_1, x13_1, rfl, HA, HK1, HO_11, HO_12, HB⟩ := hrel
  cases gk with
  | zero => exact absurd HA.out (by simp [spec_l7Seam.l0])
  | succ k1 =>
   have H := HA.out
   clear HA
   simp only [spec_l7Seam.l0] at H
   by_cases c9 : x13_1 < (wrap64 (Int.tdiv a0 2))
   ·rw [if_pos c9] at H
    have c9b0 : decide (x13_1 < (wrap64 (Int.tdiv a0 2))) = true := decide_eq_true c9
    clear c9
    by_cases c10 : a3 = true
    ·subst c10
     have H1 : (if 0 ≤ (wrap64 ((wrap64 ((wrap64 (Int.tdiv a0 2)) - 1)) - x13_1)) then (if (wrap64 ((wrap64 ((wrap64 (Int.tdiv a0 2)) - 1)) - x13_1)) < (l1.length : Int) then (if 0 ≤ x13_1 then (if x13_1 < (l2.length : Int) then ((spec_l5Back.f a0 x13_1 (rd l1 (wrap64 ((wrap64 ((wrap64 (Int.tdiv a0 2)) - 1)) - x13_1))) (rd l2 x13_1)).bind fun bt196 => (if (wrap64 ((wrap64 ((wrap64 (Int.tdiv a0 2)) - 1)) - x13_1)) < (x11_1.length : Int) then (if x13_1 < (x12_1.length : Int) then (spec_l7Seam.l0 k1 a0 l1 l2 true (wrap64 (Int.tdiv a0 2)) (x11_1.set ((wrap64 ((wrap64 ((wrap64 (Int.tdiv a0 2)) - 1)) - x13_1)) : Int).toNat bt196.1) (x12_1.set (x13_1 : Int).toNat bt196.2) (wrap64 (x13_1 + 1))) else (none)) else (none))) else (none)) else (none)) else (none)) else (none)) = some (r1, r2) := by rw [if_pos rfl] at H; exact H
     clear H
     have H := H1
     clear H1
     obtain ⟨ji11, hji11⟩ : ∃ j_ : Int, (wrap64 ((wrap64 ((wrap64 (Int.tdiv a0 2)) - 1)) - x13_1)) = j_ := ⟨_, rfl⟩
     replace H : (if 0 ≤ (ji11) then (if (ji11) < (l1.length : Int) then (if 0 ≤ x13_1 then (if x13_1 < (l2.length : Int) then ((spec_l5Back.f a0 x13_1 (rd l1 (ji11)) (rd l2 x13_1)).bind fun bt196 => (if (ji11) < (x11_1.length : Int) then (if x13_1 < (x12_1.length : Int) then (spec_l7Seam.l0 k1 a0 l1 l2 true (wrap64 (Int.tdiv a0 2)) (x11_1.set ((ji11) : Int).toNat bt196.1) (x12_1.set (x13_1 : Int).toNat bt196.2) (wrap64 (x13_1 + 1))) else (none)) else (none))) else (none)) else (none)) else (none)) else (none)) = some (r1, r2) := by first | (rw [hji11] at H; exact H) | (simp only [hji11] at H ⊢; exact H)
     have hji11w : (IntKind.i64.wrap ((wrap64 ((wrap64 (Int.tdiv a0 2)) - 1)) - x13_1)) = ji11 := (i64_w _).trans hji11
     by_cases c12 : 0 ≤ (ji11)
     ·rw [if_pos c12] at H
      have c12b0 : decide (0 ≤ (ji11)) = true := decide_eq_true c12
      clear c12
      by_cases c13 : (ji11) < (l1.length : Int)
      ·rw [if_pos c13] at H
       have c13b0 : decide ((ji11) < (l1.length : Int)) = true := decide_eq_true c13
       clear c13
       by_cases c14 : 0 ≤ x13_1
       ·rw [if_pos c14] at H
        have c14b0 : decide (0 ≤ x13_1) = true := decide_eq_true c14
        clear c14
        by_cases c15 : x13_1 < (l2.length : Int)
        ·rw [if_pos c15] at H
         have c15b0 : decide (x13_1 < (l2.length : Int)) = true := decide_eq_true c15
         clear c15
         replace H := Option.bind_eq_some_iff.mp H
         obtain ⟨⟨t196, t197⟩, A160, H⟩ := H
         replace H : (if (ji11) < (x11_1.length : Int) then (if x13_1 < (x12_1.length : Int) then (spec_l7Seam.l0 k1 a0 l1 l2 true (wrap64 (Int.tdiv a0 2)) (x11_1.set ((ji11) : Int).toNat t196) (x12_1.set (x13_1 : Int).toNat t197) (wrap64 (x13_1 + 1))) else (none)) else (none)) = some (r1, r2) := H
         have A16 := aM A160
         clear A160
         by_cases c17 : (ji11) < (x11_1.length : Int)
         ·rw [if_pos c17] at H
          have c17b0 : decide ((ji11) < (x11_1.length : Int)) = true := decide_eq_true c17
          clear c17
          obtain ⟨y198, hy198⟩ : ∃ y_ : List Int, y_ = (x11_1.set ((ji11) : Int).toNat t196) := ⟨_, rfl⟩
          replace H : (if x13_1 < (x12_1.length : Int) then (spec_l7Seam.l0 k1 a0 l1 l2 true (wrap64 (Int.tdiv a0 2)) y198 (x12_1.set (x13_1 : Int).toNat t197) (wrap64 (x13_1 + 1))) else (none)) = some (r1, r2) := by first | (rw [hy198]; with_reducible exact H) | (have H2_ := (Option.bind_some _ _).symm.trans H; rw [hy198]; with_reducible exact H2_) | (have H2_ := (Option.bind_some _ _).symm.trans H; with_reducible exact H2_) | with_reducible exact H | (rw [hy198]; exact H) | exact H
          have Ny198 := aM hy198
          clear hy198
          by_cases c19 : x13_1 < (x12_1.length : Int)
          ·rw [if_pos c19] at H
           have c19b0 : decide (x13_1 < (x12_1.length : Int)) = true := decide_eq_true c19
           clear c19
           obtain ⟨y199, hy199⟩ : ∃ y_ : List Int, y_ = (x12_1.set (x13_1 : Int).toNat t197) := ⟨_, rfl⟩
           replace H : (spec_l7Seam.l0 k1 a0 l1 l2 true (wrap64 (Int.tdiv a0 2)) y198 y199 (wrap64 (x13_1 + 1))) = some (r1, r2) := by first | (rw [hy199]; with_reducible exact H) | (have H2_ := (Option.bind_some _ _).symm.trans H; rw [hy199]; with_reducible exact H2_) | (have H2_ := (Option.bind_some _ _).symm.trans H; with_reducible exact H2_) | with_reducible exact H | (rw [hy199]; exact H) | exact H
           have Ny199 := aM hy199
           clear hy199
           have H' := aM H
           clear H
           try go_wp2
           have n0_ := aM (rD HO_11.out)
           have n1_ := aM (rD HO_12.out)
           have n2_ := aM (bD HB.out)
           clear HO_11
           clear HO_12
           clear HB
           have HO_11 := n0_
           have HO_12 := n1_
           have HB := n2_
           clear n0_ n1_ n2_
           have p194 : 0 ≤ ((ji11) : Int) := of_decide_eq_true (by first | (with_reducible assumption) | assumption)
           have q194 : (ji11) < (l1.length : Int) := of_decide_eq_true (by first | (with_reducible assumption) | assumption)
           obtain ⟨ad194, e194, hx194_0⟩ := Kd.at_int HR1.out (ji11) p194 q194
           have hw194_0 := hx194_0
           cases e194
           replace hx194_0 := (HB.out.cell (World.block_lt_of_cell? w _ hx194_0)).trans hx194_0
           replace p194 := eq_true p194
           replace q194 := eq_true q194
           have p195 : 0 ≤ (x13_1 : Int) := of_decide_eq_true (by first | (with_reducible assumption) | assumption)
           have q195 : x13_1 < (l2.length : Int) := of_decide_eq_true (by first | (with_reducible assumption) | assumption)
           obtain ⟨ad195, e195, hx195_0⟩ := Kd.at_int HR2.out x13_1 p195 q195
           have hw195_0 := hx195_0
           cases e195
           replace hx195_0 := (HB.out.cell (World.block_lt_of_cell? w _ hx195_0)).trans hx195_0
           replace p195 := eq_true p195
           replace q195 := eq_true q195
           refine start_ (n := 19) (S := fun w' => w'.cell? (ad194.add ((ji11)).toNat) = some (.int .i64 (rd l1 (ji11))) ∧ w'.cell? (ad195.add (x13_1).toNat) = some (.int .i64 (rd l2 x13_1))) (ds := []) #[N,N,N,N,N,N,N,N,N,N,N,N,N,N,N,N,N,N,N] (by kernel_rfl) rfl rfl ⟨((HB.out.cell (World.block_lt_of_cell? w _ hw194_0)).trans hw194_0), ((HB.out.cell (World.block_lt_of_cell? w _ hw195_0)).trans hw195_0)⟩ (fun hHeld => ?_); refine with_tabW spec_l7Seam.tab9 spec_l7Seam.bits9 (fun HT_ HW_ => ?_)
           generalize wr.drew = w21 at HO_11 HO_12 HB hx194_0 hx195_0 hHeld ⊢
           refine pure_ (i := 0) (N := some 29) (v := ?_) (a' := ?_) #[Y,N,N,N,N,N,N,N,N,N,N,N,N,N,N,N,N,N,N] rfl rfl (any_of HT_.out (by kernel_rfl)) (fun _ _ _ h => h) (Or.inl ⟨by rfl, ?_⟩) ?_ ?_
           rotate_left
           ·intro w'
            go_simp
            with_reducible rfl
           rotate_left
           ·simp only [Act.put, pa, pb, pc, i64_w, i32_w]
            rfl
           refine pure_ (i := 1) (N := some 30) (v := ?_) (a' := ?_) #[Y,Y,N,N,N,N,N,N,N,N,N,N,N,N,N,N,N,N,N] rfl rfl (any_of HT_.out (by kernel_rfl)) (fun _ _ _ h => h) (Or.inl ⟨by rfl, ?_⟩) ?_ ?_
           rotate_left
           ·intro w'
            go_simp
            with_reducible rfl
           rotate_left
           ·simp only [Act.put, pa, pb, pc, i64_w, i32_w]
            rfl
           refine pure_ (i := 2) (N := some 31) (v := ?_) (a' := ?_) #[Y,Y,Y,N,N,N,N,N,N,N,N,N,N,N,N,N,N,N,N] rfl rfl (any_of HT_.out (by kernel_rfl)) (fun _ _ _ h => h) (Or.inl ⟨by rfl, ?_⟩) ?_ ?_
           rotate_left
           ·intro w'
            go_simp
            with_reducible rfl
           rotate_left
           ·simp only [Act.put, pa, pb, pc, i64_w, i32_w]
            rfl
           refine pure_ (i := 3) (N := some 32) (v := ?_) (a' := ?_) #[Y,Y,Y,Y,N,N,N,N,N,N,N,N,N,N,N,N,N,N,N] rfl rfl (any_of HT_.out (by kernel_rfl)) (fun _ _ _ h => h) (Or.inl ⟨by rfl, ?_⟩) ?_ ?_
           rotate_left
           ·intro w'
            go_simp
            with_reducible rfl
           rotate_left
           ·simp only [Act.put, pa, pb, pc, i64_w, i32_w]
            rfl
           refine pure_ (i := 4) (N := some 33) (v := ?_) (a' := ?_) #[Y,Y,Y,Y,Y,N,N,N,N,N,N,N,N,N,N,N,N,N,N] rfl rfl (any_of HT_.out (by kernel_rfl)) (fun _ _ _ h => h) (Or.inl ⟨by rfl, ?_⟩) ?_ ?_
           rotate_left
           ·intro w'
            go_simp
            with_reducible rfl
           rotate_left
           ·simp only [Act.put, pa, pb, pc, i64_w, i32_w]
            rfl
           refine pure_ (i := 5) (N := some 34) (v := ?_) (a' := ?_) #[Y,Y,Y,Y,Y,Y,N,N,N,N,N,N,N,N,N,N,N,N,N] rfl rfl (any_of HT_.out (by kernel_rfl)) (fun _ _ _ h => h) (Or.inl ⟨by rfl, ?_⟩) ?_ ?_
           rotate_left
           ·intro w'
            go_simp
            with_reducible rfl
           rotate_left
           ·simp only [Act.put, pa, pb, pc, i64_w, i32_w]
            rfl
           refine pure_ (i := 6) (N := some 35) (v := ?_) (a' := ?_) #[Y,Y,Y,Y,Y,Y,Y,N,N,N,N,N,N,N,N,N,N,N,N] rfl rfl (any_of HT_.out (by kernel_rfl)) (fun _ _ _ h => h) (Or.inl ⟨by rfl, ?_⟩) ?_ ?_
           rotate_left
           ·intro w'
            go_simp
            with_reducible rfl
           rotate_left
           ·simp only [Act.put, pa, pb, pc, i64_w, i32_w]
            rfl
           refine pure_ (i := 7) (N := some 36) (v := ?_) (a' := ?_) #[Y,Y,Y,Y,Y,Y,Y,Y,N,N,N,N,N,N,N,N,N,N,N] rfl rfl (any_of HT_.out (by kernel_rfl)) (fun _ _ _ h => h) (Or.inl ⟨by rfl, ?_⟩) ?_ ?_
           rotate_left
           ·intro w'
            go_simp
            with_reducible rfl
           rotate_left
           ·simp only [Act.put, pa, pb, pc, i64_w, i32_w]
            rfl
           refine pure_ (i := 9) (N := some 38) (v := ?_) (a' := ?_) #[Y,Y,Y,Y,Y,Y,Y,Y,N,Y,N,N,N,N,N,N,N,N,N] rfl rfl (any_of HT_.out (by kernel_rfl)) (fun _ _ _ h => h) (Or.inl ⟨by rfl, ?_⟩) ?_ ?_
           rotate_left
           ·intro w'
            go_simp
            with_reducible rfl
           rotate_left
           ·simp only [Act.put, pa, pb, pc, i64_w, i32_w]
            rfl
           refine pure_ (i := 10) (N := some 39) (v := ?_) (a' := ?_) #[Y,Y,Y,Y,Y,Y,Y,Y,N,Y,Y,N,N,N,N,N,N,N,N] rfl rfl (any_of HT_.out (by kernel_rfl)) (fun _ _ _ h => h) (Or.inl ⟨by rfl, ?_⟩) ?_ ?_
           rotate_left
           ·intro w'
            go_simp
            with_reducible rfl
           rotate_left
           ·simp only [Act.put, pa, pb, pc, i64_w, i32_w]
            rfl
           refine pure_ (i := 11) (N := some 40) (v := ?_) (a' := ?_) #[Y,Y,Y,Y,Y,Y,Y,Y,N,Y,Y,Y,N,N,N,N,N,N,N] rfl rfl (any_of HT_.out (by kernel_rfl)) (fun _ _ _ h => h) (Or.inl ⟨by rfl, ?_⟩) ?_ ?_
           rotate_left
           ·intro w'
            go_simp
            with_reducible rfl
           rotate_left
           ·simp only [Act.put, pa, pb, pc, i64_w, i32_w]
            rfl
           refine take_ (i := 8) (N := some 37) (v := ?_) (a' := ?_) #[Y,Y,Y,Y,Y,Y,Y,Y,Y,Y,Y,Y,N,N,N,N,N,N,N] rfl rfl (take_ofW HT_.out HW_.out (by kernel_rfl)) (fun _ _ _ h => h) (Or.inl ⟨by rfl, ?_⟩) hHeld ?_ ?_
           rotate_left
           ·rintro w' ⟨s0, s1⟩
            go_simp
            with_reducible rfl
           rotate_left
           ·simp only [Act.put, pa, pb, pc, i64_w, i32_w]
            rfl
           refine take_ (i := 12) (N := some 41) (v := ?_) (a' := ?_) #[Y,Y,Y,Y,Y,Y,Y,Y,Y,Y,Y,Y,Y,N,N,N,N,N,N] rfl rfl (take_ofW HT_.out HW_.out (by kernel_rfl)) (fun _ _ _ h => h) (Or.inl ⟨by rfl, ?_⟩) hHeld ?_ ?_
           rotate_left
           ·rintro w' ⟨s0, s1⟩
            go_simp
            with_reducible rfl
           rotate_left
           ·simp only [Act.put, pa, pb, pc, i64_w, i32_w]
            rfl
           refine one_ (i := 13) (N := some 42) #[Y,Y,Y,Y,Y,Y,Y,Y,Y,Y,Y,Y,Y,Y,N,N,N,N,N] rfl rfl (one_of HT_.out (by kernel_rfl)) (by decide) (fun K hK => ?_)
           refine goes_ Try.func133 (by kernel_rfl) rfl #[.int .i64 a0, .int .i64 x13_1, .int .i64 (rd l1 (ji11)), .int .i64 (rd l2 x13_1)] (by rfl) rfl rfl (by (try simp only [List.map_toArray, List.map_cons, List.map_nil]); first | done | (simp only [hji11]; rfl) | rfl | (simp only [List.length_drop, List.length_take]; rfl)) ?_
           with_reducible refine (spec_l5Back.calls a0 x13_1 (rd l1 (ji11)) (rd l2 x13_1) t196 t197 _ A16.out).mono ?_
           rintro e w22 ⟨rfl, hb⟩
           refine ⟨_, rfl, ?_⟩
           have n0_ := aM (rL (rq HO_11.out) hb)
           have n1_ := aM (rL (rq HO_12.out) hb)
           have n2_ := aM (bT bq hb)
           clear HO_11
           clear HO_12
           clear HB
           have HO_11 := n0_
           have HO_12 := n1_
           have HB := n2_
           clear n0_ n1_ n2_
           (try clear hb)
           (try clear hb2)
           (try clear hk)
           (try clear hi)
           refine hK.out _ _ ⟨((HB.out.cell (World.block_lt_of_cell? w _ hw194_0)).trans hw194_0), ((HB.out.cell (World.block_lt_of_cell? w _ hw195_0)).trans hw195_0)⟩ (fun hHeld => ?_)
           clear hK K
           refine norm_ (a' := ?_) ?_ ?_
           rotate_left
           ·show Act.put _ (some 42) _ = _
            simp only [Act.put, pa, pb, pc, i64_w, i32_w]
            rfl
           refine pure_ (i := 14) (N := some 28) (v := ?_) (a' := ?_) #[Y,Y,Y,Y,Y,Y,Y,Y,Y,Y,Y,Y,Y,Y,Y,N,N,N,N] rfl rfl (any_of HT_.out (by kernel_rfl)) (fun _ _ _ h => h) (Or.inl ⟨by rfl, ?_⟩) ?_ ?_
           rotate_left
           ·intro w'
            go_simp
            with_reducible rfl
           rotate_left
           ·simp only [Act.put, pa, pb, pc, i64_w, i32_w]
            rfl
           refine pure_ (i := 15) (N := some 43) (v := ?_) (a' := ?_) #[Y,Y,Y,Y,Y,Y,Y,Y,Y,Y,Y,Y,Y,Y,Y,Y,N,N,N] rfl rfl (any_of HT_.out (by kernel_rfl)) (fun _ _ _ h => h) (Or.inl ⟨by rfl, ?_⟩) ?_ ?_
           rotate_left
           ·intro w'
            go_simp
            with_reducible rfl
           rotate_left
           ·simp only [Act.put, pa, pb, pc, i64_w, i32_w]
            rfl
           refine pure_ (i := 16) (N := some 44) (v := ?_) (a' := ?_) #[Y,Y,Y,Y,Y,Y,Y,Y,Y,Y,Y,Y,Y,Y,Y,Y,Y,N,N] rfl rfl (any_of HT_.out (by kernel_rfl)) (fun _ _ _ h => h) (Or.inl ⟨by rfl, ?_⟩) ?_ ?_
           rotate_left
           ·intro w'
            go_simp
            with_reducible rfl
           rotate_left
           ·simp only [Act.put, pa, pb, pc, i64_w, i32_w]
            rfl
           refine pure_ (i := 17) (N := some 14) (v := ?_) (a' := ?_) #[Y,Y,Y,Y,Y,Y,Y,Y,Y,Y,Y,Y,Y,Y,Y,Y,Y,Y,N] rfl rfl (any_of HT_.out (by kernel_rfl)) (fun _ _ _ h => h) (Or.inl ⟨by rfl, ?_⟩) ?_ ?_
           rotate_left
           ·intro w'
            go_simp
            with_reducible rfl
           rotate_left
           ·simp only [Act.put, pa, pb, pc, i64_w, i32_w]
            rfl
           refine pure_ (i := 18) (N := some 15) (v := ?_) (a' := ?_) #[Y,Y,Y,Y,Y,Y,Y,Y,Y,Y,Y,Y,Y,Y,Y,Y,Y,Y,Y] rfl rfl (any_of HT_.out (by kernel_rfl)) (fun _ _ _ h => h) (Or.inl ⟨by rfl, ?_⟩) ?_ ?_
           rotate_left
           ·intro w'
            go_simp
            with_reducible rfl
           rotate_left
           ·simp only [Act.put, pa, pb, pc, i64_w, i32_w]
            rfl
           refine done_ (done_of HT_.out (by kernel_rfl)) ?_
           have p18 : 0 ≤ ((ji11) : Int) := of_decide_eq_true (by first | (with_reducible assumption) | assumption)
           have q18 : ((ji11) : Int) < ((x11_1.length : Int) : Int) := of_decide_eq_true (by first | (with_reducible assumption) | assumption)
           obtain ⟨go18, co18, eo18, gb18, gl18, cl18, HG18⟩ := Kd.R_form HO_11.out (by omega)
           (first | cases eo18 | (injection eo18 with ea_ en_ ec_; (first | subst ea_ | (injection ea_ with ea_; subst ea_)); subst ec_; clear en_))
           have GB18 := aM gb18
           have GG18 := aM HG18
           clear gb18 gl18 HG18
           obtain ⟨hx18_0, hf18_0⟩ := Kd.R_celln 0 HO_11.out ((ji11) : Int) p18 q18
           replace p18 := eq_true p18
           replace q18 := eq_true q18
           obtain ⟨hy23_, hz23_⟩ := Kd.R_celln 0 HO_11.out ((ji11) : Int) (of_decide_eq_true (by first | (with_reducible assumption) | assumption)) (of_decide_eq_true (by first | (with_reducible assumption) | assumption))
           have HP23 := Kd.R_putg HO_11.out ((ji11) : Int) t196
           try go_wp2_with (first | ((with_reducible refine gate_store (t := 2) (p := 68) rfl ?_); refine store_event (t := 2) (p := 68) (v := ?vo_w24) (w1 := (w22.setCell ⟨go18, ((ji11) : Int).toNat, none⟩ (.int .i64 t196))) ?hg ?ho ?hn ?hr ?_; (case ho => rfl); (case hg => rfl); (case hn => rfl); (case hr => first | (go_simp; done) | (go_simp; rfl)); intro w24 hw; have hg : w22.grownBy w24 (some go18) := (by rw [hw]; exact HP23.2); have hp_ : Kd.R (Kd.int .i64) 2 w24 w.heap.size (fun k_ => some k_ ≠ (v192 : Value).ownBlock) (.slice (some ⟨go18, 0, none⟩) x11_1.length co18) y198 := (by rw [hw, Ny198.out]; exact HP23.1); clear HP23; have n0_ := aM (hp_); have n1_ := aM (Kd.R_after (v := (.slice (some ⟨go18, 0, none⟩) x11_1.length co18)) (v1 := (.slice (some ⟨go18, 0, none⟩) x11_1.length co18)) (ok := (fun _ => True)) (by (with_reducible repeat (first | apply rA | apply rN | apply rD)); exact rM HO_12.out (fun _ hk => ⟨trivial, hk⟩)) hg (.inl rfl)); have n2_ := aM ((by rw [hw]; exact bS (HB.out) GB18.out : Below w.heap.size w w24)); clear HO_11 HO_12 HB; have HO_11 := n0_; have HO_12 := n1_; have HB := n2_; clear n0_ n1_ n2_ hg hw hp_; have p20 : 0 ≤ (x13_1 : Int) := of_decide_eq_true (by first | (with_reducible assumption) | assumption); have q20 : (x13_1 : Int) < ((x12_1.length : Int) : Int) := of_decide_eq_true (by first | (with_reducible assumption) | assumption); obtain ⟨go20, co20, eo20, gb20, gl20, cl20, HG20⟩ := Kd.R_form HO_12.out (by omega); (first | cases eo20 | (injection eo20 with ea_ en_ ec_; (first | subst ea_ | (injection ea_ with ea_; subst ea_)); subst ec_; clear en_)); have GB20 := aM gb20; have GG20 := aM HG20; clear gb20 gl20 HG20; obtain ⟨hx20_0, hf20_0⟩ := Kd.R_celln 0 HO_12.out (x13_1 : Int) p20 q20; replace p20 := eq_true p20; replace q20 := eq_true q20; have n_ := aM (rM (ok' := (fun k_ => some k_ ≠ (.slice (some ⟨go18, 0, none⟩) x11_1.length co18 : Value).ownBlock)) HO_12.out (fun k_ hk => hk.2)); clear HO_12; have HO_12 := n_; clear n_; obtain ⟨hy25_, hz25_⟩ := Kd.R_celln 0 HO_12.out (x13_1 : Int) (of_decide_eq_true (by first | (with_reducible assumption) | assumption)) (of_decide_eq_true (by first | (with_reducible assumption) | assumption)); have HP25 := Kd.R_putg HO_12.out (x13_1 : Int) t197) | ((with_reducible refine gate_store (t := 2) (p := 72) rfl ?_); refine store_event (t := 2) (p := 72) (v := ?vo_w26) (w1 := (w24.setCell ⟨go20, (x13_1 : Int).toNat, none⟩ (.int .i64 t197))) ?hg ?ho ?hn ?hr ?_; (case ho => rfl); (case hg => rfl); (case hn => rfl); (case hr => first | (go_simp; done) | (go_simp; rfl)); intro w26 hw; have hg : w24.grownBy w26 (some go20) := (by rw [hw]; exact HP25.2); have hp_ : Kd.R (Kd.int .i64) 2 w26 w.heap.size (fun k_ => some k_ ≠ (.slice (some ⟨go18, 0, none⟩) x11_1.length co18 : Value).ownBlock) (.slice (some ⟨go20, 0, none⟩) x12_1.length co20) y199 := (by rw [hw, Ny199.out]; exact HP25.1); clear HP25; have n0_ := aM (Kd.R_after (v := (.slice (some ⟨go20, 0, none⟩) x12_1.length co20)) (v1 := (.slice (some ⟨go20, 0, none⟩) x12_1.length co20)) (ok := (fun _ => True)) (by (with_reducible repeat (first | apply rA | apply rN | apply rD)); exact rM HO_11.out (fun _ hk => ⟨trivial, hk⟩)) hg (.inl rfl)); have n1_ := aM (hp_); have n2_ := aM ((by rw [hw]; exact bS (HB.out) GB20.out : Below w.heap.size w w26)); clear HO_11 HO_12 HB; have HO_11 := n0_; have HO_12 := n1_; have HB := n2_; clear n0_ n1_ n2_ hg hw hp_))
           go_roundg k1
           case measure => have := HK1.out; omega
           case rel => exact ⟨(y198), (y199), (wrap64 (x13_1 + 1)), (by first | rfl | (simp; done) | (simp [*]; done)), H', ⟨by have := HK1.out; omega⟩, ⟨by (with_reducible repeat (first | apply rA | apply rN | apply rD)); exact rM HO_11.out (fun _ hk => hk.2)⟩, ⟨by (with_reducible repeat (first | apply rA | apply rN | apply rD)); exact HO_12.out⟩, ⟨bq⟩⟩
          ·rw [if_neg c19] at H
           exact absurd H (by simp)
         ·rw [if_neg c17] at H
          exact absurd H (by simp)
        ·rw [if_neg c15] at H
         exact absurd H (by simp)
       ·rw [if_neg c14] at H
        exact absurd H (by simp)
      ·rw [if_neg c13] at H
       exact absurd H (by simp)
     ·rw [if_neg c12] at H
      exact absurd H (by simp)
    ·replace c10 := Bool.eq_false_iff.mpr c10
     subst c10
     have H1 : (if 0 ≤ (wrap64 ((wrap64 ((wrap64 (Int.tdiv a0 2)) - 1)) - x13_1)) then (if (wrap64 ((wrap64 ((wrap64 (Int.tdiv a0 2)) - 1)) - x13_1)) < (l1.length : Int) then (if 0 ≤ x13_1 then (if x13_1 < (l2.length : Int) then ((spec_l5Turn.f a0 x13_1 (rd l1 (wrap64 ((wrap64 ((wrap64 (Int.tdiv a0 2)) - 1)) - x13_1))) (rd l2 x13_1)).bind fun bt202 => (if (wrap64 ((wrap64 ((wrap64 (Int.tdiv a0 2)) - 1)) - x13_1)) < (x11_1.length : Int) then (if x13_1 < (x12_1.length : Int) then (spec_l7Seam.l0 k1 a0 l1 l2 false (wrap64 (Int.tdiv a0 2)) (x11_1.set ((wrap64 ((wrap64 ((wrap64 (Int.tdiv a0 2)) - 1)) - x13_1)) : Int).toNat bt202.1) (x12_1.set (x13_1 : Int).toNat bt202.2) (wrap64 (x13_1 + 1))) else (none)) else (none))) else (none)) else (none)) else (none)) else (none)) = some (r1, r2) := by rw [if_neg (show ¬ (false = true) by decide)] at H; exact H
     clear H
     have H := H1
     clear H1
     obtain ⟨ji27, hji27⟩ : ∃ j_ : Int, (wrap64 ((wrap64 ((wrap64 (Int.tdiv a0 2)) - 1)) - x13_1)) = j_ := ⟨_, rfl⟩
     replace H : (if 0 ≤ (ji27) then (if (ji27) < (l1.length : Int) then (if 0 ≤ x13_1 then (if x13_1 < (l2.length : Int) then ((spec_l5Turn.f a0 x13_1 (rd l1 (ji27)) (rd l2 x13_1)).bind fun bt202 => (if (ji27) < (x11_1.length : Int) then (if x13_1 < (x12_1.length : Int) then (spec_l7Seam.l0 k1 a0 l1 l2 false (wrap64 (Int.tdiv a0 2)) (x11_1.set ((ji27) : Int).toNat bt202.1) (x12_1.set (x13_1 : Int).toNat bt202.2) (wrap64 (x13_1 + 1))) else (none)) else (none))) else (none)) else (none)) else (none)) else (none)) = some (r1, r2) := by first | (rw [hji27] at H; exact H) | (simp only [hji27] at H ⊢; exact H)
     have hji27w : (IntKind.i64.wrap ((wrap64 ((wrap64 (Int.tdiv a0 2)) - 1)) - x13_1)) = ji27 := (i64_w _).trans hji27
     by_cases c28 : 0 ≤ (ji27)
     ·rw [if_pos c28] at H
      have c28b0 : decide (0 ≤ (ji27)) = true := decide_eq_true c28
      clear c28
      by_cases c29 : (ji27) < (l1.length : Int)
      ·rw [if_pos c29] at H
       have c29b0 : decide ((ji27) < (l1.length : Int)) = true := decide_eq_true c29
       clear c29
       by_cases c30 : 0 ≤ x13_1
       ·rw [if_pos c30] at H
        have c30b0 : decide (0 ≤ x13_1) = true := decide_eq_true c30
        clear c30
        by_cases c31 : x13_1 < (l2.length : Int)
        ·rw [if_pos c31] at H
         have c31b0 : decide (x13_1 < (l2.length : Int)) = true := decide_eq_true c31
         clear c31
         replace H := Option.bind_eq_some_iff.mp H
         obtain ⟨⟨t202, t203⟩, A320, H⟩ := H
         replace H : (if (ji27) < (x11_1.length : Int) then (if x13_1 < (x12_1.length : Int) then (spec_l7Seam.l0 k1 a0 l1 l2 false (wrap64 (Int.tdiv a0 2)) (x11_1.set ((ji27) : Int).toNat t202) (x12_1.set (x13_1 : Int).toNat t203) (wrap64 (x13_1 + 1))) else (none)) else (none)) = some (r1, r2) := H
         have A32 := aM A320
         clear A320
         by_cases c33 : (ji27) < (x11_1.length : Int)
         ·rw [if_pos c33] at H
          have c33b0 : decide ((ji27) < (x11_1.length : Int)) = true := decide_eq_true c33
          clear c33
          obtain ⟨y204, hy204⟩ : ∃ y_ : List Int, y_ = (x11_1.set ((ji27) : Int).toNat t202) := ⟨_, rfl⟩
          replace H : (if x13_1 < (x12_1.length : Int) then (spec_l7Seam.l0 k1 a0 l1 l2 false (wrap64 (Int.tdiv a0 2)) y204 (x12_1.set (x13_1 : Int).toNat t203) (wrap64 (x13_1 + 1))) else (none)) = some (r1, r2) := by first | (rw [hy204]; with_reducible exact H) | (have H2_ := (Option.bind_some _ _).symm.trans H; rw [hy204]; with_reducible exact H2_) | (have H2_ := (Option.bind_some _ _).symm.trans H; with_reducible exact H2_) | with_reducible exact H | (rw [hy204]; exact H) | exact H
          have Ny204 := aM hy204
          clear hy204
          by_cases c35 : x13_1 < (x12_1.length : Int)
          ·rw [if_pos c35] at H
           have c35b0 : decide (x13_1 < (x12_1.length : Int)) = true := decide_eq_true c35
           clear c35
           obtain ⟨y205, hy205⟩ : ∃ y_ : List Int, y_ = (x12_1.set (x13_1 : Int).toNat t203) := ⟨_, rfl⟩
           replace H : (spec_l7Seam.l0 k1 a0 l1 l2 false (wrap64 (Int.tdiv a0 2)) y204 y205 (wrap64 (x13_1 + 1))) = some (r1, r2) := by first | (rw [hy205]; with_reducible exact H) | (have H2_ := (Option.bind_some _ _).symm.trans H; rw [hy205]; with_reducible exact H2_) | (have H2_ := (Option.bind_some _ _).symm.trans H; with_reducible exact H2_) | with_reducible exact H | (rw [hy205]; exact H) | exact H
           have Ny205 := aM hy205
           clear hy205
           have H' := aM H
           clear H
           try go_wp2
           have n0_ := aM (rD HO_11.out)
           have n1_ := aM (rD HO_12.out)
           have n2_ := aM (bD HB.out)
           clear HO_11
           clear HO_12
           clear HB
           have HO_11 := n0_
           have HO_12 := n1_
           have HB := n2_
           clear n0_ n1_ n2_
           have p200 : 0 ≤ ((ji27) : Int) := of_decide_eq_true (by first | (with_reducible assumption) | assumption)
           have q200 : (ji27) < (l1.length : Int) := of_decide_eq_true (by first | (with_reducible assumption) | assumption)
           obtain ⟨ad200, e200, hx200_0⟩ := Kd.at_int HR1.out (ji27) p200 q200
           have hw200_0 := hx200_0
           cases e200
           replace hx200_0 := (HB.out.cell (World.block_lt_of_cell? w _ hx200_0)).trans hx200_0
           replace p200 := eq_true p200
           replace q200 := eq_true q200
           have p201 : 0 ≤ (x13_1 : Int) := of_decide_eq_true (by first | (with_reducible assumption) | assumption)
           have q201 : x13_1 < (l2.length : Int) := of_decide_eq_true (by first | (with_reducible assumption) | assumption)
           obtain ⟨ad201, e201, hx201_0⟩ := Kd.at_int HR2.out x13_1 p201 q201
           have hw201_0 := hx201_0
           cases e201
           replace hx201_0 := (HB.out.cell (World.block_lt_of_cell? w _ hx201_0)).trans hx201_0
           replace p201 := eq_true p201
           replace q201 := eq_true q201
           refine start_ (n := 19) (S := fun w' => w'.cell? (ad200.add ((ji27)).toNat) = some (.int .i64 (rd l1 (ji27))) ∧ w'.cell? (ad201.add (x13_1).toNat) = some (.int .i64 (rd l2 x13_1))) (ds := []) #[N,N,N,N,N,N,N,N,N,N,N,N,N,N,N,N,N,N,N] (by kernel_rfl) rfl rfl ⟨((HB.out.cell (World.block_lt_of_cell? w _ hw200_0)).trans hw200_0), ((HB.out.cell (World.block_lt_of_cell? w _ hw201_0)).trans hw201_0)⟩ (fun hHeld => ?_); refine with_tabW spec_l7Seam.tab10 spec_l7Seam.bits10 (fun HT_ HW_ => ?_)
           generalize wr.drew = w37 at HO_11 HO_12 HB hx200_0 hx201_0 hHeld ⊢
           refine pure_ (i := 0) (N := some 46) (v := ?_) (a' := ?_) #[Y,N,N,N,N,N,N,N,N,N,N,N,N,N,N,N,N,N,N] rfl rfl (any_of HT_.out (by kernel_rfl)) (fun _ _ _ h => h) (Or.inl ⟨by rfl, ?_⟩) ?_ ?_
           rotate_left
           ·intro w'
            go_simp
            with_reducible rfl
           rotate_left
           ·simp only [Act.put, pa, pb, pc, i64_w, i32_w]
            rfl
           refine pure_ (i := 1) (N := some 47) (v := ?_) (a' := ?_) #[Y,Y,N,N,N,N,N,N,N,N,N,N,N,N,N,N,N,N,N] rfl rfl (any_of HT_.out (by kernel_rfl)) (fun _ _ _ h => h) (Or.inl ⟨by rfl, ?_⟩) ?_ ?_
           rotate_left
           ·intro w'
            go_simp
            with_reducible rfl
           rotate_left
           ·simp only [Act.put, pa, pb, pc, i64_w, i32_w]
            rfl
           refine pure_ (i := 2) (N := some 48) (v := ?_) (a' := ?_) #[Y,Y,Y,N,N,N,N,N,N,N,N,N,N,N,N,N,N,N,N] rfl rfl (any_of HT_.out (by kernel_rfl)) (fun _ _ _ h => h) (Or.inl ⟨by rfl, ?_⟩) ?_ ?_
           rotate_left
           ·intro w'
            go_simp
            with_reducible rfl
           rotate_left
           ·simp only [Act.put, pa, pb, pc, i64_w, i32_w]
            rfl
           refine pure_ (i := 3) (N := some 49) (v := ?_) (a' := ?_) #[Y,Y,Y,Y,N,N,N,N,N,N,N,N,N,N,N,N,N,N,N] rfl rfl (any_of HT_.out (by kernel_rfl)) (fun _ _ _ h => h) (Or.inl ⟨by rfl, ?_⟩) ?_ ?_
           rotate_left
           ·intro w'
            go_simp
            with_reducible rfl
           rotate_left
           ·simp only [Act.put, pa, pb, pc, i64_w, i32_w]
            rfl
           refine pure_ (i := 4) (N := some 50) (v := ?_) (a' := ?_) #[Y,Y,Y,Y,Y,N,N,N,N,N,N,N,N,N,N,N,N,N,N] rfl rfl (any_of HT_.out (by kernel_rfl)) (fun _ _ _ h => h) (Or.inl ⟨by rfl, ?_⟩) ?_ ?_
           rotate_left
           ·intro w'
            go_simp
            with_reducible rfl
           rotate_left
           ·simp only [Act.put, pa, pb, pc, i64_w, i32_w]
            rfl
           refine pure_ (i := 5) (N := some 51) (v := ?_) (a' := ?_) #[Y,Y,Y,Y,Y,Y,N,N,N,N,N,N,N,N,N,N,N,N,N] rfl rfl (any_of HT_.out (by kernel_rfl)) (fun _ _ _ h => h) (Or.inl ⟨by rfl, ?_⟩) ?_ ?_
           rotate_left
           ·intro w'
            go_simp
            with_reducible rfl
           rotate_left
           ·simp only [Act.put, pa, pb, pc, i64_w, i32_w]
            rfl
           refine pure_ (i := 6) (N := some 52) (v := ?_) (a' := ?_) #[Y,Y,Y,Y,Y,Y,Y,N,N,N,N,N,N,N,N,N,N,N,N] rfl rfl (any_of HT_.out (by kernel_rfl)) (fun _ _ _ h => h) (Or.inl ⟨by rfl, ?_⟩) ?_ ?_
           rotate_left
           ·intro w'
            go_simp
            with_reducible rfl
           rotate_left
           ·simp only [Act.put, pa, pb, pc, i64_w, i32_w]
            rfl
           refine pure_ (i := 7) (N := some 53) (v := ?_) (a' := ?_) #[Y,Y,Y,Y,Y,Y,Y,Y,N,N,N,N,N,N,N,N,N,N,N] rfl rfl (any_of HT_.out (by kernel_rfl)) (fun _ _ _ h => h) (Or.inl ⟨by rfl, ?_⟩) ?_ ?_
           rotate_left
           ·intro w'
            go_simp
            with_reducible rfl
           rotate_left
           ·simp only [Act.put, pa, pb, pc, i64_w, i32_w]
            rfl
           refine pure_ (i := 9) (N := some 55) (v := ?_) (a' := ?_) #[Y,Y,Y,Y,Y,Y,Y,Y,N,Y,N,N,N,N,N,N,N,N,N] rfl rfl (any_of HT_.out (by kernel_rfl)) (fun _ _ _ h => h) (Or.inl ⟨by rfl, ?_⟩) ?_ ?_
           rotate_left
           ·intro w'
            go_simp
            with_reducible rfl
           rotate_left
           ·simp only [Act.put, pa, pb, pc, i64_w, i32_w]
            rfl
           refine pure_ (i := 10) (N := some 56) (v := ?_) (a' := ?_) #[Y,Y,Y,Y,Y,Y,Y,Y,N,Y,Y,N,N,N,N,N,N,N,N] rfl rfl (any_of HT_.out (by kernel_rfl)) (fun _ _ _ h => h) (Or.inl ⟨by rfl, ?_⟩) ?_ ?_
           rotate_left
           ·intro w'
            go_simp
            with_reducible rfl
           rotate_left
           ·simp only [Act.put, pa, pb, pc, i64_w, i32_w]
            rfl
           refine pure_ (i := 11) (N := some 57) (v := ?_) (a' := ?_) #[Y,Y,Y,Y,Y,Y,Y,Y,N,Y,Y,Y,N,N,N,N,N,N,N] rfl rfl (any_of HT_.out (by kernel_rfl)) (fun _ _ _ h => h) (Or.inl ⟨by rfl, ?_⟩) ?_ ?_
           rotate_left
           ·intro w'
            go_simp
            with_reducible rfl
           rotate_left
           ·simp only [Act.put, pa, pb, pc, i64_w, i32_w]
            rfl
           refine take_ (i := 8) (N := some 54) (v := ?_) (a' := ?_) #[Y,Y,Y,Y,Y,Y,Y,Y,Y,Y,Y,Y,N,N,N,N,N,N,N] rfl rfl (take_ofW HT_.out HW_.out (by kernel_rfl)) (fun _ _ _ h => h) (Or.inl ⟨by rfl, ?_⟩) hHeld ?_ ?_
           rotate_left
           ·rintro w' ⟨s0, s1⟩
            go_simp
            with_reducible rfl
           rotate_left
           ·simp only [Act.put, pa, pb, pc, i64_w, i32_w]
            rfl
           refine take_ (i := 12) (N := some 58) (v := ?_) (a' := ?_) #[Y,Y,Y,Y,Y,Y,Y,Y,Y,Y,Y,Y,Y,N,N,N,N,N,N] rfl rfl (take_ofW HT_.out HW_.out (by kernel_rfl)) (fun _ _ _ h => h) (Or.inl ⟨by rfl, ?_⟩) hHeld ?_ ?_
           rotate_left
           ·rintro w' ⟨s0, s1⟩
            go_simp
            with_reducible rfl
           rotate_left
           ·simp only [Act.put, pa, pb, pc, i64_w, i32_w]
            rfl
           refine one_ (i := 13) (N := some 59) #[Y,Y,Y,Y,Y,Y,Y,Y,Y,Y,Y,Y,Y,Y,N,N,N,N,N] rfl rfl (one_of HT_.out (by kernel_rfl)) (by decide) (fun K hK => ?_)
           refine goes_ Try.func134 (by kernel_rfl) rfl #[.int .i64 a0, .int .i64 x13_1, .int .i64 (rd l1 (ji27)), .int .i64 (rd l2 x13_1)] (by rfl) rfl rfl (by (try simp only [List.map_toArray, List.map_cons, List.map_nil]); first | done | (simp only [hji27]; rfl) | rfl | (simp only [List.length_drop, List.length_take]; rfl)) ?_
           with_reducible refine (spec_l5Turn.calls a0 x13_1 (rd l1 (ji27)) (rd l2 x13_1) t202 t203 _ A32.out).mono ?_
           rintro e w38 ⟨rfl, hb⟩
           refine ⟨_, rfl, ?_⟩
           have n0_ := aM (rL (rq HO_11.out) hb)
           have n1_ := aM (rL (rq HO_12.out) hb)
           have n2_ := aM (bT bq hb)
           clear HO_11
           clear HO_12
           clear HB
           have HO_11 := n0_
           have HO_12 := n1_
           have HB := n2_
           clear n0_ n1_ n2_
           (try clear hb)
           (try clear hb2)
           (try clear hk)
           (try clear hi)
           refine hK.out _ _ ⟨((HB.out.cell (World.block_lt_of_cell? w _ hw200_0)).trans hw200_0), ((HB.out.cell (World.block_lt_of_cell? w _ hw201_0)).trans hw201_0)⟩ (fun hHeld => ?_)
           clear hK K
           refine norm_ (a' := ?_) ?_ ?_
           rotate_left
           ·show Act.put _ (some 59) _ = _
            simp only [Act.put, pa, pb, pc, i64_w, i32_w]
            rfl
           refine pure_ (i := 14) (N := some 45) (v := ?_) (a' := ?_) #[Y,Y,Y,Y,Y,Y,Y,Y,Y,Y,Y,Y,Y,Y,Y,N,N,N,N] rfl rfl (any_of HT_.out (by kernel_rfl)) (fun _ _ _ h => h) (Or.inl ⟨by rfl, ?_⟩) ?_ ?_
           rotate_left
           ·intro w'
            go_simp
            with_reducible rfl
           rotate_left
           ·simp only [Act.put, pa, pb, pc, i64_w, i32_w]
            rfl
           refine pure_ (i := 15) (N := some 60) (v := ?_) (a' := ?_) #[Y,Y,Y,Y,Y,Y,Y,Y,Y,Y,Y,Y,Y,Y,Y,Y,N,N,N] rfl rfl (any_of HT_.out (by kernel_rfl)) (fun _ _ _ h => h) (Or.inl ⟨by rfl, ?_⟩) ?_ ?_
           rotate_left
           ·intro w'
            go_simp
            with_reducible rfl
           rotate_left
           ·simp only [Act.put, pa, pb, pc, i64_w, i32_w]
            rfl
           refine pure_ (i := 16) (N := some 61) (v := ?_) (a' := ?_) #[Y,Y,Y,Y,Y,Y,Y,Y,Y,Y,Y,Y,Y,Y,Y,Y,Y,N,N] rfl rfl (any_of HT_.out (by kernel_rfl)) (fun _ _ _ h => h) (Or.inl ⟨by rfl, ?_⟩) ?_ ?_
           rotate_left
           ·intro w'
            go_simp
            with_reducible rfl
           rotate_left
           ·simp only [Act.put, pa, pb, pc, i64_w, i32_w]
            rfl
           refine pure_ (i := 17) (N := some 14) (v := ?_) (a' := ?_) #[Y,Y,Y,Y,Y,Y,Y,Y,Y,Y,Y,Y,Y,Y,Y,Y,Y,Y,N] rfl rfl (any_of HT_.out (by kernel_rfl)) (fun _ _ _ h => h) (Or.inl ⟨by rfl, ?_⟩) ?_ ?_
           rotate_left
           ·intro w'
            go_simp
            with_reducible rfl
           rotate_left
           ·simp only [Act.put, pa, pb, pc, i64_w, i32_w]
            rfl
           refine pure_ (i := 18) (N := some 15) (v := ?_) (a' := ?_) #[Y,Y,Y,Y,Y,Y,Y,Y,Y,Y,Y,Y,Y,Y,Y,Y,Y,Y,Y] rfl rfl (any_of HT_.out (by kernel_rfl)) (fun _ _ _ h => h) (Or.inl ⟨by rfl, ?_⟩) ?_ ?_
           rotate_left
           ·intro w'
            go_simp
            with_reducible rfl
           rotate_left
           ·simp only [Act.put, pa, pb, pc, i64_w, i32_w]
            rfl
           refine done_ (done_of HT_.out (by kernel_rfl)) ?_
           have p34 : 0 ≤ ((ji27) : Int) := of_decide_eq_true (by first | (with_reducible assumption) | assumption)
           have q34 : ((ji27) : Int) < ((x11_1.length : Int) : Int) := of_decide_eq_true (by first | (with_reducible assumption) | assumption)
           obtain ⟨go34, co34, eo34, gb34, gl34, cl34, HG34⟩ := Kd.R_form HO_11.out (by omega)
           (first | cases eo34 | (injection eo34 with ea_ en_ ec_; (first | subst ea_ | (injection ea_ with ea_; subst ea_)); subst ec_; clear en_))
           have GB34 := aM gb34
           have GG34 := aM HG34
           clear gb34 gl34 HG34
           obtain ⟨hx34_0, hf34_0⟩ := Kd.R_celln 0 HO_11.out ((ji27) : Int) p34 q34
           replace p34 := eq_true p34
           replace q34 := eq_true q34
           obtain ⟨hy39_, hz39_⟩ := Kd.R_celln 0 HO_11.out ((ji27) : Int) (of_decide_eq_true (by first | (with_reducible assumption) | assumption)) (of_decide_eq_true (by first | (with_reducible assumption) | assumption))
           have HP39 := Kd.R_putg HO_11.out ((ji27) : Int) t202
           try go_wp2_with (first | ((with_reducible refine gate_store (t := 2) (p := 68) rfl ?_); refine store_event (t := 2) (p := 68) (v := ?vo_w40) (w1 := (w38.setCell ⟨go34, ((ji27) : Int).toNat, none⟩ (.int .i64 t202))) ?hg ?ho ?hn ?hr ?_; (case ho => rfl); (case hg => rfl); (case hn => rfl); (case hr => first | (go_simp; done) | (go_simp; rfl)); intro w40 hw; have hg : w38.grownBy w40 (some go34) := (by rw [hw]; exact HP39.2); have hp_ : Kd.R (Kd.int .i64) 2 w40 w.heap.size (fun k_ => some k_ ≠ (v192 : Value).ownBlock) (.slice (some ⟨go34, 0, none⟩) x11_1.length co34) y204 := (by rw [hw, Ny204.out]; exact HP39.1); clear HP39; have n0_ := aM (hp_); have n1_ := aM (Kd.R_after (v := (.slice (some ⟨go34, 0, none⟩) x11_1.length co34)) (v1 := (.slice (some ⟨go34, 0, none⟩) x11_1.length co34)) (ok := (fun _ => True)) (by (with_reducible repeat (first | apply rA | apply rN | apply rD)); exact rM HO_12.out (fun _ hk => ⟨trivial, hk⟩)) hg (.inl rfl)); have n2_ := aM ((by rw [hw]; exact bS (HB.out) GB34.out : Below w.heap.size w w40)); clear HO_11 HO_12 HB; have HO_11 := n0_; have HO_12 := n1_; have HB := n2_; clear n0_ n1_ n2_ hg hw hp_; have p36 : 0 ≤ (x13_1 : Int) := of_decide_eq_true (by first | (with_reducible assumption) | assumption); have q36 : (x13_1 : Int) < ((x12_1.length : Int) : Int) := of_decide_eq_true (by first | (with_reducible assumption) | assumption); obtain ⟨go36, co36, eo36, gb36, gl36, cl36, HG36⟩ := Kd.R_form HO_12.out (by omega); (first | cases eo36 | (injection eo36 with ea_ en_ ec_; (first | subst ea_ | (injection ea_ with ea_; subst ea_)); subst ec_; clear en_)); have GB36 := aM gb36; have GG36 := aM HG36; clear gb36 gl36 HG36; obtain ⟨hx36_0, hf36_0⟩ := Kd.R_celln 0 HO_12.out (x13_1 : Int) p36 q36; replace p36 := eq_true p36; replace q36 := eq_true q36; have n_ := aM (rM (ok' := (fun k_ => some k_ ≠ (.slice (some ⟨go34, 0, none⟩) x11_1.length co34 : Value).ownBlock)) HO_12.out (fun k_ hk => hk.2)); clear HO_12; have HO_12 := n_; clear n_; obtain ⟨hy41_, hz41_⟩ := Kd.R_celln 0 HO_12.out (x13_1 : Int) (of_decide_eq_true (by first | (with_reducible assumption) | assumption)) (of_decide_eq_true (by first | (with_reducible assumption) | assumption)); have HP41 := Kd.R_putg HO_12.out (x13_1 : Int) t203) | ((with_reducible refine gate_store (t := 2) (p := 72) rfl ?_); refine store_event (t := 2) (p := 72) (v := ?vo_w42) (w1 := (w40.setCell ⟨go36, (x13_1 : Int).toNat, none⟩ (.int .i64 t203))) ?hg ?ho ?hn ?hr ?_; (case ho => rfl); (case hg => rfl); (case hn => rfl); (case hr => first | (go_simp; done) | (go_simp; rfl)); intro w42 hw; have hg : w40.grownBy w42 (some go36) := (by rw [hw]; exact HP41.2); have hp_ : Kd.R (Kd.int .i64) 2 w42 w.heap.size (fun k_ => some k_ ≠ (.slice (some ⟨go34, 0, none⟩) x11_1.length co34 : Value).ownBlock) (.slice (some ⟨go36, 0, none⟩) x12_1.length co36) y205 := (by rw [hw, Ny205.out]; exact HP41.1); clear HP41; have n0_ := aM (Kd.R_after (v := (.slice (some ⟨go36, 0, none⟩) x12_1.length co36)) (v1 := (.slice (some ⟨go36, 0, none⟩) x12_1.length co36)) (ok := (fun _ => True)) (by (with_reducible repeat (first | apply rA | apply rN | apply rD)); exact rM HO_11.out (fun _ hk => ⟨trivial, hk⟩)) hg (.inl rfl)); have n1_ := aM (hp_); have n2_ := aM ((by rw [hw]; exact bS (HB.out) GB36.out : Below w.heap.size w w42)); clear HO_11 HO_12 HB; have HO_11 := n0_; have HO_12 := n1_; have HB := n2_; clear n0_ n1_ n2_ hg hw hp_))
           go_roundg k1
           case measure => have := HK1.out; omega
           case rel => exact ⟨(y204), (y205), (wrap64 (x13_1 + 1)), (by first | rfl | (simp; done) | (simp [*]; done)), H', ⟨by have := HK1.out; omega⟩, ⟨by (with_reducible repeat (first | apply rA | apply rN | apply rD)); exact rM HO_11.out (fun _ hk => hk.2)⟩, ⟨by (with_reducible repeat (first | apply rA | apply rN | apply rD)); exact HO_12.out⟩, ⟨bq⟩⟩
          ·rw [if_neg c35] at H
           exact absurd H (by simp)
         ·rw [if_neg c33] at H
          exact absurd H (by simp)
        ·rw [if_neg c31] at H
         exact absurd H (by simp)
       ·rw [if_neg c30] at H
        exact absurd H (by simp)
      ·rw [if_neg c29] at H
       exact absurd H (by simp)
     ·rw [if_neg c28] at H
      exact absurd H (by simp)
   ·rw [if_neg c9] at H
    have c9b0 : decide (x13_1 < (wrap64 (Int.tdiv a0 2))) = false := decide_eq_false c9
    clear c9
    simp only [Option.some.injEq, Prod.mk.injEq] at H
    obtain ⟨rfl, rfl⟩ := H
    go_wp2
    go_ret2
    exact ⟨_, _, by first | rfl | (simp [errW_none, errW_some] <;> rfl) | (simp [*, errW_none, errW_some] <;> rfl), by (with_reducible repeat (first | apply rA | apply rN | apply rD)); exact HO_11.out, by (with_reducible repeat (first | apply rA | apply rN | apply rD)); exact HO_12.out, bq⟩

end Go.Proofs.Ytjdgebfihbhbaaa.PFnExactPlayBlock
