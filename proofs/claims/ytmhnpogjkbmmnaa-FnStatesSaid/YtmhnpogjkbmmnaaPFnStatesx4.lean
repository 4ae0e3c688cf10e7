import Derived.Test.YtmhnpogjkbmmnaaPFnStatesx0
import Derived.Test.YtmhnpogjkbmmnaaPFnStatesx1
import Derived.Test.YtmhnpogjkbmmnaaPFnStatesx2
import Derived.Test.YtmhnpogjkbmmnaaPFnStatesx3
namespace Go.Proofs.Ytmhnpogjkbmmnaa.PFnStates
open Go.RowKit Go.Proofs.YtmhnpogjkbmmnaaW.PrintWords Go.Proofs.YtmhnpogjkbmmnaaW.PrintLast Go.Proofs.YtmhnpogjkbmmnaaW.PrintMore
open Go.Proofs.YtmhnpogjkbmmnaaW.PrintWords.Kd renaming R_alloc → rA, R_drewN → rN, R_drew → rD, R_mono → rM, R_base → rB, R_new' → rW, R_below → rL, R_lt → rT, R_lower → rG, R_elder' → rH, R_reads' → rR
open Go.Proofs.YtmhnpogjkbmmnaaW.PrintWords renaming below_drew1 → bD, below_set → bS, below_step → bT, below_size → bZ
open Go.Proofs.YtmhnpogjkbmmnaaW.PrintWords.Aside0 renaming mk → aM
attribute [local go_sem] max2_int min2_int max_two min_two max_three min_three max_four min_four
set_option maxHeartbeats 8000000
set_option maxRecDepth 100000
set_option linter.unusedVariables false
set_option linter.unusedSimpArgs false
mutual
def spec_l6Gather.l0 : Nat → List Int → List Int → List Int → Int → Option (List Int)
 | 0, _, _, _, _ => none
 | k + 1, x0, x3, x4, x5 => if (wrap64 (x5 + 1)) < (x0.length : Int) then (if 0 ≤ x5 then (if x5 < (x0.length : Int) then (if x3.length < 17592186044416 then (if 0 ≤ (wrap64 (x5 + 1)) then (if x4.length < 17592186044416 then (spec_l6Gather.l0 k x0 (x3 ++ [rd x0 x5]) (x4 ++ [rd x0 (wrap64 (x5 + 1))]) (wrap64 (x5 + 2))) else (none)) else (none)) else (none)) else (none)) else (none)) else ((spec_l6Gather.f k x3).bind fun t162 => ((spec_l6Gather.f k x4).bind fun t165 => ((spec_l6Unite.f k t162 t165).bind fun t168 => (some t168))))
def spec_l6Gather.f : Nat → List Int → Option (List Int)
 | 0, _ => none
 | k + 1, l0 => if (l0.length : Int) = 1 then ((spec_l1Ints.f l0).bind fun t145 => (some t145)) else (spec_l6Gather.l0 k l0 (([] : List Int)) (([] : List Int)) 0)
end
theorem spec_l6Gather.calls (k : Nat) : ∀ (A0 : Option Addr) (c0 : Nat) (l0 : List Int) (r : List Int) (w : World) (hr0 : Kd.C (Kd.int .i64) w A0 l0.length l0) (hc0 : l0.length ≤ c0) (h : spec_l6Gather.f k l0 = some r),
  Calls Try.prog 112 #[.slice A0 l0.length c0] w fun e w' => ∃ v0_ : Value, e = .returned (v0_) ∧ Kd.R (Kd.int .i64) 2 w' w.heap.size (fun _ => True) v0_ r ∧ Below w.heap.size w w' := by
 induction k using Nat.strongRecOn with
 | _ k ih =>
 intro A0 c0 l0 r w hr0 hc0 h
 cases k with
 | zero => exact absurd h (by simp [spec_l6Gather.f])
 | succ k =>
 simp only [spec_l6Gather.f] at h
 have HR0 := aM hr0
 have HC0 := aM hc0
 clear hr0 hc0
 have HB := aM (Below.refl w.heap.size w)
 have H := h
 clear h
 by_cases c2 : (l0.length : Int) = 1
 ·rw [if_pos c2] at H
  have c2b0 := eT c2
  have c2b1 := nF c2
  clear c2
  replace H := bo H
  obtain ⟨t145, A3, H⟩ := H
  replace H : (some t145) = some r := H
  obtain rfl := Option.some.inj H
  go_enter Try.func112, Try.ntmps112
  go_wp2_with (first | ((with_reducible refine gC 114 rfl ?_); refine gl (some 10) Try.func114 #[.slice A0 l0.length c0] ?_; (with_reducible refine (spec_l1Ints.calls _ _ l0 t145 _ ?s1 ?s2 A3.out).mono ?_); (case s1 => exact cq HR0.out); (case s2 => exact HC0.out); rintro e w4 ⟨v146, rfl, ho0, hb⟩; refine ii ?_; have HO147 := aM (rG ho0 (bZ bq)); replace HB := aM (bT bq hb); (try clear hb); (try clear ho0)))
  go_ret
  exact ⟨_, ew, by (with_reducible repeat (first | apply rA | apply rN | apply rD)); exact HO147.out, bq⟩
 ·rw [if_neg c2] at H
  have c2b0 := eF c2
  have c2b1 := nT c2
  obtain ⟨y148, hy148⟩ : ∃ y_ : List Int, y_ = (([] : List Int)) := ⟨_, rfl⟩
  replace H : (spec_l6Gather.l0 k l0 y148 (([] : List Int)) 0) = some r := hl hy148 H
  have Ny148 := aM hy148
  clear hy148
  obtain ⟨y151, hy151⟩ : ∃ y_ : List Int, y_ = (([] : List Int)) := ⟨_, rfl⟩
  replace H : (spec_l6Gather.l0 k l0 y148 y151 0) = some r := hl hy151 H
  have Ny151 := aM hy151
  clear hy151
  have H' := aM H
  clear H
  go_enter Try.func112, Try.ntmps112
  go_wp2_with (first | ((with_reducible refine gD 11 rfl ?_); refine Kd.R_lit (Kd.int .i64) _ 2 ?hg (N := 11) ?hd (xs := ([] : List Int)) (inner := []) (ok := fun _ => True) (okp := fun _ => True) ?hr ?hp (fun _ hk => hk) trivial (Below.refl _ _) (Nat.le_refl _) (by simp) ?_; (case hd => rfl); (case hg => rfl); (case hr => first | (go_simp; done) | (go_simp; rfl)); (case hp => exact (Reps.none _ _)); intro v149 w5 ho6 hb hg_ hnew_; clear hg_ hnew_; rw [← Ny148.out] at ho6; have HO150 := aM (rG ho6 (bZ bq)); replace HB := aM (bT bq hb); clear hb ho6) | ((with_reducible refine gD 12 rfl ?_); refine Kd.R_lit (Kd.int .i64) _ 2 ?hg (N := 12) ?hd (xs := ([] : List Int)) (inner := []) (ok := fun _ => True) (okp := fun _ => True) ?hr ?hp (fun _ hk => hk) trivial (Below.refl _ _) (Nat.le_refl _) (by simp) ?_; (case hd => rfl); (case hg => rfl); (case hr => first | (go_simp; done) | (go_simp; rfl)); (case hp => exact (Reps.none _ _)); intro v152 w7 ho8 hb hg_ hnew_; clear hg_ hnew_; rw [← Ny151.out] at ho8; have HO153 := aM (rG (wq ho8 HO150) (bZ bq)); replace HO150 := zh (rq HO150.out) ho8 hb; replace HB := aM (bT bq hb); clear hb ho8))
  go_loopg [3, 4, 5] k (fun kq v3 v4 v5 w' => ∃ (x3_1 : List Int) (x4_1 : List Int) (x5_1 : Int), v5 = .int .i64 x5_1 ∧ Aside0 (spec_l6Gather.l0 kq l0 x3_1 x4_1 x5_1 = some r) ∧ Aside0 (kq ≤ k) ∧ Aside0 (Kd.R (Kd.int .i64) 2 w' w.heap.size (fun k_ => nb v4 k_) v3 x3_1) ∧ Aside0 (Kd.R (Kd.int .i64) 2 w' w.heap.size (fun k_ => nb v3 k_) v4 x4_1) ∧ Aside0 (Below w.heap.size w w'))
  case atStart => exact ⟨(y148), (y151), (0), (ex), H', ⟨Nat.le_refl _⟩, aM (rq (rM HO150.out (fun _ hk => hk.2))), aM (rq (rM HO153.out (fun _ hk => hk.2))), ⟨bq⟩⟩
  case round =>
   clear H'
   try clear c1
   try clear c2
   try clear c2b0
   try clear c2b1
   try clear p2
   obtain ⟨x3_1, x4_1, x5_1, rfl, HA, HK1, HO_3, HO_4, HB⟩ := hrel
   cases gk with
   | zero => exact absurd HA.out (by simp [spec_l6Gather.l0])
   | succ k1 =>
    have H := HA.out
    clear HA
    simp only [spec_l6Gather.l0] at H
    by_cases c9 : (wrap64 (x5_1 + 1)) < (l0.length : Int)
    ·rw [if_pos c9] at H
     have c9b0 := dT c9
     clear c9
     by_cases c10 : 0 ≤ x5_1
     ·rw [if_pos c10] at H
      have c10b0 := dT c10
      clear c10
      by_cases c11 : x5_1 < (l0.length : Int)
      ·rw [if_pos c11] at H
       have c11b0 := dT c11
       clear c11
       by_cases c12 : x3_1.length < 17592186044416
       ·rw [if_pos c12] at H
        have LMc12 := aM c12
        clear c12
        obtain ⟨y155, Ny155⟩ : ∃ y_ : List Int, Aside0 (y_ = (x3_1 ++ [rd l0 x5_1])) := ⟨_, ⟨rfl⟩⟩
        rw [← Ny155.out] at H
        obtain ⟨ji13, hji13⟩ : ∃ j_ : Int, (wrap64 (x5_1 + 1)) = j_ := ⟨_, rfl⟩
        rw [hji13] at H
        (try rw [hji13] at c9b0)
        have hji13w : (IntKind.i64.wrap (x5_1 + 1)) = ji13 := (i64_w _).trans hji13
        by_cases c14 : 0 ≤ (ji13)
        ·rw [if_pos c14] at H
         have c14b0 := dT c14
         clear c14
         by_cases c15 : x4_1.length < 17592186044416
         ·rw [if_pos c15] at H
          have LMc15 := aM c15
          clear c15
          obtain ⟨y159, Ny159⟩ : ∃ y_ : List Int, Aside0 (y_ = (x4_1 ++ [rd l0 (ji13)])) := ⟨_, ⟨rfl⟩⟩
          rw [← Ny159.out] at H
          have H' := aM H
          clear H
          have p154 : 0 ≤ (x5_1 : Int) := dt
          have q154 : x5_1 < (l0.length : Int) := dt
          obtain ⟨ad154, e154, hx154_0⟩ := Kd.at_int HR0.out x5_1 p154 q154
          cases e154
          replace hx154_0 := (HB.out.cell (World.block_lt_of_cell? w _ hx154_0)).trans hx154_0
          replace p154 := eq_true p154
          replace q154 := eq_true q154
          go_wp2_with (first | ((with_reducible refine gate_builtin (b := .append) (xs := #[.tmp 20, .tmp 25]) rfl ?_); at_builtin; refine Kd.R_append (Kd.int .i64) (w0 := w) w.heap.size rfl (.tmp 20) (.tmp 25) 22 2 (.int .i64 0) 8 rfl Try.underlying22 info2 rfl (by decide) (by omega) u3 x3_1 (rd l0 x5_1) [.int .i64 (rd l0 x5_1)] (fun k_ => nb u4 k_) (fun _ => False) rfl rfl ?aP (fun _ hk => hk.elim) ?aF ?aO ?aB ?aS ?aL ?_; (case aP => exact rfl); (case aB => exact bq); (case aF => exact (fun k_ hk => Kd.fresh' (rT (rq HO_4.out)) k_ hk)); (case aO => exact (rq HO_3.out)); (case aS => exact (bZ bq)); (case aL => have := LMc12.out; omega); intro v156 w16 ho hb hg hat; rw [← Ny155.out] at ho; replace HO_4 := aM (Kd.R_after (ok := (fun _ => True)) (rq (rM HO_4.out (fun _ hk => ⟨trivial, hk⟩))) hg hat); replace HB := aM hb; have HO157 := aM (ho); clear HO_3 ho hb hg hat; have p158 : 0 ≤ ((ji13) : Int) := dt; have q158 : (ji13) < (l0.length : Int) := dt; obtain ⟨ad158, e158, hx158_0⟩ := Kd.at_int HR0.out (ji13) p158 q158; obtain rfl : ad154 = ad158 := (by injection e158); replace hx158_0 := (HB.out.cell (World.block_lt_of_cell? w _ hx158_0)).trans hx158_0; replace p158 := eq_true p158; replace q158 := eq_true q158) | ((with_reducible refine gate_builtin (b := .append) (xs := #[.tmp 27, .tmp 33]) rfl ?_); at_builtin; refine Kd.R_append (Kd.int .i64) (w0 := w) w.heap.size rfl (.tmp 27) (.tmp 33) 22 2 (.int .i64 0) 8 rfl Try.underlying22 info2 rfl (by decide) (by omega) u4 x4_1 (rd l0 (ji13)) [.int .i64 (rd l0 (ji13))] (fun k_ => nb v156 k_) (fun _ => False) rfl rfl ?aP (fun _ hk => hk.elim) ?aF ?aO ?aB ?aS ?aL ?_; (case aP => exact rfl); (case aB => exact bq); (case aF => exact (fun k_ hk => Kd.fresh' (rT (rq HO157.out)) k_ hk)); (case aO => exact (rq (rM HO_4.out (fun _ hk => hk.2)))); (case aS => exact (bZ bq)); (case aL => have := LMc15.out; omega); intro v160 w17 ho hb hg hat; rw [← Ny159.out] at ho; replace HO157 := aM (Kd.R_after (ok := (fun _ => True)) (rq (rM HO157.out (fun _ hk => ⟨trivial, hk⟩))) hg hat); replace HB := aM hb; have HO161 := aM (ho); clear HO_4 ho hb hg hat))
          go_roundg k1
          case measure => have := HK1.out; omega
          case rel => exact ⟨(y155), (y159), (wrap64 (x5_1 + 2)), (ex), H', ⟨by have := HK1.out; omega⟩, aM (rq (rM HO157.out (fun _ hk => hk.2))), aM (rq HO161.out), ⟨bq⟩⟩
         ·rw [if_neg c15] at H
          exact absurd H (by simp)
        ·rw [if_neg c14] at H
         exact absurd H (by simp)
       ·rw [if_neg c12] at H
        exact absurd H (by simp)
      ·rw [if_neg c11] at H
       exact absurd H (by simp)
     ·rw [if_neg c10] at H
      exact absurd H (by simp)
    ·rw [if_neg c9] at H
     have c9b0 := dF c9
     clear c9
     replace H := bo H
     obtain ⟨t162, A18, H⟩ := H
     replace H := bz H
     replace H := bo H
     obtain ⟨t165, A19, H⟩ := H
     replace H := bz H
     replace H := bo H
     obtain ⟨t168, A20, H⟩ := H
     replace H : (some t168) = some r := H
     obtain rfl := Option.some.inj H
     obtain ⟨Ao21, co21, eo21⟩ := Kd.R_slice HO_3.out
     subst eo21
     go_wp2_with (first | ((with_reducible refine gC 112 rfl ?_); refine gl (some 36) Try.func112 #[.slice Ao21 x3_1.length co21] ?_; (with_reducible refine (ih k1 (by have := HK1.out; omega) _ _ x3_1 t162 _ ?s1 ?s2 A18.out).mono ?_); (case s1 => exact cq (rR HO_3.out).2.2); (case s2 => exact (rR HO_3.out).2.1); rintro e w22 ⟨v163, rfl, ho0, hb⟩; refine ii ?_; have HO164 := aM (rG (wq (wq ho0 HO_3) HO_4) (bZ bq)); replace HO_3 := zh (rq HO_3.out) ho0 hb; replace HO_4 := zh (rq HO_4.out) ho0 hb; replace HB := aM (bT bq hb); (try clear hb); (try clear ho0); obtain ⟨Ao23, co23, rfl⟩ := rS HO_4.out) | ((with_reducible refine gC 112 rfl ?_); refine gl (some 38) Try.func112 #[.slice Ao23 x4_1.length co23] ?_; (with_reducible refine (ih k1 (by have := HK1.out; omega) _ _ x4_1 t165 _ ?s1 ?s2 A19.out).mono ?_); (case s1 => exact cq (rR HO_4.out).2.2); (case s2 => exact (rR HO_4.out).2.1); rintro e w24 ⟨v166, rfl, ho0, hb⟩; refine ii ?_; have HO167 := aM (rG (wq (wq (wq ho0 HO_3) HO_4) HO164) (bZ bq)); replace HO_3 := zh (rq HO_3.out) ho0 hb; replace HO_4 := zh (rq HO_4.out) ho0 hb; replace HO164 := zh (rq HO164.out) ho0 hb; replace HB := aM (bT bq hb); (try clear hb); (try clear ho0); obtain ⟨Ao25, co25, rfl⟩ := rS HO164.out; obtain ⟨Ao26, co26, rfl⟩ := rS HO167.out) | ((with_reducible refine gC 141 rfl ?_); refine gl (some 39) Try.func141 #[.slice Ao25 t162.length co25, .slice Ao26 t165.length co26] ?_; (with_reducible refine (spec_l6Unite.calls k1 (fun k_ => some k_ = (.slice Ao25 t162.length co25 : Value).ownBlock) _ _ t162 _ _ t165 t168 _ ?s1 ?s2 ?s3 A20.out).mono ?_); (case s1 => exact Kd.R_V (Kd.R_tight rfl (HO164.out))); (case s2 => exact cq (rR HO167.out).2.2); (case s3 => exact (rR HO167.out).2.1); rintro e w27 ⟨v169, rfl, ho0, hb⟩; refine ii ?_; have HO170 := aM (rG (wq (wq (wq (wq (rM (ok' := fun k_ => True) ho0 (fun _ hk_ => trivial)) HO_3) HO_4) HO164) HO167) (bZ bq)); replace HO_3 := zh (rq HO_3.out) ho0 hb; replace HO_4 := zh (rq HO_4.out) ho0 hb; replace HO164 := zh (rq HO164.out) ho0 hb; replace HO167 := zh (rq HO167.out) ho0 hb; replace HB := aM (bT bq hb); (try clear hb); (try clear ho0)))
     go_ret
     exact ⟨_, ew, by (with_reducible repeat (first | apply rA | apply rN | apply rD)); exact rM HO170.out (fun _ hk => trivial), bq⟩
def spec_l5Turn.f (a0 : Int) (a1 : Int) (a2 : Int) (a3 : Int) : Option (Int × Int) := (spec_l5P.f a0 a1).bind fun t171 => ((spec_l1Ten.f (wrap64 (t171 * a3))).bind fun t172 => ((spec_l5U.f a0 a1).bind fun t173 => ((spec_l1Ten.f (wrap64 (t173 * (wrap64 (a2 - t172))))).bind fun t174 => ((spec_l5P.f a0 a1).bind fun t175 => ((spec_l1Ten.f (wrap64 (t175 * (wrap64 (a3 + t174))))).bind fun t176 => (some (wrap64 ((wrap64 (a2 - t172)) - t176), wrap64 (a3 + t174))))))))
theorem spec_l5Turn.calls (a0 : Int) (a1 : Int) (a2 : Int) (a3 : Int) (r1 : Int) (r2 : Int) (w : World) (h : spec_l5Turn.f a0 a1 a2 a3 = some (r1, r2)) :
  Calls Try.prog 143 #[.int .i64 a0, .int .i64 a1, .int .i64 a2, .int .i64 a3] w fun e w' => e = .returned (.tuple #[.int .i64 r1, .int .i64 r2]) ∧ Below w.heap.size w w' := by
 have HB := aM (Below.refl w.heap.size w)
 unfold spec_l5Turn.f at h
 have H := h
 clear h
 replace H := bo H
 obtain ⟨t171, A5, H⟩ := H
 replace H := bz H
 replace H := bo H
 obtain ⟨t172, A6, H⟩ := H
 replace H := bz H
 replace H := bo H
 obtain ⟨t173, A7, H⟩ := H
 replace H := bz H
 replace H := bo H
 obtain ⟨t174, A8, H⟩ := H
 replace H := bz H
 replace H := bo H
 obtain ⟨t175, A9, H⟩ := H
 replace H := bz H
 replace H := bo H
 obtain ⟨t176, A10, H⟩ := H
 replace H := bz H
 simp only [Option.some.injEq, Prod.mk.injEq] at H
 obtain ⟨rfl, rfl⟩ := H
 go_enter Try.func143, Try.ntmps143
 go_wp2_with (first | ((with_reducible refine gC 155 rfl ?_); refine gl (some 15) Try.func155 #[.int .i64 a0, .int .i64 a1] ?_; (with_reducible refine (spec_l5P.calls a0 a1 t171 _ A5.out).mono ?_); rintro e w' ⟨rfl, ⟨nd, rfl⟩⟩; refine ii ?_) | ((with_reducible refine gC 158 rfl ?_); refine gl (some 18) Try.func158 #[.int .i64 (wrap64 (t171 * a3))] ?_; (with_reducible refine (spec_l1Ten.calls (wrap64 (t171 * a3)) t172 _ A6.out).mono ?_); rintro e w' ⟨rfl, ⟨nd, rfl⟩⟩; refine ii ?_) | ((with_reducible refine gC 156 rfl ?_); refine gl (some 23) Try.func156 #[.int .i64 a0, .int .i64 a1] ?_; (with_reducible refine (spec_l5U.calls a0 a1 t173 _ A7.out).mono ?_); rintro e w' ⟨rfl, ⟨nd, rfl⟩⟩; refine ii ?_) | ((with_reducible refine gC 158 rfl ?_); refine gl (some 26) Try.func158 #[.int .i64 (wrap64 (t173 * (wrap64 (a2 - t172))))] ?_; (with_reducible refine (spec_l1Ten.calls (wrap64 (t173 * (wrap64 (a2 - t172)))) t174 _ A8.out).mono ?_); rintro e w' ⟨rfl, ⟨nd, rfl⟩⟩; refine ii ?_) | ((with_reducible refine gC 155 rfl ?_); refine gl (some 31) Try.func155 #[.int .i64 a0, .int .i64 a1] ?_; (with_reducible refine (spec_l5P.calls a0 a1 t175 _ A9.out).mono ?_); rintro e w' ⟨rfl, ⟨nd, rfl⟩⟩; refine ii ?_) | ((with_reducible refine gC 158 rfl ?_); refine gl (some 34) Try.func158 #[.int .i64 (wrap64 (t175 * (wrap64 (a3 + t174))))] ?_; (with_reducible refine (spec_l1Ten.calls (wrap64 (t175 * (wrap64 (a3 + t174)))) t176 _ A10.out).mono ?_); rintro e w' ⟨rfl, ⟨nd, rfl⟩⟩; refine ii ?_))
 go_ret2
 exact ⟨ew, bq⟩
def spec_l7Seam.l0 : Nat → Int → List Int → List Int → Bool → Int → List Int → List Int → Int → Option (List Int × List Int)
 | 0, _, _, _, _, _, _, _, _ => none
 | k + 1, x0, x1, x2, x3, x10, x11, x12, x13 => if x13 < x10 then (if x3 = true then (if 0 ≤ (wrap64 ((wrap64 (x10 - 1)) - x13)) then (if (wrap64 ((wrap64 (x10 - 1)) - x13)) < (x1.length : Int) then (if 0 ≤ x13 then (if x13 < (x2.length : Int) then ((spec_l5Back.f x0 x13 (rd x1 (wrap64 ((wrap64 (x10 - 1)) - x13))) (rd x2 x13)).bind fun bt185 => (if (wrap64 ((wrap64 (x10 - 1)) - x13)) < (x11.length : Int) then (if x13 < (x12.length : Int) then (spec_l7Seam.l0 k x0 x1 x2 x3 x10 (x11.set ((wrap64 ((wrap64 (x10 - 1)) - x13)) : Int).toNat bt185.1) (x12.set (x13 : Int).toNat bt185.2) (wrap64 (x13 + 1))) else (none)) else (none))) else (none)) else (none)) else (none)) else (none)) else (if 0 ≤ (wrap64 ((wrap64 (x10 - 1)) - x13)) then (if (wrap64 ((wrap64 (x10 - 1)) - x13)) < (x1.length : Int) then (if 0 ≤ x13 then (if x13 < (x2.length : Int) then ((spec_l5Turn.f x0 x13 (rd x1 (wrap64 ((wrap64 (x10 - 1)) - x13))) (rd x2 x13)).bind fun bt191 => (if (wrap64 ((wrap64 (x10 - 1)) - x13)) < (x11.length : Int) then (if x13 < (x12.length : Int) then (spec_l7Seam.l0 k x0 x1 x2 x3 x10 (x11.set ((wrap64 ((wrap64 (x10 - 1)) - x13)) : Int).toNat bt191.1) (x12.set (x13 : Int).toNat bt191.2) (wrap64 (x13 + 1))) else (none)) else (none))) else (none)) else (none)) else (none)) else (none))) else (some (x11, x12))
def spec_l7Seam.f (k : Nat) (a0 : Int) (l1 : List Int) (l2 : List Int) (a3 : Bool) : Option (List Int × List Int) := (spec_l1Zeros.f (wrap64 (Int.tdiv a0 2))).bind fun t177 => ((spec_l1Zeros.f (wrap64 (Int.tdiv a0 2))).bind fun t180 => (spec_l7Seam.l0 k a0 l1 l2 a3 (wrap64 (Int.tdiv a0 2)) t177 t180 0))
def spec_l7Seam.T9 : Bool × List (List Nat × List Nat) := (true, [([], []), ([], []), ([], []), ([], []), ([3], [3]), ([], []), ([4, 5], [4, 5]), ([2, 6], [2, 6]), ([7], [7]), ([], []), ([], []), ([9, 10], [9, 10]), ([11], [11]), ([0, 1, 8, 12], [0, 1, 8, 12]), ([13], [13]), ([14], [14]), ([14], [14]), ([15, 13, 0, 1, 2, 3, 4, 5, 6, 7, 8, 9, 10, 11, 12, 13, 14, 15], [15]), ([16, 17, 0, 1, 2, 3, 4, 5, 6, 7, 8, 9, 10, 11, 12, 13, 14, 15, 16, 17], [16])])
def spec_l7Seam.B9 : List Nat := [0, 0, 0, 0, 8, 0, 56, 124, 252, 0, 0, 1536, 3584, 8191, 16383, 32767, 32767, 65535, 262143]
theorem spec_l7Seam.tab9 : rtab .any (opsOf Try.f113 9) = spec_l7Seam.T9 := by kernel_rfl
theorem spec_l7Seam.bits9 : waitsOk spec_l7Seam.T9.2 spec_l7Seam.B9 = true := by kernel_rfl
def spec_l7Seam.T10 : Bool × List (List Nat × List Nat) := (true, [([], []), ([], []), ([], []), ([], []), ([3], [3]), ([], []), ([4, 5], [4, 5]), ([2, 6], [2, 6]), ([7], [7]), ([], []), ([], []), ([9, 10], [9, 10]), ([11], [11]), ([0, 1, 8, 12], [0, 1, 8, 12]), ([13], [13]), ([14], [14]), ([14], [14]), ([15, 13, 0, 1, 2, 3, 4, 5, 6, 7, 8, 9, 10, 11, 12, 13, 14, 15], [15]), ([16, 17, 0, 1, 2, 3, 4, 5, 6, 7, 8, 9, 10, 11, 12, 13, 14, 15, 16, 17], [16])])
def spec_l7Seam.B10 : List Nat := [0, 0, 0, 0, 8, 0, 56, 124, 252, 0, 0, 1536, 3584, 8191, 16383, 32767, 32767, 65535, 262143]
theorem spec_l7Seam.tab10 : rtab .any (opsOf Try.f113 10) = spec_l7Seam.T10 := by kernel_rfl
theorem spec_l7Seam.bits10 : waitsOk spec_l7Seam.T10.2 spec_l7Seam.B10 = true := by kernel_rfl
theorem spec_l7Seam.calls (k : Nat) (a0 : Int) (A1 : Option Addr) (c1 : Nat) (l1 : List Int) (A2 : Option Addr) (c2 : Nat) (l2 : List Int) (a3 : Bool) (r1 : List Int) (r2 : List Int) (w : World) (hr1 : Kd.C (Kd.int .i64) w A1 l1.length l1) (hc1 : l1.length ≤ c1) (hr2 : Kd.C (Kd.int .i64) w A2 l2.length l2) (hc2 : l2.length ≤ c2) (h : spec_l7Seam.f k a0 l1 l2 a3 = some (r1, r2)) :
  Calls Try.prog 113 #[.int .i64 a0, .slice A1 l1.length c1, .slice A2 l2.length c2, .bool a3] w fun e w' => ∃ v0_ v1_ : Value, e = .returned (.tuple #[v0_, v1_]) ∧ Kd.R (Kd.int .i64) 2 w' w.heap.size (fun k_ => nb v1_ k_) v0_ r1 ∧ Kd.R (Kd.int .i64) 2 w' w.heap.size (fun k_ => nb v0_ k_) v1_ r2 ∧ Below w.heap.size w w' := by
 have HR1 := aM hr1
 have HC1 := aM hc1
 clear hr1 hc1
 have HR2 := aM hr2
 have HC2 := aM hc2
 clear hr2 hc2
 have HB := aM (Below.refl w.heap.size w)
 unfold spec_l7Seam.f at h
 have H := h
 clear h
 replace H := bo H
 obtain ⟨t177, A5, H⟩ := H
 replace H := bz H
 replace H := bo H
 obtain ⟨t180, A6, H⟩ := H
 replace H := bz H
 have H' := aM H
 clear H
 go_enter Try.func113, Try.ntmps113
 go_wp2_with (first | ((with_reducible refine gC 136 rfl ?_); refine gl (some 19) Try.func136 #[.int .i64 (wrap64 (Int.tdiv a0 2))] ?_; (with_reducible refine (spec_l1Zeros.calls (wrap64 (Int.tdiv a0 2)) t177 _ A5.out).mono ?_); rintro e w7 ⟨v178, rfl, ho0, hb⟩; refine ii ?_; have HO179 := aM (rG ho0 (bZ bq)); replace HB := aM (bT bq hb); (try clear hb); (try clear ho0)) | ((with_reducible refine gC 136 rfl ?_); refine gl (some 21) Try.func136 #[.int .i64 (wrap64 (Int.tdiv a0 2))] ?_; (with_reducible refine (spec_l1Zeros.calls (wrap64 (Int.tdiv a0 2)) t180 _ A6.out).mono ?_); rintro e w8 ⟨v181, rfl, ho0, hb⟩; refine ii ?_; have HO182 := aM (rG (wq ho0 HO179) (bZ bq)); replace HO179 := zh (rq HO179.out) ho0 hb; replace HB := aM (bT bq hb); (try clear hb); (try clear ho0)))
 go_loopg [13] k (fun kq v13 w' => ∃ (x11_1 : List Int) (x12_1 : List Int) (x13_1 : Int), v13 = .int .i64 x13_1 ∧ Aside0 (spec_l7Seam.l0 kq a0 l1 l2 a3 (wrap64 (Int.tdiv a0 2)) x11_1 x12_1 x13_1 = some (r1, r2)) ∧ Aside0 (kq ≤ k) ∧ Aside0 (Kd.R (Kd.int .i64) 2 w' w.heap.size (fun k_ => nb v181 k_) v178 x11_1) ∧ Aside0 (Kd.R (Kd.int .i64) 2 w' w.heap.size (fun k_ => nb v178 k_) v181 x12_1) ∧ Aside0 (Below w.heap.size w w'))
 case atStart => exact ⟨(t177), (t180), (0), (ex), H', ⟨Nat.le_refl _⟩, aM (rq (rM HO179.out (fun _ hk => hk.2))), aM (rq (rM HO182.out (fun _ hk => hk.2))), ⟨bq⟩⟩
 case round =>
  clear H'
  try clear c1
  try clear c2
  try clear p2
  try clear p6
  obtain ⟨x11_1, x12_1, x13_1, rfl, HA, HK1, HO_11, HO_12, HB⟩ := hrel
  cases gk with
  | zero => exact absurd HA.out (by simp [spec_l7Seam.l0])
  | succ k1 =>
   have H := HA.out
   clear HA
   simp only [spec_l7Seam.l0] at H
   by_cases c9 : x13_1 < (wrap64 (Int.tdiv a0 2))
   ·rw [if_pos c9] at H
    have c9b0 := dT c9
    clear c9
    by_cases c10 : a3 = true
    ·subst c10
     have H1 : (if 0 ≤ (wrap64 ((wrap64 ((wrap64 (Int.tdiv a0 2)) - 1)) - x13_1)) then (if (wrap64 ((wrap64 ((wrap64 (Int.tdiv a0 2)) - 1)) - x13_1)) < (l1.length : Int) then (if 0 ≤ x13_1 then (if x13_1 < (l2.length : Int) then ((spec_l5Back.f a0 x13_1 (rd l1 (wrap64 ((wrap64 ((wrap64 (Int.tdiv a0 2)) - 1)) - x13_1))) (rd l2 x13_1)).bind fun bt185 => (if (wrap64 ((wrap64 ((wrap64 (Int.tdiv a0 2)) - 1)) - x13_1)) < (x11_1.length : Int) then (if x13_1 < (x12_1.length : Int) then (spec_l7Seam.l0 k1 a0 l1 l2 true (wrap64 (Int.tdiv a0 2)) (x11_1.set ((wrap64 ((wrap64 ((wrap64 (Int.tdiv a0 2)) - 1)) - x13_1)) : Int).toNat bt185.1) (x12_1.set (x13_1 : Int).toNat bt185.2) (wrap64 (x13_1 + 1))) else (none)) else (none))) else (none)) else (none)) else (none)) else (none)) = some (r1, r2) := by rw [if_pos rfl] at H; exact H
     clear H
     have H := H1
     clear H1
     obtain ⟨ji11, hji11⟩ : ∃ j_ : Int, (wrap64 ((wrap64 ((wrap64 (Int.tdiv a0 2)) - 1)) - x13_1)) = j_ := ⟨_, rfl⟩
     rw [hji11] at H
     have hji11w : (IntKind.i64.wrap ((wrap64 ((wrap64 (Int.tdiv a0 2)) - 1)) - x13_1)) = ji11 := (i64_w _).trans hji11
     by_cases c12 : 0 ≤ (ji11)
     ·rw [if_pos c12] at H
      have c12b0 := dT c12
      clear c12
      by_cases c13 : (ji11) < (l1.length : Int)
      ·rw [if_pos c13] at H
       have c13b0 := dT c13
       clear c13
       by_cases c14 : 0 ≤ x13_1
       ·rw [if_pos c14] at H
        have c14b0 := dT c14
        clear c14
        by_cases c15 : x13_1 < (l2.length : Int)
        ·rw [if_pos c15] at H
         have c15b0 := dT c15
         clear c15
         replace H := bo H
         obtain ⟨⟨t185, t186⟩, A16, H⟩ := H
         replace H := bz H
         by_cases c17 : (ji11) < (x11_1.length : Int)
         ·rw [if_pos c17] at H
          have c17b0 := dT c17
          clear c17
          obtain ⟨y187, Ny187⟩ : ∃ y_ : List Int, Aside0 (y_ = (x11_1.set ((ji11) : Int).toNat t185)) := ⟨_, ⟨rfl⟩⟩
          rw [← Ny187.out] at H
          by_cases c19 : x13_1 < (x12_1.length : Int)
          ·rw [if_pos c19] at H
           have c19b0 := dT c19
           clear c19
           obtain ⟨y188, Ny188⟩ : ∃ y_ : List Int, Aside0 (y_ = (x12_1.set (x13_1 : Int).toNat t186)) := ⟨_, ⟨rfl⟩⟩
           rw [← Ny188.out] at H
           have H' := aM H
           clear H
           try go_wp2
           replace HO_11 := zd HO_11
           replace HO_12 := zd HO_12
           replace HB := aM (bD HB.out)
           have p183 : 0 ≤ ((ji11) : Int) := dt
           have q183 : (ji11) < (l1.length : Int) := dt
           obtain ⟨ad183, e183, hx183_0⟩ := Kd.at_int HR1.out (ji11) p183 q183
           have hw183_0 := hx183_0
           cases e183
           replace hx183_0 := (HB.out.cell (World.block_lt_of_cell? w _ hx183_0)).trans hx183_0
           replace p183 := eq_true p183
           replace q183 := eq_true q183
           have p184 : 0 ≤ (x13_1 : Int) := dt
           have q184 : x13_1 < (l2.length : Int) := dt
           obtain ⟨ad184, e184, hx184_0⟩ := Kd.at_int HR2.out x13_1 p184 q184
           have hw184_0 := hx184_0
           cases e184
           replace hx184_0 := (HB.out.cell (World.block_lt_of_cell? w _ hx184_0)).trans hx184_0
           replace p184 := eq_true p184
           replace q184 := eq_true q184
           refine start_ (n := 19) (S := fun w' => w'.cell? (ad183.add ((ji11)).toNat) = some (.int .i64 (rd l1 (ji11))) ∧ w'.cell? (ad184.add (x13_1).toNat) = some (.int .i64 (rd l2 x13_1))) (ds := []) #[N,N,N,N,N,N,N,N,N,N,N,N,N,N,N,N,N,N,N] kr rfl rfl ⟨((HB.out.cell (World.block_lt_of_cell? w _ hw183_0)).trans hw183_0), ((HB.out.cell (World.block_lt_of_cell? w _ hw184_0)).trans hw184_0)⟩ (fun hHeld => ?_); refine with_tabW spec_l7Seam.tab9 spec_l7Seam.bits9 (fun HT_ HW_ => ?_)
           generalize wr.drew = w21 at HO_11 HO_12 HB hx183_0 hx184_0 hHeld ⊢
           refine p1 29 0 ?_
           refine p1 30 1 ?_
           refine p1 31 2 ?_
           refine p1 32 3 ?_
           refine p1 33 4 ?_
           refine p1 34 5 ?_
           refine p1 35 6 ?_
           refine p1 36 7 ?_
           refine p1 38 9 ?_
           refine p1 39 10 ?_
           refine p1 40 11 ?_
           refine t1 37 8 ?_ (hy := by rintro w' ⟨s0, s1⟩; go_simp; with_reducible rfl)
           refine t1 41 12 ?_ (hy := by rintro w' ⟨s0, s1⟩; go_simp; with_reducible rfl)
           refine o1 42 13 fun K hK => ?_
           refine goes_ Try.func142 kr rfl #[.int .i64 a0, .int .i64 x13_1, .int .i64 (rd l1 (ji11)), .int .i64 (rd l2 x13_1)] (by rfl) rfl rfl (by (try simp only [List.map_toArray, List.map_cons, List.map_nil]); first | done | (simp only [hji11]; rfl) | rfl | (simp only [List.length_drop, List.length_take]; rfl)) ?_
           with_reducible refine (spec_l5Back.calls a0 x13_1 (rd l1 (ji11)) (rd l2 x13_1) t185 t186 _ A16.out).mono ?_
           rintro e w22 ⟨rfl, hb⟩
           refine ⟨_, rfl, ?_⟩
           replace HO_11 := zl HO_11 hb
           replace HO_12 := zl HO_12 hb
           replace HB := aM (bT bq hb)
           (try clear hb)
           (try clear hb2)
           (try clear hk)
           (try clear hi)
           refine hK.out _ _ ⟨((HB.out.cell (World.block_lt_of_cell? w _ hw183_0)).trans hw183_0), ((HB.out.cell (World.block_lt_of_cell? w _ hw184_0)).trans hw184_0)⟩ (fun hHeld => ?_)
           clear hK K
           refine nn ?_
           refine p1 28 14 ?_
           refine p1 43 15 ?_
           refine p1 44 16 ?_
           refine p1 14 17 ?_
           refine p1 15 18 ?_
           refine done_ (done_of HT_.out kr) ?_
           have p18 : 0 ≤ ((ji11) : Int) := dt
           have q18 : ((ji11) : Int) < ((x11_1.length : Int) : Int) := dt
           obtain ⟨go18, co18, eo18, gb18, gl18, cl18, HG18⟩ := Kd.R_form HO_11.out (by omega)
           (first | cases eo18 | (injection eo18 with ea_ en_ ec_; (first | subst ea_ | (injection ea_ with ea_; subst ea_)); subst ec_; clear en_))
           have GB18 := aM gb18
           have GG18 := aM HG18
           clear gb18 gl18 HG18
           obtain ⟨hx18_0, hf18_0⟩ := Kd.R_celln 0 HO_11.out ((ji11) : Int) p18 q18
           replace p18 := eq_true p18
           replace q18 := eq_true q18
           obtain ⟨hy23_, hz23_⟩ := Kd.R_celln 0 HO_11.out ((ji11) : Int) (dt) (dt)
           have HP23 := Kd.R_putg HO_11.out ((ji11) : Int) t185
           try go_wp2_with (first | ((with_reducible refine gate_store (t := 2) (p := 68) rfl ?_); refine store_event (t := 2) (p := 68) (v := ?vo_w24) (w1 := (w22.setCell ⟨go18, ((ji11) : Int).toNat, none⟩ (.int .i64 t185))) ?hg ?ho ?hn ?hr ?_; (case ho => rfl); (case hg => rfl); (case hn => rfl); (case hr => first | (go_simp; done) | (go_simp; rfl)); intro w24 hw; have hg : w22.grownBy w24 (some go18) := (by rw [hw]; exact HP23.2); have hp_ : Kd.R (Kd.int .i64) 2 w24 w.heap.size (fun k_ => nb v181 k_) (.slice (some ⟨go18, 0, none⟩) x11_1.length co18) y187 := (by rw [hw, Ny187.out]; exact HP23.1); clear HP23; replace HO_11 := aM (hp_); replace HO_12 := aM (Kd.R_after (v := (.slice (some ⟨go18, 0, none⟩) x11_1.length co18)) (v1 := (.slice (some ⟨go18, 0, none⟩) x11_1.length co18)) (ok := (fun _ => True)) (rq (rM HO_12.out (fun _ hk => ⟨trivial, hk⟩))) hg (.inl rfl)); replace HB := aM ((by rw [hw]; exact bS (HB.out) GB18.out : Below w.heap.size w w24)); clear hg hw hp_; have p20 : 0 ≤ (x13_1 : Int) := dt; have q20 : (x13_1 : Int) < ((x12_1.length : Int) : Int) := dt; obtain ⟨go20, co20, eo20, gb20, gl20, cl20, HG20⟩ := Kd.R_form HO_12.out (by omega); (first | cases eo20 | (injection eo20 with ea_ en_ ec_; (first | subst ea_ | (injection ea_ with ea_; subst ea_)); subst ec_; clear en_)); have GB20 := aM gb20; have GG20 := aM HG20; clear gb20 gl20 HG20; obtain ⟨hx20_0, hf20_0⟩ := Kd.R_celln 0 HO_12.out (x13_1 : Int) p20 q20; replace p20 := eq_true p20; replace q20 := eq_true q20; have n_ := aM (rM (ok' := (fun k_ => some k_ ≠ (.slice (some ⟨go18, 0, none⟩) x11_1.length co18 : Value).ownBlock)) HO_12.out (fun k_ hk => hk.2)); clear HO_12; have HO_12 := n_; clear n_; obtain ⟨hy25_, hz25_⟩ := Kd.R_celln 0 HO_12.out (x13_1 : Int) (dt) (dt); have HP25 := Kd.R_putg HO_12.out (x13_1 : Int) t186) | ((with_reducible refine gate_store (t := 2) (p := 72) rfl ?_); refine store_event (t := 2) (p := 72) (v := ?vo_w26) (w1 := (w24.setCell ⟨go20, (x13_1 : Int).toNat, none⟩ (.int .i64 t186))) ?hg ?ho ?hn ?hr ?_; (case ho => rfl); (case hg => rfl); (case hn => rfl); (case hr => first | (go_simp; done) | (go_simp; rfl)); intro w26 hw; have hg : w24.grownBy w26 (some go20) := (by rw [hw]; exact HP25.2); have hp_ : Kd.R (Kd.int .i64) 2 w26 w.heap.size (fun k_ => some k_ ≠ (.slice (some ⟨go18, 0, none⟩) x11_1.length co18 : Value).ownBlock) (.slice (some ⟨go20, 0, none⟩) x12_1.length co20) y188 := (by rw [hw, Ny188.out]; exact HP25.1); clear HP25; replace HO_11 := aM (Kd.R_after (v := (.slice (some ⟨go20, 0, none⟩) x12_1.length co20)) (v1 := (.slice (some ⟨go20, 0, none⟩) x12_1.length co20)) (ok := (fun _ => True)) (rq (rM HO_11.out (fun _ hk => ⟨trivial, hk⟩))) hg (.inl rfl)); replace HO_12 := aM (hp_); replace HB := aM ((by rw [hw]; exact bS (HB.out) GB20.out : Below w.heap.size w w26)); clear hg hw hp_))
           go_roundg k1
           case measure => have := HK1.out; omega
           case rel => exact ⟨(y187), (y188), (wrap64 (x13_1 + 1)), (ex), H', ⟨by have := HK1.out; omega⟩, aM (rq (rM HO_11.out (fun _ hk => hk.2))), aM (rq HO_12.out), ⟨bq⟩⟩
          ·rw [if_neg c19] at H
           exact absurd H (by simp)
         ·rw [if_neg c17] at H
          exact absurd H (by simp)
        ·rw [if_neg c15] at H
         exact absurd H (by simp)
       ·rw [if_neg c14] at H
        exact absurd H (by simp)
      ·rw [if_neg c13] at H
       exact absurd H (by simp)
     ·rw [if_neg c12] at H
      exact absurd H (by simp)
    ·replace c10 := Bool.eq_false_iff.mpr c10
     subst c10
     have H1 : (if 0 ≤ (wrap64 ((wrap64 ((wrap64 (Int.tdiv a0 2)) - 1)) - x13_1)) then (if (wrap64 ((wrap64 ((wrap64 (Int.tdiv a0 2)) - 1)) - x13_1)) < (l1.length : Int) then (if 0 ≤ x13_1 then (if x13_1 < (l2.length : Int) then ((spec_l5Turn.f a0 x13_1 (rd l1 (wrap64 ((wrap64 ((wrap64 (Int.tdiv a0 2)) - 1)) - x13_1))) (rd l2 x13_1)).bind fun bt191 => (if (wrap64 ((wrap64 ((wrap64 (Int.tdiv a0 2)) - 1)) - x13_1)) < (x11_1.length : Int) then (if x13_1 < (x12_1.length : Int) then (spec_l7Seam.l0 k1 a0 l1 l2 false (wrap64 (Int.tdiv a0 2)) (x11_1.set ((wrap64 ((wrap64 ((wrap64 (Int.tdiv a0 2)) - 1)) - x13_1)) : Int).toNat bt191.1) (x12_1.set (x13_1 : Int).toNat bt191.2) (wrap64 (x13_1 + 1))) else (none)) else (none))) else (none)) else (none)) else (none)) else (none)) = some (r1, r2) := by rw [if_neg (show ¬ (false = true) by decide)] at H; exact H
     clear H
     have H := H1
     clear H1
     obtain ⟨ji27, hji27⟩ : ∃ j_ : Int, (wrap64 ((wrap64 ((wrap64 (Int.tdiv a0 2)) - 1)) - x13_1)) = j_ := ⟨_, rfl⟩
     rw [hji27] at H
     have hji27w : (IntKind.i64.wrap ((wrap64 ((wrap64 (Int.tdiv a0 2)) - 1)) - x13_1)) = ji27 := (i64_w _).trans hji27
     by_cases c28 : 0 ≤ (ji27)
     ·rw [if_pos c28] at H
      have c28b0 := dT c28
      clear c28
      by_cases c29 : (ji27) < (l1.length : Int)
      ·rw [if_pos c29] at H
       have c29b0 := dT c29
       clear c29
       by_cases c30 : 0 ≤ x13_1
       ·rw [if_pos c30] at H
        have c30b0 := dT c30
        clear c30
        by_cases c31 : x13_1 < (l2.length : Int)
        ·rw [if_pos c31] at H
         have c31b0 := dT c31
         clear c31
         replace H := bo H
         obtain ⟨⟨t191, t192⟩, A32, H⟩ := H
         replace H := bz H
         by_cases c33 : (ji27) < (x11_1.length : Int)
         ·rw [if_pos c33] at H
          have c33b0 := dT c33
          clear c33
          obtain ⟨y193, Ny193⟩ : ∃ y_ : List Int, Aside0 (y_ = (x11_1.set ((ji27) : Int).toNat t191)) := ⟨_, ⟨rfl⟩⟩
          rw [← Ny193.out] at H
          by_cases c35 : x13_1 < (x12_1.length : Int)
          ·rw [if_pos c35] at H
           have c35b0 := dT c35
           clear c35
           obtain ⟨y194, Ny194⟩ : ∃ y_ : List Int, Aside0 (y_ = (x12_1.set (x13_1 : Int).toNat t192)) := ⟨_, ⟨rfl⟩⟩
           rw [← Ny194.out] at H
           have H' := aM H
           clear H
           try go_wp2
           replace HO_11 := zd HO_11
           replace HO_12 := zd HO_12
           replace HB := aM (bD HB.out)
           have p189 : 0 ≤ ((ji27) : Int) := dt
           have q189 : (ji27) < (l1.length : Int) := dt
           obtain ⟨ad189, e189, hx189_0⟩ := Kd.at_int HR1.out (ji27) p189 q189
           have hw189_0 := hx189_0
           cases e189
           replace hx189_0 := (HB.out.cell (World.block_lt_of_cell? w _ hx189_0)).trans hx189_0
           replace p189 := eq_true p189
           replace q189 := eq_true q189
           have p190 : 0 ≤ (x13_1 : Int) := dt
           have q190 : x13_1 < (l2.length : Int) := dt
           obtain ⟨ad190, e190, hx190_0⟩ := Kd.at_int HR2.out x13_1 p190 q190
           have hw190_0 := hx190_0
           cases e190
           replace hx190_0 := (HB.out.cell (World.block_lt_of_cell? w _ hx190_0)).trans hx190_0
           replace p190 := eq_true p190
           replace q190 := eq_true q190
           refine start_ (n := 19) (S := fun w' => w'.cell? (ad189.add ((ji27)).toNat) = some (.int .i64 (rd l1 (ji27))) ∧ w'.cell? (ad190.add (x13_1).toNat) = some (.int .i64 (rd l2 x13_1))) (ds := []) #[N,N,N,N,N,N,N,N,N,N,N,N,N,N,N,N,N,N,N] kr rfl rfl ⟨((HB.out.cell (World.block_lt_of_cell? w _ hw189_0)).trans hw189_0), ((HB.out.cell (World.block_lt_of_cell? w _ hw190_0)).trans hw190_0)⟩ (fun hHeld => ?_); refine with_tabW spec_l7Seam.tab10 spec_l7Seam.bits10 (fun HT_ HW_ => ?_)
           generalize wr.drew = w37 at HO_11 HO_12 HB hx189_0 hx190_0 hHeld ⊢
           refine p1 46 0 ?_
           refine p1 47 1 ?_
           refine p1 48 2 ?_
           refine p1 49 3 ?_
           refine p1 50 4 ?_
           refine p1 51 5 ?_
           refine p1 52 6 ?_
           refine p1 53 7 ?_
           refine p1 55 9 ?_
           refine p1 56 10 ?_
           refine p1 57 11 ?_
           refine t1 54 8 ?_ (hy := by rintro w' ⟨s0, s1⟩; go_simp; with_reducible rfl)
           refine t1 58 12 ?_ (hy := by rintro w' ⟨s0, s1⟩; go_simp; with_reducible rfl)
           refine o1 59 13 fun K hK => ?_
           refine goes_ Try.func143 kr rfl #[.int .i64 a0, .int .i64 x13_1, .int .i64 (rd l1 (ji27)), .int .i64 (rd l2 x13_1)] (by rfl) rfl rfl (by (try simp only [List.map_toArray, List.map_cons, List.map_nil]); first | done | (simp only [hji27]; rfl) | rfl | (simp only [List.length_drop, List.length_take]; rfl)) ?_
           with_reducible refine (spec_l5Turn.calls a0 x13_1 (rd l1 (ji27)) (rd l2 x13_1) t191 t192 _ A32.out).mono ?_
           rintro e w38 ⟨rfl, hb⟩
           refine ⟨_, rfl, ?_⟩
           replace HO_11 := zl HO_11 hb
           replace HO_12 := zl HO_12 hb
           replace HB := aM (bT bq hb)
           (try clear hb)
           (try clear hb2)
           (try clear hk)
           (try clear hi)
           refine hK.out _ _ ⟨((HB.out.cell (World.block_lt_of_cell? w _ hw189_0)).trans hw189_0), ((HB.out.cell (World.block_lt_of_cell? w _ hw190_0)).trans hw190_0)⟩ (fun hHeld => ?_)
           clear hK K
           refine nn ?_
           refine p1 45 14 ?_
           refine p1 60 15 ?_
           refine p1 61 16 ?_
           refine p1 14 17 ?_
           refine p1 15 18 ?_
           refine done_ (done_of HT_.out kr) ?_
           have p34 : 0 ≤ ((ji27) : Int) := dt
           have q34 : ((ji27) : Int) < ((x11_1.length : Int) : Int) := dt
           obtain ⟨go34, co34, eo34, gb34, gl34, cl34, HG34⟩ := Kd.R_form HO_11.out (by omega)
           (first | cases eo34 | (injection eo34 with ea_ en_ ec_; (first | subst ea_ | (injection ea_ with ea_; subst ea_)); subst ec_; clear en_))
           have GB34 := aM gb34
           have GG34 := aM HG34
           clear gb34 gl34 HG34
           obtain ⟨hx34_0, hf34_0⟩ := Kd.R_celln 0 HO_11.out ((ji27) : Int) p34 q34
           replace p34 := eq_true p34
           replace q34 := eq_true q34
           obtain ⟨hy39_, hz39_⟩ := Kd.R_celln 0 HO_11.out ((ji27) : Int) (dt) (dt)
           have HP39 := Kd.R_putg HO_11.out ((ji27) : Int) t191
           try go_wp2_with (first | ((with_reducible refine gate_store (t := 2) (p := 68) rfl ?_); refine store_event (t := 2) (p := 68) (v := ?vo_w40) (w1 := (w38.setCell ⟨go34, ((ji27) : Int).toNat, none⟩ (.int .i64 t191))) ?hg ?ho ?hn ?hr ?_; (case ho => rfl); (case hg => rfl); (case hn => rfl); (case hr => first | (go_simp; done) | (go_simp; rfl)); intro w40 hw; have hg : w38.grownBy w40 (some go34) := (by rw [hw]; exact HP39.2); have hp_ : Kd.R (Kd.int .i64) 2 w40 w.heap.size (fun k_ => nb v181 k_) (.slice (some ⟨go34, 0, none⟩) x11_1.length co34) y193 := (by rw [hw, Ny193.out]; exact HP39.1); clear HP39; replace HO_11 := aM (hp_); replace HO_12 := aM (Kd.R_after (v := (.slice (some ⟨go34, 0, none⟩) x11_1.length co34)) (v1 := (.slice (some ⟨go34, 0, none⟩) x11_1.length co34)) (ok := (fun _ => True)) (rq (rM HO_12.out (fun _ hk => ⟨trivial, hk⟩))) hg (.inl rfl)); replace HB := aM ((by rw [hw]; exact bS (HB.out) GB34.out : Below w.heap.size w w40)); clear hg hw hp_; have p36 : 0 ≤ (x13_1 : Int) := dt; have q36 : (x13_1 : Int) < ((x12_1.length : Int) : Int) := dt; obtain ⟨go36, co36, eo36, gb36, gl36, cl36, HG36⟩ := Kd.R_form HO_12.out (by omega); (first | cases eo36 | (injection eo36 with ea_ en_ ec_; (first | subst ea_ | (injection ea_ with ea_; subst ea_)); subst ec_; clear en_)); have GB36 := aM gb36; have GG36 := aM HG36; clear gb36 gl36 HG36; obtain ⟨hx36_0, hf36_0⟩ := Kd.R_celln 0 HO_12.out (x13_1 : Int) p36 q36; replace p36 := eq_true p36; replace q36 := eq_true q36; have n_ := aM (rM (ok' := (fun k_ => some k_ ≠ (.slice (some ⟨go34, 0, none⟩) x11_1.length co34 : Value).ownBlock)) HO_12.out (fun k_ hk => hk.2)); clear HO_12; have HO_12 := n_; clear n_; obtain ⟨hy41_, hz41_⟩ := Kd.R_celln 0 HO_12.out (x13_1 : Int) (dt) (dt); have HP41 := Kd.R_putg HO_12.out (x13_1 : Int) t192) | ((with_reducible refine gate_store (t := 2) (p := 72) rfl ?_); refine store_event (t := 2) (p := 72) (v := ?vo_w42) (w1 := (w40.setCell ⟨go36, (x13_1 : Int).toNat, none⟩ (.int .i64 t192))) ?hg ?ho ?hn ?hr ?_; (case ho => rfl); (case hg => rfl); (case hn => rfl); (case hr => first | (go_simp; done) | (go_simp; rfl)); intro w42 hw; have hg : w40.grownBy w42 (some go36) := (by rw [hw]; exact HP41.2); have hp_ : Kd.R (Kd.int .i64) 2 w42 w.heap.size (fun k_ => some k_ ≠ (.slice (some ⟨go34, 0, none⟩) x11_1.length co34 : Value).ownBlock) (.slice (some ⟨go36, 0, none⟩) x12_1.length co36) y194 := (by rw [hw, Ny194.out]; exact HP41.1); clear HP41; replace HO_11 := aM (Kd.R_after (v := (.slice (some ⟨go36, 0, none⟩) x12_1.length co36)) (v1 := (.slice (some ⟨go36, 0, none⟩) x12_1.length co36)) (ok := (fun _ => True)) (rq (rM HO_11.out (fun _ hk => ⟨trivial, hk⟩))) hg (.inl rfl)); replace HO_12 := aM (hp_); replace HB := aM ((by rw [hw]; exact bS (HB.out) GB36.out : Below w.heap.size w w42)); clear hg hw hp_))
           go_roundg k1
           case measure => have := HK1.out; omega
           case rel => exact ⟨(y193), (y194), (wrap64 (x13_1 + 1)), (ex), H', ⟨by have := HK1.out; omega⟩, aM (rq (rM HO_11.out (fun _ hk => hk.2))), aM (rq HO_12.out), ⟨bq⟩⟩
          ·rw [if_neg c35] at H
           exact absurd H (by simp)
         ·rw [if_neg c33] at H
          exact absurd H (by simp)
        ·rw [if_neg c31] at H
         exact absurd H (by simp)
       ·rw [if_neg c30] at H
        exact absurd H (by simp)
      ·rw [if_neg c29] at H
       exact absurd H (by simp)
     ·rw [if_neg c28] at H
      exact absurd H (by simp)
   ·rw [if_neg c9] at H
    have c9b0 := dF c9
    clear c9
    simp only [Option.some.injEq, Prod.mk.injEq] at H
    obtain ⟨rfl, rfl⟩ := H
    go_wp2
    go_ret2
    exact ⟨_, _, ew, by (with_reducible repeat (first | apply rA | apply rN | apply rD)); exact HO_11.out, by (with_reducible repeat (first | apply rA | apply rN | apply rD)); exact HO_12.out, bq⟩
end Go.Proofs.Ytmhnpogjkbmmnaa.PFnStates
