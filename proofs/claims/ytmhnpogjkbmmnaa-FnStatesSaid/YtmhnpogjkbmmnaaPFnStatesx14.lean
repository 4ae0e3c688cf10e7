import Derived.Test.YtmhnpogjkbmmnaaPFnStatesx0
import Derived.Test.YtmhnpogjkbmmnaaPFnStatesx1
import Derived.Test.YtmhnpogjkbmmnaaPFnStatesx4
import Derived.Test.YtmhnpogjkbmmnaaPFnStatesx13
namespace Go.Proofs.Ytmhnpogjkbmmnaa.PFnStates
open Go.RowKit Go.Proofs.YtmhnpogjkbmmnaaW.PrintWords Go.Proofs.YtmhnpogjkbmmnaaW.PrintLast Go.Proofs.YtmhnpogjkbmmnaaW.PrintMore
open Go.Proofs.YtmhnpogjkbmmnaaW.PrintWords.Kd renaming R_alloc → rA, R_drewN → rN, R_drew → rD, R_far → rF, R_mono → rM, R_base → rB, R_new' → rW, R_lt → rT, R_lower → rG, R_elder' → rH, R_reads' → rR, C_below → cB
open Go.Proofs.YtmhnpogjkbmmnaaW.PrintWords renaming below_drew1 → bD, below_step → bT, below_size → bZ, blk_drewN → kN, blk_drew → kD, blk_alloc → kA, blk_below → kB, blk_cell → kC, blk_frozen → kF
open Go.Proofs.YtmhnpogjkbmmnaaW.PrintWords.Aside0 renaming mk → aM
attribute [local go_sem] max2_int min2_int max_two min_two max_three min_three max_four min_four
set_option maxHeartbeats 8000000
set_option maxRecDepth 100000
set_option linter.unusedVariables false
set_option linter.unusedSimpArgs false
mutual
def spec_l6Spread.l0 : Nat → List Int → List Int → List Int → Int → Option (List Int)
 | 0, _, _, _, _ => none
 | k + 1, x5, x6, x7, x8 => if x8 < (x5.length : Int) then (if 0 ≤ x8 then (if x8 < (x6.length : Int) then ((some (([rd x5 x8, rd x6 x8] : List Int) : List Int)).bind fun y441 => (if x7.length + y441.length < 17592186044416 then (spec_l6Spread.l0 k x5 x6 (x7 ++ y441) (wrap64 (x8 + 1))) else (none))) else (none)) else (none)) else (some x7)
def spec_l6Spread.f : Nat → List Int → Option (List Int)
 | 0, _ => none
 | k + 1, l0 => if (l0.length : Int) = 1 then ((spec_l1Ints.f l0).bind fun t421 => (some t421)) else ((spec_l6Halve.f k l0).bind fun bt424 => ((spec_l6Spread.f k bt424.1).bind fun t430 => ((spec_l6Spread.f k bt424.2).bind fun t433 => (spec_l6Spread.l0 k t430 t433 (([] : List Int)) 0))))
end
def spec_l6Spread.T10 : Bool × List (List Nat × List Nat) := (true, [([], []), ([], []), ([], []), ([1, 2], [1, 2]), ([3], [3]), ([], []), ([], []), ([5, 6], [5, 6]), ([7], [7]), ([4, 8], [4, 8]), ([0, 9], [0, 9]), ([10, 10, 0, 1, 2, 3, 4, 5, 6, 7, 8, 9, 10], [0, 10])])
def spec_l6Spread.B10 : List Nat := [0, 0, 0, 6, 14, 0, 0, 96, 224, 510, 1023, 2047]
theorem spec_l6Spread.tab10 : rtab .any (opsOf Try.f119 10) = spec_l6Spread.T10 := by kernel_rfl
theorem spec_l6Spread.bits10 : waitsOk spec_l6Spread.T10.2 spec_l6Spread.B10 = true := by kernel_rfl
theorem spec_l6Spread.calls (k : Nat) : ∀ (A0 : Option Addr) (c0 : Nat) (l0 : List Int) (r : List Int) (w : World) (hr0 : Kd.C (Kd.int .i64) w A0 l0.length l0) (hc0 : l0.length ≤ c0) (h : spec_l6Spread.f k l0 = some r),
  Calls Try.prog 119 #[.slice A0 l0.length c0] w fun e w' => ∃ v0_ : Value, e = .returned (v0_) ∧ Kd.R (Kd.int .i64) 2 w' w.heap.size (fun _ => True) v0_ r ∧ Below w.heap.size w w' := by
 induction k using Nat.strongRecOn with
 | _ k ih =>
 intro A0 c0 l0 r w hr0 hc0 h
 cases k with
 | zero => exact absurd h (by simp [spec_l6Spread.f])
 | succ k =>
 simp only [spec_l6Spread.f] at h
 have HR0 := aM hr0
 have HC0 := aM hc0
 clear hr0 hc0
 have HB := aM (Below.refl w.heap.size w)
 have H := h
 clear h
 by_cases c2 : (l0.length : Int) = 1
 ·rw [if_pos c2] at H
  have c2b0 := eT c2
  have c2b1 := nF c2
  clear c2
  replace H := bo H
  obtain ⟨t421, A3, H⟩ := H
  replace H : (some t421) = some r := H
  obtain rfl := Option.some.inj H
  go_enter Try.func119, Try.ntmps119
  go_wp2_with (first | ((with_reducible refine gC 114 rfl ?_); refine gl (some 13) Try.func114 #[.slice A0 l0.length c0] ?_; (with_reducible refine (spec_l1Ints.calls _ _ l0 t421 _ ?s1 ?s2 A3.out).mono ?_); (case s1 => exact cq HR0.out); (case s2 => exact HC0.out); rintro e w4 ⟨v422, rfl, ho0, hb⟩; refine ii ?_; have HO423 := aM (rG ho0 (bZ bq)); replace HB := aM (bT bq hb); (try clear hb); (try clear ho0)))
  go_ret
  exact ⟨_, ew, by (with_reducible repeat (first | apply rA | apply rN | apply rD)); exact HO423.out, bq⟩
 ·rw [if_neg c2] at H
  have c2b0 := eF c2
  have c2b1 := nT c2
  replace H := bo H
  obtain ⟨⟨t424, t425⟩, A5, H⟩ := H
  replace H := bz H
  replace H := bo H
  obtain ⟨t430, A6, H⟩ := H
  replace H := bz H
  replace H := bo H
  obtain ⟨t433, A7, H⟩ := H
  replace H := bz H
  obtain ⟨y436, hy436⟩ : ∃ y_ : List Int, y_ = (([] : List Int)) := ⟨_, rfl⟩
  replace H : (spec_l6Spread.l0 k t430 t433 y436 0) = some r := hl hy436 H
  have Ny436 := aM hy436
  clear hy436
  have H' := aM H
  clear H
  go_enter Try.func119, Try.ntmps119
  go_wp2_with (first | ((with_reducible refine gC 145 rfl ?_); refine gl (some 16) Try.func145 #[.slice A0 l0.length c0] ?_; (with_reducible refine (spec_l6Halve.calls k _ _ l0 t424 t425 _ ?s1 ?s2 A5.out).mono ?_); (case s1 => exact cq HR0.out); (case s2 => exact HC0.out); rintro e w8 ⟨v426, v428, rfl, ho0, ho1, hb⟩; refine ii ?_; have HO427 := aM (rG ho0 (bZ bq)); have HO429 := aM (rG ho1 (bZ bq)); replace HB := aM (bT bq hb); (try clear hb); (try clear ho0); (try clear ho1); obtain ⟨Ao9, co9, rfl⟩ := rS HO427.out) | ((with_reducible refine gC 119 rfl ?_); refine gl (some 20) Try.func119 #[.slice Ao9 t424.length co9] ?_; (with_reducible refine (ih k (by omega) _ _ t424 t430 _ ?s1 ?s2 A6.out).mono ?_); (case s1 => exact cq (rR HO427.out).2.2); (case s2 => exact (rR HO427.out).2.1); rintro e w10 ⟨v431, rfl, ho0, hb⟩; refine ii ?_; have HO432 := aM (rG (wq (wq ho0 HO427) HO429) (bZ bq)); replace HO427 := zh (rq HO427.out) ho0 hb; replace HO429 := zh (rq HO429.out) ho0 hb; replace HB := aM (bT bq hb); (try clear hb); (try clear ho0); obtain ⟨Ao11, co11, rfl⟩ := rS HO429.out) | ((with_reducible refine gC 119 rfl ?_); refine gl (some 22) Try.func119 #[.slice Ao11 t425.length co11] ?_; (with_reducible refine (ih k (by omega) _ _ t425 t433 _ ?s1 ?s2 A7.out).mono ?_); (case s1 => exact cq (rR HO429.out).2.2); (case s2 => exact (rR HO429.out).2.1); rintro e w12 ⟨v434, rfl, ho0, hb⟩; refine ii ?_; have HO435 := aM (rG (wq (wq (wq ho0 HO427) HO429) HO432) (bZ bq)); replace HO427 := zh (rq HO427.out) ho0 hb; replace HO429 := zh (rq HO429.out) ho0 hb; replace HO432 := zh (rq HO432.out) ho0 hb; replace HB := aM (bT bq hb); (try clear hb); (try clear ho0)) | ((with_reducible refine gD 23 rfl ?_); refine Kd.R_lit (Kd.int .i64) _ 2 ?hg (N := 23) ?hd (xs := ([] : List Int)) (inner := []) (ok := fun _ => True) (okp := fun _ => True) ?hr ?hp (fun _ hk => hk) trivial (Below.refl _ _) (Nat.le_refl _) (by simp) ?_; (case hd => rfl); (case hg => rfl); (case hr => first | (go_simp; done) | (go_simp; rfl)); (case hp => exact (Reps.none _ _)); intro v437 w13 ho14 hb hg_ hnew_; clear hg_ hnew_; rw [← Ny436.out] at ho14; have HO438 := aM (rG (wq (wq (wq (wq ho14 HO427) HO429) HO432) HO435) (bZ bq)); replace HO427 := zh (rq HO427.out) ho14 hb; replace HO429 := zh (rq HO429.out) ho14 hb; replace HO432 := zh (rq HO432.out) ho14 hb; replace HO435 := zh (rq HO435.out) ho14 hb; replace HB := aM (bT bq hb); clear hb ho14))
  go_loopg [7, 8] k (fun kq v7 v8 w' => ∃ (x7_1 : List Int) (x8_1 : Int), v8 = .int .i64 x8_1 ∧ Aside0 (spec_l6Spread.l0 kq t430 t433 x7_1 x8_1 = some r) ∧ Aside0 (kq ≤ k) ∧ Aside0 (Kd.R (Kd.int .i64) 2 w' w.heap.size (fun k_ => nb v434 k_ ∧ nb v7 k_) v431 t430) ∧ Aside0 (Kd.R (Kd.int .i64) 2 w' w.heap.size (fun k_ => nb v431 k_ ∧ nb v7 k_) v434 t433) ∧ Aside0 (Kd.R (Kd.int .i64) 2 w' w.heap.size (fun k_ => nb v431 k_ ∧ nb v434 k_) v7 x7_1) ∧ Aside0 (Below w.heap.size w w'))
  case atStart => exact ⟨(y436), (0), (ex), H', ⟨Nat.le_refl _⟩, aM (rq (rM HO432.out jq)), aM (rq (rM HO435.out jq)), aM (rq (rM HO438.out jq)), ⟨bq⟩⟩
  case round =>
   clear H'
   try clear c1
   try clear c2
   try clear c2b0
   try clear c2b1
   try clear p2
   try clear c11
   try clear c14
   obtain ⟨x7_1, x8_1, rfl, HA, HK1, HO_5, HO_6, HO_7, HB⟩ := hrel
   cases gk with
   | zero => exact absurd HA.out (by simp [spec_l6Spread.l0])
   | succ k1 =>
    have H := HA.out
    clear HA
    simp only [spec_l6Spread.l0] at H
    by_cases c15 : x8_1 < (t430.length : Int)
    ·rw [if_pos c15] at H
     have c15b0 := dT c15
     clear c15
     by_cases c16 : 0 ≤ x8_1
     ·rw [if_pos c16] at H
      have c16b0 := dT c16
      clear c16
      by_cases c17 : x8_1 < (t433.length : Int)
      ·rw [if_pos c17] at H
       have c17b0 := dT c17
       clear c17
       obtain ⟨y441, hy441⟩ : ∃ y_ : List Int, y_ = (([rd t430 x8_1, rd t433 x8_1] : List Int)) := ⟨_, rfl⟩
       replace H : (if x7_1.length + y441.length < 17592186044416 then (spec_l6Spread.l0 k1 t430 t433 (x7_1 ++ y441) (wrap64 (x8_1 + 1))) else (none)) = some r := hl hy441 H
       have Ny441 := aM hy441
       clear hy441
       by_cases c18 : x7_1.length + y441.length < 17592186044416
       ·rw [if_pos c18] at H
        have LMc18 := aM c18
        clear c18
        obtain ⟨y444, Ny444⟩ : ∃ y_ : List Int, Aside0 (y_ = (x7_1 ++ y441)) := ⟨_, ⟨rfl⟩⟩
        rw [← Ny444.out] at H
        have H' := aM H
        clear H
        obtain ⟨Ao19, co19, eo19⟩ := Kd.R_slice HO_5.out
        subst eo19
        try go_wp2
        replace HO_5 := zd HO_5
        replace HO_6 := zd HO_6
        replace HO_7 := zd HO_7
        replace HB := aM (bD HB.out)
        have p439 : 0 ≤ (x8_1 : Int) := dt
        have q439 : x8_1 < (t430.length : Int) := dt
        obtain ⟨ad439, e439, hx439_0⟩ := Kd.at_int (rR HO_5.out).2.2 x8_1 p439 q439
        cases e439
        replace p439 := eq_true p439
        replace q439 := eq_true q439
        obtain ⟨Ao21, co21, eo21⟩ := Kd.R_slice HO_6.out
        (first | subst eo21 | (injection eo21 with f1_ f2_ f3_; have f4_ := f1_.symm; have f5_ := f3_.symm; clear f1_ f2_ f3_; subst f4_; subst f5_))
        have p440 : 0 ≤ (x8_1 : Int) := dt
        have q440 : x8_1 < (t433.length : Int) := dt
        obtain ⟨ad440, e440, hx440_0⟩ := Kd.at_int (rR HO_6.out).2.2 x8_1 p440 q440
        cases e440
        replace p440 := eq_true p440
        replace q440 := eq_true q440
        refine start_ (n := 12) (S := fun w' => w'.cell? (ad439.add (x8_1).toNat) = some (.int .i64 (rd t430 x8_1)) ∧ w'.cell? (ad440.add (x8_1).toNat) = some (.int .i64 (rd t433 x8_1))) (ds := [10]) #[N,N,N,N,N,N,N,N,N,N,N,N] kr rfl rfl ⟨hx439_0, hx440_0⟩ (fun hHeld => ?_); refine with_tabW spec_l6Spread.tab10 spec_l6Spread.bits10 (fun HT_ HW_ => ?_)
        generalize wr.drew = w20 at HO_5 HO_6 HO_7 HB hx439_0 hx440_0 hHeld ⊢
        refine p1 30 0 ?_
        refine p1 31 1 ?_
        refine p1 32 2 ?_
        refine p1 33 3 ?_
        refine p1 35 5 ?_
        refine p1 36 6 ?_
        refine p1 37 7 ?_
        refine t1 34 4 ?_ (hy := by rintro w' ⟨s0, s1⟩; go_simp; with_reducible rfl)
        refine t1 38 8 ?_ (hy := by rintro w' ⟨s0, s1⟩; go_simp; with_reducible rfl)
        refine o1 39 9 fun K hK => ?_
        refine Kd.R_lit_step (Kd.int .i64) _ 2 ?hg (N := 39) ?hd (xs := ([rd t430 x8_1, rd t433 x8_1] : List Int)) (inner := [.int .i64 (rd t430 x8_1), .int .i64 (rd t433 x8_1)]) (ok := fun _ => True) (okp := fun _ => True) ?hr ?hp (fun _ hk => hk) trivial (Below.refl _ _) (Nat.le_refl _) (by simp) ?_; (case hd => rfl); (case hg => rfl); (case hr => first | (go_simp; done) | (go_simp; rfl)); (case hp => exact (Reps.one (show Kd.M (Kd.int .i64) _ _ _ (rd t430 x8_1) [.int .i64 (rd t430 x8_1)] from rfl) (Reps.one (show Kd.M (Kd.int .i64) _ _ _ (rd t433 x8_1) [.int .i64 (rd t433 x8_1)] from rfl) (Reps.none _ _))))
        intro v442 w22 ho23 hb hg_ hnew_
        have HS0_ := (hb.cell (World.block_lt_of_cell? _ _ (hHeld.1))).trans (hHeld.1)
        have HS1_ := (hb.cell (World.block_lt_of_cell? _ _ (hHeld.2))).trans (hHeld.2)
        clear hg_ hnew_
        rw [← Ny441.out] at ho23
        have HO443 := aM (rG (wq (wq (wq ho23 HO_5) HO_6) HO_7) (bZ bq))
        replace HO_5 := zh (rq HO_5.out) ho23 hb
        replace HO_6 := zh (rq HO_6.out) ho23 hb
        replace HO_7 := zh (rq HO_7.out) ho23 hb
        replace HB := aM (bT bq hb)
        clear hb ho23
        obtain ⟨Ao25, co25, eo25⟩ := Kd.R_slice HO443.out
        (first | subst eo25 | (injection eo25 with f1_ f2_ f3_; have f4_ := f1_.symm; have f5_ := f3_.symm; clear f1_ f2_ f3_; subst f4_; subst f5_))
        refine hK.out _ _ ⟨HS0_, HS1_⟩ (fun hHeld => ?_)
        clear hK K
        refine nn ?_
        refine last_ (i := 10) (N := some 40) #[Y,Y,Y,Y,Y,Y,Y,Y,Y,Y,Y,N] rfl rfl (one_of HT_.out kr) (by decide) (fun K hK => ?_)
        refine Kd.R_append_rows_step (Kd.int .i64) (w0 := w) w.heap.size (by rfl) (.tmp 30) (.tmp 39) 22 2 (.int .i64 0) 8 rfl Try.underlying22 info2 rfl (by decide) (by omega) u7 x7_1 y441 _ _ _ (fun k_ => some k_ ≠ (.slice (some ad439) t430.length co19 : Value).ownBlock ∧ some k_ ≠ (.slice (some ad440) t433.length co21 : Value).ownBlock ∧ nS Ao25 y441 co25 k_) (fun _ => False) rfl rfl ?aO ?aR (fun _ _ h => h) (fun _ h => h.elim) ?aF ?aB ?aS ?aL ?_
        (case aR => exact cq (rR HO443.out).2.2)
        (case aB => exact bq)
        (case aF => exact (fun k_ hk => ⟨Kd.fresh' (rT (rq HO_5.out)) k_ hk, Kd.fresh' (rT (rq HO_6.out)) k_ hk, Kd.fresh' (rT (rq HO443.out)) k_ hk⟩))
        (case aO => exact (rq (rM HO_7.out jq)))
        (case aS => exact (bZ bq))
        (case aL => have := LMc18.out; omega)
        intro v445 w24 ho hb hg hat
        rw [← Ny444.out] at ho
        replace HO_5 := aM (Kd.R_after (ok := (fun k_ => some k_ ≠ (.slice (some ad440) t433.length co21 : Value).ownBlock ∧ nS Ao25 y441 co25 k_)) (rq (rM HO_5.out jq)) hg hat)
        replace HO_6 := aM (Kd.R_after (ok := (fun k_ => some k_ ≠ (.slice (some ad439) t430.length co19 : Value).ownBlock ∧ nS Ao25 y441 co25 k_)) (rq (rM HO_6.out jq)) hg hat)
        replace HO443 := aM (Kd.R_after (ok := (fun k_ => some k_ ≠ (.slice (some ad439) t430.length co19 : Value).ownBlock ∧ some k_ ≠ (.slice (some ad440) t433.length co21 : Value).ownBlock)) (rq (rM HO443.out jq)) hg hat)
        replace HB := aM hb
        have HO446 := aM (ho)
        clear HO_7 ho hb hg hat
        refine hK.out _ _ ?_
        clear hK K
        refine nn ?_
        refine p1 7 11 ?_
        refine done_ (done_of HT_.out kr) ?_
        try go_wp2
        go_roundg k1
        case measure => have := HK1.out; omega
        case rel => exact ⟨(y444), (wrap64 (x8_1 + 1)), (ex), H', ⟨by have := HK1.out; omega⟩, aM (rq (rM HO_5.out jq)), aM (rq (rM HO_6.out jq)), aM (rq (rM HO446.out jq)), ⟨bq⟩⟩
       ·rw [if_neg c18] at H
        exact absurd H (by simp)
      ·rw [if_neg c17] at H
       exact absurd H (by simp)
     ·rw [if_neg c16] at H
      exact absurd H (by simp)
    ·rw [if_neg c15] at H
     have c15b0 := dF c15
     clear c15
     obtain rfl := Option.some.inj H
     obtain ⟨Ao26, co26, eo26⟩ := Kd.R_slice HO_5.out
     subst eo26
     go_wp2
     go_ret
     exact ⟨_, ew, by (with_reducible repeat (first | apply rA | apply rN | apply rD)); exact rM HO_7.out (fun _ hk => trivial), bq⟩
def spec_l7Feed.f (k : Nat) (a0_0 : Int) (l0_1 : List Int) (l0_2 : List Int) (l1 : List Int) : Option (Int × List Int × List Int × List Int) := if 0 ≤ (wrap64 (Int.tdiv a0_0 2)) then (if (wrap64 (Int.tdiv a0_0 2)) ≤ (l1.length : Int) then ((spec_l7Seam.f k a0_0 l0_2 (l1.take ((wrap64 (Int.tdiv a0_0 2)) : Int).toNat) false).bind fun bt449 => ((spec_l1Ints.f l0_1).bind fun t455 => (if t455.length + bt449.1.length < 17592186044416 then ((spec_l1Ints.f (l1.drop ((wrap64 (Int.tdiv a0_0 2)) : Int).toNat)).bind fun t462 => ((spec_l6Spread.f k (t455 ++ bt449.1)).bind fun t465 => (some (a0_0, bt449.2, t462, t465)))) else (none)))) else (none)) else (none)
def spec_l7Feed.T2 : Bool × List (List Nat × List Nat) := (true, [([], []), ([0], [0]), ([1], [1]), ([2], [2]), ([], []), ([4], [4]), ([5], [5]), ([6], [6]), ([], []), ([], []), ([8, 9], [8, 9]), ([3, 7, 10], [3, 7, 10]), ([11], [11]), ([12], [12]), ([12], [12]), ([13, 11, 0, 1, 2, 3, 4, 5, 6, 7, 8, 9, 10, 11, 12, 13], [13]), ([14, 15, 0, 1, 2, 3, 4, 5, 6, 7, 8, 9, 10, 11, 12, 13, 14, 15], [14])])
def spec_l7Feed.B2 : List Nat := [0, 1, 3, 7, 0, 16, 48, 112, 0, 0, 768, 2047, 4095, 8191, 8191, 16383, 65535]
theorem spec_l7Feed.tab2 : rtab .any (opsOf Try.f75 2) = spec_l7Feed.T2 := by kernel_rfl
theorem spec_l7Feed.bits2 : waitsOk spec_l7Feed.T2.2 spec_l7Feed.B2 = true := by kernel_rfl
def spec_l7Feed.T4 : Bool × List (List Nat × List Nat) := (true, [([], []), ([0], [0]), ([1], [1]), ([2], [2]), ([], []), ([], []), ([], []), ([5, 6], [5, 6]), ([7], [7]), ([3, 4, 8], [3, 4, 8]), ([], []), ([10, 8], [10]), ([9, 11, 0, 1, 2, 3, 4, 5, 6, 7, 8, 9], [9]), ([11, 12, 0, 1, 2, 3, 4, 5, 6, 7, 8, 9, 10, 11, 12], [11])])
def spec_l7Feed.B4 : List Nat := [0, 1, 3, 7, 0, 0, 0, 96, 224, 511, 0, 1504, 4095, 8191]
theorem spec_l7Feed.tab4 : rtab .any (opsOf Try.f75 4) = spec_l7Feed.T4 := by kernel_rfl
theorem spec_l7Feed.bits4 : waitsOk spec_l7Feed.T4.2 spec_l7Feed.B4 = true := by kernel_rfl
theorem spec_l7Feed.calls (k : Nat) (g : Nat) (a0_0 : Int) (A0_1 : Option Addr) (c0_1 : Nat) (l0_1 : List Int) (A0_2 : Option Addr) (c0_2 : Nat) (l0_2 : List Int) (A1 : Option Addr) (c1 : Nat) (l1 : List Int) (r1 : Int) (r2 : List Int) (r3 : List Int) (r4 : List Int) (w : World) (hG : w.heap[g]? = some (.cells #[.int .i64 a0_0, .slice A0_1 l0_1.length c0_1, .slice A0_2 l0_2.length c0_2] 48 (0, 0))) (hr0_1 : Kd.C (Kd.int .i64) w A0_1 l0_1.length l0_1) (hc0_1 : l0_1.length ≤ c0_1) (hr0_2 : Kd.C (Kd.int .i64) w A0_2 l0_2.length l0_2) (hc0_2 : l0_2.length ≤ c0_2) (hr1 : Kd.C (Kd.int .i64) w A1 l1.length l1) (hc1 : l1.length ≤ c1) (h : spec_l7Feed.f k a0_0 l0_1 l0_2 l1 = some (r1, r2, r3, r4)) :
  Calls Try.prog 75 #[.pointer (some ⟨g, 0, none⟩), .slice A1 l1.length c1] w fun e w' => ∃ v1_ v2_ v3_ : Value, e = .returned (.tuple #[.agg #[.int .i64 r1, v1_, v2_], v3_]) ∧ Kd.R (Kd.int .i64) 2 w' w.heap.size (fun k_ => nb v2_ k_ ∧ nb v3_ k_) v1_ r2 ∧ Kd.R (Kd.int .i64) 2 w' w.heap.size (fun k_ => nb v1_ k_ ∧ nb v3_ k_) v2_ r3 ∧ Kd.R (Kd.int .i64) 2 w' w.heap.size (fun k_ => nb v1_ k_ ∧ nb v2_ k_) v3_ r4 ∧ Below w.heap.size w w' := by
 have hu48 := Try.underlying48
 have HR0_1 := aM hr0_1
 have HC0_1 := aM hc0_1
 clear hr0_1 hc0_1
 have HR0_2 := aM hr0_2
 have HC0_2 := aM hc0_2
 clear hr0_2 hc0_2
 have HR1 := aM hr1
 have HC1 := aM hc1
 clear hr1 hc1
 have BK0 := aM hG
 clear hG
 have HB := aM (Below.refl w.heap.size w)
 unfold spec_l7Feed.f at h
 have H := h
 clear h
 obtain ⟨ji3, hji3⟩ : ∃ j_ : Int, (wrap64 (Int.tdiv a0_0 2)) = j_ := ⟨_, rfl⟩
 rw [hji3] at H
 have hji3w : (IntKind.i64.wrap (Int.tdiv a0_0 2)) = ji3 := (i64_w _).trans hji3
 by_cases c4 : 0 ≤ (ji3)
 ·rw [if_pos c4] at H
  have c4b0 := eq_true c4
  have c4b1 := dT c4
  clear c4
  by_cases c5 : (ji3) ≤ (l1.length : Int)
  ·rw [if_pos c5] at H
   have c5b0 := eq_true c5
   have c5b1 := dT c5
   clear c5
   replace H := bo H
   obtain ⟨⟨t449, t450⟩, A6, H⟩ := H
   replace H := bz H
   replace H := bo H
   obtain ⟨t455, A7, H⟩ := H
   replace H := bz H
   by_cases c8 : t455.length + t449.length < 17592186044416
   ·rw [if_pos c8] at H
    have LMc8 := aM c8
    clear c8
    obtain ⟨y458, Ny458⟩ : ∃ y_ : List Int, Aside0 (y_ = (t455 ++ t449)) := ⟨_, ⟨rfl⟩⟩
    rw [← Ny458.out] at H
    have c9b0 := eq_true (dt : 0 ≤ (ji3))
    have c10b0 := eq_true (dt : (ji3) ≤ (l1.length : Int))
    replace H := bo H
    obtain ⟨t462, A11, H⟩ := H
    replace H := bz H
    replace H := bo H
    obtain ⟨t465, A12, H⟩ := H
    replace H := bz H
    simp only [Option.some.injEq, Prod.mk.injEq] at H
    obtain ⟨rfl, rfl, rfl, rfl⟩ := H
    go_enter Try.func75, Try.ntmps75
    try go_wp2_with (first | ((with_reducible refine gD 4 rfl ?_); refine bx 4 48 #[.int .i64 0, .slice none 0 0, .slice none 0 0] ?_; intro gb447 hg w13 hbox hb; have BK447 := aM hbox; have GW447 := gw w hg; have GE447 := GW447; replace HB := aM (bT bq hb); have NB0_447 := aM ((by rw [hg]; exact Nat.ne_of_lt (blk_lt (g := g) (o := .cells #[.int .i64 a0_0, .slice A0_1 l0_1.length c0_1, .slice A0_2 l0_2.length c0_2] 48 (0, 0)) (kq BK0.out)) : g ≠ gb447)); have NB447_0 := aM ((by rw [hg]; exact Nat.ne_of_gt (blk_lt (g := g) (o := .cells #[.int .i64 a0_0, .slice A0_1 l0_1.length c0_1, .slice A0_2 l0_2.length c0_2] 48 (0, 0)) (kq BK0.out)) : gb447 ≠ g)); replace BK0 := aM (kB (g := g) (o := .cells #[.int .i64 a0_0, .slice A0_1 l0_1.length c0_1, .slice A0_2 l0_2.length c0_2] 48 (0, 0)) (kq BK0.out) hb); clear hb hbox hg; have hnb14 := NB0_447.out; have hnc14 := NB447_0.out; obtain ⟨hcz15_0, hcz15_1, hcz15_2, hfz15_0, hfz15_1, hfz15_2⟩ := b3 BK0.out))
    replace BK0 := zk BK0
    replace BK447 := zk BK447
    replace HB := aM (bD HB.out)
    obtain ⟨i017, hi017, _, hsz17, _⟩ := info_parts info2
    obtain ⟨hcut17, hA17, hC17⟩ := print_take_of (P := Try.prog) (Value.int .i64) 0 22 2 .i64 Try.underlying22 hi017 hsz17 A1 c1 l1 (ji3) (dt) (dt) HC1.out
    have HR448 := aM (Kd.C_of_reads (h1 := fun _ => rfl) (hA17 _ (Kd.reads_of_C HR1.out)))
    have HC448 := aM hC17
    clear hA17 hC17 hi017 hsz17
    refine start_ (n := 17) (S := fun w' => w'.cell? ⟨g, 0, none⟩ = some (.int .i64 a0_0) ∧ w'.cell? ⟨g, 1, none⟩ = some (.slice A0_1 l0_1.length c0_1) ∧ w'.cell? ⟨g, 2, none⟩ = some (.slice A0_2 l0_2.length c0_2)) (ds := []) #[N,N,N,N,N,N,N,N,N,N,N,N,N,N,N,N,N] kr rfl rfl ⟨cc, cc, cc⟩ (fun hHeld => ?_); refine with_tabW spec_l7Feed.tab2 spec_l7Feed.bits2 (fun HT_ HW_ => ?_)
    generalize w13.drew = w16 at BK0 BK447 HB HR448 hHeld ⊢
    refine p1 16 0 ?_
    refine p1 17 1 ?_
    refine p1 18 2 ?_
    refine p1 20 4 ?_
    refine p1 21 5 ?_
    refine p1 22 6 ?_
    refine p1 24 8 ?_
    refine p1 25 9 ?_
    refine p1 26 10 ?_
    refine t1 19 3 ?_ (hy := by rintro w' ⟨s0, s1, s2⟩; go_simp; with_reducible rfl)
    refine t1 23 7 ?_ (hy := by rintro w' ⟨s0, s1, s2⟩; go_simp; with_reducible rfl)
    refine o1 27 11 fun K hK => ?_
    refine goes_ Try.func113 kr rfl #[.int .i64 a0_0, .slice A0_2 l0_2.length c0_2, .slice A1 (l1.take ((ji3) : Int).toNat).length c1, .bool false] (by rfl) rfl rfl (by (try simp only [List.map_toArray, List.map_cons, List.map_nil]); first | done | (rw [show (l1.take ((ji3) : Int).toNat).length = (ji3).toNat from (by rw [List.length_take]; have h_ : ((ji3) : Int) ≤ (l1.length : Int) := dt; omega)] <;> rfl) | (simp only [hji3]; rfl) | rfl | (simp only [List.length_drop, List.length_take]; rfl)) ?_
    with_reducible refine (spec_l7Seam.calls k a0_0 _ _ l0_2 _ _ (l1.take ((ji3) : Int).toNat) false t449 t450 _ ?s1 ?s2 ?s3 ?s4 A6.out).mono ?_
    (case s1 => exact cq (cB HR0_2.out HB.out))
    (case s2 => exact HC0_2.out)
    (case s3 => exact cq (cB HR448.out HB.out))
    (case s4 => exact HC448.out)
    rintro e w18 ⟨v451, v453, rfl, ho0, ho1, hb⟩
    refine ⟨_, rfl, ?_⟩
    have HO452 := aM (rG ho0 (bZ bq))
    have HO454 := aM (rG ho1 (bZ bq))
    replace BK0 := aM (kB (g := g) (o := .cells #[.int .i64 a0_0, .slice A0_1 l0_1.length c0_1, .slice A0_2 l0_2.length c0_2] 48 (0, 0)) (kq BK0.out) hb)
    replace BK447 := zb BK447 hb
    replace HB := aM (bT bq hb)
    (try clear hb)
    (try clear hb2)
    (try clear hk)
    (try clear hi)
    (try clear ho0)
    (try clear ho1)
    refine hK.out _ _ ⟨cc, cc, cc⟩ (fun hHeld => ?_)
    clear hK K
    refine nn ?_
    refine p1 15 12 ?_
    refine p1 28 13 ?_
    refine p1 29 14 ?_
    refine p1 7 15 ?_
    refine p1 8 16 ?_
    refine done_ (done_of HT_.out kr) ?_
    obtain ⟨hcz19_0, hcz19_1, hcz19_2, hfz19_0, hfz19_1, hfz19_2⟩ := b3 BK0.out
    try go_wp2_with (first | ((with_reducible refine gC 114 rfl ?_); refine gl (some 34) Try.func114 #[.slice A0_1 l0_1.length c0_1] ?_; (with_reducible refine (spec_l1Ints.calls _ _ l0_1 t455 _ ?s1 ?s2 A7.out).mono ?_); (case s1 => exact cq (cB HR0_1.out HB.out)); (case s2 => exact HC0_1.out); rintro e w20 ⟨v456, rfl, ho0, hb⟩; refine ii ?_; have HO457 := aM (rG (wq (wq ho0 HO452) HO454) (bZ bq)); replace HO452 := zh (rq HO452.out) ho0 hb; replace HO454 := zh (rq HO454.out) ho0 hb; replace BK0 := aM (kB (g := g) (o := .cells #[.int .i64 a0_0, .slice A0_1 l0_1.length c0_1, .slice A0_2 l0_2.length c0_2] 48 (0, 0)) (kq BK0.out) hb); replace BK447 := zb BK447 hb; replace HB := aM (bT bq hb); (try clear hb); (try clear ho0); obtain ⟨Ao22, co22, rfl⟩ := rS HO452.out) | ((with_reducible refine gate_builtin (b := .append) (xs := #[.tmp 34, .tmp 35]) rfl ?_); at_builtin; refine Kd.R_append_rows (Kd.int .i64) (w0 := w) w.heap.size rfl (.tmp 34) (.tmp 35) 22 2 (.int .i64 0) 8 rfl Try.underlying22 info2 rfl (by decide) (by omega) v456 t455 t449 _ _ _ (fun k_ => nS Ao22 t449 co22 k_ ∧ nb v453 k_) (fun _ => False) rfl rfl ?aO ?aR (fun _ _ h => h) (fun _ h => h.elim) ?aF ?aB ?aS ?aL ?_; (case aR => exact cq (rR HO452.out).2.2); (case aB => exact bq); (case aF => exact (fun k_ hk => ⟨Kd.fresh' (rT (rq HO452.out)) k_ hk, Kd.fresh' (rT (rq HO454.out)) k_ hk⟩)); (case aO => exact (rq (rM HO457.out jq))); (case aS => exact (bZ bq)); (case aL => have := LMc8.out; omega); intro v459 w21 ho hb hg hat; rw [← Ny458.out] at ho; replace BK0 := aM (blk_grown (g := g) (o := .cells #[.int .i64 a0_0, .slice A0_1 l0_1.length c0_1, .slice A0_2 l0_2.length c0_2] 48 (0, 0)) (kq BK0.out) hg (Kd.R_ne HO457.out BK0.out (by decide))); replace BK447 := aM (blk_grown (kq BK447.out) hg (Kd.R_ne HO457.out BK447.out (by decide))); replace HO452 := aM (Kd.R_after (ok := (fun k_ => nb v453 k_)) (rq HO452.out) hg hat); replace HO454 := aM (Kd.R_after (ok := (fun k_ => nS Ao22 t449 co22 k_)) (rq HO454.out) hg hat); replace HB := aM hb; have HO460 := aM (ho); clear HO457 ho hb hg hat))
    replace HO452 := zd HO452
    replace HO454 := zd HO454
    replace HO460 := zd HO460
    replace BK0 := zk BK0
    replace BK447 := zk BK447
    replace HB := aM (bD HB.out)
    obtain ⟨i024, hi024, _, hsz24, _⟩ := info_parts info2
    obtain ⟨A24, hcut24, hA24, hC24⟩ := print_drop_of (P := Try.prog) (Value.int .i64) 0 22 2 .i64 Try.underlying22 hi024 hsz24 A1 c1 l1 (ji3) (dt) (dt) HC1.out
    have HR461 := aM (Kd.C_of_reads (h1 := fun _ => rfl) (hA24 _ (Kd.reads_of_C HR1.out)))
    have HC461 := aM hC24
    clear hA24 hC24 hi024 hsz24
    refine start_ (n := 14) (S := fun w' => w'.cell? ⟨g, 0, none⟩ = some (.int .i64 a0_0) ∧ w'.cell? ⟨g, 1, none⟩ = some (.slice A0_1 l0_1.length c0_1) ∧ w'.cell? ⟨g, 2, none⟩ = some (.slice A0_2 l0_2.length c0_2)) (ds := []) #[N,N,N,N,N,N,N,N,N,N,N,N,N,N] kr rfl rfl ⟨cc, cc, cc⟩ (fun hHeld => ?_); refine with_tabW spec_l7Feed.tab4 spec_l7Feed.bits4 (fun HT_ HW_ => ?_)
    generalize w21.drew = w23 at HO452 HO454 HO460 BK0 BK447 HB HR461 hHeld ⊢
    refine p1 37 0 ?_
    refine p1 38 1 ?_
    refine p1 39 2 ?_
    refine p1 41 4 ?_
    refine p1 42 5 ?_
    refine p1 43 6 ?_
    refine p1 44 7 ?_
    refine p1 47 10 ?_
    refine t1 40 3 ?_ (hy := by rintro w' ⟨s0, s1, s2⟩; go_simp; with_reducible rfl)
    refine o1 45 8 fun K hK => ?_
    refine goes_ Try.func114 kr rfl #[.slice A24 (l1.drop ((ji3) : Int).toNat).length (c1 - (ji3).toNat)] (by rfl) rfl rfl (by (try simp only [List.map_toArray, List.map_cons, List.map_nil]); first | done | (rw [show (l1.drop ((ji3) : Int).toNat).length = (l1.length - (ji3).toNat) from List.length_drop] <;> rfl) | (simp only [hji3]; rfl) | rfl | (simp only [List.length_drop, List.length_take]; rfl)) ?_
    with_reducible refine (spec_l1Ints.calls _ _ (l1.drop ((ji3) : Int).toNat) t462 _ ?s1 ?s2 A11.out).mono ?_
    (case s1 => exact cq (cB HR461.out HB.out))
    (case s2 => exact HC461.out)
    rintro e w25 ⟨v463, rfl, ho0, hb⟩
    refine ⟨_, rfl, ?_⟩
    have HO464 := aM (rG (wq (wq (wq ho0 HO452) HO454) HO460) (bZ bq))
    replace HO452 := zh (rq HO452.out) ho0 hb
    replace HO454 := zh (rq HO454.out) ho0 hb
    replace HO460 := zh (rq HO460.out) ho0 hb
    replace BK0 := aM (kB (g := g) (o := .cells #[.int .i64 a0_0, .slice A0_1 l0_1.length c0_1, .slice A0_2 l0_2.length c0_2] 48 (0, 0)) (kq BK0.out) hb)
    replace BK447 := zb BK447 hb
    replace HB := aM (bT bq hb)
    (try clear hb)
    (try clear hb2)
    (try clear hk)
    (try clear hi)
    (try clear ho0)
    obtain ⟨Ao26, co26, eo26⟩ := Kd.R_slice HO464.out
    (first | subst eo26 | (injection eo26 with f1_ f2_ f3_; have f4_ := f1_.symm; have f5_ := f3_.symm; clear f1_ f2_ f3_; subst f4_; subst f5_))
    obtain ⟨Ao27, co27, eo27⟩ := Kd.R_slice HO454.out
    (first | subst eo27 | (injection eo27 with f1_ f2_ f3_; have f4_ := f1_.symm; have f5_ := f3_.symm; clear f1_ f2_ f3_; subst f4_; subst f5_))
    obtain ⟨Ao28, co28, eo28⟩ := Kd.R_slice HO460.out
    (first | subst eo28 | (injection eo28 with f1_ f2_ f3_; have f4_ := f1_.symm; have f5_ := f3_.symm; clear f1_ f2_ f3_; subst f4_; subst f5_))
    refine hK.out _ _ ⟨cc, cc, cc⟩ (fun hHeld => ?_)
    clear hK K
    refine nn ?_
    refine p1 46 9 ?_
    refine o1 48 11 fun K hK => ?_
    refine goes_ Try.func119 kr rfl #[.slice Ao28 y458.length co28] (by rfl) rfl rfl mq ?_
    with_reducible refine (spec_l6Spread.calls k _ _ y458 t465 _ ?s1 ?s2 A12.out).mono ?_
    (case s1 => exact cq (rR HO460.out).2.2)
    (case s2 => exact (rR HO460.out).2.1)
    rintro e w29 ⟨v466, rfl, ho0, hb⟩
    refine ⟨_, rfl, ?_⟩
    have HO467 := aM (rG (wq (wq (wq (wq ho0 HO452) HO454) HO460) HO464) (bZ bq))
    replace HO452 := zh (rq HO452.out) ho0 hb
    replace HO454 := zh (rq HO454.out) ho0 hb
    replace HO460 := zh (rq HO460.out) ho0 hb
    replace HO464 := zh (rq HO464.out) ho0 hb
    replace BK0 := aM (kB (g := g) (o := .cells #[.int .i64 a0_0, .slice A0_1 l0_1.length c0_1, .slice A0_2 l0_2.length c0_2] 48 (0, 0)) (kq BK0.out) hb)
    replace BK447 := zb BK447 hb
    replace HB := aM (bT bq hb)
    (try clear hb)
    (try clear hb2)
    (try clear hk)
    (try clear hi)
    (try clear ho0)
    refine hK.out _ _ ⟨cc, cc, cc⟩ (fun hHeld => ?_)
    clear hK K
    refine nn ?_
    refine oo HT_ (N := none) 12 #[Y,Y,Y,Y,Y,Y,Y,Y,Y,Y,Y,Y,Y,N] (fun K hK => ?_)
    have hs30 : w29.cell? ⟨gb447, 0, none⟩ = some (.int .i64 0) := cc
    have hfs30 := kF BK447.out 0
    have hns30_0 := NB0_447.out
    have hms30_0 := NB447_0.out
    have hs31 : w29.cell? ⟨gb447, 1, none⟩ = some (.slice none 0 0) := cc
    have hfs31 := kF BK447.out 1
    have hns31_0 := NB0_447.out
    have hms31_0 := NB447_0.out
    have hs32 : w29.cell? ⟨gb447, 2, none⟩ = some (.slice none 0 0) := cc
    have hfs32 := kF BK447.out 2
    have hns32_0 := NB0_447.out
    have hms32_0 := NB447_0.out
    refine skip_ (w1 := ?_) (by rfl) rfl ?_ ?_
    rotate_left
    ·go_simp
     rfl
    refine hK.out _ _ ⟨(lf hHeld.1), (lf hHeld.2.1), (lf hHeld.2.2)⟩ (fun hHeld => ?_)
    clear hK K
    refine p1 5 13 ?_
    refine done_ (done_of HT_.out kr) ?_
    try go_wp2
    refine bodyPost_ret (results_ct rfl _ _ gb447 48 #[.int .i64 a0_0, .slice Ao27 t450.length co27, .slice Ao26 t462.length co26] (0, 0) _ rfl (fq BK447.out) Try.underlying48 rfl kr) rfl ?_
    exact ⟨_, _, _, by first | rfl | (simp [errW_none, errW_some] <;> rfl) | (simp only [← hji3]; first | rfl | (simp [errW_none, errW_some] <;> rfl)) | (simp [*, errW_none, errW_some] <;> rfl), rM (rf (Kd.R_types HO454.out BK447.out (by decide))) (fun _ hk => ⟨hk.1.1.2, hk.1.2⟩), rM (rf (Kd.R_types HO464.out BK447.out (by decide))) (fun _ hk => ⟨hk.1.1.1.2, hk.1.2⟩), rM (rf (Kd.R_types HO467.out BK447.out (by decide))) (fun _ hk => ⟨hk.1.1.1.2, hk.1.2⟩), bq⟩
   ·rw [if_neg c8] at H
    exact absurd H (by simp)
  ·rw [if_neg c5] at H
   exact absurd H (by simp)
 ·rw [if_neg c4] at H
  exact absurd H (by simp)
end Go.Proofs.Ytmhnpogjkbmmnaa.PFnStates
