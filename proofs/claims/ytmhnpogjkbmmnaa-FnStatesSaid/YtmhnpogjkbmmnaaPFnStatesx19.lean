import Derived.Test.YtmhnpogjkbmmnaaPFnStatesx0
import Derived.Test.YtmhnpogjkbmmnaaPFnStatesx18
namespace Go.Proofs.Ytmhnpogjkbmmnaa.PFnStates
open Go.RowKit Go.Proofs.YtmhnpogjkbmmnaaW.PrintWords Go.Proofs.YtmhnpogjkbmmnaaW.PrintLast Go.Proofs.YtmhnpogjkbmmnaaW.PrintMore
open Go.Proofs.YtmhnpogjkbmmnaaW.PrintWords.Kd renaming R_alloc → rA, R_drewN → rN, R_drew → rD, R_mono → rM, R_base → rB, R_new' → rW, R_lt → rT, R_lower → rG, R_elder' → rH, R_reads' → rR
open Go.Proofs.YtmhnpogjkbmmnaaW.PrintWords renaming below_drew1 → bD, below_step → bT, below_size → bZ
open Go.Proofs.YtmhnpogjkbmmnaaW.PrintWords.Aside0 renaming mk → aM
attribute [local go_sem] max2_int min2_int max_two min_two max_three min_three max_four min_four
set_option maxHeartbeats 8000000
set_option maxRecDepth 100000
set_option linter.unusedVariables false
set_option linter.unusedSimpArgs false
mutual
def impl_spread.l0 : Nat → List Int → List Int → List Int → Int → Int → Option (List Int)
 | 0, _, _, _, _, _ => none
 | k + 1, x5, x6, x7, x27, x28 => if x28 < x27 then (if 0 ≤ x28 then (if x28 < (x5.length : Int) then (if x28 < (x6.length : Int) then ((some (([rd x5 x28, rd x6 x28] : List Int) : List Int)).bind fun y570 => (if x7.length + y570.length < 17592186044416 then (impl_spread.l0 k x5 x6 (x7 ++ y570) x27 (wrap64 (x28 + 1))) else (none))) else (none)) else (none)) else (none)) else (some x7)
def impl_spread.f : Nat → List Int → Option (List Int)
 | 0, _ => none
 | k + 1, l0 => if (l0.length : Int) = 1 then (if 0 < (l0.length : Int) then (some (([rd l0 0] : List Int))) else (none)) else ((impl_halve.f k l0).bind fun bt553 => ((impl_spread.f k bt553.1).bind fun t559 => ((impl_spread.f k bt553.2).bind fun t562 => (impl_spread.l0 k t559 t562 (([] : List Int)) (t559.length : Int) 0))))
end
def impl_spread.T8 : Bool × List (List Nat × List Nat) := (true, [([], []), ([], []), ([], []), ([1, 2], [1, 2]), ([3], [3]), ([], []), ([], []), ([5, 6], [5, 6]), ([7], [7]), ([4, 8], [4, 8]), ([0, 9], [0, 9]), ([10, 10, 0, 1, 2, 3, 4, 5, 6, 7, 8, 9, 10], [0, 10])])
def impl_spread.B8 : List Nat := [0, 0, 0, 6, 14, 0, 0, 96, 224, 510, 1023, 2047]
theorem impl_spread.tab8 : rtab .any (opsOf Try.f80 8) = impl_spread.T8 := by kernel_rfl
theorem impl_spread.bits8 : waitsOk impl_spread.T8.2 impl_spread.B8 = true := by kernel_rfl
theorem impl_spread.calls (k : Nat) : ∀ (A0 : Option Addr) (c0 : Nat) (l0 : List Int) (r : List Int) (w : World) (hr0 : Kd.C (Kd.int .i64) w A0 l0.length l0) (hc0 : l0.length ≤ c0) (h : impl_spread.f k l0 = some r),
  Calls Try.prog 80 #[.slice A0 l0.length c0] w fun e w' => ∃ v0_ : Value, e = .returned (v0_) ∧ Kd.R (Kd.int .i64) 2 w' w.heap.size (fun _ => True) v0_ r ∧ Below w.heap.size w w' := by
 induction k using Nat.strongRecOn with
 | _ k ih =>
 intro A0 c0 l0 r w hr0 hc0 h
 cases k with
 | zero => exact absurd h (by simp [impl_spread.f])
 | succ k =>
 simp only [impl_spread.f] at h
 have HR0 := aM hr0
 have HC0 := aM hc0
 clear hr0 hc0
 have HB := aM (Below.refl w.heap.size w)
 have H := h
 clear h
 by_cases c2 : (l0.length : Int) = 1
 ·rw [if_pos c2] at H
  have c2b0 := eT c2
  have c2b1 := nF c2
  clear c2
  by_cases c3 : 0 < (l0.length : Int)
  ·rw [if_pos c3] at H
   have c3b0 := dT c3
   have c3b1 : decide (0 < l0.length) = true := decide_eq_true (by omega)
   clear c3
   obtain ⟨y550, Ny550⟩ : ∃ y_ : List Int, Aside0 (y_ = (([rd l0 0] : List Int))) := ⟨_, ⟨rfl⟩⟩
   rw [← Ny550.out] at H
   obtain rfl := Option.some.inj H
   have p549 : 0 ≤ (0 : Int) := (by omega)
   have q549 : 0 < (l0.length : Int) := dt
   obtain ⟨ad549, e549, hx549_0⟩ := Kd.at_int HR0.out 0 p549 q549
   cases e549
   have qi549 : (0 < l0.length) = True := eq_true (by omega)
   (try rw [show ((0 : Int)).toNat = 0 from rfl] at hx549_0)
   (try rw [Addr.add_zero'] at hx549_0)
   replace p549 := eq_true p549
   replace q549 := eq_true q549
   go_enter Try.func80, Try.ntmps80
   go_wp2_with (first | ((with_reducible refine gD 15 rfl ?_); refine Kd.R_lit (Kd.int .i64) _ 2 ?hg (N := 15) ?hd (xs := ([rd l0 0] : List Int)) (inner := [.int .i64 (rd l0 0)]) (ok := fun _ => True) (okp := fun _ => True) ?hr ?hp (fun _ hk => hk) trivial (Below.refl _ _) (Nat.le_refl _) (by simp) ?_; (case hd => rfl); (case hg => rfl); (case hr => first | (go_simp; done) | (go_simp; rfl)); (case hp => exact (Reps.one (show Kd.M (Kd.int .i64) _ _ _ (rd l0 0) [.int .i64 (rd l0 0)] from rfl) (Reps.none _ _))); intro v551 w4 ho5 hb hg_ hnew_; clear hg_ hnew_; rw [← Ny550.out] at ho5; have HO552 := aM (rG ho5 (bZ bq)); replace HB := aM (bT bq hb); clear hb ho5))
   go_ret
   exact ⟨_, ew, by (with_reducible repeat (first | apply rA | apply rN | apply rD)); exact HO552.out, bq⟩
  ·rw [if_neg c3] at H
   exact absurd H (by simp)
 ·rw [if_neg c2] at H
  have c2b0 := eF c2
  have c2b1 := nT c2
  replace H := bo H
  obtain ⟨⟨t553, t554⟩, A6, H⟩ := H
  replace H := bz H
  replace H := bo H
  obtain ⟨t559, A7, H⟩ := H
  replace H := bz H
  replace H := bo H
  obtain ⟨t562, A8, H⟩ := H
  replace H := bz H
  obtain ⟨y565, hy565⟩ : ∃ y_ : List Int, y_ = (([] : List Int)) := ⟨_, rfl⟩
  replace H : (impl_spread.l0 k t559 t562 y565 (t559.length : Int) 0) = some r := hl hy565 H
  have Ny565 := aM hy565
  clear hy565
  have H' := aM H
  clear H
  go_enter Try.func80, Try.ntmps80
  go_wp2_with (first | ((with_reducible refine gC 121 rfl ?_); refine gl (some 18) Try.func121 #[.slice A0 l0.length c0] ?_; (with_reducible refine (impl_halve.calls k _ _ l0 t553 t554 _ ?s1 ?s2 A6.out).mono ?_); (case s1 => exact cq HR0.out); (case s2 => exact HC0.out); rintro e w9 ⟨v555, v557, rfl, ho0, ho1, hb⟩; refine ii ?_; have HO556 := aM (rG ho0 (bZ bq)); have HO558 := aM (rG ho1 (bZ bq)); replace HB := aM (bT bq hb); (try clear hb); (try clear ho0); (try clear ho1); obtain ⟨Ao10, co10, rfl⟩ := rS HO556.out) | ((with_reducible refine gC 80 rfl ?_); refine gl (some 22) Try.func80 #[.slice Ao10 t553.length co10] ?_; (with_reducible refine (ih k (by omega) _ _ t553 t559 _ ?s1 ?s2 A7.out).mono ?_); (case s1 => exact cq (rR HO556.out).2.2); (case s2 => exact (rR HO556.out).2.1); rintro e w11 ⟨v560, rfl, ho0, hb⟩; refine ii ?_; have HO561 := aM (rG (wq (wq ho0 HO556) HO558) (bZ bq)); replace HO556 := zh (rq HO556.out) ho0 hb; replace HO558 := zh (rq HO558.out) ho0 hb; replace HB := aM (bT bq hb); (try clear hb); (try clear ho0); obtain ⟨Ao12, co12, rfl⟩ := rS HO558.out) | ((with_reducible refine gC 80 rfl ?_); refine gl (some 24) Try.func80 #[.slice Ao12 t554.length co12] ?_; (with_reducible refine (ih k (by omega) _ _ t554 t562 _ ?s1 ?s2 A8.out).mono ?_); (case s1 => exact cq (rR HO558.out).2.2); (case s2 => exact (rR HO558.out).2.1); rintro e w13 ⟨v563, rfl, ho0, hb⟩; refine ii ?_; have HO564 := aM (rG (wq (wq (wq ho0 HO556) HO558) HO561) (bZ bq)); replace HO556 := zh (rq HO556.out) ho0 hb; replace HO558 := zh (rq HO558.out) ho0 hb; replace HO561 := zh (rq HO561.out) ho0 hb; replace HB := aM (bT bq hb); (try clear hb); (try clear ho0)) | ((with_reducible refine gD 25 rfl ?_); refine Kd.R_lit (Kd.int .i64) _ 2 ?hg (N := 25) ?hd (xs := ([] : List Int)) (inner := []) (ok := fun _ => True) (okp := fun _ => True) ?hr ?hp (fun _ hk => hk) trivial (Below.refl _ _) (Nat.le_refl _) (by simp) ?_; (case hd => rfl); (case hg => rfl); (case hr => first | (go_simp; done) | (go_simp; rfl)); (case hp => exact (Reps.none _ _)); intro v566 w14 ho15 hb hg_ hnew_; clear hg_ hnew_; rw [← Ny565.out] at ho15; have HO567 := aM (rG (wq (wq (wq (wq ho15 HO556) HO558) HO561) HO564) (bZ bq)); replace HO556 := zh (rq HO556.out) ho15 hb; replace HO558 := zh (rq HO558.out) ho15 hb; replace HO561 := zh (rq HO561.out) ho15 hb; replace HO564 := zh (rq HO564.out) ho15 hb; replace HB := aM (bT bq hb); clear hb ho15; obtain ⟨Ao16, co16, rfl⟩ := rS HO561.out))
  go_loopg [7, 28] k (fun kq v7 v28 w' => ∃ (x7_1 : List Int) (x28_1 : Int), v28 = .int .i64 x28_1 ∧ Aside0 (impl_spread.l0 kq t559 t562 x7_1 (t559.length : Int) x28_1 = some r) ∧ Aside0 (kq ≤ k) ∧ Aside0 (Kd.R (Kd.int .i64) 2 w' w.heap.size (fun k_ => nb v563 k_ ∧ nb v7 k_) (.slice Ao16 t559.length co16) t559) ∧ Aside0 (Kd.R (Kd.int .i64) 2 w' w.heap.size (fun k_ => some k_ ≠ ((.slice Ao16 t559.length co16) : Value).ownBlock ∧ nb v7 k_) v563 t562) ∧ Aside0 (Kd.R (Kd.int .i64) 2 w' w.heap.size (fun k_ => some k_ ≠ ((.slice Ao16 t559.length co16) : Value).ownBlock ∧ nb v563 k_) v7 x7_1) ∧ Aside0 (Below w.heap.size w w'))
  case atStart => exact ⟨(y565), (0), (ex), H', ⟨Nat.le_refl _⟩, aM (rq (rM HO561.out jq)), aM (rq (rM HO564.out jq)), aM (rq (rM HO567.out jq)), ⟨bq⟩⟩
  case round =>
   clear H'
   try clear c1
   try clear c2
   try clear c2b0
   try clear c2b1
   try clear p2
   try clear c3
   try clear c3b0
   try clear c3b1
   try clear p5
   try clear q5
   try clear hx5
   try clear qi5
   try clear c8
   try clear c12
   try clear hx549_0
   try clear p549
   try clear q549
   obtain ⟨x7_1, x28_1, rfl, HA, HK1, HO_5, HO_6, HO_7, HB⟩ := hrel
   cases gk with
   | zero => exact absurd HA.out (by simp [impl_spread.l0])
   | succ k1 =>
    have H := HA.out
    clear HA
    simp only [impl_spread.l0] at H
    by_cases c17 : x28_1 < (t559.length : Int)
    ·rw [if_pos c17] at H
     have c17b0 := dT c17
     clear c17
     by_cases c18 : 0 ≤ x28_1
     ·rw [if_pos c18] at H
      have c18b0 := dT c18
      clear c18
      by_cases c19 : x28_1 < (t559.length : Int)
      ·rw [if_pos c19] at H
       have c19b0 := dT c19
       clear c19
       by_cases c20 : x28_1 < (t562.length : Int)
       ·rw [if_pos c20] at H
        have c20b0 := dT c20
        clear c20
        obtain ⟨y570, hy570⟩ : ∃ y_ : List Int, y_ = (([rd t559 x28_1, rd t562 x28_1] : List Int)) := ⟨_, rfl⟩
        replace H : (if x7_1.length + y570.length < 17592186044416 then (impl_spread.l0 k1 t559 t562 (x7_1 ++ y570) (t559.length : Int) (wrap64 (x28_1 + 1))) else (none)) = some r := hl hy570 H
        have Ny570 := aM hy570
        clear hy570
        by_cases c21 : x7_1.length + y570.length < 17592186044416
        ·rw [if_pos c21] at H
         have LMc21 := aM c21
         clear c21
         obtain ⟨y573, Ny573⟩ : ∃ y_ : List Int, Aside0 (y_ = (x7_1 ++ y570)) := ⟨_, ⟨rfl⟩⟩
         rw [← Ny573.out] at H
         have H' := aM H
         clear H
         try go_wp2
         replace HO_5 := zd HO_5
         replace HO_6 := zd HO_6
         replace HO_7 := zd HO_7
         replace HB := aM (bD HB.out)
         have p568 : 0 ≤ (x28_1 : Int) := dt
         have q568 : x28_1 < (t559.length : Int) := dt
         obtain ⟨ad568, e568, hx568_0⟩ := Kd.at_int (rR HO_5.out).2.2 x28_1 p568 q568
         cases e568
         replace p568 := eq_true p568
         replace q568 := eq_true q568
         obtain ⟨Ao23, co23, eo23⟩ := Kd.R_slice HO_6.out
         (first | subst eo23 | (injection eo23 with f1_ f2_ f3_; have f4_ := f1_.symm; have f5_ := f3_.symm; clear f1_ f2_ f3_; subst f4_; subst f5_))
         have p569 : 0 ≤ (x28_1 : Int) := dt
         have q569 : x28_1 < (t562.length : Int) := dt
         obtain ⟨ad569, e569, hx569_0⟩ := Kd.at_int (rR HO_6.out).2.2 x28_1 p569 q569
         cases e569
         replace p569 := eq_true p569
         replace q569 := eq_true q569
         refine start_ (n := 12) (S := fun w' => w'.cell? (ad568.add (x28_1).toNat) = some (.int .i64 (rd t559 x28_1)) ∧ w'.cell? (ad569.add (x28_1).toNat) = some (.int .i64 (rd t562 x28_1))) (ds := [10]) #[N,N,N,N,N,N,N,N,N,N,N,N] kr rfl rfl ⟨hx568_0, hx569_0⟩ (fun hHeld => ?_); refine with_tabW impl_spread.tab8 impl_spread.bits8 (fun HT_ HW_ => ?_)
         generalize wr.drew = w22 at HO_5 HO_6 HO_7 HB hx568_0 hx569_0 hHeld ⊢
         refine p1 31 0 ?_
         refine p1 32 1 ?_
         refine p1 33 2 ?_
         refine p1 34 3 ?_
         refine p1 36 5 ?_
         refine p1 37 6 ?_
         refine p1 38 7 ?_
         refine t1 35 4 ?_ (hy := by rintro w' ⟨s0, s1⟩; go_simp; with_reducible rfl)
         refine t1 39 8 ?_ (hy := by rintro w' ⟨s0, s1⟩; go_simp; with_reducible rfl)
         refine o1 40 9 fun K hK => ?_
         refine Kd.R_lit_step (Kd.int .i64) _ 2 ?hg (N := 40) ?hd (xs := ([rd t559 x28_1, rd t562 x28_1] : List Int)) (inner := [.int .i64 (rd t559 x28_1), .int .i64 (rd t562 x28_1)]) (ok := fun _ => True) (okp := fun _ => True) ?hr ?hp (fun _ hk => hk) trivial (Below.refl _ _) (Nat.le_refl _) (by simp) ?_; (case hd => rfl); (case hg => rfl); (case hr => first | (go_simp; done) | (go_simp; rfl)); (case hp => exact (Reps.one (show Kd.M (Kd.int .i64) _ _ _ (rd t559 x28_1) [.int .i64 (rd t559 x28_1)] from rfl) (Reps.one (show Kd.M (Kd.int .i64) _ _ _ (rd t562 x28_1) [.int .i64 (rd t562 x28_1)] from rfl) (Reps.none _ _))))
         intro v571 w24 ho25 hb hg_ hnew_
         have HS0_ := (hb.cell (World.block_lt_of_cell? _ _ (hHeld.1))).trans (hHeld.1)
         have HS1_ := (hb.cell (World.block_lt_of_cell? _ _ (hHeld.2))).trans (hHeld.2)
         clear hg_ hnew_
         rw [← Ny570.out] at ho25
         have HO572 := aM (rG (wq (wq (wq ho25 HO_5) HO_6) HO_7) (bZ bq))
         replace HO_5 := zh (rq HO_5.out) ho25 hb
         replace HO_6 := zh (rq HO_6.out) ho25 hb
         replace HO_7 := zh (rq HO_7.out) ho25 hb
         replace HB := aM (bT bq hb)
         clear hb ho25
         obtain ⟨Ao27, co27, eo27⟩ := Kd.R_slice HO572.out
         (first | subst eo27 | (injection eo27 with f1_ f2_ f3_; have f4_ := f1_.symm; have f5_ := f3_.symm; clear f1_ f2_ f3_; subst f4_; subst f5_))
         refine hK.out _ _ ⟨HS0_, HS1_⟩ (fun hHeld => ?_)
         clear hK K
         refine nn ?_
         refine last_ (i := 10) (N := some 41) #[Y,Y,Y,Y,Y,Y,Y,Y,Y,Y,Y,N] rfl rfl (one_of HT_.out kr) (by decide) (fun K hK => ?_)
         refine Kd.R_append_rows_step (Kd.int .i64) (w0 := w) w.heap.size (by rfl) (.tmp 31) (.tmp 40) 22 2 (.int .i64 0) 8 rfl Try.underlying22 info2 rfl (by decide) (by omega) u7 x7_1 y570 _ _ _ (fun k_ => some k_ ≠ (.slice (some ad568) t559.length co16 : Value).ownBlock ∧ some k_ ≠ (.slice (some ad569) t562.length co23 : Value).ownBlock ∧ nS Ao27 y570 co27 k_) (fun _ => False) rfl rfl ?aO ?aR (fun _ _ h => h) (fun _ h => h.elim) ?aF ?aB ?aS ?aL ?_
         (case aR => exact cq (rR HO572.out).2.2)
         (case aB => exact bq)
         (case aF => exact (fun k_ hk => ⟨Kd.fresh' (rT (rq HO_5.out)) k_ hk, Kd.fresh' (rT (rq HO_6.out)) k_ hk, Kd.fresh' (rT (rq HO572.out)) k_ hk⟩))
         (case aO => exact (rq (rM HO_7.out jq)))
         (case aS => exact (bZ bq))
         (case aL => have := LMc21.out; omega)
         intro v574 w26 ho hb hg hat
         rw [← Ny573.out] at ho
         replace HO_5 := aM (Kd.R_after (ok := (fun k_ => some k_ ≠ (.slice (some ad569) t562.length co23 : Value).ownBlock ∧ nS Ao27 y570 co27 k_)) (rq (rM HO_5.out jq)) hg hat)
         replace HO_6 := aM (Kd.R_after (ok := (fun k_ => some k_ ≠ (.slice (some ad568) t559.length co16 : Value).ownBlock ∧ nS Ao27 y570 co27 k_)) (rq (rM HO_6.out jq)) hg hat)
         replace HO572 := aM (Kd.R_after (ok := (fun k_ => some k_ ≠ (.slice (some ad568) t559.length co16 : Value).ownBlock ∧ some k_ ≠ (.slice (some ad569) t562.length co23 : Value).ownBlock)) (rq (rM HO572.out jq)) hg hat)
         replace HB := aM hb
         have HO575 := aM (ho)
         clear HO_7 ho hb hg hat
         refine hK.out _ _ ?_
         clear hK K
         refine nn ?_
         refine p1 7 11 ?_
         refine done_ (done_of HT_.out kr) ?_
         try go_wp2
         go_roundg k1
         case measure => have := HK1.out; omega
         case rel => exact ⟨(y573), (wrap64 (x28_1 + 1)), (ex), H', ⟨by have := HK1.out; omega⟩, aM (rq (rM HO_5.out jq)), aM (rq (rM HO_6.out jq)), aM (rq (rM HO575.out jq)), ⟨bq⟩⟩
        ·rw [if_neg c21] at H
         exact absurd H (by simp)
       ·rw [if_neg c20] at H
        exact absurd H (by simp)
      ·rw [if_neg c19] at H
       exact absurd H (by simp)
     ·rw [if_neg c18] at H
      exact absurd H (by simp)
    ·rw [if_neg c17] at H
     have c17b0 := dF c17
     clear c17
     obtain rfl := Option.some.inj H
     go_wp2
     go_ret
     exact ⟨_, ew, by (with_reducible repeat (first | apply rA | apply rN | apply rD)); exact rM HO_7.out (fun _ hk => trivial), bq⟩
end Go.Proofs.Ytmhnpogjkbmmnaa.PFnStates
