import Derived.Test.YtmhnpogjkbmmnaaPFnStatesx0
import Derived.Test.YtmhnpogjkbmmnaaPFnStatesx1
import Derived.Test.YtmhnpogjkbmmnaaPFnStatesx4
namespace Go.Proofs.Ytmhnpogjkbmmnaa.PFnStates
open Go.RowKit Go.Proofs.YtmhnpogjkbmmnaaW.PrintWords Go.Proofs.YtmhnpogjkbmmnaaW.PrintLast Go.Proofs.YtmhnpogjkbmmnaaW.PrintMore
open Go.Proofs.YtmhnpogjkbmmnaaW.PrintWords.Kd renaming R_alloc → rA, R_drewN → rN, R_drew → rD, R_far → rF, R_mono → rM, R_base → rB, R_new' → rW, R_below → rL, R_lt → rT, R_lower → rG, R_elder' → rH, R_reads' → rR, C_alloc → cA, C_drewN → cN, C_drew → cD, C_below → cB
open Go.Proofs.YtmhnpogjkbmmnaaW.PrintMore.Kd renaming R_told → rO, R_old → rE
open Go.Proofs.YtmhnpogjkbmmnaaW.PrintWords renaming below_drew1 → bD, below_step → bT, below_size → bZ, blk_drewN → kN, blk_drew → kD, blk_alloc → kA, blk_below → kB, blk_cell → kC, blk_frozen → kF
open Go.Proofs.YtmhnpogjkbmmnaaW.PrintWords.Aside0 renaming mk → aM
attribute [local go_sem] max2_int min2_int max_two min_two max_three min_three max_four min_four
set_option maxHeartbeats 8000000
set_option maxRecDepth 100000
set_option linter.unusedVariables false
set_option linter.unusedSimpArgs false
def spec_l7Play.f (k : Nat) (a0_0 : Int) (l0_1 : List Int) (l0_2 : List Int) (l1 : List Int) : Option (Int × List Int × List Int × List Int) := (spec_l6Gather.f k l1).bind fun t196 => (if 0 ≤ (wrap64 (Int.tdiv a0_0 2)) then (if (wrap64 (Int.tdiv a0_0 2)) ≤ (t196.length : Int) then ((spec_l7Seam.f k a0_0 l0_2 (t196.take ((wrap64 (Int.tdiv a0_0 2)) : Int).toNat) true).bind fun bt203 => ((spec_l1Ints.f (t196.drop ((wrap64 (Int.tdiv a0_0 2)) : Int).toNat)).bind fun t213 => ((spec_l1Ints.f l0_1).bind fun t216 => (if t216.length + bt203.1.length < 17592186044416 then (some (a0_0, bt203.2, t213, (t216 ++ bt203.1))) else (none))))) else (none)) else (none))
def spec_l7Play.T3 : Bool × List (List Nat × List Nat) := (true, [([], []), ([0], [0]), ([1], [1]), ([2], [2]), ([], []), ([4], [4]), ([5], [5]), ([6], [6]), ([], []), ([], []), ([8, 9], [8, 9]), ([3, 7, 10], [3, 7, 10]), ([11], [11]), ([12], [12]), ([12], [12]), ([13, 11, 0, 1, 2, 3, 4, 5, 6, 7, 8, 9, 10, 11, 12, 13], [13]), ([14, 15, 0, 1, 2, 3, 4, 5, 6, 7, 8, 9, 10, 11, 12, 13, 14, 15], [14])])
def spec_l7Play.B3 : List Nat := [0, 1, 3, 7, 0, 16, 48, 112, 0, 0, 768, 2047, 4095, 8191, 8191, 16383, 65535]
theorem spec_l7Play.tab3 : rtab .any (opsOf Try.f67 3) = spec_l7Play.T3 := by kernel_rfl
theorem spec_l7Play.bits3 : waitsOk spec_l7Play.T3.2 spec_l7Play.B3 = true := by kernel_rfl
def spec_l7Play.T4 : Bool × List (List Nat × List Nat) := (true, [([], []), ([0], [0]), ([1], [1]), ([2], [2]), ([], []), ([], []), ([], []), ([5, 6], [5, 6]), ([7], [7]), ([3, 4, 8], [3, 4, 8]), ([], []), ([10], [10]), ([11], [11]), ([12], [12]), ([13, 8], [13]), ([], []), ([14, 15, 14], [14, 15]), ([9, 16, 0, 1, 2, 3, 4, 5, 6, 7, 8, 9], [9]), ([16, 17, 0, 1, 2, 3, 4, 5, 6, 7, 8, 9, 10, 11, 12, 13, 14, 15, 16, 17], [16])])
def spec_l7Play.B4 : List Nat := [0, 1, 3, 7, 0, 0, 0, 96, 224, 511, 0, 1024, 3072, 7168, 15840, 0, 64992, 131071, 262143]
theorem spec_l7Play.tab4 : rtab .any (opsOf Try.f67 4) = spec_l7Play.T4 := by kernel_rfl
theorem spec_l7Play.bits4 : waitsOk spec_l7Play.T4.2 spec_l7Play.B4 = true := by kernel_rfl
theorem spec_l7Play.calls (k : Nat) (g : Nat) (a0_0 : Int) (A0_1 : Option Addr) (c0_1 : Nat) (l0_1 : List Int) (A0_2 : Option Addr) (c0_2 : Nat) (l0_2 : List Int) (A1 : Option Addr) (c1 : Nat) (l1 : List Int) (r1 : Int) (r2 : List Int) (r3 : List Int) (r4 : List Int) (w : World) (hG : w.heap[g]? = some (.cells #[.int .i64 a0_0, .slice A0_1 l0_1.length c0_1, .slice A0_2 l0_2.length c0_2] 35 (0, 0))) (hr0_1 : Kd.C (Kd.int .i64) w A0_1 l0_1.length l0_1) (hc0_1 : l0_1.length ≤ c0_1) (hr0_2 : Kd.C (Kd.int .i64) w A0_2 l0_2.length l0_2) (hc0_2 : l0_2.length ≤ c0_2) (hr1 : Kd.C (Kd.int .i64) w A1 l1.length l1) (hc1 : l1.length ≤ c1) (h : spec_l7Play.f k a0_0 l0_1 l0_2 l1 = some (r1, r2, r3, r4)) :
  Calls Try.prog 67 #[.pointer (some ⟨g, 0, none⟩), .slice A1 l1.length c1] w fun e w' => ∃ v1_ v2_ v3_ : Value, e = .returned (.tuple #[.agg #[.int .i64 r1, v1_, v2_], v3_]) ∧ Kd.R (Kd.int .i64) 2 w' w.heap.size (fun k_ => nb v2_ k_ ∧ nb v3_ k_) v1_ r2 ∧ Kd.R (Kd.int .i64) 2 w' w.heap.size (fun k_ => nb v1_ k_ ∧ nb v3_ k_) v2_ r3 ∧ Kd.R (Kd.int .i64) 2 w' w.heap.size (fun k_ => nb v1_ k_ ∧ nb v2_ k_) v3_ r4 ∧ Below w.heap.size w w' := by
 have hu35 := Try.underlying35
 have HR0_1 := aM hr0_1
 have HC0_1 := aM hc0_1
 clear hr0_1 hc0_1
 have HR0_2 := aM hr0_2
 have HC0_2 := aM hc0_2
 clear hr0_2 hc0_2
 have HR1 := aM hr1
 have HC1 := aM hc1
 clear hr1 hc1
 have BK0 := aM hG
 clear hG
 have HB := aM (Below.refl w.heap.size w)
 unfold spec_l7Play.f at h
 have H := h
 clear h
 replace H := bo H
 obtain ⟨t196, A3, H⟩ := H
 replace H := bz H
 obtain ⟨ji4, hji4⟩ : ∃ j_ : Int, (wrap64 (Int.tdiv a0_0 2)) = j_ := ⟨_, rfl⟩
 rw [hji4] at H
 (try rw [hji4] at A3)
 have hji4w : (IntKind.i64.wrap (Int.tdiv a0_0 2)) = ji4 := (i64_w _).trans hji4
 by_cases c5 : 0 ≤ (ji4)
 ·rw [if_pos c5] at H
  have c5b0 := eq_true c5
  have c5b1 := dT c5
  clear c5
  by_cases c6 : (ji4) ≤ (t196.length : Int)
  ·rw [if_pos c6] at H
   have c6b0 := eq_true c6
   have c6b1 := dT c6
   clear c6
   obtain ⟨y199, Ny199⟩ : ∃ y_ : List Int, Aside0 (y_ = (t196.take ((ji4) : Int).toNat)) := ⟨_, ⟨rfl⟩⟩
   rw [← Ny199.out] at H
   replace H := bo H
   obtain ⟨⟨t203, t204⟩, A7, H⟩ := H
   replace H := bz H
   have c8b0 := eq_true (dt : 0 ≤ (ji4))
   have c9b0 := eq_true (dt : (ji4) ≤ (t196.length : Int))
   obtain ⟨y209, Ny209⟩ : ∃ y_ : List Int, Aside0 (y_ = (t196.drop ((ji4) : Int).toNat)) := ⟨_, ⟨rfl⟩⟩
   rw [← Ny209.out] at H
   replace H := bo H
   obtain ⟨t213, A10, H⟩ := H
   replace H := bz H
   replace H := bo H
   obtain ⟨t216, A11, H⟩ := H
   replace H := bz H
   by_cases c12 : t216.length + t203.length < 17592186044416
   ·rw [if_pos c12] at H
    have LMc12 := aM c12
    clear c12
    obtain ⟨y219, Ny219⟩ : ∃ y_ : List Int, Aside0 (y_ = (t216 ++ t203)) := ⟨_, ⟨rfl⟩⟩
    rw [← Ny219.out] at H
    simp only [Option.some.injEq, Prod.mk.injEq] at H
    obtain ⟨rfl, rfl, rfl, rfl⟩ := H
    go_enter Try.func67, Try.ntmps67
    try go_wp2_with (first | ((with_reducible refine gD 4 rfl ?_); refine bx 4 35 #[.int .i64 0, .slice none 0 0, .slice none 0 0] ?_; intro gb195 hg w13 hbox hb; have BK195 := aM hbox; have GW195 := gw w hg; have GE195 := GW195; replace HB := aM (bT bq hb); have NB0_195 := aM ((by rw [hg]; exact Nat.ne_of_lt (blk_lt (g := g) (o := .cells #[.int .i64 a0_0, .slice A0_1 l0_1.length c0_1, .slice A0_2 l0_2.length c0_2] 35 (0, 0)) (kq BK0.out)) : g ≠ gb195)); have NB195_0 := aM ((by rw [hg]; exact Nat.ne_of_gt (blk_lt (g := g) (o := .cells #[.int .i64 a0_0, .slice A0_1 l0_1.length c0_1, .slice A0_2 l0_2.length c0_2] 35 (0, 0)) (kq BK0.out)) : gb195 ≠ g)); replace BK0 := aM (kB (g := g) (o := .cells #[.int .i64 a0_0, .slice A0_1 l0_1.length c0_1, .slice A0_2 l0_2.length c0_2] 35 (0, 0)) (kq BK0.out) hb); clear hb hbox hg; have hnb14 := NB0_195.out; have hnc14 := NB195_0.out; obtain ⟨hcz15_0, hcz15_1, hcz15_2, hfz15_0, hfz15_1, hfz15_2⟩ := b3 BK0.out) | ((with_reducible refine gC 112 rfl ?_); refine gl (some 16) Try.func112 #[.slice A1 l1.length c1] ?_; (with_reducible refine (spec_l6Gather.calls k _ _ l1 t196 _ ?s1 ?s2 A3.out).mono ?_); (case s1 => exact cq (cB HR1.out HB.out)); (case s2 => exact HC1.out); rintro e w16 ⟨v197, rfl, ho0, hb⟩; refine ii ?_; have HO198 := aM (rG ho0 (bZ bq)); replace BK0 := aM (kB (g := g) (o := .cells #[.int .i64 a0_0, .slice A0_1 l0_1.length c0_1, .slice A0_2 l0_2.length c0_2] 35 (0, 0)) (kq BK0.out) hb); replace BK195 := zb BK195 hb; replace HB := aM (bT bq hb); (try clear hb); (try clear ho0)))
    replace HO198 := zd HO198
    replace BK0 := zk BK0
    replace BK195 := zk BK195
    replace HB := aM (bD HB.out)
    obtain ⟨Ao19, co19, eo19⟩ := Kd.R_slice HO198.out
    (first | subst eo19 | (injection eo19 with f1_ f2_ f3_; have f4_ := f1_.symm; have f5_ := f3_.symm; clear f1_ f2_ f3_; subst f4_; subst f5_))
    have q18 : ((ji4) : Int) ≤ ((t196.length : Int) : Int) := dt
    obtain ⟨i018, hi018, _, hsz18, _⟩ := info_parts info2
    have hroom18 : t196.length ≤ co19 := (rR HO198.out).2.1
    have hC18 : Kd.C (Kd.int .i64) _ Ao19 t196.length t196 := (rR HO198.out).2.2
    have hcut18 := cut_to (P := Try.prog) 22 2 .i64 Try.underlying22 hi018 Ao19 t196.length co19 (ji4) (dt) q18 hroom18
    have hr18 := Kd.C_take (m := ((ji4) : Int).toNat) hC18 (by omega)
    have hy18 : y199.length = ((ji4) : Int).toNat := (by rw [Ny199.out, List.length_take]; omega)
    rw [← Ny199.out] at hr18
    rw [← hy18] at hcut18
    have HR202 := aM hr18
    have HC202 := aM (show y199.length ≤ co19 from by omega)
    clear hr18 hC18 hroom18 hi018 hsz18
    have KY18 := aM hy18
    clear hy18
    have KL18 := aM (show ((ji4) : Int).toNat ≤ t196.length from by omega)
    replace q18 := eq_true q18
    refine start_ (n := 17) (S := fun w' => w'.cell? ⟨g, 0, none⟩ = some (.int .i64 a0_0) ∧ w'.cell? ⟨g, 1, none⟩ = some (.slice A0_1 l0_1.length c0_1) ∧ w'.cell? ⟨g, 2, none⟩ = some (.slice A0_2 l0_2.length c0_2)) (ds := []) #[N,N,N,N,N,N,N,N,N,N,N,N,N,N,N,N,N] kr rfl rfl ⟨cc, cc, cc⟩ (fun hHeld => ?_); refine with_tabW spec_l7Play.tab3 spec_l7Play.bits3 (fun HT_ HW_ => ?_)
    generalize w16.drew = w17 at HO198 BK0 BK195 HB HR202 hHeld ⊢
    refine p1 18 0 ?_
    refine p1 19 1 ?_
    refine p1 20 2 ?_
    refine p1 22 4 ?_
    refine p1 23 5 ?_
    refine p1 24 6 ?_
    refine p1 26 8 ?_
    refine p1 27 9 ?_
    refine p1 28 10 ?_
    refine t1 21 3 ?_ (hy := by rintro w' ⟨s0, s1, s2⟩; go_simp; with_reducible rfl)
    refine t1 25 7 ?_ (hy := by rintro w' ⟨s0, s1, s2⟩; go_simp; with_reducible rfl)
    refine o1 29 11 fun K hK => ?_
    refine goes_ Try.func113 kr rfl #[.int .i64 a0_0, .slice A0_2 l0_2.length c0_2, .slice Ao19 y199.length co19, .bool true] (by rfl) rfl rfl mq ?_
    with_reducible refine (spec_l7Seam.calls k a0_0 _ _ l0_2 _ _ y199 true t203 t204 _ ?s1 ?s2 ?s3 ?s4 A7.out).mono ?_
    (case s1 => exact cq (cB HR0_2.out HB.out))
    (case s2 => exact HC0_2.out)
    (case s3 => repeat (first | exact (by repeat (first | (with_reducible exact HR202.out) | (with_reducible refine cA ?_ _) | (with_reducible refine cN ?_ _) | (with_reducible refine cD ?_) | exact HR202.out)) | (with_reducible refine cA ?_ _) | (with_reducible refine cN ?_ _) | (with_reducible refine cD ?_)))
    (case s4 => exact HC202.out)
    rintro e w20 ⟨v205, v207, rfl, ho0, ho1, hb⟩
    refine ⟨_, rfl, ?_⟩
    have HO206 := aM (rG (wq ho0 HO198) (bZ bq))
    have HO208 := aM (rG (wq ho1 HO198) (bZ bq))
    replace HO198 := z2 (rq HO198.out) hb ho0 ho1
    replace BK0 := aM (kB (g := g) (o := .cells #[.int .i64 a0_0, .slice A0_1 l0_1.length c0_1, .slice A0_2 l0_2.length c0_2] 35 (0, 0)) (kq BK0.out) hb)
    replace BK195 := zb BK195 hb
    replace HR202 := aM (cB (by repeat (first | (with_reducible exact HR202.out) | (with_reducible refine cA ?_ _) | (with_reducible refine cN ?_ _) | (with_reducible refine cD ?_) | exact HR202.out)) hb)
    replace HB := aM (bT bq hb)
    (try clear hb)
    (try clear hb2)
    (try clear hk)
    (try clear hi)
    (try clear ho0)
    (try clear ho1)
    refine hK.out _ _ ⟨cc, cc, cc⟩ (fun hHeld => ?_)
    clear hK K
    refine nn ?_
    refine p1 17 12 ?_
    refine p1 30 13 ?_
    refine p1 31 14 ?_
    refine p1 8 15 ?_
    refine p1 9 16 ?_
    refine done_ (done_of HT_.out kr) ?_
    try go_wp2
    replace HO198 := zd HO198
    replace HO206 := zd HO206
    replace HO208 := zd HO208
    replace BK0 := zk BK0
    replace BK195 := zk BK195
    replace HR202 := aM (cD HR202.out)
    replace HB := aM (bD HB.out)
    have q22 : ((ji4) : Int) ≤ ((t196.length : Int) : Int) := dt
    obtain ⟨i022, hi022, _, hsz22, _⟩ := info_parts info2
    have hroom22 : t196.length ≤ co19 := (rR HO198.out).2.1
    have hC22 : Kd.C (Kd.int .i64) _ Ao19 t196.length t196 := (rR HO198.out).2.2
    have q022 : 0 ≤ ji4 := dt
    have hcut22 := cut_from (P := Try.prog) 22 2 .i64 Try.underlying22 hi022 1 hsz22 Ao19 t196.length co19 (ji4) q022 q22
    have hr22 := Kd.C_drop (m := ((ji4) : Int).toNat) (c := co19) hC22 (by omega) hroom22
    obtain ⟨A22, hA22⟩ : ∃ A1, A1 = (if co19 = ((ji4) : Int).toNat then Ao19 else (Ao19 : Option Addr).map (·.add (((ji4) : Int).toNat * 1))) := ⟨_, rfl⟩
    obtain ⟨c22, hc22⟩ : ∃ c1, c1 = co19 - ((ji4) : Int).toNat := ⟨_, rfl⟩
    have hy22 : y209.length = t196.length - ((ji4) : Int).toNat := (by rw [Ny209.out, List.length_drop] <;> omega)
    rw [show (t196).drop ((ji4) : Int).toNat = y209 from Ny209.out.symm] at hr22
    replace hr22 : Kd.C (Kd.int .i64) _ A22 y209.length y209 := (by rw [hA22]; exact hr22)
    rw [← hy22, ← hA22, ← hc22] at hcut22
    have HR212 := aM hr22
    have HC212 := aM (show y209.length ≤ c22 from by rw [hy22, hc22]; exact Nat.sub_le_sub_right hroom22 _)
    clear hr22 hC22 hroom22 hi022 hsz22 hc22
    have KY22 := aM hy22
    have KA22 := aM hA22
    clear hy22 hA22
    have KL22 := aM (show ((ji4) : Int).toNat ≤ t196.length from by omega)
    replace q22 := eq_true q22
    refine start_ (n := 19) (S := fun w' => w'.cell? ⟨g, 0, none⟩ = some (.int .i64 a0_0) ∧ w'.cell? ⟨g, 1, none⟩ = some (.slice A0_1 l0_1.length c0_1) ∧ w'.cell? ⟨g, 2, none⟩ = some (.slice A0_2 l0_2.length c0_2)) (ds := []) #[N,N,N,N,N,N,N,N,N,N,N,N,N,N,N,N,N,N,N] kr rfl rfl ⟨cc, cc, cc⟩ (fun hHeld => ?_); refine with_tabW spec_l7Play.tab4 spec_l7Play.bits4 (fun HT_ HW_ => ?_)
    generalize w20.drew = w21 at HO198 HO206 HO208 BK0 BK195 HR202 HB HR212 hHeld ⊢
    refine p1 32 0 ?_
    refine p1 33 1 ?_
    refine p1 34 2 ?_
    refine p1 36 4 ?_
    refine p1 37 5 ?_
    refine p1 38 6 ?_
    refine p1 39 7 ?_
    refine p1 42 10 ?_
    refine p1 43 11 ?_
    refine p1 44 12 ?_
    refine p1 47 15 ?_
    refine t1 35 3 ?_ (hy := by rintro w' ⟨s0, s1, s2⟩; go_simp; with_reducible rfl)
    refine t1 45 13 ?_ (hy := by rintro w' ⟨s0, s1, s2⟩; go_simp; with_reducible rfl)
    refine o1 40 8 fun K hK => ?_
    refine goes_ Try.func114 kr rfl #[.slice A22 y209.length c22] (by rfl) rfl rfl mq ?_
    with_reducible refine (spec_l1Ints.calls _ _ y209 t213 _ ?s1 ?s2 A10.out).mono ?_
    (case s1 => repeat (first | exact (by repeat (first | (with_reducible exact HR212.out) | (with_reducible refine cA ?_ _) | (with_reducible refine cN ?_ _) | (with_reducible refine cD ?_) | exact HR212.out)) | (with_reducible refine cA ?_ _) | (with_reducible refine cN ?_ _) | (with_reducible refine cD ?_)))
    (case s2 => exact HC212.out)
    rintro e w23 ⟨v214, rfl, ho0, hb⟩
    refine ⟨_, rfl, ?_⟩
    have HO215 := aM (rG (wq (wq (wq ho0 HO198) HO206) HO208) (bZ bq))
    replace HO198 := zh (rq HO198.out) ho0 hb
    replace HO206 := zh (rq HO206.out) ho0 hb
    replace HO208 := zh (rq HO208.out) ho0 hb
    replace BK0 := aM (kB (g := g) (o := .cells #[.int .i64 a0_0, .slice A0_1 l0_1.length c0_1, .slice A0_2 l0_2.length c0_2] 35 (0, 0)) (kq BK0.out) hb)
    replace BK195 := zb BK195 hb
    replace HR202 := aM (cB (by repeat (first | (with_reducible exact HR202.out) | (with_reducible refine cA ?_ _) | (with_reducible refine cN ?_ _) | (with_reducible refine cD ?_) | exact HR202.out)) hb)
    replace HR212 := aM (cB (by repeat (first | (with_reducible exact HR212.out) | (with_reducible refine cA ?_ _) | (with_reducible refine cN ?_ _) | (with_reducible refine cD ?_) | exact HR212.out)) hb)
    replace HB := aM (bT bq hb)
    (try clear hb)
    (try clear hb2)
    (try clear hk)
    (try clear hi)
    (try clear ho0)
    obtain ⟨Ao24, co24, eo24⟩ := Kd.R_slice HO215.out
    (first | subst eo24 | (injection eo24 with f1_ f2_ f3_; have f4_ := f1_.symm; have f5_ := f3_.symm; clear f1_ f2_ f3_; subst f4_; subst f5_))
    obtain ⟨Ao25, co25, eo25⟩ := Kd.R_slice HO208.out
    (first | subst eo25 | (injection eo25 with f1_ f2_ f3_; have f4_ := f1_.symm; have f5_ := f3_.symm; clear f1_ f2_ f3_; subst f4_; subst f5_))
    refine hK.out _ _ ⟨cc, cc, cc⟩ (fun hHeld => ?_)
    clear hK K
    refine nn ?_
    refine p1 41 9 ?_
    refine o1 46 14 fun K hK => ?_
    refine goes_ Try.func114 kr rfl #[.slice A0_1 l0_1.length c0_1] (by rfl) rfl rfl mq ?_
    with_reducible refine (spec_l1Ints.calls _ _ l0_1 t216 _ ?s1 ?s2 A11.out).mono ?_
    (case s1 => exact cq (cB HR0_1.out HB.out))
    (case s2 => exact HC0_1.out)
    rintro e w26 ⟨v217, rfl, ho0, hb⟩
    refine ⟨_, rfl, ?_⟩
    have HO218 := aM (rG (wq (wq (wq (wq ho0 HO198) HO206) HO208) HO215) (bZ bq))
    replace HO198 := zh (rq HO198.out) ho0 hb
    replace HO206 := zh (rq HO206.out) ho0 hb
    replace HO208 := zh (rq HO208.out) ho0 hb
    replace HO215 := zh (rq HO215.out) ho0 hb
    replace BK0 := aM (kB (g := g) (o := .cells #[.int .i64 a0_0, .slice A0_1 l0_1.length c0_1, .slice A0_2 l0_2.length c0_2] 35 (0, 0)) (kq BK0.out) hb)
    replace BK195 := zb BK195 hb
    replace HR202 := aM (cB (by repeat (first | (with_reducible exact HR202.out) | (with_reducible refine cA ?_ _) | (with_reducible refine cN ?_ _) | (with_reducible refine cD ?_) | exact HR202.out)) hb)
    replace HR212 := aM (cB (by repeat (first | (with_reducible exact HR212.out) | (with_reducible refine cA ?_ _) | (with_reducible refine cN ?_ _) | (with_reducible refine cD ?_) | exact HR212.out)) hb)
    replace HB := aM (bT bq hb)
    (try clear hb)
    (try clear hb2)
    (try clear hk)
    (try clear hi)
    (try clear ho0)
    obtain ⟨Ao28, co28, eo28⟩ := Kd.R_slice HO206.out
    (first | subst eo28 | (injection eo28 with f1_ f2_ f3_; have f4_ := f1_.symm; have f5_ := f3_.symm; clear f1_ f2_ f3_; subst f4_; subst f5_))
    refine hK.out _ _ ⟨cc, cc, cc⟩ (fun hHeld => ?_)
    clear hK K
    refine nn ?_
    refine o1 48 16 fun K hK => ?_
    refine Kd.R_append_rows_step (Kd.int .i64) (w0 := w) w.heap.size (by rfl) (.tmp 46) (.tmp 47) 22 2 (.int .i64 0) 8 rfl Try.underlying22 info2 rfl (by decide) (by omega) v217 t216 t203 _ _ _ (fun k_ => nS Ao19 t196 co19 k_ ∧ nS Ao28 t203 co28 k_ ∧ nS Ao25 t204 co25 k_ ∧ nS Ao24 t213 co24 k_) (fun _ => False) rfl rfl ?aO ?aR (fun _ _ h => h) (fun _ h => h.elim) ?aF ?aB ?aS ?aL ?_
    (case aR => exact cq (rR HO206.out).2.2)
    (case aB => exact bq)
    (case aF => exact (fun k_ hk => ⟨Kd.fresh' (rT (rq HO198.out)) k_ hk, Kd.fresh' (rT (rq HO206.out)) k_ hk, Kd.fresh' (rT (rq HO208.out)) k_ hk, Kd.fresh' (rT (rq HO215.out)) k_ hk⟩))
    (case aO => exact (rq (rM HO218.out jq)))
    (case aS => exact (bZ bq))
    (case aL => have := LMc12.out; omega)
    intro v220 w27 ho hb hg hat
    rw [← Ny219.out] at ho
    replace BK0 := aM (blk_grown (g := g) (o := .cells #[.int .i64 a0_0, .slice A0_1 l0_1.length c0_1, .slice A0_2 l0_2.length c0_2] 35 (0, 0)) (kq BK0.out) hg (Kd.R_ne HO218.out BK0.out (by decide)))
    replace BK195 := aM (blk_grown (kq BK195.out) hg (Kd.R_ne HO218.out BK195.out (by decide)))
    replace HO206 := aM (Kd.R_after (ok := (fun k_ => nS Ao19 t196 co19 k_ ∧ nS Ao25 t204 co25 k_ ∧ nS Ao24 t213 co24 k_)) (rq (rM HO206.out jq)) hg hat)
    replace HO208 := aM (Kd.R_after (ok := (fun k_ => nS Ao19 t196 co19 k_ ∧ nS Ao28 t203 co28 k_ ∧ nS Ao24 t213 co24 k_)) (rq (rM HO208.out jq)) hg hat)
    replace HO215 := aM (Kd.R_after (ok := (fun k_ => nS Ao19 t196 co19 k_ ∧ nS Ao28 t203 co28 k_ ∧ nS Ao25 t204 co25 k_)) (rq (rM HO215.out jq)) hg hat)
    replace HB := aM hb
    replace HR202 := aM ((show Kd.C (Kd.int .i64) w27 Ao19 y199.length y199 from by rw [Ny199.out]; exact Kd.C_take (m := ((ji4) : Int).toNat) ((rR (Kd.R_after (ok := (fun k_ => nS Ao28 t203 co28 k_ ∧ nS Ao25 t204 co25 k_ ∧ nS Ao24 t213 co24 k_)) (rq (rM HO198.out jq)) hg hat)).2.2) KL18.out))
    replace HR212 := aM ((show Kd.C (Kd.int .i64) w27 A22 y209.length y209 from by rw [Ny209.out, KA22.out]; exact Kd.C_drop (m := ((ji4) : Int).toNat) (c := co19) ((rR (Kd.R_after (ok := (fun k_ => nS Ao28 t203 co28 k_ ∧ nS Ao25 t204 co25 k_ ∧ nS Ao24 t213 co24 k_)) (rq (rM HO198.out jq)) hg hat)).2.2) KL22.out ((rR (Kd.R_after (ok := (fun k_ => nS Ao28 t203 co28 k_ ∧ nS Ao25 t204 co25 k_ ∧ nS Ao24 t213 co24 k_)) (rq (rM HO198.out jq)) hg hat)).2.1)))
    replace HO198 := aM (Kd.R_after (ok := (fun k_ => nS Ao28 t203 co28 k_ ∧ nS Ao25 t204 co25 k_ ∧ nS Ao24 t213 co24 k_)) (rq (rM HO198.out jq)) hg hat)
    have HO221 := aM (ho)
    clear HO218 ho hb hg hat
    refine hK.out _ _ ⟨cc, cc, cc⟩ (fun hHeld => ?_)
    clear hK K
    refine nn ?_
    refine oo HT_ (N := none) 17 #[Y,Y,Y,Y,Y,Y,Y,Y,Y,Y,Y,Y,Y,Y,Y,Y,Y,Y,N] (fun K hK => ?_)
    have hs29 : w27.cell? ⟨gb195, 0, none⟩ = some (.int .i64 0) := cc
    have hfs29 := kF BK195.out 0
    have hns29_0 := NB0_195.out
    have hms29_0 := NB195_0.out
    have hs30 : w27.cell? ⟨gb195, 1, none⟩ = some (.slice none 0 0) := cc
    have hfs30 := kF BK195.out 1
    have hns30_0 := NB0_195.out
    have hms30_0 := NB195_0.out
    have hs31 : w27.cell? ⟨gb195, 2, none⟩ = some (.slice none 0 0) := cc
    have hfs31 := kF BK195.out 2
    have hns31_0 := NB0_195.out
    have hms31_0 := NB195_0.out
    refine skip_ (w1 := ?_) (by rfl) rfl ?_ ?_
    rotate_left
    ·go_simp
     rfl
    refine hK.out _ _ ⟨(lf hHeld.1), (lf hHeld.2.1), (lf hHeld.2.2)⟩ (fun hHeld => ?_)
    clear hK K
    refine p1 5 18 ?_
    refine done_ (done_of HT_.out kr) ?_
    try go_wp2
    refine bodyPost_ret (results_ct rfl _ _ gb195 35 #[.int .i64 a0_0, .slice Ao25 t204.length co25, .slice Ao24 t213.length co24] (0, 0) _ rfl (fq BK195.out) Try.underlying35 rfl kr) rfl ?_
    exact ⟨_, _, _, by first | rfl | (simp [errW_none, errW_some] <;> rfl) | (simp only [← hji4]; first | rfl | (simp [errW_none, errW_some] <;> rfl)) | (simp [*, errW_none, errW_some] <;> rfl), rM (rf (Kd.R_types HO208.out BK195.out (by decide))) (fun _ hk => ⟨hk.1.1.2.2, hk.1.2⟩), rM (rf (Kd.R_types HO215.out BK195.out (by decide))) (fun _ hk => ⟨hk.1.1.2.2, hk.1.2⟩), rM (rf (Kd.R_types HO221.out BK195.out (by decide))) (fun _ hk => ⟨hk.1.2.2.1, hk.1.2.2.2⟩), bq⟩
   ·rw [if_neg c12] at H
    exact absurd H (by simp)
  ·rw [if_neg c6] at H
   exact absurd H (by simp)
 ·rw [if_neg c5] at H
  exact absurd H (by simp)
def spec_PlayBlock.f (k : Nat) (a0_0 : Int) (l0_1 : List Int) (l0_2 : List Int) (l1 : List Int) : Option (Int × Int × List Int × List Int × List Int) := (spec_SynthFault.f k a0_0 l0_1 l0_2).bind fun t224 => (if t224 = 0 then (if (l1.length : Int) = a0_0 then ((spec_l6Ask.f k l1 16777216).bind fun t225 => (if t225 = 0 then ((spec_l7Play.f k a0_0 l0_1 l0_2 l1).bind fun bt226 => (some (0, bt226.1, bt226.2.1, bt226.2.2.1, bt226.2.2.2))) else (some (t225, 0, ([] : List Int), ([] : List Int), ([] : List Int))))) else (some (2, 0, ([] : List Int), ([] : List Int), ([] : List Int)))) else (some (t224, 0, ([] : List Int), ([] : List Int), ([] : List Int))))
theorem spec_PlayBlock.calls (k : Nat) (a0_0 : Int) (A0_1 : Option Addr) (c0_1 : Nat) (l0_1 : List Int) (A0_2 : Option Addr) (c0_2 : Nat) (l0_2 : List Int) (A1 : Option Addr) (c1 : Nat) (l1 : List Int) (r1 : Int) (r2 : Int) (r3 : List Int) (r4 : List Int) (r5 : List Int) (w : World) (hr0_1 : Kd.C (Kd.int .i64) w A0_1 l0_1.length l0_1) (hc0_1 : l0_1.length ≤ c0_1) (hr0_2 : Kd.C (Kd.int .i64) w A0_2 l0_2.length l0_2) (hc0_2 : l0_2.length ≤ c0_2) (hr1 : Kd.C (Kd.int .i64) w A1 l1.length l1) (hc1 : l1.length ≤ c1) (h : spec_PlayBlock.f k a0_0 l0_1 l0_2 l1 = some (r1, r2, r3, r4, r5)) :
  Calls Try.prog 18 #[.agg #[.int .i64 a0_0, .slice A0_1 l0_1.length c0_1, .slice A0_2 l0_2.length c0_2], .slice A1 l1.length c1] w fun e w' => ∃ v2_ v3_ v4_ : Value, e = .returned (.agg #[.int .i64 r1, .int .i64 r2, v2_, v3_, v4_]) ∧ Kd.R (Kd.int .i64) 2 w' w.heap.size (fun k_ => nb v3_ k_ ∧ nb v4_ k_) v2_ r3 ∧ Kd.R (Kd.int .i64) 2 w' w.heap.size (fun k_ => nb v2_ k_ ∧ nb v4_ k_) v3_ r4 ∧ Kd.R (Kd.int .i64) 2 w' w.heap.size (fun k_ => nb v2_ k_ ∧ nb v3_ k_) v4_ r5 ∧ Below w.heap.size w w' := by
 have hu35 := Try.underlying35
 have hu37 := Try.underlying37
 have HR0_1 := aM hr0_1
 have HC0_1 := aM hc0_1
 clear hr0_1 hc0_1
 have HR0_2 := aM hr0_2
 have HC0_2 := aM hc0_2
 clear hr0_2 hc0_2
 have HR1 := aM hr1
 have HC1 := aM hc1
 clear hr1 hc1
 have HB := aM (Below.refl w.heap.size w)
 unfold spec_PlayBlock.f at h
 have H := h
 clear h
 replace H := bo H
 obtain ⟨t224, A3, H⟩ := H
 replace H := bz H
 by_cases c4 : t224 = 0
 ·rw [if_pos c4] at H
  have c4b0 := eT c4
  have c4b1 := nF c4
  clear c4
  by_cases c5 : (l1.length : Int) = a0_0
  ·rw [if_pos c5] at H
   have c5b0 := eT c5
   have c5b1 := nF c5
   clear c5
   replace H := bo H
   obtain ⟨t225, A6, H⟩ := H
   replace H := bz H
   by_cases c7 : t225 = 0
   ·rw [if_pos c7] at H
    have c7b0 := eT c7
    have c7b1 := nF c7
    clear c7
    replace H := bo H
    obtain ⟨⟨t226, t227, t230, t233⟩, A8, H⟩ := H
    replace H := bz H
    simp only [Option.some.injEq, Prod.mk.injEq] at H
    obtain ⟨rfl, rfl, rfl, rfl, rfl⟩ := H
    go_enter Try.func18, Try.ntmps18
    go_wp2_with (first | ((with_reducible refine gD 2 rfl ?_); refine bx 2 35 #[.int .i64 a0_0, .slice A0_1 l0_1.length c0_1, .slice A0_2 l0_2.length c0_2] ?_; intro gb222 hg w9 hbox hb; have BK222 := aM hbox; have GW222 := gw w hg; have GE222 := GW222; replace HB := aM (bT bq hb); clear hb hbox hg) | ((with_reducible refine gD 4 rfl ?_); refine bx 4 37 #[.int .i64 0, .int .i64 0, .slice none 0 0, .slice none 0 0, .slice none 0 0] ?_; intro gb223 hg w10 hbox hb; have BK223 := aM hbox; have GW223 := gw w hg; have GE223 := GW223; replace HB := aM (bT bq hb); have NB222_223 := nl BK222 hg; have NB223_222 := aM NB222_223.out.symm; replace BK222 := zb BK222 hb; clear hb hbox hg; have hnb11 := NB222_223.out; have hnc11 := NB223_222.out; obtain ⟨hcz12_0, hcz12_1, hcz12_2, hfz12_0, hfz12_1, hfz12_2⟩ := b3 BK222.out) | ((with_reducible refine gC 65 rfl ?_); refine gl (some 10) Try.func65 #[.agg #[.int .i64 a0_0, .slice A0_1 l0_1.length c0_1, .slice A0_2 l0_2.length c0_2]] ?_; (with_reducible refine (spec_SynthFault.calls k a0_0 _ _ l0_1 _ _ l0_2 t224 _ ?s1 ?s2 ?s3 ?s4 A3.out).mono ?_); (case s1 => exact cq (cB HR0_1.out HB.out)); (case s2 => exact HC0_1.out); (case s3 => exact cq (cB HR0_2.out HB.out)); (case s4 => exact HC0_2.out); rintro e w13 ⟨rfl, hb⟩; refine ii ?_; replace BK222 := zb BK222 hb; replace BK223 := zb BK223 hb; replace HB := aM (bT bq hb); (try clear hb); obtain ⟨hcz14_0, hcz14_1, hcz14_2, hfz14_0, hfz14_1, hfz14_2⟩ := b3 BK222.out) | ((with_reducible refine gC 66 rfl ?_); refine gl (some 22) Try.func66 #[.slice A1 l1.length c1, .int .i64 16777216] ?_; (with_reducible refine (spec_l6Ask.calls k _ _ l1 16777216 t225 _ ?s1 ?s2 A6.out).mono ?_); (case s1 => exact cq (cB HR1.out HB.out)); (case s2 => exact HC1.out); rintro e w' ⟨rfl, ⟨nd, rfl⟩⟩; refine ii ?_; (try (rw [drewN_self w13]; generalize hq_ : World.drewN w13 _ = w13; have n0_ : Aside0 (w13.heap[gb222]? = some (.cells #[.int .i64 a0_0, .slice A0_1 l0_1.length c0_1, .slice A0_2 l0_2.length c0_2] 35 (0, 0))) := ⟨by rw [← hq_]; exact (kq BK222.out)⟩; have n1_ : Aside0 (w13.heap[gb223]? = some (.cells #[.int .i64 0, .int .i64 0, .slice none 0 0, .slice none 0 0, .slice none 0 0] 37 (0, 0))) := ⟨by rw [← hq_]; exact (kq BK223.out)⟩; have n2_ : Aside0 (Below w.heap.size w w13) := ⟨by rw [← hq_]; exact bq⟩; clear BK222 BK223 HB hq_; have BK222 := n0_; have BK223 := n1_; have HB := n2_; clear n0_ n1_ n2_))) | ((with_reducible refine gC 67 rfl ?_); refine gl (some 29) Try.func67 #[.pointer (some ⟨gb222, 0, none⟩), .slice A1 l1.length c1] ?_; (with_reducible refine (spec_l7Play.calls k gb222 a0_0 A0_1 c0_1 l0_1 A0_2 c0_2 l0_2 _ _ l1 t226 t227 t230 t233 _ ?s1 ?s2 ?s3 ?s4 ?s5 ?s6 ?s7 A8.out).mono ?_); (case s1 => (with_reducible repeat (first | refine kN ?_ _ | refine kD ?_ | refine kA ?_ _)); exact BK222.out); (case s2 => exact cq (cB HR0_1.out HB.out)); (case s3 => exact HC0_1.out); (case s4 => exact cq (cB HR0_2.out HB.out)); (case s5 => exact HC0_2.out); (case s6 => exact cq (cB HR1.out HB.out)); (case s7 => exact HC1.out); rintro e w15 ⟨v228, v231, v234, rfl, ho0, ho1, ho2, hb⟩; refine ii ?_; have HO229 := aM (rG ho0 (bZ bq)); have HO232 := aM (rG ho1 (bZ bq)); have HO235 := aM (rG ho2 (bZ bq)); replace BK222 := zb BK222 hb; replace BK223 := zb BK223 hb; replace HB := aM (bT bq hb); (try clear hb); (try clear ho0); (try clear ho1); (try clear ho2)) | ((with_reducible refine gD 7 rfl ?_); refine bx 7 35 #[.int .i64 0, .slice none 0 0, .slice none 0 0] ?_; intro gb236 hg w16 hbox hb; replace HO229 := zl HO229 hb; replace HO232 := zl HO232 hb; replace HO235 := zl HO235 hb; have BK236 := aM hbox; have GW236 := gw w hg; have GE236 := GW236; replace HB := aM (bT bq hb); have NB222_236 := nl BK222 hg; have NB236_222 := aM NB222_236.out.symm; replace BK222 := zb BK222 hb; have NB223_236 := nl BK223 hg; have NB236_223 := aM NB223_236.out.symm; replace BK223 := zb BK223 hb; clear hb hbox hg; have hnb17 := NB236_222.out; have hnc17 := NB222_236.out; have hnb18 := NB236_223.out; have hnc18 := NB223_236.out; obtain ⟨hcz19_0, hcz19_1, hcz19_2, hfz19_0, hfz19_1, hfz19_2⟩ := b3 BK236.out; obtain ⟨Ao20, co20, rfl⟩ := rS HO229.out; obtain ⟨Ao21, co21, rfl⟩ := rS HO232.out; obtain ⟨Ao22, co22, rfl⟩ := rS HO235.out; obtain ⟨hcz23_0, hcz23_1, hcz23_2, hcz23_3, hcz23_4, hfz23_0, hfz23_1, hfz23_2, hfz23_3, hfz23_4⟩ := b5 BK223.out))
    refine bodyPost_ret (results_cell_row rfl _ _ gb223 37 #[.int .i64 0, .int .i64 t226, .slice Ao20 t227.length co20, .slice Ao21 t230.length co21, .slice Ao22 t233.length co22] (0, 0) _ rfl (fq BK223.out) Try.underlying37 rfl kr) rfl ?_
    exact ⟨_, _, _, ew, rM (rf (Kd.R_types (Kd.R_types HO229.out BK236.out (by decide)) BK223.out (by decide))) (fun _ hk => ⟨hk.1.1.1, hk.1.1.2⟩), rM (rf (Kd.R_types (Kd.R_types HO232.out BK236.out (by decide)) BK223.out (by decide))) (fun _ hk => ⟨hk.1.1.1, hk.1.1.2⟩), rM (rf (Kd.R_types (Kd.R_types HO235.out BK236.out (by decide)) BK223.out (by decide))) (fun _ hk => ⟨hk.1.1.1, hk.1.1.2⟩), bq⟩
   ·rw [if_neg c7] at H
    have c7b0 := eF c7
    have c7b1 := nT c7
    simp only [Option.some.injEq, Prod.mk.injEq] at H
    obtain ⟨rfl, rfl, rfl, rfl, rfl⟩ := H
    go_enter Try.func18, Try.ntmps18
    go_wp2_with (first | ((with_reducible refine gD 2 rfl ?_); refine bx 2 35 #[.int .i64 a0_0, .slice A0_1 l0_1.length c0_1, .slice A0_2 l0_2.length c0_2] ?_; intro gb222 hg w24 hbox hb; have BK222 := aM hbox; have GW222 := gw w hg; have GE222 := GW222; replace HB := aM (bT bq hb); clear hb hbox hg) | ((with_reducible refine gD 4 rfl ?_); refine bx 4 37 #[.int .i64 0, .int .i64 0, .slice none 0 0, .slice none 0 0, .slice none 0 0] ?_; intro gb223 hg w25 hbox hb; have BK223 := aM hbox; have GW223 := gw w hg; have GE223 := GW223; replace HB := aM (bT bq hb); have NB222_223 := nl BK222 hg; have NB223_222 := aM NB222_223.out.symm; replace BK222 := zb BK222 hb; clear hb hbox hg; have hnb26 := NB222_223.out; have hnc26 := NB223_222.out; obtain ⟨hcz27_0, hcz27_1, hcz27_2, hfz27_0, hfz27_1, hfz27_2⟩ := b3 BK222.out) | ((with_reducible refine gC 65 rfl ?_); refine gl (some 10) Try.func65 #[.agg #[.int .i64 a0_0, .slice A0_1 l0_1.length c0_1, .slice A0_2 l0_2.length c0_2]] ?_; (with_reducible refine (spec_SynthFault.calls k a0_0 _ _ l0_1 _ _ l0_2 t224 _ ?s1 ?s2 ?s3 ?s4 A3.out).mono ?_); (case s1 => exact cq (cB HR0_1.out HB.out)); (case s2 => exact HC0_1.out); (case s3 => exact cq (cB HR0_2.out HB.out)); (case s4 => exact HC0_2.out); rintro e w28 ⟨rfl, hb⟩; refine ii ?_; replace BK222 := zb BK222 hb; replace BK223 := zb BK223 hb; replace HB := aM (bT bq hb); (try clear hb); obtain ⟨hcz29_0, hcz29_1, hcz29_2, hfz29_0, hfz29_1, hfz29_2⟩ := b3 BK222.out) | ((with_reducible refine gC 66 rfl ?_); refine gl (some 22) Try.func66 #[.slice A1 l1.length c1, .int .i64 16777216] ?_; (with_reducible refine (spec_l6Ask.calls k _ _ l1 16777216 t225 _ ?s1 ?s2 A6.out).mono ?_); (case s1 => exact cq (cB HR1.out HB.out)); (case s2 => exact HC1.out); rintro e w' ⟨rfl, ⟨nd, rfl⟩⟩; refine ii ?_; (try (rw [drewN_self w28]; generalize hq_ : World.drewN w28 _ = w28; have n0_ : Aside0 (w28.heap[gb222]? = some (.cells #[.int .i64 a0_0, .slice A0_1 l0_1.length c0_1, .slice A0_2 l0_2.length c0_2] 35 (0, 0))) := ⟨by rw [← hq_]; exact (kq BK222.out)⟩; have n1_ : Aside0 (w28.heap[gb223]? = some (.cells #[.int .i64 0, .int .i64 0, .slice none 0 0, .slice none 0 0, .slice none 0 0] 37 (0, 0))) := ⟨by rw [← hq_]; exact (kq BK223.out)⟩; have n2_ : Aside0 (Below w.heap.size w w28) := ⟨by rw [← hq_]; exact bq⟩; clear BK222 BK223 HB hq_; have BK222 := n0_; have BK223 := n1_; have HB := n2_; clear n0_ n1_ n2_)); obtain ⟨hcz30_0, hcz30_1, hcz30_2, hcz30_3, hcz30_4, hfz30_0, hfz30_1, hfz30_2, hfz30_3, hfz30_4⟩ := b5 BK223.out))
    refine bodyPost_ret (results_cell_row rfl _ _ gb223 37 #[.int .i64 t225, .int .i64 0, .slice none 0 0, .slice none 0 0, .slice none 0 0] (0, 0) _ rfl (fq BK223.out) Try.underlying37 rfl kr) rfl ?_
    exact ⟨_, _, _, ew, rn, rn, rn, bq⟩
  ·rw [if_neg c5] at H
   have c5b0 := eF c5
   have c5b1 := nT c5
   simp only [Option.some.injEq, Prod.mk.injEq] at H
   obtain ⟨rfl, rfl, rfl, rfl, rfl⟩ := H
   go_enter Try.func18, Try.ntmps18
   go_wp2_with (first | ((with_reducible refine gD 2 rfl ?_); refine bx 2 35 #[.int .i64 a0_0, .slice A0_1 l0_1.length c0_1, .slice A0_2 l0_2.length c0_2] ?_; intro gb222 hg w31 hbox hb; have BK222 := aM hbox; have GW222 := gw w hg; have GE222 := GW222; replace HB := aM (bT bq hb); clear hb hbox hg) | ((with_reducible refine gD 4 rfl ?_); refine bx 4 37 #[.int .i64 0, .int .i64 0, .slice none 0 0, .slice none 0 0, .slice none 0 0] ?_; intro gb223 hg w32 hbox hb; have BK223 := aM hbox; have GW223 := gw w hg; have GE223 := GW223; replace HB := aM (bT bq hb); have NB222_223 := nl BK222 hg; have NB223_222 := aM NB222_223.out.symm; replace BK222 := zb BK222 hb; clear hb hbox hg; have hnb33 := NB222_223.out; have hnc33 := NB223_222.out; obtain ⟨hcz34_0, hcz34_1, hcz34_2, hfz34_0, hfz34_1, hfz34_2⟩ := b3 BK222.out) | ((with_reducible refine gC 65 rfl ?_); refine gl (some 10) Try.func65 #[.agg #[.int .i64 a0_0, .slice A0_1 l0_1.length c0_1, .slice A0_2 l0_2.length c0_2]] ?_; (with_reducible refine (spec_SynthFault.calls k a0_0 _ _ l0_1 _ _ l0_2 t224 _ ?s1 ?s2 ?s3 ?s4 A3.out).mono ?_); (case s1 => exact cq (cB HR0_1.out HB.out)); (case s2 => exact HC0_1.out); (case s3 => exact cq (cB HR0_2.out HB.out)); (case s4 => exact HC0_2.out); rintro e w35 ⟨rfl, hb⟩; refine ii ?_; replace BK222 := zb BK222 hb; replace BK223 := zb BK223 hb; replace HB := aM (bT bq hb); (try clear hb); obtain ⟨hcz36_0, hcz36_1, hcz36_2, hfz36_0, hfz36_1, hfz36_2⟩ := b3 BK222.out; obtain ⟨hcz37_0, hcz37_1, hcz37_2, hcz37_3, hcz37_4, hfz37_0, hfz37_1, hfz37_2, hfz37_3, hfz37_4⟩ := b5 BK223.out))
   refine bodyPost_ret (results_cell_row rfl _ _ gb223 37 #[.int .i64 2, .int .i64 0, .slice none 0 0, .slice none 0 0, .slice none 0 0] (0, 0) _ rfl (fq BK223.out) Try.underlying37 rfl kr) rfl ?_
   exact ⟨_, _, _, ew, rn, rn, rn, bq⟩
 ·rw [if_neg c4] at H
  have c4b0 := eF c4
  have c4b1 := nT c4
  simp only [Option.some.injEq, Prod.mk.injEq] at H
  obtain ⟨rfl, rfl, rfl, rfl, rfl⟩ := H
  go_enter Try.func18, Try.ntmps18
  go_wp2_with (first | ((with_reducible refine gD 2 rfl ?_); refine bx 2 35 #[.int .i64 a0_0, .slice A0_1 l0_1.length c0_1, .slice A0_2 l0_2.length c0_2] ?_; intro gb222 hg w38 hbox hb; have BK222 := aM hbox; have GW222 := gw w hg; have GE222 := GW222; replace HB := aM (bT bq hb); clear hb hbox hg) | ((with_reducible refine gD 4 rfl ?_); refine bx 4 37 #[.int .i64 0, .int .i64 0, .slice none 0 0, .slice none 0 0, .slice none 0 0] ?_; intro gb223 hg w39 hbox hb; have BK223 := aM hbox; have GW223 := gw w hg; have GE223 := GW223; replace HB := aM (bT bq hb); have NB222_223 := nl BK222 hg; have NB223_222 := aM NB222_223.out.symm; replace BK222 := zb BK222 hb; clear hb hbox hg; have hnb40 := NB222_223.out; have hnc40 := NB223_222.out; obtain ⟨hcz41_0, hcz41_1, hcz41_2, hfz41_0, hfz41_1, hfz41_2⟩ := b3 BK222.out) | ((with_reducible refine gC 65 rfl ?_); refine gl (some 10) Try.func65 #[.agg #[.int .i64 a0_0, .slice A0_1 l0_1.length c0_1, .slice A0_2 l0_2.length c0_2]] ?_; (with_reducible refine (spec_SynthFault.calls k a0_0 _ _ l0_1 _ _ l0_2 t224 _ ?s1 ?s2 ?s3 ?s4 A3.out).mono ?_); (case s1 => exact cq (cB HR0_1.out HB.out)); (case s2 => exact HC0_1.out); (case s3 => exact cq (cB HR0_2.out HB.out)); (case s4 => exact HC0_2.out); rintro e w42 ⟨rfl, hb⟩; refine ii ?_; replace BK222 := zb BK222 hb; replace BK223 := zb BK223 hb; replace HB := aM (bT bq hb); (try clear hb); obtain ⟨hcz43_0, hcz43_1, hcz43_2, hcz43_3, hcz43_4, hfz43_0, hfz43_1, hfz43_2, hfz43_3, hfz43_4⟩ := b5 BK223.out))
  refine bodyPost_ret (results_cell_row rfl _ _ gb223 37 #[.int .i64 t224, .int .i64 0, .slice none 0 0, .slice none 0 0, .slice none 0 0] (0, 0) _ rfl (fq BK223.out) Try.underlying37 rfl kr) rfl ?_
  exact ⟨_, _, _, ew, rn, rn, rn, bq⟩
def impl_first.l0 : Nat → List Int → Int → Int → Option (Int)
 | 0, _, _, _ => none
 | k + 1, x5, x6, x7 => if x7 < x6 then (if 0 ≤ x7 then (if x7 < (x5.length : Int) then (if (rd x5 x7) = 0 then (impl_first.l0 k x5 x6 (wrap64 (x7 + 1))) else (some (rd x5 x7))) else (none)) else (none)) else (some 0)
def impl_first.f (k : Nat) (l0 : List Int) : Option (Int) := impl_first.l0 k l0 (l0.length : Int) 0
theorem impl_first.calls (k : Nat) (A0 : Option Addr) (c0 : Nat) (l0 : List Int) (r : Int) (w : World) (hr0 : Kd.C (Kd.int .i64) w A0 l0.length l0) (hc0 : l0.length ≤ c0) (h : impl_first.f k l0 = some r) :
  Calls Try.prog 54 #[.slice A0 l0.length c0] w fun e w' => e = .returned (.int .i64 r) ∧ Drawn0 w w' := by
 have HR0 := aM hr0
 have HC0 := aM hc0
 clear hr0 hc0
 unfold impl_first.f at h
 have H := h
 clear h
 have H' := aM H
 clear H
 go_enter Try.func54, Try.ntmps54
 go_wp2
 go_loopg [7] k (fun kq v7 w' => ∃ (x7_1 : Int), v7 = .int .i64 x7_1 ∧ Aside0 (impl_first.l0 kq l0 (l0.length : Int) x7_1 = some r) ∧ Aside0 (kq ≤ k) ∧ Drawn0 w w')
 case atStart => exact ⟨(0), (ex), H', ⟨Nat.le_refl _⟩, by repeat (first | exact Drawn0.refl _ | apply Drawn0.step)⟩
 case round =>
  clear H'
  obtain ⟨x7_1, rfl, HA, HK1, ⟨m1, rfl⟩⟩ := hrel
  cases gk with
  | zero => exact absurd HA.out (by simp [impl_first.l0])
  | succ k1 =>
   have H := HA.out
   clear HA
   simp only [impl_first.l0] at H
   by_cases c2 : x7_1 < (l0.length : Int)
   ·rw [if_pos c2] at H
    have c2b0 := dT c2
    clear c2
    by_cases c3 : 0 ≤ x7_1
    ·rw [if_pos c3] at H
     have c3b0 := dT c3
     clear c3
     by_cases c4 : x7_1 < (l0.length : Int)
     ·rw [if_pos c4] at H
      have c4b0 := dT c4
      clear c4
      by_cases c5 : (rd l0 x7_1) = 0
      ·rw [if_pos c5] at H
       have c5b0 := eT c5
       have c5b1 := nF c5
       clear c5
       have H' := aM H
       clear H
       have p237 : 0 ≤ (x7_1 : Int) := dt
       have q237 : x7_1 < (l0.length : Int) := dt
       obtain ⟨ad237, e237, hx237_0⟩ := Kd.at_int HR0.out x7_1 p237 q237
       cases e237
       replace p237 := eq_true p237
       replace q237 := eq_true q237
       go_wp2
       go_roundg k1
       case measure => have := HK1.out; omega
       case rel => exact ⟨(wrap64 (x7_1 + 1)), (ex), H', ⟨by have := HK1.out; omega⟩, by repeat (first | exact Drawn0.refl _ | apply Drawn0.step)⟩
      ·rw [if_neg c5] at H
       have c5b0 := eF c5
       have c5b1 := nT c5
       obtain rfl := Option.some.inj H
       have p237 : 0 ≤ (x7_1 : Int) := dt
       have q237 : x7_1 < (l0.length : Int) := dt
       obtain ⟨ad237, e237, hx237_0⟩ := Kd.at_int HR0.out x7_1 p237 q237
       cases e237
       replace p237 := eq_true p237
       replace q237 := eq_true q237
       go_wp2
       go_ret
       exact ⟨ex, dr⟩
     ·rw [if_neg c4] at H
      exact absurd H (by simp)
    ·rw [if_neg c3] at H
     exact absurd H (by simp)
   ·rw [if_neg c2] at H
    have c2b0 := dF c2
    clear c2
    obtain rfl := Option.some.inj H
    go_wp2
    go_ret
    exact ⟨ex, dr⟩
end Go.Proofs.Ytmhnpogjkbmmnaa.PFnStates
