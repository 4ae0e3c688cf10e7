import Derived.Test.YtmhnpogjkbmmnaaPFnStatesx0
import Derived.Test.YtmhnpogjkbmmnaaPFnStatesx5
import Derived.Test.YtmhnpogjkbmmnaaPFnStatesx6
import Derived.Test.YtmhnpogjkbmmnaaPFnStatesx15
namespace Go.Proofs.Ytmhnpogjkbmmnaa.PFnStates
open Go.RowKit Go.Proofs.YtmhnpogjkbmmnaaW.PrintWords Go.Proofs.YtmhnpogjkbmmnaaW.PrintLast Go.Proofs.YtmhnpogjkbmmnaaW.PrintMore
open Go.Proofs.YtmhnpogjkbmmnaaW.PrintWords.Kd renaming R_lower → rG, R_reads' → rR, C_below → cB
open Go.Proofs.YtmhnpogjkbmmnaaW.PrintWords renaming below_drew1 → bD, below_step → bT, below_size → bZ, blk_drew → kD, blk_below → kB, blk_cell → kC
open Go.Proofs.YtmhnpogjkbmmnaaW.PrintWords.Aside0 renaming mk → aM
attribute [local go_sem] max2_int min2_int max_two min_two max_three min_three max_four min_four
set_option maxHeartbeats 8000000
set_option maxRecDepth 100000
set_option linter.unusedVariables false
set_option linter.unusedSimpArgs false
def impl_LapFault.f (k : Nat) (a0_0 : Int) (l0_1 : List Int) (l0_2 : List Int) : Option (Int) := (impl_SizeFault.f a0_0).bind fun t487 => ((impl_halfOf.f l0_1 a0_0).bind fun t488 => (if t488 = true then ((impl_halfOf.f l0_2 a0_0).bind fun t489 => ((impl_codeIf.f (!t489) 2).bind fun t490 => ((impl_allWithin.f l0_1 65536).bind fun t491 => (if t491 = true then ((impl_areSamples.f l0_2).bind fun t492 => ((impl_codeIf.f (!t492) 3).bind fun t493 => ((impl_first.f k (([t487, t490, t493] : List Int))).bind fun t497 => (some t497)))) else ((impl_codeIf.f true 3).bind fun t498 => ((impl_first.f k (([t487, t490, t498] : List Int))).bind fun t502 => (some t502))))))) else ((impl_codeIf.f true 2).bind fun t503 => ((impl_allWithin.f l0_1 65536).bind fun t504 => (if t504 = true then ((impl_areSamples.f l0_2).bind fun t505 => ((impl_codeIf.f (!t505) 3).bind fun t506 => ((impl_first.f k (([t487, t503, t506] : List Int))).bind fun t510 => (some t510)))) else ((impl_codeIf.f true 3).bind fun t511 => ((impl_first.f k (([t487, t503, t511] : List Int))).bind fun t515 => (some t515))))))))
def impl_LapFault.T1 : Bool × List (List Nat × List Nat) := (true, [([], []), ([0], [0]), ([1], [1]), ([], []), ([3], [3]), ([], []), ([5], [5]), ([4, 6, 2], [4, 6]), ([7], [7]), ([8, 7], [8]), ([9], [9]), ([10, 9], [9, 10]), ([9], [9]), ([12, 9], [9, 12]), ([11, 13, 9, 9], [9, 11, 13]), ([14, 9], [9, 14]), ([9, 15], [9, 15]), ([16, 14], [16]), ([], []), ([18], [18]), ([19, 17], [19]), ([20], [20]), ([21, 20], [21]), ([22], [22]), ([23, 22], [22, 23]), ([24, 22, 22], [22, 24]), ([25, 22], [22, 25]), ([22, 26], [22, 26]), ([27, 25], [27]), ([2, 17, 28], [2, 17, 28]), ([29, 28], [29]), ([30, 30, 0, 1, 2, 3, 4, 5, 6, 7, 8, 9, 10, 11, 12, 13, 14, 15, 16, 17, 18, 19, 20, 21, 22, 23, 24, 25, 26, 27, 28, 29, 30], [30])])
def impl_LapFault.B1 : List Nat := [0, 1, 3, 0, 8, 0, 32, 127, 255, 511, 1023, 2047, 1023, 5119, 16383, 32767, 65535, 131071, 0, 262144, 1048575, 2097151, 4194303, 8388607, 16777215, 33554431, 67108863, 134217727, 268435455, 536870911, 1073741823, 2147483647]
theorem impl_LapFault.tab1 : rtab .any (opsOf Try.f43 1) = impl_LapFault.T1 := by kernel_rfl
theorem impl_LapFault.bits1 : waitsOk impl_LapFault.T1.2 impl_LapFault.B1 = true := by kernel_rfl
theorem impl_LapFault.calls (k : Nat) (a0_0 : Int) (A0_1 : Option Addr) (c0_1 : Nat) (l0_1 : List Int) (A0_2 : Option Addr) (c0_2 : Nat) (l0_2 : List Int) (r : Int) (w : World) (hr0_1 : Kd.C (Kd.int .i64) w A0_1 l0_1.length l0_1) (hc0_1 : l0_1.length ≤ c0_1) (hr0_2 : Kd.C (Kd.int .i64) w A0_2 l0_2.length l0_2) (hc0_2 : l0_2.length ≤ c0_2) (h : impl_LapFault.f k a0_0 l0_1 l0_2 = some r) :
  Calls Try.prog 43 #[.agg #[.int .i64 a0_0, .slice A0_1 l0_1.length c0_1, .slice A0_2 l0_2.length c0_2]] w fun e w' => e = .returned (.int .i64 r) ∧ Below w.heap.size w w' := by
 have hu48 := Try.underlying48
 have HR0_1 := aM hr0_1
 have HC0_1 := aM hc0_1
 clear hr0_1 hc0_1
 have HR0_2 := aM hr0_2
 have HC0_2 := aM hc0_2
 clear hr0_2 hc0_2
 have HB := aM (Below.refl w.heap.size w)
 unfold impl_LapFault.f at h
 have H := h
 clear h
 replace H := bo H
 obtain ⟨t487, A2, H⟩ := H
 replace H := bz H
 replace H := bo H
 obtain ⟨t488, A3, H⟩ := H
 replace H := bz H
 by_cases c4 : t488 = true
 ·subst c4
  have H1 : ((impl_halfOf.f l0_2 a0_0).bind fun t489 => ((impl_codeIf.f (!t489) 2).bind fun t490 => ((impl_allWithin.f l0_1 65536).bind fun t491 => (if t491 = true then ((impl_areSamples.f l0_2).bind fun t492 => ((impl_codeIf.f (!t492) 3).bind fun t493 => ((impl_first.f k (([t487, t490, t493] : List Int))).bind fun t497 => (some t497)))) else ((impl_codeIf.f true 3).bind fun t498 => ((impl_first.f k (([t487, t490, t498] : List Int))).bind fun t502 => (some t502))))))) = some r := by rw [if_pos rfl] at H; exact H
  clear H
  have H := H1
  clear H1
  replace H := bo H
  obtain ⟨t489, A5, H⟩ := H
  replace H := bz H
  replace H := bo H
  obtain ⟨t490, A6, H⟩ := H
  replace H := bz H
  replace H := bo H
  obtain ⟨t491, A7, H⟩ := H
  replace H := bz H
  by_cases c8 : t491 = true
  ·subst c8
   have H1 : ((impl_areSamples.f l0_2).bind fun t492 => ((impl_codeIf.f (!t492) 3).bind fun t493 => ((impl_first.f k (([t487, t490, t493] : List Int))).bind fun t497 => (some t497)))) = some r := by rw [if_pos rfl] at H; exact H
   clear H
   have H := H1
   clear H1
   replace H := bo H
   obtain ⟨t492, A9, H⟩ := H
   replace H := bz H
   replace H := bo H
   obtain ⟨t493, A10, H⟩ := H
   replace H := bz H
   obtain ⟨y494, Ny494⟩ : ∃ y_ : List Int, Aside0 (y_ = (([t487, t490, t493] : List Int))) := ⟨_, ⟨rfl⟩⟩
   rw [← Ny494.out] at H
   replace H := bo H
   obtain ⟨t497, A11, H⟩ := H
   replace H : (some t497) = some r := H
   obtain rfl := Option.some.inj H
   go_enter Try.func43, Try.ntmps43
   try go_wp2_with (first | ((with_reducible refine gD 1 rfl ?_); refine bx 1 48 #[.int .i64 a0_0, .slice A0_1 l0_1.length c0_1, .slice A0_2 l0_2.length c0_2] ?_; intro gb486 hg w12 hbox hb; have BK486 := aM hbox; have GW486 := gw w hg; have GE486 := GW486; replace HB := aM (bT bq hb); clear hb hbox hg))
   replace BK486 := zk BK486
   replace HB := aM (bD HB.out)
   refine start_ (n := 32) (S := fun w' => w'.cell? ⟨gb486, 0, none⟩ = some (.int .i64 a0_0) ∧ w'.cell? ⟨gb486, 1, none⟩ = some (.slice A0_1 l0_1.length c0_1) ∧ w'.cell? ⟨gb486, 2, none⟩ = some (.slice A0_2 l0_2.length c0_2)) (ds := []) #[N,N,N,N,N,N,N,N,N,N,N,N,N,N,N,N,N,N,N,N,N,N,N,N,N,N,N,N,N,N,N,N] kr rfl rfl ⟨cc, cc, cc⟩ (fun hHeld => ?_); refine with_tabW impl_LapFault.tab1 impl_LapFault.bits1 (fun HT_ HW_ => ?_)
   generalize w12.drew = w13 at BK486 HB hHeld ⊢
   refine p1 3 0 ?_
   refine p1 6 3 ?_
   refine p1 8 5 ?_
   refine p1 21 18 ?_
   refine t1 4 1 ?_ (hy := by rintro w' ⟨s0, s1, s2⟩; go_simp; with_reducible rfl)
   refine t1 7 4 ?_ (hy := by rintro w' ⟨s0, s1, s2⟩; go_simp; with_reducible rfl)
   refine t1 9 6 ?_ (hy := by rintro w' ⟨s0, s1, s2⟩; go_simp; with_reducible rfl)
   refine t1 22 19 ?_ (hy := by rintro w' ⟨s0, s1, s2⟩; go_simp; with_reducible rfl)
   refine o1 5 2 fun K hK => ?_
   refine goes_ Try.func55 kr rfl #[.int .i64 a0_0] (by rfl) rfl rfl mq ?_
   with_reducible refine (impl_SizeFault.calls a0_0 t487 _ A2.out).mono ?_
   rintro e w' ⟨rfl, ⟨nd, rfl⟩⟩
   refine ⟨_, rfl, ?_⟩
   refine hK.out _ _ ⟨cc, cc, cc⟩ (fun hHeld => ?_)
   clear hK K
   refine nn ?_
   refine o1 10 7 fun K hK => ?_
   refine goes_ Try.func95 kr rfl #[.slice A0_1 l0_1.length c0_1, .int .i64 a0_0] (by rfl) rfl rfl mq ?_
   with_reducible refine (impl_halfOf.calls _ _ l0_1 a0_0 true _ ?s1 ?s2 A3.out).mono ?_
   (case s1 => exact cq (cB HR0_1.out bq))
   (case s2 => exact HC0_1.out)
   rintro e w' ⟨rfl, ⟨nd, rfl⟩⟩
   refine ⟨_, rfl, ?_⟩
   refine hK.out _ _ ⟨cc, cc, cc⟩ (fun hHeld => ?_)
   clear hK K
   refine nn ?_
   refine p1 11 8 ?_
   refine p1 12 9 ?_
   refine p1 13 10 ?_
   refine p1 15 12 ?_
   refine t1 14 11 ?_ (hy := by rintro w' ⟨s0, s1, s2⟩; go_simp; with_reducible rfl)
   refine t1 16 13 ?_ (hy := by rintro w' ⟨s0, s1, s2⟩; go_simp; with_reducible rfl)
   refine o1 17 14 fun K hK => ?_
   refine goes_ Try.func95 kr rfl #[.slice A0_2 l0_2.length c0_2, .int .i64 a0_0] (by rfl) rfl rfl mq ?_
   with_reducible refine (impl_halfOf.calls _ _ l0_2 a0_0 t489 _ ?s1 ?s2 A5.out).mono ?_
   (case s1 => exact cq (cB HR0_2.out bq))
   (case s2 => exact HC0_2.out)
   rintro e w' ⟨rfl, ⟨nd, rfl⟩⟩
   refine ⟨_, rfl, ?_⟩
   refine hK.out _ _ ⟨cc, cc, cc⟩ (fun hHeld => ?_)
   clear hK K
   refine nn ?_
   refine p1 18 15 ?_
   refine p1 19 16 ?_
   refine o1 20 17 fun K hK => ?_
   refine goes_ Try.func56 kr rfl #[.bool (!t489), .int .i64 2] (by rfl) rfl rfl mq ?_
   with_reducible refine (impl_codeIf.calls (!t489) 2 t490 _ A6.out).mono ?_
   rintro e w' ⟨rfl, ⟨nd, rfl⟩⟩
   refine ⟨_, rfl, ?_⟩
   refine hK.out _ _ ⟨cc, cc, cc⟩ (fun hHeld => ?_)
   clear hK K
   refine nn ?_
   refine o1 23 20 fun K hK => ?_
   refine goes_ Try.func87 kr rfl #[.slice A0_1 l0_1.length c0_1, .int .i64 65536] (by rfl) rfl rfl mq ?_
   with_reducible refine (impl_allWithin.calls _ _ l0_1 65536 true _ ?s1 ?s2 A7.out).mono ?_
   (case s1 => exact cq (cB HR0_1.out bq))
   (case s2 => exact HC0_1.out)
   rintro e w14 ⟨rfl, hb⟩
   refine ⟨_, rfl, ?_⟩
   replace BK486 := zb BK486 hb
   replace HB := aM (bT bq hb)
   (try clear hb)
   (try clear hb2)
   (try clear hk)
   (try clear hi)
   refine hK.out _ _ ⟨cc, cc, cc⟩ (fun hHeld => ?_)
   clear hK K
   refine nn ?_
   refine p1 24 21 ?_
   refine p1 25 22 ?_
   refine p1 26 23 ?_
   refine t1 27 24 ?_ (hy := by rintro w' ⟨s0, s1, s2⟩; go_simp; with_reducible rfl)
   refine o1 28 25 fun K hK => ?_
   refine goes_ Try.func96 kr rfl #[.slice A0_2 l0_2.length c0_2] (by rfl) rfl rfl mq ?_
   with_reducible refine (impl_areSamples.calls _ _ l0_2 t492 _ ?s1 ?s2 A9.out).mono ?_
   (case s1 => exact cq (cB HR0_2.out HB.out))
   (case s2 => exact HC0_2.out)
   rintro e w' ⟨rfl, ⟨nd, rfl⟩⟩
   refine ⟨_, rfl, ?_⟩
   refine hK.out _ _ ⟨cc, cc, cc⟩ (fun hHeld => ?_)
   clear hK K
   refine nn ?_
   refine p1 29 26 ?_
   refine p1 30 27 ?_
   refine o1 31 28 fun K hK => ?_
   refine goes_ Try.func56 kr rfl #[.bool (!t492), .int .i64 3] (by rfl) rfl rfl mq ?_
   with_reducible refine (impl_codeIf.calls (!t492) 3 t493 _ A10.out).mono ?_
   rintro e w' ⟨rfl, ⟨nd, rfl⟩⟩
   refine ⟨_, rfl, ?_⟩
   refine hK.out _ _ ⟨cc, cc, cc⟩ (fun hHeld => ?_)
   clear hK K
   refine nn ?_
   refine o1 32 29 fun K hK => ?_
   refine Kd.R_lit_step (Kd.int .i64) _ 2 ?hg (N := 32) ?hd (xs := ([t487, t490, t493] : List Int)) (inner := [.int .i64 t487, .int .i64 t490, .int .i64 t493]) (ok := fun _ => True) (okp := fun _ => True) ?hr ?hp (fun _ hk => hk) trivial (Below.refl _ _) (Nat.le_refl _) (by simp) ?_; (case hd => rfl); (case hg => rfl); (case hr => first | (go_simp; done) | (go_simp; rfl)); (case hp => exact (Reps.one (show Kd.M (Kd.int .i64) _ _ _ t487 [.int .i64 t487] from rfl) (Reps.one (show Kd.M (Kd.int .i64) _ _ _ t490 [.int .i64 t490] from rfl) (Reps.one (show Kd.M (Kd.int .i64) _ _ _ t493 [.int .i64 t493] from rfl) (Reps.none _ _)))))
   intro v495 w15 ho16 hb hg_ hnew_
   clear hg_ hnew_
   rw [← Ny494.out] at ho16
   have HO496 := aM (rG ho16 (bZ bq))
   replace BK486 := zb BK486 hb
   replace HB := aM (bT bq hb)
   clear hb ho16
   obtain ⟨Ao17, co17, eo17⟩ := Kd.R_slice HO496.out
   (first | subst eo17 | (injection eo17 with f1_ f2_ f3_; have f4_ := f1_.symm; have f5_ := f3_.symm; clear f1_ f2_ f3_; subst f4_; subst f5_))
   refine hK.out _ _ ⟨cc, cc, cc⟩ (fun hHeld => ?_)
   clear hK K
   refine nn ?_
   refine o1 33 30 fun K hK => ?_
   refine goes_ Try.func54 kr rfl #[.slice Ao17 y494.length co17] (by rfl) rfl rfl mq ?_
   with_reducible refine (impl_first.calls k _ _ y494 t497 _ ?s1 ?s2 A11.out).mono ?_
   (case s1 => exact cq (rR HO496.out).2.2)
   (case s2 => exact (rR HO496.out).2.1)
   rintro e w' ⟨rfl, ⟨nd, rfl⟩⟩
   refine ⟨_, rfl, ?_⟩
   refine hK.out _ _ ⟨cc, cc, cc⟩ (fun hHeld => ?_)
   clear hK K
   refine nn ?_
   refine p1 2 31 ?_
   refine done_ (done_of HT_.out kr) ?_
   try go_wp2
   go_ret
   exact ⟨ew, bq⟩
  ·replace c8 := Bool.eq_false_iff.mpr c8
   subst c8
   have H1 : ((impl_codeIf.f true 3).bind fun t498 => ((impl_first.f k (([t487, t490, t498] : List Int))).bind fun t502 => (some t502))) = some r := by rw [if_neg (show ¬ (false = true) by decide)] at H; exact H
   clear H
   have H := H1
   clear H1
   replace H := bo H
   obtain ⟨t498, A18, H⟩ := H
   replace H := bz H
   obtain ⟨y499, Ny499⟩ : ∃ y_ : List Int, Aside0 (y_ = (([t487, t490, t498] : List Int))) := ⟨_, ⟨rfl⟩⟩
   rw [← Ny499.out] at H
   replace H := bo H
   obtain ⟨t502, A19, H⟩ := H
   replace H : (some t502) = some r := H
   obtain rfl := Option.some.inj H
   go_enter Try.func43, Try.ntmps43
   try go_wp2_with (first | ((with_reducible refine gD 1 rfl ?_); refine bx 1 48 #[.int .i64 a0_0, .slice A0_1 l0_1.length c0_1, .slice A0_2 l0_2.length c0_2] ?_; intro gb486 hg w20 hbox hb; have BK486 := aM hbox; have GW486 := gw w hg; have GE486 := GW486; replace HB := aM (bT bq hb); clear hb hbox hg))
   replace BK486 := zk BK486
   replace HB := aM (bD HB.out)
   refine start_ (n := 32) (S := fun w' => w'.cell? ⟨gb486, 0, none⟩ = some (.int .i64 a0_0) ∧ w'.cell? ⟨gb486, 1, none⟩ = some (.slice A0_1 l0_1.length c0_1) ∧ w'.cell? ⟨gb486, 2, none⟩ = some (.slice A0_2 l0_2.length c0_2)) (ds := []) #[N,N,N,N,N,N,N,N,N,N,N,N,N,N,N,N,N,N,N,N,N,N,N,N,N,N,N,N,N,N,N,N] kr rfl rfl ⟨cc, cc, cc⟩ (fun hHeld => ?_); refine with_tabW impl_LapFault.tab1 impl_LapFault.bits1 (fun HT_ HW_ => ?_)
   generalize w20.drew = w21 at BK486 HB hHeld ⊢
   refine p1 3 0 ?_
   refine p1 6 3 ?_
   refine p1 8 5 ?_
   refine p1 21 18 ?_
   refine t1 4 1 ?_ (hy := by rintro w' ⟨s0, s1, s2⟩; go_simp; with_reducible rfl)
   refine t1 7 4 ?_ (hy := by rintro w' ⟨s0, s1, s2⟩; go_simp; with_reducible rfl)
   refine t1 9 6 ?_ (hy := by rintro w' ⟨s0, s1, s2⟩; go_simp; with_reducible rfl)
   refine t1 22 19 ?_ (hy := by rintro w' ⟨s0, s1, s2⟩; go_simp; with_reducible rfl)
   refine o1 5 2 fun K hK => ?_
   refine goes_ Try.func55 kr rfl #[.int .i64 a0_0] (by rfl) rfl rfl mq ?_
   with_reducible refine (impl_SizeFault.calls a0_0 t487 _ A2.out).mono ?_
   rintro e w' ⟨rfl, ⟨nd, rfl⟩⟩
   refine ⟨_, rfl, ?_⟩
   refine hK.out _ _ ⟨cc, cc, cc⟩ (fun hHeld => ?_)
   clear hK K
   refine nn ?_
   refine o1 10 7 fun K hK => ?_
   refine goes_ Try.func95 kr rfl #[.slice A0_1 l0_1.length c0_1, .int .i64 a0_0] (by rfl) rfl rfl mq ?_
   with_reducible refine (impl_halfOf.calls _ _ l0_1 a0_0 true _ ?s1 ?s2 A3.out).mono ?_
   (case s1 => exact cq (cB HR0_1.out bq))
   (case s2 => exact HC0_1.out)
   rintro e w' ⟨rfl, ⟨nd, rfl⟩⟩
   refine ⟨_, rfl, ?_⟩
   refine hK.out _ _ ⟨cc, cc, cc⟩ (fun hHeld => ?_)
   clear hK K
   refine nn ?_
   refine p1 11 8 ?_
   refine p1 12 9 ?_
   refine p1 13 10 ?_
   refine p1 15 12 ?_
   refine t1 14 11 ?_ (hy := by rintro w' ⟨s0, s1, s2⟩; go_simp; with_reducible rfl)
   refine t1 16 13 ?_ (hy := by rintro w' ⟨s0, s1, s2⟩; go_simp; with_reducible rfl)
   refine o1 17 14 fun K hK => ?_
   refine goes_ Try.func95 kr rfl #[.slice A0_2 l0_2.length c0_2, .int .i64 a0_0] (by rfl) rfl rfl mq ?_
   with_reducible refine (impl_halfOf.calls _ _ l0_2 a0_0 t489 _ ?s1 ?s2 A5.out).mono ?_
   (case s1 => exact cq (cB HR0_2.out bq))
   (case s2 => exact HC0_2.out)
   rintro e w' ⟨rfl, ⟨nd, rfl⟩⟩
   refine ⟨_, rfl, ?_⟩
   refine hK.out _ _ ⟨cc, cc, cc⟩ (fun hHeld => ?_)
   clear hK K
   refine nn ?_
   refine p1 18 15 ?_
   refine p1 19 16 ?_
   refine o1 20 17 fun K hK => ?_
   refine goes_ Try.func56 kr rfl #[.bool (!t489), .int .i64 2] (by rfl) rfl rfl mq ?_
   with_reducible refine (impl_codeIf.calls (!t489) 2 t490 _ A6.out).mono ?_
   rintro e w' ⟨rfl, ⟨nd, rfl⟩⟩
   refine ⟨_, rfl, ?_⟩
   refine hK.out _ _ ⟨cc, cc, cc⟩ (fun hHeld => ?_)
   clear hK K
   refine nn ?_
   refine o1 23 20 fun K hK => ?_
   refine goes_ Try.func87 kr rfl #[.slice A0_1 l0_1.length c0_1, .int .i64 65536] (by rfl) rfl rfl mq ?_
   with_reducible refine (impl_allWithin.calls _ _ l0_1 65536 false _ ?s1 ?s2 A7.out).mono ?_
   (case s1 => exact cq (cB HR0_1.out bq))
   (case s2 => exact HC0_1.out)
   rintro e w22 ⟨rfl, hb⟩
   refine ⟨_, rfl, ?_⟩
   replace BK486 := zb BK486 hb
   replace HB := aM (bT bq hb)
   (try clear hb)
   (try clear hb2)
   (try clear hk)
   (try clear hi)
   refine hK.out _ _ ⟨cc, cc, cc⟩ (fun hHeld => ?_)
   clear hK K
   refine nn ?_
   refine p1 24 21 ?_
   refine p1 25 22 ?_
   refine p2 26 23 ?_
   refine p2 27 24 ?_
   refine p2 28 25 ?_
   refine p2 29 26 ?_
   refine p1 30 27 ?_
   refine o1 31 28 fun K hK => ?_
   refine goes_ Try.func56 kr rfl #[.bool true, .int .i64 3] (by rfl) rfl rfl mq ?_
   with_reducible refine (impl_codeIf.calls true 3 t498 _ A18.out).mono ?_
   rintro e w' ⟨rfl, ⟨nd, rfl⟩⟩
   refine ⟨_, rfl, ?_⟩
   refine hK.out _ _ ⟨cc, cc, cc⟩ (fun hHeld => ?_)
   clear hK K
   refine nn ?_
   refine o1 32 29 fun K hK => ?_
   refine Kd.R_lit_step (Kd.int .i64) _ 2 ?hg (N := 32) ?hd (xs := ([t487, t490, t498] : List Int)) (inner := [.int .i64 t487, .int .i64 t490, .int .i64 t498]) (ok := fun _ => True) (okp := fun _ => True) ?hr ?hp (fun _ hk => hk) trivial (Below.refl _ _) (Nat.le_refl _) (by simp) ?_; (case hd => rfl); (case hg => rfl); (case hr => first | (go_simp; done) | (go_simp; rfl)); (case hp => exact (Reps.one (show Kd.M (Kd.int .i64) _ _ _ t487 [.int .i64 t487] from rfl) (Reps.one (show Kd.M (Kd.int .i64) _ _ _ t490 [.int .i64 t490] from rfl) (Reps.one (show Kd.M (Kd.int .i64) _ _ _ t498 [.int .i64 t498] from rfl) (Reps.none _ _)))))
   intro v500 w23 ho24 hb hg_ hnew_
   clear hg_ hnew_
   rw [← Ny499.out] at ho24
   have HO501 := aM (rG ho24 (bZ bq))
   replace BK486 := zb BK486 hb
   replace HB := aM (bT bq hb)
   clear hb ho24
   obtain ⟨Ao25, co25, eo25⟩ := Kd.R_slice HO501.out
   (first | subst eo25 | (injection eo25 with f1_ f2_ f3_; have f4_ := f1_.symm; have f5_ := f3_.symm; clear f1_ f2_ f3_; subst f4_; subst f5_))
   refine hK.out _ _ ⟨cc, cc, cc⟩ (fun hHeld => ?_)
   clear hK K
   refine nn ?_
   refine o1 33 30 fun K hK => ?_
   refine goes_ Try.func54 kr rfl #[.slice Ao25 y499.length co25] (by rfl) rfl rfl mq ?_
   with_reducible refine (impl_first.calls k _ _ y499 t502 _ ?s1 ?s2 A19.out).mono ?_
   (case s1 => exact cq (rR HO501.out).2.2)
   (case s2 => exact (rR HO501.out).2.1)
   rintro e w' ⟨rfl, ⟨nd, rfl⟩⟩
   refine ⟨_, rfl, ?_⟩
   refine hK.out _ _ ⟨cc, cc, cc⟩ (fun hHeld => ?_)
   clear hK K
   refine nn ?_
   refine p1 2 31 ?_
   refine done_ (done_of HT_.out kr) ?_
   try go_wp2
   go_ret
   exact ⟨ew, bq⟩
 ·replace c4 := Bool.eq_false_iff.mpr c4
  subst c4
  have H1 : ((impl_codeIf.f true 2).bind fun t503 => ((impl_allWithin.f l0_1 65536).bind fun t504 => (if t504 = true then ((impl_areSamples.f l0_2).bind fun t505 => ((impl_codeIf.f (!t505) 3).bind fun t506 => ((impl_first.f k (([t487, t503, t506] : List Int))).bind fun t510 => (some t510)))) else ((impl_codeIf.f true 3).bind fun t511 => ((impl_first.f k (([t487, t503, t511] : List Int))).bind fun t515 => (some t515)))))) = some r := by rw [if_neg (show ¬ (false = true) by decide)] at H; exact H
  clear H
  have H := H1
  clear H1
  replace H := bo H
  obtain ⟨t503, A26, H⟩ := H
  replace H := bz H
  replace H := bo H
  obtain ⟨t504, A27, H⟩ := H
  replace H := bz H
  by_cases c28 : t504 = true
  ·subst c28
   have H1 : ((impl_areSamples.f l0_2).bind fun t505 => ((impl_codeIf.f (!t505) 3).bind fun t506 => ((impl_first.f k (([t487, t503, t506] : List Int))).bind fun t510 => (some t510)))) = some r := by rw [if_pos rfl] at H; exact H
   clear H
   have H := H1
   clear H1
   replace H := bo H
   obtain ⟨t505, A29, H⟩ := H
   replace H := bz H
   replace H := bo H
   obtain ⟨t506, A30, H⟩ := H
   replace H := bz H
   obtain ⟨y507, Ny507⟩ : ∃ y_ : List Int, Aside0 (y_ = (([t487, t503, t506] : List Int))) := ⟨_, ⟨rfl⟩⟩
   rw [← Ny507.out] at H
   replace H := bo H
   obtain ⟨t510, A31, H⟩ := H
   replace H : (some t510) = some r := H
   obtain rfl := Option.some.inj H
   go_enter Try.func43, Try.ntmps43
   try go_wp2_with (first | ((with_reducible refine gD 1 rfl ?_); refine bx 1 48 #[.int .i64 a0_0, .slice A0_1 l0_1.length c0_1, .slice A0_2 l0_2.length c0_2] ?_; intro gb486 hg w32 hbox hb; have BK486 := aM hbox; have GW486 := gw w hg; have GE486 := GW486; replace HB := aM (bT bq hb); clear hb hbox hg))
   replace BK486 := zk BK486
   replace HB := aM (bD HB.out)
   refine start_ (n := 32) (S := fun w' => w'.cell? ⟨gb486, 0, none⟩ = some (.int .i64 a0_0) ∧ w'.cell? ⟨gb486, 1, none⟩ = some (.slice A0_1 l0_1.length c0_1) ∧ w'.cell? ⟨gb486, 2, none⟩ = some (.slice A0_2 l0_2.length c0_2)) (ds := []) #[N,N,N,N,N,N,N,N,N,N,N,N,N,N,N,N,N,N,N,N,N,N,N,N,N,N,N,N,N,N,N,N] kr rfl rfl ⟨cc, cc, cc⟩ (fun hHeld => ?_); refine with_tabW impl_LapFault.tab1 impl_LapFault.bits1 (fun HT_ HW_ => ?_)
   generalize w32.drew = w33 at BK486 HB hHeld ⊢
   refine p1 3 0 ?_
   refine p1 6 3 ?_
   refine p1 8 5 ?_
   refine p1 21 18 ?_
   refine t1 4 1 ?_ (hy := by rintro w' ⟨s0, s1, s2⟩; go_simp; with_reducible rfl)
   refine t1 7 4 ?_ (hy := by rintro w' ⟨s0, s1, s2⟩; go_simp; with_reducible rfl)
   refine t1 9 6 ?_ (hy := by rintro w' ⟨s0, s1, s2⟩; go_simp; with_reducible rfl)
   refine t1 22 19 ?_ (hy := by rintro w' ⟨s0, s1, s2⟩; go_simp; with_reducible rfl)
   refine o1 5 2 fun K hK => ?_
   refine goes_ Try.func55 kr rfl #[.int .i64 a0_0] (by rfl) rfl rfl mq ?_
   with_reducible refine (impl_SizeFault.calls a0_0 t487 _ A2.out).mono ?_
   rintro e w' ⟨rfl, ⟨nd, rfl⟩⟩
   refine ⟨_, rfl, ?_⟩
   refine hK.out _ _ ⟨cc, cc, cc⟩ (fun hHeld => ?_)
   clear hK K
   refine nn ?_
   refine o1 10 7 fun K hK => ?_
   refine goes_ Try.func95 kr rfl #[.slice A0_1 l0_1.length c0_1, .int .i64 a0_0] (by rfl) rfl rfl mq ?_
   with_reducible refine (impl_halfOf.calls _ _ l0_1 a0_0 false _ ?s1 ?s2 A3.out).mono ?_
   (case s1 => exact cq (cB HR0_1.out bq))
   (case s2 => exact HC0_1.out)
   rintro e w' ⟨rfl, ⟨nd, rfl⟩⟩
   refine ⟨_, rfl, ?_⟩
   refine hK.out _ _ ⟨cc, cc, cc⟩ (fun hHeld => ?_)
   clear hK K
   refine nn ?_
   refine p1 11 8 ?_
   refine p1 12 9 ?_
   refine p2 13 10 ?_
   refine p2 14 11 ?_
   refine p2 15 12 ?_
   refine p2 16 13 ?_
   refine p2 17 14 ?_
   refine p2 18 15 ?_
   refine p1 19 16 ?_
   refine o1 20 17 fun K hK => ?_
   refine goes_ Try.func56 kr rfl #[.bool true, .int .i64 2] (by rfl) rfl rfl mq ?_
   with_reducible refine (impl_codeIf.calls true 2 t503 _ A26.out).mono ?_
   rintro e w' ⟨rfl, ⟨nd, rfl⟩⟩
   refine ⟨_, rfl, ?_⟩
   refine hK.out _ _ ⟨cc, cc, cc⟩ (fun hHeld => ?_)
   clear hK K
   refine nn ?_
   refine o1 23 20 fun K hK => ?_
   refine goes_ Try.func87 kr rfl #[.slice A0_1 l0_1.length c0_1, .int .i64 65536] (by rfl) rfl rfl mq ?_
   with_reducible refine (impl_allWithin.calls _ _ l0_1 65536 true _ ?s1 ?s2 A27.out).mono ?_
   (case s1 => exact cq (cB HR0_1.out bq))
   (case s2 => exact HC0_1.out)
   rintro e w34 ⟨rfl, hb⟩
   refine ⟨_, rfl, ?_⟩
   replace BK486 := zb BK486 hb
   replace HB := aM (bT bq hb)
   (try clear hb)
   (try clear hb2)
   (try clear hk)
   (try clear hi)
   refine hK.out _ _ ⟨cc, cc, cc⟩ (fun hHeld => ?_)
   clear hK K
   refine nn ?_
   refine p1 24 21 ?_
   refine p1 25 22 ?_
   refine p1 26 23 ?_
   refine t1 27 24 ?_ (hy := by rintro w' ⟨s0, s1, s2⟩; go_simp; with_reducible rfl)
   refine o1 28 25 fun K hK => ?_
   refine goes_ Try.func96 kr rfl #[.slice A0_2 l0_2.length c0_2] (by rfl) rfl rfl mq ?_
   with_reducible refine (impl_areSamples.calls _ _ l0_2 t505 _ ?s1 ?s2 A29.out).mono ?_
   (case s1 => exact cq (cB HR0_2.out HB.out))
   (case s2 => exact HC0_2.out)
   rintro e w' ⟨rfl, ⟨nd, rfl⟩⟩
   refine ⟨_, rfl, ?_⟩
   refine hK.out _ _ ⟨cc, cc, cc⟩ (fun hHeld => ?_)
   clear hK K
   refine nn ?_
   refine p1 29 26 ?_
   refine p1 30 27 ?_
   refine o1 31 28 fun K hK => ?_
   refine goes_ Try.func56 kr rfl #[.bool (!t505), .int .i64 3] (by rfl) rfl rfl mq ?_
   with_reducible refine (impl_codeIf.calls (!t505) 3 t506 _ A30.out).mono ?_
   rintro e w' ⟨rfl, ⟨nd, rfl⟩⟩
   refine ⟨_, rfl, ?_⟩
   refine hK.out _ _ ⟨cc, cc, cc⟩ (fun hHeld => ?_)
   clear hK K
   refine nn ?_
   refine o1 32 29 fun K hK => ?_
   refine Kd.R_lit_step (Kd.int .i64) _ 2 ?hg (N := 32) ?hd (xs := ([t487, t503, t506] : List Int)) (inner := [.int .i64 t487, .int .i64 t503, .int .i64 t506]) (ok := fun _ => True) (okp := fun _ => True) ?hr ?hp (fun _ hk => hk) trivial (Below.refl _ _) (Nat.le_refl _) (by simp) ?_; (case hd => rfl); (case hg => rfl); (case hr => first | (go_simp; done) | (go_simp; rfl)); (case hp => exact (Reps.one (show Kd.M (Kd.int .i64) _ _ _ t487 [.int .i64 t487] from rfl) (Reps.one (show Kd.M (Kd.int .i64) _ _ _ t503 [.int .i64 t503] from rfl) (Reps.one (show Kd.M (Kd.int .i64) _ _ _ t506 [.int .i64 t506] from rfl) (Reps.none _ _)))))
   intro v508 w35 ho36 hb hg_ hnew_
   clear hg_ hnew_
   rw [← Ny507.out] at ho36
   have HO509 := aM (rG ho36 (bZ bq))
   replace BK486 := zb BK486 hb
   replace HB := aM (bT bq hb)
   clear hb ho36
   obtain ⟨Ao37, co37, eo37⟩ := Kd.R_slice HO509.out
   (first | subst eo37 | (injection eo37 with f1_ f2_ f3_; have f4_ := f1_.symm; have f5_ := f3_.symm; clear f1_ f2_ f3_; subst f4_; subst f5_))
   refine hK.out _ _ ⟨cc, cc, cc⟩ (fun hHeld => ?_)
   clear hK K
   refine nn ?_
   refine o1 33 30 fun K hK => ?_
   refine goes_ Try.func54 kr rfl #[.slice Ao37 y507.length co37] (by rfl) rfl rfl mq ?_
   with_reducible refine (impl_first.calls k _ _ y507 t510 _ ?s1 ?s2 A31.out).mono ?_
   (case s1 => exact cq (rR HO509.out).2.2)
   (case s2 => exact (rR HO509.out).2.1)
   rintro e w' ⟨rfl, ⟨nd, rfl⟩⟩
   refine ⟨_, rfl, ?_⟩
   refine hK.out _ _ ⟨cc, cc, cc⟩ (fun hHeld => ?_)
   clear hK K
   refine nn ?_
   refine p1 2 31 ?_
   refine done_ (done_of HT_.out kr) ?_
   try go_wp2
   go_ret
   exact ⟨ew, bq⟩
  ·replace c28 := Bool.eq_false_iff.mpr c28
   subst c28
   have H1 : ((impl_codeIf.f true 3).bind fun t511 => ((impl_first.f k (([t487, t503, t511] : List Int))).bind fun t515 => (some t515))) = some r := by rw [if_neg (show ¬ (false = true) by decide)] at H; exact H
   clear H
   have H := H1
   clear H1
   replace H := bo H
   obtain ⟨t511, A38, H⟩ := H
   replace H := bz H
   obtain ⟨y512, Ny512⟩ : ∃ y_ : List Int, Aside0 (y_ = (([t487, t503, t511] : List Int))) := ⟨_, ⟨rfl⟩⟩
   rw [← Ny512.out] at H
   replace H := bo H
   obtain ⟨t515, A39, H⟩ := H
   replace H : (some t515) = some r := H
   obtain rfl := Option.some.inj H
   go_enter Try.func43, Try.ntmps43
   try go_wp2_with (first | ((with_reducible refine gD 1 rfl ?_); refine bx 1 48 #[.int .i64 a0_0, .slice A0_1 l0_1.length c0_1, .slice A0_2 l0_2.length c0_2] ?_; intro gb486 hg w40 hbox hb; have BK486 := aM hbox; have GW486 := gw w hg; have GE486 := GW486; replace HB := aM (bT bq hb); clear hb hbox hg))
   replace BK486 := zk BK486
   replace HB := aM (bD HB.out)
   refine start_ (n := 32) (S := fun w' => w'.cell? ⟨gb486, 0, none⟩ = some (.int .i64 a0_0) ∧ w'.cell? ⟨gb486, 1, none⟩ = some (.slice A0_1 l0_1.length c0_1) ∧ w'.cell? ⟨gb486, 2, none⟩ = some (.slice A0_2 l0_2.length c0_2)) (ds := []) #[N,N,N,N,N,N,N,N,N,N,N,N,N,N,N,N,N,N,N,N,N,N,N,N,N,N,N,N,N,N,N,N] kr rfl rfl ⟨cc, cc, cc⟩ (fun hHeld => ?_); refine with_tabW impl_LapFault.tab1 impl_LapFault.bits1 (fun HT_ HW_ => ?_)
   generalize w40.drew = w41 at BK486 HB hHeld ⊢
   refine p1 3 0 ?_
   refine p1 6 3 ?_
   refine p1 8 5 ?_
   refine p1 21 18 ?_
   refine t1 4 1 ?_ (hy := by rintro w' ⟨s0, s1, s2⟩; go_simp; with_reducible rfl)
   refine t1 7 4 ?_ (hy := by rintro w' ⟨s0, s1, s2⟩; go_simp; with_reducible rfl)
   refine t1 9 6 ?_ (hy := by rintro w' ⟨s0, s1, s2⟩; go_simp; with_reducible rfl)
   refine t1 22 19 ?_ (hy := by rintro w' ⟨s0, s1, s2⟩; go_simp; with_reducible rfl)
   refine o1 5 2 fun K hK => ?_
   refine goes_ Try.func55 kr rfl #[.int .i64 a0_0] (by rfl) rfl rfl mq ?_
   with_reducible refine (impl_SizeFault.calls a0_0 t487 _ A2.out).mono ?_
   rintro e w' ⟨rfl, ⟨nd, rfl⟩⟩
   refine ⟨_, rfl, ?_⟩
   refine hK.out _ _ ⟨cc, cc, cc⟩ (fun hHeld => ?_)
   clear hK K
   refine nn ?_
   refine o1 10 7 fun K hK => ?_
   refine goes_ Try.func95 kr rfl #[.slice A0_1 l0_1.length c0_1, .int .i64 a0_0] (by rfl) rfl rfl mq ?_
   with_reducible refine (impl_halfOf.calls _ _ l0_1 a0_0 false _ ?s1 ?s2 A3.out).mono ?_
   (case s1 => exact cq (cB HR0_1.out bq))
   (case s2 => exact HC0_1.out)
   rintro e w' ⟨rfl, ⟨nd, rfl⟩⟩
   refine ⟨_, rfl, ?_⟩
   refine hK.out _ _ ⟨cc, cc, cc⟩ (fun hHeld => ?_)
   clear hK K
   refine nn ?_
   refine p1 11 8 ?_
   refine p1 12 9 ?_
   refine p2 13 10 ?_
   refine p2 14 11 ?_
   refine p2 15 12 ?_
   refine p2 16 13 ?_
   refine p2 17 14 ?_
   refine p2 18 15 ?_
   refine p1 19 16 ?_
   refine o1 20 17 fun K hK => ?_
   refine goes_ Try.func56 kr rfl #[.bool true, .int .i64 2] (by rfl) rfl rfl mq ?_
   with_reducible refine (impl_codeIf.calls true 2 t503 _ A26.out).mono ?_
   rintro e w' ⟨rfl, ⟨nd, rfl⟩⟩
   refine ⟨_, rfl, ?_⟩
   refine hK.out _ _ ⟨cc, cc, cc⟩ (fun hHeld => ?_)
   clear hK K
   refine nn ?_
   refine o1 23 20 fun K hK => ?_
   refine goes_ Try.func87 kr rfl #[.slice A0_1 l0_1.length c0_1, .int .i64 65536] (by rfl) rfl rfl mq ?_
   with_reducible refine (impl_allWithin.calls _ _ l0_1 65536 false _ ?s1 ?s2 A27.out).mono ?_
   (case s1 => exact cq (cB HR0_1.out bq))
   (case s2 => exact HC0_1.out)
   rintro e w42 ⟨rfl, hb⟩
   refine ⟨_, rfl, ?_⟩
   replace BK486 := zb BK486 hb
   replace HB := aM (bT bq hb)
   (try clear hb)
   (try clear hb2)
   (try clear hk)
   (try clear hi)
   refine hK.out _ _ ⟨cc, cc, cc⟩ (fun hHeld => ?_)
   clear hK K
   refine nn ?_
   refine p1 24 21 ?_
   refine p1 25 22 ?_
   refine p2 26 23 ?_
   refine p2 27 24 ?_
   refine p2 28 25 ?_
   refine p2 29 26 ?_
   refine p1 30 27 ?_
   refine o1 31 28 fun K hK => ?_
   refine goes_ Try.func56 kr rfl #[.bool true, .int .i64 3] (by rfl) rfl rfl mq ?_
   with_reducible refine (impl_codeIf.calls true 3 t511 _ A38.out).mono ?_
   rintro e w' ⟨rfl, ⟨nd, rfl⟩⟩
   refine ⟨_, rfl, ?_⟩
   refine hK.out _ _ ⟨cc, cc, cc⟩ (fun hHeld => ?_)
   clear hK K
   refine nn ?_
   refine o1 32 29 fun K hK => ?_
   refine Kd.R_lit_step (Kd.int .i64) _ 2 ?hg (N := 32) ?hd (xs := ([t487, t503, t511] : List Int)) (inner := [.int .i64 t487, .int .i64 t503, .int .i64 t511]) (ok := fun _ => True) (okp := fun _ => True) ?hr ?hp (fun _ hk => hk) trivial (Below.refl _ _) (Nat.le_refl _) (by simp) ?_; (case hd => rfl); (case hg => rfl); (case hr => first | (go_simp; done) | (go_simp; rfl)); (case hp => exact (Reps.one (show Kd.M (Kd.int .i64) _ _ _ t487 [.int .i64 t487] from rfl) (Reps.one (show Kd.M (Kd.int .i64) _ _ _ t503 [.int .i64 t503] from rfl) (Reps.one (show Kd.M (Kd.int .i64) _ _ _ t511 [.int .i64 t511] from rfl) (Reps.none _ _)))))
   intro v513 w43 ho44 hb hg_ hnew_
   clear hg_ hnew_
   rw [← Ny512.out] at ho44
   have HO514 := aM (rG ho44 (bZ bq))
   replace BK486 := zb BK486 hb
   replace HB := aM (bT bq hb)
   clear hb ho44
   obtain ⟨Ao45, co45, eo45⟩ := Kd.R_slice HO514.out
   (first | subst eo45 | (injection eo45 with f1_ f2_ f3_; have f4_ := f1_.symm; have f5_ := f3_.symm; clear f1_ f2_ f3_; subst f4_; subst f5_))
   refine hK.out _ _ ⟨cc, cc, cc⟩ (fun hHeld => ?_)
   clear hK K
   refine nn ?_
   refine o1 33 30 fun K hK => ?_
   refine goes_ Try.func54 kr rfl #[.slice Ao45 y512.length co45] (by rfl) rfl rfl mq ?_
   with_reducible refine (impl_first.calls k _ _ y512 t515 _ ?s1 ?s2 A39.out).mono ?_
   (case s1 => exact cq (rR HO514.out).2.2)
   (case s2 => exact (rR HO514.out).2.1)
   rintro e w' ⟨rfl, ⟨nd, rfl⟩⟩
   refine ⟨_, rfl, ?_⟩
   refine hK.out _ _ ⟨cc, cc, cc⟩ (fun hHeld => ?_)
   clear hK K
   refine nn ?_
   refine p1 2 31 ?_
   refine done_ (done_of HT_.out kr) ?_
   try go_wp2
   go_ret
   exact ⟨ew, bq⟩
end Go.Proofs.Ytmhnpogjkbmmnaa.PFnStates
