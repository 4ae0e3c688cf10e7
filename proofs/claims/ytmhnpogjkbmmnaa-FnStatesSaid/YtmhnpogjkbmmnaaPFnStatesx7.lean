import Derived.Test.YtmhnpogjkbmmnaaPFnStatesx0
import Derived.Test.YtmhnpogjkbmmnaaPFnStatesx5
import Derived.Test.YtmhnpogjkbmmnaaPFnStatesx6
namespace Go.Proofs.Ytmhnpogjkbmmnaa.PFnStates
open Go.RowKit Go.Proofs.YtmhnpogjkbmmnaaW.PrintWords Go.Proofs.YtmhnpogjkbmmnaaW.PrintLast Go.Proofs.YtmhnpogjkbmmnaaW.PrintMore
open Go.Proofs.YtmhnpogjkbmmnaaW.PrintWords.Kd renaming R_lower → rG, R_reads' → rR, C_below → cB
open Go.Proofs.YtmhnpogjkbmmnaaW.PrintWords renaming below_drew1 → bD, below_step → bT, below_size → bZ, blk_drew → kD, blk_below → kB, blk_cell → kC
open Go.Proofs.YtmhnpogjkbmmnaaW.PrintWords.Aside0 renaming mk → aM
attribute [local go_sem] max2_int min2_int max_two min_two max_three min_three max_four min_four
set_option maxHeartbeats 8000000
set_option maxRecDepth 100000
set_option linter.unusedVariables false
set_option linter.unusedSimpArgs false
def impl_SynthFault.f (k : Nat) (a0_0 : Int) (l0_1 : List Int) (l0_2 : List Int) : Option (Int) := (impl_SizeFault.f a0_0).bind fun t240 => ((impl_halfOf.f l0_1 a0_0).bind fun t241 => (if t241 = true then ((impl_halfOf.f l0_2 a0_0).bind fun t242 => ((impl_codeIf.f (!t242) 2).bind fun t243 => ((impl_allWithin.f l0_1 1073741824).bind fun t244 => (if t244 = true then ((impl_allWithin.f l0_2 268435456).bind fun t245 => ((impl_codeIf.f (!t245) 3).bind fun t246 => ((impl_first.f k (([t240, t243, t246] : List Int))).bind fun t250 => (some t250)))) else ((impl_codeIf.f true 3).bind fun t251 => ((impl_first.f k (([t240, t243, t251] : List Int))).bind fun t255 => (some t255))))))) else ((impl_codeIf.f true 2).bind fun t256 => ((impl_allWithin.f l0_1 1073741824).bind fun t257 => (if t257 = true then ((impl_allWithin.f l0_2 268435456).bind fun t258 => ((impl_codeIf.f (!t258) 3).bind fun t259 => ((impl_first.f k (([t240, t256, t259] : List Int))).bind fun t263 => (some t263)))) else ((impl_codeIf.f true 3).bind fun t264 => ((impl_first.f k (([t240, t256, t264] : List Int))).bind fun t268 => (some t268))))))))
def impl_SynthFault.T1 : Bool × List (List Nat × List Nat) := (true, [([], []), ([0], [0]), ([1], [1]), ([], []), ([3], [3]), ([], []), ([5], [5]), ([4, 6, 2], [4, 6]), ([7], [7]), ([8, 7], [8]), ([9], [9]), ([10, 9], [9, 10]), ([9], [9]), ([12, 9], [9, 12]), ([11, 13, 9, 9], [9, 11, 13]), ([14, 9], [9, 14]), ([9, 15], [9, 15]), ([16, 14], [16]), ([], []), ([18], [18]), ([19, 17], [19]), ([20], [20]), ([21, 20], [21]), ([22], [22]), ([23, 22], [22, 23]), ([24, 22, 22], [22, 24]), ([25, 22], [22, 25]), ([22, 26], [22, 26]), ([27, 25], [27]), ([2, 17, 28], [2, 17, 28]), ([29, 28], [29]), ([30, 30, 0, 1, 2, 3, 4, 5, 6, 7, 8, 9, 10, 11, 12, 13, 14, 15, 16, 17, 18, 19, 20, 21, 22, 23, 24, 25, 26, 27, 28, 29, 30], [30])])
def impl_SynthFault.B1 : List Nat := [0, 1, 3, 0, 8, 0, 32, 127, 255, 511, 1023, 2047, 1023, 5119, 16383, 32767, 65535, 131071, 0, 262144, 1048575, 2097151, 4194303, 8388607, 16777215, 33554431, 67108863, 134217727, 268435455, 536870911, 1073741823, 2147483647]
theorem impl_SynthFault.tab1 : rtab .any (opsOf Try.f46 1) = impl_SynthFault.T1 := by kernel_rfl
theorem impl_SynthFault.bits1 : waitsOk impl_SynthFault.T1.2 impl_SynthFault.B1 = true := by kernel_rfl
theorem impl_SynthFault.calls (k : Nat) (a0_0 : Int) (A0_1 : Option Addr) (c0_1 : Nat) (l0_1 : List Int) (A0_2 : Option Addr) (c0_2 : Nat) (l0_2 : List Int) (r : Int) (w : World) (hr0_1 : Kd.C (Kd.int .i64) w A0_1 l0_1.length l0_1) (hc0_1 : l0_1.length ≤ c0_1) (hr0_2 : Kd.C (Kd.int .i64) w A0_2 l0_2.length l0_2) (hc0_2 : l0_2.length ≤ c0_2) (h : impl_SynthFault.f k a0_0 l0_1 l0_2 = some r) :
  Calls Try.prog 46 #[.agg #[.int .i64 a0_0, .slice A0_1 l0_1.length c0_1, .slice A0_2 l0_2.length c0_2]] w fun e w' => e = .returned (.int .i64 r) ∧ Below w.heap.size w w' := by
 have hu35 := Try.underlying35
 have HR0_1 := aM hr0_1
 have HC0_1 := aM hc0_1
 clear hr0_1 hc0_1
 have HR0_2 := aM hr0_2
 have HC0_2 := aM hc0_2
 clear hr0_2 hc0_2
 have HB := aM (Below.refl w.heap.size w)
 unfold impl_SynthFault.f at h
 have H := h
 clear h
 replace H := bo H
 obtain ⟨t240, A2, H⟩ := H
 replace H := bz H
 replace H := bo H
 obtain ⟨t241, A3, H⟩ := H
 replace H := bz H
 by_cases c4 : t241 = true
 ·subst c4
  have H1 : ((impl_halfOf.f l0_2 a0_0).bind fun t242 => ((impl_codeIf.f (!t242) 2).bind fun t243 => ((impl_allWithin.f l0_1 1073741824).bind fun t244 => (if t244 = true then ((impl_allWithin.f l0_2 268435456).bind fun t245 => ((impl_codeIf.f (!t245) 3).bind fun t246 => ((impl_first.f k (([t240, t243, t246] : List Int))).bind fun t250 => (some t250)))) else ((impl_codeIf.f true 3).bind fun t251 => ((impl_first.f k (([t240, t243, t251] : List Int))).bind fun t255 => (some t255))))))) = some r := by rw [if_pos rfl] at H; exact H
  clear H
  have H := H1
  clear H1
  replace H := bo H
  obtain ⟨t242, A5, H⟩ := H
  replace H := bz H
  replace H := bo H
  obtain ⟨t243, A6, H⟩ := H
  replace H := bz H
  replace H := bo H
  obtain ⟨t244, A7, H⟩ := H
  replace H := bz H
  by_cases c8 : t244 = true
  ·subst c8
   have H1 : ((impl_allWithin.f l0_2 268435456).bind fun t245 => ((impl_codeIf.f (!t245) 3).bind fun t246 => ((impl_first.f k (([t240, t243, t246] : List Int))).bind fun t250 => (some t250)))) = some r := by rw [if_pos rfl] at H; exact H
   clear H
   have H := H1
   clear H1
   replace H := bo H
   obtain ⟨t245, A9, H⟩ := H
   replace H := bz H
   replace H := bo H
   obtain ⟨t246, A10, H⟩ := H
   replace H := bz H
   obtain ⟨y247, Ny247⟩ : ∃ y_ : List Int, Aside0 (y_ = (([t240, t243, t246] : List Int))) := ⟨_, ⟨rfl⟩⟩
   rw [← Ny247.out] at H
   replace H := bo H
   obtain ⟨t250, A11, H⟩ := H
   replace H : (some t250) = some r := H
   obtain rfl := Option.some.inj H
   go_enter Try.func46, Try.ntmps46
   try go_wp2_with (first | ((with_reducible refine gD 1 rfl ?_); refine bx 1 35 #[.int .i64 a0_0, .slice A0_1 l0_1.length c0_1, .slice A0_2 l0_2.length c0_2] ?_; intro gb239 hg w12 hbox hb; have BK239 := aM hbox; have GW239 := gw w hg; have GE239 := GW239; replace HB := aM (bT bq hb); clear hb hbox hg))
   replace BK239 := zk BK239
   replace HB := aM (bD HB.out)
   refine start_ (n := 32) (S := fun w' => w'.cell? ⟨gb239, 0, none⟩ = some (.int .i64 a0_0) ∧ w'.cell? ⟨gb239, 1, none⟩ = some (.slice A0_1 l0_1.length c0_1) ∧ w'.cell? ⟨gb239, 2, none⟩ = some (.slice A0_2 l0_2.length c0_2)) (ds := []) #[N,N,N,N,N,N,N,N,N,N,N,N,N,N,N,N,N,N,N,N,N,N,N,N,N,N,N,N,N,N,N,N] kr rfl rfl ⟨cc, cc, cc⟩ (fun hHeld => ?_); refine with_tabW impl_SynthFault.tab1 impl_SynthFault.bits1 (fun HT_ HW_ => ?_)
   generalize w12.drew = w13 at BK239 HB hHeld ⊢
   refine p1 3 0 ?_
   refine p1 6 3 ?_
   refine p1 8 5 ?_
   refine p1 21 18 ?_
   refine t1 4 1 ?_ (hy := by rintro w' ⟨s0, s1, s2⟩; go_simp; with_reducible rfl)
   refine t1 7 4 ?_ (hy := by rintro w' ⟨s0, s1, s2⟩; go_simp; with_reducible rfl)
   refine t1 9 6 ?_ (hy := by rintro w' ⟨s0, s1, s2⟩; go_simp; with_reducible rfl)
   refine t1 22 19 ?_ (hy := by rintro w' ⟨s0, s1, s2⟩; go_simp; with_reducible rfl)
   refine o1 5 2 fun K hK => ?_
   refine goes_ Try.func55 kr rfl #[.int .i64 a0_0] (by rfl) rfl rfl mq ?_
   with_reducible refine (impl_SizeFault.calls a0_0 t240 _ A2.out).mono ?_
   rintro e w' ⟨rfl, ⟨nd, rfl⟩⟩
   refine ⟨_, rfl, ?_⟩
   refine hK.out _ _ ⟨cc, cc, cc⟩ (fun hHeld => ?_)
   clear hK K
   refine nn ?_
   refine o1 10 7 fun K hK => ?_
   refine goes_ Try.func95 kr rfl #[.slice A0_1 l0_1.length c0_1, .int .i64 a0_0] (by rfl) rfl rfl mq ?_
   with_reducible refine (impl_halfOf.calls _ _ l0_1 a0_0 true _ ?s1 ?s2 A3.out).mono ?_
   (case s1 => exact cq (cB HR0_1.out bq))
   (case s2 => exact HC0_1.out)
   rintro e w' ⟨rfl, ⟨nd, rfl⟩⟩
   refine ⟨_, rfl, ?_⟩
   refine hK.out _ _ ⟨cc, cc, cc⟩ (fun hHeld => ?_)
   clear hK K
   refine nn ?_
   refine p1 11 8 ?_
   refine p1 12 9 ?_
   refine p1 13 10 ?_
   refine p1 15 12 ?_
   refine t1 14 11 ?_ (hy := by rintro w' ⟨s0, s1, s2⟩; go_simp; with_reducible rfl)
   refine t1 16 13 ?_ (hy := by rintro w' ⟨s0, s1, s2⟩; go_simp; with_reducible rfl)
   refine o1 17 14 fun K hK => ?_
   refine goes_ Try.func95 kr rfl #[.slice A0_2 l0_2.length c0_2, .int .i64 a0_0] (by rfl) rfl rfl mq ?_
   with_reducible refine (impl_halfOf.calls _ _ l0_2 a0_0 t242 _ ?s1 ?s2 A5.out).mono ?_
   (case s1 => exact cq (cB HR0_2.out bq))
   (case s2 => exact HC0_2.out)
   rintro e w' ⟨rfl, ⟨nd, rfl⟩⟩
   refine ⟨_, rfl, ?_⟩
   refine hK.out _ _ ⟨cc, cc, cc⟩ (fun hHeld => ?_)
   clear hK K
   refine nn ?_
   refine p1 18 15 ?_
   refine p1 19 16 ?_
   refine o1 20 17 fun K hK => ?_
   refine goes_ Try.func56 kr rfl #[.bool (!t242), .int .i64 2] (by rfl) rfl rfl mq ?_
   with_reducible refine (impl_codeIf.calls (!t242) 2 t243 _ A6.out).mono ?_
   rintro e w' ⟨rfl, ⟨nd, rfl⟩⟩
   refine ⟨_, rfl, ?_⟩
   refine hK.out _ _ ⟨cc, cc, cc⟩ (fun hHeld => ?_)
   clear hK K
   refine nn ?_
   refine o1 23 20 fun K hK => ?_
   refine goes_ Try.func87 kr rfl #[.slice A0_1 l0_1.length c0_1, .int .i64 1073741824] (by rfl) rfl rfl mq ?_
   with_reducible refine (impl_allWithin.calls _ _ l0_1 1073741824 true _ ?s1 ?s2 A7.out).mono ?_
   (case s1 => exact cq (cB HR0_1.out bq))
   (case s2 => exact HC0_1.out)
   rintro e w14 ⟨rfl, hb⟩
   refine ⟨_, rfl, ?_⟩
   replace BK239 := zb BK239 hb
   replace HB := aM (bT bq hb)
   (try clear hb)
   (try clear hb2)
   (try clear hk)
   (try clear hi)
   refine hK.out _ _ ⟨cc, cc, cc⟩ (fun hHeld => ?_)
   clear hK K
   refine nn ?_
   refine p1 24 21 ?_
   refine p1 25 22 ?_
   refine p1 26 23 ?_
   refine t1 27 24 ?_ (hy := by rintro w' ⟨s0, s1, s2⟩; go_simp; with_reducible rfl)
   refine o1 28 25 fun K hK => ?_
   refine goes_ Try.func87 kr rfl #[.slice A0_2 l0_2.length c0_2, .int .i64 268435456] (by rfl) rfl rfl mq ?_
   with_reducible refine (impl_allWithin.calls _ _ l0_2 268435456 t245 _ ?s1 ?s2 A9.out).mono ?_
   (case s1 => exact cq (cB HR0_2.out HB.out))
   (case s2 => exact HC0_2.out)
   rintro e w15 ⟨rfl, hb⟩
   refine ⟨_, rfl, ?_⟩
   replace BK239 := zb BK239 hb
   replace HB := aM (bT bq hb)
   (try clear hb)
   (try clear hb2)
   (try clear hk)
   (try clear hi)
   refine hK.out _ _ ⟨cc, cc, cc⟩ (fun hHeld => ?_)
   clear hK K
   refine nn ?_
   refine p1 29 26 ?_
   refine p1 30 27 ?_
   refine o1 31 28 fun K hK => ?_
   refine goes_ Try.func56 kr rfl #[.bool (!t245), .int .i64 3] (by rfl) rfl rfl mq ?_
   with_reducible refine (impl_codeIf.calls (!t245) 3 t246 _ A10.out).mono ?_
   rintro e w' ⟨rfl, ⟨nd, rfl⟩⟩
   refine ⟨_, rfl, ?_⟩
   refine hK.out _ _ ⟨cc, cc, cc⟩ (fun hHeld => ?_)
   clear hK K
   refine nn ?_
   refine o1 32 29 fun K hK => ?_
   refine Kd.R_lit_step (Kd.int .i64) _ 2 ?hg (N := 32) ?hd (xs := ([t240, t243, t246] : List Int)) (inner := [.int .i64 t240, .int .i64 t243, .int .i64 t246]) (ok := fun _ => True) (okp := fun _ => True) ?hr ?hp (fun _ hk => hk) trivial (Below.refl _ _) (Nat.le_refl _) (by simp) ?_; (case hd => rfl); (case hg => rfl); (case hr => first | (go_simp; done) | (go_simp; rfl)); (case hp => exact (Reps.one (show Kd.M (Kd.int .i64) _ _ _ t240 [.int .i64 t240] from rfl) (Reps.one (show Kd.M (Kd.int .i64) _ _ _ t243 [.int .i64 t243] from rfl) (Reps.one (show Kd.M (Kd.int .i64) _ _ _ t246 [.int .i64 t246] from rfl) (Reps.none _ _)))))
   intro v248 w16 ho17 hb hg_ hnew_
   clear hg_ hnew_
   rw [← Ny247.out] at ho17
   have HO249 := aM (rG ho17 (bZ bq))
   replace BK239 := zb BK239 hb
   replace HB := aM (bT bq hb)
   clear hb ho17
   obtain ⟨Ao18, co18, eo18⟩ := Kd.R_slice HO249.out
   (first | subst eo18 | (injection eo18 with f1_ f2_ f3_; have f4_ := f1_.symm; have f5_ := f3_.symm; clear f1_ f2_ f3_; subst f4_; subst f5_))
   refine hK.out _ _ ⟨cc, cc, cc⟩ (fun hHeld => ?_)
   clear hK K
   refine nn ?_
   refine o1 33 30 fun K hK => ?_
   refine goes_ Try.func54 kr rfl #[.slice Ao18 y247.length co18] (by rfl) rfl rfl mq ?_
   with_reducible refine (impl_first.calls k _ _ y247 t250 _ ?s1 ?s2 A11.out).mono ?_
   (case s1 => exact cq (rR HO249.out).2.2)
   (case s2 => exact (rR HO249.out).2.1)
   rintro e w' ⟨rfl, ⟨nd, rfl⟩⟩
   refine ⟨_, rfl, ?_⟩
   refine hK.out _ _ ⟨cc, cc, cc⟩ (fun hHeld => ?_)
   clear hK K
   refine nn ?_
   refine p1 2 31 ?_
   refine done_ (done_of HT_.out kr) ?_
   try go_wp2
   go_ret
   exact ⟨ew, bq⟩
  ·replace c8 := Bool.eq_false_iff.mpr c8
   subst c8
   have H1 : ((impl_codeIf.f true 3).bind fun t251 => ((impl_first.f k (([t240, t243, t251] : List Int))).bind fun t255 => (some t255))) = some r := by rw [if_neg (show ¬ (false = true) by decide)] at H; exact H
   clear H
   have H := H1
   clear H1
   replace H := bo H
   obtain ⟨t251, A19, H⟩ := H
   replace H := bz H
   obtain ⟨y252, Ny252⟩ : ∃ y_ : List Int, Aside0 (y_ = (([t240, t243, t251] : List Int))) := ⟨_, ⟨rfl⟩⟩
   rw [← Ny252.out] at H
   replace H := bo H
   obtain ⟨t255, A20, H⟩ := H
   replace H : (some t255) = some r := H
   obtain rfl := Option.some.inj H
   go_enter Try.func46, Try.ntmps46
   try go_wp2_with (first | ((with_reducible refine gD 1 rfl ?_); refine bx 1 35 #[.int .i64 a0_0, .slice A0_1 l0_1.length c0_1, .slice A0_2 l0_2.length c0_2] ?_; intro gb239 hg w21 hbox hb; have BK239 := aM hbox; have GW239 := gw w hg; have GE239 := GW239; replace HB := aM (bT bq hb); clear hb hbox hg))
   replace BK239 := zk BK239
   replace HB := aM (bD HB.out)
   refine start_ (n := 32) (S := fun w' => w'.cell? ⟨gb239, 0, none⟩ = some (.int .i64 a0_0) ∧ w'.cell? ⟨gb239, 1, none⟩ = some (.slice A0_1 l0_1.length c0_1) ∧ w'.cell? ⟨gb239, 2, none⟩ = some (.slice A0_2 l0_2.length c0_2)) (ds := []) #[N,N,N,N,N,N,N,N,N,N,N,N,N,N,N,N,N,N,N,N,N,N,N,N,N,N,N,N,N,N,N,N] kr rfl rfl ⟨cc, cc, cc⟩ (fun hHeld => ?_); refine with_tabW impl_SynthFault.tab1 impl_SynthFault.bits1 (fun HT_ HW_ => ?_)
   generalize w21.drew = w22 at BK239 HB hHeld ⊢
   refine p1 3 0 ?_
   refine p1 6 3 ?_
   refine p1 8 5 ?_
   refine p1 21 18 ?_
   refine t1 4 1 ?_ (hy := by rintro w' ⟨s0, s1, s2⟩; go_simp; with_reducible rfl)
   refine t1 7 4 ?_ (hy := by rintro w' ⟨s0, s1, s2⟩; go_simp; with_reducible rfl)
   refine t1 9 6 ?_ (hy := by rintro w' ⟨s0, s1, s2⟩; go_simp; with_reducible rfl)
   refine t1 22 19 ?_ (hy := by rintro w' ⟨s0, s1, s2⟩; go_simp; with_reducible rfl)
   refine o1 5 2 fun K hK => ?_
   refine goes_ Try.func55 kr rfl #[.int .i64 a0_0] (by rfl) rfl rfl mq ?_
   with_reducible refine (impl_SizeFault.calls a0_0 t240 _ A2.out).mono ?_
   rintro e w' ⟨rfl, ⟨nd, rfl⟩⟩
   refine ⟨_, rfl, ?_⟩
   refine hK.out _ _ ⟨cc, cc, cc⟩ (fun hHeld => ?_)
   clear hK K
   refine nn ?_
   refine o1 10 7 fun K hK => ?_
   refine goes_ Try.func95 kr rfl #[.slice A0_1 l0_1.length c0_1, .int .i64 a0_0] (by rfl) rfl rfl mq ?_
   with_reducible refine (impl_halfOf.calls _ _ l0_1 a0_0 true _ ?s1 ?s2 A3.out).mono ?_
   (case s1 => exact cq (cB HR0_1.out bq))
   (case s2 => exact HC0_1.out)
   rintro e w' ⟨rfl, ⟨nd, rfl⟩⟩
   refine ⟨_, rfl, ?_⟩
   refine hK.out _ _ ⟨cc, cc, cc⟩ (fun hHeld => ?_)
   clear hK K
   refine nn ?_
   refine p1 11 8 ?_
   refine p1 12 9 ?_
   refine p1 13 10 ?_
   refine p1 15 12 ?_
   refine t1 14 11 ?_ (hy := by rintro w' ⟨s0, s1, s2⟩; go_simp; with_reducible rfl)
   refine t1 16 13 ?_ (hy := by rintro w' ⟨s0, s1, s2⟩; go_simp; with_reducible rfl)
   refine o1 17 14 fun K hK => ?_
   refine goes_ Try.func95 kr rfl #[.slice A0_2 l0_2.length c0_2, .int .i64 a0_0] (by rfl) rfl rfl mq ?_
   with_reducible refine (impl_halfOf.calls _ _ l0_2 a0_0 t242 _ ?s1 ?s2 A5.out).mono ?_
   (case s1 => exact cq (cB HR0_2.out bq))
   (case s2 => exact HC0_2.out)
   rintro e w' ⟨rfl, ⟨nd, rfl⟩⟩
   refine ⟨_, rfl, ?_⟩
   refine hK.out _ _ ⟨cc, cc, cc⟩ (fun hHeld => ?_)
   clear hK K
   refine nn ?_
   refine p1 18 15 ?_
   refine p1 19 16 ?_
   refine o1 20 17 fun K hK => ?_
   refine goes_ Try.func56 kr rfl #[.bool (!t242), .int .i64 2] (by rfl) rfl rfl mq ?_
   with_reducible refine (impl_codeIf.calls (!t242) 2 t243 _ A6.out).mono ?_
   rintro e w' ⟨rfl, ⟨nd, rfl⟩⟩
   refine ⟨_, rfl, ?_⟩
   refine hK.out _ _ ⟨cc, cc, cc⟩ (fun hHeld => ?_)
   clear hK K
   refine nn ?_
   refine o1 23 20 fun K hK => ?_
   refine goes_ Try.func87 kr rfl #[.slice A0_1 l0_1.length c0_1, .int .i64 1073741824] (by rfl) rfl rfl mq ?_
   with_reducible refine (impl_allWithin.calls _ _ l0_1 1073741824 false _ ?s1 ?s2 A7.out).mono ?_
   (case s1 => exact cq (cB HR0_1.out bq))
   (case s2 => exact HC0_1.out)
   rintro e w23 ⟨rfl, hb⟩
   refine ⟨_, rfl, ?_⟩
   replace BK239 := zb BK239 hb
   replace HB := aM (bT bq hb)
   (try clear hb)
   (try clear hb2)
   (try clear hk)
   (try clear hi)
   refine hK.out _ _ ⟨cc, cc, cc⟩ (fun hHeld => ?_)
   clear hK K
   refine nn ?_
   refine p1 24 21 ?_
   refine p1 25 22 ?_
   refine p2 26 23 ?_
   refine p2 27 24 ?_
   refine p2 28 25 ?_
   refine p2 29 26 ?_
   refine p1 30 27 ?_
   refine o1 31 28 fun K hK => ?_
   refine goes_ Try.func56 kr rfl #[.bool true, .int .i64 3] (by rfl) rfl rfl mq ?_
   with_reducible refine (impl_codeIf.calls true 3 t251 _ A19.out).mono ?_
   rintro e w' ⟨rfl, ⟨nd, rfl⟩⟩
   refine ⟨_, rfl, ?_⟩
   refine hK.out _ _ ⟨cc, cc, cc⟩ (fun hHeld => ?_)
   clear hK K
   refine nn ?_
   refine o1 32 29 fun K hK => ?_
   refine Kd.R_lit_step (Kd.int .i64) _ 2 ?hg (N := 32) ?hd (xs := ([t240, t243, t251] : List Int)) (inner := [.int .i64 t240, .int .i64 t243, .int .i64 t251]) (ok := fun _ => True) (okp := fun _ => True) ?hr ?hp (fun _ hk => hk) trivial (Below.refl _ _) (Nat.le_refl _) (by simp) ?_; (case hd => rfl); (case hg => rfl); (case hr => first | (go_simp; done) | (go_simp; rfl)); (case hp => exact (Reps.one (show Kd.M (Kd.int .i64) _ _ _ t240 [.int .i64 t240] from rfl) (Reps.one (show Kd.M (Kd.int .i64) _ _ _ t243 [.int .i64 t243] from rfl) (Reps.one (show Kd.M (Kd.int .i64) _ _ _ t251 [.int .i64 t251] from rfl) (Reps.none _ _)))))
   intro v253 w24 ho25 hb hg_ hnew_
   clear hg_ hnew_
   rw [← Ny252.out] at ho25
   have HO254 := aM (rG ho25 (bZ bq))
   replace BK239 := zb BK239 hb
   replace HB := aM (bT bq hb)
   clear hb ho25
   obtain ⟨Ao26, co26, eo26⟩ := Kd.R_slice HO254.out
   (first | subst eo26 | (injection eo26 with f1_ f2_ f3_; have f4_ := f1_.symm; have f5_ := f3_.symm; clear f1_ f2_ f3_; subst f4_; subst f5_))
   refine hK.out _ _ ⟨cc, cc, cc⟩ (fun hHeld => ?_)
   clear hK K
   refine nn ?_
   refine o1 33 30 fun K hK => ?_
   refine goes_ Try.func54 kr rfl #[.slice Ao26 y252.length co26] (by rfl) rfl rfl mq ?_
   with_reducible refine (impl_first.calls k _ _ y252 t255 _ ?s1 ?s2 A20.out).mono ?_
   (case s1 => exact cq (rR HO254.out).2.2)
   (case s2 => exact (rR HO254.out).2.1)
   rintro e w' ⟨rfl, ⟨nd, rfl⟩⟩
   refine ⟨_, rfl, ?_⟩
   refine hK.out _ _ ⟨cc, cc, cc⟩ (fun hHeld => ?_)
   clear hK K
   refine nn ?_
   refine p1 2 31 ?_
   refine done_ (done_of HT_.out kr) ?_
   try go_wp2
   go_ret
   exact ⟨ew, bq⟩
 ·replace c4 := Bool.eq_false_iff.mpr c4
  subst c4
  have H1 : ((impl_codeIf.f true 2).bind fun t256 => ((impl_allWithin.f l0_1 1073741824).bind fun t257 => (if t257 = true then ((impl_allWithin.f l0_2 268435456).bind fun t258 => ((impl_codeIf.f (!t258) 3).bind fun t259 => ((impl_first.f k (([t240, t256, t259] : List Int))).bind fun t263 => (some t263)))) else ((impl_codeIf.f true 3).bind fun t264 => ((impl_first.f k (([t240, t256, t264] : List Int))).bind fun t268 => (some t268)))))) = some r := by rw [if_neg (show ¬ (false = true) by decide)] at H; exact H
  clear H
  have H := H1
  clear H1
  replace H := bo H
  obtain ⟨t256, A27, H⟩ := H
  replace H := bz H
  replace H := bo H
  obtain ⟨t257, A28, H⟩ := H
  replace H := bz H
  by_cases c29 : t257 = true
  ·subst c29
   have H1 : ((impl_allWithin.f l0_2 268435456).bind fun t258 => ((impl_codeIf.f (!t258) 3).bind fun t259 => ((impl_first.f k (([t240, t256, t259] : List Int))).bind fun t263 => (some t263)))) = some r := by rw [if_pos rfl] at H; exact H
   clear H
   have H := H1
   clear H1
   replace H := bo H
   obtain ⟨t258, A30, H⟩ := H
   replace H := bz H
   replace H := bo H
   obtain ⟨t259, A31, H⟩ := H
   replace H := bz H
   obtain ⟨y260, Ny260⟩ : ∃ y_ : List Int, Aside0 (y_ = (([t240, t256, t259] : List Int))) := ⟨_, ⟨rfl⟩⟩
   rw [← Ny260.out] at H
   replace H := bo H
   obtain ⟨t263, A32, H⟩ := H
   replace H : (some t263) = some r := H
   obtain rfl := Option.some.inj H
   go_enter Try.func46, Try.ntmps46
   try go_wp2_with (first | ((with_reducible refine gD 1 rfl ?_); refine bx 1 35 #[.int .i64 a0_0, .slice A0_1 l0_1.length c0_1, .slice A0_2 l0_2.length c0_2] ?_; intro gb239 hg w33 hbox hb; have BK239 := aM hbox; have GW239 := gw w hg; have GE239 := GW239; replace HB := aM (bT bq hb); clear hb hbox hg))
   replace BK239 := zk BK239
   replace HB := aM (bD HB.out)
   refine start_ (n := 32) (S := fun w' => w'.cell? ⟨gb239, 0, none⟩ = some (.int .i64 a0_0) ∧ w'.cell? ⟨gb239, 1, none⟩ = some (.slice A0_1 l0_1.length c0_1) ∧ w'.cell? ⟨gb239, 2, none⟩ = some (.slice A0_2 l0_2.length c0_2)) (ds := []) #[N,N,N,N,N,N,N,N,N,N,N,N,N,N,N,N,N,N,N,N,N,N,N,N,N,N,N,N,N,N,N,N] kr rfl rfl ⟨cc, cc, cc⟩ (fun hHeld => ?_); refine with_tabW impl_SynthFault.tab1 impl_SynthFault.bits1 (fun HT_ HW_ => ?_)
   generalize w33.drew = w34 at BK239 HB hHeld ⊢
   refine p1 3 0 ?_
   refine p1 6 3 ?_
   refine p1 8 5 ?_
   refine p1 21 18 ?_
   refine t1 4 1 ?_ (hy := by rintro w' ⟨s0, s1, s2⟩; go_simp; with_reducible rfl)
   refine t1 7 4 ?_ (hy := by rintro w' ⟨s0, s1, s2⟩; go_simp; with_reducible rfl)
   refine t1 9 6 ?_ (hy := by rintro w' ⟨s0, s1, s2⟩; go_simp; with_reducible rfl)
   refine t1 22 19 ?_ (hy := by rintro w' ⟨s0, s1, s2⟩; go_simp; with_reducible rfl)
   refine o1 5 2 fun K hK => ?_
   refine goes_ Try.func55 kr rfl #[.int .i64 a0_0] (by rfl) rfl rfl mq ?_
   with_reducible refine (impl_SizeFault.calls a0_0 t240 _ A2.out).mono ?_
   rintro e w' ⟨rfl, ⟨nd, rfl⟩⟩
   refine ⟨_, rfl, ?_⟩
   refine hK.out _ _ ⟨cc, cc, cc⟩ (fun hHeld => ?_)
   clear hK K
   refine nn ?_
   refine o1 10 7 fun K hK => ?_
   refine goes_ Try.func95 kr rfl #[.slice A0_1 l0_1.length c0_1, .int .i64 a0_0] (by rfl) rfl rfl mq ?_
   with_reducible refine (impl_halfOf.calls _ _ l0_1 a0_0 false _ ?s1 ?s2 A3.out).mono ?_
   (case s1 => exact cq (cB HR0_1.out bq))
   (case s2 => exact HC0_1.out)
   rintro e w' ⟨rfl, ⟨nd, rfl⟩⟩
   refine ⟨_, rfl, ?_⟩
   refine hK.out _ _ ⟨cc, cc, cc⟩ (fun hHeld => ?_)
   clear hK K
   refine nn ?_
   refine p1 11 8 ?_
   refine p1 12 9 ?_
   refine p2 13 10 ?_
   refine p2 14 11 ?_
   refine p2 15 12 ?_
   refine p2 16 13 ?_
   refine p2 17 14 ?_
   refine p2 18 15 ?_
   refine p1 19 16 ?_
   refine o1 20 17 fun K hK => ?_
   refine goes_ Try.func56 kr rfl #[.bool true, .int .i64 2] (by rfl) rfl rfl mq ?_
   with_reducible refine (impl_codeIf.calls true 2 t256 _ A27.out).mono ?_
   rintro e w' ⟨rfl, ⟨nd, rfl⟩⟩
   refine ⟨_, rfl, ?_⟩
   refine hK.out _ _ ⟨cc, cc, cc⟩ (fun hHeld => ?_)
   clear hK K
   refine nn ?_
   refine o1 23 20 fun K hK => ?_
   refine goes_ Try.func87 kr rfl #[.slice A0_1 l0_1.length c0_1, .int .i64 1073741824] (by rfl) rfl rfl mq ?_
   with_reducible refine (impl_allWithin.calls _ _ l0_1 1073741824 true _ ?s1 ?s2 A28.out).mono ?_
   (case s1 => exact cq (cB HR0_1.out bq))
   (case s2 => exact HC0_1.out)
   rintro e w35 ⟨rfl, hb⟩
   refine ⟨_, rfl, ?_⟩
   replace BK239 := zb BK239 hb
   replace HB := aM (bT bq hb)
   (try clear hb)
   (try clear hb2)
   (try clear hk)
   (try clear hi)
   refine hK.out _ _ ⟨cc, cc, cc⟩ (fun hHeld => ?_)
   clear hK K
   refine nn ?_
   refine p1 24 21 ?_
   refine p1 25 22 ?_
   refine p1 26 23 ?_
   refine t1 27 24 ?_ (hy := by rintro w' ⟨s0, s1, s2⟩; go_simp; with_reducible rfl)
   refine o1 28 25 fun K hK => ?_
   refine goes_ Try.func87 kr rfl #[.slice A0_2 l0_2.length c0_2, .int .i64 268435456] (by rfl) rfl rfl mq ?_
   with_reducible refine (impl_allWithin.calls _ _ l0_2 268435456 t258 _ ?s1 ?s2 A30.out).mono ?_
   (case s1 => exact cq (cB HR0_2.out HB.out))
   (case s2 => exact HC0_2.out)
   rintro e w36 ⟨rfl, hb⟩
   refine ⟨_, rfl, ?_⟩
   replace BK239 := zb BK239 hb
   replace HB := aM (bT bq hb)
   (try clear hb)
   (try clear hb2)
   (try clear hk)
   (try clear hi)
   refine hK.out _ _ ⟨cc, cc, cc⟩ (fun hHeld => ?_)
   clear hK K
   refine nn ?_
   refine p1 29 26 ?_
   refine p1 30 27 ?_
   refine o1 31 28 fun K hK => ?_
   refine goes_ Try.func56 kr rfl #[.bool (!t258), .int .i64 3] (by rfl) rfl rfl mq ?_
   with_reducible refine (impl_codeIf.calls (!t258) 3 t259 _ A31.out).mono ?_
   rintro e w' ⟨rfl, ⟨nd, rfl⟩⟩
   refine ⟨_, rfl, ?_⟩
   refine hK.out _ _ ⟨cc, cc, cc⟩ (fun hHeld => ?_)
   clear hK K
   refine nn ?_
   refine o1 32 29 fun K hK => ?_
   refine Kd.R_lit_step (Kd.int .i64) _ 2 ?hg (N := 32) ?hd (xs := ([t240, t256, t259] : List Int)) (inner := [.int .i64 t240, .int .i64 t256, .int .i64 t259]) (ok := fun _ => True) (okp := fun _ => True) ?hr ?hp (fun _ hk => hk) trivial (Below.refl _ _) (Nat.le_refl _) (by simp) ?_; (case hd => rfl); (case hg => rfl); (case hr => first | (go_simp; done) | (go_simp; rfl)); (case hp => exact (Reps.one (show Kd.M (Kd.int .i64) _ _ _ t240 [.int .i64 t240] from rfl) (Reps.one (show Kd.M (Kd.int .i64) _ _ _ t256 [.int .i64 t256] from rfl) (Reps.one (show Kd.M (Kd.int .i64) _ _ _ t259 [.int .i64 t259] from rfl) (Reps.none _ _)))))
   intro v261 w37 ho38 hb hg_ hnew_
   clear hg_ hnew_
   rw [← Ny260.out] at ho38
   have HO262 := aM (rG ho38 (bZ bq))
   replace BK239 := zb BK239 hb
   replace HB := aM (bT bq hb)
   clear hb ho38
   obtain ⟨Ao39, co39, eo39⟩ := Kd.R_slice HO262.out
   (first | subst eo39 | (injection eo39 with f1_ f2_ f3_; have f4_ := f1_.symm; have f5_ := f3_.symm; clear f1_ f2_ f3_; subst f4_; subst f5_))
   refine hK.out _ _ ⟨cc, cc, cc⟩ (fun hHeld => ?_)
   clear hK K
   refine nn ?_
   refine o1 33 30 fun K hK => ?_
   refine goes_ Try.func54 kr rfl #[.slice Ao39 y260.length co39] (by rfl) rfl rfl mq ?_
   with_reducible refine (impl_first.calls k _ _ y260 t263 _ ?s1 ?s2 A32.out).mono ?_
   (case s1 => exact cq (rR HO262.out).2.2)
   (case s2 => exact (rR HO262.out).2.1)
   rintro e w' ⟨rfl, ⟨nd, rfl⟩⟩
   refine ⟨_, rfl, ?_⟩
   refine hK.out _ _ ⟨cc, cc, cc⟩ (fun hHeld => ?_)
   clear hK K
   refine nn ?_
   refine p1 2 31 ?_
   refine done_ (done_of HT_.out kr) ?_
   try go_wp2
   go_ret
   exact ⟨ew, bq⟩
  ·replace c29 := Bool.eq_false_iff.mpr c29
   subst c29
   have H1 : ((impl_codeIf.f true 3).bind fun t264 => ((impl_first.f k (([t240, t256, t264] : List Int))).bind fun t268 => (some t268))) = some r := by rw [if_neg (show ¬ (false = true) by decide)] at H; exact H
   clear H
   have H := H1
   clear H1
   replace H := bo H
   obtain ⟨t264, A40, H⟩ := H
   replace H := bz H
   obtain ⟨y265, Ny265⟩ : ∃ y_ : List Int, Aside0 (y_ = (([t240, t256, t264] : List Int))) := ⟨_, ⟨rfl⟩⟩
   rw [← Ny265.out] at H
   replace H := bo H
   obtain ⟨t268, A41, H⟩ := H
   replace H : (some t268) = some r := H
   obtain rfl := Option.some.inj H
   go_enter Try.func46, Try.ntmps46
   try go_wp2_with (first | ((with_reducible refine gD 1 rfl ?_); refine bx 1 35 #[.int .i64 a0_0, .slice A0_1 l0_1.length c0_1, .slice A0_2 l0_2.length c0_2] ?_; intro gb239 hg w42 hbox hb; have BK239 := aM hbox; have GW239 := gw w hg; have GE239 := GW239; replace HB := aM (bT bq hb); clear hb hbox hg))
   replace BK239 := zk BK239
   replace HB := aM (bD HB.out)
   refine start_ (n := 32) (S := fun w' => w'.cell? ⟨gb239, 0, none⟩ = some (.int .i64 a0_0) ∧ w'.cell? ⟨gb239, 1, none⟩ = some (.slice A0_1 l0_1.length c0_1) ∧ w'.cell? ⟨gb239, 2, none⟩ = some (.slice A0_2 l0_2.length c0_2)) (ds := []) #[N,N,N,N,N,N,N,N,N,N,N,N,N,N,N,N,N,N,N,N,N,N,N,N,N,N,N,N,N,N,N,N] kr rfl rfl ⟨cc, cc, cc⟩ (fun hHeld => ?_); refine with_tabW impl_SynthFault.tab1 impl_SynthFault.bits1 (fun HT_ HW_ => ?_)
   generalize w42.drew = w43 at BK239 HB hHeld ⊢
   refine p1 3 0 ?_
   refine p1 6 3 ?_
   refine p1 8 5 ?_
   refine p1 21 18 ?_
   refine t1 4 1 ?_ (hy := by rintro w' ⟨s0, s1, s2⟩; go_simp; with_reducible rfl)
   refine t1 7 4 ?_ (hy := by rintro w' ⟨s0, s1, s2⟩; go_simp; with_reducible rfl)
   refine t1 9 6 ?_ (hy := by rintro w' ⟨s0, s1, s2⟩; go_simp; with_reducible rfl)
   refine t1 22 19 ?_ (hy := by rintro w' ⟨s0, s1, s2⟩; go_simp; with_reducible rfl)
   refine o1 5 2 fun K hK => ?_
   refine goes_ Try.func55 kr rfl #[.int .i64 a0_0] (by rfl) rfl rfl mq ?_
   with_reducible refine (impl_SizeFault.calls a0_0 t240 _ A2.out).mono ?_
   rintro e w' ⟨rfl, ⟨nd, rfl⟩⟩
   refine ⟨_, rfl, ?_⟩
   refine hK.out _ _ ⟨cc, cc, cc⟩ (fun hHeld => ?_)
   clear hK K
   refine nn ?_
   refine o1 10 7 fun K hK => ?_
   refine goes_ Try.func95 kr rfl #[.slice A0_1 l0_1.length c0_1, .int .i64 a0_0] (by rfl) rfl rfl mq ?_
   with_reducible refine (impl_halfOf.calls _ _ l0_1 a0_0 false _ ?s1 ?s2 A3.out).mono ?_
   (case s1 => exact cq (cB HR0_1.out bq))
   (case s2 => exact HC0_1.out)
   rintro e w' ⟨rfl, ⟨nd, rfl⟩⟩
   refine ⟨_, rfl, ?_⟩
   refine hK.out _ _ ⟨cc, cc, cc⟩ (fun hHeld => ?_)
   clear hK K
   refine nn ?_
   refine p1 11 8 ?_
   refine p1 12 9 ?_
   refine p2 13 10 ?_
   refine p2 14 11 ?_
   refine p2 15 12 ?_
   refine p2 16 13 ?_
   refine p2 17 14 ?_
   refine p2 18 15 ?_
   refine p1 19 16 ?_
   refine o1 20 17 fun K hK => ?_
   refine goes_ Try.func56 kr rfl #[.bool true, .int .i64 2] (by rfl) rfl rfl mq ?_
   with_reducible refine (impl_codeIf.calls true 2 t256 _ A27.out).mono ?_
   rintro e w' ⟨rfl, ⟨nd, rfl⟩⟩
   refine ⟨_, rfl, ?_⟩
   refine hK.out _ _ ⟨cc, cc, cc⟩ (fun hHeld => ?_)
   clear hK K
   refine nn ?_
   refine o1 23 20 fun K hK => ?_
   refine goes_ Try.func87 kr rfl #[.slice A0_1 l0_1.length c0_1, .int .i64 1073741824] (by rfl) rfl rfl mq ?_
   with_reducible refine (impl_allWithin.calls _ _ l0_1 1073741824 false _ ?s1 ?s2 A28.out).mono ?_
   (case s1 => exact cq (cB HR0_1.out bq))
   (case s2 => exact HC0_1.out)
   rintro e w44 ⟨rfl, hb⟩
   refine ⟨_, rfl, ?_⟩
   replace BK239 := zb BK239 hb
   replace HB := aM (bT bq hb)
   (try clear hb)
   (try clear hb2)
   (try clear hk)
   (try clear hi)
   refine hK.out _ _ ⟨cc, cc, cc⟩ (fun hHeld => ?_)
   clear hK K
   refine nn ?_
   refine p1 24 21 ?_
   refine p1 25 22 ?_
   refine p2 26 23 ?_
   refine p2 27 24 ?_
   refine p2 28 25 ?_
   refine p2 29 26 ?_
   refine p1 30 27 ?_
   refine o1 31 28 fun K hK => ?_
   refine goes_ Try.func56 kr rfl #[.bool true, .int .i64 3] (by rfl) rfl rfl mq ?_
   with_reducible refine (impl_codeIf.calls true 3 t264 _ A40.out).mono ?_
   rintro e w' ⟨rfl, ⟨nd, rfl⟩⟩
   refine ⟨_, rfl, ?_⟩
   refine hK.out _ _ ⟨cc, cc, cc⟩ (fun hHeld => ?_)
   clear hK K
   refine nn ?_
   refine o1 32 29 fun K hK => ?_
   refine Kd.R_lit_step (Kd.int .i64) _ 2 ?hg (N := 32) ?hd (xs := ([t240, t256, t264] : List Int)) (inner := [.int .i64 t240, .int .i64 t256, .int .i64 t264]) (ok := fun _ => True) (okp := fun _ => True) ?hr ?hp (fun _ hk => hk) trivial (Below.refl _ _) (Nat.le_refl _) (by simp) ?_; (case hd => rfl); (case hg => rfl); (case hr => first | (go_simp; done) | (go_simp; rfl)); (case hp => exact (Reps.one (show Kd.M (Kd.int .i64) _ _ _ t240 [.int .i64 t240] from rfl) (Reps.one (show Kd.M (Kd.int .i64) _ _ _ t256 [.int .i64 t256] from rfl) (Reps.one (show Kd.M (Kd.int .i64) _ _ _ t264 [.int .i64 t264] from rfl) (Reps.none _ _)))))
   intro v266 w45 ho46 hb hg_ hnew_
   clear hg_ hnew_
   rw [← Ny265.out] at ho46
   have HO267 := aM (rG ho46 (bZ bq))
   replace BK239 := zb BK239 hb
   replace HB := aM (bT bq hb)
   clear hb ho46
   obtain ⟨Ao47, co47, eo47⟩ := Kd.R_slice HO267.out
   (first | subst eo47 | (injection eo47 with f1_ f2_ f3_; have f4_ := f1_.symm; have f5_ := f3_.symm; clear f1_ f2_ f3_; subst f4_; subst f5_))
   refine hK.out _ _ ⟨cc, cc, cc⟩ (fun hHeld => ?_)
   clear hK K
   refine nn ?_
   refine o1 33 30 fun K hK => ?_
   refine goes_ Try.func54 kr rfl #[.slice Ao47 y265.length co47] (by rfl) rfl rfl mq ?_
   with_reducible refine (impl_first.calls k _ _ y265 t268 _ ?s1 ?s2 A41.out).mono ?_
   (case s1 => exact cq (rR HO267.out).2.2)
   (case s2 => exact (rR HO267.out).2.1)
   rintro e w' ⟨rfl, ⟨nd, rfl⟩⟩
   refine ⟨_, rfl, ?_⟩
   refine hK.out _ _ ⟨cc, cc, cc⟩ (fun hHeld => ?_)
   clear hK K
   refine nn ?_
   refine p1 2 31 ?_
   refine done_ (done_of HT_.out kr) ?_
   try go_wp2
   go_ret
   exact ⟨ew, bq⟩
end Go.Proofs.Ytmhnpogjkbmmnaa.PFnStates
