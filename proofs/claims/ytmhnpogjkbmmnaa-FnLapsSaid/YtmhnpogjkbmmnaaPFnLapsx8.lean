-- Written by a program of this session: wip/mkprint.py over the kit's print, with contracts proved by hand (wip/given.py)
-- shortest of all
-- told shortest
-- told shorter still
-- shortened
-- told short
-- worlds by letters
-- squeezed
import Derived.Test.YtmhnpogjkbmmnaaPFnLapsx0
import Derived.Test.YtmhnpogjkbmmnaaPFnLapsx1
import Derived.Test.YtmhnpogjkbmmnaaPFnLapsx7
namespace Go.Proofs.Ytmhnpogjkbmmnaa.PFnLaps
open Go.RowKit Go.Proofs.YtmhnpogjkbmmnaaW.PrintWords Go.Proofs.YtmhnpogjkbmmnaaW.PrintLast Go.Proofs.YtmhnpogjkbmmnaaW.PrintMore
open Go.Proofs.YtmhnpogjkbmmnaaW.PrintWords.Kd renaming R_lower → rG, R_reads' → rR, C_below → cB
open Go.Proofs.YtmhnpogjkbmmnaaW.PrintWords renaming below_drew1 → bD, below_step → bT, below_size → bZ, blk_drew → kD, blk_below → kB, blk_cell → kC
open Go.Proofs.YtmhnpogjkbmmnaaW.PrintWords.Aside0 renaming mk → aM
attribute [local go_sem] max2_int min2_int max_two min_two max_three min_three max_four min_four   -- for this text's walks alone
set_option linter.unusedVariables false
set_option linter.unusedSimpArgs false

/-! ### impl_LapFault: function 43 -/
def impl_LapFault.f (k : Nat) (a0_0 : Int) (l0_1 : List Int) (l0_2 : List Int) : Option (Int) := (impl_SizeFault.f a0_0).bind fun t259 => ((impl_halfOf.f l0_1 a0_0).bind fun t260 => (if t260 = true then ((impl_halfOf.f l0_2 a0_0).bind fun t261 => ((impl_codeIf.f (!t261) 2).bind fun t262 => ((impl_allWithin.f l0_1 65536).bind fun t263 => (if t263 = true then ((impl_areSamples.f l0_2).bind fun t264 => ((impl_codeIf.f (!t264) 3).bind fun t265 => ((impl_first.f k (([t259, t262, t265] : List Int))).bind fun t269 => (some t269)))) else ((impl_codeIf.f true 3).bind fun t270 => ((impl_first.f k (([t259, t262, t270] : List Int))).bind fun t274 => (some t274))))))) else ((impl_codeIf.f true 2).bind fun t275 => ((impl_allWithin.f l0_1 65536).bind fun t276 => (if t276 = true then ((impl_areSamples.f l0_2).bind fun t277 => ((impl_codeIf.f (!t277) 3).bind fun t278 => ((impl_first.f k (([t259, t275, t278] : List Int))).bind fun t282 => (some t282)))) else ((impl_codeIf.f true 3).bind fun t283 => ((impl_first.f k (([t259, t275, t283] : List Int))).bind fun t287 => (some t287))))))))
theorem impl_LapFault.mono : ∀ a0 a1 a2 k, LeO (impl_LapFault.f k a0 a1 a2) (impl_LapFault.f (k + 1) a0 a1 a2) := by
 intro a0 a1 a2 k
 unfold impl_LapFault.f
 repeat' first
   | (with_reducible exact impl_first.mono _ _)
   | (with_reducible exact LeO.refl _)
   | (with_reducible exact LeO.none _)
   | (with_reducible refine LeO.ite ?_ ?_)
   | (with_reducible refine LeO.bind ?_ (fun _ => ?_))
   | exact impl_first.mono _ _
   | exact LeO.none _
   | refine LeO.ite ?_ ?_
   | refine LeO.bind ?_ (fun _ => ?_)
def impl_LapFault.T1 : Bool × List (List Nat × List Nat) := (true, [([], []), ([0], [0]), ([1], [1]), ([], []), ([3], [3]), ([], []), ([5], [5]), ([4, 6, 2], [4, 6]), ([7], [7]), ([8, 7], [8]), ([9], [9]), ([10, 9], [9, 10]), ([9], [9]), ([12, 9], [9, 12]), ([11, 13, 9, 9], [9, 11, 13]), ([14, 9], [9, 14]), ([9, 15], [9, 15]), ([16, 14], [16]), ([], []), ([18], [18]), ([19, 17], [19]), ([20], [20]), ([21, 20], [21]), ([22], [22]), ([23, 22], [22, 23]), ([24, 22, 22], [22, 24]), ([25, 22], [22, 25]), ([22, 26], [22, 26]), ([27, 25], [27]), ([2, 17, 28], [2, 17, 28]), ([29, 28], [29]), ([30, 30, 0, 1, 2, 3, 4, 5, 6, 7, 8, 9, 10, 11, 12, 13, 14, 15, 16, 17, 18, 19, 20, 21, 22, 23, 24, 25, 26, 27, 28, 29, 30], [30])])
def impl_LapFault.B1 : List Nat := [0, 1, 3, 0, 8, 0, 32, 127, 255, 511, 1023, 2047, 1023, 5119, 16383, 32767, 65535, 131071, 0, 262144, 1048575, 2097151, 4194303, 8388607, 16777215, 33554431, 67108863, 134217727, 268435455, 536870911, 1073741823, 2147483647]
theorem impl_LapFault.tab1 : rtab .any (opsOf Try.f43 1) = impl_LapFault.T1 := by kernel_rfl
theorem impl_LapFault.bits1 : waitsOk impl_LapFault.T1.2 impl_LapFault.B1 = true := by kernel_rfl
set_option maxHeartbeats 8000000 in
set_option maxRecDepth 100000 in
theorem impl_LapFault.calls (k : Nat) (a0_0 : Int) (A0_1 : Option Addr) (c0_1 : Nat) (l0_1 : List Int) (A0_2 : Option Addr) (c0_2 : Nat) (l0_2 : List Int) (r : Int) (w : World) (hr0_1 : Kd.C (Kd.int .i64) w A0_1 l0_1.length l0_1) (hc0_1 : l0_1.length ≤ c0_1) (hr0_2 : Kd.C (Kd.int .i64) w A0_2 l0_2.length l0_2) (hc0_2 : l0_2.length ≤ c0_2) (h : impl_LapFault.f k a0_0 l0_1 l0_2 = some r) :
  Calls Try.prog 43 #[.agg #[.int .i64 a0_0, .slice A0_1 l0_1.length c0_1, .slice A0_2 l0_2.length c0_2]] w fun e w' => e = .returned (.int .i64 r) ∧ Below w.heap.size w w' := by
 have hu48 := Try.underlying48
 have HR0_1 := aM hr0_1
 have HC0_1 := aM hc0_1
 clear hr0_1 hc0_1
 have HR0_2 := aM hr0_2
 have HC0_2 := aM hc0_2
 clear hr0_2 hc0_2
 have HB := aM (Below.refl w.heap.size w)
 have H : ((impl_SizeFault.f a0_0).bind fun t259 => ((impl_halfOf.f l0_1 a0_0).bind fun t260 => (if t260 = true then ((impl_halfOf.f l0_2 a0_0).bind fun t261 => ((impl_codeIf.f (!t261) 2).bind fun t262 => ((impl_allWithin.f l0_1 65536).bind fun t263 => (if t263 = true then ((impl_areSamples.f l0_2).bind fun t264 => ((impl_codeIf.f (!t264) 3).bind fun t265 => ((impl_first.f k (([t259, t262, t265] : List Int))).bind fun t269 => (some t269)))) else ((impl_codeIf.f true 3).bind fun t270 => ((impl_first.f k (([t259, t262, t270] : List Int))).bind fun t274 => (some t274))))))) else ((impl_codeIf.f true 2).bind fun t275 => ((impl_allWithin.f l0_1 65536).bind fun t276 => (if t276 = true then ((impl_areSamples.f l0_2).bind fun t277 => ((impl_codeIf.f (!t277) 3).bind fun t278 => ((impl_first.f k (([t259, t275, t278] : List Int))).bind fun t282 => (some t282)))) else ((impl_codeIf.f true 3).bind fun t283 => ((impl_first.f k (([t259, t275, t283] : List Int))).bind fun t287 => (some t287))))))))) = some r := h
 clear h
 replace H := bo H
 obtain ⟨t259, A2, H⟩ := H
 replace H := bz H
 replace H := bo H
 obtain ⟨t260, A3, H⟩ := H
 replace H := bz H
 by_cases c4 : t260 = true
 ·subst c4
  have H1 : ((impl_halfOf.f l0_2 a0_0).bind fun t261 => ((impl_codeIf.f (!t261) 2).bind fun t262 => ((impl_allWithin.f l0_1 65536).bind fun t263 => (if t263 = true then ((impl_areSamples.f l0_2).bind fun t264 => ((impl_codeIf.f (!t264) 3).bind fun t265 => ((impl_first.f k (([t259, t262, t265] : List Int))).bind fun t269 => (some t269)))) else ((impl_codeIf.f true 3).bind fun t270 => ((impl_first.f k (([t259, t262, t270] : List Int))).bind fun t274 => (some t274))))))) = some r := by rw [if_pos rfl] at H; exact H
  clear H
  have H := H1
  clear H1
  replace H := bo H
  obtain ⟨t261, A5, H⟩ := H
  replace H := bz H
  replace H := bo H
  obtain ⟨t262, A6, H⟩ := H
  replace H := bz H
  replace H := bo H
  obtain ⟨t263, A7, H⟩ := H
  replace H := bz H
  by_cases c8 : t263 = true
  ·subst c8
   have H1 : ((impl_areSamples.f l0_2).bind fun t264 => ((impl_codeIf.f (!t264) 3).bind fun t265 => ((impl_first.f k (([t259, t262, t265] : List Int))).bind fun t269 => (some t269)))) = some r := by rw [if_pos rfl] at H; exact H
   clear H
   have H := H1
   clear H1
   replace H := bo H
   obtain ⟨t264, A9, H⟩ := H
   replace H := bz H
   replace H := bo H
   obtain ⟨t265, A10, H⟩ := H
   replace H := bz H
   obtain ⟨y266, hy266⟩ : ∃ y_ : List Int, y_ = (([t259, t262, t265] : List Int)) := ⟨_, rfl⟩
   replace H : ((impl_first.f k y266).bind fun t269 => (some t269)) = some r := hl hy266 H
   have Ny266 := aM hy266
   clear hy266
   replace H := bo H
   obtain ⟨t269, A11, H⟩ := H
   replace H : (some t269) = some r := H
   obtain rfl := Option.some.inj H
   go_enter Try.func43, Try.ntmps43
   try go_wp2_with (first | ((with_reducible refine gate_dst (N := 1) rfl ?_); refine box_event ?hg (N := 1) ?hd (cs := #[.int .i64 a0_0, .slice A0_1 l0_1.length c0_1, .slice A0_2 l0_2.length c0_2]) (t := 48) ?hr ?_; (case hd => rfl); (case hg => rfl); (case hr => first | (go_simp; done) | (go_simp; rfl)); intro gb258 hg w12 hbox hb; have BK258 := aM (hbox); have GW258 := aM ((by rw [hg]; exact (bZ bq) : w.heap.size ≤ gb258)); have GE258 := aM ((by rw [hg]; exact (bZ bq) : w.heap.size ≤ gb258)); replace HB := aM (bT bq hb); clear hb hbox hg))
   replace BK258 := aM (kD BK258.out)
   replace HB := aM (bD HB.out)
   refine start_ (n := 32) (S := fun w' => w'.cell? ⟨gb258, 0, none⟩ = some (.int .i64 a0_0) ∧ w'.cell? ⟨gb258, 1, none⟩ = some (.slice A0_1 l0_1.length c0_1) ∧ w'.cell? ⟨gb258, 2, none⟩ = some (.slice A0_2 l0_2.length c0_2)) (ds := []) #[N,N,N,N,N,N,N,N,N,N,N,N,N,N,N,N,N,N,N,N,N,N,N,N,N,N,N,N,N,N,N,N] kr rfl rfl ⟨cc, cc, cc⟩ (fun hHeld => ?_); refine with_tabW impl_LapFault.tab1 impl_LapFault.bits1 (fun HT_ HW_ => ?_)
   generalize w12.drew = w13 at BK258 HB hHeld ⊢
   refine pp HT_ (N := some 3) 0 #[Y,N,N,N,N,N,N,N,N,N,N,N,N,N,N,N,N,N,N,N,N,N,N,N,N,N,N,N,N,N,N,N] ?_
   refine pp HT_ (N := some 6) 3 #[Y,N,N,Y,N,N,N,N,N,N,N,N,N,N,N,N,N,N,N,N,N,N,N,N,N,N,N,N,N,N,N,N] ?_
   refine pp HT_ (N := some 8) 5 #[Y,N,N,Y,N,Y,N,N,N,N,N,N,N,N,N,N,N,N,N,N,N,N,N,N,N,N,N,N,N,N,N,N] ?_
   refine pp HT_ (N := some 21) 18 #[Y,N,N,Y,N,Y,N,N,N,N,N,N,N,N,N,N,N,N,Y,N,N,N,N,N,N,N,N,N,N,N,N,N] ?_
   refine tt HT_ HW_ (N := some 4) 1 #[Y,Y,N,Y,N,Y,N,N,N,N,N,N,N,N,N,N,N,N,Y,N,N,N,N,N,N,N,N,N,N,N,N,N] hHeld ?_ (hy := by rintro w' ⟨s0, s1, s2⟩; go_simp; with_reducible rfl)
   refine tt HT_ HW_ (N := some 7) 4 #[Y,Y,N,Y,Y,Y,N,N,N,N,N,N,N,N,N,N,N,N,Y,N,N,N,N,N,N,N,N,N,N,N,N,N] hHeld ?_ (hy := by rintro w' ⟨s0, s1, s2⟩; go_simp; with_reducible rfl)
   refine tt HT_ HW_ (N := some 9) 6 #[Y,Y,N,Y,Y,Y,Y,N,N,N,N,N,N,N,N,N,N,N,Y,N,N,N,N,N,N,N,N,N,N,N,N,N] hHeld ?_ (hy := by rintro w' ⟨s0, s1, s2⟩; go_simp; with_reducible rfl)
   refine tt HT_ HW_ (N := some 22) 19 #[Y,Y,N,Y,Y,Y,Y,N,N,N,N,N,N,N,N,N,N,N,Y,Y,N,N,N,N,N,N,N,N,N,N,N,N] hHeld ?_ (hy := by rintro w' ⟨s0, s1, s2⟩; go_simp; with_reducible rfl)
   refine oo HT_ (N := some 5) 2 #[Y,Y,Y,Y,Y,Y,Y,N,N,N,N,N,N,N,N,N,N,N,Y,Y,N,N,N,N,N,N,N,N,N,N,N,N] (fun K hK => ?_)
   refine goes_ Try.func55 kr rfl #[.int .i64 a0_0] (by rfl) rfl rfl mq ?_
   with_reducible refine (impl_SizeFault.calls a0_0 t259 _ A2.out).mono ?_
   rintro e w' ⟨rfl, ⟨nd, rfl⟩⟩
   refine ⟨_, rfl, ?_⟩
   refine hK.out _ _ ⟨cc, cc, cc⟩ (fun hHeld => ?_)
   clear hK K
   refine nn ?_
   refine oo HT_ (N := some 10) 7 #[Y,Y,Y,Y,Y,Y,Y,Y,N,N,N,N,N,N,N,N,N,N,Y,Y,N,N,N,N,N,N,N,N,N,N,N,N] (fun K hK => ?_)
   refine goes_ Try.func95 kr rfl #[.slice A0_1 l0_1.length c0_1, .int .i64 a0_0] (by rfl) rfl rfl mq ?_
   with_reducible refine (impl_halfOf.calls _ _ l0_1 a0_0 true _ ?side1 ?side2 A3.out).mono ?_
   (case side1 => exact cq (cB HR0_1.out bq))
   (case side2 => exact HC0_1.out)
   rintro e w' ⟨rfl, ⟨nd, rfl⟩⟩
   refine ⟨_, rfl, ?_⟩
   refine hK.out _ _ ⟨cc, cc, cc⟩ (fun hHeld => ?_)
   clear hK K
   refine nn ?_
   refine pp HT_ (N := some 11) 8 #[Y,Y,Y,Y,Y,Y,Y,Y,Y,N,N,N,N,N,N,N,N,N,Y,Y,N,N,N,N,N,N,N,N,N,N,N,N] ?_
   refine pp HT_ (N := some 12) 9 #[Y,Y,Y,Y,Y,Y,Y,Y,Y,Y,N,N,N,N,N,N,N,N,Y,Y,N,N,N,N,N,N,N,N,N,N,N,N] ?_
   refine pp HT_ (N := some 13) 10 #[Y,Y,Y,Y,Y,Y,Y,Y,Y,Y,Y,N,N,N,N,N,N,N,Y,Y,N,N,N,N,N,N,N,N,N,N,N,N] ?_
   refine pp HT_ (N := some 15) 12 #[Y,Y,Y,Y,Y,Y,Y,Y,Y,Y,Y,N,Y,N,N,N,N,N,Y,Y,N,N,N,N,N,N,N,N,N,N,N,N] ?_
   refine tt HT_ HW_ (N := some 14) 11 #[Y,Y,Y,Y,Y,Y,Y,Y,Y,Y,Y,Y,Y,N,N,N,N,N,Y,Y,N,N,N,N,N,N,N,N,N,N,N,N] hHeld ?_ (hy := by rintro w' ⟨s0, s1, s2⟩; go_simp; with_reducible rfl)
   refine tt HT_ HW_ (N := some 16) 13 #[Y,Y,Y,Y,Y,Y,Y,Y,Y,Y,Y,Y,Y,Y,N,N,N,N,Y,Y,N,N,N,N,N,N,N,N,N,N,N,N] hHeld ?_ (hy := by rintro w' ⟨s0, s1, s2⟩; go_simp; with_reducible rfl)
   refine oo HT_ (N := some 17) 14 #[Y,Y,Y,Y,Y,Y,Y,Y,Y,Y,Y,Y,Y,Y,Y,N,N,N,Y,Y,N,N,N,N,N,N,N,N,N,N,N,N] (fun K hK => ?_)
   refine goes_ Try.func95 kr rfl #[.slice A0_2 l0_2.length c0_2, .int .i64 a0_0] (by rfl) rfl rfl mq ?_
   with_reducible refine (impl_halfOf.calls _ _ l0_2 a0_0 t261 _ ?side1 ?side2 A5.out).mono ?_
   (case side1 => exact cq (cB HR0_2.out bq))
   (case side2 => exact HC0_2.out)
   rintro e w' ⟨rfl, ⟨nd, rfl⟩⟩
   refine ⟨_, rfl, ?_⟩
   refine hK.out _ _ ⟨cc, cc, cc⟩ (fun hHeld => ?_)
   clear hK K
   refine nn ?_
   refine pp HT_ (N := some 18) 15 #[Y,Y,Y,Y,Y,Y,Y,Y,Y,Y,Y,Y,Y,Y,Y,Y,N,N,Y,Y,N,N,N,N,N,N,N,N,N,N,N,N] ?_
   refine pp HT_ (N := some 19) 16 #[Y,Y,Y,Y,Y,Y,Y,Y,Y,Y,Y,Y,Y,Y,Y,Y,Y,N,Y,Y,N,N,N,N,N,N,N,N,N,N,N,N] ?_
   refine oo HT_ (N := some 20) 17 #[Y,Y,Y,Y,Y,Y,Y,Y,Y,Y,Y,Y,Y,Y,Y,Y,Y,Y,Y,Y,N,N,N,N,N,N,N,N,N,N,N,N] (fun K hK => ?_)
   refine goes_ Try.func56 kr rfl #[.bool (!t261), .int .i64 2] (by rfl) rfl rfl mq ?_
   with_reducible refine (impl_codeIf.calls (!t261) 2 t262 _ A6.out).mono ?_
   rintro e w' ⟨rfl, ⟨nd, rfl⟩⟩
   refine ⟨_, rfl, ?_⟩
   refine hK.out _ _ ⟨cc, cc, cc⟩ (fun hHeld => ?_)
   clear hK K
   refine nn ?_
   refine oo HT_ (N := some 23) 20 #[Y,Y,Y,Y,Y,Y,Y,Y,Y,Y,Y,Y,Y,Y,Y,Y,Y,Y,Y,Y,Y,N,N,N,N,N,N,N,N,N,N,N] (fun K hK => ?_)
   refine goes_ Try.func87 kr rfl #[.slice A0_1 l0_1.length c0_1, .int .i64 65536] (by rfl) rfl rfl mq ?_
   with_reducible refine (impl_allWithin.calls _ _ l0_1 65536 true _ ?side1 ?side2 A7.out).mono ?_
   (case side1 => exact cq (cB HR0_1.out bq))
   (case side2 => exact HC0_1.out)
   rintro e w14 ⟨rfl, hb⟩
   refine ⟨_, rfl, ?_⟩
   replace BK258 := aM (kB (kq BK258.out) hb)
   replace HB := aM (bT bq hb)
   (try clear hb)
   (try clear hb2)
   (try clear hk)
   (try clear hi)
   refine hK.out _ _ ⟨cc, cc, cc⟩ (fun hHeld => ?_)
   clear hK K
   refine nn ?_
   refine pp HT_ (N := some 24) 21 #[Y,Y,Y,Y,Y,Y,Y,Y,Y,Y,Y,Y,Y,Y,Y,Y,Y,Y,Y,Y,Y,Y,N,N,N,N,N,N,N,N,N,N] ?_
   refine pp HT_ (N := some 25) 22 #[Y,Y,Y,Y,Y,Y,Y,Y,Y,Y,Y,Y,Y,Y,Y,Y,Y,Y,Y,Y,Y,Y,Y,N,N,N,N,N,N,N,N,N] ?_
   refine pp HT_ (N := some 26) 23 #[Y,Y,Y,Y,Y,Y,Y,Y,Y,Y,Y,Y,Y,Y,Y,Y,Y,Y,Y,Y,Y,Y,Y,Y,N,N,N,N,N,N,N,N] ?_
   refine tt HT_ HW_ (N := some 27) 24 #[Y,Y,Y,Y,Y,Y,Y,Y,Y,Y,Y,Y,Y,Y,Y,Y,Y,Y,Y,Y,Y,Y,Y,Y,Y,N,N,N,N,N,N,N] hHeld ?_ (hy := by rintro w' ⟨s0, s1, s2⟩; go_simp; with_reducible rfl)
   refine oo HT_ (N := some 28) 25 #[Y,Y,Y,Y,Y,Y,Y,Y,Y,Y,Y,Y,Y,Y,Y,Y,Y,Y,Y,Y,Y,Y,Y,Y,Y,Y,N,N,N,N,N,N] (fun K hK => ?_)
   refine goes_ Try.func96 kr rfl #[.slice A0_2 l0_2.length c0_2] (by rfl) rfl rfl mq ?_
   with_reducible refine (impl_areSamples.calls _ _ l0_2 t264 _ ?side1 ?side2 A9.out).mono ?_
   (case side1 => exact cq (cB HR0_2.out HB.out))
   (case side2 => exact HC0_2.out)
   rintro e w' ⟨rfl, ⟨nd, rfl⟩⟩
   refine ⟨_, rfl, ?_⟩
   refine hK.out _ _ ⟨cc, cc, cc⟩ (fun hHeld => ?_)
   clear hK K
   refine nn ?_
   refine pp HT_ (N := some 29) 26 #[Y,Y,Y,Y,Y,Y,Y,Y,Y,Y,Y,Y,Y,Y,Y,Y,Y,Y,Y,Y,Y,Y,Y,Y,Y,Y,Y,N,N,N,N,N] ?_
   refine pp HT_ (N := some 30) 27 #[Y,Y,Y,Y,Y,Y,Y,Y,Y,Y,Y,Y,Y,Y,Y,Y,Y,Y,Y,Y,Y,Y,Y,Y,Y,Y,Y,Y,N,N,N,N] ?_
   refine oo HT_ (N := some 31) 28 #[Y,Y,Y,Y,Y,Y,Y,Y,Y,Y,Y,Y,Y,Y,Y,Y,Y,Y,Y,Y,Y,Y,Y,Y,Y,Y,Y,Y,Y,N,N,N] (fun K hK => ?_)
   refine goes_ Try.func56 kr rfl #[.bool (!t264), .int .i64 3] (by rfl) rfl rfl mq ?_
   with_reducible refine (impl_codeIf.calls (!t264) 3 t265 _ A10.out).mono ?_
   rintro e w' ⟨rfl, ⟨nd, rfl⟩⟩
   refine ⟨_, rfl, ?_⟩
   refine hK.out _ _ ⟨cc, cc, cc⟩ (fun hHeld => ?_)
   clear hK K
   refine nn ?_
   refine oo HT_ (N := some 32) 29 #[Y,Y,Y,Y,Y,Y,Y,Y,Y,Y,Y,Y,Y,Y,Y,Y,Y,Y,Y,Y,Y,Y,Y,Y,Y,Y,Y,Y,Y,Y,N,N] (fun K hK => ?_)
   refine Kd.R_lit_step (Kd.int .i64) _ 2 ?hg (N := 32) ?hd (xs := ([t259, t262, t265] : List Int)) (inner := [.int .i64 t259, .int .i64 t262, .int .i64 t265]) (ok := fun _ => True) (okp := fun _ => True) ?hr ?hp (fun _ hk => hk) trivial (Below.refl _ _) (Nat.le_refl _) (by simp) ?_; (case hd => rfl); (case hg => rfl); (case hr => first | (go_simp; done) | (go_simp; rfl)); (case hp => exact (Reps.one (show Kd.M (Kd.int .i64) _ _ _ t259 [.int .i64 t259] from rfl) (Reps.one (show Kd.M (Kd.int .i64) _ _ _ t262 [.int .i64 t262] from rfl) (Reps.one (show Kd.M (Kd.int .i64) _ _ _ t265 [.int .i64 t265] from rfl) (Reps.none _ _)))))
   intro v267 w15 ho16 hb hg_ hnew_
   clear hg_ hnew_
   (first | rw [← Ny266.out] at ho16 | (simp only [Int.reduceToNat] at ho16; rw [← Ny266.out] at ho16))
   have HO268 := aM (rG ho16 (bZ bq))
   replace BK258 := aM (kB (kq BK258.out) hb)
   replace HB := aM (bT bq hb)
   clear hb ho16
   obtain ⟨Ao17, co17, eo17⟩ := Kd.R_slice HO268.out
   (first | subst eo17 | (injection eo17 with f1_ f2_ f3_; have f4_ := f1_.symm; have f5_ := f3_.symm; clear f1_ f2_ f3_; subst f4_; subst f5_))
   refine hK.out _ _ ⟨cc, cc, cc⟩ (fun hHeld => ?_)
   clear hK K
   refine nn ?_
   refine oo HT_ (N := some 33) 30 #[Y,Y,Y,Y,Y,Y,Y,Y,Y,Y,Y,Y,Y,Y,Y,Y,Y,Y,Y,Y,Y,Y,Y,Y,Y,Y,Y,Y,Y,Y,Y,N] (fun K hK => ?_)
   refine goes_ Try.func54 kr rfl #[.slice Ao17 y266.length co17] (by rfl) rfl rfl mq ?_
   with_reducible refine (impl_first.calls k _ _ y266 t269 _ ?side1 ?side2 A11.out).mono ?_
   (case side1 => exact cq (rR HO268.out).2.2)
   (case side2 => exact (rR HO268.out).2.1)
   rintro e w' ⟨rfl, ⟨nd, rfl⟩⟩
   refine ⟨_, rfl, ?_⟩
   refine hK.out _ _ ⟨cc, cc, cc⟩ (fun hHeld => ?_)
   clear hK K
   refine nn ?_
   refine pp HT_ (N := some 2) 31 #[Y,Y,Y,Y,Y,Y,Y,Y,Y,Y,Y,Y,Y,Y,Y,Y,Y,Y,Y,Y,Y,Y,Y,Y,Y,Y,Y,Y,Y,Y,Y,Y] ?_
   refine done_ (done_of HT_.out kr) ?_
   try go_wp2
   go_ret
   exact ⟨ew, bq⟩
  ·replace c8 := Bool.eq_false_iff.mpr c8
   subst c8
   have H1 : ((impl_codeIf.f true 3).bind fun t270 => ((impl_first.f k (([t259, t262, t270] : List Int))).bind fun t274 => (some t274))) = some r := by rw [if_neg (show ¬ (false = true) by decide)] at H; exact H
   clear H
   have H := H1
   clear H1
   replace H := bo H
   obtain ⟨t270, A18, H⟩ := H
   replace H := bz H
   obtain ⟨y271, hy271⟩ : ∃ y_ : List Int, y_ = (([t259, t262, t270] : List Int)) := ⟨_, rfl⟩
   replace H : ((impl_first.f k y271).bind fun t274 => (some t274)) = some r := hl hy271 H
   have Ny271 := aM hy271
   clear hy271
   replace H := bo H
   obtain ⟨t274, A19, H⟩ := H
   replace H : (some t274) = some r := H
   obtain rfl := Option.some.inj H
   go_enter Try.func43, Try.ntmps43
   try go_wp2_with (first | ((with_reducible refine gate_dst (N := 1) rfl ?_); refine box_event ?hg (N := 1) ?hd (cs := #[.int .i64 a0_0, .slice A0_1 l0_1.length c0_1, .slice A0_2 l0_2.length c0_2]) (t := 48) ?hr ?_; (case hd => rfl); (case hg => rfl); (case hr => first | (go_simp; done) | (go_simp; rfl)); intro gb258 hg w20 hbox hb; have BK258 := aM (hbox); have GW258 := aM ((by rw [hg]; exact (bZ bq) : w.heap.size ≤ gb258)); have GE258 := aM ((by rw [hg]; exact (bZ bq) : w.heap.size ≤ gb258)); replace HB := aM (bT bq hb); clear hb hbox hg))
   replace BK258 := aM (kD BK258.out)
   replace HB := aM (bD HB.out)
   refine start_ (n := 32) (S := fun w' => w'.cell? ⟨gb258, 0, none⟩ = some (.int .i64 a0_0) ∧ w'.cell? ⟨gb258, 1, none⟩ = some (.slice A0_1 l0_1.length c0_1) ∧ w'.cell? ⟨gb258, 2, none⟩ = some (.slice A0_2 l0_2.length c0_2)) (ds := []) #[N,N,N,N,N,N,N,N,N,N,N,N,N,N,N,N,N,N,N,N,N,N,N,N,N,N,N,N,N,N,N,N] kr rfl rfl ⟨cc, cc, cc⟩ (fun hHeld => ?_); refine with_tabW impl_LapFault.tab1 impl_LapFault.bits1 (fun HT_ HW_ => ?_)
   generalize w20.drew = w21 at BK258 HB hHeld ⊢
   refine pp HT_ (N := some 3) 0 #[Y,N,N,N,N,N,N,N,N,N,N,N,N,N,N,N,N,N,N,N,N,N,N,N,N,N,N,N,N,N,N,N] ?_
   refine pp HT_ (N := some 6) 3 #[Y,N,N,Y,N,N,N,N,N,N,N,N,N,N,N,N,N,N,N,N,N,N,N,N,N,N,N,N,N,N,N,N] ?_
   refine pp HT_ (N := some 8) 5 #[Y,N,N,Y,N,Y,N,N,N,N,N,N,N,N,N,N,N,N,N,N,N,N,N,N,N,N,N,N,N,N,N,N] ?_
   refine pp HT_ (N := some 21) 18 #[Y,N,N,Y,N,Y,N,N,N,N,N,N,N,N,N,N,N,N,Y,N,N,N,N,N,N,N,N,N,N,N,N,N] ?_
   refine tt HT_ HW_ (N := some 4) 1 #[Y,Y,N,Y,N,Y,N,N,N,N,N,N,N,N,N,N,N,N,Y,N,N,N,N,N,N,N,N,N,N,N,N,N] hHeld ?_ (hy := by rintro w' ⟨s0, s1, s2⟩; go_simp; with_reducible rfl)
   refine tt HT_ HW_ (N := some 7) 4 #[Y,Y,N,Y,Y,Y,N,N,N,N,N,N,N,N,N,N,N,N,Y,N,N,N,N,N,N,N,N,N,N,N,N,N] hHeld ?_ (hy := by rintro w' ⟨s0, s1, s2⟩; go_simp; with_reducible rfl)
   refine tt HT_ HW_ (N := some 9) 6 #[Y,Y,N,Y,Y,Y,Y,N,N,N,N,N,N,N,N,N,N,N,Y,N,N,N,N,N,N,N,N,N,N,N,N,N] hHeld ?_ (hy := by rintro w' ⟨s0, s1, s2⟩; go_simp; with_reducible rfl)
   refine tt HT_ HW_ (N := some 22) 19 #[Y,Y,N,Y,Y,Y,Y,N,N,N,N,N,N,N,N,N,N,N,Y,Y,N,N,N,N,N,N,N,N,N,N,N,N] hHeld ?_ (hy := by rintro w' ⟨s0, s1, s2⟩; go_simp; with_reducible rfl)
   refine oo HT_ (N := some 5) 2 #[Y,Y,Y,Y,Y,Y,Y,N,N,N,N,N,N,N,N,N,N,N,Y,Y,N,N,N,N,N,N,N,N,N,N,N,N] (fun K hK => ?_)
   refine goes_ Try.func55 kr rfl #[.int .i64 a0_0] (by rfl) rfl rfl mq ?_
   with_reducible refine (impl_SizeFault.calls a0_0 t259 _ A2.out).mono ?_
   rintro e w' ⟨rfl, ⟨nd, rfl⟩⟩
   refine ⟨_, rfl, ?_⟩
   refine hK.out _ _ ⟨cc, cc, cc⟩ (fun hHeld => ?_)
   clear hK K
   refine nn ?_
   refine oo HT_ (N := some 10) 7 #[Y,Y,Y,Y,Y,Y,Y,Y,N,N,N,N,N,N,N,N,N,N,Y,Y,N,N,N,N,N,N,N,N,N,N,N,N] (fun K hK => ?_)
   refine goes_ Try.func95 kr rfl #[.slice A0_1 l0_1.length c0_1, .int .i64 a0_0] (by rfl) rfl rfl mq ?_
   with_reducible refine (impl_halfOf.calls _ _ l0_1 a0_0 true _ ?side1 ?side2 A3.out).mono ?_
   (case side1 => exact cq (cB HR0_1.out bq))
   (case side2 => exact HC0_1.out)
   rintro e w' ⟨rfl, ⟨nd, rfl⟩⟩
   refine ⟨_, rfl, ?_⟩
   refine hK.out _ _ ⟨cc, cc, cc⟩ (fun hHeld => ?_)
   clear hK K
   refine nn ?_
   refine pp HT_ (N := some 11) 8 #[Y,Y,Y,Y,Y,Y,Y,Y,Y,N,N,N,N,N,N,N,N,N,Y,Y,N,N,N,N,N,N,N,N,N,N,N,N] ?_
   refine pp HT_ (N := some 12) 9 #[Y,Y,Y,Y,Y,Y,Y,Y,Y,Y,N,N,N,N,N,N,N,N,Y,Y,N,N,N,N,N,N,N,N,N,N,N,N] ?_
   refine pp HT_ (N := some 13) 10 #[Y,Y,Y,Y,Y,Y,Y,Y,Y,Y,Y,N,N,N,N,N,N,N,Y,Y,N,N,N,N,N,N,N,N,N,N,N,N] ?_
   refine pp HT_ (N := some 15) 12 #[Y,Y,Y,Y,Y,Y,Y,Y,Y,Y,Y,N,Y,N,N,N,N,N,Y,Y,N,N,N,N,N,N,N,N,N,N,N,N] ?_
   refine tt HT_ HW_ (N := some 14) 11 #[Y,Y,Y,Y,Y,Y,Y,Y,Y,Y,Y,Y,Y,N,N,N,N,N,Y,Y,N,N,N,N,N,N,N,N,N,N,N,N] hHeld ?_ (hy := by rintro w' ⟨s0, s1, s2⟩; go_simp; with_reducible rfl)
   refine tt HT_ HW_ (N := some 16) 13 #[Y,Y,Y,Y,Y,Y,Y,Y,Y,Y,Y,Y,Y,Y,N,N,N,N,Y,Y,N,N,N,N,N,N,N,N,N,N,N,N] hHeld ?_ (hy := by rintro w' ⟨s0, s1, s2⟩; go_simp; with_reducible rfl)
   refine oo HT_ (N := some 17) 14 #[Y,Y,Y,Y,Y,Y,Y,Y,Y,Y,Y,Y,Y,Y,Y,N,N,N,Y,Y,N,N,N,N,N,N,N,N,N,N,N,N] (fun K hK => ?_)
   refine goes_ Try.func95 kr rfl #[.slice A0_2 l0_2.length c0_2, .int .i64 a0_0] (by rfl) rfl rfl mq ?_
   with_reducible refine (impl_halfOf.calls _ _ l0_2 a0_0 t261 _ ?side1 ?side2 A5.out).mono ?_
   (case side1 => exact cq (cB HR0_2.out bq))
   (case side2 => exact HC0_2.out)
   rintro e w' ⟨rfl, ⟨nd, rfl⟩⟩
   refine ⟨_, rfl, ?_⟩
   refine hK.out _ _ ⟨cc, cc, cc⟩ (fun hHeld => ?_)
   clear hK K
   refine nn ?_
   refine pp HT_ (N := some 18) 15 #[Y,Y,Y,Y,Y,Y,Y,Y,Y,Y,Y,Y,Y,Y,Y,Y,N,N,Y,Y,N,N,N,N,N,N,N,N,N,N,N,N] ?_
   refine pp HT_ (N := some 19) 16 #[Y,Y,Y,Y,Y,Y,Y,Y,Y,Y,Y,Y,Y,Y,Y,Y,Y,N,Y,Y,N,N,N,N,N,N,N,N,N,N,N,N] ?_
   refine oo HT_ (N := some 20) 17 #[Y,Y,Y,Y,Y,Y,Y,Y,Y,Y,Y,Y,Y,Y,Y,Y,Y,Y,Y,Y,N,N,N,N,N,N,N,N,N,N,N,N] (fun K hK => ?_)
   refine goes_ Try.func56 kr rfl #[.bool (!t261), .int .i64 2] (by rfl) rfl rfl mq ?_
   with_reducible refine (impl_codeIf.calls (!t261) 2 t262 _ A6.out).mono ?_
   rintro e w' ⟨rfl, ⟨nd, rfl⟩⟩
   refine ⟨_, rfl, ?_⟩
   refine hK.out _ _ ⟨cc, cc, cc⟩ (fun hHeld => ?_)
   clear hK K
   refine nn ?_
   refine oo HT_ (N := some 23) 20 #[Y,Y,Y,Y,Y,Y,Y,Y,Y,Y,Y,Y,Y,Y,Y,Y,Y,Y,Y,Y,Y,N,N,N,N,N,N,N,N,N,N,N] (fun K hK => ?_)
   refine goes_ Try.func87 kr rfl #[.slice A0_1 l0_1.length c0_1, .int .i64 65536] (by rfl) rfl rfl mq ?_
   with_reducible refine (impl_allWithin.calls _ _ l0_1 65536 false _ ?side1 ?side2 A7.out).mono ?_
   (case side1 => exact cq (cB HR0_1.out bq))
   (case side2 => exact HC0_1.out)
   rintro e w22 ⟨rfl, hb⟩
   refine ⟨_, rfl, ?_⟩
   replace BK258 := aM (kB (kq BK258.out) hb)
   replace HB := aM (bT bq hb)
   (try clear hb)
   (try clear hb2)
   (try clear hk)
   (try clear hi)
   refine hK.out _ _ ⟨cc, cc, cc⟩ (fun hHeld => ?_)
   clear hK K
   refine nn ?_
   refine pp HT_ (N := some 24) 21 #[Y,Y,Y,Y,Y,Y,Y,Y,Y,Y,Y,Y,Y,Y,Y,Y,Y,Y,Y,Y,Y,Y,N,N,N,N,N,N,N,N,N,N] ?_
   refine pp HT_ (N := some 25) 22 #[Y,Y,Y,Y,Y,Y,Y,Y,Y,Y,Y,Y,Y,Y,Y,Y,Y,Y,Y,Y,Y,Y,Y,N,N,N,N,N,N,N,N,N] ?_
   refine pp HT_ (N := some 26) (v := undef) 23 #[Y,Y,Y,Y,Y,Y,Y,Y,Y,Y,Y,Y,Y,Y,Y,Y,Y,Y,Y,Y,Y,Y,Y,Y,N,N,N,N,N,N,N,N] ?_ (hy := Or.inr ⟨by rfl, rfl⟩)
   refine pp HT_ (N := some 27) (v := undef) 24 #[Y,Y,Y,Y,Y,Y,Y,Y,Y,Y,Y,Y,Y,Y,Y,Y,Y,Y,Y,Y,Y,Y,Y,Y,Y,N,N,N,N,N,N,N] ?_ (hy := Or.inr ⟨by rfl, rfl⟩)
   refine pp HT_ (N := some 28) (v := undef) 25 #[Y,Y,Y,Y,Y,Y,Y,Y,Y,Y,Y,Y,Y,Y,Y,Y,Y,Y,Y,Y,Y,Y,Y,Y,Y,Y,N,N,N,N,N,N] ?_ (hy := Or.inr ⟨by rfl, rfl⟩)
   refine pp HT_ (N := some 29) (v := undef) 26 #[Y,Y,Y,Y,Y,Y,Y,Y,Y,Y,Y,Y,Y,Y,Y,Y,Y,Y,Y,Y,Y,Y,Y,Y,Y,Y,Y,N,N,N,N,N] ?_ (hy := Or.inr ⟨by rfl, rfl⟩)
   refine pp HT_ (N := some 30) 27 #[Y,Y,Y,Y,Y,Y,Y,Y,Y,Y,Y,Y,Y,Y,Y,Y,Y,Y,Y,Y,Y,Y,Y,Y,Y,Y,Y,Y,N,N,N,N] ?_
   refine oo HT_ (N := some 31) 28 #[Y,Y,Y,Y,Y,Y,Y,Y,Y,Y,Y,Y,Y,Y,Y,Y,Y,Y,Y,Y,Y,Y,Y,Y,Y,Y,Y,Y,Y,N,N,N] (fun K hK => ?_)
   refine goes_ Try.func56 kr rfl #[.bool true, .int .i64 3] (by rfl) rfl rfl mq ?_
   with_reducible refine (impl_codeIf.calls true 3 t270 _ A18.out).mono ?_
   rintro e w' ⟨rfl, ⟨nd, rfl⟩⟩
   refine ⟨_, rfl, ?_⟩
   refine hK.out _ _ ⟨cc, cc, cc⟩ (fun hHeld => ?_)
   clear hK K
   refine nn ?_
   refine oo HT_ (N := some 32) 29 #[Y,Y,Y,Y,Y,Y,Y,Y,Y,Y,Y,Y,Y,Y,Y,Y,Y,Y,Y,Y,Y,Y,Y,Y,Y,Y,Y,Y,Y,Y,N,N] (fun K hK => ?_)
   refine Kd.R_lit_step (Kd.int .i64) _ 2 ?hg (N := 32) ?hd (xs := ([t259, t262, t270] : List Int)) (inner := [.int .i64 t259, .int .i64 t262, .int .i64 t270]) (ok := fun _ => True) (okp := fun _ => True) ?hr ?hp (fun _ hk => hk) trivial (Below.refl _ _) (Nat.le_refl _) (by simp) ?_; (case hd => rfl); (case hg => rfl); (case hr => first | (go_simp; done) | (go_simp; rfl)); (case hp => exact (Reps.one (show Kd.M (Kd.int .i64) _ _ _ t259 [.int .i64 t259] from rfl) (Reps.one (show Kd.M (Kd.int .i64) _ _ _ t262 [.int .i64 t262] from rfl) (Reps.one (show Kd.M (Kd.int .i64) _ _ _ t270 [.int .i64 t270] from rfl) (Reps.none _ _)))))
   intro v272 w23 ho24 hb hg_ hnew_
   clear hg_ hnew_
   (first | rw [← Ny271.out] at ho24 | (simp only [Int.reduceToNat] at ho24; rw [← Ny271.out] at ho24))
   have HO273 := aM (rG ho24 (bZ bq))
   replace BK258 := aM (kB (kq BK258.out) hb)
   replace HB := aM (bT bq hb)
   clear hb ho24
   obtain ⟨Ao25, co25, eo25⟩ := Kd.R_slice HO273.out
   (first | subst eo25 | (injection eo25 with f1_ f2_ f3_; have f4_ := f1_.symm; have f5_ := f3_.symm; clear f1_ f2_ f3_; subst f4_; subst f5_))
   refine hK.out _ _ ⟨cc, cc, cc⟩ (fun hHeld => ?_)
   clear hK K
   refine nn ?_
   refine oo HT_ (N := some 33) 30 #[Y,Y,Y,Y,Y,Y,Y,Y,Y,Y,Y,Y,Y,Y,Y,Y,Y,Y,Y,Y,Y,Y,Y,Y,Y,Y,Y,Y,Y,Y,Y,N] (fun K hK => ?_)
   refine goes_ Try.func54 kr rfl #[.slice Ao25 y271.length co25] (by rfl) rfl rfl mq ?_
   with_reducible refine (impl_first.calls k _ _ y271 t274 _ ?side1 ?side2 A19.out).mono ?_
   (case side1 => exact cq (rR HO273.out).2.2)
   (case side2 => exact (rR HO273.out).2.1)
   rintro e w' ⟨rfl, ⟨nd, rfl⟩⟩
   refine ⟨_, rfl, ?_⟩
   refine hK.out _ _ ⟨cc, cc, cc⟩ (fun hHeld => ?_)
   clear hK K
   refine nn ?_
   refine pp HT_ (N := some 2) 31 #[Y,Y,Y,Y,Y,Y,Y,Y,Y,Y,Y,Y,Y,Y,Y,Y,Y,Y,Y,Y,Y,Y,Y,Y,Y,Y,Y,Y,Y,Y,Y,Y] ?_
   refine done_ (done_of HT_.out kr) ?_
   try go_wp2
   go_ret
   exact ⟨ew, bq⟩
 ·replace c4 := Bool.eq_false_iff.mpr c4
  subst c4
  have H1 : ((impl_codeIf.f true 2).bind fun t275 => ((impl_allWithin.f l0_1 65536).bind fun t276 => (if t276 = true then ((impl_areSamples.f l0_2).bind fun t277 => ((impl_codeIf.f (!t277) 3).bind fun t278 => ((impl_first.f k (([t259, t275, t278] : List Int))).bind fun t282 => (some t282)))) else ((impl_codeIf.f true 3).bind fun t283 => ((impl_first.f k (([t259, t275, t283] : List Int))).bind fun t287 => (some t287)))))) = some r := by rw [if_neg (show ¬ (false = true) by decide)] at H; exact H
  clear H
  have H := H1
  clear H1
  replace H := bo H
  obtain ⟨t275, A26, H⟩ := H
  replace H := bz H
  replace H := bo H
  obtain ⟨t276, A27, H⟩ := H
  replace H := bz H
  by_cases c28 : t276 = true
  ·subst c28
   have H1 : ((impl_areSamples.f l0_2).bind fun t277 => ((impl_codeIf.f (!t277) 3).bind fun t278 => ((impl_first.f k (([t259, t275, t278] : List Int))).bind fun t282 => (some t282)))) = some r := by rw [if_pos rfl] at H; exact H
   clear H
   have H := H1
   clear H1
   replace H := bo H
   obtain ⟨t277, A29, H⟩ := H
   replace H := bz H
   replace H := bo H
   obtain ⟨t278, A30, H⟩ := H
   replace H := bz H
   obtain ⟨y279, hy279⟩ : ∃ y_ : List Int, y_ = (([t259, t275, t278] : List Int)) := ⟨_, rfl⟩
   replace H : ((impl_first.f k y279).bind fun t282 => (some t282)) = some r := hl hy279 H
   have Ny279 := aM hy279
   clear hy279
   replace H := bo H
   obtain ⟨t282, A31, H⟩ := H
   replace H : (some t282) = some r := H
   obtain rfl := Option.some.inj H
   go_enter Try.func43, Try.ntmps43
   try go_wp2_with (first | ((with_reducible refine gate_dst (N := 1) rfl ?_); refine box_event ?hg (N := 1) ?hd (cs := #[.int .i64 a0_0, .slice A0_1 l0_1.length c0_1, .slice A0_2 l0_2.length c0_2]) (t := 48) ?hr ?_; (case hd => rfl); (case hg => rfl); (case hr => first | (go_simp; done) | (go_simp; rfl)); intro gb258 hg w32 hbox hb; have BK258 := aM (hbox); have GW258 := aM ((by rw [hg]; exact (bZ bq) : w.heap.size ≤ gb258)); have GE258 := aM ((by rw [hg]; exact (bZ bq) : w.heap.size ≤ gb258)); replace HB := aM (bT bq hb); clear hb hbox hg))
   replace BK258 := aM (kD BK258.out)
   replace HB := aM (bD HB.out)
   refine start_ (n := 32) (S := fun w' => w'.cell? ⟨gb258, 0, none⟩ = some (.int .i64 a0_0) ∧ w'.cell? ⟨gb258, 1, none⟩ = some (.slice A0_1 l0_1.length c0_1) ∧ w'.cell? ⟨gb258, 2, none⟩ = some (.slice A0_2 l0_2.length c0_2)) (ds := []) #[N,N,N,N,N,N,N,N,N,N,N,N,N,N,N,N,N,N,N,N,N,N,N,N,N,N,N,N,N,N,N,N] kr rfl rfl ⟨cc, cc, cc⟩ (fun hHeld => ?_); refine with_tabW impl_LapFault.tab1 impl_LapFault.bits1 (fun HT_ HW_ => ?_)
   generalize w32.drew = w33 at BK258 HB hHeld ⊢
   refine pp HT_ (N := some 3) 0 #[Y,N,N,N,N,N,N,N,N,N,N,N,N,N,N,N,N,N,N,N,N,N,N,N,N,N,N,N,N,N,N,N] ?_
   refine pp HT_ (N := some 6) 3 #[Y,N,N,Y,N,N,N,N,N,N,N,N,N,N,N,N,N,N,N,N,N,N,N,N,N,N,N,N,N,N,N,N] ?_
   refine pp HT_ (N := some 8) 5 #[Y,N,N,Y,N,Y,N,N,N,N,N,N,N,N,N,N,N,N,N,N,N,N,N,N,N,N,N,N,N,N,N,N] ?_
   refine pp HT_ (N := some 21) 18 #[Y,N,N,Y,N,Y,N,N,N,N,N,N,N,N,N,N,N,N,Y,N,N,N,N,N,N,N,N,N,N,N,N,N] ?_
   refine tt HT_ HW_ (N := some 4) 1 #[Y,Y,N,Y,N,Y,N,N,N,N,N,N,N,N,N,N,N,N,Y,N,N,N,N,N,N,N,N,N,N,N,N,N] hHeld ?_ (hy := by rintro w' ⟨s0, s1, s2⟩; go_simp; with_reducible rfl)
   refine tt HT_ HW_ (N := some 7) 4 #[Y,Y,N,Y,Y,Y,N,N,N,N,N,N,N,N,N,N,N,N,Y,N,N,N,N,N,N,N,N,N,N,N,N,N] hHeld ?_ (hy := by rintro w' ⟨s0, s1, s2⟩; go_simp; with_reducible rfl)
   refine tt HT_ HW_ (N := some 9) 6 #[Y,Y,N,Y,Y,Y,Y,N,N,N,N,N,N,N,N,N,N,N,Y,N,N,N,N,N,N,N,N,N,N,N,N,N] hHeld ?_ (hy := by rintro w' ⟨s0, s1, s2⟩; go_simp; with_reducible rfl)
   refine tt HT_ HW_ (N := some 22) 19 #[Y,Y,N,Y,Y,Y,Y,N,N,N,N,N,N,N,N,N,N,N,Y,Y,N,N,N,N,N,N,N,N,N,N,N,N] hHeld ?_ (hy := by rintro w' ⟨s0, s1, s2⟩; go_simp; with_reducible rfl)
   refine oo HT_ (N := some 5) 2 #[Y,Y,Y,Y,Y,Y,Y,N,N,N,N,N,N,N,N,N,N,N,Y,Y,N,N,N,N,N,N,N,N,N,N,N,N] (fun K hK => ?_)
   refine goes_ Try.func55 kr rfl #[.int .i64 a0_0] (by rfl) rfl rfl mq ?_
   with_reducible refine (impl_SizeFault.calls a0_0 t259 _ A2.out).mono ?_
   rintro e w' ⟨rfl, ⟨nd, rfl⟩⟩
   refine ⟨_, rfl, ?_⟩
   refine hK.out _ _ ⟨cc, cc, cc⟩ (fun hHeld => ?_)
   clear hK K
   refine nn ?_
   refine oo HT_ (N := some 10) 7 #[Y,Y,Y,Y,Y,Y,Y,Y,N,N,N,N,N,N,N,N,N,N,Y,Y,N,N,N,N,N,N,N,N,N,N,N,N] (fun K hK => ?_)
   refine goes_ Try.func95 kr rfl #[.slice A0_1 l0_1.length c0_1, .int .i64 a0_0] (by rfl) rfl rfl mq ?_
   with_reducible refine (impl_halfOf.calls _ _ l0_1 a0_0 false _ ?side1 ?side2 A3.out).mono ?_
   (case side1 => exact cq (cB HR0_1.out bq))
   (case side2 => exact HC0_1.out)
   rintro e w' ⟨rfl, ⟨nd, rfl⟩⟩
   refine ⟨_, rfl, ?_⟩
   refine hK.out _ _ ⟨cc, cc, cc⟩ (fun hHeld => ?_)
   clear hK K
   refine nn ?_
   refine pp HT_ (N := some 11) 8 #[Y,Y,Y,Y,Y,Y,Y,Y,Y,N,N,N,N,N,N,N,N,N,Y,Y,N,N,N,N,N,N,N,N,N,N,N,N] ?_
   refine pp HT_ (N := some 12) 9 #[Y,Y,Y,Y,Y,Y,Y,Y,Y,Y,N,N,N,N,N,N,N,N,Y,Y,N,N,N,N,N,N,N,N,N,N,N,N] ?_
   refine pp HT_ (N := some 13) (v := undef) 10 #[Y,Y,Y,Y,Y,Y,Y,Y,Y,Y,Y,N,N,N,N,N,N,N,Y,Y,N,N,N,N,N,N,N,N,N,N,N,N] ?_ (hy := Or.inr ⟨by rfl, rfl⟩)
   refine pp HT_ (N := some 14) (v := undef) 11 #[Y,Y,Y,Y,Y,Y,Y,Y,Y,Y,Y,Y,N,N,N,N,N,N,Y,Y,N,N,N,N,N,N,N,N,N,N,N,N] ?_ (hy := Or.inr ⟨by rfl, rfl⟩)
   refine pp HT_ (N := some 15) (v := undef) 12 #[Y,Y,Y,Y,Y,Y,Y,Y,Y,Y,Y,Y,Y,N,N,N,N,N,Y,Y,N,N,N,N,N,N,N,N,N,N,N,N] ?_ (hy := Or.inr ⟨by rfl, rfl⟩)
   refine pp HT_ (N := some 16) (v := undef) 13 #[Y,Y,Y,Y,Y,Y,Y,Y,Y,Y,Y,Y,Y,Y,N,N,N,N,Y,Y,N,N,N,N,N,N,N,N,N,N,N,N] ?_ (hy := Or.inr ⟨by rfl, rfl⟩)
   refine pp HT_ (N := some 17) (v := undef) 14 #[Y,Y,Y,Y,Y,Y,Y,Y,Y,Y,Y,Y,Y,Y,Y,N,N,N,Y,Y,N,N,N,N,N,N,N,N,N,N,N,N] ?_ (hy := Or.inr ⟨by rfl, rfl⟩)
   refine pp HT_ (N := some 18) (v := undef) 15 #[Y,Y,Y,Y,Y,Y,Y,Y,Y,Y,Y,Y,Y,Y,Y,Y,N,N,Y,Y,N,N,N,N,N,N,N,N,N,N,N,N] ?_ (hy := Or.inr ⟨by rfl, rfl⟩)
   refine pp HT_ (N := some 19) 16 #[Y,Y,Y,Y,Y,Y,Y,Y,Y,Y,Y,Y,Y,Y,Y,Y,Y,N,Y,Y,N,N,N,N,N,N,N,N,N,N,N,N] ?_
   refine oo HT_ (N := some 20) 17 #[Y,Y,Y,Y,Y,Y,Y,Y,Y,Y,Y,Y,Y,Y,Y,Y,Y,Y,Y,Y,N,N,N,N,N,N,N,N,N,N,N,N] (fun K hK => ?_)
   refine goes_ Try.func56 kr rfl #[.bool true, .int .i64 2] (by rfl) rfl rfl mq ?_
   with_reducible refine (impl_codeIf.calls true 2 t275 _ A26.out).mono ?_
   rintro e w' ⟨rfl, ⟨nd, rfl⟩⟩
   refine ⟨_, rfl, ?_⟩
   refine hK.out _ _ ⟨cc, cc, cc⟩ (fun hHeld => ?_)
   clear hK K
   refine nn ?_
   refine oo HT_ (N := some 23) 20 #[Y,Y,Y,Y,Y,Y,Y,Y,Y,Y,Y,Y,Y,Y,Y,Y,Y,Y,Y,Y,Y,N,N,N,N,N,N,N,N,N,N,N] (fun K hK => ?_)
   refine goes_ Try.func87 kr rfl #[.slice A0_1 l0_1.length c0_1, .int .i64 65536] (by rfl) rfl rfl mq ?_
   with_reducible refine (impl_allWithin.calls _ _ l0_1 65536 true _ ?side1 ?side2 A27.out).mono ?_
   (case side1 => exact cq (cB HR0_1.out bq))
   (case side2 => exact HC0_1.out)
   rintro e w34 ⟨rfl, hb⟩
   refine ⟨_, rfl, ?_⟩
   replace BK258 := aM (kB (kq BK258.out) hb)
   replace HB := aM (bT bq hb)
   (try clear hb)
   (try clear hb2)
   (try clear hk)
   (try clear hi)
   refine hK.out _ _ ⟨cc, cc, cc⟩ (fun hHeld => ?_)
   clear hK K
   refine nn ?_
   refine pp HT_ (N := some 24) 21 #[Y,Y,Y,Y,Y,Y,Y,Y,Y,Y,Y,Y,Y,Y,Y,Y,Y,Y,Y,Y,Y,Y,N,N,N,N,N,N,N,N,N,N] ?_
   refine pp HT_ (N := some 25) 22 #[Y,Y,Y,Y,Y,Y,Y,Y,Y,Y,Y,Y,Y,Y,Y,Y,Y,Y,Y,Y,Y,Y,Y,N,N,N,N,N,N,N,N,N] ?_
   refine pp HT_ (N := some 26) 23 #[Y,Y,Y,Y,Y,Y,Y,Y,Y,Y,Y,Y,Y,Y,Y,Y,Y,Y,Y,Y,Y,Y,Y,Y,N,N,N,N,N,N,N,N] ?_
   refine tt HT_ HW_ (N := some 27) 24 #[Y,Y,Y,Y,Y,Y,Y,Y,Y,Y,Y,Y,Y,Y,Y,Y,Y,Y,Y,Y,Y,Y,Y,Y,Y,N,N,N,N,N,N,N] hHeld ?_ (hy := by rintro w' ⟨s0, s1, s2⟩; go_simp; with_reducible rfl)
   refine oo HT_ (N := some 28) 25 #[Y,Y,Y,Y,Y,Y,Y,Y,Y,Y,Y,Y,Y,Y,Y,Y,Y,Y,Y,Y,Y,Y,Y,Y,Y,Y,N,N,N,N,N,N] (fun K hK => ?_)
   refine goes_ Try.func96 kr rfl #[.slice A0_2 l0_2.length c0_2] (by rfl) rfl rfl mq ?_
   with_reducible refine (impl_areSamples.calls _ _ l0_2 t277 _ ?side1 ?side2 A29.out).mono ?_
   (case side1 => exact cq (cB HR0_2.out HB.out))
   (case side2 => exact HC0_2.out)
   rintro e w' ⟨rfl, ⟨nd, rfl⟩⟩
   refine ⟨_, rfl, ?_⟩
   refine hK.out _ _ ⟨cc, cc, cc⟩ (fun hHeld => ?_)
   clear hK K
   refine nn ?_
   refine pp HT_ (N := some 29) 26 #[Y,Y,Y,Y,Y,Y,Y,Y,Y,Y,Y,Y,Y,Y,Y,Y,Y,Y,Y,Y,Y,Y,Y,Y,Y,Y,Y,N,N,N,N,N] ?_
   refine pp HT_ (N := some 30) 27 #[Y,Y,Y,Y,Y,Y,Y,Y,Y,Y,Y,Y,Y,Y,Y,Y,Y,Y,Y,Y,Y,Y,Y,Y,Y,Y,Y,Y,N,N,N,N] ?_
   refine oo HT_ (N := some 31) 28 #[Y,Y,Y,Y,Y,Y,Y,Y,Y,Y,Y,Y,Y,Y,Y,Y,Y,Y,Y,Y,Y,Y,Y,Y,Y,Y,Y,Y,Y,N,N,N] (fun K hK => ?_)
   refine goes_ Try.func56 kr rfl #[.bool (!t277), .int .i64 3] (by rfl) rfl rfl mq ?_
   with_reducible refine (impl_codeIf.calls (!t277) 3 t278 _ A30.out).mono ?_
   rintro e w' ⟨rfl, ⟨nd, rfl⟩⟩
   refine ⟨_, rfl, ?_⟩
   refine hK.out _ _ ⟨cc, cc, cc⟩ (fun hHeld => ?_)
   clear hK K
   refine nn ?_
   refine oo HT_ (N := some 32) 29 #[Y,Y,Y,Y,Y,Y,Y,Y,Y,Y,Y,Y,Y,Y,Y,Y,Y,Y,Y,Y,Y,Y,Y,Y,Y,Y,Y,Y,Y,Y,N,N] (fun K hK => ?_)
   refine Kd.R_lit_step (Kd.int .i64) _ 2 ?hg (N := 32) ?hd (xs := ([t259, t275, t278] : List Int)) (inner := [.int .i64 t259, .int .i64 t275, .int .i64 t278]) (ok := fun _ => True) (okp := fun _ => True) ?hr ?hp (fun _ hk => hk) trivial (Below.refl _ _) (Nat.le_refl _) (by simp) ?_; (case hd => rfl); (case hg => rfl); (case hr => first | (go_simp; done) | (go_simp; rfl)); (case hp => exact (Reps.one (show Kd.M (Kd.int .i64) _ _ _ t259 [.int .i64 t259] from rfl) (Reps.one (show Kd.M (Kd.int .i64) _ _ _ t275 [.int .i64 t275] from rfl) (Reps.one (show Kd.M (Kd.int .i64) _ _ _ t278 [.int .i64 t278] from rfl) (Reps.none _ _)))))
   intro v280 w35 ho36 hb hg_ hnew_
   clear hg_ hnew_
   (first | rw [← Ny279.out] at ho36 | (simp only [Int.reduceToNat] at ho36; rw [← Ny279.out] at ho36))
   have HO281 := aM (rG ho36 (bZ bq))
   replace BK258 := aM (kB (kq BK258.out) hb)
   replace HB := aM (bT bq hb)
   clear hb ho36
   obtain ⟨Ao37, co37, eo37⟩ := Kd.R_slice HO281.out
   (first | subst eo37 | (injection eo37 with f1_ f2_ f3_; have f4_ := f1_.symm; have f5_ := f3_.symm; clear f1_ f2_ f3_; subst f4_; subst f5_))
   refine hK.out _ _ ⟨cc, cc, cc⟩ (fun hHeld => ?_)
   clear hK K
   refine nn ?_
   refine oo HT_ (N := some 33) 30 #[Y,Y,Y,Y,Y,Y,Y,Y,Y,Y,Y,Y,Y,Y,Y,Y,Y,Y,Y,Y,Y,Y,Y,Y,Y,Y,Y,Y,Y,Y,Y,N] (fun K hK => ?_)
   refine goes_ Try.func54 kr rfl #[.slice Ao37 y279.length co37] (by rfl) rfl rfl mq ?_
   with_reducible refine (impl_first.calls k _ _ y279 t282 _ ?side1 ?side2 A31.out).mono ?_
   (case side1 => exact cq (rR HO281.out).2.2)
   (case side2 => exact (rR HO281.out).2.1)
   rintro e w' ⟨rfl, ⟨nd, rfl⟩⟩
   refine ⟨_, rfl, ?_⟩
   refine hK.out _ _ ⟨cc, cc, cc⟩ (fun hHeld => ?_)
   clear hK K
   refine nn ?_
   refine pp HT_ (N := some 2) 31 #[Y,Y,Y,Y,Y,Y,Y,Y,Y,Y,Y,Y,Y,Y,Y,Y,Y,Y,Y,Y,Y,Y,Y,Y,Y,Y,Y,Y,Y,Y,Y,Y] ?_
   refine done_ (done_of HT_.out kr) ?_
   try go_wp2
   go_ret
   exact ⟨ew, bq⟩
  ·replace c28 := Bool.eq_false_iff.mpr c28
   subst c28
   have H1 : ((impl_codeIf.f true 3).bind fun t283 => ((impl_first.f k (([t259, t275, t283] : List Int))).bind fun t287 => (some t287))) = some r := by rw [if_neg (show ¬ (false = true) by decide)] at H; exact H
   clear H
   have H := H1
   clear H1
   replace H := bo H
   obtain ⟨t283, A38, H⟩ := H
   replace H := bz H
   obtain ⟨y284, hy284⟩ : ∃ y_ : List Int, y_ = (([t259, t275, t283] : List Int)) := ⟨_, rfl⟩
   replace H : ((impl_first.f k y284).bind fun t287 => (some t287)) = some r := hl hy284 H
   have Ny284 := aM hy284
   clear hy284
   replace H := bo H
   obtain ⟨t287, A39, H⟩ := H
   replace H : (some t287) = some r := H
   obtain rfl := Option.some.inj H
   go_enter Try.func43, Try.ntmps43
   try go_wp2_with (first | ((with_reducible refine gate_dst (N := 1) rfl ?_); refine box_event ?hg (N := 1) ?hd (cs := #[.int .i64 a0_0, .slice A0_1 l0_1.length c0_1, .slice A0_2 l0_2.length c0_2]) (t := 48) ?hr ?_; (case hd => rfl); (case hg => rfl); (case hr => first | (go_simp; done) | (go_simp; rfl)); intro gb258 hg w40 hbox hb; have BK258 := aM (hbox); have GW258 := aM ((by rw [hg]; exact (bZ bq) : w.heap.size ≤ gb258)); have GE258 := aM ((by rw [hg]; exact (bZ bq) : w.heap.size ≤ gb258)); replace HB := aM (bT bq hb); clear hb hbox hg))
   replace BK258 := aM (kD BK258.out)
   replace HB := aM (bD HB.out)
   refine start_ (n := 32) (S := fun w' => w'.cell? ⟨gb258, 0, none⟩ = some (.int .i64 a0_0) ∧ w'.cell? ⟨gb258, 1, none⟩ = some (.slice A0_1 l0_1.length c0_1) ∧ w'.cell? ⟨gb258, 2, none⟩ = some (.slice A0_2 l0_2.length c0_2)) (ds := []) #[N,N,N,N,N,N,N,N,N,N,N,N,N,N,N,N,N,N,N,N,N,N,N,N,N,N,N,N,N,N,N,N] kr rfl rfl ⟨cc, cc, cc⟩ (fun hHeld => ?_); refine with_tabW impl_LapFault.tab1 impl_LapFault.bits1 (fun HT_ HW_ => ?_)
   generalize w40.drew = w41 at BK258 HB hHeld ⊢
   refine pp HT_ (N := some 3) 0 #[Y,N,N,N,N,N,N,N,N,N,N,N,N,N,N,N,N,N,N,N,N,N,N,N,N,N,N,N,N,N,N,N] ?_
   refine pp HT_ (N := some 6) 3 #[Y,N,N,Y,N,N,N,N,N,N,N,N,N,N,N,N,N,N,N,N,N,N,N,N,N,N,N,N,N,N,N,N] ?_
   refine pp HT_ (N := some 8) 5 #[Y,N,N,Y,N,Y,N,N,N,N,N,N,N,N,N,N,N,N,N,N,N,N,N,N,N,N,N,N,N,N,N,N] ?_
   refine pp HT_ (N := some 21) 18 #[Y,N,N,Y,N,Y,N,N,N,N,N,N,N,N,N,N,N,N,Y,N,N,N,N,N,N,N,N,N,N,N,N,N] ?_
   refine tt HT_ HW_ (N := some 4) 1 #[Y,Y,N,Y,N,Y,N,N,N,N,N,N,N,N,N,N,N,N,Y,N,N,N,N,N,N,N,N,N,N,N,N,N] hHeld ?_ (hy := by rintro w' ⟨s0, s1, s2⟩; go_simp; with_reducible rfl)
   refine tt HT_ HW_ (N := some 7) 4 #[Y,Y,N,Y,Y,Y,N,N,N,N,N,N,N,N,N,N,N,N,Y,N,N,N,N,N,N,N,N,N,N,N,N,N] hHeld ?_ (hy := by rintro w' ⟨s0, s1, s2⟩; go_simp; with_reducible rfl)
   refine tt HT_ HW_ (N := some 9) 6 #[Y,Y,N,Y,Y,Y,Y,N,N,N,N,N,N,N,N,N,N,N,Y,N,N,N,N,N,N,N,N,N,N,N,N,N] hHeld ?_ (hy := by rintro w' ⟨s0, s1, s2⟩; go_simp; with_reducible rfl)
   refine tt HT_ HW_ (N := some 22) 19 #[Y,Y,N,Y,Y,Y,Y,N,N,N,N,N,N,N,N,N,N,N,Y,Y,N,N,N,N,N,N,N,N,N,N,N,N] hHeld ?_ (hy := by rintro w' ⟨s0, s1, s2⟩; go_simp; with_reducible rfl)
   refine oo HT_ (N := some 5) 2 #[Y,Y,Y,Y,Y,Y,Y,N,N,N,N,N,N,N,N,N,N,N,Y,Y,N,N,N,N,N,N,N,N,N,N,N,N] (fun K hK => ?_)
   refine goes_ Try.func55 kr rfl #[.int .i64 a0_0] (by rfl) rfl rfl mq ?_
   with_reducible refine (impl_SizeFault.calls a0_0 t259 _ A2.out).mono ?_
   rintro e w' ⟨rfl, ⟨nd, rfl⟩⟩
   refine ⟨_, rfl, ?_⟩
   refine hK.out _ _ ⟨cc, cc, cc⟩ (fun hHeld => ?_)
   clear hK K
   refine nn ?_
   refine oo HT_ (N := some 10) 7 #[Y,Y,Y,Y,Y,Y,Y,Y,N,N,N,N,N,N,N,N,N,N,Y,Y,N,N,N,N,N,N,N,N,N,N,N,N] (fun K hK => ?_)
   refine goes_ Try.func95 kr rfl #[.slice A0_1 l0_1.length c0_1, .int .i64 a0_0] (by rfl) rfl rfl mq ?_
   with_reducible refine (impl_halfOf.calls _ _ l0_1 a0_0 false _ ?side1 ?side2 A3.out).mono ?_
   (case side1 => exact cq (cB HR0_1.out bq))
   (case side2 => exact HC0_1.out)
   rintro e w' ⟨rfl, ⟨nd, rfl⟩⟩
   refine ⟨_, rfl, ?_⟩
   refine hK.out _ _ ⟨cc, cc, cc⟩ (fun hHeld => ?_)
   clear hK K
   refine nn ?_
   refine pp HT_ (N := some 11) 8 #[Y,Y,Y,Y,Y,Y,Y,Y,Y,N,N,N,N,N,N,N,N,N,Y,Y,N,N,N,N,N,N,N,N,N,N,N,N] ?_
   refine pp HT_ (N := some 12) 9 #[Y,Y,Y,Y,Y,Y,Y,Y,Y,Y,N,N,N,N,N,N,N,N,Y,Y,N,N,N,N,N,N,N,N,N,N,N,N] ?_
   refine pp HT_ (N := some 13) (v := undef) 10 #[Y,Y,Y,Y,Y,Y,Y,Y,Y,Y,Y,N,N,N,N,N,N,N,Y,Y,N,N,N,N,N,N,N,N,N,N,N,N] ?_ (hy := Or.inr ⟨by rfl, rfl⟩)
   refine pp HT_ (N := some 14) (v := undef) 11 #[Y,Y,Y,Y,Y,Y,Y,Y,Y,Y,Y,Y,N,N,N,N,N,N,Y,Y,N,N,N,N,N,N,N,N,N,N,N,N] ?_ (hy := Or.inr ⟨by rfl, rfl⟩)
   refine pp HT_ (N := some 15) (v := undef) 12 #[Y,Y,Y,Y,Y,Y,Y,Y,Y,Y,Y,Y,Y,N,N,N,N,N,Y,Y,N,N,N,N,N,N,N,N,N,N,N,N] ?_ (hy := Or.inr ⟨by rfl, rfl⟩)
   refine pp HT_ (N := some 16) (v := undef) 13 #[Y,Y,Y,Y,Y,Y,Y,Y,Y,Y,Y,Y,Y,Y,N,N,N,N,Y,Y,N,N,N,N,N,N,N,N,N,N,N,N] ?_ (hy := Or.inr ⟨by rfl, rfl⟩)
   refine pp HT_ (N := some 17) (v := undef) 14 #[Y,Y,Y,Y,Y,Y,Y,Y,Y,Y,Y,Y,Y,Y,Y,N,N,N,Y,Y,N,N,N,N,N,N,N,N,N,N,N,N] ?_ (hy := Or.inr ⟨by rfl, rfl⟩)
   refine pp HT_ (N := some 18) (v := undef) 15 #[Y,Y,Y,Y,Y,Y,Y,Y,Y,Y,Y,Y,Y,Y,Y,Y,N,N,Y,Y,N,N,N,N,N,N,N,N,N,N,N,N] ?_ (hy := Or.inr ⟨by rfl, rfl⟩)
   refine pp HT_ (N := some 19) 16 #[Y,Y,Y,Y,Y,Y,Y,Y,Y,Y,Y,Y,Y,Y,Y,Y,Y,N,Y,Y,N,N,N,N,N,N,N,N,N,N,N,N] ?_
   refine oo HT_ (N := some 20) 17 #[Y,Y,Y,Y,Y,Y,Y,Y,Y,Y,Y,Y,Y,Y,Y,Y,Y,Y,Y,Y,N,N,N,N,N,N,N,N,N,N,N,N] (fun K hK => ?_)
   refine goes_ Try.func56 kr rfl #[.bool true, .int .i64 2] (by rfl) rfl rfl mq ?_
   with_reducible refine (impl_codeIf.calls true 2 t275 _ A26.out).mono ?_
   rintro e w' ⟨rfl, ⟨nd, rfl⟩⟩
   refine ⟨_, rfl, ?_⟩
   refine hK.out _ _ ⟨cc, cc, cc⟩ (fun hHeld => ?_)
   clear hK K
   refine nn ?_
   refine oo HT_ (N := some 23) 20 #[Y,Y,Y,Y,Y,Y,Y,Y,Y,Y,Y,Y,Y,Y,Y,Y,Y,Y,Y,Y,Y,N,N,N,N,N,N,N,N,N,N,N] (fun K hK => ?_)
   refine goes_ Try.func87 kr rfl #[.slice A0_1 l0_1.length c0_1, .int .i64 65536] (by rfl) rfl rfl mq ?_
   with_reducible refine (impl_allWithin.calls _ _ l0_1 65536 false _ ?side1 ?side2 A27.out).mono ?_
   (case side1 => exact cq (cB HR0_1.out bq))
   (case side2 => exact HC0_1.out)
   rintro e w42 ⟨rfl, hb⟩
   refine ⟨_, rfl, ?_⟩
   replace BK258 := aM (kB (kq BK258.out) hb)
   replace HB := aM (bT bq hb)
   (try clear hb)
   (try clear hb2)
   (try clear hk)
   (try clear hi)
   refine hK.out _ _ ⟨cc, cc, cc⟩ (fun hHeld => ?_)
   clear hK K
   refine nn ?_
   refine pp HT_ (N := some 24) 21 #[Y,Y,Y,Y,Y,Y,Y,Y,Y,Y,Y,Y,Y,Y,Y,Y,Y,Y,Y,Y,Y,Y,N,N,N,N,N,N,N,N,N,N] ?_
   refine pp HT_ (N := some 25) 22 #[Y,Y,Y,Y,Y,Y,Y,Y,Y,Y,Y,Y,Y,Y,Y,Y,Y,Y,Y,Y,Y,Y,Y,N,N,N,N,N,N,N,N,N] ?_
   refine pp HT_ (N := some 26) (v := undef) 23 #[Y,Y,Y,Y,Y,Y,Y,Y,Y,Y,Y,Y,Y,Y,Y,Y,Y,Y,Y,Y,Y,Y,Y,Y,N,N,N,N,N,N,N,N] ?_ (hy := Or.inr ⟨by rfl, rfl⟩)
   refine pp HT_ (N := some 27) (v := undef) 24 #[Y,Y,Y,Y,Y,Y,Y,Y,Y,Y,Y,Y,Y,Y,Y,Y,Y,Y,Y,Y,Y,Y,Y,Y,Y,N,N,N,N,N,N,N] ?_ (hy := Or.inr ⟨by rfl, rfl⟩)
   refine pp HT_ (N := some 28) (v := undef) 25 #[Y,Y,Y,Y,Y,Y,Y,Y,Y,Y,Y,Y,Y,Y,Y,Y,Y,Y,Y,Y,Y,Y,Y,Y,Y,Y,N,N,N,N,N,N] ?_ (hy := Or.inr ⟨by rfl, rfl⟩)
   refine pp HT_ (N := some 29) (v := undef) 26 #[Y,Y,Y,Y,Y,Y,Y,Y,Y,Y,Y,Y,Y,Y,Y,Y,Y,Y,Y,Y,Y,Y,Y,Y,Y,Y,Y,N,N,N,N,N] ?_ (hy := Or.inr ⟨by rfl, rfl⟩)
   refine pp HT_ (N := some 30) 27 #[Y,Y,Y,Y,Y,Y,Y,Y,Y,Y,Y,Y,Y,Y,Y,Y,Y,Y,Y,Y,Y,Y,Y,Y,Y,Y,Y,Y,N,N,N,N] ?_
   refine oo HT_ (N := some 31) 28 #[Y,Y,Y,Y,Y,Y,Y,Y,Y,Y,Y,Y,Y,Y,Y,Y,Y,Y,Y,Y,Y,Y,Y,Y,Y,Y,Y,Y,Y,N,N,N] (fun K hK => ?_)
   refine goes_ Try.func56 kr rfl #[.bool true, .int .i64 3] (by rfl) rfl rfl mq ?_
   with_reducible refine (impl_codeIf.calls true 3 t283 _ A38.out).mono ?_
   rintro e w' ⟨rfl, ⟨nd, rfl⟩⟩
   refine ⟨_, rfl, ?_⟩
   refine hK.out _ _ ⟨cc, cc, cc⟩ (fun hHeld => ?_)
   clear hK K
   refine nn ?_
   refine oo HT_ (N := some 32) 29 #[Y,Y,Y,Y,Y,Y,Y,Y,Y,Y,Y,Y,Y,Y,Y,Y,Y,Y,Y,Y,Y,Y,Y,Y,Y,Y,Y,Y,Y,Y,N,N] (fun K hK => ?_)
   refine Kd.R_lit_step (Kd.int .i64) _ 2 ?hg (N := 32) ?hd (xs := ([t259, t275, t283] : List Int)) (inner := [.int .i64 t259, .int .i64 t275, .int .i64 t283]) (ok := fun _ => True) (okp := fun _ => True) ?hr ?hp (fun _ hk => hk) trivial (Below.refl _ _) (Nat.le_refl _) (by simp) ?_; (case hd => rfl); (case hg => rfl); (case hr => first | (go_simp; done) | (go_simp; rfl)); (case hp => exact (Reps.one (show Kd.M (Kd.int .i64) _ _ _ t259 [.int .i64 t259] from rfl) (Reps.one (show Kd.M (Kd.int .i64) _ _ _ t275 [.int .i64 t275] from rfl) (Reps.one (show Kd.M (Kd.int .i64) _ _ _ t283 [.int .i64 t283] from rfl) (Reps.none _ _)))))
   intro v285 w43 ho44 hb hg_ hnew_
   clear hg_ hnew_
   (first | rw [← Ny284.out] at ho44 | (simp only [Int.reduceToNat] at ho44; rw [← Ny284.out] at ho44))
   have HO286 := aM (rG ho44 (bZ bq))
   replace BK258 := aM (kB (kq BK258.out) hb)
   replace HB := aM (bT bq hb)
   clear hb ho44
   obtain ⟨Ao45, co45, eo45⟩ := Kd.R_slice HO286.out
   (first | subst eo45 | (injection eo45 with f1_ f2_ f3_; have f4_ := f1_.symm; have f5_ := f3_.symm; clear f1_ f2_ f3_; subst f4_; subst f5_))
   refine hK.out _ _ ⟨cc, cc, cc⟩ (fun hHeld => ?_)
   clear hK K
   refine nn ?_
   refine oo HT_ (N := some 33) 30 #[Y,Y,Y,Y,Y,Y,Y,Y,Y,Y,Y,Y,Y,Y,Y,Y,Y,Y,Y,Y,Y,Y,Y,Y,Y,Y,Y,Y,Y,Y,Y,N] (fun K hK => ?_)
   refine goes_ Try.func54 kr rfl #[.slice Ao45 y284.length co45] (by rfl) rfl rfl mq ?_
   with_reducible refine (impl_first.calls k _ _ y284 t287 _ ?side1 ?side2 A39.out).mono ?_
   (case side1 => exact cq (rR HO286.out).2.2)
   (case side2 => exact (rR HO286.out).2.1)
   rintro e w' ⟨rfl, ⟨nd, rfl⟩⟩
   refine ⟨_, rfl, ?_⟩
   refine hK.out _ _ ⟨cc, cc, cc⟩ (fun hHeld => ?_)
   clear hK K
   refine nn ?_
   refine pp HT_ (N := some 2) 31 #[Y,Y,Y,Y,Y,Y,Y,Y,Y,Y,Y,Y,Y,Y,Y,Y,Y,Y,Y,Y,Y,Y,Y,Y,Y,Y,Y,Y,Y,Y,Y,Y] ?_
   refine done_ (done_of HT_.out kr) ?_
   try go_wp2
   go_ret
   exact ⟨ew, bq⟩

end Go.Proofs.Ytmhnpogjkbmmnaa.PFnLaps
