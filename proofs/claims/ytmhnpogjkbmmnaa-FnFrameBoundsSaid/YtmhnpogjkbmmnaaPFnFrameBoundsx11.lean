-- Written by a program of this session: wip/mkprint.py over the kit's print, with contracts proved by hand (wip/given.py)
-- told shortest
-- told shorter still
-- shortened
-- told short
-- worlds by letters
-- squeezed
import Derived.Test.YtmhnpogjkbmmnaaPFnFrameBoundsx0
import Derived.Test.YtmhnpogjkbmmnaaPFnFrameBoundsx5
import Derived.Test.YtmhnpogjkbmmnaaPFnFrameBoundsx10
namespace Go.Proofs.Ytmhnpogjkbmmnaa.PFnFrameBounds
open Go.RowKit Go.Proofs.YtmhnpogjkbmmnaaW.PrintWords Go.Proofs.YtmhnpogjkbmmnaaW.PrintLast Go.Proofs.YtmhnpogjkbmmnaaW.PrintMore
open Go.Proofs.YtmhnpogjkbmmnaaW.PrintWords.Kd renaming R_lower → rG, R_reads' → rR, C_below → cB
open Go.Proofs.YtmhnpogjkbmmnaaW.PrintWords renaming below_drew1 → bD, below_step → bT, below_size → bZ, blk_drew → kD, blk_below → kB, blk_cell → kC
open Go.Proofs.YtmhnpogjkbmmnaaW.PrintWords.Aside0 renaming mk → aM
attribute [local go_sem] max2_int min2_int max_two min_two max_three min_three max_four min_four   -- for this text's walks alone
set_option linter.unusedVariables false
set_option linter.unusedSimpArgs false

/-! ### impl_SynthFault: function 46 -/
def impl_SynthFault.f (k : Nat) (a0_0 : Int) (l0_1 : List Int) (l0_2 : List Int) : Option (Int) := (impl_SizeFault.f a0_0).bind fun t386 => ((impl_halfOf.f l0_1 a0_0).bind fun t387 => (if t387 = true then ((impl_halfOf.f l0_2 a0_0).bind fun t388 => ((impl_codeIf.f (!t388) 2).bind fun t389 => ((impl_allWithin.f l0_1 1073741824).bind fun t390 => (if t390 = true then ((impl_allWithin.f l0_2 268435456).bind fun t391 => ((impl_codeIf.f (!t391) 3).bind fun t392 => ((impl_first.f k (([t386, t389, t392] : List Int))).bind fun t396 => (some t396)))) else ((impl_codeIf.f true 3).bind fun t397 => ((impl_first.f k (([t386, t389, t397] : List Int))).bind fun t401 => (some t401))))))) else ((impl_codeIf.f true 2).bind fun t402 => ((impl_allWithin.f l0_1 1073741824).bind fun t403 => (if t403 = true then ((impl_allWithin.f l0_2 268435456).bind fun t404 => ((impl_codeIf.f (!t404) 3).bind fun t405 => ((impl_first.f k (([t386, t402, t405] : List Int))).bind fun t409 => (some t409)))) else ((impl_codeIf.f true 3).bind fun t410 => ((impl_first.f k (([t386, t402, t410] : List Int))).bind fun t414 => (some t414))))))))
theorem impl_SynthFault.mono : ∀ a0 a1 a2 k, LeO (impl_SynthFault.f k a0 a1 a2) (impl_SynthFault.f (k + 1) a0 a1 a2) := by
 intro a0 a1 a2 k
 unfold impl_SynthFault.f
 repeat' first
   | (with_reducible exact impl_first.mono _ _)
   | (with_reducible exact LeO.refl _)
   | (with_reducible exact LeO.none _)
   | (with_reducible refine LeO.ite ?_ ?_)
   | (with_reducible refine LeO.bind ?_ (fun _ => ?_))
   | exact impl_first.mono _ _
   | exact LeO.none _
   | refine LeO.ite ?_ ?_
   | refine LeO.bind ?_ (fun _ => ?_)
def impl_SynthFault.T1 : Bool × List (List Nat × List Nat) := (true, [([], []), ([0], [0]), ([1], [1]), ([], []), ([3], [3]), ([], []), ([5], [5]), ([4, 6, 2], [4, 6]), ([7], [7]), ([8, 7], [8]), ([9], [9]), ([10, 9], [9, 10]), ([9], [9]), ([12, 9], [9, 12]), ([11, 13, 9, 9], [9, 11, 13]), ([14, 9], [9, 14]), ([9, 15], [9, 15]), ([16, 14], [16]), ([], []), ([18], [18]), ([19, 17], [19]), ([20], [20]), ([21, 20], [21]), ([22], [22]), ([23, 22], [22, 23]), ([24, 22, 22], [22, 24]), ([25, 22], [22, 25]), ([22, 26], [22, 26]), ([27, 25], [27]), ([2, 17, 28], [2, 17, 28]), ([29, 28], [29]), ([30, 30, 0, 1, 2, 3, 4, 5, 6, 7, 8, 9, 10, 11, 12, 13, 14, 15, 16, 17, 18, 19, 20, 21, 22, 23, 24, 25, 26, 27, 28, 29, 30], [30])])
def impl_SynthFault.B1 : List Nat := [0, 1, 3, 0, 8, 0, 32, 127, 255, 511, 1023, 2047, 1023, 5119, 16383, 32767, 65535, 131071, 0, 262144, 1048575, 2097151, 4194303, 8388607, 16777215, 33554431, 67108863, 134217727, 268435455, 536870911, 1073741823, 2147483647]
theorem impl_SynthFault.tab1 : rtab .any (opsOf Try.f46 1) = impl_SynthFault.T1 := by kernel_rfl
theorem impl_SynthFault.bits1 : waitsOk impl_SynthFault.T1.2 impl_SynthFault.B1 = true := by kernel_rfl
set_option maxHeartbeats 8000000 in
set_option maxRecDepth 100000 in
theorem impl_SynthFault.calls (k : Nat) (a0_0 : Int) (A0_1 : Option Addr) (c0_1 : Nat) (l0_1 : List Int) (A0_2 : Option Addr) (c0_2 : Nat) (l0_2 : List Int) (r : Int) (w : World) (hr0_1 : Kd.C (Kd.int .i64) w A0_1 l0_1.length l0_1) (hc0_1 : l0_1.length ≤ c0_1) (hr0_2 : Kd.C (Kd.int .i64) w A0_2 l0_2.length l0_2) (hc0_2 : l0_2.length ≤ c0_2) (h : impl_SynthFault.f k a0_0 l0_1 l0_2 = some r) :
  Calls Try.prog 46 #[.agg #[.int .i64 a0_0, .slice A0_1 l0_1.length c0_1, .slice A0_2 l0_2.length c0_2]] w fun e w' => e = .returned (.int .i64 r) ∧ Below w.heap.size w w' := by
 have hu35 := Try.underlying35
 have HR0_1 := aM hr0_1
 have HC0_1 := aM hc0_1
 clear hr0_1 hc0_1
 have HR0_2 := aM hr0_2
 have HC0_2 := aM hc0_2
 clear hr0_2 hc0_2
 have HB := aM (Below.refl w.heap.size w)
 have H : ((impl_SizeFault.f a0_0).bind fun t386 => ((impl_halfOf.f l0_1 a0_0).bind fun t387 => (if t387 = true then ((impl_halfOf.f l0_2 a0_0).bind fun t388 => ((impl_codeIf.f (!t388) 2).bind fun t389 => ((impl_allWithin.f l0_1 1073741824).bind fun t390 => (if t390 = true then ((impl_allWithin.f l0_2 268435456).bind fun t391 => ((impl_codeIf.f (!t391) 3).bind fun t392 => ((impl_first.f k (([t386, t389, t392] : List Int))).bind fun t396 => (some t396)))) else ((impl_codeIf.f true 3).bind fun t397 => ((impl_first.f k (([t386, t389, t397] : List Int))).bind fun t401 => (some t401))))))) else ((impl_codeIf.f true 2).bind fun t402 => ((impl_allWithin.f l0_1 1073741824).bind fun t403 => (if t403 = true then ((impl_allWithin.f l0_2 268435456).bind fun t404 => ((impl_codeIf.f (!t404) 3).bind fun t405 => ((impl_first.f k (([t386, t402, t405] : List Int))).bind fun t409 => (some t409)))) else ((impl_codeIf.f true 3).bind fun t410 => ((impl_first.f k (([t386, t402, t410] : List Int))).bind fun t414 => (some t414))))))))) = some r := h
 clear h
 replace H := Option.bind_eq_some_iff.mp H
 obtain ⟨t386, A20, H⟩ := H
 replace H : ((impl_halfOf.f l0_1 a0_0).bind fun t387 => (if t387 = true then ((impl_halfOf.f l0_2 a0_0).bind fun t388 => ((impl_codeIf.f (!t388) 2).bind fun t389 => ((impl_allWithin.f l0_1 1073741824).bind fun t390 => (if t390 = true then ((impl_allWithin.f l0_2 268435456).bind fun t391 => ((impl_codeIf.f (!t391) 3).bind fun t392 => ((impl_first.f k (([t386, t389, t392] : List Int))).bind fun t396 => (some t396)))) else ((impl_codeIf.f true 3).bind fun t397 => ((impl_first.f k (([t386, t389, t397] : List Int))).bind fun t401 => (some t401))))))) else ((impl_codeIf.f true 2).bind fun t402 => ((impl_allWithin.f l0_1 1073741824).bind fun t403 => (if t403 = true then ((impl_allWithin.f l0_2 268435456).bind fun t404 => ((impl_codeIf.f (!t404) 3).bind fun t405 => ((impl_first.f k (([t386, t402, t405] : List Int))).bind fun t409 => (some t409)))) else ((impl_codeIf.f true 3).bind fun t410 => ((impl_first.f k (([t386, t402, t410] : List Int))).bind fun t414 => (some t414)))))))) = some r := H
 have A2 := aM A20
 clear A20
 replace H := Option.bind_eq_some_iff.mp H
 obtain ⟨t387, A30, H⟩ := H
 replace H : (if t387 = true then ((impl_halfOf.f l0_2 a0_0).bind fun t388 => ((impl_codeIf.f (!t388) 2).bind fun t389 => ((impl_allWithin.f l0_1 1073741824).bind fun t390 => (if t390 = true then ((impl_allWithin.f l0_2 268435456).bind fun t391 => ((impl_codeIf.f (!t391) 3).bind fun t392 => ((impl_first.f k (([t386, t389, t392] : List Int))).bind fun t396 => (some t396)))) else ((impl_codeIf.f true 3).bind fun t397 => ((impl_first.f k (([t386, t389, t397] : List Int))).bind fun t401 => (some t401))))))) else ((impl_codeIf.f true 2).bind fun t402 => ((impl_allWithin.f l0_1 1073741824).bind fun t403 => (if t403 = true then ((impl_allWithin.f l0_2 268435456).bind fun t404 => ((impl_codeIf.f (!t404) 3).bind fun t405 => ((impl_first.f k (([t386, t402, t405] : List Int))).bind fun t409 => (some t409)))) else ((impl_codeIf.f true 3).bind fun t410 => ((impl_first.f k (([t386, t402, t410] : List Int))).bind fun t414 => (some t414))))))) = some r := H
 have A3 := aM A30
 clear A30
 by_cases c4 : t387 = true
 ·subst c4
  have H1 : ((impl_halfOf.f l0_2 a0_0).bind fun t388 => ((impl_codeIf.f (!t388) 2).bind fun t389 => ((impl_allWithin.f l0_1 1073741824).bind fun t390 => (if t390 = true then ((impl_allWithin.f l0_2 268435456).bind fun t391 => ((impl_codeIf.f (!t391) 3).bind fun t392 => ((impl_first.f k (([t386, t389, t392] : List Int))).bind fun t396 => (some t396)))) else ((impl_codeIf.f true 3).bind fun t397 => ((impl_first.f k (([t386, t389, t397] : List Int))).bind fun t401 => (some t401))))))) = some r := by rw [if_pos rfl] at H; exact H
  clear H
  have H := H1
  clear H1
  replace H := Option.bind_eq_some_iff.mp H
  obtain ⟨t388, A50, H⟩ := H
  replace H : ((impl_codeIf.f (!t388) 2).bind fun t389 => ((impl_allWithin.f l0_1 1073741824).bind fun t390 => (if t390 = true then ((impl_allWithin.f l0_2 268435456).bind fun t391 => ((impl_codeIf.f (!t391) 3).bind fun t392 => ((impl_first.f k (([t386, t389, t392] : List Int))).bind fun t396 => (some t396)))) else ((impl_codeIf.f true 3).bind fun t397 => ((impl_first.f k (([t386, t389, t397] : List Int))).bind fun t401 => (some t401)))))) = some r := H
  have A5 := aM A50
  clear A50
  replace H := Option.bind_eq_some_iff.mp H
  obtain ⟨t389, A60, H⟩ := H
  replace H : ((impl_allWithin.f l0_1 1073741824).bind fun t390 => (if t390 = true then ((impl_allWithin.f l0_2 268435456).bind fun t391 => ((impl_codeIf.f (!t391) 3).bind fun t392 => ((impl_first.f k (([t386, t389, t392] : List Int))).bind fun t396 => (some t396)))) else ((impl_codeIf.f true 3).bind fun t397 => ((impl_first.f k (([t386, t389, t397] : List Int))).bind fun t401 => (some t401))))) = some r := H
  have A6 := aM A60
  clear A60
  replace H := Option.bind_eq_some_iff.mp H
  obtain ⟨t390, A70, H⟩ := H
  replace H : (if t390 = true then ((impl_allWithin.f l0_2 268435456).bind fun t391 => ((impl_codeIf.f (!t391) 3).bind fun t392 => ((impl_first.f k (([t386, t389, t392] : List Int))).bind fun t396 => (some t396)))) else ((impl_codeIf.f true 3).bind fun t397 => ((impl_first.f k (([t386, t389, t397] : List Int))).bind fun t401 => (some t401)))) = some r := H
  have A7 := aM A70
  clear A70
  by_cases c8 : t390 = true
  ·subst c8
   have H1 : ((impl_allWithin.f l0_2 268435456).bind fun t391 => ((impl_codeIf.f (!t391) 3).bind fun t392 => ((impl_first.f k (([t386, t389, t392] : List Int))).bind fun t396 => (some t396)))) = some r := by rw [if_pos rfl] at H; exact H
   clear H
   have H := H1
   clear H1
   replace H := Option.bind_eq_some_iff.mp H
   obtain ⟨t391, A90, H⟩ := H
   replace H : ((impl_codeIf.f (!t391) 3).bind fun t392 => ((impl_first.f k (([t386, t389, t392] : List Int))).bind fun t396 => (some t396))) = some r := H
   have A9 := aM A90
   clear A90
   replace H := Option.bind_eq_some_iff.mp H
   obtain ⟨t392, A100, H⟩ := H
   replace H : ((impl_first.f k (([t386, t389, t392] : List Int))).bind fun t396 => (some t396)) = some r := H
   have A10 := aM A100
   clear A100
   obtain ⟨y393, hy393⟩ : ∃ y_ : List Int, y_ = (([t386, t389, t392] : List Int)) := ⟨_, rfl⟩
   replace H : ((impl_first.f k y393).bind fun t396 => (some t396)) = some r := by first | (rw [hy393]; with_reducible exact H) | (have H2_ := (Option.bind_some _ _).symm.trans H; rw [hy393]; with_reducible exact H2_) | (have H2_ := (Option.bind_some _ _).symm.trans H; with_reducible exact H2_) | with_reducible exact H | (rw [hy393]; exact H) | exact H
   have Ny393 := aM hy393
   clear hy393
   replace H := Option.bind_eq_some_iff.mp H
   obtain ⟨t396, A110, H⟩ := H
   replace H : (some t396) = some r := H
   have A11 := aM A110
   clear A110
   obtain rfl := Option.some.inj H
   go_enter Try.func46, Try.ntmps46
   try go_wp2_with (first | ((with_reducible refine gate_dst (N := 1) rfl ?_); refine box_event ?hg (N := 1) ?hd (cs := #[.int .i64 a0_0, .slice A0_1 l0_1.length c0_1, .slice A0_2 l0_2.length c0_2]) (t := 35) ?hr ?_; (case hd => rfl); (case hg => rfl); (case hr => first | (go_simp; done) | (go_simp; rfl)); intro gb385 hg w12 hbox hb; have BK385 := aM (hbox); have GW385 := aM ((by rw [hg]; exact (bZ bq) : w.heap.size ≤ gb385)); have GE385 := aM ((by rw [hg]; exact (bZ bq) : w.heap.size ≤ gb385)); replace HB := aM (bT bq hb); clear hb hbox hg))
   replace BK385 := aM (kD BK385.out)
   replace HB := aM (bD HB.out)
   refine start_ (n := 32) (S := fun w' => w'.cell? ⟨gb385, 0, none⟩ = some (.int .i64 a0_0) ∧ w'.cell? ⟨gb385, 1, none⟩ = some (.slice A0_1 l0_1.length c0_1) ∧ w'.cell? ⟨gb385, 2, none⟩ = some (.slice A0_2 l0_2.length c0_2)) (ds := []) #[N,N,N,N,N,N,N,N,N,N,N,N,N,N,N,N,N,N,N,N,N,N,N,N,N,N,N,N,N,N,N,N] kr rfl rfl ⟨(kC BK385.out 0).trans rfl, (kC BK385.out 1).trans rfl, (kC BK385.out 2).trans rfl⟩ (fun hHeld => ?_); refine with_tabW impl_SynthFault.tab1 impl_SynthFault.bits1 (fun HT_ HW_ => ?_)
   generalize w12.drew = w13 at BK385 HB hHeld ⊢
   refine pp HT_ (N := some 3) 0 #[Y,N,N,N,N,N,N,N,N,N,N,N,N,N,N,N,N,N,N,N,N,N,N,N,N,N,N,N,N,N,N,N] ?_
   refine pp HT_ (N := some 6) 3 #[Y,N,N,Y,N,N,N,N,N,N,N,N,N,N,N,N,N,N,N,N,N,N,N,N,N,N,N,N,N,N,N,N] ?_
   refine pp HT_ (N := some 8) 5 #[Y,N,N,Y,N,Y,N,N,N,N,N,N,N,N,N,N,N,N,N,N,N,N,N,N,N,N,N,N,N,N,N,N] ?_
   refine pp HT_ (N := some 21) 18 #[Y,N,N,Y,N,Y,N,N,N,N,N,N,N,N,N,N,N,N,Y,N,N,N,N,N,N,N,N,N,N,N,N,N] ?_
   refine take_ (i := 1) (N := some 4) (v := ?_) (a' := ?_) #[Y,Y,N,Y,N,Y,N,N,N,N,N,N,N,N,N,N,N,N,Y,N,N,N,N,N,N,N,N,N,N,N,N,N] rfl rfl (take_ofW HT_.out HW_.out kr) (fun _ _ _ h => h) (Or.inl ⟨by rfl, ?_⟩) hHeld ?_ ?_
   rotate_left
   ·rintro w' ⟨s0, s1, s2⟩
    go_simp
    with_reducible rfl
   rotate_left
   ·simp only [Act.put, pa, pb, pc, i64_w, i32_w]
    rfl
   refine take_ (i := 4) (N := some 7) (v := ?_) (a' := ?_) #[Y,Y,N,Y,Y,Y,N,N,N,N,N,N,N,N,N,N,N,N,Y,N,N,N,N,N,N,N,N,N,N,N,N,N] rfl rfl (take_ofW HT_.out HW_.out kr) (fun _ _ _ h => h) (Or.inl ⟨by rfl, ?_⟩) hHeld ?_ ?_
   rotate_left
   ·rintro w' ⟨s0, s1, s2⟩
    go_simp
    with_reducible rfl
   rotate_left
   ·simp only [Act.put, pa, pb, pc, i64_w, i32_w]
    rfl
   refine take_ (i := 6) (N := some 9) (v := ?_) (a' := ?_) #[Y,Y,N,Y,Y,Y,Y,N,N,N,N,N,N,N,N,N,N,N,Y,N,N,N,N,N,N,N,N,N,N,N,N,N] rfl rfl (take_ofW HT_.out HW_.out kr) (fun _ _ _ h => h) (Or.inl ⟨by rfl, ?_⟩) hHeld ?_ ?_
   rotate_left
   ·rintro w' ⟨s0, s1, s2⟩
    go_simp
    with_reducible rfl
   rotate_left
   ·simp only [Act.put, pa, pb, pc, i64_w, i32_w]
    rfl
   refine take_ (i := 19) (N := some 22) (v := ?_) (a' := ?_) #[Y,Y,N,Y,Y,Y,Y,N,N,N,N,N,N,N,N,N,N,N,Y,Y,N,N,N,N,N,N,N,N,N,N,N,N] rfl rfl (take_ofW HT_.out HW_.out kr) (fun _ _ _ h => h) (Or.inl ⟨by rfl, ?_⟩) hHeld ?_ ?_
   rotate_left
   ·rintro w' ⟨s0, s1, s2⟩
    go_simp
    with_reducible rfl
   rotate_left
   ·simp only [Act.put, pa, pb, pc, i64_w, i32_w]
    rfl
   refine one_ (i := 2) (N := some 5) #[Y,Y,Y,Y,Y,Y,Y,N,N,N,N,N,N,N,N,N,N,N,Y,Y,N,N,N,N,N,N,N,N,N,N,N,N] rfl rfl (one_of HT_.out kr) (by decide) (fun K hK => ?_)
   refine goes_ Try.func55 kr rfl #[.int .i64 a0_0] (by rfl) rfl rfl mq ?_
   with_reducible refine (impl_SizeFault.calls a0_0 t386 _ A2.out).mono ?_
   rintro e w' ⟨rfl, ⟨nd, rfl⟩⟩
   refine ⟨_, rfl, ?_⟩
   refine hK.out _ _ ⟨(kC BK385.out 0).trans rfl, (kC BK385.out 1).trans rfl, (kC BK385.out 2).trans rfl⟩ (fun hHeld => ?_)
   clear hK K
   refine norm_ (a' := ?_) ?_ ?_
   rotate_left
   ·show Act.put _ (some 5) _ = _
    simp only [Act.put, pa, pb, pc, i64_w, i32_w]
    rfl
   refine one_ (i := 7) (N := some 10) #[Y,Y,Y,Y,Y,Y,Y,Y,N,N,N,N,N,N,N,N,N,N,Y,Y,N,N,N,N,N,N,N,N,N,N,N,N] rfl rfl (one_of HT_.out kr) (by decide) (fun K hK => ?_)
   refine goes_ Try.func95 kr rfl #[.slice A0_1 l0_1.length c0_1, .int .i64 a0_0] (by rfl) rfl rfl mq ?_
   with_reducible refine (impl_halfOf.calls _ _ l0_1 a0_0 true _ ?side1 ?side2 A3.out).mono ?_
   (case side1 => exact cq (cB HR0_1.out bq))
   (case side2 => exact HC0_1.out)
   rintro e w' ⟨rfl, ⟨nd, rfl⟩⟩
   refine ⟨_, rfl, ?_⟩
   refine hK.out _ _ ⟨(kC BK385.out 0).trans rfl, (kC BK385.out 1).trans rfl, (kC BK385.out 2).trans rfl⟩ (fun hHeld => ?_)
   clear hK K
   refine norm_ (a' := ?_) ?_ ?_
   rotate_left
   ·show Act.put _ (some 10) _ = _
    simp only [Act.put, pa, pb, pc, i64_w, i32_w]
    rfl
   refine pp HT_ (N := some 11) 8 #[Y,Y,Y,Y,Y,Y,Y,Y,Y,N,N,N,N,N,N,N,N,N,Y,Y,N,N,N,N,N,N,N,N,N,N,N,N] ?_
   refine pp HT_ (N := some 12) 9 #[Y,Y,Y,Y,Y,Y,Y,Y,Y,Y,N,N,N,N,N,N,N,N,Y,Y,N,N,N,N,N,N,N,N,N,N,N,N] ?_
   refine pp HT_ (N := some 13) 10 #[Y,Y,Y,Y,Y,Y,Y,Y,Y,Y,Y,N,N,N,N,N,N,N,Y,Y,N,N,N,N,N,N,N,N,N,N,N,N] ?_
   refine pp HT_ (N := some 15) 12 #[Y,Y,Y,Y,Y,Y,Y,Y,Y,Y,Y,N,Y,N,N,N,N,N,Y,Y,N,N,N,N,N,N,N,N,N,N,N,N] ?_
   refine take_ (i := 11) (N := some 14) (v := ?_) (a' := ?_) #[Y,Y,Y,Y,Y,Y,Y,Y,Y,Y,Y,Y,Y,N,N,N,N,N,Y,Y,N,N,N,N,N,N,N,N,N,N,N,N] rfl rfl (take_ofW HT_.out HW_.out kr) (fun _ _ _ h => h) (Or.inl ⟨by rfl, ?_⟩) hHeld ?_ ?_
   rotate_left
   ·rintro w' ⟨s0, s1, s2⟩
    go_simp
    with_reducible rfl
   rotate_left
   ·simp only [Act.put, pa, pb, pc, i64_w, i32_w]
    rfl
   refine take_ (i := 13) (N := some 16) (v := ?_) (a' := ?_) #[Y,Y,Y,Y,Y,Y,Y,Y,Y,Y,Y,Y,Y,Y,N,N,N,N,Y,Y,N,N,N,N,N,N,N,N,N,N,N,N] rfl rfl (take_ofW HT_.out HW_.out kr) (fun _ _ _ h => h) (Or.inl ⟨by rfl, ?_⟩) hHeld ?_ ?_
   rotate_left
   ·rintro w' ⟨s0, s1, s2⟩
    go_simp
    with_reducible rfl
   rotate_left
   ·simp only [Act.put, pa, pb, pc, i64_w, i32_w]
    rfl
   refine one_ (i := 14) (N := some 17) #[Y,Y,Y,Y,Y,Y,Y,Y,Y,Y,Y,Y,Y,Y,Y,N,N,N,Y,Y,N,N,N,N,N,N,N,N,N,N,N,N] rfl rfl (one_of HT_.out kr) (by decide) (fun K hK => ?_)
   refine goes_ Try.func95 kr rfl #[.slice A0_2 l0_2.length c0_2, .int .i64 a0_0] (by rfl) rfl rfl mq ?_
   with_reducible refine (impl_halfOf.calls _ _ l0_2 a0_0 t388 _ ?side1 ?side2 A5.out).mono ?_
   (case side1 => exact cq (cB HR0_2.out bq))
   (case side2 => exact HC0_2.out)
   rintro e w' ⟨rfl, ⟨nd, rfl⟩⟩
   refine ⟨_, rfl, ?_⟩
   refine hK.out _ _ ⟨(kC BK385.out 0).trans rfl, (kC BK385.out 1).trans rfl, (kC BK385.out 2).trans rfl⟩ (fun hHeld => ?_)
   clear hK K
   refine norm_ (a' := ?_) ?_ ?_
   rotate_left
   ·show Act.put _ (some 17) _ = _
    simp only [Act.put, pa, pb, pc, i64_w, i32_w]
    rfl
   refine pp HT_ (N := some 18) 15 #[Y,Y,Y,Y,Y,Y,Y,Y,Y,Y,Y,Y,Y,Y,Y,Y,N,N,Y,Y,N,N,N,N,N,N,N,N,N,N,N,N] ?_
   refine pp HT_ (N := some 19) 16 #[Y,Y,Y,Y,Y,Y,Y,Y,Y,Y,Y,Y,Y,Y,Y,Y,Y,N,Y,Y,N,N,N,N,N,N,N,N,N,N,N,N] ?_
   refine one_ (i := 17) (N := some 20) #[Y,Y,Y,Y,Y,Y,Y,Y,Y,Y,Y,Y,Y,Y,Y,Y,Y,Y,Y,Y,N,N,N,N,N,N,N,N,N,N,N,N] rfl rfl (one_of HT_.out kr) (by decide) (fun K hK => ?_)
   refine goes_ Try.func56 kr rfl #[.bool (!t388), .int .i64 2] (by rfl) rfl rfl mq ?_
   with_reducible refine (impl_codeIf.calls (!t388) 2 t389 _ A6.out).mono ?_
   rintro e w' ⟨rfl, ⟨nd, rfl⟩⟩
   refine ⟨_, rfl, ?_⟩
   refine hK.out _ _ ⟨(kC BK385.out 0).trans rfl, (kC BK385.out 1).trans rfl, (kC BK385.out 2).trans rfl⟩ (fun hHeld => ?_)
   clear hK K
   refine norm_ (a' := ?_) ?_ ?_
   rotate_left
   ·show Act.put _ (some 20) _ = _
    simp only [Act.put, pa, pb, pc, i64_w, i32_w]
    rfl
   refine one_ (i := 20) (N := some 23) #[Y,Y,Y,Y,Y,Y,Y,Y,Y,Y,Y,Y,Y,Y,Y,Y,Y,Y,Y,Y,Y,N,N,N,N,N,N,N,N,N,N,N] rfl rfl (one_of HT_.out kr) (by decide) (fun K hK => ?_)
   refine goes_ Try.func87 kr rfl #[.slice A0_1 l0_1.length c0_1, .int .i64 1073741824] (by rfl) rfl rfl mq ?_
   with_reducible refine (impl_allWithin.calls _ _ l0_1 1073741824 true _ ?side1 ?side2 A7.out).mono ?_
   (case side1 => exact cq (cB HR0_1.out bq))
   (case side2 => exact HC0_1.out)
   rintro e w14 ⟨rfl, hb⟩
   refine ⟨_, rfl, ?_⟩
   replace BK385 := aM (kB (kq BK385.out) hb)
   replace HB := aM (bT bq hb)
   (try clear hb)
   (try clear hb2)
   (try clear hk)
   (try clear hi)
   refine hK.out _ _ ⟨(kC BK385.out 0).trans rfl, (kC BK385.out 1).trans rfl, (kC BK385.out 2).trans rfl⟩ (fun hHeld => ?_)
   clear hK K
   refine norm_ (a' := ?_) ?_ ?_
   rotate_left
   ·show Act.put _ (some 23) _ = _
    simp only [Act.put, pa, pb, pc, i64_w, i32_w]
    rfl
   refine pp HT_ (N := some 24) 21 #[Y,Y,Y,Y,Y,Y,Y,Y,Y,Y,Y,Y,Y,Y,Y,Y,Y,Y,Y,Y,Y,Y,N,N,N,N,N,N,N,N,N,N] ?_
   refine pp HT_ (N := some 25) 22 #[Y,Y,Y,Y,Y,Y,Y,Y,Y,Y,Y,Y,Y,Y,Y,Y,Y,Y,Y,Y,Y,Y,Y,N,N,N,N,N,N,N,N,N] ?_
   refine pp HT_ (N := some 26) 23 #[Y,Y,Y,Y,Y,Y,Y,Y,Y,Y,Y,Y,Y,Y,Y,Y,Y,Y,Y,Y,Y,Y,Y,Y,N,N,N,N,N,N,N,N] ?_
   refine take_ (i := 24) (N := some 27) (v := ?_) (a' := ?_) #[Y,Y,Y,Y,Y,Y,Y,Y,Y,Y,Y,Y,Y,Y,Y,Y,Y,Y,Y,Y,Y,Y,Y,Y,Y,N,N,N,N,N,N,N] rfl rfl (take_ofW HT_.out HW_.out kr) (fun _ _ _ h => h) (Or.inl ⟨by rfl, ?_⟩) hHeld ?_ ?_
   rotate_left
   ·rintro w' ⟨s0, s1, s2⟩
    go_simp
    with_reducible rfl
   rotate_left
   ·simp only [Act.put, pa, pb, pc, i64_w, i32_w]
    rfl
   refine one_ (i := 25) (N := some 28) #[Y,Y,Y,Y,Y,Y,Y,Y,Y,Y,Y,Y,Y,Y,Y,Y,Y,Y,Y,Y,Y,Y,Y,Y,Y,Y,N,N,N,N,N,N] rfl rfl (one_of HT_.out kr) (by decide) (fun K hK => ?_)
   refine goes_ Try.func87 kr rfl #[.slice A0_2 l0_2.length c0_2, .int .i64 268435456] (by rfl) rfl rfl mq ?_
   with_reducible refine (impl_allWithin.calls _ _ l0_2 268435456 t391 _ ?side1 ?side2 A9.out).mono ?_
   (case side1 => exact cq (cB HR0_2.out HB.out))
   (case side2 => exact HC0_2.out)
   rintro e w15 ⟨rfl, hb⟩
   refine ⟨_, rfl, ?_⟩
   replace BK385 := aM (kB (kq BK385.out) hb)
   replace HB := aM (bT bq hb)
   (try clear hb)
   (try clear hb2)
   (try clear hk)
   (try clear hi)
   refine hK.out _ _ ⟨(kC BK385.out 0).trans rfl, (kC BK385.out 1).trans rfl, (kC BK385.out 2).trans rfl⟩ (fun hHeld => ?_)
   clear hK K
   refine norm_ (a' := ?_) ?_ ?_
   rotate_left
   ·show Act.put _ (some 28) _ = _
    simp only [Act.put, pa, pb, pc, i64_w, i32_w]
    rfl
   refine pp HT_ (N := some 29) 26 #[Y,Y,Y,Y,Y,Y,Y,Y,Y,Y,Y,Y,Y,Y,Y,Y,Y,Y,Y,Y,Y,Y,Y,Y,Y,Y,Y,N,N,N,N,N] ?_
   refine pp HT_ (N := some 30) 27 #[Y,Y,Y,Y,Y,Y,Y,Y,Y,Y,Y,Y,Y,Y,Y,Y,Y,Y,Y,Y,Y,Y,Y,Y,Y,Y,Y,Y,N,N,N,N] ?_
   refine one_ (i := 28) (N := some 31) #[Y,Y,Y,Y,Y,Y,Y,Y,Y,Y,Y,Y,Y,Y,Y,Y,Y,Y,Y,Y,Y,Y,Y,Y,Y,Y,Y,Y,Y,N,N,N] rfl rfl (one_of HT_.out kr) (by decide) (fun K hK => ?_)
   refine goes_ Try.func56 kr rfl #[.bool (!t391), .int .i64 3] (by rfl) rfl rfl mq ?_
   with_reducible refine (impl_codeIf.calls (!t391) 3 t392 _ A10.out).mono ?_
   rintro e w' ⟨rfl, ⟨nd, rfl⟩⟩
   refine ⟨_, rfl, ?_⟩
   refine hK.out _ _ ⟨(kC BK385.out 0).trans rfl, (kC BK385.out 1).trans rfl, (kC BK385.out 2).trans rfl⟩ (fun hHeld => ?_)
   clear hK K
   refine norm_ (a' := ?_) ?_ ?_
   rotate_left
   ·show Act.put _ (some 31) _ = _
    simp only [Act.put, pa, pb, pc, i64_w, i32_w]
    rfl
   refine one_ (i := 29) (N := some 32) #[Y,Y,Y,Y,Y,Y,Y,Y,Y,Y,Y,Y,Y,Y,Y,Y,Y,Y,Y,Y,Y,Y,Y,Y,Y,Y,Y,Y,Y,Y,N,N] rfl rfl (one_of HT_.out kr) (by decide) (fun K hK => ?_)
   refine Kd.R_lit_step (Kd.int .i64) _ 2 ?hg (N := 32) ?hd (xs := ([t386, t389, t392] : List Int)) (inner := [.int .i64 t386, .int .i64 t389, .int .i64 t392]) (ok := fun _ => True) (okp := fun _ => True) ?hr ?hp (fun _ hk => hk) trivial (Below.refl _ _) (Nat.le_refl _) (by simp) ?_; (case hd => rfl); (case hg => rfl); (case hr => first | (go_simp; done) | (go_simp; rfl)); (case hp => exact (Reps.one (show Kd.M (Kd.int .i64) _ _ _ t386 [.int .i64 t386] from rfl) (Reps.one (show Kd.M (Kd.int .i64) _ _ _ t389 [.int .i64 t389] from rfl) (Reps.one (show Kd.M (Kd.int .i64) _ _ _ t392 [.int .i64 t392] from rfl) (Reps.none _ _)))))
   intro v394 w16 ho17 hb hg_ hnew_
   clear hg_ hnew_
   (first | rw [← Ny393.out] at ho17 | (simp only [Int.reduceToNat] at ho17; rw [← Ny393.out] at ho17))
   have HO395 := aM (rG ho17 (bZ bq))
   replace BK385 := aM (kB (kq BK385.out) hb)
   replace HB := aM (bT bq hb)
   clear hb ho17
   obtain ⟨Ao18, co18, eo18⟩ := Kd.R_slice HO395.out
   (first | subst eo18 | (injection eo18 with f1_ f2_ f3_; have f4_ := f1_.symm; have f5_ := f3_.symm; clear f1_ f2_ f3_; subst f4_; subst f5_))
   refine hK.out _ _ ⟨(kC BK385.out 0).trans rfl, (kC BK385.out 1).trans rfl, (kC BK385.out 2).trans rfl⟩ (fun hHeld => ?_)
   clear hK K
   refine norm_ (a' := ?_) ?_ ?_
   rotate_left
   ·show Act.put _ (some 32) _ = _
    simp only [Act.put, pa, pb, pc, i64_w, i32_w]
    rfl
   refine one_ (i := 30) (N := some 33) #[Y,Y,Y,Y,Y,Y,Y,Y,Y,Y,Y,Y,Y,Y,Y,Y,Y,Y,Y,Y,Y,Y,Y,Y,Y,Y,Y,Y,Y,Y,Y,N] rfl rfl (one_of HT_.out kr) (by decide) (fun K hK => ?_)
   refine goes_ Try.func54 kr rfl #[.slice Ao18 y393.length co18] (by rfl) rfl rfl mq ?_
   with_reducible refine (impl_first.calls k _ _ y393 t396 _ ?side1 ?side2 A11.out).mono ?_
   (case side1 => exact cq (rR HO395.out).2.2)
   (case side2 => exact (rR HO395.out).2.1)
   rintro e w' ⟨rfl, ⟨nd, rfl⟩⟩
   refine ⟨_, rfl, ?_⟩
   refine hK.out _ _ ⟨(kC BK385.out 0).trans rfl, (kC BK385.out 1).trans rfl, (kC BK385.out 2).trans rfl⟩ (fun hHeld => ?_)
   clear hK K
   refine norm_ (a' := ?_) ?_ ?_
   rotate_left
   ·show Act.put _ (some 33) _ = _
    simp only [Act.put, pa, pb, pc, i64_w, i32_w]
    rfl
   refine pp HT_ (N := some 2) 31 #[Y,Y,Y,Y,Y,Y,Y,Y,Y,Y,Y,Y,Y,Y,Y,Y,Y,Y,Y,Y,Y,Y,Y,Y,Y,Y,Y,Y,Y,Y,Y,Y] ?_
   refine done_ (done_of HT_.out kr) ?_
   try go_wp2
   go_ret
   exact ⟨ew, bq⟩
  ·replace c8 := Bool.eq_false_iff.mpr c8
   subst c8
   have H1 : ((impl_codeIf.f true 3).bind fun t397 => ((impl_first.f k (([t386, t389, t397] : List Int))).bind fun t401 => (some t401))) = some r := by rw [if_neg (show ¬ (false = true) by decide)] at H; exact H
   clear H
   have H := H1
   clear H1
   replace H := Option.bind_eq_some_iff.mp H
   obtain ⟨t397, A190, H⟩ := H
   replace H : ((impl_first.f k (([t386, t389, t397] : List Int))).bind fun t401 => (some t401)) = some r := H
   have A19 := aM A190
   clear A190
   obtain ⟨y398, hy398⟩ : ∃ y_ : List Int, y_ = (([t386, t389, t397] : List Int)) := ⟨_, rfl⟩
   replace H : ((impl_first.f k y398).bind fun t401 => (some t401)) = some r := by first | (rw [hy398]; with_reducible exact H) | (have H2_ := (Option.bind_some _ _).symm.trans H; rw [hy398]; with_reducible exact H2_) | (have H2_ := (Option.bind_some _ _).symm.trans H; with_reducible exact H2_) | with_reducible exact H | (rw [hy398]; exact H) | exact H
   have Ny398 := aM hy398
   clear hy398
   replace H := Option.bind_eq_some_iff.mp H
   obtain ⟨t401, A200, H⟩ := H
   replace H : (some t401) = some r := H
   have A20 := aM A200
   clear A200
   obtain rfl := Option.some.inj H
   go_enter Try.func46, Try.ntmps46
   try go_wp2_with (first | ((with_reducible refine gate_dst (N := 1) rfl ?_); refine box_event ?hg (N := 1) ?hd (cs := #[.int .i64 a0_0, .slice A0_1 l0_1.length c0_1, .slice A0_2 l0_2.length c0_2]) (t := 35) ?hr ?_; (case hd => rfl); (case hg => rfl); (case hr => first | (go_simp; done) | (go_simp; rfl)); intro gb385 hg w21 hbox hb; have BK385 := aM (hbox); have GW385 := aM ((by rw [hg]; exact (bZ bq) : w.heap.size ≤ gb385)); have GE385 := aM ((by rw [hg]; exact (bZ bq) : w.heap.size ≤ gb385)); replace HB := aM (bT bq hb); clear hb hbox hg))
   replace BK385 := aM (kD BK385.out)
   replace HB := aM (bD HB.out)
   refine start_ (n := 32) (S := fun w' => w'.cell? ⟨gb385, 0, none⟩ = some (.int .i64 a0_0) ∧ w'.cell? ⟨gb385, 1, none⟩ = some (.slice A0_1 l0_1.length c0_1) ∧ w'.cell? ⟨gb385, 2, none⟩ = some (.slice A0_2 l0_2.length c0_2)) (ds := []) #[N,N,N,N,N,N,N,N,N,N,N,N,N,N,N,N,N,N,N,N,N,N,N,N,N,N,N,N,N,N,N,N] kr rfl rfl ⟨(kC BK385.out 0).trans rfl, (kC BK385.out 1).trans rfl, (kC BK385.out 2).trans rfl⟩ (fun hHeld => ?_); refine with_tabW impl_SynthFault.tab1 impl_SynthFault.bits1 (fun HT_ HW_ => ?_)
   generalize w21.drew = w22 at BK385 HB hHeld ⊢
   refine pp HT_ (N := some 3) 0 #[Y,N,N,N,N,N,N,N,N,N,N,N,N,N,N,N,N,N,N,N,N,N,N,N,N,N,N,N,N,N,N,N] ?_
   refine pp HT_ (N := some 6) 3 #[Y,N,N,Y,N,N,N,N,N,N,N,N,N,N,N,N,N,N,N,N,N,N,N,N,N,N,N,N,N,N,N,N] ?_
   refine pp HT_ (N := some 8) 5 #[Y,N,N,Y,N,Y,N,N,N,N,N,N,N,N,N,N,N,N,N,N,N,N,N,N,N,N,N,N,N,N,N,N] ?_
   refine pp HT_ (N := some 21) 18 #[Y,N,N,Y,N,Y,N,N,N,N,N,N,N,N,N,N,N,N,Y,N,N,N,N,N,N,N,N,N,N,N,N,N] ?_
   refine take_ (i := 1) (N := some 4) (v := ?_) (a' := ?_) #[Y,Y,N,Y,N,Y,N,N,N,N,N,N,N,N,N,N,N,N,Y,N,N,N,N,N,N,N,N,N,N,N,N,N] rfl rfl (take_ofW HT_.out HW_.out kr) (fun _ _ _ h => h) (Or.inl ⟨by rfl, ?_⟩) hHeld ?_ ?_
   rotate_left
   ·rintro w' ⟨s0, s1, s2⟩
    go_simp
    with_reducible rfl
   rotate_left
   ·simp only [Act.put, pa, pb, pc, i64_w, i32_w]
    rfl
   refine take_ (i := 4) (N := some 7) (v := ?_) (a' := ?_) #[Y,Y,N,Y,Y,Y,N,N,N,N,N,N,N,N,N,N,N,N,Y,N,N,N,N,N,N,N,N,N,N,N,N,N] rfl rfl (take_ofW HT_.out HW_.out kr) (fun _ _ _ h => h) (Or.inl ⟨by rfl, ?_⟩) hHeld ?_ ?_
   rotate_left
   ·rintro w' ⟨s0, s1, s2⟩
    go_simp
    with_reducible rfl
   rotate_left
   ·simp only [Act.put, pa, pb, pc, i64_w, i32_w]
    rfl
   refine take_ (i := 6) (N := some 9) (v := ?_) (a' := ?_) #[Y,Y,N,Y,Y,Y,Y,N,N,N,N,N,N,N,N,N,N,N,Y,N,N,N,N,N,N,N,N,N,N,N,N,N] rfl rfl (take_ofW HT_.out HW_.out kr) (fun _ _ _ h => h) (Or.inl ⟨by rfl, ?_⟩) hHeld ?_ ?_
   rotate_left
   ·rintro w' ⟨s0, s1, s2⟩
    go_simp
    with_reducible rfl
   rotate_left
   ·simp only [Act.put, pa, pb, pc, i64_w, i32_w]
    rfl
   refine take_ (i := 19) (N := some 22) (v := ?_) (a' := ?_) #[Y,Y,N,Y,Y,Y,Y,N,N,N,N,N,N,N,N,N,N,N,Y,Y,N,N,N,N,N,N,N,N,N,N,N,N] rfl rfl (take_ofW HT_.out HW_.out kr) (fun _ _ _ h => h) (Or.inl ⟨by rfl, ?_⟩) hHeld ?_ ?_
   rotate_left
   ·rintro w' ⟨s0, s1, s2⟩
    go_simp
    with_reducible rfl
   rotate_left
   ·simp only [Act.put, pa, pb, pc, i64_w, i32_w]
    rfl
   refine one_ (i := 2) (N := some 5) #[Y,Y,Y,Y,Y,Y,Y,N,N,N,N,N,N,N,N,N,N,N,Y,Y,N,N,N,N,N,N,N,N,N,N,N,N] rfl rfl (one_of HT_.out kr) (by decide) (fun K hK => ?_)
   refine goes_ Try.func55 kr rfl #[.int .i64 a0_0] (by rfl) rfl rfl mq ?_
   with_reducible refine (impl_SizeFault.calls a0_0 t386 _ A2.out).mono ?_
   rintro e w' ⟨rfl, ⟨nd, rfl⟩⟩
   refine ⟨_, rfl, ?_⟩
   refine hK.out _ _ ⟨(kC BK385.out 0).trans rfl, (kC BK385.out 1).trans rfl, (kC BK385.out 2).trans rfl⟩ (fun hHeld => ?_)
   clear hK K
   refine norm_ (a' := ?_) ?_ ?_
   rotate_left
   ·show Act.put _ (some 5) _ = _
    simp only [Act.put, pa, pb, pc, i64_w, i32_w]
    rfl
   refine one_ (i := 7) (N := some 10) #[Y,Y,Y,Y,Y,Y,Y,Y,N,N,N,N,N,N,N,N,N,N,Y,Y,N,N,N,N,N,N,N,N,N,N,N,N] rfl rfl (one_of HT_.out kr) (by decide) (fun K hK => ?_)
   refine goes_ Try.func95 kr rfl #[.slice A0_1 l0_1.length c0_1, .int .i64 a0_0] (by rfl) rfl rfl mq ?_
   with_reducible refine (impl_halfOf.calls _ _ l0_1 a0_0 true _ ?side1 ?side2 A3.out).mono ?_
   (case side1 => exact cq (cB HR0_1.out bq))
   (case side2 => exact HC0_1.out)
   rintro e w' ⟨rfl, ⟨nd, rfl⟩⟩
   refine ⟨_, rfl, ?_⟩
   refine hK.out _ _ ⟨(kC BK385.out 0).trans rfl, (kC BK385.out 1).trans rfl, (kC BK385.out 2).trans rfl⟩ (fun hHeld => ?_)
   clear hK K
   refine norm_ (a' := ?_) ?_ ?_
   rotate_left
   ·show Act.put _ (some 10) _ = _
    simp only [Act.put, pa, pb, pc, i64_w, i32_w]
    rfl
   refine pp HT_ (N := some 11) 8 #[Y,Y,Y,Y,Y,Y,Y,Y,Y,N,N,N,N,N,N,N,N,N,Y,Y,N,N,N,N,N,N,N,N,N,N,N,N] ?_
   refine pp HT_ (N := some 12) 9 #[Y,Y,Y,Y,Y,Y,Y,Y,Y,Y,N,N,N,N,N,N,N,N,Y,Y,N,N,N,N,N,N,N,N,N,N,N,N] ?_
   refine pp HT_ (N := some 13) 10 #[Y,Y,Y,Y,Y,Y,Y,Y,Y,Y,Y,N,N,N,N,N,N,N,Y,Y,N,N,N,N,N,N,N,N,N,N,N,N] ?_
   refine pp HT_ (N := some 15) 12 #[Y,Y,Y,Y,Y,Y,Y,Y,Y,Y,Y,N,Y,N,N,N,N,N,Y,Y,N,N,N,N,N,N,N,N,N,N,N,N] ?_
   refine take_ (i := 11) (N := some 14) (v := ?_) (a' := ?_) #[Y,Y,Y,Y,Y,Y,Y,Y,Y,Y,Y,Y,Y,N,N,N,N,N,Y,Y,N,N,N,N,N,N,N,N,N,N,N,N] rfl rfl (take_ofW HT_.out HW_.out kr) (fun _ _ _ h => h) (Or.inl ⟨by rfl, ?_⟩) hHeld ?_ ?_
   rotate_left
   ·rintro w' ⟨s0, s1, s2⟩
    go_simp
    with_reducible rfl
   rotate_left
   ·simp only [Act.put, pa, pb, pc, i64_w, i32_w]
    rfl
   refine take_ (i := 13) (N := some 16) (v := ?_) (a' := ?_) #[Y,Y,Y,Y,Y,Y,Y,Y,Y,Y,Y,Y,Y,Y,N,N,N,N,Y,Y,N,N,N,N,N,N,N,N,N,N,N,N] rfl rfl (take_ofW HT_.out HW_.out kr) (fun _ _ _ h => h) (Or.inl ⟨by rfl, ?_⟩) hHeld ?_ ?_
   rotate_left
   ·rintro w' ⟨s0, s1, s2⟩
    go_simp
    with_reducible rfl
   rotate_left
   ·simp only [Act.put, pa, pb, pc, i64_w, i32_w]
    rfl
   refine one_ (i := 14) (N := some 17) #[Y,Y,Y,Y,Y,Y,Y,Y,Y,Y,Y,Y,Y,Y,Y,N,N,N,Y,Y,N,N,N,N,N,N,N,N,N,N,N,N] rfl rfl (one_of HT_.out kr) (by decide) (fun K hK => ?_)
   refine goes_ Try.func95 kr rfl #[.slice A0_2 l0_2.length c0_2, .int .i64 a0_0] (by rfl) rfl rfl mq ?_
   with_reducible refine (impl_halfOf.calls _ _ l0_2 a0_0 t388 _ ?side1 ?side2 A5.out).mono ?_
   (case side1 => exact cq (cB HR0_2.out bq))
   (case side2 => exact HC0_2.out)
   rintro e w' ⟨rfl, ⟨nd, rfl⟩⟩
   refine ⟨_, rfl, ?_⟩
   refine hK.out _ _ ⟨(kC BK385.out 0).trans rfl, (kC BK385.out 1).trans rfl, (kC BK385.out 2).trans rfl⟩ (fun hHeld => ?_)
   clear hK K
   refine norm_ (a' := ?_) ?_ ?_
   rotate_left
   ·show Act.put _ (some 17) _ = _
    simp only [Act.put, pa, pb, pc, i64_w, i32_w]
    rfl
   refine pp HT_ (N := some 18) 15 #[Y,Y,Y,Y,Y,Y,Y,Y,Y,Y,Y,Y,Y,Y,Y,Y,N,N,Y,Y,N,N,N,N,N,N,N,N,N,N,N,N] ?_
   refine pp HT_ (N := some 19) 16 #[Y,Y,Y,Y,Y,Y,Y,Y,Y,Y,Y,Y,Y,Y,Y,Y,Y,N,Y,Y,N,N,N,N,N,N,N,N,N,N,N,N] ?_
   refine one_ (i := 17) (N := some 20) #[Y,Y,Y,Y,Y,Y,Y,Y,Y,Y,Y,Y,Y,Y,Y,Y,Y,Y,Y,Y,N,N,N,N,N,N,N,N,N,N,N,N] rfl rfl (one_of HT_.out kr) (by decide) (fun K hK => ?_)
   refine goes_ Try.func56 kr rfl #[.bool (!t388), .int .i64 2] (by rfl) rfl rfl mq ?_
   with_reducible refine (impl_codeIf.calls (!t388) 2 t389 _ A6.out).mono ?_
   rintro e w' ⟨rfl, ⟨nd, rfl⟩⟩
   refine ⟨_, rfl, ?_⟩
   refine hK.out _ _ ⟨(kC BK385.out 0).trans rfl, (kC BK385.out 1).trans rfl, (kC BK385.out 2).trans rfl⟩ (fun hHeld => ?_)
   clear hK K
   refine norm_ (a' := ?_) ?_ ?_
   rotate_left
   ·show Act.put _ (some 20) _ = _
    simp only [Act.put, pa, pb, pc, i64_w, i32_w]
    rfl
   refine one_ (i := 20) (N := some 23) #[Y,Y,Y,Y,Y,Y,Y,Y,Y,Y,Y,Y,Y,Y,Y,Y,Y,Y,Y,Y,Y,N,N,N,N,N,N,N,N,N,N,N] rfl rfl (one_of HT_.out kr) (by decide) (fun K hK => ?_)
   refine goes_ Try.func87 kr rfl #[.slice A0_1 l0_1.length c0_1, .int .i64 1073741824] (by rfl) rfl rfl mq ?_
   with_reducible refine (impl_allWithin.calls _ _ l0_1 1073741824 false _ ?side1 ?side2 A7.out).mono ?_
   (case side1 => exact cq (cB HR0_1.out bq))
   (case side2 => exact HC0_1.out)
   rintro e w23 ⟨rfl, hb⟩
   refine ⟨_, rfl, ?_⟩
   replace BK385 := aM (kB (kq BK385.out) hb)
   replace HB := aM (bT bq hb)
   (try clear hb)
   (try clear hb2)
   (try clear hk)
   (try clear hi)
   refine hK.out _ _ ⟨(kC BK385.out 0).trans rfl, (kC BK385.out 1).trans rfl, (kC BK385.out 2).trans rfl⟩ (fun hHeld => ?_)
   clear hK K
   refine norm_ (a' := ?_) ?_ ?_
   rotate_left
   ·show Act.put _ (some 23) _ = _
    simp only [Act.put, pa, pb, pc, i64_w, i32_w]
    rfl
   refine pp HT_ (N := some 24) 21 #[Y,Y,Y,Y,Y,Y,Y,Y,Y,Y,Y,Y,Y,Y,Y,Y,Y,Y,Y,Y,Y,Y,N,N,N,N,N,N,N,N,N,N] ?_
   refine pp HT_ (N := some 25) 22 #[Y,Y,Y,Y,Y,Y,Y,Y,Y,Y,Y,Y,Y,Y,Y,Y,Y,Y,Y,Y,Y,Y,Y,N,N,N,N,N,N,N,N,N] ?_
   refine pp HT_ (N := some 26) (v := undef) 23 #[Y,Y,Y,Y,Y,Y,Y,Y,Y,Y,Y,Y,Y,Y,Y,Y,Y,Y,Y,Y,Y,Y,Y,Y,N,N,N,N,N,N,N,N] ?_ (hy := Or.inr ⟨by rfl, rfl⟩)
   refine pp HT_ (N := some 27) (v := undef) 24 #[Y,Y,Y,Y,Y,Y,Y,Y,Y,Y,Y,Y,Y,Y,Y,Y,Y,Y,Y,Y,Y,Y,Y,Y,Y,N,N,N,N,N,N,N] ?_ (hy := Or.inr ⟨by rfl, rfl⟩)
   refine pp HT_ (N := some 28) (v := undef) 25 #[Y,Y,Y,Y,Y,Y,Y,Y,Y,Y,Y,Y,Y,Y,Y,Y,Y,Y,Y,Y,Y,Y,Y,Y,Y,Y,N,N,N,N,N,N] ?_ (hy := Or.inr ⟨by rfl, rfl⟩)
   refine pp HT_ (N := some 29) (v := undef) 26 #[Y,Y,Y,Y,Y,Y,Y,Y,Y,Y,Y,Y,Y,Y,Y,Y,Y,Y,Y,Y,Y,Y,Y,Y,Y,Y,Y,N,N,N,N,N] ?_ (hy := Or.inr ⟨by rfl, rfl⟩)
   refine pp HT_ (N := some 30) 27 #[Y,Y,Y,Y,Y,Y,Y,Y,Y,Y,Y,Y,Y,Y,Y,Y,Y,Y,Y,Y,Y,Y,Y,Y,Y,Y,Y,Y,N,N,N,N] ?_
   refine one_ (i := 28) (N := some 31) #[Y,Y,Y,Y,Y,Y,Y,Y,Y,Y,Y,Y,Y,Y,Y,Y,Y,Y,Y,Y,Y,Y,Y,Y,Y,Y,Y,Y,Y,N,N,N] rfl rfl (one_of HT_.out kr) (by decide) (fun K hK => ?_)
   refine goes_ Try.func56 kr rfl #[.bool true, .int .i64 3] (by rfl) rfl rfl mq ?_
   with_reducible refine (impl_codeIf.calls true 3 t397 _ A19.out).mono ?_
   rintro e w' ⟨rfl, ⟨nd, rfl⟩⟩
   refine ⟨_, rfl, ?_⟩
   refine hK.out _ _ ⟨(kC BK385.out 0).trans rfl, (kC BK385.out 1).trans rfl, (kC BK385.out 2).trans rfl⟩ (fun hHeld => ?_)
   clear hK K
   refine norm_ (a' := ?_) ?_ ?_
   rotate_left
   ·show Act.put _ (some 31) _ = _
    simp only [Act.put, pa, pb, pc, i64_w, i32_w]
    rfl
   refine one_ (i := 29) (N := some 32) #[Y,Y,Y,Y,Y,Y,Y,Y,Y,Y,Y,Y,Y,Y,Y,Y,Y,Y,Y,Y,Y,Y,Y,Y,Y,Y,Y,Y,Y,Y,N,N] rfl rfl (one_of HT_.out kr) (by decide) (fun K hK => ?_)
   refine Kd.R_lit_step (Kd.int .i64) _ 2 ?hg (N := 32) ?hd (xs := ([t386, t389, t397] : List Int)) (inner := [.int .i64 t386, .int .i64 t389, .int .i64 t397]) (ok := fun _ => True) (okp := fun _ => True) ?hr ?hp (fun _ hk => hk) trivial (Below.refl _ _) (Nat.le_refl _) (by simp) ?_; (case hd => rfl); (case hg => rfl); (case hr => first | (go_simp; done) | (go_simp; rfl)); (case hp => exact (Reps.one (show Kd.M (Kd.int .i64) _ _ _ t386 [.int .i64 t386] from rfl) (Reps.one (show Kd.M (Kd.int .i64) _ _ _ t389 [.int .i64 t389] from rfl) (Reps.one (show Kd.M (Kd.int .i64) _ _ _ t397 [.int .i64 t397] from rfl) (Reps.none _ _)))))
   intro v399 w24 ho25 hb hg_ hnew_
   clear hg_ hnew_
   (first | rw [← Ny398.out] at ho25 | (simp only [Int.reduceToNat] at ho25; rw [← Ny398.out] at ho25))
   have HO400 := aM (rG ho25 (bZ bq))
   replace BK385 := aM (kB (kq BK385.out) hb)
   replace HB := aM (bT bq hb)
   clear hb ho25
   obtain ⟨Ao26, co26, eo26⟩ := Kd.R_slice HO400.out
   (first | subst eo26 | (injection eo26 with f1_ f2_ f3_; have f4_ := f1_.symm; have f5_ := f3_.symm; clear f1_ f2_ f3_; subst f4_; subst f5_))
   refine hK.out _ _ ⟨(kC BK385.out 0).trans rfl, (kC BK385.out 1).trans rfl, (kC BK385.out 2).trans rfl⟩ (fun hHeld => ?_)
   clear hK K
   refine norm_ (a' := ?_) ?_ ?_
   rotate_left
   ·show Act.put _ (some 32) _ = _
    simp only [Act.put, pa, pb, pc, i64_w, i32_w]
    rfl
   refine one_ (i := 30) (N := some 33) #[Y,Y,Y,Y,Y,Y,Y,Y,Y,Y,Y,Y,Y,Y,Y,Y,Y,Y,Y,Y,Y,Y,Y,Y,Y,Y,Y,Y,Y,Y,Y,N] rfl rfl (one_of HT_.out kr) (by decide) (fun K hK => ?_)
   refine goes_ Try.func54 kr rfl #[.slice Ao26 y398.length co26] (by rfl) rfl rfl mq ?_
   with_reducible refine (impl_first.calls k _ _ y398 t401 _ ?side1 ?side2 A20.out).mono ?_
   (case side1 => exact cq (rR HO400.out).2.2)
   (case side2 => exact (rR HO400.out).2.1)
   rintro e w' ⟨rfl, ⟨nd, rfl⟩⟩
   refine ⟨_, rfl, ?_⟩
   refine hK.out _ _ ⟨(kC BK385.out 0).trans rfl, (kC BK385.out 1).trans rfl, (kC BK385.out 2).trans rfl⟩ (fun hHeld => ?_)
   clear hK K
   refine norm_ (a' := ?_) ?_ ?_
   rotate_left
   ·show Act.put _ (some 33) _ = _
    simp only [Act.put, pa, pb, pc, i64_w, i32_w]
    rfl
   refine pp HT_ (N := some 2) 31 #[Y,Y,Y,Y,Y,Y,Y,Y,Y,Y,Y,Y,Y,Y,Y,Y,Y,Y,Y,Y,Y,Y,Y,Y,Y,Y,Y,Y,Y,Y,Y,Y] ?_
   refine done_ (done_of HT_.out kr) ?_
   try go_wp2
   go_ret
   exact ⟨ew, bq⟩
 ·replace c4 := Bool.eq_false_iff.mpr c4
  subst c4
  have H1 : ((impl_codeIf.f true 2).bind fun t402 => ((impl_allWithin.f l0_1 1073741824).bind fun t403 => (if t403 = true then ((impl_allWithin.f l0_2 268435456).bind fun t404 => ((impl_codeIf.f (!t404) 3).bind fun t405 => ((impl_first.f k (([t386, t402, t405] : List Int))).bind fun t409 => (some t409)))) else ((impl_codeIf.f true 3).bind fun t410 => ((impl_first.f k (([t386, t402, t410] : List Int))).bind fun t414 => (some t414)))))) = some r := by rw [if_neg (show ¬ (false = true) by decide)] at H; exact H
  clear H
  have H := H1
  clear H1
  replace H := Option.bind_eq_some_iff.mp H
  obtain ⟨t402, A270, H⟩ := H
  replace H : ((impl_allWithin.f l0_1 1073741824).bind fun t403 => (if t403 = true then ((impl_allWithin.f l0_2 268435456).bind fun t404 => ((impl_codeIf.f (!t404) 3).bind fun t405 => ((impl_first.f k (([t386, t402, t405] : List Int))).bind fun t409 => (some t409)))) else ((impl_codeIf.f true 3).bind fun t410 => ((impl_first.f k (([t386, t402, t410] : List Int))).bind fun t414 => (some t414))))) = some r := H
  have A27 := aM A270
  clear A270
  replace H := Option.bind_eq_some_iff.mp H
  obtain ⟨t403, A280, H⟩ := H
  replace H : (if t403 = true then ((impl_allWithin.f l0_2 268435456).bind fun t404 => ((impl_codeIf.f (!t404) 3).bind fun t405 => ((impl_first.f k (([t386, t402, t405] : List Int))).bind fun t409 => (some t409)))) else ((impl_codeIf.f true 3).bind fun t410 => ((impl_first.f k (([t386, t402, t410] : List Int))).bind fun t414 => (some t414)))) = some r := H
  have A28 := aM A280
  clear A280
  by_cases c29 : t403 = true
  ·subst c29
   have H1 : ((impl_allWithin.f l0_2 268435456).bind fun t404 => ((impl_codeIf.f (!t404) 3).bind fun t405 => ((impl_first.f k (([t386, t402, t405] : List Int))).bind fun t409 => (some t409)))) = some r := by rw [if_pos rfl] at H; exact H
   clear H
   have H := H1
   clear H1
   replace H := Option.bind_eq_some_iff.mp H
   obtain ⟨t404, A300, H⟩ := H
   replace H : ((impl_codeIf.f (!t404) 3).bind fun t405 => ((impl_first.f k (([t386, t402, t405] : List Int))).bind fun t409 => (some t409))) = some r := H
   have A30 := aM A300
   clear A300
   replace H := Option.bind_eq_some_iff.mp H
   obtain ⟨t405, A310, H⟩ := H
   replace H : ((impl_first.f k (([t386, t402, t405] : List Int))).bind fun t409 => (some t409)) = some r := H
   have A31 := aM A310
   clear A310
   obtain ⟨y406, hy406⟩ : ∃ y_ : List Int, y_ = (([t386, t402, t405] : List Int)) := ⟨_, rfl⟩
   replace H : ((impl_first.f k y406).bind fun t409 => (some t409)) = some r := by first | (rw [hy406]; with_reducible exact H) | (have H2_ := (Option.bind_some _ _).symm.trans H; rw [hy406]; with_reducible exact H2_) | (have H2_ := (Option.bind_some _ _).symm.trans H; with_reducible exact H2_) | with_reducible exact H | (rw [hy406]; exact H) | exact H
   have Ny406 := aM hy406
   clear hy406
   replace H := Option.bind_eq_some_iff.mp H
   obtain ⟨t409, A320, H⟩ := H
   replace H : (some t409) = some r := H
   have A32 := aM A320
   clear A320
   obtain rfl := Option.some.inj H
   go_enter Try.func46, Try.ntmps46
   try go_wp2_with (first | ((with_reducible refine gate_dst (N := 1) rfl ?_); refine box_event ?hg (N := 1) ?hd (cs := #[.int .i64 a0_0, .slice A0_1 l0_1.length c0_1, .slice A0_2 l0_2.length c0_2]) (t := 35) ?hr ?_; (case hd => rfl); (case hg => rfl); (case hr => first | (go_simp; done) | (go_simp; rfl)); intro gb385 hg w33 hbox hb; have BK385 := aM (hbox); have GW385 := aM ((by rw [hg]; exact (bZ bq) : w.heap.size ≤ gb385)); have GE385 := aM ((by rw [hg]; exact (bZ bq) : w.heap.size ≤ gb385)); replace HB := aM (bT bq hb); clear hb hbox hg))
   replace BK385 := aM (kD BK385.out)
   replace HB := aM (bD HB.out)
   refine start_ (n := 32) (S := fun w' => w'.cell? ⟨gb385, 0, none⟩ = some (.int .i64 a0_0) ∧ w'.cell? ⟨gb385, 1, none⟩ = some (.slice A0_1 l0_1.length c0_1) ∧ w'.cell? ⟨gb385, 2, none⟩ = some (.slice A0_2 l0_2.length c0_2)) (ds := []) #[N,N,N,N,N,N,N,N,N,N,N,N,N,N,N,N,N,N,N,N,N,N,N,N,N,N,N,N,N,N,N,N] kr rfl rfl ⟨(kC BK385.out 0).trans rfl, (kC BK385.out 1).trans rfl, (kC BK385.out 2).trans rfl⟩ (fun hHeld => ?_); refine with_tabW impl_SynthFault.tab1 impl_SynthFault.bits1 (fun HT_ HW_ => ?_)
   generalize w33.drew = w34 at BK385 HB hHeld ⊢
   refine pp HT_ (N := some 3) 0 #[Y,N,N,N,N,N,N,N,N,N,N,N,N,N,N,N,N,N,N,N,N,N,N,N,N,N,N,N,N,N,N,N] ?_
   refine pp HT_ (N := some 6) 3 #[Y,N,N,Y,N,N,N,N,N,N,N,N,N,N,N,N,N,N,N,N,N,N,N,N,N,N,N,N,N,N,N,N] ?_
   refine pp HT_ (N := some 8) 5 #[Y,N,N,Y,N,Y,N,N,N,N,N,N,N,N,N,N,N,N,N,N,N,N,N,N,N,N,N,N,N,N,N,N] ?_
   refine pp HT_ (N := some 21) 18 #[Y,N,N,Y,N,Y,N,N,N,N,N,N,N,N,N,N,N,N,Y,N,N,N,N,N,N,N,N,N,N,N,N,N] ?_
   refine take_ (i := 1) (N := some 4) (v := ?_) (a' := ?_) #[Y,Y,N,Y,N,Y,N,N,N,N,N,N,N,N,N,N,N,N,Y,N,N,N,N,N,N,N,N,N,N,N,N,N] rfl rfl (take_ofW HT_.out HW_.out kr) (fun _ _ _ h => h) (Or.inl ⟨by rfl, ?_⟩) hHeld ?_ ?_
   rotate_left
   ·rintro w' ⟨s0, s1, s2⟩
    go_simp
    with_reducible rfl
   rotate_left
   ·simp only [Act.put, pa, pb, pc, i64_w, i32_w]
    rfl
   refine take_ (i := 4) (N := some 7) (v := ?_) (a' := ?_) #[Y,Y,N,Y,Y,Y,N,N,N,N,N,N,N,N,N,N,N,N,Y,N,N,N,N,N,N,N,N,N,N,N,N,N] rfl rfl (take_ofW HT_.out HW_.out kr) (fun _ _ _ h => h) (Or.inl ⟨by rfl, ?_⟩) hHeld ?_ ?_
   rotate_left
   ·rintro w' ⟨s0, s1, s2⟩
    go_simp
    with_reducible rfl
   rotate_left
   ·simp only [Act.put, pa, pb, pc, i64_w, i32_w]
    rfl
   refine take_ (i := 6) (N := some 9) (v := ?_) (a' := ?_) #[Y,Y,N,Y,Y,Y,Y,N,N,N,N,N,N,N,N,N,N,N,Y,N,N,N,N,N,N,N,N,N,N,N,N,N] rfl rfl (take_ofW HT_.out HW_.out kr) (fun _ _ _ h => h) (Or.inl ⟨by rfl, ?_⟩) hHeld ?_ ?_
   rotate_left
   ·rintro w' ⟨s0, s1, s2⟩
    go_simp
    with_reducible rfl
   rotate_left
   ·simp only [Act.put, pa, pb, pc, i64_w, i32_w]
    rfl
   refine take_ (i := 19) (N := some 22) (v := ?_) (a' := ?_) #[Y,Y,N,Y,Y,Y,Y,N,N,N,N,N,N,N,N,N,N,N,Y,Y,N,N,N,N,N,N,N,N,N,N,N,N] rfl rfl (take_ofW HT_.out HW_.out kr) (fun _ _ _ h => h) (Or.inl ⟨by rfl, ?_⟩) hHeld ?_ ?_
   rotate_left
   ·rintro w' ⟨s0, s1, s2⟩
    go_simp
    with_reducible rfl
   rotate_left
   ·simp only [Act.put, pa, pb, pc, i64_w, i32_w]
    rfl
   refine one_ (i := 2) (N := some 5) #[Y,Y,Y,Y,Y,Y,Y,N,N,N,N,N,N,N,N,N,N,N,Y,Y,N,N,N,N,N,N,N,N,N,N,N,N] rfl rfl (one_of HT_.out kr) (by decide) (fun K hK => ?_)
   refine goes_ Try.func55 kr rfl #[.int .i64 a0_0] (by rfl) rfl rfl mq ?_
   with_reducible refine (impl_SizeFault.calls a0_0 t386 _ A2.out).mono ?_
   rintro e w' ⟨rfl, ⟨nd, rfl⟩⟩
   refine ⟨_, rfl, ?_⟩
   refine hK.out _ _ ⟨(kC BK385.out 0).trans rfl, (kC BK385.out 1).trans rfl, (kC BK385.out 2).trans rfl⟩ (fun hHeld => ?_)
   clear hK K
   refine norm_ (a' := ?_) ?_ ?_
   rotate_left
   ·show Act.put _ (some 5) _ = _
    simp only [Act.put, pa, pb, pc, i64_w, i32_w]
    rfl
   refine one_ (i := 7) (N := some 10) #[Y,Y,Y,Y,Y,Y,Y,Y,N,N,N,N,N,N,N,N,N,N,Y,Y,N,N,N,N,N,N,N,N,N,N,N,N] rfl rfl (one_of HT_.out kr) (by decide) (fun K hK => ?_)
   refine goes_ Try.func95 kr rfl #[.slice A0_1 l0_1.length c0_1, .int .i64 a0_0] (by rfl) rfl rfl mq ?_
   with_reducible refine (impl_halfOf.calls _ _ l0_1 a0_0 false _ ?side1 ?side2 A3.out).mono ?_
   (case side1 => exact cq (cB HR0_1.out bq))
   (case side2 => exact HC0_1.out)
   rintro e w' ⟨rfl, ⟨nd, rfl⟩⟩
   refine ⟨_, rfl, ?_⟩
   refine hK.out _ _ ⟨(kC BK385.out 0).trans rfl, (kC BK385.out 1).trans rfl, (kC BK385.out 2).trans rfl⟩ (fun hHeld => ?_)
   clear hK K
   refine norm_ (a' := ?_) ?_ ?_
   rotate_left
   ·show Act.put _ (some 10) _ = _
    simp only [Act.put, pa, pb, pc, i64_w, i32_w]
    rfl
   refine pp HT_ (N := some 11) 8 #[Y,Y,Y,Y,Y,Y,Y,Y,Y,N,N,N,N,N,N,N,N,N,Y,Y,N,N,N,N,N,N,N,N,N,N,N,N] ?_
   refine pp HT_ (N := some 12) 9 #[Y,Y,Y,Y,Y,Y,Y,Y,Y,Y,N,N,N,N,N,N,N,N,Y,Y,N,N,N,N,N,N,N,N,N,N,N,N] ?_
   refine pp HT_ (N := some 13) (v := undef) 10 #[Y,Y,Y,Y,Y,Y,Y,Y,Y,Y,Y,N,N,N,N,N,N,N,Y,Y,N,N,N,N,N,N,N,N,N,N,N,N] ?_ (hy := Or.inr ⟨by rfl, rfl⟩)
   refine pp HT_ (N := some 14) (v := undef) 11 #[Y,Y,Y,Y,Y,Y,Y,Y,Y,Y,Y,Y,N,N,N,N,N,N,Y,Y,N,N,N,N,N,N,N,N,N,N,N,N] ?_ (hy := Or.inr ⟨by rfl, rfl⟩)
   refine pp HT_ (N := some 15) (v := undef) 12 #[Y,Y,Y,Y,Y,Y,Y,Y,Y,Y,Y,Y,Y,N,N,N,N,N,Y,Y,N,N,N,N,N,N,N,N,N,N,N,N] ?_ (hy := Or.inr ⟨by rfl, rfl⟩)
   refine pp HT_ (N := some 16) (v := undef) 13 #[Y,Y,Y,Y,Y,Y,Y,Y,Y,Y,Y,Y,Y,Y,N,N,N,N,Y,Y,N,N,N,N,N,N,N,N,N,N,N,N] ?_ (hy := Or.inr ⟨by rfl, rfl⟩)
   refine pp HT_ (N := some 17) (v := undef) 14 #[Y,Y,Y,Y,Y,Y,Y,Y,Y,Y,Y,Y,Y,Y,Y,N,N,N,Y,Y,N,N,N,N,N,N,N,N,N,N,N,N] ?_ (hy := Or.inr ⟨by rfl, rfl⟩)
   refine pp HT_ (N := some 18) (v := undef) 15 #[Y,Y,Y,Y,Y,Y,Y,Y,Y,Y,Y,Y,Y,Y,Y,Y,N,N,Y,Y,N,N,N,N,N,N,N,N,N,N,N,N] ?_ (hy := Or.inr ⟨by rfl, rfl⟩)
   refine pp HT_ (N := some 19) 16 #[Y,Y,Y,Y,Y,Y,Y,Y,Y,Y,Y,Y,Y,Y,Y,Y,Y,N,Y,Y,N,N,N,N,N,N,N,N,N,N,N,N] ?_
   refine one_ (i := 17) (N := some 20) #[Y,Y,Y,Y,Y,Y,Y,Y,Y,Y,Y,Y,Y,Y,Y,Y,Y,Y,Y,Y,N,N,N,N,N,N,N,N,N,N,N,N] rfl rfl (one_of HT_.out kr) (by decide) (fun K hK => ?_)
   refine goes_ Try.func56 kr rfl #[.bool true, .int .i64 2] (by rfl) rfl rfl mq ?_
   with_reducible refine (impl_codeIf.calls true 2 t402 _ A27.out).mono ?_
   rintro e w' ⟨rfl, ⟨nd, rfl⟩⟩
   refine ⟨_, rfl, ?_⟩
   refine hK.out _ _ ⟨(kC BK385.out 0).trans rfl, (kC BK385.out 1).trans rfl, (kC BK385.out 2).trans rfl⟩ (fun hHeld => ?_)
   clear hK K
   refine norm_ (a' := ?_) ?_ ?_
   rotate_left
   ·show Act.put _ (some 20) _ = _
    simp only [Act.put, pa, pb, pc, i64_w, i32_w]
    rfl
   refine one_ (i := 20) (N := some 23) #[Y,Y,Y,Y,Y,Y,Y,Y,Y,Y,Y,Y,Y,Y,Y,Y,Y,Y,Y,Y,Y,N,N,N,N,N,N,N,N,N,N,N] rfl rfl (one_of HT_.out kr) (by decide) (fun K hK => ?_)
   refine goes_ Try.func87 kr rfl #[.slice A0_1 l0_1.length c0_1, .int .i64 1073741824] (by rfl) rfl rfl mq ?_
   with_reducible refine (impl_allWithin.calls _ _ l0_1 1073741824 true _ ?side1 ?side2 A28.out).mono ?_
   (case side1 => exact cq (cB HR0_1.out bq))
   (case side2 => exact HC0_1.out)
   rintro e w35 ⟨rfl, hb⟩
   refine ⟨_, rfl, ?_⟩
   replace BK385 := aM (kB (kq BK385.out) hb)
   replace HB := aM (bT bq hb)
   (try clear hb)
   (try clear hb2)
   (try clear hk)
   (try clear hi)
   refine hK.out _ _ ⟨(kC BK385.out 0).trans rfl, (kC BK385.out 1).trans rfl, (kC BK385.out 2).trans rfl⟩ (fun hHeld => ?_)
   clear hK K
   refine norm_ (a' := ?_) ?_ ?_
   rotate_left
   ·show Act.put _ (some 23) _ = _
    simp only [Act.put, pa, pb, pc, i64_w, i32_w]
    rfl
   refine pp HT_ (N := some 24) 21 #[Y,Y,Y,Y,Y,Y,Y,Y,Y,Y,Y,Y,Y,Y,Y,Y,Y,Y,Y,Y,Y,Y,N,N,N,N,N,N,N,N,N,N] ?_
   refine pp HT_ (N := some 25) 22 #[Y,Y,Y,Y,Y,Y,Y,Y,Y,Y,Y,Y,Y,Y,Y,Y,Y,Y,Y,Y,Y,Y,Y,N,N,N,N,N,N,N,N,N] ?_
   refine pp HT_ (N := some 26) 23 #[Y,Y,Y,Y,Y,Y,Y,Y,Y,Y,Y,Y,Y,Y,Y,Y,Y,Y,Y,Y,Y,Y,Y,Y,N,N,N,N,N,N,N,N] ?_
   refine take_ (i := 24) (N := some 27) (v := ?_) (a' := ?_) #[Y,Y,Y,Y,Y,Y,Y,Y,Y,Y,Y,Y,Y,Y,Y,Y,Y,Y,Y,Y,Y,Y,Y,Y,Y,N,N,N,N,N,N,N] rfl rfl (take_ofW HT_.out HW_.out kr) (fun _ _ _ h => h) (Or.inl ⟨by rfl, ?_⟩) hHeld ?_ ?_
   rotate_left
   ·rintro w' ⟨s0, s1, s2⟩
    go_simp
    with_reducible rfl
   rotate_left
   ·simp only [Act.put, pa, pb, pc, i64_w, i32_w]
    rfl
   refine one_ (i := 25) (N := some 28) #[Y,Y,Y,Y,Y,Y,Y,Y,Y,Y,Y,Y,Y,Y,Y,Y,Y,Y,Y,Y,Y,Y,Y,Y,Y,Y,N,N,N,N,N,N] rfl rfl (one_of HT_.out kr) (by decide) (fun K hK => ?_)
   refine goes_ Try.func87 kr rfl #[.slice A0_2 l0_2.length c0_2, .int .i64 268435456] (by rfl) rfl rfl mq ?_
   with_reducible refine (impl_allWithin.calls _ _ l0_2 268435456 t404 _ ?side1 ?side2 A30.out).mono ?_
   (case side1 => exact cq (cB HR0_2.out HB.out))
   (case side2 => exact HC0_2.out)
   rintro e w36 ⟨rfl, hb⟩
   refine ⟨_, rfl, ?_⟩
   replace BK385 := aM (kB (kq BK385.out) hb)
   replace HB := aM (bT bq hb)
   (try clear hb)
   (try clear hb2)
   (try clear hk)
   (try clear hi)
   refine hK.out _ _ ⟨(kC BK385.out 0).trans rfl, (kC BK385.out 1).trans rfl, (kC BK385.out 2).trans rfl⟩ (fun hHeld => ?_)
   clear hK K
   refine norm_ (a' := ?_) ?_ ?_
   rotate_left
   ·show Act.put _ (some 28) _ = _
    simp only [Act.put, pa, pb, pc, i64_w, i32_w]
    rfl
   refine pp HT_ (N := some 29) 26 #[Y,Y,Y,Y,Y,Y,Y,Y,Y,Y,Y,Y,Y,Y,Y,Y,Y,Y,Y,Y,Y,Y,Y,Y,Y,Y,Y,N,N,N,N,N] ?_
   refine pp HT_ (N := some 30) 27 #[Y,Y,Y,Y,Y,Y,Y,Y,Y,Y,Y,Y,Y,Y,Y,Y,Y,Y,Y,Y,Y,Y,Y,Y,Y,Y,Y,Y,N,N,N,N] ?_
   refine one_ (i := 28) (N := some 31) #[Y,Y,Y,Y,Y,Y,Y,Y,Y,Y,Y,Y,Y,Y,Y,Y,Y,Y,Y,Y,Y,Y,Y,Y,Y,Y,Y,Y,Y,N,N,N] rfl rfl (one_of HT_.out kr) (by decide) (fun K hK => ?_)
   refine goes_ Try.func56 kr rfl #[.bool (!t404), .int .i64 3] (by rfl) rfl rfl mq ?_
   with_reducible refine (impl_codeIf.calls (!t404) 3 t405 _ A31.out).mono ?_
   rintro e w' ⟨rfl, ⟨nd, rfl⟩⟩
   refine ⟨_, rfl, ?_⟩
   refine hK.out _ _ ⟨(kC BK385.out 0).trans rfl, (kC BK385.out 1).trans rfl, (kC BK385.out 2).trans rfl⟩ (fun hHeld => ?_)
   clear hK K
   refine norm_ (a' := ?_) ?_ ?_
   rotate_left
   ·show Act.put _ (some 31) _ = _
    simp only [Act.put, pa, pb, pc, i64_w, i32_w]
    rfl
   refine one_ (i := 29) (N := some 32) #[Y,Y,Y,Y,Y,Y,Y,Y,Y,Y,Y,Y,Y,Y,Y,Y,Y,Y,Y,Y,Y,Y,Y,Y,Y,Y,Y,Y,Y,Y,N,N] rfl rfl (one_of HT_.out kr) (by decide) (fun K hK => ?_)
   refine Kd.R_lit_step (Kd.int .i64) _ 2 ?hg (N := 32) ?hd (xs := ([t386, t402, t405] : List Int)) (inner := [.int .i64 t386, .int .i64 t402, .int .i64 t405]) (ok := fun _ => True) (okp := fun _ => True) ?hr ?hp (fun _ hk => hk) trivial (Below.refl _ _) (Nat.le_refl _) (by simp) ?_; (case hd => rfl); (case hg => rfl); (case hr => first | (go_simp; done) | (go_simp; rfl)); (case hp => exact (Reps.one (show Kd.M (Kd.int .i64) _ _ _ t386 [.int .i64 t386] from rfl) (Reps.one (show Kd.M (Kd.int .i64) _ _ _ t402 [.int .i64 t402] from rfl) (Reps.one (show Kd.M (Kd.int .i64) _ _ _ t405 [.int .i64 t405] from rfl) (Reps.none _ _)))))
   intro v407 w37 ho38 hb hg_ hnew_
   clear hg_ hnew_
   (first | rw [← Ny406.out] at ho38 | (simp only [Int.reduceToNat] at ho38; rw [← Ny406.out] at ho38))
   have HO408 := aM (rG ho38 (bZ bq))
   replace BK385 := aM (kB (kq BK385.out) hb)
   replace HB := aM (bT bq hb)
   clear hb ho38
   obtain ⟨Ao39, co39, eo39⟩ := Kd.R_slice HO408.out
   (first | subst eo39 | (injection eo39 with f1_ f2_ f3_; have f4_ := f1_.symm; have f5_ := f3_.symm; clear f1_ f2_ f3_; subst f4_; subst f5_))
   refine hK.out _ _ ⟨(kC BK385.out 0).trans rfl, (kC BK385.out 1).trans rfl, (kC BK385.out 2).trans rfl⟩ (fun hHeld => ?_)
   clear hK K
   refine norm_ (a' := ?_) ?_ ?_
   rotate_left
   ·show Act.put _ (some 32) _ = _
    simp only [Act.put, pa, pb, pc, i64_w, i32_w]
    rfl
   refine one_ (i := 30) (N := some 33) #[Y,Y,Y,Y,Y,Y,Y,Y,Y,Y,Y,Y,Y,Y,Y,Y,Y,Y,Y,Y,Y,Y,Y,Y,Y,Y,Y,Y,Y,Y,Y,N] rfl rfl (one_of HT_.out kr) (by decide) (fun K hK => ?_)
   refine goes_ Try.func54 kr rfl #[.slice Ao39 y406.length co39] (by rfl) rfl rfl mq ?_
   with_reducible refine (impl_first.calls k _ _ y406 t409 _ ?side1 ?side2 A32.out).mono ?_
   (case side1 => exact cq (rR HO408.out).2.2)
   (case side2 => exact (rR HO408.out).2.1)
   rintro e w' ⟨rfl, ⟨nd, rfl⟩⟩
   refine ⟨_, rfl, ?_⟩
   refine hK.out _ _ ⟨(kC BK385.out 0).trans rfl, (kC BK385.out 1).trans rfl, (kC BK385.out 2).trans rfl⟩ (fun hHeld => ?_)
   clear hK K
   refine norm_ (a' := ?_) ?_ ?_
   rotate_left
   ·show Act.put _ (some 33) _ = _
    simp only [Act.put, pa, pb, pc, i64_w, i32_w]
    rfl
   refine pp HT_ (N := some 2) 31 #[Y,Y,Y,Y,Y,Y,Y,Y,Y,Y,Y,Y,Y,Y,Y,Y,Y,Y,Y,Y,Y,Y,Y,Y,Y,Y,Y,Y,Y,Y,Y,Y] ?_
   refine done_ (done_of HT_.out kr) ?_
   try go_wp2
   go_ret
   exact ⟨ew, bq⟩
  ·replace c29 := Bool.eq_false_iff.mpr c29
   subst c29
   have H1 : ((impl_codeIf.f true 3).bind fun t410 => ((impl_first.f k (([t386, t402, t410] : List Int))).bind fun t414 => (some t414))) = some r := by rw [if_neg (show ¬ (false = true) by decide)] at H; exact H
   clear H
   have H := H1
   clear H1
   replace H := Option.bind_eq_some_iff.mp H
   obtain ⟨t410, A400, H⟩ := H
   replace H : ((impl_first.f k (([t386, t402, t410] : List Int))).bind fun t414 => (some t414)) = some r := H
   have A40 := aM A400
   clear A400
   obtain ⟨y411, hy411⟩ : ∃ y_ : List Int, y_ = (([t386, t402, t410] : List Int)) := ⟨_, rfl⟩
   replace H : ((impl_first.f k y411).bind fun t414 => (some t414)) = some r := by first | (rw [hy411]; with_reducible exact H) | (have H2_ := (Option.bind_some _ _).symm.trans H; rw [hy411]; with_reducible exact H2_) | (have H2_ := (Option.bind_some _ _).symm.trans H; with_reducible exact H2_) | with_reducible exact H | (rw [hy411]; exact H) | exact H
   have Ny411 := aM hy411
   clear hy411
   replace H := Option.bind_eq_some_iff.mp H
   obtain ⟨t414, A410, H⟩ := H
   replace H : (some t414) = some r := H
   have A41 := aM A410
   clear A410
   obtain rfl := Option.some.inj H
   go_enter Try.func46, Try.ntmps46
   try go_wp2_with (first | ((with_reducible refine gate_dst (N := 1) rfl ?_); refine box_event ?hg (N := 1) ?hd (cs := #[.int .i64 a0_0, .slice A0_1 l0_1.length c0_1, .slice A0_2 l0_2.length c0_2]) (t := 35) ?hr ?_; (case hd => rfl); (case hg => rfl); (case hr => first | (go_simp; done) | (go_simp; rfl)); intro gb385 hg w42 hbox hb; have BK385 := aM (hbox); have GW385 := aM ((by rw [hg]; exact (bZ bq) : w.heap.size ≤ gb385)); have GE385 := aM ((by rw [hg]; exact (bZ bq) : w.heap.size ≤ gb385)); replace HB := aM (bT bq hb); clear hb hbox hg))
   replace BK385 := aM (kD BK385.out)
   replace HB := aM (bD HB.out)
   refine start_ (n := 32) (S := fun w' => w'.cell? ⟨gb385, 0, none⟩ = some (.int .i64 a0_0) ∧ w'.cell? ⟨gb385, 1, none⟩ = some (.slice A0_1 l0_1.length c0_1) ∧ w'.cell? ⟨gb385, 2, none⟩ = some (.slice A0_2 l0_2.length c0_2)) (ds := []) #[N,N,N,N,N,N,N,N,N,N,N,N,N,N,N,N,N,N,N,N,N,N,N,N,N,N,N,N,N,N,N,N] kr rfl rfl ⟨(kC BK385.out 0).trans rfl, (kC BK385.out 1).trans rfl, (kC BK385.out 2).trans rfl⟩ (fun hHeld => ?_); refine with_tabW impl_SynthFault.tab1 impl_SynthFault.bits1 (fun HT_ HW_ => ?_)
   generalize w42.drew = w43 at BK385 HB hHeld ⊢
   refine pp HT_ (N := some 3) 0 #[Y,N,N,N,N,N,N,N,N,N,N,N,N,N,N,N,N,N,N,N,N,N,N,N,N,N,N,N,N,N,N,N] ?_
   refine pp HT_ (N := some 6) 3 #[Y,N,N,Y,N,N,N,N,N,N,N,N,N,N,N,N,N,N,N,N,N,N,N,N,N,N,N,N,N,N,N,N] ?_
   refine pp HT_ (N := some 8) 5 #[Y,N,N,Y,N,Y,N,N,N,N,N,N,N,N,N,N,N,N,N,N,N,N,N,N,N,N,N,N,N,N,N,N] ?_
   refine pp HT_ (N := some 21) 18 #[Y,N,N,Y,N,Y,N,N,N,N,N,N,N,N,N,N,N,N,Y,N,N,N,N,N,N,N,N,N,N,N,N,N] ?_
   refine take_ (i := 1) (N := some 4) (v := ?_) (a' := ?_) #[Y,Y,N,Y,N,Y,N,N,N,N,N,N,N,N,N,N,N,N,Y,N,N,N,N,N,N,N,N,N,N,N,N,N] rfl rfl (take_ofW HT_.out HW_.out kr) (fun _ _ _ h => h) (Or.inl ⟨by rfl, ?_⟩) hHeld ?_ ?_
   rotate_left
   ·rintro w' ⟨s0, s1, s2⟩
    go_simp
    with_reducible rfl
   rotate_left
   ·simp only [Act.put, pa, pb, pc, i64_w, i32_w]
    rfl
   refine take_ (i := 4) (N := some 7) (v := ?_) (a' := ?_) #[Y,Y,N,Y,Y,Y,N,N,N,N,N,N,N,N,N,N,N,N,Y,N,N,N,N,N,N,N,N,N,N,N,N,N] rfl rfl (take_ofW HT_.out HW_.out kr) (fun _ _ _ h => h) (Or.inl ⟨by rfl, ?_⟩) hHeld ?_ ?_
   rotate_left
   ·rintro w' ⟨s0, s1, s2⟩
    go_simp
    with_reducible rfl
   rotate_left
   ·simp only [Act.put, pa, pb, pc, i64_w, i32_w]
    rfl
   refine take_ (i := 6) (N := some 9) (v := ?_) (a' := ?_) #[Y,Y,N,Y,Y,Y,Y,N,N,N,N,N,N,N,N,N,N,N,Y,N,N,N,N,N,N,N,N,N,N,N,N,N] rfl rfl (take_ofW HT_.out HW_.out kr) (fun _ _ _ h => h) (Or.inl ⟨by rfl, ?_⟩) hHeld ?_ ?_
   rotate_left
   ·rintro w' ⟨s0, s1, s2⟩
    go_simp
    with_reducible rfl
   rotate_left
   ·simp only [Act.put, pa, pb, pc, i64_w, i32_w]
    rfl
   refine take_ (i := 19) (N := some 22) (v := ?_) (a' := ?_) #[Y,Y,N,Y,Y,Y,Y,N,N,N,N,N,N,N,N,N,N,N,Y,Y,N,N,N,N,N,N,N,N,N,N,N,N] rfl rfl (take_ofW HT_.out HW_.out kr) (fun _ _ _ h => h) (Or.inl ⟨by rfl, ?_⟩) hHeld ?_ ?_
   rotate_left
   ·rintro w' ⟨s0, s1, s2⟩
    go_simp
    with_reducible rfl
   rotate_left
   ·simp only [Act.put, pa, pb, pc, i64_w, i32_w]
    rfl
   refine one_ (i := 2) (N := some 5) #[Y,Y,Y,Y,Y,Y,Y,N,N,N,N,N,N,N,N,N,N,N,Y,Y,N,N,N,N,N,N,N,N,N,N,N,N] rfl rfl (one_of HT_.out kr) (by decide) (fun K hK => ?_)
   refine goes_ Try.func55 kr rfl #[.int .i64 a0_0] (by rfl) rfl rfl mq ?_
   with_reducible refine (impl_SizeFault.calls a0_0 t386 _ A2.out).mono ?_
   rintro e w' ⟨rfl, ⟨nd, rfl⟩⟩
   refine ⟨_, rfl, ?_⟩
   refine hK.out _ _ ⟨(kC BK385.out 0).trans rfl, (kC BK385.out 1).trans rfl, (kC BK385.out 2).trans rfl⟩ (fun hHeld => ?_)
   clear hK K
   refine norm_ (a' := ?_) ?_ ?_
   rotate_left
   ·show Act.put _ (some 5) _ = _
    simp only [Act.put, pa, pb, pc, i64_w, i32_w]
    rfl
   refine one_ (i := 7) (N := some 10) #[Y,Y,Y,Y,Y,Y,Y,Y,N,N,N,N,N,N,N,N,N,N,Y,Y,N,N,N,N,N,N,N,N,N,N,N,N] rfl rfl (one_of HT_.out kr) (by decide) (fun K hK => ?_)
   refine goes_ Try.func95 kr rfl #[.slice A0_1 l0_1.length c0_1, .int .i64 a0_0] (by rfl) rfl rfl mq ?_
   with_reducible refine (impl_halfOf.calls _ _ l0_1 a0_0 false _ ?side1 ?side2 A3.out).mono ?_
   (case side1 => exact cq (cB HR0_1.out bq))
   (case side2 => exact HC0_1.out)
   rintro e w' ⟨rfl, ⟨nd, rfl⟩⟩
   refine ⟨_, rfl, ?_⟩
   refine hK.out _ _ ⟨(kC BK385.out 0).trans rfl, (kC BK385.out 1).trans rfl, (kC BK385.out 2).trans rfl⟩ (fun hHeld => ?_)
   clear hK K
   refine norm_ (a' := ?_) ?_ ?_
   rotate_left
   ·show Act.put _ (some 10) _ = _
    simp only [Act.put, pa, pb, pc, i64_w, i32_w]
    rfl
   refine pp HT_ (N := some 11) 8 #[Y,Y,Y,Y,Y,Y,Y,Y,Y,N,N,N,N,N,N,N,N,N,Y,Y,N,N,N,N,N,N,N,N,N,N,N,N] ?_
   refine pp HT_ (N := some 12) 9 #[Y,Y,Y,Y,Y,Y,Y,Y,Y,Y,N,N,N,N,N,N,N,N,Y,Y,N,N,N,N,N,N,N,N,N,N,N,N] ?_
   refine pp HT_ (N := some 13) (v := undef) 10 #[Y,Y,Y,Y,Y,Y,Y,Y,Y,Y,Y,N,N,N,N,N,N,N,Y,Y,N,N,N,N,N,N,N,N,N,N,N,N] ?_ (hy := Or.inr ⟨by rfl, rfl⟩)
   refine pp HT_ (N := some 14) (v := undef) 11 #[Y,Y,Y,Y,Y,Y,Y,Y,Y,Y,Y,Y,N,N,N,N,N,N,Y,Y,N,N,N,N,N,N,N,N,N,N,N,N] ?_ (hy := Or.inr ⟨by rfl, rfl⟩)
   refine pp HT_ (N := some 15) (v := undef) 12 #[Y,Y,Y,Y,Y,Y,Y,Y,Y,Y,Y,Y,Y,N,N,N,N,N,Y,Y,N,N,N,N,N,N,N,N,N,N,N,N] ?_ (hy := Or.inr ⟨by rfl, rfl⟩)
   refine pp HT_ (N := some 16) (v := undef) 13 #[Y,Y,Y,Y,Y,Y,Y,Y,Y,Y,Y,Y,Y,Y,N,N,N,N,Y,Y,N,N,N,N,N,N,N,N,N,N,N,N] ?_ (hy := Or.inr ⟨by rfl, rfl⟩)
   refine pp HT_ (N := some 17) (v := undef) 14 #[Y,Y,Y,Y,Y,Y,Y,Y,Y,Y,Y,Y,Y,Y,Y,N,N,N,Y,Y,N,N,N,N,N,N,N,N,N,N,N,N] ?_ (hy := Or.inr ⟨by rfl, rfl⟩)
   refine pp HT_ (N := some 18) (v := undef) 15 #[Y,Y,Y,Y,Y,Y,Y,Y,Y,Y,Y,Y,Y,Y,Y,Y,N,N,Y,Y,N,N,N,N,N,N,N,N,N,N,N,N] ?_ (hy := Or.inr ⟨by rfl, rfl⟩)
   refine pp HT_ (N := some 19) 16 #[Y,Y,Y,Y,Y,Y,Y,Y,Y,Y,Y,Y,Y,Y,Y,Y,Y,N,Y,Y,N,N,N,N,N,N,N,N,N,N,N,N] ?_
   refine one_ (i := 17) (N := some 20) #[Y,Y,Y,Y,Y,Y,Y,Y,Y,Y,Y,Y,Y,Y,Y,Y,Y,Y,Y,Y,N,N,N,N,N,N,N,N,N,N,N,N] rfl rfl (one_of HT_.out kr) (by decide) (fun K hK => ?_)
   refine goes_ Try.func56 kr rfl #[.bool true, .int .i64 2] (by rfl) rfl rfl mq ?_
   with_reducible refine (impl_codeIf.calls true 2 t402 _ A27.out).mono ?_
   rintro e w' ⟨rfl, ⟨nd, rfl⟩⟩
   refine ⟨_, rfl, ?_⟩
   refine hK.out _ _ ⟨(kC BK385.out 0).trans rfl, (kC BK385.out 1).trans rfl, (kC BK385.out 2).trans rfl⟩ (fun hHeld => ?_)
   clear hK K
   refine norm_ (a' := ?_) ?_ ?_
   rotate_left
   ·show Act.put _ (some 20) _ = _
    simp only [Act.put, pa, pb, pc, i64_w, i32_w]
    rfl
   refine one_ (i := 20) (N := some 23) #[Y,Y,Y,Y,Y,Y,Y,Y,Y,Y,Y,Y,Y,Y,Y,Y,Y,Y,Y,Y,Y,N,N,N,N,N,N,N,N,N,N,N] rfl rfl (one_of HT_.out kr) (by decide) (fun K hK => ?_)
   refine goes_ Try.func87 kr rfl #[.slice A0_1 l0_1.length c0_1, .int .i64 1073741824] (by rfl) rfl rfl mq ?_
   with_reducible refine (impl_allWithin.calls _ _ l0_1 1073741824 false _ ?side1 ?side2 A28.out).mono ?_
   (case side1 => exact cq (cB HR0_1.out bq))
   (case side2 => exact HC0_1.out)
   rintro e w44 ⟨rfl, hb⟩
   refine ⟨_, rfl, ?_⟩
   replace BK385 := aM (kB (kq BK385.out) hb)
   replace HB := aM (bT bq hb)
   (try clear hb)
   (try clear hb2)
   (try clear hk)
   (try clear hi)
   refine hK.out _ _ ⟨(kC BK385.out 0).trans rfl, (kC BK385.out 1).trans rfl, (kC BK385.out 2).trans rfl⟩ (fun hHeld => ?_)
   clear hK K
   refine norm_ (a' := ?_) ?_ ?_
   rotate_left
   ·show Act.put _ (some 23) _ = _
    simp only [Act.put, pa, pb, pc, i64_w, i32_w]
    rfl
   refine pp HT_ (N := some 24) 21 #[Y,Y,Y,Y,Y,Y,Y,Y,Y,Y,Y,Y,Y,Y,Y,Y,Y,Y,Y,Y,Y,Y,N,N,N,N,N,N,N,N,N,N] ?_
   refine pp HT_ (N := some 25) 22 #[Y,Y,Y,Y,Y,Y,Y,Y,Y,Y,Y,Y,Y,Y,Y,Y,Y,Y,Y,Y,Y,Y,Y,N,N,N,N,N,N,N,N,N] ?_
   refine pp HT_ (N := some 26) (v := undef) 23 #[Y,Y,Y,Y,Y,Y,Y,Y,Y,Y,Y,Y,Y,Y,Y,Y,Y,Y,Y,Y,Y,Y,Y,Y,N,N,N,N,N,N,N,N] ?_ (hy := Or.inr ⟨by rfl, rfl⟩)
   refine pp HT_ (N := some 27) (v := undef) 24 #[Y,Y,Y,Y,Y,Y,Y,Y,Y,Y,Y,Y,Y,Y,Y,Y,Y,Y,Y,Y,Y,Y,Y,Y,Y,N,N,N,N,N,N,N] ?_ (hy := Or.inr ⟨by rfl, rfl⟩)
   refine pp HT_ (N := some 28) (v := undef) 25 #[Y,Y,Y,Y,Y,Y,Y,Y,Y,Y,Y,Y,Y,Y,Y,Y,Y,Y,Y,Y,Y,Y,Y,Y,Y,Y,N,N,N,N,N,N] ?_ (hy := Or.inr ⟨by rfl, rfl⟩)
   refine pp HT_ (N := some 29) (v := undef) 26 #[Y,Y,Y,Y,Y,Y,Y,Y,Y,Y,Y,Y,Y,Y,Y,Y,Y,Y,Y,Y,Y,Y,Y,Y,Y,Y,Y,N,N,N,N,N] ?_ (hy := Or.inr ⟨by rfl, rfl⟩)
   refine pp HT_ (N := some 30) 27 #[Y,Y,Y,Y,Y,Y,Y,Y,Y,Y,Y,Y,Y,Y,Y,Y,Y,Y,Y,Y,Y,Y,Y,Y,Y,Y,Y,Y,N,N,N,N] ?_
   refine one_ (i := 28) (N := some 31) #[Y,Y,Y,Y,Y,Y,Y,Y,Y,Y,Y,Y,Y,Y,Y,Y,Y,Y,Y,Y,Y,Y,Y,Y,Y,Y,Y,Y,Y,N,N,N] rfl rfl (one_of HT_.out kr) (by decide) (fun K hK => ?_)
   refine goes_ Try.func56 kr rfl #[.bool true, .int .i64 3] (by rfl) rfl rfl mq ?_
   with_reducible refine (impl_codeIf.calls true 3 t410 _ A40.out).mono ?_
   rintro e w' ⟨rfl, ⟨nd, rfl⟩⟩
   refine ⟨_, rfl, ?_⟩
   refine hK.out _ _ ⟨(kC BK385.out 0).trans rfl, (kC BK385.out 1).trans rfl, (kC BK385.out 2).trans rfl⟩ (fun hHeld => ?_)
   clear hK K
   refine norm_ (a' := ?_) ?_ ?_
   rotate_left
   ·show Act.put _ (some 31) _ = _
    simp only [Act.put, pa, pb, pc, i64_w, i32_w]
    rfl
   refine one_ (i := 29) (N := some 32) #[Y,Y,Y,Y,Y,Y,Y,Y,Y,Y,Y,Y,Y,Y,Y,Y,Y,Y,Y,Y,Y,Y,Y,Y,Y,Y,Y,Y,Y,Y,N,N] rfl rfl (one_of HT_.out kr) (by decide) (fun K hK => ?_)
   refine Kd.R_lit_step (Kd.int .i64) _ 2 ?hg (N := 32) ?hd (xs := ([t386, t402, t410] : List Int)) (inner := [.int .i64 t386, .int .i64 t402, .int .i64 t410]) (ok := fun _ => True) (okp := fun _ => True) ?hr ?hp (fun _ hk => hk) trivial (Below.refl _ _) (Nat.le_refl _) (by simp) ?_; (case hd => rfl); (case hg => rfl); (case hr => first | (go_simp; done) | (go_simp; rfl)); (case hp => exact (Reps.one (show Kd.M (Kd.int .i64) _ _ _ t386 [.int .i64 t386] from rfl) (Reps.one (show Kd.M (Kd.int .i64) _ _ _ t402 [.int .i64 t402] from rfl) (Reps.one (show Kd.M (Kd.int .i64) _ _ _ t410 [.int .i64 t410] from rfl) (Reps.none _ _)))))
   intro v412 w45 ho46 hb hg_ hnew_
   clear hg_ hnew_
   (first | rw [← Ny411.out] at ho46 | (simp only [Int.reduceToNat] at ho46; rw [← Ny411.out] at ho46))
   have HO413 := aM (rG ho46 (bZ bq))
   replace BK385 := aM (kB (kq BK385.out) hb)
   replace HB := aM (bT bq hb)
   clear hb ho46
   obtain ⟨Ao47, co47, eo47⟩ := Kd.R_slice HO413.out
   (first | subst eo47 | (injection eo47 with f1_ f2_ f3_; have f4_ := f1_.symm; have f5_ := f3_.symm; clear f1_ f2_ f3_; subst f4_; subst f5_))
   refine hK.out _ _ ⟨(kC BK385.out 0).trans rfl, (kC BK385.out 1).trans rfl, (kC BK385.out 2).trans rfl⟩ (fun hHeld => ?_)
   clear hK K
   refine norm_ (a' := ?_) ?_ ?_
   rotate_left
   ·show Act.put _ (some 32) _ = _
    simp only [Act.put, pa, pb, pc, i64_w, i32_w]
    rfl
   refine one_ (i := 30) (N := some 33) #[Y,Y,Y,Y,Y,Y,Y,Y,Y,Y,Y,Y,Y,Y,Y,Y,Y,Y,Y,Y,Y,Y,Y,Y,Y,Y,Y,Y,Y,Y,Y,N] rfl rfl (one_of HT_.out kr) (by decide) (fun K hK => ?_)
   refine goes_ Try.func54 kr rfl #[.slice Ao47 y411.length co47] (by rfl) rfl rfl mq ?_
   with_reducible refine (impl_first.calls k _ _ y411 t414 _ ?side1 ?side2 A41.out).mono ?_
   (case side1 => exact cq (rR HO413.out).2.2)
   (case side2 => exact (rR HO413.out).2.1)
   rintro e w' ⟨rfl, ⟨nd, rfl⟩⟩
   refine ⟨_, rfl, ?_⟩
   refine hK.out _ _ ⟨(kC BK385.out 0).trans rfl, (kC BK385.out 1).trans rfl, (kC BK385.out 2).trans rfl⟩ (fun hHeld => ?_)
   clear hK K
   refine norm_ (a' := ?_) ?_ ?_
   rotate_left
   ·show Act.put _ (some 33) _ = _
    simp only [Act.put, pa, pb, pc, i64_w, i32_w]
    rfl
   refine pp HT_ (N := some 2) 31 #[Y,Y,Y,Y,Y,Y,Y,Y,Y,Y,Y,Y,Y,Y,Y,Y,Y,Y,Y,Y,Y,Y,Y,Y,Y,Y,Y,Y,Y,Y,Y,Y] ?_
   refine done_ (done_of HT_.out kr) ?_
   try go_wp2
   go_ret
   exact ⟨ew, bq⟩

end Go.Proofs.Ytmhnpogjkbmmnaa.PFnFrameBounds
