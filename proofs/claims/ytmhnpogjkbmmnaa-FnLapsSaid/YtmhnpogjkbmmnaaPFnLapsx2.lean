-- Written by a program of this session: wip/mkprint.py over the kit's print, with contracts proved by hand (wip/given.py)
-- shortest of all
-- told shortest
-- told shorter still
-- shortened
-- told short
-- worlds by letters
-- squeezed
import Derived.Test.YtmhnpogjkbmmnaaPFnLapsx0
import Derived.Test.YtmhnpogjkbmmnaaPFnLapsx1
namespace Go.Proofs.Ytmhnpogjkbmmnaa.PFnLaps
open Go.RowKit Go.Proofs.YtmhnpogjkbmmnaaW.PrintWords Go.Proofs.YtmhnpogjkbmmnaaW.PrintLast Go.Proofs.YtmhnpogjkbmmnaaW.PrintMore
open Go.Proofs.YtmhnpogjkbmmnaaW.PrintWords.Kd renaming R_lower → rG, R_reads' → rR, C_below → cB
open Go.Proofs.YtmhnpogjkbmmnaaW.PrintWords renaming below_drew1 → bD, below_step → bT, below_size → bZ, blk_drew → kD, blk_below → kB, blk_cell → kC
open Go.Proofs.YtmhnpogjkbmmnaaW.PrintWords.Aside0 renaming mk → aM
attribute [local go_sem] max2_int min2_int max_two min_two max_three min_three max_four min_four   -- for this text's walks alone
set_option linter.unusedVariables false
set_option linter.unusedSimpArgs false

/-! ### impl_SynthFault: function 46 -/
def impl_SynthFault.f (k : Nat) (a0_0 : Int) (l0_1 : List Int) (l0_2 : List Int) : Option (Int) := (impl_SizeFault.f a0_0).bind fun t104 => ((impl_halfOf.f l0_1 a0_0).bind fun t105 => (if t105 = true then ((impl_halfOf.f l0_2 a0_0).bind fun t106 => ((impl_codeIf.f (!t106) 2).bind fun t107 => ((impl_allWithin.f l0_1 1073741824).bind fun t108 => (if t108 = true then ((impl_allWithin.f l0_2 268435456).bind fun t109 => ((impl_codeIf.f (!t109) 3).bind fun t110 => ((impl_first.f k (([t104, t107, t110] : List Int))).bind fun t114 => (some t114)))) else ((impl_codeIf.f true 3).bind fun t115 => ((impl_first.f k (([t104, t107, t115] : List Int))).bind fun t119 => (some t119))))))) else ((impl_codeIf.f true 2).bind fun t120 => ((impl_allWithin.f l0_1 1073741824).bind fun t121 => (if t121 = true then ((impl_allWithin.f l0_2 268435456).bind fun t122 => ((impl_codeIf.f (!t122) 3).bind fun t123 => ((impl_first.f k (([t104, t120, t123] : List Int))).bind fun t127 => (some t127)))) else ((impl_codeIf.f true 3).bind fun t128 => ((impl_first.f k (([t104, t120, t128] : List Int))).bind fun t132 => (some t132))))))))
theorem impl_SynthFault.mono : ∀ a0 a1 a2 k, LeO (impl_SynthFault.f k a0 a1 a2) (impl_SynthFault.f (k + 1) a0 a1 a2) := by
 intro a0 a1 a2 k
 unfold impl_SynthFault.f
 repeat' first
   | (with_reducible exact impl_first.mono _ _)
   | (with_reducible exact LeO.refl _)
   | (with_reducible exact LeO.none _)
   | (with_reducible refine LeO.ite ?_ ?_)
   | (with_reducible refine LeO.bind ?_ (fun _ => ?_))
   | exact impl_first.mono _ _
   | exact LeO.none _
   | refine LeO.ite ?_ ?_
   | refine LeO.bind ?_ (fun _ => ?_)
def impl_SynthFault.T1 : Bool × List (List Nat × List Nat) := (true, [([], []), ([0], [0]), ([1], [1]), ([], []), ([3], [3]), ([], []), ([5], [5]), ([4, 6, 2], [4, 6]), ([7], [7]), ([8, 7], [8]), ([9], [9]), ([10, 9], [9, 10]), ([9], [9]), ([12, 9], [9, 12]), ([11, 13, 9, 9], [9, 11, 13]), ([14, 9], [9, 14]), ([9, 15], [9, 15]), ([16, 14], [16]), ([], []), ([18], [18]), ([19, 17], [19]), ([20], [20]), ([21, 20], [21]), ([22], [22]), ([23, 22], [22, 23]), ([24, 22, 22], [22, 24]), ([25, 22], [22, 25]), ([22, 26], [22, 26]), ([27, 25], [27]), ([2, 17, 28], [2, 17, 28]), ([29, 28], [29]), ([30, 30, 0, 1, 2, 3, 4, 5, 6, 7, 8, 9, 10, 11, 12, 13, 14, 15, 16, 17, 18, 19, 20, 21, 22, 23, 24, 25, 26, 27, 28, 29, 30], [30])])
def impl_SynthFault.B1 : List Nat := [0, 1, 3, 0, 8, 0, 32, 127, 255, 511, 1023, 2047, 1023, 5119, 16383, 32767, 65535, 131071, 0, 262144, 1048575, 2097151, 4194303, 8388607, 16777215, 33554431, 67108863, 134217727, 268435455, 536870911, 1073741823, 2147483647]
theorem impl_SynthFault.tab1 : rtab .any (opsOf Try.f46 1) = impl_SynthFault.T1 := by kernel_rfl
theorem impl_SynthFault.bits1 : waitsOk impl_SynthFault.T1.2 impl_SynthFault.B1 = true := by kernel_rfl
set_option maxHeartbeats 8000000 in
set_option maxRecDepth 100000 in
theorem impl_SynthFault.calls (k : Nat) (a0_0 : Int) (A0_1 : Option Addr) (c0_1 : Nat) (l0_1 : List Int) (A0_2 : Option Addr) (c0_2 : Nat) (l0_2 : List Int) (r : Int) (w : World) (hr0_1 : Kd.C (Kd.int .i64) w A0_1 l0_1.length l0_1) (hc0_1 : l0_1.length ≤ c0_1) (hr0_2 : Kd.C (Kd.int .i64) w A0_2 l0_2.length l0_2) (hc0_2 : l0_2.length ≤ c0_2) (h : impl_SynthFault.f k a0_0 l0_1 l0_2 = some r) :
  Calls Try.prog 46 #[.agg #[.int .i64 a0_0, .slice A0_1 l0_1.length c0_1, .slice A0_2 l0_2.length c0_2]] w fun e w' => e = .returned (.int .i64 r) ∧ Below w.heap.size w w' := by
 have hu35 := Try.underlying35
 have HR0_1 := aM hr0_1
 have HC0_1 := aM hc0_1
 clear hr0_1 hc0_1
 have HR0_2 := aM hr0_2
 have HC0_2 := aM hc0_2
 clear hr0_2 hc0_2
 have HB := aM (Below.refl w.heap.size w)
 have H : ((impl_SizeFault.f a0_0).bind fun t104 => ((impl_halfOf.f l0_1 a0_0).bind fun t105 => (if t105 = true then ((impl_halfOf.f l0_2 a0_0).bind fun t106 => ((impl_codeIf.f (!t106) 2).bind fun t107 => ((impl_allWithin.f l0_1 1073741824).bind fun t108 => (if t108 = true then ((impl_allWithin.f l0_2 268435456).bind fun t109 => ((impl_codeIf.f (!t109) 3).bind fun t110 => ((impl_first.f k (([t104, t107, t110] : List Int))).bind fun t114 => (some t114)))) else ((impl_codeIf.f true 3).bind fun t115 => ((impl_first.f k (([t104, t107, t115] : List Int))).bind fun t119 => (some t119))))))) else ((impl_codeIf.f true 2).bind fun t120 => ((impl_allWithin.f l0_1 1073741824).bind fun t121 => (if t121 = true then ((impl_allWithin.f l0_2 268435456).bind fun t122 => ((impl_codeIf.f (!t122) 3).bind fun t123 => ((impl_first.f k (([t104, t120, t123] : List Int))).bind fun t127 => (some t127)))) else ((impl_codeIf.f true 3).bind fun t128 => ((impl_first.f k (([t104, t120, t128] : List Int))).bind fun t132 => (some t132))))))))) = some r := h
 clear h
 replace H := bo H
 obtain ⟨t104, A2, H⟩ := H
 replace H := bz H
 replace H := bo H
 obtain ⟨t105, A3, H⟩ := H
 replace H := bz H
 by_cases c4 : t105 = true
 ·subst c4
  have H1 : ((impl_halfOf.f l0_2 a0_0).bind fun t106 => ((impl_codeIf.f (!t106) 2).bind fun t107 => ((impl_allWithin.f l0_1 1073741824).bind fun t108 => (if t108 = true then ((impl_allWithin.f l0_2 268435456).bind fun t109 => ((impl_codeIf.f (!t109) 3).bind fun t110 => ((impl_first.f k (([t104, t107, t110] : List Int))).bind fun t114 => (some t114)))) else ((impl_codeIf.f true 3).bind fun t115 => ((impl_first.f k (([t104, t107, t115] : List Int))).bind fun t119 => (some t119))))))) = some r := by rw [if_pos rfl] at H; exact H
  clear H
  have H := H1
  clear H1
  replace H := bo H
  obtain ⟨t106, A5, H⟩ := H
  replace H := bz H
  replace H := bo H
  obtain ⟨t107, A6, H⟩ := H
  replace H := bz H
  replace H := bo H
  obtain ⟨t108, A7, H⟩ := H
  replace H := bz H
  by_cases c8 : t108 = true
  ·subst c8
   have H1 : ((impl_allWithin.f l0_2 268435456).bind fun t109 => ((impl_codeIf.f (!t109) 3).bind fun t110 => ((impl_first.f k (([t104, t107, t110] : List Int))).bind fun t114 => (some t114)))) = some r := by rw [if_pos rfl] at H; exact H
   clear H
   have H := H1
   clear H1
   replace H := bo H
   obtain ⟨t109, A9, H⟩ := H
   replace H := bz H
   replace H := bo H
   obtain ⟨t110, A10, H⟩ := H
   replace H := bz H
   obtain ⟨y111, hy111⟩ : ∃ y_ : List Int, y_ = (([t104, t107, t110] : List Int)) := ⟨_, rfl⟩
   replace H : ((impl_first.f k y111).bind fun t114 => (some t114)) = some r := hl hy111 H
   have Ny111 := aM hy111
   clear hy111
   replace H := bo H
   obtain ⟨t114, A11, H⟩ := H
   replace H : (some t114) = some r := H
   obtain rfl := Option.some.inj H
   go_enter Try.func46, Try.ntmps46
   try go_wp2_with (first | ((with_reducible refine gate_dst (N := 1) rfl ?_); refine box_event ?hg (N := 1) ?hd (cs := #[.int .i64 a0_0, .slice A0_1 l0_1.length c0_1, .slice A0_2 l0_2.length c0_2]) (t := 35) ?hr ?_; (case hd => rfl); (case hg => rfl); (case hr => first | (go_simp; done) | (go_simp; rfl)); intro gb103 hg w12 hbox hb; have BK103 := aM (hbox); have GW103 := aM ((by rw [hg]; exact (bZ bq) : w.heap.size ≤ gb103)); have GE103 := aM ((by rw [hg]; exact (bZ bq) : w.heap.size ≤ gb103)); replace HB := aM (bT bq hb); clear hb hbox hg))
   replace BK103 := aM (kD BK103.out)
   replace HB := aM (bD HB.out)
   refine start_ (n := 32) (S := fun w' => w'.cell? ⟨gb103, 0, none⟩ = some (.int .i64 a0_0) ∧ w'.cell? ⟨gb103, 1, none⟩ = some (.slice A0_1 l0_1.length c0_1) ∧ w'.cell? ⟨gb103, 2, none⟩ = some (.slice A0_2 l0_2.length c0_2)) (ds := []) #[N,N,N,N,N,N,N,N,N,N,N,N,N,N,N,N,N,N,N,N,N,N,N,N,N,N,N,N,N,N,N,N] kr rfl rfl ⟨cc, cc, cc⟩ (fun hHeld => ?_); refine with_tabW impl_SynthFault.tab1 impl_SynthFault.bits1 (fun HT_ HW_ => ?_)
   generalize w12.drew = w13 at BK103 HB hHeld ⊢
   refine pp HT_ (N := some 3) 0 #[Y,N,N,N,N,N,N,N,N,N,N,N,N,N,N,N,N,N,N,N,N,N,N,N,N,N,N,N,N,N,N,N] ?_
   refine pp HT_ (N := some 6) 3 #[Y,N,N,Y,N,N,N,N,N,N,N,N,N,N,N,N,N,N,N,N,N,N,N,N,N,N,N,N,N,N,N,N] ?_
   refine pp HT_ (N := some 8) 5 #[Y,N,N,Y,N,Y,N,N,N,N,N,N,N,N,N,N,N,N,N,N,N,N,N,N,N,N,N,N,N,N,N,N] ?_
   refine pp HT_ (N := some 21) 18 #[Y,N,N,Y,N,Y,N,N,N,N,N,N,N,N,N,N,N,N,Y,N,N,N,N,N,N,N,N,N,N,N,N,N] ?_
   refine tt HT_ HW_ (N := some 4) 1 #[Y,Y,N,Y,N,Y,N,N,N,N,N,N,N,N,N,N,N,N,Y,N,N,N,N,N,N,N,N,N,N,N,N,N] hHeld ?_ (hy := by rintro w' ⟨s0, s1, s2⟩; go_simp; with_reducible rfl)
   refine tt HT_ HW_ (N := some 7) 4 #[Y,Y,N,Y,Y,Y,N,N,N,N,N,N,N,N,N,N,N,N,Y,N,N,N,N,N,N,N,N,N,N,N,N,N] hHeld ?_ (hy := by rintro w' ⟨s0, s1, s2⟩; go_simp; with_reducible rfl)
   refine tt HT_ HW_ (N := some 9) 6 #[Y,Y,N,Y,Y,Y,Y,N,N,N,N,N,N,N,N,N,N,N,Y,N,N,N,N,N,N,N,N,N,N,N,N,N] hHeld ?_ (hy := by rintro w' ⟨s0, s1, s2⟩; go_simp; with_reducible rfl)
   refine tt HT_ HW_ (N := some 22) 19 #[Y,Y,N,Y,Y,Y,Y,N,N,N,N,N,N,N,N,N,N,N,Y,Y,N,N,N,N,N,N,N,N,N,N,N,N] hHeld ?_ (hy := by rintro w' ⟨s0, s1, s2⟩; go_simp; with_reducible rfl)
   refine oo HT_ (N := some 5) 2 #[Y,Y,Y,Y,Y,Y,Y,N,N,N,N,N,N,N,N,N,N,N,Y,Y,N,N,N,N,N,N,N,N,N,N,N,N] (fun K hK => ?_)
   refine goes_ Try.func55 kr rfl #[.int .i64 a0_0] (by rfl) rfl rfl mq ?_
   with_reducible refine (impl_SizeFault.calls a0_0 t104 _ A2.out).mono ?_
   rintro e w' ⟨rfl, ⟨nd, rfl⟩⟩
   refine ⟨_, rfl, ?_⟩
   refine hK.out _ _ ⟨cc, cc, cc⟩ (fun hHeld => ?_)
   clear hK K
   refine nn ?_
   refine oo HT_ (N := some 10) 7 #[Y,Y,Y,Y,Y,Y,Y,Y,N,N,N,N,N,N,N,N,N,N,Y,Y,N,N,N,N,N,N,N,N,N,N,N,N] (fun K hK => ?_)
   refine goes_ Try.func95 kr rfl #[.slice A0_1 l0_1.length c0_1, .int .i64 a0_0] (by rfl) rfl rfl mq ?_
   with_reducible refine (impl_halfOf.calls _ _ l0_1 a0_0 true _ ?side1 ?side2 A3.out).mono ?_
   (case side1 => exact cq (cB HR0_1.out bq))
   (case side2 => exact HC0_1.out)
   rintro e w' ⟨rfl, ⟨nd, rfl⟩⟩
   refine ⟨_, rfl, ?_⟩
   refine hK.out _ _ ⟨cc, cc, cc⟩ (fun hHeld => ?_)
   clear hK K
   refine nn ?_
   refine pp HT_ (N := some 11) 8 #[Y,Y,Y,Y,Y,Y,Y,Y,Y,N,N,N,N,N,N,N,N,N,Y,Y,N,N,N,N,N,N,N,N,N,N,N,N] ?_
   refine pp HT_ (N := some 12) 9 #[Y,Y,Y,Y,Y,Y,Y,Y,Y,Y,N,N,N,N,N,N,N,N,Y,Y,N,N,N,N,N,N,N,N,N,N,N,N] ?_
   refine pp HT_ (N := some 13) 10 #[Y,Y,Y,Y,Y,Y,Y,Y,Y,Y,Y,N,N,N,N,N,N,N,Y,Y,N,N,N,N,N,N,N,N,N,N,N,N] ?_
   refine pp HT_ (N := some 15) 12 #[Y,Y,Y,Y,Y,Y,Y,Y,Y,Y,Y,N,Y,N,N,N,N,N,Y,Y,N,N,N,N,N,N,N,N,N,N,N,N] ?_
   refine tt HT_ HW_ (N := some 14) 11 #[Y,Y,Y,Y,Y,Y,Y,Y,Y,Y,Y,Y,Y,N,N,N,N,N,Y,Y,N,N,N,N,N,N,N,N,N,N,N,N] hHeld ?_ (hy := by rintro w' ⟨s0, s1, s2⟩; go_simp; with_reducible rfl)
   refine tt HT_ HW_ (N := some 16) 13 #[Y,Y,Y,Y,Y,Y,Y,Y,Y,Y,Y,Y,Y,Y,N,N,N,N,Y,Y,N,N,N,N,N,N,N,N,N,N,N,N] hHeld ?_ (hy := by rintro w' ⟨s0, s1, s2⟩; go_simp; with_reducible rfl)
   refine oo HT_ (N := some 17) 14 #[Y,Y,Y,Y,Y,Y,Y,Y,Y,Y,Y,Y,Y,Y,Y,N,N,N,Y,Y,N,N,N,N,N,N,N,N,N,N,N,N] (fun K hK => ?_)
   refine goes_ Try.func95 kr rfl #[.slice A0_2 l0_2.length c0_2, .int .i64 a0_0] (by rfl) rfl rfl mq ?_
   with_reducible refine (impl_halfOf.calls _ _ l0_2 a0_0 t106 _ ?side1 ?side2 A5.out).mono ?_
   (case side1 => exact cq (cB HR0_2.out bq))
   (case side2 => exact HC0_2.out)
   rintro e w' ⟨rfl, ⟨nd, rfl⟩⟩
   refine ⟨_, rfl, ?_⟩
   refine hK.out _ _ ⟨cc, cc, cc⟩ (fun hHeld => ?_)
   clear hK K
   refine nn ?_
   refine pp HT_ (N := some 18) 15 #[Y,Y,Y,Y,Y,Y,Y,Y,Y,Y,Y,Y,Y,Y,Y,Y,N,N,Y,Y,N,N,N,N,N,N,N,N,N,N,N,N] ?_
   refine pp HT_ (N := some 19) 16 #[Y,Y,Y,Y,Y,Y,Y,Y,Y,Y,Y,Y,Y,Y,Y,Y,Y,N,Y,Y,N,N,N,N,N,N,N,N,N,N,N,N] ?_
   refine oo HT_ (N := some 20) 17 #[Y,Y,Y,Y,Y,Y,Y,Y,Y,Y,Y,Y,Y,Y,Y,Y,Y,Y,Y,Y,N,N,N,N,N,N,N,N,N,N,N,N] (fun K hK => ?_)
   refine goes_ Try.func56 kr rfl #[.bool (!t106), .int .i64 2] (by rfl) rfl rfl mq ?_
   with_reducible refine (impl_codeIf.calls (!t106) 2 t107 _ A6.out).mono ?_
   rintro e w' ⟨rfl, ⟨nd, rfl⟩⟩
   refine ⟨_, rfl, ?_⟩
   refine hK.out _ _ ⟨cc, cc, cc⟩ (fun hHeld => ?_)
   clear hK K
   refine nn ?_
   refine oo HT_ (N := some 23) 20 #[Y,Y,Y,Y,Y,Y,Y,Y,Y,Y,Y,Y,Y,Y,Y,Y,Y,Y,Y,Y,Y,N,N,N,N,N,N,N,N,N,N,N] (fun K hK => ?_)
   refine goes_ Try.func87 kr rfl #[.slice A0_1 l0_1.length c0_1, .int .i64 1073741824] (by rfl) rfl rfl mq ?_
   with_reducible refine (impl_allWithin.calls _ _ l0_1 1073741824 true _ ?side1 ?side2 A7.out).mono ?_
   (case side1 => exact cq (cB HR0_1.out bq))
   (case side2 => exact HC0_1.out)
   rintro e w14 ⟨rfl, hb⟩
   refine ⟨_, rfl, ?_⟩
   replace BK103 := aM (kB (kq BK103.out) hb)
   replace HB := aM (bT bq hb)
   (try clear hb)
   (try clear hb2)
   (try clear hk)
   (try clear hi)
   refine hK.out _ _ ⟨cc, cc, cc⟩ (fun hHeld => ?_)
   clear hK K
   refine nn ?_
   refine pp HT_ (N := some 24) 21 #[Y,Y,Y,Y,Y,Y,Y,Y,Y,Y,Y,Y,Y,Y,Y,Y,Y,Y,Y,Y,Y,Y,N,N,N,N,N,N,N,N,N,N] ?_
   refine pp HT_ (N := some 25) 22 #[Y,Y,Y,Y,Y,Y,Y,Y,Y,Y,Y,Y,Y,Y,Y,Y,Y,Y,Y,Y,Y,Y,Y,N,N,N,N,N,N,N,N,N] ?_
   refine pp HT_ (N := some 26) 23 #[Y,Y,Y,Y,Y,Y,Y,Y,Y,Y,Y,Y,Y,Y,Y,Y,Y,Y,Y,Y,Y,Y,Y,Y,N,N,N,N,N,N,N,N] ?_
   refine tt HT_ HW_ (N := some 27) 24 #[Y,Y,Y,Y,Y,Y,Y,Y,Y,Y,Y,Y,Y,Y,Y,Y,Y,Y,Y,Y,Y,Y,Y,Y,Y,N,N,N,N,N,N,N] hHeld ?_ (hy := by rintro w' ⟨s0, s1, s2⟩; go_simp; with_reducible rfl)
   refine oo HT_ (N := some 28) 25 #[Y,Y,Y,Y,Y,Y,Y,Y,Y,Y,Y,Y,Y,Y,Y,Y,Y,Y,Y,Y,Y,Y,Y,Y,Y,Y,N,N,N,N,N,N] (fun K hK => ?_)
   refine goes_ Try.func87 kr rfl #[.slice A0_2 l0_2.length c0_2, .int .i64 268435456] (by rfl) rfl rfl mq ?_
   with_reducible refine (impl_allWithin.calls _ _ l0_2 268435456 t109 _ ?side1 ?side2 A9.out).mono ?_
   (case side1 => exact cq (cB HR0_2.out HB.out))
   (case side2 => exact HC0_2.out)
   rintro e w15 ⟨rfl, hb⟩
   refine ⟨_, rfl, ?_⟩
   replace BK103 := aM (kB (kq BK103.out) hb)
   replace HB := aM (bT bq hb)
   (try clear hb)
   (try clear hb2)
   (try clear hk)
   (try clear hi)
   refine hK.out _ _ ⟨cc, cc, cc⟩ (fun hHeld => ?_)
   clear hK K
   refine nn ?_
   refine pp HT_ (N := some 29) 26 #[Y,Y,Y,Y,Y,Y,Y,Y,Y,Y,Y,Y,Y,Y,Y,Y,Y,Y,Y,Y,Y,Y,Y,Y,Y,Y,Y,N,N,N,N,N] ?_
   refine pp HT_ (N := some 30) 27 #[Y,Y,Y,Y,Y,Y,Y,Y,Y,Y,Y,Y,Y,Y,Y,Y,Y,Y,Y,Y,Y,Y,Y,Y,Y,Y,Y,Y,N,N,N,N] ?_
   refine oo HT_ (N := some 31) 28 #[Y,Y,Y,Y,Y,Y,Y,Y,Y,Y,Y,Y,Y,Y,Y,Y,Y,Y,Y,Y,Y,Y,Y,Y,Y,Y,Y,Y,Y,N,N,N] (fun K hK => ?_)
   refine goes_ Try.func56 kr rfl #[.bool (!t109), .int .i64 3] (by rfl) rfl rfl mq ?_
   with_reducible refine (impl_codeIf.calls (!t109) 3 t110 _ A10.out).mono ?_
   rintro e w' ⟨rfl, ⟨nd, rfl⟩⟩
   refine ⟨_, rfl, ?_⟩
   refine hK.out _ _ ⟨cc, cc, cc⟩ (fun hHeld => ?_)
   clear hK K
   refine nn ?_
   refine oo HT_ (N := some 32) 29 #[Y,Y,Y,Y,Y,Y,Y,Y,Y,Y,Y,Y,Y,Y,Y,Y,Y,Y,Y,Y,Y,Y,Y,Y,Y,Y,Y,Y,Y,Y,N,N] (fun K hK => ?_)
   refine Kd.R_lit_step (Kd.int .i64) _ 2 ?hg (N := 32) ?hd (xs := ([t104, t107, t110] : List Int)) (inner := [.int .i64 t104, .int .i64 t107, .int .i64 t110]) (ok := fun _ => True) (okp := fun _ => True) ?hr ?hp (fun _ hk => hk) trivial (Below.refl _ _) (Nat.le_refl _) (by simp) ?_; (case hd => rfl); (case hg => rfl); (case hr => first | (go_simp; done) | (go_simp; rfl)); (case hp => exact (Reps.one (show Kd.M (Kd.int .i64) _ _ _ t104 [.int .i64 t104] from rfl) (Reps.one (show Kd.M (Kd.int .i64) _ _ _ t107 [.int .i64 t107] from rfl) (Reps.one (show Kd.M (Kd.int .i64) _ _ _ t110 [.int .i64 t110] from rfl) (Reps.none _ _)))))
   intro v112 w16 ho17 hb hg_ hnew_
   clear hg_ hnew_
   (first | rw [← Ny111.out] at ho17 | (simp only [Int.reduceToNat] at ho17; rw [← Ny111.out] at ho17))
   have HO113 := aM (rG ho17 (bZ bq))
   replace BK103 := aM (kB (kq BK103.out) hb)
   replace HB := aM (bT bq hb)
   clear hb ho17
   obtain ⟨Ao18, co18, eo18⟩ := Kd.R_slice HO113.out
   (first | subst eo18 | (injection eo18 with f1_ f2_ f3_; have f4_ := f1_.symm; have f5_ := f3_.symm; clear f1_ f2_ f3_; subst f4_; subst f5_))
   refine hK.out _ _ ⟨cc, cc, cc⟩ (fun hHeld => ?_)
   clear hK K
   refine nn ?_
   refine oo HT_ (N := some 33) 30 #[Y,Y,Y,Y,Y,Y,Y,Y,Y,Y,Y,Y,Y,Y,Y,Y,Y,Y,Y,Y,Y,Y,Y,Y,Y,Y,Y,Y,Y,Y,Y,N] (fun K hK => ?_)
   refine goes_ Try.func54 kr rfl #[.slice Ao18 y111.length co18] (by rfl) rfl rfl mq ?_
   with_reducible refine (impl_first.calls k _ _ y111 t114 _ ?side1 ?side2 A11.out).mono ?_
   (case side1 => exact cq (rR HO113.out).2.2)
   (case side2 => exact (rR HO113.out).2.1)
   rintro e w' ⟨rfl, ⟨nd, rfl⟩⟩
   refine ⟨_, rfl, ?_⟩
   refine hK.out _ _ ⟨cc, cc, cc⟩ (fun hHeld => ?_)
   clear hK K
   refine nn ?_
   refine pp HT_ (N := some 2) 31 #[Y,Y,Y,Y,Y,Y,Y,Y,Y,Y,Y,Y,Y,Y,Y,Y,Y,Y,Y,Y,Y,Y,Y,Y,Y,Y,Y,Y,Y,Y,Y,Y] ?_
   refine done_ (done_of HT_.out kr) ?_
   try go_wp2
   go_ret
   exact ⟨ew, bq⟩
  ·replace c8 := Bool.eq_false_iff.mpr c8
   subst c8
   have H1 : ((impl_codeIf.f true 3).bind fun t115 => ((impl_first.f k (([t104, t107, t115] : List Int))).bind fun t119 => (some t119))) = some r := by rw [if_neg (show ¬ (false = true) by decide)] at H; exact H
   clear H
   have H := H1
   clear H1
   replace H := bo H
   obtain ⟨t115, A19, H⟩ := H
   replace H := bz H
   obtain ⟨y116, hy116⟩ : ∃ y_ : List Int, y_ = (([t104, t107, t115] : List Int)) := ⟨_, rfl⟩
   replace H : ((impl_first.f k y116).bind fun t119 => (some t119)) = some r := hl hy116 H
   have Ny116 := aM hy116
   clear hy116
   replace H := bo H
   obtain ⟨t119, A20, H⟩ := H
   replace H : (some t119) = some r := H
   obtain rfl := Option.some.inj H
   go_enter Try.func46, Try.ntmps46
   try go_wp2_with (first | ((with_reducible refine gate_dst (N := 1) rfl ?_); refine box_event ?hg (N := 1) ?hd (cs := #[.int .i64 a0_0, .slice A0_1 l0_1.length c0_1, .slice A0_2 l0_2.length c0_2]) (t := 35) ?hr ?_; (case hd => rfl); (case hg => rfl); (case hr => first | (go_simp; done) | (go_simp; rfl)); intro gb103 hg w21 hbox hb; have BK103 := aM (hbox); have GW103 := aM ((by rw [hg]; exact (bZ bq) : w.heap.size ≤ gb103)); have GE103 := aM ((by rw [hg]; exact (bZ bq) : w.heap.size ≤ gb103)); replace HB := aM (bT bq hb); clear hb hbox hg))
   replace BK103 := aM (kD BK103.out)
   replace HB := aM (bD HB.out)
   refine start_ (n := 32) (S := fun w' => w'.cell? ⟨gb103, 0, none⟩ = some (.int .i64 a0_0) ∧ w'.cell? ⟨gb103, 1, none⟩ = some (.slice A0_1 l0_1.length c0_1) ∧ w'.cell? ⟨gb103, 2, none⟩ = some (.slice A0_2 l0_2.length c0_2)) (ds := []) #[N,N,N,N,N,N,N,N,N,N,N,N,N,N,N,N,N,N,N,N,N,N,N,N,N,N,N,N,N,N,N,N] kr rfl rfl ⟨cc, cc, cc⟩ (fun hHeld => ?_); refine with_tabW impl_SynthFault.tab1 impl_SynthFault.bits1 (fun HT_ HW_ => ?_)
   generalize w21.drew = w22 at BK103 HB hHeld ⊢
   refine pp HT_ (N := some 3) 0 #[Y,N,N,N,N,N,N,N,N,N,N,N,N,N,N,N,N,N,N,N,N,N,N,N,N,N,N,N,N,N,N,N] ?_
   refine pp HT_ (N := some 6) 3 #[Y,N,N,Y,N,N,N,N,N,N,N,N,N,N,N,N,N,N,N,N,N,N,N,N,N,N,N,N,N,N,N,N] ?_
   refine pp HT_ (N := some 8) 5 #[Y,N,N,Y,N,Y,N,N,N,N,N,N,N,N,N,N,N,N,N,N,N,N,N,N,N,N,N,N,N,N,N,N] ?_
   refine pp HT_ (N := some 21) 18 #[Y,N,N,Y,N,Y,N,N,N,N,N,N,N,N,N,N,N,N,Y,N,N,N,N,N,N,N,N,N,N,N,N,N] ?_
   refine tt HT_ HW_ (N := some 4) 1 #[Y,Y,N,Y,N,Y,N,N,N,N,N,N,N,N,N,N,N,N,Y,N,N,N,N,N,N,N,N,N,N,N,N,N] hHeld ?_ (hy := by rintro w' ⟨s0, s1, s2⟩; go_simp; with_reducible rfl)
   refine tt HT_ HW_ (N := some 7) 4 #[Y,Y,N,Y,Y,Y,N,N,N,N,N,N,N,N,N,N,N,N,Y,N,N,N,N,N,N,N,N,N,N,N,N,N] hHeld ?_ (hy := by rintro w' ⟨s0, s1, s2⟩; go_simp; with_reducible rfl)
   refine tt HT_ HW_ (N := some 9) 6 #[Y,Y,N,Y,Y,Y,Y,N,N,N,N,N,N,N,N,N,N,N,Y,N,N,N,N,N,N,N,N,N,N,N,N,N] hHeld ?_ (hy := by rintro w' ⟨s0, s1, s2⟩; go_simp; with_reducible rfl)
   refine tt HT_ HW_ (N := some 22) 19 #[Y,Y,N,Y,Y,Y,Y,N,N,N,N,N,N,N,N,N,N,N,Y,Y,N,N,N,N,N,N,N,N,N,N,N,N] hHeld ?_ (hy := by rintro w' ⟨s0, s1, s2⟩; go_simp; with_reducible rfl)
   refine oo HT_ (N := some 5) 2 #[Y,Y,Y,Y,Y,Y,Y,N,N,N,N,N,N,N,N,N,N,N,Y,Y,N,N,N,N,N,N,N,N,N,N,N,N] (fun K hK => ?_)
   refine goes_ Try.func55 kr rfl #[.int .i64 a0_0] (by rfl) rfl rfl mq ?_
   with_reducible refine (impl_SizeFault.calls a0_0 t104 _ A2.out).mono ?_
   rintro e w' ⟨rfl, ⟨nd, rfl⟩⟩
   refine ⟨_, rfl, ?_⟩
   refine hK.out _ _ ⟨cc, cc, cc⟩ (fun hHeld => ?_)
   clear hK K
   refine nn ?_
   refine oo HT_ (N := some 10) 7 #[Y,Y,Y,Y,Y,Y,Y,Y,N,N,N,N,N,N,N,N,N,N,Y,Y,N,N,N,N,N,N,N,N,N,N,N,N] (fun K hK => ?_)
   refine goes_ Try.func95 kr rfl #[.slice A0_1 l0_1.length c0_1, .int .i64 a0_0] (by rfl) rfl rfl mq ?_
   with_reducible refine (impl_halfOf.calls _ _ l0_1 a0_0 true _ ?side1 ?side2 A3.out).mono ?_
   (case side1 => exact cq (cB HR0_1.out bq))
   (case side2 => exact HC0_1.out)
   rintro e w' ⟨rfl, ⟨nd, rfl⟩⟩
   refine ⟨_, rfl, ?_⟩
   refine hK.out _ _ ⟨cc, cc, cc⟩ (fun hHeld => ?_)
   clear hK K
   refine nn ?_
   refine pp HT_ (N := some 11) 8 #[Y,Y,Y,Y,Y,Y,Y,Y,Y,N,N,N,N,N,N,N,N,N,Y,Y,N,N,N,N,N,N,N,N,N,N,N,N] ?_
   refine pp HT_ (N := some 12) 9 #[Y,Y,Y,Y,Y,Y,Y,Y,Y,Y,N,N,N,N,N,N,N,N,Y,Y,N,N,N,N,N,N,N,N,N,N,N,N] ?_
   refine pp HT_ (N := some 13) 10 #[Y,Y,Y,Y,Y,Y,Y,Y,Y,Y,Y,N,N,N,N,N,N,N,Y,Y,N,N,N,N,N,N,N,N,N,N,N,N] ?_
   refine pp HT_ (N := some 15) 12 #[Y,Y,Y,Y,Y,Y,Y,Y,Y,Y,Y,N,Y,N,N,N,N,N,Y,Y,N,N,N,N,N,N,N,N,N,N,N,N] ?_
   refine tt HT_ HW_ (N := some 14) 11 #[Y,Y,Y,Y,Y,Y,Y,Y,Y,Y,Y,Y,Y,N,N,N,N,N,Y,Y,N,N,N,N,N,N,N,N,N,N,N,N] hHeld ?_ (hy := by rintro w' ⟨s0, s1, s2⟩; go_simp; with_reducible rfl)
   refine tt HT_ HW_ (N := some 16) 13 #[Y,Y,Y,Y,Y,Y,Y,Y,Y,Y,Y,Y,Y,Y,N,N,N,N,Y,Y,N,N,N,N,N,N,N,N,N,N,N,N] hHeld ?_ (hy := by rintro w' ⟨s0, s1, s2⟩; go_simp; with_reducible rfl)
   refine oo HT_ (N := some 17) 14 #[Y,Y,Y,Y,Y,Y,Y,Y,Y,Y,Y,Y,Y,Y,Y,N,N,N,Y,Y,N,N,N,N,N,N,N,N,N,N,N,N] (fun K hK => ?_)
   refine goes_ Try.func95 kr rfl #[.slice A0_2 l0_2.length c0_2, .int .i64 a0_0] (by rfl) rfl rfl mq ?_
   with_reducible refine (impl_halfOf.calls _ _ l0_2 a0_0 t106 _ ?side1 ?side2 A5.out).mono ?_
   (case side1 => exact cq (cB HR0_2.out bq))
   (case side2 => exact HC0_2.out)
   rintro e w' ⟨rfl, ⟨nd, rfl⟩⟩
   refine ⟨_, rfl, ?_⟩
   refine hK.out _ _ ⟨cc, cc, cc⟩ (fun hHeld => ?_)
   clear hK K
   refine nn ?_
   refine pp HT_ (N := some 18) 15 #[Y,Y,Y,Y,Y,Y,Y,Y,Y,Y,Y,Y,Y,Y,Y,Y,N,N,Y,Y,N,N,N,N,N,N,N,N,N,N,N,N] ?_
   refine pp HT_ (N := some 19) 16 #[Y,Y,Y,Y,Y,Y,Y,Y,Y,Y,Y,Y,Y,Y,Y,Y,Y,N,Y,Y,N,N,N,N,N,N,N,N,N,N,N,N] ?_
   refine oo HT_ (N := some 20) 17 #[Y,Y,Y,Y,Y,Y,Y,Y,Y,Y,Y,Y,Y,Y,Y,Y,Y,Y,Y,Y,N,N,N,N,N,N,N,N,N,N,N,N] (fun K hK => ?_)
   refine goes_ Try.func56 kr rfl #[.bool (!t106), .int .i64 2] (by rfl) rfl rfl mq ?_
   with_reducible refine (impl_codeIf.calls (!t106) 2 t107 _ A6.out).mono ?_
   rintro e w' ⟨rfl, ⟨nd, rfl⟩⟩
   refine ⟨_, rfl, ?_⟩
   refine hK.out _ _ ⟨cc, cc, cc⟩ (fun hHeld => ?_)
   clear hK K
   refine nn ?_
   refine oo HT_ (N := some 23) 20 #[Y,Y,Y,Y,Y,Y,Y,Y,Y,Y,Y,Y,Y,Y,Y,Y,Y,Y,Y,Y,Y,N,N,N,N,N,N,N,N,N,N,N] (fun K hK => ?_)
   refine goes_ Try.func87 kr rfl #[.slice A0_1 l0_1.length c0_1, .int .i64 1073741824] (by rfl) rfl rfl mq ?_
   with_reducible refine (impl_allWithin.calls _ _ l0_1 1073741824 false _ ?side1 ?side2 A7.out).mono ?_
   (case side1 => exact cq (cB HR0_1.out bq))
   (case side2 => exact HC0_1.out)
   rintro e w23 ⟨rfl, hb⟩
   refine ⟨_, rfl, ?_⟩
   replace BK103 := aM (kB (kq BK103.out) hb)
   replace HB := aM (bT bq hb)
   (try clear hb)
   (try clear hb2)
   (try clear hk)
   (try clear hi)
   refine hK.out _ _ ⟨cc, cc, cc⟩ (fun hHeld => ?_)
   clear hK K
   refine nn ?_
   refine pp HT_ (N := some 24) 21 #[Y,Y,Y,Y,Y,Y,Y,Y,Y,Y,Y,Y,Y,Y,Y,Y,Y,Y,Y,Y,Y,Y,N,N,N,N,N,N,N,N,N,N] ?_
   refine pp HT_ (N := some 25) 22 #[Y,Y,Y,Y,Y,Y,Y,Y,Y,Y,Y,Y,Y,Y,Y,Y,Y,Y,Y,Y,Y,Y,Y,N,N,N,N,N,N,N,N,N] ?_
   refine pp HT_ (N := some 26) (v := undef) 23 #[Y,Y,Y,Y,Y,Y,Y,Y,Y,Y,Y,Y,Y,Y,Y,Y,Y,Y,Y,Y,Y,Y,Y,Y,N,N,N,N,N,N,N,N] ?_ (hy := Or.inr ⟨by rfl, rfl⟩)
   refine pp HT_ (N := some 27) (v := undef) 24 #[Y,Y,Y,Y,Y,Y,Y,Y,Y,Y,Y,Y,Y,Y,Y,Y,Y,Y,Y,Y,Y,Y,Y,Y,Y,N,N,N,N,N,N,N] ?_ (hy := Or.inr ⟨by rfl, rfl⟩)
   refine pp HT_ (N := some 28) (v := undef) 25 #[Y,Y,Y,Y,Y,Y,Y,Y,Y,Y,Y,Y,Y,Y,Y,Y,Y,Y,Y,Y,Y,Y,Y,Y,Y,Y,N,N,N,N,N,N] ?_ (hy := Or.inr ⟨by rfl, rfl⟩)
   refine pp HT_ (N := some 29) (v := undef) 26 #[Y,Y,Y,Y,Y,Y,Y,Y,Y,Y,Y,Y,Y,Y,Y,Y,Y,Y,Y,Y,Y,Y,Y,Y,Y,Y,Y,N,N,N,N,N] ?_ (hy := Or.inr ⟨by rfl, rfl⟩)
   refine pp HT_ (N := some 30) 27 #[Y,Y,Y,Y,Y,Y,Y,Y,Y,Y,Y,Y,Y,Y,Y,Y,Y,Y,Y,Y,Y,Y,Y,Y,Y,Y,Y,Y,N,N,N,N] ?_
   refine oo HT_ (N := some 31) 28 #[Y,Y,Y,Y,Y,Y,Y,Y,Y,Y,Y,Y,Y,Y,Y,Y,Y,Y,Y,Y,Y,Y,Y,Y,Y,Y,Y,Y,Y,N,N,N] (fun K hK => ?_)
   refine goes_ Try.func56 kr rfl #[.bool true, .int .i64 3] (by rfl) rfl rfl mq ?_
   with_reducible refine (impl_codeIf.calls true 3 t115 _ A19.out).mono ?_
   rintro e w' ⟨rfl, ⟨nd, rfl⟩⟩
   refine ⟨_, rfl, ?_⟩
   refine hK.out _ _ ⟨cc, cc, cc⟩ (fun hHeld => ?_)
   clear hK K
   refine nn ?_
   refine oo HT_ (N := some 32) 29 #[Y,Y,Y,Y,Y,Y,Y,Y,Y,Y,Y,Y,Y,Y,Y,Y,Y,Y,Y,Y,Y,Y,Y,Y,Y,Y,Y,Y,Y,Y,N,N] (fun K hK => ?_)
   refine Kd.R_lit_step (Kd.int .i64) _ 2 ?hg (N := 32) ?hd (xs := ([t104, t107, t115] : List Int)) (inner := [.int .i64 t104, .int .i64 t107, .int .i64 t115]) (ok := fun _ => True) (okp := fun _ => True) ?hr ?hp (fun _ hk => hk) trivial (Below.refl _ _) (Nat.le_refl _) (by simp) ?_; (case hd => rfl); (case hg => rfl); (case hr => first | (go_simp; done) | (go_simp; rfl)); (case hp => exact (Reps.one (show Kd.M (Kd.int .i64) _ _ _ t104 [.int .i64 t104] from rfl) (Reps.one (show Kd.M (Kd.int .i64) _ _ _ t107 [.int .i64 t107] from rfl) (Reps.one (show Kd.M (Kd.int .i64) _ _ _ t115 [.int .i64 t115] from rfl) (Reps.none _ _)))))
   intro v117 w24 ho25 hb hg_ hnew_
   clear hg_ hnew_
   (first | rw [← Ny116.out] at ho25 | (simp only [Int.reduceToNat] at ho25; rw [← Ny116.out] at ho25))
   have HO118 := aM (rG ho25 (bZ bq))
   replace BK103 := aM (kB (kq BK103.out) hb)
   replace HB := aM (bT bq hb)
   clear hb ho25
   obtain ⟨Ao26, co26, eo26⟩ := Kd.R_slice HO118.out
   (first | subst eo26 | (injection eo26 with f1_ f2_ f3_; have f4_ := f1_.symm; have f5_ := f3_.symm; clear f1_ f2_ f3_; subst f4_; subst f5_))
   refine hK.out _ _ ⟨cc, cc, cc⟩ (fun hHeld => ?_)
   clear hK K
   refine nn ?_
   refine oo HT_ (N := some 33) 30 #[Y,Y,Y,Y,Y,Y,Y,Y,Y,Y,Y,Y,Y,Y,Y,Y,Y,Y,Y,Y,Y,Y,Y,Y,Y,Y,Y,Y,Y,Y,Y,N] (fun K hK => ?_)
   refine goes_ Try.func54 kr rfl #[.slice Ao26 y116.length co26] (by rfl) rfl rfl mq ?_
   with_reducible refine (impl_first.calls k _ _ y116 t119 _ ?side1 ?side2 A20.out).mono ?_
   (case side1 => exact cq (rR HO118.out).2.2)
   (case side2 => exact (rR HO118.out).2.1)
   rintro e w' ⟨rfl, ⟨nd, rfl⟩⟩
   refine ⟨_, rfl, ?_⟩
   refine hK.out _ _ ⟨cc, cc, cc⟩ (fun hHeld => ?_)
   clear hK K
   refine nn ?_
   refine pp HT_ (N := some 2) 31 #[Y,Y,Y,Y,Y,Y,Y,Y,Y,Y,Y,Y,Y,Y,Y,Y,Y,Y,Y,Y,Y,Y,Y,Y,Y,Y,Y,Y,Y,Y,Y,Y] ?_
   refine done_ (done_of HT_.out kr) ?_
   try go_wp2
   go_ret
   exact ⟨ew, bq⟩
 ·replace c4 := Bool.eq_false_iff.mpr c4
  subst c4
  have H1 : ((impl_codeIf.f true 2).bind fun t120 => ((impl_allWithin.f l0_1 1073741824).bind fun t121 => (if t121 = true then ((impl_allWithin.f l0_2 268435456).bind fun t122 => ((impl_codeIf.f (!t122) 3).bind fun t123 => ((impl_first.f k (([t104, t120, t123] : List Int))).bind fun t127 => (some t127)))) else ((impl_codeIf.f true 3).bind fun t128 => ((impl_first.f k (([t104, t120, t128] : List Int))).bind fun t132 => (some t132)))))) = some r := by rw [if_neg (show ¬ (false = true) by decide)] at H; exact H
  clear H
  have H := H1
  clear H1
  replace H := bo H
  obtain ⟨t120, A27, H⟩ := H
  replace H := bz H
  replace H := bo H
  obtain ⟨t121, A28, H⟩ := H
  replace H := bz H
  by_cases c29 : t121 = true
  ·subst c29
   have H1 : ((impl_allWithin.f l0_2 268435456).bind fun t122 => ((impl_codeIf.f (!t122) 3).bind fun t123 => ((impl_first.f k (([t104, t120, t123] : List Int))).bind fun t127 => (some t127)))) = some r := by rw [if_pos rfl] at H; exact H
   clear H
   have H := H1
   clear H1
   replace H := bo H
   obtain ⟨t122, A30, H⟩ := H
   replace H := bz H
   replace H := bo H
   obtain ⟨t123, A31, H⟩ := H
   replace H := bz H
   obtain ⟨y124, hy124⟩ : ∃ y_ : List Int, y_ = (([t104, t120, t123] : List Int)) := ⟨_, rfl⟩
   replace H : ((impl_first.f k y124).bind fun t127 => (some t127)) = some r := hl hy124 H
   have Ny124 := aM hy124
   clear hy124
   replace H := bo H
   obtain ⟨t127, A32, H⟩ := H
   replace H : (some t127) = some r := H
   obtain rfl := Option.some.inj H
   go_enter Try.func46, Try.ntmps46
   try go_wp2_with (first | ((with_reducible refine gate_dst (N := 1) rfl ?_); refine box_event ?hg (N := 1) ?hd (cs := #[.int .i64 a0_0, .slice A0_1 l0_1.length c0_1, .slice A0_2 l0_2.length c0_2]) (t := 35) ?hr ?_; (case hd => rfl); (case hg => rfl); (case hr => first | (go_simp; done) | (go_simp; rfl)); intro gb103 hg w33 hbox hb; have BK103 := aM (hbox); have GW103 := aM ((by rw [hg]; exact (bZ bq) : w.heap.size ≤ gb103)); have GE103 := aM ((by rw [hg]; exact (bZ bq) : w.heap.size ≤ gb103)); replace HB := aM (bT bq hb); clear hb hbox hg))
   replace BK103 := aM (kD BK103.out)
   replace HB := aM (bD HB.out)
   refine start_ (n := 32) (S := fun w' => w'.cell? ⟨gb103, 0, none⟩ = some (.int .i64 a0_0) ∧ w'.cell? ⟨gb103, 1, none⟩ = some (.slice A0_1 l0_1.length c0_1) ∧ w'.cell? ⟨gb103, 2, none⟩ = some (.slice A0_2 l0_2.length c0_2)) (ds := []) #[N,N,N,N,N,N,N,N,N,N,N,N,N,N,N,N,N,N,N,N,N,N,N,N,N,N,N,N,N,N,N,N] kr rfl rfl ⟨cc, cc, cc⟩ (fun hHeld => ?_); refine with_tabW impl_SynthFault.tab1 impl_SynthFault.bits1 (fun HT_ HW_ => ?_)
   generalize w33.drew = w34 at BK103 HB hHeld ⊢
   refine pp HT_ (N := some 3) 0 #[Y,N,N,N,N,N,N,N,N,N,N,N,N,N,N,N,N,N,N,N,N,N,N,N,N,N,N,N,N,N,N,N] ?_
   refine pp HT_ (N := some 6) 3 #[Y,N,N,Y,N,N,N,N,N,N,N,N,N,N,N,N,N,N,N,N,N,N,N,N,N,N,N,N,N,N,N,N] ?_
   refine pp HT_ (N := some 8) 5 #[Y,N,N,Y,N,Y,N,N,N,N,N,N,N,N,N,N,N,N,N,N,N,N,N,N,N,N,N,N,N,N,N,N] ?_
   refine pp HT_ (N := some 21) 18 #[Y,N,N,Y,N,Y,N,N,N,N,N,N,N,N,N,N,N,N,Y,N,N,N,N,N,N,N,N,N,N,N,N,N] ?_
   refine tt HT_ HW_ (N := some 4) 1 #[Y,Y,N,Y,N,Y,N,N,N,N,N,N,N,N,N,N,N,N,Y,N,N,N,N,N,N,N,N,N,N,N,N,N] hHeld ?_ (hy := by rintro w' ⟨s0, s1, s2⟩; go_simp; with_reducible rfl)
   refine tt HT_ HW_ (N := some 7) 4 #[Y,Y,N,Y,Y,Y,N,N,N,N,N,N,N,N,N,N,N,N,Y,N,N,N,N,N,N,N,N,N,N,N,N,N] hHeld ?_ (hy := by rintro w' ⟨s0, s1, s2⟩; go_simp; with_reducible rfl)
   refine tt HT_ HW_ (N := some 9) 6 #[Y,Y,N,Y,Y,Y,Y,N,N,N,N,N,N,N,N,N,N,N,Y,N,N,N,N,N,N,N,N,N,N,N,N,N] hHeld ?_ (hy := by rintro w' ⟨s0, s1, s2⟩; go_simp; with_reducible rfl)
   refine tt HT_ HW_ (N := some 22) 19 #[Y,Y,N,Y,Y,Y,Y,N,N,N,N,N,N,N,N,N,N,N,Y,Y,N,N,N,N,N,N,N,N,N,N,N,N] hHeld ?_ (hy := by rintro w' ⟨s0, s1, s2⟩; go_simp; with_reducible rfl)
   refine oo HT_ (N := some 5) 2 #[Y,Y,Y,Y,Y,Y,Y,N,N,N,N,N,N,N,N,N,N,N,Y,Y,N,N,N,N,N,N,N,N,N,N,N,N] (fun K hK => ?_)
   refine goes_ Try.func55 kr rfl #[.int .i64 a0_0] (by rfl) rfl rfl mq ?_
   with_reducible refine (impl_SizeFault.calls a0_0 t104 _ A2.out).mono ?_
   rintro e w' ⟨rfl, ⟨nd, rfl⟩⟩
   refine ⟨_, rfl, ?_⟩
   refine hK.out _ _ ⟨cc, cc, cc⟩ (fun hHeld => ?_)
   clear hK K
   refine nn ?_
   refine oo HT_ (N := some 10) 7 #[Y,Y,Y,Y,Y,Y,Y,Y,N,N,N,N,N,N,N,N,N,N,Y,Y,N,N,N,N,N,N,N,N,N,N,N,N] (fun K hK => ?_)
   refine goes_ Try.func95 kr rfl #[.slice A0_1 l0_1.length c0_1, .int .i64 a0_0] (by rfl) rfl rfl mq ?_
   with_reducible refine (impl_halfOf.calls _ _ l0_1 a0_0 false _ ?side1 ?side2 A3.out).mono ?_
   (case side1 => exact cq (cB HR0_1.out bq))
   (case side2 => exact HC0_1.out)
   rintro e w' ⟨rfl, ⟨nd, rfl⟩⟩
   refine ⟨_, rfl, ?_⟩
   refine hK.out _ _ ⟨cc, cc, cc⟩ (fun hHeld => ?_)
   clear hK K
   refine nn ?_
   refine pp HT_ (N := some 11) 8 #[Y,Y,Y,Y,Y,Y,Y,Y,Y,N,N,N,N,N,N,N,N,N,Y,Y,N,N,N,N,N,N,N,N,N,N,N,N] ?_
   refine pp HT_ (N := some 12) 9 #[Y,Y,Y,Y,Y,Y,Y,Y,Y,Y,N,N,N,N,N,N,N,N,Y,Y,N,N,N,N,N,N,N,N,N,N,N,N] ?_
   refine pp HT_ (N := some 13) (v := undef) 10 #[Y,Y,Y,Y,Y,Y,Y,Y,Y,Y,Y,N,N,N,N,N,N,N,Y,Y,N,N,N,N,N,N,N,N,N,N,N,N] ?_ (hy := Or.inr ⟨by rfl, rfl⟩)
   refine pp HT_ (N := some 14) (v := undef) 11 #[Y,Y,Y,Y,Y,Y,Y,Y,Y,Y,Y,Y,N,N,N,N,N,N,Y,Y,N,N,N,N,N,N,N,N,N,N,N,N] ?_ (hy := Or.inr ⟨by rfl, rfl⟩)
   refine pp HT_ (N := some 15) (v := undef) 12 #[Y,Y,Y,Y,Y,Y,Y,Y,Y,Y,Y,Y,Y,N,N,N,N,N,Y,Y,N,N,N,N,N,N,N,N,N,N,N,N] ?_ (hy := Or.inr ⟨by rfl, rfl⟩)
   refine pp HT_ (N := some 16) (v := undef) 13 #[Y,Y,Y,Y,Y,Y,Y,Y,Y,Y,Y,Y,Y,Y,N,N,N,N,Y,Y,N,N,N,N,N,N,N,N,N,N,N,N] ?_ (hy := Or.inr ⟨by rfl, rfl⟩)
   refine pp HT_ (N := some 17) (v := undef) 14 #[Y,Y,Y,Y,Y,Y,Y,Y,Y,Y,Y,Y,Y,Y,Y,N,N,N,Y,Y,N,N,N,N,N,N,N,N,N,N,N,N] ?_ (hy := Or.inr ⟨by rfl, rfl⟩)
   refine pp HT_ (N := some 18) (v := undef) 15 #[Y,Y,Y,Y,Y,Y,Y,Y,Y,Y,Y,Y,Y,Y,Y,Y,N,N,Y,Y,N,N,N,N,N,N,N,N,N,N,N,N] ?_ (hy := Or.inr ⟨by rfl, rfl⟩)
   refine pp HT_ (N := some 19) 16 #[Y,Y,Y,Y,Y,Y,Y,Y,Y,Y,Y,Y,Y,Y,Y,Y,Y,N,Y,Y,N,N,N,N,N,N,N,N,N,N,N,N] ?_
   refine oo HT_ (N := some 20) 17 #[Y,Y,Y,Y,Y,Y,Y,Y,Y,Y,Y,Y,Y,Y,Y,Y,Y,Y,Y,Y,N,N,N,N,N,N,N,N,N,N,N,N] (fun K hK => ?_)
   refine goes_ Try.func56 kr rfl #[.bool true, .int .i64 2] (by rfl) rfl rfl mq ?_
   with_reducible refine (impl_codeIf.calls true 2 t120 _ A27.out).mono ?_
   rintro e w' ⟨rfl, ⟨nd, rfl⟩⟩
   refine ⟨_, rfl, ?_⟩
   refine hK.out _ _ ⟨cc, cc, cc⟩ (fun hHeld => ?_)
   clear hK K
   refine nn ?_
   refine oo HT_ (N := some 23) 20 #[Y,Y,Y,Y,Y,Y,Y,Y,Y,Y,Y,Y,Y,Y,Y,Y,Y,Y,Y,Y,Y,N,N,N,N,N,N,N,N,N,N,N] (fun K hK => ?_)
   refine goes_ Try.func87 kr rfl #[.slice A0_1 l0_1.length c0_1, .int .i64 1073741824] (by rfl) rfl rfl mq ?_
   with_reducible refine (impl_allWithin.calls _ _ l0_1 1073741824 true _ ?side1 ?side2 A28.out).mono ?_
   (case side1 => exact cq (cB HR0_1.out bq))
   (case side2 => exact HC0_1.out)
   rintro e w35 ⟨rfl, hb⟩
   refine ⟨_, rfl, ?_⟩
   replace BK103 := aM (kB (kq BK103.out) hb)
   replace HB := aM (bT bq hb)
   (try clear hb)
   (try clear hb2)
   (try clear hk)
   (try clear hi)
   refine hK.out _ _ ⟨cc, cc, cc⟩ (fun hHeld => ?_)
   clear hK K
   refine nn ?_
   refine pp HT_ (N := some 24) 21 #[Y,Y,Y,Y,Y,Y,Y,Y,Y,Y,Y,Y,Y,Y,Y,Y,Y,Y,Y,Y,Y,Y,N,N,N,N,N,N,N,N,N,N] ?_
   refine pp HT_ (N := some 25) 22 #[Y,Y,Y,Y,Y,Y,Y,Y,Y,Y,Y,Y,Y,Y,Y,Y,Y,Y,Y,Y,Y,Y,Y,N,N,N,N,N,N,N,N,N] ?_
   refine pp HT_ (N := some 26) 23 #[Y,Y,Y,Y,Y,Y,Y,Y,Y,Y,Y,Y,Y,Y,Y,Y,Y,Y,Y,Y,Y,Y,Y,Y,N,N,N,N,N,N,N,N] ?_
   refine tt HT_ HW_ (N := some 27) 24 #[Y,Y,Y,Y,Y,Y,Y,Y,Y,Y,Y,Y,Y,Y,Y,Y,Y,Y,Y,Y,Y,Y,Y,Y,Y,N,N,N,N,N,N,N] hHeld ?_ (hy := by rintro w' ⟨s0, s1, s2⟩; go_simp; with_reducible rfl)
   refine oo HT_ (N := some 28) 25 #[Y,Y,Y,Y,Y,Y,Y,Y,Y,Y,Y,Y,Y,Y,Y,Y,Y,Y,Y,Y,Y,Y,Y,Y,Y,Y,N,N,N,N,N,N] (fun K hK => ?_)
   refine goes_ Try.func87 kr rfl #[.slice A0_2 l0_2.length c0_2, .int .i64 268435456] (by rfl) rfl rfl mq ?_
   with_reducible refine (impl_allWithin.calls _ _ l0_2 268435456 t122 _ ?side1 ?side2 A30.out).mono ?_
   (case side1 => exact cq (cB HR0_2.out HB.out))
   (case side2 => exact HC0_2.out)
   rintro e w36 ⟨rfl, hb⟩
   refine ⟨_, rfl, ?_⟩
   replace BK103 := aM (kB (kq BK103.out) hb)
   replace HB := aM (bT bq hb)
   (try clear hb)
   (try clear hb2)
   (try clear hk)
   (try clear hi)
   refine hK.out _ _ ⟨cc, cc, cc⟩ (fun hHeld => ?_)
   clear hK K
   refine nn ?_
   refine pp HT_ (N := some 29) 26 #[Y,Y,Y,Y,Y,Y,Y,Y,Y,Y,Y,Y,Y,Y,Y,Y,Y,Y,Y,Y,Y,Y,Y,Y,Y,Y,Y,N,N,N,N,N] ?_
   refine pp HT_ (N := some 30) 27 #[Y,Y,Y,Y,Y,Y,Y,Y,Y,Y,Y,Y,Y,Y,Y,Y,Y,Y,Y,Y,Y,Y,Y,Y,Y,Y,Y,Y,N,N,N,N] ?_
   refine oo HT_ (N := some 31) 28 #[Y,Y,Y,Y,Y,Y,Y,Y,Y,Y,Y,Y,Y,Y,Y,Y,Y,Y,Y,Y,Y,Y,Y,Y,Y,Y,Y,Y,Y,N,N,N] (fun K hK => ?_)
   refine goes_ Try.func56 kr rfl #[.bool (!t122), .int .i64 3] (by rfl) rfl rfl mq ?_
   with_reducible refine (impl_codeIf.calls (!t122) 3 t123 _ A31.out).mono ?_
   rintro e w' ⟨rfl, ⟨nd, rfl⟩⟩
   refine ⟨_, rfl, ?_⟩
   refine hK.out _ _ ⟨cc, cc, cc⟩ (fun hHeld => ?_)
   clear hK K
   refine nn ?_
   refine oo HT_ (N := some 32) 29 #[Y,Y,Y,Y,Y,Y,Y,Y,Y,Y,Y,Y,Y,Y,Y,Y,Y,Y,Y,Y,Y,Y,Y,Y,Y,Y,Y,Y,Y,Y,N,N] (fun K hK => ?_)
   refine Kd.R_lit_step (Kd.int .i64) _ 2 ?hg (N := 32) ?hd (xs := ([t104, t120, t123] : List Int)) (inner := [.int .i64 t104, .int .i64 t120, .int .i64 t123]) (ok := fun _ => True) (okp := fun _ => True) ?hr ?hp (fun _ hk => hk) trivial (Below.refl _ _) (Nat.le_refl _) (by simp) ?_; (case hd => rfl); (case hg => rfl); (case hr => first | (go_simp; done) | (go_simp; rfl)); (case hp => exact (Reps.one (show Kd.M (Kd.int .i64) _ _ _ t104 [.int .i64 t104] from rfl) (Reps.one (show Kd.M (Kd.int .i64) _ _ _ t120 [.int .i64 t120] from rfl) (Reps.one (show Kd.M (Kd.int .i64) _ _ _ t123 [.int .i64 t123] from rfl) (Reps.none _ _)))))
   intro v125 w37 ho38 hb hg_ hnew_
   clear hg_ hnew_
   (first | rw [← Ny124.out] at ho38 | (simp only [Int.reduceToNat] at ho38; rw [← Ny124.out] at ho38))
   have HO126 := aM (rG ho38 (bZ bq))
   replace BK103 := aM (kB (kq BK103.out) hb)
   replace HB := aM (bT bq hb)
   clear hb ho38
   obtain ⟨Ao39, co39, eo39⟩ := Kd.R_slice HO126.out
   (first | subst eo39 | (injection eo39 with f1_ f2_ f3_; have f4_ := f1_.symm; have f5_ := f3_.symm; clear f1_ f2_ f3_; subst f4_; subst f5_))
   refine hK.out _ _ ⟨cc, cc, cc⟩ (fun hHeld => ?_)
   clear hK K
   refine nn ?_
   refine oo HT_ (N := some 33) 30 #[Y,Y,Y,Y,Y,Y,Y,Y,Y,Y,Y,Y,Y,Y,Y,Y,Y,Y,Y,Y,Y,Y,Y,Y,Y,Y,Y,Y,Y,Y,Y,N] (fun K hK => ?_)
   refine goes_ Try.func54 kr rfl #[.slice Ao39 y124.length co39] (by rfl) rfl rfl mq ?_
   with_reducible refine (impl_first.calls k _ _ y124 t127 _ ?side1 ?side2 A32.out).mono ?_
   (case side1 => exact cq (rR HO126.out).2.2)
   (case side2 => exact (rR HO126.out).2.1)
   rintro e w' ⟨rfl, ⟨nd, rfl⟩⟩
   refine ⟨_, rfl, ?_⟩
   refine hK.out _ _ ⟨cc, cc, cc⟩ (fun hHeld => ?_)
   clear hK K
   refine nn ?_
   refine pp HT_ (N := some 2) 31 #[Y,Y,Y,Y,Y,Y,Y,Y,Y,Y,Y,Y,Y,Y,Y,Y,Y,Y,Y,Y,Y,Y,Y,Y,Y,Y,Y,Y,Y,Y,Y,Y] ?_
   refine done_ (done_of HT_.out kr) ?_
   try go_wp2
   go_ret
   exact ⟨ew, bq⟩
  ·replace c29 := Bool.eq_false_iff.mpr c29
   subst c29
   have H1 : ((impl_codeIf.f true 3).bind fun t128 => ((impl_first.f k (([t104, t120, t128] : List Int))).bind fun t132 => (some t132))) = some r := by rw [if_neg (show ¬ (false = true) by decide)] at H; exact H
   clear H
   have H := H1
   clear H1
   replace H := bo H
   obtain ⟨t128, A40, H⟩ := H
   replace H := bz H
   obtain ⟨y129, hy129⟩ : ∃ y_ : List Int, y_ = (([t104, t120, t128] : List Int)) := ⟨_, rfl⟩
   replace H : ((impl_first.f k y129).bind fun t132 => (some t132)) = some r := hl hy129 H
   have Ny129 := aM hy129
   clear hy129
   replace H := bo H
   obtain ⟨t132, A41, H⟩ := H
   replace H : (some t132) = some r := H
   obtain rfl := Option.some.inj H
   go_enter Try.func46, Try.ntmps46
   try go_wp2_with (first | ((with_reducible refine gate_dst (N := 1) rfl ?_); refine box_event ?hg (N := 1) ?hd (cs := #[.int .i64 a0_0, .slice A0_1 l0_1.length c0_1, .slice A0_2 l0_2.length c0_2]) (t := 35) ?hr ?_; (case hd => rfl); (case hg => rfl); (case hr => first | (go_simp; done) | (go_simp; rfl)); intro gb103 hg w42 hbox hb; have BK103 := aM (hbox); have GW103 := aM ((by rw [hg]; exact (bZ bq) : w.heap.size ≤ gb103)); have GE103 := aM ((by rw [hg]; exact (bZ bq) : w.heap.size ≤ gb103)); replace HB := aM (bT bq hb); clear hb hbox hg))
   replace BK103 := aM (kD BK103.out)
   replace HB := aM (bD HB.out)
   refine start_ (n := 32) (S := fun w' => w'.cell? ⟨gb103, 0, none⟩ = some (.int .i64 a0_0) ∧ w'.cell? ⟨gb103, 1, none⟩ = some (.slice A0_1 l0_1.length c0_1) ∧ w'.cell? ⟨gb103, 2, none⟩ = some (.slice A0_2 l0_2.length c0_2)) (ds := []) #[N,N,N,N,N,N,N,N,N,N,N,N,N,N,N,N,N,N,N,N,N,N,N,N,N,N,N,N,N,N,N,N] kr rfl rfl ⟨cc, cc, cc⟩ (fun hHeld => ?_); refine with_tabW impl_SynthFault.tab1 impl_SynthFault.bits1 (fun HT_ HW_ => ?_)
   generalize w42.drew = w43 at BK103 HB hHeld ⊢
   refine pp HT_ (N := some 3) 0 #[Y,N,N,N,N,N,N,N,N,N,N,N,N,N,N,N,N,N,N,N,N,N,N,N,N,N,N,N,N,N,N,N] ?_
   refine pp HT_ (N := some 6) 3 #[Y,N,N,Y,N,N,N,N,N,N,N,N,N,N,N,N,N,N,N,N,N,N,N,N,N,N,N,N,N,N,N,N] ?_
   refine pp HT_ (N := some 8) 5 #[Y,N,N,Y,N,Y,N,N,N,N,N,N,N,N,N,N,N,N,N,N,N,N,N,N,N,N,N,N,N,N,N,N] ?_
   refine pp HT_ (N := some 21) 18 #[Y,N,N,Y,N,Y,N,N,N,N,N,N,N,N,N,N,N,N,Y,N,N,N,N,N,N,N,N,N,N,N,N,N] ?_
   refine tt HT_ HW_ (N := some 4) 1 #[Y,Y,N,Y,N,Y,N,N,N,N,N,N,N,N,N,N,N,N,Y,N,N,N,N,N,N,N,N,N,N,N,N,N] hHeld ?_ (hy := by rintro w' ⟨s0, s1, s2⟩; go_simp; with_reducible rfl)
   refine tt HT_ HW_ (N := some 7) 4 #[Y,Y,N,Y,Y,Y,N,N,N,N,N,N,N,N,N,N,N,N,Y,N,N,N,N,N,N,N,N,N,N,N,N,N] hHeld ?_ (hy := by rintro w' ⟨s0, s1, s2⟩; go_simp; with_reducible rfl)
   refine tt HT_ HW_ (N := some 9) 6 #[Y,Y,N,Y,Y,Y,Y,N,N,N,N,N,N,N,N,N,N,N,Y,N,N,N,N,N,N,N,N,N,N,N,N,N] hHeld ?_ (hy := by rintro w' ⟨s0, s1, s2⟩; go_simp; with_reducible rfl)
   refine tt HT_ HW_ (N := some 22) 19 #[Y,Y,N,Y,Y,Y,Y,N,N,N,N,N,N,N,N,N,N,N,Y,Y,N,N,N,N,N,N,N,N,N,N,N,N] hHeld ?_ (hy := by rintro w' ⟨s0, s1, s2⟩; go_simp; with_reducible rfl)
   refine oo HT_ (N := some 5) 2 #[Y,Y,Y,Y,Y,Y,Y,N,N,N,N,N,N,N,N,N,N,N,Y,Y,N,N,N,N,N,N,N,N,N,N,N,N] (fun K hK => ?_)
   refine goes_ Try.func55 kr rfl #[.int .i64 a0_0] (by rfl) rfl rfl mq ?_
   with_reducible refine (impl_SizeFault.calls a0_0 t104 _ A2.out).mono ?_
   rintro e w' ⟨rfl, ⟨nd, rfl⟩⟩
   refine ⟨_, rfl, ?_⟩
   refine hK.out _ _ ⟨cc, cc, cc⟩ (fun hHeld => ?_)
   clear hK K
   refine nn ?_
   refine oo HT_ (N := some 10) 7 #[Y,Y,Y,Y,Y,Y,Y,Y,N,N,N,N,N,N,N,N,N,N,Y,Y,N,N,N,N,N,N,N,N,N,N,N,N] (fun K hK => ?_)
   refine goes_ Try.func95 kr rfl #[.slice A0_1 l0_1.length c0_1, .int .i64 a0_0] (by rfl) rfl rfl mq ?_
   with_reducible refine (impl_halfOf.calls _ _ l0_1 a0_0 false _ ?side1 ?side2 A3.out).mono ?_
   (case side1 => exact cq (cB HR0_1.out bq))
   (case side2 => exact HC0_1.out)
   rintro e w' ⟨rfl, ⟨nd, rfl⟩⟩
   refine ⟨_, rfl, ?_⟩
   refine hK.out _ _ ⟨cc, cc, cc⟩ (fun hHeld => ?_)
   clear hK K
   refine nn ?_
   refine pp HT_ (N := some 11) 8 #[Y,Y,Y,Y,Y,Y,Y,Y,Y,N,N,N,N,N,N,N,N,N,Y,Y,N,N,N,N,N,N,N,N,N,N,N,N] ?_
   refine pp HT_ (N := some 12) 9 #[Y,Y,Y,Y,Y,Y,Y,Y,Y,Y,N,N,N,N,N,N,N,N,Y,Y,N,N,N,N,N,N,N,N,N,N,N,N] ?_
   refine pp HT_ (N := some 13) (v := undef) 10 #[Y,Y,Y,Y,Y,Y,Y,Y,Y,Y,Y,N,N,N,N,N,N,N,Y,Y,N,N,N,N,N,N,N,N,N,N,N,N] ?_ (hy := Or.inr ⟨by rfl, rfl⟩)
   refine pp HT_ (N := some 14) (v := undef) 11 #[Y,Y,Y,Y,Y,Y,Y,Y,Y,Y,Y,Y,N,N,N,N,N,N,Y,Y,N,N,N,N,N,N,N,N,N,N,N,N] ?_ (hy := Or.inr ⟨by rfl, rfl⟩)
   refine pp HT_ (N := some 15) (v := undef) 12 #[Y,Y,Y,Y,Y,Y,Y,Y,Y,Y,Y,Y,Y,N,N,N,N,N,Y,Y,N,N,N,N,N,N,N,N,N,N,N,N] ?_ (hy := Or.inr ⟨by rfl, rfl⟩)
   refine pp HT_ (N := some 16) (v := undef) 13 #[Y,Y,Y,Y,Y,Y,Y,Y,Y,Y,Y,Y,Y,Y,N,N,N,N,Y,Y,N,N,N,N,N,N,N,N,N,N,N,N] ?_ (hy := Or.inr ⟨by rfl, rfl⟩)
   refine pp HT_ (N := some 17) (v := undef) 14 #[Y,Y,Y,Y,Y,Y,Y,Y,Y,Y,Y,Y,Y,Y,Y,N,N,N,Y,Y,N,N,N,N,N,N,N,N,N,N,N,N] ?_ (hy := Or.inr ⟨by rfl, rfl⟩)
   refine pp HT_ (N := some 18) (v := undef) 15 #[Y,Y,Y,Y,Y,Y,Y,Y,Y,Y,Y,Y,Y,Y,Y,Y,N,N,Y,Y,N,N,N,N,N,N,N,N,N,N,N,N] ?_ (hy := Or.inr ⟨by rfl, rfl⟩)
   refine pp HT_ (N := some 19) 16 #[Y,Y,Y,Y,Y,Y,Y,Y,Y,Y,Y,Y,Y,Y,Y,Y,Y,N,Y,Y,N,N,N,N,N,N,N,N,N,N,N,N] ?_
   refine oo HT_ (N := some 20) 17 #[Y,Y,Y,Y,Y,Y,Y,Y,Y,Y,Y,Y,Y,Y,Y,Y,Y,Y,Y,Y,N,N,N,N,N,N,N,N,N,N,N,N] (fun K hK => ?_)
   refine goes_ Try.func56 kr rfl #[.bool true, .int .i64 2] (by rfl) rfl rfl mq ?_
   with_reducible refine (impl_codeIf.calls true 2 t120 _ A27.out).mono ?_
   rintro e w' ⟨rfl, ⟨nd, rfl⟩⟩
   refine ⟨_, rfl, ?_⟩
   refine hK.out _ _ ⟨cc, cc, cc⟩ (fun hHeld => ?_)
   clear hK K
   refine nn ?_
   refine oo HT_ (N := some 23) 20 #[Y,Y,Y,Y,Y,Y,Y,Y,Y,Y,Y,Y,Y,Y,Y,Y,Y,Y,Y,Y,Y,N,N,N,N,N,N,N,N,N,N,N] (fun K hK => ?_)
   refine goes_ Try.func87 kr rfl #[.slice A0_1 l0_1.length c0_1, .int .i64 1073741824] (by rfl) rfl rfl mq ?_
   with_reducible refine (impl_allWithin.calls _ _ l0_1 1073741824 false _ ?side1 ?side2 A28.out).mono ?_
   (case side1 => exact cq (cB HR0_1.out bq))
   (case side2 => exact HC0_1.out)
   rintro e w44 ⟨rfl, hb⟩
   refine ⟨_, rfl, ?_⟩
   replace BK103 := aM (kB (kq BK103.out) hb)
   replace HB := aM (bT bq hb)
   (try clear hb)
   (try clear hb2)
   (try clear hk)
   (try clear hi)
   refine hK.out _ _ ⟨cc, cc, cc⟩ (fun hHeld => ?_)
   clear hK K
   refine nn ?_
   refine pp HT_ (N := some 24) 21 #[Y,Y,Y,Y,Y,Y,Y,Y,Y,Y,Y,Y,Y,Y,Y,Y,Y,Y,Y,Y,Y,Y,N,N,N,N,N,N,N,N,N,N] ?_
   refine pp HT_ (N := some 25) 22 #[Y,Y,Y,Y,Y,Y,Y,Y,Y,Y,Y,Y,Y,Y,Y,Y,Y,Y,Y,Y,Y,Y,Y,N,N,N,N,N,N,N,N,N] ?_
   refine pp HT_ (N := some 26) (v := undef) 23 #[Y,Y,Y,Y,Y,Y,Y,Y,Y,Y,Y,Y,Y,Y,Y,Y,Y,Y,Y,Y,Y,Y,Y,Y,N,N,N,N,N,N,N,N] ?_ (hy := Or.inr ⟨by rfl, rfl⟩)
   refine pp HT_ (N := some 27) (v := undef) 24 #[Y,Y,Y,Y,Y,Y,Y,Y,Y,Y,Y,Y,Y,Y,Y,Y,Y,Y,Y,Y,Y,Y,Y,Y,Y,N,N,N,N,N,N,N] ?_ (hy := Or.inr ⟨by rfl, rfl⟩)
   refine pp HT_ (N := some 28) (v := undef) 25 #[Y,Y,Y,Y,Y,Y,Y,Y,Y,Y,Y,Y,Y,Y,Y,Y,Y,Y,Y,Y,Y,Y,Y,Y,Y,Y,N,N,N,N,N,N] ?_ (hy := Or.inr ⟨by rfl, rfl⟩)
   refine pp HT_ (N := some 29) (v := undef) 26 #[Y,Y,Y,Y,Y,Y,Y,Y,Y,Y,Y,Y,Y,Y,Y,Y,Y,Y,Y,Y,Y,Y,Y,Y,Y,Y,Y,N,N,N,N,N] ?_ (hy := Or.inr ⟨by rfl, rfl⟩)
   refine pp HT_ (N := some 30) 27 #[Y,Y,Y,Y,Y,Y,Y,Y,Y,Y,Y,Y,Y,Y,Y,Y,Y,Y,Y,Y,Y,Y,Y,Y,Y,Y,Y,Y,N,N,N,N] ?_
   refine oo HT_ (N := some 31) 28 #[Y,Y,Y,Y,Y,Y,Y,Y,Y,Y,Y,Y,Y,Y,Y,Y,Y,Y,Y,Y,Y,Y,Y,Y,Y,Y,Y,Y,Y,N,N,N] (fun K hK => ?_)
   refine goes_ Try.func56 kr rfl #[.bool true, .int .i64 3] (by rfl) rfl rfl mq ?_
   with_reducible refine (impl_codeIf.calls true 3 t128 _ A40.out).mono ?_
   rintro e w' ⟨rfl, ⟨nd, rfl⟩⟩
   refine ⟨_, rfl, ?_⟩
   refine hK.out _ _ ⟨cc, cc, cc⟩ (fun hHeld => ?_)
   clear hK K
   refine nn ?_
   refine oo HT_ (N := some 32) 29 #[Y,Y,Y,Y,Y,Y,Y,Y,Y,Y,Y,Y,Y,Y,Y,Y,Y,Y,Y,Y,Y,Y,Y,Y,Y,Y,Y,Y,Y,Y,N,N] (fun K hK => ?_)
   refine Kd.R_lit_step (Kd.int .i64) _ 2 ?hg (N := 32) ?hd (xs := ([t104, t120, t128] : List Int)) (inner := [.int .i64 t104, .int .i64 t120, .int .i64 t128]) (ok := fun _ => True) (okp := fun _ => True) ?hr ?hp (fun _ hk => hk) trivial (Below.refl _ _) (Nat.le_refl _) (by simp) ?_; (case hd => rfl); (case hg => rfl); (case hr => first | (go_simp; done) | (go_simp; rfl)); (case hp => exact (Reps.one (show Kd.M (Kd.int .i64) _ _ _ t104 [.int .i64 t104] from rfl) (Reps.one (show Kd.M (Kd.int .i64) _ _ _ t120 [.int .i64 t120] from rfl) (Reps.one (show Kd.M (Kd.int .i64) _ _ _ t128 [.int .i64 t128] from rfl) (Reps.none _ _)))))
   intro v130 w45 ho46 hb hg_ hnew_
   clear hg_ hnew_
   (first | rw [← Ny129.out] at ho46 | (simp only [Int.reduceToNat] at ho46; rw [← Ny129.out] at ho46))
   have HO131 := aM (rG ho46 (bZ bq))
   replace BK103 := aM (kB (kq BK103.out) hb)
   replace HB := aM (bT bq hb)
   clear hb ho46
   obtain ⟨Ao47, co47, eo47⟩ := Kd.R_slice HO131.out
   (first | subst eo47 | (injection eo47 with f1_ f2_ f3_; have f4_ := f1_.symm; have f5_ := f3_.symm; clear f1_ f2_ f3_; subst f4_; subst f5_))
   refine hK.out _ _ ⟨cc, cc, cc⟩ (fun hHeld => ?_)
   clear hK K
   refine nn ?_
   refine oo HT_ (N := some 33) 30 #[Y,Y,Y,Y,Y,Y,Y,Y,Y,Y,Y,Y,Y,Y,Y,Y,Y,Y,Y,Y,Y,Y,Y,Y,Y,Y,Y,Y,Y,Y,Y,N] (fun K hK => ?_)
   refine goes_ Try.func54 kr rfl #[.slice Ao47 y129.length co47] (by rfl) rfl rfl mq ?_
   with_reducible refine (impl_first.calls k _ _ y129 t132 _ ?side1 ?side2 A41.out).mono ?_
   (case side1 => exact cq (rR HO131.out).2.2)
   (case side2 => exact (rR HO131.out).2.1)
   rintro e w' ⟨rfl, ⟨nd, rfl⟩⟩
   refine ⟨_, rfl, ?_⟩
   refine hK.out _ _ ⟨cc, cc, cc⟩ (fun hHeld => ?_)
   clear hK K
   refine nn ?_
   refine pp HT_ (N := some 2) 31 #[Y,Y,Y,Y,Y,Y,Y,Y,Y,Y,Y,Y,Y,Y,Y,Y,Y,Y,Y,Y,Y,Y,Y,Y,Y,Y,Y,Y,Y,Y,Y,Y] ?_
   refine done_ (done_of HT_.out kr) ?_
   try go_wp2
   go_ret
   exact ⟨ew, bq⟩

end Go.Proofs.Ytmhnpogjkbmmnaa.PFnLaps
