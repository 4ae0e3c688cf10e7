-- Written by a program of this session: wip/mkprint.py over the kit's print, with contracts proved by hand (wip/given.py)
-- told shortest
-- told shorter still
-- shortened
-- told short
-- worlds by letters
-- squeezed
import Derived.Test.YtmhnpogjkbmmnaaPFnFrameBoundsx0
import Derived.Test.YtmhnpogjkbmmnaaPFnFrameBoundsx1
import Derived.Test.YtmhnpogjkbmmnaaPFnFrameBoundsx2
import Derived.Test.YtmhnpogjkbmmnaaPFnFrameBoundsx3
namespace Go.Proofs.Ytmhnpogjkbmmnaa.PFnFrameBounds
open Go.RowKit Go.Proofs.YtmhnpogjkbmmnaaW.PrintWords Go.Proofs.YtmhnpogjkbmmnaaW.PrintLast Go.Proofs.YtmhnpogjkbmmnaaW.PrintMore
open Go.Proofs.YtmhnpogjkbmmnaaW.PrintWords.Kd renaming R_alloc → rA, R_drewN → rN, R_drew → rD, R_far → rF, R_mono → rM, R_base → rB, R_new' → rW, R_lt → rT, R_lower → rG, R_elder' → rH, R_reads' → rR, C_alloc → cA, C_drewN → cN, C_drew → cD, C_below → cB
open Go.Proofs.YtmhnpogjkbmmnaaW.PrintMore.Kd renaming R_told → rO, R_old → rE
open Go.Proofs.YtmhnpogjkbmmnaaW.PrintWords renaming below_drew1 → bD, below_step → bT, below_size → bZ, blk_drewN → kN, blk_drew → kD, blk_alloc → kA, blk_below → kB, blk_cell → kC, blk_frozen → kF
open Go.Proofs.YtmhnpogjkbmmnaaW.PrintWords.Aside0 renaming mk → aM
attribute [local go_sem] max2_int min2_int max_two min_two max_three min_three max_four min_four   -- for this text's walks alone
set_option linter.unusedVariables false
set_option linter.unusedSimpArgs false

/-! ### spec_l8Frame: function 52 -/
def spec_l8Frame.f (k : Nat) (a0 : Int) (l1 : List Int) (l2 : List Int) (l3 : List Int) : Option (List Int) := (spec_l8Gather.f k l1).bind fun t170 => ((spec_l8Gather.f k l2).bind fun t173 => ((spec_l8Gather.f k l3).bind fun t176 => (if 0 ≤ (wrap64 (Int.tdiv a0 2)) then (if (wrap64 (Int.tdiv a0 2)) ≤ (t170.length : Int) then (if (wrap64 (Int.tdiv a0 2)) ≤ (t173.length : Int) then ((spec_l8Seam.f k a0 (t170.drop ((wrap64 (Int.tdiv a0 2)) : Int).toNat) (t173.take ((wrap64 (Int.tdiv a0 2)) : Int).toNat)).bind fun bt187 => (if (wrap64 (Int.tdiv a0 2)) ≤ (t176.length : Int) then ((spec_l8Seam.f k a0 (t173.drop ((wrap64 (Int.tdiv a0 2)) : Int).toNat) (t176.take ((wrap64 (Int.tdiv a0 2)) : Int).toNat)).bind fun bt201 => (if bt187.2.length + bt201.1.length < 17592186044416 then (some (bt187.2 ++ bt201.1)) else (none))) else (none))) else (none)) else (none)) else (none))))
theorem spec_l8Frame.mono : ∀ a0 a1 a2 a3 k, LeO (spec_l8Frame.f k a0 a1 a2 a3) (spec_l8Frame.f (k + 1) a0 a1 a2 a3) := by
 intro a0 a1 a2 a3 k
 unfold spec_l8Frame.f
 repeat' first
   | (with_reducible exact spec_l8Gather.mono _ _)
   | (with_reducible exact spec_l8Seam.mono _ _ _ _)
   | (with_reducible exact LeO.refl _)
   | (with_reducible exact LeO.none _)
   | (with_reducible refine LeO.ite ?_ ?_)
   | (with_reducible refine LeO.bind ?_ (fun _ => ?_))
   | exact spec_l8Gather.mono _ _
   | exact spec_l8Seam.mono _ _ _ _
   | exact LeO.none _
   | refine LeO.ite ?_ ?_
   | refine LeO.bind ?_ (fun _ => ?_)
def spec_l8Frame.T5 : Bool × List (List Nat × List Nat) := (true, [([], []), ([], []), ([], []), ([1, 2], [1, 2]), ([], []), ([], []), ([4, 5], [4, 5]), ([0, 3, 6], [0, 3, 6]), ([7], [7]), ([8], [8]), ([8], [8]), ([9, 7, 0, 1, 2, 3, 4, 5, 6, 7, 8, 9], [9]), ([10, 11, 0, 1, 2, 3, 4, 5, 6, 7, 8, 9, 10, 11], [10])])
def spec_l8Frame.B5 : List Nat := [0, 0, 0, 6, 0, 0, 48, 127, 255, 511, 511, 1023, 4095]
theorem spec_l8Frame.tab5 : rtab .any (opsOf Try.f52 5) = spec_l8Frame.T5 := by kernel_rfl
theorem spec_l8Frame.bits5 : waitsOk spec_l8Frame.T5.2 spec_l8Frame.B5 = true := by kernel_rfl
def spec_l8Frame.T6 : Bool × List (List Nat × List Nat) := (true, [([], []), ([], []), ([], []), ([1, 2], [1, 2]), ([], []), ([], []), ([4, 5], [4, 5]), ([0, 3, 6], [0, 3, 6]), ([7], [7]), ([8], [8]), ([8], [8]), ([9, 7, 0, 1, 2, 3, 4, 5, 6, 7, 8, 9], [9]), ([10, 11, 0, 1, 2, 3, 4, 5, 6, 7, 8, 9, 10, 11], [10])])
def spec_l8Frame.B6 : List Nat := [0, 0, 0, 6, 0, 0, 48, 127, 255, 511, 511, 1023, 4095]
theorem spec_l8Frame.tab6 : rtab .any (opsOf Try.f52 6) = spec_l8Frame.T6 := by kernel_rfl
theorem spec_l8Frame.bits6 : waitsOk spec_l8Frame.T6.2 spec_l8Frame.B6 = true := by kernel_rfl
set_option maxHeartbeats 8000000 in
set_option maxRecDepth 100000 in
theorem spec_l8Frame.calls (k : Nat) (a0 : Int) (A1 : Option Addr) (c1 : Nat) (l1 : List Int) (A2 : Option Addr) (c2 : Nat) (l2 : List Int) (A3 : Option Addr) (c3 : Nat) (l3 : List Int) (r : List Int) (w : World) (hr1 : Kd.C (Kd.int .i64) w A1 l1.length l1) (hc1 : l1.length ≤ c1) (hr2 : Kd.C (Kd.int .i64) w A2 l2.length l2) (hc2 : l2.length ≤ c2) (hr3 : Kd.C (Kd.int .i64) w A3 l3.length l3) (hc3 : l3.length ≤ c3) (h : spec_l8Frame.f k a0 l1 l2 l3 = some r) :
  Calls Try.prog 52 #[.int .i64 a0, .slice A1 l1.length c1, .slice A2 l2.length c2, .slice A3 l3.length c3] w fun e w' => ∃ v0_ : Value, e = .returned (v0_) ∧ Kd.R (Kd.int .i64) 2 w' w.heap.size (fun _ => True) v0_ r ∧ Below w.heap.size w w' := by
 have HR1 := aM hr1
 have HC1 := aM hc1
 clear hr1 hc1
 have HR2 := aM hr2
 have HC2 := aM hc2
 clear hr2 hc2
 have HR3 := aM hr3
 have HC3 := aM hc3
 clear hr3 hc3
 have HB := aM (Below.refl w.heap.size w)
 have H : ((spec_l8Gather.f k l1).bind fun t170 => ((spec_l8Gather.f k l2).bind fun t173 => ((spec_l8Gather.f k l3).bind fun t176 => (if 0 ≤ (wrap64 (Int.tdiv a0 2)) then (if (wrap64 (Int.tdiv a0 2)) ≤ (t170.length : Int) then (if (wrap64 (Int.tdiv a0 2)) ≤ (t173.length : Int) then ((spec_l8Seam.f k a0 (t170.drop ((wrap64 (Int.tdiv a0 2)) : Int).toNat) (t173.take ((wrap64 (Int.tdiv a0 2)) : Int).toNat)).bind fun bt187 => (if (wrap64 (Int.tdiv a0 2)) ≤ (t176.length : Int) then ((spec_l8Seam.f k a0 (t173.drop ((wrap64 (Int.tdiv a0 2)) : Int).toNat) (t176.take ((wrap64 (Int.tdiv a0 2)) : Int).toNat)).bind fun bt201 => (if bt187.2.length + bt201.1.length < 17592186044416 then (some (bt187.2 ++ bt201.1)) else (none))) else (none))) else (none)) else (none)) else (none))))) = some r := h
 clear h
 replace H := Option.bind_eq_some_iff.mp H
 obtain ⟨t170, A50, H⟩ := H
 replace H : ((spec_l8Gather.f k l2).bind fun t173 => ((spec_l8Gather.f k l3).bind fun t176 => (if 0 ≤ (wrap64 (Int.tdiv a0 2)) then (if (wrap64 (Int.tdiv a0 2)) ≤ (t170.length : Int) then (if (wrap64 (Int.tdiv a0 2)) ≤ (t173.length : Int) then ((spec_l8Seam.f k a0 (t170.drop ((wrap64 (Int.tdiv a0 2)) : Int).toNat) (t173.take ((wrap64 (Int.tdiv a0 2)) : Int).toNat)).bind fun bt187 => (if (wrap64 (Int.tdiv a0 2)) ≤ (t176.length : Int) then ((spec_l8Seam.f k a0 (t173.drop ((wrap64 (Int.tdiv a0 2)) : Int).toNat) (t176.take ((wrap64 (Int.tdiv a0 2)) : Int).toNat)).bind fun bt201 => (if bt187.2.length + bt201.1.length < 17592186044416 then (some (bt187.2 ++ bt201.1)) else (none))) else (none))) else (none)) else (none)) else (none)))) = some r := H
 have A5 := aM A50
 clear A50
 replace H := Option.bind_eq_some_iff.mp H
 obtain ⟨t173, A60, H⟩ := H
 replace H : ((spec_l8Gather.f k l3).bind fun t176 => (if 0 ≤ (wrap64 (Int.tdiv a0 2)) then (if (wrap64 (Int.tdiv a0 2)) ≤ (t170.length : Int) then (if (wrap64 (Int.tdiv a0 2)) ≤ (t173.length : Int) then ((spec_l8Seam.f k a0 (t170.drop ((wrap64 (Int.tdiv a0 2)) : Int).toNat) (t173.take ((wrap64 (Int.tdiv a0 2)) : Int).toNat)).bind fun bt187 => (if (wrap64 (Int.tdiv a0 2)) ≤ (t176.length : Int) then ((spec_l8Seam.f k a0 (t173.drop ((wrap64 (Int.tdiv a0 2)) : Int).toNat) (t176.take ((wrap64 (Int.tdiv a0 2)) : Int).toNat)).bind fun bt201 => (if bt187.2.length + bt201.1.length < 17592186044416 then (some (bt187.2 ++ bt201.1)) else (none))) else (none))) else (none)) else (none)) else (none))) = some r := H
 have A6 := aM A60
 clear A60
 replace H := Option.bind_eq_some_iff.mp H
 obtain ⟨t176, A70, H⟩ := H
 replace H : (if 0 ≤ (wrap64 (Int.tdiv a0 2)) then (if (wrap64 (Int.tdiv a0 2)) ≤ (t170.length : Int) then (if (wrap64 (Int.tdiv a0 2)) ≤ (t173.length : Int) then ((spec_l8Seam.f k a0 (t170.drop ((wrap64 (Int.tdiv a0 2)) : Int).toNat) (t173.take ((wrap64 (Int.tdiv a0 2)) : Int).toNat)).bind fun bt187 => (if (wrap64 (Int.tdiv a0 2)) ≤ (t176.length : Int) then ((spec_l8Seam.f k a0 (t173.drop ((wrap64 (Int.tdiv a0 2)) : Int).toNat) (t176.take ((wrap64 (Int.tdiv a0 2)) : Int).toNat)).bind fun bt201 => (if bt187.2.length + bt201.1.length < 17592186044416 then (some (bt187.2 ++ bt201.1)) else (none))) else (none))) else (none)) else (none)) else (none)) = some r := H
 have A7 := aM A70
 clear A70
 obtain ⟨ji8, hji8⟩ : ∃ j_ : Int, (wrap64 (Int.tdiv a0 2)) = j_ := ⟨_, rfl⟩
 replace H : (if 0 ≤ (ji8) then (if (ji8) ≤ (t170.length : Int) then (if (ji8) ≤ (t173.length : Int) then ((spec_l8Seam.f k a0 (t170.drop ((ji8) : Int).toNat) (t173.take ((ji8) : Int).toNat)).bind fun bt187 => (if (ji8) ≤ (t176.length : Int) then ((spec_l8Seam.f k a0 (t173.drop ((ji8) : Int).toNat) (t176.take ((ji8) : Int).toNat)).bind fun bt201 => (if bt187.2.length + bt201.1.length < 17592186044416 then (some (bt187.2 ++ bt201.1)) else (none))) else (none))) else (none)) else (none)) else (none)) = some r := by first | (rw [hji8] at H; exact H) | (simp only [hji8] at H ⊢; exact H)
 (try rw [hji8] at A5)
 (try rw [hji8] at A6)
 (try rw [hji8] at A7)
 have hji8w : (IntKind.i64.wrap (Int.tdiv a0 2)) = ji8 := (i64_w _).trans hji8
 by_cases c9 : 0 ≤ (ji8)
 ·rw [if_pos c9] at H
  have c9b0 := eq_true c9
  have c9b1 : decide (0 ≤ (ji8)) = true := decide_eq_true c9
  clear c9
  by_cases c10 : (ji8) ≤ (t170.length : Int)
  ·rw [if_pos c10] at H
   have c10b0 := eq_true c10
   have c10b1 : decide ((ji8) ≤ (t170.length : Int)) = true := decide_eq_true c10
   clear c10
   obtain ⟨y179, hy179⟩ : ∃ y_ : List Int, y_ = (t170.drop ((ji8) : Int).toNat) := ⟨_, rfl⟩
   replace H : (if (ji8) ≤ (t173.length : Int) then ((spec_l8Seam.f k a0 y179 (t173.take ((ji8) : Int).toNat)).bind fun bt187 => (if (ji8) ≤ (t176.length : Int) then ((spec_l8Seam.f k a0 (t173.drop ((ji8) : Int).toNat) (t176.take ((ji8) : Int).toNat)).bind fun bt201 => (if bt187.2.length + bt201.1.length < 17592186044416 then (some (bt187.2 ++ bt201.1)) else (none))) else (none))) else (none)) = some r := by first | (rw [hy179]; with_reducible exact H) | (have H2_ := (Option.bind_some _ _).symm.trans H; rw [hy179]; with_reducible exact H2_) | (have H2_ := (Option.bind_some _ _).symm.trans H; with_reducible exact H2_) | with_reducible exact H | (rw [hy179]; exact H) | exact H
   have Ny179 := aM hy179
   clear hy179
   have c11b0 := eq_true (of_decide_eq_true (by first | (with_reducible assumption) | assumption) : 0 ≤ (ji8))
   by_cases c12 : (ji8) ≤ (t173.length : Int)
   ·rw [if_pos c12] at H
    have c12b0 := eq_true c12
    have c12b1 : decide ((ji8) ≤ (t173.length : Int)) = true := decide_eq_true c12
    clear c12
    obtain ⟨y183, hy183⟩ : ∃ y_ : List Int, y_ = (t173.take ((ji8) : Int).toNat) := ⟨_, rfl⟩
    replace H : ((spec_l8Seam.f k a0 y179 y183).bind fun bt187 => (if (ji8) ≤ (t176.length : Int) then ((spec_l8Seam.f k a0 (t173.drop ((ji8) : Int).toNat) (t176.take ((ji8) : Int).toNat)).bind fun bt201 => (if bt187.2.length + bt201.1.length < 17592186044416 then (some (bt187.2 ++ bt201.1)) else (none))) else (none))) = some r := by first | (rw [hy183]; with_reducible exact H) | (have H2_ := (Option.bind_some _ _).symm.trans H; rw [hy183]; with_reducible exact H2_) | (have H2_ := (Option.bind_some _ _).symm.trans H; with_reducible exact H2_) | with_reducible exact H | (rw [hy183]; exact H) | exact H
    have Ny183 := aM hy183
    clear hy183
    replace H := Option.bind_eq_some_iff.mp H
    obtain ⟨⟨t187, t188⟩, A130, H⟩ := H
    replace H : (if (ji8) ≤ (t176.length : Int) then ((spec_l8Seam.f k a0 (t173.drop ((ji8) : Int).toNat) (t176.take ((ji8) : Int).toNat)).bind fun bt201 => (if t188.length + bt201.1.length < 17592186044416 then (some (t188 ++ bt201.1)) else (none))) else (none)) = some r := H
    have A13 := aM A130
    clear A130
    have c14b0 := eq_true (of_decide_eq_true (by first | (with_reducible assumption) | assumption) : 0 ≤ (ji8))
    have c15b0 := eq_true (of_decide_eq_true (by first | (with_reducible assumption) | assumption) : (ji8) ≤ (t173.length : Int))
    obtain ⟨y193, hy193⟩ : ∃ y_ : List Int, y_ = (t173.drop ((ji8) : Int).toNat) := ⟨_, rfl⟩
    replace H : (if (ji8) ≤ (t176.length : Int) then ((spec_l8Seam.f k a0 y193 (t176.take ((ji8) : Int).toNat)).bind fun bt201 => (if t188.length + bt201.1.length < 17592186044416 then (some (t188 ++ bt201.1)) else (none))) else (none)) = some r := by first | (rw [hy193]; with_reducible exact H) | (have H2_ := (Option.bind_some _ _).symm.trans H; rw [hy193]; with_reducible exact H2_) | (have H2_ := (Option.bind_some _ _).symm.trans H; with_reducible exact H2_) | with_reducible exact H | (rw [hy193]; exact H) | exact H
    have Ny193 := aM hy193
    clear hy193
    have c16b0 := eq_true (of_decide_eq_true (by first | (with_reducible assumption) | assumption) : 0 ≤ (ji8))
    by_cases c17 : (ji8) ≤ (t176.length : Int)
    ·rw [if_pos c17] at H
     have c17b0 := eq_true c17
     have c17b1 : decide ((ji8) ≤ (t176.length : Int)) = true := decide_eq_true c17
     clear c17
     obtain ⟨y197, hy197⟩ : ∃ y_ : List Int, y_ = (t176.take ((ji8) : Int).toNat) := ⟨_, rfl⟩
     replace H : ((spec_l8Seam.f k a0 y193 y197).bind fun bt201 => (if t188.length + bt201.1.length < 17592186044416 then (some (t188 ++ bt201.1)) else (none))) = some r := by first | (rw [hy197]; with_reducible exact H) | (have H2_ := (Option.bind_some _ _).symm.trans H; rw [hy197]; with_reducible exact H2_) | (have H2_ := (Option.bind_some _ _).symm.trans H; with_reducible exact H2_) | with_reducible exact H | (rw [hy197]; exact H) | exact H
     have Ny197 := aM hy197
     clear hy197
     replace H := Option.bind_eq_some_iff.mp H
     obtain ⟨⟨t201, t202⟩, A180, H⟩ := H
     replace H : (if t188.length + t201.length < 17592186044416 then (some (t188 ++ t201)) else (none)) = some r := H
     have A18 := aM A180
     clear A180
     by_cases c19 : t188.length + t201.length < 17592186044416
     ·rw [if_pos c19] at H
      have LMc19 := aM c19
      clear c19
      obtain ⟨y207, hy207⟩ : ∃ y_ : List Int, y_ = (t188 ++ t201) := ⟨_, rfl⟩
      replace H : (some y207) = some r := by first | (rw [hy207]; with_reducible exact H) | (have H2_ := (Option.bind_some _ _).symm.trans H; rw [hy207]; with_reducible exact H2_) | (have H2_ := (Option.bind_some _ _).symm.trans H; with_reducible exact H2_) | with_reducible exact H | (rw [hy207]; exact H) | exact H
      have Ny207 := aM hy207
      clear hy207
      obtain rfl := Option.some.inj H
      go_enter Try.func52, Try.ntmps52
      try go_wp2_with (first | ((with_reducible refine gate_callee (f := 101) rfl ?_); refine goesL_ (some 20) rfl rfl Try.func101 kr rfl #[.slice A1 l1.length c1] rfl mq ?_; (with_reducible refine (spec_l8Gather.calls k _ _ l1 t170 _ ?side1 ?side2 A5.out).mono ?_); (case side1 => exact cq HR1.out); (case side2 => exact HC1.out); rintro e w20 ⟨v171, rfl, ho0, hb⟩; refine ⟨_, rfl, ?_⟩; have HO172 := aM (rG ho0 (bZ bq)); replace HB := aM (bT bq hb); (try clear hb); (try clear ho0)) | ((with_reducible refine gate_callee (f := 101) rfl ?_); refine goesL_ (some 22) rfl rfl Try.func101 kr rfl #[.slice A2 l2.length c2] rfl mq ?_; (with_reducible refine (spec_l8Gather.calls k _ _ l2 t173 _ ?side1 ?side2 A6.out).mono ?_); (case side1 => exact cq (cB HR2.out HB.out)); (case side2 => exact HC2.out); rintro e w21 ⟨v174, rfl, ho0, hb⟩; refine ⟨_, rfl, ?_⟩; have HO175 := aM (rG (rW ho0 (rT (rq HO172.out))) (bZ bq)); replace HO172 := aM (rH (rq HO172.out) (rB ho0) hb); replace HB := aM (bT bq hb); (try clear hb); (try clear ho0)) | ((with_reducible refine gate_callee (f := 101) rfl ?_); refine goesL_ (some 24) rfl rfl Try.func101 kr rfl #[.slice A3 l3.length c3] rfl mq ?_; (with_reducible refine (spec_l8Gather.calls k _ _ l3 t176 _ ?side1 ?side2 A7.out).mono ?_); (case side1 => exact cq (cB HR3.out HB.out)); (case side2 => exact HC3.out); rintro e w22 ⟨v177, rfl, ho0, hb⟩; refine ⟨_, rfl, ?_⟩; have HO178 := aM (rG (rW (rW ho0 (rT (rq HO172.out))) (rT (rq HO175.out))) (bZ bq)); replace HO172 := aM (rH (rq HO172.out) (rB ho0) hb); replace HO175 := aM (rH (rq HO175.out) (rB ho0) hb); replace HB := aM (bT bq hb); (try clear hb); (try clear ho0)))
      replace HO172 := aM (rD HO172.out)
      replace HO175 := aM (rD HO175.out)
      replace HO178 := aM (rD HO178.out)
      replace HB := aM (bD HB.out)
      obtain ⟨Ao25, co25, eo25⟩ := Kd.R_slice HO172.out
      (first | subst eo25 | (injection eo25 with f1_ f2_ f3_; have f4_ := f1_.symm; have f5_ := f3_.symm; clear f1_ f2_ f3_; subst f4_; subst f5_))
      have q24 : ((ji8) : Int) ≤ ((t170.length : Int) : Int) := of_decide_eq_true (by first | (with_reducible assumption) | assumption)
      obtain ⟨i024, hi024, _, hsz24, _⟩ := info_parts info2
      have hroom24 : t170.length ≤ co25 := (rR HO172.out).2.1
      have hC24 : Kd.C (Kd.int .i64) _ Ao25 t170.length t170 := (rR HO172.out).2.2
      have q024 : (0 : Int) ≤ ((ji8) : Int) := of_decide_eq_true (by first | (with_reducible assumption) | assumption)
      have hcut24 := cut_from (P := Try.prog) 22 2 .i64 Try.underlying22 hi024 1 hsz24 Ao25 t170.length co25 (ji8) q024 q24
      have hr24 := Kd.C_drop (m := ((ji8) : Int).toNat) (c := co25) hC24 (by omega) hroom24
      obtain ⟨A24, hA24⟩ : ∃ A1, A1 = (if co25 = ((ji8) : Int).toNat then Ao25 else (Ao25 : Option Addr).map (·.add (((ji8) : Int).toNat * 1))) := ⟨_, rfl⟩
      obtain ⟨c24, hc24⟩ : ∃ c1, c1 = co25 - ((ji8) : Int).toNat := ⟨_, rfl⟩
      have hy24 : y179.length = t170.length - ((ji8) : Int).toNat := (by rw [Ny179.out, List.length_drop] <;> omega)
      rw [show (t170).drop ((ji8) : Int).toNat = y179 from Ny179.out.symm] at hr24
      replace hr24 : Kd.C (Kd.int .i64) _ A24 y179.length y179 := (by rw [hA24]; exact hr24)
      rw [← hy24, ← hA24, ← hc24] at hcut24
      have HR182 := aM hr24
      have HC182 := aM (show y179.length ≤ c24 from by rw [hy24, hc24]; exact Nat.sub_le_sub_right hroom24 _)
      clear hr24 hC24 hroom24 hi024 hsz24 hc24
      have KY24 := aM hy24
      have KA24 := aM hA24
      clear hy24 hA24
      have KL24 := aM (show ((ji8) : Int).toNat ≤ t170.length from by omega)
      replace q24 := eq_true q24
      obtain ⟨Ao27, co27, eo27⟩ := Kd.R_slice HO175.out
      (first | subst eo27 | (injection eo27 with f1_ f2_ f3_; have f4_ := f1_.symm; have f5_ := f3_.symm; clear f1_ f2_ f3_; subst f4_; subst f5_))
      have q26 : ((ji8) : Int) ≤ ((t173.length : Int) : Int) := of_decide_eq_true (by first | (with_reducible assumption) | assumption)
      obtain ⟨i026, hi026, _, hsz26, _⟩ := info_parts info2
      have hroom26 : t173.length ≤ co27 := (rR HO175.out).2.1
      have hC26 : Kd.C (Kd.int .i64) _ Ao27 t173.length t173 := (rR HO175.out).2.2
      have hcut26 := cut_to (P := Try.prog) 22 2 .i64 Try.underlying22 hi026 Ao27 t173.length co27 (ji8) (of_decide_eq_true (by first | (with_reducible assumption) | assumption)) q26 hroom26
      have hr26 := Kd.C_take (m := ((ji8) : Int).toNat) hC26 (by omega)
      have hy26 : y183.length = ((ji8) : Int).toNat := (by rw [Ny183.out, List.length_take]; omega)
      rw [← Ny183.out] at hr26
      rw [← hy26] at hcut26
      have HR186 := aM hr26
      have HC186 := aM (show y183.length ≤ co27 from by omega)
      clear hr26 hC26 hroom26 hi026 hsz26
      have KY26 := aM hy26
      clear hy26
      have KL26 := aM (show ((ji8) : Int).toNat ≤ t173.length from by omega)
      replace q26 := eq_true q26
      refine start_ (n := 13) (S := fun w' => True) (ds := []) #[N,N,N,N,N,N,N,N,N,N,N,N,N] kr rfl rfl trivial (fun hHeld => ?_); refine with_tabW spec_l8Frame.tab5 spec_l8Frame.bits5 (fun HT_ HW_ => ?_)
      generalize w22.drew = w23 at HO172 HO175 HO178 HB HR182 HR186 hHeld ⊢
      refine pp HT_ (N := some 26) 0 #[Y,N,N,N,N,N,N,N,N,N,N,N,N] ?_
      refine pp HT_ (N := some 27) 1 #[Y,Y,N,N,N,N,N,N,N,N,N,N,N] ?_
      refine pp HT_ (N := some 28) 2 #[Y,Y,Y,N,N,N,N,N,N,N,N,N,N] ?_
      refine pp HT_ (N := some 29) 3 #[Y,Y,Y,Y,N,N,N,N,N,N,N,N,N] ?_
      refine pp HT_ (N := some 30) 4 #[Y,Y,Y,Y,Y,N,N,N,N,N,N,N,N] ?_
      refine pp HT_ (N := some 31) 5 #[Y,Y,Y,Y,Y,Y,N,N,N,N,N,N,N] ?_
      refine pp HT_ (N := some 32) 6 #[Y,Y,Y,Y,Y,Y,Y,N,N,N,N,N,N] ?_
      refine one_ (i := 7) (N := some 33) #[Y,Y,Y,Y,Y,Y,Y,Y,N,N,N,N,N] rfl rfl (one_of HT_.out kr) (by decide) (fun K hK => ?_)
      refine goes_ Try.func102 kr rfl #[.int .i64 a0, .slice A24 y179.length c24, .slice Ao27 y183.length co27] (by rfl) rfl rfl mq ?_
      with_reducible refine (spec_l8Seam.calls k a0 _ _ y179 _ _ y183 t187 t188 _ ?side1 ?side2 ?side3 ?side4 A13.out).mono ?_
      (case side1 => repeat (first | exact (by repeat (first | (with_reducible exact HR182.out) | (with_reducible refine cA ?_ _) | (with_reducible refine cN ?_ _) | (with_reducible refine cD ?_) | exact HR182.out)) | (with_reducible refine cA ?_ _) | (with_reducible refine cN ?_ _) | (with_reducible refine cD ?_)))
      (case side2 => exact HC182.out)
      (case side3 => repeat (first | exact (by repeat (first | (with_reducible exact HR186.out) | (with_reducible refine cA ?_ _) | (with_reducible refine cN ?_ _) | (with_reducible refine cD ?_) | exact HR186.out)) | (with_reducible refine cA ?_ _) | (with_reducible refine cN ?_ _) | (with_reducible refine cD ?_)))
      (case side4 => exact HC186.out)
      rintro e w28 ⟨v189, v191, rfl, ho0, ho1, hb⟩
      refine ⟨_, rfl, ?_⟩
      have HO190 := aM (rG (rW (rW (rW ho0 (rT (rq HO172.out))) (rT (rq HO175.out))) (rT (rq HO178.out))) (bZ bq))
      have HO192 := aM (rG (rW (rW (rW ho1 (rT (rq HO172.out))) (rT (rq HO175.out))) (rT (rq HO178.out))) (bZ bq))
      replace HO172 := aM (rM (rO (rO (rE (rq HO172.out) hb) (rB ho0)) (rB ho1)) (fun _ h_ => h_.1))
      replace HO175 := aM (rM (rO (rO (rE (rq HO175.out) hb) (rB ho0)) (rB ho1)) (fun _ h_ => h_.1))
      replace HO178 := aM (rM (rO (rO (rE (rq HO178.out) hb) (rB ho0)) (rB ho1)) (fun _ h_ => h_.1))
      replace HR182 := aM (cB (by repeat (first | (with_reducible exact HR182.out) | (with_reducible refine cA ?_ _) | (with_reducible refine cN ?_ _) | (with_reducible refine cD ?_) | exact HR182.out)) hb)
      replace HR186 := aM (cB (by repeat (first | (with_reducible exact HR186.out) | (with_reducible refine cA ?_ _) | (with_reducible refine cN ?_ _) | (with_reducible refine cD ?_) | exact HR186.out)) hb)
      replace HB := aM (bT bq hb)
      (try clear hb)
      (try clear hb2)
      (try clear hk)
      (try clear hi)
      (try clear ho0)
      (try clear ho1)
      refine hK.out _ _ trivial (fun hHeld => ?_)
      clear hK K
      refine norm_ (a' := ?_) ?_ ?_
      rotate_left
      ·show Act.put _ (some 33) _ = _
       simp only [Act.put, pa, pb, pc, i64_w, i32_w]
       rfl
      refine pp HT_ (N := some 25) 8 #[Y,Y,Y,Y,Y,Y,Y,Y,Y,N,N,N,N] ?_
      refine pp HT_ (N := some 34) 9 #[Y,Y,Y,Y,Y,Y,Y,Y,Y,Y,N,N,N] ?_
      refine pp HT_ (N := some 35) 10 #[Y,Y,Y,Y,Y,Y,Y,Y,Y,Y,Y,N,N] ?_
      refine pp HT_ (N := some 13) 11 #[Y,Y,Y,Y,Y,Y,Y,Y,Y,Y,Y,Y,N] ?_
      refine pp HT_ (N := some 14) 12 #[Y,Y,Y,Y,Y,Y,Y,Y,Y,Y,Y,Y,Y] ?_
      refine done_ (done_of HT_.out kr) ?_
      try go_wp2
      replace HO172 := aM (rD HO172.out)
      replace HO175 := aM (rD HO175.out)
      replace HO178 := aM (rD HO178.out)
      replace HO190 := aM (rD HO190.out)
      replace HO192 := aM (rD HO192.out)
      replace HR182 := aM (cD HR182.out)
      replace HR186 := aM (cD HR186.out)
      replace HB := aM (bD HB.out)
      have q30 : ((ji8) : Int) ≤ ((t173.length : Int) : Int) := of_decide_eq_true (by first | (with_reducible assumption) | assumption)
      obtain ⟨i030, hi030, _, hsz30, _⟩ := info_parts info2
      have hroom30 : t173.length ≤ co27 := (rR HO175.out).2.1
      have hC30 : Kd.C (Kd.int .i64) _ Ao27 t173.length t173 := (rR HO175.out).2.2
      have q030 : (0 : Int) ≤ ((ji8) : Int) := of_decide_eq_true (by first | (with_reducible assumption) | assumption)
      have hcut30 := cut_from (P := Try.prog) 22 2 .i64 Try.underlying22 hi030 1 hsz30 Ao27 t173.length co27 (ji8) q030 q30
      have hr30 := Kd.C_drop (m := ((ji8) : Int).toNat) (c := co27) hC30 (by omega) hroom30
      obtain ⟨A30, hA30⟩ : ∃ A1, A1 = (if co27 = ((ji8) : Int).toNat then Ao27 else (Ao27 : Option Addr).map (·.add (((ji8) : Int).toNat * 1))) := ⟨_, rfl⟩
      obtain ⟨c30, hc30⟩ : ∃ c1, c1 = co27 - ((ji8) : Int).toNat := ⟨_, rfl⟩
      have hy30 : y193.length = t173.length - ((ji8) : Int).toNat := (by rw [Ny193.out, List.length_drop] <;> omega)
      rw [show (t173).drop ((ji8) : Int).toNat = y193 from Ny193.out.symm] at hr30
      replace hr30 : Kd.C (Kd.int .i64) _ A30 y193.length y193 := (by rw [hA30]; exact hr30)
      rw [← hy30, ← hA30, ← hc30] at hcut30
      have HR196 := aM hr30
      have HC196 := aM (show y193.length ≤ c30 from by rw [hy30, hc30]; exact Nat.sub_le_sub_right hroom30 _)
      clear hr30 hC30 hroom30 hi030 hsz30 hc30
      have KY30 := aM hy30
      have KA30 := aM hA30
      clear hy30 hA30
      have KL30 := aM (show ((ji8) : Int).toNat ≤ t173.length from by omega)
      replace q30 := eq_true q30
      obtain ⟨Ao32, co32, eo32⟩ := Kd.R_slice HO178.out
      (first | subst eo32 | (injection eo32 with f1_ f2_ f3_; have f4_ := f1_.symm; have f5_ := f3_.symm; clear f1_ f2_ f3_; subst f4_; subst f5_))
      have q31 : ((ji8) : Int) ≤ ((t176.length : Int) : Int) := of_decide_eq_true (by first | (with_reducible assumption) | assumption)
      obtain ⟨i031, hi031, _, hsz31, _⟩ := info_parts info2
      have hroom31 : t176.length ≤ co32 := (rR HO178.out).2.1
      have hC31 : Kd.C (Kd.int .i64) _ Ao32 t176.length t176 := (rR HO178.out).2.2
      have hcut31 := cut_to (P := Try.prog) 22 2 .i64 Try.underlying22 hi031 Ao32 t176.length co32 (ji8) (of_decide_eq_true (by first | (with_reducible assumption) | assumption)) q31 hroom31
      have hr31 := Kd.C_take (m := ((ji8) : Int).toNat) hC31 (by omega)
      have hy31 : y197.length = ((ji8) : Int).toNat := (by rw [Ny197.out, List.length_take]; omega)
      rw [← Ny197.out] at hr31
      rw [← hy31] at hcut31
      have HR200 := aM hr31
      have HC200 := aM (show y197.length ≤ co32 from by omega)
      clear hr31 hC31 hroom31 hi031 hsz31
      have KY31 := aM hy31
      clear hy31
      have KL31 := aM (show ((ji8) : Int).toNat ≤ t176.length from by omega)
      replace q31 := eq_true q31
      refine start_ (n := 13) (S := fun w' => True) (ds := []) #[N,N,N,N,N,N,N,N,N,N,N,N,N] kr rfl rfl trivial (fun hHeld => ?_); refine with_tabW spec_l8Frame.tab6 spec_l8Frame.bits6 (fun HT_ HW_ => ?_)
      generalize w28.drew = w29 at HO172 HO175 HO178 HO190 HO192 HR182 HR186 HB HR196 HR200 hHeld ⊢
      refine pp HT_ (N := some 37) 0 #[Y,N,N,N,N,N,N,N,N,N,N,N,N] ?_
      refine pp HT_ (N := some 38) 1 #[Y,Y,N,N,N,N,N,N,N,N,N,N,N] ?_
      refine pp HT_ (N := some 39) 2 #[Y,Y,Y,N,N,N,N,N,N,N,N,N,N] ?_
      refine pp HT_ (N := some 40) 3 #[Y,Y,Y,Y,N,N,N,N,N,N,N,N,N] ?_
      refine pp HT_ (N := some 41) 4 #[Y,Y,Y,Y,Y,N,N,N,N,N,N,N,N] ?_
      refine pp HT_ (N := some 42) 5 #[Y,Y,Y,Y,Y,Y,N,N,N,N,N,N,N] ?_
      refine pp HT_ (N := some 43) 6 #[Y,Y,Y,Y,Y,Y,Y,N,N,N,N,N,N] ?_
      refine one_ (i := 7) (N := some 44) #[Y,Y,Y,Y,Y,Y,Y,Y,N,N,N,N,N] rfl rfl (one_of HT_.out kr) (by decide) (fun K hK => ?_)
      refine goes_ Try.func102 kr rfl #[.int .i64 a0, .slice A30 y193.length c30, .slice Ao32 y197.length co32] (by rfl) rfl rfl mq ?_
      with_reducible refine (spec_l8Seam.calls k a0 _ _ y193 _ _ y197 t201 t202 _ ?side1 ?side2 ?side3 ?side4 A18.out).mono ?_
      (case side1 => repeat (first | exact (by repeat (first | (with_reducible exact HR196.out) | (with_reducible refine cA ?_ _) | (with_reducible refine cN ?_ _) | (with_reducible refine cD ?_) | exact HR196.out)) | (with_reducible refine cA ?_ _) | (with_reducible refine cN ?_ _) | (with_reducible refine cD ?_)))
      (case side2 => exact HC196.out)
      (case side3 => repeat (first | exact (by repeat (first | (with_reducible exact HR200.out) | (with_reducible refine cA ?_ _) | (with_reducible refine cN ?_ _) | (with_reducible refine cD ?_) | exact HR200.out)) | (with_reducible refine cA ?_ _) | (with_reducible refine cN ?_ _) | (with_reducible refine cD ?_)))
      (case side4 => exact HC200.out)
      rintro e w33 ⟨v203, v205, rfl, ho0, ho1, hb⟩
      refine ⟨_, rfl, ?_⟩
      have HO204 := aM (rG (rW (rW (rW (rW (rW ho0 (rT (rq HO172.out))) (rT (rq HO175.out))) (rT (rq HO178.out))) (rT (rq HO190.out))) (rT (rq HO192.out))) (bZ bq))
      have HO206 := aM (rG (rW (rW (rW (rW (rW ho1 (rT (rq HO172.out))) (rT (rq HO175.out))) (rT (rq HO178.out))) (rT (rq HO190.out))) (rT (rq HO192.out))) (bZ bq))
      replace HO172 := aM (rM (rO (rO (rE (rq HO172.out) hb) (rB ho0)) (rB ho1)) (fun _ h_ => h_.1))
      replace HO175 := aM (rM (rO (rO (rE (rq HO175.out) hb) (rB ho0)) (rB ho1)) (fun _ h_ => h_.1))
      replace HO178 := aM (rM (rO (rO (rE (rq HO178.out) hb) (rB ho0)) (rB ho1)) (fun _ h_ => h_.1))
      replace HO190 := aM (rM (rO (rO (rE (rq HO190.out) hb) (rB ho0)) (rB ho1)) (fun _ h_ => h_.1))
      replace HO192 := aM (rM (rO (rO (rE (rq HO192.out) hb) (rB ho0)) (rB ho1)) (fun _ h_ => h_.1))
      replace HR182 := aM (cB (by repeat (first | (with_reducible exact HR182.out) | (with_reducible refine cA ?_ _) | (with_reducible refine cN ?_ _) | (with_reducible refine cD ?_) | exact HR182.out)) hb)
      replace HR186 := aM (cB (by repeat (first | (with_reducible exact HR186.out) | (with_reducible refine cA ?_ _) | (with_reducible refine cN ?_ _) | (with_reducible refine cD ?_) | exact HR186.out)) hb)
      replace HR196 := aM (cB (by repeat (first | (with_reducible exact HR196.out) | (with_reducible refine cA ?_ _) | (with_reducible refine cN ?_ _) | (with_reducible refine cD ?_) | exact HR196.out)) hb)
      replace HR200 := aM (cB (by repeat (first | (with_reducible exact HR200.out) | (with_reducible refine cA ?_ _) | (with_reducible refine cN ?_ _) | (with_reducible refine cD ?_) | exact HR200.out)) hb)
      replace HB := aM (bT bq hb)
      (try clear hb)
      (try clear hb2)
      (try clear hk)
      (try clear hi)
      (try clear ho0)
      (try clear ho1)
      refine hK.out _ _ trivial (fun hHeld => ?_)
      clear hK K
      refine norm_ (a' := ?_) ?_ ?_
      rotate_left
      ·show Act.put _ (some 44) _ = _
       simp only [Act.put, pa, pb, pc, i64_w, i32_w]
       rfl
      refine pp HT_ (N := some 36) 8 #[Y,Y,Y,Y,Y,Y,Y,Y,Y,N,N,N,N] ?_
      refine pp HT_ (N := some 45) 9 #[Y,Y,Y,Y,Y,Y,Y,Y,Y,Y,N,N,N] ?_
      refine pp HT_ (N := some 46) 10 #[Y,Y,Y,Y,Y,Y,Y,Y,Y,Y,Y,N,N] ?_
      refine pp HT_ (N := some 15) 11 #[Y,Y,Y,Y,Y,Y,Y,Y,Y,Y,Y,Y,N] ?_
      refine pp HT_ (N := some 16) 12 #[Y,Y,Y,Y,Y,Y,Y,Y,Y,Y,Y,Y,Y] ?_
      refine done_ (done_of HT_.out kr) ?_
      obtain ⟨Ao35, co35, eo35⟩ := Kd.R_slice HO204.out
      subst eo35
      try go_wp2_with (first | ((with_reducible refine gate_builtin (b := .append) (xs := #[.tmp 47, .tmp 48]) rfl ?_); at_builtin; refine Kd.R_append_rows (Kd.int .i64) (w0 := w) w.heap.size rfl (.tmp 47) (.tmp 48) 22 2 (.int .i64 0) 8 rfl Try.underlying22 info2 rfl (by decide) (by omega) v191 t188 t201 _ _ _ (fun k_ => nS Ao25 t170 co25 k_ ∧ nS Ao27 t173 co27 k_ ∧ nS Ao32 t176 co32 k_ ∧ nb v189 k_ ∧ nS Ao35 t201 co35 k_ ∧ nb v205 k_) (fun _ => False) rfl rfl ?aO ?aR (fun _ _ h => h) (fun _ h => h.elim) ?aF ?aB ?aS ?aL ?_; (case aR => exact cq (rR HO204.out).2.2); (case aB => exact bq); (case aF => exact (fun k_ hk => ⟨Kd.fresh' (rT (rq HO172.out)) k_ hk, Kd.fresh' (rT (rq HO175.out)) k_ hk, Kd.fresh' (rT (rq HO178.out)) k_ hk, Kd.fresh' (rT (rq HO190.out)) k_ hk, Kd.fresh' (rT (rq HO204.out)) k_ hk, Kd.fresh' (rT (rq HO206.out)) k_ hk⟩)); (case aO => exact (rq (rM HO192.out jq))); (case aS => exact (bZ bq)); (case aL => have := LMc19.out; omega); intro v208 w34 ho hb hg hat; rw [← Ny207.out] at ho; replace HO190 := aM (Kd.R_after (ok := (fun k_ => nS Ao25 t170 co25 k_ ∧ nS Ao27 t173 co27 k_ ∧ nS Ao32 t176 co32 k_ ∧ nS Ao35 t201 co35 k_ ∧ nb v205 k_)) (rq (rM HO190.out jq)) hg hat); replace HO204 := aM (Kd.R_after (ok := (fun k_ => nS Ao25 t170 co25 k_ ∧ nS Ao27 t173 co27 k_ ∧ nS Ao32 t176 co32 k_ ∧ nb v189 k_ ∧ nb v205 k_)) (rq (rM HO204.out jq)) hg hat); replace HO206 := aM (Kd.R_after (ok := (fun k_ => nS Ao25 t170 co25 k_ ∧ nS Ao27 t173 co27 k_ ∧ nS Ao32 t176 co32 k_ ∧ nb v189 k_ ∧ nS Ao35 t201 co35 k_)) (rq (rM HO206.out jq)) hg hat); replace HB := aM (hb); replace HR182 := aM ((show Kd.C (Kd.int .i64) w34 A24 y179.length y179 from by rw [Ny179.out, KA24.out]; exact Kd.C_drop (m := ((ji8) : Int).toNat) (c := co25) ((rR (Kd.R_after (ok := (fun k_ => nS Ao27 t173 co27 k_ ∧ nS Ao32 t176 co32 k_ ∧ nb v189 k_ ∧ nS Ao35 t201 co35 k_ ∧ nb v205 k_)) (rq (rM HO172.out jq)) hg hat)).2.2) KL24.out ((rR (Kd.R_after (ok := (fun k_ => nS Ao27 t173 co27 k_ ∧ nS Ao32 t176 co32 k_ ∧ nb v189 k_ ∧ nS Ao35 t201 co35 k_ ∧ nb v205 k_)) (rq (rM HO172.out jq)) hg hat)).2.1))); replace HO172 := aM (Kd.R_after (ok := (fun k_ => nS Ao27 t173 co27 k_ ∧ nS Ao32 t176 co32 k_ ∧ nb v189 k_ ∧ nS Ao35 t201 co35 k_ ∧ nb v205 k_)) (rq (rM HO172.out jq)) hg hat); replace HR186 := aM ((show Kd.C (Kd.int .i64) w34 Ao27 y183.length y183 from by rw [Ny183.out]; exact Kd.C_take (m := ((ji8) : Int).toNat) ((rR (Kd.R_after (ok := (fun k_ => nS Ao25 t170 co25 k_ ∧ nS Ao32 t176 co32 k_ ∧ nb v189 k_ ∧ nS Ao35 t201 co35 k_ ∧ nb v205 k_)) (rq (rM HO175.out jq)) hg hat)).2.2) KL26.out)); replace HR196 := aM ((show Kd.C (Kd.int .i64) w34 A30 y193.length y193 from by rw [Ny193.out, KA30.out]; exact Kd.C_drop (m := ((ji8) : Int).toNat) (c := co27) ((rR (Kd.R_after (ok := (fun k_ => nS Ao25 t170 co25 k_ ∧ nS Ao32 t176 co32 k_ ∧ nb v189 k_ ∧ nS Ao35 t201 co35 k_ ∧ nb v205 k_)) (rq (rM HO175.out jq)) hg hat)).2.2) KL30.out ((rR (Kd.R_after (ok := (fun k_ => nS Ao25 t170 co25 k_ ∧ nS Ao32 t176 co32 k_ ∧ nb v189 k_ ∧ nS Ao35 t201 co35 k_ ∧ nb v205 k_)) (rq (rM HO175.out jq)) hg hat)).2.1))); replace HO175 := aM (Kd.R_after (ok := (fun k_ => nS Ao25 t170 co25 k_ ∧ nS Ao32 t176 co32 k_ ∧ nb v189 k_ ∧ nS Ao35 t201 co35 k_ ∧ nb v205 k_)) (rq (rM HO175.out jq)) hg hat); replace HR200 := aM ((show Kd.C (Kd.int .i64) w34 Ao32 y197.length y197 from by rw [Ny197.out]; exact Kd.C_take (m := ((ji8) : Int).toNat) ((rR (Kd.R_after (ok := (fun k_ => nS Ao25 t170 co25 k_ ∧ nS Ao27 t173 co27 k_ ∧ nb v189 k_ ∧ nS Ao35 t201 co35 k_ ∧ nb v205 k_)) (rq (rM HO178.out jq)) hg hat)).2.2) KL31.out)); replace HO178 := aM (Kd.R_after (ok := (fun k_ => nS Ao25 t170 co25 k_ ∧ nS Ao27 t173 co27 k_ ∧ nb v189 k_ ∧ nS Ao35 t201 co35 k_ ∧ nb v205 k_)) (rq (rM HO178.out jq)) hg hat); have HO209 := aM (ho); clear HO192 ho hb hg hat))
      go_ret
      exact ⟨_, by first | rfl | (simp [errW_none, errW_some] <;> rfl) | (simp only [← hji8]; first | rfl | (simp [errW_none, errW_some] <;> rfl)) | (simp [*, errW_none, errW_some] <;> rfl), by (with_reducible repeat (first | apply rA | apply rN | apply rD)); exact rM HO209.out (fun _ hk => trivial), bq⟩
     ·rw [if_neg c19] at H
      exact absurd H (by simp)
    ·rw [if_neg c17] at H
     exact absurd H (by simp)
   ·rw [if_neg c12] at H
    exact absurd H (by simp)
  ·rw [if_neg c10] at H
   exact absurd H (by simp)
 ·rw [if_neg c9] at H
  exact absurd H (by simp)

/-! ### spec_FrameBounds: function 9 -/
def spec_FrameBounds.j0 : Nat → Int → List Int → List Int → List Int → Bool → Option (Int × List Int)
 | 0, _, _, _, _, _ => none
 | k + 1, x0, x1, x2, x3, x34 => if x34 = true then (some (2, ([] : List Int))) else ((spec_l8Ask.f k x1).bind fun t212 => (if t212 = 0 then ((spec_l8Ask.f k x2).bind fun t213 => (if t213 = 0 then ((spec_l8Ask.f k x3).bind fun t214 => (if t214 = 0 then ((spec_l8Frame.f k x0 x1 x2 x3).bind fun t215 => (some (0, t215))) else (some (t214, ([] : List Int))))) else (some (t213, ([] : List Int))))) else (some (t212, ([] : List Int)))))
def spec_FrameBounds.f (k : Nat) (a0 : Int) (l1 : List Int) (l2 : List Int) (l3 : List Int) : Option (Int × List Int) := (spec_SizeFault.f a0).bind fun t211 => (if t211 = 0 then (if (l1.length : Int) = a0 then (if (l2.length : Int) = a0 then (spec_FrameBounds.j0 k a0 l1 l2 l3 ((l3.length : Int) != a0)) else (spec_FrameBounds.j0 k a0 l1 l2 l3 true)) else (spec_FrameBounds.j0 k a0 l1 l2 l3 true)) else (some (t211, ([] : List Int))))
theorem spec_FrameBounds.mono_l : ∀ k, (∀ y0 y1 y2 y3 y4, LeO (spec_FrameBounds.j0 k y0 y1 y2 y3 y4) (spec_FrameBounds.j0 (k + 1) y0 y1 y2 y3 y4))
 | 0 => fun _ _ _ _ _ r h => by simp [spec_FrameBounds.j0] at h
 | k + 1 => by
  have ih0 := spec_FrameBounds.mono_l k
  ·intro y0 y1 y2 y3 y4
   unfold spec_FrameBounds.j0
   repeat' first
   | (with_reducible exact ih0 _ _ _ _ _)
   | (with_reducible exact spec_l8Ask.mono _ _)
   | (with_reducible exact spec_l8Frame.mono _ _ _ _ _)
   | (with_reducible exact LeO.refl _)
   | (with_reducible exact LeO.none _)
   | (with_reducible refine LeO.ite ?_ ?_)
   | (with_reducible refine LeO.bind ?_ (fun _ => ?_))
   | exact ih0 _ _ _ _ _
   | exact spec_l8Ask.mono _ _
   | exact spec_l8Frame.mono _ _ _ _ _
   | exact LeO.none _
   | refine LeO.ite ?_ ?_
   | refine LeO.bind ?_ (fun _ => ?_)
theorem spec_FrameBounds.mono : ∀ a0 a1 a2 a3 k, LeO (spec_FrameBounds.f k a0 a1 a2 a3) (spec_FrameBounds.f (k + 1) a0 a1 a2 a3) := by
 intro a0 a1 a2 a3 k
 have ih0 := spec_FrameBounds.mono_l k
 unfold spec_FrameBounds.f
 repeat' first
   | (with_reducible exact ih0 _ _ _ _ _)
   | (with_reducible exact spec_l8Ask.mono _ _)
   | (with_reducible exact spec_l8Frame.mono _ _ _ _ _)
   | (with_reducible exact LeO.refl _)
   | (with_reducible exact LeO.none _)
   | (with_reducible refine LeO.ite ?_ ?_)
   | (with_reducible refine LeO.bind ?_ (fun _ => ?_))
   | exact ih0 _ _ _ _ _
   | exact spec_l8Ask.mono _ _
   | exact spec_l8Frame.mono _ _ _ _ _
   | exact LeO.none _
   | refine LeO.ite ?_ ?_
   | refine LeO.bind ?_ (fun _ => ?_)
set_option maxHeartbeats 8000000 in
set_option maxRecDepth 100000 in
theorem spec_FrameBounds.calls (k : Nat) (a0 : Int) (A1 : Option Addr) (c1 : Nat) (l1 : List Int) (A2 : Option Addr) (c2 : Nat) (l2 : List Int) (A3 : Option Addr) (c3 : Nat) (l3 : List Int) (r1 : Int) (r2 : List Int) (w : World) (hr1 : Kd.C (Kd.int .i64) w A1 l1.length l1) (hc1 : l1.length ≤ c1) (hr2 : Kd.C (Kd.int .i64) w A2 l2.length l2) (hc2 : l2.length ≤ c2) (hr3 : Kd.C (Kd.int .i64) w A3 l3.length l3) (hc3 : l3.length ≤ c3) (h : spec_FrameBounds.f k a0 l1 l2 l3 = some (r1, r2)) :
  Calls Try.prog 9 #[.int .i64 a0, .slice A1 l1.length c1, .slice A2 l2.length c2, .slice A3 l3.length c3] w fun e w' => ∃ v1_ : Value, e = .returned (.agg #[.int .i64 r1, v1_]) ∧ Kd.R (Kd.int .i64) 2 w' w.heap.size (fun _ => True) v1_ r2 ∧ Below w.heap.size w w' := by
 have hu24 := Try.underlying24
 have HR1 := aM hr1
 have HC1 := aM hc1
 clear hr1 hc1
 have HR2 := aM hr2
 have HC2 := aM hc2
 clear hr2 hc2
 have HR3 := aM hr3
 have HC3 := aM hc3
 clear hr3 hc3
 have HB := aM (Below.refl w.heap.size w)
 have H : ((spec_SizeFault.f a0).bind fun t211 => (if t211 = 0 then (if (l1.length : Int) = a0 then (if (l2.length : Int) = a0 then (spec_FrameBounds.j0 k a0 l1 l2 l3 ((l3.length : Int) != a0)) else (spec_FrameBounds.j0 k a0 l1 l2 l3 true)) else (spec_FrameBounds.j0 k a0 l1 l2 l3 true)) else (some (t211, ([] : List Int))))) = some (r1, r2) := h
 clear h
 replace H := Option.bind_eq_some_iff.mp H
 obtain ⟨t211, A50, H⟩ := H
 replace H : (if t211 = 0 then (if (l1.length : Int) = a0 then (if (l2.length : Int) = a0 then (spec_FrameBounds.j0 k a0 l1 l2 l3 ((l3.length : Int) != a0)) else (spec_FrameBounds.j0 k a0 l1 l2 l3 true)) else (spec_FrameBounds.j0 k a0 l1 l2 l3 true)) else (some (t211, ([] : List Int)))) = some (r1, r2) := H
 have A5 := aM A50
 clear A50
 by_cases c6 : t211 = 0
 ·rw [if_pos c6] at H
  have c6b0 : (t211 == 0) = true := beq_iff_eq.mpr c6
  have c6b1 : (t211 != 0) = false := bne_eq_false_iff_eq.mpr c6
  clear c6
  have HC7 := aM H
  clear H
  go_enter Try.func9, Try.ntmps9
  go_upto_region 4 with (first | ((with_reducible refine gate_dst (N := 8) rfl ?_); (try (refine gate_guard (by rfl) ?_; dsimp only)); refine box_event ?hg (N := 8) ?hd (cs := #[.int .i64 0, .slice none 0 0]) (t := 24) ?hr ?_; (case hd => rfl); (case hg => rfl); (case hr => first | (go_simp; done) | (go_simp; rfl)); intro gb210 hg w8 hbox hb; have BK210 := aM (hbox); have GW210 := aM ((by rw [hg]; exact (bZ bq) : w.heap.size ≤ gb210)); have GE210 := aM ((by rw [hg]; exact (bZ bq) : w.heap.size ≤ gb210)); replace HB := aM (bT bq hb); clear hb hbox hg) | ((with_reducible refine gate_callee (f := 50) rfl ?_); refine goesL_ (some 14) rfl rfl Try.func50 kr rfl #[.int .i64 a0] rfl mq ?_; (with_reducible refine (spec_SizeFault.calls a0 t211 _ A5.out).mono ?_); rintro e w' ⟨rfl, ⟨nd, rfl⟩⟩; refine ⟨_, rfl, ?_⟩))
  (try simp only [Act.put, pa, pb, pc])
  go_cut [34] (fun v34 wc => ∃ (kq : Nat) (x34_6 : Bool), v34 = .bool x34_6 ∧ Aside0 (spec_FrameBounds.j0 kq a0 l1 l2 l3 x34_6 = some (r1, r2)) ∧ Aside0 (kq ≤ k) ∧ Aside0 (wc.heap[gb210]? = some (.cells #[.int .i64 0, (.slice none 0 0)] 24 (0, 0))) ∧ Aside0 (Below w.heap.size w wc))
  case first =>
   have H := HC7.out
   clear HC7
   by_cases c9 : (l1.length : Int) = a0
   ·rw [if_pos c9] at H
    have c9b0 : ((l1.length : Int) == a0) = true := beq_iff_eq.mpr c9
    have c9b1 : ((l1.length : Int) != a0) = false := bne_eq_false_iff_eq.mpr c9
    clear c9
    (first | rw [c9b0] | (simp only [i64_w, i32_w]; rw [c9b0]) | skip)
    by_cases c10 : (l2.length : Int) = a0
    ·rw [if_pos c10] at H
     have c10b0 : ((l2.length : Int) == a0) = true := beq_iff_eq.mpr c10
     have c10b1 : ((l2.length : Int) != a0) = false := bne_eq_false_iff_eq.mpr c10
     clear c10
     have H' := aM H
     clear H
     go_wp2
     go_meet
     case rel => exact ⟨_, (((l3.length : Int) != a0)), (ex), H', ⟨by first | omega | exact Nat.le_refl _⟩, aM (kq BK210.out), ⟨bq⟩⟩
    ·rw [if_neg c10] at H
     have c10b0 : ((l2.length : Int) == a0) = false := beq_eq_false_iff_ne.mpr c10
     have c10b1 : ((l2.length : Int) != a0) = true := bne_iff_ne.mpr c10
     have H' := aM H
     clear H
     go_wp2
     go_meet
     case rel => exact ⟨_, (true), (ex), H', ⟨by first | omega | exact Nat.le_refl _⟩, aM (kq BK210.out), ⟨bq⟩⟩
   ·rw [if_neg c9] at H
    have c9b0 : ((l1.length : Int) == a0) = false := beq_eq_false_iff_ne.mpr c9
    have c9b1 : ((l1.length : Int) != a0) = true := bne_iff_ne.mpr c9
    (first | rw [c9b0] | (simp only [i64_w, i32_w]; rw [c9b0]) | skip)
    have H' := aM H
    clear H
    go_wp2
    go_meet
    case rel => exact ⟨_, (true), (ex), H', ⟨by first | omega | exact Nat.le_refl _⟩, aM (kq BK210.out), ⟨bq⟩⟩
  case rest =>
   clear HC7
   try clear c1
   try clear c2
   try clear p2
   try clear c3
   try clear c5
   try clear c6
   try clear c6b0
   try clear c6b1
   try clear c9
   try clear c9b0
   try clear c9b1
   try clear c10
   try clear c10b0
   try clear c10b1
   obtain ⟨kq, x34_6, rfl, HA, HJ6, BK210, HB⟩ := hcut
   cases kq with
   | zero => exact absurd HA.out (by simp [spec_FrameBounds.j0])
   | succ kj6 =>
    have H := HA.out
    clear HA
    simp only [spec_FrameBounds.j0] at H
    by_cases c11 : x34_6 = true
    ·subst c11
     have H1 : (some (2, ([] : List Int))) = some (r1, r2) := by rw [if_pos rfl] at H; exact H
     clear H
     have H := H1
     clear H1
     simp only [Option.some.injEq, Prod.mk.injEq] at H
     obtain ⟨rfl, rfl⟩ := H
     have hcz12_0 : wc.cell? ⟨gb210, 0, none⟩ = some (.int .i64 0) := (kC BK210.out 0).trans rfl
     have hcz12_1 : wc.cell? ⟨gb210, 1, none⟩ = some (.slice none 0 0) := (kC BK210.out 1).trans rfl
     have hfz12_0 := kF BK210.out 0
     have hfz12_1 := kF BK210.out 1
     go_wp2
     refine bodyPost_ret (results_cell_row rfl _ _ gb210 24 #[.int .i64 2, .slice none 0 0] (0, 0) _ rfl (fq BK210.out) Try.underlying24 rfl kr) rfl ?_
     exact ⟨_, ew, by first | exact Kd.R_nil _ _ _ _ _ | exact Kd.N_nil _ _ _ _ _ | exact Kd.V_nil _ _ _ _ _ | exact Kd.Q_nil _ _ _ _ _ | exact Kd.S_nil _ _ _ _ _, bq⟩
    ·replace c11 := Bool.eq_false_iff.mpr c11
     subst c11
     have H1 : ((spec_l8Ask.f kj6 l1).bind fun t212 => (if t212 = 0 then ((spec_l8Ask.f kj6 l2).bind fun t213 => (if t213 = 0 then ((spec_l8Ask.f kj6 l3).bind fun t214 => (if t214 = 0 then ((spec_l8Frame.f kj6 a0 l1 l2 l3).bind fun t215 => (some (0, t215))) else (some (t214, ([] : List Int))))) else (some (t213, ([] : List Int))))) else (some (t212, ([] : List Int))))) = some (r1, r2) := by rw [if_neg (show ¬ (false = true) by decide)] at H; exact H
     clear H
     have H := H1
     clear H1
     replace H := Option.bind_eq_some_iff.mp H
     obtain ⟨t212, A130, H⟩ := H
     replace H : (if t212 = 0 then ((spec_l8Ask.f kj6 l2).bind fun t213 => (if t213 = 0 then ((spec_l8Ask.f kj6 l3).bind fun t214 => (if t214 = 0 then ((spec_l8Frame.f kj6 a0 l1 l2 l3).bind fun t215 => (some (0, t215))) else (some (t214, ([] : List Int))))) else (some (t213, ([] : List Int))))) else (some (t212, ([] : List Int)))) = some (r1, r2) := H
     have A13 := aM A130
     clear A130
     by_cases c14 : t212 = 0
     ·rw [if_pos c14] at H
      have c14b0 : (t212 == 0) = true := beq_iff_eq.mpr c14
      have c14b1 : (t212 != 0) = false := bne_eq_false_iff_eq.mpr c14
      clear c14
      replace H := Option.bind_eq_some_iff.mp H
      obtain ⟨t213, A150, H⟩ := H
      replace H : (if t213 = 0 then ((spec_l8Ask.f kj6 l3).bind fun t214 => (if t214 = 0 then ((spec_l8Frame.f kj6 a0 l1 l2 l3).bind fun t215 => (some (0, t215))) else (some (t214, ([] : List Int))))) else (some (t213, ([] : List Int)))) = some (r1, r2) := H
      have A15 := aM A150
      clear A150
      by_cases c16 : t213 = 0
      ·rw [if_pos c16] at H
       have c16b0 : (t213 == 0) = true := beq_iff_eq.mpr c16
       have c16b1 : (t213 != 0) = false := bne_eq_false_iff_eq.mpr c16
       clear c16
       replace H := Option.bind_eq_some_iff.mp H
       obtain ⟨t214, A170, H⟩ := H
       replace H : (if t214 = 0 then ((spec_l8Frame.f kj6 a0 l1 l2 l3).bind fun t215 => (some (0, t215))) else (some (t214, ([] : List Int)))) = some (r1, r2) := H
       have A17 := aM A170
       clear A170
       by_cases c18 : t214 = 0
       ·rw [if_pos c18] at H
        have c18b0 : (t214 == 0) = true := beq_iff_eq.mpr c18
        have c18b1 : (t214 != 0) = false := bne_eq_false_iff_eq.mpr c18
        clear c18
        replace H := Option.bind_eq_some_iff.mp H
        obtain ⟨t215, A190, H⟩ := H
        replace H : (some (0, t215)) = some (r1, r2) := H
        have A19 := aM A190
        clear A190
        simp only [Option.some.injEq, Prod.mk.injEq] at H
        obtain ⟨rfl, rfl⟩ := H
        go_wp2_with (first | ((with_reducible refine gate_callee (f := 51) rfl ?_); refine goesL_ (some 37) rfl rfl Try.func51 kr rfl #[.slice A1 l1.length c1] rfl mq ?_; (with_reducible refine (spec_l8Ask.calls kj6 _ _ l1 t212 _ ?side1 ?side2 A13.out).mono ?_); (case side1 => exact cq (cB HR1.out HB.out)); (case side2 => exact HC1.out); rintro e w' ⟨rfl, ⟨nd, rfl⟩⟩; refine ⟨_, rfl, ?_⟩; (try (rw [drewN_self wc]; generalize hq_ : World.drewN wc _ = wc; have n0_ : Aside0 (wc.heap[gb210]? = some (.cells #[.int .i64 0, .slice none 0 0] 24 (0, 0))) := ⟨by rw [← hq_]; exact (kq BK210.out)⟩; have n1_ : Aside0 (Below w.heap.size w wc) := ⟨by rw [← hq_]; exact bq⟩; clear BK210 HB hq_; have BK210 := n0_; have HB := n1_; clear n0_ n1_))) | ((with_reducible refine gate_callee (f := 51) rfl ?_); refine goesL_ (some 43) rfl rfl Try.func51 kr rfl #[.slice A2 l2.length c2] rfl mq ?_; (with_reducible refine (spec_l8Ask.calls kj6 _ _ l2 t213 _ ?side1 ?side2 A15.out).mono ?_); (case side1 => exact cq (cB HR2.out HB.out)); (case side2 => exact HC2.out); rintro e w' ⟨rfl, ⟨nd, rfl⟩⟩; refine ⟨_, rfl, ?_⟩; (try (rw [drewN_self wc]; generalize hq_ : World.drewN wc _ = wc; have n0_ : Aside0 (wc.heap[gb210]? = some (.cells #[.int .i64 0, .slice none 0 0] 24 (0, 0))) := ⟨by rw [← hq_]; exact (kq BK210.out)⟩; have n1_ : Aside0 (Below w.heap.size w wc) := ⟨by rw [← hq_]; exact bq⟩; clear BK210 HB hq_; have BK210 := n0_; have HB := n1_; clear n0_ n1_))) | ((with_reducible refine gate_callee (f := 51) rfl ?_); refine goesL_ (some 49) rfl rfl Try.func51 kr rfl #[.slice A3 l3.length c3] rfl mq ?_; (with_reducible refine (spec_l8Ask.calls kj6 _ _ l3 t214 _ ?side1 ?side2 A17.out).mono ?_); (case side1 => exact cq (cB HR3.out HB.out)); (case side2 => exact HC3.out); rintro e w' ⟨rfl, ⟨nd, rfl⟩⟩; refine ⟨_, rfl, ?_⟩; (try (rw [drewN_self wc]; generalize hq_ : World.drewN wc _ = wc; have n0_ : Aside0 (wc.heap[gb210]? = some (.cells #[.int .i64 0, .slice none 0 0] 24 (0, 0))) := ⟨by rw [← hq_]; exact (kq BK210.out)⟩; have n1_ : Aside0 (Below w.heap.size w wc) := ⟨by rw [← hq_]; exact bq⟩; clear BK210 HB hq_; have BK210 := n0_; have HB := n1_; clear n0_ n1_))) | ((with_reducible refine gate_callee (f := 52) rfl ?_); refine goesL_ (some 58) rfl rfl Try.func52 kr rfl #[.int .i64 a0, .slice A1 l1.length c1, .slice A2 l2.length c2, .slice A3 l3.length c3] rfl mq ?_; (with_reducible refine (spec_l8Frame.calls kj6 a0 _ _ l1 _ _ l2 _ _ l3 t215 _ ?side1 ?side2 ?side3 ?side4 ?side5 ?side6 A19.out).mono ?_); (case side1 => exact cq (cB HR1.out HB.out)); (case side2 => exact HC1.out); (case side3 => exact cq (cB HR2.out HB.out)); (case side4 => exact HC2.out); (case side5 => exact cq (cB HR3.out HB.out)); (case side6 => exact HC3.out); rintro e w20 ⟨v216, rfl, ho0, hb⟩; refine ⟨_, rfl, ?_⟩; have HO217 := aM (rG ho0 (bZ bq)); replace BK210 := aM (kB (kq BK210.out) hb); replace HB := aM (bT bq hb); (try clear hb); (try clear ho0); obtain ⟨Ao21, co21, eo21⟩ := Kd.R_slice HO217.out; subst eo21; have hcz22_0 : w20.cell? ⟨gb210, 0, none⟩ = some (.int .i64 0) := (kC BK210.out 0).trans rfl; have hcz22_1 : w20.cell? ⟨gb210, 1, none⟩ = some (.slice none 0 0) := (kC BK210.out 1).trans rfl; have hfz22_0 := kF BK210.out 0; have hfz22_1 := kF BK210.out 1))
        refine bodyPost_ret (results_cell_row rfl _ _ gb210 24 #[.int .i64 0, .slice Ao21 t215.length co21] (0, 0) _ rfl (fq BK210.out) Try.underlying24 rfl kr) rfl ?_
        exact ⟨_, ew, by (with_reducible repeat (first | apply rA | apply rN | apply rD)); exact rM (rf (Kd.R_types HO217.out BK210.out (by decide))) (fun _ hk => trivial), bq⟩
       ·rw [if_neg c18] at H
        have c18b0 : (t214 == 0) = false := beq_eq_false_iff_ne.mpr c18
        have c18b1 : (t214 != 0) = true := bne_iff_ne.mpr c18
        simp only [Option.some.injEq, Prod.mk.injEq] at H
        obtain ⟨rfl, rfl⟩ := H
        go_wp2_with (first | ((with_reducible refine gate_callee (f := 51) rfl ?_); refine goesL_ (some 37) rfl rfl Try.func51 kr rfl #[.slice A1 l1.length c1] rfl mq ?_; (with_reducible refine (spec_l8Ask.calls kj6 _ _ l1 t212 _ ?side1 ?side2 A13.out).mono ?_); (case side1 => exact cq (cB HR1.out HB.out)); (case side2 => exact HC1.out); rintro e w' ⟨rfl, ⟨nd, rfl⟩⟩; refine ⟨_, rfl, ?_⟩; (try (rw [drewN_self wc]; generalize hq_ : World.drewN wc _ = wc; have n0_ : Aside0 (wc.heap[gb210]? = some (.cells #[.int .i64 0, .slice none 0 0] 24 (0, 0))) := ⟨by rw [← hq_]; exact (kq BK210.out)⟩; have n1_ : Aside0 (Below w.heap.size w wc) := ⟨by rw [← hq_]; exact bq⟩; clear BK210 HB hq_; have BK210 := n0_; have HB := n1_; clear n0_ n1_))) | ((with_reducible refine gate_callee (f := 51) rfl ?_); refine goesL_ (some 43) rfl rfl Try.func51 kr rfl #[.slice A2 l2.length c2] rfl mq ?_; (with_reducible refine (spec_l8Ask.calls kj6 _ _ l2 t213 _ ?side1 ?side2 A15.out).mono ?_); (case side1 => exact cq (cB HR2.out HB.out)); (case side2 => exact HC2.out); rintro e w' ⟨rfl, ⟨nd, rfl⟩⟩; refine ⟨_, rfl, ?_⟩; (try (rw [drewN_self wc]; generalize hq_ : World.drewN wc _ = wc; have n0_ : Aside0 (wc.heap[gb210]? = some (.cells #[.int .i64 0, .slice none 0 0] 24 (0, 0))) := ⟨by rw [← hq_]; exact (kq BK210.out)⟩; have n1_ : Aside0 (Below w.heap.size w wc) := ⟨by rw [← hq_]; exact bq⟩; clear BK210 HB hq_; have BK210 := n0_; have HB := n1_; clear n0_ n1_))) | ((with_reducible refine gate_callee (f := 51) rfl ?_); refine goesL_ (some 49) rfl rfl Try.func51 kr rfl #[.slice A3 l3.length c3] rfl mq ?_; (with_reducible refine (spec_l8Ask.calls kj6 _ _ l3 t214 _ ?side1 ?side2 A17.out).mono ?_); (case side1 => exact cq (cB HR3.out HB.out)); (case side2 => exact HC3.out); rintro e w' ⟨rfl, ⟨nd, rfl⟩⟩; refine ⟨_, rfl, ?_⟩; (try (rw [drewN_self wc]; generalize hq_ : World.drewN wc _ = wc; have n0_ : Aside0 (wc.heap[gb210]? = some (.cells #[.int .i64 0, .slice none 0 0] 24 (0, 0))) := ⟨by rw [← hq_]; exact (kq BK210.out)⟩; have n1_ : Aside0 (Below w.heap.size w wc) := ⟨by rw [← hq_]; exact bq⟩; clear BK210 HB hq_; have BK210 := n0_; have HB := n1_; clear n0_ n1_)); have hcz23_0 : wc.cell? ⟨gb210, 0, none⟩ = some (.int .i64 0) := (kC BK210.out 0).trans rfl; have hcz23_1 : wc.cell? ⟨gb210, 1, none⟩ = some (.slice none 0 0) := (kC BK210.out 1).trans rfl; have hfz23_0 := kF BK210.out 0; have hfz23_1 := kF BK210.out 1))
        refine bodyPost_ret (results_cell_row rfl _ _ gb210 24 #[.int .i64 t214, .slice none 0 0] (0, 0) _ rfl (fq BK210.out) Try.underlying24 rfl kr) rfl ?_
        exact ⟨_, ew, by first | exact Kd.R_nil _ _ _ _ _ | exact Kd.N_nil _ _ _ _ _ | exact Kd.V_nil _ _ _ _ _ | exact Kd.Q_nil _ _ _ _ _ | exact Kd.S_nil _ _ _ _ _, bq⟩
      ·rw [if_neg c16] at H
       have c16b0 : (t213 == 0) = false := beq_eq_false_iff_ne.mpr c16
       have c16b1 : (t213 != 0) = true := bne_iff_ne.mpr c16
       simp only [Option.some.injEq, Prod.mk.injEq] at H
       obtain ⟨rfl, rfl⟩ := H
       go_wp2_with (first | ((with_reducible refine gate_callee (f := 51) rfl ?_); refine goesL_ (some 37) rfl rfl Try.func51 kr rfl #[.slice A1 l1.length c1] rfl mq ?_; (with_reducible refine (spec_l8Ask.calls kj6 _ _ l1 t212 _ ?side1 ?side2 A13.out).mono ?_); (case side1 => exact cq (cB HR1.out HB.out)); (case side2 => exact HC1.out); rintro e w' ⟨rfl, ⟨nd, rfl⟩⟩; refine ⟨_, rfl, ?_⟩; (try (rw [drewN_self wc]; generalize hq_ : World.drewN wc _ = wc; have n0_ : Aside0 (wc.heap[gb210]? = some (.cells #[.int .i64 0, .slice none 0 0] 24 (0, 0))) := ⟨by rw [← hq_]; exact (kq BK210.out)⟩; have n1_ : Aside0 (Below w.heap.size w wc) := ⟨by rw [← hq_]; exact bq⟩; clear BK210 HB hq_; have BK210 := n0_; have HB := n1_; clear n0_ n1_))) | ((with_reducible refine gate_callee (f := 51) rfl ?_); refine goesL_ (some 43) rfl rfl Try.func51 kr rfl #[.slice A2 l2.length c2] rfl mq ?_; (with_reducible refine (spec_l8Ask.calls kj6 _ _ l2 t213 _ ?side1 ?side2 A15.out).mono ?_); (case side1 => exact cq (cB HR2.out HB.out)); (case side2 => exact HC2.out); rintro e w' ⟨rfl, ⟨nd, rfl⟩⟩; refine ⟨_, rfl, ?_⟩; (try (rw [drewN_self wc]; generalize hq_ : World.drewN wc _ = wc; have n0_ : Aside0 (wc.heap[gb210]? = some (.cells #[.int .i64 0, .slice none 0 0] 24 (0, 0))) := ⟨by rw [← hq_]; exact (kq BK210.out)⟩; have n1_ : Aside0 (Below w.heap.size w wc) := ⟨by rw [← hq_]; exact bq⟩; clear BK210 HB hq_; have BK210 := n0_; have HB := n1_; clear n0_ n1_)); have hcz24_0 : wc.cell? ⟨gb210, 0, none⟩ = some (.int .i64 0) := (kC BK210.out 0).trans rfl; have hcz24_1 : wc.cell? ⟨gb210, 1, none⟩ = some (.slice none 0 0) := (kC BK210.out 1).trans rfl; have hfz24_0 := kF BK210.out 0; have hfz24_1 := kF BK210.out 1))
       refine bodyPost_ret (results_cell_row rfl _ _ gb210 24 #[.int .i64 t213, .slice none 0 0] (0, 0) _ rfl (fq BK210.out) Try.underlying24 rfl kr) rfl ?_
       exact ⟨_, ew, by first | exact Kd.R_nil _ _ _ _ _ | exact Kd.N_nil _ _ _ _ _ | exact Kd.V_nil _ _ _ _ _ | exact Kd.Q_nil _ _ _ _ _ | exact Kd.S_nil _ _ _ _ _, bq⟩
     ·rw [if_neg c14] at H
      have c14b0 : (t212 == 0) = false := beq_eq_false_iff_ne.mpr c14
      have c14b1 : (t212 != 0) = true := bne_iff_ne.mpr c14
      simp only [Option.some.injEq, Prod.mk.injEq] at H
      obtain ⟨rfl, rfl⟩ := H
      go_wp2_with (first | ((with_reducible refine gate_callee (f := 51) rfl ?_); refine goesL_ (some 37) rfl rfl Try.func51 kr rfl #[.slice A1 l1.length c1] rfl mq ?_; (with_reducible refine (spec_l8Ask.calls kj6 _ _ l1 t212 _ ?side1 ?side2 A13.out).mono ?_); (case side1 => exact cq (cB HR1.out HB.out)); (case side2 => exact HC1.out); rintro e w' ⟨rfl, ⟨nd, rfl⟩⟩; refine ⟨_, rfl, ?_⟩; (try (rw [drewN_self wc]; generalize hq_ : World.drewN wc _ = wc; have n0_ : Aside0 (wc.heap[gb210]? = some (.cells #[.int .i64 0, .slice none 0 0] 24 (0, 0))) := ⟨by rw [← hq_]; exact (kq BK210.out)⟩; have n1_ : Aside0 (Below w.heap.size w wc) := ⟨by rw [← hq_]; exact bq⟩; clear BK210 HB hq_; have BK210 := n0_; have HB := n1_; clear n0_ n1_)); have hcz25_0 : wc.cell? ⟨gb210, 0, none⟩ = some (.int .i64 0) := (kC BK210.out 0).trans rfl; have hcz25_1 : wc.cell? ⟨gb210, 1, none⟩ = some (.slice none 0 0) := (kC BK210.out 1).trans rfl; have hfz25_0 := kF BK210.out 0; have hfz25_1 := kF BK210.out 1))
      refine bodyPost_ret (results_cell_row rfl _ _ gb210 24 #[.int .i64 t212, .slice none 0 0] (0, 0) _ rfl (fq BK210.out) Try.underlying24 rfl kr) rfl ?_
      exact ⟨_, ew, by first | exact Kd.R_nil _ _ _ _ _ | exact Kd.N_nil _ _ _ _ _ | exact Kd.V_nil _ _ _ _ _ | exact Kd.Q_nil _ _ _ _ _ | exact Kd.S_nil _ _ _ _ _, bq⟩
 ·rw [if_neg c6] at H
  have c6b0 : (t211 == 0) = false := beq_eq_false_iff_ne.mpr c6
  have c6b1 : (t211 != 0) = true := bne_iff_ne.mpr c6
  simp only [Option.some.injEq, Prod.mk.injEq] at H
  obtain ⟨rfl, rfl⟩ := H
  go_enter Try.func9, Try.ntmps9
  go_wp2_with (first | ((with_reducible refine gate_dst (N := 8) rfl ?_); (try (refine gate_guard (by rfl) ?_; dsimp only)); refine box_event ?hg (N := 8) ?hd (cs := #[.int .i64 0, .slice none 0 0]) (t := 24) ?hr ?_; (case hd => rfl); (case hg => rfl); (case hr => first | (go_simp; done) | (go_simp; rfl)); intro gb210 hg w26 hbox hb; have BK210 := aM (hbox); have GW210 := aM ((by rw [hg]; exact (bZ bq) : w.heap.size ≤ gb210)); have GE210 := aM ((by rw [hg]; exact (bZ bq) : w.heap.size ≤ gb210)); replace HB := aM (bT bq hb); clear hb hbox hg) | ((with_reducible refine gate_callee (f := 50) rfl ?_); refine goesL_ (some 14) rfl rfl Try.func50 kr rfl #[.int .i64 a0] rfl mq ?_; (with_reducible refine (spec_SizeFault.calls a0 t211 _ A5.out).mono ?_); rintro e w' ⟨rfl, ⟨nd, rfl⟩⟩; refine ⟨_, rfl, ?_⟩; (try (rw [drewN_self w26]; generalize hq_ : World.drewN w26 _ = w26; have n0_ : Aside0 (w26.heap[gb210]? = some (.cells #[.int .i64 0, .slice none 0 0] 24 (0, 0))) := ⟨by rw [← hq_]; exact (kq BK210.out)⟩; have n1_ : Aside0 (Below w.heap.size w w26) := ⟨by rw [← hq_]; exact bq⟩; clear BK210 HB hq_; have BK210 := n0_; have HB := n1_; clear n0_ n1_)); have hcz27_0 : w26.cell? ⟨gb210, 0, none⟩ = some (.int .i64 0) := (kC BK210.out 0).trans rfl; have hcz27_1 : w26.cell? ⟨gb210, 1, none⟩ = some (.slice none 0 0) := (kC BK210.out 1).trans rfl; have hfz27_0 := kF BK210.out 0; have hfz27_1 := kF BK210.out 1))
  refine bodyPost_ret (results_cell_row rfl _ _ gb210 24 #[.int .i64 t211, .slice none 0 0] (0, 0) _ rfl (fq BK210.out) Try.underlying24 rfl kr) rfl ?_
  exact ⟨_, ew, by first | exact Kd.R_nil _ _ _ _ _ | exact Kd.N_nil _ _ _ _ _ | exact Kd.V_nil _ _ _ _ _ | exact Kd.Q_nil _ _ _ _ _ | exact Kd.S_nil _ _ _ _ _, bq⟩

/-! ### impl_FrameBounds_1: function 53 -/
def impl_FrameBounds_1.f (l0 : List Int) (a1 : Int) : Option Bool := some ((l0.length : Int) != a1)
set_option maxHeartbeats 8000000 in
set_option maxRecDepth 100000 in
theorem impl_FrameBounds_1.calls (A0 : Option Addr) (c0 : Nat) (l0 : List Int) (a1 : Int) (r : Bool) (w : World) (hr0 : Kd.C (Kd.int .i64) w A0 l0.length l0) (hc0 : l0.length ≤ c0) (h : impl_FrameBounds_1.f l0 a1 = some r) {B : Nat} (hc : w.cell? ⟨B, 0, none⟩ = some (.int .i64 a1) := by with_unfolding_all exact (kC (by repeat (first | exact Aside0.out (by assumption) | refine kN ?_ _ | refine kD ?_ | refine kA ?_ _)) 0).trans rfl) :
  Calls Try.prog 53 #[.slice A0 l0.length c0, .pointer (some ⟨B, 0, none⟩)] w fun e w' => e = .returned (.bool r) ∧ Drawn0 w w' := by
 have H : ((l0.length : Int) != a1) = r := Option.some.inj h
 subst H
 clear h hr0 hc0
 go_enter Try.func53, Try.ntmps53
 go_wp2
 go_ret
 exact ⟨rfl, by repeat (first | exact Drawn0.refl _ | apply Drawn0.step)⟩

end Go.Proofs.Ytmhnpogjkbmmnaa.PFnFrameBounds
