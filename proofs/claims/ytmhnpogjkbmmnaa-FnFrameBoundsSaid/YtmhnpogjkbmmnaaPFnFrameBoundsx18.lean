-- Written by a program of this session: wip/mkprint.py over the kit's print, with contracts proved by hand (wip/given.py)
-- told shortest
-- told shorter still
-- shortened
-- told short
-- worlds by letters
-- squeezed
import Derived.Test.YtmhnpogjkbmmnaaPFnFrameBoundsx0
import Derived.Test.YtmhnpogjkbmmnaaPFnFrameBoundsx4
import Derived.Test.YtmhnpogjkbmmnaaPFnFrameBoundsx9
import Derived.Test.YtmhnpogjkbmmnaaPFnFrameBoundsx13
import Derived.Test.YtmhnpogjkbmmnaaPFnFrameBoundsx14
import Derived.Test.YtmhnpogjkbmmnaaPFnFrameBoundsx15
import Derived.Test.YtmhnpogjkbmmnaaPFnFrameBoundsx16
import Derived.Test.YtmhnpogjkbmmnaaPFnFrameBoundsx17
namespace Go.Proofs.Ytmhnpogjkbmmnaa.PFnFrameBounds
open Go.RowKit Go.Proofs.YtmhnpogjkbmmnaaW.PrintWords Go.Proofs.YtmhnpogjkbmmnaaW.PrintLast Go.Proofs.YtmhnpogjkbmmnaaW.PrintMore
open Go.Proofs.YtmhnpogjkbmmnaaW.PrintWords.Kd renaming R_alloc → rA, R_drewN → rN, R_drew → rD, R_far → rF, R_mono → rM, R_base → rB, R_new' → rW, R_below → rL, R_lt → rT, R_lower → rG, R_elder' → rH, R_reads' → rR, C_alloc → cA, C_drewN → cN, C_drew → cD, C_below → cB
open Go.Proofs.YtmhnpogjkbmmnaaW.PrintMore.Kd renaming R_told → rO, R_old → rE
open Go.Proofs.YtmhnpogjkbmmnaaW.PrintWords renaming below_alloc → bA, pw_below_drewN → bN, below_drew1 → bD, below_set → bS, below_step → bT, below_size → bZ, blk_drewN → kN, blk_drew → kD, blk_alloc → kA, blk_below → kB, blk_cell → kC, blk_frozen → kF
open Go.Proofs.YtmhnpogjkbmmnaaW.PrintWords.Aside0 renaming mk → aM
attribute [local go_sem] max2_int min2_int max_two min_two max_three min_three max_four min_four   -- for this text's walks alone
set_option linter.unusedVariables false
set_option linter.unusedSimpArgs false

/-! ### laws_FnFrameBounds: function 6 -/
mutual
def laws_FnFrameBounds.l0 : Nat → List Int → Int → List (List Int) → Int → Int → List Int → Int → List Int → List Int → Int → List Int → List Int → Int → Int → List Int → List Int → List Int → Int → Int → List Int → List Int → List Int → Option (Bool)
 | 0, _, _, _, _, _, _, _, _, _, _, _, _, _, _, _, _, _, _, _, _, _, _ => none
 | k + 1, x0, x3, x8, x13, x597000, x597001, x613000, x613001, x613002, x622000, x622001, x622002, x623000, x623001, x623002, x623003, x623004, x624000, x624001, x624002, x624003, x624004 => if x13 < 3 then (laws_FnFrameBounds.l1 k x0 x3 x8 x13 (([] : List Int)) 0 x597000 x597001 x613000 x613001 x613002 x622000 x622001 x622002) else ((impl_IsWithin.f k x623004 x624004 x597001).bind fun t624 => (if t624 = true then (some ((x623004.length : Int) == x3)) else (some false)))
def laws_FnFrameBounds.l1 : Nat → List Int → Int → List (List Int) → Int → List Int → Int → Int → List Int → Int → List Int → List Int → Int → List Int → List Int → Option (Bool)
 | 0, _, _, _, _, _, _, _, _, _, _, _, _, _, _ => none
 | k + 1, x0, x3, x8, x13, x14, x15, x597000, x597001, x613000, x613001, x613002, x622000, x622001, x622002 => if x15 < x3 then ((laws_lwAt.f x0 (wrap64 (x15 + (wrap64 (x13 * 5)))) 4001).bind fun t628 => (if x14.length < 17592186044416 then (laws_FnFrameBounds.l1 k x0 x3 x8 x13 (x14 ++ [wrap64 (t628 - 2000)]) (wrap64 (x15 + 1)) x597000 x597001 x613000 x613001 x613002 x622000 x622001 x622002) else (none))) else ((impl_PlayBlock.f k x613000 x613001 x613002 x14).bind fun bt632 => (if 0 ≤ x13 then (if x13 < (x8.length : Int) then ((laws_lwBent.f k x14 (rd_L1 x8 x13) x0 x13).bind fun t644 => ((impl_PlayBlock.f k x622000 x622001 x622002 t644).bind fun bt647 => (if bt647.1 = 0 then (if bt632.1 = 0 then (laws_FnFrameBounds.l0 k x0 x3 x8 (wrap64 (x13 + 1)) x597000 x597001 bt632.2.1 bt632.2.2.1 bt632.2.2.2.1 bt647.2.1 bt647.2.2.1 bt647.2.2.2.1 bt632.1 bt632.2.1 bt632.2.2.1 bt632.2.2.2.1 bt632.2.2.2.2 bt647.1 bt647.2.1 bt647.2.2.1 bt647.2.2.2.1 bt647.2.2.2.2) else (some false)) else (if bt647.1 = 3 then (some (bt632.1 == 0)) else (some false))))) else (none)) else (none)))
end
def laws_FnFrameBounds.f (k : Nat) (l0 : List Int) : Option (Bool) := (laws_lwBig.f l0).bind fun t581 => (if t581 = true then (some true) else ((spec_DrawFrameBounds.f k l0).bind fun bt582 => ((impl_FrameBounds.f k bt582.1 bt582.2.1 bt582.2.2.1 bt582.2.2.2).bind fun bt592 => ((spec_FrameBounds.f k bt582.1 bt582.2.1 bt582.2.2.1 bt582.2.2.2).bind fun bt597 => (if bt592.1 = bt597.1 then (if bt592.1 = 0 then ((impl_NewSynth.f bt582.1).bind fun bt604 => ((impl_NewSynth.f bt582.1).bind fun bt613 => (laws_FnFrameBounds.l0 k l0 bt582.1 (([bt582.2.1, bt582.2.2.1, bt582.2.2.2] : List (List Int))) 0 bt592.1 bt592.2 bt604.2.1 bt604.2.2.1 bt604.2.2.2 bt613.2.1 bt613.2.2.1 bt613.2.2.2 0 0 ([] : List Int) ([] : List Int) ([] : List Int) 0 0 ([] : List Int) ([] : List Int) ([] : List Int)))) else (some true)) else (some false))))))
theorem laws_FnFrameBounds.mono_l : ∀ k, (∀ y0 y1 y2 y3 y4 y5 y6 y7 y8 y9 y10 y11 y12 y13 y14 y15 y16 y17 y18 y19 y20 y21, LeO (laws_FnFrameBounds.l0 k y0 y1 y2 y3 y4 y5 y6 y7 y8 y9 y10 y11 y12 y13 y14 y15 y16 y17 y18 y19 y20 y21) (laws_FnFrameBounds.l0 (k + 1) y0 y1 y2 y3 y4 y5 y6 y7 y8 y9 y10 y11 y12 y13 y14 y15 y16 y17 y18 y19 y20 y21)) ∧ (∀ y0 y1 y2 y3 y4 y5 y6 y7 y8 y9 y10 y11 y12 y13, LeO (laws_FnFrameBounds.l1 k y0 y1 y2 y3 y4 y5 y6 y7 y8 y9 y10 y11 y12 y13) (laws_FnFrameBounds.l1 (k + 1) y0 y1 y2 y3 y4 y5 y6 y7 y8 y9 y10 y11 y12 y13))
 | 0 => ⟨fun _ _ _ _ _ _ _ _ _ _ _ _ _ _ _ _ _ _ _ _ _ _ r h => by simp [laws_FnFrameBounds.l0] at h, fun _ _ _ _ _ _ _ _ _ _ _ _ _ _ r h => by simp [laws_FnFrameBounds.l1] at h⟩
 | k + 1 => by
  obtain ⟨ih0, ih1⟩ := laws_FnFrameBounds.mono_l k
  refine ⟨?_, ?_⟩
  ·intro y0 y1 y2 y3 y4 y5 y6 y7 y8 y9 y10 y11 y12 y13 y14 y15 y16 y17 y18 y19 y20 y21
   unfold laws_FnFrameBounds.l0
   repeat' first
   | (with_reducible exact ih0 _ _ _ _ _ _ _ _ _ _ _ _ _ _ _ _ _ _ _ _ _ _)
   | (with_reducible exact ih1 _ _ _ _ _ _ _ _ _ _ _ _ _ _)
   | (with_reducible exact impl_FrameBounds.mono _ _ _ _ _)
   | (with_reducible exact impl_IsWithin.mono _ _ _ _)
   | (with_reducible exact impl_PlayBlock.mono _ _ _ _ _)
   | (with_reducible exact laws_lwBent.mono _ _ _ _ _)
   | (with_reducible exact spec_DrawFrameBounds.mono _ _)
   | (with_reducible exact spec_FrameBounds.mono _ _ _ _ _)
   | (with_reducible exact LeO.refl _)
   | (with_reducible exact LeO.none _)
   | (with_reducible refine LeO.ite ?_ ?_)
   | (with_reducible refine LeO.bind ?_ (fun _ => ?_))
   | exact ih0 _ _ _ _ _ _ _ _ _ _ _ _ _ _ _ _ _ _ _ _ _ _
   | exact ih1 _ _ _ _ _ _ _ _ _ _ _ _ _ _
   | exact impl_FrameBounds.mono _ _ _ _ _
   | exact impl_IsWithin.mono _ _ _ _
   | exact impl_PlayBlock.mono _ _ _ _ _
   | exact laws_lwBent.mono _ _ _ _ _
   | exact spec_DrawFrameBounds.mono _ _
   | exact spec_FrameBounds.mono _ _ _ _ _
   | exact LeO.none _
   | refine LeO.ite ?_ ?_
   | refine LeO.bind ?_ (fun _ => ?_)
  ·intro y0 y1 y2 y3 y4 y5 y6 y7 y8 y9 y10 y11 y12 y13
   unfold laws_FnFrameBounds.l1
   repeat' first
   | (with_reducible exact ih0 _ _ _ _ _ _ _ _ _ _ _ _ _ _ _ _ _ _ _ _ _ _)
   | (with_reducible exact ih1 _ _ _ _ _ _ _ _ _ _ _ _ _ _)
   | (with_reducible exact impl_FrameBounds.mono _ _ _ _ _)
   | (with_reducible exact impl_IsWithin.mono _ _ _ _)
   | (with_reducible exact impl_PlayBlock.mono _ _ _ _ _)
   | (with_reducible exact laws_lwBent.mono _ _ _ _ _)
   | (with_reducible exact spec_DrawFrameBounds.mono _ _)
   | (with_reducible exact spec_FrameBounds.mono _ _ _ _ _)
   | (with_reducible exact LeO.refl _)
   | (with_reducible exact LeO.none _)
   | (with_reducible refine LeO.ite ?_ ?_)
   | (with_reducible refine LeO.bind ?_ (fun _ => ?_))
   | exact ih0 _ _ _ _ _ _ _ _ _ _ _ _ _ _ _ _ _ _ _ _ _ _
   | exact ih1 _ _ _ _ _ _ _ _ _ _ _ _ _ _
   | exact impl_FrameBounds.mono _ _ _ _ _
   | exact impl_IsWithin.mono _ _ _ _
   | exact impl_PlayBlock.mono _ _ _ _ _
   | exact laws_lwBent.mono _ _ _ _ _
   | exact spec_DrawFrameBounds.mono _ _
   | exact spec_FrameBounds.mono _ _ _ _ _
   | exact LeO.none _
   | refine LeO.ite ?_ ?_
   | refine LeO.bind ?_ (fun _ => ?_)
theorem laws_FnFrameBounds.mono : ∀ a0 k, LeO (laws_FnFrameBounds.f k a0) (laws_FnFrameBounds.f (k + 1) a0) := by
 intro a0 k
 obtain ⟨ih0, ih1⟩ := laws_FnFrameBounds.mono_l k
 unfold laws_FnFrameBounds.f
 repeat' first
   | (with_reducible exact ih0 _ _ _ _ _ _ _ _ _ _ _ _ _ _ _ _ _ _ _ _ _ _)
   | (with_reducible exact ih1 _ _ _ _ _ _ _ _ _ _ _ _ _ _)
   | (with_reducible exact impl_FrameBounds.mono _ _ _ _ _)
   | (with_reducible exact impl_IsWithin.mono _ _ _ _)
   | (with_reducible exact impl_PlayBlock.mono _ _ _ _ _)
   | (with_reducible exact laws_lwBent.mono _ _ _ _ _)
   | (with_reducible exact spec_DrawFrameBounds.mono _ _)
   | (with_reducible exact spec_FrameBounds.mono _ _ _ _ _)
   | (with_reducible exact LeO.refl _)
   | (with_reducible exact LeO.none _)
   | (with_reducible refine LeO.ite ?_ ?_)
   | (with_reducible refine LeO.bind ?_ (fun _ => ?_))
   | exact ih0 _ _ _ _ _ _ _ _ _ _ _ _ _ _ _ _ _ _ _ _ _ _
   | exact ih1 _ _ _ _ _ _ _ _ _ _ _ _ _ _
   | exact impl_FrameBounds.mono _ _ _ _ _
   | exact impl_IsWithin.mono _ _ _ _
   | exact impl_PlayBlock.mono _ _ _ _ _
   | exact laws_lwBent.mono _ _ _ _ _
   | exact spec_DrawFrameBounds.mono _ _
   | exact spec_FrameBounds.mono _ _ _ _ _
   | exact LeO.none _
   | refine LeO.ite ?_ ?_
   | refine LeO.bind ?_ (fun _ => ?_)
def laws_FnFrameBounds.T5 : Bool × List (List Nat × List Nat) := (true, [([], []), ([0], [0]), ([], []), ([], []), ([], []), ([], []), ([2, 3, 4, 5], [2, 3, 4, 5]), ([6], [6]), ([1, 7], [1, 7])])
def laws_FnFrameBounds.B5 : List Nat := [0, 1, 0, 0, 0, 0, 60, 124, 255]
theorem laws_FnFrameBounds.tab5 : rtab .any (opsOf Try.f6 5) = laws_FnFrameBounds.T5 := by kernel_rfl
theorem laws_FnFrameBounds.bits5 : waitsOk laws_FnFrameBounds.T5.2 laws_FnFrameBounds.B5 = true := by kernel_rfl
def laws_FnFrameBounds.T23 : Bool × List (List Nat × List Nat) := (true, [([], []), ([], []), ([], []), ([], []), ([2, 3], [2, 3]), ([4], [4]), ([], []), ([], []), ([1, 5, 6, 7], [1, 5, 6, 7]), ([0, 8, 8], [0, 8]), ([9, 9, 0, 1, 2, 3, 4, 5, 6, 7, 8, 9], [9])])
def laws_FnFrameBounds.B23 : List Nat := [0, 0, 0, 0, 12, 28, 0, 0, 254, 511, 1023]
theorem laws_FnFrameBounds.tab23 : rtab .any (opsOf Try.f6 23) = laws_FnFrameBounds.T23 := by kernel_rfl
theorem laws_FnFrameBounds.bits23 : waitsOk laws_FnFrameBounds.T23.2 laws_FnFrameBounds.B23 = true := by kernel_rfl
set_option maxHeartbeats 8000000 in
set_option maxRecDepth 100000 in
theorem laws_FnFrameBounds.calls (k : Nat) (A0 : Option Addr) (c0 : Nat) (l0 : List Int) (r : Bool) (w : World) (hr0 : Kd.C (Kd.int .u8) w A0 l0.length l0) (hc0 : l0.length ≤ c0) (h : laws_FnFrameBounds.f k l0 = some r) (hlaw : r = true := by rfl) :
  Calls Try.prog 6 #[.slice A0 l0.length c0] w fun e w' => e = .returned (.bool r) ∧ Below w.heap.size w w' := by
 have hu24 := Try.underlying24
 have hu64 := Try.underlying64
 have hu35 := Try.underlying35
 have hu37 := Try.underlying37
 have hfd24_0 : ∀ (x0 x1 : Value) (W : World), (Instr.field 24 (.agg #[x0, x1]) 0).run Try.prog W = .ok (x0) W := fun _ _ _ => by kernel_rfl
 have hfd64_1 : ∀ (x0 x1 x2 x3 : Value) (W : World), (Instr.field 64 (.agg #[x0, x1, x2, x3]) 1).run Try.prog W = .ok (.agg #[x1, x2, x3]) W := fun _ _ _ _ _ => by kernel_rfl
 have HLAW := aM hlaw
 clear hlaw
 have HR0 := aM hr0
 have HC0 := aM hc0
 clear hr0 hc0
 have HB := aM (Below.refl w.heap.size w)
 have H : ((laws_lwBig.f l0).bind fun t581 => (if t581 = true then (some true) else ((spec_DrawFrameBounds.f k l0).bind fun bt582 => ((impl_FrameBounds.f k bt582.1 bt582.2.1 bt582.2.2.1 bt582.2.2.2).bind fun bt592 => ((spec_FrameBounds.f k bt582.1 bt582.2.1 bt582.2.2.1 bt582.2.2.2).bind fun bt597 => (if bt592.1 = bt597.1 then (if bt592.1 = 0 then ((impl_NewSynth.f bt582.1).bind fun bt604 => ((impl_NewSynth.f bt582.1).bind fun bt613 => (laws_FnFrameBounds.l0 k l0 bt582.1 (([bt582.2.1, bt582.2.2.1, bt582.2.2.2] : List (List Int))) 0 bt592.1 bt592.2 bt604.2.1 bt604.2.2.1 bt604.2.2.2 bt613.2.1 bt613.2.2.1 bt613.2.2.2 0 0 ([] : List Int) ([] : List Int) ([] : List Int) 0 0 ([] : List Int) ([] : List Int) ([] : List Int)))) else (some true)) else (some false))))))) = some r := h
 clear h
 replace H := Option.bind_eq_some_iff.mp H
 obtain ⟨t581, A20, H⟩ := H
 replace H : (if t581 = true then (some true) else ((spec_DrawFrameBounds.f k l0).bind fun bt582 => ((impl_FrameBounds.f k bt582.1 bt582.2.1 bt582.2.2.1 bt582.2.2.2).bind fun bt592 => ((spec_FrameBounds.f k bt582.1 bt582.2.1 bt582.2.2.1 bt582.2.2.2).bind fun bt597 => (if bt592.1 = bt597.1 then (if bt592.1 = 0 then ((impl_NewSynth.f bt582.1).bind fun bt604 => ((impl_NewSynth.f bt582.1).bind fun bt613 => (laws_FnFrameBounds.l0 k l0 bt582.1 (([bt582.2.1, bt582.2.2.1, bt582.2.2.2] : List (List Int))) 0 bt592.1 bt592.2 bt604.2.1 bt604.2.2.1 bt604.2.2.2 bt613.2.1 bt613.2.2.1 bt613.2.2.2 0 0 ([] : List Int) ([] : List Int) ([] : List Int) 0 0 ([] : List Int) ([] : List Int) ([] : List Int)))) else (some true)) else (some false)))))) = some r := H
 have A2 := aM A20
 clear A20
 by_cases c3 : t581 = true
 ·subst c3
  have H1 : (some true) = some r := by rw [if_pos rfl] at H; exact H
  clear H
  have H := H1
  clear H1
  obtain rfl := Option.some.inj H
  go_enter Try.func6, Try.ntmps6
  go_wp2_with (first | ((with_reducible refine gate_callee (f := 35) rfl ?_); refine goesL_ (some 17) rfl rfl Try.func35 kr rfl #[.slice A0 l0.length c0] rfl mq ?_; (with_reducible refine (laws_lwBig.calls _ _ l0 true _ ?side1 ?side2 A2.out).mono ?_); (case side1 => exact cq HR0.out); (case side2 => exact HC0.out); rintro e w' ⟨rfl, ⟨nd, rfl⟩⟩; refine ⟨_, rfl, ?_⟩))
  go_ret
  exact ⟨ew, bq⟩
 ·replace c3 := Bool.eq_false_iff.mpr c3
  subst c3
  have H1 : ((spec_DrawFrameBounds.f k l0).bind fun bt582 => ((impl_FrameBounds.f k bt582.1 bt582.2.1 bt582.2.2.1 bt582.2.2.2).bind fun bt592 => ((spec_FrameBounds.f k bt582.1 bt582.2.1 bt582.2.2.1 bt582.2.2.2).bind fun bt597 => (if bt592.1 = bt597.1 then (if bt592.1 = 0 then ((impl_NewSynth.f bt582.1).bind fun bt604 => ((impl_NewSynth.f bt582.1).bind fun bt613 => (laws_FnFrameBounds.l0 k l0 bt582.1 (([bt582.2.1, bt582.2.2.1, bt582.2.2.2] : List (List Int))) 0 bt592.1 bt592.2 bt604.2.1 bt604.2.2.1 bt604.2.2.2 bt613.2.1 bt613.2.2.1 bt613.2.2.2 0 0 ([] : List Int) ([] : List Int) ([] : List Int) 0 0 ([] : List Int) ([] : List Int) ([] : List Int)))) else (some true)) else (some false))))) = some r := by rw [if_neg (show ¬ (false = true) by decide)] at H; exact H
  clear H
  have H := H1
  clear H1
  replace H := Option.bind_eq_some_iff.mp H
  obtain ⟨⟨t582, t583, t584, t585⟩, A40, H⟩ := H
  replace H : ((impl_FrameBounds.f k t582 t583 t584 t585).bind fun bt592 => ((spec_FrameBounds.f k t582 t583 t584 t585).bind fun bt597 => (if bt592.1 = bt597.1 then (if bt592.1 = 0 then ((impl_NewSynth.f t582).bind fun bt604 => ((impl_NewSynth.f t582).bind fun bt613 => (laws_FnFrameBounds.l0 k l0 t582 (([t583, t584, t585] : List (List Int))) 0 bt592.1 bt592.2 bt604.2.1 bt604.2.2.1 bt604.2.2.2 bt613.2.1 bt613.2.2.1 bt613.2.2.2 0 0 ([] : List Int) ([] : List Int) ([] : List Int) 0 0 ([] : List Int) ([] : List Int) ([] : List Int)))) else (some true)) else (some false)))) = some r := H
  have A4 := aM A40
  clear A40
  replace H := Option.bind_eq_some_iff.mp H
  obtain ⟨⟨t592, t593⟩, A50, H⟩ := H
  replace H : ((spec_FrameBounds.f k t582 t583 t584 t585).bind fun bt597 => (if t592 = bt597.1 then (if t592 = 0 then ((impl_NewSynth.f t582).bind fun bt604 => ((impl_NewSynth.f t582).bind fun bt613 => (laws_FnFrameBounds.l0 k l0 t582 (([t583, t584, t585] : List (List Int))) 0 t592 t593 bt604.2.1 bt604.2.2.1 bt604.2.2.2 bt613.2.1 bt613.2.2.1 bt613.2.2.2 0 0 ([] : List Int) ([] : List Int) ([] : List Int) 0 0 ([] : List Int) ([] : List Int) ([] : List Int)))) else (some true)) else (some false))) = some r := H
  have A5 := aM A50
  clear A50
  replace H := Option.bind_eq_some_iff.mp H
  obtain ⟨⟨t597, t598⟩, A60, H⟩ := H
  replace H : (if t592 = t597 then (if t592 = 0 then ((impl_NewSynth.f t582).bind fun bt604 => ((impl_NewSynth.f t582).bind fun bt613 => (laws_FnFrameBounds.l0 k l0 t582 (([t583, t584, t585] : List (List Int))) 0 t592 t593 bt604.2.1 bt604.2.2.1 bt604.2.2.2 bt613.2.1 bt613.2.2.1 bt613.2.2.2 0 0 ([] : List Int) ([] : List Int) ([] : List Int) 0 0 ([] : List Int) ([] : List Int) ([] : List Int)))) else (some true)) else (some false)) = some r := H
  have A6 := aM A60
  clear A60
  by_cases c7 : t592 = t597
  ·rw [if_pos c7] at H
   have c7b0 : (t592 == t597) = true := beq_iff_eq.mpr c7
   have c7b1 : (t592 != t597) = false := bne_eq_false_iff_eq.mpr c7
   clear c7
   by_cases c8 : t592 = 0
   ·rw [if_pos c8] at H
    have c8b0 : (t592 == 0) = true := beq_iff_eq.mpr c8
    have c8b1 : (t592 != 0) = false := bne_eq_false_iff_eq.mpr c8
    clear c8
    obtain ⟨y601, hy601⟩ : ∃ y_ : List (List Int), y_ = (([t583, t584, t585] : List (List Int))) := ⟨_, rfl⟩
    replace H : ((impl_NewSynth.f t582).bind fun bt604 => ((impl_NewSynth.f t582).bind fun bt613 => (laws_FnFrameBounds.l0 k l0 t582 y601 0 t592 t593 bt604.2.1 bt604.2.2.1 bt604.2.2.2 bt613.2.1 bt613.2.2.1 bt613.2.2.2 0 0 ([] : List Int) ([] : List Int) ([] : List Int) 0 0 ([] : List Int) ([] : List Int) ([] : List Int)))) = some r := by first | (rw [hy601]; with_reducible exact H) | (have H2_ := (Option.bind_some _ _).symm.trans H; rw [hy601]; with_reducible exact H2_) | (have H2_ := (Option.bind_some _ _).symm.trans H; with_reducible exact H2_) | with_reducible exact H | (rw [hy601]; exact H) | exact H
    have Ny601 := aM hy601
    clear hy601
    replace H := Option.bind_eq_some_iff.mp H
    obtain ⟨⟨t604, t605, t606, t609⟩, A90, H⟩ := H
    replace H : ((impl_NewSynth.f t582).bind fun bt613 => (laws_FnFrameBounds.l0 k l0 t582 y601 0 t592 t593 t605 t606 t609 bt613.2.1 bt613.2.2.1 bt613.2.2.2 0 0 ([] : List Int) ([] : List Int) ([] : List Int) 0 0 ([] : List Int) ([] : List Int) ([] : List Int))) = some r := H
    have A9 := aM A90
    clear A90
    replace H := Option.bind_eq_some_iff.mp H
    obtain ⟨⟨t613, t614, t615, t618⟩, A100, H⟩ := H
    replace H : (laws_FnFrameBounds.l0 k l0 t582 y601 0 t592 t593 t605 t606 t609 t614 t615 t618 0 0 ([] : List Int) ([] : List Int) ([] : List Int) 0 0 ([] : List Int) ([] : List Int) ([] : List Int)) = some r := H
    have A10 := aM A100
    clear A100
    have H' := aM H
    clear H
    go_enter Try.func6, Try.ntmps6
    try go_wp2_with (first | ((with_reducible refine gate_callee (f := 35) rfl ?_); refine goesL_ (some 17) rfl rfl Try.func35 kr rfl #[.slice A0 l0.length c0] rfl mq ?_; (with_reducible refine (laws_lwBig.calls _ _ l0 false _ ?side1 ?side2 A2.out).mono ?_); (case side1 => exact cq HR0.out); (case side2 => exact HC0.out); rintro e w' ⟨rfl, ⟨nd, rfl⟩⟩; refine ⟨_, rfl, ?_⟩) | ((with_reducible refine gate_callee (f := 36) rfl ?_); refine goesL_ (some 20) rfl rfl Try.func36 kr rfl #[.slice A0 l0.length c0] rfl mq ?_; (with_reducible refine (spec_DrawFrameBounds.calls k _ _ l0 t582 t583 t584 t585 _ ?side1 ?side2 A4.out).mono ?_); (case side1 => exact cq HR0.out); (case side2 => exact HC0.out); rintro e w11 ⟨v586, v588, v590, rfl, ho0, ho1, ho2, hb⟩; refine ⟨_, rfl, ?_⟩; have HO587 := aM (rG ho0 (bZ bq)); have HO589 := aM (rG ho1 (bZ bq)); have HO591 := aM (rG ho2 (bZ bq)); replace HB := aM (bT bq hb); (try clear hb); (try clear ho0); (try clear ho1); (try clear ho2); obtain ⟨Ao12, co12, eo12⟩ := Kd.R_slice HO587.out; subst eo12; obtain ⟨Ao13, co13, eo13⟩ := Kd.R_slice HO589.out; subst eo13; obtain ⟨Ao14, co14, eo14⟩ := Kd.R_slice HO591.out; subst eo14) | ((with_reducible refine gate_callee (f := 11) rfl ?_); refine goesL_ (some 29) rfl rfl Try.func11 kr rfl #[.int .i64 t582, .slice Ao12 t583.length co12, .slice Ao13 t584.length co13, .slice Ao14 t585.length co14] rfl mq ?_; (with_reducible refine (impl_FrameBounds.calls k t582 _ _ t583 _ _ t584 _ _ t585 t592 t593 _ ?side1 ?side2 ?side3 ?side4 ?side5 ?side6 A5.out).mono ?_); (case side1 => exact cq (rR HO587.out).2.2); (case side2 => exact (rR HO587.out).2.1); (case side3 => exact cq (rR HO589.out).2.2); (case side4 => exact (rR HO589.out).2.1); (case side5 => exact cq (rR HO591.out).2.2); (case side6 => exact (rR HO591.out).2.1); rintro e w15 ⟨v594, rfl, ho0, hb⟩; refine ⟨_, rfl, ?_⟩; have HO595 := aM (rG (rW (rW (rW ho0 (rT (rq HO587.out))) (rT (rq HO589.out))) (rT (rq HO591.out))) (bZ bq)); replace HO587 := aM (rH (rq HO587.out) (rB ho0) hb); replace HO589 := aM (rH (rq HO589.out) (rB ho0) hb); replace HO591 := aM (rH (rq HO591.out) (rB ho0) hb); replace HB := aM (bT bq hb); (try clear hb); (try clear ho0)) | ((with_reducible refine gate_dst (N := 7) rfl ?_); (try (refine gate_guard (by rfl) ?_; dsimp only)); refine box_event ?hg (N := 7) ?hd (cs := #[.int .i64 0, .slice none 0 0]) (t := 24) ?hr ?_; (case hd => rfl); (case hg => rfl); (case hr => first | (go_simp; done) | (go_simp; rfl)); intro gb596 hg w16 hbox hb; replace HO587 := aM (rL (rq HO587.out) hb); replace HO589 := aM (rL (rq HO589.out) hb); replace HO591 := aM (rL (rq HO591.out) hb); replace HO595 := aM (rL (rq HO595.out) hb); have BK596 := aM (hbox); have GW596 := aM ((by rw [hg]; exact (bZ bq) : w.heap.size ≤ gb596)); have GE596 := aM ((by rw [hg]; exact (bZ bq) : w.heap.size ≤ gb596)); replace HB := aM (bT bq hb); clear hb hbox hg; have hcz17_0 : w16.cell? ⟨gb596, 0, none⟩ = some (.int .i64 0) := (kC BK596.out 0).trans rfl; have hcz17_1 : w16.cell? ⟨gb596, 1, none⟩ = some (.slice none 0 0) := (kC BK596.out 1).trans rfl; have hfz17_0 := kF BK596.out 0; have hfz17_1 := kF BK596.out 1; obtain ⟨Ao18, co18, eo18⟩ := Kd.R_slice HO595.out; subst eo18))
    generalize hgw_ : ((w16.setCell ⟨gb596, 0, none⟩ (.int .i64 t592)).setCell ⟨gb596, 1, none⟩ (.slice Ao18 t593.length co18)) = w19
    have n0_ : Aside0 (Kd.R (Kd.int .i64) 2 w19 w.heap.size (fun k_ => nS Ao13 t584 co13 k_ ∧ nS Ao14 t585 co14 k_ ∧ nS Ao18 t593 co18 k_) (.slice Ao12 t583.length co12) t583) := ⟨by rw [← hgw_]; exact rM (rf (Kd.R_types HO587.out BK596.out (by decide))) jq⟩
    have n1_ : Aside0 (Kd.R (Kd.int .i64) 2 w19 w.heap.size (fun k_ => nS Ao12 t583 co12 k_ ∧ nS Ao14 t585 co14 k_ ∧ nS Ao18 t593 co18 k_) (.slice Ao13 t584.length co13) t584) := ⟨by rw [← hgw_]; exact rM (rf (Kd.R_types HO589.out BK596.out (by decide))) jq⟩
    have n2_ : Aside0 (Kd.R (Kd.int .i64) 2 w19 w.heap.size (fun k_ => nS Ao12 t583 co12 k_ ∧ nS Ao13 t584 co13 k_ ∧ nS Ao18 t593 co18 k_) (.slice Ao14 t585.length co14) t585) := ⟨by rw [← hgw_]; exact rM (rf (Kd.R_types HO591.out BK596.out (by decide))) jq⟩
    have n3_ : Aside0 (Kd.R (Kd.int .i64) 2 w19 w.heap.size (fun k_ => nS Ao12 t583 co12 k_ ∧ nS Ao13 t584 co13 k_ ∧ nS Ao14 t585 co14 k_) (.slice Ao18 t593.length co18) t593) := ⟨by rw [← hgw_]; exact rM (rf (Kd.R_types HO595.out BK596.out (by decide))) jq⟩
    have n4_ : Aside0 (w19.heap[gb596]? = some (.cells #[.int .i64 t592, .slice Ao18 t593.length co18] 24 (0, 0))) := ⟨by rw [← hgw_]; exact fq BK596.out⟩
    have n5_ : Aside0 (Below w.heap.size w w19) := ⟨by rw [← hgw_]; repeat (first | (with_reducible first | exact HB.out | apply bA | apply bN | apply bD | refine bS ?_ GE596.out) | exact HB.out)⟩
    (try clear HO587)
    (try clear HO589)
    (try clear HO591)
    (try clear HO595)
    (try clear BK596)
    (try clear HB)
    clear hgw_
    have HO587 := n0_
    have HO589 := n1_
    have HO591 := n2_
    have HO595 := n3_
    have BK596 := n4_
    have HB := n5_
    clear n0_ n1_ n2_ n3_ n4_ n5_
    replace HO587 := aM (rD HO587.out)
    replace HO589 := aM (rD HO589.out)
    replace HO591 := aM (rD HO591.out)
    replace HO595 := aM (rD HO595.out)
    replace BK596 := aM (kD BK596.out)
    replace HB := aM (bD HB.out)
    refine start_ (n := 9) (S := fun w' => w'.cell? ⟨gb596, 0, none⟩ = some (.int .i64 t592) ∧ w'.cell? ⟨gb596, 1, none⟩ = some (.slice Ao18 t593.length co18)) (ds := []) #[N,N,N,N,N,N,N,N,N] kr rfl rfl ⟨(kC BK596.out 0).trans rfl, (kC BK596.out 1).trans rfl⟩ (fun hHeld => ?_); refine with_tabW laws_FnFrameBounds.tab5 laws_FnFrameBounds.bits5 (fun HT_ HW_ => ?_)
    generalize w19.drew = w20 at HO587 HO589 HO591 HO595 BK596 HB hHeld ⊢
    refine pp HT_ (N := some 30) 0 #[Y,N,N,N,N,N,N,N,N] ?_
    refine pp HT_ (N := some 32) 2 #[Y,N,Y,N,N,N,N,N,N] ?_
    refine pp HT_ (N := some 33) 3 #[Y,N,Y,Y,N,N,N,N,N] ?_
    refine pp HT_ (N := some 34) 4 #[Y,N,Y,Y,Y,N,N,N,N] ?_
    refine pp HT_ (N := some 35) 5 #[Y,N,Y,Y,Y,Y,N,N,N] ?_
    refine take_ (i := 1) (N := some 31) (v := ?_) (a' := ?_) #[Y,Y,Y,Y,Y,Y,N,N,N] rfl rfl (take_ofW HT_.out HW_.out kr) (fun _ _ _ h => h) (Or.inl ⟨by rfl, ?_⟩) hHeld ?_ ?_
    rotate_left
    ·rintro w' ⟨s0, s1⟩
     go_simp
     with_reducible rfl
    rotate_left
    ·simp only [Act.put, pa, pb, pc, i64_w, i32_w]
     rfl
    refine one_ (i := 6) (N := some 36) #[Y,Y,Y,Y,Y,Y,Y,N,N] rfl rfl (one_of HT_.out kr) (by decide) (fun K hK => ?_)
    refine goes_ Try.func9 kr rfl #[.int .i64 t582, .slice Ao12 t583.length co12, .slice Ao13 t584.length co13, .slice Ao14 t585.length co14] (by rfl) rfl rfl mq ?_
    with_reducible refine (spec_FrameBounds.calls k t582 _ _ t583 _ _ t584 _ _ t585 t597 t598 _ ?side1 ?side2 ?side3 ?side4 ?side5 ?side6 A6.out).mono ?_
    (case side1 => exact cq (rR HO587.out).2.2)
    (case side2 => exact (rR HO587.out).2.1)
    (case side3 => exact cq (rR HO589.out).2.2)
    (case side4 => exact (rR HO589.out).2.1)
    (case side5 => exact cq (rR HO591.out).2.2)
    (case side6 => exact (rR HO591.out).2.1)
    rintro e w21 ⟨v599, rfl, ho0, hb⟩
    refine ⟨_, rfl, ?_⟩
    have HO600 := aM (rG (rW (rW (rW (rW ho0 (rT (rq HO587.out))) (rT (rq HO589.out))) (rT (rq HO591.out))) (rT (rq HO595.out))) (bZ bq))
    replace HO587 := aM (rH (rq HO587.out) (rB ho0) hb)
    replace HO589 := aM (rH (rq HO589.out) (rB ho0) hb)
    replace HO591 := aM (rH (rq HO591.out) (rB ho0) hb)
    replace HO595 := aM (rH (rq HO595.out) (rB ho0) hb)
    replace BK596 := aM (kB (kq BK596.out) hb)
    replace HB := aM (bT bq hb)
    (try clear hb)
    (try clear hb2)
    (try clear hk)
    (try clear hi)
    (try clear ho0)
    refine hK.out _ _ ⟨(kC BK596.out 0).trans rfl, (kC BK596.out 1).trans rfl⟩ (fun hHeld => ?_)
    clear hK K
    refine norm_ (a' := ?_) ?_ ?_
    rotate_left
    ·show Act.put _ (some 36) _ = _
     simp only [Act.put, pa, pb, pc, i64_w, i32_w]
     rfl
    refine pp HT_ (N := some 37) 7 #[Y,Y,Y,Y,Y,Y,Y,Y,N] ?_
    refine pp HT_ (N := some 38) 8 #[Y,Y,Y,Y,Y,Y,Y,Y,Y] ?_
    refine done_ (done_of HT_.out kr) ?_
    have hcz22_0 : w21.cell? ⟨gb596, 0, none⟩ = some (.int .i64 t592) := (kC BK596.out 0).trans rfl
    have hcz22_1 : w21.cell? ⟨gb596, 1, none⟩ = some (.slice Ao18 t593.length co18) := (kC BK596.out 1).trans rfl
    have hfz22_0 := kF BK596.out 0
    have hfz22_1 := kF BK596.out 1
    try go_wp2_with (first | ((with_reducible refine gate_dst (N := 45) rfl ?_); (try (refine gate_guard (by rfl) ?_; dsimp only)); refine Kd.N_lit (Kd.slice 2 (Kd.int .i64)) _ 22 ?hg (N' := 45) ?hd (xs := ([t583, t584, t585] : List (List Int))) (inner := [.slice Ao12 t583.length co12, .slice Ao13 t584.length co13, .slice Ao14 t585.length co14]) (ok := (fun k_ => nS Ao18 t593 co18 k_ ∧ nb v599 k_ ∧ k_ ≠ gb596)) (okp := (fun k_ => nS Ao18 t593 co18 k_ ∧ nb v599 k_ ∧ k_ ≠ gb596)) ?hr ?hp (fun _ hk => hk) ((show ∀ k_, w21.heap.size ≤ k_ → (fun k_ => nS Ao18 t593 co18 k_ ∧ nb v599 k_ ∧ k_ ≠ gb596) k_ from fun k_ hk => ⟨Kd.fresh' (rT (rq HO595.out)) k_ hk, Kd.fresh' (rT (rq HO600.out)) k_ hk, Kd.freshB (kq BK596.out) k_ hk⟩) _ (Nat.le_refl _)) (Below.refl _ _) (Nat.le_refl _) (by simp) ?_; (case hd => rfl); (case hg => rfl); (case hr => first | (go_simp; done) | (go_simp; rfl)); (case hp => exact (Reps.one (show Kd.FK (Kd.slice 2 (Kd.int .i64)) _ _ t583 [.slice Ao12 t583.length co12] from (Kd.FK_slice_mk (rR (rM (ok' := (fun k_ => nS Ao18 t593 co18 k_ ∧ nb v599 k_ ∧ k_ ≠ gb596)) (Kd.R_types (HO587.out) BK596.out (by decide)) jq)).2.1 (Kd.R_F (rM (ok' := (fun k_ => nS Ao18 t593 co18 k_ ∧ nb v599 k_ ∧ k_ ≠ gb596)) (Kd.R_types (HO587.out) BK596.out (by decide)) jq)))) (Reps.one (show Kd.FK (Kd.slice 2 (Kd.int .i64)) _ _ t584 [.slice Ao13 t584.length co13] from (Kd.FK_slice_mk (rR (rM (ok' := (fun k_ => nS Ao18 t593 co18 k_ ∧ nb v599 k_ ∧ k_ ≠ gb596)) (Kd.R_types (HO589.out) BK596.out (by decide)) jq)).2.1 (Kd.R_F (rM (ok' := (fun k_ => nS Ao18 t593 co18 k_ ∧ nb v599 k_ ∧ k_ ≠ gb596)) (Kd.R_types (HO589.out) BK596.out (by decide)) jq)))) (Reps.one (show Kd.FK (Kd.slice 2 (Kd.int .i64)) _ _ t585 [.slice Ao14 t585.length co14] from (Kd.FK_slice_mk (rR (rM (ok' := (fun k_ => nS Ao18 t593 co18 k_ ∧ nb v599 k_ ∧ k_ ≠ gb596)) (Kd.R_types (HO591.out) BK596.out (by decide)) jq)).2.1 (Kd.R_F (rM (ok' := (fun k_ => nS Ao18 t593 co18 k_ ∧ nb v599 k_ ∧ k_ ≠ gb596)) (Kd.R_types (HO591.out) BK596.out (by decide)) jq)))) (Reps.none _ _))))); intro v602 w23 ho24 hb hg_ hnew_; clear hg_ hnew_; (first | rw [← Ny601.out] at ho24 | (simp only [Int.reduceToNat] at ho24; rw [← Ny601.out] at ho24)); replace HO595 := aM (rL (rq HO595.out) hb); replace HO600 := aM (rL (rq HO600.out) hb); have HO603 := aM (Kd.N_lower ho24 (bZ bq)); replace BK596 := aM (kB (kq BK596.out) hb); replace HB := aM (bT bq hb); clear HO587 HO589 HO591 hb ho24) | ((with_reducible refine gate_callee (f := 37) rfl ?_); refine goesL_ (some 47) rfl rfl Try.func37 kr rfl #[.int .i64 t582] rfl mq ?_; (with_reducible refine (impl_NewSynth.calls t582 t604 t605 t606 t609 _ A9.out).mono ?_); rintro e w25 ⟨v607, v610, rfl, ho0, ho1, hb⟩; refine ⟨_, rfl, ?_⟩; replace HO603 := aM (Kd.N_mono (Kd.N_told (Kd.N_told (Kd.N_old (nq HO603.out) hb) (rB ho0)) (rB ho1)) (fun _ h_ => h_.1)); have HO608 := aM (rG (rW (rW ho0 (rT (rq HO595.out))) (rT (rq HO600.out))) (bZ bq)); have HO611 := aM (rG (rW (rW ho1 (rT (rq HO595.out))) (rT (rq HO600.out))) (bZ bq)); replace HO595 := aM (rM (rO (rO (rE (rq HO595.out) hb) (rB ho0)) (rB ho1)) (fun _ h_ => h_.1)); replace HO600 := aM (rM (rO (rO (rE (rq HO600.out) hb) (rB ho0)) (rB ho1)) (fun _ h_ => h_.1)); replace BK596 := aM (kB (kq BK596.out) hb); replace HB := aM (bT bq hb); (try clear hb); (try clear ho0); (try clear ho1)) | ((with_reducible refine gate_dst (N := 9) rfl ?_); (try (refine gate_guard (by rfl) ?_; dsimp only)); refine box_event ?hg (N := 9) ?hd (cs := #[.int .i64 0, .slice none 0 0, .slice none 0 0]) (t := 35) ?hr ?_; (case hd => rfl); (case hg => rfl); (case hr => first | (go_simp; done) | (go_simp; rfl)); intro gb612 hg w26 hbox hb; replace HO595 := aM (rL (rq HO595.out) hb); replace HO600 := aM (rL (rq HO600.out) hb); replace HO603 := aM (Kd.N_below (Kd.N_elderB (nq HO603.out) gb612 (Nat.le_of_eq hg.symm)) hb); replace HO608 := aM (rL (rq HO608.out) hb); replace HO611 := aM (rL (rq HO611.out) hb); have BK612 := aM (hbox); have GW612 := aM ((by rw [hg]; exact (bZ bq) : w.heap.size ≤ gb612)); have GE612 := aM ((by rw [hg]; exact (bZ bq) : w.heap.size ≤ gb612)); replace HB := aM (bT bq hb); have NB596_612 := aM ((by rw [hg]; exact Nat.ne_of_lt (blk_lt (kq BK596.out)) : gb596 ≠ gb612)); have NB612_596 := aM ((by rw [hg]; exact Nat.ne_of_gt (blk_lt (kq BK596.out)) : gb612 ≠ gb596)); replace BK596 := aM (kB (kq BK596.out) hb); clear hb hbox hg; have hnb27 := NB612_596.out; have hnc27 := NB596_612.out; have hcz28_0 : w26.cell? ⟨gb612, 0, none⟩ = some (.int .i64 0) := (kC BK612.out 0).trans rfl; have hcz28_1 : w26.cell? ⟨gb612, 1, none⟩ = some (.slice none 0 0) := (kC BK612.out 1).trans rfl; have hcz28_2 : w26.cell? ⟨gb612, 2, none⟩ = some (.slice none 0 0) := (kC BK612.out 2).trans rfl; have hfz28_0 := kF BK612.out 0; have hfz28_1 := kF BK612.out 1; have hfz28_2 := kF BK612.out 2; obtain ⟨Ao29, co29, eo29⟩ := Kd.R_slice HO608.out; subst eo29; obtain ⟨Ao30, co30, eo30⟩ := Kd.R_slice HO611.out; subst eo30) | ((with_reducible refine gate_callee (f := 37) rfl ?_); refine goesL_ (some 50) rfl rfl Try.func37 kr rfl #[.int .i64 t582] rfl mq ?_; (with_reducible refine (impl_NewSynth.calls t582 t613 t614 t615 t618 _ A10.out).mono ?_); rintro e w31 ⟨v616, v619, rfl, ho0, ho1, hb⟩; refine ⟨_, rfl, ?_⟩; replace HO603 := aM (Kd.N_mono (Kd.N_told (Kd.N_told (Kd.N_old (nq ((Kd.N_mono (Kd.N_far (p := ⟨gb612, 2, none⟩) (Kd.N_far (p := ⟨gb612, 1, none⟩) (Kd.N_far (p := ⟨gb612, 0, none⟩) (Kd.N_mono HO603.out (fun k_ hk => (⟨hk, hk.2⟩ : _ ∧ k_ ≠ gb612))) (fun _ hk => hk.2) (.int .i64 t605)) (fun _ hk => hk.2) (.slice Ao29 t606.length co29)) (fun _ hk => hk.2) (.slice Ao30 t609.length co30)) (fun _ h_ => h_.1)))) hb) (rB ho0)) (rB ho1)) (fun _ h_ => h_.1)); have HO617 := aM (rG (rW (rW (rW (rW ho0 (rT (rM (rf (Kd.R_types HO595.out BK612.out (by decide))) (fun _ h_ => h_.1)))) (rT (rM (rf (Kd.R_types HO600.out BK612.out (by decide))) (fun _ h_ => h_.1)))) (rT (rM (rf (Kd.R_types HO608.out BK612.out (by decide))) (fun _ h_ => h_.1)))) (rT (rM (rf (Kd.R_types HO611.out BK612.out (by decide))) (fun _ h_ => h_.1)))) (bZ bq)); have HO620 := aM (rG (rW (rW (rW (rW ho1 (rT (rM (rf (Kd.R_types HO595.out BK612.out (by decide))) (fun _ h_ => h_.1)))) (rT (rM (rf (Kd.R_types HO600.out BK612.out (by decide))) (fun _ h_ => h_.1)))) (rT (rM (rf (Kd.R_types HO608.out BK612.out (by decide))) (fun _ h_ => h_.1)))) (rT (rM (rf (Kd.R_types HO611.out BK612.out (by decide))) (fun _ h_ => h_.1)))) (bZ bq)); replace HO595 := aM (rM (rO (rO (rE (rM (rf (Kd.R_types HO595.out BK612.out (by decide))) (fun _ h_ => h_.1)) hb) (rB ho0)) (rB ho1)) (fun _ h_ => h_.1)); replace HO600 := aM (rM (rO (rO (rE (rM (rf (Kd.R_types HO600.out BK612.out (by decide))) (fun _ h_ => h_.1)) hb) (rB ho0)) (rB ho1)) (fun _ h_ => h_.1)); replace HO608 := aM (rM (rO (rO (rE (rM (rf (Kd.R_types HO608.out BK612.out (by decide))) (fun _ h_ => h_.1)) hb) (rB ho0)) (rB ho1)) (fun _ h_ => h_.1)); replace HO611 := aM (rM (rO (rO (rE (rM (rf (Kd.R_types HO611.out BK612.out (by decide))) (fun _ h_ => h_.1)) hb) (rB ho0)) (rB ho1)) (fun _ h_ => h_.1)); replace BK596 := aM (kB (g := gb596) (o := .cells #[.int .i64 t592, .slice Ao18 t593.length co18] 24 (0, 0)) (fq BK596.out) hb); replace BK612 := aM (kB (g := gb612) (o := .cells #[.int .i64 t605, .slice Ao29 t606.length co29, .slice Ao30 t609.length co30] 35 (0, 0)) (fq BK612.out) hb); replace HB := aM (bT bq hb); (try clear hb); (try clear ho0); (try clear ho1)) | ((with_reducible refine gate_dst (N := 10) rfl ?_); (try (refine gate_guard (by rfl) ?_; dsimp only)); refine box_event ?hg (N := 10) ?hd (cs := #[.int .i64 0, .slice none 0 0, .slice none 0 0]) (t := 35) ?hr ?_; (case hd => rfl); (case hg => rfl); (case hr => first | (go_simp; done) | (go_simp; rfl)); intro gb621 hg w32 hbox hb; replace HO595 := aM (rL (rq HO595.out) hb); replace HO600 := aM (rL (rq HO600.out) hb); replace HO603 := aM (Kd.N_below (Kd.N_elderB (nq HO603.out) gb621 (Nat.le_of_eq hg.symm)) hb); replace HO608 := aM (rL (rq HO608.out) hb); replace HO611 := aM (rL (rq HO611.out) hb); replace HO617 := aM (rL (rq HO617.out) hb); replace HO620 := aM (rL (rq HO620.out) hb); have BK621 := aM (hbox); have GW621 := aM ((by rw [hg]; exact (bZ bq) : w.heap.size ≤ gb621)); have GE621 := aM ((by rw [hg]; exact (bZ bq) : w.heap.size ≤ gb621)); replace HB := aM (bT bq hb); have NB596_621 := aM ((by rw [hg]; exact Nat.ne_of_lt (blk_lt (kq BK596.out)) : gb596 ≠ gb621)); have NB621_596 := aM ((by rw [hg]; exact Nat.ne_of_gt (blk_lt (kq BK596.out)) : gb621 ≠ gb596)); replace BK596 := aM (kB (kq BK596.out) hb); have NB612_621 := aM ((by rw [hg]; exact Nat.ne_of_lt (blk_lt (kq BK612.out)) : gb612 ≠ gb621)); have NB621_612 := aM ((by rw [hg]; exact Nat.ne_of_gt (blk_lt (kq BK612.out)) : gb621 ≠ gb612)); replace BK612 := aM (kB (kq BK612.out) hb); clear hb hbox hg; have hnb33 := NB621_596.out; have hnc33 := NB596_621.out; have hnb34 := NB621_612.out; have hnc34 := NB612_621.out; have hcz35_0 : w32.cell? ⟨gb621, 0, none⟩ = some (.int .i64 0) := (kC BK621.out 0).trans rfl; have hcz35_1 : w32.cell? ⟨gb621, 1, none⟩ = some (.slice none 0 0) := (kC BK621.out 1).trans rfl; have hcz35_2 : w32.cell? ⟨gb621, 2, none⟩ = some (.slice none 0 0) := (kC BK621.out 2).trans rfl; have hfz35_0 := kF BK621.out 0; have hfz35_1 := kF BK621.out 1; have hfz35_2 := kF BK621.out 2; obtain ⟨Ao36, co36, eo36⟩ := Kd.R_slice HO617.out; subst eo36; obtain ⟨Ao37, co37, eo37⟩ := Kd.R_slice HO620.out; subst eo37) | ((with_reducible refine gate_dst (N := 11) rfl ?_); (try (refine gate_guard (by rfl) ?_; dsimp only)); refine box_event ?hg (N := 11) ?hd (cs := #[.int .i64 0, .int .i64 0, .slice none 0 0, .slice none 0 0, .slice none 0 0]) (t := 37) ?hr ?_; (case hd => rfl); (case hg => rfl); (case hr => first | (go_simp; done) | (go_simp; rfl)); intro gb622 hg w38 hbox hb; replace HO595 := aM (rL (rM (rf (Kd.R_types HO595.out BK621.out (by decide))) (fun _ h_ => h_.1)) hb); replace HO600 := aM (rL (rM (rf (Kd.R_types HO600.out BK621.out (by decide))) (fun _ h_ => h_.1)) hb); replace HO603 := aM (Kd.N_below (Kd.N_elderB (nq ((Kd.N_mono (Kd.N_far (p := ⟨gb621, 2, none⟩) (Kd.N_far (p := ⟨gb621, 1, none⟩) (Kd.N_far (p := ⟨gb621, 0, none⟩) (Kd.N_mono HO603.out (fun k_ hk => (⟨hk, hk.2⟩ : _ ∧ k_ ≠ gb621))) (fun _ hk => hk.2) (.int .i64 t614)) (fun _ hk => hk.2) (.slice Ao36 t615.length co36)) (fun _ hk => hk.2) (.slice Ao37 t618.length co37)) (fun _ h_ => h_.1)))) gb622 (Nat.le_of_eq hg.symm)) hb); replace HO608 := aM (rL (rM (rf (Kd.R_types HO608.out BK621.out (by decide))) (fun _ h_ => h_.1)) hb); replace HO611 := aM (rL (rM (rf (Kd.R_types HO611.out BK621.out (by decide))) (fun _ h_ => h_.1)) hb); replace HO617 := aM (rL (rM (rf (Kd.R_types HO617.out BK621.out (by decide))) (fun _ h_ => h_.1)) hb); replace HO620 := aM (rL (rM (rf (Kd.R_types HO620.out BK621.out (by decide))) (fun _ h_ => h_.1)) hb); have BK622 := aM (hbox); have GW622 := aM ((by rw [hg]; exact (bZ bq) : w.heap.size ≤ gb622)); have GE622 := aM ((by rw [hg]; exact (bZ bq) : w.heap.size ≤ gb622)); replace HB := aM (bT bq hb); have NB596_622 := aM ((by rw [hg]; exact Nat.ne_of_lt (blk_lt (g := gb596) (o := .cells #[.int .i64 t592, .slice Ao18 t593.length co18] 24 (0, 0)) (fq BK596.out)) : gb596 ≠ gb622)); have NB622_596 := aM ((by rw [hg]; exact Nat.ne_of_gt (blk_lt (g := gb596) (o := .cells #[.int .i64 t592, .slice Ao18 t593.length co18] 24 (0, 0)) (fq BK596.out)) : gb622 ≠ gb596)); replace BK596 := aM (kB (g := gb596) (o := .cells #[.int .i64 t592, .slice Ao18 t593.length co18] 24 (0, 0)) (fq BK596.out) hb); have NB612_622 := aM ((by rw [hg]; exact Nat.ne_of_lt (blk_lt (g := gb612) (o := .cells #[.int .i64 t605, .slice Ao29 t606.length co29, .slice Ao30 t609.length co30] 35 (0, 0)) (fq BK612.out)) : gb612 ≠ gb622)); have NB622_612 := aM ((by rw [hg]; exact Nat.ne_of_gt (blk_lt (g := gb612) (o := .cells #[.int .i64 t605, .slice Ao29 t606.length co29, .slice Ao30 t609.length co30] 35 (0, 0)) (fq BK612.out)) : gb622 ≠ gb612)); replace BK612 := aM (kB (g := gb612) (o := .cells #[.int .i64 t605, .slice Ao29 t606.length co29, .slice Ao30 t609.length co30] 35 (0, 0)) (fq BK612.out) hb); have NB621_622 := aM ((by rw [hg]; exact Nat.ne_of_lt (blk_lt (g := gb621) (o := .cells #[.int .i64 t614, .slice Ao36 t615.length co36, .slice Ao37 t618.length co37] 35 (0, 0)) (fq BK621.out)) : gb621 ≠ gb622)); have NB622_621 := aM ((by rw [hg]; exact Nat.ne_of_gt (blk_lt (g := gb621) (o := .cells #[.int .i64 t614, .slice Ao36 t615.length co36, .slice Ao37 t618.length co37] 35 (0, 0)) (fq BK621.out)) : gb622 ≠ gb621)); replace BK621 := aM (kB (g := gb621) (o := .cells #[.int .i64 t614, .slice Ao36 t615.length co36, .slice Ao37 t618.length co37] 35 (0, 0)) (fq BK621.out) hb); clear hb hbox hg; have hnb39 := NB622_596.out; have hnc39 := NB596_622.out; have hnb40 := NB622_612.out; have hnc40 := NB612_622.out; have hnb41 := NB622_621.out; have hnc41 := NB621_622.out; have hcz42_0 : w38.cell? ⟨gb622, 0, none⟩ = some (.int .i64 0) := (kC BK622.out 0).trans rfl; have hcz42_1 : w38.cell? ⟨gb622, 1, none⟩ = some (.int .i64 0) := (kC BK622.out 1).trans rfl; have hcz42_2 : w38.cell? ⟨gb622, 2, none⟩ = some (.slice none 0 0) := (kC BK622.out 2).trans rfl; have hcz42_3 : w38.cell? ⟨gb622, 3, none⟩ = some (.slice none 0 0) := (kC BK622.out 3).trans rfl; have hcz42_4 : w38.cell? ⟨gb622, 4, none⟩ = some (.slice none 0 0) := (kC BK622.out 4).trans rfl; have hfz42_0 := kF BK622.out 0; have hfz42_1 := kF BK622.out 1; have hfz42_2 := kF BK622.out 2; have hfz42_3 := kF BK622.out 3; have hfz42_4 := kF BK622.out 4) | ((with_reducible refine gate_dst (N := 12) rfl ?_); (try (refine gate_guard (by rfl) ?_; dsimp only)); refine box_event ?hg (N := 12) ?hd (cs := #[.int .i64 0, .int .i64 0, .slice none 0 0, .slice none 0 0, .slice none 0 0]) (t := 37) ?hr ?_; (case hd => rfl); (case hg => rfl); (case hr => first | (go_simp; done) | (go_simp; rfl)); intro gb623 hg w43 hbox hb; replace HO595 := aM (rL (rM (rf (Kd.R_types HO595.out BK622.out (by decide))) (fun _ h_ => h_.1)) hb); replace HO600 := aM (rL (rM (rf (Kd.R_types HO600.out BK622.out (by decide))) (fun _ h_ => h_.1)) hb); replace HO603 := aM (Kd.N_below (Kd.N_elderB (nq ((Kd.N_mono (Kd.N_far (p := ⟨gb622, 4, none⟩) (Kd.N_far (p := ⟨gb622, 3, none⟩) (Kd.N_far (p := ⟨gb622, 2, none⟩) (Kd.N_far (p := ⟨gb622, 1, none⟩) (Kd.N_far (p := ⟨gb622, 0, none⟩) (Kd.N_mono HO603.out (fun k_ hk => (⟨hk, hk.2⟩ : _ ∧ k_ ≠ gb622))) (fun _ hk => hk.2) (.int .i64 0)) (fun _ hk => hk.2) (.int .i64 0)) (fun _ hk => hk.2) (.slice none 0 0)) (fun _ hk => hk.2) (.slice none 0 0)) (fun _ hk => hk.2) (.slice none 0 0)) (fun _ h_ => h_.1)))) gb623 (Nat.le_of_eq hg.symm)) hb); replace HO608 := aM (rL (rM (rf (Kd.R_types HO608.out BK622.out (by decide))) (fun _ h_ => h_.1)) hb); replace HO611 := aM (rL (rM (rf (Kd.R_types HO611.out BK622.out (by decide))) (fun _ h_ => h_.1)) hb); replace HO617 := aM (rL (rM (rf (Kd.R_types HO617.out BK622.out (by decide))) (fun _ h_ => h_.1)) hb); replace HO620 := aM (rL (rM (rf (Kd.R_types HO620.out BK622.out (by decide))) (fun _ h_ => h_.1)) hb); have BK623 := aM (hbox); have GW623 := aM ((by rw [hg]; exact (bZ bq) : w.heap.size ≤ gb623)); have GE623 := aM ((by rw [hg]; exact (bZ bq) : w.heap.size ≤ gb623)); replace HB := aM (bT bq hb); have NB596_623 := aM ((by rw [hg]; exact Nat.ne_of_lt (blk_lt (g := gb596) (o := .cells #[.int .i64 t592, .slice Ao18 t593.length co18] 24 (0, 0)) (fq BK596.out)) : gb596 ≠ gb623)); have NB623_596 := aM ((by rw [hg]; exact Nat.ne_of_gt (blk_lt (g := gb596) (o := .cells #[.int .i64 t592, .slice Ao18 t593.length co18] 24 (0, 0)) (fq BK596.out)) : gb623 ≠ gb596)); replace BK596 := aM (kB (g := gb596) (o := .cells #[.int .i64 t592, .slice Ao18 t593.length co18] 24 (0, 0)) (fq BK596.out) hb); have NB612_623 := aM ((by rw [hg]; exact Nat.ne_of_lt (blk_lt (g := gb612) (o := .cells #[.int .i64 t605, .slice Ao29 t606.length co29, .slice Ao30 t609.length co30] 35 (0, 0)) (fq BK612.out)) : gb612 ≠ gb623)); have NB623_612 := aM ((by rw [hg]; exact Nat.ne_of_gt (blk_lt (g := gb612) (o := .cells #[.int .i64 t605, .slice Ao29 t606.length co29, .slice Ao30 t609.length co30] 35 (0, 0)) (fq BK612.out)) : gb623 ≠ gb612)); replace BK612 := aM (kB (g := gb612) (o := .cells #[.int .i64 t605, .slice Ao29 t606.length co29, .slice Ao30 t609.length co30] 35 (0, 0)) (fq BK612.out) hb); have NB621_623 := aM ((by rw [hg]; exact Nat.ne_of_lt (blk_lt (g := gb621) (o := .cells #[.int .i64 t614, .slice Ao36 t615.length co36, .slice Ao37 t618.length co37] 35 (0, 0)) (fq BK621.out)) : gb621 ≠ gb623)); have NB623_621 := aM ((by rw [hg]; exact Nat.ne_of_gt (blk_lt (g := gb621) (o := .cells #[.int .i64 t614, .slice Ao36 t615.length co36, .slice Ao37 t618.length co37] 35 (0, 0)) (fq BK621.out)) : gb623 ≠ gb621)); replace BK621 := aM (kB (g := gb621) (o := .cells #[.int .i64 t614, .slice Ao36 t615.length co36, .slice Ao37 t618.length co37] 35 (0, 0)) (fq BK621.out) hb); have NB622_623 := aM ((by rw [hg]; exact Nat.ne_of_lt (blk_lt (g := gb622) (o := .cells #[.int .i64 0, .int .i64 0, .slice none 0 0, .slice none 0 0, .slice none 0 0] 37 (0, 0)) (fq BK622.out)) : gb622 ≠ gb623)); have NB623_622 := aM ((by rw [hg]; exact Nat.ne_of_gt (blk_lt (g := gb622) (o := .cells #[.int .i64 0, .int .i64 0, .slice none 0 0, .slice none 0 0, .slice none 0 0] 37 (0, 0)) (fq BK622.out)) : gb623 ≠ gb622)); replace BK622 := aM (kB (g := gb622) (o := .cells #[.int .i64 0, .int .i64 0, .slice none 0 0, .slice none 0 0, .slice none 0 0] 37 (0, 0)) (fq BK622.out) hb); clear hb hbox hg; have hnb44 := NB623_596.out; have hnc44 := NB596_623.out; have hnb45 := NB623_612.out; have hnc45 := NB612_623.out; have hnb46 := NB623_621.out; have hnc46 := NB621_623.out; have hnb47 := NB623_622.out; have hnc47 := NB622_623.out; have hcz48_0 : w43.cell? ⟨gb623, 0, none⟩ = some (.int .i64 0) := (kC BK623.out 0).trans rfl; have hcz48_1 : w43.cell? ⟨gb623, 1, none⟩ = some (.int .i64 0) := (kC BK623.out 1).trans rfl; have hcz48_2 : w43.cell? ⟨gb623, 2, none⟩ = some (.slice none 0 0) := (kC BK623.out 2).trans rfl; have hcz48_3 : w43.cell? ⟨gb623, 3, none⟩ = some (.slice none 0 0) := (kC BK623.out 3).trans rfl; have hcz48_4 : w43.cell? ⟨gb623, 4, none⟩ = some (.slice none 0 0) := (kC BK623.out 4).trans rfl; have hfz48_0 := kF BK623.out 0; have hfz48_1 := kF BK623.out 1; have hfz48_2 := kF BK623.out 2; have hfz48_3 := kF BK623.out 3; have hfz48_4 := kF BK623.out 4))
    go_loopg [13] k (fun kq v13 w' => ∃ (x13_1 : Int) (x613000_1 : Int) (x613001_1 : List Int) (x613002_1 : List Int) (x622000_1 : Int) (x622001_1 : List Int) (x622002_1 : List Int) (x623000_1 : Int) (x623001_1 : Int) (x623002_1 : List Int) (x623003_1 : List Int) (x623004_1 : List Int) (x624000_1 : Int) (x624001_1 : Int) (x624002_1 : List Int) (x624003_1 : List Int) (x624004_1 : List Int) (u613001 : Value) (u613002 : Value) (u622001 : Value) (u622002 : Value) (u623002 : Value) (u623003 : Value) (u623004 : Value) (u624002 : Value) (u624003 : Value) (u624004 : Value), v13 = .int .i64 x13_1 ∧ Aside0 (laws_FnFrameBounds.l0 kq l0 t582 y601 x13_1 t592 t593 x613000_1 x613001_1 x613002_1 x622000_1 x622001_1 x622002_1 x623000_1 x623001_1 x623002_1 x623003_1 x623004_1 x624000_1 x624001_1 x624002_1 x624003_1 x624004_1 = some r) ∧ Aside0 (kq ≤ k) ∧ Aside0 (Kd.N (Kd.slice 2 (Kd.int .i64)) 22 w' w.heap.size (fun k_ => some k_ ≠ ((.slice Ao18 t593.length co18) : Value).ownBlock ∧ nb u613001 k_ ∧ nb u613002 k_ ∧ nb u622001 k_ ∧ nb u622002 k_ ∧ nb u623002 k_ ∧ nb u623003 k_ ∧ nb u623004 k_ ∧ nb u624002 k_ ∧ nb u624003 k_ ∧ nb u624004 k_ ∧ k_ ≠ gb596 ∧ k_ ≠ gb612 ∧ k_ ≠ gb621 ∧ k_ ≠ gb622 ∧ k_ ≠ gb623) v602 y601) ∧ Aside0 (Kd.R (Kd.int .i64) 2 w' w.heap.size (fun k_ => nb u613001 k_ ∧ nb u613002 k_ ∧ nb u622001 k_ ∧ nb u622002 k_ ∧ nb u623002 k_ ∧ nb u623003 k_ ∧ nb u623004 k_ ∧ nb u624002 k_ ∧ nb u624003 k_ ∧ nb u624004 k_) (.slice Ao18 t593.length co18) t593) ∧ Aside0 (Kd.R (Kd.int .i64) 2 w' w.heap.size (fun k_ => some k_ ≠ ((.slice Ao18 t593.length co18) : Value).ownBlock ∧ nb u613002 k_ ∧ nb u622001 k_ ∧ nb u622002 k_ ∧ nb u623003 k_ ∧ nb u623004 k_ ∧ nb u624002 k_ ∧ nb u624003 k_ ∧ nb u624004 k_) u613001 x613001_1) ∧ Aside0 (Kd.R (Kd.int .i64) 2 w' w.heap.size (fun k_ => some k_ ≠ ((.slice Ao18 t593.length co18) : Value).ownBlock ∧ nb u613001 k_ ∧ nb u622001 k_ ∧ nb u622002 k_ ∧ nb u623002 k_ ∧ nb u623004 k_ ∧ nb u624002 k_ ∧ nb u624003 k_ ∧ nb u624004 k_) u613002 x613002_1) ∧ Aside0 (Kd.R (Kd.int .i64) 2 w' w.heap.size (fun k_ => some k_ ≠ ((.slice Ao18 t593.length co18) : Value).ownBlock ∧ nb u613001 k_ ∧ nb u613002 k_ ∧ nb u622002 k_ ∧ nb u623002 k_ ∧ nb u623003 k_ ∧ nb u623004 k_ ∧ nb u624003 k_ ∧ nb u624004 k_) u622001 x622001_1) ∧ Aside0 (Kd.R (Kd.int .i64) 2 w' w.heap.size (fun k_ => some k_ ≠ ((.slice Ao18 t593.length co18) : Value).ownBlock ∧ nb u613001 k_ ∧ nb u613002 k_ ∧ nb u622001 k_ ∧ nb u623002 k_ ∧ nb u623003 k_ ∧ nb u623004 k_ ∧ nb u624002 k_ ∧ nb u624004 k_) u622002 x622002_1) ∧ Aside0 (Kd.R (Kd.int .i64) 2 w' w.heap.size (fun k_ => some k_ ≠ ((.slice Ao18 t593.length co18) : Value).ownBlock ∧ nb u613002 k_ ∧ nb u622001 k_ ∧ nb u622002 k_ ∧ nb u623003 k_ ∧ nb u623004 k_ ∧ nb u624002 k_ ∧ nb u624003 k_ ∧ nb u624004 k_) u623002 x623002_1) ∧ Aside0 (Kd.R (Kd.int .i64) 2 w' w.heap.size (fun k_ => some k_ ≠ ((.slice Ao18 t593.length co18) : Value).ownBlock ∧ nb u613001 k_ ∧ nb u622001 k_ ∧ nb u622002 k_ ∧ nb u623002 k_ ∧ nb u623004 k_ ∧ nb u624002 k_ ∧ nb u624003 k_ ∧ nb u624004 k_) u623003 x623003_1) ∧ Aside0 (Kd.R (Kd.int .i64) 2 w' w.heap.size (fun k_ => some k_ ≠ ((.slice Ao18 t593.length co18) : Value).ownBlock ∧ nb u613001 k_ ∧ nb u613002 k_ ∧ nb u622001 k_ ∧ nb u622002 k_ ∧ nb u623002 k_ ∧ nb u623003 k_ ∧ nb u624002 k_ ∧ nb u624003 k_ ∧ nb u624004 k_) u623004 x623004_1) ∧ Aside0 (Kd.R (Kd.int .i64) 2 w' w.heap.size (fun k_ => some k_ ≠ ((.slice Ao18 t593.length co18) : Value).ownBlock ∧ nb u613001 k_ ∧ nb u613002 k_ ∧ nb u622002 k_ ∧ nb u623002 k_ ∧ nb u623003 k_ ∧ nb u623004 k_ ∧ nb u624003 k_ ∧ nb u624004 k_) u624002 x624002_1) ∧ Aside0 (Kd.R (Kd.int .i64) 2 w' w.heap.size (fun k_ => some k_ ≠ ((.slice Ao18 t593.length co18) : Value).ownBlock ∧ nb u613001 k_ ∧ nb u613002 k_ ∧ nb u622001 k_ ∧ nb u623002 k_ ∧ nb u623003 k_ ∧ nb u623004 k_ ∧ nb u624002 k_ ∧ nb u624004 k_) u624003 x624003_1) ∧ Aside0 (Kd.R (Kd.int .i64) 2 w' w.heap.size (fun k_ => some k_ ≠ ((.slice Ao18 t593.length co18) : Value).ownBlock ∧ nb u613001 k_ ∧ nb u613002 k_ ∧ nb u622001 k_ ∧ nb u622002 k_ ∧ nb u623002 k_ ∧ nb u623003 k_ ∧ nb u623004 k_ ∧ nb u624002 k_ ∧ nb u624003 k_) u624004 x624004_1) ∧ Aside0 (w'.heap[gb596]? = some (.cells #[.int .i64 t592, (.slice Ao18 t593.length co18)] 24 (0, 0))) ∧ Aside0 (w'.heap[gb612]? = some (.cells #[.int .i64 x613000_1, u613001, u613002] 35 (0, 0))) ∧ Aside0 (w'.heap[gb621]? = some (.cells #[.int .i64 x622000_1, u622001, u622002] 35 (0, 0))) ∧ Aside0 (w'.heap[gb622]? = some (.cells #[.int .i64 x623000_1, .int .i64 x623001_1, u623002, u623003, u623004] 37 (0, 0))) ∧ Aside0 (w'.heap[gb623]? = some (.cells #[.int .i64 x624000_1, .int .i64 x624001_1, u624002, u624003, u624004] 37 (0, 0))) ∧ Aside0 (Below w.heap.size w w'))
    case atStart => exact ⟨(0), (t605), (t606), (t609), (t614), (t615), (t618), (0), (0), (([] : List Int)), (([] : List Int)), (([] : List Int)), (0), (0), (([] : List Int)), (([] : List Int)), (([] : List Int)), (.slice Ao29 t606.length co29), (.slice Ao30 t609.length co30), (.slice Ao36 t615.length co36), (.slice Ao37 t618.length co37), (.slice none 0 0), (.slice none 0 0), (.slice none 0 0), (.slice none 0 0), (.slice none 0 0), (.slice none 0 0), (ex), H', ⟨Nat.le_refl _⟩, aM (nq (Kd.N_mono (Kd.N_far (p := ⟨gb623, 4, none⟩) (Kd.N_far (p := ⟨gb623, 3, none⟩) (Kd.N_far (p := ⟨gb623, 2, none⟩) (Kd.N_far (p := ⟨gb623, 1, none⟩) (Kd.N_far (p := ⟨gb623, 0, none⟩) (Kd.N_mono HO603.out (fun k_ hk => (⟨hk, hk.2⟩ : _ ∧ k_ ≠ gb623))) (fun _ hk => hk.2) (.int .i64 0)) (fun _ hk => hk.2) (.int .i64 0)) (fun _ hk => hk.2) (.slice none 0 0)) (fun _ hk => hk.2) (.slice none 0 0)) (fun _ hk => hk.2) (.slice none 0 0)) jq)), aM (rM (rf (Kd.R_types HO595.out BK623.out (by decide))) jq), aM (rM (rf (Kd.R_types HO608.out BK623.out (by decide))) jq), aM (rM (rf (Kd.R_types HO611.out BK623.out (by decide))) jq), aM (rM (rf (Kd.R_types HO617.out BK623.out (by decide))) jq), aM (rM (rf (Kd.R_types HO620.out BK623.out (by decide))) jq), ⟨by first | exact Kd.R_nil _ _ _ _ _ | exact Kd.N_nil _ _ _ _ _ | exact Kd.V_nil _ _ _ _ _ | exact Kd.Q_nil _ _ _ _ _ | exact Kd.S_nil _ _ _ _ _⟩, ⟨by first | exact Kd.R_nil _ _ _ _ _ | exact Kd.N_nil _ _ _ _ _ | exact Kd.V_nil _ _ _ _ _ | exact Kd.Q_nil _ _ _ _ _ | exact Kd.S_nil _ _ _ _ _⟩, ⟨by first | exact Kd.R_nil _ _ _ _ _ | exact Kd.N_nil _ _ _ _ _ | exact Kd.V_nil _ _ _ _ _ | exact Kd.Q_nil _ _ _ _ _ | exact Kd.S_nil _ _ _ _ _⟩, ⟨by first | exact Kd.R_nil _ _ _ _ _ | exact Kd.N_nil _ _ _ _ _ | exact Kd.V_nil _ _ _ _ _ | exact Kd.Q_nil _ _ _ _ _ | exact Kd.S_nil _ _ _ _ _⟩, ⟨by first | exact Kd.R_nil _ _ _ _ _ | exact Kd.N_nil _ _ _ _ _ | exact Kd.V_nil _ _ _ _ _ | exact Kd.Q_nil _ _ _ _ _ | exact Kd.S_nil _ _ _ _ _⟩, ⟨by first | exact Kd.R_nil _ _ _ _ _ | exact Kd.N_nil _ _ _ _ _ | exact Kd.V_nil _ _ _ _ _ | exact Kd.Q_nil _ _ _ _ _ | exact Kd.S_nil _ _ _ _ _⟩, aM (fq BK596.out), aM (fq BK612.out), aM (fq BK621.out), aM (fq BK622.out), aM (fq BK623.out), ⟨bq⟩⟩
    case round =>
     clear H'
     try clear c1
     try clear c2
     try clear p2
     try clear c3
     try clear c4
     try clear c6
     try clear c7
     try clear c7b0
     try clear c7b1
     try clear c8
     try clear c8b0
     try clear c8b1
     try clear c9
     try clear c11
     try clear c27
     try clear c33
     try clear c34
     try clear c35
     try clear c36
     try clear c37
     try clear c39
     try clear c40
     try clear c41
     try clear c44
     try clear c45
     try clear c46
     try clear c47
     try clear hcz17_0
     try clear hcz17_1
     try clear hcz22_0
     try clear hcz22_1
     try clear hcz28_0
     try clear hcz28_1
     try clear hcz28_2
     try clear hcz35_0
     try clear hcz35_1
     try clear hcz35_2
     try clear hcz42_0
     try clear hcz42_1
     try clear hcz42_2
     try clear hcz42_3
     try clear hcz42_4
     try clear hcz48_0
     try clear hcz48_1
     try clear hcz48_2
     try clear hcz48_3
     try clear hcz48_4
     try clear hfz17_0
     try clear hfz17_1
     try clear hfz22_0
     try clear hfz22_1
     try clear hfz28_0
     try clear hfz28_1
     try clear hfz28_2
     try clear hfz35_0
     try clear hfz35_1
     try clear hfz35_2
     try clear hfz42_0
     try clear hfz42_1
     try clear hfz42_2
     try clear hfz42_3
     try clear hfz42_4
     try clear hfz48_0
     try clear hfz48_1
     try clear hfz48_2
     try clear hfz48_3
     try clear hfz48_4
     obtain ⟨x13_1, x613000_1, x613001_1, x613002_1, x622000_1, x622001_1, x622002_1, x623000_1, x623001_1, x623002_1, x623003_1, x623004_1, x624000_1, x624001_1, x624002_1, x624003_1, x624004_1, u613001, u613002, u622001, u622002, u623002, u623003, u623004, u624002, u624003, u624004, rfl, HA, HK1, HO_8, HO_597001, HO_613001, HO_613002, HO_622001, HO_622002, HO_623002, HO_623003, HO_623004, HO_624002, HO_624003, HO_624004, BK596, BK612, BK621, BK622, BK623, HB⟩ := hrel
     cases gk with
     | zero => exact absurd HA.out (by simp [laws_FnFrameBounds.l0])
     | succ k1 =>
      have H := HA.out
      clear HA
      simp only [laws_FnFrameBounds.l0] at H
      by_cases c49 : x13_1 < 3
      ·rw [if_pos c49] at H
       have c49b0 : decide (x13_1 < 3) = true := decide_eq_true c49
       clear c49
       obtain ⟨y625, hy625⟩ : ∃ y_ : List Int, y_ = (([] : List Int)) := ⟨_, rfl⟩
       replace H : (laws_FnFrameBounds.l1 k1 l0 t582 y601 x13_1 y625 0 t592 t593 x613000_1 x613001_1 x613002_1 x622000_1 x622001_1 x622002_1) = some r := by first | (rw [hy625]; with_reducible exact H) | (have H2_ := (Option.bind_some _ _).symm.trans H; rw [hy625]; with_reducible exact H2_) | (have H2_ := (Option.bind_some _ _).symm.trans H; with_reducible exact H2_) | with_reducible exact H | (rw [hy625]; exact H) | exact H
       have Ny625 := aM hy625
       clear hy625
       have H' := aM H
       clear H
       go_wp2_with (first | ((with_reducible refine gate_dst (N := 58) rfl ?_); (try (refine gate_guard (by rfl) ?_; dsimp only)); refine Kd.R_lit (Kd.int .i64) _ 2 ?hg (N := 58) ?hd (xs := ([] : List Int)) (inner := []) (ok := fun _ => True) (okp := fun _ => True) ?hr ?hp (fun _ hk => hk) trivial (Below.refl _ _) (Nat.le_refl _) (by simp) ?_; (case hd => rfl); (case hg => rfl); (case hr => first | (go_simp; done) | (go_simp; rfl)); (case hp => exact (Reps.none _ _)); intro v626 w50 ho51 hb hg_ hnew_; clear hg_ hnew_; (first | rw [← Ny625.out] at ho51 | (simp only [Int.reduceToNat] at ho51; rw [← Ny625.out] at ho51)); replace HO_8 := aM (Kd.N_elder' (nq HO_8.out) (rB ho51) hb); have HO627 := aM (rG (rW (rW (rW (rW (rW (rW (rW (rW (rW (rW (rW ho51 (rT (rq HO_597001.out))) (rT (rq HO_613001.out))) (rT (rq HO_613002.out))) (rT (rq HO_622001.out))) (rT (rq HO_622002.out))) (rT (rq HO_623002.out))) (rT (rq HO_623003.out))) (rT (rq HO_623004.out))) (rT (rq HO_624002.out))) (rT (rq HO_624003.out))) (rT (rq HO_624004.out))) (bZ bq)); replace HO_597001 := aM (rH (rq HO_597001.out) (rB ho51) hb); replace HO_613001 := aM (rH (rq HO_613001.out) (rB ho51) hb); replace HO_613002 := aM (rH (rq HO_613002.out) (rB ho51) hb); replace HO_622001 := aM (rH (rq HO_622001.out) (rB ho51) hb); replace HO_622002 := aM (rH (rq HO_622002.out) (rB ho51) hb); replace HO_623002 := aM (rH (rq HO_623002.out) (rB ho51) hb); replace HO_623003 := aM (rH (rq HO_623003.out) (rB ho51) hb); replace HO_623004 := aM (rH (rq HO_623004.out) (rB ho51) hb); replace HO_624002 := aM (rH (rq HO_624002.out) (rB ho51) hb); replace HO_624003 := aM (rH (rq HO_624003.out) (rB ho51) hb); replace HO_624004 := aM (rH (rq HO_624004.out) (rB ho51) hb); replace BK596 := aM (kB (kq BK596.out) hb); replace BK612 := aM (kB (kq BK612.out) hb); replace BK621 := aM (kB (kq BK621.out) hb); replace BK622 := aM (kB (kq BK622.out) hb); replace BK623 := aM (kB (kq BK623.out) hb); replace HB := aM (bT bq hb); clear hb ho51))
       go_loopg [14, 15] k1 (fun kq v14 v15 w' => ∃ (x14_2 : List Int) (x15_2 : Int), v15 = .int .i64 x15_2 ∧ Aside0 (laws_FnFrameBounds.l1 kq l0 t582 y601 x13_1 x14_2 x15_2 t592 t593 x613000_1 x613001_1 x613002_1 x622000_1 x622001_1 x622002_1 = some r) ∧ Aside0 (kq ≤ k1) ∧ Aside0 (Kd.N (Kd.slice 2 (Kd.int .i64)) 22 w' w.heap.size (fun k_ => nb v14 k_ ∧ some k_ ≠ ((.slice Ao18 t593.length co18) : Value).ownBlock ∧ nb u613001 k_ ∧ nb u613002 k_ ∧ nb u622001 k_ ∧ nb u622002 k_ ∧ nb u623002 k_ ∧ nb u623003 k_ ∧ nb u623004 k_ ∧ nb u624002 k_ ∧ nb u624003 k_ ∧ nb u624004 k_ ∧ k_ ≠ gb596 ∧ k_ ≠ gb612 ∧ k_ ≠ gb621 ∧ k_ ≠ gb622 ∧ k_ ≠ gb623) v602 y601) ∧ Aside0 (Kd.R (Kd.int .i64) 2 w' w.heap.size (fun k_ => some k_ ≠ ((.slice Ao18 t593.length co18) : Value).ownBlock ∧ nb u613001 k_ ∧ nb u613002 k_ ∧ nb u622001 k_ ∧ nb u622002 k_ ∧ nb u623002 k_ ∧ nb u623003 k_ ∧ nb u623004 k_ ∧ nb u624002 k_ ∧ nb u624003 k_ ∧ nb u624004 k_) v14 x14_2) ∧ Aside0 (Kd.R (Kd.int .i64) 2 w' w.heap.size (fun k_ => nb v14 k_ ∧ nb u613001 k_ ∧ nb u613002 k_ ∧ nb u622001 k_ ∧ nb u622002 k_ ∧ nb u623002 k_ ∧ nb u623003 k_ ∧ nb u623004 k_ ∧ nb u624002 k_ ∧ nb u624003 k_ ∧ nb u624004 k_) (.slice Ao18 t593.length co18) t593) ∧ Aside0 (Kd.R (Kd.int .i64) 2 w' w.heap.size (fun k_ => nb v14 k_ ∧ some k_ ≠ ((.slice Ao18 t593.length co18) : Value).ownBlock ∧ nb u613002 k_ ∧ nb u622001 k_ ∧ nb u622002 k_ ∧ nb u623003 k_ ∧ nb u623004 k_ ∧ nb u624002 k_ ∧ nb u624003 k_ ∧ nb u624004 k_) u613001 x613001_1) ∧ Aside0 (Kd.R (Kd.int .i64) 2 w' w.heap.size (fun k_ => nb v14 k_ ∧ some k_ ≠ ((.slice Ao18 t593.length co18) : Value).ownBlock ∧ nb u613001 k_ ∧ nb u622001 k_ ∧ nb u622002 k_ ∧ nb u623002 k_ ∧ nb u623004 k_ ∧ nb u624002 k_ ∧ nb u624003 k_ ∧ nb u624004 k_) u613002 x613002_1) ∧ Aside0 (Kd.R (Kd.int .i64) 2 w' w.heap.size (fun k_ => nb v14 k_ ∧ some k_ ≠ ((.slice Ao18 t593.length co18) : Value).ownBlock ∧ nb u613001 k_ ∧ nb u613002 k_ ∧ nb u622002 k_ ∧ nb u623002 k_ ∧ nb u623003 k_ ∧ nb u623004 k_ ∧ nb u624003 k_ ∧ nb u624004 k_) u622001 x622001_1) ∧ Aside0 (Kd.R (Kd.int .i64) 2 w' w.heap.size (fun k_ => nb v14 k_ ∧ some k_ ≠ ((.slice Ao18 t593.length co18) : Value).ownBlock ∧ nb u613001 k_ ∧ nb u613002 k_ ∧ nb u622001 k_ ∧ nb u623002 k_ ∧ nb u623003 k_ ∧ nb u623004 k_ ∧ nb u624002 k_ ∧ nb u624004 k_) u622002 x622002_1) ∧ Aside0 (Kd.R (Kd.int .i64) 2 w' w.heap.size (fun k_ => nb v14 k_ ∧ some k_ ≠ ((.slice Ao18 t593.length co18) : Value).ownBlock ∧ nb u613002 k_ ∧ nb u622001 k_ ∧ nb u622002 k_ ∧ nb u623003 k_ ∧ nb u623004 k_ ∧ nb u624002 k_ ∧ nb u624003 k_ ∧ nb u624004 k_) u623002 x623002_1) ∧ Aside0 (Kd.R (Kd.int .i64) 2 w' w.heap.size (fun k_ => nb v14 k_ ∧ some k_ ≠ ((.slice Ao18 t593.length co18) : Value).ownBlock ∧ nb u613001 k_ ∧ nb u622001 k_ ∧ nb u622002 k_ ∧ nb u623002 k_ ∧ nb u623004 k_ ∧ nb u624002 k_ ∧ nb u624003 k_ ∧ nb u624004 k_) u623003 x623003_1) ∧ Aside0 (Kd.R (Kd.int .i64) 2 w' w.heap.size (fun k_ => nb v14 k_ ∧ some k_ ≠ ((.slice Ao18 t593.length co18) : Value).ownBlock ∧ nb u613001 k_ ∧ nb u613002 k_ ∧ nb u622001 k_ ∧ nb u622002 k_ ∧ nb u623002 k_ ∧ nb u623003 k_ ∧ nb u624002 k_ ∧ nb u624003 k_ ∧ nb u624004 k_) u623004 x623004_1) ∧ Aside0 (Kd.R (Kd.int .i64) 2 w' w.heap.size (fun k_ => nb v14 k_ ∧ some k_ ≠ ((.slice Ao18 t593.length co18) : Value).ownBlock ∧ nb u613001 k_ ∧ nb u613002 k_ ∧ nb u622002 k_ ∧ nb u623002 k_ ∧ nb u623003 k_ ∧ nb u623004 k_ ∧ nb u624003 k_ ∧ nb u624004 k_) u624002 x624002_1) ∧ Aside0 (Kd.R (Kd.int .i64) 2 w' w.heap.size (fun k_ => nb v14 k_ ∧ some k_ ≠ ((.slice Ao18 t593.length co18) : Value).ownBlock ∧ nb u613001 k_ ∧ nb u613002 k_ ∧ nb u622001 k_ ∧ nb u623002 k_ ∧ nb u623003 k_ ∧ nb u623004 k_ ∧ nb u624002 k_ ∧ nb u624004 k_) u624003 x624003_1) ∧ Aside0 (Kd.R (Kd.int .i64) 2 w' w.heap.size (fun k_ => nb v14 k_ ∧ some k_ ≠ ((.slice Ao18 t593.length co18) : Value).ownBlock ∧ nb u613001 k_ ∧ nb u613002 k_ ∧ nb u622001 k_ ∧ nb u622002 k_ ∧ nb u623002 k_ ∧ nb u623003 k_ ∧ nb u623004 k_ ∧ nb u624002 k_ ∧ nb u624003 k_) u624004 x624004_1) ∧ Aside0 (w'.heap[gb596]? = some (.cells #[.int .i64 t592, (.slice Ao18 t593.length co18)] 24 (0, 0))) ∧ Aside0 (w'.heap[gb612]? = some (.cells #[.int .i64 x613000_1, u613001, u613002] 35 (0, 0))) ∧ Aside0 (w'.heap[gb621]? = some (.cells #[.int .i64 x622000_1, u622001, u622002] 35 (0, 0))) ∧ Aside0 (w'.heap[gb622]? = some (.cells #[.int .i64 x623000_1, .int .i64 x623001_1, u623002, u623003, u623004] 37 (0, 0))) ∧ Aside0 (w'.heap[gb623]? = some (.cells #[.int .i64 x624000_1, .int .i64 x624001_1, u624002, u624003, u624004] 37 (0, 0))) ∧ Aside0 (Below w.heap.size w w'))
       case atStart => exact ⟨(y625), (0), (ex), H', ⟨Nat.le_refl _⟩, aM (nq (Kd.N_mono HO_8.out jq)), aM (rq (rM HO627.out jq)), aM (rq (rM HO_597001.out jq)), aM (rq (rM HO_613001.out jq)), aM (rq (rM HO_613002.out jq)), aM (rq (rM HO_622001.out jq)), aM (rq (rM HO_622002.out jq)), aM (rq (rM HO_623002.out jq)), aM (rq (rM HO_623003.out jq)), aM (rq (rM HO_623004.out jq)), aM (rq (rM HO_624002.out jq)), aM (rq (rM HO_624003.out jq)), aM (rq (rM HO_624004.out jq)), aM (kq BK596.out), aM (kq BK612.out), aM (kq BK621.out), aM (kq BK622.out), aM (kq BK623.out), ⟨bq⟩⟩
       case round =>
        clear H'
        try clear c1
        try clear c2
        try clear p2
        try clear c3
        try clear c4
        try clear c6
        try clear c7
        try clear c7b0
        try clear c7b1
        try clear c8
        try clear c8b0
        try clear c8b1
        try clear c9
        try clear c11
        try clear c27
        try clear c33
        try clear c34
        try clear c35
        try clear c36
        try clear c37
        try clear c39
        try clear c40
        try clear c41
        try clear c44
        try clear c45
        try clear c46
        try clear c47
        try clear c49
        try clear c49b0
        try clear hcz17_0
        try clear hcz17_1
        try clear hcz22_0
        try clear hcz22_1
        try clear hcz28_0
        try clear hcz28_1
        try clear hcz28_2
        try clear hcz35_0
        try clear hcz35_1
        try clear hcz35_2
        try clear hcz42_0
        try clear hcz42_1
        try clear hcz42_2
        try clear hcz42_3
        try clear hcz42_4
        try clear hcz48_0
        try clear hcz48_1
        try clear hcz48_2
        try clear hcz48_3
        try clear hcz48_4
        try clear hfz17_0
        try clear hfz17_1
        try clear hfz22_0
        try clear hfz22_1
        try clear hfz28_0
        try clear hfz28_1
        try clear hfz28_2
        try clear hfz35_0
        try clear hfz35_1
        try clear hfz35_2
        try clear hfz42_0
        try clear hfz42_1
        try clear hfz42_2
        try clear hfz42_3
        try clear hfz42_4
        try clear hfz48_0
        try clear hfz48_1
        try clear hfz48_2
        try clear hfz48_3
        try clear hfz48_4
        try clear p2
        obtain ⟨x14_2, x15_2, rfl, HA, HK2, HO_8, HO_14, HO_597001, HO_613001, HO_613002, HO_622001, HO_622002, HO_623002, HO_623003, HO_623004, HO_624002, HO_624003, HO_624004, BK596, BK612, BK621, BK622, BK623, HB⟩ := hrel
        cases gk with
        | zero => exact absurd HA.out (by simp [laws_FnFrameBounds.l1])
        | succ k2 =>
         have H := HA.out
         clear HA
         simp only [laws_FnFrameBounds.l1] at H
         by_cases c52 : x15_2 < t582
         ·rw [if_pos c52] at H
          have c52b0 : decide (x15_2 < t582) = true := decide_eq_true c52
          clear c52
          replace H := Option.bind_eq_some_iff.mp H
          obtain ⟨t628, A530, H⟩ := H
          replace H : (if x14_2.length < 17592186044416 then (laws_FnFrameBounds.l1 k2 l0 t582 y601 x13_1 (x14_2 ++ [wrap64 (t628 - 2000)]) (wrap64 (x15_2 + 1)) t592 t593 x613000_1 x613001_1 x613002_1 x622000_1 x622001_1 x622002_1) else (none)) = some r := H
          have A53 := aM A530
          clear A530
          by_cases c54 : x14_2.length < 17592186044416
          ·rw [if_pos c54] at H
           have LMc54 := aM c54
           clear c54
           obtain ⟨y629, hy629⟩ : ∃ y_ : List Int, y_ = (x14_2 ++ [wrap64 (t628 - 2000)]) := ⟨_, rfl⟩
           replace H : (laws_FnFrameBounds.l1 k2 l0 t582 y601 x13_1 y629 (wrap64 (x15_2 + 1)) t592 t593 x613000_1 x613001_1 x613002_1 x622000_1 x622001_1 x622002_1) = some r := by first | (rw [hy629]; with_reducible exact H) | (have H2_ := (Option.bind_some _ _).symm.trans H; rw [hy629]; with_reducible exact H2_) | (have H2_ := (Option.bind_some _ _).symm.trans H; with_reducible exact H2_) | with_reducible exact H | (rw [hy629]; exact H) | exact H
           have Ny629 := aM hy629
           clear hy629
           have H' := aM H
           clear H
           go_wp2_with (first | ((with_reducible refine gate_callee (f := 38) rfl ?_); refine goesL_ (some 70) rfl rfl Try.func38 kr rfl #[.slice A0 l0.length c0, .int .i64 (wrap64 (x15_2 + (wrap64 (x13_1 * 5)))), .int .i64 4001] rfl mq ?_; (with_reducible refine (laws_lwAt.calls _ _ l0 (wrap64 (x15_2 + (wrap64 (x13_1 * 5)))) 4001 t628 _ ?side1 ?side2 A53.out).mono ?_); (case side1 => exact cq (cB HR0.out HB.out)); (case side2 => exact HC0.out); rintro e w' ⟨rfl, ⟨nd, rfl⟩⟩; refine ⟨_, rfl, ?_⟩) | ((with_reducible refine gate_builtin (b := .append) (xs := #[.tmp 64, .tmp 72]) rfl ?_); (try (refine gate_guard (by rfl) ?_; dsimp only)); at_builtin; refine Kd.R_append (Kd.int .i64) (w0 := w) w.heap.size rfl (.tmp 64) (.tmp 72) 22 2 (.int .i64 0) 8 rfl Try.underlying22 info2 rfl (by decide) (by omega) u14 x14_2 (wrap64 (t628 - 2000)) [.int .i64 (wrap64 (t628 - 2000))] (fun k_ => nS Ao18 t593 co18 k_ ∧ nb u613001 k_ ∧ nb u613002 k_ ∧ nb u622001 k_ ∧ nb u622002 k_ ∧ nb u623002 k_ ∧ nb u623003 k_ ∧ nb u623004 k_ ∧ nb u624002 k_ ∧ nb u624003 k_ ∧ nb u624004 k_) (fun _ => False) rfl rfl ?aP (fun _ hk => hk.elim) ?aF ?aO ?aB ?aS ?aL ?_; (case aP => exact rfl); (case aB => exact bq); (case aF => exact (fun k_ hk => ⟨Kd.fresh' (rT (rq HO_597001.out)) k_ hk, Kd.fresh' (rT (rq HO_613001.out)) k_ hk, Kd.fresh' (rT (rq HO_613002.out)) k_ hk, Kd.fresh' (rT (rq HO_622001.out)) k_ hk, Kd.fresh' (rT (rq HO_622002.out)) k_ hk, Kd.fresh' (rT (rq HO_623002.out)) k_ hk, Kd.fresh' (rT (rq HO_623003.out)) k_ hk, Kd.fresh' (rT (rq HO_623004.out)) k_ hk, Kd.fresh' (rT (rq HO_624002.out)) k_ hk, Kd.fresh' (rT (rq HO_624003.out)) k_ hk, Kd.fresh' (rT (rq HO_624004.out)) k_ hk⟩)); (case aO => exact (rq HO_14.out)); (case aS => exact (bZ bq)); (case aL => have := LMc54.out; omega); intro v630 w55 ho hb hg hat; rw [← Ny629.out] at ho; replace HO_8 := aM (Kd.N_afterv (ok := (fun k_ => nS Ao18 t593 co18 k_ ∧ nb u613001 k_ ∧ nb u613002 k_ ∧ nb u622001 k_ ∧ nb u622002 k_ ∧ nb u623002 k_ ∧ nb u623003 k_ ∧ nb u623004 k_ ∧ nb u624002 k_ ∧ nb u624003 k_ ∧ nb u624004 k_ ∧ k_ ≠ gb596 ∧ k_ ≠ gb612 ∧ k_ ≠ gb621 ∧ k_ ≠ gb622 ∧ k_ ≠ gb623)) (nq (Kd.N_mono HO_8.out jq)) hg hat); replace HO_597001 := aM (Kd.R_after (ok := (fun k_ => nb u613001 k_ ∧ nb u613002 k_ ∧ nb u622001 k_ ∧ nb u622002 k_ ∧ nb u623002 k_ ∧ nb u623003 k_ ∧ nb u623004 k_ ∧ nb u624002 k_ ∧ nb u624003 k_ ∧ nb u624004 k_)) (rq (rM HO_597001.out jq)) hg hat); replace HO_613001 := aM (Kd.R_after (ok := (fun k_ => nS Ao18 t593 co18 k_ ∧ nb u613002 k_ ∧ nb u622001 k_ ∧ nb u622002 k_ ∧ nb u623003 k_ ∧ nb u623004 k_ ∧ nb u624002 k_ ∧ nb u624003 k_ ∧ nb u624004 k_)) (rq (rM HO_613001.out jq)) hg hat); replace HO_613002 := aM (Kd.R_after (ok := (fun k_ => nS Ao18 t593 co18 k_ ∧ nb u613001 k_ ∧ nb u622001 k_ ∧ nb u622002 k_ ∧ nb u623002 k_ ∧ nb u623004 k_ ∧ nb u624002 k_ ∧ nb u624003 k_ ∧ nb u624004 k_)) (rq (rM HO_613002.out jq)) hg hat); replace HO_622001 := aM (Kd.R_after (ok := (fun k_ => nS Ao18 t593 co18 k_ ∧ nb u613001 k_ ∧ nb u613002 k_ ∧ nb u622002 k_ ∧ nb u623002 k_ ∧ nb u623003 k_ ∧ nb u623004 k_ ∧ nb u624003 k_ ∧ nb u624004 k_)) (rq (rM HO_622001.out jq)) hg hat); replace HO_622002 := aM (Kd.R_after (ok := (fun k_ => nS Ao18 t593 co18 k_ ∧ nb u613001 k_ ∧ nb u613002 k_ ∧ nb u622001 k_ ∧ nb u623002 k_ ∧ nb u623003 k_ ∧ nb u623004 k_ ∧ nb u624002 k_ ∧ nb u624004 k_)) (rq (rM HO_622002.out jq)) hg hat); replace HO_623002 := aM (Kd.R_after (ok := (fun k_ => nS Ao18 t593 co18 k_ ∧ nb u613002 k_ ∧ nb u622001 k_ ∧ nb u622002 k_ ∧ nb u623003 k_ ∧ nb u623004 k_ ∧ nb u624002 k_ ∧ nb u624003 k_ ∧ nb u624004 k_)) (rq (rM HO_623002.out jq)) hg hat); replace HO_623003 := aM (Kd.R_after (ok := (fun k_ => nS Ao18 t593 co18 k_ ∧ nb u613001 k_ ∧ nb u622001 k_ ∧ nb u622002 k_ ∧ nb u623002 k_ ∧ nb u623004 k_ ∧ nb u624002 k_ ∧ nb u624003 k_ ∧ nb u624004 k_)) (rq (rM HO_623003.out jq)) hg hat); replace HO_623004 := aM (Kd.R_after (ok := (fun k_ => nS Ao18 t593 co18 k_ ∧ nb u613001 k_ ∧ nb u613002 k_ ∧ nb u622001 k_ ∧ nb u622002 k_ ∧ nb u623002 k_ ∧ nb u623003 k_ ∧ nb u624002 k_ ∧ nb u624003 k_ ∧ nb u624004 k_)) (rq (rM HO_623004.out jq)) hg hat); replace HO_624002 := aM (Kd.R_after (ok := (fun k_ => nS Ao18 t593 co18 k_ ∧ nb u613001 k_ ∧ nb u613002 k_ ∧ nb u622002 k_ ∧ nb u623002 k_ ∧ nb u623003 k_ ∧ nb u623004 k_ ∧ nb u624003 k_ ∧ nb u624004 k_)) (rq (rM HO_624002.out jq)) hg hat); replace HO_624003 := aM (Kd.R_after (ok := (fun k_ => nS Ao18 t593 co18 k_ ∧ nb u613001 k_ ∧ nb u613002 k_ ∧ nb u622001 k_ ∧ nb u623002 k_ ∧ nb u623003 k_ ∧ nb u623004 k_ ∧ nb u624002 k_ ∧ nb u624004 k_)) (rq (rM HO_624003.out jq)) hg hat); replace HO_624004 := aM (Kd.R_after (ok := (fun k_ => nS Ao18 t593 co18 k_ ∧ nb u613001 k_ ∧ nb u613002 k_ ∧ nb u622001 k_ ∧ nb u622002 k_ ∧ nb u623002 k_ ∧ nb u623003 k_ ∧ nb u623004 k_ ∧ nb u624002 k_ ∧ nb u624003 k_)) (rq (rM HO_624004.out jq)) hg hat); replace BK596 := aM (blk_grown (kq BK596.out) hg (Kd.R_ne HO_14.out BK596.out (by decide))); replace BK612 := aM (blk_grown (kq BK612.out) hg (Kd.R_ne HO_14.out BK612.out (by decide))); replace BK621 := aM (blk_grown (kq BK621.out) hg (Kd.R_ne HO_14.out BK621.out (by decide))); replace BK622 := aM (blk_grown (kq BK622.out) hg (Kd.R_ne HO_14.out BK622.out (by decide))); replace BK623 := aM (blk_grown (kq BK623.out) hg (Kd.R_ne HO_14.out BK623.out (by decide))); replace HB := aM (hb); have HO631 := aM (ho); clear HO_14 ho hb hg hat))
           go_roundg k2
           case measure => have := HK1.out; have := HK2.out; omega
           case rel => exact ⟨(y629), (wrap64 (x15_2 + 1)), (ex), H', ⟨by have := HK1.out; have := HK2.out; omega⟩, aM (nq (Kd.N_mono HO_8.out jq)), aM (rq HO631.out), aM (rq (rM HO_597001.out jq)), aM (rq (rM HO_613001.out jq)), aM (rq (rM HO_613002.out jq)), aM (rq (rM HO_622001.out jq)), aM (rq (rM HO_622002.out jq)), aM (rq (rM HO_623002.out jq)), aM (rq (rM HO_623003.out jq)), aM (rq (rM HO_623004.out jq)), aM (rq (rM HO_624002.out jq)), aM (rq (rM HO_624003.out jq)), aM (rq (rM HO_624004.out jq)), aM (kq BK596.out), aM (kq BK612.out), aM (kq BK621.out), aM (kq BK622.out), aM (kq BK623.out), ⟨bq⟩⟩
          ·rw [if_neg c54] at H
           exact absurd H (by simp)
         ·rw [if_neg c52] at H
          have c52b0 : decide (x15_2 < t582) = false := decide_eq_false c52
          clear c52
          replace H := Option.bind_eq_some_iff.mp H
          obtain ⟨⟨t632, t633, t634, t637, t640⟩, A560, H⟩ := H
          replace H : (if 0 ≤ x13_1 then (if x13_1 < (y601.length : Int) then ((laws_lwBent.f k2 x14_2 (rd_L1 y601 x13_1) l0 x13_1).bind fun t644 => ((impl_PlayBlock.f k2 x622000_1 x622001_1 x622002_1 t644).bind fun bt647 => (if bt647.1 = 0 then (if t632 = 0 then (laws_FnFrameBounds.l0 k2 l0 t582 y601 (wrap64 (x13_1 + 1)) t592 t593 t633 t634 t637 bt647.2.1 bt647.2.2.1 bt647.2.2.2.1 t632 t633 t634 t637 t640 bt647.1 bt647.2.1 bt647.2.2.1 bt647.2.2.2.1 bt647.2.2.2.2) else (some false)) else (if bt647.1 = 3 then (some (t632 == 0)) else (some false))))) else (none)) else (none)) = some r := H
          have A56 := aM A560
          clear A560
          by_cases c57 : 0 ≤ x13_1
          ·rw [if_pos c57] at H
           have c57b0 : decide (0 ≤ x13_1) = true := decide_eq_true c57
           clear c57
           by_cases c58 : x13_1 < (y601.length : Int)
           ·rw [if_pos c58] at H
            have c58b0 : decide (x13_1 < (y601.length : Int)) = true := decide_eq_true c58
            clear c58
            replace H := Option.bind_eq_some_iff.mp H
            obtain ⟨t644, A590, H⟩ := H
            replace H : ((impl_PlayBlock.f k2 x622000_1 x622001_1 x622002_1 t644).bind fun bt647 => (if bt647.1 = 0 then (if t632 = 0 then (laws_FnFrameBounds.l0 k2 l0 t582 y601 (wrap64 (x13_1 + 1)) t592 t593 t633 t634 t637 bt647.2.1 bt647.2.2.1 bt647.2.2.2.1 t632 t633 t634 t637 t640 bt647.1 bt647.2.1 bt647.2.2.1 bt647.2.2.2.1 bt647.2.2.2.2) else (some false)) else (if bt647.1 = 3 then (some (t632 == 0)) else (some false)))) = some r := H
            have A59 := aM A590
            clear A590
            replace H := Option.bind_eq_some_iff.mp H
            obtain ⟨⟨t647, t648, t649, t652, t655⟩, A600, H⟩ := H
            replace H : (if t647 = 0 then (if t632 = 0 then (laws_FnFrameBounds.l0 k2 l0 t582 y601 (wrap64 (x13_1 + 1)) t592 t593 t633 t634 t637 t648 t649 t652 t632 t633 t634 t637 t640 t647 t648 t649 t652 t655) else (some false)) else (if t647 = 3 then (some (t632 == 0)) else (some false))) = some r := H
            have A60 := aM A600
            clear A600
            by_cases c61 : t647 = 0
            ·rw [if_pos c61] at H
             have c61b0 : (t647 == 0) = true := beq_iff_eq.mpr c61
             have c61b1 : (t647 != 0) = false := bne_eq_false_iff_eq.mpr c61
             clear c61
             by_cases c62 : t632 = 0
             ·rw [if_pos c62] at H
              have c62b0 : (t632 == 0) = true := beq_iff_eq.mpr c62
              have c62b1 : (t632 != 0) = false := bne_eq_false_iff_eq.mpr c62
              clear c62
              have H' := aM H
              clear H
              have hnb63 := NB612_596.out
              have hnc63 := NB596_612.out
              have hnb64 := NB612_621.out
              have hnc64 := NB621_612.out
              have hnb65 := NB612_622.out
              have hnc65 := NB622_612.out
              have hnb66 := NB612_623.out
              have hnc66 := NB623_612.out
              have hcz67_0 : wr.cell? ⟨gb612, 0, none⟩ = some (.int .i64 x613000_1) := (kC BK612.out 0).trans rfl
              have hcz67_1 : wr.cell? ⟨gb612, 1, none⟩ = some (u613001) := (kC BK612.out 1).trans rfl
              have hcz67_2 : wr.cell? ⟨gb612, 2, none⟩ = some (u613002) := (kC BK612.out 2).trans rfl
              have hfz67_0 := kF BK612.out 0
              have hfz67_1 := kF BK612.out 1
              have hfz67_2 := kF BK612.out 2
              obtain ⟨Ao68, co68, eo68⟩ := Kd.R_slice HO_613001.out
              subst eo68
              obtain ⟨Ao69, co69, eo69⟩ := Kd.R_slice HO_613002.out
              subst eo69
              obtain ⟨Ao70, co70, eo70⟩ := Kd.R_slice HO_14.out
              subst eo70
              try go_wp2_with (first | ((with_reducible refine gate_callee (f := 20) rfl ?_); refine goesL_ (some 76) rfl rfl Try.func20 kr rfl #[.agg #[.int .i64 x613000_1, .slice Ao68 x613001_1.length co68, .slice Ao69 x613002_1.length co69], .slice Ao70 x14_2.length co70] rfl mq ?_; (with_reducible refine (impl_PlayBlock.calls k2 x613000_1 _ _ x613001_1 _ _ x613002_1 _ _ x14_2 t632 t633 t634 t637 t640 _ ?side1 ?side2 ?side3 ?side4 ?side5 ?side6 A56.out).mono ?_); (case side1 => exact cq (rR HO_613001.out).2.2); (case side2 => exact (rR HO_613001.out).2.1); (case side3 => exact cq (rR HO_613002.out).2.2); (case side4 => exact (rR HO_613002.out).2.1); (case side5 => exact cq (rR HO_14.out).2.2); (case side6 => exact (rR HO_14.out).2.1); rintro e w71 ⟨v635, v638, v641, rfl, ho0, ho1, ho2, hb⟩; refine ⟨_, rfl, ?_⟩; replace HO_8 := aM (Kd.N_mono (Kd.N_told (Kd.N_told (Kd.N_told (Kd.N_old (nq HO_8.out) hb) (rB ho0)) (rB ho1)) (rB ho2)) (fun _ h_ => h_.1)); have HO636 := aM (rG (rW (rW (rW (rW (rW (rW (rW (rW (rW (rW (rW (rW ho0 (rT (rq HO_14.out))) (rT (rq HO_597001.out))) (rT (rq HO_613001.out))) (rT (rq HO_613002.out))) (rT (rq HO_622001.out))) (rT (rq HO_622002.out))) (rT (rq HO_623002.out))) (rT (rq HO_623003.out))) (rT (rq HO_623004.out))) (rT (rq HO_624002.out))) (rT (rq HO_624003.out))) (rT (rq HO_624004.out))) (bZ bq)); have HO639 := aM (rG (rW (rW (rW (rW (rW (rW (rW (rW (rW (rW (rW (rW ho1 (rT (rq HO_14.out))) (rT (rq HO_597001.out))) (rT (rq HO_613001.out))) (rT (rq HO_613002.out))) (rT (rq HO_622001.out))) (rT (rq HO_622002.out))) (rT (rq HO_623002.out))) (rT (rq HO_623003.out))) (rT (rq HO_623004.out))) (rT (rq HO_624002.out))) (rT (rq HO_624003.out))) (rT (rq HO_624004.out))) (bZ bq)); have HO642 := aM (rG (rW (rW (rW (rW (rW (rW (rW (rW (rW (rW (rW (rW ho2 (rT (rq HO_14.out))) (rT (rq HO_597001.out))) (rT (rq HO_613001.out))) (rT (rq HO_613002.out))) (rT (rq HO_622001.out))) (rT (rq HO_622002.out))) (rT (rq HO_623002.out))) (rT (rq HO_623003.out))) (rT (rq HO_623004.out))) (rT (rq HO_624002.out))) (rT (rq HO_624003.out))) (rT (rq HO_624004.out))) (bZ bq)); replace HO_14 := aM (rM (rO (rO (rO (rE (rq HO_14.out) hb) (rB ho0)) (rB ho1)) (rB ho2)) (fun _ h_ => h_.1)); replace HO_597001 := aM (rM (rO (rO (rO (rE (rq HO_597001.out) hb) (rB ho0)) (rB ho1)) (rB ho2)) (fun _ h_ => h_.1)); replace HO_613001 := aM (rM (rO (rO (rO (rE (rq HO_613001.out) hb) (rB ho0)) (rB ho1)) (rB ho2)) (fun _ h_ => h_.1)); replace HO_613002 := aM (rM (rO (rO (rO (rE (rq HO_613002.out) hb) (rB ho0)) (rB ho1)) (rB ho2)) (fun _ h_ => h_.1)); replace HO_622001 := aM (rM (rO (rO (rO (rE (rq HO_622001.out) hb) (rB ho0)) (rB ho1)) (rB ho2)) (fun _ h_ => h_.1)); replace HO_622002 := aM (rM (rO (rO (rO (rE (rq HO_622002.out) hb) (rB ho0)) (rB ho1)) (rB ho2)) (fun _ h_ => h_.1)); replace HO_623002 := aM (rM (rO (rO (rO (rE (rq HO_623002.out) hb) (rB ho0)) (rB ho1)) (rB ho2)) (fun _ h_ => h_.1)); replace HO_623003 := aM (rM (rO (rO (rO (rE (rq HO_623003.out) hb) (rB ho0)) (rB ho1)) (rB ho2)) (fun _ h_ => h_.1)); replace HO_623004 := aM (rM (rO (rO (rO (rE (rq HO_623004.out) hb) (rB ho0)) (rB ho1)) (rB ho2)) (fun _ h_ => h_.1)); replace HO_624002 := aM (rM (rO (rO (rO (rE (rq HO_624002.out) hb) (rB ho0)) (rB ho1)) (rB ho2)) (fun _ h_ => h_.1)); replace HO_624003 := aM (rM (rO (rO (rO (rE (rq HO_624003.out) hb) (rB ho0)) (rB ho1)) (rB ho2)) (fun _ h_ => h_.1)); replace HO_624004 := aM (rM (rO (rO (rO (rE (rq HO_624004.out) hb) (rB ho0)) (rB ho1)) (rB ho2)) (fun _ h_ => h_.1)); replace BK596 := aM (kB (kq BK596.out) hb); replace BK612 := aM (kB (kq BK612.out) hb); replace BK621 := aM (kB (kq BK621.out) hb); replace BK622 := aM (kB (kq BK622.out) hb); replace BK623 := aM (kB (kq BK623.out) hb); replace HB := aM (bT bq hb); (try clear hb); (try clear ho0); (try clear ho1); (try clear ho2); have hnb72 := NB622_596.out; have hnc72 := NB596_622.out; have hnb73 := NB622_621.out; have hnc73 := NB621_622.out; have hnb74 := NB622_623.out; have hnc74 := NB623_622.out; have hcz75_0 : w71.cell? ⟨gb622, 0, none⟩ = some (.int .i64 x623000_1) := (kC BK622.out 0).trans rfl; have hcz75_1 : w71.cell? ⟨gb622, 1, none⟩ = some (.int .i64 x623001_1) := (kC BK622.out 1).trans rfl; have hcz75_2 : w71.cell? ⟨gb622, 2, none⟩ = some (u623002) := (kC BK622.out 2).trans rfl; have hcz75_3 : w71.cell? ⟨gb622, 3, none⟩ = some (u623003) := (kC BK622.out 3).trans rfl; have hcz75_4 : w71.cell? ⟨gb622, 4, none⟩ = some (u623004) := (kC BK622.out 4).trans rfl; have hfz75_0 := kF BK622.out 0; have hfz75_1 := kF BK622.out 1; have hfz75_2 := kF BK622.out 2; have hfz75_3 := kF BK622.out 3; have hfz75_4 := kF BK622.out 4; obtain ⟨Ao76, co76, eo76⟩ := Kd.R_slice HO636.out; subst eo76; obtain ⟨Ao77, co77, eo77⟩ := Kd.R_slice HO639.out; subst eo77; obtain ⟨Ao78, co78, eo78⟩ := Kd.R_slice HO642.out; subst eo78))
              generalize hgw_ : (((((w71.setCell ⟨gb622, 0, none⟩ (.int .i64 t632)).setCell ⟨gb622, 1, none⟩ (.int .i64 t633)).setCell ⟨gb622, 2, none⟩ (.slice Ao76 t634.length co76)).setCell ⟨gb622, 3, none⟩ (.slice Ao77 t637.length co77)).setCell ⟨gb622, 4, none⟩ (.slice Ao78 t640.length co78)) = w79
              have n0_ : Aside0 (Kd.N (Kd.slice 2 (Kd.int .i64)) 22 w79 w.heap.size (fun k_ => nS Ao70 x14_2 co70 k_ ∧ nS Ao18 t593 co18 k_ ∧ nS Ao68 x613001_1 co68 k_ ∧ nS Ao69 x613002_1 co69 k_ ∧ nb u622001 k_ ∧ nb u622002 k_ ∧ nb u623002 k_ ∧ nb u623003 k_ ∧ nb u623004 k_ ∧ nb u624002 k_ ∧ nb u624003 k_ ∧ nb u624004 k_ ∧ nS Ao76 t634 co76 k_ ∧ nS Ao77 t637 co77 k_ ∧ nS Ao78 t640 co78 k_ ∧ k_ ≠ gb596 ∧ k_ ≠ gb612 ∧ k_ ≠ gb621 ∧ k_ ≠ gb622 ∧ k_ ≠ gb623) v602 y601) := ⟨by rw [← hgw_]; exact Kd.N_mono (Kd.N_far (p := ⟨gb622, 4, none⟩) (Kd.N_far (p := ⟨gb622, 3, none⟩) (Kd.N_far (p := ⟨gb622, 2, none⟩) (Kd.N_far (p := ⟨gb622, 1, none⟩) (Kd.N_far (p := ⟨gb622, 0, none⟩) (Kd.N_mono HO_8.out (fun k_ hk => (⟨hk, hk.1.1.1.2.2.2.2.2.2.2.2.2.2.2.2.2.2.2.1⟩ : _ ∧ k_ ≠ gb622))) (fun _ hk => hk.2) (.int .i64 t632)) (fun _ hk => hk.2) (.int .i64 t633)) (fun _ hk => hk.2) (.slice Ao76 t634.length co76)) (fun _ hk => hk.2) (.slice Ao77 t637.length co77)) (fun _ hk => hk.2) (.slice Ao78 t640.length co78)) jq⟩
              have n1_ : Aside0 (Kd.R (Kd.int .i64) 2 w79 w.heap.size (fun k_ => nS Ao18 t593 co18 k_ ∧ nS Ao68 x613001_1 co68 k_ ∧ nS Ao69 x613002_1 co69 k_ ∧ nb u622001 k_ ∧ nb u622002 k_ ∧ nb u623002 k_ ∧ nb u623003 k_ ∧ nb u623004 k_ ∧ nb u624002 k_ ∧ nb u624003 k_ ∧ nb u624004 k_ ∧ nS Ao76 t634 co76 k_ ∧ nS Ao77 t637 co77 k_ ∧ nS Ao78 t640 co78 k_) (.slice Ao70 x14_2.length co70) x14_2) := ⟨by rw [← hgw_]; exact rM (rf (Kd.R_types HO_14.out BK622.out (by decide))) jq⟩
              have n2_ : Aside0 (Kd.R (Kd.int .i64) 2 w79 w.heap.size (fun k_ => nS Ao70 x14_2 co70 k_ ∧ nS Ao68 x613001_1 co68 k_ ∧ nS Ao69 x613002_1 co69 k_ ∧ nb u622001 k_ ∧ nb u622002 k_ ∧ nb u623002 k_ ∧ nb u623003 k_ ∧ nb u623004 k_ ∧ nb u624002 k_ ∧ nb u624003 k_ ∧ nb u624004 k_ ∧ nS Ao76 t634 co76 k_ ∧ nS Ao77 t637 co77 k_ ∧ nS Ao78 t640 co78 k_) (.slice Ao18 t593.length co18) t593) := ⟨by rw [← hgw_]; exact rM (rf (Kd.R_types HO_597001.out BK622.out (by decide))) jq⟩
              have n3_ : Aside0 (Kd.R (Kd.int .i64) 2 w79 w.heap.size (fun k_ => nS Ao70 x14_2 co70 k_ ∧ nS Ao18 t593 co18 k_ ∧ nS Ao69 x613002_1 co69 k_ ∧ nb u622001 k_ ∧ nb u622002 k_ ∧ nb u623003 k_ ∧ nb u623004 k_ ∧ nb u624002 k_ ∧ nb u624003 k_ ∧ nb u624004 k_ ∧ nS Ao76 t634 co76 k_ ∧ nS Ao77 t637 co77 k_ ∧ nS Ao78 t640 co78 k_) (.slice Ao68 x613001_1.length co68) x613001_1) := ⟨by rw [← hgw_]; exact rM (rf (Kd.R_types HO_613001.out BK622.out (by decide))) jq⟩
              have n4_ : Aside0 (Kd.R (Kd.int .i64) 2 w79 w.heap.size (fun k_ => nS Ao70 x14_2 co70 k_ ∧ nS Ao18 t593 co18 k_ ∧ nS Ao68 x613001_1 co68 k_ ∧ nb u622001 k_ ∧ nb u622002 k_ ∧ nb u623002 k_ ∧ nb u623004 k_ ∧ nb u624002 k_ ∧ nb u624003 k_ ∧ nb u624004 k_ ∧ nS Ao76 t634 co76 k_ ∧ nS Ao77 t637 co77 k_ ∧ nS Ao78 t640 co78 k_) (.slice Ao69 x613002_1.length co69) x613002_1) := ⟨by rw [← hgw_]; exact rM (rf (Kd.R_types HO_613002.out BK622.out (by decide))) jq⟩
              have n5_ : Aside0 (Kd.R (Kd.int .i64) 2 w79 w.heap.size (fun k_ => nS Ao70 x14_2 co70 k_ ∧ nS Ao18 t593 co18 k_ ∧ nS Ao68 x613001_1 co68 k_ ∧ nS Ao69 x613002_1 co69 k_ ∧ nb u622002 k_ ∧ nb u623002 k_ ∧ nb u623003 k_ ∧ nb u623004 k_ ∧ nb u624003 k_ ∧ nb u624004 k_ ∧ nS Ao76 t634 co76 k_ ∧ nS Ao77 t637 co77 k_ ∧ nS Ao78 t640 co78 k_) u622001 x622001_1) := ⟨by rw [← hgw_]; exact rM (rf (Kd.R_types HO_622001.out BK622.out (by decide))) jq⟩
              have n6_ : Aside0 (Kd.R (Kd.int .i64) 2 w79 w.heap.size (fun k_ => nS Ao70 x14_2 co70 k_ ∧ nS Ao18 t593 co18 k_ ∧ nS Ao68 x613001_1 co68 k_ ∧ nS Ao69 x613002_1 co69 k_ ∧ nb u622001 k_ ∧ nb u623002 k_ ∧ nb u623003 k_ ∧ nb u623004 k_ ∧ nb u624002 k_ ∧ nb u624004 k_ ∧ nS Ao76 t634 co76 k_ ∧ nS Ao77 t637 co77 k_ ∧ nS Ao78 t640 co78 k_) u622002 x622002_1) := ⟨by rw [← hgw_]; exact rM (rf (Kd.R_types HO_622002.out BK622.out (by decide))) jq⟩
              have n7_ : Aside0 (Kd.R (Kd.int .i64) 2 w79 w.heap.size (fun k_ => nS Ao70 x14_2 co70 k_ ∧ nS Ao18 t593 co18 k_ ∧ nS Ao69 x613002_1 co69 k_ ∧ nb u622001 k_ ∧ nb u622002 k_ ∧ nb u623003 k_ ∧ nb u623004 k_ ∧ nb u624002 k_ ∧ nb u624003 k_ ∧ nb u624004 k_ ∧ nS Ao76 t634 co76 k_ ∧ nS Ao77 t637 co77 k_ ∧ nS Ao78 t640 co78 k_) u623002 x623002_1) := ⟨by rw [← hgw_]; exact rM (rf (Kd.R_types HO_623002.out BK622.out (by decide))) jq⟩
              have n8_ : Aside0 (Kd.R (Kd.int .i64) 2 w79 w.heap.size (fun k_ => nS Ao70 x14_2 co70 k_ ∧ nS Ao18 t593 co18 k_ ∧ nS Ao68 x613001_1 co68 k_ ∧ nb u622001 k_ ∧ nb u622002 k_ ∧ nb u623002 k_ ∧ nb u623004 k_ ∧ nb u624002 k_ ∧ nb u624003 k_ ∧ nb u624004 k_ ∧ nS Ao76 t634 co76 k_ ∧ nS Ao77 t637 co77 k_ ∧ nS Ao78 t640 co78 k_) u623003 x623003_1) := ⟨by rw [← hgw_]; exact rM (rf (Kd.R_types HO_623003.out BK622.out (by decide))) jq⟩
              have n9_ : Aside0 (Kd.R (Kd.int .i64) 2 w79 w.heap.size (fun k_ => nS Ao70 x14_2 co70 k_ ∧ nS Ao18 t593 co18 k_ ∧ nS Ao68 x613001_1 co68 k_ ∧ nS Ao69 x613002_1 co69 k_ ∧ nb u622001 k_ ∧ nb u622002 k_ ∧ nb u623002 k_ ∧ nb u623003 k_ ∧ nb u624002 k_ ∧ nb u624003 k_ ∧ nb u624004 k_ ∧ nS Ao76 t634 co76 k_ ∧ nS Ao77 t637 co77 k_ ∧ nS Ao78 t640 co78 k_) u623004 x623004_1) := ⟨by rw [← hgw_]; exact rM (rf (Kd.R_types HO_623004.out BK622.out (by decide))) jq⟩
              have n10_ : Aside0 (Kd.R (Kd.int .i64) 2 w79 w.heap.size (fun k_ => nS Ao70 x14_2 co70 k_ ∧ nS Ao18 t593 co18 k_ ∧ nS Ao68 x613001_1 co68 k_ ∧ nS Ao69 x613002_1 co69 k_ ∧ nb u622002 k_ ∧ nb u623002 k_ ∧ nb u623003 k_ ∧ nb u623004 k_ ∧ nb u624003 k_ ∧ nb u624004 k_ ∧ nS Ao76 t634 co76 k_ ∧ nS Ao77 t637 co77 k_ ∧ nS Ao78 t640 co78 k_) u624002 x624002_1) := ⟨by rw [← hgw_]; exact rM (rf (Kd.R_types HO_624002.out BK622.out (by decide))) jq⟩
              have n11_ : Aside0 (Kd.R (Kd.int .i64) 2 w79 w.heap.size (fun k_ => nS Ao70 x14_2 co70 k_ ∧ nS Ao18 t593 co18 k_ ∧ nS Ao68 x613001_1 co68 k_ ∧ nS Ao69 x613002_1 co69 k_ ∧ nb u622001 k_ ∧ nb u623002 k_ ∧ nb u623003 k_ ∧ nb u623004 k_ ∧ nb u624002 k_ ∧ nb u624004 k_ ∧ nS Ao76 t634 co76 k_ ∧ nS Ao77 t637 co77 k_ ∧ nS Ao78 t640 co78 k_) u624003 x624003_1) := ⟨by rw [← hgw_]; exact rM (rf (Kd.R_types HO_624003.out BK622.out (by decide))) jq⟩
              have n12_ : Aside0 (Kd.R (Kd.int .i64) 2 w79 w.heap.size (fun k_ => nS Ao70 x14_2 co70 k_ ∧ nS Ao18 t593 co18 k_ ∧ nS Ao68 x613001_1 co68 k_ ∧ nS Ao69 x613002_1 co69 k_ ∧ nb u622001 k_ ∧ nb u622002 k_ ∧ nb u623002 k_ ∧ nb u623003 k_ ∧ nb u623004 k_ ∧ nb u624002 k_ ∧ nb u624003 k_ ∧ nS Ao76 t634 co76 k_ ∧ nS Ao77 t637 co77 k_ ∧ nS Ao78 t640 co78 k_) u624004 x624004_1) := ⟨by rw [← hgw_]; exact rM (rf (Kd.R_types HO_624004.out BK622.out (by decide))) jq⟩
              have n13_ : Aside0 (Kd.R (Kd.int .i64) 2 w79 w.heap.size (fun k_ => nS Ao70 x14_2 co70 k_ ∧ nS Ao18 t593 co18 k_ ∧ nS Ao68 x613001_1 co68 k_ ∧ nS Ao69 x613002_1 co69 k_ ∧ nb u622001 k_ ∧ nb u622002 k_ ∧ nb u623002 k_ ∧ nb u623003 k_ ∧ nb u623004 k_ ∧ nb u624002 k_ ∧ nb u624003 k_ ∧ nb u624004 k_ ∧ nS Ao77 t637 co77 k_ ∧ nS Ao78 t640 co78 k_) (.slice Ao76 t634.length co76) t634) := ⟨by rw [← hgw_]; exact rM (rf (Kd.R_types HO636.out BK622.out (by decide))) jq⟩
              have n14_ : Aside0 (Kd.R (Kd.int .i64) 2 w79 w.heap.size (fun k_ => nS Ao70 x14_2 co70 k_ ∧ nS Ao18 t593 co18 k_ ∧ nS Ao68 x613001_1 co68 k_ ∧ nS Ao69 x613002_1 co69 k_ ∧ nb u622001 k_ ∧ nb u622002 k_ ∧ nb u623002 k_ ∧ nb u623003 k_ ∧ nb u623004 k_ ∧ nb u624002 k_ ∧ nb u624003 k_ ∧ nb u624004 k_ ∧ nS Ao76 t634 co76 k_ ∧ nS Ao78 t640 co78 k_) (.slice Ao77 t637.length co77) t637) := ⟨by rw [← hgw_]; exact rM (rf (Kd.R_types HO639.out BK622.out (by decide))) jq⟩
              have n15_ : Aside0 (Kd.R (Kd.int .i64) 2 w79 w.heap.size (fun k_ => nS Ao70 x14_2 co70 k_ ∧ nS Ao18 t593 co18 k_ ∧ nS Ao68 x613001_1 co68 k_ ∧ nS Ao69 x613002_1 co69 k_ ∧ nb u622001 k_ ∧ nb u622002 k_ ∧ nb u623002 k_ ∧ nb u623003 k_ ∧ nb u623004 k_ ∧ nb u624002 k_ ∧ nb u624003 k_ ∧ nb u624004 k_ ∧ nS Ao76 t634 co76 k_ ∧ nS Ao77 t637 co77 k_) (.slice Ao78 t640.length co78) t640) := ⟨by rw [← hgw_]; exact rM (rf (Kd.R_types HO642.out BK622.out (by decide))) jq⟩
              have n16_ : Aside0 (w79.heap[gb596]? = some (.cells #[.int .i64 t592, .slice Ao18 t593.length co18] 24 (0, 0))) := ⟨by rw [← hgw_]; exact fq BK596.out⟩
              have n17_ : Aside0 (w79.heap[gb612]? = some (.cells #[.int .i64 x613000_1, .slice Ao68 x613001_1.length co68, .slice Ao69 x613002_1.length co69] 35 (0, 0))) := ⟨by rw [← hgw_]; exact fq BK612.out⟩
              have n18_ : Aside0 (w79.heap[gb621]? = some (.cells #[.int .i64 x622000_1, u622001, u622002] 35 (0, 0))) := ⟨by rw [← hgw_]; exact fq BK621.out⟩
              have n19_ : Aside0 (w79.heap[gb622]? = some (.cells #[.int .i64 t632, .int .i64 t633, .slice Ao76 t634.length co76, .slice Ao77 t637.length co77, .slice Ao78 t640.length co78] 37 (0, 0))) := ⟨by rw [← hgw_]; exact fq BK622.out⟩
              have n20_ : Aside0 (w79.heap[gb623]? = some (.cells #[.int .i64 x624000_1, .int .i64 x624001_1, u624002, u624003, u624004] 37 (0, 0))) := ⟨by rw [← hgw_]; exact fq BK623.out⟩
              have n21_ : Aside0 (Below w.heap.size w w79) := ⟨by rw [← hgw_]; repeat (first | (with_reducible first | exact HB.out | apply bA | apply bN | apply bD | refine bS ?_ GE596.out | refine bS ?_ GE612.out | refine bS ?_ GE621.out | refine bS ?_ GE622.out | refine bS ?_ GE623.out) | exact HB.out)⟩
              (try clear HO_8)
              (try clear HO_14)
              (try clear HO_597001)
              (try clear HO_613001)
              (try clear HO_613002)
              (try clear HO_622001)
              (try clear HO_622002)
              (try clear HO_623002)
              (try clear HO_623003)
              (try clear HO_623004)
              (try clear HO_624002)
              (try clear HO_624003)
              (try clear HO_624004)
              (try clear HO636)
              (try clear HO639)
              (try clear HO642)
              (try clear BK596)
              (try clear BK612)
              (try clear BK621)
              (try clear BK622)
              (try clear BK623)
              (try clear HB)
              clear hgw_
              have HO_8 := n0_
              have HO_14 := n1_
              have HO_597001 := n2_
              have HO_613001 := n3_
              have HO_613002 := n4_
              have HO_622001 := n5_
              have HO_622002 := n6_
              have HO_623002 := n7_
              have HO_623003 := n8_
              have HO_623004 := n9_
              have HO_624002 := n10_
              have HO_624003 := n11_
              have HO_624004 := n12_
              have HO636 := n13_
              have HO639 := n14_
              have HO642 := n15_
              have BK596 := n16_
              have BK612 := n17_
              have BK621 := n18_
              have BK622 := n19_
              have BK623 := n20_
              have HB := n21_
              clear n0_ n1_ n2_ n3_ n4_ n5_ n6_ n7_ n8_ n9_ n10_ n11_ n12_ n13_ n14_ n15_ n16_ n17_ n18_ n19_ n20_ n21_
              replace HO_8 := aM (Kd.N_drew HO_8.out)
              replace HO_14 := aM (rD HO_14.out)
              replace HO_597001 := aM (rD HO_597001.out)
              replace HO_613001 := aM (rD HO_613001.out)
              replace HO_613002 := aM (rD HO_613002.out)
              replace HO_622001 := aM (rD HO_622001.out)
              replace HO_622002 := aM (rD HO_622002.out)
              replace HO_623002 := aM (rD HO_623002.out)
              replace HO_623003 := aM (rD HO_623003.out)
              replace HO_623004 := aM (rD HO_623004.out)
              replace HO_624002 := aM (rD HO_624002.out)
              replace HO_624003 := aM (rD HO_624003.out)
              replace HO_624004 := aM (rD HO_624004.out)
              replace HO636 := aM (rD HO636.out)
              replace HO639 := aM (rD HO639.out)
              replace HO642 := aM (rD HO642.out)
              replace BK596 := aM (kD BK596.out)
              replace BK612 := aM (kD BK612.out)
              replace BK621 := aM (kD BK621.out)
              replace BK622 := aM (kD BK622.out)
              replace BK623 := aM (kD BK623.out)
              replace HB := aM (bD HB.out)
              obtain ⟨Ao81, co81, eo81⟩ := Kd.N_slice HO_8.out
              (first | subst eo81 | (injection eo81 with f1_ f2_ f3_; have f4_ := f1_.symm; have f5_ := f3_.symm; clear f1_ f2_ f3_; subst f4_; subst f5_))
              have p643 : 0 ≤ (x13_1 : Int) := of_decide_eq_true (by first | (with_reducible assumption) | assumption)
              have q643 : x13_1 < (y601.length : Int) := of_decide_eq_true (by first | (with_reducible assumption) | assumption)
              obtain ⟨ad643, A643_0, c643_0, e643, hx643_0, hl643_0, hi643_0⟩ := at_L1 (Kd.N_reads' HO_8.out).2.2 x13_1 p643 q643
              cases e643
              obtain ⟨ce643, hce643, hMe643, hcc643⟩ := Kd.N_get HO_8.out [] x13_1 p643 (by first | exact q643 | exact of_decide_eq_true (by first | (with_reducible assumption) | assumption) | (have e_ := (Kd.N_reads' HO_8.out).1; omega))
              obtain ⟨ua643_0, uc643_0, rfl, ul643_0, ge643_0⟩ := Kd.FK_slice_open hMe643
              have hv643_0 := hcc643 0 _ rfl
              rw [Nat.add_zero, show ((Kd.slice 2 (Kd.int .i64))).sz = 1 from rfl, Nat.mul_one] at hv643_0
              replace hv643_0 := Option.some.inj (hv643_0.symm.trans hx643_0)
              injection hv643_0 with hva_ hvn_ hvc_
              rw [hva_] at ge643_0
              rw [hvc_] at ul643_0
              have HL643_0 := aM (show Kd.V (Kd.int .i64) 2 _ w.heap.size _ _ (rd_L1 y601 x13_1) from Kd.V_mk ul643_0 ge643_0)
              clear hva_ hvn_ hvc_ ge643_0 ul643_0 hcc643 hce643
              have HR643_0 := aM hi643_0
              have HC643_0 := aM hl643_0
              clear hi643_0 hl643_0
              replace p643 := eq_true p643
              replace q643 := eq_true q643
              refine start_ (n := 11) (S := fun w' => w'.cell? ⟨gb621, 0, none⟩ = some (.int .i64 x622000_1) ∧ w'.cell? ⟨gb621, 1, none⟩ = some (u622001) ∧ w'.cell? ⟨gb621, 2, none⟩ = some (u622002) ∧ w'.cell? (ad643.add (x13_1).toNat) = some (.slice A643_0 (rd_L1 y601 x13_1).length c643_0)) (ds := []) #[N,N,N,N,N,N,N,N,N,N,N] kr rfl rfl ⟨(kC BK621.out 0).trans rfl, (kC BK621.out 1).trans rfl, (kC BK621.out 2).trans rfl, hx643_0⟩ (fun hHeld => ?_); refine with_tabW laws_FnFrameBounds.tab23 laws_FnFrameBounds.bits23 (fun HT_ HW_ => ?_)
              generalize w79.drew = w80 at HO_8 HO_14 HO_597001 HO_613001 HO_613002 HO_622001 HO_622002 HO_623002 HO_623003 HO_623004 HO_624002 HO_624003 HO_624004 HO636 HO639 HO642 BK596 BK612 BK621 BK622 BK623 HB HL643_0 HR643_0 hx643_0 hHeld ⊢
              refine pp HT_ (N := some 78) 1 #[N,Y,N,N,N,N,N,N,N,N,N] ?_
              refine pp HT_ (N := some 79) 2 #[N,Y,Y,N,N,N,N,N,N,N,N] ?_
              refine pp HT_ (N := some 80) 3 #[N,Y,Y,Y,N,N,N,N,N,N,N] ?_
              refine pp HT_ (N := some 81) 4 #[N,Y,Y,Y,Y,N,N,N,N,N,N] ?_
              refine pp HT_ (N := some 83) 6 #[N,Y,Y,Y,Y,N,Y,N,N,N,N] ?_
              refine pp HT_ (N := some 84) 7 #[N,Y,Y,Y,Y,N,Y,Y,N,N,N] ?_
              refine take_ (i := 0) (N := some 77) (v := ?_) (a' := ?_) #[Y,Y,Y,Y,Y,N,Y,Y,N,N,N] rfl rfl (take_ofW HT_.out HW_.out kr) (fun _ _ _ h => h) (Or.inl ⟨by rfl, ?_⟩) hHeld ?_ ?_
              rotate_left
              ·rintro w' ⟨s0, s1, s2, s3⟩
               go_simp
               with_reducible rfl
              rotate_left
              ·simp only [Act.put, pa, pb, pc, i64_w, i32_w]
               rfl
              refine take_ (i := 5) (N := some 82) (v := ?_) (a' := ?_) #[Y,Y,Y,Y,Y,Y,Y,Y,N,N,N] rfl rfl (take_ofW HT_.out HW_.out kr) (fun _ _ _ h => h) (Or.inl ⟨by rfl, ?_⟩) hHeld ?_ ?_
              rotate_left
              ·rintro w' ⟨s0, s1, s2, s3⟩
               go_simp
               with_reducible rfl
              rotate_left
              ·simp only [Act.put, pa, pb, pc, i64_w, i32_w]
               rfl
              refine one_ (i := 8) (N := some 85) #[Y,Y,Y,Y,Y,Y,Y,Y,Y,N,N] rfl rfl (one_of HT_.out kr) (by decide) (fun K hK => ?_)
              refine goes_ Try.func39 kr rfl #[.slice Ao70 x14_2.length co70, .slice A643_0 (rd_L1 y601 x13_1).length c643_0, .slice A0 l0.length c0, .int .i64 x13_1] (by rfl) rfl rfl mq ?_
              with_reducible refine (laws_lwBent.calls k2 _ _ x14_2 _ _ (rd_L1 y601 x13_1) _ _ l0 x13_1 t644 _ ?side1 ?side2 ?side3 ?side4 ?side5 ?side6 A59.out).mono ?_
              (case side1 => exact cq (rR HO_14.out).2.2)
              (case side2 => exact (rR HO_14.out).2.1)
              (case side3 => repeat (first | exact (by repeat (first | (with_reducible exact HR643_0.out) | (with_reducible refine cA ?_ _) | (with_reducible refine cN ?_ _) | (with_reducible refine cD ?_) | exact HR643_0.out)) | (with_reducible refine cA ?_ _) | (with_reducible refine cN ?_ _) | (with_reducible refine cD ?_)))
              (case side4 => exact HC643_0.out)
              (case side5 => exact cq (cB HR0.out HB.out))
              (case side6 => exact HC0.out)
              rintro e w82 ⟨v645, rfl, ho0, hb⟩
              have HS3_ := (hb.cell (World.block_lt_of_cell? _ _ (hHeld.2.2.2))).trans (hHeld.2.2.2)
              refine ⟨_, rfl, ?_⟩
              replace HO_8 := aM (Kd.N_elder' (nq HO_8.out) (rB ho0) hb)
              replace HL643_0 := aM (Kd.V_elder' (vq HL643_0.out) (rB ho0) hb)
              have HO646 := aM (rG (rW (rW (rW (rW (rW (rW (rW (rW (rW (rW (rW (rW (rW (rW (rW ho0 (rT (rq HO_14.out))) (rT (rq HO_597001.out))) (rT (rq HO_613001.out))) (rT (rq HO_613002.out))) (rT (rq HO_622001.out))) (rT (rq HO_622002.out))) (rT (rq HO_623002.out))) (rT (rq HO_623003.out))) (rT (rq HO_623004.out))) (rT (rq HO_624002.out))) (rT (rq HO_624003.out))) (rT (rq HO_624004.out))) (rT (rq HO636.out))) (rT (rq HO639.out))) (rT (rq HO642.out))) (bZ bq))
              replace HO_14 := aM (rH (rq HO_14.out) (rB ho0) hb)
              replace HO_597001 := aM (rH (rq HO_597001.out) (rB ho0) hb)
              replace HO_613001 := aM (rH (rq HO_613001.out) (rB ho0) hb)
              replace HO_613002 := aM (rH (rq HO_613002.out) (rB ho0) hb)
              replace HO_622001 := aM (rH (rq HO_622001.out) (rB ho0) hb)
              replace HO_622002 := aM (rH (rq HO_622002.out) (rB ho0) hb)
              replace HO_623002 := aM (rH (rq HO_623002.out) (rB ho0) hb)
              replace HO_623003 := aM (rH (rq HO_623003.out) (rB ho0) hb)
              replace HO_623004 := aM (rH (rq HO_623004.out) (rB ho0) hb)
              replace HO_624002 := aM (rH (rq HO_624002.out) (rB ho0) hb)
              replace HO_624003 := aM (rH (rq HO_624003.out) (rB ho0) hb)
              replace HO_624004 := aM (rH (rq HO_624004.out) (rB ho0) hb)
              replace HO636 := aM (rH (rq HO636.out) (rB ho0) hb)
              replace HO639 := aM (rH (rq HO639.out) (rB ho0) hb)
              replace HO642 := aM (rH (rq HO642.out) (rB ho0) hb)
              replace BK596 := aM (kB (kq BK596.out) hb)
              replace BK612 := aM (kB (kq BK612.out) hb)
              replace BK621 := aM (kB (kq BK621.out) hb)
              replace BK622 := aM (kB (kq BK622.out) hb)
              replace BK623 := aM (kB (kq BK623.out) hb)
              replace HR643_0 := aM (cB (by repeat (first | (with_reducible exact HR643_0.out) | (with_reducible refine cA ?_ _) | (with_reducible refine cN ?_ _) | (with_reducible refine cD ?_) | exact HR643_0.out)) hb)
              replace HB := aM (bT bq hb)
              (try clear hb)
              (try clear hb2)
              (try clear hk)
              (try clear hi)
              (try clear ho0)
              obtain ⟨Ao83, co83, eo83⟩ := Kd.R_slice HO_622001.out
              (first | subst eo83 | (injection eo83 with f1_ f2_ f3_; have f4_ := f1_.symm; have f5_ := f3_.symm; clear f1_ f2_ f3_; subst f4_; subst f5_))
              obtain ⟨Ao84, co84, eo84⟩ := Kd.R_slice HO_622002.out
              (first | subst eo84 | (injection eo84 with f1_ f2_ f3_; have f4_ := f1_.symm; have f5_ := f3_.symm; clear f1_ f2_ f3_; subst f4_; subst f5_))
              obtain ⟨Ao85, co85, eo85⟩ := Kd.R_slice HO646.out
              (first | subst eo85 | (injection eo85 with f1_ f2_ f3_; have f4_ := f1_.symm; have f5_ := f3_.symm; clear f1_ f2_ f3_; subst f4_; subst f5_))
              refine hK.out _ _ ⟨(kC BK621.out 0).trans rfl, (kC BK621.out 1).trans rfl, (kC BK621.out 2).trans rfl, HS3_⟩ (fun hHeld => ?_)
              clear hK K
              refine norm_ (a' := ?_) ?_ ?_
              rotate_left
              ·show Act.put _ (some 85) _ = _
               simp only [Act.put, pa, pb, pc, i64_w, i32_w]
               rfl
              refine one_ (i := 9) (N := some 86) #[Y,Y,Y,Y,Y,Y,Y,Y,Y,Y,N] rfl rfl (one_of HT_.out kr) (by decide) (fun K hK => ?_)
              refine goes_ Try.func20 kr rfl #[.agg #[.int .i64 x622000_1, .slice Ao83 x622001_1.length co83, .slice Ao84 x622002_1.length co84], .slice Ao85 t644.length co85] (by rfl) rfl rfl mq ?_
              with_reducible refine (impl_PlayBlock.calls k2 x622000_1 _ _ x622001_1 _ _ x622002_1 _ _ t644 t647 t648 t649 t652 t655 _ ?side1 ?side2 ?side3 ?side4 ?side5 ?side6 A60.out).mono ?_
              (case side1 => exact cq (rR HO_622001.out).2.2)
              (case side2 => exact (rR HO_622001.out).2.1)
              (case side3 => exact cq (rR HO_622002.out).2.2)
              (case side4 => exact (rR HO_622002.out).2.1)
              (case side5 => exact cq (rR HO646.out).2.2)
              (case side6 => exact (rR HO646.out).2.1)
              rintro e w86 ⟨v650, v653, v656, rfl, ho0, ho1, ho2, hb⟩
              have HS3_ := (hb.cell (World.block_lt_of_cell? _ _ (hHeld.2.2.2))).trans (hHeld.2.2.2)
              refine ⟨_, rfl, ?_⟩
              replace HO_8 := aM (Kd.N_mono (Kd.N_told (Kd.N_told (Kd.N_told (Kd.N_old (nq HO_8.out) hb) (rB ho0)) (rB ho1)) (rB ho2)) (fun _ h_ => h_.1))
              replace HL643_0 := aM (Kd.V_mono (Kd.V_told (Kd.V_told (Kd.V_told (Kd.V_old (vq HL643_0.out) hb) (rB ho0)) (rB ho1)) (rB ho2)) (fun _ h_ => h_.1))
              have HO651 := aM (rG (rW (rW (rW (rW (rW (rW (rW (rW (rW (rW (rW (rW (rW (rW (rW (rW ho0 (rT (rq HO_14.out))) (rT (rq HO_597001.out))) (rT (rq HO_613001.out))) (rT (rq HO_613002.out))) (rT (rq HO_622001.out))) (rT (rq HO_622002.out))) (rT (rq HO_623002.out))) (rT (rq HO_623003.out))) (rT (rq HO_623004.out))) (rT (rq HO_624002.out))) (rT (rq HO_624003.out))) (rT (rq HO_624004.out))) (rT (rq HO636.out))) (rT (rq HO639.out))) (rT (rq HO642.out))) (rT (rq HO646.out))) (bZ bq))
              have HO654 := aM (rG (rW (rW (rW (rW (rW (rW (rW (rW (rW (rW (rW (rW (rW (rW (rW (rW ho1 (rT (rq HO_14.out))) (rT (rq HO_597001.out))) (rT (rq HO_613001.out))) (rT (rq HO_613002.out))) (rT (rq HO_622001.out))) (rT (rq HO_622002.out))) (rT (rq HO_623002.out))) (rT (rq HO_623003.out))) (rT (rq HO_623004.out))) (rT (rq HO_624002.out))) (rT (rq HO_624003.out))) (rT (rq HO_624004.out))) (rT (rq HO636.out))) (rT (rq HO639.out))) (rT (rq HO642.out))) (rT (rq HO646.out))) (bZ bq))
              have HO657 := aM (rG (rW (rW (rW (rW (rW (rW (rW (rW (rW (rW (rW (rW (rW (rW (rW (rW ho2 (rT (rq HO_14.out))) (rT (rq HO_597001.out))) (rT (rq HO_613001.out))) (rT (rq HO_613002.out))) (rT (rq HO_622001.out))) (rT (rq HO_622002.out))) (rT (rq HO_623002.out))) (rT (rq HO_623003.out))) (rT (rq HO_623004.out))) (rT (rq HO_624002.out))) (rT (rq HO_624003.out))) (rT (rq HO_624004.out))) (rT (rq HO636.out))) (rT (rq HO639.out))) (rT (rq HO642.out))) (rT (rq HO646.out))) (bZ bq))
              replace HO_14 := aM (rM (rO (rO (rO (rE (rq HO_14.out) hb) (rB ho0)) (rB ho1)) (rB ho2)) (fun _ h_ => h_.1))
              replace HO_597001 := aM (rM (rO (rO (rO (rE (rq HO_597001.out) hb) (rB ho0)) (rB ho1)) (rB ho2)) (fun _ h_ => h_.1))
              replace HO_613001 := aM (rM (rO (rO (rO (rE (rq HO_613001.out) hb) (rB ho0)) (rB ho1)) (rB ho2)) (fun _ h_ => h_.1))
              replace HO_613002 := aM (rM (rO (rO (rO (rE (rq HO_613002.out) hb) (rB ho0)) (rB ho1)) (rB ho2)) (fun _ h_ => h_.1))
              replace HO_622001 := aM (rM (rO (rO (rO (rE (rq HO_622001.out) hb) (rB ho0)) (rB ho1)) (rB ho2)) (fun _ h_ => h_.1))
              replace HO_622002 := aM (rM (rO (rO (rO (rE (rq HO_622002.out) hb) (rB ho0)) (rB ho1)) (rB ho2)) (fun _ h_ => h_.1))
              replace HO_623002 := aM (rM (rO (rO (rO (rE (rq HO_623002.out) hb) (rB ho0)) (rB ho1)) (rB ho2)) (fun _ h_ => h_.1))
              replace HO_623003 := aM (rM (rO (rO (rO (rE (rq HO_623003.out) hb) (rB ho0)) (rB ho1)) (rB ho2)) (fun _ h_ => h_.1))
              replace HO_623004 := aM (rM (rO (rO (rO (rE (rq HO_623004.out) hb) (rB ho0)) (rB ho1)) (rB ho2)) (fun _ h_ => h_.1))
              replace HO_624002 := aM (rM (rO (rO (rO (rE (rq HO_624002.out) hb) (rB ho0)) (rB ho1)) (rB ho2)) (fun _ h_ => h_.1))
              replace HO_624003 := aM (rM (rO (rO (rO (rE (rq HO_624003.out) hb) (rB ho0)) (rB ho1)) (rB ho2)) (fun _ h_ => h_.1))
              replace HO_624004 := aM (rM (rO (rO (rO (rE (rq HO_624004.out) hb) (rB ho0)) (rB ho1)) (rB ho2)) (fun _ h_ => h_.1))
              replace HO636 := aM (rM (rO (rO (rO (rE (rq HO636.out) hb) (rB ho0)) (rB ho1)) (rB ho2)) (fun _ h_ => h_.1))
              replace HO639 := aM (rM (rO (rO (rO (rE (rq HO639.out) hb) (rB ho0)) (rB ho1)) (rB ho2)) (fun _ h_ => h_.1))
              replace HO642 := aM (rM (rO (rO (rO (rE (rq HO642.out) hb) (rB ho0)) (rB ho1)) (rB ho2)) (fun _ h_ => h_.1))
              replace HO646 := aM (rM (rO (rO (rO (rE (rq HO646.out) hb) (rB ho0)) (rB ho1)) (rB ho2)) (fun _ h_ => h_.1))
              replace BK596 := aM (kB (kq BK596.out) hb)
              replace BK612 := aM (kB (kq BK612.out) hb)
              replace BK621 := aM (kB (kq BK621.out) hb)
              replace BK622 := aM (kB (kq BK622.out) hb)
              replace BK623 := aM (kB (kq BK623.out) hb)
              replace HR643_0 := aM (cB (by repeat (first | (with_reducible exact HR643_0.out) | (with_reducible refine cA ?_ _) | (with_reducible refine cN ?_ _) | (with_reducible refine cD ?_) | exact HR643_0.out)) hb)
              replace HB := aM (bT bq hb)
              (try clear hb)
              (try clear hb2)
              (try clear hk)
              (try clear hi)
              (try clear ho0)
              (try clear ho1)
              (try clear ho2)
              obtain ⟨Ao89, co89, eo89⟩ := Kd.R_slice HO651.out
              (first | subst eo89 | (injection eo89 with f1_ f2_ f3_; have f4_ := f1_.symm; have f5_ := f3_.symm; clear f1_ f2_ f3_; subst f4_; subst f5_))
              obtain ⟨Ao91, co91, eo91⟩ := Kd.R_slice HO654.out
              (first | subst eo91 | (injection eo91 with f1_ f2_ f3_; have f4_ := f1_.symm; have f5_ := f3_.symm; clear f1_ f2_ f3_; subst f4_; subst f5_))
              obtain ⟨Ao93, co93, eo93⟩ := Kd.R_slice HO657.out
              (first | subst eo93 | (injection eo93 with f1_ f2_ f3_; have f4_ := f1_.symm; have f5_ := f3_.symm; clear f1_ f2_ f3_; subst f4_; subst f5_))
              refine hK.out _ _ ⟨(kC BK621.out 0).trans rfl, (kC BK621.out 1).trans rfl, (kC BK621.out 2).trans rfl, HS3_⟩ (fun hHeld => ?_)
              clear hK K
              refine norm_ (a' := ?_) ?_ ?_
              rotate_left
              ·show Act.put _ (some 86) _ = _
               simp only [Act.put, pa, pb, pc, i64_w, i32_w]
               rfl
              refine one_ (i := 10) (N := none) #[Y,Y,Y,Y,Y,Y,Y,Y,Y,Y,Y] rfl rfl (one_of HT_.out kr) (by decide) (fun K hK => ?_)
              have hs87 : w86.cell? ⟨gb623, 0, none⟩ = some (.int .i64 x624000_1) := (kC BK623.out 0).trans rfl
              have hfs87 := kF BK623.out 0
              have hns87_0 := NB596_623.out
              have hns87_1 := NB612_623.out
              have hns87_2 := NB621_623.out
              have hns87_3 := NB622_623.out
              have hms87_0 := NB623_596.out
              have hms87_1 := NB623_612.out
              have hms87_2 := NB623_621.out
              have hms87_3 := NB623_622.out
              have hs88 : w86.cell? ⟨gb623, 1, none⟩ = some (.int .i64 x624001_1) := (kC BK623.out 1).trans rfl
              have hfs88 := kF BK623.out 1
              have hns88_0 := NB596_623.out
              have hns88_1 := NB612_623.out
              have hns88_2 := NB621_623.out
              have hns88_3 := NB622_623.out
              have hms88_0 := NB623_596.out
              have hms88_1 := NB623_612.out
              have hms88_2 := NB623_621.out
              have hms88_3 := NB623_622.out
              have hs90 : w86.cell? ⟨gb623, 2, none⟩ = some (u624002) := (kC BK623.out 2).trans rfl
              have hfs90 := kF BK623.out 2
              have hns90_0 := NB596_623.out
              have hns90_1 := NB612_623.out
              have hns90_2 := NB621_623.out
              have hns90_3 := NB622_623.out
              have hms90_0 := NB623_596.out
              have hms90_1 := NB623_612.out
              have hms90_2 := NB623_621.out
              have hms90_3 := NB623_622.out
              have hs92 : w86.cell? ⟨gb623, 3, none⟩ = some (u624003) := (kC BK623.out 3).trans rfl
              have hfs92 := kF BK623.out 3
              have hns92_0 := NB596_623.out
              have hns92_1 := NB612_623.out
              have hns92_2 := NB621_623.out
              have hns92_3 := NB622_623.out
              have hms92_0 := NB623_596.out
              have hms92_1 := NB623_612.out
              have hms92_2 := NB623_621.out
              have hms92_3 := NB623_622.out
              have hs94 : w86.cell? ⟨gb623, 4, none⟩ = some (u624004) := (kC BK623.out 4).trans rfl
              have hfs94 := kF BK623.out 4
              have hns94_0 := NB596_623.out
              have hns94_1 := NB612_623.out
              have hns94_2 := NB621_623.out
              have hns94_3 := NB622_623.out
              have hms94_0 := NB623_596.out
              have hms94_1 := NB623_612.out
              have hms94_2 := NB623_621.out
              have hms94_3 := NB623_622.out
              refine skip_ (w1 := ?_) (by rfl) rfl ?_ ?_
              rotate_left
              ·go_simp
               rfl
              refine hK.out _ _ ⟨((cell_far (p := ⟨gb623, _, none⟩) NB621_623.out _).trans (((cell_far (p := ⟨gb623, _, none⟩) NB621_623.out _).trans (((cell_far (p := ⟨gb623, _, none⟩) NB621_623.out _).trans (((cell_far (p := ⟨gb623, _, none⟩) NB621_623.out _).trans (((cell_far (p := ⟨gb623, _, none⟩) NB621_623.out _).trans (hHeld.1)))))))))), ((cell_far (p := ⟨gb623, _, none⟩) NB621_623.out _).trans (((cell_far (p := ⟨gb623, _, none⟩) NB621_623.out _).trans (((cell_far (p := ⟨gb623, _, none⟩) NB621_623.out _).trans (((cell_far (p := ⟨gb623, _, none⟩) NB621_623.out _).trans (((cell_far (p := ⟨gb623, _, none⟩) NB621_623.out _).trans (hHeld.2.1)))))))))), ((cell_far (p := ⟨gb623, _, none⟩) NB621_623.out _).trans (((cell_far (p := ⟨gb623, _, none⟩) NB621_623.out _).trans (((cell_far (p := ⟨gb623, _, none⟩) NB621_623.out _).trans (((cell_far (p := ⟨gb623, _, none⟩) NB621_623.out _).trans (((cell_far (p := ⟨gb623, _, none⟩) NB621_623.out _).trans (hHeld.2.2.1)))))))))), ((cell_far (p := ⟨gb623, _, none⟩) (by first | exact (Kd.own_blk (Kd.N_away HO_8.out (fun _ hk => hk.1.1.1.1.2.2.2.2.2.2.2.2.2.2.2.2.2.2.2.2.2.2.2)) :) | (rw [add_block]; exact (Kd.own_blk (Kd.N_away HO_8.out (fun _ hk => hk.1.1.1.1.2.2.2.2.2.2.2.2.2.2.2.2.2.2.2.2.2.2.2)) :)) | (show (Addr.add _ _).block ≠ _; rw [add_block]; exact (Kd.own_blk (Kd.N_away HO_8.out (fun _ hk => hk.1.1.1.1.2.2.2.2.2.2.2.2.2.2.2.2.2.2.2.2.2.2.2)) :)) | (dsimp only; exact (Kd.own_blk (Kd.N_away HO_8.out (fun _ hk => hk.1.1.1.1.2.2.2.2.2.2.2.2.2.2.2.2.2.2.2.2.2.2.2)) :))) _).trans (((cell_far (p := ⟨gb623, _, none⟩) (by first | exact (Kd.own_blk (Kd.N_away HO_8.out (fun _ hk => hk.1.1.1.1.2.2.2.2.2.2.2.2.2.2.2.2.2.2.2.2.2.2.2)) :) | (rw [add_block]; exact (Kd.own_blk (Kd.N_away HO_8.out (fun _ hk => hk.1.1.1.1.2.2.2.2.2.2.2.2.2.2.2.2.2.2.2.2.2.2.2)) :)) | (show (Addr.add _ _).block ≠ _; rw [add_block]; exact (Kd.own_blk (Kd.N_away HO_8.out (fun _ hk => hk.1.1.1.1.2.2.2.2.2.2.2.2.2.2.2.2.2.2.2.2.2.2.2)) :)) | (dsimp only; exact (Kd.own_blk (Kd.N_away HO_8.out (fun _ hk => hk.1.1.1.1.2.2.2.2.2.2.2.2.2.2.2.2.2.2.2.2.2.2.2)) :))) _).trans (((cell_far (p := ⟨gb623, _, none⟩) (by first | exact (Kd.own_blk (Kd.N_away HO_8.out (fun _ hk => hk.1.1.1.1.2.2.2.2.2.2.2.2.2.2.2.2.2.2.2.2.2.2.2)) :) | (rw [add_block]; exact (Kd.own_blk (Kd.N_away HO_8.out (fun _ hk => hk.1.1.1.1.2.2.2.2.2.2.2.2.2.2.2.2.2.2.2.2.2.2.2)) :)) | (show (Addr.add _ _).block ≠ _; rw [add_block]; exact (Kd.own_blk (Kd.N_away HO_8.out (fun _ hk => hk.1.1.1.1.2.2.2.2.2.2.2.2.2.2.2.2.2.2.2.2.2.2.2)) :)) | (dsimp only; exact (Kd.own_blk (Kd.N_away HO_8.out (fun _ hk => hk.1.1.1.1.2.2.2.2.2.2.2.2.2.2.2.2.2.2.2.2.2.2.2)) :))) _).trans (((cell_far (p := ⟨gb623, _, none⟩) (by first | exact (Kd.own_blk (Kd.N_away HO_8.out (fun _ hk => hk.1.1.1.1.2.2.2.2.2.2.2.2.2.2.2.2.2.2.2.2.2.2.2)) :) | (rw [add_block]; exact (Kd.own_blk (Kd.N_away HO_8.out (fun _ hk => hk.1.1.1.1.2.2.2.2.2.2.2.2.2.2.2.2.2.2.2.2.2.2.2)) :)) | (show (Addr.add _ _).block ≠ _; rw [add_block]; exact (Kd.own_blk (Kd.N_away HO_8.out (fun _ hk => hk.1.1.1.1.2.2.2.2.2.2.2.2.2.2.2.2.2.2.2.2.2.2.2)) :)) | (dsimp only; exact (Kd.own_blk (Kd.N_away HO_8.out (fun _ hk => hk.1.1.1.1.2.2.2.2.2.2.2.2.2.2.2.2.2.2.2.2.2.2.2)) :))) _).trans (((cell_far (p := ⟨gb623, _, none⟩) (by first | exact (Kd.own_blk (Kd.N_away HO_8.out (fun _ hk => hk.1.1.1.1.2.2.2.2.2.2.2.2.2.2.2.2.2.2.2.2.2.2.2)) :) | (rw [add_block]; exact (Kd.own_blk (Kd.N_away HO_8.out (fun _ hk => hk.1.1.1.1.2.2.2.2.2.2.2.2.2.2.2.2.2.2.2.2.2.2.2)) :)) | (show (Addr.add _ _).block ≠ _; rw [add_block]; exact (Kd.own_blk (Kd.N_away HO_8.out (fun _ hk => hk.1.1.1.1.2.2.2.2.2.2.2.2.2.2.2.2.2.2.2.2.2.2.2)) :)) | (dsimp only; exact (Kd.own_blk (Kd.N_away HO_8.out (fun _ hk => hk.1.1.1.1.2.2.2.2.2.2.2.2.2.2.2.2.2.2.2.2.2.2.2)) :))) _).trans (hHeld.2.2.2))))))))))⟩ (fun hHeld => ?_)
              clear hK K
              refine done_ (done_of HT_.out kr) ?_
              have hnb95 := NB623_596.out
              have hnc95 := NB596_623.out
              have hnb96 := NB623_621.out
              have hnc96 := NB621_623.out
              have hcz97_0 : w86.cell? ⟨gb623, 0, none⟩ = some (.int .i64 x624000_1) := (kC BK623.out 0).trans rfl
              have hcz97_1 : w86.cell? ⟨gb623, 1, none⟩ = some (.int .i64 x624001_1) := (kC BK623.out 1).trans rfl
              have hcz97_2 : w86.cell? ⟨gb623, 2, none⟩ = some (u624002) := (kC BK623.out 2).trans rfl
              have hcz97_3 : w86.cell? ⟨gb623, 3, none⟩ = some (u624003) := (kC BK623.out 3).trans rfl
              have hcz97_4 : w86.cell? ⟨gb623, 4, none⟩ = some (u624004) := (kC BK623.out 4).trans rfl
              have hfz97_0 := kF BK623.out 0
              have hfz97_1 := kF BK623.out 1
              have hfz97_2 := kF BK623.out 2
              have hfz97_3 := kF BK623.out 3
              have hfz97_4 := kF BK623.out 4
              have hcz98_0 : w86.cell? ⟨gb622, 0, none⟩ = some (.int .i64 t632) := (kC BK622.out 0).trans rfl
              have hcz98_1 : w86.cell? ⟨gb622, 1, none⟩ = some (.int .i64 t633) := (kC BK622.out 1).trans rfl
              have hcz98_2 : w86.cell? ⟨gb622, 2, none⟩ = some (.slice Ao76 t634.length co76) := (kC BK622.out 2).trans rfl
              have hcz98_3 : w86.cell? ⟨gb622, 3, none⟩ = some (.slice Ao77 t637.length co77) := (kC BK622.out 3).trans rfl
              have hcz98_4 : w86.cell? ⟨gb622, 4, none⟩ = some (.slice Ao78 t640.length co78) := (kC BK622.out 4).trans rfl
              have hfz98_0 := kF BK622.out 0
              have hfz98_1 := kF BK622.out 1
              have hfz98_2 := kF BK622.out 2
              have hfz98_3 := kF BK622.out 3
              have hfz98_4 := kF BK622.out 4
              have hcz99_0 : w86.cell? ⟨gb612, 0, none⟩ = some (.int .i64 x613000_1) := (kC BK612.out 0).trans rfl
              have hcz99_1 : w86.cell? ⟨gb612, 1, none⟩ = some (.slice Ao68 x613001_1.length co68) := (kC BK612.out 1).trans rfl
              have hcz99_2 : w86.cell? ⟨gb612, 2, none⟩ = some (.slice Ao69 x613002_1.length co69) := (kC BK612.out 2).trans rfl
              have hfz99_0 := kF BK612.out 0
              have hfz99_1 := kF BK612.out 1
              have hfz99_2 := kF BK612.out 2
              have hnb100 := NB621_596.out
              have hnc100 := NB596_621.out
              have hcz101_0 : w86.cell? ⟨gb621, 0, none⟩ = some (.int .i64 x622000_1) := (kC BK621.out 0).trans rfl
              have hcz101_1 : w86.cell? ⟨gb621, 1, none⟩ = some (.slice Ao83 x622001_1.length co83) := (kC BK621.out 1).trans rfl
              have hcz101_2 : w86.cell? ⟨gb621, 2, none⟩ = some (.slice Ao84 x622002_1.length co84) := (kC BK621.out 2).trans rfl
              have hfz101_0 := kF BK621.out 0
              have hfz101_1 := kF BK621.out 1
              have hfz101_2 := kF BK621.out 2
              try go_wp2
              go_roundg k2
              case measure => have := HK1.out; have := HK2.out; omega
              case rel => exact ⟨(wrap64 (x13_1 + 1)), (t633), (t634), (t637), (t648), (t649), (t652), (t632), (t633), (t634), (t637), (t640), (t647), (t648), (t649), (t652), (t655), (.slice Ao76 t634.length co76), (.slice Ao77 t637.length co77), (.slice Ao89 t649.length co89), (.slice Ao91 t652.length co91), (.slice Ao76 t634.length co76), (.slice Ao77 t637.length co77), (.slice Ao78 t640.length co78), (.slice Ao89 t649.length co89), (.slice Ao91 t652.length co91), (.slice Ao93 t655.length co93), (by first | rfl | (simp; done) | (simp [*]; done)), H', ⟨by have := HK1.out; have := HK2.out; omega⟩, aM (nq (Kd.N_mono (Kd.N_far (p := ⟨gb621, 2, none⟩) (Kd.N_far (p := ⟨gb621, 1, none⟩) (Kd.N_far (p := ⟨gb621, 0, none⟩) (Kd.N_far (p := ⟨gb612, 2, none⟩) (Kd.N_far (p := ⟨gb612, 1, none⟩) (Kd.N_far (p := ⟨gb612, 0, none⟩) (Kd.N_far (p := ⟨gb623, 4, none⟩) (Kd.N_far (p := ⟨gb623, 3, none⟩) (Kd.N_far (p := ⟨gb623, 2, none⟩) (Kd.N_far (p := ⟨gb623, 1, none⟩) (Kd.N_far (p := ⟨gb623, 0, none⟩) (Kd.N_mono (Kd.N_mono (Kd.N_mono HO_8.out (fun k_ hk => (⟨hk, hk.1.1.1.1.2.2.2.2.2.2.2.2.2.2.2.2.2.2.2.2.2.2.2⟩ : _ ∧ k_ ≠ gb623))) (fun k_ hk => (⟨hk, hk.1.1.1.1.1.2.2.2.2.2.2.2.2.2.2.2.2.2.2.2.2.1⟩ : _ ∧ k_ ≠ gb612))) (fun k_ hk => (⟨hk, hk.1.1.1.1.1.1.2.2.2.2.2.2.2.2.2.2.2.2.2.2.2.2.2.1⟩ : _ ∧ k_ ≠ gb621))) (fun _ hk => hk.1.1.2) (.int .i64 t647)) (fun _ hk => hk.1.1.2) (.int .i64 t648)) (fun _ hk => hk.1.1.2) (.slice Ao89 t649.length co89)) (fun _ hk => hk.1.1.2) (.slice Ao91 t652.length co91)) (fun _ hk => hk.1.1.2) (.slice Ao93 t655.length co93)) (fun _ hk => hk.1.2) (.int .i64 t633)) (fun _ hk => hk.1.2) (.slice Ao76 t634.length co76)) (fun _ hk => hk.1.2) (.slice Ao77 t637.length co77)) (fun _ hk => hk.2) (.int .i64 t648)) (fun _ hk => hk.2) (.slice Ao89 t649.length co89)) (fun _ hk => hk.2) (.slice Ao91 t652.length co91)) jq)), aM (rq (rM (rF (p := ⟨gb621, 2, none⟩) (rF (p := ⟨gb621, 1, none⟩) (rF (p := ⟨gb621, 0, none⟩) (rF (p := ⟨gb612, 2, none⟩) (rF (p := ⟨gb612, 1, none⟩) (rF (p := ⟨gb612, 0, none⟩) (rF (p := ⟨gb623, 4, none⟩) (rF (p := ⟨gb623, 3, none⟩) (rF (p := ⟨gb623, 2, none⟩) (rF (p := ⟨gb623, 1, none⟩) (rF (p := ⟨gb623, 0, none⟩) (Kd.R_types (Kd.R_types (Kd.R_types HO_597001.out BK623.out (by decide)) BK612.out (by decide)) BK621.out (by decide)) (fun _ hk => hk.1.1.2) (.int .i64 t647)) (fun _ hk => hk.1.1.2) (.int .i64 t648)) (fun _ hk => hk.1.1.2) (.slice Ao89 t649.length co89)) (fun _ hk => hk.1.1.2) (.slice Ao91 t652.length co91)) (fun _ hk => hk.1.1.2) (.slice Ao93 t655.length co93)) (fun _ hk => hk.1.2) (.int .i64 t633)) (fun _ hk => hk.1.2) (.slice Ao76 t634.length co76)) (fun _ hk => hk.1.2) (.slice Ao77 t637.length co77)) (fun _ hk => hk.2) (.int .i64 t648)) (fun _ hk => hk.2) (.slice Ao89 t649.length co89)) (fun _ hk => hk.2) (.slice Ao91 t652.length co91)) jq)), aM (rq (rM (rF (p := ⟨gb621, 2, none⟩) (rF (p := ⟨gb621, 1, none⟩) (rF (p := ⟨gb621, 0, none⟩) (rF (p := ⟨gb612, 2, none⟩) (rF (p := ⟨gb612, 1, none⟩) (rF (p := ⟨gb612, 0, none⟩) (rF (p := ⟨gb623, 4, none⟩) (rF (p := ⟨gb623, 3, none⟩) (rF (p := ⟨gb623, 2, none⟩) (rF (p := ⟨gb623, 1, none⟩) (rF (p := ⟨gb623, 0, none⟩) (Kd.R_types (Kd.R_types (Kd.R_types HO636.out BK623.out (by decide)) BK612.out (by decide)) BK621.out (by decide)) (fun _ hk => hk.1.1.2) (.int .i64 t647)) (fun _ hk => hk.1.1.2) (.int .i64 t648)) (fun _ hk => hk.1.1.2) (.slice Ao89 t649.length co89)) (fun _ hk => hk.1.1.2) (.slice Ao91 t652.length co91)) (fun _ hk => hk.1.1.2) (.slice Ao93 t655.length co93)) (fun _ hk => hk.1.2) (.int .i64 t633)) (fun _ hk => hk.1.2) (.slice Ao76 t634.length co76)) (fun _ hk => hk.1.2) (.slice Ao77 t637.length co77)) (fun _ hk => hk.2) (.int .i64 t648)) (fun _ hk => hk.2) (.slice Ao89 t649.length co89)) (fun _ hk => hk.2) (.slice Ao91 t652.length co91)) jq)), aM (rq (rM (rF (p := ⟨gb621, 2, none⟩) (rF (p := ⟨gb621, 1, none⟩) (rF (p := ⟨gb621, 0, none⟩) (rF (p := ⟨gb612, 2, none⟩) (rF (p := ⟨gb612, 1, none⟩) (rF (p := ⟨gb612, 0, none⟩) (rF (p := ⟨gb623, 4, none⟩) (rF (p := ⟨gb623, 3, none⟩) (rF (p := ⟨gb623, 2, none⟩) (rF (p := ⟨gb623, 1, none⟩) (rF (p := ⟨gb623, 0, none⟩) (Kd.R_types (Kd.R_types (Kd.R_types HO639.out BK623.out (by decide)) BK612.out (by decide)) BK621.out (by decide)) (fun _ hk => hk.1.1.2) (.int .i64 t647)) (fun _ hk => hk.1.1.2) (.int .i64 t648)) (fun _ hk => hk.1.1.2) (.slice Ao89 t649.length co89)) (fun _ hk => hk.1.1.2) (.slice Ao91 t652.length co91)) (fun _ hk => hk.1.1.2) (.slice Ao93 t655.length co93)) (fun _ hk => hk.1.2) (.int .i64 t633)) (fun _ hk => hk.1.2) (.slice Ao76 t634.length co76)) (fun _ hk => hk.1.2) (.slice Ao77 t637.length co77)) (fun _ hk => hk.2) (.int .i64 t648)) (fun _ hk => hk.2) (.slice Ao89 t649.length co89)) (fun _ hk => hk.2) (.slice Ao91 t652.length co91)) jq)), aM (rq (rM (rF (p := ⟨gb621, 2, none⟩) (rF (p := ⟨gb621, 1, none⟩) (rF (p := ⟨gb621, 0, none⟩) (rF (p := ⟨gb612, 2, none⟩) (rF (p := ⟨gb612, 1, none⟩) (rF (p := ⟨gb612, 0, none⟩) (rF (p := ⟨gb623, 4, none⟩) (rF (p := ⟨gb623, 3, none⟩) (rF (p := ⟨gb623, 2, none⟩) (rF (p := ⟨gb623, 1, none⟩) (rF (p := ⟨gb623, 0, none⟩) (Kd.R_types (Kd.R_types (Kd.R_types HO651.out BK623.out (by decide)) BK612.out (by decide)) BK621.out (by decide)) (fun _ hk => hk.1.1.2) (.int .i64 t647)) (fun _ hk => hk.1.1.2) (.int .i64 t648)) (fun _ hk => hk.1.1.2) (.slice Ao89 t649.length co89)) (fun _ hk => hk.1.1.2) (.slice Ao91 t652.length co91)) (fun _ hk => hk.1.1.2) (.slice Ao93 t655.length co93)) (fun _ hk => hk.1.2) (.int .i64 t633)) (fun _ hk => hk.1.2) (.slice Ao76 t634.length co76)) (fun _ hk => hk.1.2) (.slice Ao77 t637.length co77)) (fun _ hk => hk.2) (.int .i64 t648)) (fun _ hk => hk.2) (.slice Ao89 t649.length co89)) (fun _ hk => hk.2) (.slice Ao91 t652.length co91)) jq)), aM (rq (rM (rF (p := ⟨gb621, 2, none⟩) (rF (p := ⟨gb621, 1, none⟩) (rF (p := ⟨gb621, 0, none⟩) (rF (p := ⟨gb612, 2, none⟩) (rF (p := ⟨gb612, 1, none⟩) (rF (p := ⟨gb612, 0, none⟩) (rF (p := ⟨gb623, 4, none⟩) (rF (p := ⟨gb623, 3, none⟩) (rF (p := ⟨gb623, 2, none⟩) (rF (p := ⟨gb623, 1, none⟩) (rF (p := ⟨gb623, 0, none⟩) (Kd.R_types (Kd.R_types (Kd.R_types HO654.out BK623.out (by decide)) BK612.out (by decide)) BK621.out (by decide)) (fun _ hk => hk.1.1.2) (.int .i64 t647)) (fun _ hk => hk.1.1.2) (.int .i64 t648)) (fun _ hk => hk.1.1.2) (.slice Ao89 t649.length co89)) (fun _ hk => hk.1.1.2) (.slice Ao91 t652.length co91)) (fun _ hk => hk.1.1.2) (.slice Ao93 t655.length co93)) (fun _ hk => hk.1.2) (.int .i64 t633)) (fun _ hk => hk.1.2) (.slice Ao76 t634.length co76)) (fun _ hk => hk.1.2) (.slice Ao77 t637.length co77)) (fun _ hk => hk.2) (.int .i64 t648)) (fun _ hk => hk.2) (.slice Ao89 t649.length co89)) (fun _ hk => hk.2) (.slice Ao91 t652.length co91)) jq)), aM (rq (rM (rF (p := ⟨gb621, 2, none⟩) (rF (p := ⟨gb621, 1, none⟩) (rF (p := ⟨gb621, 0, none⟩) (rF (p := ⟨gb612, 2, none⟩) (rF (p := ⟨gb612, 1, none⟩) (rF (p := ⟨gb612, 0, none⟩) (rF (p := ⟨gb623, 4, none⟩) (rF (p := ⟨gb623, 3, none⟩) (rF (p := ⟨gb623, 2, none⟩) (rF (p := ⟨gb623, 1, none⟩) (rF (p := ⟨gb623, 0, none⟩) (Kd.R_types (Kd.R_types (Kd.R_types HO636.out BK623.out (by decide)) BK612.out (by decide)) BK621.out (by decide)) (fun _ hk => hk.1.1.2) (.int .i64 t647)) (fun _ hk => hk.1.1.2) (.int .i64 t648)) (fun _ hk => hk.1.1.2) (.slice Ao89 t649.length co89)) (fun _ hk => hk.1.1.2) (.slice Ao91 t652.length co91)) (fun _ hk => hk.1.1.2) (.slice Ao93 t655.length co93)) (fun _ hk => hk.1.2) (.int .i64 t633)) (fun _ hk => hk.1.2) (.slice Ao76 t634.length co76)) (fun _ hk => hk.1.2) (.slice Ao77 t637.length co77)) (fun _ hk => hk.2) (.int .i64 t648)) (fun _ hk => hk.2) (.slice Ao89 t649.length co89)) (fun _ hk => hk.2) (.slice Ao91 t652.length co91)) jq)), aM (rq (rM (rF (p := ⟨gb621, 2, none⟩) (rF (p := ⟨gb621, 1, none⟩) (rF (p := ⟨gb621, 0, none⟩) (rF (p := ⟨gb612, 2, none⟩) (rF (p := ⟨gb612, 1, none⟩) (rF (p := ⟨gb612, 0, none⟩) (rF (p := ⟨gb623, 4, none⟩) (rF (p := ⟨gb623, 3, none⟩) (rF (p := ⟨gb623, 2, none⟩) (rF (p := ⟨gb623, 1, none⟩) (rF (p := ⟨gb623, 0, none⟩) (Kd.R_types (Kd.R_types (Kd.R_types HO639.out BK623.out (by decide)) BK612.out (by decide)) BK621.out (by decide)) (fun _ hk => hk.1.1.2) (.int .i64 t647)) (fun _ hk => hk.1.1.2) (.int .i64 t648)) (fun _ hk => hk.1.1.2) (.slice Ao89 t649.length co89)) (fun _ hk => hk.1.1.2) (.slice Ao91 t652.length co91)) (fun _ hk => hk.1.1.2) (.slice Ao93 t655.length co93)) (fun _ hk => hk.1.2) (.int .i64 t633)) (fun _ hk => hk.1.2) (.slice Ao76 t634.length co76)) (fun _ hk => hk.1.2) (.slice Ao77 t637.length co77)) (fun _ hk => hk.2) (.int .i64 t648)) (fun _ hk => hk.2) (.slice Ao89 t649.length co89)) (fun _ hk => hk.2) (.slice Ao91 t652.length co91)) jq)), aM (rq (rM (rF (p := ⟨gb621, 2, none⟩) (rF (p := ⟨gb621, 1, none⟩) (rF (p := ⟨gb621, 0, none⟩) (rF (p := ⟨gb612, 2, none⟩) (rF (p := ⟨gb612, 1, none⟩) (rF (p := ⟨gb612, 0, none⟩) (rF (p := ⟨gb623, 4, none⟩) (rF (p := ⟨gb623, 3, none⟩) (rF (p := ⟨gb623, 2, none⟩) (rF (p := ⟨gb623, 1, none⟩) (rF (p := ⟨gb623, 0, none⟩) (Kd.R_types (Kd.R_types (Kd.R_types HO642.out BK623.out (by decide)) BK612.out (by decide)) BK621.out (by decide)) (fun _ hk => hk.1.1.2) (.int .i64 t647)) (fun _ hk => hk.1.1.2) (.int .i64 t648)) (fun _ hk => hk.1.1.2) (.slice Ao89 t649.length co89)) (fun _ hk => hk.1.1.2) (.slice Ao91 t652.length co91)) (fun _ hk => hk.1.1.2) (.slice Ao93 t655.length co93)) (fun _ hk => hk.1.2) (.int .i64 t633)) (fun _ hk => hk.1.2) (.slice Ao76 t634.length co76)) (fun _ hk => hk.1.2) (.slice Ao77 t637.length co77)) (fun _ hk => hk.2) (.int .i64 t648)) (fun _ hk => hk.2) (.slice Ao89 t649.length co89)) (fun _ hk => hk.2) (.slice Ao91 t652.length co91)) jq)), aM (rq (rM (rF (p := ⟨gb621, 2, none⟩) (rF (p := ⟨gb621, 1, none⟩) (rF (p := ⟨gb621, 0, none⟩) (rF (p := ⟨gb612, 2, none⟩) (rF (p := ⟨gb612, 1, none⟩) (rF (p := ⟨gb612, 0, none⟩) (rF (p := ⟨gb623, 4, none⟩) (rF (p := ⟨gb623, 3, none⟩) (rF (p := ⟨gb623, 2, none⟩) (rF (p := ⟨gb623, 1, none⟩) (rF (p := ⟨gb623, 0, none⟩) (Kd.R_types (Kd.R_types (Kd.R_types HO651.out BK623.out (by decide)) BK612.out (by decide)) BK621.out (by decide)) (fun _ hk => hk.1.1.2) (.int .i64 t647)) (fun _ hk => hk.1.1.2) (.int .i64 t648)) (fun _ hk => hk.1.1.2) (.slice Ao89 t649.length co89)) (fun _ hk => hk.1.1.2) (.slice Ao91 t652.length co91)) (fun _ hk => hk.1.1.2) (.slice Ao93 t655.length co93)) (fun _ hk => hk.1.2) (.int .i64 t633)) (fun _ hk => hk.1.2) (.slice Ao76 t634.length co76)) (fun _ hk => hk.1.2) (.slice Ao77 t637.length co77)) (fun _ hk => hk.2) (.int .i64 t648)) (fun _ hk => hk.2) (.slice Ao89 t649.length co89)) (fun _ hk => hk.2) (.slice Ao91 t652.length co91)) jq)), aM (rq (rM (rF (p := ⟨gb621, 2, none⟩) (rF (p := ⟨gb621, 1, none⟩) (rF (p := ⟨gb621, 0, none⟩) (rF (p := ⟨gb612, 2, none⟩) (rF (p := ⟨gb612, 1, none⟩) (rF (p := ⟨gb612, 0, none⟩) (rF (p := ⟨gb623, 4, none⟩) (rF (p := ⟨gb623, 3, none⟩) (rF (p := ⟨gb623, 2, none⟩) (rF (p := ⟨gb623, 1, none⟩) (rF (p := ⟨gb623, 0, none⟩) (Kd.R_types (Kd.R_types (Kd.R_types HO654.out BK623.out (by decide)) BK612.out (by decide)) BK621.out (by decide)) (fun _ hk => hk.1.1.2) (.int .i64 t647)) (fun _ hk => hk.1.1.2) (.int .i64 t648)) (fun _ hk => hk.1.1.2) (.slice Ao89 t649.length co89)) (fun _ hk => hk.1.1.2) (.slice Ao91 t652.length co91)) (fun _ hk => hk.1.1.2) (.slice Ao93 t655.length co93)) (fun _ hk => hk.1.2) (.int .i64 t633)) (fun _ hk => hk.1.2) (.slice Ao76 t634.length co76)) (fun _ hk => hk.1.2) (.slice Ao77 t637.length co77)) (fun _ hk => hk.2) (.int .i64 t648)) (fun _ hk => hk.2) (.slice Ao89 t649.length co89)) (fun _ hk => hk.2) (.slice Ao91 t652.length co91)) jq)), aM (rq (rM (rF (p := ⟨gb621, 2, none⟩) (rF (p := ⟨gb621, 1, none⟩) (rF (p := ⟨gb621, 0, none⟩) (rF (p := ⟨gb612, 2, none⟩) (rF (p := ⟨gb612, 1, none⟩) (rF (p := ⟨gb612, 0, none⟩) (rF (p := ⟨gb623, 4, none⟩) (rF (p := ⟨gb623, 3, none⟩) (rF (p := ⟨gb623, 2, none⟩) (rF (p := ⟨gb623, 1, none⟩) (rF (p := ⟨gb623, 0, none⟩) (Kd.R_types (Kd.R_types (Kd.R_types HO657.out BK623.out (by decide)) BK612.out (by decide)) BK621.out (by decide)) (fun _ hk => hk.1.1.2) (.int .i64 t647)) (fun _ hk => hk.1.1.2) (.int .i64 t648)) (fun _ hk => hk.1.1.2) (.slice Ao89 t649.length co89)) (fun _ hk => hk.1.1.2) (.slice Ao91 t652.length co91)) (fun _ hk => hk.1.1.2) (.slice Ao93 t655.length co93)) (fun _ hk => hk.1.2) (.int .i64 t633)) (fun _ hk => hk.1.2) (.slice Ao76 t634.length co76)) (fun _ hk => hk.1.2) (.slice Ao77 t637.length co77)) (fun _ hk => hk.2) (.int .i64 t648)) (fun _ hk => hk.2) (.slice Ao89 t649.length co89)) (fun _ hk => hk.2) (.slice Ao91 t652.length co91)) jq)), ⟨by (with_reducible repeat (first | refine kN ?_ _ | refine kD ?_ | refine kA ?_ _)); refine blk_far ?_ NB596_621.out _; (with_reducible repeat (first | refine kN ?_ _ | refine kD ?_ | refine kA ?_ _)); refine blk_far ?_ NB596_621.out _; (with_reducible repeat (first | refine kN ?_ _ | refine kD ?_ | refine kA ?_ _)); refine blk_far ?_ NB596_621.out _; (with_reducible repeat (first | refine kN ?_ _ | refine kD ?_ | refine kA ?_ _)); refine blk_far ?_ NB596_612.out _; (with_reducible repeat (first | refine kN ?_ _ | refine kD ?_ | refine kA ?_ _)); refine blk_far ?_ NB596_612.out _; (with_reducible repeat (first | refine kN ?_ _ | refine kD ?_ | refine kA ?_ _)); refine blk_far ?_ NB596_612.out _; (with_reducible repeat (first | refine kN ?_ _ | refine kD ?_ | refine kA ?_ _)); refine blk_far ?_ NB596_623.out _; (with_reducible repeat (first | refine kN ?_ _ | refine kD ?_ | refine kA ?_ _)); refine blk_far ?_ NB596_623.out _; (with_reducible repeat (first | refine kN ?_ _ | refine kD ?_ | refine kA ?_ _)); refine blk_far ?_ NB596_623.out _; (with_reducible repeat (first | refine kN ?_ _ | refine kD ?_ | refine kA ?_ _)); refine blk_far ?_ NB596_623.out _; (with_reducible repeat (first | refine kN ?_ _ | refine kD ?_ | refine kA ?_ _)); refine blk_far ?_ NB596_623.out _; (with_reducible repeat (first | refine kN ?_ _ | refine kD ?_ | refine kA ?_ _)); exact BK596.out⟩, ⟨by (with_reducible repeat (first | refine kN ?_ _ | refine kD ?_ | refine kA ?_ _)); refine blk_far ?_ NB612_621.out _; (with_reducible repeat (first | refine kN ?_ _ | refine kD ?_ | refine kA ?_ _)); refine blk_far ?_ NB612_621.out _; (with_reducible repeat (first | refine kN ?_ _ | refine kD ?_ | refine kA ?_ _)); refine blk_far ?_ NB612_621.out _; (with_reducible repeat (first | refine kN ?_ _ | refine kD ?_ | refine kA ?_ _)); refine blk_put (cs := #[.int .i64 t633, .slice Ao76 t634.length co76, .slice Ao69 x613002_1.length co69]) ?_ 2 _ rfl; (with_reducible repeat (first | refine kN ?_ _ | refine kD ?_ | refine kA ?_ _)); refine blk_put (cs := #[.int .i64 t633, .slice Ao68 x613001_1.length co68, .slice Ao69 x613002_1.length co69]) ?_ 1 _ rfl; (with_reducible repeat (first | refine kN ?_ _ | refine kD ?_ | refine kA ?_ _)); refine blk_put (cs := #[.int .i64 x613000_1, .slice Ao68 x613001_1.length co68, .slice Ao69 x613002_1.length co69]) ?_ 0 _ rfl; (with_reducible repeat (first | refine kN ?_ _ | refine kD ?_ | refine kA ?_ _)); refine blk_far ?_ NB612_623.out _; (with_reducible repeat (first | refine kN ?_ _ | refine kD ?_ | refine kA ?_ _)); refine blk_far ?_ NB612_623.out _; (with_reducible repeat (first | refine kN ?_ _ | refine kD ?_ | refine kA ?_ _)); refine blk_far ?_ NB612_623.out _; (with_reducible repeat (first | refine kN ?_ _ | refine kD ?_ | refine kA ?_ _)); refine blk_far ?_ NB612_623.out _; (with_reducible repeat (first | refine kN ?_ _ | refine kD ?_ | refine kA ?_ _)); refine blk_far ?_ NB612_623.out _; (with_reducible repeat (first | refine kN ?_ _ | refine kD ?_ | refine kA ?_ _)); exact BK612.out⟩, ⟨by (with_reducible repeat (first | refine kN ?_ _ | refine kD ?_ | refine kA ?_ _)); refine blk_put (cs := #[.int .i64 t648, .slice Ao89 t649.length co89, .slice Ao84 x622002_1.length co84]) ?_ 2 _ rfl; (with_reducible repeat (first | refine kN ?_ _ | refine kD ?_ | refine kA ?_ _)); refine blk_put (cs := #[.int .i64 t648, .slice Ao83 x622001_1.length co83, .slice Ao84 x622002_1.length co84]) ?_ 1 _ rfl; (with_reducible repeat (first | refine kN ?_ _ | refine kD ?_ | refine kA ?_ _)); refine blk_put (cs := #[.int .i64 x622000_1, .slice Ao83 x622001_1.length co83, .slice Ao84 x622002_1.length co84]) ?_ 0 _ rfl; (with_reducible repeat (first | refine kN ?_ _ | refine kD ?_ | refine kA ?_ _)); refine blk_far ?_ NB621_612.out _; (with_reducible repeat (first | refine kN ?_ _ | refine kD ?_ | refine kA ?_ _)); refine blk_far ?_ NB621_612.out _; (with_reducible repeat (first | refine kN ?_ _ | refine kD ?_ | refine kA ?_ _)); refine blk_far ?_ NB621_612.out _; (with_reducible repeat (first | refine kN ?_ _ | refine kD ?_ | refine kA ?_ _)); refine blk_far ?_ NB621_623.out _; (with_reducible repeat (first | refine kN ?_ _ | refine kD ?_ | refine kA ?_ _)); refine blk_far ?_ NB621_623.out _; (with_reducible repeat (first | refine kN ?_ _ | refine kD ?_ | refine kA ?_ _)); refine blk_far ?_ NB621_623.out _; (with_reducible repeat (first | refine kN ?_ _ | refine kD ?_ | refine kA ?_ _)); refine blk_far ?_ NB621_623.out _; (with_reducible repeat (first | refine kN ?_ _ | refine kD ?_ | refine kA ?_ _)); refine blk_far ?_ NB621_623.out _; (with_reducible repeat (first | refine kN ?_ _ | refine kD ?_ | refine kA ?_ _)); exact BK621.out⟩, ⟨by (with_reducible repeat (first | refine kN ?_ _ | refine kD ?_ | refine kA ?_ _)); refine blk_far ?_ NB622_621.out _; (with_reducible repeat (first | refine kN ?_ _ | refine kD ?_ | refine kA ?_ _)); refine blk_far ?_ NB622_621.out _; (with_reducible repeat (first | refine kN ?_ _ | refine kD ?_ | refine kA ?_ _)); refine blk_far ?_ NB622_621.out _; (with_reducible repeat (first | refine kN ?_ _ | refine kD ?_ | refine kA ?_ _)); refine blk_far ?_ NB622_612.out _; (with_reducible repeat (first | refine kN ?_ _ | refine kD ?_ | refine kA ?_ _)); refine blk_far ?_ NB622_612.out _; (with_reducible repeat (first | refine kN ?_ _ | refine kD ?_ | refine kA ?_ _)); refine blk_far ?_ NB622_612.out _; (with_reducible repeat (first | refine kN ?_ _ | refine kD ?_ | refine kA ?_ _)); refine blk_far ?_ NB622_623.out _; (with_reducible repeat (first | refine kN ?_ _ | refine kD ?_ | refine kA ?_ _)); refine blk_far ?_ NB622_623.out _; (with_reducible repeat (first | refine kN ?_ _ | refine kD ?_ | refine kA ?_ _)); refine blk_far ?_ NB622_623.out _; (with_reducible repeat (first | refine kN ?_ _ | refine kD ?_ | refine kA ?_ _)); refine blk_far ?_ NB622_623.out _; (with_reducible repeat (first | refine kN ?_ _ | refine kD ?_ | refine kA ?_ _)); refine blk_far ?_ NB622_623.out _; (with_reducible repeat (first | refine kN ?_ _ | refine kD ?_ | refine kA ?_ _)); exact BK622.out⟩, ⟨by (with_reducible repeat (first | refine kN ?_ _ | refine kD ?_ | refine kA ?_ _)); refine blk_far ?_ NB623_621.out _; (with_reducible repeat (first | refine kN ?_ _ | refine kD ?_ | refine kA ?_ _)); refine blk_far ?_ NB623_621.out _; (with_reducible repeat (first | refine kN ?_ _ | refine kD ?_ | refine kA ?_ _)); refine blk_far ?_ NB623_621.out _; (with_reducible repeat (first | refine kN ?_ _ | refine kD ?_ | refine kA ?_ _)); refine blk_far ?_ NB623_612.out _; (with_reducible repeat (first | refine kN ?_ _ | refine kD ?_ | refine kA ?_ _)); refine blk_far ?_ NB623_612.out _; (with_reducible repeat (first | refine kN ?_ _ | refine kD ?_ | refine kA ?_ _)); refine blk_far ?_ NB623_612.out _; (with_reducible repeat (first | refine kN ?_ _ | refine kD ?_ | refine kA ?_ _)); refine blk_put (cs := #[.int .i64 t647, .int .i64 t648, .slice Ao89 t649.length co89, .slice Ao91 t652.length co91, u624004]) ?_ 4 _ rfl; (with_reducible repeat (first | refine kN ?_ _ | refine kD ?_ | refine kA ?_ _)); refine blk_put (cs := #[.int .i64 t647, .int .i64 t648, .slice Ao89 t649.length co89, u624003, u624004]) ?_ 3 _ rfl; (with_reducible repeat (first | refine kN ?_ _ | refine kD ?_ | refine kA ?_ _)); refine blk_put (cs := #[.int .i64 t647, .int .i64 t648, u624002, u624003, u624004]) ?_ 2 _ rfl; (with_reducible repeat (first | refine kN ?_ _ | refine kD ?_ | refine kA ?_ _)); refine blk_put (cs := #[.int .i64 t647, .int .i64 x624001_1, u624002, u624003, u624004]) ?_ 1 _ rfl; (with_reducible repeat (first | refine kN ?_ _ | refine kD ?_ | refine kA ?_ _)); refine blk_put (cs := #[.int .i64 x624000_1, .int .i64 x624001_1, u624002, u624003, u624004]) ?_ 0 _ rfl; (with_reducible repeat (first | refine kN ?_ _ | refine kD ?_ | refine kA ?_ _)); exact BK623.out⟩, ⟨bq⟩⟩
             ·rw [if_neg c62] at H
              have c62b0 : (t632 == 0) = false := beq_eq_false_iff_ne.mpr c62
              have c62b1 : (t632 != 0) = true := bne_iff_ne.mpr c62
              exact absurd (H.trans (congrArg some HLAW.out)) (by simp)
            ·rw [if_neg c61] at H
             have c61b0 : (t647 == 0) = false := beq_eq_false_iff_ne.mpr c61
             have c61b1 : (t647 != 0) = true := bne_iff_ne.mpr c61
             by_cases c102 : t647 = 3
             ·rw [if_pos c102] at H
              have c102b0 : (t647 == 3) = true := beq_iff_eq.mpr c102
              have c102b1 : (t647 != 3) = false := bne_eq_false_iff_eq.mpr c102
              clear c102
              obtain rfl := Option.some.inj H
              have hnb103 := NB612_596.out
              have hnc103 := NB596_612.out
              have hnb104 := NB612_621.out
              have hnc104 := NB621_612.out
              have hnb105 := NB612_622.out
              have hnc105 := NB622_612.out
              have hnb106 := NB612_623.out
              have hnc106 := NB623_612.out
              have hcz107_0 : wr.cell? ⟨gb612, 0, none⟩ = some (.int .i64 x613000_1) := (kC BK612.out 0).trans rfl
              have hcz107_1 : wr.cell? ⟨gb612, 1, none⟩ = some (u613001) := (kC BK612.out 1).trans rfl
              have hcz107_2 : wr.cell? ⟨gb612, 2, none⟩ = some (u613002) := (kC BK612.out 2).trans rfl
              have hfz107_0 := kF BK612.out 0
              have hfz107_1 := kF BK612.out 1
              have hfz107_2 := kF BK612.out 2
              obtain ⟨Ao108, co108, eo108⟩ := Kd.R_slice HO_613001.out
              subst eo108
              obtain ⟨Ao109, co109, eo109⟩ := Kd.R_slice HO_613002.out
              subst eo109
              obtain ⟨Ao110, co110, eo110⟩ := Kd.R_slice HO_14.out
              subst eo110
              try go_wp2_with (first | ((with_reducible refine gate_callee (f := 20) rfl ?_); refine goesL_ (some 76) rfl rfl Try.func20 kr rfl #[.agg #[.int .i64 x613000_1, .slice Ao108 x613001_1.length co108, .slice Ao109 x613002_1.length co109], .slice Ao110 x14_2.length co110] rfl mq ?_; (with_reducible refine (impl_PlayBlock.calls k2 x613000_1 _ _ x613001_1 _ _ x613002_1 _ _ x14_2 t632 t633 t634 t637 t640 _ ?side1 ?side2 ?side3 ?side4 ?side5 ?side6 A56.out).mono ?_); (case side1 => exact cq (rR HO_613001.out).2.2); (case side2 => exact (rR HO_613001.out).2.1); (case side3 => exact cq (rR HO_613002.out).2.2); (case side4 => exact (rR HO_613002.out).2.1); (case side5 => exact cq (rR HO_14.out).2.2); (case side6 => exact (rR HO_14.out).2.1); rintro e w111 ⟨v635, v638, v641, rfl, ho0, ho1, ho2, hb⟩; refine ⟨_, rfl, ?_⟩; replace HO_8 := aM (Kd.N_mono (Kd.N_told (Kd.N_told (Kd.N_told (Kd.N_old (nq HO_8.out) hb) (rB ho0)) (rB ho1)) (rB ho2)) (fun _ h_ => h_.1)); have HO636 := aM (rG (rW (rW (rW (rW (rW (rW (rW (rW (rW (rW (rW (rW ho0 (rT (rq HO_14.out))) (rT (rq HO_597001.out))) (rT (rq HO_613001.out))) (rT (rq HO_613002.out))) (rT (rq HO_622001.out))) (rT (rq HO_622002.out))) (rT (rq HO_623002.out))) (rT (rq HO_623003.out))) (rT (rq HO_623004.out))) (rT (rq HO_624002.out))) (rT (rq HO_624003.out))) (rT (rq HO_624004.out))) (bZ bq)); have HO639 := aM (rG (rW (rW (rW (rW (rW (rW (rW (rW (rW (rW (rW (rW ho1 (rT (rq HO_14.out))) (rT (rq HO_597001.out))) (rT (rq HO_613001.out))) (rT (rq HO_613002.out))) (rT (rq HO_622001.out))) (rT (rq HO_622002.out))) (rT (rq HO_623002.out))) (rT (rq HO_623003.out))) (rT (rq HO_623004.out))) (rT (rq HO_624002.out))) (rT (rq HO_624003.out))) (rT (rq HO_624004.out))) (bZ bq)); have HO642 := aM (rG (rW (rW (rW (rW (rW (rW (rW (rW (rW (rW (rW (rW ho2 (rT (rq HO_14.out))) (rT (rq HO_597001.out))) (rT (rq HO_613001.out))) (rT (rq HO_613002.out))) (rT (rq HO_622001.out))) (rT (rq HO_622002.out))) (rT (rq HO_623002.out))) (rT (rq HO_623003.out))) (rT (rq HO_623004.out))) (rT (rq HO_624002.out))) (rT (rq HO_624003.out))) (rT (rq HO_624004.out))) (bZ bq)); replace HO_14 := aM (rM (rO (rO (rO (rE (rq HO_14.out) hb) (rB ho0)) (rB ho1)) (rB ho2)) (fun _ h_ => h_.1)); replace HO_597001 := aM (rM (rO (rO (rO (rE (rq HO_597001.out) hb) (rB ho0)) (rB ho1)) (rB ho2)) (fun _ h_ => h_.1)); replace HO_613001 := aM (rM (rO (rO (rO (rE (rq HO_613001.out) hb) (rB ho0)) (rB ho1)) (rB ho2)) (fun _ h_ => h_.1)); replace HO_613002 := aM (rM (rO (rO (rO (rE (rq HO_613002.out) hb) (rB ho0)) (rB ho1)) (rB ho2)) (fun _ h_ => h_.1)); replace HO_622001 := aM (rM (rO (rO (rO (rE (rq HO_622001.out) hb) (rB ho0)) (rB ho1)) (rB ho2)) (fun _ h_ => h_.1)); replace HO_622002 := aM (rM (rO (rO (rO (rE (rq HO_622002.out) hb) (rB ho0)) (rB ho1)) (rB ho2)) (fun _ h_ => h_.1)); replace HO_623002 := aM (rM (rO (rO (rO (rE (rq HO_623002.out) hb) (rB ho0)) (rB ho1)) (rB ho2)) (fun _ h_ => h_.1)); replace HO_623003 := aM (rM (rO (rO (rO (rE (rq HO_623003.out) hb) (rB ho0)) (rB ho1)) (rB ho2)) (fun _ h_ => h_.1)); replace HO_623004 := aM (rM (rO (rO (rO (rE (rq HO_623004.out) hb) (rB ho0)) (rB ho1)) (rB ho2)) (fun _ h_ => h_.1)); replace HO_624002 := aM (rM (rO (rO (rO (rE (rq HO_624002.out) hb) (rB ho0)) (rB ho1)) (rB ho2)) (fun _ h_ => h_.1)); replace HO_624003 := aM (rM (rO (rO (rO (rE (rq HO_624003.out) hb) (rB ho0)) (rB ho1)) (rB ho2)) (fun _ h_ => h_.1)); replace HO_624004 := aM (rM (rO (rO (rO (rE (rq HO_624004.out) hb) (rB ho0)) (rB ho1)) (rB ho2)) (fun _ h_ => h_.1)); replace BK596 := aM (kB (kq BK596.out) hb); replace BK612 := aM (kB (kq BK612.out) hb); replace BK621 := aM (kB (kq BK621.out) hb); replace BK622 := aM (kB (kq BK622.out) hb); replace BK623 := aM (kB (kq BK623.out) hb); replace HB := aM (bT bq hb); (try clear hb); (try clear ho0); (try clear ho1); (try clear ho2); have hnb112 := NB622_596.out; have hnc112 := NB596_622.out; have hnb113 := NB622_621.out; have hnc113 := NB621_622.out; have hnb114 := NB622_623.out; have hnc114 := NB623_622.out; have hcz115_0 : w111.cell? ⟨gb622, 0, none⟩ = some (.int .i64 x623000_1) := (kC BK622.out 0).trans rfl; have hcz115_1 : w111.cell? ⟨gb622, 1, none⟩ = some (.int .i64 x623001_1) := (kC BK622.out 1).trans rfl; have hcz115_2 : w111.cell? ⟨gb622, 2, none⟩ = some (u623002) := (kC BK622.out 2).trans rfl; have hcz115_3 : w111.cell? ⟨gb622, 3, none⟩ = some (u623003) := (kC BK622.out 3).trans rfl; have hcz115_4 : w111.cell? ⟨gb622, 4, none⟩ = some (u623004) := (kC BK622.out 4).trans rfl; have hfz115_0 := kF BK622.out 0; have hfz115_1 := kF BK622.out 1; have hfz115_2 := kF BK622.out 2; have hfz115_3 := kF BK622.out 3; have hfz115_4 := kF BK622.out 4; obtain ⟨Ao116, co116, eo116⟩ := Kd.R_slice HO636.out; subst eo116; obtain ⟨Ao117, co117, eo117⟩ := Kd.R_slice HO639.out; subst eo117; obtain ⟨Ao118, co118, eo118⟩ := Kd.R_slice HO642.out; subst eo118))
              generalize hgw_ : (((((w111.setCell ⟨gb622, 0, none⟩ (.int .i64 t632)).setCell ⟨gb622, 1, none⟩ (.int .i64 t633)).setCell ⟨gb622, 2, none⟩ (.slice Ao116 t634.length co116)).setCell ⟨gb622, 3, none⟩ (.slice Ao117 t637.length co117)).setCell ⟨gb622, 4, none⟩ (.slice Ao118 t640.length co118)) = w119
              have n0_ : Aside0 (Kd.N (Kd.slice 2 (Kd.int .i64)) 22 w119 w.heap.size (fun k_ => nS Ao110 x14_2 co110 k_ ∧ nS Ao18 t593 co18 k_ ∧ nS Ao108 x613001_1 co108 k_ ∧ nS Ao109 x613002_1 co109 k_ ∧ nb u622001 k_ ∧ nb u622002 k_ ∧ nb u623002 k_ ∧ nb u623003 k_ ∧ nb u623004 k_ ∧ nb u624002 k_ ∧ nb u624003 k_ ∧ nb u624004 k_ ∧ nS Ao116 t634 co116 k_ ∧ nS Ao117 t637 co117 k_ ∧ nS Ao118 t640 co118 k_ ∧ k_ ≠ gb596 ∧ k_ ≠ gb612 ∧ k_ ≠ gb621 ∧ k_ ≠ gb622 ∧ k_ ≠ gb623) v602 y601) := ⟨by rw [← hgw_]; exact Kd.N_mono (Kd.N_far (p := ⟨gb622, 4, none⟩) (Kd.N_far (p := ⟨gb622, 3, none⟩) (Kd.N_far (p := ⟨gb622, 2, none⟩) (Kd.N_far (p := ⟨gb622, 1, none⟩) (Kd.N_far (p := ⟨gb622, 0, none⟩) (Kd.N_mono HO_8.out (fun k_ hk => (⟨hk, hk.1.1.1.2.2.2.2.2.2.2.2.2.2.2.2.2.2.2.1⟩ : _ ∧ k_ ≠ gb622))) (fun _ hk => hk.2) (.int .i64 t632)) (fun _ hk => hk.2) (.int .i64 t633)) (fun _ hk => hk.2) (.slice Ao116 t634.length co116)) (fun _ hk => hk.2) (.slice Ao117 t637.length co117)) (fun _ hk => hk.2) (.slice Ao118 t640.length co118)) jq⟩
              have n1_ : Aside0 (Kd.R (Kd.int .i64) 2 w119 w.heap.size (fun k_ => nS Ao18 t593 co18 k_ ∧ nS Ao108 x613001_1 co108 k_ ∧ nS Ao109 x613002_1 co109 k_ ∧ nb u622001 k_ ∧ nb u622002 k_ ∧ nb u623002 k_ ∧ nb u623003 k_ ∧ nb u623004 k_ ∧ nb u624002 k_ ∧ nb u624003 k_ ∧ nb u624004 k_ ∧ nS Ao116 t634 co116 k_ ∧ nS Ao117 t637 co117 k_ ∧ nS Ao118 t640 co118 k_) (.slice Ao110 x14_2.length co110) x14_2) := ⟨by rw [← hgw_]; exact rM (rf (Kd.R_types HO_14.out BK622.out (by decide))) jq⟩
              have n2_ : Aside0 (Kd.R (Kd.int .i64) 2 w119 w.heap.size (fun k_ => nS Ao110 x14_2 co110 k_ ∧ nS Ao108 x613001_1 co108 k_ ∧ nS Ao109 x613002_1 co109 k_ ∧ nb u622001 k_ ∧ nb u622002 k_ ∧ nb u623002 k_ ∧ nb u623003 k_ ∧ nb u623004 k_ ∧ nb u624002 k_ ∧ nb u624003 k_ ∧ nb u624004 k_ ∧ nS Ao116 t634 co116 k_ ∧ nS Ao117 t637 co117 k_ ∧ nS Ao118 t640 co118 k_) (.slice Ao18 t593.length co18) t593) := ⟨by rw [← hgw_]; exact rM (rf (Kd.R_types HO_597001.out BK622.out (by decide))) jq⟩
              have n3_ : Aside0 (Kd.R (Kd.int .i64) 2 w119 w.heap.size (fun k_ => nS Ao110 x14_2 co110 k_ ∧ nS Ao18 t593 co18 k_ ∧ nS Ao109 x613002_1 co109 k_ ∧ nb u622001 k_ ∧ nb u622002 k_ ∧ nb u623003 k_ ∧ nb u623004 k_ ∧ nb u624002 k_ ∧ nb u624003 k_ ∧ nb u624004 k_ ∧ nS Ao116 t634 co116 k_ ∧ nS Ao117 t637 co117 k_ ∧ nS Ao118 t640 co118 k_) (.slice Ao108 x613001_1.length co108) x613001_1) := ⟨by rw [← hgw_]; exact rM (rf (Kd.R_types HO_613001.out BK622.out (by decide))) jq⟩
              have n4_ : Aside0 (Kd.R (Kd.int .i64) 2 w119 w.heap.size (fun k_ => nS Ao110 x14_2 co110 k_ ∧ nS Ao18 t593 co18 k_ ∧ nS Ao108 x613001_1 co108 k_ ∧ nb u622001 k_ ∧ nb u622002 k_ ∧ nb u623002 k_ ∧ nb u623004 k_ ∧ nb u624002 k_ ∧ nb u624003 k_ ∧ nb u624004 k_ ∧ nS Ao116 t634 co116 k_ ∧ nS Ao117 t637 co117 k_ ∧ nS Ao118 t640 co118 k_) (.slice Ao109 x613002_1.length co109) x613002_1) := ⟨by rw [← hgw_]; exact rM (rf (Kd.R_types HO_613002.out BK622.out (by decide))) jq⟩
              have n5_ : Aside0 (Kd.R (Kd.int .i64) 2 w119 w.heap.size (fun k_ => nS Ao110 x14_2 co110 k_ ∧ nS Ao18 t593 co18 k_ ∧ nS Ao108 x613001_1 co108 k_ ∧ nS Ao109 x613002_1 co109 k_ ∧ nb u622002 k_ ∧ nb u623002 k_ ∧ nb u623003 k_ ∧ nb u623004 k_ ∧ nb u624003 k_ ∧ nb u624004 k_ ∧ nS Ao116 t634 co116 k_ ∧ nS Ao117 t637 co117 k_ ∧ nS Ao118 t640 co118 k_) u622001 x622001_1) := ⟨by rw [← hgw_]; exact rM (rf (Kd.R_types HO_622001.out BK622.out (by decide))) jq⟩
              have n6_ : Aside0 (Kd.R (Kd.int .i64) 2 w119 w.heap.size (fun k_ => nS Ao110 x14_2 co110 k_ ∧ nS Ao18 t593 co18 k_ ∧ nS Ao108 x613001_1 co108 k_ ∧ nS Ao109 x613002_1 co109 k_ ∧ nb u622001 k_ ∧ nb u623002 k_ ∧ nb u623003 k_ ∧ nb u623004 k_ ∧ nb u624002 k_ ∧ nb u624004 k_ ∧ nS Ao116 t634 co116 k_ ∧ nS Ao117 t637 co117 k_ ∧ nS Ao118 t640 co118 k_) u622002 x622002_1) := ⟨by rw [← hgw_]; exact rM (rf (Kd.R_types HO_622002.out BK622.out (by decide))) jq⟩
              have n7_ : Aside0 (Kd.R (Kd.int .i64) 2 w119 w.heap.size (fun k_ => nS Ao110 x14_2 co110 k_ ∧ nS Ao18 t593 co18 k_ ∧ nS Ao109 x613002_1 co109 k_ ∧ nb u622001 k_ ∧ nb u622002 k_ ∧ nb u623003 k_ ∧ nb u623004 k_ ∧ nb u624002 k_ ∧ nb u624003 k_ ∧ nb u624004 k_ ∧ nS Ao116 t634 co116 k_ ∧ nS Ao117 t637 co117 k_ ∧ nS Ao118 t640 co118 k_) u623002 x623002_1) := ⟨by rw [← hgw_]; exact rM (rf (Kd.R_types HO_623002.out BK622.out (by decide))) jq⟩
              have n8_ : Aside0 (Kd.R (Kd.int .i64) 2 w119 w.heap.size (fun k_ => nS Ao110 x14_2 co110 k_ ∧ nS Ao18 t593 co18 k_ ∧ nS Ao108 x613001_1 co108 k_ ∧ nb u622001 k_ ∧ nb u622002 k_ ∧ nb u623002 k_ ∧ nb u623004 k_ ∧ nb u624002 k_ ∧ nb u624003 k_ ∧ nb u624004 k_ ∧ nS Ao116 t634 co116 k_ ∧ nS Ao117 t637 co117 k_ ∧ nS Ao118 t640 co118 k_) u623003 x623003_1) := ⟨by rw [← hgw_]; exact rM (rf (Kd.R_types HO_623003.out BK622.out (by decide))) jq⟩
              have n9_ : Aside0 (Kd.R (Kd.int .i64) 2 w119 w.heap.size (fun k_ => nS Ao110 x14_2 co110 k_ ∧ nS Ao18 t593 co18 k_ ∧ nS Ao108 x613001_1 co108 k_ ∧ nS Ao109 x613002_1 co109 k_ ∧ nb u622001 k_ ∧ nb u622002 k_ ∧ nb u623002 k_ ∧ nb u623003 k_ ∧ nb u624002 k_ ∧ nb u624003 k_ ∧ nb u624004 k_ ∧ nS Ao116 t634 co116 k_ ∧ nS Ao117 t637 co117 k_ ∧ nS Ao118 t640 co118 k_) u623004 x623004_1) := ⟨by rw [← hgw_]; exact rM (rf (Kd.R_types HO_623004.out BK622.out (by decide))) jq⟩
              have n10_ : Aside0 (Kd.R (Kd.int .i64) 2 w119 w.heap.size (fun k_ => nS Ao110 x14_2 co110 k_ ∧ nS Ao18 t593 co18 k_ ∧ nS Ao108 x613001_1 co108 k_ ∧ nS Ao109 x613002_1 co109 k_ ∧ nb u622002 k_ ∧ nb u623002 k_ ∧ nb u623003 k_ ∧ nb u623004 k_ ∧ nb u624003 k_ ∧ nb u624004 k_ ∧ nS Ao116 t634 co116 k_ ∧ nS Ao117 t637 co117 k_ ∧ nS Ao118 t640 co118 k_) u624002 x624002_1) := ⟨by rw [← hgw_]; exact rM (rf (Kd.R_types HO_624002.out BK622.out (by decide))) jq⟩
              have n11_ : Aside0 (Kd.R (Kd.int .i64) 2 w119 w.heap.size (fun k_ => nS Ao110 x14_2 co110 k_ ∧ nS Ao18 t593 co18 k_ ∧ nS Ao108 x613001_1 co108 k_ ∧ nS Ao109 x613002_1 co109 k_ ∧ nb u622001 k_ ∧ nb u623002 k_ ∧ nb u623003 k_ ∧ nb u623004 k_ ∧ nb u624002 k_ ∧ nb u624004 k_ ∧ nS Ao116 t634 co116 k_ ∧ nS Ao117 t637 co117 k_ ∧ nS Ao118 t640 co118 k_) u624003 x624003_1) := ⟨by rw [← hgw_]; exact rM (rf (Kd.R_types HO_624003.out BK622.out (by decide))) jq⟩
              have n12_ : Aside0 (Kd.R (Kd.int .i64) 2 w119 w.heap.size (fun k_ => nS Ao110 x14_2 co110 k_ ∧ nS Ao18 t593 co18 k_ ∧ nS Ao108 x613001_1 co108 k_ ∧ nS Ao109 x613002_1 co109 k_ ∧ nb u622001 k_ ∧ nb u622002 k_ ∧ nb u623002 k_ ∧ nb u623003 k_ ∧ nb u623004 k_ ∧ nb u624002 k_ ∧ nb u624003 k_ ∧ nS Ao116 t634 co116 k_ ∧ nS Ao117 t637 co117 k_ ∧ nS Ao118 t640 co118 k_) u624004 x624004_1) := ⟨by rw [← hgw_]; exact rM (rf (Kd.R_types HO_624004.out BK622.out (by decide))) jq⟩
              have n13_ : Aside0 (Kd.R (Kd.int .i64) 2 w119 w.heap.size (fun k_ => nS Ao110 x14_2 co110 k_ ∧ nS Ao18 t593 co18 k_ ∧ nS Ao108 x613001_1 co108 k_ ∧ nS Ao109 x613002_1 co109 k_ ∧ nb u622001 k_ ∧ nb u622002 k_ ∧ nb u623002 k_ ∧ nb u623003 k_ ∧ nb u623004 k_ ∧ nb u624002 k_ ∧ nb u624003 k_ ∧ nb u624004 k_ ∧ nS Ao117 t637 co117 k_ ∧ nS Ao118 t640 co118 k_) (.slice Ao116 t634.length co116) t634) := ⟨by rw [← hgw_]; exact rM (rf (Kd.R_types HO636.out BK622.out (by decide))) jq⟩
              have n14_ : Aside0 (Kd.R (Kd.int .i64) 2 w119 w.heap.size (fun k_ => nS Ao110 x14_2 co110 k_ ∧ nS Ao18 t593 co18 k_ ∧ nS Ao108 x613001_1 co108 k_ ∧ nS Ao109 x613002_1 co109 k_ ∧ nb u622001 k_ ∧ nb u622002 k_ ∧ nb u623002 k_ ∧ nb u623003 k_ ∧ nb u623004 k_ ∧ nb u624002 k_ ∧ nb u624003 k_ ∧ nb u624004 k_ ∧ nS Ao116 t634 co116 k_ ∧ nS Ao118 t640 co118 k_) (.slice Ao117 t637.length co117) t637) := ⟨by rw [← hgw_]; exact rM (rf (Kd.R_types HO639.out BK622.out (by decide))) jq⟩
              have n15_ : Aside0 (Kd.R (Kd.int .i64) 2 w119 w.heap.size (fun k_ => nS Ao110 x14_2 co110 k_ ∧ nS Ao18 t593 co18 k_ ∧ nS Ao108 x613001_1 co108 k_ ∧ nS Ao109 x613002_1 co109 k_ ∧ nb u622001 k_ ∧ nb u622002 k_ ∧ nb u623002 k_ ∧ nb u623003 k_ ∧ nb u623004 k_ ∧ nb u624002 k_ ∧ nb u624003 k_ ∧ nb u624004 k_ ∧ nS Ao116 t634 co116 k_ ∧ nS Ao117 t637 co117 k_) (.slice Ao118 t640.length co118) t640) := ⟨by rw [← hgw_]; exact rM (rf (Kd.R_types HO642.out BK622.out (by decide))) jq⟩
              have n16_ : Aside0 (w119.heap[gb596]? = some (.cells #[.int .i64 t592, .slice Ao18 t593.length co18] 24 (0, 0))) := ⟨by rw [← hgw_]; exact fq BK596.out⟩
              have n17_ : Aside0 (w119.heap[gb612]? = some (.cells #[.int .i64 x613000_1, .slice Ao108 x613001_1.length co108, .slice Ao109 x613002_1.length co109] 35 (0, 0))) := ⟨by rw [← hgw_]; exact fq BK612.out⟩
              have n18_ : Aside0 (w119.heap[gb621]? = some (.cells #[.int .i64 x622000_1, u622001, u622002] 35 (0, 0))) := ⟨by rw [← hgw_]; exact fq BK621.out⟩
              have n19_ : Aside0 (w119.heap[gb622]? = some (.cells #[.int .i64 t632, .int .i64 t633, .slice Ao116 t634.length co116, .slice Ao117 t637.length co117, .slice Ao118 t640.length co118] 37 (0, 0))) := ⟨by rw [← hgw_]; exact fq BK622.out⟩
              have n20_ : Aside0 (w119.heap[gb623]? = some (.cells #[.int .i64 x624000_1, .int .i64 x624001_1, u624002, u624003, u624004] 37 (0, 0))) := ⟨by rw [← hgw_]; exact fq BK623.out⟩
              have n21_ : Aside0 (Below w.heap.size w w119) := ⟨by rw [← hgw_]; repeat (first | (with_reducible first | exact HB.out | apply bA | apply bN | apply bD | refine bS ?_ GE596.out | refine bS ?_ GE612.out | refine bS ?_ GE621.out | refine bS ?_ GE622.out | refine bS ?_ GE623.out) | exact HB.out)⟩
              (try clear HO_8)
              (try clear HO_14)
              (try clear HO_597001)
              (try clear HO_613001)
              (try clear HO_613002)
              (try clear HO_622001)
              (try clear HO_622002)
              (try clear HO_623002)
              (try clear HO_623003)
              (try clear HO_623004)
              (try clear HO_624002)
              (try clear HO_624003)
              (try clear HO_624004)
              (try clear HO636)
              (try clear HO639)
              (try clear HO642)
              (try clear BK596)
              (try clear BK612)
              (try clear BK621)
              (try clear BK622)
              (try clear BK623)
              (try clear HB)
              clear hgw_
              have HO_8 := n0_
              have HO_14 := n1_
              have HO_597001 := n2_
              have HO_613001 := n3_
              have HO_613002 := n4_
              have HO_622001 := n5_
              have HO_622002 := n6_
              have HO_623002 := n7_
              have HO_623003 := n8_
              have HO_623004 := n9_
              have HO_624002 := n10_
              have HO_624003 := n11_
              have HO_624004 := n12_
              have HO636 := n13_
              have HO639 := n14_
              have HO642 := n15_
              have BK596 := n16_
              have BK612 := n17_
              have BK621 := n18_
              have BK622 := n19_
              have BK623 := n20_
              have HB := n21_
              clear n0_ n1_ n2_ n3_ n4_ n5_ n6_ n7_ n8_ n9_ n10_ n11_ n12_ n13_ n14_ n15_ n16_ n17_ n18_ n19_ n20_ n21_
              replace HO_8 := aM (Kd.N_drew HO_8.out)
              replace HO_14 := aM (rD HO_14.out)
              replace HO_597001 := aM (rD HO_597001.out)
              replace HO_613001 := aM (rD HO_613001.out)
              replace HO_613002 := aM (rD HO_613002.out)
              replace HO_622001 := aM (rD HO_622001.out)
              replace HO_622002 := aM (rD HO_622002.out)
              replace HO_623002 := aM (rD HO_623002.out)
              replace HO_623003 := aM (rD HO_623003.out)
              replace HO_623004 := aM (rD HO_623004.out)
              replace HO_624002 := aM (rD HO_624002.out)
              replace HO_624003 := aM (rD HO_624003.out)
              replace HO_624004 := aM (rD HO_624004.out)
              replace HO636 := aM (rD HO636.out)
              replace HO639 := aM (rD HO639.out)
              replace HO642 := aM (rD HO642.out)
              replace BK596 := aM (kD BK596.out)
              replace BK612 := aM (kD BK612.out)
              replace BK621 := aM (kD BK621.out)
              replace BK622 := aM (kD BK622.out)
              replace BK623 := aM (kD BK623.out)
              replace HB := aM (bD HB.out)
              obtain ⟨Ao121, co121, eo121⟩ := Kd.N_slice HO_8.out
              (first | subst eo121 | (injection eo121 with f1_ f2_ f3_; have f4_ := f1_.symm; have f5_ := f3_.symm; clear f1_ f2_ f3_; subst f4_; subst f5_))
              have p643 : 0 ≤ (x13_1 : Int) := of_decide_eq_true (by first | (with_reducible assumption) | assumption)
              have q643 : x13_1 < (y601.length : Int) := of_decide_eq_true (by first | (with_reducible assumption) | assumption)
              obtain ⟨ad643, A643_0, c643_0, e643, hx643_0, hl643_0, hi643_0⟩ := at_L1 (Kd.N_reads' HO_8.out).2.2 x13_1 p643 q643
              cases e643
              obtain ⟨ce643, hce643, hMe643, hcc643⟩ := Kd.N_get HO_8.out [] x13_1 p643 (by first | exact q643 | exact of_decide_eq_true (by first | (with_reducible assumption) | assumption) | (have e_ := (Kd.N_reads' HO_8.out).1; omega))
              obtain ⟨ua643_0, uc643_0, rfl, ul643_0, ge643_0⟩ := Kd.FK_slice_open hMe643
              have hv643_0 := hcc643 0 _ rfl
              rw [Nat.add_zero, show ((Kd.slice 2 (Kd.int .i64))).sz = 1 from rfl, Nat.mul_one] at hv643_0
              replace hv643_0 := Option.some.inj (hv643_0.symm.trans hx643_0)
              injection hv643_0 with hva_ hvn_ hvc_
              rw [hva_] at ge643_0
              rw [hvc_] at ul643_0
              have HL643_0 := aM (show Kd.V (Kd.int .i64) 2 _ w.heap.size _ _ (rd_L1 y601 x13_1) from Kd.V_mk ul643_0 ge643_0)
              clear hva_ hvn_ hvc_ ge643_0 ul643_0 hcc643 hce643
              have HR643_0 := aM hi643_0
              have HC643_0 := aM hl643_0
              clear hi643_0 hl643_0
              replace p643 := eq_true p643
              replace q643 := eq_true q643
              refine start_ (n := 11) (S := fun w' => w'.cell? ⟨gb621, 0, none⟩ = some (.int .i64 x622000_1) ∧ w'.cell? ⟨gb621, 1, none⟩ = some (u622001) ∧ w'.cell? ⟨gb621, 2, none⟩ = some (u622002) ∧ w'.cell? (ad643.add (x13_1).toNat) = some (.slice A643_0 (rd_L1 y601 x13_1).length c643_0)) (ds := []) #[N,N,N,N,N,N,N,N,N,N,N] kr rfl rfl ⟨(kC BK621.out 0).trans rfl, (kC BK621.out 1).trans rfl, (kC BK621.out 2).trans rfl, hx643_0⟩ (fun hHeld => ?_); refine with_tabW laws_FnFrameBounds.tab23 laws_FnFrameBounds.bits23 (fun HT_ HW_ => ?_)
              generalize w119.drew = w120 at HO_8 HO_14 HO_597001 HO_613001 HO_613002 HO_622001 HO_622002 HO_623002 HO_623003 HO_623004 HO_624002 HO_624003 HO_624004 HO636 HO639 HO642 BK596 BK612 BK621 BK622 BK623 HB HL643_0 HR643_0 hx643_0 hHeld ⊢
              refine pp HT_ (N := some 78) 1 #[N,Y,N,N,N,N,N,N,N,N,N] ?_
              refine pp HT_ (N := some 79) 2 #[N,Y,Y,N,N,N,N,N,N,N,N] ?_
              refine pp HT_ (N := some 80) 3 #[N,Y,Y,Y,N,N,N,N,N,N,N] ?_
              refine pp HT_ (N := some 81) 4 #[N,Y,Y,Y,Y,N,N,N,N,N,N] ?_
              refine pp HT_ (N := some 83) 6 #[N,Y,Y,Y,Y,N,Y,N,N,N,N] ?_
              refine pp HT_ (N := some 84) 7 #[N,Y,Y,Y,Y,N,Y,Y,N,N,N] ?_
              refine take_ (i := 0) (N := some 77) (v := ?_) (a' := ?_) #[Y,Y,Y,Y,Y,N,Y,Y,N,N,N] rfl rfl (take_ofW HT_.out HW_.out kr) (fun _ _ _ h => h) (Or.inl ⟨by rfl, ?_⟩) hHeld ?_ ?_
              rotate_left
              ·rintro w' ⟨s0, s1, s2, s3⟩
               go_simp
               with_reducible rfl
              rotate_left
              ·simp only [Act.put, pa, pb, pc, i64_w, i32_w]
               rfl
              refine take_ (i := 5) (N := some 82) (v := ?_) (a' := ?_) #[Y,Y,Y,Y,Y,Y,Y,Y,N,N,N] rfl rfl (take_ofW HT_.out HW_.out kr) (fun _ _ _ h => h) (Or.inl ⟨by rfl, ?_⟩) hHeld ?_ ?_
              rotate_left
              ·rintro w' ⟨s0, s1, s2, s3⟩
               go_simp
               with_reducible rfl
              rotate_left
              ·simp only [Act.put, pa, pb, pc, i64_w, i32_w]
               rfl
              refine one_ (i := 8) (N := some 85) #[Y,Y,Y,Y,Y,Y,Y,Y,Y,N,N] rfl rfl (one_of HT_.out kr) (by decide) (fun K hK => ?_)
              refine goes_ Try.func39 kr rfl #[.slice Ao110 x14_2.length co110, .slice A643_0 (rd_L1 y601 x13_1).length c643_0, .slice A0 l0.length c0, .int .i64 x13_1] (by rfl) rfl rfl mq ?_
              with_reducible refine (laws_lwBent.calls k2 _ _ x14_2 _ _ (rd_L1 y601 x13_1) _ _ l0 x13_1 t644 _ ?side1 ?side2 ?side3 ?side4 ?side5 ?side6 A59.out).mono ?_
              (case side1 => exact cq (rR HO_14.out).2.2)
              (case side2 => exact (rR HO_14.out).2.1)
              (case side3 => repeat (first | exact (by repeat (first | (with_reducible exact HR643_0.out) | (with_reducible refine cA ?_ _) | (with_reducible refine cN ?_ _) | (with_reducible refine cD ?_) | exact HR643_0.out)) | (with_reducible refine cA ?_ _) | (with_reducible refine cN ?_ _) | (with_reducible refine cD ?_)))
              (case side4 => exact HC643_0.out)
              (case side5 => exact cq (cB HR0.out HB.out))
              (case side6 => exact HC0.out)
              rintro e w122 ⟨v645, rfl, ho0, hb⟩
              have HS3_ := (hb.cell (World.block_lt_of_cell? _ _ (hHeld.2.2.2))).trans (hHeld.2.2.2)
              refine ⟨_, rfl, ?_⟩
              replace HO_8 := aM (Kd.N_elder' (nq HO_8.out) (rB ho0) hb)
              replace HL643_0 := aM (Kd.V_elder' (vq HL643_0.out) (rB ho0) hb)
              have HO646 := aM (rG (rW (rW (rW (rW (rW (rW (rW (rW (rW (rW (rW (rW (rW (rW (rW ho0 (rT (rq HO_14.out))) (rT (rq HO_597001.out))) (rT (rq HO_613001.out))) (rT (rq HO_613002.out))) (rT (rq HO_622001.out))) (rT (rq HO_622002.out))) (rT (rq HO_623002.out))) (rT (rq HO_623003.out))) (rT (rq HO_623004.out))) (rT (rq HO_624002.out))) (rT (rq HO_624003.out))) (rT (rq HO_624004.out))) (rT (rq HO636.out))) (rT (rq HO639.out))) (rT (rq HO642.out))) (bZ bq))
              replace HO_14 := aM (rH (rq HO_14.out) (rB ho0) hb)
              replace HO_597001 := aM (rH (rq HO_597001.out) (rB ho0) hb)
              replace HO_613001 := aM (rH (rq HO_613001.out) (rB ho0) hb)
              replace HO_613002 := aM (rH (rq HO_613002.out) (rB ho0) hb)
              replace HO_622001 := aM (rH (rq HO_622001.out) (rB ho0) hb)
              replace HO_622002 := aM (rH (rq HO_622002.out) (rB ho0) hb)
              replace HO_623002 := aM (rH (rq HO_623002.out) (rB ho0) hb)
              replace HO_623003 := aM (rH (rq HO_623003.out) (rB ho0) hb)
              replace HO_623004 := aM (rH (rq HO_623004.out) (rB ho0) hb)
              replace HO_624002 := aM (rH (rq HO_624002.out) (rB ho0) hb)
              replace HO_624003 := aM (rH (rq HO_624003.out) (rB ho0) hb)
              replace HO_624004 := aM (rH (rq HO_624004.out) (rB ho0) hb)
              replace HO636 := aM (rH (rq HO636.out) (rB ho0) hb)
              replace HO639 := aM (rH (rq HO639.out) (rB ho0) hb)
              replace HO642 := aM (rH (rq HO642.out) (rB ho0) hb)
              replace BK596 := aM (kB (kq BK596.out) hb)
              replace BK612 := aM (kB (kq BK612.out) hb)
              replace BK621 := aM (kB (kq BK621.out) hb)
              replace BK622 := aM (kB (kq BK622.out) hb)
              replace BK623 := aM (kB (kq BK623.out) hb)
              replace HR643_0 := aM (cB (by repeat (first | (with_reducible exact HR643_0.out) | (with_reducible refine cA ?_ _) | (with_reducible refine cN ?_ _) | (with_reducible refine cD ?_) | exact HR643_0.out)) hb)
              replace HB := aM (bT bq hb)
              (try clear hb)
              (try clear hb2)
              (try clear hk)
              (try clear hi)
              (try clear ho0)
              obtain ⟨Ao123, co123, eo123⟩ := Kd.R_slice HO_622001.out
              (first | subst eo123 | (injection eo123 with f1_ f2_ f3_; have f4_ := f1_.symm; have f5_ := f3_.symm; clear f1_ f2_ f3_; subst f4_; subst f5_))
              obtain ⟨Ao124, co124, eo124⟩ := Kd.R_slice HO_622002.out
              (first | subst eo124 | (injection eo124 with f1_ f2_ f3_; have f4_ := f1_.symm; have f5_ := f3_.symm; clear f1_ f2_ f3_; subst f4_; subst f5_))
              obtain ⟨Ao125, co125, eo125⟩ := Kd.R_slice HO646.out
              (first | subst eo125 | (injection eo125 with f1_ f2_ f3_; have f4_ := f1_.symm; have f5_ := f3_.symm; clear f1_ f2_ f3_; subst f4_; subst f5_))
              refine hK.out _ _ ⟨(kC BK621.out 0).trans rfl, (kC BK621.out 1).trans rfl, (kC BK621.out 2).trans rfl, HS3_⟩ (fun hHeld => ?_)
              clear hK K
              refine norm_ (a' := ?_) ?_ ?_
              rotate_left
              ·show Act.put _ (some 85) _ = _
               simp only [Act.put, pa, pb, pc, i64_w, i32_w]
               rfl
              refine one_ (i := 9) (N := some 86) #[Y,Y,Y,Y,Y,Y,Y,Y,Y,Y,N] rfl rfl (one_of HT_.out kr) (by decide) (fun K hK => ?_)
              refine goes_ Try.func20 kr rfl #[.agg #[.int .i64 x622000_1, .slice Ao123 x622001_1.length co123, .slice Ao124 x622002_1.length co124], .slice Ao125 t644.length co125] (by rfl) rfl rfl mq ?_
              with_reducible refine (impl_PlayBlock.calls k2 x622000_1 _ _ x622001_1 _ _ x622002_1 _ _ t644 t647 t648 t649 t652 t655 _ ?side1 ?side2 ?side3 ?side4 ?side5 ?side6 A60.out).mono ?_
              (case side1 => exact cq (rR HO_622001.out).2.2)
              (case side2 => exact (rR HO_622001.out).2.1)
              (case side3 => exact cq (rR HO_622002.out).2.2)
              (case side4 => exact (rR HO_622002.out).2.1)
              (case side5 => exact cq (rR HO646.out).2.2)
              (case side6 => exact (rR HO646.out).2.1)
              rintro e w126 ⟨v650, v653, v656, rfl, ho0, ho1, ho2, hb⟩
              have HS3_ := (hb.cell (World.block_lt_of_cell? _ _ (hHeld.2.2.2))).trans (hHeld.2.2.2)
              refine ⟨_, rfl, ?_⟩
              replace HO_8 := aM (Kd.N_mono (Kd.N_told (Kd.N_told (Kd.N_told (Kd.N_old (nq HO_8.out) hb) (rB ho0)) (rB ho1)) (rB ho2)) (fun _ h_ => h_.1))
              replace HL643_0 := aM (Kd.V_mono (Kd.V_told (Kd.V_told (Kd.V_told (Kd.V_old (vq HL643_0.out) hb) (rB ho0)) (rB ho1)) (rB ho2)) (fun _ h_ => h_.1))
              have HO651 := aM (rG (rW (rW (rW (rW (rW (rW (rW (rW (rW (rW (rW (rW (rW (rW (rW (rW ho0 (rT (rq HO_14.out))) (rT (rq HO_597001.out))) (rT (rq HO_613001.out))) (rT (rq HO_613002.out))) (rT (rq HO_622001.out))) (rT (rq HO_622002.out))) (rT (rq HO_623002.out))) (rT (rq HO_623003.out))) (rT (rq HO_623004.out))) (rT (rq HO_624002.out))) (rT (rq HO_624003.out))) (rT (rq HO_624004.out))) (rT (rq HO636.out))) (rT (rq HO639.out))) (rT (rq HO642.out))) (rT (rq HO646.out))) (bZ bq))
              have HO654 := aM (rG (rW (rW (rW (rW (rW (rW (rW (rW (rW (rW (rW (rW (rW (rW (rW (rW ho1 (rT (rq HO_14.out))) (rT (rq HO_597001.out))) (rT (rq HO_613001.out))) (rT (rq HO_613002.out))) (rT (rq HO_622001.out))) (rT (rq HO_622002.out))) (rT (rq HO_623002.out))) (rT (rq HO_623003.out))) (rT (rq HO_623004.out))) (rT (rq HO_624002.out))) (rT (rq HO_624003.out))) (rT (rq HO_624004.out))) (rT (rq HO636.out))) (rT (rq HO639.out))) (rT (rq HO642.out))) (rT (rq HO646.out))) (bZ bq))
              have HO657 := aM (rG (rW (rW (rW (rW (rW (rW (rW (rW (rW (rW (rW (rW (rW (rW (rW (rW ho2 (rT (rq HO_14.out))) (rT (rq HO_597001.out))) (rT (rq HO_613001.out))) (rT (rq HO_613002.out))) (rT (rq HO_622001.out))) (rT (rq HO_622002.out))) (rT (rq HO_623002.out))) (rT (rq HO_623003.out))) (rT (rq HO_623004.out))) (rT (rq HO_624002.out))) (rT (rq HO_624003.out))) (rT (rq HO_624004.out))) (rT (rq HO636.out))) (rT (rq HO639.out))) (rT (rq HO642.out))) (rT (rq HO646.out))) (bZ bq))
              replace HO_14 := aM (rM (rO (rO (rO (rE (rq HO_14.out) hb) (rB ho0)) (rB ho1)) (rB ho2)) (fun _ h_ => h_.1))
              replace HO_597001 := aM (rM (rO (rO (rO (rE (rq HO_597001.out) hb) (rB ho0)) (rB ho1)) (rB ho2)) (fun _ h_ => h_.1))
              replace HO_613001 := aM (rM (rO (rO (rO (rE (rq HO_613001.out) hb) (rB ho0)) (rB ho1)) (rB ho2)) (fun _ h_ => h_.1))
              replace HO_613002 := aM (rM (rO (rO (rO (rE (rq HO_613002.out) hb) (rB ho0)) (rB ho1)) (rB ho2)) (fun _ h_ => h_.1))
              replace HO_622001 := aM (rM (rO (rO (rO (rE (rq HO_622001.out) hb) (rB ho0)) (rB ho1)) (rB ho2)) (fun _ h_ => h_.1))
              replace HO_622002 := aM (rM (rO (rO (rO (rE (rq HO_622002.out) hb) (rB ho0)) (rB ho1)) (rB ho2)) (fun _ h_ => h_.1))
              replace HO_623002 := aM (rM (rO (rO (rO (rE (rq HO_623002.out) hb) (rB ho0)) (rB ho1)) (rB ho2)) (fun _ h_ => h_.1))
              replace HO_623003 := aM (rM (rO (rO (rO (rE (rq HO_623003.out) hb) (rB ho0)) (rB ho1)) (rB ho2)) (fun _ h_ => h_.1))
              replace HO_623004 := aM (rM (rO (rO (rO (rE (rq HO_623004.out) hb) (rB ho0)) (rB ho1)) (rB ho2)) (fun _ h_ => h_.1))
              replace HO_624002 := aM (rM (rO (rO (rO (rE (rq HO_624002.out) hb) (rB ho0)) (rB ho1)) (rB ho2)) (fun _ h_ => h_.1))
              replace HO_624003 := aM (rM (rO (rO (rO (rE (rq HO_624003.out) hb) (rB ho0)) (rB ho1)) (rB ho2)) (fun _ h_ => h_.1))
              replace HO_624004 := aM (rM (rO (rO (rO (rE (rq HO_624004.out) hb) (rB ho0)) (rB ho1)) (rB ho2)) (fun _ h_ => h_.1))
              replace HO636 := aM (rM (rO (rO (rO (rE (rq HO636.out) hb) (rB ho0)) (rB ho1)) (rB ho2)) (fun _ h_ => h_.1))
              replace HO639 := aM (rM (rO (rO (rO (rE (rq HO639.out) hb) (rB ho0)) (rB ho1)) (rB ho2)) (fun _ h_ => h_.1))
              replace HO642 := aM (rM (rO (rO (rO (rE (rq HO642.out) hb) (rB ho0)) (rB ho1)) (rB ho2)) (fun _ h_ => h_.1))
              replace HO646 := aM (rM (rO (rO (rO (rE (rq HO646.out) hb) (rB ho0)) (rB ho1)) (rB ho2)) (fun _ h_ => h_.1))
              replace BK596 := aM (kB (kq BK596.out) hb)
              replace BK612 := aM (kB (kq BK612.out) hb)
              replace BK621 := aM (kB (kq BK621.out) hb)
              replace BK622 := aM (kB (kq BK622.out) hb)
              replace BK623 := aM (kB (kq BK623.out) hb)
              replace HR643_0 := aM (cB (by repeat (first | (with_reducible exact HR643_0.out) | (with_reducible refine cA ?_ _) | (with_reducible refine cN ?_ _) | (with_reducible refine cD ?_) | exact HR643_0.out)) hb)
              replace HB := aM (bT bq hb)
              (try clear hb)
              (try clear hb2)
              (try clear hk)
              (try clear hi)
              (try clear ho0)
              (try clear ho1)
              (try clear ho2)
              obtain ⟨Ao129, co129, eo129⟩ := Kd.R_slice HO651.out
              (first | subst eo129 | (injection eo129 with f1_ f2_ f3_; have f4_ := f1_.symm; have f5_ := f3_.symm; clear f1_ f2_ f3_; subst f4_; subst f5_))
              obtain ⟨Ao131, co131, eo131⟩ := Kd.R_slice HO654.out
              (first | subst eo131 | (injection eo131 with f1_ f2_ f3_; have f4_ := f1_.symm; have f5_ := f3_.symm; clear f1_ f2_ f3_; subst f4_; subst f5_))
              obtain ⟨Ao133, co133, eo133⟩ := Kd.R_slice HO657.out
              (first | subst eo133 | (injection eo133 with f1_ f2_ f3_; have f4_ := f1_.symm; have f5_ := f3_.symm; clear f1_ f2_ f3_; subst f4_; subst f5_))
              refine hK.out _ _ ⟨(kC BK621.out 0).trans rfl, (kC BK621.out 1).trans rfl, (kC BK621.out 2).trans rfl, HS3_⟩ (fun hHeld => ?_)
              clear hK K
              refine norm_ (a' := ?_) ?_ ?_
              rotate_left
              ·show Act.put _ (some 86) _ = _
               simp only [Act.put, pa, pb, pc, i64_w, i32_w]
               rfl
              refine one_ (i := 10) (N := none) #[Y,Y,Y,Y,Y,Y,Y,Y,Y,Y,Y] rfl rfl (one_of HT_.out kr) (by decide) (fun K hK => ?_)
              have hs127 : w126.cell? ⟨gb623, 0, none⟩ = some (.int .i64 x624000_1) := (kC BK623.out 0).trans rfl
              have hfs127 := kF BK623.out 0
              have hns127_0 := NB596_623.out
              have hns127_1 := NB612_623.out
              have hns127_2 := NB621_623.out
              have hns127_3 := NB622_623.out
              have hms127_0 := NB623_596.out
              have hms127_1 := NB623_612.out
              have hms127_2 := NB623_621.out
              have hms127_3 := NB623_622.out
              have hs128 : w126.cell? ⟨gb623, 1, none⟩ = some (.int .i64 x624001_1) := (kC BK623.out 1).trans rfl
              have hfs128 := kF BK623.out 1
              have hns128_0 := NB596_623.out
              have hns128_1 := NB612_623.out
              have hns128_2 := NB621_623.out
              have hns128_3 := NB622_623.out
              have hms128_0 := NB623_596.out
              have hms128_1 := NB623_612.out
              have hms128_2 := NB623_621.out
              have hms128_3 := NB623_622.out
              have hs130 : w126.cell? ⟨gb623, 2, none⟩ = some (u624002) := (kC BK623.out 2).trans rfl
              have hfs130 := kF BK623.out 2
              have hns130_0 := NB596_623.out
              have hns130_1 := NB612_623.out
              have hns130_2 := NB621_623.out
              have hns130_3 := NB622_623.out
              have hms130_0 := NB623_596.out
              have hms130_1 := NB623_612.out
              have hms130_2 := NB623_621.out
              have hms130_3 := NB623_622.out
              have hs132 : w126.cell? ⟨gb623, 3, none⟩ = some (u624003) := (kC BK623.out 3).trans rfl
              have hfs132 := kF BK623.out 3
              have hns132_0 := NB596_623.out
              have hns132_1 := NB612_623.out
              have hns132_2 := NB621_623.out
              have hns132_3 := NB622_623.out
              have hms132_0 := NB623_596.out
              have hms132_1 := NB623_612.out
              have hms132_2 := NB623_621.out
              have hms132_3 := NB623_622.out
              have hs134 : w126.cell? ⟨gb623, 4, none⟩ = some (u624004) := (kC BK623.out 4).trans rfl
              have hfs134 := kF BK623.out 4
              have hns134_0 := NB596_623.out
              have hns134_1 := NB612_623.out
              have hns134_2 := NB621_623.out
              have hns134_3 := NB622_623.out
              have hms134_0 := NB623_596.out
              have hms134_1 := NB623_612.out
              have hms134_2 := NB623_621.out
              have hms134_3 := NB623_622.out
              refine skip_ (w1 := ?_) (by rfl) rfl ?_ ?_
              rotate_left
              ·go_simp
               rfl
              refine hK.out _ _ ⟨((cell_far (p := ⟨gb623, _, none⟩) NB621_623.out _).trans (((cell_far (p := ⟨gb623, _, none⟩) NB621_623.out _).trans (((cell_far (p := ⟨gb623, _, none⟩) NB621_623.out _).trans (((cell_far (p := ⟨gb623, _, none⟩) NB621_623.out _).trans (((cell_far (p := ⟨gb623, _, none⟩) NB621_623.out _).trans (hHeld.1)))))))))), ((cell_far (p := ⟨gb623, _, none⟩) NB621_623.out _).trans (((cell_far (p := ⟨gb623, _, none⟩) NB621_623.out _).trans (((cell_far (p := ⟨gb623, _, none⟩) NB621_623.out _).trans (((cell_far (p := ⟨gb623, _, none⟩) NB621_623.out _).trans (((cell_far (p := ⟨gb623, _, none⟩) NB621_623.out _).trans (hHeld.2.1)))))))))), ((cell_far (p := ⟨gb623, _, none⟩) NB621_623.out _).trans (((cell_far (p := ⟨gb623, _, none⟩) NB621_623.out _).trans (((cell_far (p := ⟨gb623, _, none⟩) NB621_623.out _).trans (((cell_far (p := ⟨gb623, _, none⟩) NB621_623.out _).trans (((cell_far (p := ⟨gb623, _, none⟩) NB621_623.out _).trans (hHeld.2.2.1)))))))))), ((cell_far (p := ⟨gb623, _, none⟩) (by first | exact (Kd.own_blk (Kd.N_away HO_8.out (fun _ hk => hk.1.1.1.1.2.2.2.2.2.2.2.2.2.2.2.2.2.2.2.2.2.2.2)) :) | (rw [add_block]; exact (Kd.own_blk (Kd.N_away HO_8.out (fun _ hk => hk.1.1.1.1.2.2.2.2.2.2.2.2.2.2.2.2.2.2.2.2.2.2.2)) :)) | (show (Addr.add _ _).block ≠ _; rw [add_block]; exact (Kd.own_blk (Kd.N_away HO_8.out (fun _ hk => hk.1.1.1.1.2.2.2.2.2.2.2.2.2.2.2.2.2.2.2.2.2.2.2)) :)) | (dsimp only; exact (Kd.own_blk (Kd.N_away HO_8.out (fun _ hk => hk.1.1.1.1.2.2.2.2.2.2.2.2.2.2.2.2.2.2.2.2.2.2.2)) :))) _).trans (((cell_far (p := ⟨gb623, _, none⟩) (by first | exact (Kd.own_blk (Kd.N_away HO_8.out (fun _ hk => hk.1.1.1.1.2.2.2.2.2.2.2.2.2.2.2.2.2.2.2.2.2.2.2)) :) | (rw [add_block]; exact (Kd.own_blk (Kd.N_away HO_8.out (fun _ hk => hk.1.1.1.1.2.2.2.2.2.2.2.2.2.2.2.2.2.2.2.2.2.2.2)) :)) | (show (Addr.add _ _).block ≠ _; rw [add_block]; exact (Kd.own_blk (Kd.N_away HO_8.out (fun _ hk => hk.1.1.1.1.2.2.2.2.2.2.2.2.2.2.2.2.2.2.2.2.2.2.2)) :)) | (dsimp only; exact (Kd.own_blk (Kd.N_away HO_8.out (fun _ hk => hk.1.1.1.1.2.2.2.2.2.2.2.2.2.2.2.2.2.2.2.2.2.2.2)) :))) _).trans (((cell_far (p := ⟨gb623, _, none⟩) (by first | exact (Kd.own_blk (Kd.N_away HO_8.out (fun _ hk => hk.1.1.1.1.2.2.2.2.2.2.2.2.2.2.2.2.2.2.2.2.2.2.2)) :) | (rw [add_block]; exact (Kd.own_blk (Kd.N_away HO_8.out (fun _ hk => hk.1.1.1.1.2.2.2.2.2.2.2.2.2.2.2.2.2.2.2.2.2.2.2)) :)) | (show (Addr.add _ _).block ≠ _; rw [add_block]; exact (Kd.own_blk (Kd.N_away HO_8.out (fun _ hk => hk.1.1.1.1.2.2.2.2.2.2.2.2.2.2.2.2.2.2.2.2.2.2.2)) :)) | (dsimp only; exact (Kd.own_blk (Kd.N_away HO_8.out (fun _ hk => hk.1.1.1.1.2.2.2.2.2.2.2.2.2.2.2.2.2.2.2.2.2.2.2)) :))) _).trans (((cell_far (p := ⟨gb623, _, none⟩) (by first | exact (Kd.own_blk (Kd.N_away HO_8.out (fun _ hk => hk.1.1.1.1.2.2.2.2.2.2.2.2.2.2.2.2.2.2.2.2.2.2.2)) :) | (rw [add_block]; exact (Kd.own_blk (Kd.N_away HO_8.out (fun _ hk => hk.1.1.1.1.2.2.2.2.2.2.2.2.2.2.2.2.2.2.2.2.2.2.2)) :)) | (show (Addr.add _ _).block ≠ _; rw [add_block]; exact (Kd.own_blk (Kd.N_away HO_8.out (fun _ hk => hk.1.1.1.1.2.2.2.2.2.2.2.2.2.2.2.2.2.2.2.2.2.2.2)) :)) | (dsimp only; exact (Kd.own_blk (Kd.N_away HO_8.out (fun _ hk => hk.1.1.1.1.2.2.2.2.2.2.2.2.2.2.2.2.2.2.2.2.2.2.2)) :))) _).trans (((cell_far (p := ⟨gb623, _, none⟩) (by first | exact (Kd.own_blk (Kd.N_away HO_8.out (fun _ hk => hk.1.1.1.1.2.2.2.2.2.2.2.2.2.2.2.2.2.2.2.2.2.2.2)) :) | (rw [add_block]; exact (Kd.own_blk (Kd.N_away HO_8.out (fun _ hk => hk.1.1.1.1.2.2.2.2.2.2.2.2.2.2.2.2.2.2.2.2.2.2.2)) :)) | (show (Addr.add _ _).block ≠ _; rw [add_block]; exact (Kd.own_blk (Kd.N_away HO_8.out (fun _ hk => hk.1.1.1.1.2.2.2.2.2.2.2.2.2.2.2.2.2.2.2.2.2.2.2)) :)) | (dsimp only; exact (Kd.own_blk (Kd.N_away HO_8.out (fun _ hk => hk.1.1.1.1.2.2.2.2.2.2.2.2.2.2.2.2.2.2.2.2.2.2.2)) :))) _).trans (hHeld.2.2.2))))))))))⟩ (fun hHeld => ?_)
              clear hK K
              refine done_ (done_of HT_.out kr) ?_
              have hnb135 := NB623_596.out
              have hnc135 := NB596_623.out
              have hnb136 := NB623_621.out
              have hnc136 := NB621_623.out
              have hcz137_0 : w126.cell? ⟨gb623, 0, none⟩ = some (.int .i64 x624000_1) := (kC BK623.out 0).trans rfl
              have hcz137_1 : w126.cell? ⟨gb623, 1, none⟩ = some (.int .i64 x624001_1) := (kC BK623.out 1).trans rfl
              have hcz137_2 : w126.cell? ⟨gb623, 2, none⟩ = some (u624002) := (kC BK623.out 2).trans rfl
              have hcz137_3 : w126.cell? ⟨gb623, 3, none⟩ = some (u624003) := (kC BK623.out 3).trans rfl
              have hcz137_4 : w126.cell? ⟨gb623, 4, none⟩ = some (u624004) := (kC BK623.out 4).trans rfl
              have hfz137_0 := kF BK623.out 0
              have hfz137_1 := kF BK623.out 1
              have hfz137_2 := kF BK623.out 2
              have hfz137_3 := kF BK623.out 3
              have hfz137_4 := kF BK623.out 4
              have hcz138_0 : w126.cell? ⟨gb622, 0, none⟩ = some (.int .i64 t632) := (kC BK622.out 0).trans rfl
              have hcz138_1 : w126.cell? ⟨gb622, 1, none⟩ = some (.int .i64 t633) := (kC BK622.out 1).trans rfl
              have hcz138_2 : w126.cell? ⟨gb622, 2, none⟩ = some (.slice Ao116 t634.length co116) := (kC BK622.out 2).trans rfl
              have hcz138_3 : w126.cell? ⟨gb622, 3, none⟩ = some (.slice Ao117 t637.length co117) := (kC BK622.out 3).trans rfl
              have hcz138_4 : w126.cell? ⟨gb622, 4, none⟩ = some (.slice Ao118 t640.length co118) := (kC BK622.out 4).trans rfl
              have hfz138_0 := kF BK622.out 0
              have hfz138_1 := kF BK622.out 1
              have hfz138_2 := kF BK622.out 2
              have hfz138_3 := kF BK622.out 3
              have hfz138_4 := kF BK622.out 4
              try go_wp2
              go_ret
              exact ⟨ew, bq⟩
             ·rw [if_neg c102] at H
              have c102b0 : (t647 == 3) = false := beq_eq_false_iff_ne.mpr c102
              have c102b1 : (t647 != 3) = true := bne_iff_ne.mpr c102
              exact absurd (H.trans (congrArg some HLAW.out)) (by simp)
           ·rw [if_neg c58] at H
            exact absurd H (by simp)
          ·rw [if_neg c57] at H
           exact absurd H (by simp)
      ·rw [if_neg c49] at H
       have c49b0 : decide (x13_1 < 3) = false := decide_eq_false c49
       clear c49
       replace H := Option.bind_eq_some_iff.mp H
       obtain ⟨t624, A1390, H⟩ := H
       replace H : (if t624 = true then (some ((x623004_1.length : Int) == t582)) else (some false)) = some r := H
       have A139 := aM A1390
       clear A1390
       by_cases c140 : t624 = true
       ·subst c140
        have H1 : (some ((x623004_1.length : Int) == t582)) = some r := by rw [if_pos rfl] at H; exact H
        clear H
        have H := H1
        clear H1
        obtain rfl := Option.some.inj H
        have hnb141 := NB622_596.out
        have hnc141 := NB596_622.out
        have hnb142 := NB622_612.out
        have hnc142 := NB612_622.out
        have hnb143 := NB622_621.out
        have hnc143 := NB621_622.out
        have hnb144 := NB622_623.out
        have hnc144 := NB623_622.out
        have hcz145_0 : wr.cell? ⟨gb622, 0, none⟩ = some (.int .i64 x623000_1) := (kC BK622.out 0).trans rfl
        have hcz145_1 : wr.cell? ⟨gb622, 1, none⟩ = some (.int .i64 x623001_1) := (kC BK622.out 1).trans rfl
        have hcz145_2 : wr.cell? ⟨gb622, 2, none⟩ = some (u623002) := (kC BK622.out 2).trans rfl
        have hcz145_3 : wr.cell? ⟨gb622, 3, none⟩ = some (u623003) := (kC BK622.out 3).trans rfl
        have hcz145_4 : wr.cell? ⟨gb622, 4, none⟩ = some (u623004) := (kC BK622.out 4).trans rfl
        have hfz145_0 := kF BK622.out 0
        have hfz145_1 := kF BK622.out 1
        have hfz145_2 := kF BK622.out 2
        have hfz145_3 := kF BK622.out 3
        have hfz145_4 := kF BK622.out 4
        have hnb146 := NB623_596.out
        have hnc146 := NB596_623.out
        have hnb147 := NB623_612.out
        have hnc147 := NB612_623.out
        have hnb148 := NB623_621.out
        have hnc148 := NB621_623.out
        have hcz149_0 : wr.cell? ⟨gb623, 0, none⟩ = some (.int .i64 x624000_1) := (kC BK623.out 0).trans rfl
        have hcz149_1 : wr.cell? ⟨gb623, 1, none⟩ = some (.int .i64 x624001_1) := (kC BK623.out 1).trans rfl
        have hcz149_2 : wr.cell? ⟨gb623, 2, none⟩ = some (u624002) := (kC BK623.out 2).trans rfl
        have hcz149_3 : wr.cell? ⟨gb623, 3, none⟩ = some (u624003) := (kC BK623.out 3).trans rfl
        have hcz149_4 : wr.cell? ⟨gb623, 4, none⟩ = some (u624004) := (kC BK623.out 4).trans rfl
        have hfz149_0 := kF BK623.out 0
        have hfz149_1 := kF BK623.out 1
        have hfz149_2 := kF BK623.out 2
        have hfz149_3 := kF BK623.out 3
        have hfz149_4 := kF BK623.out 4
        have hnb150 := NB596_612.out
        have hnc150 := NB612_596.out
        have hnb151 := NB596_621.out
        have hnc151 := NB621_596.out
        have hcz152_0 : wr.cell? ⟨gb596, 0, none⟩ = some (.int .i64 t592) := (kC BK596.out 0).trans rfl
        have hcz152_1 : wr.cell? ⟨gb596, 1, none⟩ = some (.slice Ao18 t593.length co18) := (kC BK596.out 1).trans rfl
        have hfz152_0 := kF BK596.out 0
        have hfz152_1 := kF BK596.out 1
        obtain ⟨Ao153, co153, eo153⟩ := Kd.R_slice HO_623004.out
        subst eo153
        obtain ⟨Ao154, co154, eo154⟩ := Kd.R_slice HO_624004.out
        subst eo154
        go_wp2_with (first | ((with_reducible refine gate_callee (f := 40) rfl ?_); refine goesL_ (some 111) rfl rfl Try.func40 kr rfl #[.slice Ao153 x623004_1.length co153, .slice Ao154 x624004_1.length co154, .slice Ao18 t593.length co18] rfl mq ?_; (with_reducible refine (impl_IsWithin.calls k1 _ _ x623004_1 _ _ x624004_1 _ _ t593 true _ ?side1 ?side2 ?side3 ?side4 ?side5 ?side6 A139.out).mono ?_); (case side1 => exact cq (rR HO_623004.out).2.2); (case side2 => exact (rR HO_623004.out).2.1); (case side3 => exact cq (rR HO_624004.out).2.2); (case side4 => exact (rR HO_624004.out).2.1); (case side5 => exact cq (rR HO_597001.out).2.2); (case side6 => exact (rR HO_597001.out).2.1); rintro e w155 ⟨rfl, hb⟩; refine ⟨_, rfl, ?_⟩; replace HO_8 := aM (Kd.N_below (nq HO_8.out) hb); replace HO_597001 := aM (rL (rq HO_597001.out) hb); replace HO_613001 := aM (rL (rq HO_613001.out) hb); replace HO_613002 := aM (rL (rq HO_613002.out) hb); replace HO_622001 := aM (rL (rq HO_622001.out) hb); replace HO_622002 := aM (rL (rq HO_622002.out) hb); replace HO_623002 := aM (rL (rq HO_623002.out) hb); replace HO_623003 := aM (rL (rq HO_623003.out) hb); replace HO_623004 := aM (rL (rq HO_623004.out) hb); replace HO_624002 := aM (rL (rq HO_624002.out) hb); replace HO_624003 := aM (rL (rq HO_624003.out) hb); replace HO_624004 := aM (rL (rq HO_624004.out) hb); replace BK596 := aM (kB (kq BK596.out) hb); replace BK612 := aM (kB (kq BK612.out) hb); replace BK621 := aM (kB (kq BK621.out) hb); replace BK622 := aM (kB (kq BK622.out) hb); replace BK623 := aM (kB (kq BK623.out) hb); replace HB := aM (bT bq hb); (try clear hb); have hcz156_0 : w155.cell? ⟨gb622, 0, none⟩ = some (.int .i64 x623000_1) := (kC BK622.out 0).trans rfl; have hcz156_1 : w155.cell? ⟨gb622, 1, none⟩ = some (.int .i64 x623001_1) := (kC BK622.out 1).trans rfl; have hcz156_2 : w155.cell? ⟨gb622, 2, none⟩ = some (u623002) := (kC BK622.out 2).trans rfl; have hcz156_3 : w155.cell? ⟨gb622, 3, none⟩ = some (u623003) := (kC BK622.out 3).trans rfl; have hcz156_4 : w155.cell? ⟨gb622, 4, none⟩ = some (.slice Ao153 x623004_1.length co153) := (kC BK622.out 4).trans rfl; have hfz156_0 := kF BK622.out 0; have hfz156_1 := kF BK622.out 1; have hfz156_2 := kF BK622.out 2; have hfz156_3 := kF BK622.out 3; have hfz156_4 := kF BK622.out 4))
        go_ret
        exact ⟨ew, bq⟩
       ·replace c140 := Bool.eq_false_iff.mpr c140
        subst c140
        have H1 : (some false) = some r := by rw [if_neg (show ¬ (false = true) by decide)] at H; exact H
        clear H
        have H := H1
        clear H1
        exact absurd (H.trans (congrArg some HLAW.out)) (by simp)
   ·rw [if_neg c8] at H
    have c8b0 : (t592 == 0) = false := beq_eq_false_iff_ne.mpr c8
    have c8b1 : (t592 != 0) = true := bne_iff_ne.mpr c8
    obtain rfl := Option.some.inj H
    go_enter Try.func6, Try.ntmps6
    try go_wp2_with (first | ((with_reducible refine gate_callee (f := 35) rfl ?_); refine goesL_ (some 17) rfl rfl Try.func35 kr rfl #[.slice A0 l0.length c0] rfl mq ?_; (with_reducible refine (laws_lwBig.calls _ _ l0 false _ ?side1 ?side2 A2.out).mono ?_); (case side1 => exact cq HR0.out); (case side2 => exact HC0.out); rintro e w' ⟨rfl, ⟨nd, rfl⟩⟩; refine ⟨_, rfl, ?_⟩) | ((with_reducible refine gate_callee (f := 36) rfl ?_); refine goesL_ (some 20) rfl rfl Try.func36 kr rfl #[.slice A0 l0.length c0] rfl mq ?_; (with_reducible refine (spec_DrawFrameBounds.calls k _ _ l0 t582 t583 t584 t585 _ ?side1 ?side2 A4.out).mono ?_); (case side1 => exact cq HR0.out); (case side2 => exact HC0.out); rintro e w157 ⟨v586, v588, v590, rfl, ho0, ho1, ho2, hb⟩; refine ⟨_, rfl, ?_⟩; have HO587 := aM (rG ho0 (bZ bq)); have HO589 := aM (rG ho1 (bZ bq)); have HO591 := aM (rG ho2 (bZ bq)); replace HB := aM (bT bq hb); (try clear hb); (try clear ho0); (try clear ho1); (try clear ho2); obtain ⟨Ao158, co158, eo158⟩ := Kd.R_slice HO587.out; subst eo158; obtain ⟨Ao159, co159, eo159⟩ := Kd.R_slice HO589.out; subst eo159; obtain ⟨Ao160, co160, eo160⟩ := Kd.R_slice HO591.out; subst eo160) | ((with_reducible refine gate_callee (f := 11) rfl ?_); refine goesL_ (some 29) rfl rfl Try.func11 kr rfl #[.int .i64 t582, .slice Ao158 t583.length co158, .slice Ao159 t584.length co159, .slice Ao160 t585.length co160] rfl mq ?_; (with_reducible refine (impl_FrameBounds.calls k t582 _ _ t583 _ _ t584 _ _ t585 t592 t593 _ ?side1 ?side2 ?side3 ?side4 ?side5 ?side6 A5.out).mono ?_); (case side1 => exact cq (rR HO587.out).2.2); (case side2 => exact (rR HO587.out).2.1); (case side3 => exact cq (rR HO589.out).2.2); (case side4 => exact (rR HO589.out).2.1); (case side5 => exact cq (rR HO591.out).2.2); (case side6 => exact (rR HO591.out).2.1); rintro e w161 ⟨v594, rfl, ho0, hb⟩; refine ⟨_, rfl, ?_⟩; have HO595 := aM (rG (rW (rW (rW ho0 (rT (rq HO587.out))) (rT (rq HO589.out))) (rT (rq HO591.out))) (bZ bq)); replace HO587 := aM (rH (rq HO587.out) (rB ho0) hb); replace HO589 := aM (rH (rq HO589.out) (rB ho0) hb); replace HO591 := aM (rH (rq HO591.out) (rB ho0) hb); replace HB := aM (bT bq hb); (try clear hb); (try clear ho0)) | ((with_reducible refine gate_dst (N := 7) rfl ?_); (try (refine gate_guard (by rfl) ?_; dsimp only)); refine box_event ?hg (N := 7) ?hd (cs := #[.int .i64 0, .slice none 0 0]) (t := 24) ?hr ?_; (case hd => rfl); (case hg => rfl); (case hr => first | (go_simp; done) | (go_simp; rfl)); intro gb596 hg w162 hbox hb; replace HO587 := aM (rL (rq HO587.out) hb); replace HO589 := aM (rL (rq HO589.out) hb); replace HO591 := aM (rL (rq HO591.out) hb); replace HO595 := aM (rL (rq HO595.out) hb); have BK596 := aM (hbox); have GW596 := aM ((by rw [hg]; exact (bZ bq) : w.heap.size ≤ gb596)); have GE596 := aM ((by rw [hg]; exact (bZ bq) : w.heap.size ≤ gb596)); replace HB := aM (bT bq hb); clear hb hbox hg; have hcz163_0 : w162.cell? ⟨gb596, 0, none⟩ = some (.int .i64 0) := (kC BK596.out 0).trans rfl; have hcz163_1 : w162.cell? ⟨gb596, 1, none⟩ = some (.slice none 0 0) := (kC BK596.out 1).trans rfl; have hfz163_0 := kF BK596.out 0; have hfz163_1 := kF BK596.out 1; obtain ⟨Ao164, co164, eo164⟩ := Kd.R_slice HO595.out; subst eo164))
    generalize hgw_ : ((w162.setCell ⟨gb596, 0, none⟩ (.int .i64 t592)).setCell ⟨gb596, 1, none⟩ (.slice Ao164 t593.length co164)) = w165
    have n0_ : Aside0 (Kd.R (Kd.int .i64) 2 w165 w.heap.size (fun k_ => nS Ao159 t584 co159 k_ ∧ nS Ao160 t585 co160 k_ ∧ nS Ao164 t593 co164 k_) (.slice Ao158 t583.length co158) t583) := ⟨by rw [← hgw_]; exact rM (rf (Kd.R_types HO587.out BK596.out (by decide))) jq⟩
    have n1_ : Aside0 (Kd.R (Kd.int .i64) 2 w165 w.heap.size (fun k_ => nS Ao158 t583 co158 k_ ∧ nS Ao160 t585 co160 k_ ∧ nS Ao164 t593 co164 k_) (.slice Ao159 t584.length co159) t584) := ⟨by rw [← hgw_]; exact rM (rf (Kd.R_types HO589.out BK596.out (by decide))) jq⟩
    have n2_ : Aside0 (Kd.R (Kd.int .i64) 2 w165 w.heap.size (fun k_ => nS Ao158 t583 co158 k_ ∧ nS Ao159 t584 co159 k_ ∧ nS Ao164 t593 co164 k_) (.slice Ao160 t585.length co160) t585) := ⟨by rw [← hgw_]; exact rM (rf (Kd.R_types HO591.out BK596.out (by decide))) jq⟩
    have n3_ : Aside0 (Kd.R (Kd.int .i64) 2 w165 w.heap.size (fun k_ => nS Ao158 t583 co158 k_ ∧ nS Ao159 t584 co159 k_ ∧ nS Ao160 t585 co160 k_) (.slice Ao164 t593.length co164) t593) := ⟨by rw [← hgw_]; exact rM (rf (Kd.R_types HO595.out BK596.out (by decide))) jq⟩
    have n4_ : Aside0 (w165.heap[gb596]? = some (.cells #[.int .i64 t592, .slice Ao164 t593.length co164] 24 (0, 0))) := ⟨by rw [← hgw_]; exact fq BK596.out⟩
    have n5_ : Aside0 (Below w.heap.size w w165) := ⟨by rw [← hgw_]; repeat (first | (with_reducible first | exact HB.out | apply bA | apply bN | apply bD | refine bS ?_ GE596.out) | exact HB.out)⟩
    (try clear HO587)
    (try clear HO589)
    (try clear HO591)
    (try clear HO595)
    (try clear BK596)
    (try clear HB)
    clear hgw_
    have HO587 := n0_
    have HO589 := n1_
    have HO591 := n2_
    have HO595 := n3_
    have BK596 := n4_
    have HB := n5_
    clear n0_ n1_ n2_ n3_ n4_ n5_
    replace HO587 := aM (rD HO587.out)
    replace HO589 := aM (rD HO589.out)
    replace HO591 := aM (rD HO591.out)
    replace HO595 := aM (rD HO595.out)
    replace BK596 := aM (kD BK596.out)
    replace HB := aM (bD HB.out)
    refine start_ (n := 9) (S := fun w' => w'.cell? ⟨gb596, 0, none⟩ = some (.int .i64 t592) ∧ w'.cell? ⟨gb596, 1, none⟩ = some (.slice Ao164 t593.length co164)) (ds := []) #[N,N,N,N,N,N,N,N,N] kr rfl rfl ⟨(kC BK596.out 0).trans rfl, (kC BK596.out 1).trans rfl⟩ (fun hHeld => ?_); refine with_tabW laws_FnFrameBounds.tab5 laws_FnFrameBounds.bits5 (fun HT_ HW_ => ?_)
    generalize w165.drew = w166 at HO587 HO589 HO591 HO595 BK596 HB hHeld ⊢
    refine pp HT_ (N := some 30) 0 #[Y,N,N,N,N,N,N,N,N] ?_
    refine pp HT_ (N := some 32) 2 #[Y,N,Y,N,N,N,N,N,N] ?_
    refine pp HT_ (N := some 33) 3 #[Y,N,Y,Y,N,N,N,N,N] ?_
    refine pp HT_ (N := some 34) 4 #[Y,N,Y,Y,Y,N,N,N,N] ?_
    refine pp HT_ (N := some 35) 5 #[Y,N,Y,Y,Y,Y,N,N,N] ?_
    refine take_ (i := 1) (N := some 31) (v := ?_) (a' := ?_) #[Y,Y,Y,Y,Y,Y,N,N,N] rfl rfl (take_ofW HT_.out HW_.out kr) (fun _ _ _ h => h) (Or.inl ⟨by rfl, ?_⟩) hHeld ?_ ?_
    rotate_left
    ·rintro w' ⟨s0, s1⟩
     go_simp
     with_reducible rfl
    rotate_left
    ·simp only [Act.put, pa, pb, pc, i64_w, i32_w]
     rfl
    refine one_ (i := 6) (N := some 36) #[Y,Y,Y,Y,Y,Y,Y,N,N] rfl rfl (one_of HT_.out kr) (by decide) (fun K hK => ?_)
    refine goes_ Try.func9 kr rfl #[.int .i64 t582, .slice Ao158 t583.length co158, .slice Ao159 t584.length co159, .slice Ao160 t585.length co160] (by rfl) rfl rfl mq ?_
    with_reducible refine (spec_FrameBounds.calls k t582 _ _ t583 _ _ t584 _ _ t585 t597 t598 _ ?side1 ?side2 ?side3 ?side4 ?side5 ?side6 A6.out).mono ?_
    (case side1 => exact cq (rR HO587.out).2.2)
    (case side2 => exact (rR HO587.out).2.1)
    (case side3 => exact cq (rR HO589.out).2.2)
    (case side4 => exact (rR HO589.out).2.1)
    (case side5 => exact cq (rR HO591.out).2.2)
    (case side6 => exact (rR HO591.out).2.1)
    rintro e w167 ⟨v599, rfl, ho0, hb⟩
    refine ⟨_, rfl, ?_⟩
    have HO600 := aM (rG (rW (rW (rW (rW ho0 (rT (rq HO587.out))) (rT (rq HO589.out))) (rT (rq HO591.out))) (rT (rq HO595.out))) (bZ bq))
    replace HO587 := aM (rH (rq HO587.out) (rB ho0) hb)
    replace HO589 := aM (rH (rq HO589.out) (rB ho0) hb)
    replace HO591 := aM (rH (rq HO591.out) (rB ho0) hb)
    replace HO595 := aM (rH (rq HO595.out) (rB ho0) hb)
    replace BK596 := aM (kB (kq BK596.out) hb)
    replace HB := aM (bT bq hb)
    (try clear hb)
    (try clear hb2)
    (try clear hk)
    (try clear hi)
    (try clear ho0)
    refine hK.out _ _ ⟨(kC BK596.out 0).trans rfl, (kC BK596.out 1).trans rfl⟩ (fun hHeld => ?_)
    clear hK K
    refine norm_ (a' := ?_) ?_ ?_
    rotate_left
    ·show Act.put _ (some 36) _ = _
     simp only [Act.put, pa, pb, pc, i64_w, i32_w]
     rfl
    refine pp HT_ (N := some 37) 7 #[Y,Y,Y,Y,Y,Y,Y,Y,N] ?_
    refine pp HT_ (N := some 38) 8 #[Y,Y,Y,Y,Y,Y,Y,Y,Y] ?_
    refine done_ (done_of HT_.out kr) ?_
    have hcz168_0 : w167.cell? ⟨gb596, 0, none⟩ = some (.int .i64 t592) := (kC BK596.out 0).trans rfl
    have hcz168_1 : w167.cell? ⟨gb596, 1, none⟩ = some (.slice Ao164 t593.length co164) := (kC BK596.out 1).trans rfl
    have hfz168_0 := kF BK596.out 0
    have hfz168_1 := kF BK596.out 1
    try go_wp2
    go_ret
    exact ⟨ew, bq⟩
  ·rw [if_neg c7] at H
   have c7b0 : (t592 == t597) = false := beq_eq_false_iff_ne.mpr c7
   have c7b1 : (t592 != t597) = true := bne_iff_ne.mpr c7
   exact absurd (H.trans (congrArg some HLAW.out)) (by simp)

/-- THE ONE PURE STATEMENT of laws_FnFrameBounds: yours. -/
def laws_FnFrameBounds.Pure : Prop := ∀ (l0 : List Int), l0.length ≤ maxLen → l0.length * 1 ≤ 140737488351232 → (∀ x ∈ l0, (Lit.int .u8 x).wf = true) → ∃ k, laws_FnFrameBounds.f k l0 = some true
theorem laws_FnFrameBounds.walk (P : laws_FnFrameBounds.Pure) (a0 : Option Addr) (len0 cap0 : Nat) (z0 : List Int) (w : World) (w0 : (a0 = none ∧ len0 = 0 ∧ cap0 = 0 ∧ z0 = []) ∨ ∃ x, a0 = some x ∧ len0 ≤ cap0 ∧ cap0 ≤ maxLen ∧ z0.length = cap0 ∧ (∀ i, i < z0.length → w.cell? (x.add i) = some (.int .u8 (z0.getD i 0))) ∧ ∀ n ∈ z0, (Lit.int .u8 n).wf = true) (y0 : len0 * 1 ≤ 140737488351232) :
  Calls Try.prog 6 #[.slice a0 len0 cap0] w fun e w' => e = .returned (.bool true) ∧ Below w.heap.size w w' := by
 obtain ⟨l0, rfl, hr0, hm0, hw0, hc0⟩ := ReadsInt.ofRowC w0
 obtain ⟨k, h⟩ := P l0 hm0 y0 hw0
 refine (laws_FnFrameBounds.calls k _ _ l0 true w (Kd.C_of_reads (d := (0 : Int)) (h1 := fun _ => rfl) hr0) hc0 h).mono ?_
 rintro e w' ⟨rfl, hd⟩
 exact ⟨rfl, hd⟩

end Go.Proofs.Ytmhnpogjkbmmnaa.PFnFrameBounds
