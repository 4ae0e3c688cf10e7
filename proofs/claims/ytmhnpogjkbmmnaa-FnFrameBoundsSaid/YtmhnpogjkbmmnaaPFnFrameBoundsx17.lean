-- Written by a program of this session: wip/mkprint.py over the kit's print, with contracts proved by hand (wip/given.py)
-- told shortest
-- told shorter still
-- shortened
-- told short
-- worlds by letters
-- squeezed
import Derived.Test.YtmhnpogjkbmmnaaPFnFrameBoundsx0
import Derived.Test.YtmhnpogjkbmmnaaPFnFrameBoundsx10
namespace Go.Proofs.Ytmhnpogjkbmmnaa.PFnFrameBounds
open Go.RowKit Go.Proofs.YtmhnpogjkbmmnaaW.PrintWords Go.Proofs.YtmhnpogjkbmmnaaW.PrintLast Go.Proofs.YtmhnpogjkbmmnaaW.PrintMore
open Go.Proofs.YtmhnpogjkbmmnaaW.PrintWords.Kd renaming C_below → cB
open Go.Proofs.YtmhnpogjkbmmnaaW.PrintWords renaming below_drew1 → bD, below_step → bT
open Go.Proofs.YtmhnpogjkbmmnaaW.PrintWords.Aside0 renaming mk → aM
attribute [local go_sem] max2_int min2_int max_two min_two max_three min_three max_four min_four   -- for this text's walks alone
set_option linter.unusedVariables false
set_option linter.unusedSimpArgs false

/-! ### impl_abs: function 88 -/
def impl_abs.f (a0 : Int) : Option (Int) := some (mx a0 (wrap64 (-a0)))
set_option maxHeartbeats 8000000 in
set_option maxRecDepth 100000 in
theorem impl_abs.calls (a0 : Int) (r : Int) (w : World) (h : impl_abs.f a0 = some r) :
  Calls Try.prog 88 #[.int .i64 a0] w fun e w' => e = .returned (.int .i64 r) ∧ Below w.heap.size w w' := by
 have HB := aM (Below.refl w.heap.size w)
 have H : (some (mx a0 (wrap64 (-a0)))) = some r := h
 clear h
 obtain ⟨ji2, hji2⟩ : ∃ j_ : Int, (mx a0 (wrap64 (-a0))) = j_ := ⟨_, rfl⟩
 replace H : (some ji2) = some r := by first | (rw [hji2] at H; exact H) | (simp only [hji2] at H ⊢; exact H)
 have hji2_ : (if a0 < (wrap64 (-a0)) then (wrap64 (-a0)) else a0) = ji2 := hji2
 obtain rfl := Option.some.inj H
 go_enter Try.func88, Try.ntmps88
 go_wp2
 go_ret
 exact ⟨by first | rfl | (simp [errW_none, errW_some] <;> rfl) | (simp only [← hji2]; first | rfl | (simp [errW_none, errW_some] <;> rfl)) | (simp [*, errW_none, errW_some] <;> rfl), bq⟩

/-! ### impl_IsWithin: function 40 -/
mutual
def impl_IsWithin.j0 : Nat → List Int → List Int → List Int → Bool → Option (Bool)
 | 0, _, _, _, _ => none
 | k + 1, x0, x1, x2, x29 => if x29 = true then (some false) else (impl_IsWithin.l0 k x0 x1 x2 (x0.length : Int) 0)
def impl_IsWithin.l0 : Nat → List Int → List Int → List Int → Int → Int → Option (Bool)
 | 0, _, _, _, _, _ => none
 | k + 1, x0, x1, x2, x31, x32 => if x32 < x31 then (if 0 ≤ x32 then (if x32 < (x0.length : Int) then (if x32 < (x1.length : Int) then ((impl_abs.f (wrap64 ((rd x0 x32) - (rd x1 x32)))).bind fun t579 => (if x32 < (x2.length : Int) then (if t579 > (rd x2 x32) then (some false) else (impl_IsWithin.l0 k x0 x1 x2 x31 (wrap64 (x32 + 1)))) else (none))) else (none)) else (none)) else (none)) else (some true)
end
def impl_IsWithin.f (k : Nat) (l0 : List Int) (l1 : List Int) (l2 : List Int) : Option (Bool) := if (l0.length : Int) = (l1.length : Int) then (if (l0.length : Int) = (l2.length : Int) then ((impl_allWithin.f l0 1099511627776).bind fun t575 => (if t575 = true then ((impl_allWithin.f l1 1099511627776).bind fun t576 => (impl_IsWithin.j0 k l0 l1 l2 (!t576))) else (impl_IsWithin.j0 k l0 l1 l2 true))) else (impl_IsWithin.j0 k l0 l1 l2 true)) else (impl_IsWithin.j0 k l0 l1 l2 true)
theorem impl_IsWithin.mono_l : ∀ k, (∀ y0 y1 y2 y3, LeO (impl_IsWithin.j0 k y0 y1 y2 y3) (impl_IsWithin.j0 (k + 1) y0 y1 y2 y3)) ∧ (∀ y0 y1 y2 y3 y4, LeO (impl_IsWithin.l0 k y0 y1 y2 y3 y4) (impl_IsWithin.l0 (k + 1) y0 y1 y2 y3 y4))
 | 0 => ⟨fun _ _ _ _ r h => by simp [impl_IsWithin.j0] at h, fun _ _ _ _ _ r h => by simp [impl_IsWithin.l0] at h⟩
 | k + 1 => by
  obtain ⟨ih0, ih1⟩ := impl_IsWithin.mono_l k
  refine ⟨?_, ?_⟩
  ·intro y0 y1 y2 y3
   unfold impl_IsWithin.j0
   repeat' first
   | (with_reducible exact ih0 _ _ _ _)
   | (with_reducible exact ih1 _ _ _ _ _)
   | (with_reducible exact LeO.refl _)
   | (with_reducible exact LeO.none _)
   | (with_reducible refine LeO.ite ?_ ?_)
   | (with_reducible refine LeO.bind ?_ (fun _ => ?_))
   | exact ih0 _ _ _ _
   | exact ih1 _ _ _ _ _
   | exact LeO.none _
   | refine LeO.ite ?_ ?_
   | refine LeO.bind ?_ (fun _ => ?_)
  ·intro y0 y1 y2 y3 y4
   unfold impl_IsWithin.l0
   repeat' first
   | (with_reducible exact ih0 _ _ _ _)
   | (with_reducible exact ih1 _ _ _ _ _)
   | (with_reducible exact LeO.refl _)
   | (with_reducible exact LeO.none _)
   | (with_reducible refine LeO.ite ?_ ?_)
   | (with_reducible refine LeO.bind ?_ (fun _ => ?_))
   | exact ih0 _ _ _ _
   | exact ih1 _ _ _ _ _
   | exact LeO.none _
   | refine LeO.ite ?_ ?_
   | refine LeO.bind ?_ (fun _ => ?_)
theorem impl_IsWithin.mono : ∀ a0 a1 a2 k, LeO (impl_IsWithin.f k a0 a1 a2) (impl_IsWithin.f (k + 1) a0 a1 a2) := by
 intro a0 a1 a2 k
 obtain ⟨ih0, ih1⟩ := impl_IsWithin.mono_l k
 unfold impl_IsWithin.f
 repeat' first
   | (with_reducible exact ih0 _ _ _ _)
   | (with_reducible exact ih1 _ _ _ _ _)
   | (with_reducible exact LeO.refl _)
   | (with_reducible exact LeO.none _)
   | (with_reducible refine LeO.ite ?_ ?_)
   | (with_reducible refine LeO.bind ?_ (fun _ => ?_))
   | exact ih0 _ _ _ _
   | exact ih1 _ _ _ _ _
   | exact LeO.none _
   | refine LeO.ite ?_ ?_
   | refine LeO.bind ?_ (fun _ => ?_)
def impl_IsWithin.T6 : Bool × List (List Nat × List Nat) := (true, [([], []), ([], []), ([0, 1], [0, 1]), ([2], [2]), ([], []), ([], []), ([4, 5], [4, 5]), ([6], [6]), ([3, 7], [3, 7]), ([8], [8]), ([], []), ([], []), ([10, 11], [10, 11]), ([12], [12]), ([9, 13], [9, 13])])
def impl_IsWithin.B6 : List Nat := [0, 0, 3, 7, 0, 0, 48, 112, 255, 511, 0, 0, 3072, 7168, 16383]
theorem impl_IsWithin.tab6 : rtab .any (opsOf Try.f40 6) = impl_IsWithin.T6 := by kernel_rfl
theorem impl_IsWithin.bits6 : waitsOk impl_IsWithin.T6.2 impl_IsWithin.B6 = true := by kernel_rfl
set_option maxHeartbeats 8000000 in
set_option maxRecDepth 100000 in
theorem impl_IsWithin.calls (k : Nat) (A0 : Option Addr) (c0 : Nat) (l0 : List Int) (A1 : Option Addr) (c1 : Nat) (l1 : List Int) (A2 : Option Addr) (c2 : Nat) (l2 : List Int) (r : Bool) (w : World) (hr0 : Kd.C (Kd.int .i64) w A0 l0.length l0) (hc0 : l0.length ≤ c0) (hr1 : Kd.C (Kd.int .i64) w A1 l1.length l1) (hc1 : l1.length ≤ c1) (hr2 : Kd.C (Kd.int .i64) w A2 l2.length l2) (hc2 : l2.length ≤ c2) (h : impl_IsWithin.f k l0 l1 l2 = some r) :
  Calls Try.prog 40 #[.slice A0 l0.length c0, .slice A1 l1.length c1, .slice A2 l2.length c2] w fun e w' => e = .returned (.bool r) ∧ Below w.heap.size w w' := by
 have HR0 := aM hr0
 have HC0 := aM hc0
 clear hr0 hc0
 have HR1 := aM hr1
 have HC1 := aM hc1
 clear hr1 hc1
 have HR2 := aM hr2
 have HC2 := aM hc2
 clear hr2 hc2
 have HB := aM (Below.refl w.heap.size w)
 have H : (if (l0.length : Int) = (l1.length : Int) then (if (l0.length : Int) = (l2.length : Int) then ((impl_allWithin.f l0 1099511627776).bind fun t575 => (if t575 = true then ((impl_allWithin.f l1 1099511627776).bind fun t576 => (impl_IsWithin.j0 k l0 l1 l2 (!t576))) else (impl_IsWithin.j0 k l0 l1 l2 true))) else (impl_IsWithin.j0 k l0 l1 l2 true)) else (impl_IsWithin.j0 k l0 l1 l2 true)) = some r := h
 clear h
 have HC4 := aM H
 clear H
 go_enter Try.func40, Try.ntmps40
 go_upto_region 1 with (fail)
 go_cut [29] (fun v29 wc => ∃ (kq : Nat) (x29_3 : Bool), v29 = .bool x29_3 ∧ Aside0 (impl_IsWithin.j0 kq l0 l1 l2 x29_3 = some r) ∧ Aside0 (kq ≤ k) ∧ Aside0 (Below w.heap.size w wc))
 case first =>
  have H := HC4.out
  clear HC4
  by_cases c5 : (l0.length : Int) = (l1.length : Int)
  ·rw [if_pos c5] at H
   have c5b0 : ((l0.length : Int) == (l1.length : Int)) = true := beq_iff_eq.mpr c5
   have c5b1 : ((l0.length : Int) != (l1.length : Int)) = false := bne_eq_false_iff_eq.mpr c5
   have c5b2 : (l0.length == l1.length) = true := by first | simpa using c5 | (simp at c5 ⊢; omega)
   clear c5
   (first | rw [c5b0] | (simp only [i64_w, i32_w]; rw [c5b0]) | skip)
   by_cases c6 : (l0.length : Int) = (l2.length : Int)
   ·rw [if_pos c6] at H
    have c6b0 : ((l0.length : Int) == (l2.length : Int)) = true := beq_iff_eq.mpr c6
    have c6b1 : ((l0.length : Int) != (l2.length : Int)) = false := bne_eq_false_iff_eq.mpr c6
    have c6b2 : (l0.length == l2.length) = true := by first | simpa using c6 | (simp at c6 ⊢; omega)
    clear c6
    replace H := Option.bind_eq_some_iff.mp H
    obtain ⟨t575, A70, H⟩ := H
    replace H : (if t575 = true then ((impl_allWithin.f l1 1099511627776).bind fun t576 => (impl_IsWithin.j0 k l0 l1 l2 (!t576))) else (impl_IsWithin.j0 k l0 l1 l2 true)) = some r := H
    have A7 := aM A70
    clear A70
    by_cases c8 : t575 = true
    ·subst c8
     have H1 : ((impl_allWithin.f l1 1099511627776).bind fun t576 => (impl_IsWithin.j0 k l0 l1 l2 (!t576))) = some r := by rw [if_pos rfl] at H; exact H
     clear H
     have H := H1
     clear H1
     replace H := Option.bind_eq_some_iff.mp H
     obtain ⟨t576, A90, H⟩ := H
     replace H : (impl_IsWithin.j0 k l0 l1 l2 (!t576)) = some r := H
     have A9 := aM A90
     clear A90
     have H' := aM H
     clear H
     go_wp2_with (first | (go_at_call 87; (with_reducible refine (impl_allWithin.calls _ _ l0 1099511627776 true _ ?side1 ?side2 A7.out).mono ?_); (case side1 => exact cq (cB HR0.out HB.out)); (case side2 => exact HC0.out); rintro e w10 ⟨rfl, hb⟩; replace HB := aM (bT bq hb); (try clear hb)) | (go_at_call 87; (with_reducible refine (impl_allWithin.calls _ _ l1 1099511627776 t576 _ ?side1 ?side2 A9.out).mono ?_); (case side1 => exact cq (cB HR1.out HB.out)); (case side2 => exact HC1.out); rintro e w11 ⟨rfl, hb⟩; replace HB := aM (bT bq hb); (try clear hb)))
     go_meet
     case rel => exact ⟨_, (!t576), (ex), H', ⟨by first | omega | exact Nat.le_refl _⟩, ⟨bq⟩⟩
    ·replace c8 := Bool.eq_false_iff.mpr c8
     subst c8
     have H1 : (impl_IsWithin.j0 k l0 l1 l2 true) = some r := by rw [if_neg (show ¬ (false = true) by decide)] at H; exact H
     clear H
     have H := H1
     clear H1
     have H' := aM H
     clear H
     go_wp2_with (first | (go_at_call 87; (with_reducible refine (impl_allWithin.calls _ _ l0 1099511627776 false _ ?side1 ?side2 A7.out).mono ?_); (case side1 => exact cq (cB HR0.out HB.out)); (case side2 => exact HC0.out); rintro e w12 ⟨rfl, hb⟩; replace HB := aM (bT bq hb); (try clear hb)))
     go_meet
     case rel => exact ⟨_, (true), (ex), H', ⟨by first | omega | exact Nat.le_refl _⟩, ⟨bq⟩⟩
   ·rw [if_neg c6] at H
    have c6b0 : ((l0.length : Int) == (l2.length : Int)) = false := beq_eq_false_iff_ne.mpr c6
    have c6b1 : ((l0.length : Int) != (l2.length : Int)) = true := bne_iff_ne.mpr c6
    have c6b2 : (l0.length == l2.length) = false := by first | simpa using c6 | (simp at c6 ⊢; omega)
    have H' := aM H
    clear H
    go_wp2
    go_meet
    case rel => exact ⟨_, (true), (ex), H', ⟨by first | omega | exact Nat.le_refl _⟩, ⟨bq⟩⟩
  ·rw [if_neg c5] at H
   have c5b0 : ((l0.length : Int) == (l1.length : Int)) = false := beq_eq_false_iff_ne.mpr c5
   have c5b1 : ((l0.length : Int) != (l1.length : Int)) = true := bne_iff_ne.mpr c5
   have c5b2 : (l0.length == l1.length) = false := by first | simpa using c5 | (simp at c5 ⊢; omega)
   (first | rw [c5b0] | (simp only [i64_w, i32_w]; rw [c5b0]) | skip)
   have H' := aM H
   clear H
   go_wp2
   go_meet
   case rel => exact ⟨_, (true), (ex), H', ⟨by first | omega | exact Nat.le_refl _⟩, ⟨bq⟩⟩
 case rest =>
  clear HC4
  try clear c1
  try clear c2
  try clear p2
  try clear c4
  try clear c5
  try clear c5b0
  try clear c5b1
  try clear c5b2
  try clear c6
  try clear c6b0
  try clear c6b1
  try clear c6b2
  try clear c8
  obtain ⟨kq, x29_3, rfl, HA, HJ3, HB⟩ := hcut
  cases kq with
  | zero => exact absurd HA.out (by simp [impl_IsWithin.j0])
  | succ kj3 =>
   have H := HA.out
   clear HA
   simp only [impl_IsWithin.j0] at H
   by_cases c13 : x29_3 = true
   ·subst c13
    have H1 : (some false) = some r := by rw [if_pos rfl] at H; exact H
    clear H
    have H := H1
    clear H1
    obtain rfl := Option.some.inj H
    go_wp2
    go_ret
    exact ⟨ew, bq⟩
   ·replace c13 := Bool.eq_false_iff.mpr c13
    subst c13
    have H1 : (impl_IsWithin.l0 kj3 l0 l1 l2 (l0.length : Int) 0) = some r := by rw [if_neg (show ¬ (false = true) by decide)] at H; exact H
    clear H
    have H := H1
    clear H1
    have H' := aM H
    clear H
    go_wp2
    go_loopg [32] kj3 (fun kq v32 w' => ∃ (x32_2 : Int), v32 = .int .i64 x32_2 ∧ Aside0 (impl_IsWithin.l0 kq l0 l1 l2 (l0.length : Int) x32_2 = some r) ∧ Aside0 (kq ≤ kj3) ∧ Aside0 (Below w.heap.size w w'))
    case atStart => exact ⟨(0), (ex), H', ⟨Nat.le_refl _⟩, ⟨bq⟩⟩
    case round =>
     clear H'
     try clear c1
     try clear c2
     try clear p2
     try clear c4
     try clear c5
     try clear c5b0
     try clear c5b1
     try clear c5b2
     try clear c6
     try clear c6b0
     try clear c6b1
     try clear c6b2
     try clear c8
     try clear c13
     try clear p2
     obtain ⟨x32_2, rfl, HA, HK2, HB⟩ := hrel
     cases gk with
     | zero => exact absurd HA.out (by simp [impl_IsWithin.l0])
     | succ k2 =>
      have H := HA.out
      clear HA
      simp only [impl_IsWithin.l0] at H
      by_cases c14 : x32_2 < (l0.length : Int)
      ·rw [if_pos c14] at H
       have c14b0 : decide (x32_2 < (l0.length : Int)) = true := decide_eq_true c14
       clear c14
       by_cases c15 : 0 ≤ x32_2
       ·rw [if_pos c15] at H
        have c15b0 : decide (0 ≤ x32_2) = true := decide_eq_true c15
        clear c15
        by_cases c16 : x32_2 < (l0.length : Int)
        ·rw [if_pos c16] at H
         have c16b0 : decide (x32_2 < (l0.length : Int)) = true := decide_eq_true c16
         clear c16
         by_cases c17 : x32_2 < (l1.length : Int)
         ·rw [if_pos c17] at H
          have c17b0 : decide (x32_2 < (l1.length : Int)) = true := decide_eq_true c17
          clear c17
          replace H := Option.bind_eq_some_iff.mp H
          obtain ⟨t579, A180, H⟩ := H
          replace H : (if x32_2 < (l2.length : Int) then (if t579 > (rd l2 x32_2) then (some false) else (impl_IsWithin.l0 k2 l0 l1 l2 (l0.length : Int) (wrap64 (x32_2 + 1)))) else (none)) = some r := H
          have A18 := aM A180
          clear A180
          by_cases c19 : x32_2 < (l2.length : Int)
          ·rw [if_pos c19] at H
           have c19b0 : decide (x32_2 < (l2.length : Int)) = true := decide_eq_true c19
           clear c19
           by_cases c20 : t579 > (rd l2 x32_2)
           ·rw [if_pos c20] at H
            have c20b0 : decide ((rd l2 x32_2) < t579) = true := decide_eq_true c20
            clear c20
            obtain rfl := Option.some.inj H
            try go_wp2
            replace HB := aM (bD HB.out)
            have p577 : 0 ≤ (x32_2 : Int) := of_decide_eq_true (by first | (with_reducible assumption) | assumption)
            have q577 : x32_2 < (l0.length : Int) := of_decide_eq_true (by first | (with_reducible assumption) | assumption)
            obtain ⟨ad577, e577, hx577_0⟩ := Kd.at_int HR0.out x32_2 p577 q577
            have hw577_0 := hx577_0
            cases e577
            replace hx577_0 := (HB.out.cell (World.block_lt_of_cell? w _ hx577_0)).trans hx577_0
            replace p577 := eq_true p577
            replace q577 := eq_true q577
            have p578 : 0 ≤ (x32_2 : Int) := of_decide_eq_true (by first | (with_reducible assumption) | assumption)
            have q578 : x32_2 < (l1.length : Int) := of_decide_eq_true (by first | (with_reducible assumption) | assumption)
            obtain ⟨ad578, e578, hx578_0⟩ := Kd.at_int HR1.out x32_2 p578 q578
            have hw578_0 := hx578_0
            cases e578
            replace hx578_0 := (HB.out.cell (World.block_lt_of_cell? w _ hx578_0)).trans hx578_0
            replace p578 := eq_true p578
            replace q578 := eq_true q578
            have p580 : 0 ≤ (x32_2 : Int) := of_decide_eq_true (by first | (with_reducible assumption) | assumption)
            have q580 : x32_2 < (l2.length : Int) := of_decide_eq_true (by first | (with_reducible assumption) | assumption)
            obtain ⟨ad580, e580, hx580_0⟩ := Kd.at_int HR2.out x32_2 p580 q580
            have hw580_0 := hx580_0
            cases e580
            replace hx580_0 := (HB.out.cell (World.block_lt_of_cell? w _ hx580_0)).trans hx580_0
            replace p580 := eq_true p580
            replace q580 := eq_true q580
            refine start_ (n := 15) (S := fun w' => w'.cell? (ad577.add (x32_2).toNat) = some (.int .i64 (rd l0 x32_2)) ∧ w'.cell? (ad578.add (x32_2).toNat) = some (.int .i64 (rd l1 x32_2)) ∧ w'.cell? (ad580.add (x32_2).toNat) = some (.int .i64 (rd l2 x32_2))) (ds := []) #[N,N,N,N,N,N,N,N,N,N,N,N,N,N,N] kr rfl rfl ⟨((HB.out.cell (World.block_lt_of_cell? w _ hw577_0)).trans hw577_0), ((HB.out.cell (World.block_lt_of_cell? w _ hw578_0)).trans hw578_0), ((HB.out.cell (World.block_lt_of_cell? w _ hw580_0)).trans hw580_0)⟩ (fun hHeld => ?_); refine with_tabW impl_IsWithin.tab6 impl_IsWithin.bits6 (fun HT_ HW_ => ?_)
            generalize wr.drew = w21 at HB hx577_0 hx578_0 hx580_0 hHeld ⊢
            refine pp HT_ (N := some 35) 0 #[Y,N,N,N,N,N,N,N,N,N,N,N,N,N,N] ?_
            refine pp HT_ (N := some 36) 1 #[Y,Y,N,N,N,N,N,N,N,N,N,N,N,N,N] ?_
            refine pp HT_ (N := some 37) 2 #[Y,Y,Y,N,N,N,N,N,N,N,N,N,N,N,N] ?_
            refine pp HT_ (N := some 39) 4 #[Y,Y,Y,N,Y,N,N,N,N,N,N,N,N,N,N] ?_
            refine pp HT_ (N := some 40) 5 #[Y,Y,Y,N,Y,Y,N,N,N,N,N,N,N,N,N] ?_
            refine pp HT_ (N := some 41) 6 #[Y,Y,Y,N,Y,Y,Y,N,N,N,N,N,N,N,N] ?_
            refine pp HT_ (N := some 45) 10 #[Y,Y,Y,N,Y,Y,Y,N,N,N,Y,N,N,N,N] ?_
            refine pp HT_ (N := some 46) 11 #[Y,Y,Y,N,Y,Y,Y,N,N,N,Y,Y,N,N,N] ?_
            refine pp HT_ (N := some 47) 12 #[Y,Y,Y,N,Y,Y,Y,N,N,N,Y,Y,Y,N,N] ?_
            refine take_ (i := 3) (N := some 38) (v := ?_) (a' := ?_) #[Y,Y,Y,Y,Y,Y,Y,N,N,N,Y,Y,Y,N,N] rfl rfl (take_ofW HT_.out HW_.out kr) (fun _ _ _ h => h) (Or.inl ⟨by rfl, ?_⟩) hHeld ?_ ?_
            rotate_left
            ·rintro w' ⟨s0, s1, s2⟩
             go_simp
             with_reducible rfl
            rotate_left
            ·simp only [Act.put, pa, pb, pc, i64_w, i32_w]
             rfl
            refine take_ (i := 7) (N := some 42) (v := ?_) (a' := ?_) #[Y,Y,Y,Y,Y,Y,Y,Y,N,N,Y,Y,Y,N,N] rfl rfl (take_ofW HT_.out HW_.out kr) (fun _ _ _ h => h) (Or.inl ⟨by rfl, ?_⟩) hHeld ?_ ?_
            rotate_left
            ·rintro w' ⟨s0, s1, s2⟩
             go_simp
             with_reducible rfl
            rotate_left
            ·simp only [Act.put, pa, pb, pc, i64_w, i32_w]
             rfl
            refine pp HT_ (N := some 43) 8 #[Y,Y,Y,Y,Y,Y,Y,Y,Y,N,Y,Y,Y,N,N] ?_
            refine take_ (i := 13) (N := some 48) (v := ?_) (a' := ?_) #[Y,Y,Y,Y,Y,Y,Y,Y,Y,N,Y,Y,Y,Y,N] rfl rfl (take_ofW HT_.out HW_.out kr) (fun _ _ _ h => h) (Or.inl ⟨by rfl, ?_⟩) hHeld ?_ ?_
            rotate_left
            ·rintro w' ⟨s0, s1, s2⟩
             go_simp
             with_reducible rfl
            rotate_left
            ·simp only [Act.put, pa, pb, pc, i64_w, i32_w]
             rfl
            refine one_ (i := 9) (N := some 44) #[Y,Y,Y,Y,Y,Y,Y,Y,Y,Y,Y,Y,Y,Y,N] rfl rfl (one_of HT_.out kr) (by decide) (fun K hK => ?_)
            refine goes_ Try.func88 kr rfl #[.int .i64 (wrap64 ((rd l0 x32_2) - (rd l1 x32_2)))] (by rfl) rfl rfl mq ?_
            with_reducible refine (impl_abs.calls (wrap64 ((rd l0 x32_2) - (rd l1 x32_2))) t579 _ A18.out).mono ?_
            rintro e w22 ⟨rfl, hb⟩
            refine ⟨_, rfl, ?_⟩
            replace HB := aM (bT bq hb)
            (try clear hb)
            (try clear hb2)
            (try clear hk)
            (try clear hi)
            refine hK.out _ _ ⟨((HB.out.cell (World.block_lt_of_cell? w _ hw577_0)).trans hw577_0), ((HB.out.cell (World.block_lt_of_cell? w _ hw578_0)).trans hw578_0), ((HB.out.cell (World.block_lt_of_cell? w _ hw580_0)).trans hw580_0)⟩ (fun hHeld => ?_)
            clear hK K
            refine norm_ (a' := ?_) ?_ ?_
            rotate_left
            ·show Act.put _ (some 44) _ = _
             simp only [Act.put, pa, pb, pc, i64_w, i32_w]
             rfl
            refine pp HT_ (N := some 49) 14 #[Y,Y,Y,Y,Y,Y,Y,Y,Y,Y,Y,Y,Y,Y,Y] ?_
            refine done_ (done_of HT_.out kr) ?_
            try go_wp2
            go_ret
            exact ⟨ew, bq⟩
           ·rw [if_neg c20] at H
            have c20b0 : decide ((rd l2 x32_2) < t579) = false := decide_eq_false c20
            clear c20
            have H' := aM H
            clear H
            try go_wp2
            replace HB := aM (bD HB.out)
            have p577 : 0 ≤ (x32_2 : Int) := of_decide_eq_true (by first | (with_reducible assumption) | assumption)
            have q577 : x32_2 < (l0.length : Int) := of_decide_eq_true (by first | (with_reducible assumption) | assumption)
            obtain ⟨ad577, e577, hx577_0⟩ := Kd.at_int HR0.out x32_2 p577 q577
            have hw577_0 := hx577_0
            cases e577
            replace hx577_0 := (HB.out.cell (World.block_lt_of_cell? w _ hx577_0)).trans hx577_0
            replace p577 := eq_true p577
            replace q577 := eq_true q577
            have p578 : 0 ≤ (x32_2 : Int) := of_decide_eq_true (by first | (with_reducible assumption) | assumption)
            have q578 : x32_2 < (l1.length : Int) := of_decide_eq_true (by first | (with_reducible assumption) | assumption)
            obtain ⟨ad578, e578, hx578_0⟩ := Kd.at_int HR1.out x32_2 p578 q578
            have hw578_0 := hx578_0
            cases e578
            replace hx578_0 := (HB.out.cell (World.block_lt_of_cell? w _ hx578_0)).trans hx578_0
            replace p578 := eq_true p578
            replace q578 := eq_true q578
            have p580 : 0 ≤ (x32_2 : Int) := of_decide_eq_true (by first | (with_reducible assumption) | assumption)
            have q580 : x32_2 < (l2.length : Int) := of_decide_eq_true (by first | (with_reducible assumption) | assumption)
            obtain ⟨ad580, e580, hx580_0⟩ := Kd.at_int HR2.out x32_2 p580 q580
            have hw580_0 := hx580_0
            cases e580
            replace hx580_0 := (HB.out.cell (World.block_lt_of_cell? w _ hx580_0)).trans hx580_0
            replace p580 := eq_true p580
            replace q580 := eq_true q580
            refine start_ (n := 15) (S := fun w' => w'.cell? (ad577.add (x32_2).toNat) = some (.int .i64 (rd l0 x32_2)) ∧ w'.cell? (ad578.add (x32_2).toNat) = some (.int .i64 (rd l1 x32_2)) ∧ w'.cell? (ad580.add (x32_2).toNat) = some (.int .i64 (rd l2 x32_2))) (ds := []) #[N,N,N,N,N,N,N,N,N,N,N,N,N,N,N] kr rfl rfl ⟨((HB.out.cell (World.block_lt_of_cell? w _ hw577_0)).trans hw577_0), ((HB.out.cell (World.block_lt_of_cell? w _ hw578_0)).trans hw578_0), ((HB.out.cell (World.block_lt_of_cell? w _ hw580_0)).trans hw580_0)⟩ (fun hHeld => ?_); refine with_tabW impl_IsWithin.tab6 impl_IsWithin.bits6 (fun HT_ HW_ => ?_)
            generalize wr.drew = w23 at HB hx577_0 hx578_0 hx580_0 hHeld ⊢
            refine pp HT_ (N := some 35) 0 #[Y,N,N,N,N,N,N,N,N,N,N,N,N,N,N] ?_
            refine pp HT_ (N := some 36) 1 #[Y,Y,N,N,N,N,N,N,N,N,N,N,N,N,N] ?_
            refine pp HT_ (N := some 37) 2 #[Y,Y,Y,N,N,N,N,N,N,N,N,N,N,N,N] ?_
            refine pp HT_ (N := some 39) 4 #[Y,Y,Y,N,Y,N,N,N,N,N,N,N,N,N,N] ?_
            refine pp HT_ (N := some 40) 5 #[Y,Y,Y,N,Y,Y,N,N,N,N,N,N,N,N,N] ?_
            refine pp HT_ (N := some 41) 6 #[Y,Y,Y,N,Y,Y,Y,N,N,N,N,N,N,N,N] ?_
            refine pp HT_ (N := some 45) 10 #[Y,Y,Y,N,Y,Y,Y,N,N,N,Y,N,N,N,N] ?_
            refine pp HT_ (N := some 46) 11 #[Y,Y,Y,N,Y,Y,Y,N,N,N,Y,Y,N,N,N] ?_
            refine pp HT_ (N := some 47) 12 #[Y,Y,Y,N,Y,Y,Y,N,N,N,Y,Y,Y,N,N] ?_
            refine take_ (i := 3) (N := some 38) (v := ?_) (a' := ?_) #[Y,Y,Y,Y,Y,Y,Y,N,N,N,Y,Y,Y,N,N] rfl rfl (take_ofW HT_.out HW_.out kr) (fun _ _ _ h => h) (Or.inl ⟨by rfl, ?_⟩) hHeld ?_ ?_
            rotate_left
            ·rintro w' ⟨s0, s1, s2⟩
             go_simp
             with_reducible rfl
            rotate_left
            ·simp only [Act.put, pa, pb, pc, i64_w, i32_w]
             rfl
            refine take_ (i := 7) (N := some 42) (v := ?_) (a' := ?_) #[Y,Y,Y,Y,Y,Y,Y,Y,N,N,Y,Y,Y,N,N] rfl rfl (take_ofW HT_.out HW_.out kr) (fun _ _ _ h => h) (Or.inl ⟨by rfl, ?_⟩) hHeld ?_ ?_
            rotate_left
            ·rintro w' ⟨s0, s1, s2⟩
             go_simp
             with_reducible rfl
            rotate_left
            ·simp only [Act.put, pa, pb, pc, i64_w, i32_w]
             rfl
            refine pp HT_ (N := some 43) 8 #[Y,Y,Y,Y,Y,Y,Y,Y,Y,N,Y,Y,Y,N,N] ?_
            refine take_ (i := 13) (N := some 48) (v := ?_) (a' := ?_) #[Y,Y,Y,Y,Y,Y,Y,Y,Y,N,Y,Y,Y,Y,N] rfl rfl (take_ofW HT_.out HW_.out kr) (fun _ _ _ h => h) (Or.inl ⟨by rfl, ?_⟩) hHeld ?_ ?_
            rotate_left
            ·rintro w' ⟨s0, s1, s2⟩
             go_simp
             with_reducible rfl
            rotate_left
            ·simp only [Act.put, pa, pb, pc, i64_w, i32_w]
             rfl
            refine one_ (i := 9) (N := some 44) #[Y,Y,Y,Y,Y,Y,Y,Y,Y,Y,Y,Y,Y,Y,N] rfl rfl (one_of HT_.out kr) (by decide) (fun K hK => ?_)
            refine goes_ Try.func88 kr rfl #[.int .i64 (wrap64 ((rd l0 x32_2) - (rd l1 x32_2)))] (by rfl) rfl rfl mq ?_
            with_reducible refine (impl_abs.calls (wrap64 ((rd l0 x32_2) - (rd l1 x32_2))) t579 _ A18.out).mono ?_
            rintro e w24 ⟨rfl, hb⟩
            refine ⟨_, rfl, ?_⟩
            replace HB := aM (bT bq hb)
            (try clear hb)
            (try clear hb2)
            (try clear hk)
            (try clear hi)
            refine hK.out _ _ ⟨((HB.out.cell (World.block_lt_of_cell? w _ hw577_0)).trans hw577_0), ((HB.out.cell (World.block_lt_of_cell? w _ hw578_0)).trans hw578_0), ((HB.out.cell (World.block_lt_of_cell? w _ hw580_0)).trans hw580_0)⟩ (fun hHeld => ?_)
            clear hK K
            refine norm_ (a' := ?_) ?_ ?_
            rotate_left
            ·show Act.put _ (some 44) _ = _
             simp only [Act.put, pa, pb, pc, i64_w, i32_w]
             rfl
            refine pp HT_ (N := some 49) 14 #[Y,Y,Y,Y,Y,Y,Y,Y,Y,Y,Y,Y,Y,Y,Y] ?_
            refine done_ (done_of HT_.out kr) ?_
            try go_wp2
            go_roundg k2
            case measure => have := HJ3.out; have := HK2.out; omega
            case rel => exact ⟨(wrap64 (x32_2 + 1)), (ex), H', ⟨by have := HJ3.out; have := HK2.out; omega⟩, ⟨bq⟩⟩
          ·rw [if_neg c19] at H
           exact absurd H (by simp)
         ·rw [if_neg c17] at H
          exact absurd H (by simp)
        ·rw [if_neg c16] at H
         exact absurd H (by simp)
       ·rw [if_neg c15] at H
        exact absurd H (by simp)
      ·rw [if_neg c14] at H
       have c14b0 : decide (x32_2 < (l0.length : Int)) = false := decide_eq_false c14
       clear c14
       obtain rfl := Option.some.inj H
       go_wp2
       go_ret
       exact ⟨ew, bq⟩

end Go.Proofs.Ytmhnpogjkbmmnaa.PFnFrameBounds
