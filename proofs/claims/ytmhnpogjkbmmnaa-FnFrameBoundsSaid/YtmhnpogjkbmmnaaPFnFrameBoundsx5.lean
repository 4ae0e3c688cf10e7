-- Written by a program of this session: wip/mkprint.py over the kit's print, with contracts proved by hand (wip/given.py)
-- told shortest
-- told shorter still
-- shortened
-- told short
-- worlds by letters
-- squeezed
import Derived.Test.YtmhnpogjkbmmnaaPFnFrameBoundsx0
namespace Go.Proofs.Ytmhnpogjkbmmnaa.PFnFrameBounds
open Go.RowKit Go.Proofs.YtmhnpogjkbmmnaaW.PrintWords Go.Proofs.YtmhnpogjkbmmnaaW.PrintLast Go.Proofs.YtmhnpogjkbmmnaaW.PrintMore
open Go.Proofs.YtmhnpogjkbmmnaaW.PrintWords.Kd renaming R_lower → rG, R_reads' → rR
open Go.Proofs.YtmhnpogjkbmmnaaW.PrintWords renaming pw_below_drewN → bN, below_drew1 → bD, below_step → bT, below_size → bZ, blk_cell → kC, blk_frozen → kF
open Go.Proofs.YtmhnpogjkbmmnaaW.PrintWords.Aside0 renaming mk → aM
attribute [local go_sem] max2_int min2_int max_two min_two max_three min_three max_four min_four   -- for this text's walks alone
set_option linter.unusedVariables false
set_option linter.unusedSimpArgs false

/-! ### impl_first: function 54 -/
def impl_first.l0 : Nat → List Int → Int → Int → Option (Int)
 | 0, _, _, _ => none
 | k + 1, x5, x6, x7 => if x7 < x6 then (if 0 ≤ x7 then (if x7 < (x5.length : Int) then (if (rd x5 x7) = 0 then (impl_first.l0 k x5 x6 (wrap64 (x7 + 1))) else (some (rd x5 x7))) else (none)) else (none)) else (some 0)
def impl_first.f (k : Nat) (l0 : List Int) : Option (Int) := impl_first.l0 k l0 (l0.length : Int) 0
theorem impl_first.mono_l : ∀ k, (∀ y0 y1 y2, LeO (impl_first.l0 k y0 y1 y2) (impl_first.l0 (k + 1) y0 y1 y2))
 | 0 => fun _ _ _ r h => by simp [impl_first.l0] at h
 | k + 1 => by
  have ih0 := impl_first.mono_l k
  ·intro y0 y1 y2
   unfold impl_first.l0
   repeat' first
   | (with_reducible exact ih0 _ _ _)
   | (with_reducible exact LeO.refl _)
   | (with_reducible exact LeO.none _)
   | (with_reducible refine LeO.ite ?_ ?_)
   | (with_reducible refine LeO.bind ?_ (fun _ => ?_))
   | exact ih0 _ _ _
   | exact LeO.none _
   | refine LeO.ite ?_ ?_
   | refine LeO.bind ?_ (fun _ => ?_)
theorem impl_first.mono : ∀ a0 k, LeO (impl_first.f k a0) (impl_first.f (k + 1) a0) := by
 intro a0 k
 have ih0 := impl_first.mono_l k
 unfold impl_first.f
 repeat' first
   | (with_reducible exact ih0 _ _ _)
   | (with_reducible exact LeO.refl _)
   | (with_reducible exact LeO.none _)
   | (with_reducible refine LeO.ite ?_ ?_)
   | (with_reducible refine LeO.bind ?_ (fun _ => ?_))
   | exact ih0 _ _ _
   | exact LeO.none _
   | refine LeO.ite ?_ ?_
   | refine LeO.bind ?_ (fun _ => ?_)
set_option maxHeartbeats 8000000 in
set_option maxRecDepth 100000 in
theorem impl_first.calls (k : Nat) (A0 : Option Addr) (c0 : Nat) (l0 : List Int) (r : Int) (w : World) (hr0 : Kd.C (Kd.int .i64) w A0 l0.length l0) (hc0 : l0.length ≤ c0) (h : impl_first.f k l0 = some r) :
  Calls Try.prog 54 #[.slice A0 l0.length c0] w fun e w' => e = .returned (.int .i64 r) ∧ Drawn0 w w' := by
 have HR0 := aM hr0
 have HC0 := aM hc0
 clear hr0 hc0
 have H : (impl_first.l0 k l0 (l0.length : Int) 0) = some r := h
 clear h
 have H' := aM H
 clear H
 go_enter Try.func54, Try.ntmps54
 go_wp2
 go_loopg [7] k (fun kq v7 w' => ∃ (x7_1 : Int), v7 = .int .i64 x7_1 ∧ Aside0 (impl_first.l0 kq l0 (l0.length : Int) x7_1 = some r) ∧ Aside0 (kq ≤ k) ∧ Drawn0 w w')
 case atStart => exact ⟨(0), (ex), H', ⟨Nat.le_refl _⟩, by repeat (first | exact Drawn0.refl _ | apply Drawn0.step)⟩
 case round =>
  clear H'
  obtain ⟨x7_1, rfl, HA, HK1, ⟨m1, rfl⟩⟩ := hrel
  cases gk with
  | zero => exact absurd HA.out (by simp [impl_first.l0])
  | succ k1 =>
   have H := HA.out
   clear HA
   simp only [impl_first.l0] at H
   by_cases c2 : x7_1 < (l0.length : Int)
   ·rw [if_pos c2] at H
    have c2b0 : decide (x7_1 < (l0.length : Int)) = true := decide_eq_true c2
    clear c2
    by_cases c3 : 0 ≤ x7_1
    ·rw [if_pos c3] at H
     have c3b0 : decide (0 ≤ x7_1) = true := decide_eq_true c3
     clear c3
     by_cases c4 : x7_1 < (l0.length : Int)
     ·rw [if_pos c4] at H
      have c4b0 : decide (x7_1 < (l0.length : Int)) = true := decide_eq_true c4
      clear c4
      by_cases c5 : (rd l0 x7_1) = 0
      ·rw [if_pos c5] at H
       have c5b0 : ((rd l0 x7_1) == 0) = true := beq_iff_eq.mpr c5
       have c5b1 : ((rd l0 x7_1) != 0) = false := bne_eq_false_iff_eq.mpr c5
       clear c5
       have H' := aM H
       clear H
       have p218 : 0 ≤ (x7_1 : Int) := of_decide_eq_true (by first | (with_reducible assumption) | assumption)
       have q218 : x7_1 < (l0.length : Int) := of_decide_eq_true (by first | (with_reducible assumption) | assumption)
       obtain ⟨ad218, e218, hx218_0⟩ := Kd.at_int HR0.out x7_1 p218 q218
       cases e218
       replace p218 := eq_true p218
       replace q218 := eq_true q218
       go_wp2
       go_roundg k1
       case measure => have := HK1.out; omega
       case rel => exact ⟨(wrap64 (x7_1 + 1)), (ex), H', ⟨by have := HK1.out; omega⟩, by repeat (first | exact Drawn0.refl _ | apply Drawn0.step)⟩
      ·rw [if_neg c5] at H
       have c5b0 : ((rd l0 x7_1) == 0) = false := beq_eq_false_iff_ne.mpr c5
       have c5b1 : ((rd l0 x7_1) != 0) = true := bne_iff_ne.mpr c5
       obtain rfl := Option.some.inj H
       have p218 : 0 ≤ (x7_1 : Int) := of_decide_eq_true (by first | (with_reducible assumption) | assumption)
       have q218 : x7_1 < (l0.length : Int) := of_decide_eq_true (by first | (with_reducible assumption) | assumption)
       obtain ⟨ad218, e218, hx218_0⟩ := Kd.at_int HR0.out x7_1 p218 q218
       cases e218
       replace p218 := eq_true p218
       replace q218 := eq_true q218
       go_wp2
       go_ret
       exact ⟨ex, by repeat (first | exact Drawn0.refl _ | apply Drawn0.step)⟩
     ·rw [if_neg c4] at H
      exact absurd H (by simp)
    ·rw [if_neg c3] at H
     exact absurd H (by simp)
   ·rw [if_neg c2] at H
    have c2b0 : decide (x7_1 < (l0.length : Int)) = false := decide_eq_false c2
    clear c2
    obtain rfl := Option.some.inj H
    go_wp2
    go_ret
    exact ⟨ex, by repeat (first | exact Drawn0.refl _ | apply Drawn0.step)⟩

/-! ### impl_SizeFault: function 55 -/
def impl_SizeFault.f (a0 : Int) : Option (Int) := if a0 = 4 then (some 0) else (if a0 = 8 then (some 0) else (if a0 = 16 then (some 0) else (some 3)))
set_option maxHeartbeats 8000000 in
set_option maxRecDepth 100000 in
theorem impl_SizeFault.calls (a0 : Int) (r : Int) (w : World) (h : impl_SizeFault.f a0 = some r) :
  Calls Try.prog 55 #[.int .i64 a0] w fun e w' => e = .returned (.int .i64 r) ∧ Drawn0 w w' := by
 have H : (if a0 = 4 then (some 0) else (if a0 = 8 then (some 0) else (if a0 = 16 then (some 0) else (some 3)))) = some r := h
 clear h
 by_cases c2 : a0 = 4
 ·rw [if_pos c2] at H
  have c2b0 : (a0 == 4) = true := beq_iff_eq.mpr c2
  have c2b1 : (a0 != 4) = false := bne_eq_false_iff_eq.mpr c2
  clear c2
  obtain rfl := Option.some.inj H
  go_enter Try.func55, Try.ntmps55
  go_wp2
  go_ret
  exact ⟨ex, by repeat (first | exact Drawn0.refl _ | apply Drawn0.step)⟩
 ·rw [if_neg c2] at H
  have c2b0 : (a0 == 4) = false := beq_eq_false_iff_ne.mpr c2
  have c2b1 : (a0 != 4) = true := bne_iff_ne.mpr c2
  by_cases c3 : a0 = 8
  ·rw [if_pos c3] at H
   have c3b0 : (a0 == 8) = true := beq_iff_eq.mpr c3
   have c3b1 : (a0 != 8) = false := bne_eq_false_iff_eq.mpr c3
   clear c3
   obtain rfl := Option.some.inj H
   go_enter Try.func55, Try.ntmps55
   go_wp2
   go_ret
   exact ⟨ex, by repeat (first | exact Drawn0.refl _ | apply Drawn0.step)⟩
  ·rw [if_neg c3] at H
   have c3b0 : (a0 == 8) = false := beq_eq_false_iff_ne.mpr c3
   have c3b1 : (a0 != 8) = true := bne_iff_ne.mpr c3
   by_cases c4 : a0 = 16
   ·rw [if_pos c4] at H
    have c4b0 : (a0 == 16) = true := beq_iff_eq.mpr c4
    have c4b1 : (a0 != 16) = false := bne_eq_false_iff_eq.mpr c4
    clear c4
    obtain rfl := Option.some.inj H
    go_enter Try.func55, Try.ntmps55
    go_wp2
    go_ret
    exact ⟨ex, by repeat (first | exact Drawn0.refl _ | apply Drawn0.step)⟩
   ·rw [if_neg c4] at H
    have c4b0 : (a0 == 16) = false := beq_eq_false_iff_ne.mpr c4
    have c4b1 : (a0 != 16) = true := bne_iff_ne.mpr c4
    obtain rfl := Option.some.inj H
    go_enter Try.func55, Try.ntmps55
    go_wp2
    go_ret
    exact ⟨ex, by repeat (first | exact Drawn0.refl _ | apply Drawn0.step)⟩

/-! ### impl_codeIf: function 56 -/
def impl_codeIf.f (a0 : Bool) (a1 : Int) : Option (Int) := if a0 = true then (some a1) else (some 0)
set_option maxHeartbeats 8000000 in
set_option maxRecDepth 100000 in
theorem impl_codeIf.calls (a0 : Bool) (a1 : Int) (r : Int) (w : World) (h : impl_codeIf.f a0 a1 = some r) :
  Calls Try.prog 56 #[.bool a0, .int .i64 a1] w fun e w' => e = .returned (.int .i64 r) ∧ Drawn0 w w' := by
 have H : (if a0 = true then (some a1) else (some 0)) = some r := h
 clear h
 by_cases c3 : a0 = true
 ·subst c3
  have H1 : (some a1) = some r := by rw [if_pos rfl] at H; exact H
  clear H
  have H := H1
  clear H1
  obtain rfl := Option.some.inj H
  go_enter Try.func56, Try.ntmps56
  go_wp2
  go_ret
  exact ⟨ex, by repeat (first | exact Drawn0.refl _ | apply Drawn0.step)⟩
 ·replace c3 := Bool.eq_false_iff.mpr c3
  subst c3
  have H1 : (some 0) = some r := by rw [if_neg (show ¬ (false = true) by decide)] at H; exact H
  clear H
  have H := H1
  clear H1
  obtain rfl := Option.some.inj H
  go_enter Try.func56, Try.ntmps56
  go_wp2
  go_ret
  exact ⟨ex, by repeat (first | exact Drawn0.refl _ | apply Drawn0.step)⟩

/-! ### slices_IndexFunc_int64_int64: function 138 -/
def firstAt (p : Int → Bool) : List Int → Int → Int
 | [], _ => -1
 | x :: l, i => if p x then i else firstAt p l (i + 1)
theorem firstAt_step (p : Int → Bool) (l : List Int) (k : Nat) (h : k < l.length) : firstAt p (l.drop k) k = if p (rd l k) then (k : Int) else firstAt p (l.drop (k + 1)) ((k + 1 : Nat) : Int) := by
 rw [List.drop_eq_getElem_cons h, firstAt]
 have e : rd l k = l[k] := by unfold rd; rw [Int.toNat_natCast, List.getD_eq_getElem?_getD, List.getElem?_eq_getElem h]; rfl
 rw [e]
 rfl
theorem firstAt_any (p : Int → Bool) (l : List Int) : ∀ i : Int, 0 ≤ i → decide (0 ≤ firstAt p l i) = l.any p := by
 induction l with
 | nil => intro i _; rfl
 | cons x l ih =>
  intro i hi
  rw [firstAt, List.any_cons]
  cases hx : p x with
  | true => simp [hi]
  | false => simp only [Bool.false_or]; rw [if_neg (by simp), ih _ (by omega)]
def slices_IndexFunc_int64_int64.f (l0 : List Int) (S1 : (Int → Bool)) : Option Int := some (firstAt S1 l0 0)
set_option maxHeartbeats 8000000 in
set_option maxRecDepth 100000 in
theorem slices_IndexFunc_int64_int64.calls (A0 : Option Addr) (c0 : Nat) (l0 : List Int) (g1_ : Nat) (b1_ : Array Value) (S1 : (Int → Bool)) (r : Int) (w : World) (hr0 : Kd.C (Kd.int .i64) w A0 l0.length l0) (hc0 : l0.length ≤ c0) (hS1 : FnOKp g1_ b1_ S1 w) (h : slices_IndexFunc_int64_int64.f l0 S1 = some r) :
  Calls Try.prog 138 #[.slice A0 l0.length c0, .func (.func g1_) #[] b1_] w fun e w' => e = .returned (.int .i64 r) ∧ Drawn0 w w' := by
 have HR0 := aM hr0
 have hen := hS1.en
 have hp : ∀ (q : Nat) (x : Int), Calls Try.prog g1_ (#[.int .i64 x] ++ b1_) (w.drewN q) fun e w' => e = .returned (.bool (S1 x)) ∧ Drawn0 (w.drewN q) w' := fun q x => hS1.ok _ (bN (Below.refl _ _) q) x
 have hbig : l0.length ≤ 9223372036854775807 := hr0.2.1
 have H : firstAt S1 l0 0 = r := Option.some.inj h
 have HA : Aside0 (firstAt S1 (l0.drop 0) ((0 : Nat) : Int) = r) := ⟨H⟩
 clear hr0 hc0 hS1 h H
 go_enter Try.func138, Try.ntmps138
 go_wp2
 go_loopg [5, 8] l0.length (fun gg _ s8 wr => ∃ kk q : Nat, kk ≤ l0.length ∧ l0.length - kk ≤ gg ∧ s8 = .int .i64 kk ∧ wr = w.drewN q ∧ Aside0 (firstAt S1 (l0.drop kk) (kk : Int) = r))
 case atStart => exact ⟨0, 0, Nat.zero_le _, by omega, rfl, rfl, HA⟩
 case round =>
  clear HA
  obtain ⟨kk, q, hkk, hg, rfl, rfl, A⟩ := hrel
  by_cases hlt : kk < l0.length
  ·have st := firstAt_step S1 l0 kk hlt
   obtain ⟨ad, e, hx⟩ := Kd.at_int HR0.out (kk : Int) (by omega) (by omega)
   cases e
   rw [Int.toNat_natCast] at hx
   have hltz : (kk : Int) < (l0.length : Int) := by omega
   have hcall := hp q (rd l0 kk)
   generalize rd l0 (kk : Int) = y at st hx hcall
   cases hq : S1 y with
   | true =>
    rw [hq] at hcall st
    have hr := A.out
    rw [st, if_pos rfl] at hr
    subst hr
    clear st A
    go_wp2_with ((with_reducible refine hcall.mono ?_); rintro e w' ⟨rfl, ⟨q', rfl⟩⟩)
    go_ret
    exact ⟨rfl, by repeat (first | exact Drawn0.refl _ | apply Drawn0.step)⟩
   | false =>
    rw [hq] at hcall st
    have hr := aM (st.symm.trans A.out)
    clear st A
    go_wp2_with ((with_reducible refine hcall.mono ?_); rintro e w' ⟨rfl, ⟨q', rfl⟩⟩)
    go_roundg (l0.length - (kk + 1))
    case measure => omega
    case rel => exact ⟨kk + 1, _, by omega, by omega, by go_num, rfl, hr⟩
  ·have hltz : ¬ (kk : Int) < (l0.length : Int) := by omega
   have e : kk = l0.length := by omega
   subst e
   have hr := A.out
   rw [List.drop_length] at hr
   have hr' : (-1 : Int) = r := hr
   subst hr'
   clear hr A
   go_wp2
   go_ret
   exact ⟨rfl, by repeat (first | exact Drawn0.refl _ | apply Drawn0.step)⟩

/-! ### slices_ContainsFunc_int64_int64: function 103 -/
def slices_ContainsFunc_int64_int64.f (l0 : List Int) (S1 : (Int → Bool)) : Option Bool := some (l0.any S1)
set_option maxHeartbeats 8000000 in
set_option maxRecDepth 100000 in
theorem slices_ContainsFunc_int64_int64.calls (A0 : Option Addr) (c0 : Nat) (l0 : List Int) (g1_ : Nat) (b1_ : Array Value) (S1 : (Int → Bool)) (r : Bool) (w : World) (hr0 : Kd.C (Kd.int .i64) w A0 l0.length l0) (hc0 : l0.length ≤ c0) (hS1 : FnOKp g1_ b1_ S1 w) (h : slices_ContainsFunc_int64_int64.f l0 S1 = some r) :
  Calls Try.prog 103 #[.slice A0 l0.length c0, .func (.func g1_) #[] b1_] w fun e w' => e = .returned (.bool r) ∧ Drawn0 w w' := by
 have H : l0.any S1 = r := Option.some.inj h
 rw [← firstAt_any S1 l0 0 (by omega)] at H
 subst H
 have hI := slices_IndexFunc_int64_int64.calls A0 c0 l0 g1_ b1_ S1 (firstAt S1 l0 0) w hr0 hc0 hS1 rfl
 generalize firstAt S1 l0 0 = i at hI
 clear hr0 hS1 h
 go_enter Try.func103, Try.ntmps103
 go_wp2_with (go_at_call 138; refine hI.mono ?_; rintro e w' ⟨rfl, ⟨q, rfl⟩⟩)
 go_ret
 exact ⟨rfl, by repeat (first | exact Drawn0.refl _ | apply Drawn0.step)⟩

/-! ### impl_inRange: function 105 -/
def impl_inRange.f (a0 : Int) (a1 : Int) (a2 : Int) : Option (Bool) := if a1 ≤ a0 then (some (decide (a0 ≤ a2))) else (some false)
set_option maxHeartbeats 8000000 in
set_option maxRecDepth 100000 in
theorem impl_inRange.calls (a0 : Int) (a1 : Int) (a2 : Int) (r : Bool) (w : World) (h : impl_inRange.f a0 a1 a2 = some r) :
  Calls Try.prog 105 #[.int .i64 a0, .int .i64 a1, .int .i64 a2] w fun e w' => e = .returned (.bool r) ∧ Drawn0 w w' := by
 have H : (if a1 ≤ a0 then (some (decide (a0 ≤ a2))) else (some false)) = some r := h
 clear h
 by_cases c4 : a1 ≤ a0
 ·rw [if_pos c4] at H
  have c4b0 : decide (a1 ≤ a0) = true := decide_eq_true c4
  clear c4
  obtain rfl := Option.some.inj H
  go_enter Try.func105, Try.ntmps105
  go_wp2
  go_ret
  exact ⟨ex, by repeat (first | exact Drawn0.refl _ | apply Drawn0.step)⟩
 ·rw [if_neg c4] at H
  have c4b0 : decide (a1 ≤ a0) = false := decide_eq_false c4
  clear c4
  obtain rfl := Option.some.inj H
  go_enter Try.func105, Try.ntmps105
  go_wp2
  go_ret
  exact ⟨ex, by repeat (first | exact Drawn0.refl _ | apply Drawn0.step)⟩

/-! ### impl_boundsFault_1: function 104 -/
def impl_boundsFault_1.f (a0 : Int) : Option (Bool) := (impl_inRange.f a0 0 67108864).bind fun t219 => (some (!t219))
set_option maxHeartbeats 8000000 in
set_option maxRecDepth 100000 in
theorem impl_boundsFault_1.calls (a0 : Int) (r : Bool) (w : World) (h : impl_boundsFault_1.f a0 = some r) :
  Calls Try.prog 104 #[.int .i64 a0] w fun e w' => e = .returned (.bool r) ∧ Drawn0 w w' := by
 have H : ((impl_inRange.f a0 0 67108864).bind fun t219 => (some (!t219))) = some r := h
 clear h
 replace H := Option.bind_eq_some_iff.mp H
 obtain ⟨t219, A20, H⟩ := H
 replace H : (some (!t219)) = some r := H
 have A2 := aM A20
 clear A20
 obtain rfl := Option.some.inj H
 go_enter Try.func104, Try.ntmps104
 go_wp2_with (first | ((with_reducible refine gate_callee (f := 105) rfl ?_); refine goesL_ (some 4) rfl rfl Try.func105 kr rfl #[.int .i64 a0, .int .i64 0, .int .i64 67108864] rfl mq ?_; (with_reducible refine (impl_inRange.calls a0 0 67108864 t219 _ A2.out).mono ?_); rintro e w' ⟨rfl, ⟨nd, rfl⟩⟩; refine ⟨_, rfl, ?_⟩))
 go_ret
 exact ⟨ex, by repeat (first | exact Drawn0.refl _ | apply Drawn0.step)⟩
theorem okp_boundsFault_1 (w : World) : FnOKp 104 #[] (fun x => !decide (0 ≤ x ∧ x ≤ 67108864)) w := by
 refine ⟨fun args w => enters_ Try.func104 kr rfl args w, fun W _ x => ?_⟩
 show Calls Try.prog 104 #[.int .i64 x] W _
 refine (impl_boundsFault_1.calls x _ W ?_).mono (fun _ _ h => h)
 simp only [impl_boundsFault_1.f, impl_inRange.f]
 by_cases h : 0 ≤ x <;> simp [h]

/-! ### impl_isBlock: function 106 -/
def impl_isBlock.f (l0 : List Int) : Option (Bool) := (impl_SizeFault.f (l0.length : Int)).bind fun t220 => (some (t220 == 0))
set_option maxHeartbeats 8000000 in
set_option maxRecDepth 100000 in
theorem impl_isBlock.calls (A0 : Option Addr) (c0 : Nat) (l0 : List Int) (r : Bool) (w : World) (hr0 : Kd.C (Kd.int .i64) w A0 l0.length l0) (hc0 : l0.length ≤ c0) (h : impl_isBlock.f l0 = some r) :
  Calls Try.prog 106 #[.slice A0 l0.length c0] w fun e w' => e = .returned (.bool r) ∧ Drawn0 w w' := by
 have HR0 := aM hr0
 have HC0 := aM hc0
 clear hr0 hc0
 have H : ((impl_SizeFault.f (l0.length : Int)).bind fun t220 => (some (t220 == 0))) = some r := h
 clear h
 replace H := Option.bind_eq_some_iff.mp H
 obtain ⟨t220, A20, H⟩ := H
 replace H : (some (t220 == 0)) = some r := H
 have A2 := aM A20
 clear A20
 obtain rfl := Option.some.inj H
 go_enter Try.func106, Try.ntmps106
 go_wp2_with (first | ((with_reducible refine gate_callee (f := 55) rfl ?_); refine goesL_ (some 5) rfl rfl Try.func55 kr rfl #[.int .i64 (l0.length : Int)] rfl mq ?_; (with_reducible refine (impl_SizeFault.calls (l0.length : Int) t220 _ A2.out).mono ?_); rintro e w' ⟨rfl, ⟨nd, rfl⟩⟩; refine ⟨_, rfl, ?_⟩))
 go_ret
 exact ⟨ex, by repeat (first | exact Drawn0.refl _ | apply Drawn0.step)⟩

/-! ### impl_boundsFault: function 57 -/
def impl_boundsFault.f (k : Nat) (l0 : List Int) : Option (Int) := (slices_ContainsFunc_int64_int64.f l0 (fun x => !decide (0 ≤ x ∧ x ≤ 67108864))).bind fun t221 => ((impl_isBlock.f l0).bind fun t222 => ((impl_codeIf.f (!t222) 2).bind fun t223 => ((impl_codeIf.f t221 3).bind fun t224 => ((impl_first.f k (([t223, t224] : List Int))).bind fun t228 => (some t228)))))
theorem impl_boundsFault.mono : ∀ a0 k, LeO (impl_boundsFault.f k a0) (impl_boundsFault.f (k + 1) a0) := by
 intro a0 k
 unfold impl_boundsFault.f
 repeat' first
   | (with_reducible exact impl_first.mono _ _)
   | (with_reducible exact LeO.refl _)
   | (with_reducible exact LeO.none _)
   | (with_reducible refine LeO.ite ?_ ?_)
   | (with_reducible refine LeO.bind ?_ (fun _ => ?_))
   | exact impl_first.mono _ _
   | exact LeO.none _
   | refine LeO.ite ?_ ?_
   | refine LeO.bind ?_ (fun _ => ?_)
set_option maxHeartbeats 8000000 in
set_option maxRecDepth 100000 in
theorem impl_boundsFault.calls (k : Nat) (A0 : Option Addr) (c0 : Nat) (l0 : List Int) (r : Int) (w : World) (hr0 : Kd.C (Kd.int .i64) w A0 l0.length l0) (hc0 : l0.length ≤ c0) (h : impl_boundsFault.f k l0 = some r) :
  Calls Try.prog 57 #[.slice A0 l0.length c0] w fun e w' => e = .returned (.int .i64 r) ∧ Below w.heap.size w w' := by
 have HR0 := aM hr0
 have HC0 := aM hc0
 clear hr0 hc0
 have HB := aM (Below.refl w.heap.size w)
 have H : ((slices_ContainsFunc_int64_int64.f l0 (fun x => !decide (0 ≤ x ∧ x ≤ 67108864))).bind fun t221 => ((impl_isBlock.f l0).bind fun t222 => ((impl_codeIf.f (!t222) 2).bind fun t223 => ((impl_codeIf.f t221 3).bind fun t224 => ((impl_first.f k (([t223, t224] : List Int))).bind fun t228 => (some t228)))))) = some r := h
 clear h
 replace H := Option.bind_eq_some_iff.mp H
 obtain ⟨t221, A20, H⟩ := H
 replace H : ((impl_isBlock.f l0).bind fun t222 => ((impl_codeIf.f (!t222) 2).bind fun t223 => ((impl_codeIf.f t221 3).bind fun t224 => ((impl_first.f k (([t223, t224] : List Int))).bind fun t228 => (some t228))))) = some r := H
 have A2 := aM A20
 clear A20
 replace H := Option.bind_eq_some_iff.mp H
 obtain ⟨t222, A30, H⟩ := H
 replace H : ((impl_codeIf.f (!t222) 2).bind fun t223 => ((impl_codeIf.f t221 3).bind fun t224 => ((impl_first.f k (([t223, t224] : List Int))).bind fun t228 => (some t228)))) = some r := H
 have A3 := aM A30
 clear A30
 replace H := Option.bind_eq_some_iff.mp H
 obtain ⟨t223, A40, H⟩ := H
 replace H : ((impl_codeIf.f t221 3).bind fun t224 => ((impl_first.f k (([t223, t224] : List Int))).bind fun t228 => (some t228))) = some r := H
 have A4 := aM A40
 clear A40
 replace H := Option.bind_eq_some_iff.mp H
 obtain ⟨t224, A50, H⟩ := H
 replace H : ((impl_first.f k (([t223, t224] : List Int))).bind fun t228 => (some t228)) = some r := H
 have A5 := aM A50
 clear A50
 obtain ⟨y225, hy225⟩ : ∃ y_ : List Int, y_ = (([t223, t224] : List Int)) := ⟨_, rfl⟩
 replace H : ((impl_first.f k y225).bind fun t228 => (some t228)) = some r := by first | (rw [hy225]; with_reducible exact H) | (have H2_ := (Option.bind_some _ _).symm.trans H; rw [hy225]; with_reducible exact H2_) | (have H2_ := (Option.bind_some _ _).symm.trans H; with_reducible exact H2_) | with_reducible exact H | (rw [hy225]; exact H) | exact H
 have Ny225 := aM hy225
 clear hy225
 replace H := Option.bind_eq_some_iff.mp H
 obtain ⟨t228, A60, H⟩ := H
 replace H : (some t228) = some r := H
 have A6 := aM A60
 clear A60
 obtain rfl := Option.some.inj H
 go_enter Try.func57, Try.ntmps57
 go_wp2_with (first | ((with_reducible refine gate_callee (f := 103) rfl ?_); refine goesL_ (some 5) rfl rfl Try.func103 kr rfl #[.slice A0 l0.length c0, .func (.func 104) #[] #[]] rfl mq ?_; (with_reducible refine (slices_ContainsFunc_int64_int64.calls _ _ l0 _ _ (fun x => !decide (0 ≤ x ∧ x ≤ 67108864)) t221 _ ?side1 ?side2 ?side3 A2.out).mono ?_); (case side1 => exact cq HR0.out); (case side2 => exact HC0.out); (case side3 => exact okp_boundsFault_1 _); rintro e w' ⟨rfl, ⟨nd, rfl⟩⟩; refine ⟨_, rfl, ?_⟩) | ((with_reducible refine gate_callee (f := 106) rfl ?_); refine goesL_ (some 7) rfl rfl Try.func106 kr rfl #[.slice A0 l0.length c0] rfl mq ?_; (with_reducible refine (impl_isBlock.calls _ _ l0 t222 _ ?side1 ?side2 A3.out).mono ?_); (case side1 => exact cq HR0.out); (case side2 => exact HC0.out); rintro e w' ⟨rfl, ⟨nd, rfl⟩⟩; refine ⟨_, rfl, ?_⟩) | ((with_reducible refine gate_callee (f := 56) rfl ?_); refine goesL_ (some 9) rfl rfl Try.func56 kr rfl #[.bool (!t222), .int .i64 2] rfl mq ?_; (with_reducible refine (impl_codeIf.calls (!t222) 2 t223 _ A4.out).mono ?_); rintro e w' ⟨rfl, ⟨nd, rfl⟩⟩; refine ⟨_, rfl, ?_⟩) | ((with_reducible refine gate_callee (f := 56) rfl ?_); refine goesL_ (some 11) rfl rfl Try.func56 kr rfl #[.bool t221, .int .i64 3] rfl mq ?_; (with_reducible refine (impl_codeIf.calls t221 3 t224 _ A5.out).mono ?_); rintro e w' ⟨rfl, ⟨nd, rfl⟩⟩; refine ⟨_, rfl, ?_⟩) | ((with_reducible refine gate_dst (N := 12) rfl ?_); refine Kd.R_lit (Kd.int .i64) _ 2 ?hg (N := 12) ?hd (xs := ([t223, t224] : List Int)) (inner := [.int .i64 t223, .int .i64 t224]) (ok := fun _ => True) (okp := fun _ => True) ?hr ?hp (fun _ hk => hk) trivial (Below.refl _ _) (Nat.le_refl _) (by simp) ?_; (case hd => rfl); (case hg => rfl); (case hr => first | (go_simp; done) | (go_simp; rfl)); (case hp => exact (Reps.one (show Kd.M (Kd.int .i64) _ _ _ t223 [.int .i64 t223] from rfl) (Reps.one (show Kd.M (Kd.int .i64) _ _ _ t224 [.int .i64 t224] from rfl) (Reps.none _ _)))); intro v226 w7 ho8 hb hg_ hnew_; clear hg_ hnew_; (first | rw [← Ny225.out] at ho8 | (simp only [Int.reduceToNat] at ho8; rw [← Ny225.out] at ho8)); have HO227 := aM (rG ho8 (bZ bq)); replace HB := aM (bT bq hb); clear hb ho8; obtain ⟨Ao9, co9, eo9⟩ := Kd.R_slice HO227.out; subst eo9) | ((with_reducible refine gate_callee (f := 54) rfl ?_); refine goesL_ (some 13) rfl rfl Try.func54 kr rfl #[.slice Ao9 y225.length co9] rfl mq ?_; (with_reducible refine (impl_first.calls k _ _ y225 t228 _ ?side1 ?side2 A6.out).mono ?_); (case side1 => exact cq (rR HO227.out).2.2); (case side2 => exact (rR HO227.out).2.1); rintro e w' ⟨rfl, ⟨nd, rfl⟩⟩; refine ⟨_, rfl, ?_⟩))
 go_ret
 exact ⟨ew, bq⟩

/-! ### impl_turnOf: function 78 -/
def impl_turnOf.f (a0 : Int) (a1 : Int) : Option (Int × Int) := if a0 = 4 then (if a1 = 0 then some (101, 200) else (if a1 = 1 then some (311, 569) else (none))) else (if a0 = 8 then (if a1 = 0 then some (50, 100) else (if a1 = 1 then some (152, 297) else (if a1 = 2 then some (257, 483) else (if a1 = 3 then some (366, 650) else (none))))) else (if a1 = 0 then some (25, 50) else (if a1 = 1 then some (76, 150) else (if a1 = 2 then some (126, 249) else (if a1 = 3 then some (178, 345) else (if a1 = 4 then some (230, 438) else (if a1 = 5 then some (283, 526) else (if a1 = 6 then some (338, 610) else (if a1 = 7 then some (395, 688) else (none))))))))))
set_option maxHeartbeats 8000000 in
set_option maxRecDepth 100000 in
theorem impl_turnOf.calls (a0 : Int) (a1 : Int) (r1 : Int) (r2 : Int) (w : World) (h : impl_turnOf.f a0 a1 = some (r1, r2)) :
  Calls Try.prog 78 #[.int .i64 a0, .int .i64 a1] w fun e w' => e = .returned (.agg #[.int .i64 r1, .int .i64 r2]) ∧ Below w.heap.size w w' := by
 have hu := Try.underlying108
 unfold impl_turnOf.f at h
 by_cases h4 : a0 = 4
 ·subst h4
  rw [if_pos rfl] at h
  have hix : ∀ w, (Instr.index 144 (.agg #[.int .i64 101, .int .i64 200, .int .i64 311, .int .i64 569]) (.int .i64 a1)).run Try.prog w = .ok (.agg #[.int .i64 r1, .int .i64 r2]) w := by
   by_cases n0 : a1 = 0
   ·subst n0
    rw [if_pos rfl] at h
    have H := Option.some.inj h
    simp only [Prod.mk.injEq] at H
    obtain ⟨rfl, rfl⟩ := H
    exact fun _ => by kernel_rfl
   rw [if_neg n0] at h
   by_cases n1 : a1 = 1
   ·subst n1
    rw [if_pos rfl] at h
    have H := Option.some.inj h
    simp only [Prod.mk.injEq] at H
    obtain ⟨rfl, rfl⟩ := H
    exact fun _ => by kernel_rfl
   rw [if_neg n1] at h
   cases h
  clear h
  go_enter Try.func78, Try.ntmps78
  go_wp2
  exact bodyPost_ret (v := .agg #[.int .i64 r1, .int .i64 r2]) (by simp [results, Try.results78, go_sem]) rfl ⟨rfl, (Below.refl _ _).alloc (Nat.le_refl _) _⟩
 ·rw [if_neg h4] at h
  have h4b : (a0 == 4) = false := beq_eq_false_iff_ne.mpr h4
  by_cases h8 : a0 = 8
  ·subst h8
   rw [if_pos rfl] at h
   have hix : ∀ w, (Instr.index 145 (.agg #[.int .i64 50, .int .i64 100, .int .i64 152, .int .i64 297, .int .i64 257, .int .i64 483, .int .i64 366, .int .i64 650]) (.int .i64 a1)).run Try.prog w = .ok (.agg #[.int .i64 r1, .int .i64 r2]) w := by
    by_cases n0 : a1 = 0
    ·subst n0
     rw [if_pos rfl] at h
     have H := Option.some.inj h
     simp only [Prod.mk.injEq] at H
     obtain ⟨rfl, rfl⟩ := H
     exact fun _ => by kernel_rfl
    rw [if_neg n0] at h
    by_cases n1 : a1 = 1
    ·subst n1
     rw [if_pos rfl] at h
     have H := Option.some.inj h
     simp only [Prod.mk.injEq] at H
     obtain ⟨rfl, rfl⟩ := H
     exact fun _ => by kernel_rfl
    rw [if_neg n1] at h
    by_cases n2 : a1 = 2
    ·subst n2
     rw [if_pos rfl] at h
     have H := Option.some.inj h
     simp only [Prod.mk.injEq] at H
     obtain ⟨rfl, rfl⟩ := H
     exact fun _ => by kernel_rfl
    rw [if_neg n2] at h
    by_cases n3 : a1 = 3
    ·subst n3
     rw [if_pos rfl] at h
     have H := Option.some.inj h
     simp only [Prod.mk.injEq] at H
     obtain ⟨rfl, rfl⟩ := H
     exact fun _ => by kernel_rfl
    rw [if_neg n3] at h
    cases h
   clear h
   go_enter Try.func78, Try.ntmps78
   go_wp2
   exact bodyPost_ret (v := .agg #[.int .i64 r1, .int .i64 r2]) (by simp [results, Try.results78, go_sem]) rfl ⟨rfl, (Below.refl _ _).alloc (Nat.le_refl _) _⟩
  ·rw [if_neg h8] at h
   have h8b : (a0 == 8) = false := beq_eq_false_iff_ne.mpr h8
   have hix : ∀ w, (Instr.index 146 (.agg #[.int .i64 25, .int .i64 50, .int .i64 76, .int .i64 150, .int .i64 126, .int .i64 249, .int .i64 178, .int .i64 345, .int .i64 230, .int .i64 438, .int .i64 283, .int .i64 526, .int .i64 338, .int .i64 610, .int .i64 395, .int .i64 688]) (.int .i64 a1)).run Try.prog w = .ok (.agg #[.int .i64 r1, .int .i64 r2]) w := by
    by_cases n0 : a1 = 0
    ·subst n0
     rw [if_pos rfl] at h
     have H := Option.some.inj h
     simp only [Prod.mk.injEq] at H
     obtain ⟨rfl, rfl⟩ := H
     exact fun _ => by kernel_rfl
    rw [if_neg n0] at h
    by_cases n1 : a1 = 1
    ·subst n1
     rw [if_pos rfl] at h
     have H := Option.some.inj h
     simp only [Prod.mk.injEq] at H
     obtain ⟨rfl, rfl⟩ := H
     exact fun _ => by kernel_rfl
    rw [if_neg n1] at h
    by_cases n2 : a1 = 2
    ·subst n2
     rw [if_pos rfl] at h
     have H := Option.some.inj h
     simp only [Prod.mk.injEq] at H
     obtain ⟨rfl, rfl⟩ := H
     exact fun _ => by kernel_rfl
    rw [if_neg n2] at h
    by_cases n3 : a1 = 3
    ·subst n3
     rw [if_pos rfl] at h
     have H := Option.some.inj h
     simp only [Prod.mk.injEq] at H
     obtain ⟨rfl, rfl⟩ := H
     exact fun _ => by kernel_rfl
    rw [if_neg n3] at h
    by_cases n4 : a1 = 4
    ·subst n4
     rw [if_pos rfl] at h
     have H := Option.some.inj h
     simp only [Prod.mk.injEq] at H
     obtain ⟨rfl, rfl⟩ := H
     exact fun _ => by kernel_rfl
    rw [if_neg n4] at h
    by_cases n5 : a1 = 5
    ·subst n5
     rw [if_pos rfl] at h
     have H := Option.some.inj h
     simp only [Prod.mk.injEq] at H
     obtain ⟨rfl, rfl⟩ := H
     exact fun _ => by kernel_rfl
    rw [if_neg n5] at h
    by_cases n6 : a1 = 6
    ·subst n6
     rw [if_pos rfl] at h
     have H := Option.some.inj h
     simp only [Prod.mk.injEq] at H
     obtain ⟨rfl, rfl⟩ := H
     exact fun _ => by kernel_rfl
    rw [if_neg n6] at h
    by_cases n7 : a1 = 7
    ·subst n7
     rw [if_pos rfl] at h
     have H := Option.some.inj h
     simp only [Prod.mk.injEq] at H
     obtain ⟨rfl, rfl⟩ := H
     exact fun _ => by kernel_rfl
    rw [if_neg n7] at h
    cases h
   clear h
   go_enter Try.func78, Try.ntmps78
   go_wp2
   exact bodyPost_ret (v := .agg #[.int .i64 r1, .int .i64 r2]) (by simp [results, Try.results78, go_sem]) rfl ⟨rfl, (Below.refl _ _).alloc (Nat.le_refl _) _⟩

/-! ### impl_floorDiv: function 144 -/
def impl_floorDiv.f (a0 : Int) (a1 : Int) : Option (Int) := if a1 = 0 then (none) else (if (Int.tmod a0 a1) < 0 then (some (wrap64 ((wrap64 (Int.tdiv a0 a1)) - 1))) else (some (wrap64 (Int.tdiv a0 a1))))
set_option maxHeartbeats 8000000 in
set_option maxRecDepth 100000 in
theorem impl_floorDiv.calls (a0 : Int) (a1 : Int) (r : Int) (w : World) (h : impl_floorDiv.f a0 a1 = some r) :
  Calls Try.prog 144 #[.int .i64 a0, .int .i64 a1] w fun e w' => e = .returned (.int .i64 r) ∧ Drawn0 w w' := by
 have H : (if a1 = 0 then (none) else (if (Int.tmod a0 a1) < 0 then (some (wrap64 ((wrap64 (Int.tdiv a0 a1)) - 1))) else (some (wrap64 (Int.tdiv a0 a1))))) = some r := h
 clear h
 by_cases c3 : a1 = 0
 ·rw [if_pos c3] at H
  exact absurd H (by simp)
 ·rw [if_neg c3] at H
  have c3b0 : (a1 == 0) = false := beq_eq_false_iff_ne.mpr c3
  have c3b1 : (a1 != 0) = true := bne_iff_ne.mpr c3
  by_cases c4 : (Int.tmod a0 a1) < 0
  ·rw [if_pos c4] at H
   have c4b0 : decide ((Int.tmod a0 a1) < 0) = true := decide_eq_true c4
   clear c4
   obtain rfl := Option.some.inj H
   go_enter Try.func144, Try.ntmps144
   go_wp2
   go_ret
   exact ⟨ex, by repeat (first | exact Drawn0.refl _ | apply Drawn0.step)⟩
  ·rw [if_neg c4] at H
   have c4b0 : decide ((Int.tmod a0 a1) < 0) = false := decide_eq_false c4
   clear c4
   obtain rfl := Option.some.inj H
   go_enter Try.func144, Try.ntmps144
   go_wp2
   go_ret
   exact ⟨ex, by repeat (first | exact Drawn0.refl _ | apply Drawn0.step)⟩

/-! ### impl_ceilDiv: function 140 -/
def impl_ceilDiv.f (a0 : Int) (a1 : Int) : Option (Int) := (impl_floorDiv.f (wrap64 (-a0)) a1).bind fun t229 => (some (wrap64 (-t229)))
set_option maxHeartbeats 8000000 in
set_option maxRecDepth 100000 in
theorem impl_ceilDiv.calls (a0 : Int) (a1 : Int) (r : Int) (w : World) (h : impl_ceilDiv.f a0 a1 = some r) :
  Calls Try.prog 140 #[.int .i64 a0, .int .i64 a1] w fun e w' => e = .returned (.int .i64 r) ∧ Drawn0 w w' := by
 have H : ((impl_floorDiv.f (wrap64 (-a0)) a1).bind fun t229 => (some (wrap64 (-t229)))) = some r := h
 clear h
 replace H := Option.bind_eq_some_iff.mp H
 obtain ⟨t229, A30, H⟩ := H
 replace H : (some (wrap64 (-t229))) = some r := H
 have A3 := aM A30
 clear A30
 obtain rfl := Option.some.inj H
 go_enter Try.func140, Try.ntmps140
 go_wp2_with (first | ((with_reducible refine gate_callee (f := 144) rfl ?_); refine goesL_ (some 8) rfl rfl Try.func144 kr rfl #[.int .i64 (wrap64 (-a0)), .int .i64 a1] rfl mq ?_; (with_reducible refine (impl_floorDiv.calls (wrap64 (-a0)) a1 t229 _ A3.out).mono ?_); rintro e w' ⟨rfl, ⟨nd, rfl⟩⟩; refine ⟨_, rfl, ?_⟩))
 go_ret
 exact ⟨ex, by repeat (first | exact Drawn0.refl _ | apply Drawn0.step)⟩

/-! ### impl_share: function 139 -/
def impl_share.f (a0 : Int) (a1 : Int) : Option (Int) := (impl_ceilDiv.f (wrap64 (a0 * a1)) 1024).bind fun t230 => (some t230)
set_option maxHeartbeats 8000000 in
set_option maxRecDepth 100000 in
theorem impl_share.calls (a0 : Int) (a1 : Int) (r : Int) (w : World) (h : impl_share.f a0 a1 = some r) :
  Calls Try.prog 139 #[.int .i64 a0, .int .i64 a1] w fun e w' => e = .returned (.int .i64 r) ∧ Drawn0 w w' := by
 have H : ((impl_ceilDiv.f (wrap64 (a0 * a1)) 1024).bind fun t230 => (some t230)) = some r := h
 clear h
 replace H := Option.bind_eq_some_iff.mp H
 obtain ⟨t230, A30, H⟩ := H
 replace H : (some t230) = some r := H
 have A3 := aM A30
 clear A30
 obtain rfl := Option.some.inj H
 go_enter Try.func139, Try.ntmps139
 go_wp2_with (first | ((with_reducible refine gate_callee (f := 140) rfl ?_); refine goesL_ (some 8) rfl rfl Try.func140 kr rfl #[.int .i64 (wrap64 (a0 * a1)), .int .i64 1024] rfl mq ?_; (with_reducible refine (impl_ceilDiv.calls (wrap64 (a0 * a1)) 1024 t230 _ A3.out).mono ?_); rintro e w' ⟨rfl, ⟨nd, rfl⟩⟩; refine ⟨_, rfl, ?_⟩))
 go_ret
 exact ⟨ex, by repeat (first | exact Drawn0.refl _ | apply Drawn0.step)⟩

/-! ### impl_turn_bounds: function 108 -/
def impl_turn_bounds.f (a0_0 : Int) (a0_1 : Int) (a1 : Int) (a2 : Int) : Option (Int × Int) := (impl_share.f a0_0 a2).bind fun t232 => ((impl_share.f a0_1 (wrap64 (a1 + t232))).bind fun t233 => ((impl_share.f a0_0 (wrap64 (a2 + t233))).bind fun t234 => (some (wrap64 ((wrap64 (a1 + t232)) + t234), wrap64 (a2 + t233)))))
set_option maxHeartbeats 8000000 in
set_option maxRecDepth 100000 in
theorem impl_turn_bounds.calls (a0_0 : Int) (a0_1 : Int) (a1 : Int) (a2 : Int) (r1 : Int) (r2 : Int) (w : World) (h : impl_turn_bounds.f a0_0 a0_1 a1 a2 = some (r1, r2)) :
  Calls Try.prog 108 #[.agg #[.int .i64 a0_0, .int .i64 a0_1], .int .i64 a1, .int .i64 a2] w fun e w' => e = .returned (.tuple #[.int .i64 r1, .int .i64 r2]) ∧ Below w.heap.size w w' := by
 have hu108 := Try.underlying108
 have HB := aM (Below.refl w.heap.size w)
 have H : ((impl_share.f a0_0 a2).bind fun t232 => ((impl_share.f a0_1 (wrap64 (a1 + t232))).bind fun t233 => ((impl_share.f a0_0 (wrap64 (a2 + t233))).bind fun t234 => (some (wrap64 ((wrap64 (a1 + t232)) + t234), wrap64 (a2 + t233)))))) = some (r1, r2) := h
 clear h
 replace H := Option.bind_eq_some_iff.mp H
 obtain ⟨t232, A40, H⟩ := H
 replace H : ((impl_share.f a0_1 (wrap64 (a1 + t232))).bind fun t233 => ((impl_share.f a0_0 (wrap64 (a2 + t233))).bind fun t234 => (some (wrap64 ((wrap64 (a1 + t232)) + t234), wrap64 (a2 + t233))))) = some (r1, r2) := H
 have A4 := aM A40
 clear A40
 replace H := Option.bind_eq_some_iff.mp H
 obtain ⟨t233, A50, H⟩ := H
 replace H : ((impl_share.f a0_0 (wrap64 (a2 + t233))).bind fun t234 => (some (wrap64 ((wrap64 (a1 + t232)) + t234), wrap64 (a2 + t233)))) = some (r1, r2) := H
 have A5 := aM A50
 clear A50
 replace H := Option.bind_eq_some_iff.mp H
 obtain ⟨t234, A60, H⟩ := H
 replace H : (some (wrap64 ((wrap64 (a1 + t232)) + t234), wrap64 (a2 + t233))) = some (r1, r2) := H
 have A6 := aM A60
 clear A60
 simp only [Option.some.injEq, Prod.mk.injEq] at H
 obtain ⟨rfl, rfl⟩ := H
 go_enter Try.func108, Try.ntmps108
 go_wp2_with (first | ((with_reducible refine gate_dst (N := 3) rfl ?_); refine box_event ?hg (N := 3) ?hd (cs := #[.int .i64 a0_0, .int .i64 a0_1]) (t := 108) ?hr ?_; (case hd => rfl); (case hg => rfl); (case hr => first | (go_simp; done) | (go_simp; rfl)); intro gb231 hg w7 hbox hb; have BK231 := aM (hbox); have GW231 := aM ((by rw [hg]; exact (bZ bq) : w.heap.size ≤ gb231)); have GE231 := aM ((by rw [hg]; exact (bZ bq) : w.heap.size ≤ gb231)); replace HB := aM (bT bq hb); clear hb hbox hg; have hcz8_0 : w7.cell? ⟨gb231, 0, none⟩ = some (.int .i64 a0_0) := (kC BK231.out 0).trans rfl; have hcz8_1 : w7.cell? ⟨gb231, 1, none⟩ = some (.int .i64 a0_1) := (kC BK231.out 1).trans rfl; have hfz8_0 := kF BK231.out 0; have hfz8_1 := kF BK231.out 1) | ((with_reducible refine gate_callee (f := 139) rfl ?_); refine goesL_ (some 12) rfl rfl Try.func139 kr rfl #[.int .i64 a0_0, .int .i64 a2] rfl mq ?_; (with_reducible refine (impl_share.calls a0_0 a2 t232 _ A4.out).mono ?_); rintro e w' ⟨rfl, ⟨nd, rfl⟩⟩; refine ⟨_, rfl, ?_⟩) | ((with_reducible refine gate_callee (f := 139) rfl ?_); refine goesL_ (some 18) rfl rfl Try.func139 kr rfl #[.int .i64 a0_1, .int .i64 (wrap64 (a1 + t232))] rfl mq ?_; (with_reducible refine (impl_share.calls a0_1 (wrap64 (a1 + t232)) t233 _ A5.out).mono ?_); rintro e w' ⟨rfl, ⟨nd, rfl⟩⟩; refine ⟨_, rfl, ?_⟩) | ((with_reducible refine gate_callee (f := 139) rfl ?_); refine goesL_ (some 24) rfl rfl Try.func139 kr rfl #[.int .i64 a0_0, .int .i64 (wrap64 (a2 + t233))] rfl mq ?_; (with_reducible refine (impl_share.calls a0_0 (wrap64 (a2 + t233)) t234 _ A6.out).mono ?_); rintro e w' ⟨rfl, ⟨nd, rfl⟩⟩; refine ⟨_, rfl, ?_⟩))
 go_ret2
 exact ⟨ew, bq⟩

/-! ### impl_ofBounds_1: function 107 -/
def impl_ofBounds_1.f (a0 : Int) (a1 : Int) (a2 : Int) (a3 : Int) : Option (Int × Int) := (impl_turnOf.f a0 a1).bind fun bt235 => ((impl_turn_bounds.f bt235.1 bt235.2 a2 a3).bind fun bt237 => (some (bt237.1, bt237.2)))
set_option maxHeartbeats 8000000 in
set_option maxRecDepth 100000 in
theorem impl_ofBounds_1.calls (a0 : Int) (a1 : Int) (a2 : Int) (a3 : Int) (r1 : Int) (r2 : Int) (w : World) (h : impl_ofBounds_1.f a0 a1 a2 a3 = some (r1, r2)) :
  Calls Try.prog 107 #[.int .i64 a0, .int .i64 a1, .int .i64 a2, .int .i64 a3] w fun e w' => e = .returned (.tuple #[.int .i64 r1, .int .i64 r2]) ∧ Below w.heap.size w w' := by
 have HB := aM (Below.refl w.heap.size w)
 have H : ((impl_turnOf.f a0 a1).bind fun bt235 => ((impl_turn_bounds.f bt235.1 bt235.2 a2 a3).bind fun bt237 => (some (bt237.1, bt237.2)))) = some (r1, r2) := h
 clear h
 replace H := Option.bind_eq_some_iff.mp H
 obtain ⟨⟨t235, t236⟩, A50, H⟩ := H
 replace H : ((impl_turn_bounds.f t235 t236 a2 a3).bind fun bt237 => (some (bt237.1, bt237.2))) = some (r1, r2) := H
 have A5 := aM A50
 clear A50
 replace H := Option.bind_eq_some_iff.mp H
 obtain ⟨⟨t237, t238⟩, A60, H⟩ := H
 replace H : (some (t237, t238)) = some (r1, r2) := H
 have A6 := aM A60
 clear A60
 simp only [Option.some.injEq, Prod.mk.injEq] at H
 obtain ⟨rfl, rfl⟩ := H
 go_enter Try.func107, Try.ntmps107
 go_wp2_with (first | ((with_reducible refine gate_callee (f := 78) rfl ?_); refine goesL_ (some 12) rfl rfl Try.func78 kr rfl #[.int .i64 a0, .int .i64 a1] rfl mq ?_; (with_reducible refine (impl_turnOf.calls a0 a1 t235 t236 _ A5.out).mono ?_); rintro e w7 ⟨rfl, hb⟩; refine ⟨_, rfl, ?_⟩; replace HB := aM (bT bq hb); (try clear hb)) | ((with_reducible refine gate_callee (f := 108) rfl ?_); refine goesL_ (some 15) rfl rfl Try.func108 kr rfl #[.agg #[.int .i64 t235, .int .i64 t236], .int .i64 a2, .int .i64 a3] rfl mq ?_; (with_reducible refine (impl_turn_bounds.calls t235 t236 a2 a3 t237 t238 _ A6.out).mono ?_); rintro e w8 ⟨rfl, hb⟩; refine ⟨_, rfl, ?_⟩; replace HB := aM (bT bq hb); (try clear hb)))
 go_ret2
 exact ⟨ew, bq⟩
theorem ok4_ofBounds_1 (w : World) : FnOK4 107 #[] impl_ofBounds_1.f w :=
 ⟨fun args w => enters_ Try.func107 kr rfl args w, fun W _ a b c d r1 r2 h => impl_ofBounds_1.calls a b c d r1 r2 W h⟩

/-! ### impl_partBounds: function 109 -/
def impl_partBounds.f (a0 : Int) (a1 : Int) : Option (Int × Int) := (impl_ceilDiv.f a1 2).bind fun t239 => (some (wrap64 (a0 + t239), wrap64 (a0 + t239)))
set_option maxHeartbeats 8000000 in
set_option maxRecDepth 100000 in
theorem impl_partBounds.calls (a0 : Int) (a1 : Int) (r1 : Int) (r2 : Int) (w : World) (h : impl_partBounds.f a0 a1 = some (r1, r2)) :
  Calls Try.prog 109 #[.int .i64 a0, .int .i64 a1] w fun e w' => e = .returned (.tuple #[.int .i64 r1, .int .i64 r2]) ∧ Below w.heap.size w w' := by
 have HB := aM (Below.refl w.heap.size w)
 have H : ((impl_ceilDiv.f a1 2).bind fun t239 => (some (wrap64 (a0 + t239), wrap64 (a0 + t239)))) = some (r1, r2) := h
 clear h
 replace H := Option.bind_eq_some_iff.mp H
 obtain ⟨t239, A30, H⟩ := H
 replace H : (some (wrap64 (a0 + t239), wrap64 (a0 + t239))) = some (r1, r2) := H
 have A3 := aM A30
 clear A30
 simp only [Option.some.injEq, Prod.mk.injEq] at H
 obtain ⟨rfl, rfl⟩ := H
 go_enter Try.func109, Try.ntmps109
 go_wp2_with (first | ((with_reducible refine gate_callee (f := 140) rfl ?_); refine goesL_ (some 9) rfl rfl Try.func140 kr rfl #[.int .i64 a1, .int .i64 2] rfl mq ?_; (with_reducible refine (impl_ceilDiv.calls a1 2 t239 _ A3.out).mono ?_); rintro e w' ⟨rfl, ⟨nd, rfl⟩⟩; refine ⟨_, rfl, ?_⟩))
 go_ret2
 exact ⟨ew, bq⟩
theorem ok2_partBounds (w : World) : FnOK2 109 #[] impl_partBounds.f w :=
 ⟨fun args w => enters_ Try.func109 kr rfl args w, fun W _ a b r1 r2 h => impl_partBounds.calls a b r1 r2 W h⟩

/-! ### impl_ofBounds: function 58 -/
def impl_ofBounds.f : Option Unit := some ()
set_option maxHeartbeats 8000000 in
set_option maxRecDepth 100000 in
theorem impl_ofBounds.calls (w : World) (h : impl_ofBounds.f = some ()) :
  Calls Try.prog 58 #[] w fun e w' => e = .returned (.agg #[.func (.func 107) #[] #[], .func (.func 109) #[] #[]]) ∧ Below w.heap.size w w' := by
 have hu94 := Try.underlying94
 go_enter Try.func58, Try.ntmps58
 go_wp2
 exact bodyPost_ret (v := .agg #[.func (.func 107) #[] #[], .func (.func 109) #[] #[]]) (by simp [results, Try.results58, go_sem]) rfl ⟨rfl, (Below.refl _ _).alloc (Nat.le_refl _) _⟩

/-! ### impl_FrameBounds_2: function 59 -/
set_option maxHeartbeats 8000000 in
set_option maxRecDepth 100000 in
theorem impl_FrameBounds_2.calls (B0 B1 g : Nat) (lb : Array Value) (S : Int → Int → Int → Int → Option (Int × Int)) (sz n a b r1 r2 : Int) (w : World) (hc0 : w.cell? ⟨B0, 0, none⟩ = some (.func (.func g) #[] lb)) (hc1 : w.cell? ⟨B1, 0, none⟩ = some (.int .i64 sz)) (hS : FnOK4 g lb S w) (h : S sz n a b = some (r1, r2)) :
  Calls Try.prog 59 #[.int .i64 n, .int .i64 a, .int .i64 b, .pointer (some ⟨B0, 0, none⟩), .pointer (some ⟨B1, 0, none⟩)] w fun e w' => e = .returned (.tuple #[.int .i64 r1, .int .i64 r2]) ∧ Below w.heap.size w w' := by
 have hen := hS.en
 have hcall : ∀ q : Nat, Calls Try.prog g (#[.int .i64 sz, .int .i64 n, .int .i64 a, .int .i64 b] ++ lb) (w.drewN q) fun e w' => e = .returned (.tuple #[.int .i64 r1, .int .i64 r2]) ∧ Below (w.drewN q).heap.size (w.drewN q) w' := fun q => hS.calls (bN (Below.refl _ _) q) sz n a b r1 r2 h
 have hcall0 : Calls Try.prog g (#[.int .i64 sz, .int .i64 n, .int .i64 a, .int .i64 b] ++ lb) w fun e w' => e = .returned (.tuple #[.int .i64 r1, .int .i64 r2]) ∧ Below w.heap.size w w' := hS.calls (Below.refl _ _) sz n a b r1 r2 h
 clear hS h
 go_enter Try.func59, Try.ntmps59
 go_wp2_with ((first | with_reducible refine hcall0.mono ?_ | with_reducible refine (hcall _).mono ?_); rintro e w1 ⟨rfl, hb⟩; have HB := aM hb; clear hb)
 go_ret2
 exact ⟨rfl, bq⟩
theorem ok3_FrameBounds_2 (B0 B1 g : Nat) (lb : Array Value) (S : Int → Int → Int → Int → Option (Int × Int)) (sz : Int) (w : World) (hc0 : w.cell? ⟨B0, 0, none⟩ = some (.func (.func g) #[] lb)) (hc1 : w.cell? ⟨B1, 0, none⟩ = some (.int .i64 sz)) (hS : FnOK4 g lb S w) :
  FnOK3 59 #[.pointer (some ⟨B0, 0, none⟩), .pointer (some ⟨B1, 0, none⟩)] (S sz) w :=
 ⟨fun args w => enters_ Try.func59 kr rfl args w, fun W hb a b c r1 r2 h => impl_FrameBounds_2.calls B0 B1 g lb S sz a b c r1 r2 W (by rw [hb.cell (World.block_lt_of_cell? w _ hc0)]; exact hc0) (by rw [hb.cell (World.block_lt_of_cell? w _ hc1)]; exact hc1) (hS.later hb) h⟩

end Go.Proofs.Ytmhnpogjkbmmnaa.PFnFrameBounds
