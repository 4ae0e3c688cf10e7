-- Written by a program of this session: wip/mkprint.py over the kit's print, with contracts proved by hand (wip/given.py)
-- told shortest
-- told shorter still
-- shortened
-- told short
-- worlds by letters
-- squeezed
import Derived.Test.YtmhnpogjkbmmnaaPFnFrameBoundsx0
import Derived.Test.YtmhnpogjkbmmnaaPFnFrameBoundsx5
namespace Go.Proofs.Ytmhnpogjkbmmnaa.PFnFrameBounds
open Go.RowKit Go.Proofs.YtmhnpogjkbmmnaaW.PrintWords Go.Proofs.YtmhnpogjkbmmnaaW.PrintLast Go.Proofs.YtmhnpogjkbmmnaaW.PrintMore
open Go.Proofs.YtmhnpogjkbmmnaaW.PrintWords.Kd renaming C_alloc → cA
open Go.Proofs.YtmhnpogjkbmmnaaW.PrintWords renaming below_alloc → bA, pw_below_drewN → bN
open Go.Proofs.YtmhnpogjkbmmnaaW.PrintWords.Aside0 renaming mk → aM
attribute [local go_sem] max2_int min2_int max_two min_two max_three min_three max_four min_four   -- for this text's walks alone
set_option linter.unusedVariables false
set_option linter.unusedSimpArgs false

/-! ### impl_within: function 125 -/
def impl_within.f (a0 : Int) (a1 : Int) : Option (Bool) := (impl_inRange.f a0 (wrap64 (-a1)) a1).bind fun t384 => (some t384)
set_option maxHeartbeats 8000000 in
set_option maxRecDepth 100000 in
theorem impl_within.calls (a0 : Int) (a1 : Int) (r : Bool) (w : World) (h : impl_within.f a0 a1 = some r) :
  Calls Try.prog 125 #[.int .i64 a0, .int .i64 a1] w fun e w' => e = .returned (.bool r) ∧ Drawn0 w w' := by
 have H : ((impl_inRange.f a0 (wrap64 (-a1)) a1).bind fun t384 => (some t384)) = some r := h
 clear h
 replace H := Option.bind_eq_some_iff.mp H
 obtain ⟨t384, A30, H⟩ := H
 replace H : (some t384) = some r := H
 have A3 := aM A30
 clear A30
 obtain rfl := Option.some.inj H
 go_enter Try.func125, Try.ntmps125
 go_wp2_with (first | ((with_reducible refine gate_callee (f := 105) rfl ?_); refine goesL_ (some 9) rfl rfl Try.func105 kr rfl #[.int .i64 a0, .int .i64 (wrap64 (-a1)), .int .i64 a1] rfl mq ?_; (with_reducible refine (impl_inRange.calls a0 (wrap64 (-a1)) a1 t384 _ A3.out).mono ?_); rintro e w' ⟨rfl, ⟨nd, rfl⟩⟩; refine ⟨_, rfl, ?_⟩))
 go_ret
 exact ⟨ex, by repeat (first | exact Drawn0.refl _ | apply Drawn0.step)⟩

/-! ### impl_allWithin_1: function 124 -/
set_option maxHeartbeats 8000000 in
set_option maxRecDepth 100000 in
theorem impl_allWithin_1.calls (B : Nat) (m : Int) (h0 : 0 ≤ m) (h1 : m ≤ 9000000000000000000) (n : Int) (w : World) (hc : w.cell? ⟨B, 0, none⟩ = some (.int .i64 m)) :
  Calls Try.prog 124 #[.int .i64 n, .pointer (some ⟨B, 0, none⟩)] w fun e w' => e = .returned (.bool (!decide (-m ≤ n ∧ n ≤ m))) ∧ Drawn0 w w' := by
 have hw : impl_within.f n m = some (decide (-m ≤ n ∧ n ≤ m)) := by
  have e : wrap64 (-m) = -m := by unfold wrap64; omega
  unfold impl_within.f impl_inRange.f
  rw [e]
  by_cases h : -m ≤ n <;> simp [h]
 have HW := aM hw
 clear hw
 generalize decide (-m ≤ n ∧ n ≤ m) = b at HW
 go_enter Try.func124, Try.ntmps124
 go_wp2_with (go_at_call 125; refine (impl_within.calls n m b _ HW.out).mono ?_; rintro e w' ⟨rfl, ⟨q, rfl⟩⟩)
 go_ret
 exact ⟨rfl, by repeat (first | exact Drawn0.refl _ | apply Drawn0.step)⟩

/-! ### impl_allWithin: function 87 -/
def impl_allWithin.f (l0 : List Int) (a1 : Int) : Option Bool := if 0 ≤ a1 ∧ a1 ≤ 9000000000000000000 then some (!l0.any fun n => !decide (-a1 ≤ n ∧ n ≤ a1)) else none
set_option maxHeartbeats 8000000 in
set_option maxRecDepth 100000 in
theorem impl_allWithin.calls (A0 : Option Addr) (c0 : Nat) (l0 : List Int) (a1 : Int) (r : Bool) (w : World) (hr0 : Kd.C (Kd.int .i64) w A0 l0.length l0) (hc0 : l0.length ≤ c0) (h : impl_allWithin.f l0 a1 = some r) :
  Calls Try.prog 87 #[.slice A0 l0.length c0, .int .i64 a1] w fun e w' => e = .returned (.bool r) ∧ Below w.heap.size w w' := by
 unfold impl_allWithin.f at h
 by_cases hm : 0 ≤ a1 ∧ a1 ≤ 9000000000000000000
 ·rw [if_pos hm] at h
  have H := Option.some.inj h
  subst H
  clear h
  have en : ∀ args w, (callFunc 124 args).run Try.prog w = .ok (.enter 124 args) w := fun args w => enters_ Try.func124 kr rfl args w
  have hC : ∀ (W : World) (B : Nat), W.heap[B]? = some (.cells #[.int .i64 a1] 2 (0, 0)) → Kd.C (Kd.int .i64) W A0 l0.length l0 → Calls Try.prog 103 #[.slice A0 l0.length c0, .func (.func 124) #[] #[.pointer (some ⟨B, 0, none⟩)]] W fun e w' => e = .returned (.bool (l0.any fun n => !decide (-a1 ≤ n ∧ n ≤ a1))) ∧ Drawn0 W w' := by
   intro W B hB hr
   have hlt : B < W.heap.size := by
    rcases Nat.lt_or_ge B W.heap.size with h | h
    ·exact h
    ·rw [Array.getElem?_eq_none h] at hB; cases hB
   refine slices_ContainsFunc_int64_int64.calls A0 c0 l0 124 _ _ _ W hr hc0 ⟨en, fun W' hb x => ?_⟩ rfl
   refine impl_allWithin_1.calls B a1 hm.1 hm.2 x W' ?_
   exact cell_of_one (by rw [hb.block B hlt]; exact hB)
  have HC := aM hC
  have HR := aM hr0
  clear hC hr0 hc0 hm en
  generalize (l0.any fun n => !decide (-a1 ≤ n ∧ n ≤ a1)) = b at HC
  go_enter Try.func87, Try.ntmps87
  go_wp2_with (go_at_call 103; refine (HC.out _ w.heap.size (by simpa using heap_alloc_new w _) (cA HR.out _)).mono ?_; rintro e w' ⟨rfl, ⟨q, rfl⟩⟩)
  go_ret
  exact ⟨rfl, bN (bA (Below.refl _ _) _) _⟩
 ·rw [if_neg hm] at h
  cases h

/-! ### impl_halfOf: function 95 -/
def impl_halfOf.f (l0 : List Int) (a1 : Int) : Option (Bool) := some ((l0.length : Int) == (wrap64 (Int.tdiv a1 2)))
set_option maxHeartbeats 8000000 in
set_option maxRecDepth 100000 in
theorem impl_halfOf.calls (A0 : Option Addr) (c0 : Nat) (l0 : List Int) (a1 : Int) (r : Bool) (w : World) (hr0 : Kd.C (Kd.int .i64) w A0 l0.length l0) (hc0 : l0.length ≤ c0) (h : impl_halfOf.f l0 a1 = some r) :
  Calls Try.prog 95 #[.slice A0 l0.length c0, .int .i64 a1] w fun e w' => e = .returned (.bool r) ∧ Drawn0 w w' := by
 have HR0 := aM hr0
 have HC0 := aM hc0
 clear hr0 hc0
 have H : (some ((l0.length : Int) == (wrap64 (Int.tdiv a1 2)))) = some r := h
 clear h
 obtain rfl := Option.some.inj H
 go_enter Try.func95, Try.ntmps95
 go_wp2
 go_ret
 exact ⟨ex, by repeat (first | exact Drawn0.refl _ | apply Drawn0.step)⟩

end Go.Proofs.Ytmhnpogjkbmmnaa.PFnFrameBounds
