-- Written by a program of this session: wip/mkprint.py over the kit's print, with contracts proved by hand (wip/given.py)
-- shortest of all
-- told shortest
-- told shorter still
-- shortened
-- told short
-- worlds by letters
-- squeezed
import Derived.Test.YtmhnpogjkbmmnaaPFnLapsx0
import Derived.Test.YtmhnpogjkbmmnaaPFnLapsx1
namespace Go.Proofs.Ytmhnpogjkbmmnaa.PFnLaps
open Go.RowKit Go.Proofs.YtmhnpogjkbmmnaaW.PrintWords Go.Proofs.YtmhnpogjkbmmnaaW.PrintLast Go.Proofs.YtmhnpogjkbmmnaaW.PrintMore
open Go.Proofs.YtmhnpogjkbmmnaaW.PrintWords.Aside0 renaming mk → aM
attribute [local go_sem] max2_int min2_int max_two min_two max_three min_three max_four min_four   -- for this text's walks alone
set_option linter.unusedVariables false
set_option linter.unusedSimpArgs false

/-! ### impl_isSample: function 131 -/
def impl_isSample.f (a0 : Int) : Option (Bool) := (impl_inRange.f a0 (-32768) 32767).bind fun t255 => (some t255)
set_option maxHeartbeats 8000000 in
set_option maxRecDepth 100000 in
theorem impl_isSample.calls (a0 : Int) (r : Bool) (w : World) (h : impl_isSample.f a0 = some r) :
  Calls Try.prog 131 #[.int .i64 a0] w fun e w' => e = .returned (.bool r) ∧ Drawn0 w w' := by
 have H : ((impl_inRange.f a0 (-32768) 32767).bind fun t255 => (some t255)) = some r := h
 clear h
 replace H := bo H
 obtain ⟨t255, A2, H⟩ := H
 replace H : (some t255) = some r := H
 obtain rfl := Option.some.inj H
 go_enter Try.func131, Try.ntmps131
 go_wp2_with (first | ((with_reducible refine gate_callee (f := 105) rfl ?_); refine goesL_ (some 4) rfl rfl Try.func105 kr rfl #[.int .i64 a0, .int .i64 (-32768), .int .i64 32767] rfl mq ?_; (with_reducible refine (impl_inRange.calls a0 (-32768) 32767 t255 _ A2.out).mono ?_); rintro e w' ⟨rfl, ⟨nd, rfl⟩⟩; refine ⟨_, rfl, ?_⟩))
 go_ret
 exact ⟨ex, by repeat (first | exact Drawn0.refl _ | apply Drawn0.step)⟩

/-! ### impl_areSamples_1: function 130 -/
def impl_areSamples_1.f (a0 : Int) : Option (Bool) := (impl_isSample.f a0).bind fun t256 => (some (!t256))
set_option maxHeartbeats 8000000 in
set_option maxRecDepth 100000 in
theorem impl_areSamples_1.calls (a0 : Int) (r : Bool) (w : World) (h : impl_areSamples_1.f a0 = some r) :
  Calls Try.prog 130 #[.int .i64 a0] w fun e w' => e = .returned (.bool r) ∧ Drawn0 w w' := by
 have H : ((impl_isSample.f a0).bind fun t256 => (some (!t256))) = some r := h
 clear h
 replace H := bo H
 obtain ⟨t256, A2, H⟩ := H
 replace H : (some (!t256)) = some r := H
 obtain rfl := Option.some.inj H
 go_enter Try.func130, Try.ntmps130
 go_wp2_with (first | ((with_reducible refine gate_callee (f := 131) rfl ?_); refine goesL_ (some 4) rfl rfl Try.func131 kr rfl #[.int .i64 a0] rfl mq ?_; (with_reducible refine (impl_isSample.calls a0 t256 _ A2.out).mono ?_); rintro e w' ⟨rfl, ⟨nd, rfl⟩⟩; refine ⟨_, rfl, ?_⟩))
 go_ret
 exact ⟨ex, by repeat (first | exact Drawn0.refl _ | apply Drawn0.step)⟩
theorem okp_areSamples_1 (w : World) : FnOKp 130 #[] (fun x => !decide (-32768 ≤ x ∧ x ≤ 32767)) w := by
 refine ⟨fun args w => enters_ Try.func130 kr rfl args w, fun W _ x => ?_⟩
 show Calls Try.prog 130 #[.int .i64 x] W _
 refine (impl_areSamples_1.calls x _ W ?_).mono (fun _ _ h => h)
 simp only [impl_areSamples_1.f, impl_inRange.f, impl_isSample.f]
 by_cases h : (-32768) ≤ x <;> simp [h]

/-! ### impl_areSamples: function 96 -/
def impl_areSamples.f (l0 : List Int) : Option (Bool) := (slices_ContainsFunc_int64_int64.f l0 (fun x => !decide (-32768 ≤ x ∧ x ≤ 32767))).bind fun t257 => (some (!t257))
set_option maxHeartbeats 8000000 in
set_option maxRecDepth 100000 in
theorem impl_areSamples.calls (A0 : Option Addr) (c0 : Nat) (l0 : List Int) (r : Bool) (w : World) (hr0 : Kd.C (Kd.int .i64) w A0 l0.length l0) (hc0 : l0.length ≤ c0) (h : impl_areSamples.f l0 = some r) :
  Calls Try.prog 96 #[.slice A0 l0.length c0] w fun e w' => e = .returned (.bool r) ∧ Drawn0 w w' := by
 have HR0 := aM hr0
 have HC0 := aM hc0
 clear hr0 hc0
 have H : ((slices_ContainsFunc_int64_int64.f l0 (fun x => !decide (-32768 ≤ x ∧ x ≤ 32767))).bind fun t257 => (some (!t257))) = some r := h
 clear h
 replace H := bo H
 obtain ⟨t257, A2, H⟩ := H
 replace H : (some (!t257)) = some r := H
 obtain rfl := Option.some.inj H
 go_enter Try.func96, Try.ntmps96
 go_wp2_with (first | ((with_reducible refine gate_callee (f := 103) rfl ?_); refine goesL_ (some 4) rfl rfl Try.func103 kr rfl #[.slice A0 l0.length c0, .func (.func 130) #[] #[]] rfl mq ?_; (with_reducible refine (slices_ContainsFunc_int64_int64.calls _ _ l0 _ _ (fun x => !decide (-32768 ≤ x ∧ x ≤ 32767)) t257 _ ?side1 ?side2 ?side3 A2.out).mono ?_); (case side1 => exact cq HR0.out); (case side2 => exact HC0.out); (case side3 => exact okp_areSamples_1 _); rintro e w' ⟨rfl, ⟨nd, rfl⟩⟩; refine ⟨_, rfl, ?_⟩))
 go_ret
 exact ⟨ex, by repeat (first | exact Drawn0.refl _ | apply Drawn0.step)⟩

end Go.Proofs.Ytmhnpogjkbmmnaa.PFnLaps
