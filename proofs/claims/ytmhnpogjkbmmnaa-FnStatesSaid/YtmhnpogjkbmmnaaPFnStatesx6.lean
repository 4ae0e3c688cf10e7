import Derived.Test.YtmhnpogjkbmmnaaPFnStatesx0
namespace Go.Proofs.Ytmhnpogjkbmmnaa.PFnStates
open Go.RowKit Go.Proofs.YtmhnpogjkbmmnaaW.PrintWords Go.Proofs.YtmhnpogjkbmmnaaW.PrintLast Go.Proofs.YtmhnpogjkbmmnaaW.PrintMore
open Go.Proofs.YtmhnpogjkbmmnaaW.PrintWords.Kd renaming C_alloc → cA
open Go.Proofs.YtmhnpogjkbmmnaaW.PrintWords renaming below_alloc → bA, pw_below_drewN → bN
open Go.Proofs.YtmhnpogjkbmmnaaW.PrintWords.Aside0 renaming mk → aM
attribute [local go_sem] max2_int min2_int max_two min_two max_three min_three max_four min_four
set_option maxHeartbeats 8000000
set_option maxRecDepth 100000
set_option linter.unusedVariables false
set_option linter.unusedSimpArgs false
def impl_SizeFault.f (a0 : Int) : Option (Int) := if a0 = 4 then (some 0) else (if a0 = 8 then (some 0) else (if a0 = 16 then (some 0) else (some 3)))
theorem impl_SizeFault.calls (a0 : Int) (r : Int) (w : World) (h : impl_SizeFault.f a0 = some r) :
  Calls Try.prog 55 #[.int .i64 a0] w fun e w' => e = .returned (.int .i64 r) ∧ Drawn0 w w' := by
 unfold impl_SizeFault.f at h
 have H := h
 clear h
 by_cases c2 : a0 = 4
 ·rw [if_pos c2] at H
  have c2b0 := eT c2
  have c2b1 := nF c2
  clear c2
  obtain rfl := Option.some.inj H
  go_enter Try.func55, Try.ntmps55
  go_wp2
  go_ret
  exact ⟨ex, dr⟩
 ·rw [if_neg c2] at H
  have c2b0 := eF c2
  have c2b1 := nT c2
  by_cases c3 : a0 = 8
  ·rw [if_pos c3] at H
   have c3b0 := eT c3
   have c3b1 := nF c3
   clear c3
   obtain rfl := Option.some.inj H
   go_enter Try.func55, Try.ntmps55
   go_wp2
   go_ret
   exact ⟨ex, dr⟩
  ·rw [if_neg c3] at H
   have c3b0 := eF c3
   have c3b1 := nT c3
   by_cases c4 : a0 = 16
   ·rw [if_pos c4] at H
    have c4b0 := eT c4
    have c4b1 := nF c4
    clear c4
    obtain rfl := Option.some.inj H
    go_enter Try.func55, Try.ntmps55
    go_wp2
    go_ret
    exact ⟨ex, dr⟩
   ·rw [if_neg c4] at H
    have c4b0 := eF c4
    have c4b1 := nT c4
    obtain rfl := Option.some.inj H
    go_enter Try.func55, Try.ntmps55
    go_wp2
    go_ret
    exact ⟨ex, dr⟩
def impl_codeIf.f (a0 : Bool) (a1 : Int) : Option (Int) := if a0 = true then (some a1) else (some 0)
theorem impl_codeIf.calls (a0 : Bool) (a1 : Int) (r : Int) (w : World) (h : impl_codeIf.f a0 a1 = some r) :
  Calls Try.prog 56 #[.bool a0, .int .i64 a1] w fun e w' => e = .returned (.int .i64 r) ∧ Drawn0 w w' := by
 unfold impl_codeIf.f at h
 have H := h
 clear h
 by_cases c3 : a0 = true
 ·subst c3
  have H1 : (some a1) = some r := by rw [if_pos rfl] at H; exact H
  clear H
  have H := H1
  clear H1
  obtain rfl := Option.some.inj H
  go_enter Try.func56, Try.ntmps56
  go_wp2
  go_ret
  exact ⟨ex, dr⟩
 ·replace c3 := Bool.eq_false_iff.mpr c3
  subst c3
  have H1 : (some 0) = some r := by rw [if_neg (show ¬ (false = true) by decide)] at H; exact H
  clear H
  have H := H1
  clear H1
  obtain rfl := Option.some.inj H
  go_enter Try.func56, Try.ntmps56
  go_wp2
  go_ret
  exact ⟨ex, dr⟩
def firstAt (p : Int → Bool) : List Int → Int → Int
 | [], _ => -1
 | x :: l, i => if p x then i else firstAt p l (i + 1)
theorem firstAt_step (p : Int → Bool) (l : List Int) (k : Nat) (h : k < l.length) : firstAt p (l.drop k) k = if p (rd l k) then (k : Int) else firstAt p (l.drop (k + 1)) ((k + 1 : Nat) : Int) := by
 rw [List.drop_eq_getElem_cons h, firstAt]
 have e : rd l k = l[k] := by unfold rd; rw [Int.toNat_natCast, List.getD_eq_getElem?_getD, List.getElem?_eq_getElem h]; rfl
 rw [e]
 rfl
theorem firstAt_any (p : Int → Bool) (l : List Int) : ∀ i : Int, 0 ≤ i → decide (0 ≤ firstAt p l i) = l.any p := by
 induction l with
 | nil => intro i _; rfl
 | cons x l ih =>
  intro i hi
  rw [firstAt, List.any_cons]
  cases hx : p x with
  | true => simp [hi]
  | false => simp only [Bool.false_or]; rw [if_neg (by simp), ih _ (by omega)]
def slices_IndexFunc_int64_int64.f (l0 : List Int) (S1 : (Int → Bool)) : Option Int := some (firstAt S1 l0 0)
theorem slices_IndexFunc_int64_int64.calls (A0 : Option Addr) (c0 : Nat) (l0 : List Int) (g1_ : Nat) (b1_ : Array Value) (S1 : (Int → Bool)) (r : Int) (w : World) (hr0 : Kd.C (Kd.int .i64) w A0 l0.length l0) (hc0 : l0.length ≤ c0) (hS1 : FnOKp g1_ b1_ S1 w) (h : slices_IndexFunc_int64_int64.f l0 S1 = some r) :
  Calls Try.prog 138 #[.slice A0 l0.length c0, .func (.func g1_) #[] b1_] w fun e w' => e = .returned (.int .i64 r) ∧ Drawn0 w w' := by
 have HR0 := aM hr0
 have hen := hS1.en
 have hp : ∀ (q : Nat) (x : Int), Calls Try.prog g1_ (#[.int .i64 x] ++ b1_) (w.drewN q) fun e w' => e = .returned (.bool (S1 x)) ∧ Drawn0 (w.drewN q) w' := fun q x => hS1.ok _ (bN (Below.refl _ _) q) x
 have hbig : l0.length ≤ 9223372036854775807 := hr0.2.1
 have H : firstAt S1 l0 0 = r := Option.some.inj h
 have HA : Aside0 (firstAt S1 (l0.drop 0) ((0 : Nat) : Int) = r) := ⟨H⟩
 clear hr0 hc0 hS1 h H
 go_enter Try.func138, Try.ntmps138
 go_wp2
 go_loopg [5, 8] l0.length (fun gg _ s8 wr => ∃ kk q : Nat, kk ≤ l0.length ∧ l0.length - kk ≤ gg ∧ s8 = .int .i64 kk ∧ wr = w.drewN q ∧ Aside0 (firstAt S1 (l0.drop kk) (kk : Int) = r))
 case atStart => exact ⟨0, 0, Nat.zero_le _, by omega, rfl, rfl, HA⟩
 case round =>
  clear HA
  obtain ⟨kk, q, hkk, hg, rfl, rfl, A⟩ := hrel
  by_cases hlt : kk < l0.length
  ·have st := firstAt_step S1 l0 kk hlt
   obtain ⟨ad, e, hx⟩ := Kd.at_int HR0.out (kk : Int) (by omega) (by omega)
   cases e
   rw [Int.toNat_natCast] at hx
   have hltz : (kk : Int) < (l0.length : Int) := by omega
   have hcall := hp q (rd l0 kk)
   generalize rd l0 (kk : Int) = y at st hx hcall
   cases hq : S1 y with
   | true =>
    rw [hq] at hcall st
    have hr := A.out
    rw [st, if_pos rfl] at hr
    subst hr
    clear st A
    go_wp2_with ((with_reducible refine hcall.mono ?_); rintro e w' ⟨rfl, ⟨q', rfl⟩⟩)
    go_ret
    exact ⟨rfl, by repeat (first | exact Drawn0.refl _ | apply Drawn0.step)⟩
   | false =>
    rw [hq] at hcall st
    have hr := aM (st.symm.trans A.out)
    clear st A
    go_wp2_with ((with_reducible refine hcall.mono ?_); rintro e w' ⟨rfl, ⟨q', rfl⟩⟩)
    go_roundg (l0.length - (kk + 1))
    case measure => omega
    case rel => exact ⟨kk + 1, _, by omega, by omega, by go_num, rfl, hr⟩
  ·have hltz : ¬ (kk : Int) < (l0.length : Int) := by omega
   have e : kk = l0.length := by omega
   subst e
   have hr := A.out
   rw [List.drop_length] at hr
   have hr' : (-1 : Int) = r := hr
   subst hr'
   clear hr A
   go_wp2
   go_ret
   exact ⟨rfl, by repeat (first | exact Drawn0.refl _ | apply Drawn0.step)⟩
def slices_ContainsFunc_int64_int64.f (l0 : List Int) (S1 : (Int → Bool)) : Option Bool := some (l0.any S1)
theorem slices_ContainsFunc_int64_int64.calls (A0 : Option Addr) (c0 : Nat) (l0 : List Int) (g1_ : Nat) (b1_ : Array Value) (S1 : (Int → Bool)) (r : Bool) (w : World) (hr0 : Kd.C (Kd.int .i64) w A0 l0.length l0) (hc0 : l0.length ≤ c0) (hS1 : FnOKp g1_ b1_ S1 w) (h : slices_ContainsFunc_int64_int64.f l0 S1 = some r) :
  Calls Try.prog 103 #[.slice A0 l0.length c0, .func (.func g1_) #[] b1_] w fun e w' => e = .returned (.bool r) ∧ Drawn0 w w' := by
 have H : l0.any S1 = r := Option.some.inj h
 rw [← firstAt_any S1 l0 0 (by omega)] at H
 subst H
 have hI := slices_IndexFunc_int64_int64.calls A0 c0 l0 g1_ b1_ S1 (firstAt S1 l0 0) w hr0 hc0 hS1 rfl
 generalize firstAt S1 l0 0 = i at hI
 clear hr0 hS1 h
 go_enter Try.func103, Try.ntmps103
 go_wp2_with (go_at_call 138; refine hI.mono ?_; rintro e w' ⟨rfl, ⟨q, rfl⟩⟩)
 go_ret
 exact ⟨rfl, by repeat (first | exact Drawn0.refl _ | apply Drawn0.step)⟩
def impl_inRange.f (a0 : Int) (a1 : Int) (a2 : Int) : Option (Bool) := if a1 ≤ a0 then (some (decide (a0 ≤ a2))) else (some false)
theorem impl_inRange.calls (a0 : Int) (a1 : Int) (a2 : Int) (r : Bool) (w : World) (h : impl_inRange.f a0 a1 a2 = some r) :
  Calls Try.prog 105 #[.int .i64 a0, .int .i64 a1, .int .i64 a2] w fun e w' => e = .returned (.bool r) ∧ Drawn0 w w' := by
 unfold impl_inRange.f at h
 have H := h
 clear h
 by_cases c4 : a1 ≤ a0
 ·rw [if_pos c4] at H
  have c4b0 := dT c4
  clear c4
  obtain rfl := Option.some.inj H
  go_enter Try.func105, Try.ntmps105
  go_wp2
  go_ret
  exact ⟨ex, dr⟩
 ·rw [if_neg c4] at H
  have c4b0 := dF c4
  clear c4
  obtain rfl := Option.some.inj H
  go_enter Try.func105, Try.ntmps105
  go_wp2
  go_ret
  exact ⟨ex, dr⟩
def impl_within.f (a0 : Int) (a1 : Int) : Option (Bool) := (impl_inRange.f a0 (wrap64 (-a1)) a1).bind fun t238 => (some t238)
theorem impl_within.calls (a0 : Int) (a1 : Int) (r : Bool) (w : World) (h : impl_within.f a0 a1 = some r) :
  Calls Try.prog 125 #[.int .i64 a0, .int .i64 a1] w fun e w' => e = .returned (.bool r) ∧ Drawn0 w w' := by
 unfold impl_within.f at h
 have H := h
 clear h
 replace H := bo H
 obtain ⟨t238, A3, H⟩ := H
 replace H : (some t238) = some r := H
 obtain rfl := Option.some.inj H
 go_enter Try.func125, Try.ntmps125
 go_wp2_with (first | ((with_reducible refine gC 105 rfl ?_); refine gl (some 9) Try.func105 #[.int .i64 a0, .int .i64 (wrap64 (-a1)), .int .i64 a1] ?_; (with_reducible refine (impl_inRange.calls a0 (wrap64 (-a1)) a1 t238 _ A3.out).mono ?_); rintro e w' ⟨rfl, ⟨nd, rfl⟩⟩; refine ii ?_))
 go_ret
 exact ⟨ex, dr⟩
theorem impl_allWithin_1.calls (B : Nat) (m : Int) (h0 : 0 ≤ m) (h1 : m ≤ 9000000000000000000) (n : Int) (w : World) (hc : w.cell? ⟨B, 0, none⟩ = some (.int .i64 m)) :
  Calls Try.prog 124 #[.int .i64 n, .pointer (some ⟨B, 0, none⟩)] w fun e w' => e = .returned (.bool (!decide (-m ≤ n ∧ n ≤ m))) ∧ Drawn0 w w' := by
 have hw : impl_within.f n m = some (decide (-m ≤ n ∧ n ≤ m)) := by
  have e : wrap64 (-m) = -m := by unfold wrap64; omega
  unfold impl_within.f impl_inRange.f
  rw [e]
  by_cases h : -m ≤ n <;> simp [h]
 have HW := aM hw
 clear hw
 generalize decide (-m ≤ n ∧ n ≤ m) = b at HW
 go_enter Try.func124, Try.ntmps124
 go_wp2_with (go_at_call 125; refine (impl_within.calls n m b _ HW.out).mono ?_; rintro e w' ⟨rfl, ⟨q, rfl⟩⟩)
 go_ret
 exact ⟨rfl, by repeat (first | exact Drawn0.refl _ | apply Drawn0.step)⟩
def impl_allWithin.f (l0 : List Int) (a1 : Int) : Option Bool := if 0 ≤ a1 ∧ a1 ≤ 9000000000000000000 then some (!l0.any fun n => !decide (-a1 ≤ n ∧ n ≤ a1)) else none
theorem impl_allWithin.calls (A0 : Option Addr) (c0 : Nat) (l0 : List Int) (a1 : Int) (r : Bool) (w : World) (hr0 : Kd.C (Kd.int .i64) w A0 l0.length l0) (hc0 : l0.length ≤ c0) (h : impl_allWithin.f l0 a1 = some r) :
  Calls Try.prog 87 #[.slice A0 l0.length c0, .int .i64 a1] w fun e w' => e = .returned (.bool r) ∧ Below w.heap.size w w' := by
 unfold impl_allWithin.f at h
 by_cases hm : 0 ≤ a1 ∧ a1 ≤ 9000000000000000000
 ·rw [if_pos hm] at h
  have H := Option.some.inj h
  subst H
  clear h
  have en : ∀ args w, (callFunc 124 args).run Try.prog w = .ok (.enter 124 args) w := fun args w => enters_ Try.func124 kr rfl args w
  have hC : ∀ (W : World) (B : Nat), W.heap[B]? = some (.cells #[.int .i64 a1] 2 (0, 0)) → Kd.C (Kd.int .i64) W A0 l0.length l0 → Calls Try.prog 103 #[.slice A0 l0.length c0, .func (.func 124) #[] #[.pointer (some ⟨B, 0, none⟩)]] W fun e w' => e = .returned (.bool (l0.any fun n => !decide (-a1 ≤ n ∧ n ≤ a1))) ∧ Drawn0 W w' := by
   intro W B hB hr
   have hlt : B < W.heap.size := by
    rcases Nat.lt_or_ge B W.heap.size with h | h
    ·exact h
    ·rw [Array.getElem?_eq_none h] at hB; cases hB
   refine slices_ContainsFunc_int64_int64.calls A0 c0 l0 124 _ _ _ W hr hc0 ⟨en, fun W' hb x => ?_⟩ rfl
   refine impl_allWithin_1.calls B a1 hm.1 hm.2 x W' ?_
   exact cell_of_one (by rw [hb.block B hlt]; exact hB)
  have HC := aM hC
  have HR := aM hr0
  clear hC hr0 hc0 hm en
  generalize (l0.any fun n => !decide (-a1 ≤ n ∧ n ≤ a1)) = b at HC
  go_enter Try.func87, Try.ntmps87
  go_wp2_with (go_at_call 103; refine (HC.out _ w.heap.size (by simpa using heap_alloc_new w _) (cA HR.out _)).mono ?_; rintro e w' ⟨rfl, ⟨q, rfl⟩⟩)
  go_ret
  exact ⟨rfl, bN (bA (Below.refl _ _) _) _⟩
 ·rw [if_neg hm] at h
  cases h
def impl_halfOf.f (l0 : List Int) (a1 : Int) : Option (Bool) := some ((l0.length : Int) == (wrap64 (Int.tdiv a1 2)))
theorem impl_halfOf.calls (A0 : Option Addr) (c0 : Nat) (l0 : List Int) (a1 : Int) (r : Bool) (w : World) (hr0 : Kd.C (Kd.int .i64) w A0 l0.length l0) (hc0 : l0.length ≤ c0) (h : impl_halfOf.f l0 a1 = some r) :
  Calls Try.prog 95 #[.slice A0 l0.length c0, .int .i64 a1] w fun e w' => e = .returned (.bool r) ∧ Drawn0 w w' := by
 have HR0 := aM hr0
 have HC0 := aM hc0
 clear hr0 hc0
 unfold impl_halfOf.f at h
 have H := h
 clear h
 obtain rfl := Option.some.inj H
 go_enter Try.func95, Try.ntmps95
 go_wp2
 go_ret
 exact ⟨ex, dr⟩
end Go.Proofs.Ytmhnpogjkbmmnaa.PFnStates
