import Derived.Test.YtmhnpogjkbmmnaaPFnStatesx0
import Derived.Test.YtmhnpogjkbmmnaaPFnStatesx1
namespace Go.Proofs.Ytmhnpogjkbmmnaa.PFnStates
open Go.RowKit Go.Proofs.YtmhnpogjkbmmnaaW.PrintWords Go.Proofs.YtmhnpogjkbmmnaaW.PrintLast Go.Proofs.YtmhnpogjkbmmnaaW.PrintMore
open Go.Proofs.YtmhnpogjkbmmnaaW.PrintWords.Aside0 renaming mk → aM
attribute [local go_sem] max2_int min2_int max_two min_two max_three min_three max_four min_four
set_option maxHeartbeats 8000000
set_option maxRecDepth 100000
set_option linter.unusedVariables false
set_option linter.unusedSimpArgs false
def spec_l5U.f (a0 : Int) (a1 : Int) : Option (Int) := if (wrap64 ((wrap64 (a0 * 16)) + a1)) = 64 then (some 200) else (if (wrap64 ((wrap64 (a0 * 16)) + a1)) = 65 then (some 569) else (if (wrap64 ((wrap64 (a0 * 16)) + a1)) = 128 then (some 100) else (if (wrap64 ((wrap64 (a0 * 16)) + a1)) = 129 then (some 297) else (if (wrap64 ((wrap64 (a0 * 16)) + a1)) = 130 then (some 483) else (if (wrap64 ((wrap64 (a0 * 16)) + a1)) = 131 then (some 650) else (if (wrap64 ((wrap64 (a0 * 16)) + a1)) = 256 then (some 50) else (if (wrap64 ((wrap64 (a0 * 16)) + a1)) = 257 then (some 150) else (if (wrap64 ((wrap64 (a0 * 16)) + a1)) = 258 then (some 249) else (if (wrap64 ((wrap64 (a0 * 16)) + a1)) = 259 then (some 345) else (if (wrap64 ((wrap64 (a0 * 16)) + a1)) = 260 then (some 438) else (if (wrap64 ((wrap64 (a0 * 16)) + a1)) = 261 then (some 526) else (if (wrap64 ((wrap64 (a0 * 16)) + a1)) = 262 then (some 610) else (some 688)))))))))))))
theorem spec_l5U.calls (a0 : Int) (a1 : Int) (r : Int) (w : World) (h : spec_l5U.f a0 a1 = some r) :
  Calls Try.prog 156 #[.int .i64 a0, .int .i64 a1] w fun e w' => e = .returned (.int .i64 r) ∧ Drawn0 w w' := by
 unfold spec_l5U.f at h
 have H := h
 clear h
 by_cases c3 : (wrap64 ((wrap64 (a0 * 16)) + a1)) = 64
 ·rw [if_pos c3] at H
  have c3b0 := eT c3
  have c3b1 := nF c3
  clear c3
  obtain rfl := Option.some.inj H
  go_enter Try.func156, Try.ntmps156
  go_wp2
  go_ret
  exact ⟨ex, dr⟩
 ·rw [if_neg c3] at H
  have c3b0 := eF c3
  have c3b1 := nT c3
  by_cases c4 : (wrap64 ((wrap64 (a0 * 16)) + a1)) = 65
  ·rw [if_pos c4] at H
   have c4b0 := eT c4
   have c4b1 := nF c4
   clear c4
   obtain rfl := Option.some.inj H
   go_enter Try.func156, Try.ntmps156
   go_wp2
   go_ret
   exact ⟨ex, dr⟩
  ·rw [if_neg c4] at H
   have c4b0 := eF c4
   have c4b1 := nT c4
   by_cases c5 : (wrap64 ((wrap64 (a0 * 16)) + a1)) = 128
   ·rw [if_pos c5] at H
    have c5b0 := eT c5
    have c5b1 := nF c5
    clear c5
    obtain rfl := Option.some.inj H
    go_enter Try.func156, Try.ntmps156
    go_wp2
    go_ret
    exact ⟨ex, dr⟩
   ·rw [if_neg c5] at H
    have c5b0 := eF c5
    have c5b1 := nT c5
    by_cases c6 : (wrap64 ((wrap64 (a0 * 16)) + a1)) = 129
    ·rw [if_pos c6] at H
     have c6b0 := eT c6
     have c6b1 := nF c6
     clear c6
     obtain rfl := Option.some.inj H
     go_enter Try.func156, Try.ntmps156
     go_wp2
     go_ret
     exact ⟨ex, dr⟩
    ·rw [if_neg c6] at H
     have c6b0 := eF c6
     have c6b1 := nT c6
     by_cases c7 : (wrap64 ((wrap64 (a0 * 16)) + a1)) = 130
     ·rw [if_pos c7] at H
      have c7b0 := eT c7
      have c7b1 := nF c7
      clear c7
      obtain rfl := Option.some.inj H
      go_enter Try.func156, Try.ntmps156
      go_wp2
      go_ret
      exact ⟨ex, dr⟩
     ·rw [if_neg c7] at H
      have c7b0 := eF c7
      have c7b1 := nT c7
      by_cases c8 : (wrap64 ((wrap64 (a0 * 16)) + a1)) = 131
      ·rw [if_pos c8] at H
       have c8b0 := eT c8
       have c8b1 := nF c8
       clear c8
       obtain rfl := Option.some.inj H
       go_enter Try.func156, Try.ntmps156
       go_wp2
       go_ret
       exact ⟨ex, dr⟩
      ·rw [if_neg c8] at H
       have c8b0 := eF c8
       have c8b1 := nT c8
       by_cases c9 : (wrap64 ((wrap64 (a0 * 16)) + a1)) = 256
       ·rw [if_pos c9] at H
        have c9b0 := eT c9
        have c9b1 := nF c9
        clear c9
        obtain rfl := Option.some.inj H
        go_enter Try.func156, Try.ntmps156
        go_wp2
        go_ret
        exact ⟨ex, dr⟩
       ·rw [if_neg c9] at H
        have c9b0 := eF c9
        have c9b1 := nT c9
        by_cases c10 : (wrap64 ((wrap64 (a0 * 16)) + a1)) = 257
        ·rw [if_pos c10] at H
         have c10b0 := eT c10
         have c10b1 := nF c10
         clear c10
         obtain rfl := Option.some.inj H
         go_enter Try.func156, Try.ntmps156
         go_wp2
         go_ret
         exact ⟨ex, dr⟩
        ·rw [if_neg c10] at H
         have c10b0 := eF c10
         have c10b1 := nT c10
         by_cases c11 : (wrap64 ((wrap64 (a0 * 16)) + a1)) = 258
         ·rw [if_pos c11] at H
          have c11b0 := eT c11
          have c11b1 := nF c11
          clear c11
          obtain rfl := Option.some.inj H
          go_enter Try.func156, Try.ntmps156
          go_wp2
          go_ret
          exact ⟨ex, dr⟩
         ·rw [if_neg c11] at H
          have c11b0 := eF c11
          have c11b1 := nT c11
          by_cases c12 : (wrap64 ((wrap64 (a0 * 16)) + a1)) = 259
          ·rw [if_pos c12] at H
           have c12b0 := eT c12
           have c12b1 := nF c12
           clear c12
           obtain rfl := Option.some.inj H
           go_enter Try.func156, Try.ntmps156
           go_wp2
           go_ret
           exact ⟨ex, dr⟩
          ·rw [if_neg c12] at H
           have c12b0 := eF c12
           have c12b1 := nT c12
           by_cases c13 : (wrap64 ((wrap64 (a0 * 16)) + a1)) = 260
           ·rw [if_pos c13] at H
            have c13b0 := eT c13
            have c13b1 := nF c13
            clear c13
            obtain rfl := Option.some.inj H
            go_enter Try.func156, Try.ntmps156
            go_wp2
            go_ret
            exact ⟨ex, dr⟩
           ·rw [if_neg c13] at H
            have c13b0 := eF c13
            have c13b1 := nT c13
            by_cases c14 : (wrap64 ((wrap64 (a0 * 16)) + a1)) = 261
            ·rw [if_pos c14] at H
             have c14b0 := eT c14
             have c14b1 := nF c14
             clear c14
             obtain rfl := Option.some.inj H
             go_enter Try.func156, Try.ntmps156
             go_wp2
             go_ret
             exact ⟨ex, dr⟩
            ·rw [if_neg c14] at H
             have c14b0 := eF c14
             have c14b1 := nT c14
             by_cases c15 : (wrap64 ((wrap64 (a0 * 16)) + a1)) = 262
             ·rw [if_pos c15] at H
              have c15b0 := eT c15
              have c15b1 := nF c15
              clear c15
              obtain rfl := Option.some.inj H
              go_enter Try.func156, Try.ntmps156
              go_wp2
              go_ret
              exact ⟨ex, dr⟩
             ·rw [if_neg c15] at H
              have c15b0 := eF c15
              have c15b1 := nT c15
              obtain rfl := Option.some.inj H
              go_enter Try.func156, Try.ntmps156
              go_wp2
              go_ret
              exact ⟨ex, dr⟩
def spec_l1Ceil.f (a0 : Int) (a1 : Int) : Option (Int) := if a1 = 0 then (none) else (some (wrap64 (Int.tdiv (wrap64 ((wrap64 (a0 + a1)) - 1)) a1)))
theorem spec_l1Ceil.calls (a0 : Int) (a1 : Int) (r : Int) (w : World) (h : spec_l1Ceil.f a0 a1 = some r) :
  Calls Try.prog 137 #[.int .i64 a0, .int .i64 a1] w fun e w' => e = .returned (.int .i64 r) ∧ Drawn0 w w' := by
 unfold spec_l1Ceil.f at h
 have H := h
 clear h
 by_cases c3 : a1 = 0
 ·rw [if_pos c3] at H
  exact absurd H (by simp)
 ·rw [if_neg c3] at H
  have c3b0 := eF c3
  have c3b1 := nT c3
  obtain rfl := Option.some.inj H
  go_enter Try.func137, Try.ntmps137
  go_wp2
  go_ret
  exact ⟨ex, dr⟩
def spec_l1Floor.f (a0 : Int) (a1 : Int) : Option (Int) := if a0 < 0 then ((spec_l1Ceil.f (wrap64 (-a0)) a1).bind fun t118 => (some (wrap64 (-t118)))) else (if a1 = 0 then (none) else (some (wrap64 (Int.tdiv a0 a1))))
theorem spec_l1Floor.calls (a0 : Int) (a1 : Int) (r : Int) (w : World) (h : spec_l1Floor.f a0 a1 = some r) :
  Calls Try.prog 160 #[.int .i64 a0, .int .i64 a1] w fun e w' => e = .returned (.int .i64 r) ∧ Drawn0 w w' := by
 unfold spec_l1Floor.f at h
 have H := h
 clear h
 by_cases c3 : a0 < 0
 ·rw [if_pos c3] at H
  have c3b0 := dT c3
  clear c3
  replace H := bo H
  obtain ⟨t118, A4, H⟩ := H
  replace H := bz H
  obtain rfl := Option.some.inj H
  go_enter Try.func160, Try.ntmps160
  go_wp2_with (first | ((with_reducible refine gC 137 rfl ?_); refine gl (some 10) Try.func137 #[.int .i64 (wrap64 (-a0)), .int .i64 a1] ?_; (with_reducible refine (spec_l1Ceil.calls (wrap64 (-a0)) a1 t118 _ A4.out).mono ?_); rintro e w' ⟨rfl, ⟨nd, rfl⟩⟩; refine ii ?_))
  go_ret
  exact ⟨ex, dr⟩
 ·rw [if_neg c3] at H
  have c3b0 := dF c3
  clear c3
  by_cases c5 : a1 = 0
  ·rw [if_pos c5] at H
   exact absurd H (by simp)
  ·rw [if_neg c5] at H
   have c5b0 := eF c5
   have c5b1 := nT c5
   obtain rfl := Option.some.inj H
   go_enter Try.func160, Try.ntmps160
   go_wp2
   go_ret
   exact ⟨ex, dr⟩
def spec_l1Ten.f (a0 : Int) : Option (Int) := (spec_l1Floor.f (wrap64 (a0 + 512)) 1024).bind fun t119 => (some t119)
theorem spec_l1Ten.calls (a0 : Int) (r : Int) (w : World) (h : spec_l1Ten.f a0 = some r) :
  Calls Try.prog 158 #[.int .i64 a0] w fun e w' => e = .returned (.int .i64 r) ∧ Drawn0 w w' := by
 unfold spec_l1Ten.f at h
 have H := h
 clear h
 replace H := bo H
 obtain ⟨t119, A2, H⟩ := H
 replace H : (some t119) = some r := H
 obtain rfl := Option.some.inj H
 go_enter Try.func158, Try.ntmps158
 go_wp2_with (first | ((with_reducible refine gC 160 rfl ?_); refine gl (some 5) Try.func160 #[.int .i64 (wrap64 (a0 + 512)), .int .i64 1024] ?_; (with_reducible refine (spec_l1Floor.calls (wrap64 (a0 + 512)) 1024 t119 _ A2.out).mono ?_); rintro e w' ⟨rfl, ⟨nd, rfl⟩⟩; refine ii ?_))
 go_ret
 exact ⟨ex, dr⟩
def spec_l5Back.f (a0 : Int) (a1 : Int) (a2 : Int) (a3 : Int) : Option (Int × Int) := (spec_l5P.f a0 a1).bind fun t120 => ((spec_l1Ten.f (wrap64 (t120 * a3))).bind fun t121 => ((spec_l5U.f a0 a1).bind fun t122 => ((spec_l1Ten.f (wrap64 (t122 * (wrap64 (a2 + t121))))).bind fun t123 => ((spec_l5P.f a0 a1).bind fun t124 => ((spec_l1Ten.f (wrap64 (t124 * (wrap64 (a3 - t123))))).bind fun t125 => (some (wrap64 ((wrap64 (a2 + t121)) + t125), wrap64 (a3 - t123))))))))
theorem spec_l5Back.calls (a0 : Int) (a1 : Int) (a2 : Int) (a3 : Int) (r1 : Int) (r2 : Int) (w : World) (h : spec_l5Back.f a0 a1 a2 a3 = some (r1, r2)) :
  Calls Try.prog 142 #[.int .i64 a0, .int .i64 a1, .int .i64 a2, .int .i64 a3] w fun e w' => e = .returned (.tuple #[.int .i64 r1, .int .i64 r2]) ∧ Below w.heap.size w w' := by
 have HB := aM (Below.refl w.heap.size w)
 unfold spec_l5Back.f at h
 have H := h
 clear h
 replace H := bo H
 obtain ⟨t120, A5, H⟩ := H
 replace H := bz H
 replace H := bo H
 obtain ⟨t121, A6, H⟩ := H
 replace H := bz H
 replace H := bo H
 obtain ⟨t122, A7, H⟩ := H
 replace H := bz H
 replace H := bo H
 obtain ⟨t123, A8, H⟩ := H
 replace H := bz H
 replace H := bo H
 obtain ⟨t124, A9, H⟩ := H
 replace H := bz H
 replace H := bo H
 obtain ⟨t125, A10, H⟩ := H
 replace H := bz H
 simp only [Option.some.injEq, Prod.mk.injEq] at H
 obtain ⟨rfl, rfl⟩ := H
 go_enter Try.func142, Try.ntmps142
 go_wp2_with (first | ((with_reducible refine gC 155 rfl ?_); refine gl (some 15) Try.func155 #[.int .i64 a0, .int .i64 a1] ?_; (with_reducible refine (spec_l5P.calls a0 a1 t120 _ A5.out).mono ?_); rintro e w' ⟨rfl, ⟨nd, rfl⟩⟩; refine ii ?_) | ((with_reducible refine gC 158 rfl ?_); refine gl (some 18) Try.func158 #[.int .i64 (wrap64 (t120 * a3))] ?_; (with_reducible refine (spec_l1Ten.calls (wrap64 (t120 * a3)) t121 _ A6.out).mono ?_); rintro e w' ⟨rfl, ⟨nd, rfl⟩⟩; refine ii ?_) | ((with_reducible refine gC 156 rfl ?_); refine gl (some 23) Try.func156 #[.int .i64 a0, .int .i64 a1] ?_; (with_reducible refine (spec_l5U.calls a0 a1 t122 _ A7.out).mono ?_); rintro e w' ⟨rfl, ⟨nd, rfl⟩⟩; refine ii ?_) | ((with_reducible refine gC 158 rfl ?_); refine gl (some 26) Try.func158 #[.int .i64 (wrap64 (t122 * (wrap64 (a2 + t121))))] ?_; (with_reducible refine (spec_l1Ten.calls (wrap64 (t122 * (wrap64 (a2 + t121)))) t123 _ A8.out).mono ?_); rintro e w' ⟨rfl, ⟨nd, rfl⟩⟩; refine ii ?_) | ((with_reducible refine gC 155 rfl ?_); refine gl (some 31) Try.func155 #[.int .i64 a0, .int .i64 a1] ?_; (with_reducible refine (spec_l5P.calls a0 a1 t124 _ A9.out).mono ?_); rintro e w' ⟨rfl, ⟨nd, rfl⟩⟩; refine ii ?_) | ((with_reducible refine gC 158 rfl ?_); refine gl (some 34) Try.func158 #[.int .i64 (wrap64 (t124 * (wrap64 (a3 - t123))))] ?_; (with_reducible refine (spec_l1Ten.calls (wrap64 (t124 * (wrap64 (a3 - t123)))) t125 _ A10.out).mono ?_); rintro e w' ⟨rfl, ⟨nd, rfl⟩⟩; refine ii ?_))
 go_ret2
 exact ⟨ew, bq⟩
def spec_l5Part.f (a0 : Int) (a1 : Int) : Option (Int × Int) := (spec_l1Floor.f a1 2).bind fun t126 => (some (wrap64 ((wrap64 (a0 - t126)) + a1), wrap64 (a0 - t126)))
theorem spec_l5Part.calls (a0 : Int) (a1 : Int) (r1 : Int) (r2 : Int) (w : World) (h : spec_l5Part.f a0 a1 = some (r1, r2)) :
  Calls Try.prog 157 #[.int .i64 a0, .int .i64 a1] w fun e w' => e = .returned (.tuple #[.int .i64 r1, .int .i64 r2]) ∧ Below w.heap.size w w' := by
 have HB := aM (Below.refl w.heap.size w)
 unfold spec_l5Part.f at h
 have H := h
 clear h
 replace H := bo H
 obtain ⟨t126, A3, H⟩ := H
 replace H := bz H
 simp only [Option.some.injEq, Prod.mk.injEq] at H
 obtain ⟨rfl, rfl⟩ := H
 go_enter Try.func157, Try.ntmps157
 go_wp2_with (first | ((with_reducible refine gC 160 rfl ?_); refine gl (some 9) Try.func160 #[.int .i64 a1, .int .i64 2] ?_; (with_reducible refine (spec_l1Floor.calls a1 2 t126 _ A3.out).mono ?_); rintro e w' ⟨rfl, ⟨nd, rfl⟩⟩; refine ii ?_))
 go_ret2
 exact ⟨ew, bq⟩
end Go.Proofs.Ytmhnpogjkbmmnaa.PFnStates
