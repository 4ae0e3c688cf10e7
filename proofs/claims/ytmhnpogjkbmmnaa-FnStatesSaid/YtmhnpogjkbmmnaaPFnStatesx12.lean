import Derived.Test.YtmhnpogjkbmmnaaPFnStatesx0
import Derived.Test.YtmhnpogjkbmmnaaPFnStatesx1
import Derived.Test.YtmhnpogjkbmmnaaPFnStatesx2
namespace Go.Proofs.Ytmhnpogjkbmmnaa.PFnStates
open Go.RowKit Go.Proofs.YtmhnpogjkbmmnaaW.PrintWords Go.Proofs.YtmhnpogjkbmmnaaW.PrintLast Go.Proofs.YtmhnpogjkbmmnaaW.PrintMore
open Go.Proofs.YtmhnpogjkbmmnaaW.PrintWords.Kd renaming C_below → cB
open Go.Proofs.YtmhnpogjkbmmnaaW.PrintWords renaming below_step → bT, below_size → bZ, blk_drewN → kN, blk_drew → kD, blk_alloc → kA, blk_cell → kC, blk_frozen → kF
open Go.Proofs.YtmhnpogjkbmmnaaW.PrintWords.Aside0 renaming mk → aM
attribute [local go_sem] max2_int min2_int max_two min_two max_three min_three max_four min_four
set_option maxHeartbeats 8000000
set_option maxRecDepth 100000
set_option linter.unusedVariables false
set_option linter.unusedSimpArgs false
def spec_LapFault.j0 : Nat → Bool → Int → List Int → List Int → Option (Int)
 | 0, _, _, _, _ => none
 | k + 1, x25, x392000, x392001, x392002 => if x25 = true then (some 2) else ((spec_l1All.f k x392001 (-65536) 65536).bind fun t393 => (if t393 = true then ((spec_l1All.f k x392002 (-32768) 32767).bind fun t394 => (if t394 = true then (some 0) else (some 3))) else (some 3)))
def spec_LapFault.f (k : Nat) (a0_0 : Int) (l0_1 : List Int) (l0_2 : List Int) : Option (Int) := (spec_SizeFault.f a0_0).bind fun t392 => (if t392 = 0 then (if (l0_1.length : Int) = (wrap64 (Int.tdiv a0_0 2)) then (spec_LapFault.j0 k ((l0_2.length : Int) != (wrap64 (Int.tdiv a0_0 2))) a0_0 l0_1 l0_2) else (spec_LapFault.j0 k true a0_0 l0_1 l0_2)) else (some t392))
theorem spec_LapFault.calls (k : Nat) (a0_0 : Int) (A0_1 : Option Addr) (c0_1 : Nat) (l0_1 : List Int) (A0_2 : Option Addr) (c0_2 : Nat) (l0_2 : List Int) (r : Int) (w : World) (hr0_1 : Kd.C (Kd.int .i64) w A0_1 l0_1.length l0_1) (hc0_1 : l0_1.length ≤ c0_1) (hr0_2 : Kd.C (Kd.int .i64) w A0_2 l0_2.length l0_2) (hc0_2 : l0_2.length ≤ c0_2) (h : spec_LapFault.f k a0_0 l0_1 l0_2 = some r) :
  Calls Try.prog 73 #[.agg #[.int .i64 a0_0, .slice A0_1 l0_1.length c0_1, .slice A0_2 l0_2.length c0_2]] w fun e w' => e = .returned (.int .i64 r) ∧ Below w.heap.size w w' := by
 have hu48 := Try.underlying48
 have HR0_1 := aM hr0_1
 have HC0_1 := aM hc0_1
 clear hr0_1 hc0_1
 have HR0_2 := aM hr0_2
 have HC0_2 := aM hc0_2
 clear hr0_2 hc0_2
 have HB := aM (Below.refl w.heap.size w)
 unfold spec_LapFault.f at h
 have H := h
 clear h
 replace H := bo H
 obtain ⟨t392, A2, H⟩ := H
 replace H := bz H
 by_cases c3 : t392 = 0
 ·rw [if_pos c3] at H
  have c3b0 := eT c3
  have c3b1 := nF c3
  clear c3
  have HC4 := aM H
  clear H
  go_enter Try.func73, Try.ntmps73
  go_upto_region 5 with (first | ((with_reducible refine gD 1 rfl ?_); (try (refine gate_guard (by rfl) ?_; dsimp only)); refine bx 1 48 #[.int .i64 a0_0, .slice A0_1 l0_1.length c0_1, .slice A0_2 l0_2.length c0_2] ?_; intro gb391 hg w5 hbox hb; have BK391 := aM hbox; have GW391 := gw w hg; have GE391 := GW391; replace HB := aM (bT bq hb); clear hb hbox hg; obtain ⟨hcz6_0, hcz6_1, hcz6_2, hfz6_0, hfz6_1, hfz6_2⟩ := b3 BK391.out) | ((with_reducible refine gC 50 rfl ?_); refine gl (some 7) Try.func50 #[.int .i64 a0_0] ?_; (with_reducible refine (spec_SizeFault.calls a0_0 t392 _ A2.out).mono ?_); rintro e w' ⟨rfl, ⟨nd, rfl⟩⟩; refine ii ?_))
  (try simp only [Act.put, pa, pb, pc])
  go_cut [25] (fun v25 wc => ∃ (kq : Nat) (x25_3 : Bool), v25 = .bool x25_3 ∧ Aside0 (spec_LapFault.j0 kq x25_3 a0_0 l0_1 l0_2 = some r) ∧ Aside0 (kq ≤ k) ∧ Aside0 (wc.heap[gb391]? = some (.cells #[.int .i64 a0_0, (.slice A0_1 l0_1.length c0_1), (.slice A0_2 l0_2.length c0_2)] 48 (0, 0))) ∧ Aside0 (Below w.heap.size w wc))
  case first =>
   have H := HC4.out
   clear HC4
   by_cases c7 : (l0_1.length : Int) = (wrap64 (Int.tdiv a0_0 2))
   ·rw [if_pos c7] at H
    have c7b0 := eT c7
    have c7b1 := nF c7
    clear c7
    (first | rw [c7b0] | (simp only [i64_w, i32_w]; rw [c7b0]) | skip)
    have H' := aM H
    clear H
    obtain ⟨hcz8_0, hcz8_1, hcz8_2, hfz8_0, hfz8_1, hfz8_2⟩ := b3 BK391.out
    go_wp2
    go_meet
    case rel => exact ⟨_, (((l0_2.length : Int) != (wrap64 (Int.tdiv a0_0 2)))), (ex), H', ⟨by first | omega | exact Nat.le_refl _⟩, aM (kq BK391.out), ⟨bq⟩⟩
   ·rw [if_neg c7] at H
    have c7b0 := eF c7
    have c7b1 := nT c7
    (first | rw [c7b0] | (simp only [i64_w, i32_w]; rw [c7b0]) | skip)
    have H' := aM H
    clear H
    obtain ⟨hcz9_0, hcz9_1, hcz9_2, hfz9_0, hfz9_1, hfz9_2⟩ := b3 BK391.out
    go_wp2
    go_meet
    case rel => exact ⟨_, (true), (ex), H', ⟨by first | omega | exact Nat.le_refl _⟩, aM (kq BK391.out), ⟨bq⟩⟩
  case rest =>
   clear HC4
   try clear p2
   try clear c3
   try clear c3b0
   try clear c3b1
   try clear c5
   try clear p6
   try clear c7
   try clear c7b0
   try clear c7b1
   try clear hcz6_0
   try clear hcz6_1
   try clear hcz6_2
   try clear hcz8_0
   try clear hcz8_1
   try clear hcz8_2
   try clear hcz9_0
   try clear hcz9_1
   try clear hcz9_2
   try clear hfz6_0
   try clear hfz6_1
   try clear hfz6_2
   try clear hfz8_0
   try clear hfz8_1
   try clear hfz8_2
   try clear hfz9_0
   try clear hfz9_1
   try clear hfz9_2
   obtain ⟨kq, x25_3, rfl, HA, HJ3, BK391, HB⟩ := hcut
   cases kq with
   | zero => exact absurd HA.out (by simp [spec_LapFault.j0])
   | succ kj3 =>
    have H := HA.out
    clear HA
    simp only [spec_LapFault.j0] at H
    by_cases c10 : x25_3 = true
    ·subst c10
     have H1 : (some 2) = some r := by rw [if_pos rfl] at H; exact H
     clear H
     have H := H1
     clear H1
     obtain rfl := Option.some.inj H
     go_wp2
     go_ret
     exact ⟨ew, bq⟩
    ·replace c10 := Bool.eq_false_iff.mpr c10
     subst c10
     have H1 : ((spec_l1All.f kj3 l0_1 (-65536) 65536).bind fun t393 => (if t393 = true then ((spec_l1All.f kj3 l0_2 (-32768) 32767).bind fun t394 => (if t394 = true then (some 0) else (some 3))) else (some 3))) = some r := by rw [if_neg (show ¬ (false = true) by decide)] at H; exact H
     clear H
     have H := H1
     clear H1
     replace H := bo H
     obtain ⟨t393, A11, H⟩ := H
     replace H := bz H
     by_cases c12 : t393 = true
     ·subst c12
      have H1 : ((spec_l1All.f kj3 l0_2 (-32768) 32767).bind fun t394 => (if t394 = true then (some 0) else (some 3))) = some r := by rw [if_pos rfl] at H; exact H
      clear H
      have H := H1
      clear H1
      replace H := bo H
      obtain ⟨t394, A13, H⟩ := H
      replace H := bz H
      by_cases c14 : t394 = true
      ·subst c14
       have H1 : (some 0) = some r := by rw [if_pos rfl] at H; exact H
       clear H
       have H := H1
       clear H1
       obtain rfl := Option.some.inj H
       obtain ⟨hcz15_0, hcz15_1, hcz15_2, hfz15_0, hfz15_1, hfz15_2⟩ := b3 BK391.out
       go_wp2_with (first | ((with_reducible refine gC 100 rfl ?_); refine gl (some 28) Try.func100 #[.slice A0_1 l0_1.length c0_1, .int .i64 (-65536), .int .i64 65536] ?_; (with_reducible refine (spec_l1All.calls kj3 _ _ l0_1 (-65536) 65536 true _ ?s1 ?s2 A11.out).mono ?_); (case s1 => exact cq (cB HR0_1.out HB.out)); (case s2 => exact HC0_1.out); rintro e w' ⟨rfl, ⟨nd, rfl⟩⟩; refine ii ?_) | (go_at_call 100; (with_reducible refine (spec_l1All.calls kj3 _ _ l0_2 (-32768) 32767 true _ ?s1 ?s2 A13.out).mono ?_); (case s1 => exact cq (cB HR0_2.out bq)); (case s2 => exact HC0_2.out); rintro e w' ⟨rfl, ⟨nd, rfl⟩⟩))
       go_ret
       exact ⟨ew, bq⟩
      ·replace c14 := Bool.eq_false_iff.mpr c14
       subst c14
       have H1 : (some 3) = some r := by rw [if_neg (show ¬ (false = true) by decide)] at H; exact H
       clear H
       have H := H1
       clear H1
       obtain rfl := Option.some.inj H
       obtain ⟨hcz16_0, hcz16_1, hcz16_2, hfz16_0, hfz16_1, hfz16_2⟩ := b3 BK391.out
       go_wp2_with (first | ((with_reducible refine gC 100 rfl ?_); refine gl (some 28) Try.func100 #[.slice A0_1 l0_1.length c0_1, .int .i64 (-65536), .int .i64 65536] ?_; (with_reducible refine (spec_l1All.calls kj3 _ _ l0_1 (-65536) 65536 true _ ?s1 ?s2 A11.out).mono ?_); (case s1 => exact cq (cB HR0_1.out HB.out)); (case s2 => exact HC0_1.out); rintro e w' ⟨rfl, ⟨nd, rfl⟩⟩; refine ii ?_) | (go_at_call 100; (with_reducible refine (spec_l1All.calls kj3 _ _ l0_2 (-32768) 32767 false _ ?s1 ?s2 A13.out).mono ?_); (case s1 => exact cq (cB HR0_2.out bq)); (case s2 => exact HC0_2.out); rintro e w' ⟨rfl, ⟨nd, rfl⟩⟩))
       go_ret
       exact ⟨ew, bq⟩
     ·replace c12 := Bool.eq_false_iff.mpr c12
      subst c12
      have H1 : (some 3) = some r := by rw [if_neg (show ¬ (false = true) by decide)] at H; exact H
      clear H
      have H := H1
      clear H1
      obtain rfl := Option.some.inj H
      obtain ⟨hcz17_0, hcz17_1, hcz17_2, hfz17_0, hfz17_1, hfz17_2⟩ := b3 BK391.out
      go_wp2_with (first | ((with_reducible refine gC 100 rfl ?_); refine gl (some 28) Try.func100 #[.slice A0_1 l0_1.length c0_1, .int .i64 (-65536), .int .i64 65536] ?_; (with_reducible refine (spec_l1All.calls kj3 _ _ l0_1 (-65536) 65536 false _ ?s1 ?s2 A11.out).mono ?_); (case s1 => exact cq (cB HR0_1.out HB.out)); (case s2 => exact HC0_1.out); rintro e w' ⟨rfl, ⟨nd, rfl⟩⟩; refine ii ?_))
      go_ret
      exact ⟨ew, bq⟩
 ·rw [if_neg c3] at H
  have c3b0 := eF c3
  have c3b1 := nT c3
  obtain rfl := Option.some.inj H
  go_enter Try.func73, Try.ntmps73
  go_wp2_with (first | ((with_reducible refine gD 1 rfl ?_); (try (refine gate_guard (by rfl) ?_; dsimp only)); refine bx 1 48 #[.int .i64 a0_0, .slice A0_1 l0_1.length c0_1, .slice A0_2 l0_2.length c0_2] ?_; intro gb391 hg w18 hbox hb; have BK391 := aM hbox; have GW391 := gw w hg; have GE391 := GW391; replace HB := aM (bT bq hb); clear hb hbox hg; obtain ⟨hcz19_0, hcz19_1, hcz19_2, hfz19_0, hfz19_1, hfz19_2⟩ := b3 BK391.out) | ((with_reducible refine gC 50 rfl ?_); refine gl (some 7) Try.func50 #[.int .i64 a0_0] ?_; (with_reducible refine (spec_SizeFault.calls a0_0 t392 _ A2.out).mono ?_); rintro e w' ⟨rfl, ⟨nd, rfl⟩⟩; refine ii ?_))
  go_ret
  exact ⟨ew, bq⟩
def spec_SamplesFault.l0 : Nat → List Int → Int → Option (Int)
 | 0, _, _ => none
 | k + 1, x1, x6 => if x6 < (x1.length : Int) then (if 0 ≤ x6 then ((spec_l1In.f (rd x1 x6) (-32768) 32767).bind fun t397 => (if t397 = true then (spec_SamplesFault.l0 k x1 (wrap64 (x6 + 1))) else (some 3))) else (none)) else (some 0)
def spec_SamplesFault.f (k : Nat) (a0 : Int) (l1 : List Int) : Option (Int) := (spec_SizeFault.f a0).bind fun t395 => (if t395 = 0 then (if (l1.length : Int) = a0 then (spec_SamplesFault.l0 k l1 0) else (some 2)) else (some t395))
theorem spec_SamplesFault.calls (k : Nat) (a0 : Int) (A1 : Option Addr) (c1 : Nat) (l1 : List Int) (r : Int) (w : World) (hr1 : Kd.C (Kd.int .i64) w A1 l1.length l1) (hc1 : l1.length ≤ c1) (h : spec_SamplesFault.f k a0 l1 = some r) :
  Calls Try.prog 74 #[.int .i64 a0, .slice A1 l1.length c1] w fun e w' => e = .returned (.int .i64 r) ∧ Drawn0 w w' := by
 have HR1 := aM hr1
 have HC1 := aM hc1
 clear hr1 hc1
 unfold spec_SamplesFault.f at h
 have H := h
 clear h
 replace H := bo H
 obtain ⟨t395, A3, H⟩ := H
 replace H := bz H
 by_cases c4 : t395 = 0
 ·rw [if_pos c4] at H
  have c4b0 := eT c4
  have c4b1 := nF c4
  clear c4
  by_cases c5 : (l1.length : Int) = a0
  ·rw [if_pos c5] at H
   have c5b0 := eT c5
   have c5b1 := nF c5
   clear c5
   have H' := aM H
   clear H
   go_enter Try.func74, Try.ntmps74
   go_wp2_with (first | ((with_reducible refine gC 50 rfl ?_); refine gl (some 8) Try.func50 #[.int .i64 a0] ?_; (with_reducible refine (spec_SizeFault.calls a0 t395 _ A3.out).mono ?_); rintro e w' ⟨rfl, ⟨nd, rfl⟩⟩; refine ii ?_))
   go_loopg [6] k (fun kq v6 w' => ∃ (x6_1 : Int), v6 = .int .i64 x6_1 ∧ Aside0 (spec_SamplesFault.l0 kq l1 x6_1 = some r) ∧ Aside0 (kq ≤ k) ∧ Drawn0 w w')
   case atStart => exact ⟨(0), (ex), H', ⟨Nat.le_refl _⟩, by repeat (first | exact Drawn0.refl _ | apply Drawn0.step)⟩
   case round =>
    clear H'
    try clear c1
    try clear p2
    try clear c4
    try clear c4b0
    try clear c4b1
    try clear c5
    try clear c5b0
    try clear c5b1
    obtain ⟨x6_1, rfl, HA, HK1, ⟨m1, rfl⟩⟩ := hrel
    cases gk with
    | zero => exact absurd HA.out (by simp [spec_SamplesFault.l0])
    | succ k1 =>
     have H := HA.out
     clear HA
     simp only [spec_SamplesFault.l0] at H
     by_cases c6 : x6_1 < (l1.length : Int)
     ·rw [if_pos c6] at H
      have c6b0 := dT c6
      clear c6
      by_cases c7 : 0 ≤ x6_1
      ·rw [if_pos c7] at H
       have c7b0 := dT c7
       clear c7
       replace H := bo H
       obtain ⟨t397, A8, H⟩ := H
       replace H := bz H
       by_cases c9 : t397 = true
       ·subst c9
        have H1 : (spec_SamplesFault.l0 k1 l1 (wrap64 (x6_1 + 1))) = some r := by rw [if_pos rfl] at H; exact H
        clear H
        have H := H1
        clear H1
        have H' := aM H
        clear H
        have p396 : 0 ≤ (x6_1 : Int) := dt
        have q396 : x6_1 < (l1.length : Int) := dt
        obtain ⟨ad396, e396, hx396_0⟩ := Kd.at_int HR1.out x6_1 p396 q396
        cases e396
        replace p396 := eq_true p396
        replace q396 := eq_true q396
        go_wp2_with (first | ((with_reducible refine gC 118 rfl ?_); refine gl (some 26) Try.func118 #[.int .i64 (rd l1 x6_1), .int .i64 (-32768), .int .i64 32767] ?_; (with_reducible refine (spec_l1In.calls (rd l1 x6_1) (-32768) 32767 true _ A8.out).mono ?_); rintro e w' ⟨rfl, ⟨nd, rfl⟩⟩; refine ii ?_))
        go_roundg k1
        case measure => have := HK1.out; omega
        case rel => exact ⟨(wrap64 (x6_1 + 1)), (ex), H', ⟨by have := HK1.out; omega⟩, by repeat (first | exact Drawn0.refl _ | apply Drawn0.step)⟩
       ·replace c9 := Bool.eq_false_iff.mpr c9
        subst c9
        have H1 : (some 3) = some r := by rw [if_neg (show ¬ (false = true) by decide)] at H; exact H
        clear H
        have H := H1
        clear H1
        obtain rfl := Option.some.inj H
        have p396 : 0 ≤ (x6_1 : Int) := dt
        have q396 : x6_1 < (l1.length : Int) := dt
        obtain ⟨ad396, e396, hx396_0⟩ := Kd.at_int HR1.out x6_1 p396 q396
        cases e396
        replace p396 := eq_true p396
        replace q396 := eq_true q396
        go_wp2_with (first | ((with_reducible refine gC 118 rfl ?_); refine gl (some 26) Try.func118 #[.int .i64 (rd l1 x6_1), .int .i64 (-32768), .int .i64 32767] ?_; (with_reducible refine (spec_l1In.calls (rd l1 x6_1) (-32768) 32767 false _ A8.out).mono ?_); rintro e w' ⟨rfl, ⟨nd, rfl⟩⟩; refine ii ?_))
        go_ret
        exact ⟨ex, dr⟩
      ·rw [if_neg c7] at H
       exact absurd H (by simp)
     ·rw [if_neg c6] at H
      have c6b0 := dF c6
      clear c6
      obtain rfl := Option.some.inj H
      go_wp2
      go_ret
      exact ⟨ex, dr⟩
  ·rw [if_neg c5] at H
   have c5b0 := eF c5
   have c5b1 := nT c5
   obtain rfl := Option.some.inj H
   go_enter Try.func74, Try.ntmps74
   go_wp2_with (first | ((with_reducible refine gC 50 rfl ?_); refine gl (some 8) Try.func50 #[.int .i64 a0] ?_; (with_reducible refine (spec_SizeFault.calls a0 t395 _ A3.out).mono ?_); rintro e w' ⟨rfl, ⟨nd, rfl⟩⟩; refine ii ?_))
   go_ret
   exact ⟨ex, dr⟩
 ·rw [if_neg c4] at H
  have c4b0 := eF c4
  have c4b1 := nT c4
  obtain rfl := Option.some.inj H
  go_enter Try.func74, Try.ntmps74
  go_wp2_with (first | ((with_reducible refine gC 50 rfl ?_); refine gl (some 8) Try.func50 #[.int .i64 a0] ?_; (with_reducible refine (spec_SizeFault.calls a0 t395 _ A3.out).mono ?_); rintro e w' ⟨rfl, ⟨nd, rfl⟩⟩; refine ii ?_))
  go_ret
  exact ⟨ex, dr⟩
def spec_l5Mix.f (a0 : Int) (a1 : Int) : Option (Int × Int) := (spec_l1Floor.f (wrap64 (a0 - a1)) 2).bind fun t398 => (some (wrap64 (a1 + t398), wrap64 (a0 - a1)))
theorem spec_l5Mix.calls (a0 : Int) (a1 : Int) (r1 : Int) (r2 : Int) (w : World) (h : spec_l5Mix.f a0 a1 = some (r1, r2)) :
  Calls Try.prog 159 #[.int .i64 a0, .int .i64 a1] w fun e w' => e = .returned (.tuple #[.int .i64 r1, .int .i64 r2]) ∧ Below w.heap.size w w' := by
 have HB := aM (Below.refl w.heap.size w)
 unfold spec_l5Mix.f at h
 have H := h
 clear h
 replace H := bo H
 obtain ⟨t398, A3, H⟩ := H
 replace H := bz H
 simp only [Option.some.injEq, Prod.mk.injEq] at H
 obtain ⟨rfl, rfl⟩ := H
 go_enter Try.func159, Try.ntmps159
 go_wp2_with (first | ((with_reducible refine gC 160 rfl ?_); refine gl (some 10) Try.func160 #[.int .i64 (wrap64 (a0 - a1)), .int .i64 2] ?_; (with_reducible refine (spec_l1Floor.calls (wrap64 (a0 - a1)) 2 t398 _ A3.out).mono ?_); rintro e w' ⟨rfl, ⟨nd, rfl⟩⟩; refine ii ?_))
 go_ret2
 exact ⟨ew, bq⟩
end Go.Proofs.Ytmhnpogjkbmmnaa.PFnStates
