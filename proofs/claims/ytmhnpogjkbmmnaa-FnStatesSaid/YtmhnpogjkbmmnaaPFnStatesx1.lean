import Derived.Test.YtmhnpogjkbmmnaaPFnStatesx0
namespace Go.Proofs.Ytmhnpogjkbmmnaa.PFnStates
open Go.RowKit Go.Proofs.YtmhnpogjkbmmnaaW.PrintWords Go.Proofs.YtmhnpogjkbmmnaaW.PrintLast Go.Proofs.YtmhnpogjkbmmnaaW.PrintMore
open Go.Proofs.YtmhnpogjkbmmnaaW.PrintWords.Kd renaming R_alloc → rA, R_drewN → rN, R_drew → rD, R_lower → rG, C_below → cB
open Go.Proofs.YtmhnpogjkbmmnaaW.PrintWords renaming below_step → bT, below_size → bZ, blk_drewN → kN, blk_drew → kD, blk_alloc → kA, blk_cell → kC, blk_frozen → kF
open Go.Proofs.YtmhnpogjkbmmnaaW.PrintWords.Aside0 renaming mk → aM
attribute [local go_sem] max2_int min2_int max_two min_two max_three min_three max_four min_four
set_option maxHeartbeats 8000000
set_option maxRecDepth 100000
set_option linter.unusedVariables false
set_option linter.unusedSimpArgs false
def spec_SizeFault.f (a0 : Int) : Option (Int) := if a0 = 4 then (some 0) else (if a0 = 8 then (some 0) else (if a0 = 16 then (some 0) else (some 3)))
theorem spec_SizeFault.calls (a0 : Int) (r : Int) (w : World) (h : spec_SizeFault.f a0 = some r) :
  Calls Try.prog 50 #[.int .i64 a0] w fun e w' => e = .returned (.int .i64 r) ∧ Drawn0 w w' := by
 unfold spec_SizeFault.f at h
 have H := h
 clear h
 by_cases c2 : a0 = 4
 ·rw [if_pos c2] at H
  have c2b0 := eT c2
  have c2b1 := nF c2
  clear c2
  obtain rfl := Option.some.inj H
  go_enter Try.func50, Try.ntmps50
  go_wp2
  go_ret
  exact ⟨ex, dr⟩
 ·rw [if_neg c2] at H
  have c2b0 := eF c2
  have c2b1 := nT c2
  by_cases c3 : a0 = 8
  ·rw [if_pos c3] at H
   have c3b0 := eT c3
   have c3b1 := nF c3
   clear c3
   obtain rfl := Option.some.inj H
   go_enter Try.func50, Try.ntmps50
   go_wp2
   go_ret
   exact ⟨ex, dr⟩
  ·rw [if_neg c3] at H
   have c3b0 := eF c3
   have c3b1 := nT c3
   by_cases c4 : a0 = 16
   ·rw [if_pos c4] at H
    have c4b0 := eT c4
    have c4b1 := nF c4
    clear c4
    obtain rfl := Option.some.inj H
    go_enter Try.func50, Try.ntmps50
    go_wp2
    go_ret
    exact ⟨ex, dr⟩
   ·rw [if_neg c4] at H
    have c4b0 := eF c4
    have c4b1 := nT c4
    obtain rfl := Option.some.inj H
    go_enter Try.func50, Try.ntmps50
    go_wp2
    go_ret
    exact ⟨ex, dr⟩
def spec_l1In.f (a0 : Int) (a1 : Int) (a2 : Int) : Option (Bool) := if a0 ≥ a1 then (some (decide (a0 ≤ a2))) else (some false)
theorem spec_l1In.calls (a0 : Int) (a1 : Int) (a2 : Int) (r : Bool) (w : World) (h : spec_l1In.f a0 a1 a2 = some r) :
  Calls Try.prog 118 #[.int .i64 a0, .int .i64 a1, .int .i64 a2] w fun e w' => e = .returned (.bool r) ∧ Drawn0 w w' := by
 unfold spec_l1In.f at h
 have H := h
 clear h
 by_cases c4 : a0 ≥ a1
 ·rw [if_pos c4] at H
  have c4b0 : decide (a1 ≤ a0) = true := decide_eq_true c4
  clear c4
  obtain rfl := Option.some.inj H
  go_enter Try.func118, Try.ntmps118
  go_wp2
  go_ret
  exact ⟨ex, dr⟩
 ·rw [if_neg c4] at H
  have c4b0 : decide (a1 ≤ a0) = false := decide_eq_false c4
  clear c4
  obtain rfl := Option.some.inj H
  go_enter Try.func118, Try.ntmps118
  go_wp2
  go_ret
  exact ⟨ex, dr⟩
def spec_l1All.l0 : Nat → List Int → Int → Int → Int → Option (Bool)
 | 0, _, _, _, _ => none
 | k + 1, x0, x1, x2, x7 => if x7 < (x0.length : Int) then (if 0 ≤ x7 then ((spec_l1In.f (rd x0 x7) x1 x2).bind fun t102 => (if t102 = true then (spec_l1All.l0 k x0 x1 x2 (wrap64 (x7 + 1))) else (some false))) else (none)) else (some true)
def spec_l1All.f (k : Nat) (l0 : List Int) (a1 : Int) (a2 : Int) : Option (Bool) := spec_l1All.l0 k l0 a1 a2 0
theorem spec_l1All.calls (k : Nat) (A0 : Option Addr) (c0 : Nat) (l0 : List Int) (a1 : Int) (a2 : Int) (r : Bool) (w : World) (hr0 : Kd.C (Kd.int .i64) w A0 l0.length l0) (hc0 : l0.length ≤ c0) (h : spec_l1All.f k l0 a1 a2 = some r) :
  Calls Try.prog 100 #[.slice A0 l0.length c0, .int .i64 a1, .int .i64 a2] w fun e w' => e = .returned (.bool r) ∧ Drawn0 w w' := by
 have HR0 := aM hr0
 have HC0 := aM hc0
 clear hr0 hc0
 unfold spec_l1All.f at h
 have H := h
 clear h
 have H' := aM H
 clear H
 go_enter Try.func100, Try.ntmps100
 go_wp2
 go_loopg [7] k (fun kq v7 w' => ∃ (x7_1 : Int), v7 = .int .i64 x7_1 ∧ Aside0 (spec_l1All.l0 kq l0 a1 a2 x7_1 = some r) ∧ Aside0 (kq ≤ k) ∧ Drawn0 w w')
 case atStart => exact ⟨(0), (ex), H', ⟨Nat.le_refl _⟩, by repeat (first | exact Drawn0.refl _ | apply Drawn0.step)⟩
 case round =>
  clear H'
  try clear c1
  try clear p2
  obtain ⟨x7_1, rfl, HA, HK1, ⟨m1, rfl⟩⟩ := hrel
  cases gk with
  | zero => exact absurd HA.out (by simp [spec_l1All.l0])
  | succ k1 =>
   have H := HA.out
   clear HA
   simp only [spec_l1All.l0] at H
   by_cases c4 : x7_1 < (l0.length : Int)
   ·rw [if_pos c4] at H
    have c4b0 := dT c4
    clear c4
    by_cases c5 : 0 ≤ x7_1
    ·rw [if_pos c5] at H
     have c5b0 := dT c5
     clear c5
     replace H := bo H
     obtain ⟨t102, A6, H⟩ := H
     replace H := bz H
     by_cases c7 : t102 = true
     ·subst c7
      have H1 : (spec_l1All.l0 k1 l0 a1 a2 (wrap64 (x7_1 + 1))) = some r := by rw [if_pos rfl] at H; exact H
      clear H
      have H := H1
      clear H1
      have H' := aM H
      clear H
      have p101 : 0 ≤ (x7_1 : Int) := dt
      have q101 : x7_1 < (l0.length : Int) := dt
      obtain ⟨ad101, e101, hx101_0⟩ := Kd.at_int HR0.out x7_1 p101 q101
      cases e101
      replace p101 := eq_true p101
      replace q101 := eq_true q101
      go_wp2_with (first | ((with_reducible refine gC 118 rfl ?_); refine gl (some 20) Try.func118 #[.int .i64 (rd l0 x7_1), .int .i64 a1, .int .i64 a2] ?_; (with_reducible refine (spec_l1In.calls (rd l0 x7_1) a1 a2 true _ A6.out).mono ?_); rintro e w' ⟨rfl, ⟨nd, rfl⟩⟩; refine ii ?_))
      go_roundg k1
      case measure => have := HK1.out; omega
      case rel => exact ⟨(wrap64 (x7_1 + 1)), (ex), H', ⟨by have := HK1.out; omega⟩, by repeat (first | exact Drawn0.refl _ | apply Drawn0.step)⟩
     ·replace c7 := Bool.eq_false_iff.mpr c7
      subst c7
      have H1 : (some false) = some r := by rw [if_neg (show ¬ (false = true) by decide)] at H; exact H
      clear H
      have H := H1
      clear H1
      obtain rfl := Option.some.inj H
      have p101 : 0 ≤ (x7_1 : Int) := dt
      have q101 : x7_1 < (l0.length : Int) := dt
      obtain ⟨ad101, e101, hx101_0⟩ := Kd.at_int HR0.out x7_1 p101 q101
      cases e101
      replace p101 := eq_true p101
      replace q101 := eq_true q101
      go_wp2_with (first | ((with_reducible refine gC 118 rfl ?_); refine gl (some 20) Try.func118 #[.int .i64 (rd l0 x7_1), .int .i64 a1, .int .i64 a2] ?_; (with_reducible refine (spec_l1In.calls (rd l0 x7_1) a1 a2 false _ A6.out).mono ?_); rintro e w' ⟨rfl, ⟨nd, rfl⟩⟩; refine ii ?_))
      go_ret
      exact ⟨ex, dr⟩
    ·rw [if_neg c5] at H
     exact absurd H (by simp)
   ·rw [if_neg c4] at H
    have c4b0 := dF c4
    clear c4
    obtain rfl := Option.some.inj H
    go_wp2
    go_ret
    exact ⟨ex, dr⟩
def spec_SynthFault.j0 : Nat → Bool → Int → List Int → List Int → Option (Int)
 | 0, _, _, _, _ => none
 | k + 1, x25, x104000, x104001, x104002 => if x25 = true then (some 2) else ((spec_l1All.f k x104001 (-1073741824) 1073741824).bind fun t105 => (if t105 = true then ((spec_l1All.f k x104002 (-268435456) 268435456).bind fun t106 => (if t106 = true then (some 0) else (some 3))) else (some 3)))
def spec_SynthFault.f (k : Nat) (a0_0 : Int) (l0_1 : List Int) (l0_2 : List Int) : Option (Int) := (spec_SizeFault.f a0_0).bind fun t104 => (if t104 = 0 then (if (l0_1.length : Int) = (wrap64 (Int.tdiv a0_0 2)) then (spec_SynthFault.j0 k ((l0_2.length : Int) != (wrap64 (Int.tdiv a0_0 2))) a0_0 l0_1 l0_2) else (spec_SynthFault.j0 k true a0_0 l0_1 l0_2)) else (some t104))
theorem spec_SynthFault.calls (k : Nat) (a0_0 : Int) (A0_1 : Option Addr) (c0_1 : Nat) (l0_1 : List Int) (A0_2 : Option Addr) (c0_2 : Nat) (l0_2 : List Int) (r : Int) (w : World) (hr0_1 : Kd.C (Kd.int .i64) w A0_1 l0_1.length l0_1) (hc0_1 : l0_1.length ≤ c0_1) (hr0_2 : Kd.C (Kd.int .i64) w A0_2 l0_2.length l0_2) (hc0_2 : l0_2.length ≤ c0_2) (h : spec_SynthFault.f k a0_0 l0_1 l0_2 = some r) :
  Calls Try.prog 65 #[.agg #[.int .i64 a0_0, .slice A0_1 l0_1.length c0_1, .slice A0_2 l0_2.length c0_2]] w fun e w' => e = .returned (.int .i64 r) ∧ Below w.heap.size w w' := by
 have hu35 := Try.underlying35
 have HR0_1 := aM hr0_1
 have HC0_1 := aM hc0_1
 clear hr0_1 hc0_1
 have HR0_2 := aM hr0_2
 have HC0_2 := aM hc0_2
 clear hr0_2 hc0_2
 have HB := aM (Below.refl w.heap.size w)
 unfold spec_SynthFault.f at h
 have H := h
 clear h
 replace H := bo H
 obtain ⟨t104, A2, H⟩ := H
 replace H := bz H
 by_cases c3 : t104 = 0
 ·rw [if_pos c3] at H
  have c3b0 := eT c3
  have c3b1 := nF c3
  clear c3
  have HC4 := aM H
  clear H
  go_enter Try.func65, Try.ntmps65
  go_upto_region 5 with (first | ((with_reducible refine gD 1 rfl ?_); (try (refine gate_guard (by rfl) ?_; dsimp only)); refine bx 1 35 #[.int .i64 a0_0, .slice A0_1 l0_1.length c0_1, .slice A0_2 l0_2.length c0_2] ?_; intro gb103 hg w5 hbox hb; have BK103 := aM hbox; have GW103 := gw w hg; have GE103 := GW103; replace HB := aM (bT bq hb); clear hb hbox hg; obtain ⟨hcz6_0, hcz6_1, hcz6_2, hfz6_0, hfz6_1, hfz6_2⟩ := b3 BK103.out) | ((with_reducible refine gC 50 rfl ?_); refine gl (some 7) Try.func50 #[.int .i64 a0_0] ?_; (with_reducible refine (spec_SizeFault.calls a0_0 t104 _ A2.out).mono ?_); rintro e w' ⟨rfl, ⟨nd, rfl⟩⟩; refine ii ?_))
  (try simp only [Act.put, pa, pb, pc])
  go_cut [25] (fun v25 wc => ∃ (kq : Nat) (x25_3 : Bool), v25 = .bool x25_3 ∧ Aside0 (spec_SynthFault.j0 kq x25_3 a0_0 l0_1 l0_2 = some r) ∧ Aside0 (kq ≤ k) ∧ Aside0 (wc.heap[gb103]? = some (.cells #[.int .i64 a0_0, (.slice A0_1 l0_1.length c0_1), (.slice A0_2 l0_2.length c0_2)] 35 (0, 0))) ∧ Aside0 (Below w.heap.size w wc))
  case first =>
   have H := HC4.out
   clear HC4
   by_cases c7 : (l0_1.length : Int) = (wrap64 (Int.tdiv a0_0 2))
   ·rw [if_pos c7] at H
    have c7b0 := eT c7
    have c7b1 := nF c7
    clear c7
    (first | rw [c7b0] | (simp only [i64_w, i32_w]; rw [c7b0]) | skip)
    have H' := aM H
    clear H
    obtain ⟨hcz8_0, hcz8_1, hcz8_2, hfz8_0, hfz8_1, hfz8_2⟩ := b3 BK103.out
    go_wp2
    go_meet
    case rel => exact ⟨_, (((l0_2.length : Int) != (wrap64 (Int.tdiv a0_0 2)))), (ex), H', ⟨by first | omega | exact Nat.le_refl _⟩, aM (kq BK103.out), ⟨bq⟩⟩
   ·rw [if_neg c7] at H
    have c7b0 := eF c7
    have c7b1 := nT c7
    (first | rw [c7b0] | (simp only [i64_w, i32_w]; rw [c7b0]) | skip)
    have H' := aM H
    clear H
    obtain ⟨hcz9_0, hcz9_1, hcz9_2, hfz9_0, hfz9_1, hfz9_2⟩ := b3 BK103.out
    go_wp2
    go_meet
    case rel => exact ⟨_, (true), (ex), H', ⟨by first | omega | exact Nat.le_refl _⟩, aM (kq BK103.out), ⟨bq⟩⟩
  case rest =>
   clear HC4
   try clear p2
   try clear c3
   try clear c3b0
   try clear c3b1
   try clear c5
   try clear c6
   try clear p6
   try clear c7
   try clear c7b0
   try clear c7b1
   try clear hcz6_0
   try clear hcz6_1
   try clear hcz6_2
   try clear hcz8_0
   try clear hcz8_1
   try clear hcz8_2
   try clear hcz9_0
   try clear hcz9_1
   try clear hcz9_2
   try clear hfz6_0
   try clear hfz6_1
   try clear hfz6_2
   try clear hfz8_0
   try clear hfz8_1
   try clear hfz8_2
   try clear hfz9_0
   try clear hfz9_1
   try clear hfz9_2
   obtain ⟨kq, x25_3, rfl, HA, HJ3, BK103, HB⟩ := hcut
   cases kq with
   | zero => exact absurd HA.out (by simp [spec_SynthFault.j0])
   | succ kj3 =>
    have H := HA.out
    clear HA
    simp only [spec_SynthFault.j0] at H
    by_cases c10 : x25_3 = true
    ·subst c10
     have H1 : (some 2) = some r := by rw [if_pos rfl] at H; exact H
     clear H
     have H := H1
     clear H1
     obtain rfl := Option.some.inj H
     go_wp2
     go_ret
     exact ⟨ew, bq⟩
    ·replace c10 := Bool.eq_false_iff.mpr c10
     subst c10
     have H1 : ((spec_l1All.f kj3 l0_1 (-1073741824) 1073741824).bind fun t105 => (if t105 = true then ((spec_l1All.f kj3 l0_2 (-268435456) 268435456).bind fun t106 => (if t106 = true then (some 0) else (some 3))) else (some 3))) = some r := by rw [if_neg (show ¬ (false = true) by decide)] at H; exact H
     clear H
     have H := H1
     clear H1
     replace H := bo H
     obtain ⟨t105, A11, H⟩ := H
     replace H := bz H
     by_cases c12 : t105 = true
     ·subst c12
      have H1 : ((spec_l1All.f kj3 l0_2 (-268435456) 268435456).bind fun t106 => (if t106 = true then (some 0) else (some 3))) = some r := by rw [if_pos rfl] at H; exact H
      clear H
      have H := H1
      clear H1
      replace H := bo H
      obtain ⟨t106, A13, H⟩ := H
      replace H := bz H
      by_cases c14 : t106 = true
      ·subst c14
       have H1 : (some 0) = some r := by rw [if_pos rfl] at H; exact H
       clear H
       have H := H1
       clear H1
       obtain rfl := Option.some.inj H
       obtain ⟨hcz15_0, hcz15_1, hcz15_2, hfz15_0, hfz15_1, hfz15_2⟩ := b3 BK103.out
       go_wp2_with (first | ((with_reducible refine gC 100 rfl ?_); refine gl (some 28) Try.func100 #[.slice A0_1 l0_1.length c0_1, .int .i64 (-1073741824), .int .i64 1073741824] ?_; (with_reducible refine (spec_l1All.calls kj3 _ _ l0_1 (-1073741824) 1073741824 true _ ?s1 ?s2 A11.out).mono ?_); (case s1 => exact cq (cB HR0_1.out HB.out)); (case s2 => exact HC0_1.out); rintro e w' ⟨rfl, ⟨nd, rfl⟩⟩; refine ii ?_) | (go_at_call 100; (with_reducible refine (spec_l1All.calls kj3 _ _ l0_2 (-268435456) 268435456 true _ ?s1 ?s2 A13.out).mono ?_); (case s1 => exact cq (cB HR0_2.out bq)); (case s2 => exact HC0_2.out); rintro e w' ⟨rfl, ⟨nd, rfl⟩⟩))
       go_ret
       exact ⟨ew, bq⟩
      ·replace c14 := Bool.eq_false_iff.mpr c14
       subst c14
       have H1 : (some 3) = some r := by rw [if_neg (show ¬ (false = true) by decide)] at H; exact H
       clear H
       have H := H1
       clear H1
       obtain rfl := Option.some.inj H
       obtain ⟨hcz16_0, hcz16_1, hcz16_2, hfz16_0, hfz16_1, hfz16_2⟩ := b3 BK103.out
       go_wp2_with (first | ((with_reducible refine gC 100 rfl ?_); refine gl (some 28) Try.func100 #[.slice A0_1 l0_1.length c0_1, .int .i64 (-1073741824), .int .i64 1073741824] ?_; (with_reducible refine (spec_l1All.calls kj3 _ _ l0_1 (-1073741824) 1073741824 true _ ?s1 ?s2 A11.out).mono ?_); (case s1 => exact cq (cB HR0_1.out HB.out)); (case s2 => exact HC0_1.out); rintro e w' ⟨rfl, ⟨nd, rfl⟩⟩; refine ii ?_) | (go_at_call 100; (with_reducible refine (spec_l1All.calls kj3 _ _ l0_2 (-268435456) 268435456 false _ ?s1 ?s2 A13.out).mono ?_); (case s1 => exact cq (cB HR0_2.out bq)); (case s2 => exact HC0_2.out); rintro e w' ⟨rfl, ⟨nd, rfl⟩⟩))
       go_ret
       exact ⟨ew, bq⟩
     ·replace c12 := Bool.eq_false_iff.mpr c12
      subst c12
      have H1 : (some 3) = some r := by rw [if_neg (show ¬ (false = true) by decide)] at H; exact H
      clear H
      have H := H1
      clear H1
      obtain rfl := Option.some.inj H
      obtain ⟨hcz17_0, hcz17_1, hcz17_2, hfz17_0, hfz17_1, hfz17_2⟩ := b3 BK103.out
      go_wp2_with (first | ((with_reducible refine gC 100 rfl ?_); refine gl (some 28) Try.func100 #[.slice A0_1 l0_1.length c0_1, .int .i64 (-1073741824), .int .i64 1073741824] ?_; (with_reducible refine (spec_l1All.calls kj3 _ _ l0_1 (-1073741824) 1073741824 false _ ?s1 ?s2 A11.out).mono ?_); (case s1 => exact cq (cB HR0_1.out HB.out)); (case s2 => exact HC0_1.out); rintro e w' ⟨rfl, ⟨nd, rfl⟩⟩; refine ii ?_))
      go_ret
      exact ⟨ew, bq⟩
 ·rw [if_neg c3] at H
  have c3b0 := eF c3
  have c3b1 := nT c3
  obtain rfl := Option.some.inj H
  go_enter Try.func65, Try.ntmps65
  go_wp2_with (first | ((with_reducible refine gD 1 rfl ?_); (try (refine gate_guard (by rfl) ?_; dsimp only)); refine bx 1 35 #[.int .i64 a0_0, .slice A0_1 l0_1.length c0_1, .slice A0_2 l0_2.length c0_2] ?_; intro gb103 hg w18 hbox hb; have BK103 := aM hbox; have GW103 := gw w hg; have GE103 := GW103; replace HB := aM (bT bq hb); clear hb hbox hg; obtain ⟨hcz19_0, hcz19_1, hcz19_2, hfz19_0, hfz19_1, hfz19_2⟩ := b3 BK103.out) | ((with_reducible refine gC 50 rfl ?_); refine gl (some 7) Try.func50 #[.int .i64 a0_0] ?_; (with_reducible refine (spec_SizeFault.calls a0_0 t104 _ A2.out).mono ?_); rintro e w' ⟨rfl, ⟨nd, rfl⟩⟩; refine ii ?_))
  go_ret
  exact ⟨ew, bq⟩
def spec_l6Ask.f (k : Nat) (l0 : List Int) (a1 : Int) : Option (Int) := (spec_SizeFault.f (l0.length : Int)).bind fun t107 => (if t107 = 0 then ((spec_l1All.f k l0 (wrap64 (-a1)) a1).bind fun t108 => (if t108 = true then (some 0) else (some 3))) else (some 2))
theorem spec_l6Ask.calls (k : Nat) (A0 : Option Addr) (c0 : Nat) (l0 : List Int) (a1 : Int) (r : Int) (w : World) (hr0 : Kd.C (Kd.int .i64) w A0 l0.length l0) (hc0 : l0.length ≤ c0) (h : spec_l6Ask.f k l0 a1 = some r) :
  Calls Try.prog 66 #[.slice A0 l0.length c0, .int .i64 a1] w fun e w' => e = .returned (.int .i64 r) ∧ Drawn0 w w' := by
 have HR0 := aM hr0
 have HC0 := aM hc0
 clear hr0 hc0
 unfold spec_l6Ask.f at h
 have H := h
 clear h
 replace H := bo H
 obtain ⟨t107, A3, H⟩ := H
 replace H := bz H
 by_cases c4 : t107 = 0
 ·rw [if_pos c4] at H
  have c4b0 := eT c4
  have c4b1 := nF c4
  clear c4
  replace H := bo H
  obtain ⟨t108, A5, H⟩ := H
  replace H := bz H
  by_cases c6 : t108 = true
  ·subst c6
   have H1 : (some 0) = some r := by rw [if_pos rfl] at H; exact H
   clear H
   have H := H1
   clear H1
   obtain rfl := Option.some.inj H
   go_enter Try.func66, Try.ntmps66
   go_wp2_with (first | ((with_reducible refine gC 50 rfl ?_); refine gl (some 7) Try.func50 #[.int .i64 (l0.length : Int)] ?_; (with_reducible refine (spec_SizeFault.calls (l0.length : Int) t107 _ A3.out).mono ?_); rintro e w' ⟨rfl, ⟨nd, rfl⟩⟩; refine ii ?_) | ((with_reducible refine gC 100 rfl ?_); refine gl (some 13) Try.func100 #[.slice A0 l0.length c0, .int .i64 (wrap64 (-a1)), .int .i64 a1] ?_; (with_reducible refine (spec_l1All.calls k _ _ l0 (wrap64 (-a1)) a1 true _ ?s1 ?s2 A5.out).mono ?_); (case s1 => exact cq HR0.out); (case s2 => exact HC0.out); rintro e w' ⟨rfl, ⟨nd, rfl⟩⟩; refine ii ?_))
   go_ret
   exact ⟨ex, dr⟩
  ·replace c6 := Bool.eq_false_iff.mpr c6
   subst c6
   have H1 : (some 3) = some r := by rw [if_neg (show ¬ (false = true) by decide)] at H; exact H
   clear H
   have H := H1
   clear H1
   obtain rfl := Option.some.inj H
   go_enter Try.func66, Try.ntmps66
   go_wp2_with (first | ((with_reducible refine gC 50 rfl ?_); refine gl (some 7) Try.func50 #[.int .i64 (l0.length : Int)] ?_; (with_reducible refine (spec_SizeFault.calls (l0.length : Int) t107 _ A3.out).mono ?_); rintro e w' ⟨rfl, ⟨nd, rfl⟩⟩; refine ii ?_) | ((with_reducible refine gC 100 rfl ?_); refine gl (some 13) Try.func100 #[.slice A0 l0.length c0, .int .i64 (wrap64 (-a1)), .int .i64 a1] ?_; (with_reducible refine (spec_l1All.calls k _ _ l0 (wrap64 (-a1)) a1 false _ ?s1 ?s2 A5.out).mono ?_); (case s1 => exact cq HR0.out); (case s2 => exact HC0.out); rintro e w' ⟨rfl, ⟨nd, rfl⟩⟩; refine ii ?_))
   go_ret
   exact ⟨ex, dr⟩
 ·rw [if_neg c4] at H
  have c4b0 := eF c4
  have c4b1 := nT c4
  obtain rfl := Option.some.inj H
  go_enter Try.func66, Try.ntmps66
  go_wp2_with (first | ((with_reducible refine gC 50 rfl ?_); refine gl (some 7) Try.func50 #[.int .i64 (l0.length : Int)] ?_; (with_reducible refine (spec_SizeFault.calls (l0.length : Int) t107 _ A3.out).mono ?_); rintro e w' ⟨rfl, ⟨nd, rfl⟩⟩; refine ii ?_))
  go_ret
  exact ⟨ex, dr⟩
def spec_l1Ints.f (l0 : List Int) : Option (List Int) := (some (([] : List Int) : List Int)).bind fun y109 => (if y109.length + l0.length < 17592186044416 then (some (y109 ++ l0)) else (none))
theorem spec_l1Ints.calls (A0 : Option Addr) (c0 : Nat) (l0 : List Int) (r : List Int) (w : World) (hr0 : Kd.C (Kd.int .i64) w A0 l0.length l0) (hc0 : l0.length ≤ c0) (h : spec_l1Ints.f l0 = some r) :
  Calls Try.prog 114 #[.slice A0 l0.length c0] w fun e w' => ∃ v0_ : Value, e = .returned (v0_) ∧ Kd.R (Kd.int .i64) 2 w' w.heap.size (fun _ => True) v0_ r ∧ Below w.heap.size w w' := by
 have HR0 := aM hr0
 have HC0 := aM hc0
 clear hr0 hc0
 have HB := aM (Below.refl w.heap.size w)
 unfold spec_l1Ints.f at h
 have H := h
 clear h
 obtain ⟨y109, hy109⟩ : ∃ y_ : List Int, y_ = (([] : List Int)) := ⟨_, rfl⟩
 replace H : (if y109.length + l0.length < 17592186044416 then (some (y109 ++ l0)) else (none)) = some r := hl hy109 H
 have Ny109 := aM hy109
 clear hy109
 by_cases c2 : y109.length + l0.length < 17592186044416
 ·rw [if_pos c2] at H
  have LMc2 := aM c2
  clear c2
  obtain ⟨y112, Ny112⟩ : ∃ y_ : List Int, Aside0 (y_ = (y109 ++ l0)) := ⟨_, ⟨rfl⟩⟩
  rw [← Ny112.out] at H
  obtain rfl := Option.some.inj H
  go_enter Try.func114, Try.ntmps114
  go_wp2_with (first | ((with_reducible refine gD 3 rfl ?_); refine Kd.R_lit (Kd.int .i64) _ 2 ?hg (N := 3) ?hd (xs := ([] : List Int)) (inner := []) (ok := fun _ => True) (okp := fun _ => True) ?hr ?hp (fun _ hk => hk) trivial (Below.refl _ _) (Nat.le_refl _) (by simp) ?_; (case hd => rfl); (case hg => rfl); (case hr => first | (go_simp; done) | (go_simp; rfl)); (case hp => exact (Reps.none _ _)); intro v110 w3 ho4 hb hg_ hnew_; clear hg_ hnew_; rw [← Ny109.out] at ho4; have HO111 := aM (rG ho4 (bZ bq)); replace HB := aM (bT bq hb); clear hb ho4) | ((with_reducible refine gate_builtin (b := .append) (xs := #[.tmp 3, .tmp 4]) rfl ?_); at_builtin; refine Kd.R_append_rows (Kd.int .i64) (w0 := w) w.heap.size rfl (.tmp 3) (.tmp 4) 22 2 (.int .i64 0) 8 rfl Try.underlying22 info2 rfl (by decide) (by omega) v110 y109 l0 _ _ _ (fun _ => True) (fun _ => False) rfl rfl ?aO ?aR (fun _ _ h => h) (fun _ h => h.elim) ?aF ?aB ?aS ?aL ?_; (case aR => exact cq (cB HR0.out HB.out)); (case aB => exact bq); (case aF => exact (fun _ _ => trivial)); (case aO => exact (rq HO111.out)); (case aS => exact (bZ bq)); (case aL => have := LMc2.out; omega); intro v113 w5 ho hb hg hat; rw [← Ny112.out] at ho; replace HB := aM hb; have HO114 := aM (ho); clear HO111 ho hb hg hat))
  go_ret
  exact ⟨_, ew, by (with_reducible repeat (first | apply rA | apply rN | apply rD)); exact HO114.out, bq⟩
 ·rw [if_neg c2] at H
  exact absurd H (by simp)
def spec_l1Zeros.f (a0 : Int) : Option (List Int) := if 0 ≤ a0 then (if (a0 : Int).toNat ≤ 35184372088832 then (some (List.replicate (a0 : Int).toNat 0)) else (none)) else (none)
theorem spec_l1Zeros.calls (a0 : Int) (r : List Int) (w : World) (h : spec_l1Zeros.f a0 = some r) :
  Calls Try.prog 136 #[.int .i64 a0] w fun e w' => ∃ v0_ : Value, e = .returned (v0_) ∧ Kd.R (Kd.int .i64) 2 w' w.heap.size (fun _ => True) v0_ r ∧ Below w.heap.size w w' := by
 have HB := aM (Below.refl w.heap.size w)
 unfold spec_l1Zeros.f at h
 have H := h
 clear h
 by_cases c2 : 0 ≤ a0
 ·rw [if_pos c2] at H
  have c2b0 := eq_true c2
  have c2b1 := dT c2
  clear c2
  by_cases c3 : (a0 : Int).toNat ≤ 35184372088832
  ·rw [if_pos c3] at H
   have c3b0 := eq_true c3
   have c3b1 := dT c3
   clear c3
   obtain ⟨y115, Ny115⟩ : ∃ y_ : List Int, Aside0 (y_ = (List.replicate (a0 : Int).toNat 0)) := ⟨_, ⟨rfl⟩⟩
   rw [← Ny115.out] at H
   obtain rfl := Option.some.inj H
   go_enter Try.func136, Try.ntmps136
   go_wp2_with (first | ((with_reducible refine gD 4 rfl ?_); refine Kd.R_make (Kd.int .i64) _ 2 rfl (N := 4) rfl 22 _ _ rfl a0 rfl rfl Try.underlying22 (.int .i64 0) 8 info2 rfl (by decide) (by omega) 0 (ok := fun _ => True) (okp := fun _ => True) rfl (fun _ hk => hk) trivial (dt) (Nat.le_trans (Nat.mul_le_mul_right _ (dt : a0.toNat ≤ 35184372088832)) (by omega)) (Below.refl _ _) (Nat.le_refl _) ?_; intro v116 w4 ho5 hb hg_ hnew_; clear hg_ hnew_; rw [← Ny115.out] at ho5; have HO117 := aM (rG ho5 (bZ bq)); replace HB := aM (bT bq hb); clear hb ho5))
   go_ret
   exact ⟨_, ew, by (with_reducible repeat (first | apply rA | apply rN | apply rD)); exact HO117.out, bq⟩
  ·rw [if_neg c3] at H
   exact absurd H (by simp)
 ·rw [if_neg c2] at H
  exact absurd H (by simp)
def spec_l5P.f (a0 : Int) (a1 : Int) : Option (Int) := if (wrap64 ((wrap64 (a0 * 16)) + a1)) = 64 then (some 101) else (if (wrap64 ((wrap64 (a0 * 16)) + a1)) = 65 then (some 311) else (if (wrap64 ((wrap64 (a0 * 16)) + a1)) = 128 then (some 50) else (if (wrap64 ((wrap64 (a0 * 16)) + a1)) = 129 then (some 152) else (if (wrap64 ((wrap64 (a0 * 16)) + a1)) = 130 then (some 257) else (if (wrap64 ((wrap64 (a0 * 16)) + a1)) = 131 then (some 366) else (if (wrap64 ((wrap64 (a0 * 16)) + a1)) = 256 then (some 25) else (if (wrap64 ((wrap64 (a0 * 16)) + a1)) = 257 then (some 76) else (if (wrap64 ((wrap64 (a0 * 16)) + a1)) = 258 then (some 126) else (if (wrap64 ((wrap64 (a0 * 16)) + a1)) = 259 then (some 178) else (if (wrap64 ((wrap64 (a0 * 16)) + a1)) = 260 then (some 230) else (if (wrap64 ((wrap64 (a0 * 16)) + a1)) = 261 then (some 283) else (if (wrap64 ((wrap64 (a0 * 16)) + a1)) = 262 then (some 338) else (some 395)))))))))))))
theorem spec_l5P.calls (a0 : Int) (a1 : Int) (r : Int) (w : World) (h : spec_l5P.f a0 a1 = some r) :
  Calls Try.prog 155 #[.int .i64 a0, .int .i64 a1] w fun e w' => e = .returned (.int .i64 r) ∧ Drawn0 w w' := by
 unfold spec_l5P.f at h
 have H := h
 clear h
 by_cases c3 : (wrap64 ((wrap64 (a0 * 16)) + a1)) = 64
 ·rw [if_pos c3] at H
  have c3b0 := eT c3
  have c3b1 := nF c3
  clear c3
  obtain rfl := Option.some.inj H
  go_enter Try.func155, Try.ntmps155
  go_wp2
  go_ret
  exact ⟨ex, dr⟩
 ·rw [if_neg c3] at H
  have c3b0 := eF c3
  have c3b1 := nT c3
  by_cases c4 : (wrap64 ((wrap64 (a0 * 16)) + a1)) = 65
  ·rw [if_pos c4] at H
   have c4b0 := eT c4
   have c4b1 := nF c4
   clear c4
   obtain rfl := Option.some.inj H
   go_enter Try.func155, Try.ntmps155
   go_wp2
   go_ret
   exact ⟨ex, dr⟩
  ·rw [if_neg c4] at H
   have c4b0 := eF c4
   have c4b1 := nT c4
   by_cases c5 : (wrap64 ((wrap64 (a0 * 16)) + a1)) = 128
   ·rw [if_pos c5] at H
    have c5b0 := eT c5
    have c5b1 := nF c5
    clear c5
    obtain rfl := Option.some.inj H
    go_enter Try.func155, Try.ntmps155
    go_wp2
    go_ret
    exact ⟨ex, dr⟩
   ·rw [if_neg c5] at H
    have c5b0 := eF c5
    have c5b1 := nT c5
    by_cases c6 : (wrap64 ((wrap64 (a0 * 16)) + a1)) = 129
    ·rw [if_pos c6] at H
     have c6b0 := eT c6
     have c6b1 := nF c6
     clear c6
     obtain rfl := Option.some.inj H
     go_enter Try.func155, Try.ntmps155
     go_wp2
     go_ret
     exact ⟨ex, dr⟩
    ·rw [if_neg c6] at H
     have c6b0 := eF c6
     have c6b1 := nT c6
     by_cases c7 : (wrap64 ((wrap64 (a0 * 16)) + a1)) = 130
     ·rw [if_pos c7] at H
      have c7b0 := eT c7
      have c7b1 := nF c7
      clear c7
      obtain rfl := Option.some.inj H
      go_enter Try.func155, Try.ntmps155
      go_wp2
      go_ret
      exact ⟨ex, dr⟩
     ·rw [if_neg c7] at H
      have c7b0 := eF c7
      have c7b1 := nT c7
      by_cases c8 : (wrap64 ((wrap64 (a0 * 16)) + a1)) = 131
      ·rw [if_pos c8] at H
       have c8b0 := eT c8
       have c8b1 := nF c8
       clear c8
       obtain rfl := Option.some.inj H
       go_enter Try.func155, Try.ntmps155
       go_wp2
       go_ret
       exact ⟨ex, dr⟩
      ·rw [if_neg c8] at H
       have c8b0 := eF c8
       have c8b1 := nT c8
       by_cases c9 : (wrap64 ((wrap64 (a0 * 16)) + a1)) = 256
       ·rw [if_pos c9] at H
        have c9b0 := eT c9
        have c9b1 := nF c9
        clear c9
        obtain rfl := Option.some.inj H
        go_enter Try.func155, Try.ntmps155
        go_wp2
        go_ret
        exact ⟨ex, dr⟩
       ·rw [if_neg c9] at H
        have c9b0 := eF c9
        have c9b1 := nT c9
        by_cases c10 : (wrap64 ((wrap64 (a0 * 16)) + a1)) = 257
        ·rw [if_pos c10] at H
         have c10b0 := eT c10
         have c10b1 := nF c10
         clear c10
         obtain rfl := Option.some.inj H
         go_enter Try.func155, Try.ntmps155
         go_wp2
         go_ret
         exact ⟨ex, dr⟩
        ·rw [if_neg c10] at H
         have c10b0 := eF c10
         have c10b1 := nT c10
         by_cases c11 : (wrap64 ((wrap64 (a0 * 16)) + a1)) = 258
         ·rw [if_pos c11] at H
          have c11b0 := eT c11
          have c11b1 := nF c11
          clear c11
          obtain rfl := Option.some.inj H
          go_enter Try.func155, Try.ntmps155
          go_wp2
          go_ret
          exact ⟨ex, dr⟩
         ·rw [if_neg c11] at H
          have c11b0 := eF c11
          have c11b1 := nT c11
          by_cases c12 : (wrap64 ((wrap64 (a0 * 16)) + a1)) = 259
          ·rw [if_pos c12] at H
           have c12b0 := eT c12
           have c12b1 := nF c12
           clear c12
           obtain rfl := Option.some.inj H
           go_enter Try.func155, Try.ntmps155
           go_wp2
           go_ret
           exact ⟨ex, dr⟩
          ·rw [if_neg c12] at H
           have c12b0 := eF c12
           have c12b1 := nT c12
           by_cases c13 : (wrap64 ((wrap64 (a0 * 16)) + a1)) = 260
           ·rw [if_pos c13] at H
            have c13b0 := eT c13
            have c13b1 := nF c13
            clear c13
            obtain rfl := Option.some.inj H
            go_enter Try.func155, Try.ntmps155
            go_wp2
            go_ret
            exact ⟨ex, dr⟩
           ·rw [if_neg c13] at H
            have c13b0 := eF c13
            have c13b1 := nT c13
            by_cases c14 : (wrap64 ((wrap64 (a0 * 16)) + a1)) = 261
            ·rw [if_pos c14] at H
             have c14b0 := eT c14
             have c14b1 := nF c14
             clear c14
             obtain rfl := Option.some.inj H
             go_enter Try.func155, Try.ntmps155
             go_wp2
             go_ret
             exact ⟨ex, dr⟩
            ·rw [if_neg c14] at H
             have c14b0 := eF c14
             have c14b1 := nT c14
             by_cases c15 : (wrap64 ((wrap64 (a0 * 16)) + a1)) = 262
             ·rw [if_pos c15] at H
              have c15b0 := eT c15
              have c15b1 := nF c15
              clear c15
              obtain rfl := Option.some.inj H
              go_enter Try.func155, Try.ntmps155
              go_wp2
              go_ret
              exact ⟨ex, dr⟩
             ·rw [if_neg c15] at H
              have c15b0 := eF c15
              have c15b1 := nT c15
              obtain rfl := Option.some.inj H
              go_enter Try.func155, Try.ntmps155
              go_wp2
              go_ret
              exact ⟨ex, dr⟩
end Go.Proofs.Ytmhnpogjkbmmnaa.PFnStates
