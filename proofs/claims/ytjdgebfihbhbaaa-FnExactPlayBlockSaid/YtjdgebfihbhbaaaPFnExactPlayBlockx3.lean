-- Written by a program of this session: wip/mkprint.py over the kit's print, with contracts proved by hand (wip/given.py)
-- shortened
-- told short
-- squeezed
import Derived.Test.YtjdgebfihbhbaaaPFnExactPlayBlockx0
import Derived.Test.YtjdgebfihbhbaaaPFnExactPlayBlockx2
namespace Go.Proofs.Ytjdgebfihbhbaaa.PFnExactPlayBlock
open Go.RowKit Go.Proofs.YtjdgebfihbhbaaaW.PrintWords Go.Proofs.YtjdgebfihbhbaaaW.PrintLast Go.Proofs.YtjdgebfihbhbaaaW.PrintMore
open Go.Proofs.YtjdgebfihbhbaaaW.PrintWords.Kd renaming R_alloc → rA, R_drewN → rN, R_drew → rD, R_mono → rM, R_base → rB, R_new' → rW, R_below → rL, R_lt → rT, R_lower → rG, R_elder' → rH, R_reads' → rR
open Go.Proofs.YtjdgebfihbhbaaaW.PrintWords renaming below_drew1 → bD, below_set → bS, below_step → bT, below_size → bZ
open Go.Proofs.YtjdgebfihbhbaaaW.PrintWords.Aside0 renaming mk → aM
attribute [local go_sem] max2_int min2_int max_two min_two max_three min_three max_four min_four   -- for this text's walks alone
set_option linter.unusedVariables false
set_option linter.unusedSimpArgs false

/-! ### spec_l6Unite: function 132 -/
mutual
def spec_l6Unite.j1 : Nat → List Int → Int → List Int → Option (List Int)
 | 0, _, _, _ => none
 | k + 1, x0, x5, x6 => (spec_l1Zeros.f x5).bind fun t147 => (spec_l6Unite.l1 k x0 x5 x6 t147 0)
def spec_l6Unite.l1 : Nat → List Int → Int → List Int → List Int → Int → Option (List Int)
 | 0, _, _, _, _, _ => none
 | k + 1, x0, x5, x6, x10, x11 => if x11 < (wrap64 (Int.tdiv x5 2)) then (if 0 ≤ x11 then (if x11 < (x0.length : Int) then (if x11 < (x6.length : Int) then ((spec_l5Part.f (rd x0 x11) (rd x6 x11)).bind fun bt152 => (if x11 < (x10.length : Int) then (if 0 ≤ (wrap64 ((wrap64 (x5 - 1)) - x11)) then (if (wrap64 ((wrap64 (x5 - 1)) - x11)) < (x10.length : Int) then (spec_l6Unite.l1 k x0 x5 x6 ((x10.set (x11 : Int).toNat bt152.1).set ((wrap64 ((wrap64 (x5 - 1)) - x11)) : Int).toNat bt152.2) (wrap64 (x11 + 1))) else (none)) else (none)) else (none))) else (none)) else (none)) else (none)) else (some x10)
def spec_l6Unite.l0 : Nat → List Int → Int → List Int → Int → Option (List Int)
 | 0, _, _, _, _ => none
 | k + 1, x0, x5, x6, x7 => if x7 < (wrap64 (Int.tdiv x5 4)) then (if 0 ≤ x7 then (if x7 < (x6.length : Int) then (if 0 ≤ (wrap64 ((wrap64 ((wrap64 (Int.tdiv x5 2)) - 1)) - x7)) then (if (wrap64 ((wrap64 ((wrap64 (Int.tdiv x5 2)) - 1)) - x7)) < (x6.length : Int) then ((spec_l5Back.f x5 x7 (rd x6 x7) (rd x6 (wrap64 ((wrap64 ((wrap64 (Int.tdiv x5 2)) - 1)) - x7)))).bind fun bt143 => (spec_l6Unite.l0 k x0 x5 ((x6.set (x7 : Int).toNat bt143.1).set ((wrap64 ((wrap64 ((wrap64 (Int.tdiv x5 2)) - 1)) - x7)) : Int).toNat bt143.2) (wrap64 (x7 + 1)))) else (none)) else (none)) else (none)) else (none)) else (spec_l6Unite.j1 k x0 x5 x6)
end
def spec_l6Unite.f (k : Nat) (l0 : List Int) (l1 : List Int) : Option (List Int) := (spec_l1Ints.f l1).bind fun t138 => (if (wrap64 ((l0.length : Int) * 2)) > 2 then (spec_l6Unite.l0 k l0 (wrap64 ((l0.length : Int) * 2)) t138 0) else (spec_l6Unite.j1 k l0 (wrap64 ((l0.length : Int) * 2)) t138))
theorem spec_l6Unite.mono_l : ∀ k, (∀ y0 y1 y2, LeO (spec_l6Unite.j1 k y0 y1 y2) (spec_l6Unite.j1 (k + 1) y0 y1 y2)) ∧ (∀ y0 y1 y2 y3 y4, LeO (spec_l6Unite.l1 k y0 y1 y2 y3 y4) (spec_l6Unite.l1 (k + 1) y0 y1 y2 y3 y4)) ∧ (∀ y0 y1 y2 y3, LeO (spec_l6Unite.l0 k y0 y1 y2 y3) (spec_l6Unite.l0 (k + 1) y0 y1 y2 y3))
 | 0 => ⟨fun _ _ _ r h => by simp [spec_l6Unite.j1] at h, fun _ _ _ _ _ r h => by simp [spec_l6Unite.l1] at h, fun _ _ _ _ r h => by simp [spec_l6Unite.l0] at h⟩
 | k + 1 => by
  obtain ⟨ih0, ih1, ih2⟩ := spec_l6Unite.mono_l k
  refine ⟨?_, ?_, ?_⟩
  ·intro y0 y1 y2
   unfold spec_l6Unite.j1
   repeat' first
   | (with_reducible exact ih0 _ _ _)
   | (with_reducible exact ih1 _ _ _ _ _)
   | (with_reducible exact ih2 _ _ _ _)
   | (with_reducible exact LeO.refl _)
   | (with_reducible exact LeO.none _)
   | (with_reducible refine LeO.ite ?_ ?_)
   | (with_reducible refine LeO.bind ?_ (fun _ => ?_))
   | exact ih0 _ _ _
   | exact ih1 _ _ _ _ _
   | exact ih2 _ _ _ _
   | exact LeO.none _
   | refine LeO.ite ?_ ?_
   | refine LeO.bind ?_ (fun _ => ?_)
  ·intro y0 y1 y2 y3 y4
   unfold spec_l6Unite.l1
   repeat' first
   | (with_reducible exact ih0 _ _ _)
   | (with_reducible exact ih1 _ _ _ _ _)
   | (with_reducible exact ih2 _ _ _ _)
   | (with_reducible exact LeO.refl _)
   | (with_reducible exact LeO.none _)
   | (with_reducible refine LeO.ite ?_ ?_)
   | (with_reducible refine LeO.bind ?_ (fun _ => ?_))
   | exact ih0 _ _ _
   | exact ih1 _ _ _ _ _
   | exact ih2 _ _ _ _
   | exact LeO.none _
   | refine LeO.ite ?_ ?_
   | refine LeO.bind ?_ (fun _ => ?_)
  ·intro y0 y1 y2 y3
   unfold spec_l6Unite.l0
   repeat' first
   | (with_reducible exact ih0 _ _ _)
   | (with_reducible exact ih1 _ _ _ _ _)
   | (with_reducible exact ih2 _ _ _ _)
   | (with_reducible exact LeO.refl _)
   | (with_reducible exact LeO.none _)
   | (with_reducible refine LeO.ite ?_ ?_)
   | (with_reducible refine LeO.bind ?_ (fun _ => ?_))
   | exact ih0 _ _ _
   | exact ih1 _ _ _ _ _
   | exact ih2 _ _ _ _
   | exact LeO.none _
   | refine LeO.ite ?_ ?_
   | refine LeO.bind ?_ (fun _ => ?_)
theorem spec_l6Unite.mono : ∀ a0 a1 k, LeO (spec_l6Unite.f k a0 a1) (spec_l6Unite.f (k + 1) a0 a1) := by
 intro a0 a1 k
 obtain ⟨ih0, ih1, ih2⟩ := spec_l6Unite.mono_l k
 unfold spec_l6Unite.f
 repeat' first
   | (with_reducible exact ih0 _ _ _)
   | (with_reducible exact ih1 _ _ _ _ _)
   | (with_reducible exact ih2 _ _ _ _)
   | (with_reducible exact LeO.refl _)
   | (with_reducible exact LeO.none _)
   | (with_reducible refine LeO.ite ?_ ?_)
   | (with_reducible refine LeO.bind ?_ (fun _ => ?_))
   | exact ih0 _ _ _
   | exact ih1 _ _ _ _ _
   | exact ih2 _ _ _ _
   | exact LeO.none _
   | refine LeO.ite ?_ ?_
   | refine LeO.bind ?_ (fun _ => ?_)
def spec_l6Unite.T7 : Bool × List (List Nat × List Nat) := (true, [([], []), ([], []), ([], []), ([], []), ([2, 3], [2, 3]), ([4], [4]), ([], []), ([], []), ([7], [7]), ([8], [8]), ([], []), ([9, 10], [9, 10]), ([6, 11], [6, 11]), ([12], [12]), ([0, 1, 5, 13], [0, 1, 5, 13]), ([14], [14]), ([15], [15]), ([15], [15]), ([16, 14, 0, 1, 2, 3, 4, 5, 6, 7, 8, 9, 10, 11, 12, 13, 14, 15, 16], [16]), ([17, 18, 0, 1, 2, 3, 4, 5, 6, 7, 8, 9, 10, 11, 12, 13, 14, 15, 16, 17, 18], [17])])
def spec_l6Unite.B7 : List Nat := [0, 0, 0, 0, 12, 28, 0, 0, 128, 384, 0, 1920, 4032, 8128, 16383, 32767, 65535, 65535, 131071, 524287]
theorem spec_l6Unite.tab7 : rtab .any (opsOf Try.f132 7) = spec_l6Unite.T7 := by kernel_rfl
theorem spec_l6Unite.bits7 : waitsOk spec_l6Unite.T7.2 spec_l6Unite.B7 = true := by kernel_rfl
def spec_l6Unite.T14 : Bool × List (List Nat × List Nat) := (true, [([], []), ([], []), ([0, 1], [0, 1]), ([2], [2]), ([], []), ([], []), ([4, 5], [4, 5]), ([6], [6]), ([3, 7], [3, 7]), ([8], [8]), ([9], [9]), ([9], [9]), ([10, 8, 0, 1, 2, 3, 4, 5, 6, 7, 8, 9, 10], [10]), ([11, 12, 0, 1, 2, 3, 4, 5, 6, 7, 8, 9, 10, 11, 12], [11])])
def spec_l6Unite.B14 : List Nat := [0, 0, 3, 7, 0, 0, 48, 112, 255, 511, 1023, 1023, 2047, 8191]
theorem spec_l6Unite.tab14 : rtab .any (opsOf Try.f132 14) = spec_l6Unite.T14 := by kernel_rfl
theorem spec_l6Unite.bits14 : waitsOk spec_l6Unite.T14.2 spec_l6Unite.B14 = true := by kernel_rfl
set_option maxHeartbeats 8000000 in
set_option maxRecDepth 100000 in
theorem spec_l6Unite.calls (k : Nat) (P0_ : Nat → Prop) (A0 : Option Addr) (c0 : Nat) (l0 : List Int) (A1 : Option Addr) (c1 : Nat) (l1 : List Int) (r : List Int) (w : World) (hs0 : Kd.V (Kd.int .i64) 2 w w.heap.size (fun k_ => P0_ k_) (.slice A0 l0.length c0) l0) (hr1 : Kd.C (Kd.int .i64) w A1 l1.length l1) (hc1 : l1.length ≤ c1) (h : spec_l6Unite.f k l0 l1 = some r) :
  Calls Try.prog 132 #[.slice A0 l0.length c0, .slice A1 l1.length c1] w fun e w' => ∃ v0_ : Value, e = .returned (v0_) ∧ Kd.R (Kd.int .i64) 2 w' w.heap.size (fun k_ => (w.heap.size ≤ k_)) v0_ r ∧ Below w.heap.size w w' := by
 have HO0 := aM (show Kd.V (Kd.int .i64) 2 w w.heap.size (fun k_ => (P0_ k_ ∨ w.heap.size ≤ k_)) (.slice A0 l0.length c0) l0 from Kd.V_mono hs0 (fun k_ hk => .inl hk))
 have HR1 := aM hr1
 have HC1 := aM hc1
 clear hr1 hc1
 have HB := aM (Below.refl w.heap.size w)
 have H : ((spec_l1Ints.f l1).bind fun t138 => (if (wrap64 ((l0.length : Int) * 2)) > 2 then (spec_l6Unite.l0 k l0 (wrap64 ((l0.length : Int) * 2)) t138 0) else (spec_l6Unite.j1 k l0 (wrap64 ((l0.length : Int) * 2)) t138))) = some r := h
 clear h
 replace H := Option.bind_eq_some_iff.mp H
 obtain ⟨t138, A30, H⟩ := H
 replace H : (if (wrap64 ((l0.length : Int) * 2)) > 2 then (spec_l6Unite.l0 k l0 (wrap64 ((l0.length : Int) * 2)) t138 0) else (spec_l6Unite.j1 k l0 (wrap64 ((l0.length : Int) * 2)) t138)) = some r := H
 have A3 := aM A30
 clear A30
 have HC4 := aM H
 clear H
 go_enter Try.func132, Try.ntmps132
 go_upto_if 20 with (first | ((with_reducible refine gate_callee (f := 105) rfl ?_); refine goesL_ (some 18) rfl rfl Try.func105 (by kernel_rfl) rfl #[.slice A1 l1.length c1] rfl mq ?_; (with_reducible refine (spec_l1Ints.calls _ _ l1 t138 _ ?side1 ?side2 A3.out).mono ?_); (case side1 => exact cq HR1.out); (case side2 => exact HC1.out); rintro e w5 ⟨v139, rfl, ho0, hb⟩; refine ⟨_, rfl, ?_⟩; have n0_ := aM (Kd.V_elder' (vq HO0.out) (rB ho0) hb); have n1_ := aM (rG (Kd.R_newM (M := fun k_ => (w.heap.size ≤ k_)) ho0 (bZ bq) (fun k_ h_ => h_)) (bZ bq)); have n2_ := aM (bT bq hb); clear HO0 HB; have HO0 := n0_; have HO140 := n1_; have HB := n2_; clear n0_ n1_ n2_; (try clear hb); (try clear ho0)))
 (try simp only [Act.put, pa, pb, pc])
 go_cut [] (fun wc => ∃ (kq : Nat) (x6_3 : List Int), Aside0 (spec_l6Unite.j1 kq l0 (wrap64 ((l0.length : Int) * 2)) x6_3 = some r) ∧ Aside0 (kq ≤ k) ∧ Aside0 (Kd.V (Kd.int .i64) 2 wc w.heap.size (fun k_ => (P0_ k_ ∨ w.heap.size ≤ k_) ∧ some k_ ≠ (v139 : Value).ownBlock) (.slice A0 l0.length c0) l0) ∧ Aside0 (Kd.R (Kd.int .i64) 2 wc w.heap.size (fun k_ => (w.heap.size ≤ k_)) v139 x6_3) ∧ Aside0 (Below w.heap.size w wc))
 case first =>
  have H := HC4.out
  clear HC4
  by_cases c6 : (wrap64 ((l0.length : Int) * 2)) > 2
  ·rw [if_pos c6] at H
   have c6b0 : decide (2 < (wrap64 ((l0.length : Int) * 2))) = true := decide_eq_true c6
   clear c6
   (first | rw [c6b0] | (simp only [i64_w, i32_w]; rw [c6b0]) | skip)
   have H' := aM H
   clear H
   go_wp2
   go_loopg [7] k (fun kq v7 w' => ∃ (x6_1 : List Int) (x7_1 : Int), v7 = .int .i64 x7_1 ∧ Aside0 (spec_l6Unite.l0 kq l0 (wrap64 ((l0.length : Int) * 2)) x6_1 x7_1 = some r) ∧ Aside0 (kq ≤ k) ∧ Aside0 (Kd.V (Kd.int .i64) 2 w' w.heap.size (fun k_ => (P0_ k_ ∨ w.heap.size ≤ k_) ∧ some k_ ≠ (v139 : Value).ownBlock) (.slice A0 l0.length c0) l0) ∧ Aside0 (Kd.R (Kd.int .i64) 2 w' w.heap.size (fun k_ => (w.heap.size ≤ k_)) v139 x6_1) ∧ Aside0 (Below w.heap.size w w'))
   case atStart => exact ⟨(t138), (0), (by first | rfl | (simp; done) | (simp [*]; done)), H', ⟨Nat.le_refl _⟩, ⟨by (with_reducible repeat (first | apply Kd.V_alloc | apply Kd.V_drewN | apply Kd.V_drew)); exact HO0.out⟩, ⟨by (with_reducible repeat (first | apply rA | apply rN | apply rD)); exact rM HO140.out (fun _ hk => hk.1)⟩, ⟨bq⟩⟩
   case round =>
    clear H'
    try clear c1
    try clear p2
    try clear c6
    try clear c6b0
    try clear p6
    obtain ⟨x6_1, x7_1, rfl, HA, HK1, HO_0, HO_6, HB⟩ := hrel
    cases gk with
    | zero => exact absurd HA.out (by simp [spec_l6Unite.l0])
    | succ k1 =>
     have H := HA.out
     clear HA
     simp only [spec_l6Unite.l0] at H
     by_cases c7 : x7_1 < (wrap64 (Int.tdiv (wrap64 ((l0.length : Int) * 2)) 4))
     ·rw [if_pos c7] at H
      have c7b0 : decide (x7_1 < (wrap64 (Int.tdiv (wrap64 ((l0.length : Int) * 2)) 4))) = true := decide_eq_true c7
      clear c7
      by_cases c8 : 0 ≤ x7_1
      ·rw [if_pos c8] at H
       have c8b0 : decide (0 ≤ x7_1) = true := decide_eq_true c8
       clear c8
       by_cases c9 : x7_1 < (x6_1.length : Int)
       ·rw [if_pos c9] at H
        have c9b0 : decide (x7_1 < (x6_1.length : Int)) = true := decide_eq_true c9
        clear c9
        obtain ⟨ji10, hji10⟩ : ∃ j_ : Int, (wrap64 ((wrap64 ((wrap64 (Int.tdiv (wrap64 ((l0.length : Int) * 2)) 2)) - 1)) - x7_1)) = j_ := ⟨_, rfl⟩
        replace H : (if 0 ≤ (ji10) then (if (ji10) < (x6_1.length : Int) then ((spec_l5Back.f (wrap64 ((l0.length : Int) * 2)) x7_1 (rd x6_1 x7_1) (rd x6_1 (ji10))).bind fun bt143 => (spec_l6Unite.l0 k1 l0 (wrap64 ((l0.length : Int) * 2)) ((x6_1.set (x7_1 : Int).toNat bt143.1).set ((ji10) : Int).toNat bt143.2) (wrap64 (x7_1 + 1)))) else (none)) else (none)) = some r := by first | (rw [hji10] at H; exact H) | (simp only [hji10] at H ⊢; exact H)
        have hji10w : (IntKind.i64.wrap ((wrap64 ((wrap64 (Int.tdiv (wrap64 ((l0.length : Int) * 2)) 2)) - 1)) - x7_1)) = ji10 := (i64_w _).trans hji10
        by_cases c11 : 0 ≤ (ji10)
        ·rw [if_pos c11] at H
         have c11b0 : decide (0 ≤ (ji10)) = true := decide_eq_true c11
         clear c11
         by_cases c12 : (ji10) < (x6_1.length : Int)
         ·rw [if_pos c12] at H
          have c12b0 : decide ((ji10) < (x6_1.length : Int)) = true := decide_eq_true c12
          clear c12
          replace H := Option.bind_eq_some_iff.mp H
          obtain ⟨⟨t143, t144⟩, A130, H⟩ := H
          replace H : (spec_l6Unite.l0 k1 l0 (wrap64 ((l0.length : Int) * 2)) ((x6_1.set (x7_1 : Int).toNat t143).set ((ji10) : Int).toNat t144) (wrap64 (x7_1 + 1))) = some r := H
          have A13 := aM A130
          clear A130
          obtain ⟨y145, hy145⟩ : ∃ y_ : List Int, y_ = (x6_1.set (x7_1 : Int).toNat t143) := ⟨_, rfl⟩
          replace H : (spec_l6Unite.l0 k1 l0 (wrap64 ((l0.length : Int) * 2)) (y145.set ((ji10) : Int).toNat t144) (wrap64 (x7_1 + 1))) = some r := by first | (rw [hy145]; with_reducible exact H) | (have H2_ := (Option.bind_some _ _).symm.trans H; rw [hy145]; with_reducible exact H2_) | (have H2_ := (Option.bind_some _ _).symm.trans H; with_reducible exact H2_) | with_reducible exact H | (rw [hy145]; exact H) | exact H
          have Ny145 := aM hy145
          clear hy145
          obtain ⟨y146, hy146⟩ : ∃ y_ : List Int, y_ = (y145.set ((ji10) : Int).toNat t144) := ⟨_, rfl⟩
          replace H : (spec_l6Unite.l0 k1 l0 (wrap64 ((l0.length : Int) * 2)) y146 (wrap64 (x7_1 + 1))) = some r := by first | (rw [hy146]; with_reducible exact H) | (have H2_ := (Option.bind_some _ _).symm.trans H; rw [hy146]; with_reducible exact H2_) | (have H2_ := (Option.bind_some _ _).symm.trans H; with_reducible exact H2_) | with_reducible exact H | (rw [hy146]; exact H) | exact H
          have Ny146 := aM hy146
          clear hy146
          have H' := aM H
          clear H
          try go_wp2
          have n0_ := aM (Kd.V_drew HO_0.out)
          have n1_ := aM (rD HO_6.out)
          have n2_ := aM (bD HB.out)
          clear HO_0
          clear HO_6
          clear HB
          have HO_0 := n0_
          have HO_6 := n1_
          have HB := n2_
          clear n0_ n1_ n2_
          obtain ⟨Ao17, co17, eo17⟩ := Kd.R_slice HO_6.out
          (first | subst eo17 | (injection eo17 with f1_ f2_ f3_; have f4_ := f1_.symm; have f5_ := f3_.symm; clear f1_ f2_ f3_; subst f4_; subst f5_))
          have p141 : 0 ≤ (x7_1 : Int) := of_decide_eq_true (by first | (with_reducible assumption) | assumption)
          have q141 : x7_1 < (x6_1.length : Int) := of_decide_eq_true (by first | (with_reducible assumption) | assumption)
          obtain ⟨ad141, e141, hx141_0⟩ := Kd.at_int (rR HO_6.out).2.2 x7_1 p141 q141
          cases e141
          replace p141 := eq_true p141
          replace q141 := eq_true q141
          have p142 : 0 ≤ ((ji10) : Int) := of_decide_eq_true (by first | (with_reducible assumption) | assumption)
          have q142 : (ji10) < (x6_1.length : Int) := of_decide_eq_true (by first | (with_reducible assumption) | assumption)
          obtain ⟨ad142, e142, hx142_0⟩ := Kd.at_int (rR HO_6.out).2.2 (ji10) p142 q142
          obtain rfl : ad141 = ad142 := (by injection e142)
          replace p142 := eq_true p142
          replace q142 := eq_true q142
          refine start_ (n := 20) (S := fun w' => w'.cell? (ad141.add (x7_1).toNat) = some (.int .i64 (rd x6_1 x7_1)) ∧ w'.cell? (ad141.add ((ji10)).toNat) = some (.int .i64 (rd x6_1 (ji10)))) (ds := []) #[N,N,N,N,N,N,N,N,N,N,N,N,N,N,N,N,N,N,N,N] (by kernel_rfl) rfl rfl ⟨hx141_0, hx142_0⟩ (fun hHeld => ?_); refine with_tabW spec_l6Unite.tab7 spec_l6Unite.bits7 (fun HT_ HW_ => ?_)
          generalize wr.drew = w16 at HO_0 HO_6 HB hx141_0 hx142_0 hHeld ⊢
          refine pure_ (i := 0) (N := some 28) (v := ?_) (a' := ?_) #[Y,N,N,N,N,N,N,N,N,N,N,N,N,N,N,N,N,N,N,N] rfl rfl (any_of HT_.out (by kernel_rfl)) (fun _ _ _ h => h) (Or.inl ⟨by rfl, ?_⟩) ?_ ?_
          rotate_left
          ·intro w'
           go_simp
           with_reducible rfl
          rotate_left
          ·simp only [Act.put, pa, pb, pc, i64_w, i32_w]
           rfl
          refine pure_ (i := 1) (N := some 29) (v := ?_) (a' := ?_) #[Y,Y,N,N,N,N,N,N,N,N,N,N,N,N,N,N,N,N,N,N] rfl rfl (any_of HT_.out (by kernel_rfl)) (fun _ _ _ h => h) (Or.inl ⟨by rfl, ?_⟩) ?_ ?_
          rotate_left
          ·intro w'
           go_simp
           with_reducible rfl
          rotate_left
          ·simp only [Act.put, pa, pb, pc, i64_w, i32_w]
           rfl
          refine pure_ (i := 2) (N := some 30) (v := ?_) (a' := ?_) #[Y,Y,Y,N,N,N,N,N,N,N,N,N,N,N,N,N,N,N,N,N] rfl rfl (any_of HT_.out (by kernel_rfl)) (fun _ _ _ h => h) (Or.inl ⟨by rfl, ?_⟩) ?_ ?_
          rotate_left
          ·intro w'
           go_simp
           with_reducible rfl
          rotate_left
          ·simp only [Act.put, pa, pb, pc, i64_w, i32_w]
           rfl
          refine pure_ (i := 3) (N := some 31) (v := ?_) (a' := ?_) #[Y,Y,Y,Y,N,N,N,N,N,N,N,N,N,N,N,N,N,N,N,N] rfl rfl (any_of HT_.out (by kernel_rfl)) (fun _ _ _ h => h) (Or.inl ⟨by rfl, ?_⟩) ?_ ?_
          rotate_left
          ·intro w'
           go_simp
           with_reducible rfl
          rotate_left
          ·simp only [Act.put, pa, pb, pc, i64_w, i32_w]
           rfl
          refine pure_ (i := 4) (N := some 32) (v := ?_) (a' := ?_) #[Y,Y,Y,Y,Y,N,N,N,N,N,N,N,N,N,N,N,N,N,N,N] rfl rfl (any_of HT_.out (by kernel_rfl)) (fun _ _ _ h => h) (Or.inl ⟨by rfl, ?_⟩) ?_ ?_
          rotate_left
          ·intro w'
           go_simp
           with_reducible rfl
          rotate_left
          ·simp only [Act.put, pa, pb, pc, i64_w, i32_w]
           rfl
          refine pure_ (i := 6) (N := some 34) (v := ?_) (a' := ?_) #[Y,Y,Y,Y,Y,N,Y,N,N,N,N,N,N,N,N,N,N,N,N,N] rfl rfl (any_of HT_.out (by kernel_rfl)) (fun _ _ _ h => h) (Or.inl ⟨by rfl, ?_⟩) ?_ ?_
          rotate_left
          ·intro w'
           go_simp
           with_reducible rfl
          rotate_left
          ·simp only [Act.put, pa, pb, pc, i64_w, i32_w]
           rfl
          refine pure_ (i := 7) (N := some 35) (v := ?_) (a' := ?_) #[Y,Y,Y,Y,Y,N,Y,Y,N,N,N,N,N,N,N,N,N,N,N,N] rfl rfl (any_of HT_.out (by kernel_rfl)) (fun _ _ _ h => h) (Or.inl ⟨by rfl, ?_⟩) ?_ ?_
          rotate_left
          ·intro w'
           go_simp
           with_reducible rfl
          rotate_left
          ·simp only [Act.put, pa, pb, pc, i64_w, i32_w]
           rfl
          refine pure_ (i := 8) (N := some 36) (v := ?_) (a' := ?_) #[Y,Y,Y,Y,Y,N,Y,Y,Y,N,N,N,N,N,N,N,N,N,N,N] rfl rfl (any_of HT_.out (by kernel_rfl)) (fun _ _ _ h => h) (Or.inl ⟨by rfl, ?_⟩) ?_ ?_
          rotate_left
          ·intro w'
           go_simp
           with_reducible rfl
          rotate_left
          ·simp only [Act.put, pa, pb, pc, i64_w, i32_w]
           rfl
          refine pure_ (i := 9) (N := some 37) (v := ?_) (a' := ?_) #[Y,Y,Y,Y,Y,N,Y,Y,Y,Y,N,N,N,N,N,N,N,N,N,N] rfl rfl (any_of HT_.out (by kernel_rfl)) (fun _ _ _ h => h) (Or.inl ⟨by rfl, ?_⟩) ?_ ?_
          rotate_left
          ·intro w'
           go_simp
           with_reducible rfl
          rotate_left
          ·simp only [Act.put, pa, pb, pc, i64_w, i32_w]
           rfl
          refine pure_ (i := 10) (N := some 38) (v := ?_) (a' := ?_) #[Y,Y,Y,Y,Y,N,Y,Y,Y,Y,Y,N,N,N,N,N,N,N,N,N] rfl rfl (any_of HT_.out (by kernel_rfl)) (fun _ _ _ h => h) (Or.inl ⟨by rfl, ?_⟩) ?_ ?_
          rotate_left
          ·intro w'
           go_simp
           with_reducible rfl
          rotate_left
          ·simp only [Act.put, pa, pb, pc, i64_w, i32_w]
           rfl
          refine pure_ (i := 11) (N := some 39) (v := ?_) (a' := ?_) #[Y,Y,Y,Y,Y,N,Y,Y,Y,Y,Y,Y,N,N,N,N,N,N,N,N] rfl rfl (any_of HT_.out (by kernel_rfl)) (fun _ _ _ h => h) (Or.inl ⟨by rfl, ?_⟩) ?_ ?_
          rotate_left
          ·intro w'
           go_simp
           with_reducible rfl
          rotate_left
          ·simp only [Act.put, pa, pb, pc, i64_w, i32_w]
           rfl
          refine pure_ (i := 12) (N := some 40) (v := ?_) (a' := ?_) #[Y,Y,Y,Y,Y,N,Y,Y,Y,Y,Y,Y,Y,N,N,N,N,N,N,N] rfl rfl (any_of HT_.out (by kernel_rfl)) (fun _ _ _ h => h) (Or.inl ⟨by rfl, ?_⟩) ?_ ?_
          rotate_left
          ·intro w'
           go_simp
           with_reducible rfl
          rotate_left
          ·simp only [Act.put, pa, pb, pc, i64_w, i32_w]
           rfl
          refine take_ (i := 5) (N := some 33) (v := ?_) (a' := ?_) #[Y,Y,Y,Y,Y,Y,Y,Y,Y,Y,Y,Y,Y,N,N,N,N,N,N,N] rfl rfl (take_ofW HT_.out HW_.out (by kernel_rfl)) (fun _ _ _ h => h) (Or.inl ⟨by rfl, ?_⟩) hHeld ?_ ?_
          rotate_left
          ·rintro w' ⟨s0, s1⟩
           go_simp
           with_reducible rfl
          rotate_left
          ·simp only [Act.put, pa, pb, pc, i64_w, i32_w]
           rfl
          refine take_ (i := 13) (N := some 41) (v := ?_) (a' := ?_) #[Y,Y,Y,Y,Y,Y,Y,Y,Y,Y,Y,Y,Y,Y,N,N,N,N,N,N] rfl rfl (take_ofW HT_.out HW_.out (by kernel_rfl)) (fun _ _ _ h => h) (Or.inl ⟨by rfl, ?_⟩) hHeld ?_ ?_
          rotate_left
          ·rintro w' ⟨s0, s1⟩
           go_simp
           with_reducible rfl
          rotate_left
          ·simp only [Act.put, pa, pb, pc, i64_w, i32_w]
           rfl
          refine one_ (i := 14) (N := some 42) #[Y,Y,Y,Y,Y,Y,Y,Y,Y,Y,Y,Y,Y,Y,Y,N,N,N,N,N] rfl rfl (one_of HT_.out (by kernel_rfl)) (by decide) (fun K hK => ?_)
          refine goes_ Try.func133 (by kernel_rfl) rfl #[.int .i64 (wrap64 ((l0.length : Int) * 2)), .int .i64 x7_1, .int .i64 (rd x6_1 x7_1), .int .i64 (rd x6_1 (ji10))] (by rfl) rfl rfl (by (try simp only [List.map_toArray, List.map_cons, List.map_nil]); first | done | (simp only [hji10]; rfl) | rfl | (simp only [List.length_drop, List.length_take]; rfl)) ?_
          with_reducible refine (spec_l5Back.calls (wrap64 ((l0.length : Int) * 2)) x7_1 (rd x6_1 x7_1) (rd x6_1 (ji10)) t143 t144 _ A13.out).mono ?_
          rintro e w18 ⟨rfl, hb⟩
          have HS0_ := (hb.cell (World.block_lt_of_cell? _ _ (hHeld.1))).trans (hHeld.1)
          have HS1_ := (hb.cell (World.block_lt_of_cell? _ _ (hHeld.2))).trans (hHeld.2)
          refine ⟨_, rfl, ?_⟩
          have n0_ := aM (Kd.V_below (vq HO_0.out) hb)
          have n1_ := aM (rL (rq HO_6.out) hb)
          have n2_ := aM (bT bq hb)
          clear HO_0
          clear HO_6
          clear HB
          have HO_0 := n0_
          have HO_6 := n1_
          have HB := n2_
          clear n0_ n1_ n2_
          (try clear hb)
          (try clear hb2)
          (try clear hk)
          (try clear hi)
          refine hK.out _ _ ⟨HS0_, HS1_⟩ (fun hHeld => ?_)
          clear hK K
          refine norm_ (a' := ?_) ?_ ?_
          rotate_left
          ·show Act.put _ (some 42) _ = _
           simp only [Act.put, pa, pb, pc, i64_w, i32_w]
           rfl
          refine pure_ (i := 15) (N := some 27) (v := ?_) (a' := ?_) #[Y,Y,Y,Y,Y,Y,Y,Y,Y,Y,Y,Y,Y,Y,Y,Y,N,N,N,N] rfl rfl (any_of HT_.out (by kernel_rfl)) (fun _ _ _ h => h) (Or.inl ⟨by rfl, ?_⟩) ?_ ?_
          rotate_left
          ·intro w'
           go_simp
           with_reducible rfl
          rotate_left
          ·simp only [Act.put, pa, pb, pc, i64_w, i32_w]
           rfl
          refine pure_ (i := 16) (N := some 43) (v := ?_) (a' := ?_) #[Y,Y,Y,Y,Y,Y,Y,Y,Y,Y,Y,Y,Y,Y,Y,Y,Y,N,N,N] rfl rfl (any_of HT_.out (by kernel_rfl)) (fun _ _ _ h => h) (Or.inl ⟨by rfl, ?_⟩) ?_ ?_
          rotate_left
          ·intro w'
           go_simp
           with_reducible rfl
          rotate_left
          ·simp only [Act.put, pa, pb, pc, i64_w, i32_w]
           rfl
          refine pure_ (i := 17) (N := some 44) (v := ?_) (a' := ?_) #[Y,Y,Y,Y,Y,Y,Y,Y,Y,Y,Y,Y,Y,Y,Y,Y,Y,Y,N,N] rfl rfl (any_of HT_.out (by kernel_rfl)) (fun _ _ _ h => h) (Or.inl ⟨by rfl, ?_⟩) ?_ ?_
          rotate_left
          ·intro w'
           go_simp
           with_reducible rfl
          rotate_left
          ·simp only [Act.put, pa, pb, pc, i64_w, i32_w]
           rfl
          refine pure_ (i := 18) (N := some 8) (v := ?_) (a' := ?_) #[Y,Y,Y,Y,Y,Y,Y,Y,Y,Y,Y,Y,Y,Y,Y,Y,Y,Y,Y,N] rfl rfl (any_of HT_.out (by kernel_rfl)) (fun _ _ _ h => h) (Or.inl ⟨by rfl, ?_⟩) ?_ ?_
          rotate_left
          ·intro w'
           go_simp
           with_reducible rfl
          rotate_left
          ·simp only [Act.put, pa, pb, pc, i64_w, i32_w]
           rfl
          refine pure_ (i := 19) (N := some 9) (v := ?_) (a' := ?_) #[Y,Y,Y,Y,Y,Y,Y,Y,Y,Y,Y,Y,Y,Y,Y,Y,Y,Y,Y,Y] rfl rfl (any_of HT_.out (by kernel_rfl)) (fun _ _ _ h => h) (Or.inl ⟨by rfl, ?_⟩) ?_ ?_
          rotate_left
          ·intro w'
           go_simp
           with_reducible rfl
          rotate_left
          ·simp only [Act.put, pa, pb, pc, i64_w, i32_w]
           rfl
          refine done_ (done_of HT_.out (by kernel_rfl)) ?_
          have p14 : 0 ≤ (x7_1 : Int) := of_decide_eq_true (by first | (with_reducible assumption) | assumption)
          have q14 : (x7_1 : Int) < ((x6_1.length : Int) : Int) := of_decide_eq_true (by first | (with_reducible assumption) | assumption)
          obtain ⟨go14, co14, eo14, gb14, gl14, cl14, HG14⟩ := Kd.R_form HO_6.out (by omega)
          (first | cases eo14 | (injection eo14 with ea_ en_ ec_; (first | subst ea_ | (injection ea_ with ea_; subst ea_)); subst ec_; clear en_))
          have GB14 := aM gb14
          have GG14 := aM HG14
          clear gb14 gl14 HG14
          (first | simp only [add_plain] at hx141_0 | skip)
          (first | simp only [add_plain] at hx142_0 | skip)
          obtain ⟨hx14_0, hf14_0⟩ := Kd.R_celln 0 HO_6.out (x7_1 : Int) p14 q14
          replace p14 := eq_true p14
          replace q14 := eq_true q14
          obtain ⟨hy19_, hz19_⟩ := Kd.R_celln 0 HO_6.out (x7_1 : Int) (of_decide_eq_true (by first | (with_reducible assumption) | assumption)) (of_decide_eq_true (by first | (with_reducible assumption) | assumption))
          have HP19 := Kd.R_putg HO_6.out (x7_1 : Int) t143
          try go_wp2_with (first | ((with_reducible refine gate_store (t := 2) (p := 48) rfl ?_); refine store_event (t := 2) (p := 48) (v := ?vo_w20) (w1 := (w18.setCell ⟨go14, (x7_1 : Int).toNat, none⟩ (.int .i64 t143))) ?hg ?ho ?hn ?hr ?_; (case ho => rfl); (case hg => rfl); (case hn => rfl); (case hr => first | (go_simp; done) | (go_simp; rfl)); intro w20 hw; have hg : w18.grownBy w20 (some go14) := (by rw [hw]; exact HP19.2); have hp_ : Kd.R (Kd.int .i64) 2 w20 w.heap.size (fun k_ => (w.heap.size ≤ k_)) (.slice (some ⟨go14, 0, none⟩) x6_1.length co17) y145 := (by rw [hw, Ny145.out]; exact HP19.1); clear HP19; have n0_ := aM (Kd.V_afterv (v := (.slice (some ⟨go14, 0, none⟩) x6_1.length co17)) (v1 := (.slice (some ⟨go14, 0, none⟩) x6_1.length co17)) (ok := (fun k_ => (P0_ k_ ∨ w.heap.size ≤ k_))) (vq HO_0.out) hg (.inl rfl)); have n1_ := aM (hp_); have n2_ := aM ((by rw [hw]; exact bS (HB.out) GB14.out : Below w.heap.size w w20)); clear HO_0 HO_6 HB; have HO_0 := n0_; have HO_6 := n1_; have HB := n2_; clear n0_ n1_ n2_ hg hw hp_; have p15 : 0 ≤ ((ji10) : Int) := of_decide_eq_true (by first | (with_reducible assumption) | assumption); have q15 : ((ji10) : Int) < ((x6_1.length : Int) : Int) := of_decide_eq_true (by first | (with_reducible assumption) | assumption); obtain ⟨hx15_0, hf15_0⟩ := Kd.R_celln 0 HO_6.out ((ji10) : Int) p15 q15; replace p15 := eq_true p15; replace q15 := eq_true q15; obtain ⟨hy21_, hz21_⟩ := Kd.R_celln 0 HO_6.out ((ji10) : Int) (of_decide_eq_true (by first | (with_reducible assumption) | assumption)) (of_decide_eq_true (by first | (with_reducible assumption) | assumption)); have HP21 := Kd.R_putg HO_6.out ((ji10) : Int) t144) | ((with_reducible refine gate_store (t := 2) (p := 56) rfl ?_); refine store_event (t := 2) (p := 56) (v := ?vo_w22) (w1 := (w20.setCell ⟨go14, ((ji10) : Int).toNat, none⟩ (.int .i64 t144))) ?hg ?ho ?hn ?hr ?_; (case ho => rfl); (case hg => rfl); (case hn => rfl); (case hr => first | (go_simp; done) | (go_simp; rfl)); intro w22 hw; have hg : w20.grownBy w22 (some go14) := (by rw [hw]; exact HP21.2); have hp_ : Kd.R (Kd.int .i64) 2 w22 w.heap.size (fun k_ => (w.heap.size ≤ k_)) (.slice (some ⟨go14, 0, none⟩) x6_1.length co17) y146 := (by rw [hw, Ny146.out]; exact HP21.1); clear HP21; have n0_ := aM (Kd.V_afterv (v := (.slice (some ⟨go14, 0, none⟩) x6_1.length co17)) (v1 := (.slice (some ⟨go14, 0, none⟩) x6_1.length co17)) (ok := (fun k_ => (P0_ k_ ∨ w.heap.size ≤ k_))) (vq HO_0.out) hg (.inl rfl)); have n1_ := aM (hp_); have n2_ := aM ((by rw [hw]; exact bS (HB.out) GB14.out : Below w.heap.size w w22)); clear HO_0 HO_6 HB; have HO_0 := n0_; have HO_6 := n1_; have HB := n2_; clear n0_ n1_ n2_ hg hw hp_))
          go_roundg k1
          case measure => have := HK1.out; omega
          case rel => exact ⟨(y146), (wrap64 (x7_1 + 1)), (by first | rfl | (simp; done) | (simp [*]; done)), H', ⟨by have := HK1.out; omega⟩, ⟨by (with_reducible repeat (first | apply Kd.V_alloc | apply Kd.V_drewN | apply Kd.V_drew)); exact HO_0.out⟩, ⟨by (with_reducible repeat (first | apply rA | apply rN | apply rD)); exact HO_6.out⟩, ⟨bq⟩⟩
         ·rw [if_neg c12] at H
          exact absurd H (by simp)
        ·rw [if_neg c11] at H
         exact absurd H (by simp)
       ·rw [if_neg c9] at H
        exact absurd H (by simp)
      ·rw [if_neg c8] at H
       exact absurd H (by simp)
     ·rw [if_neg c7] at H
      have c7b0 : decide (x7_1 < (wrap64 (Int.tdiv (wrap64 ((l0.length : Int) * 2)) 4))) = false := decide_eq_false c7
      clear c7
      have H' := aM H
      clear H
      go_wp2
      go_meet
      case rel => exact ⟨_, (x6_1), H', ⟨by have := HK1.out; first | omega | exact Nat.le_refl _⟩, ⟨by (with_reducible repeat (first | apply Kd.V_alloc | apply Kd.V_drewN | apply Kd.V_drew)); exact HO_0.out⟩, ⟨by (with_reducible repeat (first | apply rA | apply rN | apply rD)); exact HO_6.out⟩, ⟨bq⟩⟩
  ·rw [if_neg c6] at H
   have c6b0 : decide (2 < (wrap64 ((l0.length : Int) * 2))) = false := decide_eq_false c6
   clear c6
   (first | rw [c6b0] | (simp only [i64_w, i32_w]; rw [c6b0]) | skip)
   have H' := aM H
   clear H
   go_wp2
   go_meet
   case rel => exact ⟨_, (t138), H', ⟨by first | omega | exact Nat.le_refl _⟩, ⟨by (with_reducible repeat (first | apply Kd.V_alloc | apply Kd.V_drewN | apply Kd.V_drew)); exact HO0.out⟩, ⟨by (with_reducible repeat (first | apply rA | apply rN | apply rD)); exact rM HO140.out (fun _ hk => hk.1)⟩, ⟨bq⟩⟩
 case rest =>
  clear HC4
  try clear c1
  try clear p1
  try clear q1
  try clear hx1
  try clear p2
  try clear c6
  try clear c6b0
  try clear p6
  try clear c7
  try clear c7b0
  try clear c8
  try clear c8b0
  try clear c9
  try clear c9b0
  try clear c10
  try clear c11
  try clear c11b0
  try clear c12
  try clear c12b0
  try clear c13
  try clear p14
  try clear q14
  try clear hx14
  try clear hf14
  try clear p15
  try clear q15
  try clear hx15
  try clear hf15
  try clear hx141_0
  try clear hx142_0
  try clear hx14_0
  try clear hx15_0
  try clear p14
  try clear p141
  try clear p142
  try clear p15
  try clear p2
  try clear p6
  try clear q14
  try clear q141
  try clear q142
  try clear q15
  obtain ⟨kq, x6_3, HA, HJ3, HO_0, HO_6, HB⟩ := hcut
  cases kq with
  | zero => exact absurd HA.out (by simp [spec_l6Unite.j1])
  | succ kj3 =>
   have H := HA.out
   clear HA
   simp only [spec_l6Unite.j1] at H
   replace H := Option.bind_eq_some_iff.mp H
   obtain ⟨t147, A230, H⟩ := H
   replace H : (spec_l6Unite.l1 kj3 l0 (wrap64 ((l0.length : Int) * 2)) x6_3 t147 0) = some r := H
   have A23 := aM A230
   clear A230
   have H' := aM H
   clear H
   go_wp2_with (first | ((with_reducible refine gate_callee (f := 127) rfl ?_); refine goesL_ (some 58) rfl rfl Try.func127 (by kernel_rfl) rfl #[.int .i64 (wrap64 ((l0.length : Int) * 2))] rfl mq ?_; (with_reducible refine (spec_l1Zeros.calls (wrap64 ((l0.length : Int) * 2)) t147 _ A23.out).mono ?_); rintro e w24 ⟨v148, rfl, ho0, hb⟩; refine ⟨_, rfl, ?_⟩; have n0_ := aM (Kd.V_elder' (vq HO_0.out) (rB ho0) hb); have n1_ := aM (rH (rq HO_6.out) (rB ho0) hb); have n2_ := aM (rG (rW (Kd.R_newM (M := fun k_ => (w.heap.size ≤ k_)) ho0 (bZ bq) (fun k_ h_ => h_)) (rT (rq HO_6.out))) (bZ bq)); have n3_ := aM (bT bq hb); clear HO_0 HO_6 HB; have HO_0 := n0_; have HO_6 := n1_; have HO149 := n2_; have HB := n3_; clear n0_ n1_ n2_ n3_; (try clear hb); (try clear ho0)))
   go_loopg [11] kj3 (fun kq v11 w' => ∃ (x10_2 : List Int) (x11_2 : Int), v11 = .int .i64 x11_2 ∧ Aside0 (spec_l6Unite.l1 kq l0 (wrap64 ((l0.length : Int) * 2)) x6_3 x10_2 x11_2 = some r) ∧ Aside0 (kq ≤ kj3) ∧ Aside0 (Kd.V (Kd.int .i64) 2 w' w.heap.size (fun k_ => (P0_ k_ ∨ w.heap.size ≤ k_) ∧ some k_ ≠ (v139 : Value).ownBlock ∧ some k_ ≠ (v148 : Value).ownBlock) (.slice A0 l0.length c0) l0) ∧ Aside0 (Kd.R (Kd.int .i64) 2 w' w.heap.size (fun k_ => (w.heap.size ≤ k_) ∧ some k_ ≠ (v148 : Value).ownBlock) v139 x6_3) ∧ Aside0 (Kd.R (Kd.int .i64) 2 w' w.heap.size (fun k_ => (w.heap.size ≤ k_) ∧ some k_ ≠ (v139 : Value).ownBlock) v148 x10_2) ∧ Aside0 (Below w.heap.size w w'))
   case atStart => exact ⟨(t147), (0), (by first | rfl | (simp; done) | (simp [*]; done)), H', ⟨Nat.le_refl _⟩, ⟨by (with_reducible repeat (first | apply Kd.V_alloc | apply Kd.V_drewN | apply Kd.V_drew)); exact Kd.V_mono HO_0.out (fun _ hk => ⟨hk.1.1, ⟨hk.1.2, hk.2⟩⟩)⟩, ⟨by (with_reducible repeat (first | apply rA | apply rN | apply rD)); exact HO_6.out⟩, ⟨by (with_reducible repeat (first | apply rA | apply rN | apply rD)); exact rM HO149.out (fun _ hk => ⟨hk.1.1, hk.2⟩)⟩, ⟨bq⟩⟩
   case round =>
    clear H'
    try clear c1
    try clear p1
    try clear q1
    try clear hx1
    try clear p2
    try clear c6
    try clear c6b0
    try clear p6
    try clear c7
    try clear c7b0
    try clear c8
    try clear c8b0
    try clear c9
    try clear c9b0
    try clear c10
    try clear c11
    try clear c11b0
    try clear c12
    try clear c12b0
    try clear c13
    try clear p14
    try clear q14
    try clear hx14
    try clear hf14
    try clear p15
    try clear q15
    try clear hx15
    try clear hf15
    try clear hx141_0
    try clear hx142_0
    try clear hx14_0
    try clear hx15_0
    try clear p1
    try clear p14
    try clear p141
    try clear p142
    try clear p15
    try clear p2
    try clear p6
    try clear q1
    try clear q14
    try clear q141
    try clear q142
    try clear q15
    obtain ⟨x10_2, x11_2, rfl, HA, HK2, HO_0, HO_6, HO_10, HB⟩ := hrel
    cases gk with
    | zero => exact absurd HA.out (by simp [spec_l6Unite.l1])
    | succ k2 =>
     have H := HA.out
     clear HA
     simp only [spec_l6Unite.l1] at H
     by_cases c25 : x11_2 < (wrap64 (Int.tdiv (wrap64 ((l0.length : Int) * 2)) 2))
     ·rw [if_pos c25] at H
      have c25b0 : decide (x11_2 < (wrap64 (Int.tdiv (wrap64 ((l0.length : Int) * 2)) 2))) = true := decide_eq_true c25
      clear c25
      by_cases c26 : 0 ≤ x11_2
      ·rw [if_pos c26] at H
       have c26b0 : decide (0 ≤ x11_2) = true := decide_eq_true c26
       clear c26
       by_cases c27 : x11_2 < (l0.length : Int)
       ·rw [if_pos c27] at H
        have c27b0 : decide (x11_2 < (l0.length : Int)) = true := decide_eq_true c27
        clear c27
        by_cases c28 : x11_2 < (x6_3.length : Int)
        ·rw [if_pos c28] at H
         have c28b0 : decide (x11_2 < (x6_3.length : Int)) = true := decide_eq_true c28
         clear c28
         replace H := Option.bind_eq_some_iff.mp H
         obtain ⟨⟨t152, t153⟩, A290, H⟩ := H
         replace H : (if x11_2 < (x10_2.length : Int) then (if 0 ≤ (wrap64 ((wrap64 ((wrap64 ((l0.length : Int) * 2)) - 1)) - x11_2)) then (if (wrap64 ((wrap64 ((wrap64 ((l0.length : Int) * 2)) - 1)) - x11_2)) < (x10_2.length : Int) then (spec_l6Unite.l1 k2 l0 (wrap64 ((l0.length : Int) * 2)) x6_3 ((x10_2.set (x11_2 : Int).toNat t152).set ((wrap64 ((wrap64 ((wrap64 ((l0.length : Int) * 2)) - 1)) - x11_2)) : Int).toNat t153) (wrap64 (x11_2 + 1))) else (none)) else (none)) else (none)) = some r := H
         have A29 := aM A290
         clear A290
         by_cases c30 : x11_2 < (x10_2.length : Int)
         ·rw [if_pos c30] at H
          have c30b0 : decide (x11_2 < (x10_2.length : Int)) = true := decide_eq_true c30
          clear c30
          obtain ⟨y154, hy154⟩ : ∃ y_ : List Int, y_ = (x10_2.set (x11_2 : Int).toNat t152) := ⟨_, rfl⟩
          replace H : (if 0 ≤ (wrap64 ((wrap64 ((wrap64 ((l0.length : Int) * 2)) - 1)) - x11_2)) then (if (wrap64 ((wrap64 ((wrap64 ((l0.length : Int) * 2)) - 1)) - x11_2)) < (x10_2.length : Int) then (spec_l6Unite.l1 k2 l0 (wrap64 ((l0.length : Int) * 2)) x6_3 (y154.set ((wrap64 ((wrap64 ((wrap64 ((l0.length : Int) * 2)) - 1)) - x11_2)) : Int).toNat t153) (wrap64 (x11_2 + 1))) else (none)) else (none)) = some r := by first | (rw [hy154]; with_reducible exact H) | (have H2_ := (Option.bind_some _ _).symm.trans H; rw [hy154]; with_reducible exact H2_) | (have H2_ := (Option.bind_some _ _).symm.trans H; with_reducible exact H2_) | with_reducible exact H | (rw [hy154]; exact H) | exact H
          have Ny154 := aM hy154
          clear hy154
          obtain ⟨ji32, hji32⟩ : ∃ j_ : Int, (wrap64 ((wrap64 ((wrap64 ((l0.length : Int) * 2)) - 1)) - x11_2)) = j_ := ⟨_, rfl⟩
          replace H : (if 0 ≤ (ji32) then (if (ji32) < (x10_2.length : Int) then (spec_l6Unite.l1 k2 l0 (wrap64 ((l0.length : Int) * 2)) x6_3 (y154.set ((ji32) : Int).toNat t153) (wrap64 (x11_2 + 1))) else (none)) else (none)) = some r := by first | (rw [hji32] at H; exact H) | (simp only [hji32] at H ⊢; exact H)
          (try rw [hji32] at A29)
          have hji32w : (IntKind.i64.wrap ((wrap64 ((wrap64 ((l0.length : Int) * 2)) - 1)) - x11_2)) = ji32 := (i64_w _).trans hji32
          by_cases c33 : 0 ≤ (ji32)
          ·rw [if_pos c33] at H
           have c33b0 : decide (0 ≤ (ji32)) = true := decide_eq_true c33
           clear c33
           by_cases c34 : (ji32) < (x10_2.length : Int)
           ·rw [if_pos c34] at H
            have c34b0 : decide ((ji32) < (x10_2.length : Int)) = true := decide_eq_true c34
            clear c34
            obtain ⟨y155, hy155⟩ : ∃ y_ : List Int, y_ = (y154.set ((ji32) : Int).toNat t153) := ⟨_, rfl⟩
            replace H : (spec_l6Unite.l1 k2 l0 (wrap64 ((l0.length : Int) * 2)) x6_3 y155 (wrap64 (x11_2 + 1))) = some r := by first | (rw [hy155]; with_reducible exact H) | (have H2_ := (Option.bind_some _ _).symm.trans H; rw [hy155]; with_reducible exact H2_) | (have H2_ := (Option.bind_some _ _).symm.trans H; with_reducible exact H2_) | with_reducible exact H | (rw [hy155]; exact H) | exact H
            have Ny155 := aM hy155
            clear hy155
            have H' := aM H
            clear H
            try go_wp2
            have n0_ := aM (Kd.V_drew HO_0.out)
            have n1_ := aM (rD HO_6.out)
            have n2_ := aM (rD HO_10.out)
            have n3_ := aM (bD HB.out)
            clear HO_0
            clear HO_6
            clear HO_10
            clear HB
            have HO_0 := n0_
            have HO_6 := n1_
            have HO_10 := n2_
            have HB := n3_
            clear n0_ n1_ n2_ n3_
            have p150 : 0 ≤ (x11_2 : Int) := of_decide_eq_true (by first | (with_reducible assumption) | assumption)
            have q150 : x11_2 < (l0.length : Int) := of_decide_eq_true (by first | (with_reducible assumption) | assumption)
            obtain ⟨ad150, e150, hx150_0⟩ := Kd.at_int (Kd.V_reads' HO_0.out).2.2 x11_2 p150 q150
            cases e150
            replace p150 := eq_true p150
            replace q150 := eq_true q150
            obtain ⟨Ao37, co37, eo37⟩ := Kd.R_slice HO_6.out
            (first | subst eo37 | (injection eo37 with f1_ f2_ f3_; have f4_ := f1_.symm; have f5_ := f3_.symm; clear f1_ f2_ f3_; subst f4_; subst f5_))
            have p151 : 0 ≤ (x11_2 : Int) := of_decide_eq_true (by first | (with_reducible assumption) | assumption)
            have q151 : x11_2 < (x6_3.length : Int) := of_decide_eq_true (by first | (with_reducible assumption) | assumption)
            obtain ⟨ad151, e151, hx151_0⟩ := Kd.at_int (rR HO_6.out).2.2 x11_2 p151 q151
            cases e151
            replace p151 := eq_true p151
            replace q151 := eq_true q151
            refine start_ (n := 14) (S := fun w' => w'.cell? (ad150.add (x11_2).toNat) = some (.int .i64 (rd l0 x11_2)) ∧ w'.cell? (ad151.add (x11_2).toNat) = some (.int .i64 (rd x6_3 x11_2))) (ds := []) #[N,N,N,N,N,N,N,N,N,N,N,N,N,N] (by kernel_rfl) rfl rfl ⟨hx150_0, hx151_0⟩ (fun hHeld => ?_); refine with_tabW spec_l6Unite.tab14 spec_l6Unite.bits14 (fun HT_ HW_ => ?_)
            generalize wr.drew = w36 at HO_0 HO_6 HO_10 HB hx150_0 hx151_0 hHeld ⊢
            refine pure_ (i := 0) (N := some 66) (v := ?_) (a' := ?_) #[Y,N,N,N,N,N,N,N,N,N,N,N,N,N] rfl rfl (any_of HT_.out (by kernel_rfl)) (fun _ _ _ h => h) (Or.inl ⟨by rfl, ?_⟩) ?_ ?_
            rotate_left
            ·intro w'
             go_simp
             with_reducible rfl
            rotate_left
            ·simp only [Act.put, pa, pb, pc, i64_w, i32_w]
             rfl
            refine pure_ (i := 1) (N := some 67) (v := ?_) (a' := ?_) #[Y,Y,N,N,N,N,N,N,N,N,N,N,N,N] rfl rfl (any_of HT_.out (by kernel_rfl)) (fun _ _ _ h => h) (Or.inl ⟨by rfl, ?_⟩) ?_ ?_
            rotate_left
            ·intro w'
             go_simp
             with_reducible rfl
            rotate_left
            ·simp only [Act.put, pa, pb, pc, i64_w, i32_w]
             rfl
            refine pure_ (i := 2) (N := some 68) (v := ?_) (a' := ?_) #[Y,Y,Y,N,N,N,N,N,N,N,N,N,N,N] rfl rfl (any_of HT_.out (by kernel_rfl)) (fun _ _ _ h => h) (Or.inl ⟨by rfl, ?_⟩) ?_ ?_
            rotate_left
            ·intro w'
             go_simp
             with_reducible rfl
            rotate_left
            ·simp only [Act.put, pa, pb, pc, i64_w, i32_w]
             rfl
            refine pure_ (i := 4) (N := some 70) (v := ?_) (a' := ?_) #[Y,Y,Y,N,Y,N,N,N,N,N,N,N,N,N] rfl rfl (any_of HT_.out (by kernel_rfl)) (fun _ _ _ h => h) (Or.inl ⟨by rfl, ?_⟩) ?_ ?_
            rotate_left
            ·intro w'
             go_simp
             with_reducible rfl
            rotate_left
            ·simp only [Act.put, pa, pb, pc, i64_w, i32_w]
             rfl
            refine pure_ (i := 5) (N := some 71) (v := ?_) (a' := ?_) #[Y,Y,Y,N,Y,Y,N,N,N,N,N,N,N,N] rfl rfl (any_of HT_.out (by kernel_rfl)) (fun _ _ _ h => h) (Or.inl ⟨by rfl, ?_⟩) ?_ ?_
            rotate_left
            ·intro w'
             go_simp
             with_reducible rfl
            rotate_left
            ·simp only [Act.put, pa, pb, pc, i64_w, i32_w]
             rfl
            refine pure_ (i := 6) (N := some 72) (v := ?_) (a' := ?_) #[Y,Y,Y,N,Y,Y,Y,N,N,N,N,N,N,N] rfl rfl (any_of HT_.out (by kernel_rfl)) (fun _ _ _ h => h) (Or.inl ⟨by rfl, ?_⟩) ?_ ?_
            rotate_left
            ·intro w'
             go_simp
             with_reducible rfl
            rotate_left
            ·simp only [Act.put, pa, pb, pc, i64_w, i32_w]
             rfl
            refine take_ (i := 3) (N := some 69) (v := ?_) (a' := ?_) #[Y,Y,Y,Y,Y,Y,Y,N,N,N,N,N,N,N] rfl rfl (take_ofW HT_.out HW_.out (by kernel_rfl)) (fun _ _ _ h => h) (Or.inl ⟨by rfl, ?_⟩) hHeld ?_ ?_
            rotate_left
            ·rintro w' ⟨s0, s1⟩
             go_simp
             with_reducible rfl
            rotate_left
            ·simp only [Act.put, pa, pb, pc, i64_w, i32_w]
             rfl
            refine take_ (i := 7) (N := some 73) (v := ?_) (a' := ?_) #[Y,Y,Y,Y,Y,Y,Y,Y,N,N,N,N,N,N] rfl rfl (take_ofW HT_.out HW_.out (by kernel_rfl)) (fun _ _ _ h => h) (Or.inl ⟨by rfl, ?_⟩) hHeld ?_ ?_
            rotate_left
            ·rintro w' ⟨s0, s1⟩
             go_simp
             with_reducible rfl
            rotate_left
            ·simp only [Act.put, pa, pb, pc, i64_w, i32_w]
             rfl
            refine one_ (i := 8) (N := some 74) #[Y,Y,Y,Y,Y,Y,Y,Y,Y,N,N,N,N,N] rfl rfl (one_of HT_.out (by kernel_rfl)) (by decide) (fun K hK => ?_)
            refine goes_ Try.func148 (by kernel_rfl) rfl #[.int .i64 (rd l0 x11_2), .int .i64 (rd x6_3 x11_2)] (by rfl) rfl rfl mq ?_
            with_reducible refine (spec_l5Part.calls (rd l0 x11_2) (rd x6_3 x11_2) t152 t153 _ A29.out).mono ?_
            rintro e w38 ⟨rfl, hb⟩
            have HS0_ := (hb.cell (World.block_lt_of_cell? _ _ (hHeld.1))).trans (hHeld.1)
            have HS1_ := (hb.cell (World.block_lt_of_cell? _ _ (hHeld.2))).trans (hHeld.2)
            refine ⟨_, rfl, ?_⟩
            have n0_ := aM (Kd.V_below (vq HO_0.out) hb)
            have n1_ := aM (rL (rq HO_6.out) hb)
            have n2_ := aM (rL (rq HO_10.out) hb)
            have n3_ := aM (bT bq hb)
            clear HO_0
            clear HO_6
            clear HO_10
            clear HB
            have HO_0 := n0_
            have HO_6 := n1_
            have HO_10 := n2_
            have HB := n3_
            clear n0_ n1_ n2_ n3_
            (try clear hb)
            (try clear hb2)
            (try clear hk)
            (try clear hi)
            refine hK.out _ _ ⟨HS0_, HS1_⟩ (fun hHeld => ?_)
            clear hK K
            refine norm_ (a' := ?_) ?_ ?_
            rotate_left
            ·show Act.put _ (some 74) _ = _
             simp only [Act.put, pa, pb, pc, i64_w, i32_w]
             rfl
            refine pure_ (i := 9) (N := some 65) (v := ?_) (a' := ?_) #[Y,Y,Y,Y,Y,Y,Y,Y,Y,Y,N,N,N,N] rfl rfl (any_of HT_.out (by kernel_rfl)) (fun _ _ _ h => h) (Or.inl ⟨by rfl, ?_⟩) ?_ ?_
            rotate_left
            ·intro w'
             go_simp
             with_reducible rfl
            rotate_left
            ·simp only [Act.put, pa, pb, pc, i64_w, i32_w]
             rfl
            refine pure_ (i := 10) (N := some 75) (v := ?_) (a' := ?_) #[Y,Y,Y,Y,Y,Y,Y,Y,Y,Y,Y,N,N,N] rfl rfl (any_of HT_.out (by kernel_rfl)) (fun _ _ _ h => h) (Or.inl ⟨by rfl, ?_⟩) ?_ ?_
            rotate_left
            ·intro w'
             go_simp
             with_reducible rfl
            rotate_left
            ·simp only [Act.put, pa, pb, pc, i64_w, i32_w]
             rfl
            refine pure_ (i := 11) (N := some 76) (v := ?_) (a' := ?_) #[Y,Y,Y,Y,Y,Y,Y,Y,Y,Y,Y,Y,N,N] rfl rfl (any_of HT_.out (by kernel_rfl)) (fun _ _ _ h => h) (Or.inl ⟨by rfl, ?_⟩) ?_ ?_
            rotate_left
            ·intro w'
             go_simp
             with_reducible rfl
            rotate_left
            ·simp only [Act.put, pa, pb, pc, i64_w, i32_w]
             rfl
            refine pure_ (i := 12) (N := some 12) (v := ?_) (a' := ?_) #[Y,Y,Y,Y,Y,Y,Y,Y,Y,Y,Y,Y,Y,N] rfl rfl (any_of HT_.out (by kernel_rfl)) (fun _ _ _ h => h) (Or.inl ⟨by rfl, ?_⟩) ?_ ?_
            rotate_left
            ·intro w'
             go_simp
             with_reducible rfl
            rotate_left
            ·simp only [Act.put, pa, pb, pc, i64_w, i32_w]
             rfl
            refine pure_ (i := 13) (N := some 13) (v := ?_) (a' := ?_) #[Y,Y,Y,Y,Y,Y,Y,Y,Y,Y,Y,Y,Y,Y] rfl rfl (any_of HT_.out (by kernel_rfl)) (fun _ _ _ h => h) (Or.inl ⟨by rfl, ?_⟩) ?_ ?_
            rotate_left
            ·intro w'
             go_simp
             with_reducible rfl
            rotate_left
            ·simp only [Act.put, pa, pb, pc, i64_w, i32_w]
             rfl
            refine done_ (done_of HT_.out (by kernel_rfl)) ?_
            have p31 : 0 ≤ (x11_2 : Int) := of_decide_eq_true (by first | (with_reducible assumption) | assumption)
            have q31 : (x11_2 : Int) < ((x10_2.length : Int) : Int) := of_decide_eq_true (by first | (with_reducible assumption) | assumption)
            obtain ⟨go31, co31, eo31, gb31, gl31, cl31, HG31⟩ := Kd.R_form HO_10.out (by omega)
            (first | cases eo31 | (injection eo31 with ea_ en_ ec_; (first | subst ea_ | (injection ea_ with ea_; subst ea_)); subst ec_; clear en_))
            have GB31 := aM gb31
            have GG31 := aM HG31
            clear gb31 gl31 HG31
            obtain ⟨hx31_0, hf31_0⟩ := Kd.R_celln 0 HO_10.out (x11_2 : Int) p31 q31
            replace p31 := eq_true p31
            replace q31 := eq_true q31
            obtain ⟨hy39_, hz39_⟩ := Kd.R_celln 0 HO_10.out (x11_2 : Int) (of_decide_eq_true (by first | (with_reducible assumption) | assumption)) (of_decide_eq_true (by first | (with_reducible assumption) | assumption))
            have HP39 := Kd.R_putg HO_10.out (x11_2 : Int) t152
            try go_wp2_with (first | ((with_reducible refine gate_store (t := 2) (p := 80) rfl ?_); refine store_event (t := 2) (p := 80) (v := ?vo_w40) (w1 := (w38.setCell ⟨go31, (x11_2 : Int).toNat, none⟩ (.int .i64 t152))) ?hg ?ho ?hn ?hr ?_; (case ho => rfl); (case hg => rfl); (case hn => rfl); (case hr => first | (go_simp; done) | (go_simp; rfl)); intro w40 hw; have hg : w38.grownBy w40 (some go31) := (by rw [hw]; exact HP39.2); have hp_ : Kd.R (Kd.int .i64) 2 w40 w.heap.size (fun k_ => (w.heap.size ≤ k_) ∧ some k_ ≠ (.slice (some ad151) x6_3.length co37 : Value).ownBlock) (.slice (some ⟨go31, 0, none⟩) x10_2.length co31) y154 := (by rw [hw, Ny154.out]; exact HP39.1); clear HP39; have n0_ := aM (Kd.V_afterv (v := (.slice (some ⟨go31, 0, none⟩) x10_2.length co31)) (v1 := (.slice (some ⟨go31, 0, none⟩) x10_2.length co31)) (ok := (fun k_ => (P0_ k_ ∨ w.heap.size ≤ k_) ∧ some k_ ≠ (.slice (some ad151) x6_3.length co37 : Value).ownBlock)) (by (with_reducible repeat (first | apply Kd.V_alloc | apply Kd.V_drewN | apply Kd.V_drew)); exact Kd.V_mono HO_0.out (fun _ hk => ⟨⟨hk.1, hk.2.1⟩, hk.2.2⟩)) hg (.inl rfl)); have n1_ := aM (Kd.R_after (v := (.slice (some ⟨go31, 0, none⟩) x10_2.length co31)) (v1 := (.slice (some ⟨go31, 0, none⟩) x10_2.length co31)) (ok := (fun k_ => (w.heap.size ≤ k_))) (rq HO_6.out) hg (.inl rfl)); have n2_ := aM (hp_); have n3_ := aM ((by rw [hw]; exact bS (HB.out) GB31.out : Below w.heap.size w w40)); clear HO_0 HO_6 HO_10 HB; have HO_0 := n0_; have HO_6 := n1_; have HO_10 := n2_; have HB := n3_; clear n0_ n1_ n2_ n3_ hg hw hp_; have p35 : 0 ≤ ((ji32) : Int) := of_decide_eq_true (by first | (with_reducible assumption) | assumption); have q35 : ((ji32) : Int) < ((x10_2.length : Int) : Int) := of_decide_eq_true (by first | (with_reducible assumption) | assumption); obtain ⟨hx35_0, hf35_0⟩ := Kd.R_celln 0 HO_10.out ((ji32) : Int) p35 q35; replace p35 := eq_true p35; replace q35 := eq_true q35; obtain ⟨hy41_, hz41_⟩ := Kd.R_celln 0 HO_10.out ((ji32) : Int) (of_decide_eq_true (by first | (with_reducible assumption) | assumption)) (of_decide_eq_true (by first | (with_reducible assumption) | assumption)); have HP41 := Kd.R_putg HO_10.out ((ji32) : Int) t153) | ((with_reducible refine gate_store (t := 2) (p := 87) rfl ?_); refine store_event (t := 2) (p := 87) (v := ?vo_w42) (w1 := (w40.setCell ⟨go31, ((ji32) : Int).toNat, none⟩ (.int .i64 t153))) ?hg ?ho ?hn ?hr ?_; (case ho => rfl); (case hg => rfl); (case hn => rfl); (case hr => first | (go_simp; done) | (go_simp; rfl)); intro w42 hw; have hg : w40.grownBy w42 (some go31) := (by rw [hw]; exact HP41.2); have hp_ : Kd.R (Kd.int .i64) 2 w42 w.heap.size (fun k_ => (w.heap.size ≤ k_) ∧ some k_ ≠ (.slice (some ad151) x6_3.length co37 : Value).ownBlock) (.slice (some ⟨go31, 0, none⟩) x10_2.length co31) y155 := (by rw [hw, Ny155.out]; exact HP41.1); clear HP41; have n0_ := aM (Kd.V_afterv (v := (.slice (some ⟨go31, 0, none⟩) x10_2.length co31)) (v1 := (.slice (some ⟨go31, 0, none⟩) x10_2.length co31)) (ok := (fun k_ => (P0_ k_ ∨ w.heap.size ≤ k_) ∧ some k_ ≠ (.slice (some ad151) x6_3.length co37 : Value).ownBlock)) (vq HO_0.out) hg (.inl rfl)); have n1_ := aM (Kd.R_after (v := (.slice (some ⟨go31, 0, none⟩) x10_2.length co31)) (v1 := (.slice (some ⟨go31, 0, none⟩) x10_2.length co31)) (ok := (fun k_ => (w.heap.size ≤ k_))) (rq HO_6.out) hg (.inl rfl)); have n2_ := aM (hp_); have n3_ := aM ((by rw [hw]; exact bS (HB.out) GB31.out : Below w.heap.size w w42)); clear HO_0 HO_6 HO_10 HB; have HO_0 := n0_; have HO_6 := n1_; have HO_10 := n2_; have HB := n3_; clear n0_ n1_ n2_ n3_ hg hw hp_))
            go_roundg k2
            case measure => have := HJ3.out; have := HK2.out; omega
            case rel => exact ⟨(y155), (wrap64 (x11_2 + 1)), (by first | rfl | (simp; done) | (simp [*]; done)), H', ⟨by have := HJ3.out; have := HK2.out; omega⟩, ⟨by (with_reducible repeat (first | apply Kd.V_alloc | apply Kd.V_drewN | apply Kd.V_drew)); exact Kd.V_mono HO_0.out (fun _ hk => ⟨hk.1.1, ⟨hk.1.2, hk.2⟩⟩)⟩, ⟨by (with_reducible repeat (first | apply rA | apply rN | apply rD)); exact HO_6.out⟩, ⟨by (with_reducible repeat (first | apply rA | apply rN | apply rD)); exact HO_10.out⟩, ⟨bq⟩⟩
           ·rw [if_neg c34] at H
            exact absurd H (by simp)
          ·rw [if_neg c33] at H
           exact absurd H (by simp)
         ·rw [if_neg c30] at H
          exact absurd H (by simp)
        ·rw [if_neg c28] at H
         exact absurd H (by simp)
       ·rw [if_neg c27] at H
        exact absurd H (by simp)
      ·rw [if_neg c26] at H
       exact absurd H (by simp)
     ·rw [if_neg c25] at H
      have c25b0 : decide (x11_2 < (wrap64 (Int.tdiv (wrap64 ((l0.length : Int) * 2)) 2))) = false := decide_eq_false c25
      clear c25
      obtain rfl := Option.some.inj H
      go_wp2
      go_ret
      exact ⟨_, by first | rfl | (simp [errW_none, errW_some] <;> rfl) | (simp [*, errW_none, errW_some] <;> rfl), by (with_reducible repeat (first | apply rA | apply rN | apply rD)); exact rM HO_10.out (fun _ hk => hk.1), bq⟩

end Go.Proofs.Ytjdgebfihbhbaaa.PFnExactPlayBlock
