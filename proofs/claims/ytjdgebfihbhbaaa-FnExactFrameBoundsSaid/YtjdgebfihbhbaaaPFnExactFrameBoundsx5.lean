-- Written by a program of this session: wip/mkprint.py over the kit's print, with contracts proved by hand (wip/given.py)
-- shortened
-- told short
-- squeezed
import Derived.Test.YtjdgebfihbhbaaaPFnExactFrameBoundsx0
namespace Go.Proofs.Ytjdgebfihbhbaaa.PFnExactFrameBounds
open Go.RowKit Go.Proofs.YtjdgebfihbhbaaaW.PrintWords Go.Proofs.YtjdgebfihbhbaaaW.PrintLast Go.Proofs.YtjdgebfihbhbaaaW.PrintMore
open Go.Proofs.YtjdgebfihbhbaaaW.PrintWords.Kd renaming R_alloc → rA, R_drewN → rN, R_drew → rD, R_lower → rG, R_reads' → rR
open Go.Proofs.YtjdgebfihbhbaaaW.PrintWords renaming pw_below_drewN → bN, below_drew1 → bD, below_set → bS, below_step → bT, below_size → bZ, blk_drewN → kN, blk_drew → kD, blk_alloc → kA, blk_cell → kC, blk_frozen → kF
open Go.Proofs.YtjdgebfihbhbaaaW.PrintWords.Aside0 renaming mk → aM
attribute [local go_sem] max2_int min2_int max_two min_two max_three min_three max_four min_four   -- for this text's walks alone
set_option linter.unusedVariables false
set_option linter.unusedSimpArgs false

/-! ### laws_toInt64S: function 9 -/
def laws_toInt64S.l0 : Nat → List Int → List Int → Int → Option (List Int)
 | 0, _, _, _ => none
 | k + 1, x0, x3, x4 => if x4 < (x0.length : Int) then (if 0 ≤ x4 then (if x4 < (x3.length : Int) then (laws_toInt64S.l0 k x0 (x3.set (x4 : Int).toNat (rd x0 x4)) (wrap64 (x4 + 1))) else (none)) else (none)) else (some x3)
def laws_toInt64S.f (k : Nat) (l0 : List Int) : Option (List Int) := if 0 ≤ (l0.length : Int) then (if ((l0.length : Int) : Int).toNat ≤ 35184372088832 then (laws_toInt64S.l0 k l0 (List.replicate ((l0.length : Int) : Int).toNat 0) 0) else (none)) else (none)
theorem laws_toInt64S.mono_l : ∀ k, (∀ y0 y1 y2, LeO (laws_toInt64S.l0 k y0 y1 y2) (laws_toInt64S.l0 (k + 1) y0 y1 y2))
 | 0 => fun _ _ _ r h => by simp [laws_toInt64S.l0] at h
 | k + 1 => by
  have ih0 := laws_toInt64S.mono_l k
  ·intro y0 y1 y2
   unfold laws_toInt64S.l0
   repeat' first
   | (with_reducible exact ih0 _ _ _)
   | (with_reducible exact LeO.refl _)
   | (with_reducible exact LeO.none _)
   | (with_reducible refine LeO.ite ?_ ?_)
   | (with_reducible refine LeO.bind ?_ (fun _ => ?_))
   | exact ih0 _ _ _
   | exact LeO.none _
   | refine LeO.ite ?_ ?_
   | refine LeO.bind ?_ (fun _ => ?_)
theorem laws_toInt64S.mono : ∀ a0 k, LeO (laws_toInt64S.f k a0) (laws_toInt64S.f (k + 1) a0) := by
 intro a0 k
 have ih0 := laws_toInt64S.mono_l k
 unfold laws_toInt64S.f
 repeat' first
   | (with_reducible exact ih0 _ _ _)
   | (with_reducible exact LeO.refl _)
   | (with_reducible exact LeO.none _)
   | (with_reducible refine LeO.ite ?_ ?_)
   | (with_reducible refine LeO.bind ?_ (fun _ => ?_))
   | exact ih0 _ _ _
   | exact LeO.none _
   | refine LeO.ite ?_ ?_
   | refine LeO.bind ?_ (fun _ => ?_)
set_option maxHeartbeats 8000000 in
set_option maxRecDepth 100000 in
theorem laws_toInt64S.calls (k : Nat) (A0 : Option Addr) (c0 : Nat) (l0 : List Int) (r : List Int) (w : World) (hr0 : Kd.C (Kd.int .i64) w A0 l0.length l0) (hc0 : l0.length ≤ c0) (h : laws_toInt64S.f k l0 = some r) :
  Calls Try.prog 9 #[.slice A0 l0.length c0] w fun e w' => ∃ v0_ : Value, e = .returned (v0_) ∧ Kd.R (Kd.int .i64) 2 w' w.heap.size (fun _ => True) v0_ r ∧ Below w.heap.size w w' := by
 have HR0 := aM hr0
 have HC0 := aM hc0
 clear hr0 hc0
 have HB := aM (Below.refl w.heap.size w)
 have H : (if 0 ≤ (l0.length : Int) then (if ((l0.length : Int) : Int).toNat ≤ 35184372088832 then (laws_toInt64S.l0 k l0 (List.replicate ((l0.length : Int) : Int).toNat 0) 0) else (none)) else (none)) = some r := h
 clear h
 by_cases c2 : 0 ≤ (l0.length : Int)
 ·rw [if_pos c2] at H
  have c2b0 := eq_true c2
  have c2b1 : decide (0 ≤ (l0.length : Int)) = true := decide_eq_true c2
  clear c2
  by_cases c3 : ((l0.length : Int) : Int).toNat ≤ 35184372088832
  ·rw [if_pos c3] at H
   have c3b0 := eq_true c3
   have c3b1 : decide (((l0.length : Int) : Int).toNat ≤ 35184372088832) = true := decide_eq_true c3
   clear c3
   obtain ⟨y218, hy218⟩ : ∃ y_ : List Int, y_ = (List.replicate ((l0.length : Int) : Int).toNat 0) := ⟨_, rfl⟩
   replace H : (laws_toInt64S.l0 k l0 y218 0) = some r := by first | (rw [hy218]; with_reducible exact H) | (have H2_ := (Option.bind_some _ _).symm.trans H; rw [hy218]; with_reducible exact H2_) | (have H2_ := (Option.bind_some _ _).symm.trans H; with_reducible exact H2_) | with_reducible exact H | (rw [hy218]; exact H) | exact H
   have Ny218 := aM hy218
   clear hy218
   have H' := aM H
   clear H
   go_enter Try.func9, Try.ntmps9
   go_wp2_with (first | ((with_reducible refine gate_dst (N := 7) rfl ?_); refine Kd.R_make (Kd.int .i64) _ 2 rfl (N := 7) rfl 22 _ _ rfl (l0.length : Int) rfl rfl Try.underlying22 (.int .i64 0) 8 info2 rfl (by decide) (by omega) 0 (ok := fun _ => True) (okp := fun _ => True) rfl (fun _ hk => hk) trivial (of_decide_eq_true (by first | (with_reducible assumption) | assumption)) (Nat.le_trans (Nat.mul_le_mul_right _ (of_decide_eq_true (by first | (with_reducible assumption) | assumption) : (l0.length : Int).toNat ≤ 35184372088832)) (by omega)) (Below.refl _ _) (Nat.le_refl _) ?_; intro v219 w4 ho5 hb hg_ hnew_; clear hg_ hnew_; (first | rw [← Ny218.out] at ho5 | (simp only [Int.reduceToNat] at ho5; rw [← Ny218.out] at ho5)); have n0_ := aM (rG ho5 (bZ bq)); have n1_ := aM (bT bq hb); clear HB; have HO220 := n0_; have HB := n1_; clear n0_ n1_ hb ho5))
   go_loopg [4] k (fun kq v4 w' => ∃ (x3_1 : List Int) (x4_1 : Int), v4 = .int .i64 x4_1 ∧ Aside0 (laws_toInt64S.l0 kq l0 x3_1 x4_1 = some r) ∧ Aside0 (kq ≤ k) ∧ Aside0 (Kd.R (Kd.int .i64) 2 w' w.heap.size (fun _ => True) v219 x3_1) ∧ Aside0 (Below w.heap.size w w'))
   case atStart => exact ⟨(y218), (0), (by first | rfl | (simp; done) | (simp [*]; done)), H', ⟨Nat.le_refl _⟩, ⟨by (with_reducible repeat (first | apply rA | apply rN | apply rD)); exact HO220.out⟩, ⟨bq⟩⟩
   case round =>
    clear H'
    try clear c2
    try clear c2b0
    try clear c2b1
    try clear p2
    try clear c3
    try clear c3b0
    try clear c3b1
    obtain ⟨x3_1, x4_1, rfl, HA, HK1, HO_3, HB⟩ := hrel
    cases gk with
    | zero => exact absurd HA.out (by simp [laws_toInt64S.l0])
    | succ k1 =>
     have H := HA.out
     clear HA
     simp only [laws_toInt64S.l0] at H
     by_cases c6 : x4_1 < (l0.length : Int)
     ·rw [if_pos c6] at H
      have c6b0 : decide (x4_1 < (l0.length : Int)) = true := decide_eq_true c6
      clear c6
      by_cases c7 : 0 ≤ x4_1
      ·rw [if_pos c7] at H
       have c7b0 : decide (0 ≤ x4_1) = true := decide_eq_true c7
       clear c7
       by_cases c8 : x4_1 < (x3_1.length : Int)
       ·rw [if_pos c8] at H
        have c8b0 : decide (x4_1 < (x3_1.length : Int)) = true := decide_eq_true c8
        clear c8
        obtain ⟨y222, hy222⟩ : ∃ y_ : List Int, y_ = (x3_1.set (x4_1 : Int).toNat (rd l0 x4_1)) := ⟨_, rfl⟩
        replace H : (laws_toInt64S.l0 k1 l0 y222 (wrap64 (x4_1 + 1))) = some r := by first | (rw [hy222]; with_reducible exact H) | (have H2_ := (Option.bind_some _ _).symm.trans H; rw [hy222]; with_reducible exact H2_) | (have H2_ := (Option.bind_some _ _).symm.trans H; with_reducible exact H2_) | with_reducible exact H | (rw [hy222]; exact H) | exact H
        have Ny222 := aM hy222
        clear hy222
        have H' := aM H
        clear H
        have p221 : 0 ≤ (x4_1 : Int) := of_decide_eq_true (by first | (with_reducible assumption) | assumption)
        have q221 : x4_1 < (l0.length : Int) := of_decide_eq_true (by first | (with_reducible assumption) | assumption)
        obtain ⟨ad221, e221, hx221_0⟩ := Kd.at_int HR0.out x4_1 p221 q221
        cases e221
        replace hx221_0 := (HB.out.cell (World.block_lt_of_cell? w _ hx221_0)).trans hx221_0
        replace p221 := eq_true p221
        replace q221 := eq_true q221
        have p9 : 0 ≤ (x4_1 : Int) := of_decide_eq_true (by first | (with_reducible assumption) | assumption)
        have q9 : (x4_1 : Int) < ((x3_1.length : Int) : Int) := of_decide_eq_true (by first | (with_reducible assumption) | assumption)
        obtain ⟨go9, co9, eo9, gb9, gl9, cl9, HG9⟩ := Kd.R_form HO_3.out (by omega)
        (first | cases eo9 | (injection eo9 with ea_ en_ ec_; (first | subst ea_ | (injection ea_ with ea_; subst ea_)); subst ec_; clear en_))
        have GB9 := aM gb9
        have GG9 := aM HG9
        clear gb9 gl9 HG9
        obtain ⟨hx9_0, hf9_0⟩ := Kd.R_celln 0 HO_3.out (x4_1 : Int) p9 q9
        replace p9 := eq_true p9
        replace q9 := eq_true q9
        have HP10 := Kd.R_putg HO_3.out (x4_1 : Int) (rd l0 x4_1)
        go_wp2_with (first | ((with_reducible refine gate_store (t := 2) (p := 20) rfl ?_); refine store_event (t := 2) (p := 20) (v := ?vo_w11) (w1 := (wr.setCell ⟨go9, (x4_1 : Int).toNat, none⟩ (.int .i64 (rd l0 x4_1)))) ?hg ?ho ?hn ?hr ?_; (case ho => rfl); (case hg => rfl); (case hn => rfl); (case hr => first | (go_simp; done) | (go_simp; rfl)); intro w11 hw; have hg : wr.grownBy w11 (some go9) := (by rw [hw]; exact HP10.2); have hp_ : Kd.R (Kd.int .i64) 2 w11 w.heap.size (fun _ => True) (.slice (some ⟨go9, 0, none⟩) x3_1.length co9) y222 := (by rw [hw, Ny222.out]; exact HP10.1); clear HP10; have n0_ := aM (hp_); have n1_ := aM ((by rw [hw]; exact bS (HB.out) GB9.out : Below w.heap.size w w11)); clear HO_3 HB; have HO_3 := n0_; have HB := n1_; clear n0_ n1_ hg hw hp_))
        go_roundg k1
        case measure => have := HK1.out; omega
        case rel => exact ⟨(y222), (wrap64 (x4_1 + 1)), (by first | rfl | (simp; done) | (simp [*]; done)), H', ⟨by have := HK1.out; omega⟩, ⟨by (with_reducible repeat (first | apply rA | apply rN | apply rD)); exact HO_3.out⟩, ⟨bq⟩⟩
       ·rw [if_neg c8] at H
        exact absurd H (by simp)
      ·rw [if_neg c7] at H
       exact absurd H (by simp)
     ·rw [if_neg c6] at H
      have c6b0 : decide (x4_1 < (l0.length : Int)) = false := decide_eq_false c6
      clear c6
      obtain rfl := Option.some.inj H
      go_wp2
      go_ret
      exact ⟨_, by first | rfl | (simp [errW_none, errW_some] <;> rfl) | (simp [*, errW_none, errW_some] <;> rfl), by (with_reducible repeat (first | apply rA | apply rN | apply rD)); exact HO_3.out, bq⟩
  ·rw [if_neg c3] at H
   exact absurd H (by simp)
 ·rw [if_neg c2] at H
  exact absurd H (by simp)

/-! ### impl_FrameBounds_1: function 45 -/
def impl_FrameBounds_1.f (l0 : List Int) (a1 : Int) : Option Bool := some ((l0.length : Int) != a1)
set_option maxHeartbeats 8000000 in
set_option maxRecDepth 100000 in
theorem impl_FrameBounds_1.calls (A0 : Option Addr) (c0 : Nat) (l0 : List Int) (a1 : Int) (r : Bool) (w : World) (hr0 : Kd.C (Kd.int .i64) w A0 l0.length l0) (hc0 : l0.length ≤ c0) (h : impl_FrameBounds_1.f l0 a1 = some r) {B : Nat} (hc : w.cell? ⟨B, 0, none⟩ = some (.int .i64 a1) := by with_unfolding_all exact (kC (by repeat (first | exact Aside0.out (by assumption) | refine kN ?_ _ | refine kD ?_ | refine kA ?_ _)) 0).trans rfl) :
  Calls Try.prog 45 #[.slice A0 l0.length c0, .pointer (some ⟨B, 0, none⟩)] w fun e w' => e = .returned (.bool r) ∧ Drawn0 w w' := by
 have H : ((l0.length : Int) != a1) = r := Option.some.inj h
 subst H
 clear h hr0 hc0
 go_enter Try.func45, Try.ntmps45
 go_wp2
 go_ret
 exact ⟨rfl, by repeat (first | exact Drawn0.refl _ | apply Drawn0.step)⟩

/-! ### impl_first: function 46 -/
def impl_first.l0 : Nat → List Int → Int → Int → Option (Int)
 | 0, _, _, _ => none
 | k + 1, x5, x6, x7 => if x7 < x6 then (if 0 ≤ x7 then (if x7 < (x5.length : Int) then (if (rd x5 x7) = 0 then (impl_first.l0 k x5 x6 (wrap64 (x7 + 1))) else (some (rd x5 x7))) else (none)) else (none)) else (some 0)
def impl_first.f (k : Nat) (l0 : List Int) : Option (Int) := impl_first.l0 k l0 (l0.length : Int) 0
theorem impl_first.mono_l : ∀ k, (∀ y0 y1 y2, LeO (impl_first.l0 k y0 y1 y2) (impl_first.l0 (k + 1) y0 y1 y2))
 | 0 => fun _ _ _ r h => by simp [impl_first.l0] at h
 | k + 1 => by
  have ih0 := impl_first.mono_l k
  ·intro y0 y1 y2
   unfold impl_first.l0
   repeat' first
   | (with_reducible exact ih0 _ _ _)
   | (with_reducible exact LeO.refl _)
   | (with_reducible exact LeO.none _)
   | (with_reducible refine LeO.ite ?_ ?_)
   | (with_reducible refine LeO.bind ?_ (fun _ => ?_))
   | exact ih0 _ _ _
   | exact LeO.none _
   | refine LeO.ite ?_ ?_
   | refine LeO.bind ?_ (fun _ => ?_)
theorem impl_first.mono : ∀ a0 k, LeO (impl_first.f k a0) (impl_first.f (k + 1) a0) := by
 intro a0 k
 have ih0 := impl_first.mono_l k
 unfold impl_first.f
 repeat' first
   | (with_reducible exact ih0 _ _ _)
   | (with_reducible exact LeO.refl _)
   | (with_reducible exact LeO.none _)
   | (with_reducible refine LeO.ite ?_ ?_)
   | (with_reducible refine LeO.bind ?_ (fun _ => ?_))
   | exact ih0 _ _ _
   | exact LeO.none _
   | refine LeO.ite ?_ ?_
   | refine LeO.bind ?_ (fun _ => ?_)
set_option maxHeartbeats 8000000 in
set_option maxRecDepth 100000 in
theorem impl_first.calls (k : Nat) (A0 : Option Addr) (c0 : Nat) (l0 : List Int) (r : Int) (w : World) (hr0 : Kd.C (Kd.int .i64) w A0 l0.length l0) (hc0 : l0.length ≤ c0) (h : impl_first.f k l0 = some r) :
  Calls Try.prog 46 #[.slice A0 l0.length c0] w fun e w' => e = .returned (.int .i64 r) ∧ Drawn0 w w' := by
 have HR0 := aM hr0
 have HC0 := aM hc0
 clear hr0 hc0
 have H : (impl_first.l0 k l0 (l0.length : Int) 0) = some r := h
 clear h
 have H' := aM H
 clear H
 go_enter Try.func46, Try.ntmps46
 go_wp2
 go_loopg [7] k (fun kq v7 w' => ∃ (x7_1 : Int), v7 = .int .i64 x7_1 ∧ Aside0 (impl_first.l0 kq l0 (l0.length : Int) x7_1 = some r) ∧ Aside0 (kq ≤ k) ∧ Drawn0 w w')
 case atStart => exact ⟨(0), (by first | rfl | (simp; done) | (simp [*]; done)), H', ⟨Nat.le_refl _⟩, by repeat (first | exact Drawn0.refl _ | apply Drawn0.step)⟩
 case round =>
  clear H'
  obtain ⟨x7_1, rfl, HA, HK1, ⟨m1, rfl⟩⟩ := hrel
  cases gk with
  | zero => exact absurd HA.out (by simp [impl_first.l0])
  | succ k1 =>
   have H := HA.out
   clear HA
   simp only [impl_first.l0] at H
   by_cases c2 : x7_1 < (l0.length : Int)
   ·rw [if_pos c2] at H
    have c2b0 : decide (x7_1 < (l0.length : Int)) = true := decide_eq_true c2
    clear c2
    by_cases c3 : 0 ≤ x7_1
    ·rw [if_pos c3] at H
     have c3b0 : decide (0 ≤ x7_1) = true := decide_eq_true c3
     clear c3
     by_cases c4 : x7_1 < (l0.length : Int)
     ·rw [if_pos c4] at H
      have c4b0 : decide (x7_1 < (l0.length : Int)) = true := decide_eq_true c4
      clear c4
      by_cases c5 : (rd l0 x7_1) = 0
      ·rw [if_pos c5] at H
       have c5b0 : ((rd l0 x7_1) == 0) = true := beq_iff_eq.mpr c5
       have c5b1 : ((rd l0 x7_1) != 0) = false := bne_eq_false_iff_eq.mpr c5
       clear c5
       have H' := aM H
       clear H
       have p223 : 0 ≤ (x7_1 : Int) := of_decide_eq_true (by first | (with_reducible assumption) | assumption)
       have q223 : x7_1 < (l0.length : Int) := of_decide_eq_true (by first | (with_reducible assumption) | assumption)
       obtain ⟨ad223, e223, hx223_0⟩ := Kd.at_int HR0.out x7_1 p223 q223
       cases e223
       replace p223 := eq_true p223
       replace q223 := eq_true q223
       go_wp2
       go_roundg k1
       case measure => have := HK1.out; omega
       case rel => exact ⟨(wrap64 (x7_1 + 1)), (by first | rfl | (simp; done) | (simp [*]; done)), H', ⟨by have := HK1.out; omega⟩, by repeat (first | exact Drawn0.refl _ | apply Drawn0.step)⟩
      ·rw [if_neg c5] at H
       have c5b0 : ((rd l0 x7_1) == 0) = false := beq_eq_false_iff_ne.mpr c5
       have c5b1 : ((rd l0 x7_1) != 0) = true := bne_iff_ne.mpr c5
       obtain rfl := Option.some.inj H
       have p223 : 0 ≤ (x7_1 : Int) := of_decide_eq_true (by first | (with_reducible assumption) | assumption)
       have q223 : x7_1 < (l0.length : Int) := of_decide_eq_true (by first | (with_reducible assumption) | assumption)
       obtain ⟨ad223, e223, hx223_0⟩ := Kd.at_int HR0.out x7_1 p223 q223
       cases e223
       replace p223 := eq_true p223
       replace q223 := eq_true q223
       go_wp2
       go_ret
       exact ⟨by first | rfl | (simp; done) | (simp [*]; done), by repeat (first | exact Drawn0.refl _ | apply Drawn0.step)⟩
     ·rw [if_neg c4] at H
      exact absurd H (by simp)
    ·rw [if_neg c3] at H
     exact absurd H (by simp)
   ·rw [if_neg c2] at H
    have c2b0 : decide (x7_1 < (l0.length : Int)) = false := decide_eq_false c2
    clear c2
    obtain rfl := Option.some.inj H
    go_wp2
    go_ret
    exact ⟨by first | rfl | (simp; done) | (simp [*]; done), by repeat (first | exact Drawn0.refl _ | apply Drawn0.step)⟩

/-! ### impl_SizeFault: function 47 -/
def impl_SizeFault.f (a0 : Int) : Option (Int) := if a0 = 4 then (some 0) else (if a0 = 8 then (some 0) else (if a0 = 16 then (some 0) else (some 3)))
set_option maxHeartbeats 8000000 in
set_option maxRecDepth 100000 in
theorem impl_SizeFault.calls (a0 : Int) (r : Int) (w : World) (h : impl_SizeFault.f a0 = some r) :
  Calls Try.prog 47 #[.int .i64 a0] w fun e w' => e = .returned (.int .i64 r) ∧ Drawn0 w w' := by
 have H : (if a0 = 4 then (some 0) else (if a0 = 8 then (some 0) else (if a0 = 16 then (some 0) else (some 3)))) = some r := h
 clear h
 by_cases c2 : a0 = 4
 ·rw [if_pos c2] at H
  have c2b0 : (a0 == 4) = true := beq_iff_eq.mpr c2
  have c2b1 : (a0 != 4) = false := bne_eq_false_iff_eq.mpr c2
  clear c2
  obtain rfl := Option.some.inj H
  go_enter Try.func47, Try.ntmps47
  go_wp2
  go_ret
  exact ⟨by first | rfl | (simp; done) | (simp [*]; done), by repeat (first | exact Drawn0.refl _ | apply Drawn0.step)⟩
 ·rw [if_neg c2] at H
  have c2b0 : (a0 == 4) = false := beq_eq_false_iff_ne.mpr c2
  have c2b1 : (a0 != 4) = true := bne_iff_ne.mpr c2
  by_cases c3 : a0 = 8
  ·rw [if_pos c3] at H
   have c3b0 : (a0 == 8) = true := beq_iff_eq.mpr c3
   have c3b1 : (a0 != 8) = false := bne_eq_false_iff_eq.mpr c3
   clear c3
   obtain rfl := Option.some.inj H
   go_enter Try.func47, Try.ntmps47
   go_wp2
   go_ret
   exact ⟨by first | rfl | (simp; done) | (simp [*]; done), by repeat (first | exact Drawn0.refl _ | apply Drawn0.step)⟩
  ·rw [if_neg c3] at H
   have c3b0 : (a0 == 8) = false := beq_eq_false_iff_ne.mpr c3
   have c3b1 : (a0 != 8) = true := bne_iff_ne.mpr c3
   by_cases c4 : a0 = 16
   ·rw [if_pos c4] at H
    have c4b0 : (a0 == 16) = true := beq_iff_eq.mpr c4
    have c4b1 : (a0 != 16) = false := bne_eq_false_iff_eq.mpr c4
    clear c4
    obtain rfl := Option.some.inj H
    go_enter Try.func47, Try.ntmps47
    go_wp2
    go_ret
    exact ⟨by first | rfl | (simp; done) | (simp [*]; done), by repeat (first | exact Drawn0.refl _ | apply Drawn0.step)⟩
   ·rw [if_neg c4] at H
    have c4b0 : (a0 == 16) = false := beq_eq_false_iff_ne.mpr c4
    have c4b1 : (a0 != 16) = true := bne_iff_ne.mpr c4
    obtain rfl := Option.some.inj H
    go_enter Try.func47, Try.ntmps47
    go_wp2
    go_ret
    exact ⟨by first | rfl | (simp; done) | (simp [*]; done), by repeat (first | exact Drawn0.refl _ | apply Drawn0.step)⟩

/-! ### impl_codeIf: function 48 -/
def impl_codeIf.f (a0 : Bool) (a1 : Int) : Option (Int) := if a0 = true then (some a1) else (some 0)
set_option maxHeartbeats 8000000 in
set_option maxRecDepth 100000 in
theorem impl_codeIf.calls (a0 : Bool) (a1 : Int) (r : Int) (w : World) (h : impl_codeIf.f a0 a1 = some r) :
  Calls Try.prog 48 #[.bool a0, .int .i64 a1] w fun e w' => e = .returned (.int .i64 r) ∧ Drawn0 w w' := by
 have H : (if a0 = true then (some a1) else (some 0)) = some r := h
 clear h
 by_cases c3 : a0 = true
 ·subst c3
  have H1 : (some a1) = some r := by rw [if_pos rfl] at H; exact H
  clear H
  have H := H1
  clear H1
  obtain rfl := Option.some.inj H
  go_enter Try.func48, Try.ntmps48
  go_wp2
  go_ret
  exact ⟨by first | rfl | (simp; done) | (simp [*]; done), by repeat (first | exact Drawn0.refl _ | apply Drawn0.step)⟩
 ·replace c3 := Bool.eq_false_iff.mpr c3
  subst c3
  have H1 : (some 0) = some r := by rw [if_neg (show ¬ (false = true) by decide)] at H; exact H
  clear H
  have H := H1
  clear H1
  obtain rfl := Option.some.inj H
  go_enter Try.func48, Try.ntmps48
  go_wp2
  go_ret
  exact ⟨by first | rfl | (simp; done) | (simp [*]; done), by repeat (first | exact Drawn0.refl _ | apply Drawn0.step)⟩

/-! ### slices_IndexFunc_int64_int64: function 129 -/
def firstAt (p : Int → Bool) : List Int → Int → Int
 | [], _ => -1
 | x :: l, i => if p x then i else firstAt p l (i + 1)
theorem firstAt_step (p : Int → Bool) (l : List Int) (k : Nat) (h : k < l.length) : firstAt p (l.drop k) k = if p (rd l k) then (k : Int) else firstAt p (l.drop (k + 1)) ((k + 1 : Nat) : Int) := by
 rw [List.drop_eq_getElem_cons h, firstAt]
 have e : rd l k = l[k] := by unfold rd; rw [Int.toNat_natCast, List.getD_eq_getElem?_getD, List.getElem?_eq_getElem h]; rfl
 rw [e]
 rfl
theorem firstAt_any (p : Int → Bool) (l : List Int) : ∀ i : Int, 0 ≤ i → decide (0 ≤ firstAt p l i) = l.any p := by
 induction l with
 | nil => intro i _; rfl
 | cons x l ih =>
  intro i hi
  rw [firstAt, List.any_cons]
  cases hx : p x with
  | true => simp [hi]
  | false => simp only [Bool.false_or]; rw [if_neg (by simp), ih _ (by omega)]
def slices_IndexFunc_int64_int64.f (l0 : List Int) (S1 : (Int → Bool)) : Option Int := some (firstAt S1 l0 0)
set_option maxHeartbeats 8000000 in
set_option maxRecDepth 100000 in
theorem slices_IndexFunc_int64_int64.calls (A0 : Option Addr) (c0 : Nat) (l0 : List Int) (g1_ : Nat) (b1_ : Array Value) (S1 : (Int → Bool)) (r : Int) (w : World) (hr0 : Kd.C (Kd.int .i64) w A0 l0.length l0) (hc0 : l0.length ≤ c0) (hS1 : FnOKp g1_ b1_ S1 w) (h : slices_IndexFunc_int64_int64.f l0 S1 = some r) :
  Calls Try.prog 129 #[.slice A0 l0.length c0, .func (.func g1_) #[] b1_] w fun e w' => e = .returned (.int .i64 r) ∧ Drawn0 w w' := by
 have HR0 := aM hr0
 have hen := hS1.en
 have hp : ∀ (q : Nat) (x : Int), Calls Try.prog g1_ (#[.int .i64 x] ++ b1_) (w.drewN q) fun e w' => e = .returned (.bool (S1 x)) ∧ Drawn0 (w.drewN q) w' := fun q x => hS1.ok _ (bN (Below.refl _ _) q) x
 have hbig : l0.length ≤ 9223372036854775807 := hr0.2.1
 have H : firstAt S1 l0 0 = r := Option.some.inj h
 have HA : Aside0 (firstAt S1 (l0.drop 0) ((0 : Nat) : Int) = r) := ⟨H⟩
 clear hr0 hc0 hS1 h H
 go_enter Try.func129, Try.ntmps129
 go_wp2
 go_loopg [5, 8] l0.length (fun gg _ s8 wr => ∃ kk q : Nat, kk ≤ l0.length ∧ l0.length - kk ≤ gg ∧ s8 = .int .i64 kk ∧ wr = w.drewN q ∧ Aside0 (firstAt S1 (l0.drop kk) (kk : Int) = r))
 case atStart => exact ⟨0, 0, Nat.zero_le _, by omega, rfl, rfl, HA⟩
 case round =>
  clear HA
  obtain ⟨kk, q, hkk, hg, rfl, rfl, A⟩ := hrel
  by_cases hlt : kk < l0.length
  ·have st := firstAt_step S1 l0 kk hlt
   obtain ⟨ad, e, hx⟩ := Kd.at_int HR0.out (kk : Int) (by omega) (by omega)
   cases e
   rw [Int.toNat_natCast] at hx
   have hltz : (kk : Int) < (l0.length : Int) := by omega
   have hcall := hp q (rd l0 kk)
   generalize rd l0 (kk : Int) = y at st hx hcall
   cases hq : S1 y with
   | true =>
    rw [hq] at hcall st
    have hr := A.out
    rw [st, if_pos rfl] at hr
    subst hr
    clear st A
    go_wp2_with ((with_reducible refine hcall.mono ?_); rintro e w' ⟨rfl, ⟨q', rfl⟩⟩)
    go_ret
    exact ⟨rfl, by repeat (first | exact Drawn0.refl _ | apply Drawn0.step)⟩
   | false =>
    rw [hq] at hcall st
    have hr := aM (st.symm.trans A.out)
    clear st A
    go_wp2_with ((with_reducible refine hcall.mono ?_); rintro e w' ⟨rfl, ⟨q', rfl⟩⟩)
    go_roundg (l0.length - (kk + 1))
    case measure => omega
    case rel => exact ⟨kk + 1, _, by omega, by omega, by go_num, rfl, hr⟩
  ·have hltz : ¬ (kk : Int) < (l0.length : Int) := by omega
   have e : kk = l0.length := by omega
   subst e
   have hr := A.out
   rw [List.drop_length] at hr
   have hr' : (-1 : Int) = r := hr
   subst hr'
   clear hr A
   go_wp2
   go_ret
   exact ⟨rfl, by repeat (first | exact Drawn0.refl _ | apply Drawn0.step)⟩

/-! ### slices_ContainsFunc_int64_int64: function 94 -/
def slices_ContainsFunc_int64_int64.f (l0 : List Int) (S1 : (Int → Bool)) : Option Bool := some (l0.any S1)
set_option maxHeartbeats 8000000 in
set_option maxRecDepth 100000 in
theorem slices_ContainsFunc_int64_int64.calls (A0 : Option Addr) (c0 : Nat) (l0 : List Int) (g1_ : Nat) (b1_ : Array Value) (S1 : (Int → Bool)) (r : Bool) (w : World) (hr0 : Kd.C (Kd.int .i64) w A0 l0.length l0) (hc0 : l0.length ≤ c0) (hS1 : FnOKp g1_ b1_ S1 w) (h : slices_ContainsFunc_int64_int64.f l0 S1 = some r) :
  Calls Try.prog 94 #[.slice A0 l0.length c0, .func (.func g1_) #[] b1_] w fun e w' => e = .returned (.bool r) ∧ Drawn0 w w' := by
 have H : l0.any S1 = r := Option.some.inj h
 rw [← firstAt_any S1 l0 0 (by omega)] at H
 subst H
 have hI := slices_IndexFunc_int64_int64.calls A0 c0 l0 g1_ b1_ S1 (firstAt S1 l0 0) w hr0 hc0 hS1 rfl
 generalize firstAt S1 l0 0 = i at hI
 clear hr0 hS1 h
 go_enter Try.func94, Try.ntmps94
 go_wp2_with (go_at_call 129; refine hI.mono ?_; rintro e w' ⟨rfl, ⟨q, rfl⟩⟩)
 go_ret
 exact ⟨rfl, by repeat (first | exact Drawn0.refl _ | apply Drawn0.step)⟩

/-! ### impl_inRange: function 96 -/
def impl_inRange.f (a0 : Int) (a1 : Int) (a2 : Int) : Option (Bool) := if a1 ≤ a0 then (some (decide (a0 ≤ a2))) else (some false)
set_option maxHeartbeats 8000000 in
set_option maxRecDepth 100000 in
theorem impl_inRange.calls (a0 : Int) (a1 : Int) (a2 : Int) (r : Bool) (w : World) (h : impl_inRange.f a0 a1 a2 = some r) :
  Calls Try.prog 96 #[.int .i64 a0, .int .i64 a1, .int .i64 a2] w fun e w' => e = .returned (.bool r) ∧ Drawn0 w w' := by
 have H : (if a1 ≤ a0 then (some (decide (a0 ≤ a2))) else (some false)) = some r := h
 clear h
 by_cases c4 : a1 ≤ a0
 ·rw [if_pos c4] at H
  have c4b0 : decide (a1 ≤ a0) = true := decide_eq_true c4
  clear c4
  obtain rfl := Option.some.inj H
  go_enter Try.func96, Try.ntmps96
  go_wp2
  go_ret
  exact ⟨by first | rfl | (simp; done) | (simp [*]; done), by repeat (first | exact Drawn0.refl _ | apply Drawn0.step)⟩
 ·rw [if_neg c4] at H
  have c4b0 : decide (a1 ≤ a0) = false := decide_eq_false c4
  clear c4
  obtain rfl := Option.some.inj H
  go_enter Try.func96, Try.ntmps96
  go_wp2
  go_ret
  exact ⟨by first | rfl | (simp; done) | (simp [*]; done), by repeat (first | exact Drawn0.refl _ | apply Drawn0.step)⟩

/-! ### impl_boundsFault_1: function 95 -/
def impl_boundsFault_1.f (a0 : Int) : Option (Bool) := (impl_inRange.f a0 0 67108864).bind fun t224 => (some (!t224))
set_option maxHeartbeats 8000000 in
set_option maxRecDepth 100000 in
theorem impl_boundsFault_1.calls (a0 : Int) (r : Bool) (w : World) (h : impl_boundsFault_1.f a0 = some r) :
  Calls Try.prog 95 #[.int .i64 a0] w fun e w' => e = .returned (.bool r) ∧ Drawn0 w w' := by
 have H : ((impl_inRange.f a0 0 67108864).bind fun t224 => (some (!t224))) = some r := h
 clear h
 replace H := Option.bind_eq_some_iff.mp H
 obtain ⟨t224, A20, H⟩ := H
 replace H : (some (!t224)) = some r := H
 have A2 := aM A20
 clear A20
 obtain rfl := Option.some.inj H
 go_enter Try.func95, Try.ntmps95
 go_wp2_with (first | ((with_reducible refine gate_callee (f := 96) rfl ?_); refine goesL_ (some 4) rfl rfl Try.func96 (by kernel_rfl) rfl #[.int .i64 a0, .int .i64 0, .int .i64 67108864] rfl mq ?_; (with_reducible refine (impl_inRange.calls a0 0 67108864 t224 _ A2.out).mono ?_); rintro e w' ⟨rfl, ⟨nd, rfl⟩⟩; refine ⟨_, rfl, ?_⟩))
 go_ret
 exact ⟨by first | rfl | (simp; done) | (simp [*]; done), by repeat (first | exact Drawn0.refl _ | apply Drawn0.step)⟩
theorem okp_boundsFault_1 (w : World) : FnOKp 95 #[] (fun x => !decide (0 ≤ x ∧ x ≤ 67108864)) w := by
 refine ⟨fun args w => enters_ Try.func95 (by kernel_rfl) rfl args w, fun W _ x => ?_⟩
 show Calls Try.prog 95 #[.int .i64 x] W _
 refine (impl_boundsFault_1.calls x _ W ?_).mono (fun _ _ h => h)
 simp only [impl_boundsFault_1.f, impl_inRange.f]
 by_cases h : 0 ≤ x <;> simp [h]

/-! ### impl_isBlock: function 97 -/
def impl_isBlock.f (l0 : List Int) : Option (Bool) := (impl_SizeFault.f (l0.length : Int)).bind fun t225 => (some (t225 == 0))
set_option maxHeartbeats 8000000 in
set_option maxRecDepth 100000 in
theorem impl_isBlock.calls (A0 : Option Addr) (c0 : Nat) (l0 : List Int) (r : Bool) (w : World) (hr0 : Kd.C (Kd.int .i64) w A0 l0.length l0) (hc0 : l0.length ≤ c0) (h : impl_isBlock.f l0 = some r) :
  Calls Try.prog 97 #[.slice A0 l0.length c0] w fun e w' => e = .returned (.bool r) ∧ Drawn0 w w' := by
 have HR0 := aM hr0
 have HC0 := aM hc0
 clear hr0 hc0
 have H : ((impl_SizeFault.f (l0.length : Int)).bind fun t225 => (some (t225 == 0))) = some r := h
 clear h
 replace H := Option.bind_eq_some_iff.mp H
 obtain ⟨t225, A20, H⟩ := H
 replace H : (some (t225 == 0)) = some r := H
 have A2 := aM A20
 clear A20
 obtain rfl := Option.some.inj H
 go_enter Try.func97, Try.ntmps97
 go_wp2_with (first | ((with_reducible refine gate_callee (f := 47) rfl ?_); refine goesL_ (some 5) rfl rfl Try.func47 (by kernel_rfl) rfl #[.int .i64 (l0.length : Int)] rfl mq ?_; (with_reducible refine (impl_SizeFault.calls (l0.length : Int) t225 _ A2.out).mono ?_); rintro e w' ⟨rfl, ⟨nd, rfl⟩⟩; refine ⟨_, rfl, ?_⟩))
 go_ret
 exact ⟨by first | rfl | (simp; done) | (simp [*]; done), by repeat (first | exact Drawn0.refl _ | apply Drawn0.step)⟩

/-! ### impl_boundsFault: function 49 -/
def impl_boundsFault.f (k : Nat) (l0 : List Int) : Option (Int) := (slices_ContainsFunc_int64_int64.f l0 (fun x => !decide (0 ≤ x ∧ x ≤ 67108864))).bind fun t226 => ((impl_isBlock.f l0).bind fun t227 => ((impl_codeIf.f (!t227) 2).bind fun t228 => ((impl_codeIf.f t226 3).bind fun t229 => ((impl_first.f k (([t228, t229] : List Int))).bind fun t233 => (some t233)))))
theorem impl_boundsFault.mono : ∀ a0 k, LeO (impl_boundsFault.f k a0) (impl_boundsFault.f (k + 1) a0) := by
 intro a0 k
 unfold impl_boundsFault.f
 repeat' first
   | (with_reducible exact impl_first.mono _ _)
   | (with_reducible exact LeO.refl _)
   | (with_reducible exact LeO.none _)
   | (with_reducible refine LeO.ite ?_ ?_)
   | (with_reducible refine LeO.bind ?_ (fun _ => ?_))
   | exact impl_first.mono _ _
   | exact LeO.none _
   | refine LeO.ite ?_ ?_
   | refine LeO.bind ?_ (fun _ => ?_)
set_option maxHeartbeats 8000000 in
set_option maxRecDepth 100000 in
theorem impl_boundsFault.calls (k : Nat) (A0 : Option Addr) (c0 : Nat) (l0 : List Int) (r : Int) (w : World) (hr0 : Kd.C (Kd.int .i64) w A0 l0.length l0) (hc0 : l0.length ≤ c0) (h : impl_boundsFault.f k l0 = some r) :
  Calls Try.prog 49 #[.slice A0 l0.length c0] w fun e w' => e = .returned (.int .i64 r) ∧ Below w.heap.size w w' := by
 have HR0 := aM hr0
 have HC0 := aM hc0
 clear hr0 hc0
 have HB := aM (Below.refl w.heap.size w)
 have H : ((slices_ContainsFunc_int64_int64.f l0 (fun x => !decide (0 ≤ x ∧ x ≤ 67108864))).bind fun t226 => ((impl_isBlock.f l0).bind fun t227 => ((impl_codeIf.f (!t227) 2).bind fun t228 => ((impl_codeIf.f t226 3).bind fun t229 => ((impl_first.f k (([t228, t229] : List Int))).bind fun t233 => (some t233)))))) = some r := h
 clear h
 replace H := Option.bind_eq_some_iff.mp H
 obtain ⟨t226, A20, H⟩ := H
 replace H : ((impl_isBlock.f l0).bind fun t227 => ((impl_codeIf.f (!t227) 2).bind fun t228 => ((impl_codeIf.f t226 3).bind fun t229 => ((impl_first.f k (([t228, t229] : List Int))).bind fun t233 => (some t233))))) = some r := H
 have A2 := aM A20
 clear A20
 replace H := Option.bind_eq_some_iff.mp H
 obtain ⟨t227, A30, H⟩ := H
 replace H : ((impl_codeIf.f (!t227) 2).bind fun t228 => ((impl_codeIf.f t226 3).bind fun t229 => ((impl_first.f k (([t228, t229] : List Int))).bind fun t233 => (some t233)))) = some r := H
 have A3 := aM A30
 clear A30
 replace H := Option.bind_eq_some_iff.mp H
 obtain ⟨t228, A40, H⟩ := H
 replace H : ((impl_codeIf.f t226 3).bind fun t229 => ((impl_first.f k (([t228, t229] : List Int))).bind fun t233 => (some t233))) = some r := H
 have A4 := aM A40
 clear A40
 replace H := Option.bind_eq_some_iff.mp H
 obtain ⟨t229, A50, H⟩ := H
 replace H : ((impl_first.f k (([t228, t229] : List Int))).bind fun t233 => (some t233)) = some r := H
 have A5 := aM A50
 clear A50
 obtain ⟨y230, hy230⟩ : ∃ y_ : List Int, y_ = (([t228, t229] : List Int)) := ⟨_, rfl⟩
 replace H : ((impl_first.f k y230).bind fun t233 => (some t233)) = some r := by first | (rw [hy230]; with_reducible exact H) | (have H2_ := (Option.bind_some _ _).symm.trans H; rw [hy230]; with_reducible exact H2_) | (have H2_ := (Option.bind_some _ _).symm.trans H; with_reducible exact H2_) | with_reducible exact H | (rw [hy230]; exact H) | exact H
 have Ny230 := aM hy230
 clear hy230
 replace H := Option.bind_eq_some_iff.mp H
 obtain ⟨t233, A60, H⟩ := H
 replace H : (some t233) = some r := H
 have A6 := aM A60
 clear A60
 obtain rfl := Option.some.inj H
 go_enter Try.func49, Try.ntmps49
 go_wp2_with (first | ((with_reducible refine gate_callee (f := 94) rfl ?_); refine goesL_ (some 5) rfl rfl Try.func94 (by kernel_rfl) rfl #[.slice A0 l0.length c0, .func (.func 95) #[] #[]] rfl mq ?_; (with_reducible refine (slices_ContainsFunc_int64_int64.calls _ _ l0 _ _ (fun x => !decide (0 ≤ x ∧ x ≤ 67108864)) t226 _ ?side1 ?side2 ?side3 A2.out).mono ?_); (case side1 => exact cq HR0.out); (case side2 => exact HC0.out); (case side3 => exact okp_boundsFault_1 _); rintro e w' ⟨rfl, ⟨nd, rfl⟩⟩; refine ⟨_, rfl, ?_⟩) | ((with_reducible refine gate_callee (f := 97) rfl ?_); refine goesL_ (some 7) rfl rfl Try.func97 (by kernel_rfl) rfl #[.slice A0 l0.length c0] rfl mq ?_; (with_reducible refine (impl_isBlock.calls _ _ l0 t227 _ ?side1 ?side2 A3.out).mono ?_); (case side1 => exact cq HR0.out); (case side2 => exact HC0.out); rintro e w' ⟨rfl, ⟨nd, rfl⟩⟩; refine ⟨_, rfl, ?_⟩) | ((with_reducible refine gate_callee (f := 48) rfl ?_); refine goesL_ (some 9) rfl rfl Try.func48 (by kernel_rfl) rfl #[.bool (!t227), .int .i64 2] rfl mq ?_; (with_reducible refine (impl_codeIf.calls (!t227) 2 t228 _ A4.out).mono ?_); rintro e w' ⟨rfl, ⟨nd, rfl⟩⟩; refine ⟨_, rfl, ?_⟩) | ((with_reducible refine gate_callee (f := 48) rfl ?_); refine goesL_ (some 11) rfl rfl Try.func48 (by kernel_rfl) rfl #[.bool t226, .int .i64 3] rfl mq ?_; (with_reducible refine (impl_codeIf.calls t226 3 t229 _ A5.out).mono ?_); rintro e w' ⟨rfl, ⟨nd, rfl⟩⟩; refine ⟨_, rfl, ?_⟩) | ((with_reducible refine gate_dst (N := 12) rfl ?_); refine Kd.R_lit (Kd.int .i64) _ 2 ?hg (N := 12) ?hd (xs := ([t228, t229] : List Int)) (inner := [.int .i64 t228, .int .i64 t229]) (ok := fun _ => True) (okp := fun _ => True) ?hr ?hp (fun _ hk => hk) trivial (Below.refl _ _) (Nat.le_refl _) (by simp) ?_; (case hd => rfl); (case hg => rfl); (case hr => first | (go_simp; done) | (go_simp; rfl)); (case hp => exact (Reps.one (show Kd.M (Kd.int .i64) _ _ _ t228 [.int .i64 t228] from rfl) (Reps.one (show Kd.M (Kd.int .i64) _ _ _ t229 [.int .i64 t229] from rfl) (Reps.none _ _)))); intro v231 w7 ho8 hb hg_ hnew_; clear hg_ hnew_; (first | rw [← Ny230.out] at ho8 | (simp only [Int.reduceToNat] at ho8; rw [← Ny230.out] at ho8)); have n0_ := aM (rG ho8 (bZ bq)); have n1_ := aM (bT bq hb); clear HB; have HO232 := n0_; have HB := n1_; clear n0_ n1_ hb ho8; obtain ⟨Ao9, co9, eo9⟩ := Kd.R_slice HO232.out; subst eo9) | ((with_reducible refine gate_callee (f := 46) rfl ?_); refine goesL_ (some 13) rfl rfl Try.func46 (by kernel_rfl) rfl #[.slice Ao9 y230.length co9] rfl mq ?_; (with_reducible refine (impl_first.calls k _ _ y230 t233 _ ?side1 ?side2 A6.out).mono ?_); (case side1 => exact cq (rR HO232.out).2.2); (case side2 => exact (rR HO232.out).2.1); rintro e w' ⟨rfl, ⟨nd, rfl⟩⟩; refine ⟨_, rfl, ?_⟩))
 go_ret
 exact ⟨by first | rfl | (simp [errW_none, errW_some] <;> rfl) | (simp [*, errW_none, errW_some] <;> rfl), bq⟩

/-! ### impl_turnOf: function 76 -/
def impl_turnOf.f (a0 : Int) (a1 : Int) : Option (Int × Int) := if a0 = 4 then (if a1 = 0 then some (101, 200) else (if a1 = 1 then some (311, 569) else (none))) else (if a0 = 8 then (if a1 = 0 then some (50, 100) else (if a1 = 1 then some (152, 297) else (if a1 = 2 then some (257, 483) else (if a1 = 3 then some (366, 650) else (none))))) else (if a1 = 0 then some (25, 50) else (if a1 = 1 then some (76, 150) else (if a1 = 2 then some (126, 249) else (if a1 = 3 then some (178, 345) else (if a1 = 4 then some (230, 438) else (if a1 = 5 then some (283, 526) else (if a1 = 6 then some (338, 610) else (if a1 = 7 then some (395, 688) else (none))))))))))
set_option maxHeartbeats 8000000 in
set_option maxRecDepth 100000 in
theorem impl_turnOf.calls (a0 : Int) (a1 : Int) (r1 : Int) (r2 : Int) (w : World) (h : impl_turnOf.f a0 a1 = some (r1, r2)) :
  Calls Try.prog 76 #[.int .i64 a0, .int .i64 a1] w fun e w' => e = .returned (.agg #[.int .i64 r1, .int .i64 r2]) ∧ Below w.heap.size w w' := by
 have hu := Try.underlying107
 unfold impl_turnOf.f at h
 by_cases h4 : a0 = 4
 ·subst h4
  rw [if_pos rfl] at h
  have hix : ∀ w, (Instr.index 141 (.agg #[.int .i64 101, .int .i64 200, .int .i64 311, .int .i64 569]) (.int .i64 a1)).run Try.prog w = .ok (.agg #[.int .i64 r1, .int .i64 r2]) w := by
   by_cases n0 : a1 = 0
   ·subst n0
    rw [if_pos rfl] at h
    have H := Option.some.inj h
    simp only [Prod.mk.injEq] at H
    obtain ⟨rfl, rfl⟩ := H
    exact fun _ => by kernel_rfl
   rw [if_neg n0] at h
   by_cases n1 : a1 = 1
   ·subst n1
    rw [if_pos rfl] at h
    have H := Option.some.inj h
    simp only [Prod.mk.injEq] at H
    obtain ⟨rfl, rfl⟩ := H
    exact fun _ => by kernel_rfl
   rw [if_neg n1] at h
   cases h
  clear h
  go_enter Try.func76, Try.ntmps76
  go_wp2
  exact bodyPost_ret (v := .agg #[.int .i64 r1, .int .i64 r2]) (by simp [results, Try.results76, go_sem]) rfl ⟨rfl, (Below.refl _ _).alloc (Nat.le_refl _) _⟩
 ·rw [if_neg h4] at h
  have h4b : (a0 == 4) = false := beq_eq_false_iff_ne.mpr h4
  by_cases h8 : a0 = 8
  ·subst h8
   rw [if_pos rfl] at h
   have hix : ∀ w, (Instr.index 142 (.agg #[.int .i64 50, .int .i64 100, .int .i64 152, .int .i64 297, .int .i64 257, .int .i64 483, .int .i64 366, .int .i64 650]) (.int .i64 a1)).run Try.prog w = .ok (.agg #[.int .i64 r1, .int .i64 r2]) w := by
    by_cases n0 : a1 = 0
    ·subst n0
     rw [if_pos rfl] at h
     have H := Option.some.inj h
     simp only [Prod.mk.injEq] at H
     obtain ⟨rfl, rfl⟩ := H
     exact fun _ => by kernel_rfl
    rw [if_neg n0] at h
    by_cases n1 : a1 = 1
    ·subst n1
     rw [if_pos rfl] at h
     have H := Option.some.inj h
     simp only [Prod.mk.injEq] at H
     obtain ⟨rfl, rfl⟩ := H
     exact fun _ => by kernel_rfl
    rw [if_neg n1] at h
    by_cases n2 : a1 = 2
    ·subst n2
     rw [if_pos rfl] at h
     have H := Option.some.inj h
     simp only [Prod.mk.injEq] at H
     obtain ⟨rfl, rfl⟩ := H
     exact fun _ => by kernel_rfl
    rw [if_neg n2] at h
    by_cases n3 : a1 = 3
    ·subst n3
     rw [if_pos rfl] at h
     have H := Option.some.inj h
     simp only [Prod.mk.injEq] at H
     obtain ⟨rfl, rfl⟩ := H
     exact fun _ => by kernel_rfl
    rw [if_neg n3] at h
    cases h
   clear h
   go_enter Try.func76, Try.ntmps76
   go_wp2
   exact bodyPost_ret (v := .agg #[.int .i64 r1, .int .i64 r2]) (by simp [results, Try.results76, go_sem]) rfl ⟨rfl, (Below.refl _ _).alloc (Nat.le_refl _) _⟩
  ·rw [if_neg h8] at h
   have h8b : (a0 == 8) = false := beq_eq_false_iff_ne.mpr h8
   have hix : ∀ w, (Instr.index 143 (.agg #[.int .i64 25, .int .i64 50, .int .i64 76, .int .i64 150, .int .i64 126, .int .i64 249, .int .i64 178, .int .i64 345, .int .i64 230, .int .i64 438, .int .i64 283, .int .i64 526, .int .i64 338, .int .i64 610, .int .i64 395, .int .i64 688]) (.int .i64 a1)).run Try.prog w = .ok (.agg #[.int .i64 r1, .int .i64 r2]) w := by
    by_cases n0 : a1 = 0
    ·subst n0
     rw [if_pos rfl] at h
     have H := Option.some.inj h
     simp only [Prod.mk.injEq] at H
     obtain ⟨rfl, rfl⟩ := H
     exact fun _ => by kernel_rfl
    rw [if_neg n0] at h
    by_cases n1 : a1 = 1
    ·subst n1
     rw [if_pos rfl] at h
     have H := Option.some.inj h
     simp only [Prod.mk.injEq] at H
     obtain ⟨rfl, rfl⟩ := H
     exact fun _ => by kernel_rfl
    rw [if_neg n1] at h
    by_cases n2 : a1 = 2
    ·subst n2
     rw [if_pos rfl] at h
     have H := Option.some.inj h
     simp only [Prod.mk.injEq] at H
     obtain ⟨rfl, rfl⟩ := H
     exact fun _ => by kernel_rfl
    rw [if_neg n2] at h
    by_cases n3 : a1 = 3
    ·subst n3
     rw [if_pos rfl] at h
     have H := Option.some.inj h
     simp only [Prod.mk.injEq] at H
     obtain ⟨rfl, rfl⟩ := H
     exact fun _ => by kernel_rfl
    rw [if_neg n3] at h
    by_cases n4 : a1 = 4
    ·subst n4
     rw [if_pos rfl] at h
     have H := Option.some.inj h
     simp only [Prod.mk.injEq] at H
     obtain ⟨rfl, rfl⟩ := H
     exact fun _ => by kernel_rfl
    rw [if_neg n4] at h
    by_cases n5 : a1 = 5
    ·subst n5
     rw [if_pos rfl] at h
     have H := Option.some.inj h
     simp only [Prod.mk.injEq] at H
     obtain ⟨rfl, rfl⟩ := H
     exact fun _ => by kernel_rfl
    rw [if_neg n5] at h
    by_cases n6 : a1 = 6
    ·subst n6
     rw [if_pos rfl] at h
     have H := Option.some.inj h
     simp only [Prod.mk.injEq] at H
     obtain ⟨rfl, rfl⟩ := H
     exact fun _ => by kernel_rfl
    rw [if_neg n6] at h
    by_cases n7 : a1 = 7
    ·subst n7
     rw [if_pos rfl] at h
     have H := Option.some.inj h
     simp only [Prod.mk.injEq] at H
     obtain ⟨rfl, rfl⟩ := H
     exact fun _ => by kernel_rfl
    rw [if_neg n7] at h
    cases h
   clear h
   go_enter Try.func76, Try.ntmps76
   go_wp2
   exact bodyPost_ret (v := .agg #[.int .i64 r1, .int .i64 r2]) (by simp [results, Try.results76, go_sem]) rfl ⟨rfl, (Below.refl _ _).alloc (Nat.le_refl _) _⟩

/-! ### impl_floorDiv: function 135 -/
def impl_floorDiv.f (a0 : Int) (a1 : Int) : Option (Int) := if a1 = 0 then (none) else (if (Int.tmod a0 a1) < 0 then (some (wrap64 ((wrap64 (Int.tdiv a0 a1)) - 1))) else (some (wrap64 (Int.tdiv a0 a1))))
set_option maxHeartbeats 8000000 in
set_option maxRecDepth 100000 in
theorem impl_floorDiv.calls (a0 : Int) (a1 : Int) (r : Int) (w : World) (h : impl_floorDiv.f a0 a1 = some r) :
  Calls Try.prog 135 #[.int .i64 a0, .int .i64 a1] w fun e w' => e = .returned (.int .i64 r) ∧ Drawn0 w w' := by
 have H : (if a1 = 0 then (none) else (if (Int.tmod a0 a1) < 0 then (some (wrap64 ((wrap64 (Int.tdiv a0 a1)) - 1))) else (some (wrap64 (Int.tdiv a0 a1))))) = some r := h
 clear h
 by_cases c3 : a1 = 0
 ·rw [if_pos c3] at H
  exact absurd H (by simp)
 ·rw [if_neg c3] at H
  have c3b0 : (a1 == 0) = false := beq_eq_false_iff_ne.mpr c3
  have c3b1 : (a1 != 0) = true := bne_iff_ne.mpr c3
  by_cases c4 : (Int.tmod a0 a1) < 0
  ·rw [if_pos c4] at H
   have c4b0 : decide ((Int.tmod a0 a1) < 0) = true := decide_eq_true c4
   clear c4
   obtain rfl := Option.some.inj H
   go_enter Try.func135, Try.ntmps135
   go_wp2
   go_ret
   exact ⟨by first | rfl | (simp; done) | (simp [*]; done), by repeat (first | exact Drawn0.refl _ | apply Drawn0.step)⟩
  ·rw [if_neg c4] at H
   have c4b0 : decide ((Int.tmod a0 a1) < 0) = false := decide_eq_false c4
   clear c4
   obtain rfl := Option.some.inj H
   go_enter Try.func135, Try.ntmps135
   go_wp2
   go_ret
   exact ⟨by first | rfl | (simp; done) | (simp [*]; done), by repeat (first | exact Drawn0.refl _ | apply Drawn0.step)⟩

/-! ### impl_ceilDiv: function 131 -/
def impl_ceilDiv.f (a0 : Int) (a1 : Int) : Option (Int) := (impl_floorDiv.f (wrap64 (-a0)) a1).bind fun t234 => (some (wrap64 (-t234)))
set_option maxHeartbeats 8000000 in
set_option maxRecDepth 100000 in
theorem impl_ceilDiv.calls (a0 : Int) (a1 : Int) (r : Int) (w : World) (h : impl_ceilDiv.f a0 a1 = some r) :
  Calls Try.prog 131 #[.int .i64 a0, .int .i64 a1] w fun e w' => e = .returned (.int .i64 r) ∧ Drawn0 w w' := by
 have H : ((impl_floorDiv.f (wrap64 (-a0)) a1).bind fun t234 => (some (wrap64 (-t234)))) = some r := h
 clear h
 replace H := Option.bind_eq_some_iff.mp H
 obtain ⟨t234, A30, H⟩ := H
 replace H : (some (wrap64 (-t234))) = some r := H
 have A3 := aM A30
 clear A30
 obtain rfl := Option.some.inj H
 go_enter Try.func131, Try.ntmps131
 go_wp2_with (first | ((with_reducible refine gate_callee (f := 135) rfl ?_); refine goesL_ (some 8) rfl rfl Try.func135 (by kernel_rfl) rfl #[.int .i64 (wrap64 (-a0)), .int .i64 a1] rfl mq ?_; (with_reducible refine (impl_floorDiv.calls (wrap64 (-a0)) a1 t234 _ A3.out).mono ?_); rintro e w' ⟨rfl, ⟨nd, rfl⟩⟩; refine ⟨_, rfl, ?_⟩))
 go_ret
 exact ⟨by first | rfl | (simp; done) | (simp [*]; done), by repeat (first | exact Drawn0.refl _ | apply Drawn0.step)⟩

/-! ### impl_share: function 130 -/
def impl_share.f (a0 : Int) (a1 : Int) : Option (Int) := (impl_ceilDiv.f (wrap64 (a0 * a1)) 1024).bind fun t235 => (some t235)
set_option maxHeartbeats 8000000 in
set_option maxRecDepth 100000 in
theorem impl_share.calls (a0 : Int) (a1 : Int) (r : Int) (w : World) (h : impl_share.f a0 a1 = some r) :
  Calls Try.prog 130 #[.int .i64 a0, .int .i64 a1] w fun e w' => e = .returned (.int .i64 r) ∧ Drawn0 w w' := by
 have H : ((impl_ceilDiv.f (wrap64 (a0 * a1)) 1024).bind fun t235 => (some t235)) = some r := h
 clear h
 replace H := Option.bind_eq_some_iff.mp H
 obtain ⟨t235, A30, H⟩ := H
 replace H : (some t235) = some r := H
 have A3 := aM A30
 clear A30
 obtain rfl := Option.some.inj H
 go_enter Try.func130, Try.ntmps130
 go_wp2_with (first | ((with_reducible refine gate_callee (f := 131) rfl ?_); refine goesL_ (some 8) rfl rfl Try.func131 (by kernel_rfl) rfl #[.int .i64 (wrap64 (a0 * a1)), .int .i64 1024] rfl mq ?_; (with_reducible refine (impl_ceilDiv.calls (wrap64 (a0 * a1)) 1024 t235 _ A3.out).mono ?_); rintro e w' ⟨rfl, ⟨nd, rfl⟩⟩; refine ⟨_, rfl, ?_⟩))
 go_ret
 exact ⟨by first | rfl | (simp; done) | (simp [*]; done), by repeat (first | exact Drawn0.refl _ | apply Drawn0.step)⟩

/-! ### impl_turn_bounds: function 99 -/
def impl_turn_bounds.f (a0_0 : Int) (a0_1 : Int) (a1 : Int) (a2 : Int) : Option (Int × Int) := (impl_share.f a0_0 a2).bind fun t237 => ((impl_share.f a0_1 (wrap64 (a1 + t237))).bind fun t238 => ((impl_share.f a0_0 (wrap64 (a2 + t238))).bind fun t239 => (some (wrap64 ((wrap64 (a1 + t237)) + t239), wrap64 (a2 + t238)))))
set_option maxHeartbeats 8000000 in
set_option maxRecDepth 100000 in
theorem impl_turn_bounds.calls (a0_0 : Int) (a0_1 : Int) (a1 : Int) (a2 : Int) (r1 : Int) (r2 : Int) (w : World) (h : impl_turn_bounds.f a0_0 a0_1 a1 a2 = some (r1, r2)) :
  Calls Try.prog 99 #[.agg #[.int .i64 a0_0, .int .i64 a0_1], .int .i64 a1, .int .i64 a2] w fun e w' => e = .returned (.tuple #[.int .i64 r1, .int .i64 r2]) ∧ Below w.heap.size w w' := by
 have hu107 := Try.underlying107
 have HB := aM (Below.refl w.heap.size w)
 have H : ((impl_share.f a0_0 a2).bind fun t237 => ((impl_share.f a0_1 (wrap64 (a1 + t237))).bind fun t238 => ((impl_share.f a0_0 (wrap64 (a2 + t238))).bind fun t239 => (some (wrap64 ((wrap64 (a1 + t237)) + t239), wrap64 (a2 + t238)))))) = some (r1, r2) := h
 clear h
 replace H := Option.bind_eq_some_iff.mp H
 obtain ⟨t237, A40, H⟩ := H
 replace H : ((impl_share.f a0_1 (wrap64 (a1 + t237))).bind fun t238 => ((impl_share.f a0_0 (wrap64 (a2 + t238))).bind fun t239 => (some (wrap64 ((wrap64 (a1 + t237)) + t239), wrap64 (a2 + t238))))) = some (r1, r2) := H
 have A4 := aM A40
 clear A40
 replace H := Option.bind_eq_some_iff.mp H
 obtain ⟨t238, A50, H⟩ := H
 replace H : ((impl_share.f a0_0 (wrap64 (a2 + t238))).bind fun t239 => (some (wrap64 ((wrap64 (a1 + t237)) + t239), wrap64 (a2 + t238)))) = some (r1, r2) := H
 have A5 := aM A50
 clear A50
 replace H := Option.bind_eq_some_iff.mp H
 obtain ⟨t239, A60, H⟩ := H
 replace H : (some (wrap64 ((wrap64 (a1 + t237)) + t239), wrap64 (a2 + t238))) = some (r1, r2) := H
 have A6 := aM A60
 clear A60
 simp only [Option.some.injEq, Prod.mk.injEq] at H
 obtain ⟨rfl, rfl⟩ := H
 go_enter Try.func99, Try.ntmps99
 go_wp2_with (first | ((with_reducible refine gate_dst (N := 3) rfl ?_); refine box_event ?hg (N := 3) ?hd (cs := #[.int .i64 a0_0, .int .i64 a0_1]) (t := 107) ?hr ?_; (case hd => rfl); (case hg => rfl); (case hr => first | (go_simp; done) | (go_simp; rfl)); intro gb236 hg w7 hbox hb; have n0_ := aM (bT bq hb); have n1_ := aM (hbox); have n2_ := aM ((by rw [hg]; exact (bZ bq) : w.heap.size ≤ gb236)); have n3_ := aM ((by rw [hg]; exact (bZ bq) : w.heap.size ≤ gb236)); clear HB; have HB := n0_; have BK236 := n1_; have GW236 := n2_; have GE236 := n3_; clear n0_ n1_ n2_ n3_ hb hbox hg; have hcz8_0 : w7.cell? ⟨gb236, 0, none⟩ = some (.int .i64 a0_0) := (kC BK236.out 0).trans rfl; have hcz8_1 : w7.cell? ⟨gb236, 1, none⟩ = some (.int .i64 a0_1) := (kC BK236.out 1).trans rfl; have hfz8_0 := kF BK236.out 0; have hfz8_1 := kF BK236.out 1) | ((with_reducible refine gate_callee (f := 130) rfl ?_); refine goesL_ (some 12) rfl rfl Try.func130 (by kernel_rfl) rfl #[.int .i64 a0_0, .int .i64 a2] rfl mq ?_; (with_reducible refine (impl_share.calls a0_0 a2 t237 _ A4.out).mono ?_); rintro e w' ⟨rfl, ⟨nd, rfl⟩⟩; refine ⟨_, rfl, ?_⟩) | ((with_reducible refine gate_callee (f := 130) rfl ?_); refine goesL_ (some 18) rfl rfl Try.func130 (by kernel_rfl) rfl #[.int .i64 a0_1, .int .i64 (wrap64 (a1 + t237))] rfl mq ?_; (with_reducible refine (impl_share.calls a0_1 (wrap64 (a1 + t237)) t238 _ A5.out).mono ?_); rintro e w' ⟨rfl, ⟨nd, rfl⟩⟩; refine ⟨_, rfl, ?_⟩) | ((with_reducible refine gate_callee (f := 130) rfl ?_); refine goesL_ (some 24) rfl rfl Try.func130 (by kernel_rfl) rfl #[.int .i64 a0_0, .int .i64 (wrap64 (a2 + t238))] rfl mq ?_; (with_reducible refine (impl_share.calls a0_0 (wrap64 (a2 + t238)) t239 _ A6.out).mono ?_); rintro e w' ⟨rfl, ⟨nd, rfl⟩⟩; refine ⟨_, rfl, ?_⟩))
 go_ret2
 exact ⟨by first | rfl | (simp [errW_none, errW_some] <;> rfl) | (simp [*, errW_none, errW_some] <;> rfl), bq⟩

/-! ### impl_ofBounds_1: function 98 -/
def impl_ofBounds_1.f (a0 : Int) (a1 : Int) (a2 : Int) (a3 : Int) : Option (Int × Int) := (impl_turnOf.f a0 a1).bind fun bt240 => ((impl_turn_bounds.f bt240.1 bt240.2 a2 a3).bind fun bt242 => (some (bt242.1, bt242.2)))
set_option maxHeartbeats 8000000 in
set_option maxRecDepth 100000 in
theorem impl_ofBounds_1.calls (a0 : Int) (a1 : Int) (a2 : Int) (a3 : Int) (r1 : Int) (r2 : Int) (w : World) (h : impl_ofBounds_1.f a0 a1 a2 a3 = some (r1, r2)) :
  Calls Try.prog 98 #[.int .i64 a0, .int .i64 a1, .int .i64 a2, .int .i64 a3] w fun e w' => e = .returned (.tuple #[.int .i64 r1, .int .i64 r2]) ∧ Below w.heap.size w w' := by
 have HB := aM (Below.refl w.heap.size w)
 have H : ((impl_turnOf.f a0 a1).bind fun bt240 => ((impl_turn_bounds.f bt240.1 bt240.2 a2 a3).bind fun bt242 => (some (bt242.1, bt242.2)))) = some (r1, r2) := h
 clear h
 replace H := Option.bind_eq_some_iff.mp H
 obtain ⟨⟨t240, t241⟩, A50, H⟩ := H
 replace H : ((impl_turn_bounds.f t240 t241 a2 a3).bind fun bt242 => (some (bt242.1, bt242.2))) = some (r1, r2) := H
 have A5 := aM A50
 clear A50
 replace H := Option.bind_eq_some_iff.mp H
 obtain ⟨⟨t242, t243⟩, A60, H⟩ := H
 replace H : (some (t242, t243)) = some (r1, r2) := H
 have A6 := aM A60
 clear A60
 simp only [Option.some.injEq, Prod.mk.injEq] at H
 obtain ⟨rfl, rfl⟩ := H
 go_enter Try.func98, Try.ntmps98
 go_wp2_with (first | ((with_reducible refine gate_callee (f := 76) rfl ?_); refine goesL_ (some 12) rfl rfl Try.func76 (by kernel_rfl) rfl #[.int .i64 a0, .int .i64 a1] rfl mq ?_; (with_reducible refine (impl_turnOf.calls a0 a1 t240 t241 _ A5.out).mono ?_); rintro e w7 ⟨rfl, hb⟩; refine ⟨_, rfl, ?_⟩; have n0_ := aM (bT bq hb); clear HB; have HB := n0_; clear n0_; (try clear hb)) | ((with_reducible refine gate_callee (f := 99) rfl ?_); refine goesL_ (some 15) rfl rfl Try.func99 (by kernel_rfl) rfl #[.agg #[.int .i64 t240, .int .i64 t241], .int .i64 a2, .int .i64 a3] rfl mq ?_; (with_reducible refine (impl_turn_bounds.calls t240 t241 a2 a3 t242 t243 _ A6.out).mono ?_); rintro e w8 ⟨rfl, hb⟩; refine ⟨_, rfl, ?_⟩; have n0_ := aM (bT bq hb); clear HB; have HB := n0_; clear n0_; (try clear hb)))
 go_ret2
 exact ⟨by first | rfl | (simp [errW_none, errW_some] <;> rfl) | (simp [*, errW_none, errW_some] <;> rfl), bq⟩
theorem ok4_ofBounds_1 (w : World) : FnOK4 98 #[] impl_ofBounds_1.f w :=
 ⟨fun args w => enters_ Try.func98 (by kernel_rfl) rfl args w, fun W _ a b c d r1 r2 h => impl_ofBounds_1.calls a b c d r1 r2 W h⟩

/-! ### impl_partBounds: function 100 -/
def impl_partBounds.f (a0 : Int) (a1 : Int) : Option (Int × Int) := (impl_ceilDiv.f a1 2).bind fun t244 => (some (wrap64 (a0 + t244), wrap64 (a0 + t244)))
set_option maxHeartbeats 8000000 in
set_option maxRecDepth 100000 in
theorem impl_partBounds.calls (a0 : Int) (a1 : Int) (r1 : Int) (r2 : Int) (w : World) (h : impl_partBounds.f a0 a1 = some (r1, r2)) :
  Calls Try.prog 100 #[.int .i64 a0, .int .i64 a1] w fun e w' => e = .returned (.tuple #[.int .i64 r1, .int .i64 r2]) ∧ Below w.heap.size w w' := by
 have HB := aM (Below.refl w.heap.size w)
 have H : ((impl_ceilDiv.f a1 2).bind fun t244 => (some (wrap64 (a0 + t244), wrap64 (a0 + t244)))) = some (r1, r2) := h
 clear h
 replace H := Option.bind_eq_some_iff.mp H
 obtain ⟨t244, A30, H⟩ := H
 replace H : (some (wrap64 (a0 + t244), wrap64 (a0 + t244))) = some (r1, r2) := H
 have A3 := aM A30
 clear A30
 simp only [Option.some.injEq, Prod.mk.injEq] at H
 obtain ⟨rfl, rfl⟩ := H
 go_enter Try.func100, Try.ntmps100
 go_wp2_with (first | ((with_reducible refine gate_callee (f := 131) rfl ?_); refine goesL_ (some 9) rfl rfl Try.func131 (by kernel_rfl) rfl #[.int .i64 a1, .int .i64 2] rfl mq ?_; (with_reducible refine (impl_ceilDiv.calls a1 2 t244 _ A3.out).mono ?_); rintro e w' ⟨rfl, ⟨nd, rfl⟩⟩; refine ⟨_, rfl, ?_⟩))
 go_ret2
 exact ⟨by first | rfl | (simp [errW_none, errW_some] <;> rfl) | (simp [*, errW_none, errW_some] <;> rfl), bq⟩
theorem ok2_partBounds (w : World) : FnOK2 100 #[] impl_partBounds.f w :=
 ⟨fun args w => enters_ Try.func100 (by kernel_rfl) rfl args w, fun W _ a b r1 r2 h => impl_partBounds.calls a b r1 r2 W h⟩

/-! ### impl_ofBounds: function 50 -/
def impl_ofBounds.f : Option Unit := some ()
set_option maxHeartbeats 8000000 in
set_option maxRecDepth 100000 in
theorem impl_ofBounds.calls (w : World) (h : impl_ofBounds.f = some ()) :
  Calls Try.prog 50 #[] w fun e w' => e = .returned (.agg #[.func (.func 98) #[] #[], .func (.func 100) #[] #[]]) ∧ Below w.heap.size w w' := by
 have hu87 := Try.underlying87
 go_enter Try.func50, Try.ntmps50
 go_wp2
 exact bodyPost_ret (v := .agg #[.func (.func 98) #[] #[], .func (.func 100) #[] #[]]) (by simp [results, Try.results50, go_sem]) rfl ⟨rfl, (Below.refl _ _).alloc (Nat.le_refl _) _⟩

/-! ### impl_FrameBounds_2: function 51 -/
set_option maxHeartbeats 8000000 in
set_option maxRecDepth 100000 in
theorem impl_FrameBounds_2.calls (B0 B1 g : Nat) (lb : Array Value) (S : Int → Int → Int → Int → Option (Int × Int)) (sz n a b r1 r2 : Int) (w : World) (hc0 : w.cell? ⟨B0, 0, none⟩ = some (.func (.func g) #[] lb)) (hc1 : w.cell? ⟨B1, 0, none⟩ = some (.int .i64 sz)) (hS : FnOK4 g lb S w) (h : S sz n a b = some (r1, r2)) :
  Calls Try.prog 51 #[.int .i64 n, .int .i64 a, .int .i64 b, .pointer (some ⟨B0, 0, none⟩), .pointer (some ⟨B1, 0, none⟩)] w fun e w' => e = .returned (.tuple #[.int .i64 r1, .int .i64 r2]) ∧ Below w.heap.size w w' := by
 have hen := hS.en
 have hcall : ∀ q : Nat, Calls Try.prog g (#[.int .i64 sz, .int .i64 n, .int .i64 a, .int .i64 b] ++ lb) (w.drewN q) fun e w' => e = .returned (.tuple #[.int .i64 r1, .int .i64 r2]) ∧ Below (w.drewN q).heap.size (w.drewN q) w' := fun q => hS.calls (bN (Below.refl _ _) q) sz n a b r1 r2 h
 have hcall0 : Calls Try.prog g (#[.int .i64 sz, .int .i64 n, .int .i64 a, .int .i64 b] ++ lb) w fun e w' => e = .returned (.tuple #[.int .i64 r1, .int .i64 r2]) ∧ Below w.heap.size w w' := hS.calls (Below.refl _ _) sz n a b r1 r2 h
 clear hS h
 go_enter Try.func51, Try.ntmps51
 go_wp2_with ((first | with_reducible refine hcall0.mono ?_ | with_reducible refine (hcall _).mono ?_); rintro e w1 ⟨rfl, hb⟩; have HB := aM hb; clear hb)
 go_ret2
 exact ⟨rfl, by repeat (first | exact HB.out | apply bN | apply bD)⟩
theorem ok3_FrameBounds_2 (B0 B1 g : Nat) (lb : Array Value) (S : Int → Int → Int → Int → Option (Int × Int)) (sz : Int) (w : World) (hc0 : w.cell? ⟨B0, 0, none⟩ = some (.func (.func g) #[] lb)) (hc1 : w.cell? ⟨B1, 0, none⟩ = some (.int .i64 sz)) (hS : FnOK4 g lb S w) :
  FnOK3 51 #[.pointer (some ⟨B0, 0, none⟩), .pointer (some ⟨B1, 0, none⟩)] (S sz) w :=
 ⟨fun args w => enters_ Try.func51 (by kernel_rfl) rfl args w, fun W hb a b c r1 r2 h => impl_FrameBounds_2.calls B0 B1 g lb S sz a b c r1 r2 W (by rw [hb.cell (World.block_lt_of_cell? w _ hc0)]; exact hc0) (by rw [hb.cell (World.block_lt_of_cell? w _ hc1)]; exact hc1) (hS.later hb) h⟩

end Go.Proofs.Ytjdgebfihbhbaaa.PFnExactFrameBounds
