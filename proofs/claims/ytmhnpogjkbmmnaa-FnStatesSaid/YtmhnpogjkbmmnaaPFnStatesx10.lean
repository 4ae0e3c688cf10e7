import Derived.Test.YtmhnpogjkbmmnaaPFnStatesx0
import Derived.Test.YtmhnpogjkbmmnaaPFnStatesx5
import Derived.Test.YtmhnpogjkbmmnaaPFnStatesx6
namespace Go.Proofs.Ytmhnpogjkbmmnaa.PFnStates
open Go.RowKit Go.Proofs.YtmhnpogjkbmmnaaW.PrintWords Go.Proofs.YtmhnpogjkbmmnaaW.PrintLast Go.Proofs.YtmhnpogjkbmmnaaW.PrintMore
open Go.Proofs.YtmhnpogjkbmmnaaW.PrintWords.Kd renaming R_alloc → rA, R_drewN → rN, R_drew → rD, R_lower → rG, R_reads' → rR, C_below → cB
open Go.Proofs.YtmhnpogjkbmmnaaW.PrintWords renaming pw_below_drewN → bN, below_drew1 → bD, below_step → bT, below_size → bZ, blk_cell → kC, blk_frozen → kF
open Go.Proofs.YtmhnpogjkbmmnaaW.PrintWords.Aside0 renaming mk → aM
attribute [local go_sem] max2_int min2_int max_two min_two max_three min_three max_four min_four
set_option maxHeartbeats 8000000
set_option maxRecDepth 100000
set_option linter.unusedVariables false
set_option linter.unusedSimpArgs false
def slices_Grow_int64_int64.f (l0 : List Int) (a1 : Int) : Option (List Int) := if 0 ≤ a1 ∧ a1 < 17592186044416 then some [] else none
theorem slices_Grow_int64_int64.calls (A0 : Option Addr) (c0 : Nat) (l0 : List Int) (a1 : Int) (r : List Int) (w : World) (hr0 : Kd.C (Kd.int .i64) w A0 l0.length l0) (hc0 : l0.length ≤ c0) (h : slices_Grow_int64_int64.f l0 a1 = some r) :
  Calls Try.prog 111 #[.slice none 0 0, .int .i64 a1] w fun e w' => ∃ v0_ : Value, e = .returned (v0_) ∧ Kd.R (Kd.int .i64) 2 w' w.heap.size (fun _ => True) v0_ r ∧ Below w.heap.size w w' := by
 unfold slices_Grow_int64_int64.f at h
 by_cases hb : 0 ≤ a1 ∧ a1 < 17592186044416
 ·rw [if_pos hb] at h
  obtain rfl := Option.some.inj h
  clear h hr0 hc0
  have h0 : decide (a1 < 0) = false := decide_eq_false (by omega)
  have e1 : wrap64 a1 = a1 := by unfold wrap64; omega
  by_cases hz : 0 < a1
  ·have hp : decide (0 < a1) = true := decide_eq_true hz
   have hlim := hb.2
   have hn := hb.1
   clear hb
   have HN := aM hn
   have HL := aM hlim
   clear hn hlim hz
   go_enter Try.func111, Try.ntmps111
   go_wp2_with (((with_reducible refine gate_builtin (b := .append) (xs := #[.tmp 20, .tmp 21]) rfl ?_); at_builtin; refine Kd.R_append_zeros (Kd.int .i64) (w0 := w) w.heap.size rfl (.tmp 20) (.tmp 21) 22 3 2 (.int .i64 0) 8 rfl Try.underlying22 Try.underlying3 info2 rfl (by decide) (by omega) (.slice none 0 0) [] 0 (wrap64 a1) (fun _ => True) rfl rfl rfl (fun _ _ => trivial) (Kd.R_nil _ _ _ _ _) (by rw [e1]; exact HN.out) (Below.refl _ _) (Nat.le_refl _) (by have := HL.out; have := HN.out; rw [e1]; simp; omega) ?_; intro v1 w1 ho hbl hg hat; rw [e1] at ho; obtain ⟨A1, c1, hv1, hl1, _⟩ := Kd.R_reads ho; have hz1 : (([] : List Int) ++ List.replicate a1.toNat 0).length = a1.toNat := (by simp); rw [hz1] at hv1 hl1; subst hv1; have HO := aM (Kd.R_take (m := 0) ho (Nat.zero_le _)); have HB := aM hbl; clear ho hbl hg hat hz1))
   trace_state
   go_ret
   exact ⟨_, rfl, by simpa using HO.out, HB.out⟩
  ·have ha : a1 = 0 := by omega
   subst ha
   clear hb hz h0 e1
   go_enter Try.func111, Try.ntmps111
   go_wp2
   go_ret
   exact ⟨_, rfl, Kd.R_nil _ _ _ _ _, Below.refl _ _⟩
 ·rw [if_neg hb] at h
  cases h
mutual
def slices_Concat_int64_int64.l0 : Nat → List (List Int) → Int → List (List Int) → Int → Int → Option (List Int)
 | 0, _, _, _, _, _ => none
 | k + 1, x0, x3, x9, x10, x11 => if x11 < x10 then (if 0 ≤ x11 then (if x11 < (x9.length : Int) then (if (wrap64 (x3 + ((rd_L1 x9 x11).length : Int))) < 0 then (none) else (slices_Concat_int64_int64.l0 k x0 (wrap64 (x3 + ((rd_L1 x9 x11).length : Int))) x9 x10 (wrap64 (x11 + 1)))) else (none)) else (none)) else ((slices_Grow_int64_int64.f ([] : List Int) x3).bind fun t326 => (slices_Concat_int64_int64.l1 k t326 x0 (x0.length : Int) 0))
def slices_Concat_int64_int64.l1 : Nat → List Int → List (List Int) → Int → Int → Option (List Int)
 | 0, _, _, _, _ => none
 | k + 1, x6, x25, x26, x27 => if x27 < x26 then (if 0 ≤ x27 then (if x27 < (x25.length : Int) then (if x6.length + (rd_L1 x25 x27).length < 17592186044416 then (slices_Concat_int64_int64.l1 k (x6 ++ (rd_L1 x25 x27)) x25 x26 (wrap64 (x27 + 1))) else (none)) else (none)) else (none)) else (some x6)
end
def slices_Concat_int64_int64.f (k : Nat) (l0 : List (List Int)) : Option (List Int) := slices_Concat_int64_int64.l0 k l0 0 l0 (l0.length : Int) 0
theorem slices_Concat_int64_int64.calls (k : Nat) (A0 : Option Addr) (c0 : Nat) (l0 : List (List Int)) (r : List Int) (w : World) (hr0 : Kd.C (Kd.slice 2 (Kd.int .i64)) w A0 l0.length l0) (hc0 : l0.length ≤ c0) (h : slices_Concat_int64_int64.f k l0 = some r) :
  Calls Try.prog 62 #[.slice A0 l0.length c0] w fun e w' => ∃ v0_ : Value, e = .returned (v0_) ∧ Kd.R (Kd.int .i64) 2 w' w.heap.size (fun _ => True) v0_ r ∧ Below w.heap.size w w' := by
 have HR0 := aM hr0
 have HC0 := aM hc0
 clear hr0 hc0
 have HB := aM (Below.refl w.heap.size w)
 unfold slices_Concat_int64_int64.f at h
 have H := h
 clear h
 have H' := aM H
 clear H
 go_enter Try.func62, Try.ntmps62
 go_wp2
 go_loopg [3, 11] k (fun kq v3 v11 w' => ∃ (x3_1 : Int) (x11_1 : Int), v3 = .int .i64 x3_1 ∧ v11 = .int .i64 x11_1 ∧ Aside0 (slices_Concat_int64_int64.l0 kq l0 x3_1 l0 (l0.length : Int) x11_1 = some r) ∧ Aside0 (kq ≤ k) ∧ Aside0 (Below w.heap.size w w'))
 case atStart => exact ⟨(0), (0), (ex), (ex), H', ⟨Nat.le_refl _⟩, ⟨bq⟩⟩
 case round =>
  clear H'
  obtain ⟨x3_1, x11_1, rfl, rfl, HA, HK1, HB⟩ := hrel
  cases gk with
  | zero => exact absurd HA.out (by simp [slices_Concat_int64_int64.l0])
  | succ k1 =>
   have H := HA.out
   clear HA
   simp only [slices_Concat_int64_int64.l0] at H
   by_cases c2 : x11_1 < (l0.length : Int)
   ·rw [if_pos c2] at H
    have c2b0 := dT c2
    clear c2
    by_cases c3 : 0 ≤ x11_1
    ·rw [if_pos c3] at H
     have c3b0 := dT c3
     clear c3
     by_cases c4 : x11_1 < (l0.length : Int)
     ·rw [if_pos c4] at H
      have c4b0 := dT c4
      clear c4
      by_cases c5 : (wrap64 (x3_1 + ((rd_L1 l0 x11_1).length : Int))) < 0
      ·rw [if_pos c5] at H
       exact absurd H (by simp)
      ·rw [if_neg c5] at H
       have c5b0 := dF c5
       clear c5
       have H' := aM H
       clear H
       have p325 : 0 ≤ (x11_1 : Int) := dt
       have q325 : x11_1 < (l0.length : Int) := dt
       obtain ⟨ad325, A325_0, c325_0, e325, hx325_0, hl325_0, hi325_0⟩ := at_L1 HR0.out x11_1 p325 q325
       cases e325
       replace hx325_0 := (HB.out.cell (World.block_lt_of_cell? w _ hx325_0)).trans hx325_0
       have HR325_0 := aM hi325_0
       have HC325_0 := aM hl325_0
       clear hi325_0 hl325_0
       replace p325 := eq_true p325
       replace q325 := eq_true q325
       go_wp2
       go_roundg k1
       case measure => have := HK1.out; omega
       case rel => exact ⟨(wrap64 (x3_1 + ((rd_L1 l0 x11_1).length : Int))), (wrap64 (x11_1 + 1)), (ex), (ex), H', ⟨by have := HK1.out; omega⟩, ⟨bq⟩⟩
     ·rw [if_neg c4] at H
      exact absurd H (by simp)
    ·rw [if_neg c3] at H
     exact absurd H (by simp)
   ·rw [if_neg c2] at H
    have c2b0 := dF c2
    clear c2
    replace H := bo H
    obtain ⟨t326, A6, H⟩ := H
    replace H := bz H
    have H' := aM H
    clear H
    go_wp2_with (first | ((with_reducible refine gC 111 rfl ?_); refine gl (some 24) Try.func111 #[.slice none 0 0, .int .i64 x3_1] ?_; (refine (slices_Grow_int64_int64.calls none 0 [] x3_1 t326 _ ?s1 ?s2 A6.out).mono ?_); (case s1 => exact Kd.C_nil _ _); (case s2 => exact Nat.le_refl _); rintro e w7 ⟨v327, rfl, ho0, hb⟩; refine ii ?_; have HO328 := aM (rG ho0 (bZ bq)); replace HB := aM (bT bq hb); (try clear hb); (try clear ho0)))
    go_loopg [6, 27] k1 (fun kq v6 v27 w' => ∃ (x6_2 : List Int) (x27_2 : Int), v27 = .int .i64 x27_2 ∧ Aside0 (slices_Concat_int64_int64.l1 kq x6_2 l0 (l0.length : Int) x27_2 = some r) ∧ Aside0 (kq ≤ k1) ∧ Aside0 (Kd.R (Kd.int .i64) 2 w' w.heap.size (fun _ => True) v6 x6_2) ∧ Aside0 (Below w.heap.size w w'))
    case atStart => exact ⟨(t326), (0), (ex), H', ⟨Nat.le_refl _⟩, aM (rq HO328.out), ⟨bq⟩⟩
    case round =>
     clear H'
     try clear c1
     try clear c2
     try clear c2b0
     try clear p2
     try clear c3
     try clear c3b0
     try clear p3
     try clear q3
     try clear hx3
     try clear c4
     try clear c4b0
     try clear c5
     try clear c5b0
     try clear c6
     try clear p6
     try clear hx325_0
     try clear p325
     try clear q325
     obtain ⟨x6_2, x27_2, rfl, HA, HK2, HO_6, HB⟩ := hrel
     cases gk with
     | zero => exact absurd HA.out (by simp [slices_Concat_int64_int64.l1])
     | succ k2 =>
      have H := HA.out
      clear HA
      simp only [slices_Concat_int64_int64.l1] at H
      by_cases c8 : x27_2 < (l0.length : Int)
      ·rw [if_pos c8] at H
       have c8b0 := dT c8
       clear c8
       by_cases c9 : 0 ≤ x27_2
       ·rw [if_pos c9] at H
        have c9b0 := dT c9
        clear c9
        by_cases c10 : x27_2 < (l0.length : Int)
        ·rw [if_pos c10] at H
         have c10b0 := dT c10
         clear c10
         by_cases c11 : x6_2.length + (rd_L1 l0 x27_2).length < 17592186044416
         ·rw [if_pos c11] at H
          have LMc11 := aM c11
          clear c11
          obtain ⟨y330, Ny330⟩ : ∃ y_ : List Int, Aside0 (y_ = (x6_2 ++ (rd_L1 l0 x27_2))) := ⟨_, ⟨rfl⟩⟩
          rw [← Ny330.out] at H
          have H' := aM H
          clear H
          have p329 : 0 ≤ (x27_2 : Int) := dt
          have q329 : x27_2 < (l0.length : Int) := dt
          obtain ⟨ad329, A329_0, c329_0, e329, hx329_0, hl329_0, hi329_0⟩ := at_L1 HR0.out x27_2 p329 q329
          cases e329
          replace hx329_0 := (HB.out.cell (World.block_lt_of_cell? w _ hx329_0)).trans hx329_0
          have HR329_0 := aM hi329_0
          have HC329_0 := aM hl329_0
          clear hi329_0 hl329_0
          replace p329 := eq_true p329
          replace q329 := eq_true q329
          go_wp2_with (first | ((with_reducible refine gate_builtin (b := .append) (xs := #[.tmp 31, .tmp 32]) rfl ?_); at_builtin; refine Kd.R_append_rows (Kd.int .i64) (w0 := w) w.heap.size rfl (.tmp 31) (.tmp 32) 22 2 (.int .i64 0) 8 rfl Try.underlying22 info2 rfl (by decide) (by omega) u6 x6_2 (rd_L1 l0 x27_2) _ _ _ (fun _ => True) (fun _ => False) rfl rfl ?aO ?aR (fun _ _ h => h) (fun _ h => h.elim) ?aF ?aB ?aS ?aL ?_; (case aR => exact cq (cB HR329_0.out HB.out)); (case aB => exact bq); (case aF => exact (fun _ _ => trivial)); (case aO => exact (rq HO_6.out)); (case aS => exact (bZ bq)); (case aL => have := LMc11.out; omega); intro v331 w12 ho hb hg hat; rw [← Ny330.out] at ho; replace HB := aM hb; have HO332 := aM (ho); clear HO_6 ho hb hg hat))
          go_roundg k2
          case measure => have := HK1.out; have := HK2.out; omega
          case rel => exact ⟨(y330), (wrap64 (x27_2 + 1)), (ex), H', ⟨by have := HK1.out; have := HK2.out; omega⟩, aM (rq HO332.out), ⟨bq⟩⟩
         ·rw [if_neg c11] at H
          exact absurd H (by simp)
        ·rw [if_neg c10] at H
         exact absurd H (by simp)
       ·rw [if_neg c9] at H
        exact absurd H (by simp)
      ·rw [if_neg c8] at H
       have c8b0 := dF c8
       clear c8
       obtain rfl := Option.some.inj H
       go_wp2
       go_ret
       exact ⟨_, ew, by (with_reducible repeat (first | apply rA | apply rN | apply rD)); exact HO_6.out, bq⟩
def impl_isBlock.f (l0 : List Int) : Option (Bool) := (impl_SizeFault.f (l0.length : Int)).bind fun t333 => (some (t333 == 0))
theorem impl_isBlock.calls (A0 : Option Addr) (c0 : Nat) (l0 : List Int) (r : Bool) (w : World) (hr0 : Kd.C (Kd.int .i64) w A0 l0.length l0) (hc0 : l0.length ≤ c0) (h : impl_isBlock.f l0 = some r) :
  Calls Try.prog 106 #[.slice A0 l0.length c0] w fun e w' => e = .returned (.bool r) ∧ Drawn0 w w' := by
 have HR0 := aM hr0
 have HC0 := aM hc0
 clear hr0 hc0
 unfold impl_isBlock.f at h
 have H := h
 clear h
 replace H := bo H
 obtain ⟨t333, A2, H⟩ := H
 replace H := bz H
 obtain rfl := Option.some.inj H
 go_enter Try.func106, Try.ntmps106
 go_wp2_with (first | ((with_reducible refine gC 55 rfl ?_); refine gl (some 5) Try.func55 #[.int .i64 (l0.length : Int)] ?_; (with_reducible refine (impl_SizeFault.calls (l0.length : Int) t333 _ A2.out).mono ?_); rintro e w' ⟨rfl, ⟨nd, rfl⟩⟩; refine ii ?_))
 go_ret
 exact ⟨ex, dr⟩
def impl_gatherFault.f (k : Nat) (l0 : List Int) : Option (Int) := (impl_isBlock.f l0).bind fun t334 => ((impl_codeIf.f (!t334) 2).bind fun t335 => ((impl_allWithin.f l0 16777216).bind fun t336 => ((impl_codeIf.f (!t336) 3).bind fun t337 => ((impl_first.f k (([t335, t337] : List Int))).bind fun t341 => (some t341)))))
theorem impl_gatherFault.calls (k : Nat) (A0 : Option Addr) (c0 : Nat) (l0 : List Int) (r : Int) (w : World) (hr0 : Kd.C (Kd.int .i64) w A0 l0.length l0) (hc0 : l0.length ≤ c0) (h : impl_gatherFault.f k l0 = some r) :
  Calls Try.prog 68 #[.slice A0 l0.length c0] w fun e w' => e = .returned (.int .i64 r) ∧ Below w.heap.size w w' := by
 have HR0 := aM hr0
 have HC0 := aM hc0
 clear hr0 hc0
 have HB := aM (Below.refl w.heap.size w)
 unfold impl_gatherFault.f at h
 have H := h
 clear h
 replace H := bo H
 obtain ⟨t334, A2, H⟩ := H
 replace H := bz H
 replace H := bo H
 obtain ⟨t335, A3, H⟩ := H
 replace H := bz H
 replace H := bo H
 obtain ⟨t336, A4, H⟩ := H
 replace H := bz H
 replace H := bo H
 obtain ⟨t337, A5, H⟩ := H
 replace H := bz H
 obtain ⟨y338, Ny338⟩ : ∃ y_ : List Int, Aside0 (y_ = (([t335, t337] : List Int))) := ⟨_, ⟨rfl⟩⟩
 rw [← Ny338.out] at H
 replace H := bo H
 obtain ⟨t341, A6, H⟩ := H
 replace H : (some t341) = some r := H
 obtain rfl := Option.some.inj H
 go_enter Try.func68, Try.ntmps68
 go_wp2_with (first | ((with_reducible refine gC 106 rfl ?_); refine gl (some 4) Try.func106 #[.slice A0 l0.length c0] ?_; (with_reducible refine (impl_isBlock.calls _ _ l0 t334 _ ?s1 ?s2 A2.out).mono ?_); (case s1 => exact cq HR0.out); (case s2 => exact HC0.out); rintro e w' ⟨rfl, ⟨nd, rfl⟩⟩; refine ii ?_) | ((with_reducible refine gC 56 rfl ?_); refine gl (some 6) Try.func56 #[.bool (!t334), .int .i64 2] ?_; (with_reducible refine (impl_codeIf.calls (!t334) 2 t335 _ A3.out).mono ?_); rintro e w' ⟨rfl, ⟨nd, rfl⟩⟩; refine ii ?_) | ((with_reducible refine gC 87 rfl ?_); refine gl (some 8) Try.func87 #[.slice A0 l0.length c0, .int .i64 16777216] ?_; (with_reducible refine (impl_allWithin.calls _ _ l0 16777216 t336 _ ?s1 ?s2 A4.out).mono ?_); (case s1 => exact cq HR0.out); (case s2 => exact HC0.out); rintro e w7 ⟨rfl, hb⟩; refine ii ?_; replace HB := aM (bT bq hb); (try clear hb)) | ((with_reducible refine gC 56 rfl ?_); refine gl (some 10) Try.func56 #[.bool (!t336), .int .i64 3] ?_; (with_reducible refine (impl_codeIf.calls (!t336) 3 t337 _ A5.out).mono ?_); rintro e w' ⟨rfl, ⟨nd, rfl⟩⟩; refine ii ?_) | ((with_reducible refine gD 11 rfl ?_); refine Kd.R_lit (Kd.int .i64) _ 2 ?hg (N := 11) ?hd (xs := ([t335, t337] : List Int)) (inner := [.int .i64 t335, .int .i64 t337]) (ok := fun _ => True) (okp := fun _ => True) ?hr ?hp (fun _ hk => hk) trivial (Below.refl _ _) (Nat.le_refl _) (by simp) ?_; (case hd => rfl); (case hg => rfl); (case hr => first | (go_simp; done) | (go_simp; rfl)); (case hp => exact (Reps.one (show Kd.M (Kd.int .i64) _ _ _ t335 [.int .i64 t335] from rfl) (Reps.one (show Kd.M (Kd.int .i64) _ _ _ t337 [.int .i64 t337] from rfl) (Reps.none _ _)))); intro v339 w8 ho9 hb hg_ hnew_; clear hg_ hnew_; rw [← Ny338.out] at ho9; have HO340 := aM (rG ho9 (bZ bq)); replace HB := aM (bT bq hb); clear hb ho9; obtain ⟨Ao10, co10, rfl⟩ := rS HO340.out) | ((with_reducible refine gC 54 rfl ?_); refine gl (some 12) Try.func54 #[.slice Ao10 y338.length co10] ?_; (with_reducible refine (impl_first.calls k _ _ y338 t341 _ ?s1 ?s2 A6.out).mono ?_); (case s1 => exact cq (rR HO340.out).2.2); (case s2 => exact (rR HO340.out).2.1); rintro e w' ⟨rfl, ⟨nd, rfl⟩⟩; refine ii ?_))
 go_ret
 exact ⟨ew, bq⟩
def impl_turnOf.f (a0 : Int) (a1 : Int) : Option (Int × Int) := if a0 = 4 then (if a1 = 0 then some (101, 200) else (if a1 = 1 then some (311, 569) else (none))) else (if a0 = 8 then (if a1 = 0 then some (50, 100) else (if a1 = 1 then some (152, 297) else (if a1 = 2 then some (257, 483) else (if a1 = 3 then some (366, 650) else (none))))) else (if a1 = 0 then some (25, 50) else (if a1 = 1 then some (76, 150) else (if a1 = 2 then some (126, 249) else (if a1 = 3 then some (178, 345) else (if a1 = 4 then some (230, 438) else (if a1 = 5 then some (283, 526) else (if a1 = 6 then some (338, 610) else (if a1 = 7 then some (395, 688) else (none))))))))))
theorem impl_turnOf.calls (a0 : Int) (a1 : Int) (r1 : Int) (r2 : Int) (w : World) (h : impl_turnOf.f a0 a1 = some (r1, r2)) :
  Calls Try.prog 78 #[.int .i64 a0, .int .i64 a1] w fun e w' => e = .returned (.agg #[.int .i64 r1, .int .i64 r2]) ∧ Below w.heap.size w w' := by
 have hu := Try.underlying108
 unfold impl_turnOf.f at h
 by_cases h4 : a0 = 4
 ·subst h4
  rw [if_pos rfl] at h
  have hix : ∀ w, (Instr.index 144 (.agg #[.int .i64 101, .int .i64 200, .int .i64 311, .int .i64 569]) (.int .i64 a1)).run Try.prog w = .ok (.agg #[.int .i64 r1, .int .i64 r2]) w := by
   by_cases n0 : a1 = 0
   ·subst n0
    rw [if_pos rfl] at h
    have H := Option.some.inj h
    simp only [Prod.mk.injEq] at H
    obtain ⟨rfl, rfl⟩ := H
    exact fun _ => by kernel_rfl
   rw [if_neg n0] at h
   by_cases n1 : a1 = 1
   ·subst n1
    rw [if_pos rfl] at h
    have H := Option.some.inj h
    simp only [Prod.mk.injEq] at H
    obtain ⟨rfl, rfl⟩ := H
    exact fun _ => by kernel_rfl
   rw [if_neg n1] at h
   cases h
  clear h
  go_enter Try.func78, Try.ntmps78
  go_wp2
  exact bodyPost_ret (v := .agg #[.int .i64 r1, .int .i64 r2]) (by simp [results, Try.results78, go_sem]) rfl ⟨rfl, (Below.refl _ _).alloc (Nat.le_refl _) _⟩
 ·rw [if_neg h4] at h
  have h4b : (a0 == 4) = false := beq_eq_false_iff_ne.mpr h4
  by_cases h8 : a0 = 8
  ·subst h8
   rw [if_pos rfl] at h
   have hix : ∀ w, (Instr.index 145 (.agg #[.int .i64 50, .int .i64 100, .int .i64 152, .int .i64 297, .int .i64 257, .int .i64 483, .int .i64 366, .int .i64 650]) (.int .i64 a1)).run Try.prog w = .ok (.agg #[.int .i64 r1, .int .i64 r2]) w := by
    by_cases n0 : a1 = 0
    ·subst n0
     rw [if_pos rfl] at h
     have H := Option.some.inj h
     simp only [Prod.mk.injEq] at H
     obtain ⟨rfl, rfl⟩ := H
     exact fun _ => by kernel_rfl
    rw [if_neg n0] at h
    by_cases n1 : a1 = 1
    ·subst n1
     rw [if_pos rfl] at h
     have H := Option.some.inj h
     simp only [Prod.mk.injEq] at H
     obtain ⟨rfl, rfl⟩ := H
     exact fun _ => by kernel_rfl
    rw [if_neg n1] at h
    by_cases n2 : a1 = 2
    ·subst n2
     rw [if_pos rfl] at h
     have H := Option.some.inj h
     simp only [Prod.mk.injEq] at H
     obtain ⟨rfl, rfl⟩ := H
     exact fun _ => by kernel_rfl
    rw [if_neg n2] at h
    by_cases n3 : a1 = 3
    ·subst n3
     rw [if_pos rfl] at h
     have H := Option.some.inj h
     simp only [Prod.mk.injEq] at H
     obtain ⟨rfl, rfl⟩ := H
     exact fun _ => by kernel_rfl
    rw [if_neg n3] at h
    cases h
   clear h
   go_enter Try.func78, Try.ntmps78
   go_wp2
   exact bodyPost_ret (v := .agg #[.int .i64 r1, .int .i64 r2]) (by simp [results, Try.results78, go_sem]) rfl ⟨rfl, (Below.refl _ _).alloc (Nat.le_refl _) _⟩
  ·rw [if_neg h8] at h
   have h8b : (a0 == 8) = false := beq_eq_false_iff_ne.mpr h8
   have hix : ∀ w, (Instr.index 146 (.agg #[.int .i64 25, .int .i64 50, .int .i64 76, .int .i64 150, .int .i64 126, .int .i64 249, .int .i64 178, .int .i64 345, .int .i64 230, .int .i64 438, .int .i64 283, .int .i64 526, .int .i64 338, .int .i64 610, .int .i64 395, .int .i64 688]) (.int .i64 a1)).run Try.prog w = .ok (.agg #[.int .i64 r1, .int .i64 r2]) w := by
    by_cases n0 : a1 = 0
    ·subst n0
     rw [if_pos rfl] at h
     have H := Option.some.inj h
     simp only [Prod.mk.injEq] at H
     obtain ⟨rfl, rfl⟩ := H
     exact fun _ => by kernel_rfl
    rw [if_neg n0] at h
    by_cases n1 : a1 = 1
    ·subst n1
     rw [if_pos rfl] at h
     have H := Option.some.inj h
     simp only [Prod.mk.injEq] at H
     obtain ⟨rfl, rfl⟩ := H
     exact fun _ => by kernel_rfl
    rw [if_neg n1] at h
    by_cases n2 : a1 = 2
    ·subst n2
     rw [if_pos rfl] at h
     have H := Option.some.inj h
     simp only [Prod.mk.injEq] at H
     obtain ⟨rfl, rfl⟩ := H
     exact fun _ => by kernel_rfl
    rw [if_neg n2] at h
    by_cases n3 : a1 = 3
    ·subst n3
     rw [if_pos rfl] at h
     have H := Option.some.inj h
     simp only [Prod.mk.injEq] at H
     obtain ⟨rfl, rfl⟩ := H
     exact fun _ => by kernel_rfl
    rw [if_neg n3] at h
    by_cases n4 : a1 = 4
    ·subst n4
     rw [if_pos rfl] at h
     have H := Option.some.inj h
     simp only [Prod.mk.injEq] at H
     obtain ⟨rfl, rfl⟩ := H
     exact fun _ => by kernel_rfl
    rw [if_neg n4] at h
    by_cases n5 : a1 = 5
    ·subst n5
     rw [if_pos rfl] at h
     have H := Option.some.inj h
     simp only [Prod.mk.injEq] at H
     obtain ⟨rfl, rfl⟩ := H
     exact fun _ => by kernel_rfl
    rw [if_neg n5] at h
    by_cases n6 : a1 = 6
    ·subst n6
     rw [if_pos rfl] at h
     have H := Option.some.inj h
     simp only [Prod.mk.injEq] at H
     obtain ⟨rfl, rfl⟩ := H
     exact fun _ => by kernel_rfl
    rw [if_neg n6] at h
    by_cases n7 : a1 = 7
    ·subst n7
     rw [if_pos rfl] at h
     have H := Option.some.inj h
     simp only [Prod.mk.injEq] at H
     obtain ⟨rfl, rfl⟩ := H
     exact fun _ => by kernel_rfl
    rw [if_neg n7] at h
    cases h
   clear h
   go_enter Try.func78, Try.ntmps78
   go_wp2
   exact bodyPost_ret (v := .agg #[.int .i64 r1, .int .i64 r2]) (by simp [results, Try.results78, go_sem]) rfl ⟨rfl, (Below.refl _ _).alloc (Nat.le_refl _) _⟩
def impl_tenOf.f (a0 : Int) : Option (Int) := some ((wrap64 (a0 + 512)) / 1024)
theorem impl_tenOf.calls (a0 : Int) (r : Int) (w : World) (h : impl_tenOf.f a0 = some r) :
  Calls Try.prog 120 #[.int .i64 a0] w fun e w' => e = .returned (.int .i64 r) ∧ Drawn0 w w' := by
 unfold impl_tenOf.f at h
 have H := h
 clear h
 obtain rfl := Option.some.inj H
 go_enter Try.func120, Try.ntmps120
 go_wp2
 go_ret
 exact ⟨ex, dr⟩
def impl_turn_back.f (a0_0 : Int) (a0_1 : Int) (a1 : Int) (a2 : Int) : Option (Int × Int) := (impl_tenOf.f (wrap64 (a0_0 * a2))).bind fun t343 => ((impl_tenOf.f (wrap64 (a0_1 * (wrap64 (a1 + t343))))).bind fun t344 => ((impl_tenOf.f (wrap64 (a0_0 * (wrap64 (a2 - t344))))).bind fun t345 => (some (wrap64 ((wrap64 (a1 + t343)) + t345), wrap64 (a2 - t344)))))
theorem impl_turn_back.calls (a0_0 : Int) (a0_1 : Int) (a1 : Int) (a2 : Int) (r1 : Int) (r2 : Int) (w : World) (h : impl_turn_back.f a0_0 a0_1 a1 a2 = some (r1, r2)) :
  Calls Try.prog 116 #[.agg #[.int .i64 a0_0, .int .i64 a0_1], .int .i64 a1, .int .i64 a2] w fun e w' => e = .returned (.tuple #[.int .i64 r1, .int .i64 r2]) ∧ Below w.heap.size w w' := by
 have hu108 := Try.underlying108
 have HB := aM (Below.refl w.heap.size w)
 unfold impl_turn_back.f at h
 have H := h
 clear h
 replace H := bo H
 obtain ⟨t343, A4, H⟩ := H
 replace H := bz H
 replace H := bo H
 obtain ⟨t344, A5, H⟩ := H
 replace H := bz H
 replace H := bo H
 obtain ⟨t345, A6, H⟩ := H
 replace H := bz H
 simp only [Option.some.injEq, Prod.mk.injEq] at H
 obtain ⟨rfl, rfl⟩ := H
 go_enter Try.func116, Try.ntmps116
 go_wp2_with (first | ((with_reducible refine gD 3 rfl ?_); refine bx 3 108 #[.int .i64 a0_0, .int .i64 a0_1] ?_; intro gb342 hg w7 hbox hb; have BK342 := aM hbox; have GW342 := gw w hg; have GE342 := GW342; replace HB := aM (bT bq hb); clear hb hbox hg; obtain ⟨hcz8_0, hcz8_1, hfz8_0, hfz8_1⟩ := b2 BK342.out) | ((with_reducible refine gC 120 rfl ?_); refine gl (some 13) Try.func120 #[.int .i64 (wrap64 (a0_0 * a2))] ?_; (with_reducible refine (impl_tenOf.calls (wrap64 (a0_0 * a2)) t343 _ A4.out).mono ?_); rintro e w' ⟨rfl, ⟨nd, rfl⟩⟩; refine ii ?_) | ((with_reducible refine gC 120 rfl ?_); refine gl (some 20) Try.func120 #[.int .i64 (wrap64 (a0_1 * (wrap64 (a1 + t343))))] ?_; (with_reducible refine (impl_tenOf.calls (wrap64 (a0_1 * (wrap64 (a1 + t343)))) t344 _ A5.out).mono ?_); rintro e w' ⟨rfl, ⟨nd, rfl⟩⟩; refine ii ?_) | ((with_reducible refine gC 120 rfl ?_); refine gl (some 27) Try.func120 #[.int .i64 (wrap64 (a0_0 * (wrap64 (a2 - t344))))] ?_; (with_reducible refine (impl_tenOf.calls (wrap64 (a0_0 * (wrap64 (a2 - t344)))) t345 _ A6.out).mono ?_); rintro e w' ⟨rfl, ⟨nd, rfl⟩⟩; refine ii ?_))
 go_ret2
 exact ⟨ew, bq⟩
def impl_samples_1.f (a0 : Int) (a1 : Int) (a2 : Int) (a3 : Int) : Option (Int × Int) := (impl_turnOf.f a0 a1).bind fun bt346 => ((impl_turn_back.f bt346.1 bt346.2 a2 a3).bind fun bt348 => (some (bt348.1, bt348.2)))
theorem impl_samples_1.calls (a0 : Int) (a1 : Int) (a2 : Int) (a3 : Int) (r1 : Int) (r2 : Int) (w : World) (h : impl_samples_1.f a0 a1 a2 a3 = some (r1, r2)) :
  Calls Try.prog 115 #[.int .i64 a0, .int .i64 a1, .int .i64 a2, .int .i64 a3] w fun e w' => e = .returned (.tuple #[.int .i64 r1, .int .i64 r2]) ∧ Below w.heap.size w w' := by
 have HB := aM (Below.refl w.heap.size w)
 unfold impl_samples_1.f at h
 have H := h
 clear h
 replace H := bo H
 obtain ⟨⟨t346, t347⟩, A5, H⟩ := H
 replace H := bz H
 replace H := bo H
 obtain ⟨⟨t348, t349⟩, A6, H⟩ := H
 replace H := bz H
 simp only [Option.some.injEq, Prod.mk.injEq] at H
 obtain ⟨rfl, rfl⟩ := H
 go_enter Try.func115, Try.ntmps115
 go_wp2_with (first | ((with_reducible refine gC 78 rfl ?_); refine gl (some 12) Try.func78 #[.int .i64 a0, .int .i64 a1] ?_; (with_reducible refine (impl_turnOf.calls a0 a1 t346 t347 _ A5.out).mono ?_); rintro e w7 ⟨rfl, hb⟩; refine ii ?_; replace HB := aM (bT bq hb); (try clear hb)) | ((with_reducible refine gC 116 rfl ?_); refine gl (some 15) Try.func116 #[.agg #[.int .i64 t346, .int .i64 t347], .int .i64 a2, .int .i64 a3] ?_; (with_reducible refine (impl_turn_back.calls t346 t347 a2 a3 t348 t349 _ A6.out).mono ?_); rintro e w8 ⟨rfl, hb⟩; refine ii ?_; replace HB := aM (bT bq hb); (try clear hb)))
 go_ret2
 exact ⟨ew, bq⟩
theorem ok4_samples_1 (w : World) : FnOK4 115 #[] impl_samples_1.f w :=
 ⟨fun args w => enters_ Try.func115 kr rfl args w, fun W _ a b c d r1 r2 h => impl_samples_1.calls a b c d r1 r2 W h⟩
def impl_floorDiv.f (a0 : Int) (a1 : Int) : Option (Int) := if a1 = 0 then (none) else (if (Int.tmod a0 a1) < 0 then (some (wrap64 ((wrap64 (Int.tdiv a0 a1)) - 1))) else (some (wrap64 (Int.tdiv a0 a1))))
theorem impl_floorDiv.calls (a0 : Int) (a1 : Int) (r : Int) (w : World) (h : impl_floorDiv.f a0 a1 = some r) :
  Calls Try.prog 144 #[.int .i64 a0, .int .i64 a1] w fun e w' => e = .returned (.int .i64 r) ∧ Drawn0 w w' := by
 unfold impl_floorDiv.f at h
 have H := h
 clear h
 by_cases c3 : a1 = 0
 ·rw [if_pos c3] at H
  exact absurd H (by simp)
 ·rw [if_neg c3] at H
  have c3b0 := eF c3
  have c3b1 := nT c3
  by_cases c4 : (Int.tmod a0 a1) < 0
  ·rw [if_pos c4] at H
   have c4b0 := dT c4
   clear c4
   obtain rfl := Option.some.inj H
   go_enter Try.func144, Try.ntmps144
   go_wp2
   go_ret
   exact ⟨ex, dr⟩
  ·rw [if_neg c4] at H
   have c4b0 := dF c4
   clear c4
   obtain rfl := Option.some.inj H
   go_enter Try.func144, Try.ntmps144
   go_wp2
   go_ret
   exact ⟨ex, dr⟩
def impl_part.f (a0 : Int) (a1 : Int) : Option (Int × Int) := (impl_floorDiv.f a1 2).bind fun t350 => (some (wrap64 ((wrap64 (a0 - t350)) + a1), wrap64 (a0 - t350)))
theorem impl_part.calls (a0 : Int) (a1 : Int) (r1 : Int) (r2 : Int) (w : World) (h : impl_part.f a0 a1 = some (r1, r2)) :
  Calls Try.prog 117 #[.int .i64 a0, .int .i64 a1] w fun e w' => e = .returned (.tuple #[.int .i64 r1, .int .i64 r2]) ∧ Below w.heap.size w w' := by
 have HB := aM (Below.refl w.heap.size w)
 unfold impl_part.f at h
 have H := h
 clear h
 replace H := bo H
 obtain ⟨t350, A3, H⟩ := H
 replace H := bz H
 simp only [Option.some.injEq, Prod.mk.injEq] at H
 obtain ⟨rfl, rfl⟩ := H
 go_enter Try.func117, Try.ntmps117
 go_wp2_with (first | ((with_reducible refine gC 144 rfl ?_); refine gl (some 9) Try.func144 #[.int .i64 a1, .int .i64 2] ?_; (with_reducible refine (impl_floorDiv.calls a1 2 t350 _ A3.out).mono ?_); rintro e w' ⟨rfl, ⟨nd, rfl⟩⟩; refine ii ?_))
 go_ret2
 exact ⟨ew, bq⟩
theorem ok2_part (w : World) : FnOK2 117 #[] impl_part.f w :=
 ⟨fun args w => enters_ Try.func117 kr rfl args w, fun W _ a b r1 r2 h => impl_part.calls a b r1 r2 W h⟩
def impl_samples.f : Option Unit := some ()
theorem impl_samples.calls (w : World) (h : impl_samples.f = some ()) :
  Calls Try.prog 69 #[] w fun e w' => e = .returned (.agg #[.func (.func 115) #[] #[], .func (.func 117) #[] #[]]) ∧ Below w.heap.size w w' := by
 have hu94 := Try.underlying94
 go_enter Try.func69, Try.ntmps69
 go_wp2
 exact bodyPost_ret (v := .agg #[.func (.func 115) #[] #[], .func (.func 117) #[] #[]]) (by simp [results, Try.results69, go_sem]) rfl ⟨rfl, (Below.refl _ _).alloc (Nat.le_refl _) _⟩
theorem impl_PlayBlock_1.calls (B0 B1 g : Nat) (lb : Array Value) (S : Int → Int → Int → Int → Option (Int × Int)) (sz n a b r1 r2 : Int) (w : World) (hc0 : w.cell? ⟨B0, 0, none⟩ = some (.func (.func g) #[] lb)) (hc1 : w.cell? ⟨B1, 0, none⟩ = some (.int .i64 sz)) (hS : FnOK4 g lb S w) (h : S sz n a b = some (r1, r2)) :
  Calls Try.prog 70 #[.int .i64 n, .int .i64 a, .int .i64 b, .pointer (some ⟨B0, 0, none⟩), .pointer (some ⟨B1, 0, none⟩)] w fun e w' => e = .returned (.tuple #[.int .i64 r1, .int .i64 r2]) ∧ Below w.heap.size w w' := by
 have hen := hS.en
 have hcall : ∀ q : Nat, Calls Try.prog g (#[.int .i64 sz, .int .i64 n, .int .i64 a, .int .i64 b] ++ lb) (w.drewN q) fun e w' => e = .returned (.tuple #[.int .i64 r1, .int .i64 r2]) ∧ Below (w.drewN q).heap.size (w.drewN q) w' := fun q => hS.calls (bN (Below.refl _ _) q) sz n a b r1 r2 h
 have hcall0 : Calls Try.prog g (#[.int .i64 sz, .int .i64 n, .int .i64 a, .int .i64 b] ++ lb) w fun e w' => e = .returned (.tuple #[.int .i64 r1, .int .i64 r2]) ∧ Below w.heap.size w w' := hS.calls (Below.refl _ _) sz n a b r1 r2 h
 clear hS h
 go_enter Try.func70, Try.ntmps70
 go_wp2_with ((first | with_reducible refine hcall0.mono ?_ | with_reducible refine (hcall _).mono ?_); rintro e w1 ⟨rfl, hb⟩; have HB := aM hb; clear hb)
 go_ret2
 exact ⟨rfl, bq⟩
theorem ok3_PlayBlock_1 (B0 B1 g : Nat) (lb : Array Value) (S : Int → Int → Int → Int → Option (Int × Int)) (sz : Int) (w : World) (hc0 : w.cell? ⟨B0, 0, none⟩ = some (.func (.func g) #[] lb)) (hc1 : w.cell? ⟨B1, 0, none⟩ = some (.int .i64 sz)) (hS : FnOK4 g lb S w) :
  FnOK3 70 #[.pointer (some ⟨B0, 0, none⟩), .pointer (some ⟨B1, 0, none⟩)] (S sz) w :=
 ⟨fun args w => enters_ Try.func70 kr rfl args w, fun W hb a b c r1 r2 h => impl_PlayBlock_1.calls B0 B1 g lb S sz a b c r1 r2 W (by rw [hb.cell (World.block_lt_of_cell? w _ hc0)]; exact hc0) (by rw [hb.cell (World.block_lt_of_cell? w _ hc1)]; exact hc1) (hS.later hb) h⟩
end Go.Proofs.Ytmhnpogjkbmmnaa.PFnStates
