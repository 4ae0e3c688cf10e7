import Derived.Test.YtmhnpogjkbmmnaaPFnStatesx0
import Derived.Test.YtmhnpogjkbmmnaaPFnStatesx1
import Derived.Test.YtmhnpogjkbmmnaaPFnStatesx2
namespace Go.Proofs.Ytmhnpogjkbmmnaa.PFnStates
open Go.RowKit Go.Proofs.YtmhnpogjkbmmnaaW.PrintWords Go.Proofs.YtmhnpogjkbmmnaaW.PrintLast Go.Proofs.YtmhnpogjkbmmnaaW.PrintMore
open Go.Proofs.YtmhnpogjkbmmnaaW.PrintWords.Kd renaming R_alloc → rA, R_drewN → rN, R_drew → rD, R_mono → rM, R_base → rB, R_new' → rW, R_below → rL, R_lt → rT, R_lower → rG, R_elder' → rH, R_reads' → rR
open Go.Proofs.YtmhnpogjkbmmnaaW.PrintWords renaming below_drew1 → bD, below_set → bS, below_step → bT, below_size → bZ
open Go.Proofs.YtmhnpogjkbmmnaaW.PrintWords.Aside0 renaming mk → aM
attribute [local go_sem] max2_int min2_int max_two min_two max_three min_three max_four min_four
set_option maxHeartbeats 8000000
set_option maxRecDepth 100000
set_option linter.unusedVariables false
set_option linter.unusedSimpArgs false
mutual
def spec_l6Unite.j1 : Nat → List Int → Int → List Int → Option (List Int)
 | 0, _, _, _ => none
 | k + 1, x0, x5, x6 => (spec_l1Zeros.f x5).bind fun t136 => (spec_l6Unite.l1 k x0 x5 x6 t136 0)
def spec_l6Unite.l1 : Nat → List Int → Int → List Int → List Int → Int → Option (List Int)
 | 0, _, _, _, _, _ => none
 | k + 1, x0, x5, x6, x10, x11 => if x11 < (wrap64 (Int.tdiv x5 2)) then (if 0 ≤ x11 then (if x11 < (x0.length : Int) then (if x11 < (x6.length : Int) then ((spec_l5Part.f (rd x0 x11) (rd x6 x11)).bind fun bt141 => (if x11 < (x10.length : Int) then (if 0 ≤ (wrap64 ((wrap64 (x5 - 1)) - x11)) then (if (wrap64 ((wrap64 (x5 - 1)) - x11)) < (x10.length : Int) then (spec_l6Unite.l1 k x0 x5 x6 ((x10.set (x11 : Int).toNat bt141.1).set ((wrap64 ((wrap64 (x5 - 1)) - x11)) : Int).toNat bt141.2) (wrap64 (x11 + 1))) else (none)) else (none)) else (none))) else (none)) else (none)) else (none)) else (some x10)
def spec_l6Unite.l0 : Nat → List Int → Int → List Int → Int → Option (List Int)
 | 0, _, _, _, _ => none
 | k + 1, x0, x5, x6, x7 => if x7 < (wrap64 (Int.tdiv x5 4)) then (if 0 ≤ x7 then (if x7 < (x6.length : Int) then (if 0 ≤ (wrap64 ((wrap64 ((wrap64 (Int.tdiv x5 2)) - 1)) - x7)) then (if (wrap64 ((wrap64 ((wrap64 (Int.tdiv x5 2)) - 1)) - x7)) < (x6.length : Int) then ((spec_l5Back.f x5 x7 (rd x6 x7) (rd x6 (wrap64 ((wrap64 ((wrap64 (Int.tdiv x5 2)) - 1)) - x7)))).bind fun bt132 => (spec_l6Unite.l0 k x0 x5 ((x6.set (x7 : Int).toNat bt132.1).set ((wrap64 ((wrap64 ((wrap64 (Int.tdiv x5 2)) - 1)) - x7)) : Int).toNat bt132.2) (wrap64 (x7 + 1)))) else (none)) else (none)) else (none)) else (none)) else (spec_l6Unite.j1 k x0 x5 x6)
end
def spec_l6Unite.f (k : Nat) (l0 : List Int) (l1 : List Int) : Option (List Int) := (spec_l1Ints.f l1).bind fun t127 => (if (wrap64 ((l0.length : Int) * 2)) > 2 then (spec_l6Unite.l0 k l0 (wrap64 ((l0.length : Int) * 2)) t127 0) else (spec_l6Unite.j1 k l0 (wrap64 ((l0.length : Int) * 2)) t127))
def spec_l6Unite.T7 : Bool × List (List Nat × List Nat) := (true, [([], []), ([], []), ([], []), ([], []), ([2, 3], [2, 3]), ([4], [4]), ([], []), ([], []), ([7], [7]), ([8], [8]), ([], []), ([9, 10], [9, 10]), ([6, 11], [6, 11]), ([12], [12]), ([0, 1, 5, 13], [0, 1, 5, 13]), ([14], [14]), ([15], [15]), ([15], [15]), ([16, 14, 0, 1, 2, 3, 4, 5, 6, 7, 8, 9, 10, 11, 12, 13, 14, 15, 16], [16]), ([17, 18, 0, 1, 2, 3, 4, 5, 6, 7, 8, 9, 10, 11, 12, 13, 14, 15, 16, 17, 18], [17])])
def spec_l6Unite.B7 : List Nat := [0, 0, 0, 0, 12, 28, 0, 0, 128, 384, 0, 1920, 4032, 8128, 16383, 32767, 65535, 65535, 131071, 524287]
theorem spec_l6Unite.tab7 : rtab .any (opsOf Try.f141 7) = spec_l6Unite.T7 := by kernel_rfl
theorem spec_l6Unite.bits7 : waitsOk spec_l6Unite.T7.2 spec_l6Unite.B7 = true := by kernel_rfl
def spec_l6Unite.T14 : Bool × List (List Nat × List Nat) := (true, [([], []), ([], []), ([0, 1], [0, 1]), ([2], [2]), ([], []), ([], []), ([4, 5], [4, 5]), ([6], [6]), ([3, 7], [3, 7]), ([8], [8]), ([9], [9]), ([9], [9]), ([10, 8, 0, 1, 2, 3, 4, 5, 6, 7, 8, 9, 10], [10]), ([11, 12, 0, 1, 2, 3, 4, 5, 6, 7, 8, 9, 10, 11, 12], [11])])
def spec_l6Unite.B14 : List Nat := [0, 0, 3, 7, 0, 0, 48, 112, 255, 511, 1023, 1023, 2047, 8191]
theorem spec_l6Unite.tab14 : rtab .any (opsOf Try.f141 14) = spec_l6Unite.T14 := by kernel_rfl
theorem spec_l6Unite.bits14 : waitsOk spec_l6Unite.T14.2 spec_l6Unite.B14 = true := by kernel_rfl
theorem spec_l6Unite.calls (k : Nat) (P0_ : Nat → Prop) (A0 : Option Addr) (c0 : Nat) (l0 : List Int) (A1 : Option Addr) (c1 : Nat) (l1 : List Int) (r : List Int) (w : World) (hs0 : Kd.V (Kd.int .i64) 2 w w.heap.size (fun k_ => P0_ k_) (.slice A0 l0.length c0) l0) (hr1 : Kd.C (Kd.int .i64) w A1 l1.length l1) (hc1 : l1.length ≤ c1) (h : spec_l6Unite.f k l0 l1 = some r) :
  Calls Try.prog 141 #[.slice A0 l0.length c0, .slice A1 l1.length c1] w fun e w' => ∃ v0_ : Value, e = .returned (v0_) ∧ Kd.R (Kd.int .i64) 2 w' w.heap.size (fun k_ => (w.heap.size ≤ k_)) v0_ r ∧ Below w.heap.size w w' := by
 have HO0 := aM (show Kd.V (Kd.int .i64) 2 w w.heap.size (fun k_ => (P0_ k_ ∨ w.heap.size ≤ k_)) (.slice A0 l0.length c0) l0 from Kd.V_mono hs0 (fun k_ hk => .inl hk))
 have HR1 := aM hr1
 have HC1 := aM hc1
 clear hr1 hc1
 have HB := aM (Below.refl w.heap.size w)
 unfold spec_l6Unite.f at h
 have H := h
 clear h
 replace H := bo H
 obtain ⟨t127, A3, H⟩ := H
 replace H := bz H
 have HC4 := aM H
 clear H
 go_enter Try.func141, Try.ntmps141
 go_upto_if 20 with (first | ((with_reducible refine gC 114 rfl ?_); refine gl (some 18) Try.func114 #[.slice A1 l1.length c1] ?_; (with_reducible refine (spec_l1Ints.calls _ _ l1 t127 _ ?s1 ?s2 A3.out).mono ?_); (case s1 => exact cq HR1.out); (case s2 => exact HC1.out); rintro e w5 ⟨v128, rfl, ho0, hb⟩; refine ii ?_; replace HO0 := aM (Kd.V_elder' (vq HO0.out) (rB ho0) hb); have HO129 := aM (rG (Kd.R_newM (M := fun k_ => (w.heap.size ≤ k_)) ho0 (bZ bq) (fun k_ h_ => h_)) (bZ bq)); replace HB := aM (bT bq hb); (try clear hb); (try clear ho0)))
 (try simp only [Act.put, pa, pb, pc])
 go_cut [] (fun wc => ∃ (kq : Nat) (x6_3 : List Int), Aside0 (spec_l6Unite.j1 kq l0 (wrap64 ((l0.length : Int) * 2)) x6_3 = some r) ∧ Aside0 (kq ≤ k) ∧ Aside0 (Kd.V (Kd.int .i64) 2 wc w.heap.size (fun k_ => (P0_ k_ ∨ w.heap.size ≤ k_) ∧ nb v128 k_) (.slice A0 l0.length c0) l0) ∧ Aside0 (Kd.R (Kd.int .i64) 2 wc w.heap.size (fun k_ => (w.heap.size ≤ k_)) v128 x6_3) ∧ Aside0 (Below w.heap.size w wc))
 case first =>
  have H := HC4.out
  clear HC4
  by_cases c6 : (wrap64 ((l0.length : Int) * 2)) > 2
  ·rw [if_pos c6] at H
   have c6b0 : decide (2 < (wrap64 ((l0.length : Int) * 2))) = true := decide_eq_true c6
   clear c6
   (first | rw [c6b0] | (simp only [i64_w, i32_w]; rw [c6b0]) | skip)
   have H' := aM H
   clear H
   go_wp2
   go_loopg [7] k (fun kq v7 w' => ∃ (x6_1 : List Int) (x7_1 : Int), v7 = .int .i64 x7_1 ∧ Aside0 (spec_l6Unite.l0 kq l0 (wrap64 ((l0.length : Int) * 2)) x6_1 x7_1 = some r) ∧ Aside0 (kq ≤ k) ∧ Aside0 (Kd.V (Kd.int .i64) 2 w' w.heap.size (fun k_ => (P0_ k_ ∨ w.heap.size ≤ k_) ∧ nb v128 k_) (.slice A0 l0.length c0) l0) ∧ Aside0 (Kd.R (Kd.int .i64) 2 w' w.heap.size (fun k_ => (w.heap.size ≤ k_)) v128 x6_1) ∧ Aside0 (Below w.heap.size w w'))
   case atStart => exact ⟨(t127), (0), (ex), H', ⟨Nat.le_refl _⟩, aM (vq HO0.out), aM (rq (rM HO129.out (fun _ hk => hk.1))), ⟨bq⟩⟩
   case round =>
    clear H'
    try clear c1
    try clear p2
    try clear c6
    try clear c6b0
    try clear p6
    obtain ⟨x6_1, x7_1, rfl, HA, HK1, HO_0, HO_6, HB⟩ := hrel
    cases gk with
    | zero => exact absurd HA.out (by simp [spec_l6Unite.l0])
    | succ k1 =>
     have H := HA.out
     clear HA
     simp only [spec_l6Unite.l0] at H
     by_cases c7 : x7_1 < (wrap64 (Int.tdiv (wrap64 ((l0.length : Int) * 2)) 4))
     ·rw [if_pos c7] at H
      have c7b0 := dT c7
      clear c7
      by_cases c8 : 0 ≤ x7_1
      ·rw [if_pos c8] at H
       have c8b0 := dT c8
       clear c8
       by_cases c9 : x7_1 < (x6_1.length : Int)
       ·rw [if_pos c9] at H
        have c9b0 := dT c9
        clear c9
        obtain ⟨ji10, hji10⟩ : ∃ j_ : Int, (wrap64 ((wrap64 ((wrap64 (Int.tdiv (wrap64 ((l0.length : Int) * 2)) 2)) - 1)) - x7_1)) = j_ := ⟨_, rfl⟩
        rw [hji10] at H
        have hji10w : (IntKind.i64.wrap ((wrap64 ((wrap64 (Int.tdiv (wrap64 ((l0.length : Int) * 2)) 2)) - 1)) - x7_1)) = ji10 := (i64_w _).trans hji10
        by_cases c11 : 0 ≤ (ji10)
        ·rw [if_pos c11] at H
         have c11b0 := dT c11
         clear c11
         by_cases c12 : (ji10) < (x6_1.length : Int)
         ·rw [if_pos c12] at H
          have c12b0 := dT c12
          clear c12
          replace H := bo H
          obtain ⟨⟨t132, t133⟩, A13, H⟩ := H
          replace H := bz H
          obtain ⟨y134, Ny134⟩ : ∃ y_ : List Int, Aside0 (y_ = (x6_1.set (x7_1 : Int).toNat t132)) := ⟨_, ⟨rfl⟩⟩
          rw [← Ny134.out] at H
          obtain ⟨y135, Ny135⟩ : ∃ y_ : List Int, Aside0 (y_ = (y134.set ((ji10) : Int).toNat t133)) := ⟨_, ⟨rfl⟩⟩
          rw [← Ny135.out] at H
          have H' := aM H
          clear H
          try go_wp2
          replace HO_0 := aM (Kd.V_drew HO_0.out)
          replace HO_6 := zd HO_6
          replace HB := aM (bD HB.out)
          obtain ⟨Ao17, co17, eo17⟩ := Kd.R_slice HO_6.out
          (first | subst eo17 | (injection eo17 with f1_ f2_ f3_; have f4_ := f1_.symm; have f5_ := f3_.symm; clear f1_ f2_ f3_; subst f4_; subst f5_))
          have p130 : 0 ≤ (x7_1 : Int) := dt
          have q130 : x7_1 < (x6_1.length : Int) := dt
          obtain ⟨ad130, e130, hx130_0⟩ := Kd.at_int (rR HO_6.out).2.2 x7_1 p130 q130
          cases e130
          replace p130 := eq_true p130
          replace q130 := eq_true q130
          have p131 : 0 ≤ ((ji10) : Int) := dt
          have q131 : (ji10) < (x6_1.length : Int) := dt
          obtain ⟨ad131, e131, hx131_0⟩ := Kd.at_int (rR HO_6.out).2.2 (ji10) p131 q131
          obtain rfl : ad130 = ad131 := (by injection e131)
          replace p131 := eq_true p131
          replace q131 := eq_true q131
          refine start_ (n := 20) (S := fun w' => w'.cell? (ad130.add (x7_1).toNat) = some (.int .i64 (rd x6_1 x7_1)) ∧ w'.cell? (ad130.add ((ji10)).toNat) = some (.int .i64 (rd x6_1 (ji10)))) (ds := []) #[N,N,N,N,N,N,N,N,N,N,N,N,N,N,N,N,N,N,N,N] kr rfl rfl ⟨hx130_0, hx131_0⟩ (fun hHeld => ?_); refine with_tabW spec_l6Unite.tab7 spec_l6Unite.bits7 (fun HT_ HW_ => ?_)
          generalize wr.drew = w16 at HO_0 HO_6 HB hx130_0 hx131_0 hHeld ⊢
          refine p1 28 0 ?_
          refine p1 29 1 ?_
          refine p1 30 2 ?_
          refine p1 31 3 ?_
          refine p1 32 4 ?_
          refine p1 34 6 ?_
          refine p1 35 7 ?_
          refine p1 36 8 ?_
          refine p1 37 9 ?_
          refine p1 38 10 ?_
          refine p1 39 11 ?_
          refine p1 40 12 ?_
          refine t1 33 5 ?_ (hy := by rintro w' ⟨s0, s1⟩; go_simp; with_reducible rfl)
          refine t1 41 13 ?_ (hy := by rintro w' ⟨s0, s1⟩; go_simp; with_reducible rfl)
          refine o1 42 14 fun K hK => ?_
          refine goes_ Try.func142 kr rfl #[.int .i64 (wrap64 ((l0.length : Int) * 2)), .int .i64 x7_1, .int .i64 (rd x6_1 x7_1), .int .i64 (rd x6_1 (ji10))] (by rfl) rfl rfl (by (try simp only [List.map_toArray, List.map_cons, List.map_nil]); first | done | (simp only [hji10]; rfl) | rfl | (simp only [List.length_drop, List.length_take]; rfl)) ?_
          with_reducible refine (spec_l5Back.calls (wrap64 ((l0.length : Int) * 2)) x7_1 (rd x6_1 x7_1) (rd x6_1 (ji10)) t132 t133 _ A13.out).mono ?_
          rintro e w18 ⟨rfl, hb⟩
          have HS0_ := (hb.cell (World.block_lt_of_cell? _ _ (hHeld.1))).trans (hHeld.1)
          have HS1_ := (hb.cell (World.block_lt_of_cell? _ _ (hHeld.2))).trans (hHeld.2)
          refine ⟨_, rfl, ?_⟩
          replace HO_0 := aM (Kd.V_below (vq HO_0.out) hb)
          replace HO_6 := zl HO_6 hb
          replace HB := aM (bT bq hb)
          (try clear hb)
          (try clear hb2)
          (try clear hk)
          (try clear hi)
          refine hK.out _ _ ⟨HS0_, HS1_⟩ (fun hHeld => ?_)
          clear hK K
          refine nn ?_
          refine p1 27 15 ?_
          refine p1 43 16 ?_
          refine p1 44 17 ?_
          refine p1 8 18 ?_
          refine p1 9 19 ?_
          refine done_ (done_of HT_.out kr) ?_
          have p14 : 0 ≤ (x7_1 : Int) := dt
          have q14 : (x7_1 : Int) < ((x6_1.length : Int) : Int) := dt
          obtain ⟨go14, co14, eo14, gb14, gl14, cl14, HG14⟩ := Kd.R_form HO_6.out (by omega)
          (first | cases eo14 | (injection eo14 with ea_ en_ ec_; (first | subst ea_ | (injection ea_ with ea_; subst ea_)); subst ec_; clear en_))
          have GB14 := aM gb14
          have GG14 := aM HG14
          clear gb14 gl14 HG14
          (first | simp only [add_plain] at hx130_0 | skip)
          (first | simp only [add_plain] at hx131_0 | skip)
          obtain ⟨hx14_0, hf14_0⟩ := Kd.R_celln 0 HO_6.out (x7_1 : Int) p14 q14
          replace p14 := eq_true p14
          replace q14 := eq_true q14
          obtain ⟨hy19_, hz19_⟩ := Kd.R_celln 0 HO_6.out (x7_1 : Int) (dt) (dt)
          have HP19 := Kd.R_putg HO_6.out (x7_1 : Int) t132
          try go_wp2_with (first | ((with_reducible refine gate_store (t := 2) (p := 48) rfl ?_); refine store_event (t := 2) (p := 48) (v := ?vo_w20) (w1 := (w18.setCell ⟨go14, (x7_1 : Int).toNat, none⟩ (.int .i64 t132))) ?hg ?ho ?hn ?hr ?_; (case ho => rfl); (case hg => rfl); (case hn => rfl); (case hr => first | (go_simp; done) | (go_simp; rfl)); intro w20 hw; have hg : w18.grownBy w20 (some go14) := (by rw [hw]; exact HP19.2); have hp_ : Kd.R (Kd.int .i64) 2 w20 w.heap.size (fun k_ => (w.heap.size ≤ k_)) (.slice (some ⟨go14, 0, none⟩) x6_1.length co17) y134 := (by rw [hw, Ny134.out]; exact HP19.1); clear HP19; replace HO_0 := aM (Kd.V_afterv (v := (.slice (some ⟨go14, 0, none⟩) x6_1.length co17)) (v1 := (.slice (some ⟨go14, 0, none⟩) x6_1.length co17)) (ok := (fun k_ => (P0_ k_ ∨ w.heap.size ≤ k_))) (vq HO_0.out) hg (.inl rfl)); replace HO_6 := aM (hp_); replace HB := aM ((by rw [hw]; exact bS (HB.out) GB14.out : Below w.heap.size w w20)); clear hg hw hp_; have p15 : 0 ≤ ((ji10) : Int) := dt; have q15 : ((ji10) : Int) < ((x6_1.length : Int) : Int) := dt; obtain ⟨hx15_0, hf15_0⟩ := Kd.R_celln 0 HO_6.out ((ji10) : Int) p15 q15; replace p15 := eq_true p15; replace q15 := eq_true q15; obtain ⟨hy21_, hz21_⟩ := Kd.R_celln 0 HO_6.out ((ji10) : Int) (dt) (dt); have HP21 := Kd.R_putg HO_6.out ((ji10) : Int) t133) | ((with_reducible refine gate_store (t := 2) (p := 56) rfl ?_); refine store_event (t := 2) (p := 56) (v := ?vo_w22) (w1 := (w20.setCell ⟨go14, ((ji10) : Int).toNat, none⟩ (.int .i64 t133))) ?hg ?ho ?hn ?hr ?_; (case ho => rfl); (case hg => rfl); (case hn => rfl); (case hr => first | (go_simp; done) | (go_simp; rfl)); intro w22 hw; have hg : w20.grownBy w22 (some go14) := (by rw [hw]; exact HP21.2); have hp_ : Kd.R (Kd.int .i64) 2 w22 w.heap.size (fun k_ => (w.heap.size ≤ k_)) (.slice (some ⟨go14, 0, none⟩) x6_1.length co17) y135 := (by rw [hw, Ny135.out]; exact HP21.1); clear HP21; replace HO_0 := aM (Kd.V_afterv (v := (.slice (some ⟨go14, 0, none⟩) x6_1.length co17)) (v1 := (.slice (some ⟨go14, 0, none⟩) x6_1.length co17)) (ok := (fun k_ => (P0_ k_ ∨ w.heap.size ≤ k_))) (vq HO_0.out) hg (.inl rfl)); replace HO_6 := aM (hp_); replace HB := aM ((by rw [hw]; exact bS (HB.out) GB14.out : Below w.heap.size w w22)); clear hg hw hp_))
          go_roundg k1
          case measure => have := HK1.out; omega
          case rel => exact ⟨(y135), (wrap64 (x7_1 + 1)), (ex), H', ⟨by have := HK1.out; omega⟩, aM (vq HO_0.out), aM (rq HO_6.out), ⟨bq⟩⟩
         ·rw [if_neg c12] at H
          exact absurd H (by simp)
        ·rw [if_neg c11] at H
         exact absurd H (by simp)
       ·rw [if_neg c9] at H
        exact absurd H (by simp)
      ·rw [if_neg c8] at H
       exact absurd H (by simp)
     ·rw [if_neg c7] at H
      have c7b0 := dF c7
      clear c7
      have H' := aM H
      clear H
      go_wp2
      go_meet
      case rel => exact ⟨_, (x6_1), H', ⟨by have := HK1.out; first | omega | exact Nat.le_refl _⟩, aM (vq HO_0.out), aM (rq HO_6.out), ⟨bq⟩⟩
  ·rw [if_neg c6] at H
   have c6b0 : decide (2 < (wrap64 ((l0.length : Int) * 2))) = false := decide_eq_false c6
   clear c6
   (first | rw [c6b0] | (simp only [i64_w, i32_w]; rw [c6b0]) | skip)
   have H' := aM H
   clear H
   go_wp2
   go_meet
   case rel => exact ⟨_, (t127), H', ⟨by first | omega | exact Nat.le_refl _⟩, aM (vq HO0.out), aM (rq (rM HO129.out (fun _ hk => hk.1))), ⟨bq⟩⟩
 case rest =>
  clear HC4
  try clear c1
  try clear p1
  try clear q1
  try clear hx1
  try clear p2
  try clear c6
  try clear c6b0
  try clear p6
  try clear c7
  try clear c7b0
  try clear c8
  try clear c8b0
  try clear c9
  try clear c9b0
  try clear c11
  try clear c11b0
  try clear c12
  try clear c12b0
  try clear p13
  try clear q13
  try clear hx13
  try clear c14
  try clear p14
  try clear q14
  try clear hx14
  try clear hf14
  try clear p15
  try clear q15
  try clear hx15
  try clear hf15
  try clear hx130_0
  try clear hx131_0
  try clear hx14_0
  try clear hx15_0
  try clear p130
  try clear p131
  try clear p14
  try clear p15
  try clear p2
  try clear p6
  try clear q130
  try clear q131
  try clear q14
  try clear q15
  obtain ⟨kq, x6_3, HA, HJ3, HO_0, HO_6, HB⟩ := hcut
  cases kq with
  | zero => exact absurd HA.out (by simp [spec_l6Unite.j1])
  | succ kj3 =>
   have H := HA.out
   clear HA
   simp only [spec_l6Unite.j1] at H
   replace H := bo H
   obtain ⟨t136, A23, H⟩ := H
   replace H := bz H
   have H' := aM H
   clear H
   go_wp2_with (first | ((with_reducible refine gC 136 rfl ?_); refine gl (some 58) Try.func136 #[.int .i64 (wrap64 ((l0.length : Int) * 2))] ?_; (with_reducible refine (spec_l1Zeros.calls (wrap64 ((l0.length : Int) * 2)) t136 _ A23.out).mono ?_); rintro e w24 ⟨v137, rfl, ho0, hb⟩; refine ii ?_; replace HO_0 := aM (Kd.V_elder' (vq HO_0.out) (rB ho0) hb); have HO138 := aM (rG (wq (Kd.R_newM (M := fun k_ => (w.heap.size ≤ k_)) ho0 (bZ bq) (fun k_ h_ => h_)) HO_6) (bZ bq)); replace HO_6 := zh (rq HO_6.out) ho0 hb; replace HB := aM (bT bq hb); (try clear hb); (try clear ho0)))
   go_loopg [11] kj3 (fun kq v11 w' => ∃ (x10_2 : List Int) (x11_2 : Int), v11 = .int .i64 x11_2 ∧ Aside0 (spec_l6Unite.l1 kq l0 (wrap64 ((l0.length : Int) * 2)) x6_3 x10_2 x11_2 = some r) ∧ Aside0 (kq ≤ kj3) ∧ Aside0 (Kd.V (Kd.int .i64) 2 w' w.heap.size (fun k_ => (P0_ k_ ∨ w.heap.size ≤ k_) ∧ nb v128 k_ ∧ nb v137 k_) (.slice A0 l0.length c0) l0) ∧ Aside0 (Kd.R (Kd.int .i64) 2 w' w.heap.size (fun k_ => (w.heap.size ≤ k_) ∧ nb v137 k_) v128 x6_3) ∧ Aside0 (Kd.R (Kd.int .i64) 2 w' w.heap.size (fun k_ => (w.heap.size ≤ k_) ∧ nb v128 k_) v137 x10_2) ∧ Aside0 (Below w.heap.size w w'))
   case atStart => exact ⟨(t136), (0), (ex), H', ⟨Nat.le_refl _⟩, aM (vq (Kd.V_mono HO_0.out jq)), aM (rq HO_6.out), aM (rq (rM HO138.out jq)), ⟨bq⟩⟩
   case round =>
    clear H'
    try clear c1
    try clear p1
    try clear q1
    try clear hx1
    try clear p2
    try clear c6
    try clear c6b0
    try clear p6
    try clear c7
    try clear c7b0
    try clear c8
    try clear c8b0
    try clear c9
    try clear c9b0
    try clear c11
    try clear c11b0
    try clear c12
    try clear c12b0
    try clear c13
    try clear p13
    try clear q13
    try clear hx13
    try clear c14
    try clear p14
    try clear q14
    try clear hx14
    try clear hf14
    try clear p15
    try clear q15
    try clear hx15
    try clear hf15
    try clear hx130_0
    try clear hx131_0
    try clear hx14_0
    try clear hx15_0
    try clear p1
    try clear p13
    try clear p130
    try clear p131
    try clear p14
    try clear p15
    try clear p2
    try clear p6
    try clear q1
    try clear q13
    try clear q130
    try clear q131
    try clear q14
    try clear q15
    obtain ⟨x10_2, x11_2, rfl, HA, HK2, HO_0, HO_6, HO_10, HB⟩ := hrel
    cases gk with
    | zero => exact absurd HA.out (by simp [spec_l6Unite.l1])
    | succ k2 =>
     have H := HA.out
     clear HA
     simp only [spec_l6Unite.l1] at H
     by_cases c25 : x11_2 < (wrap64 (Int.tdiv (wrap64 ((l0.length : Int) * 2)) 2))
     ·rw [if_pos c25] at H
      have c25b0 := dT c25
      clear c25
      by_cases c26 : 0 ≤ x11_2
      ·rw [if_pos c26] at H
       have c26b0 := dT c26
       clear c26
       by_cases c27 : x11_2 < (l0.length : Int)
       ·rw [if_pos c27] at H
        have c27b0 := dT c27
        clear c27
        by_cases c28 : x11_2 < (x6_3.length : Int)
        ·rw [if_pos c28] at H
         have c28b0 := dT c28
         clear c28
         replace H := bo H
         obtain ⟨⟨t141, t142⟩, A29, H⟩ := H
         replace H := bz H
         by_cases c30 : x11_2 < (x10_2.length : Int)
         ·rw [if_pos c30] at H
          have c30b0 := dT c30
          clear c30
          obtain ⟨y143, Ny143⟩ : ∃ y_ : List Int, Aside0 (y_ = (x10_2.set (x11_2 : Int).toNat t141)) := ⟨_, ⟨rfl⟩⟩
          rw [← Ny143.out] at H
          obtain ⟨ji32, hji32⟩ : ∃ j_ : Int, (wrap64 ((wrap64 ((wrap64 ((l0.length : Int) * 2)) - 1)) - x11_2)) = j_ := ⟨_, rfl⟩
          rw [hji32] at H
          (try rw [hji32] at A29)
          have hji32w : (IntKind.i64.wrap ((wrap64 ((wrap64 ((l0.length : Int) * 2)) - 1)) - x11_2)) = ji32 := (i64_w _).trans hji32
          by_cases c33 : 0 ≤ (ji32)
          ·rw [if_pos c33] at H
           have c33b0 := dT c33
           clear c33
           by_cases c34 : (ji32) < (x10_2.length : Int)
           ·rw [if_pos c34] at H
            have c34b0 := dT c34
            clear c34
            obtain ⟨y144, Ny144⟩ : ∃ y_ : List Int, Aside0 (y_ = (y143.set ((ji32) : Int).toNat t142)) := ⟨_, ⟨rfl⟩⟩
            rw [← Ny144.out] at H
            have H' := aM H
            clear H
            try go_wp2
            replace HO_0 := aM (Kd.V_drew HO_0.out)
            replace HO_6 := zd HO_6
            replace HO_10 := zd HO_10
            replace HB := aM (bD HB.out)
            have p139 : 0 ≤ (x11_2 : Int) := dt
            have q139 : x11_2 < (l0.length : Int) := dt
            obtain ⟨ad139, e139, hx139_0⟩ := Kd.at_int (Kd.V_reads' HO_0.out).2.2 x11_2 p139 q139
            cases e139
            replace p139 := eq_true p139
            replace q139 := eq_true q139
            obtain ⟨Ao37, co37, eo37⟩ := Kd.R_slice HO_6.out
            (first | subst eo37 | (injection eo37 with f1_ f2_ f3_; have f4_ := f1_.symm; have f5_ := f3_.symm; clear f1_ f2_ f3_; subst f4_; subst f5_))
            have p140 : 0 ≤ (x11_2 : Int) := dt
            have q140 : x11_2 < (x6_3.length : Int) := dt
            obtain ⟨ad140, e140, hx140_0⟩ := Kd.at_int (rR HO_6.out).2.2 x11_2 p140 q140
            cases e140
            replace p140 := eq_true p140
            replace q140 := eq_true q140
            refine start_ (n := 14) (S := fun w' => w'.cell? (ad139.add (x11_2).toNat) = some (.int .i64 (rd l0 x11_2)) ∧ w'.cell? (ad140.add (x11_2).toNat) = some (.int .i64 (rd x6_3 x11_2))) (ds := []) #[N,N,N,N,N,N,N,N,N,N,N,N,N,N] kr rfl rfl ⟨hx139_0, hx140_0⟩ (fun hHeld => ?_); refine with_tabW spec_l6Unite.tab14 spec_l6Unite.bits14 (fun HT_ HW_ => ?_)
            generalize wr.drew = w36 at HO_0 HO_6 HO_10 HB hx139_0 hx140_0 hHeld ⊢
            refine p1 66 0 ?_
            refine p1 67 1 ?_
            refine p1 68 2 ?_
            refine p1 70 4 ?_
            refine p1 71 5 ?_
            refine p1 72 6 ?_
            refine t1 69 3 ?_ (hy := by rintro w' ⟨s0, s1⟩; go_simp; with_reducible rfl)
            refine t1 73 7 ?_ (hy := by rintro w' ⟨s0, s1⟩; go_simp; with_reducible rfl)
            refine o1 74 8 fun K hK => ?_
            refine goes_ Try.func157 kr rfl #[.int .i64 (rd l0 x11_2), .int .i64 (rd x6_3 x11_2)] (by rfl) rfl rfl mq ?_
            with_reducible refine (spec_l5Part.calls (rd l0 x11_2) (rd x6_3 x11_2) t141 t142 _ A29.out).mono ?_
            rintro e w38 ⟨rfl, hb⟩
            have HS0_ := (hb.cell (World.block_lt_of_cell? _ _ (hHeld.1))).trans (hHeld.1)
            have HS1_ := (hb.cell (World.block_lt_of_cell? _ _ (hHeld.2))).trans (hHeld.2)
            refine ⟨_, rfl, ?_⟩
            replace HO_0 := aM (Kd.V_below (vq HO_0.out) hb)
            replace HO_6 := zl HO_6 hb
            replace HO_10 := zl HO_10 hb
            replace HB := aM (bT bq hb)
            (try clear hb)
            (try clear hb2)
            (try clear hk)
            (try clear hi)
            refine hK.out _ _ ⟨HS0_, HS1_⟩ (fun hHeld => ?_)
            clear hK K
            refine nn ?_
            refine p1 65 9 ?_
            refine p1 75 10 ?_
            refine p1 76 11 ?_
            refine p1 12 12 ?_
            refine p1 13 13 ?_
            refine done_ (done_of HT_.out kr) ?_
            have p31 : 0 ≤ (x11_2 : Int) := dt
            have q31 : (x11_2 : Int) < ((x10_2.length : Int) : Int) := dt
            obtain ⟨go31, co31, eo31, gb31, gl31, cl31, HG31⟩ := Kd.R_form HO_10.out (by omega)
            (first | cases eo31 | (injection eo31 with ea_ en_ ec_; (first | subst ea_ | (injection ea_ with ea_; subst ea_)); subst ec_; clear en_))
            have GB31 := aM gb31
            have GG31 := aM HG31
            clear gb31 gl31 HG31
            obtain ⟨hx31_0, hf31_0⟩ := Kd.R_celln 0 HO_10.out (x11_2 : Int) p31 q31
            replace p31 := eq_true p31
            replace q31 := eq_true q31
            obtain ⟨hy39_, hz39_⟩ := Kd.R_celln 0 HO_10.out (x11_2 : Int) (dt) (dt)
            have HP39 := Kd.R_putg HO_10.out (x11_2 : Int) t141
            try go_wp2_with (first | ((with_reducible refine gate_store (t := 2) (p := 80) rfl ?_); refine store_event (t := 2) (p := 80) (v := ?vo_w40) (w1 := (w38.setCell ⟨go31, (x11_2 : Int).toNat, none⟩ (.int .i64 t141))) ?hg ?ho ?hn ?hr ?_; (case ho => rfl); (case hg => rfl); (case hn => rfl); (case hr => first | (go_simp; done) | (go_simp; rfl)); intro w40 hw; have hg : w38.grownBy w40 (some go31) := (by rw [hw]; exact HP39.2); have hp_ : Kd.R (Kd.int .i64) 2 w40 w.heap.size (fun k_ => (w.heap.size ≤ k_) ∧ some k_ ≠ (.slice (some ad140) x6_3.length co37 : Value).ownBlock) (.slice (some ⟨go31, 0, none⟩) x10_2.length co31) y143 := (by rw [hw, Ny143.out]; exact HP39.1); clear HP39; replace HO_0 := aM (Kd.V_afterv (v := (.slice (some ⟨go31, 0, none⟩) x10_2.length co31)) (v1 := (.slice (some ⟨go31, 0, none⟩) x10_2.length co31)) (ok := (fun k_ => (P0_ k_ ∨ w.heap.size ≤ k_) ∧ some k_ ≠ (.slice (some ad140) x6_3.length co37 : Value).ownBlock)) (vq (Kd.V_mono HO_0.out jq)) hg (.inl rfl)); replace HO_6 := aM (Kd.R_after (v := (.slice (some ⟨go31, 0, none⟩) x10_2.length co31)) (v1 := (.slice (some ⟨go31, 0, none⟩) x10_2.length co31)) (ok := (fun k_ => (w.heap.size ≤ k_))) (rq HO_6.out) hg (.inl rfl)); replace HO_10 := aM (hp_); replace HB := aM ((by rw [hw]; exact bS (HB.out) GB31.out : Below w.heap.size w w40)); clear hg hw hp_; have p35 : 0 ≤ ((ji32) : Int) := dt; have q35 : ((ji32) : Int) < ((x10_2.length : Int) : Int) := dt; obtain ⟨hx35_0, hf35_0⟩ := Kd.R_celln 0 HO_10.out ((ji32) : Int) p35 q35; replace p35 := eq_true p35; replace q35 := eq_true q35; obtain ⟨hy41_, hz41_⟩ := Kd.R_celln 0 HO_10.out ((ji32) : Int) (dt) (dt); have HP41 := Kd.R_putg HO_10.out ((ji32) : Int) t142) | ((with_reducible refine gate_store (t := 2) (p := 87) rfl ?_); refine store_event (t := 2) (p := 87) (v := ?vo_w42) (w1 := (w40.setCell ⟨go31, ((ji32) : Int).toNat, none⟩ (.int .i64 t142))) ?hg ?ho ?hn ?hr ?_; (case ho => rfl); (case hg => rfl); (case hn => rfl); (case hr => first | (go_simp; done) | (go_simp; rfl)); intro w42 hw; have hg : w40.grownBy w42 (some go31) := (by rw [hw]; exact HP41.2); have hp_ : Kd.R (Kd.int .i64) 2 w42 w.heap.size (fun k_ => (w.heap.size ≤ k_) ∧ some k_ ≠ (.slice (some ad140) x6_3.length co37 : Value).ownBlock) (.slice (some ⟨go31, 0, none⟩) x10_2.length co31) y144 := (by rw [hw, Ny144.out]; exact HP41.1); clear HP41; replace HO_0 := aM (Kd.V_afterv (v := (.slice (some ⟨go31, 0, none⟩) x10_2.length co31)) (v1 := (.slice (some ⟨go31, 0, none⟩) x10_2.length co31)) (ok := (fun k_ => (P0_ k_ ∨ w.heap.size ≤ k_) ∧ some k_ ≠ (.slice (some ad140) x6_3.length co37 : Value).ownBlock)) (vq HO_0.out) hg (.inl rfl)); replace HO_6 := aM (Kd.R_after (v := (.slice (some ⟨go31, 0, none⟩) x10_2.length co31)) (v1 := (.slice (some ⟨go31, 0, none⟩) x10_2.length co31)) (ok := (fun k_ => (w.heap.size ≤ k_))) (rq HO_6.out) hg (.inl rfl)); replace HO_10 := aM (hp_); replace HB := aM ((by rw [hw]; exact bS (HB.out) GB31.out : Below w.heap.size w w42)); clear hg hw hp_))
            go_roundg k2
            case measure => have := HJ3.out; have := HK2.out; omega
            case rel => exact ⟨(y144), (wrap64 (x11_2 + 1)), (ex), H', ⟨by have := HJ3.out; have := HK2.out; omega⟩, aM (vq (Kd.V_mono HO_0.out jq)), aM (rq HO_6.out), aM (rq HO_10.out), ⟨bq⟩⟩
           ·rw [if_neg c34] at H
            exact absurd H (by simp)
          ·rw [if_neg c33] at H
           exact absurd H (by simp)
         ·rw [if_neg c30] at H
          exact absurd H (by simp)
        ·rw [if_neg c28] at H
         exact absurd H (by simp)
       ·rw [if_neg c27] at H
        exact absurd H (by simp)
      ·rw [if_neg c26] at H
       exact absurd H (by simp)
     ·rw [if_neg c25] at H
      have c25b0 := dF c25
      clear c25
      obtain rfl := Option.some.inj H
      go_wp2
      go_ret
      exact ⟨_, ew, by (with_reducible repeat (first | apply rA | apply rN | apply rD)); exact rM HO_10.out (fun _ hk => hk.1), bq⟩
end Go.Proofs.Ytmhnpogjkbmmnaa.PFnStates
