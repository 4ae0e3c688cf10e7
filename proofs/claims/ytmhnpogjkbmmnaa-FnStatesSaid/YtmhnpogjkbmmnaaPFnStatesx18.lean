import Derived.Test.YtmhnpogjkbmmnaaPFnStatesx0
import Derived.Test.YtmhnpogjkbmmnaaPFnStatesx10
import Derived.Test.YtmhnpogjkbmmnaaPFnStatesx17
namespace Go.Proofs.Ytmhnpogjkbmmnaa.PFnStates
open Go.RowKit Go.Proofs.YtmhnpogjkbmmnaaW.PrintWords Go.Proofs.YtmhnpogjkbmmnaaW.PrintLast Go.Proofs.YtmhnpogjkbmmnaaW.PrintMore
open Go.Proofs.YtmhnpogjkbmmnaaW.PrintWords.Kd renaming R_alloc → rA, R_drewN → rN, R_drew → rD, R_far → rF, R_mono → rM, R_base → rB, R_new' → rW, R_below → rL, R_lt → rT, R_lower → rG, R_elder' → rH, R_reads' → rR
open Go.Proofs.YtmhnpogjkbmmnaaW.PrintWords renaming below_alloc → bA, pw_below_drewN → bN, below_drew1 → bD, below_set → bS, below_step → bT, below_size → bZ
open Go.Proofs.YtmhnpogjkbmmnaaW.PrintWords.Aside0 renaming mk → aM
attribute [local go_sem] max2_int min2_int max_two min_two max_three min_three max_four min_four
set_option maxHeartbeats 8000000
set_option maxRecDepth 100000
set_option linter.unusedVariables false
set_option linter.unusedSimpArgs false
mutual
def impl_halve.l0 : Nat → List Int → Int → List Int → List Int → Int → Int → Option (List Int × List Int)
 | 0, _, _, _, _, _, _ => none
 | k + 1, x0, x4, x5, x6, x19, x20 => if x20 < x19 then (if 0 ≤ x20 then (if x20 < (x0.length : Int) then (if 0 ≤ (wrap64 ((wrap64 (x4 - 1)) - x20)) then (if (wrap64 ((wrap64 (x4 - 1)) - x20)) < (x0.length : Int) then ((impl_mix.f (rd x0 x20) (rd x0 (wrap64 ((wrap64 (x4 - 1)) - x20)))).bind fun bt537 => (if x20 < (x5.length : Int) then (if x20 < (x6.length : Int) then (impl_halve.l0 k x0 x4 (x5.set (x20 : Int).toNat bt537.1) (x6.set (x20 : Int).toNat bt537.2) x19 (wrap64 (x20 + 1))) else (none)) else (none))) else (none)) else (none)) else (none)) else (none)) else (impl_halve.l1 k x4 x5 x6 (wrap64 (Int.tdiv x4 4)) 0)
def impl_halve.l1 : Nat → Int → List Int → List Int → Int → Int → Option (List Int × List Int)
 | 0, _, _, _, _, _ => none
 | k + 1, x4, x5, x6, x46, x47 => if x47 < x46 then ((impl_turnOf.f x4 x47).bind fun bt541 => (if 0 ≤ x47 then (if x47 < (x6.length : Int) then (if 0 ≤ (wrap64 ((wrap64 ((wrap64 (Int.tdiv x4 2)) - 1)) - x47)) then (if (wrap64 ((wrap64 ((wrap64 (Int.tdiv x4 2)) - 1)) - x47)) < (x6.length : Int) then ((impl_turn_forth.f bt541.1 bt541.2 (rd x6 x47) (rd x6 (wrap64 ((wrap64 ((wrap64 (Int.tdiv x4 2)) - 1)) - x47)))).bind fun bt545 => (impl_halve.l1 k x4 x5 ((x6.set (x47 : Int).toNat bt545.1).set ((wrap64 ((wrap64 ((wrap64 (Int.tdiv x4 2)) - 1)) - x47)) : Int).toNat bt545.2) x46 (wrap64 (x47 + 1)))) else (none)) else (none)) else (none)) else (none))) else (some (x5, x6))
end
def impl_halve.f (k : Nat) (l0 : List Int) : Option (List Int × List Int) := if 0 ≤ (wrap64 ((l0.length : Int) / 2)) then (if (wrap64 ((l0.length : Int) / 2) : Int).toNat ≤ 35184372088832 then ((some (List.replicate (wrap64 ((l0.length : Int) / 2) : Int).toNat 0 : List Int)).bind fun y529 => (impl_halve.l0 k l0 (l0.length : Int) y529 (List.replicate (wrap64 ((l0.length : Int) / 2) : Int).toNat 0) (y529.length : Int) 0)) else (none)) else (none)
def impl_halve.T2 : Bool × List (List Nat × List Nat) := (true, [([], []), ([0], [0]), ([1, 1], [1]), ([], []), ([3], [3]), ([4, 4], [4]), ([2, 0, 1, 2], [2]), ([5, 6, 0, 1, 2, 3, 4, 5, 6], [5])])
def impl_halve.B2 : List Nat := [0, 1, 3, 0, 8, 24, 7, 127]
theorem impl_halve.tab2 : rtab .any (opsOf Try.f121 2) = impl_halve.T2 := by kernel_rfl
theorem impl_halve.bits2 : waitsOk impl_halve.T2.2 impl_halve.B2 = true := by kernel_rfl
def impl_halve.T6 : Bool × List (List Nat × List Nat) := (true, [([], []), ([], []), ([], []), ([], []), ([], []), ([], []), ([4, 5], [4, 5]), ([6], [6]), ([], []), ([], []), ([9], [9]), ([], []), ([10, 11], [10, 11]), ([8, 12], [8, 12]), ([13], [13]), ([7, 14], [7, 14]), ([15], [15]), ([16], [16]), ([16], [16]), ([0, 1, 0, 1, 4, 5, 6, 7, 8, 9, 10, 11, 12, 13, 14, 15, 16, 17], [0, 1]), ([19, 17, 15, 0, 1, 4, 5, 6, 7, 8, 9, 10, 11, 12, 13, 14, 15, 16, 17], [17, 19]), ([2, 3, 0, 1, 2, 3, 4, 5, 6, 7, 8, 9, 10, 11, 12, 13, 14, 15, 16, 17, 18, 19, 20], [2, 3]), ([21, 18, 20, 0, 1, 2, 3, 4, 5, 6, 7, 8, 9, 10, 11, 12, 13, 14, 15, 16, 17, 18, 19, 20], [18, 21])])
def impl_halve.B6 : List Nat := [0, 0, 0, 0, 0, 0, 48, 112, 0, 0, 512, 0, 3584, 7936, 16128, 32752, 65520, 131056, 131056, 262131, 786419, 2097151, 4194303]
theorem impl_halve.tab6 : rtab .any (opsOf Try.f121 6) = impl_halve.T6 := by kernel_rfl
theorem impl_halve.bits6 : waitsOk impl_halve.T6.2 impl_halve.B6 = true := by kernel_rfl
def impl_halve.T12 : Bool × List (List Nat × List Nat) := (true, [([], []), ([], []), ([], []), ([], []), ([], []), ([], []), ([4, 5], [4, 5]), ([], []), ([], []), ([7, 8], [7, 8]), ([9], [9]), ([], []), ([], []), ([11, 12], [11, 12]), ([13], [13]), ([6, 10, 14, 6], [6, 10, 14]), ([15], [15]), ([16], [16]), ([16], [16]), ([0, 1, 0, 1, 4, 5, 6, 7, 8, 9, 10, 11, 12, 13, 14, 15, 16, 17], [0, 1]), ([19, 17, 15, 0, 1, 4, 5, 6, 7, 8, 9, 10, 11, 12, 13, 14, 15, 16, 17], [17, 19]), ([2, 3, 0, 1, 2, 3, 4, 5, 6, 7, 8, 9, 10, 11, 12, 13, 14, 15, 16, 17, 18, 19, 20], [2, 3]), ([21, 18, 20, 0, 1, 2, 3, 4, 5, 6, 7, 8, 9, 10, 11, 12, 13, 14, 15, 16, 17, 18, 19, 20], [18, 21])])
def impl_halve.B12 : List Nat := [0, 0, 0, 0, 0, 0, 48, 0, 0, 384, 896, 0, 0, 6144, 14336, 32752, 65520, 131056, 131056, 262131, 786419, 2097151, 4194303]
theorem impl_halve.tab12 : rtab .any (opsOf Try.f121 12) = impl_halve.T12 := by kernel_rfl
theorem impl_halve.bits12 : waitsOk impl_halve.T12.2 impl_halve.B12 = true := by kernel_rfl
theorem impl_halve.calls (k : Nat) (A0 : Option Addr) (c0 : Nat) (l0 : List Int) (r1 : List Int) (r2 : List Int) (w : World) (hr0 : Kd.C (Kd.int .i64) w A0 l0.length l0) (hc0 : l0.length ≤ c0) (h : impl_halve.f k l0 = some (r1, r2)) :
  Calls Try.prog 121 #[.slice A0 l0.length c0] w fun e w' => ∃ v0_ v1_ : Value, e = .returned (.tuple #[v0_, v1_]) ∧ Kd.R (Kd.int .i64) 2 w' w.heap.size (fun k_ => nb v1_ k_) v0_ r1 ∧ Kd.R (Kd.int .i64) 2 w' w.heap.size (fun k_ => nb v0_ k_) v1_ r2 ∧ Below w.heap.size w w' := by
 have HR0 := aM hr0
 have HC0 := aM hc0
 clear hr0 hc0
 have HB := aM (Below.refl w.heap.size w)
 unfold impl_halve.f at h
 have H := h
 clear h
 obtain ⟨ji2, hji2⟩ : ∃ j_ : Int, (wrap64 ((l0.length : Int) / 2)) = j_ := ⟨_, rfl⟩
 rw [hji2] at H
 have hji2w : (IntKind.i64.wrap ((l0.length : Int) / 2)) = ji2 := (i64_w _).trans hji2
 by_cases c3 : 0 ≤ (ji2)
 ·rw [if_pos c3] at H
  have c3b0 := eq_true c3
  have c3b1 := dT c3
  clear c3
  by_cases c4 : (ji2 : Int).toNat ≤ 35184372088832
  ·rw [if_pos c4] at H
   have c4b0 := eq_true c4
   have c4b1 := dT c4
   clear c4
   obtain ⟨y529, hy529⟩ : ∃ y_ : List Int, y_ = (List.replicate (ji2 : Int).toNat 0) := ⟨_, rfl⟩
   replace H : (impl_halve.l0 k l0 (l0.length : Int) y529 (List.replicate (ji2 : Int).toNat 0) (y529.length : Int) 0) = some (r1, r2) := hl hy529 H
   have Ny529 := aM hy529
   clear hy529
   obtain ⟨y532, Ny532⟩ : ∃ y_ : List Int, Aside0 (y_ = (List.replicate (ji2 : Int).toNat 0)) := ⟨_, ⟨rfl⟩⟩
   rw [← Ny532.out] at H
   have H' := aM H
   clear H
   go_enter Try.func121, Try.ntmps121
   try go_wp2
   replace HB := aM (bD HB.out)
   refine start_ (n := 8) (S := fun w' => True) (ds := []) #[N,N,N,N,N,N,N,N] kr rfl rfl trivial (fun hHeld => ?_); refine with_tabW impl_halve.tab2 impl_halve.bits2 (fun HT_ HW_ => ?_)
   generalize w.drew = w5 at HB hHeld ⊢
   refine p1 12 0 ?_
   refine p1 13 1 ?_
   refine p1 15 3 ?_
   refine p1 16 4 ?_
   refine join_ (σ := Value × Value) 1 #[Y,Y,Y,Y,Y,Y,Y,N] (fun s_ => [(14, s_.1), (17, s_.2), (5, s_.1)]) (fun s_ w' => (Kd.R (Kd.int .i64) 2 w' w.heap.size (fun k_ => some k_ ≠ (s_.2 : Value).ownBlock) s_.1 y529) ∧ (Kd.R (Kd.int .i64) 2 w' w.heap.size (fun k_ => some k_ ≠ (s_.1 : Value).ownBlock) s_.2 y532) ∧ (Below w.heap.size w w')) ?_ ?_
   rotate_left
   ·intro hCont
    refine two_ (i := 2) (j := 5) (Ni := some 14) (Nj := some 17) #[Y,Y,Y,Y,Y,N,N,N] #[Y,Y,N,Y,Y,Y,N,N] rfl rfl rfl rfl (two_of HT_.out kr) (by decide) (by decide) (fun K hK => ?_) (fun K hK => ?_)
    ·skip
     refine Kd.R_make_step (Kd.int .i64) _ 2 (by rfl) (N := 14) rfl 22 _ _ rfl ji2 rfl rfl Try.underlying22 (.int .i64 0) 8 info2 rfl (by decide) (by omega) 0 (ok := fun _ => True) (okp := fun _ => True) rfl (fun _ hk => hk) trivial (dt) (Nat.le_trans (Nat.mul_le_mul_right _ (dt : ji2.toNat ≤ 35184372088832)) (by omega)) (Below.refl _ _) (Nat.le_refl _) ?_
     intro v530 w6 ho7 hb hg_ hnew_
     clear hg_ hnew_
     rw [← Ny529.out] at ho7
     have HO531 := aM (rG ho7 (bZ bq))
     replace HB := aM (bT bq hb)
     clear hb ho7
     refine hK.out _ _ trivial (fun hHeld => ?_)
     clear hK K
     refine nn ?_
     refine p1 5 6 ?_
     refine o1 17 5 fun K hK => ?_
     refine Kd.R_make_step (Kd.int .i64) _ 2 (by rfl) (N := 17) rfl 22 _ _ rfl ji2 rfl rfl Try.underlying22 (.int .i64 0) 8 info2 rfl (by decide) (by omega) 0 (ok := fun _ => True) (okp := fun _ => True) rfl (fun _ hk => hk) trivial (dt) (Nat.le_trans (Nat.mul_le_mul_right _ (dt : ji2.toNat ≤ 35184372088832)) (by omega)) (Below.refl _ _) (Nat.le_refl _) ?_
     intro v533 w8 ho9 hb hg_ hnew_
     clear hg_ hnew_
     rw [← Ny532.out] at ho9
     have HO534 := aM (rG (wq ho9 HO531) (bZ bq))
     replace HO531 := zh (rq HO531.out) ho9 hb
     replace HB := aM (bT bq hb)
     clear hb ho9
     refine hK.out _ _ trivial (fun hHeld => ?_)
     clear hK K
     refine nn ?_
     exact norm_ (by simp only [putAll, Act.put, pa, pb, pc]) (hCont (v530, v533) _ ⟨(rq (rM HO531.out (fun _ hk => hk.2))), (rq (rM HO534.out (fun _ hk => hk.2))), bq⟩)
    ·skip
     refine Kd.R_make_step (Kd.int .i64) _ 2 (by rfl) (N := 17) rfl 22 _ _ rfl ji2 rfl rfl Try.underlying22 (.int .i64 0) 8 info2 rfl (by decide) (by omega) 0 (ok := fun _ => True) (okp := fun _ => True) rfl (fun _ hk => hk) trivial (dt) (Nat.le_trans (Nat.mul_le_mul_right _ (dt : ji2.toNat ≤ 35184372088832)) (by omega)) (Below.refl _ _) (Nat.le_refl _) ?_
     intro v533 w6 ho7 hb hg_ hnew_
     clear hg_ hnew_
     rw [← Ny532.out] at ho7
     have HO534 := aM (rG ho7 (bZ bq))
     replace HB := aM (bT bq hb)
     clear hb ho7
     refine hK.out _ _ trivial (fun hHeld => ?_)
     clear hK K
     refine nn ?_
     refine o1 14 2 fun K hK => ?_
     refine Kd.R_make_step (Kd.int .i64) _ 2 (by rfl) (N := 14) rfl 22 _ _ rfl ji2 rfl rfl Try.underlying22 (.int .i64 0) 8 info2 rfl (by decide) (by omega) 0 (ok := fun _ => True) (okp := fun _ => True) rfl (fun _ hk => hk) trivial (dt) (Nat.le_trans (Nat.mul_le_mul_right _ (dt : ji2.toNat ≤ 35184372088832)) (by omega)) (Below.refl _ _) (Nat.le_refl _) ?_
     intro v530 w8 ho9 hb hg_ hnew_
     clear hg_ hnew_
     rw [← Ny529.out] at ho9
     have HO531 := aM (rG (wq ho9 HO534) (bZ bq))
     replace HO534 := zh (rq HO534.out) ho9 hb
     replace HB := aM (bT bq hb)
     clear hb ho9
     refine hK.out _ _ trivial (fun hHeld => ?_)
     clear hK K
     refine nn ?_
     refine p1 5 6 ?_
     exact norm_ (by simp only [putAll, Act.put, pa, pb, pc]) (hCont (v530, v533) _ ⟨(rq (rM HO531.out (fun _ hk => hk.2))), (rq (rM HO534.out (fun _ hk => hk.2))), bq⟩)
   rintro ⟨v530, v533⟩ w10 ⟨h0_, h1_, h2_⟩
   have n0_ := aM h0_
   have n1_ := aM h1_
   have n2_ := aM h2_
   clear HB h0_ h1_ h2_
   have HO531 := n0_
   have HO534 := n1_
   have HB := n2_
   clear n0_ n1_ n2_
   have hHeld := trivial
   refine norm_ (a' := ?_) ?_ ?_
   rotate_left
   ·simp only [putAll, Act.put, pa, pb, pc]
    rfl
   refine p1 6 7 ?_
   refine done_ (done_of HT_.out kr) ?_
   obtain ⟨Ao11, co11, eo11⟩ := Kd.R_slice HO531.out
   subst eo11
   try go_wp2
   go_loopg [20] k (fun kq v20 w' => ∃ (x5_1 : List Int) (x6_1 : List Int) (x20_1 : Int), v20 = .int .i64 x20_1 ∧ Aside0 (impl_halve.l0 kq l0 (l0.length : Int) x5_1 x6_1 (y529.length : Int) x20_1 = some (r1, r2)) ∧ Aside0 (kq ≤ k) ∧ Aside0 (Kd.R (Kd.int .i64) 2 w' w.heap.size (fun k_ => nb v533 k_) (.slice Ao11 y529.length co11) x5_1) ∧ Aside0 (Kd.R (Kd.int .i64) 2 w' w.heap.size (fun k_ => some k_ ≠ ((.slice Ao11 y529.length co11) : Value).ownBlock) v533 x6_1) ∧ Aside0 (Below w.heap.size w w'))
   case atStart => exact ⟨(y529), (y532), (0), (ex), H', ⟨Nat.le_refl _⟩, aM (rq HO531.out), aM (rq HO534.out), ⟨bq⟩⟩
   case round =>
    clear H'
    try clear c1
    try clear p2
    try clear c3
    try clear c3b0
    try clear c3b1
    try clear c4
    try clear c4b0
    try clear c4b1
    try clear p6
    obtain ⟨x5_1, x6_1, x20_1, rfl, HA, HK1, HO_5, HO_6, HB⟩ := hrel
    have hl5_1 := (rR HO_5.out).1
    rw [hl5_1] at HO_5
    (try simp only [hl5_1])
    (try simp only [hl5_1] at HO_6)
    cases gk with
    | zero => exact absurd HA.out (by simp [impl_halve.l0])
    | succ k1 =>
     have H := HA.out
     clear HA
     simp only [impl_halve.l0] at H
     by_cases c12 : x20_1 < (y529.length : Int)
     ·rw [if_pos c12] at H
      have c12b0 := dT c12
      (try (have c12h0 := c12b0; simp only [hl5_1] at c12h0))
      clear c12
      by_cases c13 : 0 ≤ x20_1
      ·rw [if_pos c13] at H
       have c13b0 := dT c13
       (try (have c13h0 := c13b0; simp only [hl5_1] at c13h0))
       clear c13
       by_cases c14 : x20_1 < (l0.length : Int)
       ·rw [if_pos c14] at H
        have c14b0 := dT c14
        (try (have c14h0 := c14b0; simp only [hl5_1] at c14h0))
        clear c14
        obtain ⟨ji15, hji15⟩ : ∃ j_ : Int, (wrap64 ((wrap64 ((l0.length : Int) - 1)) - x20_1)) = j_ := ⟨_, rfl⟩
        rw [hji15] at H
        have hji15w : (IntKind.i64.wrap ((wrap64 ((l0.length : Int) - 1)) - x20_1)) = ji15 := (i64_w _).trans hji15
        by_cases c16 : 0 ≤ (ji15)
        ·rw [if_pos c16] at H
         have c16b0 := dT c16
         (try (have c16h0 := c16b0; simp only [hl5_1] at c16h0))
         clear c16
         by_cases c17 : (ji15) < (l0.length : Int)
         ·rw [if_pos c17] at H
          have c17b0 := dT c17
          (try (have c17h0 := c17b0; simp only [hl5_1] at c17h0))
          clear c17
          replace H := bo H
          obtain ⟨⟨t537, t538⟩, A18, H⟩ := H
          replace H := bz H
          by_cases c19 : x20_1 < (x5_1.length : Int)
          ·rw [if_pos c19] at H
           have c19b0 := dT c19
           (try (have c19h0 := c19b0; simp only [hl5_1] at c19h0))
           clear c19
           obtain ⟨y539, Ny539⟩ : ∃ y_ : List Int, Aside0 (y_ = (x5_1.set (x20_1 : Int).toNat t537)) := ⟨_, ⟨rfl⟩⟩
           rw [← Ny539.out] at H
           by_cases c21 : x20_1 < (x6_1.length : Int)
           ·rw [if_pos c21] at H
            have c21b0 := dT c21
            (try (have c21h0 := c21b0; simp only [hl5_1] at c21h0))
            clear c21
            obtain ⟨y540, Ny540⟩ : ∃ y_ : List Int, Aside0 (y_ = (x6_1.set (x20_1 : Int).toNat t538)) := ⟨_, ⟨rfl⟩⟩
            rw [← Ny540.out] at H
            have H' := aM H
            clear H
            try go_wp2
            replace HO_5 := zd HO_5
            replace HO_6 := zd HO_6
            replace HB := aM (bD HB.out)
            have p535 : 0 ≤ (x20_1 : Int) := dt
            have q535 : x20_1 < (l0.length : Int) := dt
            obtain ⟨ad535, e535, hx535_0⟩ := Kd.at_int HR0.out x20_1 p535 q535
            have hw535_0 := hx535_0
            cases e535
            replace hx535_0 := (HB.out.cell (World.block_lt_of_cell? w _ hx535_0)).trans hx535_0
            replace p535 := eq_true p535
            replace q535 := eq_true q535
            have p536 : 0 ≤ ((ji15) : Int) := dt
            have q536 : (ji15) < (l0.length : Int) := dt
            obtain ⟨ad536, e536, hx536_0⟩ := Kd.at_int HR0.out (ji15) p536 q536
            have hw536_0 := hx536_0
            obtain rfl : ad535 = ad536 := (by injection e536)
            replace hx536_0 := (HB.out.cell (World.block_lt_of_cell? w _ hx536_0)).trans hx536_0
            replace p536 := eq_true p536
            replace q536 := eq_true q536
            refine start_ (n := 23) (S := fun w' => w'.cell? (ad535.add (x20_1).toNat) = some (.int .i64 (rd l0 x20_1)) ∧ w'.cell? (ad535.add ((ji15)).toNat) = some (.int .i64 (rd l0 (ji15)))) (ds := [20, 22]) #[N,N,N,N,N,N,N,N,N,N,N,N,N,N,N,N,N,N,N,N,N,N,N] kr rfl rfl ⟨((HB.out.cell (World.block_lt_of_cell? w _ hw535_0)).trans hw535_0), ((HB.out.cell (World.block_lt_of_cell? w _ hw536_0)).trans hw536_0)⟩ (fun hHeld => ?_); refine with_tabW impl_halve.tab6 impl_halve.bits6 (fun HT_ HW_ => ?_)
            generalize wr.drew = w23 at HO_5 HO_6 HB hx535_0 hx536_0 hHeld ⊢
            refine p1 24 0 ?_
            refine p1 25 1 ?_
            refine p1 26 2 ?_
            refine p1 27 3 ?_
            refine p1 28 4 ?_
            refine p1 29 5 ?_
            refine p1 30 6 ?_
            refine p1 32 8 ?_
            refine p1 33 9 ?_
            refine p1 34 10 ?_
            refine p1 35 11 ?_
            refine p1 36 12 ?_
            refine p1 37 13 ?_
            refine t1 31 7 ?_ (hy := by rintro w' ⟨s0, s1⟩; go_simp; with_reducible rfl)
            refine t1 38 14 ?_ (hy := by rintro w' ⟨s0, s1⟩; go_simp; with_reducible rfl)
            refine o1 39 15 fun K hK => ?_
            refine goes_ Try.func146 kr rfl #[.int .i64 (rd l0 x20_1), .int .i64 (rd l0 (ji15))] (by rfl) rfl rfl (by (try simp only [List.map_toArray, List.map_cons, List.map_nil]); first | done | (simp only [hji15]; rfl) | rfl | (simp only [List.length_drop, List.length_take]; rfl)) ?_
            with_reducible refine (impl_mix.calls (rd l0 x20_1) (rd l0 (ji15)) t537 t538 _ A18.out).mono ?_
            rintro e w24 ⟨rfl, hdr_⟩; have hb := Drawn0.below hdr_
            refine ⟨_, rfl, ?_⟩
            replace HO_5 := zl HO_5 hb
            replace HO_6 := zl HO_6 hb
            replace HB := aM (bT bq hb)
            (try clear hb)
            (try clear hb2)
            (try clear hk)
            (try clear hi)
            have p20 : 0 ≤ (x20_1 : Int) := dt
            have q20 : (x20_1 : Int) < ((x5_1.length : Int) : Int) := dt
            obtain ⟨go20, co20, eo20, gb20, gl20, cl20, HG20⟩ := Kd.R_form HO_5.out (by omega)
            (first | cases eo20 | (injection eo20 with ea_ en_ ec_; (first | subst ea_ | (injection ea_ with ea_; subst ea_)); subst ec_; clear en_))
            have GB20 := aM gb20
            have GG20 := aM HG20
            clear gb20 gl20 HG20
            obtain ⟨hx20_0, hf20_0⟩ := Kd.R_celln 0 HO_5.out (x20_1 : Int) p20 q20
            replace p20 := eq_true p20
            replace q20 := eq_true q20
            have HP25 := Kd.R_putn HO_5.out (x20_1 : Int) t537
            rw [← Ny539.out] at HP25
            have HQ25 := aM HP25
            clear HP25
            have p22 : 0 ≤ (x20_1 : Int) := dt
            have q22 : (x20_1 : Int) < ((x6_1.length : Int) : Int) := dt
            obtain ⟨go22, co22, eo22, gb22, gl22, cl22, HG22⟩ := Kd.R_form HO_6.out (by omega)
            (first | cases eo22 | (injection eo22 with ea_ en_ ec_; (first | subst ea_ | (injection ea_ with ea_; subst ea_)); subst ec_; clear en_))
            have GB22 := aM gb22
            have GG22 := aM HG22
            clear gb22 gl22 HG22
            obtain ⟨hx22_0, hf22_0⟩ := Kd.R_celln 0 (rF (p := ⟨go20, (x20_1 : Int).toNat, none⟩) (rM HO_6.out (fun k_ hk => (⟨hk, fun e_ => hk (by rw [e_]; rfl)⟩ : _ ∧ k_ ≠ go20))) (fun _ hk => hk.2) (.int .i64 t537)) (x20_1 : Int) p22 q22
            have hd22_0 := cell_drew_set hx22_0
            have hg22_0 := frozen_set hf22_0
            replace p22 := eq_true p22
            replace q22 := eq_true q22
            have HP26 := Kd.R_putn (rF (p := ⟨go20, (x20_1 : Int).toNat, none⟩) (rM HO_6.out (fun k_ hk => (⟨hk, fun e_ => hk (by rw [e_]; rfl)⟩ : _ ∧ k_ ≠ go20))) (fun _ hk => hk.2) (.int .i64 t537)) (x20_1 : Int) t538
            rw [← Ny540.out] at HP26
            have HQ26 := aM HP26
            clear HP26
            refine hK.out _ _ ⟨((HB.out.cell (World.block_lt_of_cell? w _ hw535_0)).trans hw535_0), ((HB.out.cell (World.block_lt_of_cell? w _ hw536_0)).trans hw536_0)⟩ (fun hHeld => ?_)
            clear hK K
            refine nn ?_
            refine p1 23 16 ?_
            refine p1 40 17 ?_
            refine p1 41 18 ?_
            refine p1 42 19 ?_
            refine last_ (i := 20) (N := none) #[Y,Y,Y,Y,Y,Y,Y,Y,Y,Y,Y,Y,Y,Y,Y,Y,Y,Y,Y,Y,Y,N,N] rfl rfl (one_of HT_.out kr) (by decide) (fun K hK => ?_)
            refine skip_ (w1 := ?_) (by rfl) rfl ?_ ?_
            rotate_left
            ·go_simp
             rfl
            refine hK.out _ _ ?_
            clear hK K
            refine p1 43 21 ?_
            refine last_ (i := 22) (N := none) #[Y,Y,Y,Y,Y,Y,Y,Y,Y,Y,Y,Y,Y,Y,Y,Y,Y,Y,Y,Y,Y,Y,Y] rfl rfl (one_of HT_.out kr) (by decide) (fun K hK => ?_)
            refine skip_ (w1 := ?_) (by rfl) rfl ?_ ?_
            rotate_left
            ·go_simp
             rfl
            refine hK.out _ _ ?_
            clear hK K
            refine done_ (done_of HT_.out kr) ?_
            try go_wp2
            (try simp only [← hl5_1])
            go_roundg k1
            case measure => have := HK1.out; omega
            case rel => exact ⟨(y539), (y540), (wrap64 (x20_1 + 1)), (ex), H', ⟨by have := HK1.out; omega⟩, ⟨by (try simp only [hl5_1]); (with_reducible repeat (first | apply rA | apply rN | apply rD)); exact rM (rF (p := ⟨go22, (x20_1 : Int).toNat, none⟩) (rM HQ25.out (fun k_ hk => (⟨hk, fun e_ => hk (by rw [e_]; rfl)⟩ : _ ∧ k_ ≠ go22))) (fun _ hk => hk.2) (.int .i64 t538)) (fun _ hk => hk.1)⟩, ⟨by (try simp only [hl5_1]); (with_reducible repeat (first | apply rA | apply rN | apply rD)); exact rM HQ26.out (fun _ hk => hk.1)⟩, ⟨by repeat (first | (with_reducible first | exact HB.out | apply bA | apply bN | apply bD | refine bS ?_ GB20.out | refine bS ?_ GB22.out) | exact HB.out)⟩⟩
           ·rw [if_neg c21] at H
            exact absurd H (by simp)
          ·rw [if_neg c19] at H
           exact absurd H (by simp)
         ·rw [if_neg c17] at H
          exact absurd H (by simp)
        ·rw [if_neg c16] at H
         exact absurd H (by simp)
       ·rw [if_neg c14] at H
        exact absurd H (by simp)
      ·rw [if_neg c13] at H
       exact absurd H (by simp)
     ·rw [if_neg c12] at H
      have c12b0 := dF c12
      (try (have c12h0 := c12b0; simp only [hl5_1] at c12h0))
      clear c12
      have H' := aM H
      clear H
      go_wp2
      go_loopg [47] k1 (fun kq v47 w' => ∃ (x6_2 : List Int) (x47_2 : Int), v47 = .int .i64 x47_2 ∧ Aside0 (impl_halve.l1 kq (l0.length : Int) x5_1 x6_2 (wrap64 (Int.tdiv (l0.length : Int) 4)) x47_2 = some (r1, r2)) ∧ Aside0 (kq ≤ k1) ∧ Aside0 (Kd.R (Kd.int .i64) 2 w' w.heap.size (fun k_ => nb v533 k_) (.slice Ao11 x5_1.length co11) x5_1) ∧ Aside0 (Kd.R (Kd.int .i64) 2 w' w.heap.size (fun k_ => some k_ ≠ ((.slice Ao11 x5_1.length co11) : Value).ownBlock) v533 x6_2) ∧ Aside0 (Below w.heap.size w w'))
      case atStart => exact ⟨(x6_1), (0), (ex), H', ⟨Nat.le_refl _⟩, ⟨by (try simp only [hl5_1]); (with_reducible repeat (first | apply rA | apply rN | apply rD)); exact HO_5.out⟩, ⟨by (try simp only [hl5_1]); (with_reducible repeat (first | apply rA | apply rN | apply rD)); exact HO_6.out⟩, ⟨bq⟩⟩
      case round =>
       clear H'
       try clear c1
       try clear c2
       try clear p2
       try clear q2
       try clear hx2
       try clear hf2
       try clear c3
       try clear c3b0
       try clear c3b1
       try clear c4
       try clear c4b0
       try clear c4b1
       try clear p5
       try clear q5
       try clear hx5
       try clear p6
       try clear c12
       try clear c12b0
       try clear c13
       try clear c13b0
       try clear c14
       try clear c14b0
       try clear c16
       try clear c16b0
       try clear c17
       try clear c17b0
       try clear c19
       try clear c19b0
       try clear p20
       try clear q20
       try clear hx20
       try clear hf20
       try clear c21
       try clear c21b0
       try clear p22
       try clear q22
       try clear hx22
       try clear hf22
       try clear hx20_0
       try clear hx22_0
       try clear hx535_0
       try clear hx536_0
       try clear p2
       try clear p20
       try clear p22
       try clear p535
       try clear p536
       try clear p6
       try clear q20
       try clear q22
       try clear q535
       try clear q536
       obtain ⟨x6_2, x47_2, rfl, HA, HK2, HO_5, HO_6, HB⟩ := hrel
       cases gk with
       | zero => exact absurd HA.out (by simp [impl_halve.l1])
       | succ k2 =>
        have H := HA.out
        clear HA
        simp only [impl_halve.l1] at H
        by_cases c27 : x47_2 < (wrap64 (Int.tdiv (l0.length : Int) 4))
        ·rw [if_pos c27] at H
         have c27b0 := dT c27
         have c27b0t : decide (x47_2 < (wrap64 ((l0.length : Int) / 4))) = true := by have h_ := c27b0; rw [Int.tdiv_eq_ediv_of_nonneg (Int.natCast_nonneg _)] at h_; exact h_
         (try rw [hji2] at c27b0t)
         (try (have c27h0 := c27b0; simp only [hl5_1] at c27h0))
         clear c27
         replace H := bo H
         obtain ⟨⟨t541, t542⟩, A28, H⟩ := H
         replace H := bz H
         by_cases c29 : 0 ≤ x47_2
         ·rw [if_pos c29] at H
          have c29b0 := dT c29
          (try (have c29h0 := c29b0; simp only [hl5_1] at c29h0))
          clear c29
          by_cases c30 : x47_2 < (x6_2.length : Int)
          ·rw [if_pos c30] at H
           have c30b0 := dT c30
           (try (have c30h0 := c30b0; simp only [hl5_1] at c30h0))
           clear c30
           obtain ⟨ji31, hji31⟩ : ∃ j_ : Int, (wrap64 ((wrap64 ((wrap64 (Int.tdiv (l0.length : Int) 2)) - 1)) - x47_2)) = j_ := ⟨_, rfl⟩
           have hji31t : (wrap64 ((wrap64 ((wrap64 ((l0.length : Int) / 2)) - 1)) - x47_2)) = ji31 := by have h_ := hji31; rw [Int.tdiv_eq_ediv_of_nonneg (Int.natCast_nonneg _)] at h_; exact h_
           (try rw [hji2] at hji31t)
           rw [hji31] at H
           (try rw [hji31] at A28)
           have hji31w : (IntKind.i64.wrap ((wrap64 ((wrap64 (Int.tdiv (l0.length : Int) 2)) - 1)) - x47_2)) = ji31 := (i64_w _).trans hji31
           have hji31wt : (IntKind.i64.wrap ((wrap64 ((wrap64 ((l0.length : Int) / 2)) - 1)) - x47_2)) = ji31 := by have h_ := hji31w; rw [Int.tdiv_eq_ediv_of_nonneg (Int.natCast_nonneg _)] at h_; exact h_
           (try rw [hji2] at hji31wt)
           by_cases c32 : 0 ≤ (ji31)
           ·rw [if_pos c32] at H
            have c32b0 := dT c32
            (try (have c32h0 := c32b0; simp only [hl5_1] at c32h0))
            clear c32
            by_cases c33 : (ji31) < (x6_2.length : Int)
            ·rw [if_pos c33] at H
             have c33b0 := dT c33
             (try (have c33h0 := c33b0; simp only [hl5_1] at c33h0))
             clear c33
             replace H := bo H
             obtain ⟨⟨t545, t546⟩, A34, H⟩ := H
             replace H := bz H
             obtain ⟨y547, Ny547⟩ : ∃ y_ : List Int, Aside0 (y_ = (x6_2.set (x47_2 : Int).toNat t545)) := ⟨_, ⟨rfl⟩⟩
             rw [← Ny547.out] at H
             obtain ⟨y548, Ny548⟩ : ∃ y_ : List Int, Aside0 (y_ = (y547.set ((ji31) : Int).toNat t546)) := ⟨_, ⟨rfl⟩⟩
             rw [← Ny548.out] at H
             have H' := aM H
             clear H
             try go_wp2
             replace HO_5 := zd HO_5
             replace HO_6 := zd HO_6
             replace HB := aM (bD HB.out)
             obtain ⟨Ao38, co38, eo38⟩ := Kd.R_slice HO_6.out
             (first | subst eo38 | (injection eo38 with f1_ f2_ f3_; have f4_ := f1_.symm; have f5_ := f3_.symm; clear f1_ f2_ f3_; subst f4_; subst f5_))
             have p543 : 0 ≤ (x47_2 : Int) := dt
             have q543 : x47_2 < (x6_2.length : Int) := dt
             obtain ⟨ad543, e543, hx543_0⟩ := Kd.at_int (rR HO_6.out).2.2 x47_2 p543 q543
             cases e543
             replace p543 := eq_true p543
             replace q543 := eq_true q543
             have p544 : 0 ≤ ((ji31) : Int) := dt
             have q544 : (ji31) < (x6_2.length : Int) := dt
             obtain ⟨ad544, e544, hx544_0⟩ := Kd.at_int (rR HO_6.out).2.2 (ji31) p544 q544
             obtain rfl : ad543 = ad544 := (by injection e544)
             replace p544 := eq_true p544
             replace q544 := eq_true q544
             refine start_ (n := 23) (S := fun w' => w'.cell? (ad543.add (x47_2).toNat) = some (.int .i64 (rd x6_2 x47_2)) ∧ w'.cell? (ad543.add ((ji31)).toNat) = some (.int .i64 (rd x6_2 (ji31)))) (ds := [20, 22]) #[N,N,N,N,N,N,N,N,N,N,N,N,N,N,N,N,N,N,N,N,N,N,N] kr rfl rfl ⟨hx543_0, hx544_0⟩ (fun hHeld => ?_); refine with_tabW impl_halve.tab12 impl_halve.bits12 (fun HT_ HW_ => ?_)
             generalize wr.drew = w37 at HO_5 HO_6 HB hx543_0 hx544_0 hHeld ⊢
             refine p1 56 0 ?_
             refine p1 57 1 ?_
             refine p1 58 2 ?_
             refine p1 59 3 ?_
             refine p1 60 4 ?_
             refine p1 61 5 ?_
             refine p1 63 7 ?_
             refine p1 64 8 ?_
             refine p1 65 9 ?_
             refine p1 67 11 ?_
             refine p1 68 12 ?_
             refine p1 69 13 ?_
             refine t1 66 10 ?_ (hy := by rintro w' ⟨s0, s1⟩; go_simp; with_reducible rfl)
             refine t1 70 14 ?_ (hy := by rintro w' ⟨s0, s1⟩; go_simp; with_reducible rfl)
             refine o1 62 6 fun K hK => ?_
             refine goes_ Try.func78 kr rfl #[.int .i64 (l0.length : Int), .int .i64 x47_2] (by rfl) rfl rfl mq ?_
             with_reducible refine (impl_turnOf.calls (l0.length : Int) x47_2 t541 t542 _ A28.out).mono ?_
             rintro e w39 ⟨rfl, hb⟩
             have HS0_ := (hb.cell (World.block_lt_of_cell? _ _ (hHeld.1))).trans (hHeld.1)
             have HS1_ := (hb.cell (World.block_lt_of_cell? _ _ (hHeld.2))).trans (hHeld.2)
             refine ⟨_, rfl, ?_⟩
             replace HO_5 := zl HO_5 hb
             replace HO_6 := zl HO_6 hb
             replace HB := aM (bT bq hb)
             (try clear hb)
             (try clear hb2)
             (try clear hk)
             (try clear hi)
             refine hK.out _ _ ⟨HS0_, HS1_⟩ (fun hHeld => ?_)
             clear hK K
             refine nn ?_
             refine o1 71 15 fun K hK => ?_
             refine goes_ Try.func79 kr rfl #[.agg #[.int .i64 t541, .int .i64 t542], .int .i64 (rd x6_2 x47_2), .int .i64 (rd x6_2 (ji31))] (by rfl) rfl rfl (by (try simp only [List.map_toArray, List.map_cons, List.map_nil]); first | done | (simp only [hji31]; rfl) | rfl | (simp only [List.length_drop, List.length_take]; rfl)) ?_
             with_reducible refine (impl_turn_forth.calls t541 t542 (rd x6_2 x47_2) (rd x6_2 (ji31)) t545 t546 _ A34.out).mono ?_
             rintro e w40 ⟨rfl, hb⟩
             have HS0_ := (hb.cell (World.block_lt_of_cell? _ _ (hHeld.1))).trans (hHeld.1)
             have HS1_ := (hb.cell (World.block_lt_of_cell? _ _ (hHeld.2))).trans (hHeld.2)
             refine ⟨_, rfl, ?_⟩
             replace HO_5 := zl HO_5 hb
             replace HO_6 := zl HO_6 hb
             replace HB := aM (bT bq hb)
             (try clear hb)
             (try clear hb2)
             (try clear hk)
             (try clear hi)
             have p35 : 0 ≤ (x47_2 : Int) := dt
             have q35 : (x47_2 : Int) < ((x6_2.length : Int) : Int) := dt
             obtain ⟨go35, co35, eo35, gb35, gl35, cl35, HG35⟩ := Kd.R_form HO_6.out (by omega)
             (first | cases eo35 | (injection eo35 with ea_ en_ ec_; (first | subst ea_ | (injection ea_ with ea_; subst ea_)); subst ec_; clear en_))
             have GB35 := aM gb35
             have GG35 := aM HG35
             clear gb35 gl35 HG35
             (first | simp only [add_plain] at hx543_0 | skip)
             (first | simp only [add_plain] at hx544_0 | skip)
             obtain ⟨hx35_0, hf35_0⟩ := Kd.R_celln 0 HO_6.out (x47_2 : Int) p35 q35
             replace p35 := eq_true p35
             replace q35 := eq_true q35
             have HP41 := Kd.R_putn HO_6.out (x47_2 : Int) t545
             rw [← Ny547.out] at HP41
             have HQ41 := aM HP41
             clear HP41
             have p36 : 0 ≤ ((ji31) : Int) := dt
             have q36 : ((ji31) : Int) < ((x6_2.length : Int) : Int) := dt
             obtain ⟨hx36_0, hf36_0⟩ := Kd.R_celln 0 HQ41.out ((ji31) : Int) p36 q36
             replace p36 := eq_true p36
             replace q36 := eq_true q36
             have HP42 := Kd.R_putn HQ41.out ((ji31) : Int) t546
             rw [← Ny548.out] at HP42
             have HQ42 := aM HP42
             clear HP42
             refine hK.out _ _ ⟨HS0_, HS1_⟩ (fun hHeld => ?_)
             clear hK K
             refine nn ?_
             refine p1 55 16 ?_
             refine p1 72 17 ?_
             refine p1 73 18 ?_
             refine p1 74 19 ?_
             refine last_ (i := 20) (N := none) #[Y,Y,Y,Y,Y,Y,Y,Y,Y,Y,Y,Y,Y,Y,Y,Y,Y,Y,Y,Y,Y,N,N] rfl rfl (one_of HT_.out kr) (by decide) (fun K hK => ?_)
             refine skip_ (w1 := ?_) (by rfl) rfl ?_ ?_
             rotate_left
             ·go_simp
              rfl
             refine hK.out _ _ ?_
             clear hK K
             refine p1 75 21 ?_
             refine last_ (i := 22) (N := none) #[Y,Y,Y,Y,Y,Y,Y,Y,Y,Y,Y,Y,Y,Y,Y,Y,Y,Y,Y,Y,Y,Y,Y] rfl rfl (one_of HT_.out kr) (by decide) (fun K hK => ?_)
             refine skip_ (w1 := ?_) (by rfl) rfl ?_ ?_
             rotate_left
             ·go_simp
              rfl
             refine hK.out _ _ ?_
             clear hK K
             refine done_ (done_of HT_.out kr) ?_
             try go_wp2
             go_roundg k2
             case measure => have := HK1.out; have := HK2.out; omega
             case rel => exact ⟨(y548), (wrap64 (x47_2 + 1)), (ex), H', ⟨by have := HK1.out; have := HK2.out; omega⟩, ⟨by (try simp only [hl5_1]); (with_reducible repeat (first | apply rA | apply rN | apply rD)); exact rM (rF (p := ⟨go35, ((ji31) : Int).toNat, none⟩) (rF (p := ⟨go35, (x47_2 : Int).toNat, none⟩) (rM HO_5.out (fun k_ hk => (⟨hk, fun e_ => hk (by rw [e_]; rfl)⟩ : _ ∧ k_ ≠ go35))) (fun _ hk => hk.2) (.int .i64 t545)) (fun _ hk => hk.2) (.int .i64 t546)) (fun _ hk => hk.1)⟩, ⟨by (try simp only [hl5_1]); (with_reducible repeat (first | apply rA | apply rN | apply rD)); exact HQ42.out⟩, ⟨by repeat (first | (with_reducible first | exact HB.out | apply bA | apply bN | apply bD | refine bS ?_ GB35.out | refine bS ?_ GB35.out) | exact HB.out)⟩⟩
            ·rw [if_neg c33] at H
             exact absurd H (by simp)
           ·rw [if_neg c32] at H
            exact absurd H (by simp)
          ·rw [if_neg c30] at H
           exact absurd H (by simp)
         ·rw [if_neg c29] at H
          exact absurd H (by simp)
        ·rw [if_neg c27] at H
         have c27b0 := dF c27
         have c27b0t : decide (x47_2 < (wrap64 ((l0.length : Int) / 4))) = false := by have h_ := c27b0; rw [Int.tdiv_eq_ediv_of_nonneg (Int.natCast_nonneg _)] at h_; exact h_
         (try rw [hji2] at c27b0t)
         (try (have c27h0 := c27b0; simp only [hl5_1] at c27h0))
         clear c27
         simp only [Option.some.injEq, Prod.mk.injEq] at H
         obtain ⟨rfl, rfl⟩ := H
         go_wp2
         go_ret2
         exact ⟨_, _, by first | rfl | (simp [errW_none, errW_some] <;> rfl) | (simp only [← hji2]; first | rfl | (simp [errW_none, errW_some] <;> rfl)) | (simp [*, errW_none, errW_some] <;> rfl), by (with_reducible repeat (first | apply rA | apply rN | apply rD)); exact HO_5.out, by (with_reducible repeat (first | apply rA | apply rN | apply rD)); exact HO_6.out, bq⟩
  ·rw [if_neg c4] at H
   exact absurd H (by simp)
 ·rw [if_neg c3] at H
  exact absurd H (by simp)
end Go.Proofs.Ytmhnpogjkbmmnaa.PFnStates
