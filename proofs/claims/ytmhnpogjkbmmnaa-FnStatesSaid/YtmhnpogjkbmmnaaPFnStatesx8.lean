import Derived.Test.YtmhnpogjkbmmnaaPFnStatesx0
namespace Go.Proofs.Ytmhnpogjkbmmnaa.PFnStates
open Go.RowKit Go.Proofs.YtmhnpogjkbmmnaaW.PrintWords Go.Proofs.YtmhnpogjkbmmnaaW.PrintLast Go.Proofs.YtmhnpogjkbmmnaaW.PrintMore
open Go.Proofs.YtmhnpogjkbmmnaaW.PrintWords.Kd renaming R_alloc → rA, R_drewN → rN, R_drew → rD, R_far → rF, R_mono → rM, R_base → rB, R_new' → rW, R_below → rL, R_lt → rT, R_lower → rG, R_elder' → rH, R_reads' → rR
open Go.Proofs.YtmhnpogjkbmmnaaW.PrintWords renaming below_alloc → bA, pw_below_drewN → bN, below_drew1 → bD, below_set → bS, below_step → bT, below_size → bZ, blk_drewN → kN, blk_drew → kD, blk_alloc → kA, blk_below → kB, blk_cell → kC
open Go.Proofs.YtmhnpogjkbmmnaaW.PrintWords.Aside0 renaming mk → aM
attribute [local go_sem] max2_int min2_int max_two min_two max_three min_three max_four min_four
set_option maxHeartbeats 8000000
set_option maxRecDepth 100000
set_option linter.unusedVariables false
set_option linter.unusedSimpArgs false
mutual
def impl_undo_unite.l0 : Nat → List Int → List Int → Int → List Int → Int → Int → (Int → Int → Int → Int → Option (Int × Int)) → (Int → Int → Option (Int × Int)) → Option (List Int × List Int)
 | 0, _, _, _, _, _, _, _, _ => none
 | k + 1, x1, x2, x7, x8, x18, x19, x270000, x270001 => if x19 < x18 then (if 0 ≤ x19 then (if x19 < (x2.length : Int) then (if 0 ≤ (wrap64 ((wrap64 ((wrap64 (Int.tdiv x7 2)) - 1)) - x19)) then (if (wrap64 ((wrap64 ((wrap64 (Int.tdiv x7 2)) - 1)) - x19)) < (x2.length : Int) then ((x270000 x7 x19 (rd x2 x19) (rd x2 (wrap64 ((wrap64 ((wrap64 (Int.tdiv x7 2)) - 1)) - x19)))).bind fun bt275 => (impl_undo_unite.l0 k x1 ((x2.set (x19 : Int).toNat bt275.1).set ((wrap64 ((wrap64 ((wrap64 (Int.tdiv x7 2)) - 1)) - x19)) : Int).toNat bt275.2) x7 x8 x18 (wrap64 (x19 + 1)) x270000 x270001)) else (none)) else (none)) else (none)) else (none)) else (impl_undo_unite.l1 k x1 x2 x7 x8 (x1.length : Int) 0 x270000 x270001)
def impl_undo_unite.l1 : Nat → List Int → List Int → Int → List Int → Int → Int → (Int → Int → Int → Int → Option (Int × Int)) → (Int → Int → Option (Int × Int)) → Option (List Int × List Int)
 | 0, _, _, _, _, _, _, _, _ => none
 | k + 1, x1, x2, x7, x8, x51, x52, x270000, x270001 => if x52 < x51 then (if 0 ≤ x52 then (if x52 < (x1.length : Int) then (if x52 < (x2.length : Int) then ((x270001 (rd x1 x52) (rd x2 x52)).bind fun bt281 => (if x52 < (x8.length : Int) then (if 0 ≤ (wrap64 ((wrap64 (x7 - 1)) - x52)) then (if (wrap64 ((wrap64 (x7 - 1)) - x52)) < (x8.length : Int) then (impl_undo_unite.l1 k x1 x2 x7 ((x8.set (x52 : Int).toNat bt281.1).set ((wrap64 ((wrap64 (x7 - 1)) - x52)) : Int).toNat bt281.2) x51 (wrap64 (x52 + 1)) x270000 x270001) else (none)) else (none)) else (none))) else (none)) else (none)) else (none)) else (some (x8, x2))
end
def impl_undo_unite.f (k : Nat) (S0_0 : (Int → Int → Int → Int → Option (Int × Int))) (S0_1 : (Int → Int → Option (Int × Int))) (l1 : List Int) (l2 : List Int) : Option (List Int × List Int) := if 0 ≤ (wrap64 (2 * (l1.length : Int))) then (if (wrap64 (2 * (l1.length : Int)) : Int).toNat ≤ 35184372088832 then (impl_undo_unite.l0 k l1 l2 (wrap64 (2 * (l1.length : Int))) (List.replicate (wrap64 (2 * (l1.length : Int)) : Int).toNat 0) (wrap64 (Int.tdiv (wrap64 (2 * (l1.length : Int))) 4)) 0 S0_0 S0_1) else (none)) else (none)
def impl_undo_unite.T7 : Bool × List (List Nat × List Nat) := (true, [([], []), ([], []), ([], []), ([], []), ([], []), ([4], [4]), ([], []), ([], []), ([], []), ([], []), ([8, 9], [8, 9]), ([10], [10]), ([], []), ([], []), ([12, 13], [12, 13]), ([14], [14]), ([5, 6, 7, 11, 15], [5, 6, 7, 11, 15]), ([16], [16]), ([17], [17]), ([17], [17]), ([0, 1, 0, 1, 4, 5, 6, 7, 8, 9, 10, 11, 12, 13, 14, 15, 16, 17, 18], [0, 1]), ([20, 18, 16, 0, 1, 4, 5, 6, 7, 8, 9, 10, 11, 12, 13, 14, 15, 16, 17, 18], [18, 20]), ([2, 3, 0, 1, 2, 3, 4, 5, 6, 7, 8, 9, 10, 11, 12, 13, 14, 15, 16, 17, 18, 19, 20, 21], [2, 3]), ([22, 19, 21, 0, 1, 2, 3, 4, 5, 6, 7, 8, 9, 10, 11, 12, 13, 14, 15, 16, 17, 18, 19, 20, 21], [19, 22])])
def impl_undo_unite.B7 : List Nat := [0, 0, 0, 0, 0, 16, 0, 0, 0, 0, 768, 1792, 0, 0, 12288, 28672, 65520, 131056, 262128, 262128, 524275, 1572851, 4194303, 8388607]
theorem impl_undo_unite.tab7 : rtab .any (opsOf Try.f110 7) = impl_undo_unite.T7 := by kernel_rfl
theorem impl_undo_unite.bits7 : waitsOk impl_undo_unite.T7.2 impl_undo_unite.B7 = true := by kernel_rfl
def impl_undo_unite.T12 : Bool × List (List Nat × List Nat) := (true, [([], []), ([], []), ([], []), ([], []), ([3], [3]), ([], []), ([4, 5], [4, 5]), ([], []), ([7], [7]), ([], []), ([], []), ([9, 10], [9, 10]), ([11], [11]), ([], []), ([], []), ([13, 14], [13, 14]), ([15], [15]), ([8, 12, 16], [8, 12, 16]), ([17], [17]), ([18], [18]), ([18], [18]), ([0, 1, 0, 1, 7, 8, 9, 10, 11, 12, 13, 14, 15, 16, 17, 18, 19], [0, 1]), ([21, 19, 17, 0, 1, 7, 8, 9, 10, 11, 12, 13, 14, 15, 16, 17, 18, 19], [19, 21]), ([2, 6, 0, 1, 2, 3, 4, 5, 6, 7, 8, 9, 10, 11, 12, 13, 14, 15, 16, 17, 18, 19, 20, 21, 22], [2, 6]), ([23, 20, 22, 0, 1, 2, 3, 4, 5, 6, 7, 8, 9, 10, 11, 12, 13, 14, 15, 16, 17, 18, 19, 20, 21, 22], [20, 23])])
def impl_undo_unite.B12 : List Nat := [0, 0, 0, 0, 8, 0, 56, 0, 128, 0, 0, 1536, 3584, 0, 0, 24576, 57344, 130944, 262016, 524160, 524160, 1048451, 3145603, 8388607, 16777215]
theorem impl_undo_unite.tab12 : rtab .any (opsOf Try.f110 12) = impl_undo_unite.T12 := by kernel_rfl
theorem impl_undo_unite.bits12 : waitsOk impl_undo_unite.T12.2 impl_undo_unite.B12 = true := by kernel_rfl
theorem impl_undo_unite.calls (k : Nat) (g0_0_ : Nat) (b0_0_ : Array Value) (S0_0 : (Int → Int → Int → Int → Option (Int × Int))) (g0_1_ : Nat) (b0_1_ : Array Value) (S0_1 : (Int → Int → Option (Int × Int))) (A1 : Option Addr) (c1 : Nat) (l1 : List Int) (P2_ : Nat → Prop) (u9000_ : Value) (l2 : List Int) (r1 : List Int) (r2 : List Int) (w0 w : World) (hB : Below w0.heap.size w0 w) (hS0_0 : FnOK4 g0_0_ b0_0_ S0_0 w0) (hS0_1 : FnOK2 g0_1_ b0_1_ S0_1 w0) (hr1 : ∀ W_, Kept w W_ (fun k_ => P2_ k_) → Kd.C (Kd.int .i64) W_ A1 l1.length l1) (hc1 : l1.length ≤ c1) (ho2 : Kd.R (Kd.int .i64) 2 w w0.heap.size P2_ u9000_ l2) (h : impl_undo_unite.f k S0_0 S0_1 l1 l2 = some (r1, r2)) :
  Calls Try.prog 110 #[.agg #[.func (.func g0_0_) #[] b0_0_, .func (.func g0_1_) #[] b0_1_], .slice A1 l1.length c1, u9000_] w fun e w' => ∃ v0_ : Value, e = .returned (v0_) ∧ Kd.R (Kd.int .i64) 2 w' w0.heap.size (fun k_ => (P2_ k_ ∨ w.heap.size ≤ k_) ∧ nb u9000_ k_) v0_ r1 ∧ Kd.R (Kd.int .i64) 2 w' w0.heap.size (fun k_ => (P2_ k_ ∨ w.heap.size ≤ k_)) u9000_ r2 ∧ Below w0.heap.size w0 w' ∧ Kept w w' (fun k_ => P2_ k_) := by
 have hu94 := Try.underlying94
 have HS0_0 := aM hS0_0
 clear hS0_0
 have HS0_1 := aM hS0_1
 clear hS0_1
 have HR1 := aM hr1
 have HC1 := aM hc1
 clear hr1 hc1
 have HO2 := aM (show Kd.R (Kd.int .i64) 2 w w0.heap.size (fun k_ => (P2_ k_ ∨ w.heap.size ≤ k_)) u9000_ l2 from rM ho2 (fun k_ hk => (.inl hk)))
 have HK := aM (Kept.refl w (fun k_ => P2_ k_))
 have HW0 := aM hB.size
 have HB := aM hB
 clear hB
 unfold impl_undo_unite.f at h
 have H := h
 clear h
 obtain ⟨ji4, hji4⟩ : ∃ j_ : Int, (wrap64 (2 * (l1.length : Int))) = j_ := ⟨_, rfl⟩
 rw [hji4] at H
 have hji4w : (IntKind.i64.wrap (2 * (l1.length : Int))) = ji4 := (i64_w _).trans hji4
 by_cases c5 : 0 ≤ (ji4)
 ·rw [if_pos c5] at H
  have c5b0 := eq_true c5
  have c5b1 := dT c5
  clear c5
  by_cases c6 : (ji4 : Int).toNat ≤ 35184372088832
  ·rw [if_pos c6] at H
   have c6b0 := eq_true c6
   have c6b1 := dT c6
   clear c6
   obtain ⟨y270, Ny270⟩ : ∃ y_ : List Int, Aside0 (y_ = (List.replicate (ji4 : Int).toNat 0)) := ⟨_, ⟨rfl⟩⟩
   rw [← Ny270.out] at H
   have H' := aM H
   clear H
   go_enter Try.func110, Try.ntmps110
   go_wp2_with (first | ((with_reducible refine gD 3 rfl ?_); refine bx 3 94 #[.func (.func g0_0_) #[] b0_0_, .func (.func g0_1_) #[] b0_1_] ?_; intro gb269 hg w7 hbox hb; replace HO2 := zl HO2 hb; have BK269 := aM hbox; have GW269 := aM ((by rw [hg]; exact (by first | exact HK.out.1 | exact (show Kept w _ (fun k_ => P2_ k_) from by repeat (first | (with_reducible first | exact HK.out | apply Kept.alloc | apply Kept.drewN | apply Kept.drew) | exact HK.out)).1) : w.heap.size ≤ gb269)); replace HK := aM (Kept.below (S := (fun k_ => P2_ k_)) (by repeat (first | (with_reducible first | exact HK.out | apply Kept.alloc | apply Kept.drewN | apply Kept.drew) | exact HK.out)) hb); have GE269 := aM ((by rw [hg]; exact (bZ bq) : w0.heap.size ≤ gb269)); replace HB := aM (bT bq hb); clear hb hbox hg) | ((with_reducible refine gD 16 rfl ?_); refine Kd.R_make (Kd.int .i64) _ 2 rfl (N := 16) rfl 22 _ _ rfl ji4 rfl rfl Try.underlying22 (.int .i64 0) 8 info2 rfl (by decide) (by omega) 0 (ok := fun _ => True) (okp := fun _ => True) rfl (fun _ hk => hk) trivial (dt) (Nat.le_trans (Nat.mul_le_mul_right _ (dt : ji4.toNat ≤ 35184372088832)) (by omega)) (Below.refl _ _) (Nat.le_refl _) ?_; intro v271 w8 ho9 hb hg_ hnew_; clear hg_ hnew_; rw [← Ny270.out] at ho9; have HO272 := aM (rG (wq (Kd.R_newM (M := fun k_ => (P2_ k_ ∨ w.heap.size ≤ k_)) ho9 (by first | exact HK.out.1 | exact (show Kept w _ (fun k_ => P2_ k_) from by repeat (first | (with_reducible first | exact HK.out | apply Kept.alloc | apply Kept.drewN | apply Kept.drew | refine Kept.setCell ?_ (.inr GW269.out) _) | exact HK.out)).1) (fun k_ h_ => .inr h_)) HO2) (bZ bq)); replace HO2 := zh (rq HO2.out) ho9 hb; replace BK269 := zb BK269 hb; replace HK := aM (Kept.below (S := (fun k_ => P2_ k_)) (by repeat (first | (with_reducible first | exact HK.out | apply Kept.alloc | apply Kept.drewN | apply Kept.drew | refine Kept.setCell ?_ (.inr GW269.out) _) | exact HK.out)) hb); replace HB := aM (bT bq hb); clear hb ho9))
   go_loopg [19] k (fun kq v19 w' => ∃ (x2_1 : List Int) (x19_1 : Int), v19 = .int .i64 x19_1 ∧ Aside0 (impl_undo_unite.l0 kq l1 x2_1 ji4 y270 (wrap64 (Int.tdiv (ji4) 4)) x19_1 S0_0 S0_1 = some (r1, r2)) ∧ Aside0 (kq ≤ k) ∧ Aside0 (Kd.R (Kd.int .i64) 2 w' w0.heap.size (fun k_ => (P2_ k_ ∨ w.heap.size ≤ k_) ∧ nb v271 k_) u9000_ x2_1) ∧ Aside0 (Kd.R (Kd.int .i64) 2 w' w0.heap.size (fun k_ => (P2_ k_ ∨ w.heap.size ≤ k_) ∧ nb u9000_ k_) v271 y270) ∧ Aside0 (w'.heap[gb269]? = some (.cells #[.func (.func g0_0_) #[] b0_0_, .func (.func g0_1_) #[] b0_1_] 94 (0, 0))) ∧ Aside0 (Kept w w' (fun k_ => P2_ k_)) ∧ Aside0 (Below w0.heap.size w0 w'))
   case atStart => exact ⟨(l2), (0), (ex), H', ⟨Nat.le_refl _⟩, aM (rq HO2.out), aM (rq (rM HO272.out jq)), aM (kq BK269.out), ⟨by repeat (first | (with_reducible first | exact HK.out | apply Kept.alloc | apply Kept.drewN | apply Kept.drew | refine Kept.setCell ?_ (.inr GW269.out) _) | exact HK.out)⟩, ⟨bq⟩⟩
   case round =>
    clear H'
    try clear c1
    try clear p2
    try clear c5
    try clear c5b0
    try clear c5b1
    try clear c6
    try clear c6b0
    try clear c6b1
    try clear p6
    obtain ⟨x2_1, x19_1, rfl, HA, HK1, HO_2, HO_8, BK269, HK, HB⟩ := hrel
    cases gk with
    | zero => exact absurd HA.out (by simp [impl_undo_unite.l0])
    | succ k1 =>
     have H := HA.out
     clear HA
     simp only [impl_undo_unite.l0] at H
     by_cases c10 : x19_1 < (wrap64 (Int.tdiv (ji4) 4))
     ·rw [if_pos c10] at H
      have c10b0 := dT c10
      clear c10
      by_cases c11 : 0 ≤ x19_1
      ·rw [if_pos c11] at H
       have c11b0 := dT c11
       clear c11
       by_cases c12 : x19_1 < (x2_1.length : Int)
       ·rw [if_pos c12] at H
        have c12b0 := dT c12
        clear c12
        obtain ⟨ji13, hji13⟩ : ∃ j_ : Int, (wrap64 ((wrap64 ((wrap64 (Int.tdiv ji4 2)) - 1)) - x19_1)) = j_ := ⟨_, rfl⟩
        rw [hji13] at H
        have hji13w : (IntKind.i64.wrap ((wrap64 ((wrap64 (Int.tdiv ji4 2)) - 1)) - x19_1)) = ji13 := (i64_w _).trans hji13
        by_cases c14 : 0 ≤ (ji13)
        ·rw [if_pos c14] at H
         have c14b0 := dT c14
         clear c14
         by_cases c15 : (ji13) < (x2_1.length : Int)
         ·rw [if_pos c15] at H
          have c15b0 := dT c15
          clear c15
          replace H := bo H
          obtain ⟨⟨t275, t276⟩, A16, H⟩ := H
          replace H := bz H
          obtain ⟨y277, Ny277⟩ : ∃ y_ : List Int, Aside0 (y_ = (x2_1.set (x19_1 : Int).toNat t275)) := ⟨_, ⟨rfl⟩⟩
          rw [← Ny277.out] at H
          obtain ⟨y278, Ny278⟩ : ∃ y_ : List Int, Aside0 (y_ = (y277.set ((ji13) : Int).toNat t276)) := ⟨_, ⟨rfl⟩⟩
          rw [← Ny278.out] at H
          have H' := aM H
          clear H
          try go_wp2
          replace HO_2 := zd HO_2
          replace HO_8 := zd HO_8
          replace BK269 := zk BK269
          replace HK := aM (Kept.drew HK.out)
          replace HB := aM (bD HB.out)
          obtain ⟨Ao20, co20, eo20⟩ := Kd.R_slice HO_2.out
          (first | subst eo20 | (injection eo20 with f1_ f2_ f3_; have f4_ := f1_.symm; have f5_ := f3_.symm; clear f1_ f2_ f3_; subst f4_; subst f5_))
          have p273 : 0 ≤ (x19_1 : Int) := dt
          have q273 : x19_1 < (x2_1.length : Int) := dt
          obtain ⟨ad273, e273, hx273_0⟩ := Kd.at_int (rR HO_2.out).2.2 x19_1 p273 q273
          cases e273
          replace p273 := eq_true p273
          replace q273 := eq_true q273
          have p274 : 0 ≤ ((ji13) : Int) := dt
          have q274 : (ji13) < (x2_1.length : Int) := dt
          obtain ⟨ad274, e274, hx274_0⟩ := Kd.at_int (rR HO_2.out).2.2 (ji13) p274 q274
          obtain rfl : ad273 = ad274 := (by injection e274)
          replace p274 := eq_true p274
          replace q274 := eq_true q274
          refine start_ (n := 24) (S := fun w' => w'.cell? ⟨gb269, 0, none⟩ = some (.func (.func g0_0_) #[] b0_0_) ∧ w'.cell? ⟨gb269, 1, none⟩ = some (.func (.func g0_1_) #[] b0_1_) ∧ w'.cell? (ad273.add (x19_1).toNat) = some (.int .i64 (rd x2_1 x19_1)) ∧ w'.cell? (ad273.add ((ji13)).toNat) = some (.int .i64 (rd x2_1 (ji13)))) (ds := [21, 23]) #[N,N,N,N,N,N,N,N,N,N,N,N,N,N,N,N,N,N,N,N,N,N,N,N] kr rfl rfl ⟨cc, cc, hx273_0, hx274_0⟩ (fun hHeld => ?_); refine with_tabW impl_undo_unite.tab7 impl_undo_unite.bits7 (fun HT_ HW_ => ?_)
          generalize wr.drew = w19 at HO_2 HO_8 BK269 HK HB hx273_0 hx274_0 hHeld ⊢
          refine p1 28 0 ?_
          refine p1 29 1 ?_
          refine p1 30 2 ?_
          refine p1 31 3 ?_
          refine p1 32 4 ?_
          refine p1 34 6 ?_
          refine p1 35 7 ?_
          refine p1 36 8 ?_
          refine p1 37 9 ?_
          refine p1 38 10 ?_
          refine p1 40 12 ?_
          refine p1 41 13 ?_
          refine p1 42 14 ?_
          refine t1 33 5 ?_ (hy := by rintro w' ⟨s0, s1, s2, s3⟩; go_simp; with_reducible rfl)
          refine t1 39 11 ?_ (hy := by rintro w' ⟨s0, s1, s2, s3⟩; go_simp; with_reducible rfl)
          refine t1 43 15 ?_ (hy := by rintro w' ⟨s0, s1, s2, s3⟩; go_simp; with_reducible rfl)
          refine o1 44 16 fun K hK => ?_
          refine goesV_ HS0_0.out.en #[.int .i64 ji4, .int .i64 x19_1, .int .i64 (rd x2_1 x19_1), .int .i64 (rd x2_1 (ji13))] (by rfl) rfl rfl rfl (by (try simp only [List.map_toArray, List.map_cons, List.map_nil]); first | done | (simp only [hji13, hji4]; rfl) | rfl | (simp only [List.length_drop, List.length_take]; rfl)) ?_
          with_reducible refine (FnOK4.calls HS0_0.out bq ji4 x19_1 (rd x2_1 x19_1) (rd x2_1 (ji13)) t275 t276 A16.out).mono ?_
          rintro e w21 ⟨rfl, hb⟩
          have HS2_ := (hb.cell (World.block_lt_of_cell? _ _ (hHeld.2.2.1))).trans (hHeld.2.2.1)
          have HS3_ := (hb.cell (World.block_lt_of_cell? _ _ (hHeld.2.2.2))).trans (hHeld.2.2.2)
          refine ⟨_, rfl, ?_⟩
          replace HO_2 := zl HO_2 hb
          replace HO_8 := zl HO_8 hb
          replace BK269 := zb BK269 hb
          replace HK := aM (Kept.below (S := (fun k_ => P2_ k_)) (by repeat (first | (with_reducible first | exact HK.out | apply Kept.alloc | apply Kept.drewN | apply Kept.drew | refine Kept.setCell ?_ (.inr GW269.out) _) | exact HK.out)) hb)
          replace HB := aM (bT bq hb)
          (try clear hb)
          (try clear hb2)
          (try clear hk)
          (try clear hi)
          have p17 : 0 ≤ (x19_1 : Int) := dt
          have q17 : (x19_1 : Int) < ((x2_1.length : Int) : Int) := dt
          obtain ⟨go17, co17, eo17, gb17, gl17, cl17, HG17⟩ := Kd.R_form HO_2.out (by omega)
          (first | cases eo17 | (injection eo17 with ea_ en_ ec_; (first | subst ea_ | (injection ea_ with ea_; subst ea_)); subst ec_; clear en_))
          have GB17 := aM gb17
          have GG17 := aM HG17
          clear gb17 gl17 HG17
          have HMgo17 := aM (show (P2_ go17 ∨ w.heap.size ≤ go17) from (HO_2.out.1 _ rfl).1)
          (first | simp only [add_plain] at hx273_0 | skip)
          (first | simp only [add_plain] at hx274_0 | skip)
          obtain ⟨hx17_0, hf17_0⟩ := Kd.R_celln 0 HO_2.out (x19_1 : Int) p17 q17
          replace p17 := eq_true p17
          replace q17 := eq_true q17
          have HP22 := Kd.R_putn HO_2.out (x19_1 : Int) t275
          rw [← Ny277.out] at HP22
          have HQ22 := aM HP22
          clear HP22
          have p18 : 0 ≤ ((ji13) : Int) := dt
          have q18 : ((ji13) : Int) < ((x2_1.length : Int) : Int) := dt
          obtain ⟨hx18_0, hf18_0⟩ := Kd.R_celln 0 HQ22.out ((ji13) : Int) p18 q18
          replace p18 := eq_true p18
          replace q18 := eq_true q18
          have HP23 := Kd.R_putn HQ22.out ((ji13) : Int) t276
          rw [← Ny278.out] at HP23
          have HQ23 := aM HP23
          clear HP23
          refine hK.out _ _ ⟨cc, cc, HS2_, HS3_⟩ (fun hHeld => ?_)
          clear hK K
          refine nn ?_
          refine p1 27 17 ?_
          refine p1 45 18 ?_
          refine p1 46 19 ?_
          refine p1 47 20 ?_
          refine last_ (i := 21) (N := none) #[Y,Y,Y,Y,Y,Y,Y,Y,Y,Y,Y,Y,Y,Y,Y,Y,Y,Y,Y,Y,Y,Y,N,N] rfl rfl (one_of HT_.out kr) (by decide) (fun K hK => ?_)
          refine skip_ (w1 := ?_) (by rfl) rfl ?_ ?_
          rotate_left
          ·go_simp
           rfl
          refine hK.out _ _ ?_
          clear hK K
          refine p1 48 22 ?_
          refine last_ (i := 23) (N := none) #[Y,Y,Y,Y,Y,Y,Y,Y,Y,Y,Y,Y,Y,Y,Y,Y,Y,Y,Y,Y,Y,Y,Y,Y] rfl rfl (one_of HT_.out kr) (by decide) (fun K hK => ?_)
          refine skip_ (w1 := ?_) (by rfl) rfl ?_ ?_
          rotate_left
          ·go_simp
           rfl
          refine hK.out _ _ ?_
          clear hK K
          refine done_ (done_of HT_.out kr) ?_
          try go_wp2
          go_roundg k1
          case measure => have := HK1.out; omega
          case rel => exact ⟨(y278), (wrap64 (x19_1 + 1)), (ex), H', ⟨by have := HK1.out; omega⟩, aM (rq HQ23.out), aM (rq (rM (rF (p := ⟨go17, ((ji13) : Int).toNat, none⟩) (rF (p := ⟨go17, (x19_1 : Int).toNat, none⟩) (rM HO_8.out (fun k_ hk => (⟨hk, fun e_ => hk.2 (by rw [e_]; rfl)⟩ : _ ∧ k_ ≠ go17))) (fun _ hk => hk.2) (.int .i64 t275)) (fun _ hk => hk.2) (.int .i64 t276)) jq)), ⟨by (with_reducible repeat (first | refine kN ?_ _ | refine kD ?_ | refine kA ?_ _)); refine blk_far ?_ (by have h_ := Kd.R_ne HO_2.out BK269.out (by decide); intro e_; exact h_ (by rw [e_]; rfl)) _; (with_reducible repeat (first | refine kN ?_ _ | refine kD ?_ | refine kA ?_ _)); refine blk_far ?_ (by have h_ := Kd.R_ne HO_2.out BK269.out (by decide); intro e_; exact h_ (by rw [e_]; rfl)) _; (with_reducible repeat (first | refine kN ?_ _ | refine kD ?_ | refine kA ?_ _)); exact BK269.out⟩, ⟨by repeat (first | (with_reducible first | exact HK.out | apply Kept.alloc | apply Kept.drewN | apply Kept.drew | refine Kept.setCell ?_ HMgo17.out _ | refine Kept.setCell ?_ HMgo17.out _ | refine Kept.setCell ?_ (.inr GW269.out) _) | exact HK.out)⟩, ⟨by repeat (first | (with_reducible first | exact HB.out | apply bA | apply bN | apply bD | refine bS ?_ GB17.out | refine bS ?_ GB17.out | refine bS ?_ GE269.out) | exact HB.out)⟩⟩
         ·rw [if_neg c15] at H
          exact absurd H (by simp)
        ·rw [if_neg c14] at H
         exact absurd H (by simp)
       ·rw [if_neg c12] at H
        exact absurd H (by simp)
      ·rw [if_neg c11] at H
       exact absurd H (by simp)
     ·rw [if_neg c10] at H
      have c10b0 := dF c10
      clear c10
      have H' := aM H
      clear H
      go_wp2
      go_loopg [52] k1 (fun kq v52 w' => ∃ (x8_2 : List Int) (x52_2 : Int), v52 = .int .i64 x52_2 ∧ Aside0 (impl_undo_unite.l1 kq l1 x2_1 ji4 x8_2 (l1.length : Int) x52_2 S0_0 S0_1 = some (r1, r2)) ∧ Aside0 (kq ≤ k1) ∧ Aside0 (Kd.R (Kd.int .i64) 2 w' w0.heap.size (fun k_ => (P2_ k_ ∨ w.heap.size ≤ k_) ∧ nb v271 k_) u9000_ x2_1) ∧ Aside0 (Kd.R (Kd.int .i64) 2 w' w0.heap.size (fun k_ => (P2_ k_ ∨ w.heap.size ≤ k_) ∧ nb u9000_ k_) v271 x8_2) ∧ Aside0 (w'.heap[gb269]? = some (.cells #[.func (.func g0_0_) #[] b0_0_, .func (.func g0_1_) #[] b0_1_] 94 (0, 0))) ∧ Aside0 (Kept w w' (fun k_ => P2_ k_)) ∧ Aside0 (Below w0.heap.size w0 w'))
      case atStart => exact ⟨(y270), (0), (ex), H', ⟨Nat.le_refl _⟩, aM (rq HO_2.out), aM (rq HO_8.out), aM (kq BK269.out), ⟨by repeat (first | (with_reducible first | exact HK.out | apply Kept.alloc | apply Kept.drewN | apply Kept.drew | refine Kept.setCell ?_ (.inr GW269.out) _) | exact HK.out)⟩, ⟨bq⟩⟩
      case round =>
       clear H'
       try clear c1
       try clear p1
       try clear q1
       try clear hx1
       try clear p2
       try clear q2
       try clear hx2
       try clear c5
       try clear c5b0
       try clear c5b1
       try clear c6
       try clear c6b0
       try clear c6b1
       try clear p6
       try clear c10
       try clear c10b0
       try clear c11
       try clear c11b0
       try clear c12
       try clear c12b0
       try clear c14
       try clear c14b0
       try clear c15
       try clear c15b0
       try clear p17
       try clear q17
       try clear hx17
       try clear hf17
       try clear p18
       try clear q18
       try clear hx18
       try clear hf18
       try clear hx17_0
       try clear hx18_0
       try clear hx273_0
       try clear hx274_0
       try clear p17
       try clear p18
       try clear p2
       try clear p273
       try clear p274
       try clear p6
       try clear q17
       try clear q18
       try clear q273
       try clear q274
       obtain ⟨x8_2, x52_2, rfl, HA, HK2, HO_2, HO_8, BK269, HK, HB⟩ := hrel
       cases gk with
       | zero => exact absurd HA.out (by simp [impl_undo_unite.l1])
       | succ k2 =>
        have H := HA.out
        clear HA
        simp only [impl_undo_unite.l1] at H
        by_cases c24 : x52_2 < (l1.length : Int)
        ·rw [if_pos c24] at H
         have c24b0 := dT c24
         clear c24
         by_cases c25 : 0 ≤ x52_2
         ·rw [if_pos c25] at H
          have c25b0 := dT c25
          clear c25
          by_cases c26 : x52_2 < (l1.length : Int)
          ·rw [if_pos c26] at H
           have c26b0 := dT c26
           clear c26
           by_cases c27 : x52_2 < (x2_1.length : Int)
           ·rw [if_pos c27] at H
            have c27b0 := dT c27
            clear c27
            replace H := bo H
            obtain ⟨⟨t281, t282⟩, A28, H⟩ := H
            replace H := bz H
            by_cases c29 : x52_2 < (x8_2.length : Int)
            ·rw [if_pos c29] at H
             have c29b0 := dT c29
             clear c29
             obtain ⟨y283, Ny283⟩ : ∃ y_ : List Int, Aside0 (y_ = (x8_2.set (x52_2 : Int).toNat t281)) := ⟨_, ⟨rfl⟩⟩
             rw [← Ny283.out] at H
             obtain ⟨ji31, hji31⟩ : ∃ j_ : Int, (wrap64 ((wrap64 (ji4 - 1)) - x52_2)) = j_ := ⟨_, rfl⟩
             rw [hji31] at H
             (try rw [hji31] at A28)
             have hji31w : (IntKind.i64.wrap ((wrap64 (ji4 - 1)) - x52_2)) = ji31 := (i64_w _).trans hji31
             by_cases c32 : 0 ≤ (ji31)
             ·rw [if_pos c32] at H
              have c32b0 := dT c32
              clear c32
              by_cases c33 : (ji31) < (x8_2.length : Int)
              ·rw [if_pos c33] at H
               have c33b0 := dT c33
               clear c33
               obtain ⟨y284, Ny284⟩ : ∃ y_ : List Int, Aside0 (y_ = (y283.set ((ji31) : Int).toNat t282)) := ⟨_, ⟨rfl⟩⟩
               rw [← Ny284.out] at H
               have H' := aM H
               clear H
               try go_wp2
               replace HO_2 := zd HO_2
               replace HO_8 := zd HO_8
               replace BK269 := zk BK269
               replace HK := aM (Kept.drew HK.out)
               replace HB := aM (bD HB.out)
               have p279 : 0 ≤ (x52_2 : Int) := dt
               have q279 : x52_2 < (l1.length : Int) := dt
               obtain ⟨ad279, e279, hx279_0⟩ := Kd.at_int (Kd.C_kept_now HR1.out HK.out) x52_2 p279 q279
               have hw279_0 := hx279_0
               cases e279
               replace p279 := eq_true p279
               replace q279 := eq_true q279
               obtain ⟨Ao36, co36, eo36⟩ := Kd.R_slice HO_2.out
               (first | subst eo36 | (injection eo36 with f1_ f2_ f3_; have f4_ := f1_.symm; have f5_ := f3_.symm; clear f1_ f2_ f3_; subst f4_; subst f5_))
               have p280 : 0 ≤ (x52_2 : Int) := dt
               have q280 : x52_2 < (x2_1.length : Int) := dt
               obtain ⟨ad280, e280, hx280_0⟩ := Kd.at_int (rR HO_2.out).2.2 x52_2 p280 q280
               cases e280
               replace p280 := eq_true p280
               replace q280 := eq_true q280
               refine start_ (n := 25) (S := fun w' => w'.cell? ⟨gb269, 0, none⟩ = some (.func (.func g0_0_) #[] b0_0_) ∧ w'.cell? ⟨gb269, 1, none⟩ = some (.func (.func g0_1_) #[] b0_1_) ∧ w'.cell? (ad279.add (x52_2).toNat) = some (.int .i64 (rd l1 x52_2)) ∧ w'.cell? (ad280.add (x52_2).toNat) = some (.int .i64 (rd x2_1 x52_2))) (ds := [22, 24]) #[N,N,N,N,N,N,N,N,N,N,N,N,N,N,N,N,N,N,N,N,N,N,N,N,N] kr rfl rfl ⟨cc, cc, (Kd.foot_int (HR1.out _ (by repeat (first | exact HK.out | apply Kept.alloc | apply Kept.drewN | apply Kept.drew | refine Kept.setCell ?_ HMgo30.out _ | refine Kept.setCell ?_ HMgo30.out _))) x52_2 (of_eq_true p279) (of_eq_true q279)), hx280_0⟩ (fun hHeld => ?_); refine with_tabW impl_undo_unite.tab12 impl_undo_unite.bits12 (fun HT_ HW_ => ?_)
               generalize wr.drew = w35 at HO_2 HO_8 BK269 HK HB hx279_0 hx280_0 hHeld ⊢
               refine p1 56 0 ?_
               refine p1 57 1 ?_
               refine p1 58 2 ?_
               refine p1 59 3 ?_
               refine p1 60 4 ?_
               refine p1 61 5 ?_
               refine p1 62 6 ?_
               refine p1 63 7 ?_
               refine p1 65 9 ?_
               refine p1 66 10 ?_
               refine p1 67 11 ?_
               refine p1 69 13 ?_
               refine p1 70 14 ?_
               refine p1 71 15 ?_
               refine t1 64 8 ?_ (hy := by rintro w' ⟨s0, s1, s2, s3⟩; go_simp; with_reducible rfl)
               refine t1 68 12 ?_ (hy := by rintro w' ⟨s0, s1, s2, s3⟩; go_simp; with_reducible rfl)
               refine t1 72 16 ?_ (hy := by rintro w' ⟨s0, s1, s2, s3⟩; go_simp; with_reducible rfl)
               refine o1 73 17 fun K hK => ?_
               refine goesV_ HS0_1.out.en #[.int .i64 (rd l1 x52_2), .int .i64 (rd x2_1 x52_2)] (by rfl) rfl rfl rfl mq ?_
               with_reducible refine (FnOK2.calls HS0_1.out bq (rd l1 x52_2) (rd x2_1 x52_2) t281 t282 A28.out).mono ?_
               rintro e w37 ⟨rfl, hb⟩
               have HS3_ := (hb.cell (World.block_lt_of_cell? _ _ (hHeld.2.2.2))).trans (hHeld.2.2.2)
               refine ⟨_, rfl, ?_⟩
               replace HO_2 := zl HO_2 hb
               replace HO_8 := zl HO_8 hb
               replace BK269 := zb BK269 hb
               replace HK := aM (Kept.below (S := (fun k_ => P2_ k_)) (by repeat (first | (with_reducible first | exact HK.out | apply Kept.alloc | apply Kept.drewN | apply Kept.drew | refine Kept.setCell ?_ (.inr GW269.out) _) | exact HK.out)) hb)
               replace HB := aM (bT bq hb)
               (try clear hb)
               (try clear hb2)
               (try clear hk)
               (try clear hi)
               have p30 : 0 ≤ (x52_2 : Int) := dt
               have q30 : (x52_2 : Int) < ((x8_2.length : Int) : Int) := dt
               obtain ⟨go30, co30, eo30, gb30, gl30, cl30, HG30⟩ := Kd.R_form HO_8.out (by omega)
               (first | cases eo30 | (injection eo30 with ea_ en_ ec_; (first | subst ea_ | (injection ea_ with ea_; subst ea_)); subst ec_; clear en_))
               have GB30 := aM gb30
               have GG30 := aM HG30
               clear gb30 gl30 HG30
               have HMgo30 := aM (show (P2_ go30 ∨ w.heap.size ≤ go30) from (HO_8.out.1 _ rfl).1)
               obtain ⟨hx30_0, hf30_0⟩ := Kd.R_celln 0 HO_8.out (x52_2 : Int) p30 q30
               replace p30 := eq_true p30
               replace q30 := eq_true q30
               have HP38 := Kd.R_putn HO_8.out (x52_2 : Int) t281
               rw [← Ny283.out] at HP38
               have HQ38 := aM HP38
               clear HP38
               have p34 : 0 ≤ ((ji31) : Int) := dt
               have q34 : ((ji31) : Int) < ((x8_2.length : Int) : Int) := dt
               obtain ⟨hx34_0, hf34_0⟩ := Kd.R_celln 0 HQ38.out ((ji31) : Int) p34 q34
               replace p34 := eq_true p34
               replace q34 := eq_true q34
               have HP39 := Kd.R_putn HQ38.out ((ji31) : Int) t282
               rw [← Ny284.out] at HP39
               have HQ39 := aM HP39
               clear HP39
               refine hK.out _ _ ⟨cc, cc, (Kd.foot_int (HR1.out _ (by repeat (first | exact HK.out | apply Kept.alloc | apply Kept.drewN | apply Kept.drew | refine Kept.setCell ?_ HMgo30.out _ | refine Kept.setCell ?_ HMgo30.out _))) x52_2 (of_eq_true p279) (of_eq_true q279)), HS3_⟩ (fun hHeld => ?_)
               clear hK K
               refine nn ?_
               refine p1 55 18 ?_
               refine p1 74 19 ?_
               refine p1 75 20 ?_
               refine p1 76 21 ?_
               refine last_ (i := 22) (N := none) #[Y,Y,Y,Y,Y,Y,Y,Y,Y,Y,Y,Y,Y,Y,Y,Y,Y,Y,Y,Y,Y,Y,Y,N,N] rfl rfl (one_of HT_.out kr) (by decide) (fun K hK => ?_)
               refine skip_ (w1 := ?_) (by rfl) rfl ?_ ?_
               rotate_left
               ·go_simp
                rfl
               refine hK.out _ _ ?_
               clear hK K
               refine p1 77 23 ?_
               refine last_ (i := 24) (N := none) #[Y,Y,Y,Y,Y,Y,Y,Y,Y,Y,Y,Y,Y,Y,Y,Y,Y,Y,Y,Y,Y,Y,Y,Y,Y] rfl rfl (one_of HT_.out kr) (by decide) (fun K hK => ?_)
               refine skip_ (w1 := ?_) (by rfl) rfl ?_ ?_
               rotate_left
               ·go_simp
                rfl
               refine hK.out _ _ ?_
               clear hK K
               refine done_ (done_of HT_.out kr) ?_
               try go_wp2
               go_roundg k2
               case measure => have := HK1.out; have := HK2.out; omega
               case rel => exact ⟨(y284), (wrap64 (x52_2 + 1)), (ex), H', ⟨by have := HK1.out; have := HK2.out; omega⟩, aM (rq (rM (rF (p := ⟨go30, ((ji31) : Int).toNat, none⟩) (rF (p := ⟨go30, (x52_2 : Int).toNat, none⟩) (rM HO_2.out (fun k_ hk => (⟨hk, fun e_ => hk.2 (by rw [e_]; rfl)⟩ : _ ∧ k_ ≠ go30))) (fun _ hk => hk.2) (.int .i64 t281)) (fun _ hk => hk.2) (.int .i64 t282)) jq)), aM (rq HQ39.out), ⟨by (with_reducible repeat (first | refine kN ?_ _ | refine kD ?_ | refine kA ?_ _)); refine blk_far ?_ (by have h_ := Kd.R_ne HO_8.out BK269.out (by decide); intro e_; exact h_ (by rw [e_]; rfl)) _; (with_reducible repeat (first | refine kN ?_ _ | refine kD ?_ | refine kA ?_ _)); refine blk_far ?_ (by have h_ := Kd.R_ne HO_8.out BK269.out (by decide); intro e_; exact h_ (by rw [e_]; rfl)) _; (with_reducible repeat (first | refine kN ?_ _ | refine kD ?_ | refine kA ?_ _)); exact BK269.out⟩, ⟨by repeat (first | (with_reducible first | exact HK.out | apply Kept.alloc | apply Kept.drewN | apply Kept.drew | refine Kept.setCell ?_ HMgo30.out _ | refine Kept.setCell ?_ HMgo30.out _ | refine Kept.setCell ?_ (.inr GW269.out) _) | exact HK.out)⟩, ⟨by repeat (first | (with_reducible first | exact HB.out | apply bA | apply bN | apply bD | refine bS ?_ GB30.out | refine bS ?_ GB30.out | refine bS ?_ GE269.out) | exact HB.out)⟩⟩
              ·rw [if_neg c33] at H
               exact absurd H (by simp)
             ·rw [if_neg c32] at H
              exact absurd H (by simp)
            ·rw [if_neg c29] at H
             exact absurd H (by simp)
           ·rw [if_neg c27] at H
            exact absurd H (by simp)
          ·rw [if_neg c26] at H
           exact absurd H (by simp)
         ·rw [if_neg c25] at H
          exact absurd H (by simp)
        ·rw [if_neg c24] at H
         have c24b0 := dF c24
         clear c24
         simp only [Option.some.injEq, Prod.mk.injEq] at H
         obtain ⟨rfl, rfl⟩ := H
         go_wp2
         go_ret
         exact ⟨_, by first | rfl | (simp [errW_none, errW_some] <;> rfl) | (simp only [← hji4]; first | rfl | (simp [errW_none, errW_some] <;> rfl)) | (simp [*, errW_none, errW_some] <;> rfl), by (with_reducible repeat (first | apply rA | apply rN | apply rD)); exact HO_8.out, by (with_reducible repeat (first | apply rA | apply rN | apply rD)); exact rM HO_2.out (fun _ hk => hk.1), bq, by repeat (first | (with_reducible first | exact HK.out | apply Kept.alloc | apply Kept.drewN | apply Kept.drew | refine Kept.setCell ?_ (.inr GW269.out) _) | exact HK.out)⟩
  ·rw [if_neg c6] at H
   exact absurd H (by simp)
 ·rw [if_neg c5] at H
  exact absurd H (by simp)
end Go.Proofs.Ytmhnpogjkbmmnaa.PFnStates
