import Derived.Test.YtmhnpogjkbmmnaaPFnStatesx0
import Derived.Test.YtmhnpogjkbmmnaaPFnStatesx8
namespace Go.Proofs.Ytmhnpogjkbmmnaa.PFnStates
open Go.RowKit Go.Proofs.YtmhnpogjkbmmnaaW.PrintWords Go.Proofs.YtmhnpogjkbmmnaaW.PrintLast Go.Proofs.YtmhnpogjkbmmnaaW.PrintMore
open Go.Proofs.YtmhnpogjkbmmnaaW.PrintWords.Kd renaming R_alloc → rA, R_drewN → rN, R_drew → rD, R_far → rF, R_mono → rM, R_base → rB, R_new' → rW, R_below → rL, R_lt → rT, R_lower → rG, R_elder' → rH, R_reads' → rR, C_below → cB
open Go.Proofs.YtmhnpogjkbmmnaaW.PrintWords renaming below_alloc → bA, pw_below_drewN → bN, below_drew1 → bD, below_set → bS, below_step → bT, below_size → bZ, blk_drewN → kN, blk_drew → kD, blk_alloc → kA, blk_below → kB, blk_cell → kC
open Go.Proofs.YtmhnpogjkbmmnaaW.PrintWords.Aside0 renaming mk → aM
attribute [local go_sem] max2_int min2_int max_two min_two max_three min_three max_four min_four
set_option maxHeartbeats 8000000
set_option maxRecDepth 100000
set_option linter.unusedVariables false
set_option linter.unusedSimpArgs false
mutual
def impl_undo_gather.l0 : Nat → List Int → List Int → List Int → Int → Int → (Int → Int → Int → Int → Option (Int × Int)) → (Int → Int → Option (Int × Int)) → Option (List Int)
 | 0, _, _, _, _, _, _, _ => none
 | k + 1, x5, x6, x18, x19, x20, x286000, x286001 => if x20 < x19 then (if 0 ≤ x20 then (if x20 < (x18.length : Int) then (if (Int.tmod x20 2) = 0 then (if x5.length < 17592186044416 then (impl_undo_gather.l0 k (x5 ++ [rd x18 x20]) x6 x18 x19 (wrap64 (x20 + 1)) x286000 x286001) else (none)) else (if x6.length < 17592186044416 then (impl_undo_gather.l0 k x5 (x6 ++ [rd x18 x20]) x18 x19 (wrap64 (x20 + 1)) x286000 x286001) else (none))) else (none)) else (none)) else ((impl_undo_gather.f k x286000 x286001 x5).bind fun t303 => ((impl_undo_gather.f k x286000 x286001 x6).bind fun t306 => ((impl_undo_unite.f k x286000 x286001 t303 t306).bind fun bt309 => (some bt309.1))))
def impl_undo_gather.f : Nat → (Int → Int → Int → Int → Option (Int × Int)) → (Int → Int → Option (Int × Int)) → List Int → Option (List Int)
 | 0, _, _, _ => none
 | k + 1, S0_0, S0_1, l1 => if (l1.length : Int) = 1 then (if 0 < (l1.length : Int) then (some (([rd l1 0] : List Int))) else (none)) else (impl_undo_gather.l0 k (([] : List Int)) (([] : List Int)) l1 (l1.length : Int) 0 S0_0 S0_1)
end
def impl_undo_gather.T11 : Bool × List (List Nat × List Nat) := (true, [([], []), ([], []), ([], []), ([1, 2], [1, 2]), ([], []), ([], []), ([4, 5, 3], [4, 5]), ([0, 3, 6, 6], [0, 3, 6]), ([7, 7, 0, 1, 2, 3, 4, 5, 6, 7], [7])])
def impl_undo_gather.B11 : List Nat := [0, 0, 0, 6, 0, 0, 62, 127, 255]
theorem impl_undo_gather.tab11 : rtab .any (opsOf Try.f60 11) = impl_undo_gather.T11 := by kernel_rfl
theorem impl_undo_gather.bits11 : waitsOk impl_undo_gather.T11.2 impl_undo_gather.B11 = true := by kernel_rfl
theorem impl_undo_gather.calls (k : Nat) : ∀ (g0_0_ : Nat) (b0_0_ : Array Value) (S0_0 : (Int → Int → Int → Int → Option (Int × Int))) (g0_1_ : Nat) (b0_1_ : Array Value) (S0_1 : (Int → Int → Option (Int × Int))) (A1 : Option Addr) (c1 : Nat) (l1 : List Int) (r : List Int) (w : World) (hS0_0 : FnOK4 g0_0_ b0_0_ S0_0 w) (hS0_1 : FnOK2 g0_1_ b0_1_ S0_1 w) (hr1 : Kd.C (Kd.int .i64) w A1 l1.length l1) (hc1 : l1.length ≤ c1) (h : impl_undo_gather.f k S0_0 S0_1 l1 = some r),
  Calls Try.prog 60 #[.agg #[.func (.func g0_0_) #[] b0_0_, .func (.func g0_1_) #[] b0_1_], .slice A1 l1.length c1] w fun e w' => ∃ v0_ : Value, e = .returned (v0_) ∧ Kd.R (Kd.int .i64) 2 w' w.heap.size (fun _ => True) v0_ r ∧ Below w.heap.size w w' := by
 induction k using Nat.strongRecOn with
 | _ k ih =>
 intro g0_0_ b0_0_ S0_0 g0_1_ b0_1_ S0_1 A1 c1 l1 r w hS0_0 hS0_1 hr1 hc1 h
 cases k with
 | zero => exact absurd h (by simp [impl_undo_gather.f])
 | succ k =>
 simp only [impl_undo_gather.f] at h
 have hu94 := Try.underlying94
 have HS0_0 := aM hS0_0
 clear hS0_0
 have HS0_1 := aM hS0_1
 clear hS0_1
 have HR1 := aM hr1
 have HC1 := aM hc1
 clear hr1 hc1
 have HB := aM (Below.refl w.heap.size w)
 have H := h
 clear h
 by_cases c3 : (l1.length : Int) = 1
 ·rw [if_pos c3] at H
  have c3b0 := eT c3
  have c3b1 := nF c3
  clear c3
  by_cases c4 : 0 < (l1.length : Int)
  ·rw [if_pos c4] at H
   have c4b0 := dT c4
   have c4b1 : decide (0 < l1.length) = true := decide_eq_true (by omega)
   clear c4
   obtain ⟨y287, Ny287⟩ : ∃ y_ : List Int, Aside0 (y_ = (([rd l1 0] : List Int))) := ⟨_, ⟨rfl⟩⟩
   rw [← Ny287.out] at H
   obtain rfl := Option.some.inj H
   go_enter Try.func60, Try.ntmps60
   go_wp2_with (first | ((with_reducible refine gD 2 rfl ?_); refine bx 2 94 #[.func (.func g0_0_) #[] b0_0_, .func (.func g0_1_) #[] b0_1_] ?_; intro gb285 hg w5 hbox hb; have BK285 := aM hbox; have GW285 := gw w hg; have GE285 := GW285; replace HB := aM (bT bq hb); clear hb hbox hg; have p286 : 0 ≤ (0 : Int) := (by omega); have q286 : 0 < (l1.length : Int) := dt; obtain ⟨ad286, e286, hx286_0⟩ := Kd.at_int HR1.out 0 p286 q286; cases e286; have qi286 : (0 < l1.length) = True := eq_true (by omega); (try rw [show ((0 : Int)).toNat = 0 from rfl] at hx286_0); (try rw [Addr.add_zero'] at hx286_0); replace hx286_0 := (HB.out.cell (World.block_lt_of_cell? w _ hx286_0)).trans hx286_0; replace p286 := eq_true p286; replace q286 := eq_true q286) | ((with_reducible refine gD 15 rfl ?_); refine Kd.R_lit (Kd.int .i64) _ 2 ?hg (N := 15) ?hd (xs := ([rd l1 0] : List Int)) (inner := [.int .i64 (rd l1 0)]) (ok := fun _ => True) (okp := fun _ => True) ?hr ?hp (fun _ hk => hk) trivial (Below.refl _ _) (Nat.le_refl _) (by simp) ?_; (case hd => rfl); (case hg => rfl); (case hr => first | (go_simp; done) | (go_simp; rfl)); (case hp => exact (Reps.one (show Kd.M (Kd.int .i64) _ _ _ (rd l1 0) [.int .i64 (rd l1 0)] from rfl) (Reps.none _ _))); intro v288 w6 ho7 hb hg_ hnew_; clear hg_ hnew_; rw [← Ny287.out] at ho7; have HO289 := aM (rG ho7 (bZ bq)); replace BK285 := zb BK285 hb; replace HB := aM (bT bq hb); clear hb ho7))
   go_ret
   exact ⟨_, ew, by (with_reducible repeat (first | apply rA | apply rN | apply rD)); exact HO289.out, bq⟩
  ·rw [if_neg c4] at H
   exact absurd H (by simp)
 ·rw [if_neg c3] at H
  have c3b0 := eF c3
  have c3b1 := nT c3
  obtain ⟨y290, hy290⟩ : ∃ y_ : List Int, y_ = (([] : List Int)) := ⟨_, rfl⟩
  replace H : (impl_undo_gather.l0 k y290 (([] : List Int)) l1 (l1.length : Int) 0 S0_0 S0_1) = some r := hl hy290 H
  have Ny290 := aM hy290
  clear hy290
  obtain ⟨y293, hy293⟩ : ∃ y_ : List Int, y_ = (([] : List Int)) := ⟨_, rfl⟩
  replace H : (impl_undo_gather.l0 k y290 y293 l1 (l1.length : Int) 0 S0_0 S0_1) = some r := hl hy293 H
  have Ny293 := aM hy293
  clear hy293
  have H' := aM H
  clear H
  go_enter Try.func60, Try.ntmps60
  go_wp2_with (first | ((with_reducible refine gD 2 rfl ?_); refine bx 2 94 #[.func (.func g0_0_) #[] b0_0_, .func (.func g0_1_) #[] b0_1_] ?_; intro gb285 hg w8 hbox hb; have BK285 := aM hbox; have GW285 := gw w hg; have GE285 := GW285; replace HB := aM (bT bq hb); clear hb hbox hg) | ((with_reducible refine gD 16 rfl ?_); refine Kd.R_lit (Kd.int .i64) _ 2 ?hg (N := 16) ?hd (xs := ([] : List Int)) (inner := []) (ok := fun _ => True) (okp := fun _ => True) ?hr ?hp (fun _ hk => hk) trivial (Below.refl _ _) (Nat.le_refl _) (by simp) ?_; (case hd => rfl); (case hg => rfl); (case hr => first | (go_simp; done) | (go_simp; rfl)); (case hp => exact (Reps.none _ _)); intro v291 w9 ho10 hb hg_ hnew_; clear hg_ hnew_; rw [← Ny290.out] at ho10; have HO292 := aM (rG ho10 (bZ bq)); replace BK285 := zb BK285 hb; replace HB := aM (bT bq hb); clear hb ho10) | ((with_reducible refine gD 17 rfl ?_); refine Kd.R_lit (Kd.int .i64) _ 2 ?hg (N := 17) ?hd (xs := ([] : List Int)) (inner := []) (ok := fun _ => True) (okp := fun _ => True) ?hr ?hp (fun _ hk => hk) trivial (Below.refl _ _) (Nat.le_refl _) (by simp) ?_; (case hd => rfl); (case hg => rfl); (case hr => first | (go_simp; done) | (go_simp; rfl)); (case hp => exact (Reps.none _ _)); intro v294 w11 ho12 hb hg_ hnew_; clear hg_ hnew_; rw [← Ny293.out] at ho12; have HO295 := aM (rG (wq ho12 HO292) (bZ bq)); replace HO292 := zh (rq HO292.out) ho12 hb; replace BK285 := zb BK285 hb; replace HB := aM (bT bq hb); clear hb ho12))
  go_loopg [5, 6, 20] k (fun kq v5 v6 v20 w' => ∃ (x5_1 : List Int) (x6_1 : List Int) (x20_1 : Int), v20 = .int .i64 x20_1 ∧ Aside0 (impl_undo_gather.l0 kq x5_1 x6_1 l1 (l1.length : Int) x20_1 S0_0 S0_1 = some r) ∧ Aside0 (kq ≤ k) ∧ Aside0 (Kd.R (Kd.int .i64) 2 w' w.heap.size (fun k_ => nb v6 k_) v5 x5_1) ∧ Aside0 (Kd.R (Kd.int .i64) 2 w' w.heap.size (fun k_ => nb v5 k_) v6 x6_1) ∧ Aside0 (w'.heap[gb285]? = some (.cells #[.func (.func g0_0_) #[] b0_0_, .func (.func g0_1_) #[] b0_1_] 94 (0, 0))) ∧ Aside0 (Below w.heap.size w w'))
  case atStart => exact ⟨(y290), (y293), (0), (ex), H', ⟨Nat.le_refl _⟩, aM (rq (rM HO292.out (fun _ hk => hk.2))), aM (rq (rM HO295.out (fun _ hk => hk.2))), aM (kq BK285.out), ⟨bq⟩⟩
  case round =>
   clear H'
   try clear c1
   try clear p2
   try clear q2
   try clear hx2
   try clear qi2
   try clear c3
   try clear c3b0
   try clear c3b1
   try clear c4
   try clear c4b0
   try clear c4b1
   try clear c6
   try clear hx286_0
   try clear p286
   try clear q286
   obtain ⟨x5_1, x6_1, x20_1, rfl, HA, HK1, HO_5, HO_6, BK285, HB⟩ := hrel
   cases gk with
   | zero => exact absurd HA.out (by simp [impl_undo_gather.l0])
   | succ k1 =>
    have H := HA.out
    clear HA
    simp only [impl_undo_gather.l0] at H
    by_cases c13 : x20_1 < (l1.length : Int)
    ·rw [if_pos c13] at H
     have c13b0 := dT c13
     clear c13
     by_cases c14 : 0 ≤ x20_1
     ·rw [if_pos c14] at H
      have c14b0 := dT c14
      clear c14
      by_cases c15 : x20_1 < (l1.length : Int)
      ·rw [if_pos c15] at H
       have c15b0 := dT c15
       clear c15
       by_cases c16 : (Int.tmod x20_1 2) = 0
       ·rw [if_pos c16] at H
        have c16b0 := eT c16
        have c16b1 := nF c16
        clear c16
        by_cases c17 : x5_1.length < 17592186044416
        ·rw [if_pos c17] at H
         have LMc17 := aM c17
         clear c17
         obtain ⟨y297, Ny297⟩ : ∃ y_ : List Int, Aside0 (y_ = (x5_1 ++ [rd l1 x20_1])) := ⟨_, ⟨rfl⟩⟩
         rw [← Ny297.out] at H
         have H' := aM H
         clear H
         have p296 : 0 ≤ (x20_1 : Int) := dt
         have q296 : x20_1 < (l1.length : Int) := dt
         obtain ⟨ad296, e296, hx296_0⟩ := Kd.at_int HR1.out x20_1 p296 q296
         cases e296
         replace hx296_0 := (HB.out.cell (World.block_lt_of_cell? w _ hx296_0)).trans hx296_0
         replace p296 := eq_true p296
         replace q296 := eq_true q296
         go_wp2_with (first | ((with_reducible refine gate_builtin (b := .append) (xs := #[.tmp 28, .tmp 30]) rfl ?_); at_builtin; refine Kd.R_append (Kd.int .i64) (w0 := w) w.heap.size rfl (.tmp 28) (.tmp 30) 22 2 (.int .i64 0) 8 rfl Try.underlying22 info2 rfl (by decide) (by omega) u5 x5_1 (rd l1 x20_1) [.int .i64 (rd l1 x20_1)] (fun k_ => nb u6 k_) (fun _ => False) rfl rfl ?aP (fun _ hk => hk.elim) ?aF ?aO ?aB ?aS ?aL ?_; (case aP => exact rfl); (case aB => exact bq); (case aF => exact (fun k_ hk => Kd.fresh' (rT (rq HO_6.out)) k_ hk)); (case aO => exact (rq HO_5.out)); (case aS => exact (bZ bq)); (case aL => have := LMc17.out; omega); intro v298 w18 ho hb hg hat; rw [← Ny297.out] at ho; replace HO_6 := aM (Kd.R_after (ok := (fun _ => True)) (rq (rM HO_6.out (fun _ hk => ⟨trivial, hk⟩))) hg hat); replace BK285 := aM (blk_grown (kq BK285.out) hg (Kd.R_ne HO_5.out BK285.out (by decide))); replace HB := aM hb; have HO299 := aM (ho); clear HO_5 ho hb hg hat))
         go_roundg k1
         case measure => have := HK1.out; omega
         case rel => exact ⟨(y297), (x6_1), (wrap64 (x20_1 + 1)), (ex), H', ⟨by have := HK1.out; omega⟩, aM (rq HO299.out), aM (rq (rM HO_6.out (fun _ hk => hk.2))), aM (kq BK285.out), ⟨bq⟩⟩
        ·rw [if_neg c17] at H
         exact absurd H (by simp)
       ·rw [if_neg c16] at H
        have c16b0 := eF c16
        have c16b1 := nT c16
        by_cases c19 : x6_1.length < 17592186044416
        ·rw [if_pos c19] at H
         have LMc19 := aM c19
         clear c19
         obtain ⟨y300, Ny300⟩ : ∃ y_ : List Int, Aside0 (y_ = (x6_1 ++ [rd l1 x20_1])) := ⟨_, ⟨rfl⟩⟩
         rw [← Ny300.out] at H
         have H' := aM H
         clear H
         have p296 : 0 ≤ (x20_1 : Int) := dt
         have q296 : x20_1 < (l1.length : Int) := dt
         obtain ⟨ad296, e296, hx296_0⟩ := Kd.at_int HR1.out x20_1 p296 q296
         cases e296
         replace hx296_0 := (HB.out.cell (World.block_lt_of_cell? w _ hx296_0)).trans hx296_0
         replace p296 := eq_true p296
         replace q296 := eq_true q296
         go_wp2_with (first | ((with_reducible refine gate_builtin (b := .append) (xs := #[.tmp 32, .tmp 34]) rfl ?_); at_builtin; refine Kd.R_append (Kd.int .i64) (w0 := w) w.heap.size rfl (.tmp 32) (.tmp 34) 22 2 (.int .i64 0) 8 rfl Try.underlying22 info2 rfl (by decide) (by omega) u6 x6_1 (rd l1 x20_1) [.int .i64 (rd l1 x20_1)] (fun k_ => nb u5 k_) (fun _ => False) rfl rfl ?aP (fun _ hk => hk.elim) ?aF ?aO ?aB ?aS ?aL ?_; (case aP => exact rfl); (case aB => exact bq); (case aF => exact (fun k_ hk => Kd.fresh' (rT (rq HO_5.out)) k_ hk)); (case aO => exact (rq HO_6.out)); (case aS => exact (bZ bq)); (case aL => have := LMc19.out; omega); intro v301 w20 ho hb hg hat; rw [← Ny300.out] at ho; replace HO_5 := aM (Kd.R_after (ok := (fun _ => True)) (rq (rM HO_5.out (fun _ hk => ⟨trivial, hk⟩))) hg hat); replace BK285 := aM (blk_grown (kq BK285.out) hg (Kd.R_ne HO_6.out BK285.out (by decide))); replace HB := aM hb; have HO302 := aM (ho); clear HO_6 ho hb hg hat))
         go_roundg k1
         case measure => have := HK1.out; omega
         case rel => exact ⟨(x5_1), (y300), (wrap64 (x20_1 + 1)), (ex), H', ⟨by have := HK1.out; omega⟩, aM (rq (rM HO_5.out (fun _ hk => hk.2))), aM (rq HO302.out), aM (kq BK285.out), ⟨bq⟩⟩
        ·rw [if_neg c19] at H
         exact absurd H (by simp)
      ·rw [if_neg c15] at H
       exact absurd H (by simp)
     ·rw [if_neg c14] at H
      exact absurd H (by simp)
    ·rw [if_neg c13] at H
     have c13b0 := dF c13
     clear c13
     replace H := bo H
     obtain ⟨t303, A21, H⟩ := H
     replace H := bz H
     replace H := bo H
     obtain ⟨t306, A22, H⟩ := H
     replace H := bz H
     replace H := bo H
     obtain ⟨⟨t309, t312⟩, A23, H⟩ := H
     replace H : (some t309) = some r := H
     obtain rfl := Option.some.inj H
     try go_wp2
     replace HO_5 := zd HO_5
     replace HO_6 := zd HO_6
     replace BK285 := zk BK285
     replace HB := aM (bD HB.out)
     obtain ⟨Ao25, co25, eo25⟩ := Kd.R_slice HO_5.out
     (first | subst eo25 | (injection eo25 with f1_ f2_ f3_; have f4_ := f1_.symm; have f5_ := f3_.symm; clear f1_ f2_ f3_; subst f4_; subst f5_))
     refine start_ (n := 9) (S := fun w' => w'.cell? ⟨gb285, 0, none⟩ = some (.func (.func g0_0_) #[] b0_0_) ∧ w'.cell? ⟨gb285, 1, none⟩ = some (.func (.func g0_1_) #[] b0_1_)) (ds := []) #[N,N,N,N,N,N,N,N,N] kr rfl rfl ⟨cc, cc⟩ (fun hHeld => ?_); refine with_tabW impl_undo_gather.tab11 impl_undo_gather.bits11 (fun HT_ HW_ => ?_)
     generalize wr.drew = w24 at HO_5 HO_6 BK285 HB hHeld ⊢
     refine p1 39 2 ?_
     refine p1 42 5 ?_
     refine t1 37 0 ?_ (hy := by rintro w' ⟨s0, s1⟩; go_simp; with_reducible rfl)
     refine t1 38 1 ?_ (hy := by rintro w' ⟨s0, s1⟩; go_simp; with_reducible rfl)
     refine t1 41 4 ?_ (hy := by rintro w' ⟨s0, s1⟩; go_simp; with_reducible rfl)
     refine o1 40 3 fun K hK => ?_
     refine goes_ Try.func60 kr rfl #[.agg #[.func (.func g0_0_) #[] b0_0_, .func (.func g0_1_) #[] b0_1_], .slice Ao25 x5_1.length co25] (by rfl) rfl rfl mq ?_
     with_reducible refine (ih k1 (by have := HK1.out; omega) _ _ S0_0 _ _ S0_1 _ _ x5_1 t303 _ ?s1 ?s2 ?s3 ?s4 A21.out).mono ?_
     (case s1 => exact FnOK4.later HS0_0.out bq)
     (case s2 => exact FnOK2.later HS0_1.out bq)
     (case s3 => exact cq (rR HO_5.out).2.2)
     (case s4 => exact (rR HO_5.out).2.1)
     rintro e w26 ⟨v304, rfl, ho0, hb⟩
     refine ⟨_, rfl, ?_⟩
     have HO305 := aM (rG (wq (wq ho0 HO_5) HO_6) (bZ bq))
     replace HO_5 := zh (rq HO_5.out) ho0 hb
     replace HO_6 := zh (rq HO_6.out) ho0 hb
     replace BK285 := zb BK285 hb
     replace HB := aM (bT bq hb)
     (try clear hb)
     (try clear hb2)
     (try clear hk)
     (try clear hi)
     (try clear ho0)
     obtain ⟨Ao27, co27, eo27⟩ := Kd.R_slice HO_6.out
     (first | subst eo27 | (injection eo27 with f1_ f2_ f3_; have f4_ := f1_.symm; have f5_ := f3_.symm; clear f1_ f2_ f3_; subst f4_; subst f5_))
     refine hK.out _ _ ⟨cc, cc⟩ (fun hHeld => ?_)
     clear hK K
     refine nn ?_
     refine o1 43 6 fun K hK => ?_
     refine goes_ Try.func60 kr rfl #[.agg #[.func (.func g0_0_) #[] b0_0_, .func (.func g0_1_) #[] b0_1_], .slice Ao27 x6_1.length co27] (by rfl) rfl rfl mq ?_
     with_reducible refine (ih k1 (by have := HK1.out; omega) _ _ S0_0 _ _ S0_1 _ _ x6_1 t306 _ ?s1 ?s2 ?s3 ?s4 A22.out).mono ?_
     (case s1 => exact FnOK4.later HS0_0.out bq)
     (case s2 => exact FnOK2.later HS0_1.out bq)
     (case s3 => exact cq (rR HO_6.out).2.2)
     (case s4 => exact (rR HO_6.out).2.1)
     rintro e w28 ⟨v307, rfl, ho0, hb⟩
     refine ⟨_, rfl, ?_⟩
     have HO308 := aM (rG (wq (wq (wq ho0 HO_5) HO_6) HO305) (bZ bq))
     replace HO_5 := zh (rq HO_5.out) ho0 hb
     replace HO_6 := zh (rq HO_6.out) ho0 hb
     replace HO305 := zh (rq HO305.out) ho0 hb
     replace BK285 := zb BK285 hb
     replace HB := aM (bT bq hb)
     (try clear hb)
     (try clear hb2)
     (try clear hk)
     (try clear hi)
     (try clear ho0)
     obtain ⟨Ao29, co29, eo29⟩ := Kd.R_slice HO305.out
     (first | subst eo29 | (injection eo29 with f1_ f2_ f3_; have f4_ := f1_.symm; have f5_ := f3_.symm; clear f1_ f2_ f3_; subst f4_; subst f5_))
     obtain ⟨Ao30, co30, eo30⟩ := Kd.R_slice HO308.out
     (first | subst eo30 | (injection eo30 with f1_ f2_ f3_; have f4_ := f1_.symm; have f5_ := f3_.symm; clear f1_ f2_ f3_; subst f4_; subst f5_))
     refine hK.out _ _ ⟨cc, cc⟩ (fun hHeld => ?_)
     clear hK K
     refine nn ?_
     refine o1 44 7 fun K hK => ?_
     refine goes_ Try.func110 kr rfl #[.agg #[.func (.func g0_0_) #[] b0_0_, .func (.func g0_1_) #[] b0_1_], .slice Ao29 t303.length co29, .slice Ao30 t306.length co30] (by rfl) rfl rfl mq ?_
     with_reducible refine (impl_undo_unite.calls k1 _ _ S0_0 _ _ S0_1 _ _ t303 (fun k_ => some k_ = (.slice Ao30 t306.length co30 : Value).ownBlock) (.slice Ao30 t306.length co30) t306 t309 t312 w _ ?s1 ?s2 ?s3 ?s4 ?s5 ?s6 A23.out).mono ?_
     (case s1 => exact bq)
     (case s2 => exact HS0_0.out)
     (case s3 => exact HS0_1.out)
     (case s4 => exact Kd.C_kept_own (HO305.out) (fun k_ hk_ hs_ => (hk_.2) hs_))
     (case s5 => exact (rR HO305.out).2.1)
     (case s6 => exact Kd.R_tight rfl HO308.out)
     rintro e w31 ⟨v310, rfl, ho0, hy0, hb, hkp⟩
     refine ⟨_, rfl, ?_⟩
     replace BK285 := aM (blk_kept (kq BK285.out) hkp (fun hs_ => (fun e_ => (Kd.R_ne HO308.out BK285.out (by decide)) e_) hs_))
     replace HO308 := aM (Kd.R_reok rfl hy0 (fun k_ e_ => HO308.out.1 k_ e_))
     have HO311 := aM (rM (ok' := fun k_ => nS Ao25 x5_1 co25 k_ ∧ nS Ao27 x6_1 co27 k_ ∧ nS Ao29 t303 co29 k_ ∧ nS Ao30 t306 co30 k_) ho0 (fun k_ hk_ => ⟨Or.elim hk_.1 (fun hs_ => fun e_ => (((HO_5.out).1 k_ e_.symm).2) hs_) (fun hn_ => (Kd.fresh' (rT (rq HO_5.out)) k_ hn_)), Or.elim hk_.1 (fun hs_ => fun e_ => (((HO_6.out).1 k_ e_.symm).2) hs_) (fun hn_ => (Kd.fresh' (rT (rq HO_6.out)) k_ hn_)), Or.elim hk_.1 (fun hs_ => fun e_ => (((HO305.out).1 k_ e_.symm).2) hs_) (fun hn_ => (Kd.fresh' (rT (rq HO305.out)) k_ hn_)), hk_.2⟩))
     replace HO_5 := aM (rM (ok' := fun k_ => nS Ao27 x6_1 co27 k_ ∧ nS Ao29 t303 co29 k_ ∧ nS Ao30 t306 co30 k_ ∧ nb v310 k_) (Kd.R_keptB (HO_5.out) hkp (fun k_ hk_ hs_ => (hk_.2) hs_)) (fun k_ hk_ => ⟨hk_.1.1.1, hk_.1.1.2, hk_.1.2, fun e_ => Or.elim (ho0.1 k_ e_.symm).1 (fun hs_ => hk_.2.1 hs_) (fun hn_ => Nat.not_le.2 hk_.2.2 hn_)⟩))
     replace HO_6 := aM (rM (ok' := fun k_ => nS Ao25 x5_1 co25 k_ ∧ nS Ao29 t303 co29 k_ ∧ nS Ao30 t306 co30 k_ ∧ nb v310 k_) (Kd.R_keptB (HO_6.out) hkp (fun k_ hk_ hs_ => (hk_.2) hs_)) (fun k_ hk_ => ⟨hk_.1.1.1, hk_.1.1.2, hk_.1.2, fun e_ => Or.elim (ho0.1 k_ e_.symm).1 (fun hs_ => hk_.2.1 hs_) (fun hn_ => Nat.not_le.2 hk_.2.2 hn_)⟩))
     replace HO305 := aM (rM (ok' := fun k_ => nS Ao25 x5_1 co25 k_ ∧ nS Ao27 x6_1 co27 k_ ∧ nS Ao30 t306 co30 k_ ∧ nb v310 k_) (Kd.R_keptB (HO305.out) hkp (fun k_ hk_ hs_ => (hk_.2) hs_)) (fun k_ hk_ => ⟨hk_.1.1.1.2, hk_.1.1.2, hk_.1.2, fun e_ => Or.elim (ho0.1 k_ e_.symm).1 (fun hs_ => hk_.2.1 hs_) (fun hn_ => Nat.not_le.2 hk_.2.2 hn_)⟩))
     replace HB := aM hb
     (try clear hb)
     (try clear hkp)
     (try clear ho0)
     (try clear hy0)
     refine hK.out _ _ ⟨cc, cc⟩ (fun hHeld => ?_)
     clear hK K
     refine nn ?_
     refine p1 4 8 ?_
     refine done_ (done_of HT_.out kr) ?_
     try go_wp2
     go_ret
     exact ⟨_, ew, by (with_reducible repeat (first | apply rA | apply rN | apply rD)); exact rM HO311.out (fun _ hk => trivial), bq⟩
def slices_Clone_int64_int64.f (l0 : List Int) : Option (List Int) := if l0.length < 17592186044416 then some l0 else none
theorem slices_Clone_int64_int64.calls (A0 : Option Addr) (c0 : Nat) (l0 : List Int) (r : List Int) (w : World) (hr0 : Kd.C (Kd.int .i64) w A0 l0.length l0) (hc0 : l0.length ≤ c0) (h : slices_Clone_int64_int64.f l0 = some r) :
  Calls Try.prog 71 #[.slice A0 l0.length c0] w fun e w' => ∃ v0_ : Value, e = .returned (v0_) ∧ Kd.R (Kd.int .i64) 2 w' w.heap.size (fun _ => True) v0_ r ∧ Below w.heap.size w w' := by
 have hl : l0.length < 17592186044416 := by
  unfold slices_Clone_int64_int64.f at h
  split at h
  ·assumption
  ·cases h
 have hr : l0 = r := by unfold slices_Clone_int64_int64.f at h; rw [if_pos hl] at h; exact Option.some.inj h
 subst hr
 clear h
 have q_ : ∀ (w : World) (a : Option Addr) (n c n' c' : Nat), (binOp .eql 22 (.slice a n c) (.slice none n' c')).run Try.prog w = .ok (.bool a.isNone) w := fun w a n c n' c' => Lib.run_eql_slice_nil w _ _ a n c n' c' Try.underlying22
 cases A0 with
 | none =>
  have h0 : l0 = [] := by
   rcases Nat.eq_zero_or_pos l0.length with h | h
   ·exact List.length_eq_zero_iff.1 h
   ·obtain ⟨ad, e, _⟩ := hr0.2.2 h
    cases e
  subst h0
  clear hr0
  go_enter Try.func71, Try.ntmps71
  go_wp2
  go_ret
  exact ⟨_, rfl, Kd.R_nil _ _ _ _ _, Below.refl _ _⟩
 | some a0 =>
  have HR0 := aM hr0
  have HC0 := aM hc0
  clear hr0 hc0
  have HB := aM (Below.refl w.heap.size w)
  have LMc2 := aM hl
  clear hl
  go_enter Try.func71, Try.ntmps71
  go_wp2_with (first | ((with_reducible refine gD 5 rfl ?_); refine Kd.R_lit (Kd.int .i64) _ 2 ?hg (N := 5) ?hd (xs := ([] : List Int)) (inner := []) (ok := fun _ => True) (okp := fun _ => True) ?hr ?hp (fun _ hk => hk) trivial (Below.refl _ _) (Nat.le_refl _) (by simp) ?_; (case hd => rfl); (case hg => rfl); (case hr => first | (go_simp; done) | (go_simp; rfl)); (case hp => exact (Reps.none _ _)); intro v113 w3 ho4 hb hg_ hnew_; clear hg_ hnew_; have HO114 := aM (rG ho4 (bZ bq)); replace HB := aM (bT bq hb); clear hb ho4) | ((with_reducible refine gate_builtin (b := .append) (xs := #[.tmp 5, .tmp 6]) rfl ?_); at_builtin; refine Kd.R_append_rows (Kd.int .i64) (w0 := w) w.heap.size rfl (.tmp 5) (.tmp 6) 22 2 (.int .i64 0) 8 rfl Try.underlying22 info2 rfl (by decide) (by omega) v113 [] l0 _ _ _ (fun _ => True) (fun _ => False) rfl rfl ?aO ?aR (fun _ _ h => h) (fun _ h => h.elim) ?aF ?aB ?aS ?aL ?_; (case aR => exact cq (cB HR0.out HB.out)); (case aB => exact bq); (case aF => exact (fun _ _ => trivial)); (case aO => exact (rq HO114.out)); (case aS => exact (bZ bq)); (case aL => have := LMc2.out; simp; omega); intro v116 w5 ho hb hg hat; replace HB := aM hb; have HO117 := aM (ho); clear HO114 ho hb hg hat))
  go_ret
  exact ⟨_, ex, by (with_reducible repeat (first | apply rA | apply rN | apply rD)); exact HO117.out, bq⟩
def impl_seam.l0 : Nat → (Int → Int → Int → Option (Int × Int)) → List Int → List Int → Int → Int → Option (List Int × List Int)
 | 0, _, _, _, _, _ => none
 | k + 1, x2, x8, x9, x17, x18 => if x18 < x17 then (if 0 ≤ (wrap64 ((wrap64 ((x8.length : Int) - 1)) - x18)) then (if (wrap64 ((wrap64 ((x8.length : Int) - 1)) - x18)) < (x8.length : Int) then (if 0 ≤ x18 then (if x18 < (x9.length : Int) then ((x2 x18 (rd x8 (wrap64 ((wrap64 ((x8.length : Int) - 1)) - x18))) (rd x9 x18)).bind fun bt321 => (impl_seam.l0 k x2 (x8.set ((wrap64 ((wrap64 ((x8.length : Int) - 1)) - x18)) : Int).toNat bt321.1) (x9.set (x18 : Int).toNat bt321.2) x17 (wrap64 (x18 + 1)))) else (none)) else (none)) else (none)) else (none)) else (some (x8, x9))
def impl_seam.f (k : Nat) (l0 : List Int) (l1 : List Int) (S2 : (Int → Int → Int → Option (Int × Int))) : Option (List Int × List Int) := (slices_Clone_int64_int64.f l0).bind fun t313 => ((slices_Clone_int64_int64.f l1).bind fun t316 => (impl_seam.l0 k S2 t313 t316 (t316.length : Int) 0))
def impl_seam.T6 : Bool × List (List Nat × List Nat) := (true, [([], []), ([], []), ([], []), ([], []), ([], []), ([], []), ([], []), ([], []), ([6, 7], [6, 7]), ([8], [8]), ([], []), ([], []), ([10, 11], [10, 11]), ([12], [12]), ([4, 5, 9, 13], [4, 5, 9, 13]), ([14], [14]), ([15], [15]), ([15], [15]), ([0, 1, 0, 1, 4, 5, 6, 7, 8, 9, 10, 11, 12, 13, 14, 15, 16], [0, 1]), ([18, 16, 14, 0, 1, 4, 5, 6, 7, 8, 9, 10, 11, 12, 13, 14, 15, 16], [16, 18]), ([2, 3, 0, 1, 2, 3, 4, 5, 6, 7, 8, 9, 10, 11, 12, 13, 14, 15, 16, 17, 18, 19], [2, 3]), ([20, 17, 19, 0, 1, 2, 3, 4, 5, 6, 7, 8, 9, 10, 11, 12, 13, 14, 15, 16, 17, 18, 19], [17, 20])])
def impl_seam.B6 : List Nat := [0, 0, 0, 0, 0, 0, 0, 0, 192, 448, 0, 0, 3072, 7168, 16368, 32752, 65520, 65520, 131059, 393203, 1048575, 2097151]
theorem impl_seam.tab6 : rtab .any (opsOf Try.f61 6) = impl_seam.T6 := by kernel_rfl
theorem impl_seam.bits6 : waitsOk impl_seam.T6.2 impl_seam.B6 = true := by kernel_rfl
theorem impl_seam.calls (k : Nat) (A0 : Option Addr) (c0 : Nat) (l0 : List Int) (A1 : Option Addr) (c1 : Nat) (l1 : List Int) (g2_ : Nat) (b2_ : Array Value) (S2 : (Int → Int → Int → Option (Int × Int))) (r1 : List Int) (r2 : List Int) (w : World) (hr0 : Kd.C (Kd.int .i64) w A0 l0.length l0) (hc0 : l0.length ≤ c0) (hr1 : Kd.C (Kd.int .i64) w A1 l1.length l1) (hc1 : l1.length ≤ c1) (hS2 : FnOK3 g2_ b2_ S2 w) (h : impl_seam.f k l0 l1 S2 = some (r1, r2)) :
  Calls Try.prog 61 #[.slice A0 l0.length c0, .slice A1 l1.length c1, .func (.func g2_) #[] b2_] w fun e w' => ∃ v0_ v1_ : Value, e = .returned (.tuple #[v0_, v1_]) ∧ Kd.R (Kd.int .i64) 2 w' w.heap.size (fun k_ => nb v1_ k_) v0_ r1 ∧ Kd.R (Kd.int .i64) 2 w' w.heap.size (fun k_ => nb v0_ k_) v1_ r2 ∧ Below w.heap.size w w' := by
 have HR0 := aM hr0
 have HC0 := aM hc0
 clear hr0 hc0
 have HR1 := aM hr1
 have HC1 := aM hc1
 clear hr1 hc1
 have HS2 := aM hS2
 clear hS2
 have HB := aM (Below.refl w.heap.size w)
 unfold impl_seam.f at h
 have H := h
 clear h
 replace H := bo H
 obtain ⟨t313, A4, H⟩ := H
 replace H := bz H
 replace H := bo H
 obtain ⟨t316, A5, H⟩ := H
 replace H := bz H
 have H' := aM H
 clear H
 go_enter Try.func61, Try.ntmps61
 go_wp2_with (first | ((with_reducible refine gC 71 rfl ?_); refine gl (some 13) Try.func71 #[.slice A0 l0.length c0] ?_; (with_reducible refine (slices_Clone_int64_int64.calls _ _ l0 t313 _ ?s1 ?s2 A4.out).mono ?_); (case s1 => exact cq HR0.out); (case s2 => exact HC0.out); rintro e w6 ⟨v314, rfl, ho0, hb⟩; refine ii ?_; have HO315 := aM (rG ho0 (bZ bq)); replace HB := aM (bT bq hb); (try clear hb); (try clear ho0)) | ((with_reducible refine gC 71 rfl ?_); refine gl (some 15) Try.func71 #[.slice A1 l1.length c1] ?_; (with_reducible refine (slices_Clone_int64_int64.calls _ _ l1 t316 _ ?s1 ?s2 A5.out).mono ?_); (case s1 => exact cq (cB HR1.out HB.out)); (case s2 => exact HC1.out); rintro e w7 ⟨v317, rfl, ho0, hb⟩; refine ii ?_; have HO318 := aM (rG (wq ho0 HO315) (bZ bq)); replace HO315 := zh (rq HO315.out) ho0 hb; replace HB := aM (bT bq hb); (try clear hb); (try clear ho0); obtain ⟨Ao8, co8, rfl⟩ := rS HO318.out))
 go_loopg [18] k (fun kq v18 w' => ∃ (x8_1 : List Int) (x9_1 : List Int) (x18_1 : Int), v18 = .int .i64 x18_1 ∧ Aside0 (impl_seam.l0 kq S2 x8_1 x9_1 (t316.length : Int) x18_1 = some (r1, r2)) ∧ Aside0 (kq ≤ k) ∧ Aside0 (Kd.R (Kd.int .i64) 2 w' w.heap.size (fun k_ => some k_ ≠ ((.slice Ao8 t316.length co8) : Value).ownBlock) v314 x8_1) ∧ Aside0 (Kd.R (Kd.int .i64) 2 w' w.heap.size (fun k_ => nb v314 k_) (.slice Ao8 t316.length co8) x9_1) ∧ Aside0 (Below w.heap.size w w'))
 case atStart => exact ⟨(t313), (t316), (0), (ex), H', ⟨Nat.le_refl _⟩, aM (rq (rM HO315.out (fun _ hk => hk.2))), aM (rq (rM HO318.out (fun _ hk => hk.2))), ⟨bq⟩⟩
 case round =>
  clear H'
  try clear c1
  try clear p2
  try clear c6
  try clear c7
  obtain ⟨x8_1, x9_1, x18_1, rfl, HA, HK1, HO_8, HO_9, HB⟩ := hrel
  have hl9_1 := (rR HO_9.out).1
  rw [hl9_1] at HO_9
  (try simp only [hl9_1])
  (try simp only [hl9_1] at HO_8)
  cases gk with
  | zero => exact absurd HA.out (by simp [impl_seam.l0])
  | succ k1 =>
   have H := HA.out
   clear HA
   simp only [impl_seam.l0] at H
   by_cases c9 : x18_1 < (t316.length : Int)
   ·rw [if_pos c9] at H
    have c9b0 := dT c9
    (try (have c9h0 := c9b0; simp only [hl9_1] at c9h0))
    clear c9
    obtain ⟨ji10, hji10⟩ : ∃ j_ : Int, (wrap64 ((wrap64 ((x8_1.length : Int) - 1)) - x18_1)) = j_ := ⟨_, rfl⟩
    rw [hji10] at H
    have hji10w : (IntKind.i64.wrap ((wrap64 ((x8_1.length : Int) - 1)) - x18_1)) = ji10 := (i64_w _).trans hji10
    by_cases c11 : 0 ≤ (ji10)
    ·rw [if_pos c11] at H
     have c11b0 := dT c11
     (try (have c11h0 := c11b0; simp only [hl9_1] at c11h0))
     clear c11
     by_cases c12 : (ji10) < (x8_1.length : Int)
     ·rw [if_pos c12] at H
      have c12b0 := dT c12
      (try (have c12h0 := c12b0; simp only [hl9_1] at c12h0))
      clear c12
      by_cases c13 : 0 ≤ x18_1
      ·rw [if_pos c13] at H
       have c13b0 := dT c13
       (try (have c13h0 := c13b0; simp only [hl9_1] at c13h0))
       clear c13
       by_cases c14 : x18_1 < (x9_1.length : Int)
       ·rw [if_pos c14] at H
        have c14b0 := dT c14
        (try (have c14h0 := c14b0; simp only [hl9_1] at c14h0))
        clear c14
        replace H := bo H
        obtain ⟨⟨t321, t322⟩, A15, H⟩ := H
        replace H := bz H
        obtain ⟨y323, Ny323⟩ : ∃ y_ : List Int, Aside0 (y_ = (x8_1.set ((ji10) : Int).toNat t321)) := ⟨_, ⟨rfl⟩⟩
        rw [← Ny323.out] at H
        obtain ⟨y324, Ny324⟩ : ∃ y_ : List Int, Aside0 (y_ = (x9_1.set (x18_1 : Int).toNat t322)) := ⟨_, ⟨rfl⟩⟩
        rw [← Ny324.out] at H
        have H' := aM H
        clear H
        obtain ⟨Ao18, co18, eo18⟩ := Kd.R_slice HO_8.out
        subst eo18
        try go_wp2
        replace HO_8 := zd HO_8
        replace HO_9 := zd HO_9
        replace HB := aM (bD HB.out)
        have p319 : 0 ≤ ((ji10) : Int) := dt
        have q319 : (ji10) < (x8_1.length : Int) := dt
        obtain ⟨ad319, e319, hx319_0⟩ := Kd.at_int (rR HO_8.out).2.2 (ji10) p319 q319
        cases e319
        replace p319 := eq_true p319
        replace q319 := eq_true q319
        have p320 : 0 ≤ (x18_1 : Int) := dt
        have q320 : x18_1 < (x9_1.length : Int) := dt
        obtain ⟨ad320, e320, hx320_0⟩ := Kd.at_int (rR HO_9.out).2.2 x18_1 p320 q320
        cases e320
        replace p320 := eq_true p320
        replace q320 := eq_true q320
        refine start_ (n := 22) (S := fun w' => w'.cell? (ad319.add ((ji10)).toNat) = some (.int .i64 (rd x8_1 (ji10))) ∧ w'.cell? (ad320.add (x18_1).toNat) = some (.int .i64 (rd x9_1 x18_1))) (ds := [19, 21]) #[N,N,N,N,N,N,N,N,N,N,N,N,N,N,N,N,N,N,N,N,N,N] kr rfl rfl ⟨hx319_0, hx320_0⟩ (fun hHeld => ?_); refine with_tabW impl_seam.tab6 impl_seam.bits6 (fun HT_ HW_ => ?_)
        generalize wr.drew = w19 at HO_8 HO_9 HB hx319_0 hx320_0 hHeld ⊢
        refine p1 27 0 ?_
        refine p1 28 1 ?_
        refine p1 29 2 ?_
        refine p1 30 3 ?_
        refine p1 31 4 ?_
        refine p1 32 5 ?_
        refine p1 33 6 ?_
        refine p1 34 7 ?_
        refine p1 35 8 ?_
        refine p1 37 10 ?_
        refine p1 38 11 ?_
        refine p1 39 12 ?_
        refine t1 36 9 ?_ (hy := by rintro w' ⟨s0, s1⟩; go_simp; with_reducible rfl)
        refine t1 40 13 ?_ (hy := by rintro w' ⟨s0, s1⟩; go_simp; with_reducible rfl)
        refine o1 41 14 fun K hK => ?_
        refine goesV_ HS2.out.en #[.int .i64 x18_1, .int .i64 (rd x8_1 (ji10)), .int .i64 (rd x9_1 x18_1)] (by rfl) rfl rfl rfl (by (try simp only [List.map_toArray, List.map_cons, List.map_nil]); first | done | (simp only [hji10]; rfl) | rfl | (simp only [List.length_drop, List.length_take]; rfl)) ?_
        with_reducible refine (FnOK3.calls HS2.out bq x18_1 (rd x8_1 (ji10)) (rd x9_1 x18_1) t321 t322 A15.out).mono ?_
        rintro e w20 ⟨rfl, hb⟩
        have HS0_ := (hb.cell (World.block_lt_of_cell? _ _ (hHeld.1))).trans (hHeld.1)
        have HS1_ := (hb.cell (World.block_lt_of_cell? _ _ (hHeld.2))).trans (hHeld.2)
        refine ⟨_, rfl, ?_⟩
        replace HO_8 := zl HO_8 hb
        replace HO_9 := zl HO_9 hb
        replace HB := aM (bT bq hb)
        (try clear hb)
        (try clear hb2)
        (try clear hk)
        (try clear hi)
        have p16 : 0 ≤ ((ji10) : Int) := dt
        have q16 : ((ji10) : Int) < ((x8_1.length : Int) : Int) := dt
        obtain ⟨go16, co16, eo16, gb16, gl16, cl16, HG16⟩ := Kd.R_form HO_8.out (by omega)
        (first | cases eo16 | (injection eo16 with ea_ en_ ec_; (first | subst ea_ | (injection ea_ with ea_; subst ea_)); subst ec_; clear en_))
        have GB16 := aM gb16
        have GG16 := aM HG16
        clear gb16 gl16 HG16
        (first | simp only [add_plain] at hx319_0 | skip)
        obtain ⟨hx16_0, hf16_0⟩ := Kd.R_celln 0 HO_8.out ((ji10) : Int) p16 q16
        replace p16 := eq_true p16
        replace q16 := eq_true q16
        have HP21 := Kd.R_putn HO_8.out ((ji10) : Int) t321
        rw [← Ny323.out] at HP21
        have HQ21 := aM HP21
        clear HP21
        have p17 : 0 ≤ (x18_1 : Int) := dt
        have q17 : (x18_1 : Int) < ((x9_1.length : Int) : Int) := dt
        obtain ⟨go17, co17, eo17, gb17, gl17, cl17, HG17⟩ := Kd.R_form HO_9.out (by omega)
        (first | cases eo17 | (injection eo17 with ea_ en_ ec_; (first | subst ea_ | (injection ea_ with ea_; subst ea_)); subst ec_; clear en_))
        have GB17 := aM gb17
        have GG17 := aM HG17
        clear gb17 gl17 HG17
        (first | simp only [add_plain] at hx320_0 | skip)
        obtain ⟨hx17_0, hf17_0⟩ := Kd.R_celln 0 (rF (p := ⟨go16, ((ji10) : Int).toNat, none⟩) (rM HO_9.out (fun k_ hk => (⟨hk, fun e_ => hk (by rw [e_]; rfl)⟩ : _ ∧ k_ ≠ go16))) (fun _ hk => hk.2) (.int .i64 t321)) (x18_1 : Int) p17 q17
        have hd17_0 := cell_drew_set hx17_0
        have hg17_0 := frozen_set hf17_0
        replace p17 := eq_true p17
        replace q17 := eq_true q17
        have HP22 := Kd.R_putn (rF (p := ⟨go16, ((ji10) : Int).toNat, none⟩) (rM HO_9.out (fun k_ hk => (⟨hk, fun e_ => hk (by rw [e_]; rfl)⟩ : _ ∧ k_ ≠ go16))) (fun _ hk => hk.2) (.int .i64 t321)) (x18_1 : Int) t322
        rw [← Ny324.out] at HP22
        have HQ22 := aM HP22
        clear HP22
        refine hK.out _ _ ⟨HS0_, HS1_⟩ (fun hHeld => ?_)
        clear hK K
        refine nn ?_
        refine p1 26 15 ?_
        refine p1 42 16 ?_
        refine p1 43 17 ?_
        refine p1 44 18 ?_
        refine last_ (i := 19) (N := none) #[Y,Y,Y,Y,Y,Y,Y,Y,Y,Y,Y,Y,Y,Y,Y,Y,Y,Y,Y,Y,N,N] rfl rfl (one_of HT_.out kr) (by decide) (fun K hK => ?_)
        refine skip_ (w1 := ?_) (by rfl) rfl ?_ ?_
        rotate_left
        ·go_simp
         rfl
        refine hK.out _ _ ?_
        clear hK K
        refine p1 45 20 ?_
        refine last_ (i := 21) (N := none) #[Y,Y,Y,Y,Y,Y,Y,Y,Y,Y,Y,Y,Y,Y,Y,Y,Y,Y,Y,Y,Y,Y] rfl rfl (one_of HT_.out kr) (by decide) (fun K hK => ?_)
        refine skip_ (w1 := ?_) (by rfl) rfl ?_ ?_
        rotate_left
        ·go_simp
         rfl
        refine hK.out _ _ ?_
        clear hK K
        refine done_ (done_of HT_.out kr) ?_
        try go_wp2
        (try simp only [← hl9_1])
        go_roundg k1
        case measure => have := HK1.out; omega
        case rel => exact ⟨(y323), (y324), (wrap64 (x18_1 + 1)), (ex), H', ⟨by have := HK1.out; omega⟩, ⟨by (try simp only [hl9_1]); (with_reducible repeat (first | apply rA | apply rN | apply rD)); exact rM (rF (p := ⟨go17, (x18_1 : Int).toNat, none⟩) (rM HQ21.out (fun k_ hk => (⟨hk, fun e_ => hk (by rw [e_]; rfl)⟩ : _ ∧ k_ ≠ go17))) (fun _ hk => hk.2) (.int .i64 t322)) (fun _ hk => hk.1)⟩, ⟨by (try simp only [hl9_1]); (with_reducible repeat (first | apply rA | apply rN | apply rD)); exact rM HQ22.out (fun _ hk => hk.1)⟩, ⟨by repeat (first | (with_reducible first | exact HB.out | apply bA | apply bN | apply bD | refine bS ?_ GB16.out | refine bS ?_ GB17.out) | exact HB.out)⟩⟩
       ·rw [if_neg c14] at H
        exact absurd H (by simp)
      ·rw [if_neg c13] at H
       exact absurd H (by simp)
     ·rw [if_neg c12] at H
      exact absurd H (by simp)
    ·rw [if_neg c11] at H
     exact absurd H (by simp)
   ·rw [if_neg c9] at H
    have c9b0 := dF c9
    (try (have c9h0 := c9b0; simp only [hl9_1] at c9h0))
    clear c9
    simp only [Option.some.injEq, Prod.mk.injEq] at H
    obtain ⟨rfl, rfl⟩ := H
    go_wp2
    go_ret2
    exact ⟨_, _, ew, by (with_reducible repeat (first | apply rA | apply rN | apply rD)); exact HO_8.out, by (with_reducible repeat (first | apply rA | apply rN | apply rD)); exact HO_9.out, bq⟩
end Go.Proofs.Ytmhnpogjkbmmnaa.PFnStates
