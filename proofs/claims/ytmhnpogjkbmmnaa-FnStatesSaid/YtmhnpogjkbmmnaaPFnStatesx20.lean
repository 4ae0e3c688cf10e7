import Derived.Test.YtmhnpogjkbmmnaaPFnStatesx0
import Derived.Test.YtmhnpogjkbmmnaaPFnStatesx5
import Derived.Test.YtmhnpogjkbmmnaaPFnStatesx9
import Derived.Test.YtmhnpogjkbmmnaaPFnStatesx10
import Derived.Test.YtmhnpogjkbmmnaaPFnStatesx16
import Derived.Test.YtmhnpogjkbmmnaaPFnStatesx17
import Derived.Test.YtmhnpogjkbmmnaaPFnStatesx19
namespace Go.Proofs.Ytmhnpogjkbmmnaa.PFnStates
open Go.RowKit Go.Proofs.YtmhnpogjkbmmnaaW.PrintWords Go.Proofs.YtmhnpogjkbmmnaaW.PrintLast Go.Proofs.YtmhnpogjkbmmnaaW.PrintMore
open Go.Proofs.YtmhnpogjkbmmnaaW.PrintWords.Kd renaming R_alloc → rA, R_drewN → rN, R_drew → rD, R_far → rF, R_mono → rM, R_base → rB, R_new' → rW, R_below → rL, R_lt → rT, R_lower → rG, R_elder' → rH, R_reads' → rR, C_below → cB
open Go.Proofs.YtmhnpogjkbmmnaaW.PrintMore.Kd renaming R_told → rO, R_old → rE
open Go.Proofs.YtmhnpogjkbmmnaaW.PrintWords renaming below_drew1 → bD, below_step → bT, below_size → bZ, blk_drewN → kN, blk_drew → kD, blk_alloc → kA, blk_below → kB, blk_cell → kC, blk_frozen → kF
open Go.Proofs.YtmhnpogjkbmmnaaW.PrintWords.Aside0 renaming mk → aM
attribute [local go_sem] max2_int min2_int max_two min_two max_three min_three max_four min_four
set_option maxHeartbeats 8000000
set_option maxRecDepth 100000
set_option linter.unusedVariables false
set_option linter.unusedSimpArgs false
def impl_FeedFrame.f (k : Nat) (a0_0 : Int) (l0_1 : List Int) (l0_2 : List Int) (l1 : List Int) : Option (Int × Int × List Int × List Int × List Int) := (impl_LapFault.f k a0_0 l0_1 l0_2).bind fun t578 => ((impl_SamplesFault.f k a0_0 l1).bind fun t579 => ((impl_first.f k (([t578, t579] : List Int))).bind fun t583 => (if t583 = 0 then (if 0 ≤ (wrap64 (Int.tdiv a0_0 2)) then (if (wrap64 (Int.tdiv a0_0 2)) ≤ (l1.length : Int) then ((impl_seam.f k l0_2 (l1.take ((wrap64 (Int.tdiv a0_0 2)) : Int).toNat) (impl_FeedFrame_1.f a0_0)).bind fun bt585 => ((slices_Concat_int64_int64.f k (([l0_1, bt585.1] : List (List Int)))).bind fun t594 => ((impl_spread.f k t594).bind fun t597 => ((slices_Clone_int64_int64.f (l1.drop ((wrap64 (Int.tdiv a0_0 2)) : Int).toNat)).bind fun t601 => (some (0, a0_0, bt585.2, t601, t597)))))) else (none)) else (none)) else (some (t583, 0, ([] : List Int), ([] : List Int), ([] : List Int))))))
def impl_FeedFrame.T1 : Bool × List (List Nat × List Nat) := (true, [([], []), ([0], [0]), ([], []), ([2], [2]), ([], []), ([3, 4, 1], [3, 4]), ([1, 5], [1, 5]), ([6, 5], [6]), ([7, 7, 0, 1, 2, 3, 4, 5, 6, 7], [7])])
def impl_FeedFrame.B1 : List Nat := [0, 1, 0, 4, 0, 31, 63, 127, 255]
theorem impl_FeedFrame.tab1 : rtab .any (opsOf Try.f29 1) = impl_FeedFrame.T1 := by kernel_rfl
theorem impl_FeedFrame.bits1 : waitsOk impl_FeedFrame.T1.2 impl_FeedFrame.B1 = true := by kernel_rfl
def impl_FeedFrame.T5 : Bool × List (List Nat × List Nat) := (true, [([], []), ([0], [0]), ([], []), ([], []), ([2, 3], [2, 3]), ([], []), ([1, 4, 5], [1, 4, 5]), ([6], [6]), ([7], [7]), ([7], [7]), ([8, 6, 0, 1, 2, 3, 4, 5, 6, 7, 8], [8]), ([9, 10, 0, 1, 2, 3, 4, 5, 6, 7, 8, 9, 10], [9])])
def impl_FeedFrame.B5 : List Nat := [0, 1, 0, 0, 12, 0, 63, 127, 255, 255, 511, 2047]
theorem impl_FeedFrame.tab5 : rtab .any (opsOf Try.f29 5) = impl_FeedFrame.T5 := by kernel_rfl
theorem impl_FeedFrame.bits5 : waitsOk impl_FeedFrame.T5.2 impl_FeedFrame.B5 = true := by kernel_rfl
def impl_FeedFrame.T7 : Bool × List (List Nat × List Nat) := (true, [([], []), ([0], [0]), ([], []), ([], []), ([], []), ([3, 4], [3, 4]), ([5], [5]), ([1, 2, 6], [1, 2, 6]), ([], []), ([7, 8], [7, 8]), ([9, 6, 0, 1, 2, 3, 4, 5, 6, 7, 8, 9], [9])])
def impl_FeedFrame.B7 : List Nat := [0, 1, 0, 0, 0, 24, 56, 127, 0, 511, 1023]
theorem impl_FeedFrame.tab7 : rtab .any (opsOf Try.f29 7) = impl_FeedFrame.T7 := by kernel_rfl
theorem impl_FeedFrame.bits7 : waitsOk impl_FeedFrame.T7.2 impl_FeedFrame.B7 = true := by kernel_rfl
theorem impl_FeedFrame.callsV (k : Nat) (a0_0 : Int) (P0_1_ : Nat → Prop) (A0_1 : Option Addr) (c0_1 : Nat) (l0_1 : List Int) (A0_2 : Option Addr) (c0_2 : Nat) (l0_2 : List Int) (A1 : Option Addr) (c1 : Nat) (l1 : List Int) (r1 : Int) (r2 : Int) (r3 : List Int) (r4 : List Int) (r5 : List Int) (w : World) (hs0_1 : Kd.V (Kd.int .i64) 2 w w.heap.size (fun k_ => P0_1_ k_) (.slice A0_1 l0_1.length c0_1) l0_1) (hr0_2 : Kd.C (Kd.int .i64) w A0_2 l0_2.length l0_2) (hc0_2 : l0_2.length ≤ c0_2) (hr1 : Kd.C (Kd.int .i64) w A1 l1.length l1) (hc1 : l1.length ≤ c1) (h : impl_FeedFrame.f k a0_0 l0_1 l0_2 l1 = some (r1, r2, r3, r4, r5)) :
  Calls Try.prog 29 #[.agg #[.int .i64 a0_0, .slice A0_1 l0_1.length c0_1, .slice A0_2 l0_2.length c0_2], .slice A1 l1.length c1] w fun e w' => ∃ v2_ v3_ v4_ : Value, e = .returned (.agg #[.int .i64 r1, .int .i64 r2, v2_, v3_, v4_]) ∧ Kd.R (Kd.int .i64) 2 w' w.heap.size (fun k_ => (w.heap.size ≤ k_) ∧ nb v3_ k_ ∧ nb v4_ k_) v2_ r3 ∧ Kd.R (Kd.int .i64) 2 w' w.heap.size (fun k_ => (w.heap.size ≤ k_) ∧ nb v2_ k_ ∧ nb v4_ k_) v3_ r4 ∧ Kd.R (Kd.int .i64) 2 w' w.heap.size (fun k_ => (w.heap.size ≤ k_) ∧ nb v2_ k_ ∧ nb v3_ k_) v4_ r5 ∧ Below w.heap.size w w' := by
 have hu48 := Try.underlying48
 have hu50 := Try.underlying50
 have HO0_1 := aM (show Kd.V (Kd.int .i64) 2 w w.heap.size (fun k_ => (P0_1_ k_ ∨ w.heap.size ≤ k_)) (.slice A0_1 l0_1.length c0_1) l0_1 from Kd.V_mono hs0_1 (fun k_ hk => .inl hk))
 have HR0_2 := aM hr0_2
 have HC0_2 := aM hc0_2
 clear hr0_2 hc0_2
 have HR1 := aM hr1
 have HC1 := aM hc1
 clear hr1 hc1
 have HB := aM (Below.refl w.heap.size w)
 unfold impl_FeedFrame.f at h
 have H := h
 clear h
 replace H := bo H
 obtain ⟨t578, A3, H⟩ := H
 replace H := bz H
 replace H := bo H
 obtain ⟨t579, A4, H⟩ := H
 replace H := bz H
 obtain ⟨y580, Ny580⟩ : ∃ y_ : List Int, Aside0 (y_ = (([t578, t579] : List Int))) := ⟨_, ⟨rfl⟩⟩
 rw [← Ny580.out] at H
 replace H := bo H
 obtain ⟨t583, A5, H⟩ := H
 replace H := bz H
 by_cases c6 : t583 = 0
 ·rw [if_pos c6] at H
  have c6b0 := eT c6
  have c6b1 := nF c6
  clear c6
  obtain ⟨ji7, hji7⟩ : ∃ j_ : Int, (wrap64 (Int.tdiv a0_0 2)) = j_ := ⟨_, rfl⟩
  rw [hji7] at H
  (try rw [hji7] at A3)
  (try rw [hji7] at A4)
  (try rw [hji7] at A5)
  have hji7w : (IntKind.i64.wrap (Int.tdiv a0_0 2)) = ji7 := (i64_w _).trans hji7
  by_cases c8 : 0 ≤ (ji7)
  ·rw [if_pos c8] at H
   have c8b0 := eq_true c8
   have c8b1 := dT c8
   clear c8
   by_cases c9 : (ji7) ≤ (l1.length : Int)
   ·rw [if_pos c9] at H
    have c9b0 := eq_true c9
    have c9b1 := dT c9
    clear c9
    replace H := bo H
    obtain ⟨⟨t585, t586⟩, A10, H⟩ := H
    replace H := bz H
    obtain ⟨y591, Ny591⟩ : ∃ y_ : List (List Int), Aside0 (y_ = (([l0_1, t585] : List (List Int)))) := ⟨_, ⟨rfl⟩⟩
    rw [← Ny591.out] at H
    replace H := bo H
    obtain ⟨t594, A11, H⟩ := H
    replace H := bz H
    replace H := bo H
    obtain ⟨t597, A12, H⟩ := H
    replace H := bz H
    have c13b0 := eq_true (dt : 0 ≤ (ji7))
    have c14b0 := eq_true (dt : (ji7) ≤ (l1.length : Int))
    replace H := bo H
    obtain ⟨t601, A15, H⟩ := H
    replace H := bz H
    simp only [Option.some.injEq, Prod.mk.injEq] at H
    obtain ⟨rfl, rfl, rfl, rfl, rfl⟩ := H
    go_enter Try.func29, Try.ntmps29
    try go_wp2_with (first | ((with_reducible refine gD 2 rfl ?_); refine bx 2 48 #[.int .i64 a0_0, .slice A0_1 l0_1.length c0_1, .slice A0_2 l0_2.length c0_2] ?_; intro gb576 hg w16 hbox hb; replace HO0_1 := aM (Kd.V_below (Kd.V_elderB (vq HO0_1.out) gb576 (Nat.le_of_eq hg.symm)) hb); have BK576 := aM hbox; have GW576 := gw w hg; have GE576 := GW576; replace HB := aM (bT bq hb); clear hb hbox hg) | ((with_reducible refine gD 4 rfl ?_); refine bx 4 50 #[.int .i64 0, .int .i64 0, .slice none 0 0, .slice none 0 0, .slice none 0 0] ?_; intro gb577 hg w17 hbox hb; replace HO0_1 := aM (Kd.V_below (Kd.V_elderB (vq HO0_1.out) gb577 (Nat.le_of_eq hg.symm)) hb); have BK577 := aM hbox; have GW577 := gw w hg; have GE577 := GW577; replace HB := aM (bT bq hb); have NB576_577 := nl BK576 hg; have NB577_576 := aM NB576_577.out.symm; replace BK576 := zb BK576 hb; clear hb hbox hg))
    replace HO0_1 := aM (Kd.V_drew HO0_1.out)
    replace BK576 := zk BK576
    replace BK577 := zk BK577
    replace HB := aM (bD HB.out)
    refine start_ (n := 9) (S := fun w' => w'.cell? ⟨gb576, 0, none⟩ = some (.int .i64 a0_0) ∧ w'.cell? ⟨gb576, 1, none⟩ = some (.slice A0_1 l0_1.length c0_1) ∧ w'.cell? ⟨gb576, 2, none⟩ = some (.slice A0_2 l0_2.length c0_2)) (ds := []) #[N,N,N,N,N,N,N,N,N] kr rfl rfl ⟨cc, cc, cc⟩ (fun hHeld => ?_); refine with_tabW impl_FeedFrame.tab1 impl_FeedFrame.bits1 (fun HT_ HW_ => ?_)
    generalize w17.drew = w18 at HO0_1 BK576 BK577 HB hHeld ⊢
    refine p1 12 2 ?_
    refine p1 14 4 ?_
    refine t1 10 0 ?_ (hy := by rintro w' ⟨s0, s1, s2⟩; go_simp; with_reducible rfl)
    refine t1 13 3 ?_ (hy := by rintro w' ⟨s0, s1, s2⟩; go_simp; with_reducible rfl)
    refine o1 11 1 fun K hK => ?_
    refine goes_ Try.func43 kr rfl #[.agg #[.int .i64 a0_0, .slice A0_1 l0_1.length c0_1, .slice A0_2 l0_2.length c0_2]] (by rfl) rfl rfl mq ?_
    with_reducible refine (impl_LapFault.calls k a0_0 _ _ l0_1 _ _ l0_2 t578 _ ?s1 ?s2 ?s3 ?s4 A3.out).mono ?_
    (case s1 => exact cq (Kd.V_reads' HO0_1.out).2.2)
    (case s2 => exact (Kd.V_reads' HO0_1.out).2.1)
    (case s3 => exact cq (cB HR0_2.out HB.out))
    (case s4 => exact HC0_2.out)
    rintro e w19 ⟨rfl, hb⟩
    refine ⟨_, rfl, ?_⟩
    replace HO0_1 := aM (Kd.V_below (vq HO0_1.out) hb)
    replace BK576 := zb BK576 hb
    replace BK577 := zb BK577 hb
    replace HB := aM (bT bq hb)
    (try clear hb)
    (try clear hb2)
    (try clear hk)
    (try clear hi)
    refine hK.out _ _ ⟨cc, cc, cc⟩ (fun hHeld => ?_)
    clear hK K
    refine nn ?_
    refine o1 15 5 fun K hK => ?_
    refine goes_ Try.func76 kr rfl #[.int .i64 a0_0, .slice A1 l1.length c1] (by rfl) rfl rfl mq ?_
    with_reducible refine (impl_SamplesFault.calls k a0_0 _ _ l1 t579 _ ?s1 ?s2 A4.out).mono ?_
    (case s1 => exact cq (cB HR1.out HB.out))
    (case s2 => exact HC1.out)
    rintro e w20 ⟨rfl, hb⟩
    refine ⟨_, rfl, ?_⟩
    replace HO0_1 := aM (Kd.V_below (vq HO0_1.out) hb)
    replace BK576 := zb BK576 hb
    replace BK577 := zb BK577 hb
    replace HB := aM (bT bq hb)
    (try clear hb)
    (try clear hb2)
    (try clear hk)
    (try clear hi)
    refine hK.out _ _ ⟨cc, cc, cc⟩ (fun hHeld => ?_)
    clear hK K
    refine nn ?_
    refine o1 16 6 fun K hK => ?_
    refine Kd.R_lit_step (Kd.int .i64) _ 2 ?hg (N := 16) ?hd (xs := ([t578, t579] : List Int)) (inner := [.int .i64 t578, .int .i64 t579]) (ok := fun _ => True) (okp := fun _ => True) ?hr ?hp (fun _ hk => hk) trivial (Below.refl _ _) (Nat.le_refl _) (by simp) ?_; (case hd => rfl); (case hg => rfl); (case hr => first | (go_simp; done) | (go_simp; rfl)); (case hp => exact (Reps.one (show Kd.M (Kd.int .i64) _ _ _ t578 [.int .i64 t578] from rfl) (Reps.one (show Kd.M (Kd.int .i64) _ _ _ t579 [.int .i64 t579] from rfl) (Reps.none _ _))))
    intro v581 w21 ho22 hb hg_ hnew_
    clear hg_ hnew_
    rw [← Ny580.out] at ho22
    replace HO0_1 := aM (Kd.V_elder' (vq HO0_1.out) (rB ho22) hb)
    have HO582 := aM (rG (Kd.R_newM (M := fun k_ => (w.heap.size ≤ k_)) ho22 (bZ bq) (fun k_ h_ => h_)) (bZ bq))
    replace BK576 := zb BK576 hb
    replace BK577 := zb BK577 hb
    replace HB := aM (bT bq hb)
    clear hb ho22
    obtain ⟨Ao23, co23, eo23⟩ := Kd.R_slice HO582.out
    (first | subst eo23 | (injection eo23 with f1_ f2_ f3_; have f4_ := f1_.symm; have f5_ := f3_.symm; clear f1_ f2_ f3_; subst f4_; subst f5_))
    refine hK.out _ _ ⟨cc, cc, cc⟩ (fun hHeld => ?_)
    clear hK K
    refine nn ?_
    refine o1 17 7 fun K hK => ?_
    refine goes_ Try.func54 kr rfl #[.slice Ao23 y580.length co23] (by rfl) rfl rfl mq ?_
    with_reducible refine (impl_first.calls k _ _ y580 t583 _ ?s1 ?s2 A5.out).mono ?_
    (case s1 => exact cq (rR HO582.out).2.2)
    (case s2 => exact (rR HO582.out).2.1)
    rintro e w24 ⟨rfl, hdr_⟩; have hb := Drawn0.below hdr_
    refine ⟨_, rfl, ?_⟩
    replace HO0_1 := aM (Kd.V_below (vq HO0_1.out) hb)
    replace HO582 := zl HO582 hb
    replace BK576 := zb BK576 hb
    replace BK577 := zb BK577 hb
    replace HB := aM (bT bq hb)
    (try clear hb)
    (try clear hb2)
    (try clear hk)
    (try clear hi)
    refine hK.out _ _ ⟨cc, cc, cc⟩ (fun hHeld => ?_)
    clear hK K
    refine nn ?_
    refine p1 5 8 ?_
    refine done_ (done_of HT_.out kr) ?_
    have hnb25 := NB576_577.out
    have hnc25 := NB577_576.out
    obtain ⟨hcz26_0, hcz26_1, hcz26_2, hfz26_0, hfz26_1, hfz26_2⟩ := b3 BK576.out
    try go_wp2
    replace HO0_1 := aM (Kd.V_drew HO0_1.out)
    replace HO582 := zd HO582
    replace BK576 := zk BK576
    replace BK577 := zk BK577
    replace HB := aM (bD HB.out)
    obtain ⟨i028, hi028, _, hsz28, _⟩ := info_parts info2
    obtain ⟨hcut28, hA28, hC28⟩ := print_take_of (P := Try.prog) (Value.int .i64) 0 22 2 .i64 Try.underlying22 hi028 hsz28 A1 c1 l1 (ji7) (dt) (dt) HC1.out
    have HR584 := aM (Kd.C_of_reads (h1 := fun _ => rfl) (hA28 _ (Kd.reads_of_C HR1.out)))
    have HC584 := aM hC28
    clear hA28 hC28 hi028 hsz28
    refine start_ (n := 12) (S := fun w' => w'.cell? ⟨gb576, 0, none⟩ = some (.int .i64 a0_0) ∧ w'.cell? ⟨gb576, 1, none⟩ = some (.slice A0_1 l0_1.length c0_1) ∧ w'.cell? ⟨gb576, 2, none⟩ = some (.slice A0_2 l0_2.length c0_2)) (ds := []) #[N,N,N,N,N,N,N,N,N,N,N,N] kr rfl rfl ⟨cc, cc, cc⟩ (fun hHeld => ?_); refine with_tabW impl_FeedFrame.tab5 impl_FeedFrame.bits5 (fun HT_ HW_ => ?_)
    generalize w24.drew = w27 at HO0_1 HO582 BK576 BK577 HB HR584 hHeld ⊢
    refine p1 26 0 ?_
    refine p1 28 2 ?_
    refine p1 29 3 ?_
    refine p1 30 4 ?_
    refine p1 31 5 ?_
    refine t1 27 1 ?_ (hy := by rintro w' ⟨s0, s1, s2⟩; go_simp; with_reducible rfl)
    refine o1 32 6 fun K hK => ?_
    refine goes_ Try.func61 kr rfl #[.slice A0_2 l0_2.length c0_2, .slice A1 (l1.take ((ji7) : Int).toNat).length c1, .func (.func 77) #[] #[.pointer (some ⟨gb576, 0, none⟩)]] (by rfl) rfl rfl (by (try simp only [List.map_toArray, List.map_cons, List.map_nil]); first | done | (rw [show (l1.take ((ji7) : Int).toNat).length = (ji7).toNat from (by rw [List.length_take]; have h_ : ((ji7) : Int) ≤ (l1.length : Int) := dt; omega)] <;> rfl) | (simp only [hji7]; rfl) | rfl | (simp only [List.length_drop, List.length_take]; rfl)) ?_
    with_reducible refine (impl_seam.calls k _ _ l0_2 _ _ (l1.take ((ji7) : Int).toNat) _ _ (impl_FeedFrame_1.f a0_0) t585 t586 _ ?s1 ?s2 ?s3 ?s4 ?s5 A10.out).mono ?_
    (case s1 => exact cq (cB HR0_2.out HB.out))
    (case s2 => exact HC0_2.out)
    (case s3 => exact cq (cB HR584.out HB.out))
    (case s4 => exact HC584.out)
    (case s5 => exact (ok3_FeedFrame_1 gb576 _ _ ((kC (kq BK576.out) 0).trans rfl)))
    rintro e w29 ⟨v587, v589, rfl, ho0, ho1, hb⟩
    refine ⟨_, rfl, ?_⟩
    replace HO0_1 := aM (Kd.V_mono (Kd.V_told (Kd.V_told (Kd.V_old (vq HO0_1.out) hb) (rB ho0)) (rB ho1)) (fun _ h_ => h_.1))
    have HO588 := aM (rG (wq (Kd.R_newM (M := fun k_ => (w.heap.size ≤ k_)) ho0 (bZ bq) (fun k_ h_ => h_)) HO582) (bZ bq))
    have HO590 := aM (rG (wq (Kd.R_newM (M := fun k_ => (w.heap.size ≤ k_)) ho1 (bZ bq) (fun k_ h_ => h_)) HO582) (bZ bq))
    replace HO582 := z2 (rq HO582.out) hb ho0 ho1
    replace BK576 := zb BK576 hb
    replace BK577 := zb BK577 hb
    replace HB := aM (bT bq hb)
    (try clear hb)
    (try clear hb2)
    (try clear hk)
    (try clear hi)
    (try clear ho0)
    (try clear ho1)
    refine hK.out _ _ ⟨cc, cc, cc⟩ (fun hHeld => ?_)
    clear hK K
    refine nn ?_
    refine p1 25 7 ?_
    refine p1 33 8 ?_
    refine p1 34 9 ?_
    refine p1 7 10 ?_
    refine p1 8 11 ?_
    refine done_ (done_of HT_.out kr) ?_
    obtain ⟨hcz30_0, hcz30_1, hcz30_2, hfz30_0, hfz30_1, hfz30_2⟩ := b3 BK576.out
    obtain ⟨Ao31, co31, eo31⟩ := Kd.R_slice HO588.out
    subst eo31
    try go_wp2_with (first | ((with_reducible refine gD 38 rfl ?_); refine Kd.N_lit (Kd.slice 2 (Kd.int .i64)) _ 22 ?hg (N' := 38) ?hd (xs := ([l0_1, t585] : List (List Int))) (inner := [.slice A0_1 l0_1.length c0_1, .slice Ao31 t585.length co31]) (ok := (fun k_ => (P0_1_ k_ ∨ w.heap.size ≤ k_) ∧ nS Ao23 y580 co23 k_ ∧ nb v589 k_ ∧ k_ ≠ gb576 ∧ k_ ≠ gb577)) (okp := (fun k_ => (P0_1_ k_ ∨ w.heap.size ≤ k_) ∧ nS Ao23 y580 co23 k_ ∧ nb v589 k_ ∧ k_ ≠ gb576 ∧ k_ ≠ gb577)) ?hr ?hp (fun _ hk => hk) ((show ∀ k_, w29.heap.size ≤ k_ → (fun k_ => (P0_1_ k_ ∨ w.heap.size ≤ k_) ∧ nS Ao23 y580 co23 k_ ∧ nb v589 k_ ∧ k_ ≠ gb576 ∧ k_ ≠ gb577) k_ from fun k_ hk => ⟨(.inr (Nat.le_trans (bZ bq) hk)), Kd.fresh' (rT (rq HO582.out)) k_ hk, Kd.fresh' (rT (rq HO590.out)) k_ hk, Kd.freshB (kq BK576.out) k_ hk, Kd.freshB (kq BK577.out) k_ hk⟩) _ (Nat.le_refl _)) (Below.refl _ _) (Nat.le_refl _) (by simp) ?_; (case hd => rfl); (case hg => rfl); (case hr => first | (go_simp; done) | (go_simp; rfl)); (case hp => exact (Reps.one (show Kd.FK (Kd.slice 2 (Kd.int .i64)) _ _ l0_1 [.slice A0_1 l0_1.length c0_1] from (Kd.FK_slice_mk (Kd.V_reads' (Kd.V_mono (ok' := (fun k_ => (P0_1_ k_ ∨ w.heap.size ≤ k_) ∧ nS Ao23 y580 co23 k_ ∧ nb v589 k_ ∧ k_ ≠ gb576 ∧ k_ ≠ gb577)) (HO0_1.out) jq)).2.1 (Kd.V_F (Kd.V_mono (ok' := (fun k_ => (P0_1_ k_ ∨ w.heap.size ≤ k_) ∧ nS Ao23 y580 co23 k_ ∧ nb v589 k_ ∧ k_ ≠ gb576 ∧ k_ ≠ gb577)) (HO0_1.out) jq)))) (Reps.one (show Kd.FK (Kd.slice 2 (Kd.int .i64)) _ _ t585 [.slice Ao31 t585.length co31] from (Kd.FK_slice_mk (rR (rM (ok' := (fun k_ => (P0_1_ k_ ∨ w.heap.size ≤ k_) ∧ nS Ao23 y580 co23 k_ ∧ nb v589 k_ ∧ k_ ≠ gb576 ∧ k_ ≠ gb577)) (Kd.R_types (Kd.R_types (HO588.out) BK576.out (by decide)) BK577.out (by decide)) (fun k_ hk => ⟨(.inr (hk.1.1.1.1)), ⟨hk.1.1.2, ⟨hk.1.1.1.2, ⟨hk.1.2, hk.2⟩⟩⟩⟩))).2.1 (Kd.R_F (rM (ok' := (fun k_ => (P0_1_ k_ ∨ w.heap.size ≤ k_) ∧ nS Ao23 y580 co23 k_ ∧ nb v589 k_ ∧ k_ ≠ gb576 ∧ k_ ≠ gb577)) (Kd.R_types (Kd.R_types (HO588.out) BK576.out (by decide)) BK577.out (by decide)) (fun k_ hk => ⟨(.inr (hk.1.1.1.1)), ⟨hk.1.1.2, ⟨hk.1.1.1.2, ⟨hk.1.2, hk.2⟩⟩⟩⟩))))) (Reps.none _ _)))); intro v592 w32 ho33 hb hg_ hnew_; clear hg_ hnew_; rw [← Ny591.out] at ho33; replace HO0_1 := aM (Kd.V_elder' (vq HO0_1.out) (Kd.N_base ho33) hb); replace HO582 := zl HO582 hb; replace HO590 := zl HO590 hb; have HO593 := aM (Kd.N_lower ho33 (bZ bq)); replace BK576 := zb BK576 hb; replace BK577 := zb BK577 hb; replace HB := aM (bT bq hb); clear HO588 hb ho33; obtain ⟨Ao34, co34, eo34⟩ := Kd.N_slice HO593.out; subst eo34) | ((with_reducible refine gC 62 rfl ?_); refine gl (some 39) Try.func62 #[.slice Ao34 y591.length co34] ?_; (with_reducible refine (slices_Concat_int64_int64.calls k _ _ y591 t594 _ ?s1 ?s2 A11.out).mono ?_); (case s1 => exact cq (Kd.N_reads' HO593.out).2.2); (case s2 => exact (Kd.N_reads' HO593.out).2.1); rintro e w35 ⟨v595, rfl, ho0, hb⟩; refine ii ?_; replace HO0_1 := aM (Kd.V_elder' (vq HO0_1.out) (rB ho0) hb); replace HO593 := aM (Kd.N_elder' (nq HO593.out) (rB ho0) hb); have HO596 := aM (rG (wq (wq (Kd.R_newM (M := fun k_ => (w.heap.size ≤ k_)) ho0 (bZ bq) (fun k_ h_ => h_)) HO582) HO590) (bZ bq)); replace HO582 := zh (rq HO582.out) ho0 hb; replace HO590 := zh (rq HO590.out) ho0 hb; replace BK576 := zb BK576 hb; replace BK577 := zb BK577 hb; replace HB := aM (bT bq hb); (try clear hb); (try clear ho0); obtain ⟨Ao36, co36, rfl⟩ := rS HO596.out) | ((with_reducible refine gC 80 rfl ?_); refine gl (some 40) Try.func80 #[.slice Ao36 t594.length co36] ?_; (with_reducible refine (impl_spread.calls k _ _ t594 t597 _ ?s1 ?s2 A12.out).mono ?_); (case s1 => exact cq (rR HO596.out).2.2); (case s2 => exact (rR HO596.out).2.1); rintro e w37 ⟨v598, rfl, ho0, hb⟩; refine ii ?_; replace HO0_1 := aM (Kd.V_elder' (vq HO0_1.out) (rB ho0) hb); replace HO593 := aM (Kd.N_elder' (nq HO593.out) (rB ho0) hb); have HO599 := aM (rG (wq (wq (wq (Kd.R_newM (M := fun k_ => (w.heap.size ≤ k_)) ho0 (bZ bq) (fun k_ h_ => h_)) HO582) HO590) HO596) (bZ bq)); replace HO582 := zh (rq HO582.out) ho0 hb; replace HO590 := zh (rq HO590.out) ho0 hb; replace HO596 := zh (rq HO596.out) ho0 hb; replace BK576 := zb BK576 hb; replace BK577 := zb BK577 hb; replace HB := aM (bT bq hb); (try clear hb); (try clear ho0)))
    replace HO0_1 := aM (Kd.V_drew HO0_1.out)
    replace HO582 := zd HO582
    replace HO590 := zd HO590
    replace HO593 := aM (Kd.N_drew HO593.out)
    replace HO596 := zd HO596
    replace HO599 := zd HO599
    replace BK576 := zk BK576
    replace BK577 := zk BK577
    replace HB := aM (bD HB.out)
    obtain ⟨i039, hi039, _, hsz39, _⟩ := info_parts info2
    obtain ⟨A39, hcut39, hA39, hC39⟩ := print_drop_of (P := Try.prog) (Value.int .i64) 0 22 2 .i64 Try.underlying22 hi039 hsz39 A1 c1 l1 (ji7) (dt) (dt) HC1.out
    have HR600 := aM (Kd.C_of_reads (h1 := fun _ => rfl) (hA39 _ (Kd.reads_of_C HR1.out)))
    have HC600 := aM hC39
    clear hA39 hC39 hi039 hsz39
    refine start_ (n := 11) (S := fun w' => w'.cell? ⟨gb576, 0, none⟩ = some (.int .i64 a0_0) ∧ w'.cell? ⟨gb576, 1, none⟩ = some (.slice A0_1 l0_1.length c0_1) ∧ w'.cell? ⟨gb576, 2, none⟩ = some (.slice A0_2 l0_2.length c0_2)) (ds := []) #[N,N,N,N,N,N,N,N,N,N,N] kr rfl rfl ⟨cc, cc, cc⟩ (fun hHeld => ?_); refine with_tabW impl_FeedFrame.tab7 impl_FeedFrame.bits7 (fun HT_ HW_ => ?_)
    generalize w37.drew = w38 at HO0_1 HO582 HO590 HO593 HO596 HO599 BK576 BK577 HB HR600 hHeld ⊢
    refine p1 41 0 ?_
    refine p1 43 2 ?_
    refine p1 44 3 ?_
    refine p1 45 4 ?_
    refine p1 46 5 ?_
    refine p1 49 8 ?_
    refine t1 42 1 ?_ (hy := by rintro w' ⟨s0, s1, s2⟩; go_simp; with_reducible rfl)
    refine o1 47 6 fun K hK => ?_
    refine goes_ Try.func71 kr rfl #[.slice A39 (l1.drop ((ji7) : Int).toNat).length (c1 - (ji7).toNat)] (by rfl) rfl rfl (by (try simp only [List.map_toArray, List.map_cons, List.map_nil]); first | done | (rw [show (l1.drop ((ji7) : Int).toNat).length = (l1.length - (ji7).toNat) from List.length_drop] <;> rfl) | (simp only [hji7]; rfl) | rfl | (simp only [List.length_drop, List.length_take]; rfl)) ?_
    with_reducible refine (slices_Clone_int64_int64.calls _ _ (l1.drop ((ji7) : Int).toNat) t601 _ ?s1 ?s2 A15.out).mono ?_
    (case s1 => exact cq (cB HR600.out HB.out))
    (case s2 => exact HC600.out)
    rintro e w40 ⟨v602, rfl, ho0, hb⟩
    refine ⟨_, rfl, ?_⟩
    replace HO0_1 := aM (Kd.V_elder' (vq HO0_1.out) (rB ho0) hb)
    replace HO593 := aM (Kd.N_elder' (nq HO593.out) (rB ho0) hb)
    have HO603 := aM (rG (wq (wq (wq (wq (Kd.R_newM (M := fun k_ => (w.heap.size ≤ k_)) ho0 (bZ bq) (fun k_ h_ => h_)) HO582) HO590) HO596) HO599) (bZ bq))
    replace HO582 := zh (rq HO582.out) ho0 hb
    replace HO590 := zh (rq HO590.out) ho0 hb
    replace HO596 := zh (rq HO596.out) ho0 hb
    replace HO599 := zh (rq HO599.out) ho0 hb
    replace BK576 := zb BK576 hb
    replace BK577 := zb BK577 hb
    replace HB := aM (bT bq hb)
    (try clear hb)
    (try clear hb2)
    (try clear hk)
    (try clear hi)
    (try clear ho0)
    obtain ⟨Ao41, co41, eo41⟩ := Kd.R_slice HO603.out
    (first | subst eo41 | (injection eo41 with f1_ f2_ f3_; have f4_ := f1_.symm; have f5_ := f3_.symm; clear f1_ f2_ f3_; subst f4_; subst f5_))
    obtain ⟨Ao42, co42, eo42⟩ := Kd.R_slice HO590.out
    (first | subst eo42 | (injection eo42 with f1_ f2_ f3_; have f4_ := f1_.symm; have f5_ := f3_.symm; clear f1_ f2_ f3_; subst f4_; subst f5_))
    obtain ⟨Ao43, co43, eo43⟩ := Kd.R_slice HO599.out
    (first | subst eo43 | (injection eo43 with f1_ f2_ f3_; have f4_ := f1_.symm; have f5_ := f3_.symm; clear f1_ f2_ f3_; subst f4_; subst f5_))
    refine hK.out _ _ ⟨cc, cc, cc⟩ (fun hHeld => ?_)
    clear hK K
    refine nn ?_
    refine p1 48 7 ?_
    refine p1 50 9 ?_
    refine oo HT_ (N := none) 10 #[Y,Y,Y,Y,Y,Y,Y,Y,Y,Y,Y] (fun K hK => ?_)
    have hs44 : w40.cell? ⟨gb577, 0, none⟩ = some (.int .i64 0) := cc
    have hfs44 := kF BK577.out 0
    have hns44_0 := NB576_577.out
    have hms44_0 := NB577_576.out
    have hs45 : w40.cell? ⟨gb577, 1, none⟩ = some (.int .i64 0) := cc
    have hfs45 := kF BK577.out 1
    have hns45_0 := NB576_577.out
    have hms45_0 := NB577_576.out
    have hs46 : w40.cell? ⟨gb577, 2, none⟩ = some (.slice none 0 0) := cc
    have hfs46 := kF BK577.out 2
    have hns46_0 := NB576_577.out
    have hms46_0 := NB577_576.out
    have hs47 : w40.cell? ⟨gb577, 3, none⟩ = some (.slice none 0 0) := cc
    have hfs47 := kF BK577.out 3
    have hns47_0 := NB576_577.out
    have hms47_0 := NB577_576.out
    have hs48 : w40.cell? ⟨gb577, 4, none⟩ = some (.slice none 0 0) := cc
    have hfs48 := kF BK577.out 4
    have hns48_0 := NB576_577.out
    have hms48_0 := NB577_576.out
    refine skip_ (w1 := ?_) (by rfl) rfl ?_ ?_
    rotate_left
    ·go_simp
     rfl
    refine hK.out _ _ ⟨(lf hHeld.1), (lf hHeld.2.1), (lf hHeld.2.2)⟩ (fun hHeld => ?_)
    clear hK K
    refine done_ (done_of HT_.out kr) ?_
    try go_wp2
    refine bodyPost_ret (results_cell_row rfl _ _ gb577 50 #[.int .i64 0, .int .i64 a0_0, .slice Ao42 t586.length co42, .slice Ao41 t601.length co41, .slice Ao43 t597.length co43] (0, 0) _ rfl (fq BK577.out) Try.underlying50 rfl kr) rfl ?_
    exact ⟨_, _, _, by first | rfl | (simp [errW_none, errW_some] <;> rfl) | (simp only [← hji7]; first | rfl | (simp [errW_none, errW_some] <;> rfl)) | (simp [*, errW_none, errW_some] <;> rfl), rM (rf (Kd.R_types HO590.out BK577.out (by decide))) (fun _ hk => ⟨hk.1.1.1.1.1.1, ⟨hk.1.2, hk.1.1.2⟩⟩), rM (rf (Kd.R_types HO603.out BK577.out (by decide))) (fun _ hk => ⟨hk.1.1.1.1.1.1, ⟨hk.1.1.1.2, hk.1.2⟩⟩), rM (rf (Kd.R_types HO599.out BK577.out (by decide))) (fun _ hk => ⟨hk.1.1.1.1.1.1, ⟨hk.1.1.1.2, hk.1.2⟩⟩), bq⟩
   ·rw [if_neg c9] at H
    exact absurd H (by simp)
  ·rw [if_neg c8] at H
   exact absurd H (by simp)
 ·rw [if_neg c6] at H
  have c6b0 := eF c6
  have c6b1 := nT c6
  simp only [Option.some.injEq, Prod.mk.injEq] at H
  obtain ⟨rfl, rfl, rfl, rfl, rfl⟩ := H
  go_enter Try.func29, Try.ntmps29
  try go_wp2_with (first | ((with_reducible refine gD 2 rfl ?_); refine bx 2 48 #[.int .i64 a0_0, .slice A0_1 l0_1.length c0_1, .slice A0_2 l0_2.length c0_2] ?_; intro gb576 hg w49 hbox hb; replace HO0_1 := aM (Kd.V_below (Kd.V_elderB (vq HO0_1.out) gb576 (Nat.le_of_eq hg.symm)) hb); have BK576 := aM hbox; have GW576 := gw w hg; have GE576 := GW576; replace HB := aM (bT bq hb); clear hb hbox hg) | ((with_reducible refine gD 4 rfl ?_); refine bx 4 50 #[.int .i64 0, .int .i64 0, .slice none 0 0, .slice none 0 0, .slice none 0 0] ?_; intro gb577 hg w50 hbox hb; replace HO0_1 := aM (Kd.V_below (Kd.V_elderB (vq HO0_1.out) gb577 (Nat.le_of_eq hg.symm)) hb); have BK577 := aM hbox; have GW577 := gw w hg; have GE577 := GW577; replace HB := aM (bT bq hb); have NB576_577 := nl BK576 hg; have NB577_576 := aM NB576_577.out.symm; replace BK576 := zb BK576 hb; clear hb hbox hg))
  replace HO0_1 := aM (Kd.V_drew HO0_1.out)
  replace BK576 := zk BK576
  replace BK577 := zk BK577
  replace HB := aM (bD HB.out)
  refine start_ (n := 9) (S := fun w' => w'.cell? ⟨gb576, 0, none⟩ = some (.int .i64 a0_0) ∧ w'.cell? ⟨gb576, 1, none⟩ = some (.slice A0_1 l0_1.length c0_1) ∧ w'.cell? ⟨gb576, 2, none⟩ = some (.slice A0_2 l0_2.length c0_2)) (ds := []) #[N,N,N,N,N,N,N,N,N] kr rfl rfl ⟨cc, cc, cc⟩ (fun hHeld => ?_); refine with_tabW impl_FeedFrame.tab1 impl_FeedFrame.bits1 (fun HT_ HW_ => ?_)
  generalize w50.drew = w51 at HO0_1 BK576 BK577 HB hHeld ⊢
  refine p1 12 2 ?_
  refine p1 14 4 ?_
  refine t1 10 0 ?_ (hy := by rintro w' ⟨s0, s1, s2⟩; go_simp; with_reducible rfl)
  refine t1 13 3 ?_ (hy := by rintro w' ⟨s0, s1, s2⟩; go_simp; with_reducible rfl)
  refine o1 11 1 fun K hK => ?_
  refine goes_ Try.func43 kr rfl #[.agg #[.int .i64 a0_0, .slice A0_1 l0_1.length c0_1, .slice A0_2 l0_2.length c0_2]] (by rfl) rfl rfl mq ?_
  with_reducible refine (impl_LapFault.calls k a0_0 _ _ l0_1 _ _ l0_2 t578 _ ?s1 ?s2 ?s3 ?s4 A3.out).mono ?_
  (case s1 => exact cq (Kd.V_reads' HO0_1.out).2.2)
  (case s2 => exact (Kd.V_reads' HO0_1.out).2.1)
  (case s3 => exact cq (cB HR0_2.out HB.out))
  (case s4 => exact HC0_2.out)
  rintro e w52 ⟨rfl, hb⟩
  refine ⟨_, rfl, ?_⟩
  replace HO0_1 := aM (Kd.V_below (vq HO0_1.out) hb)
  replace BK576 := zb BK576 hb
  replace BK577 := zb BK577 hb
  replace HB := aM (bT bq hb)
  (try clear hb)
  (try clear hb2)
  (try clear hk)
  (try clear hi)
  refine hK.out _ _ ⟨cc, cc, cc⟩ (fun hHeld => ?_)
  clear hK K
  refine nn ?_
  refine o1 15 5 fun K hK => ?_
  refine goes_ Try.func76 kr rfl #[.int .i64 a0_0, .slice A1 l1.length c1] (by rfl) rfl rfl mq ?_
  with_reducible refine (impl_SamplesFault.calls k a0_0 _ _ l1 t579 _ ?s1 ?s2 A4.out).mono ?_
  (case s1 => exact cq (cB HR1.out HB.out))
  (case s2 => exact HC1.out)
  rintro e w53 ⟨rfl, hb⟩
  refine ⟨_, rfl, ?_⟩
  replace HO0_1 := aM (Kd.V_below (vq HO0_1.out) hb)
  replace BK576 := zb BK576 hb
  replace BK577 := zb BK577 hb
  replace HB := aM (bT bq hb)
  (try clear hb)
  (try clear hb2)
  (try clear hk)
  (try clear hi)
  refine hK.out _ _ ⟨cc, cc, cc⟩ (fun hHeld => ?_)
  clear hK K
  refine nn ?_
  refine o1 16 6 fun K hK => ?_
  refine Kd.R_lit_step (Kd.int .i64) _ 2 ?hg (N := 16) ?hd (xs := ([t578, t579] : List Int)) (inner := [.int .i64 t578, .int .i64 t579]) (ok := fun _ => True) (okp := fun _ => True) ?hr ?hp (fun _ hk => hk) trivial (Below.refl _ _) (Nat.le_refl _) (by simp) ?_; (case hd => rfl); (case hg => rfl); (case hr => first | (go_simp; done) | (go_simp; rfl)); (case hp => exact (Reps.one (show Kd.M (Kd.int .i64) _ _ _ t578 [.int .i64 t578] from rfl) (Reps.one (show Kd.M (Kd.int .i64) _ _ _ t579 [.int .i64 t579] from rfl) (Reps.none _ _))))
  intro v581 w54 ho55 hb hg_ hnew_
  clear hg_ hnew_
  rw [← Ny580.out] at ho55
  replace HO0_1 := aM (Kd.V_elder' (vq HO0_1.out) (rB ho55) hb)
  have HO582 := aM (rG (Kd.R_newM (M := fun k_ => (w.heap.size ≤ k_)) ho55 (bZ bq) (fun k_ h_ => h_)) (bZ bq))
  replace BK576 := zb BK576 hb
  replace BK577 := zb BK577 hb
  replace HB := aM (bT bq hb)
  clear hb ho55
  obtain ⟨Ao56, co56, eo56⟩ := Kd.R_slice HO582.out
  (first | subst eo56 | (injection eo56 with f1_ f2_ f3_; have f4_ := f1_.symm; have f5_ := f3_.symm; clear f1_ f2_ f3_; subst f4_; subst f5_))
  refine hK.out _ _ ⟨cc, cc, cc⟩ (fun hHeld => ?_)
  clear hK K
  refine nn ?_
  refine o1 17 7 fun K hK => ?_
  refine goes_ Try.func54 kr rfl #[.slice Ao56 y580.length co56] (by rfl) rfl rfl mq ?_
  with_reducible refine (impl_first.calls k _ _ y580 t583 _ ?s1 ?s2 A5.out).mono ?_
  (case s1 => exact cq (rR HO582.out).2.2)
  (case s2 => exact (rR HO582.out).2.1)
  rintro e w57 ⟨rfl, hdr_⟩; have hb := Drawn0.below hdr_
  refine ⟨_, rfl, ?_⟩
  replace HO0_1 := aM (Kd.V_below (vq HO0_1.out) hb)
  replace HO582 := zl HO582 hb
  replace BK576 := zb BK576 hb
  replace BK577 := zb BK577 hb
  replace HB := aM (bT bq hb)
  (try clear hb)
  (try clear hb2)
  (try clear hk)
  (try clear hi)
  refine hK.out _ _ ⟨cc, cc, cc⟩ (fun hHeld => ?_)
  clear hK K
  refine nn ?_
  refine p1 5 8 ?_
  refine done_ (done_of HT_.out kr) ?_
  have hnb58 := NB577_576.out
  have hnc58 := NB576_577.out
  obtain ⟨hcz59_0, hcz59_1, hcz59_2, hcz59_3, hcz59_4, hfz59_0, hfz59_1, hfz59_2, hfz59_3, hfz59_4⟩ := b5 BK577.out
  try go_wp2
  refine bodyPost_ret (results_cell_row rfl _ _ gb577 50 #[.int .i64 t583, .int .i64 0, .slice none 0 0, .slice none 0 0, .slice none 0 0] (0, 0) _ rfl (fq BK577.out) Try.underlying50 rfl kr) rfl ?_
  exact ⟨_, _, _, ew, rn, rn, rn, bq⟩
theorem impl_FeedFrame.calls (k : Nat) (a0_0 : Int) (A0_1 : Option Addr) (c0_1 : Nat) (l0_1 : List Int) (A0_2 : Option Addr) (c0_2 : Nat) (l0_2 : List Int) (A1 : Option Addr) (c1 : Nat) (l1 : List Int) (r1 : Int) (r2 : Int) (r3 : List Int) (r4 : List Int) (r5 : List Int) (w : World) (hr0_1 : Kd.C (Kd.int .i64) w A0_1 l0_1.length l0_1) (hc0_1 : l0_1.length ≤ c0_1) (hr0_2 : Kd.C (Kd.int .i64) w A0_2 l0_2.length l0_2) (hc0_2 : l0_2.length ≤ c0_2) (hr1 : Kd.C (Kd.int .i64) w A1 l1.length l1) (hc1 : l1.length ≤ c1) (h : impl_FeedFrame.f k a0_0 l0_1 l0_2 l1 = some (r1, r2, r3, r4, r5)) :
  Calls Try.prog 29 #[.agg #[.int .i64 a0_0, .slice A0_1 l0_1.length c0_1, .slice A0_2 l0_2.length c0_2], .slice A1 l1.length c1] w fun e w' => ∃ v2_ v3_ v4_ : Value, e = .returned (.agg #[.int .i64 r1, .int .i64 r2, v2_, v3_, v4_]) ∧ Kd.R (Kd.int .i64) 2 w' w.heap.size (fun k_ => nb v3_ k_ ∧ nb v4_ k_) v2_ r3 ∧ Kd.R (Kd.int .i64) 2 w' w.heap.size (fun k_ => nb v2_ k_ ∧ nb v4_ k_) v3_ r4 ∧ Kd.R (Kd.int .i64) 2 w' w.heap.size (fun k_ => nb v2_ k_ ∧ nb v3_ k_) v4_ r5 ∧ Below w.heap.size w w' := by
 refine (impl_FeedFrame.callsV k a0_0 (fun k_ => k_ < w.heap.size) A0_1 c0_1 l0_1 A0_2 c0_2 l0_2 A1 c1 l1 r1 r2 r3 r4 r5 w (Kd.V_mk hc0_1 (Kd.C_F (Kd.heap_int .i64) hr0_1)) hr0_2 hc0_2 hr1 hc1 h).mono fun e w' hh_ => ?_
 obtain ⟨v2_, v3_, v4_, he_, h0_, h1_, h2_, hb_⟩ := hh_
 exact ⟨v2_, v3_, v4_, he_, rM h0_ (fun _ hk => hk.2), rM h1_ (fun _ hk => hk.2), rM h2_ (fun _ hk => hk.2), hb_⟩
end Go.Proofs.Ytmhnpogjkbmmnaa.PFnStates
