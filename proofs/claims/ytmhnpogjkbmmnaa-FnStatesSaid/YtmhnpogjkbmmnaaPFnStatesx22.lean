import Derived.Test.YtmhnpogjkbmmnaaPFnStatesx0
import Derived.Test.YtmhnpogjkbmmnaaPFnStatesx14
import Derived.Test.YtmhnpogjkbmmnaaPFnStatesx21
namespace Go.Proofs.Ytmhnpogjkbmmnaa.PFnStates
open Go.RowKit Go.Proofs.YtmhnpogjkbmmnaaW.PrintWords Go.Proofs.YtmhnpogjkbmmnaaW.PrintLast Go.Proofs.YtmhnpogjkbmmnaaW.PrintMore
open Go.Proofs.YtmhnpogjkbmmnaaW.PrintWords.Kd renaming R_alloc → rA, R_drewN → rN, R_drew → rD, R_far → rF, R_mono → rM, R_base → rB, R_new' → rW, R_below → rL, R_lt → rT, R_lower → rG, R_elder' → rH, R_reads' → rR
open Go.Proofs.YtmhnpogjkbmmnaaW.PrintMore.Kd renaming R_told → rO, R_old → rE
open Go.Proofs.YtmhnpogjkbmmnaaW.PrintWords renaming below_alloc → bA, pw_below_drewN → bN, below_drew1 → bD, below_set → bS, below_step → bT, blk_drewN → kN, blk_drew → kD, blk_alloc → kA, blk_below → kB, blk_cell → kC, blk_frozen → kF
open Go.Proofs.YtmhnpogjkbmmnaaW.PrintWords.Aside0 renaming mk → aM
attribute [local go_sem] max2_int min2_int max_two min_two max_three min_three max_four min_four
set_option maxHeartbeats 8000000
set_option maxRecDepth 100000
set_option linter.unusedVariables false
set_option linter.unusedSimpArgs false
def spec_l7Draw.l0 : Nat → Int → List Int → Int → Int → List Int → List Int → Option (Int × List Int × List Int × Int)
 | 0, _, _, _, _, _, _ => none
 | k + 1, x4, x1000, x1001, x683000, x683001, x683002 => if x4 > 0 then ((spec_l1Samples.f k x1000 x1001 x683000).bind fun bt685 => ((spec_l7Feed.f k x683000 x683001 x683002 bt685.1).bind fun bt689 => (spec_l7Draw.l0 k (wrap64 (x4 - 1)) x1000 bt685.2 bt689.1 bt689.2.1 bt689.2.2.1))) else (some (x683000, x683001, x683002, x1001))
def spec_l7Draw.f (k : Nat) (s0_0 : List Int) (s0_1 : Int) : Option (Int × List Int × List Int × Int) := (spec_l1Size.f s0_0 s0_1).bind fun bt673 => ((spec_l7New.f bt673.1).bind fun bt675 => ((spec_l1Next.f s0_0 bt673.2 3).bind fun bt683 => (spec_l7Draw.l0 k bt683.1 s0_0 bt683.2 bt675.1 bt675.2.1 bt675.2.2)))
theorem spec_l7Draw.calls (k : Nat) (g : Nat) (s0_0 : List Int) (s0_1 : Int) (r1 : Int) (r2 : List Int) (r3 : List Int) (r4 : Int) (w0 w : World) (hI : IsS149 w0 w g s0_0 s0_1) (hB : Below w0.heap.size w0 w) (h : spec_l7Draw.f k s0_0 s0_1 = some (r1, r2, r3, r4)) :
  Calls Try.prog 126 #[.pointer (some ⟨g, 0, none⟩)] w fun e w' => ∃ v1_ v2_ : Value, e = .returned (.agg #[.int .i64 r1, v1_, v2_]) ∧ Kd.R (Kd.int .i64) 2 w' w.heap.size (fun k_ => nb v2_ k_) v1_ r2 ∧ Kd.R (Kd.int .i64) 2 w' w.heap.size (fun k_ => nb v1_ k_) v2_ r3 ∧ IsS149 w0 w' g s0_0 r4 ∧ Below w0.heap.size w0 w' ∧ KeepBut w w' g none := by
 have hu48 := Try.underlying48
 have HI0 := aM hI
 have HK := aM (KeepBut.refl w g none)
 have HL := aM hB.size
 clear hI
 have HW0 := aM hB.size
 have HB := aM hB
 clear hB
 unfold spec_l7Draw.f at h
 have H := h
 clear h
 replace H := bo H
 obtain ⟨⟨t673, t674⟩, A2, H⟩ := H
 replace H := bz H
 replace H := bo H
 obtain ⟨⟨t675, t676, t679⟩, A3, H⟩ := H
 replace H := bz H
 replace H := bo H
 obtain ⟨⟨t683, t684⟩, A4, H⟩ := H
 replace H := bz H
 have H' := aM H
 clear H
 go_enter Try.func126, Try.ntmps126
 go_wp2_with (first | ((with_reducible refine gD 2 rfl ?_); refine bx 2 48 #[.int .i64 0, .slice none 0 0, .slice none 0 0] ?_; intro gb672 hg w5 hbox hb; replace HB := aM (bT bq hb); have BK672 := aM hbox; have GW672 := gk w g hg; have GE672 := aM (Nat.le_trans HW0.out GW672.out); replace HK := ku w g hb; have NB0_672 := aM ((by rw [hg]; exact Nat.ne_of_lt (IsS149.lt (sA HI0)) : g ≠ gb672)); have NB672_0 := aM NB0_672.out.symm; replace HI0 := aM (IsS149.below (sq HI0.out) hb); clear hb hbox hg) | ((with_reducible refine gC 133 rfl ?_); refine gl (some 6) Try.func133 #[.pointer (some ⟨g, 0, none⟩)] ?_; (with_reducible refine (spec_l1Size.calls g s0_0 s0_1 t673 t674 w0 _ ?s1 ?s2 A2.out).mono ?_); (case s1 => exact sq HI0.out); (case s2 => exact bq); rintro e w6 ⟨rfl, hi, hb, hk⟩; refine ii ?_; replace BK672 := zs BK672 hk NB672_0; replace HK := kt w hk; replace HB := aM hb; replace HI0 := aM hi; (try clear hb)) | ((with_reducible refine gC 147 rfl ?_); refine gl (some 7) Try.func147 #[.int .i64 t673] ?_; (with_reducible refine (spec_l7New.calls t673 t675 t676 t679 _ A3.out).mono ?_); rintro e w7 ⟨v677, v680, rfl, ho0, ho1, hb⟩; refine ii ?_; have HO678 := aM (rG ho0 (ks w g)); have HO681 := aM (rG ho1 (ks w g)); replace BK672 := zb BK672 hb; replace HK := ku w g hb; replace HB := aM (bT bq hb); replace HI0 := aM (IsS149.below (sq HI0.out) hb); (try clear hb); (try clear ho0); (try clear ho1)) | ((with_reducible refine gD 3 rfl ?_); refine bx 3 48 #[.int .i64 0, .slice none 0 0, .slice none 0 0] ?_; intro gb682 hg w8 hbox hb; replace HO678 := zl HO678 hb; replace HO681 := zl HO681 hb; replace HB := aM (bT bq hb); have BK682 := aM hbox; have GW682 := gk w g hg; have GE682 := aM (Nat.le_trans HW0.out GW682.out); replace HK := ku w g hb; have NB672_682 := nl BK672 hg; have NB682_672 := aM NB672_682.out.symm; replace BK672 := zb BK672 hb; have NB0_682 := aM ((by rw [hg]; exact Nat.ne_of_lt (IsS149.lt (sA HI0)) : g ≠ gb682)); have NB682_0 := aM NB0_682.out.symm; replace HI0 := aM (IsS149.below (sq HI0.out) hb); clear hb hbox hg; have hnb9 := NB682_672.out; have hnc9 := NB672_682.out; have hnb10 := NB682_0.out; have hnc10 := NB0_682.out; obtain ⟨hcz11_0, hcz11_1, hcz11_2, hfz11_0, hfz11_1, hfz11_2⟩ := b3 BK682.out; obtain ⟨Ao12, co12, rfl⟩ := rS HO678.out; obtain ⟨Ao13, co13, rfl⟩ := rS HO681.out) | ((with_reducible refine gC 94 rfl ?_); refine gl (some 9) Try.func94 #[.pointer (some ⟨g, 0, none⟩), .int .i64 3] ?_; (with_reducible refine (spec_l1Next.calls g s0_0 t674 3 t683 t684 w0 _ ?s1 ?s2 A4.out).mono ?_); (case s1 => exact sq HI0.out); (case s2 => exact bq); rintro e w14 ⟨rfl, hi, hb, hk⟩; refine ii ?_; replace BK672 := aM (KeepBut.blk hk (g' := gb672) (o := .cells #[.int .i64 0, .slice none 0 0, .slice none 0 0] 48 (0, 0)) (fq BK672.out) NB672_0.out (by simp)); replace HO678 := zK (sA HI0) (tf HO678 BK682) hk; replace HO681 := zK (sA HI0) (tf HO681 BK682) hk; replace BK682 := aM (KeepBut.blk hk (g' := gb682) (o := .cells #[.int .i64 t675, .slice Ao12 t676.length co12, .slice Ao13 t679.length co13] 48 (0, 0)) (fq BK682.out) NB682_0.out (by simp)); replace HK := kt w hk; replace HB := aM hb; replace HI0 := aM hi; (try clear hb)))
 go_loopg [4] k (fun kq v4 w' => ∃ (x4_1 : Int) (x1001_1 : Int) (x683000_1 : Int) (x683001_1 : List Int) (x683002_1 : List Int) (u683001 : Value) (u683002 : Value), v4 = .int .i64 x4_1 ∧ Aside0 (spec_l7Draw.l0 kq x4_1 s0_0 x1001_1 x683000_1 x683001_1 x683002_1 = some (r1, r2, r3, r4)) ∧ Aside0 (kq ≤ k) ∧ Aside0 (Kd.R (Kd.int .i64) 2 w' w.heap.size (fun k_ => nb u683002 k_) u683001 x683001_1) ∧ Aside0 (Kd.R (Kd.int .i64) 2 w' w.heap.size (fun k_ => nb u683001 k_) u683002 x683002_1) ∧ Aside0 (w'.heap[gb672]? = some (.cells #[.int .i64 0, (.slice none 0 0), (.slice none 0 0)] 48 (0, 0))) ∧ Aside0 (w'.heap[gb682]? = some (.cells #[.int .i64 x683000_1, u683001, u683002] 48 (0, 0))) ∧ Aside0 (IsS149 w0 w' g s0_0 x1001_1) ∧ Aside0 (KeepBut w w' g none) ∧ Aside0 (Below w0.heap.size w0 w'))
 case atStart => exact ⟨(t683), (t684), (t675), (t676), (t679), (.slice Ao12 t676.length co12), (.slice Ao13 t679.length co13), (ex), H', ⟨Nat.le_refl _⟩, aM (rq HO678.out), aM (rq HO681.out), aM (kq BK672.out), aM (kq BK682.out), ⟨sq HI0.out⟩, ⟨hq⟩, ⟨bq⟩⟩
 case round =>
  clear H'
  try clear c1
  try clear p2
  try clear c9
  try clear c10
  try clear c12
  try clear c13
  try clear c14
  try clear hcz11_0
  try clear hcz11_1
  try clear hcz11_2
  try clear hfz11_0
  try clear hfz11_1
  try clear hfz11_2
  obtain ⟨x4_1, x1001_1, x683000_1, x683001_1, x683002_1, u683001, u683002, rfl, HA, HK1, HO_683001, HO_683002, BK672, BK682, HI0, HK, HB⟩ := hrel
  cases gk with
  | zero => exact absurd HA.out (by simp [spec_l7Draw.l0])
  | succ k1 =>
   have H := HA.out
   clear HA
   simp only [spec_l7Draw.l0] at H
   by_cases c15 : x4_1 > 0
   ·rw [if_pos c15] at H
    have c15b0 : decide (0 < x4_1) = true := decide_eq_true c15
    clear c15
    replace H := bo H
    obtain ⟨⟨t685, t688⟩, A16, H⟩ := H
    replace H := bz H
    replace H := bo H
    obtain ⟨⟨t689, t690, t693, t696⟩, A17, H⟩ := H
    replace H := bz H
    have H' := aM H
    clear H
    have hnb18 := NB682_672.out
    have hnc18 := NB672_682.out
    have hnb19 := NB682_0.out
    have hnc19 := NB0_682.out
    obtain ⟨hcz20_0, hcz20_1, hcz20_2, hfz20_0, hfz20_1, hfz20_2⟩ := b3 BK682.out
    go_wp2_with (first | ((with_reducible refine gC 127 rfl ?_); refine gl (some 18) Try.func127 #[.pointer (some ⟨g, 0, none⟩), .int .i64 x683000_1] ?_; (with_reducible refine (spec_l1Samples.calls k1 g s0_0 x1001_1 x683000_1 t685 t688 w0 _ ?s1 ?s2 A16.out).mono ?_); (case s1 => exact sq HI0.out); (case s2 => exact bq); rintro e w21 ⟨v686, rfl, ho0, hi, hb, hk⟩; refine ii ?_; replace BK672 := zs BK672 hk NB672_0; replace BK682 := zs BK682 hk NB682_0; have HO687 := aM (rG (wq (wq ho0 HO_683001) HO_683002) (ks w g)); replace HO_683001 := zO (sA HI0) (rq HO_683001.out) hk ho0; replace HO_683002 := zO (sA HI0) (rq HO_683002.out) hk ho0; replace HK := kt w hk; replace HB := aM hb; replace HI0 := aM hi; (try clear hb); (try clear ho0); obtain ⟨Ao22, co22, rfl⟩ := rS HO_683001.out; obtain ⟨Ao23, co23, rfl⟩ := rS HO_683002.out; obtain ⟨Ao24, co24, rfl⟩ := rS HO687.out) | ((with_reducible refine gC 75 rfl ?_); refine gl (some 19) Try.func75 #[.pointer (some ⟨gb682, 0, none⟩), .slice Ao24 t685.length co24] ?_; (with_reducible refine (spec_l7Feed.calls k1 gb682 x683000_1 Ao22 co22 x683001_1 Ao23 co23 x683002_1 _ _ t685 t689 t690 t693 t696 _ ?s1 ?s2 ?s3 ?s4 ?s5 ?s6 ?s7 A17.out).mono ?_); (case s1 => (with_reducible repeat (first | refine kN ?_ _ | refine kD ?_ | refine kA ?_ _)); exact BK682.out); (case s2 => exact cq (rR HO_683001.out).2.2); (case s3 => exact (rR HO_683001.out).2.1); (case s4 => exact cq (rR HO_683002.out).2.2); (case s5 => exact (rR HO_683002.out).2.1); (case s6 => exact cq (rR HO687.out).2.2); (case s7 => exact (rR HO687.out).2.1); rintro e w25 ⟨v691, v694, v697, rfl, ho0, ho1, ho2, hb⟩; refine ii ?_; have HO692 := aM (rG (wq (wq (wq ho0 HO_683001) HO_683002) HO687) (ks w g)); have HO695 := aM (rG (wq (wq (wq ho1 HO_683001) HO_683002) HO687) (ks w g)); have HO698 := aM (rG (wq (wq (wq ho2 HO_683001) HO_683002) HO687) (ks w g)); replace HO_683001 := z3 (rq HO_683001.out) hb ho0 ho1 ho2; replace HO_683002 := z3 (rq HO_683002.out) hb ho0 ho1 ho2; replace HO687 := z3 (rq HO687.out) hb ho0 ho1 ho2; replace BK672 := zb BK672 hb; replace BK682 := zb BK682 hb; replace HK := ku w g hb; replace HB := aM (bT bq hb); replace HI0 := aM (IsS149.below (sq HI0.out) hb); (try clear hb); (try clear ho0); (try clear ho1); (try clear ho2); obtain ⟨hcz26_0, hcz26_1, hcz26_2, hfz26_0, hfz26_1, hfz26_2⟩ := b3 BK682.out; obtain ⟨Ao27, co27, rfl⟩ := rS HO692.out; obtain ⟨Ao28, co28, rfl⟩ := rS HO695.out))
    go_roundg k1
    case measure => have := HK1.out; omega
    case rel => exact ⟨(wrap64 (x4_1 - 1)), (t688), (t689), (t690), (t693), (.slice Ao27 t690.length co27), (.slice Ao28 t693.length co28), (ex), H', ⟨by have := HK1.out; omega⟩, aM (rM (rf (Kd.R_types HO692.out BK682.out (by decide))) (fun _ hk => hk.1.1.1.1.1)), aM (rM (rf (Kd.R_types HO695.out BK682.out (by decide))) (fun _ hk => hk.1.1.1.1.1)), aM (fq BK672.out), aM (fq BK682.out), ⟨sq HI0.out⟩, ⟨hq⟩, ⟨bq⟩⟩
   ·rw [if_neg c15] at H
    have c15b0 : decide (0 < x4_1) = false := decide_eq_false c15
    clear c15
    simp only [Option.some.injEq, Prod.mk.injEq] at H
    obtain ⟨rfl, rfl, rfl, rfl⟩ := H
    have hnb29 := NB682_672.out
    have hnc29 := NB672_682.out
    have hnb30 := NB682_0.out
    have hnc30 := NB0_682.out
    obtain ⟨hcz31_0, hcz31_1, hcz31_2, hfz31_0, hfz31_1, hfz31_2⟩ := b3 BK682.out
    have hnb32 := NB672_0.out
    have hnc32 := NB0_672.out
    obtain ⟨hcz33_0, hcz33_1, hcz33_2, hfz33_0, hfz33_1, hfz33_2⟩ := b3 BK672.out
    obtain ⟨Ao34, co34, eo34⟩ := Kd.R_slice HO_683001.out
    subst eo34
    obtain ⟨Ao35, co35, eo35⟩ := Kd.R_slice HO_683002.out
    subst eo35
    go_wp2
    refine bodyPost_ret (results_cell_row rfl _ _ gb672 48 #[.int .i64 x683000_1, .slice Ao34 x683001_1.length co34, .slice Ao35 x683002_1.length co35] (0, 0) _ rfl (fq BK672.out) Try.underlying48 rfl kr) rfl ?_
    exact ⟨_, _, ew, rM (rf (Kd.R_types HO_683001.out BK672.out (by decide))) (fun _ hk => hk.1), rM (rf (Kd.R_types HO_683002.out BK672.out (by decide))) (fun _ hk => hk.1), sq HI0.out, bq, hq⟩
def spec_l7Bent.f (k : Nat) (s0_0 : List Int) (s0_1 : Int) : Option (Int × List Int × List Int × Int) := (spec_l7Draw.f k s0_0 s0_1).bind fun bt700 => ((spec_l1Next.f s0_0 bt700.2.2.2 14).bind fun bt709 => (if bt709.1 = 0 then ((spec_l1BentSize.f s0_0 bt709.2).bind fun bt711 => (some (bt711.1, bt700.2.1, bt700.2.2.1, bt711.2))) else (if bt709.1 = 1 then (if 1 ≤ (bt700.2.1.length : Int) then (some (bt700.1, (bt700.2.1.drop (1 : Int).toNat), bt700.2.2.1, bt709.2)) else (none)) else (if bt709.1 = 2 then ((spec_l1Pick.f s0_0 bt709.2 (([65536, 65537, (-65537)] : List Int))).bind fun bt719 => (if 0 < (bt700.2.1.length : Int) then (some (bt700.1, (bt700.2.1.set (0 : Int).toNat bt719.1), bt700.2.2.1, bt719.2)) else (none))) else (if bt709.1 = 3 then ((spec_l1Pick.f s0_0 bt709.2 (([32767, 32768, (-32769)] : List Int))).bind fun bt725 => (if 0 < (bt700.2.2.1.length : Int) then (some (bt700.1, bt700.2.1, (bt700.2.2.1.set (0 : Int).toNat bt725.1), bt725.2)) else (none))) else (some (bt700.1, bt700.2.1, bt700.2.2.1, bt709.2)))))))
theorem spec_l7Bent.calls (k : Nat) (g : Nat) (s0_0 : List Int) (s0_1 : Int) (r1 : Int) (r2 : List Int) (r3 : List Int) (r4 : Int) (w0 w : World) (hI : IsS149 w0 w g s0_0 s0_1) (hB : Below w0.heap.size w0 w) (h : spec_l7Bent.f k s0_0 s0_1 = some (r1, r2, r3, r4)) :
  Calls Try.prog 89 #[.pointer (some ⟨g, 0, none⟩)] w fun e w' => ∃ v1_ v2_ : Value, e = .returned (.agg #[.int .i64 r1, v1_, v2_]) ∧ Kd.Q (Kd.int .i64) 2 w' w.heap.size (fun k_ => nb v2_ k_) v1_ r2 ∧ Kd.R (Kd.int .i64) 2 w' w.heap.size (fun k_ => nb v1_ k_) v2_ r3 ∧ IsS149 w0 w' g s0_0 r4 ∧ Below w0.heap.size w0 w' ∧ KeepBut w w' g none := by
 have hu48 := Try.underlying48
 have HI0 := aM hI
 have HK := aM (KeepBut.refl w g none)
 have HL := aM hB.size
 clear hI
 have HW0 := aM hB.size
 have HB := aM hB
 clear hB
 unfold spec_l7Bent.f at h
 have H := h
 clear h
 replace H := bo H
 obtain ⟨⟨t700, t701, t704, t707⟩, A2, H⟩ := H
 replace H := bz H
 replace H := bo H
 obtain ⟨⟨t709, t710⟩, A3, H⟩ := H
 replace H := bz H
 by_cases c4 : t709 = 0
 ·rw [if_pos c4] at H
  have c4b0 := eT c4
  have c4b1 := nF c4
  clear c4
  replace H := bo H
  obtain ⟨⟨t711, t712⟩, A5, H⟩ := H
  replace H := bz H
  simp only [Option.some.injEq, Prod.mk.injEq] at H
  obtain ⟨rfl, rfl, rfl, rfl⟩ := H
  go_enter Try.func89, Try.ntmps89
  go_wp2_with (first | ((with_reducible refine gD 2 rfl ?_); refine bx 2 48 #[.int .i64 0, .slice none 0 0, .slice none 0 0] ?_; intro gb699 hg w6 hbox hb; replace HB := aM (bT bq hb); have BK699 := aM hbox; have GW699 := gk w g hg; have GE699 := aM (Nat.le_trans HW0.out GW699.out); replace HK := ku w g hb; have NB0_699 := aM ((by rw [hg]; exact Nat.ne_of_lt (IsS149.lt (sA HI0)) : g ≠ gb699)); have NB699_0 := aM NB0_699.out.symm; replace HI0 := aM (IsS149.below (sq HI0.out) hb); clear hb hbox hg) | ((with_reducible refine gC 126 rfl ?_); refine gl (some 5) Try.func126 #[.pointer (some ⟨g, 0, none⟩)] ?_; (with_reducible refine (spec_l7Draw.calls k g s0_0 s0_1 t700 t701 t704 t707 w0 _ ?s1 ?s2 A2.out).mono ?_); (case s1 => exact sq HI0.out); (case s2 => exact bq); rintro e w7 ⟨v702, v705, rfl, ho0, ho1, hi, hb, hk⟩; refine ii ?_; replace BK699 := zs BK699 hk NB699_0; have HO703 := aM (rG ho0 (ks w g)); have HO706 := aM (rG ho1 (ks w g)); replace HK := kt w hk; replace HB := aM hb; replace HI0 := aM hi; (try clear hb); (try clear ho0); (try clear ho1)) | ((with_reducible refine gD 3 rfl ?_); refine bx 3 48 #[.int .i64 0, .slice none 0 0, .slice none 0 0] ?_; intro gb708 hg w8 hbox hb; replace HO703 := zl HO703 hb; replace HO706 := zl HO706 hb; replace HB := aM (bT bq hb); have BK708 := aM hbox; have GW708 := gk w g hg; have GE708 := aM (Nat.le_trans HW0.out GW708.out); replace HK := ku w g hb; have NB699_708 := nl BK699 hg; have NB708_699 := aM NB699_708.out.symm; replace BK699 := zb BK699 hb; have NB0_708 := aM ((by rw [hg]; exact Nat.ne_of_lt (IsS149.lt (sA HI0)) : g ≠ gb708)); have NB708_0 := aM NB0_708.out.symm; replace HI0 := aM (IsS149.below (sq HI0.out) hb); clear hb hbox hg; have hnb9 := NB708_699.out; have hnc9 := NB699_708.out; have hnb10 := NB708_0.out; have hnc10 := NB0_708.out; obtain ⟨hcz11_0, hcz11_1, hcz11_2, hfz11_0, hfz11_1, hfz11_2⟩ := b3 BK708.out; obtain ⟨Ao12, co12, rfl⟩ := rS HO703.out; obtain ⟨Ao13, co13, rfl⟩ := rS HO706.out) | ((with_reducible refine gC 94 rfl ?_); refine gl (some 7) Try.func94 #[.pointer (some ⟨g, 0, none⟩), .int .i64 14] ?_; (with_reducible refine (spec_l1Next.calls g s0_0 t707 14 t709 t710 w0 _ ?s1 ?s2 A3.out).mono ?_); (case s1 => exact sq HI0.out); (case s2 => exact bq); rintro e w14 ⟨rfl, hi, hb, hk⟩; refine ii ?_; replace BK699 := aM (KeepBut.blk hk (g' := gb699) (o := .cells #[.int .i64 0, .slice none 0 0, .slice none 0 0] 48 (0, 0)) (fq BK699.out) NB699_0.out (by simp)); replace HO703 := zK (sA HI0) (tf HO703 BK708) hk; replace HO706 := zK (sA HI0) (tf HO706 BK708) hk; replace BK708 := aM (KeepBut.blk hk (g' := gb708) (o := .cells #[.int .i64 t700, .slice Ao12 t701.length co12, .slice Ao13 t704.length co13] 48 (0, 0)) (fq BK708.out) NB708_0.out (by simp)); replace HK := kt w hk; replace HB := aM hb; replace HI0 := aM hi; (try clear hb)) | ((with_reducible refine gC 83 rfl ?_); refine gl (some 11) Try.func83 #[.pointer (some ⟨g, 0, none⟩)] ?_; (with_reducible refine (spec_l1BentSize.calls g s0_0 t710 t711 t712 w0 _ ?s1 ?s2 A5.out).mono ?_); (case s1 => exact sq HI0.out); (case s2 => exact bq); rintro e w15 ⟨rfl, hi, hb, hk⟩; refine ii ?_; replace BK699 := zs BK699 hk NB699_0; replace HO703 := zK (sA HI0) (rq HO703.out) hk; replace HO706 := zK (sA HI0) (rq HO706.out) hk; replace BK708 := zs BK708 hk NB708_0; replace HK := kt w hk; replace HB := aM hb; replace HI0 := aM hi; (try clear hb); obtain ⟨hcz16_0, hcz16_1, hcz16_2, hfz16_0, hfz16_1, hfz16_2⟩ := b3 BK708.out; have hnb17 := NB699_0.out; have hnc17 := NB0_699.out; obtain ⟨hcz18_0, hcz18_1, hcz18_2, hfz18_0, hfz18_1, hfz18_2⟩ := b3 BK699.out))
  refine bodyPost_ret (results_cell_row rfl _ _ gb699 48 #[.int .i64 t711, .slice Ao12 t701.length co12, .slice Ao13 t704.length co13] (0, 0) _ rfl (fq BK699.out) Try.underlying48 rfl kr) rfl ?_
  exact ⟨_, _, ew, Kd.Q_of_R (rM (rf (Kd.R_types (Kd.R_types HO703.out BK708.out (by decide)) BK699.out (by decide))) (fun _ hk => hk.1.1)), rM (rf (Kd.R_types (Kd.R_types HO706.out BK708.out (by decide)) BK699.out (by decide))) (fun _ hk => hk.1.1), sq HI0.out, bq, hq⟩
 ·rw [if_neg c4] at H
  have c4b0 := eF c4
  have c4b1 := nT c4
  by_cases c19 : t709 = 1
  ·rw [if_pos c19] at H
   have c19b0 := eT c19
   have c19b1 := nF c19
   clear c19
   by_cases c20 : 1 ≤ (t701.length : Int)
   ·rw [if_pos c20] at H
    have c20b0 := eq_true c20
    have c20b1 := dT c20
    clear c20
    obtain ⟨y713, Ny713⟩ : ∃ y_ : List Int, Aside0 (y_ = (t701.drop (1 : Int).toNat)) := ⟨_, ⟨rfl⟩⟩
    rw [← Ny713.out] at H
    simp only [Option.some.injEq, Prod.mk.injEq] at H
    obtain ⟨rfl, rfl, rfl, rfl⟩ := H
    go_enter Try.func89, Try.ntmps89
    go_wp2_with (first | ((with_reducible refine gD 2 rfl ?_); refine bx 2 48 #[.int .i64 0, .slice none 0 0, .slice none 0 0] ?_; intro gb699 hg w21 hbox hb; replace HB := aM (bT bq hb); have BK699 := aM hbox; have GW699 := gk w g hg; have GE699 := aM (Nat.le_trans HW0.out GW699.out); replace HK := ku w g hb; have NB0_699 := aM ((by rw [hg]; exact Nat.ne_of_lt (IsS149.lt (sA HI0)) : g ≠ gb699)); have NB699_0 := aM NB0_699.out.symm; replace HI0 := aM (IsS149.below (sq HI0.out) hb); clear hb hbox hg) | ((with_reducible refine gC 126 rfl ?_); refine gl (some 5) Try.func126 #[.pointer (some ⟨g, 0, none⟩)] ?_; (with_reducible refine (spec_l7Draw.calls k g s0_0 s0_1 t700 t701 t704 t707 w0 _ ?s1 ?s2 A2.out).mono ?_); (case s1 => exact sq HI0.out); (case s2 => exact bq); rintro e w22 ⟨v702, v705, rfl, ho0, ho1, hi, hb, hk⟩; refine ii ?_; replace BK699 := zs BK699 hk NB699_0; have HO703 := aM (rG ho0 (ks w g)); have HO706 := aM (rG ho1 (ks w g)); replace HK := kt w hk; replace HB := aM hb; replace HI0 := aM hi; (try clear hb); (try clear ho0); (try clear ho1)) | ((with_reducible refine gD 3 rfl ?_); refine bx 3 48 #[.int .i64 0, .slice none 0 0, .slice none 0 0] ?_; intro gb708 hg w23 hbox hb; replace HO703 := zl HO703 hb; replace HO706 := zl HO706 hb; replace HB := aM (bT bq hb); have BK708 := aM hbox; have GW708 := gk w g hg; have GE708 := aM (Nat.le_trans HW0.out GW708.out); replace HK := ku w g hb; have NB699_708 := nl BK699 hg; have NB708_699 := aM NB699_708.out.symm; replace BK699 := zb BK699 hb; have NB0_708 := aM ((by rw [hg]; exact Nat.ne_of_lt (IsS149.lt (sA HI0)) : g ≠ gb708)); have NB708_0 := aM NB0_708.out.symm; replace HI0 := aM (IsS149.below (sq HI0.out) hb); clear hb hbox hg; have hnb24 := NB708_699.out; have hnc24 := NB699_708.out; have hnb25 := NB708_0.out; have hnc25 := NB0_708.out; obtain ⟨hcz26_0, hcz26_1, hcz26_2, hfz26_0, hfz26_1, hfz26_2⟩ := b3 BK708.out; obtain ⟨Ao27, co27, rfl⟩ := rS HO703.out; obtain ⟨Ao28, co28, rfl⟩ := rS HO706.out) | ((with_reducible refine gC 94 rfl ?_); refine gl (some 7) Try.func94 #[.pointer (some ⟨g, 0, none⟩), .int .i64 14] ?_; (with_reducible refine (spec_l1Next.calls g s0_0 t707 14 t709 t710 w0 _ ?s1 ?s2 A3.out).mono ?_); (case s1 => exact sq HI0.out); (case s2 => exact bq); rintro e w29 ⟨rfl, hi, hb, hk⟩; refine ii ?_; replace BK699 := aM (KeepBut.blk hk (g' := gb699) (o := .cells #[.int .i64 0, .slice none 0 0, .slice none 0 0] 48 (0, 0)) (fq BK699.out) NB699_0.out (by simp)); replace HO703 := zK (sA HI0) (tf HO703 BK708) hk; replace HO706 := zK (sA HI0) (tf HO706 BK708) hk; replace BK708 := aM (KeepBut.blk hk (g' := gb708) (o := .cells #[.int .i64 t700, .slice Ao27 t701.length co27, .slice Ao28 t704.length co28] 48 (0, 0)) (fq BK708.out) NB708_0.out (by simp)); replace HK := kt w hk; replace HB := aM hb; replace HI0 := aM hi; (try clear hb); obtain ⟨hcz30_0, hcz30_1, hcz30_2, hfz30_0, hfz30_1, hfz30_2⟩ := b3 BK708.out; have q31 : (1 : Int) ≤ ((t701.length : Int) : Int) := dt; obtain ⟨i031, hi031, _, hsz31, _⟩ := info_parts info2; have hcut31 := cut_from (P := Try.prog) 22 2 .i64 Try.underlying22 hi031 1 hsz31 Ao27 t701.length co27 1 (by omega) q31; have hr31 := Kd.Q_drop (k := (1 : Int).toNat) (Kd.Q_of_R HO703.out) (by omega); obtain ⟨A31, hA31⟩ : ∃ A1, A1 = (if co27 = (1 : Int).toNat then Ao27 else (Ao27 : Option Addr).map (·.add ((1 : Int).toNat * 1))) := ⟨_, rfl⟩; obtain ⟨c31, hc31⟩ : ∃ c1, c1 = co27 - (1 : Int).toNat := ⟨_, rfl⟩; have hy31 : y713.length = t701.length - (1 : Int).toNat := (by rw [Ny713.out, List.length_drop]); rw [← Ny713.out] at hr31; rw [← hy31, ← hA31, ← hc31] at hcut31; replace hr31 : Kd.Q (Kd.int .i64) 2 w29 w.heap.size (fun k_ => nS Ao28 t704 co28 k_) (.slice A31 y713.length c31) y713 := (by rw [hA31, hc31, hy31]; exact hr31); have HE31 : Aside0 ((Value.slice A31 y713.length c31).ownBlock = (.slice Ao27 t701.length co27 : Value).ownBlock) := ⟨by rw [hA31]; split <;> (cases (Ao27 : Option Addr) <;> rfl)⟩; clear hy31 hi031 hsz31 HO703 hA31 hc31; have HO715 := aM hr31; clear hr31; replace q31 := eq_true q31; have n_ := aM (rM (ok' := fun k_ => nS A31 y713 c31 k_) HO706.out (fun k_ hk => (by dsimp only [nS]; rw [HE31.out]; exact hk))); clear HO706; have HO706 := n_; clear n_; have hnb32 := NB699_0.out; have hnc32 := NB0_699.out; obtain ⟨hcz33_0, hcz33_1, hcz33_2, hfz33_0, hfz33_1, hfz33_2⟩ := b3 BK699.out))
    refine bodyPost_ret (results_cell_row rfl _ _ gb699 48 #[.int .i64 t700, .slice A31 y713.length c31, .slice Ao28 t704.length co28] (0, 0) _ rfl (fq BK699.out) Try.underlying48 rfl kr) rfl ?_
    exact ⟨_, _, ew, by (with_reducible repeat (first | apply Kd.Q_alloc | apply Kd.Q_drewN | apply Kd.Q_drew)); exact Kd.Q_mono (Kd.Q_far (p := ⟨gb699, 2, none⟩) (Kd.Q_far (p := ⟨gb699, 1, none⟩) (Kd.Q_far (p := ⟨gb699, 0, none⟩) (Kd.Q_far (p := ⟨gb708, 1, none⟩) (Kd.Q_types (Kd.Q_types HO715.out BK708.out (by decide)) BK699.out (by decide)) (fun _ hk => hk.1.2) (.slice A31 y713.length c31)) (fun _ hk => hk.2) (.int .i64 t700)) (fun _ hk => hk.2) (.slice A31 y713.length c31)) (fun _ hk => hk.2) (.slice Ao28 t704.length co28)) (fun _ hk => hk.1.1), rM (rf (Kd.R_types (Kd.R_types HO706.out BK708.out (by decide)) BK699.out (by decide))) (fun _ hk => hk.1.1), sq HI0.out, bq, hq⟩
   ·rw [if_neg c20] at H
    exact absurd H (by simp)
  ·rw [if_neg c19] at H
   have c19b0 := eF c19
   have c19b1 := nT c19
   by_cases c34 : t709 = 2
   ·rw [if_pos c34] at H
    have c34b0 := eT c34
    have c34b1 := nF c34
    clear c34
    obtain ⟨y716, Ny716⟩ : ∃ y_ : List Int, Aside0 (y_ = (([65536, 65537, (-65537)] : List Int))) := ⟨_, ⟨rfl⟩⟩
    rw [← Ny716.out] at H
    replace H := bo H
    obtain ⟨⟨t719, t720⟩, A35, H⟩ := H
    replace H := bz H
    by_cases c36 : 0 < (t701.length : Int)
    ·rw [if_pos c36] at H
     have c36b0 := dT c36
     have c36b1 : decide (0 < t701.length) = true := decide_eq_true (by omega)
     clear c36
     obtain ⟨y721, Ny721⟩ : ∃ y_ : List Int, Aside0 (y_ = (t701.set (0 : Int).toNat t719)) := ⟨_, ⟨rfl⟩⟩
     rw [← Ny721.out] at H
     simp only [Option.some.injEq, Prod.mk.injEq] at H
     obtain ⟨rfl, rfl, rfl, rfl⟩ := H
     go_enter Try.func89, Try.ntmps89
     try go_wp2_with (first | ((with_reducible refine gD 2 rfl ?_); refine bx 2 48 #[.int .i64 0, .slice none 0 0, .slice none 0 0] ?_; intro gb699 hg w38 hbox hb; replace HB := aM (bT bq hb); have BK699 := aM hbox; have GW699 := gk w g hg; have GE699 := aM (Nat.le_trans HW0.out GW699.out); replace HK := ku w g hb; have NB0_699 := aM ((by rw [hg]; exact Nat.ne_of_lt (IsS149.lt (sA HI0)) : g ≠ gb699)); have NB699_0 := aM NB0_699.out.symm; replace HI0 := aM (IsS149.below (sq HI0.out) hb); clear hb hbox hg) | ((with_reducible refine gC 126 rfl ?_); refine gl (some 5) Try.func126 #[.pointer (some ⟨g, 0, none⟩)] ?_; (with_reducible refine (spec_l7Draw.calls k g s0_0 s0_1 t700 t701 t704 t707 w0 _ ?s1 ?s2 A2.out).mono ?_); (case s1 => exact sq HI0.out); (case s2 => exact bq); rintro e w39 ⟨v702, v705, rfl, ho0, ho1, hi, hb, hk⟩; refine ii ?_; replace BK699 := zs BK699 hk NB699_0; have HO703 := aM (rG ho0 (ks w g)); have HO706 := aM (rG ho1 (ks w g)); replace HK := kt w hk; replace HB := aM hb; replace HI0 := aM hi; (try clear hb); (try clear ho0); (try clear ho1)) | ((with_reducible refine gD 3 rfl ?_); refine bx 3 48 #[.int .i64 0, .slice none 0 0, .slice none 0 0] ?_; intro gb708 hg w40 hbox hb; replace HO703 := zl HO703 hb; replace HO706 := zl HO706 hb; replace HB := aM (bT bq hb); have BK708 := aM hbox; have GW708 := gk w g hg; have GE708 := aM (Nat.le_trans HW0.out GW708.out); replace HK := ku w g hb; have NB699_708 := nl BK699 hg; have NB708_699 := aM NB699_708.out.symm; replace BK699 := zb BK699 hb; have NB0_708 := aM ((by rw [hg]; exact Nat.ne_of_lt (IsS149.lt (sA HI0)) : g ≠ gb708)); have NB708_0 := aM NB0_708.out.symm; replace HI0 := aM (IsS149.below (sq HI0.out) hb); clear hb hbox hg; have hnb41 := NB708_699.out; have hnc41 := NB699_708.out; have hnb42 := NB708_0.out; have hnc42 := NB0_708.out; obtain ⟨hcz43_0, hcz43_1, hcz43_2, hfz43_0, hfz43_1, hfz43_2⟩ := b3 BK708.out; obtain ⟨Ao44, co44, rfl⟩ := rS HO703.out; obtain ⟨Ao45, co45, rfl⟩ := rS HO706.out) | ((with_reducible refine gC 94 rfl ?_); refine gl (some 7) Try.func94 #[.pointer (some ⟨g, 0, none⟩), .int .i64 14] ?_; (with_reducible refine (spec_l1Next.calls g s0_0 t707 14 t709 t710 w0 _ ?s1 ?s2 A3.out).mono ?_); (case s1 => exact sq HI0.out); (case s2 => exact bq); rintro e w46 ⟨rfl, hi, hb, hk⟩; refine ii ?_; replace BK699 := aM (KeepBut.blk hk (g' := gb699) (o := .cells #[.int .i64 0, .slice none 0 0, .slice none 0 0] 48 (0, 0)) (fq BK699.out) NB699_0.out (by simp)); replace HO703 := zK (sA HI0) (tf HO703 BK708) hk; replace HO706 := zK (sA HI0) (tf HO706 BK708) hk; replace BK708 := aM (KeepBut.blk hk (g' := gb708) (o := .cells #[.int .i64 t700, .slice Ao44 t701.length co44, .slice Ao45 t704.length co45] 48 (0, 0)) (fq BK708.out) NB708_0.out (by simp)); replace HK := kt w hk; replace HB := aM hb; replace HI0 := aM hi; (try clear hb)))
     replace HO703 := zd HO703
     replace HO706 := zd HO706
     replace BK699 := zk BK699
     replace BK708 := zk BK708
     replace HI0 := aM (IsS149.drew HI0.out)
     replace HK := aM (keep_drew HK.out)
     replace HB := aM (bD HB.out)
     refine start_ (n := 7) (S := fun w' => w'.cell? ⟨gb708, 0, none⟩ = some (.int .i64 t700) ∧ w'.cell? ⟨gb708, 1, none⟩ = some (.slice Ao44 t701.length co44) ∧ w'.cell? ⟨gb708, 2, none⟩ = some (.slice Ao45 t704.length co45)) (ds := [6]) #[N,N,N,N,N,N,N] kr rfl rfl ⟨cc, cc, cc⟩ (fun hHeld => ?_)
     generalize w46.drew = w47 at HO703 HO706 BK699 BK708 HI0 HK HB hHeld ⊢
     refine pure_ (i := 0) (N := some 21) (v := ?_) (a' := ?_) #[Y,N,N,N,N,N,N] rfl rfl kr (fun _ _ _ h => h) (Or.inl ⟨by rfl, ?_⟩) ?_ ?_
     rotate_left
     ·intro w'
      go_simp
      with_reducible rfl
     rotate_left
     ·simp only [Act.put, pa, pb, pc, i64_w, i32_w]
      rfl
     refine pure_ (i := 2) (N := some 23) (v := ?_) (a' := ?_) #[Y,N,Y,N,N,N,N] rfl rfl kr (fun _ _ _ h => h) (Or.inl ⟨by rfl, ?_⟩) ?_ ?_
     rotate_left
     ·intro w'
      go_simp
      with_reducible rfl
     rotate_left
     ·simp only [Act.put, pa, pb, pc, i64_w, i32_w]
      rfl
     refine take_ (i := 1) (N := some 22) (v := ?_) (a' := ?_) #[Y,Y,Y,N,N,N,N] rfl rfl kr (fun _ _ _ h => h) (Or.inl ⟨by rfl, ?_⟩) hHeld ?_ ?_
     rotate_left
     ·rintro w' ⟨s0, s1, s2⟩
      go_simp
      with_reducible rfl
     rotate_left
     ·simp only [Act.put, pa, pb, pc, i64_w, i32_w]
      rfl
     refine one_ (i := 3) (N := some 24) #[Y,Y,Y,Y,N,N,N] rfl rfl kr (by decide) (fun K hK => ?_)
     refine Kd.R_lit_step (Kd.int .i64) _ 2 ?hg (N := 24) ?hd (xs := ([65536, 65537, (-65537)] : List Int)) (inner := [.int .i64 65536, .int .i64 65537, .int .i64 (-65537)]) (ok := fun _ => True) (okp := fun _ => True) ?hr ?hp (fun _ hk => hk) trivial (Below.refl _ _) (Nat.le_refl _) (by simp) ?_; (case hd => rfl); (case hg => rfl); (case hr => first | (go_simp; done) | (go_simp; rfl)); (case hp => exact (Reps.one (show Kd.M (Kd.int .i64) _ _ _ 65536 [.int .i64 65536] from rfl) (Reps.one (show Kd.M (Kd.int .i64) _ _ _ 65537 [.int .i64 65537] from rfl) (Reps.one (show Kd.M (Kd.int .i64) _ _ _ (-65537) [.int .i64 (-65537)] from rfl) (Reps.none _ _)))))
     intro v717 w48 ho49 hb hg_ hnew_
     clear hg_ hnew_
     rw [← Ny716.out] at ho49
     have HO718 := aM (rG (wq (wq ho49 HO703) HO706) (ks w g))
     replace HO703 := zh (rq HO703.out) ho49 hb
     replace HO706 := zh (rq HO706.out) ho49 hb
     replace BK699 := zb BK699 hb
     replace BK708 := zb BK708 hb
     replace HK := ku w g hb
     replace HB := aM (bT bq hb)
     replace HI0 := aM (IsS149.below (sq HI0.out) hb)
     clear hb ho49
     obtain ⟨Ao50, co50, eo50⟩ := Kd.R_slice HO718.out
     (first | subst eo50 | (injection eo50 with f1_ f2_ f3_; have f4_ := f1_.symm; have f5_ := f3_.symm; clear f1_ f2_ f3_; subst f4_; subst f5_))
     refine hK.out _ _ ⟨cc, cc, cc⟩ (fun hHeld => ?_)
     clear hK K
     refine nn ?_
     refine one_ (i := 4) (N := some 25) #[Y,Y,Y,Y,Y,N,N] rfl rfl kr (by decide) (fun K hK => ?_)
     refine goes_ Try.func86 kr rfl #[.pointer (some ⟨g, 0, none⟩), .slice Ao50 y716.length co50] (by rfl) rfl rfl mq ?_
     with_reducible refine (spec_l1Pick.calls g s0_0 t710 _ _ y716 t719 t720 w0 _ ?s1 ?s2 ?s3 ?s4 ?s5 A35.out).mono ?_
     (case s1 => exact sq HI0.out)
     (case s2 => exact bq)
     (case s3 => exact cq (rR HO718.out).2.2)
     (case s4 => exact (rR HO718.out).2.1)
     (case s5 => exact far_slice (IsS149.own_ne HI0.out HO718.out (by decide)))
     rintro e w51 ⟨rfl, hi, hb, hk⟩
     refine ⟨_, rfl, ?_⟩
     replace BK699 := zs BK699 hk NB699_0
     replace HO703 := zK (sA HI0) (rq HO703.out) hk
     replace HO706 := zK (sA HI0) (rq HO706.out) hk
     replace BK708 := zs BK708 hk NB708_0
     replace HO718 := zK (sA HI0) (rq HO718.out) hk
     replace HK := kt w hk
     replace HB := aM hb
     replace HI0 := aM hi
     (try clear hb)
     (try clear hb2)
     (try clear hk)
     (try clear hi)
     have p37 : 0 ≤ (0 : Int) := (by omega)
     have q37 : (0 : Int) < ((t701.length : Int) : Int) := dt
     have qi37 : (0 < t701.length) = True := eq_true (by omega)
     obtain ⟨go37, co37, eo37, gb37, gl37, cl37, HG37⟩ := Kd.R_form HO703.out (by omega)
     (first | cases eo37 | (injection eo37 with ea_ en_ ec_; (first | subst ea_ | (injection ea_ with ea_; subst ea_)); subst ec_; clear en_))
     have GB37 := aM gb37
     have GG37 := aM HG37
     clear gb37 gl37 HG37
     obtain ⟨hx37_0, hf37_0⟩ := Kd.R_celln 0 HO703.out (0 : Int) p37 q37
     (try rw [show ((0 : Int)).toNat = 0 from rfl] at hx37_0)
     (try simp only [Nat.reduceMul, Nat.zero_mul, Nat.zero_add, Nat.reduceAdd] at hx37_0)
     (try rw [show ((0 : Int)).toNat = 0 from rfl] at hf37_0)
     (try simp only [Nat.reduceMul, Nat.zero_mul, Nat.zero_add, Nat.reduceAdd] at hf37_0)
     replace p37 := eq_true p37
     replace q37 := eq_true q37
     have HN0_go37 := aM (show g ≠ go37 from by have h_ := IsS149.own_ne HI0.out HO703.out (by decide); intro e_; exact h_ (by rw [e_]; rfl))
     have HP52 := Kd.R_putn HO703.out (0 : Int) t719
     rw [← Ny721.out] at HP52
     have HQ52 := aM HP52
     clear HP52
     refine hK.out _ _ ⟨cc, cc, cc⟩ (fun hHeld => ?_)
     clear hK K
     refine nn ?_
     refine pure_ (i := 5) (N := some 26) (v := ?_) (a' := ?_) #[Y,Y,Y,Y,Y,Y,N] rfl rfl kr (fun _ _ _ h => h) (Or.inl ⟨by rfl, ?_⟩) ?_ ?_
     rotate_left
     ·intro w'
      go_simp
      with_reducible rfl
     rotate_left
     ·simp only [Act.put, pa, pb, pc, i64_w, i32_w]
      rfl
     refine last_ (i := 6) (N := none) #[Y,Y,Y,Y,Y,Y,Y] rfl rfl kr (by decide) (fun K hK => ?_)
     refine skip_ (w1 := ?_) (by rfl) rfl ?_ ?_
     rotate_left
     ·go_simp
      rfl
     refine hK.out _ _ ?_
     clear hK K
     refine done_ kr ?_
     generalize hgw_ : (w51.setCell ⟨go37, 0, none⟩ (.int .i64 t719)) = w53
     have n0_ : Aside0 (Kd.R (Kd.int .i64) 2 w53 w.heap.size (fun k_ => nS Ao45 t704 co45 k_ ∧ nS Ao50 y716 co50 k_) (.slice (some ⟨go37, 0, none⟩) t701.length co44) y721) := ⟨by rw [← hgw_]; exact HQ52.out⟩
     have n1_ : Aside0 (Kd.R (Kd.int .i64) 2 w53 w.heap.size (fun k_ => some k_ ≠ (.slice (some ⟨go37, 0, none⟩) t701.length co44 : Value).ownBlock ∧ nS Ao50 y716 co50 k_) (.slice Ao45 t704.length co45) t704) := ⟨by rw [← hgw_]; exact rM (rF (rM HO706.out (fun k_ hk => (⟨hk, fun e_ => hk.1 (by rw [e_]; rfl)⟩ : _ ∧ k_ ≠ go37))) (fun _ hk => hk.2) (.int .i64 t719)) jq⟩
     have n2_ : Aside0 (Kd.R (Kd.int .i64) 2 w53 w.heap.size (fun k_ => some k_ ≠ (.slice (some ⟨go37, 0, none⟩) t701.length co44 : Value).ownBlock ∧ nS Ao45 t704 co45 k_) (.slice Ao50 y716.length co50) y716) := ⟨by rw [← hgw_]; exact rM (rF (rM HO718.out (fun k_ hk => (⟨hk, fun e_ => hk.1.2 (by rw [e_]; rfl)⟩ : _ ∧ k_ ≠ go37))) (fun _ hk => hk.2) (.int .i64 t719)) jq⟩
     have n3_ : Aside0 (w53.heap[gb699]? = some (.cells #[.int .i64 0, .slice none 0 0, .slice none 0 0] 48 (0, 0))) := ⟨by rw [← hgw_]; (with_reducible repeat (first | refine kN ?_ _ | refine kD ?_ | refine kA ?_ _)); refine blk_far ?_ (by have h_ := Kd.R_ne HO703.out BK699.out (by decide); intro e_; exact h_ (by rw [e_]; rfl)) _; (with_reducible repeat (first | refine kN ?_ _ | refine kD ?_ | refine kA ?_ _)); exact BK699.out⟩
     have n4_ : Aside0 (w53.heap[gb708]? = some (.cells #[.int .i64 t700, .slice (some ⟨go37, 0, none⟩) t701.length co44, .slice Ao45 t704.length co45] 48 (0, 0))) := ⟨by rw [← hgw_]; (with_reducible repeat (first | refine kN ?_ _ | refine kD ?_ | refine kA ?_ _)); refine blk_far ?_ (by have h_ := Kd.R_ne HO703.out BK708.out (by decide); intro e_; exact h_ (by rw [e_]; rfl)) _; (with_reducible repeat (first | refine kN ?_ _ | refine kD ?_ | refine kA ?_ _)); exact BK708.out⟩
     have n5_ : Aside0 (IsS149 w0 w53 g s0_0 t720) := ⟨by rw [← hgw_]; repeat (first | (with_reducible first | exact HI0.out | apply IsS149.alloc | apply IsS149.drewN | apply IsS149.drew | apply IsS149.set_1 | refine IsS149.far ?_ HN0_go37.out _ | refine IsS149.far ?_ NB0_699.out _ | refine IsS149.far ?_ NB0_708.out _) | exact HI0.out)⟩
     have n6_ : Aside0 (KeepBut w w53 g none) := ⟨by rw [← hgw_]; repeat (first | (with_reducible first | exact HK.out | apply KeepBut.set_ | apply keep_drewN | apply keep_drew | apply keep_alloc | refine keep_far ?_ GB37.out _ | refine keep_far ?_ GW699.out _ | refine keep_far ?_ GW708.out _) | exact HK.out)⟩
     have n7_ : Aside0 (Below w0.heap.size w0 w53) := ⟨by rw [← hgw_]; repeat (first | (with_reducible first | exact HB.out | apply bA | apply bN | apply bD | refine bS ?_ (Nat.le_trans HL.out GB37.out) | refine bS ?_ (IsS149.ge HI0.out) | refine bS ?_ GE699.out | refine bS ?_ GE708.out) | exact HB.out)⟩
     (try clear HO703)
     (try clear HO706)
     (try clear HO718)
     (try clear BK699)
     (try clear BK708)
     (try clear HI0)
     (try clear HK)
     (try clear HB)
     clear hgw_
     have HO703 := n0_
     have HO706 := n1_
     have HO718 := n2_
     have BK699 := n3_
     have BK708 := n4_
     have HI0 := n5_
     have HK := n6_
     have HB := n7_
     clear n0_ n1_ n2_ n3_ n4_ n5_ n6_ n7_
     obtain ⟨hcz54_0, hcz54_1, hcz54_2, hfz54_0, hfz54_1, hfz54_2⟩ := b3 BK708.out
     have hnb55 := NB699_0.out
     have hnc55 := NB0_699.out
     obtain ⟨hcz56_0, hcz56_1, hcz56_2, hfz56_0, hfz56_1, hfz56_2⟩ := b3 BK699.out
     try go_wp2
     refine bodyPost_ret (results_cell_row rfl _ _ gb699 48 #[.int .i64 t700, .slice (some ⟨go37, 0, none⟩) t701.length co44, .slice Ao45 t704.length co45] (0, 0) _ rfl (fq BK699.out) Try.underlying48 rfl kr) rfl ?_
     exact ⟨_, _, ew, Kd.Q_of_R (rM (rf (Kd.R_types HO703.out BK699.out (by decide))) (fun _ hk => hk.1.1)), rM (rf (Kd.R_types HO706.out BK699.out (by decide))) (fun _ hk => hk.1.1), sq HI0.out, bq, hq⟩
    ·rw [if_neg c36] at H
     exact absurd H (by simp)
   ·rw [if_neg c34] at H
    have c34b0 := eF c34
    have c34b1 := nT c34
    by_cases c57 : t709 = 3
    ·rw [if_pos c57] at H
     have c57b0 := eT c57
     have c57b1 := nF c57
     clear c57
     obtain ⟨y722, Ny722⟩ : ∃ y_ : List Int, Aside0 (y_ = (([32767, 32768, (-32769)] : List Int))) := ⟨_, ⟨rfl⟩⟩
     rw [← Ny722.out] at H
     replace H := bo H
     obtain ⟨⟨t725, t726⟩, A58, H⟩ := H
     replace H := bz H
     by_cases c59 : 0 < (t704.length : Int)
     ·rw [if_pos c59] at H
      have c59b0 := dT c59
      have c59b1 : decide (0 < t704.length) = true := decide_eq_true (by omega)
      clear c59
      obtain ⟨y727, Ny727⟩ : ∃ y_ : List Int, Aside0 (y_ = (t704.set (0 : Int).toNat t725)) := ⟨_, ⟨rfl⟩⟩
      rw [← Ny727.out] at H
      simp only [Option.some.injEq, Prod.mk.injEq] at H
      obtain ⟨rfl, rfl, rfl, rfl⟩ := H
      go_enter Try.func89, Try.ntmps89
      try go_wp2_with (first | ((with_reducible refine gD 2 rfl ?_); refine bx 2 48 #[.int .i64 0, .slice none 0 0, .slice none 0 0] ?_; intro gb699 hg w61 hbox hb; replace HB := aM (bT bq hb); have BK699 := aM hbox; have GW699 := gk w g hg; have GE699 := aM (Nat.le_trans HW0.out GW699.out); replace HK := ku w g hb; have NB0_699 := aM ((by rw [hg]; exact Nat.ne_of_lt (IsS149.lt (sA HI0)) : g ≠ gb699)); have NB699_0 := aM NB0_699.out.symm; replace HI0 := aM (IsS149.below (sq HI0.out) hb); clear hb hbox hg) | ((with_reducible refine gC 126 rfl ?_); refine gl (some 5) Try.func126 #[.pointer (some ⟨g, 0, none⟩)] ?_; (with_reducible refine (spec_l7Draw.calls k g s0_0 s0_1 t700 t701 t704 t707 w0 _ ?s1 ?s2 A2.out).mono ?_); (case s1 => exact sq HI0.out); (case s2 => exact bq); rintro e w62 ⟨v702, v705, rfl, ho0, ho1, hi, hb, hk⟩; refine ii ?_; replace BK699 := zs BK699 hk NB699_0; have HO703 := aM (rG ho0 (ks w g)); have HO706 := aM (rG ho1 (ks w g)); replace HK := kt w hk; replace HB := aM hb; replace HI0 := aM hi; (try clear hb); (try clear ho0); (try clear ho1)) | ((with_reducible refine gD 3 rfl ?_); refine bx 3 48 #[.int .i64 0, .slice none 0 0, .slice none 0 0] ?_; intro gb708 hg w63 hbox hb; replace HO703 := zl HO703 hb; replace HO706 := zl HO706 hb; replace HB := aM (bT bq hb); have BK708 := aM hbox; have GW708 := gk w g hg; have GE708 := aM (Nat.le_trans HW0.out GW708.out); replace HK := ku w g hb; have NB699_708 := nl BK699 hg; have NB708_699 := aM NB699_708.out.symm; replace BK699 := zb BK699 hb; have NB0_708 := aM ((by rw [hg]; exact Nat.ne_of_lt (IsS149.lt (sA HI0)) : g ≠ gb708)); have NB708_0 := aM NB0_708.out.symm; replace HI0 := aM (IsS149.below (sq HI0.out) hb); clear hb hbox hg; have hnb64 := NB708_699.out; have hnc64 := NB699_708.out; have hnb65 := NB708_0.out; have hnc65 := NB0_708.out; obtain ⟨hcz66_0, hcz66_1, hcz66_2, hfz66_0, hfz66_1, hfz66_2⟩ := b3 BK708.out; obtain ⟨Ao67, co67, rfl⟩ := rS HO703.out; obtain ⟨Ao68, co68, rfl⟩ := rS HO706.out) | ((with_reducible refine gC 94 rfl ?_); refine gl (some 7) Try.func94 #[.pointer (some ⟨g, 0, none⟩), .int .i64 14] ?_; (with_reducible refine (spec_l1Next.calls g s0_0 t707 14 t709 t710 w0 _ ?s1 ?s2 A3.out).mono ?_); (case s1 => exact sq HI0.out); (case s2 => exact bq); rintro e w69 ⟨rfl, hi, hb, hk⟩; refine ii ?_; replace BK699 := aM (KeepBut.blk hk (g' := gb699) (o := .cells #[.int .i64 0, .slice none 0 0, .slice none 0 0] 48 (0, 0)) (fq BK699.out) NB699_0.out (by simp)); replace HO703 := zK (sA HI0) (tf HO703 BK708) hk; replace HO706 := zK (sA HI0) (tf HO706 BK708) hk; replace BK708 := aM (KeepBut.blk hk (g' := gb708) (o := .cells #[.int .i64 t700, .slice Ao67 t701.length co67, .slice Ao68 t704.length co68] 48 (0, 0)) (fq BK708.out) NB708_0.out (by simp)); replace HK := kt w hk; replace HB := aM hb; replace HI0 := aM hi; (try clear hb)))
      replace HO703 := zd HO703
      replace HO706 := zd HO706
      replace BK699 := zk BK699
      replace BK708 := zk BK708
      replace HI0 := aM (IsS149.drew HI0.out)
      replace HK := aM (keep_drew HK.out)
      replace HB := aM (bD HB.out)
      refine start_ (n := 7) (S := fun w' => w'.cell? ⟨gb708, 0, none⟩ = some (.int .i64 t700) ∧ w'.cell? ⟨gb708, 1, none⟩ = some (.slice Ao67 t701.length co67) ∧ w'.cell? ⟨gb708, 2, none⟩ = some (.slice Ao68 t704.length co68)) (ds := [6]) #[N,N,N,N,N,N,N] kr rfl rfl ⟨cc, cc, cc⟩ (fun hHeld => ?_)
      generalize w69.drew = w70 at HO703 HO706 BK699 BK708 HI0 HK HB hHeld ⊢
      refine pure_ (i := 0) (N := some 29) (v := ?_) (a' := ?_) #[Y,N,N,N,N,N,N] rfl rfl kr (fun _ _ _ h => h) (Or.inl ⟨by rfl, ?_⟩) ?_ ?_
      rotate_left
      ·intro w'
       go_simp
       with_reducible rfl
      rotate_left
      ·simp only [Act.put, pa, pb, pc, i64_w, i32_w]
       rfl
      refine pure_ (i := 2) (N := some 31) (v := ?_) (a' := ?_) #[Y,N,Y,N,N,N,N] rfl rfl kr (fun _ _ _ h => h) (Or.inl ⟨by rfl, ?_⟩) ?_ ?_
      rotate_left
      ·intro w'
       go_simp
       with_reducible rfl
      rotate_left
      ·simp only [Act.put, pa, pb, pc, i64_w, i32_w]
       rfl
      refine take_ (i := 1) (N := some 30) (v := ?_) (a' := ?_) #[Y,Y,Y,N,N,N,N] rfl rfl kr (fun _ _ _ h => h) (Or.inl ⟨by rfl, ?_⟩) hHeld ?_ ?_
      rotate_left
      ·rintro w' ⟨s0, s1, s2⟩
       go_simp
       with_reducible rfl
      rotate_left
      ·simp only [Act.put, pa, pb, pc, i64_w, i32_w]
       rfl
      refine one_ (i := 3) (N := some 32) #[Y,Y,Y,Y,N,N,N] rfl rfl kr (by decide) (fun K hK => ?_)
      refine Kd.R_lit_step (Kd.int .i64) _ 2 ?hg (N := 32) ?hd (xs := ([32767, 32768, (-32769)] : List Int)) (inner := [.int .i64 32767, .int .i64 32768, .int .i64 (-32769)]) (ok := fun _ => True) (okp := fun _ => True) ?hr ?hp (fun _ hk => hk) trivial (Below.refl _ _) (Nat.le_refl _) (by simp) ?_; (case hd => rfl); (case hg => rfl); (case hr => first | (go_simp; done) | (go_simp; rfl)); (case hp => exact (Reps.one (show Kd.M (Kd.int .i64) _ _ _ 32767 [.int .i64 32767] from rfl) (Reps.one (show Kd.M (Kd.int .i64) _ _ _ 32768 [.int .i64 32768] from rfl) (Reps.one (show Kd.M (Kd.int .i64) _ _ _ (-32769) [.int .i64 (-32769)] from rfl) (Reps.none _ _)))))
      intro v723 w71 ho72 hb hg_ hnew_
      clear hg_ hnew_
      rw [← Ny722.out] at ho72
      have HO724 := aM (rG (wq (wq ho72 HO703) HO706) (ks w g))
      replace HO703 := zh (rq HO703.out) ho72 hb
      replace HO706 := zh (rq HO706.out) ho72 hb
      replace BK699 := zb BK699 hb
      replace BK708 := zb BK708 hb
      replace HK := ku w g hb
      replace HB := aM (bT bq hb)
      replace HI0 := aM (IsS149.below (sq HI0.out) hb)
      clear hb ho72
      obtain ⟨Ao73, co73, eo73⟩ := Kd.R_slice HO724.out
      (first | subst eo73 | (injection eo73 with f1_ f2_ f3_; have f4_ := f1_.symm; have f5_ := f3_.symm; clear f1_ f2_ f3_; subst f4_; subst f5_))
      refine hK.out _ _ ⟨cc, cc, cc⟩ (fun hHeld => ?_)
      clear hK K
      refine nn ?_
      refine one_ (i := 4) (N := some 33) #[Y,Y,Y,Y,Y,N,N] rfl rfl kr (by decide) (fun K hK => ?_)
      refine goes_ Try.func86 kr rfl #[.pointer (some ⟨g, 0, none⟩), .slice Ao73 y722.length co73] (by rfl) rfl rfl mq ?_
      with_reducible refine (spec_l1Pick.calls g s0_0 t710 _ _ y722 t725 t726 w0 _ ?s1 ?s2 ?s3 ?s4 ?s5 A58.out).mono ?_
      (case s1 => exact sq HI0.out)
      (case s2 => exact bq)
      (case s3 => exact cq (rR HO724.out).2.2)
      (case s4 => exact (rR HO724.out).2.1)
      (case s5 => exact far_slice (IsS149.own_ne HI0.out HO724.out (by decide)))
      rintro e w74 ⟨rfl, hi, hb, hk⟩
      refine ⟨_, rfl, ?_⟩
      replace BK699 := zs BK699 hk NB699_0
      replace HO703 := zK (sA HI0) (rq HO703.out) hk
      replace HO706 := zK (sA HI0) (rq HO706.out) hk
      replace BK708 := zs BK708 hk NB708_0
      replace HO724 := zK (sA HI0) (rq HO724.out) hk
      replace HK := kt w hk
      replace HB := aM hb
      replace HI0 := aM hi
      (try clear hb)
      (try clear hb2)
      (try clear hk)
      (try clear hi)
      have p60 : 0 ≤ (0 : Int) := (by omega)
      have q60 : (0 : Int) < ((t704.length : Int) : Int) := dt
      have qi60 : (0 < t704.length) = True := eq_true (by omega)
      obtain ⟨go60, co60, eo60, gb60, gl60, cl60, HG60⟩ := Kd.R_form HO706.out (by omega)
      (first | cases eo60 | (injection eo60 with ea_ en_ ec_; (first | subst ea_ | (injection ea_ with ea_; subst ea_)); subst ec_; clear en_))
      have GB60 := aM gb60
      have GG60 := aM HG60
      clear gb60 gl60 HG60
      obtain ⟨hx60_0, hf60_0⟩ := Kd.R_celln 0 HO706.out (0 : Int) p60 q60
      (try rw [show ((0 : Int)).toNat = 0 from rfl] at hx60_0)
      (try simp only [Nat.reduceMul, Nat.zero_mul, Nat.zero_add, Nat.reduceAdd] at hx60_0)
      (try rw [show ((0 : Int)).toNat = 0 from rfl] at hf60_0)
      (try simp only [Nat.reduceMul, Nat.zero_mul, Nat.zero_add, Nat.reduceAdd] at hf60_0)
      replace p60 := eq_true p60
      replace q60 := eq_true q60
      have HN0_go60 := aM (show g ≠ go60 from by have h_ := IsS149.own_ne HI0.out HO706.out (by decide); intro e_; exact h_ (by rw [e_]; rfl))
      have HP75 := Kd.R_putn HO706.out (0 : Int) t725
      rw [← Ny727.out] at HP75
      have HQ75 := aM HP75
      clear HP75
      refine hK.out _ _ ⟨cc, cc, cc⟩ (fun hHeld => ?_)
      clear hK K
      refine nn ?_
      refine pure_ (i := 5) (N := some 34) (v := ?_) (a' := ?_) #[Y,Y,Y,Y,Y,Y,N] rfl rfl kr (fun _ _ _ h => h) (Or.inl ⟨by rfl, ?_⟩) ?_ ?_
      rotate_left
      ·intro w'
       go_simp
       with_reducible rfl
      rotate_left
      ·simp only [Act.put, pa, pb, pc, i64_w, i32_w]
       rfl
      refine last_ (i := 6) (N := none) #[Y,Y,Y,Y,Y,Y,Y] rfl rfl kr (by decide) (fun K hK => ?_)
      refine skip_ (w1 := ?_) (by rfl) rfl ?_ ?_
      rotate_left
      ·go_simp
       rfl
      refine hK.out _ _ ?_
      clear hK K
      refine done_ kr ?_
      generalize hgw_ : (w74.setCell ⟨go60, 0, none⟩ (.int .i64 t725)) = w76
      have n0_ : Aside0 (Kd.R (Kd.int .i64) 2 w76 w.heap.size (fun k_ => some k_ ≠ (.slice (some ⟨go60, 0, none⟩) t704.length co68 : Value).ownBlock ∧ nS Ao73 y722 co73 k_) (.slice Ao67 t701.length co67) t701) := ⟨by rw [← hgw_]; exact rM (rF (rM HO703.out (fun k_ hk => (⟨hk, fun e_ => hk.1 (by rw [e_]; rfl)⟩ : _ ∧ k_ ≠ go60))) (fun _ hk => hk.2) (.int .i64 t725)) jq⟩
      have n1_ : Aside0 (Kd.R (Kd.int .i64) 2 w76 w.heap.size (fun k_ => nS Ao67 t701 co67 k_ ∧ nS Ao73 y722 co73 k_) (.slice (some ⟨go60, 0, none⟩) t704.length co68) y727) := ⟨by rw [← hgw_]; exact HQ75.out⟩
      have n2_ : Aside0 (Kd.R (Kd.int .i64) 2 w76 w.heap.size (fun k_ => nS Ao67 t701 co67 k_ ∧ some k_ ≠ (.slice (some ⟨go60, 0, none⟩) t704.length co68 : Value).ownBlock) (.slice Ao73 y722.length co73) y722) := ⟨by rw [← hgw_]; exact rM (rF (rM HO724.out (fun k_ hk => (⟨hk, fun e_ => hk.2 (by rw [e_]; rfl)⟩ : _ ∧ k_ ≠ go60))) (fun _ hk => hk.2) (.int .i64 t725)) jq⟩
      have n3_ : Aside0 (w76.heap[gb699]? = some (.cells #[.int .i64 0, .slice none 0 0, .slice none 0 0] 48 (0, 0))) := ⟨by rw [← hgw_]; (with_reducible repeat (first | refine kN ?_ _ | refine kD ?_ | refine kA ?_ _)); refine blk_far ?_ (by have h_ := Kd.R_ne HO706.out BK699.out (by decide); intro e_; exact h_ (by rw [e_]; rfl)) _; (with_reducible repeat (first | refine kN ?_ _ | refine kD ?_ | refine kA ?_ _)); exact BK699.out⟩
      have n4_ : Aside0 (w76.heap[gb708]? = some (.cells #[.int .i64 t700, .slice Ao67 t701.length co67, .slice (some ⟨go60, 0, none⟩) t704.length co68] 48 (0, 0))) := ⟨by rw [← hgw_]; (with_reducible repeat (first | refine kN ?_ _ | refine kD ?_ | refine kA ?_ _)); refine blk_far ?_ (by have h_ := Kd.R_ne HO706.out BK708.out (by decide); intro e_; exact h_ (by rw [e_]; rfl)) _; (with_reducible repeat (first | refine kN ?_ _ | refine kD ?_ | refine kA ?_ _)); exact BK708.out⟩
      have n5_ : Aside0 (IsS149 w0 w76 g s0_0 t726) := ⟨by rw [← hgw_]; repeat (first | (with_reducible first | exact HI0.out | apply IsS149.alloc | apply IsS149.drewN | apply IsS149.drew | apply IsS149.set_1 | refine IsS149.far ?_ HN0_go60.out _ | refine IsS149.far ?_ NB0_699.out _ | refine IsS149.far ?_ NB0_708.out _) | exact HI0.out)⟩
      have n6_ : Aside0 (KeepBut w w76 g none) := ⟨by rw [← hgw_]; repeat (first | (with_reducible first | exact HK.out | apply KeepBut.set_ | apply keep_drewN | apply keep_drew | apply keep_alloc | refine keep_far ?_ GB60.out _ | refine keep_far ?_ GW699.out _ | refine keep_far ?_ GW708.out _) | exact HK.out)⟩
      have n7_ : Aside0 (Below w0.heap.size w0 w76) := ⟨by rw [← hgw_]; repeat (first | (with_reducible first | exact HB.out | apply bA | apply bN | apply bD | refine bS ?_ (Nat.le_trans HL.out GB60.out) | refine bS ?_ (IsS149.ge HI0.out) | refine bS ?_ GE699.out | refine bS ?_ GE708.out) | exact HB.out)⟩
      (try clear HO703)
      (try clear HO706)
      (try clear HO724)
      (try clear BK699)
      (try clear BK708)
      (try clear HI0)
      (try clear HK)
      (try clear HB)
      clear hgw_
      have HO703 := n0_
      have HO706 := n1_
      have HO724 := n2_
      have BK699 := n3_
      have BK708 := n4_
      have HI0 := n5_
      have HK := n6_
      have HB := n7_
      clear n0_ n1_ n2_ n3_ n4_ n5_ n6_ n7_
      obtain ⟨hcz77_0, hcz77_1, hcz77_2, hfz77_0, hfz77_1, hfz77_2⟩ := b3 BK708.out
      have hnb78 := NB699_0.out
      have hnc78 := NB0_699.out
      obtain ⟨hcz79_0, hcz79_1, hcz79_2, hfz79_0, hfz79_1, hfz79_2⟩ := b3 BK699.out
      try go_wp2
      refine bodyPost_ret (results_cell_row rfl _ _ gb699 48 #[.int .i64 t700, .slice Ao67 t701.length co67, .slice (some ⟨go60, 0, none⟩) t704.length co68] (0, 0) _ rfl (fq BK699.out) Try.underlying48 rfl kr) rfl ?_
      exact ⟨_, _, ew, Kd.Q_of_R (rM (rf (Kd.R_types HO703.out BK699.out (by decide))) (fun _ hk => hk.1.1)), rM (rf (Kd.R_types HO706.out BK699.out (by decide))) (fun _ hk => hk.1.1), sq HI0.out, bq, hq⟩
     ·rw [if_neg c59] at H
      exact absurd H (by simp)
    ·rw [if_neg c57] at H
     have c57b0 := eF c57
     have c57b1 := nT c57
     simp only [Option.some.injEq, Prod.mk.injEq] at H
     obtain ⟨rfl, rfl, rfl, rfl⟩ := H
     go_enter Try.func89, Try.ntmps89
     go_wp2_with (first | ((with_reducible refine gD 2 rfl ?_); refine bx 2 48 #[.int .i64 0, .slice none 0 0, .slice none 0 0] ?_; intro gb699 hg w80 hbox hb; replace HB := aM (bT bq hb); have BK699 := aM hbox; have GW699 := gk w g hg; have GE699 := aM (Nat.le_trans HW0.out GW699.out); replace HK := ku w g hb; have NB0_699 := aM ((by rw [hg]; exact Nat.ne_of_lt (IsS149.lt (sA HI0)) : g ≠ gb699)); have NB699_0 := aM NB0_699.out.symm; replace HI0 := aM (IsS149.below (sq HI0.out) hb); clear hb hbox hg) | ((with_reducible refine gC 126 rfl ?_); refine gl (some 5) Try.func126 #[.pointer (some ⟨g, 0, none⟩)] ?_; (with_reducible refine (spec_l7Draw.calls k g s0_0 s0_1 t700 t701 t704 t707 w0 _ ?s1 ?s2 A2.out).mono ?_); (case s1 => exact sq HI0.out); (case s2 => exact bq); rintro e w81 ⟨v702, v705, rfl, ho0, ho1, hi, hb, hk⟩; refine ii ?_; replace BK699 := zs BK699 hk NB699_0; have HO703 := aM (rG ho0 (ks w g)); have HO706 := aM (rG ho1 (ks w g)); replace HK := kt w hk; replace HB := aM hb; replace HI0 := aM hi; (try clear hb); (try clear ho0); (try clear ho1)) | ((with_reducible refine gD 3 rfl ?_); refine bx 3 48 #[.int .i64 0, .slice none 0 0, .slice none 0 0] ?_; intro gb708 hg w82 hbox hb; replace HO703 := zl HO703 hb; replace HO706 := zl HO706 hb; replace HB := aM (bT bq hb); have BK708 := aM hbox; have GW708 := gk w g hg; have GE708 := aM (Nat.le_trans HW0.out GW708.out); replace HK := ku w g hb; have NB699_708 := nl BK699 hg; have NB708_699 := aM NB699_708.out.symm; replace BK699 := zb BK699 hb; have NB0_708 := aM ((by rw [hg]; exact Nat.ne_of_lt (IsS149.lt (sA HI0)) : g ≠ gb708)); have NB708_0 := aM NB0_708.out.symm; replace HI0 := aM (IsS149.below (sq HI0.out) hb); clear hb hbox hg; have hnb83 := NB708_699.out; have hnc83 := NB699_708.out; have hnb84 := NB708_0.out; have hnc84 := NB0_708.out; obtain ⟨hcz85_0, hcz85_1, hcz85_2, hfz85_0, hfz85_1, hfz85_2⟩ := b3 BK708.out; obtain ⟨Ao86, co86, rfl⟩ := rS HO703.out; obtain ⟨Ao87, co87, rfl⟩ := rS HO706.out) | ((with_reducible refine gC 94 rfl ?_); refine gl (some 7) Try.func94 #[.pointer (some ⟨g, 0, none⟩), .int .i64 14] ?_; (with_reducible refine (spec_l1Next.calls g s0_0 t707 14 t709 t710 w0 _ ?s1 ?s2 A3.out).mono ?_); (case s1 => exact sq HI0.out); (case s2 => exact bq); rintro e w88 ⟨rfl, hi, hb, hk⟩; refine ii ?_; replace BK699 := aM (KeepBut.blk hk (g' := gb699) (o := .cells #[.int .i64 0, .slice none 0 0, .slice none 0 0] 48 (0, 0)) (fq BK699.out) NB699_0.out (by simp)); replace HO703 := zK (sA HI0) (tf HO703 BK708) hk; replace HO706 := zK (sA HI0) (tf HO706 BK708) hk; replace BK708 := aM (KeepBut.blk hk (g' := gb708) (o := .cells #[.int .i64 t700, .slice Ao86 t701.length co86, .slice Ao87 t704.length co87] 48 (0, 0)) (fq BK708.out) NB708_0.out (by simp)); replace HK := kt w hk; replace HB := aM hb; replace HI0 := aM hi; (try clear hb); obtain ⟨hcz89_0, hcz89_1, hcz89_2, hfz89_0, hfz89_1, hfz89_2⟩ := b3 BK708.out; have hnb90 := NB699_0.out; have hnc90 := NB0_699.out; obtain ⟨hcz91_0, hcz91_1, hcz91_2, hfz91_0, hfz91_1, hfz91_2⟩ := b3 BK699.out))
     refine bodyPost_ret (results_cell_row rfl _ _ gb699 48 #[.int .i64 t700, .slice Ao86 t701.length co86, .slice Ao87 t704.length co87] (0, 0) _ rfl (fq BK699.out) Try.underlying48 rfl kr) rfl ?_
     exact ⟨_, _, ew, Kd.Q_of_R (rM (rf (Kd.R_types HO703.out BK699.out (by decide))) (fun _ hk => hk.1)), rM (rf (Kd.R_types HO706.out BK699.out (by decide))) (fun _ hk => hk.1), sq HI0.out, bq, hq⟩
def spec_l1Min.f (a0 : Int) (a1 : Int) : Option (Int) := if a0 < a1 then (some a0) else (some a1)
theorem spec_l1Min.calls (a0 : Int) (a1 : Int) (r : Int) (w : World) (h : spec_l1Min.f a0 a1 = some r) :
  Calls Try.prog 84 #[.int .i64 a0, .int .i64 a1] w fun e w' => e = .returned (.int .i64 r) ∧ Drawn0 w w' := by
 unfold spec_l1Min.f at h
 have H := h
 clear h
 by_cases c3 : a0 < a1
 ·rw [if_pos c3] at H
  have c3b0 := dT c3
  clear c3
  obtain rfl := Option.some.inj H
  go_enter Try.func84, Try.ntmps84
  go_wp2
  go_ret
  exact ⟨ex, dr⟩
 ·rw [if_neg c3] at H
  have c3b0 := dF c3
  clear c3
  obtain rfl := Option.some.inj H
  go_enter Try.func84, Try.ntmps84
  go_wp2
  go_ret
  exact ⟨ex, dr⟩
def spec_l1Max.f (a0 : Int) (a1 : Int) : Option (Int) := if a0 > a1 then (some a0) else (some a1)
theorem spec_l1Max.calls (a0 : Int) (a1 : Int) (r : Int) (w : World) (h : spec_l1Max.f a0 a1 = some r) :
  Calls Try.prog 93 #[.int .i64 a0, .int .i64 a1] w fun e w' => e = .returned (.int .i64 r) ∧ Drawn0 w w' := by
 unfold spec_l1Max.f at h
 have H := h
 clear h
 by_cases c3 : a0 > a1
 ·rw [if_pos c3] at H
  have c3b0 : decide (a1 < a0) = true := decide_eq_true c3
  clear c3
  obtain rfl := Option.some.inj H
  go_enter Try.func93, Try.ntmps93
  go_wp2
  go_ret
  exact ⟨ex, dr⟩
 ·rw [if_neg c3] at H
  have c3b0 : decide (a1 < a0) = false := decide_eq_false c3
  clear c3
  obtain rfl := Option.some.inj H
  go_enter Try.func93, Try.ntmps93
  go_wp2
  go_ret
  exact ⟨ex, dr⟩
end Go.Proofs.Ytmhnpogjkbmmnaa.PFnStates
