import Derived.Test.YtmhnpogjkbmmnaaPFnStatesx0
import Derived.Test.YtmhnpogjkbmmnaaPFnStatesx6
import Derived.Test.YtmhnpogjkbmmnaaPFnStatesx12
import Derived.Test.YtmhnpogjkbmmnaaPFnStatesx14
namespace Go.Proofs.Ytmhnpogjkbmmnaa.PFnStates
open Go.RowKit Go.Proofs.YtmhnpogjkbmmnaaW.PrintWords Go.Proofs.YtmhnpogjkbmmnaaW.PrintLast Go.Proofs.YtmhnpogjkbmmnaaW.PrintMore
open Go.Proofs.YtmhnpogjkbmmnaaW.PrintWords.Kd renaming R_alloc → rA, R_drewN → rN, R_drew → rD, R_far → rF, R_mono → rM, R_below → rL, R_lower → rG, C_below → cB
open Go.Proofs.YtmhnpogjkbmmnaaW.PrintWords renaming below_step → bT, below_size → bZ, blk_drewN → kN, blk_drew → kD, blk_alloc → kA, blk_below → kB, blk_cell → kC, blk_frozen → kF
open Go.Proofs.YtmhnpogjkbmmnaaW.PrintWords.Aside0 renaming mk → aM
attribute [local go_sem] max2_int min2_int max_two min_two max_three min_three max_four min_four
set_option maxHeartbeats 8000000
set_option maxRecDepth 100000
set_option linter.unusedVariables false
set_option linter.unusedSimpArgs false
def spec_FeedFrame.f (k : Nat) (a0_0 : Int) (l0_1 : List Int) (l0_2 : List Int) (l1 : List Int) : Option (Int × Int × List Int × List Int × List Int) := (spec_LapFault.f k a0_0 l0_1 l0_2).bind fun t470 => (if t470 = 0 then ((spec_SamplesFault.f k a0_0 l1).bind fun t471 => (if t471 = 0 then ((spec_l7Feed.f k a0_0 l0_1 l0_2 l1).bind fun bt472 => (some (0, bt472.1, bt472.2.1, bt472.2.2.1, bt472.2.2.2))) else (some (t471, 0, ([] : List Int), ([] : List Int), ([] : List Int))))) else (some (t470, 0, ([] : List Int), ([] : List Int), ([] : List Int))))
theorem spec_FeedFrame.calls (k : Nat) (a0_0 : Int) (A0_1 : Option Addr) (c0_1 : Nat) (l0_1 : List Int) (A0_2 : Option Addr) (c0_2 : Nat) (l0_2 : List Int) (A1 : Option Addr) (c1 : Nat) (l1 : List Int) (r1 : Int) (r2 : Int) (r3 : List Int) (r4 : List Int) (r5 : List Int) (w : World) (hr0_1 : Kd.C (Kd.int .i64) w A0_1 l0_1.length l0_1) (hc0_1 : l0_1.length ≤ c0_1) (hr0_2 : Kd.C (Kd.int .i64) w A0_2 l0_2.length l0_2) (hc0_2 : l0_2.length ≤ c0_2) (hr1 : Kd.C (Kd.int .i64) w A1 l1.length l1) (hc1 : l1.length ≤ c1) (h : spec_FeedFrame.f k a0_0 l0_1 l0_2 l1 = some (r1, r2, r3, r4, r5)) :
  Calls Try.prog 27 #[.agg #[.int .i64 a0_0, .slice A0_1 l0_1.length c0_1, .slice A0_2 l0_2.length c0_2], .slice A1 l1.length c1] w fun e w' => ∃ v2_ v3_ v4_ : Value, e = .returned (.agg #[.int .i64 r1, .int .i64 r2, v2_, v3_, v4_]) ∧ Kd.R (Kd.int .i64) 2 w' w.heap.size (fun k_ => nb v3_ k_ ∧ nb v4_ k_) v2_ r3 ∧ Kd.R (Kd.int .i64) 2 w' w.heap.size (fun k_ => nb v2_ k_ ∧ nb v4_ k_) v3_ r4 ∧ Kd.R (Kd.int .i64) 2 w' w.heap.size (fun k_ => nb v2_ k_ ∧ nb v3_ k_) v4_ r5 ∧ Below w.heap.size w w' := by
 have hu48 := Try.underlying48
 have hu50 := Try.underlying50
 have HR0_1 := aM hr0_1
 have HC0_1 := aM hc0_1
 clear hr0_1 hc0_1
 have HR0_2 := aM hr0_2
 have HC0_2 := aM hc0_2
 clear hr0_2 hc0_2
 have HR1 := aM hr1
 have HC1 := aM hc1
 clear hr1 hc1
 have HB := aM (Below.refl w.heap.size w)
 unfold spec_FeedFrame.f at h
 have H := h
 clear h
 replace H := bo H
 obtain ⟨t470, A3, H⟩ := H
 replace H := bz H
 by_cases c4 : t470 = 0
 ·rw [if_pos c4] at H
  have c4b0 := eT c4
  have c4b1 := nF c4
  clear c4
  replace H := bo H
  obtain ⟨t471, A5, H⟩ := H
  replace H := bz H
  by_cases c6 : t471 = 0
  ·rw [if_pos c6] at H
   have c6b0 := eT c6
   have c6b1 := nF c6
   clear c6
   replace H := bo H
   obtain ⟨⟨t472, t473, t476, t479⟩, A7, H⟩ := H
   replace H := bz H
   simp only [Option.some.injEq, Prod.mk.injEq] at H
   obtain ⟨rfl, rfl, rfl, rfl, rfl⟩ := H
   go_enter Try.func27, Try.ntmps27
   go_wp2_with (first | ((with_reducible refine gD 2 rfl ?_); refine bx 2 48 #[.int .i64 a0_0, .slice A0_1 l0_1.length c0_1, .slice A0_2 l0_2.length c0_2] ?_; intro gb468 hg w8 hbox hb; have BK468 := aM hbox; have GW468 := gw w hg; have GE468 := GW468; replace HB := aM (bT bq hb); clear hb hbox hg) | ((with_reducible refine gD 4 rfl ?_); refine bx 4 50 #[.int .i64 0, .int .i64 0, .slice none 0 0, .slice none 0 0, .slice none 0 0] ?_; intro gb469 hg w9 hbox hb; have BK469 := aM hbox; have GW469 := gw w hg; have GE469 := GW469; replace HB := aM (bT bq hb); have NB468_469 := nl BK468 hg; have NB469_468 := aM NB468_469.out.symm; replace BK468 := zb BK468 hb; clear hb hbox hg; have hnb10 := NB468_469.out; have hnc10 := NB469_468.out; obtain ⟨hcz11_0, hcz11_1, hcz11_2, hfz11_0, hfz11_1, hfz11_2⟩ := b3 BK468.out) | ((with_reducible refine gC 73 rfl ?_); refine gl (some 10) Try.func73 #[.agg #[.int .i64 a0_0, .slice A0_1 l0_1.length c0_1, .slice A0_2 l0_2.length c0_2]] ?_; (with_reducible refine (spec_LapFault.calls k a0_0 _ _ l0_1 _ _ l0_2 t470 _ ?s1 ?s2 ?s3 ?s4 A3.out).mono ?_); (case s1 => exact cq (cB HR0_1.out HB.out)); (case s2 => exact HC0_1.out); (case s3 => exact cq (cB HR0_2.out HB.out)); (case s4 => exact HC0_2.out); rintro e w12 ⟨rfl, hb⟩; refine ii ?_; replace BK468 := zb BK468 hb; replace BK469 := zb BK469 hb; replace HB := aM (bT bq hb); (try clear hb); obtain ⟨hcz13_0, hcz13_1, hcz13_2, hfz13_0, hfz13_1, hfz13_2⟩ := b3 BK468.out) | ((with_reducible refine gC 74 rfl ?_); refine gl (some 18) Try.func74 #[.int .i64 a0_0, .slice A1 l1.length c1] ?_; (with_reducible refine (spec_SamplesFault.calls k a0_0 _ _ l1 t471 _ ?s1 ?s2 A5.out).mono ?_); (case s1 => exact cq (cB HR1.out HB.out)); (case s2 => exact HC1.out); rintro e w' ⟨rfl, ⟨nd, rfl⟩⟩; refine ii ?_; (try (rw [drewN_self w12]; generalize hq_ : World.drewN w12 _ = w12; have n0_ : Aside0 (w12.heap[gb468]? = some (.cells #[.int .i64 a0_0, .slice A0_1 l0_1.length c0_1, .slice A0_2 l0_2.length c0_2] 48 (0, 0))) := ⟨by rw [← hq_]; exact (kq BK468.out)⟩; have n1_ : Aside0 (w12.heap[gb469]? = some (.cells #[.int .i64 0, .int .i64 0, .slice none 0 0, .slice none 0 0, .slice none 0 0] 50 (0, 0))) := ⟨by rw [← hq_]; exact (kq BK469.out)⟩; have n2_ : Aside0 (Below w.heap.size w w12) := ⟨by rw [← hq_]; exact bq⟩; clear BK468 BK469 HB hq_; have BK468 := n0_; have BK469 := n1_; have HB := n2_; clear n0_ n1_ n2_))) | ((with_reducible refine gC 75 rfl ?_); refine gl (some 25) Try.func75 #[.pointer (some ⟨gb468, 0, none⟩), .slice A1 l1.length c1] ?_; (with_reducible refine (spec_l7Feed.calls k gb468 a0_0 A0_1 c0_1 l0_1 A0_2 c0_2 l0_2 _ _ l1 t472 t473 t476 t479 _ ?s1 ?s2 ?s3 ?s4 ?s5 ?s6 ?s7 A7.out).mono ?_); (case s1 => (with_reducible repeat (first | refine kN ?_ _ | refine kD ?_ | refine kA ?_ _)); exact BK468.out); (case s2 => exact cq (cB HR0_1.out HB.out)); (case s3 => exact HC0_1.out); (case s4 => exact cq (cB HR0_2.out HB.out)); (case s5 => exact HC0_2.out); (case s6 => exact cq (cB HR1.out HB.out)); (case s7 => exact HC1.out); rintro e w14 ⟨v474, v477, v480, rfl, ho0, ho1, ho2, hb⟩; refine ii ?_; have HO475 := aM (rG ho0 (bZ bq)); have HO478 := aM (rG ho1 (bZ bq)); have HO481 := aM (rG ho2 (bZ bq)); replace BK468 := zb BK468 hb; replace BK469 := zb BK469 hb; replace HB := aM (bT bq hb); (try clear hb); (try clear ho0); (try clear ho1); (try clear ho2)) | ((with_reducible refine gD 7 rfl ?_); refine bx 7 48 #[.int .i64 0, .slice none 0 0, .slice none 0 0] ?_; intro gb482 hg w15 hbox hb; replace HO475 := zl HO475 hb; replace HO478 := zl HO478 hb; replace HO481 := zl HO481 hb; have BK482 := aM hbox; have GW482 := gw w hg; have GE482 := GW482; replace HB := aM (bT bq hb); have NB468_482 := nl BK468 hg; have NB482_468 := aM NB468_482.out.symm; replace BK468 := zb BK468 hb; have NB469_482 := nl BK469 hg; have NB482_469 := aM NB469_482.out.symm; replace BK469 := zb BK469 hb; clear hb hbox hg; have hnb16 := NB482_468.out; have hnc16 := NB468_482.out; have hnb17 := NB482_469.out; have hnc17 := NB469_482.out; obtain ⟨hcz18_0, hcz18_1, hcz18_2, hfz18_0, hfz18_1, hfz18_2⟩ := b3 BK482.out; obtain ⟨Ao19, co19, rfl⟩ := rS HO475.out; obtain ⟨Ao20, co20, rfl⟩ := rS HO478.out; obtain ⟨Ao21, co21, rfl⟩ := rS HO481.out; obtain ⟨hcz22_0, hcz22_1, hcz22_2, hcz22_3, hcz22_4, hfz22_0, hfz22_1, hfz22_2, hfz22_3, hfz22_4⟩ := b5 BK469.out))
   refine bodyPost_ret (results_cell_row rfl _ _ gb469 50 #[.int .i64 0, .int .i64 t472, .slice Ao19 t473.length co19, .slice Ao20 t476.length co20, .slice Ao21 t479.length co21] (0, 0) _ rfl (fq BK469.out) Try.underlying50 rfl kr) rfl ?_
   exact ⟨_, _, _, ew, rM (rf (Kd.R_types (Kd.R_types HO475.out BK482.out (by decide)) BK469.out (by decide))) (fun _ hk => ⟨hk.1.1.1, hk.1.1.2⟩), rM (rf (Kd.R_types (Kd.R_types HO478.out BK482.out (by decide)) BK469.out (by decide))) (fun _ hk => ⟨hk.1.1.1, hk.1.1.2⟩), rM (rf (Kd.R_types (Kd.R_types HO481.out BK482.out (by decide)) BK469.out (by decide))) (fun _ hk => ⟨hk.1.1.1, hk.1.1.2⟩), bq⟩
  ·rw [if_neg c6] at H
   have c6b0 := eF c6
   have c6b1 := nT c6
   simp only [Option.some.injEq, Prod.mk.injEq] at H
   obtain ⟨rfl, rfl, rfl, rfl, rfl⟩ := H
   go_enter Try.func27, Try.ntmps27
   go_wp2_with (first | ((with_reducible refine gD 2 rfl ?_); refine bx 2 48 #[.int .i64 a0_0, .slice A0_1 l0_1.length c0_1, .slice A0_2 l0_2.length c0_2] ?_; intro gb468 hg w23 hbox hb; have BK468 := aM hbox; have GW468 := gw w hg; have GE468 := GW468; replace HB := aM (bT bq hb); clear hb hbox hg) | ((with_reducible refine gD 4 rfl ?_); refine bx 4 50 #[.int .i64 0, .int .i64 0, .slice none 0 0, .slice none 0 0, .slice none 0 0] ?_; intro gb469 hg w24 hbox hb; have BK469 := aM hbox; have GW469 := gw w hg; have GE469 := GW469; replace HB := aM (bT bq hb); have NB468_469 := nl BK468 hg; have NB469_468 := aM NB468_469.out.symm; replace BK468 := zb BK468 hb; clear hb hbox hg; have hnb25 := NB468_469.out; have hnc25 := NB469_468.out; obtain ⟨hcz26_0, hcz26_1, hcz26_2, hfz26_0, hfz26_1, hfz26_2⟩ := b3 BK468.out) | ((with_reducible refine gC 73 rfl ?_); refine gl (some 10) Try.func73 #[.agg #[.int .i64 a0_0, .slice A0_1 l0_1.length c0_1, .slice A0_2 l0_2.length c0_2]] ?_; (with_reducible refine (spec_LapFault.calls k a0_0 _ _ l0_1 _ _ l0_2 t470 _ ?s1 ?s2 ?s3 ?s4 A3.out).mono ?_); (case s1 => exact cq (cB HR0_1.out HB.out)); (case s2 => exact HC0_1.out); (case s3 => exact cq (cB HR0_2.out HB.out)); (case s4 => exact HC0_2.out); rintro e w27 ⟨rfl, hb⟩; refine ii ?_; replace BK468 := zb BK468 hb; replace BK469 := zb BK469 hb; replace HB := aM (bT bq hb); (try clear hb); obtain ⟨hcz28_0, hcz28_1, hcz28_2, hfz28_0, hfz28_1, hfz28_2⟩ := b3 BK468.out) | ((with_reducible refine gC 74 rfl ?_); refine gl (some 18) Try.func74 #[.int .i64 a0_0, .slice A1 l1.length c1] ?_; (with_reducible refine (spec_SamplesFault.calls k a0_0 _ _ l1 t471 _ ?s1 ?s2 A5.out).mono ?_); (case s1 => exact cq (cB HR1.out HB.out)); (case s2 => exact HC1.out); rintro e w' ⟨rfl, ⟨nd, rfl⟩⟩; refine ii ?_; (try (rw [drewN_self w27]; generalize hq_ : World.drewN w27 _ = w27; have n0_ : Aside0 (w27.heap[gb468]? = some (.cells #[.int .i64 a0_0, .slice A0_1 l0_1.length c0_1, .slice A0_2 l0_2.length c0_2] 48 (0, 0))) := ⟨by rw [← hq_]; exact (kq BK468.out)⟩; have n1_ : Aside0 (w27.heap[gb469]? = some (.cells #[.int .i64 0, .int .i64 0, .slice none 0 0, .slice none 0 0, .slice none 0 0] 50 (0, 0))) := ⟨by rw [← hq_]; exact (kq BK469.out)⟩; have n2_ : Aside0 (Below w.heap.size w w27) := ⟨by rw [← hq_]; exact bq⟩; clear BK468 BK469 HB hq_; have BK468 := n0_; have BK469 := n1_; have HB := n2_; clear n0_ n1_ n2_)); obtain ⟨hcz29_0, hcz29_1, hcz29_2, hcz29_3, hcz29_4, hfz29_0, hfz29_1, hfz29_2, hfz29_3, hfz29_4⟩ := b5 BK469.out))
   refine bodyPost_ret (results_cell_row rfl _ _ gb469 50 #[.int .i64 t471, .int .i64 0, .slice none 0 0, .slice none 0 0, .slice none 0 0] (0, 0) _ rfl (fq BK469.out) Try.underlying50 rfl kr) rfl ?_
   exact ⟨_, _, _, ew, rn, rn, rn, bq⟩
 ·rw [if_neg c4] at H
  have c4b0 := eF c4
  have c4b1 := nT c4
  simp only [Option.some.injEq, Prod.mk.injEq] at H
  obtain ⟨rfl, rfl, rfl, rfl, rfl⟩ := H
  go_enter Try.func27, Try.ntmps27
  go_wp2_with (first | ((with_reducible refine gD 2 rfl ?_); refine bx 2 48 #[.int .i64 a0_0, .slice A0_1 l0_1.length c0_1, .slice A0_2 l0_2.length c0_2] ?_; intro gb468 hg w30 hbox hb; have BK468 := aM hbox; have GW468 := gw w hg; have GE468 := GW468; replace HB := aM (bT bq hb); clear hb hbox hg) | ((with_reducible refine gD 4 rfl ?_); refine bx 4 50 #[.int .i64 0, .int .i64 0, .slice none 0 0, .slice none 0 0, .slice none 0 0] ?_; intro gb469 hg w31 hbox hb; have BK469 := aM hbox; have GW469 := gw w hg; have GE469 := GW469; replace HB := aM (bT bq hb); have NB468_469 := nl BK468 hg; have NB469_468 := aM NB468_469.out.symm; replace BK468 := zb BK468 hb; clear hb hbox hg; have hnb32 := NB468_469.out; have hnc32 := NB469_468.out; obtain ⟨hcz33_0, hcz33_1, hcz33_2, hfz33_0, hfz33_1, hfz33_2⟩ := b3 BK468.out) | ((with_reducible refine gC 73 rfl ?_); refine gl (some 10) Try.func73 #[.agg #[.int .i64 a0_0, .slice A0_1 l0_1.length c0_1, .slice A0_2 l0_2.length c0_2]] ?_; (with_reducible refine (spec_LapFault.calls k a0_0 _ _ l0_1 _ _ l0_2 t470 _ ?s1 ?s2 ?s3 ?s4 A3.out).mono ?_); (case s1 => exact cq (cB HR0_1.out HB.out)); (case s2 => exact HC0_1.out); (case s3 => exact cq (cB HR0_2.out HB.out)); (case s4 => exact HC0_2.out); rintro e w34 ⟨rfl, hb⟩; refine ii ?_; replace BK468 := zb BK468 hb; replace BK469 := zb BK469 hb; replace HB := aM (bT bq hb); (try clear hb); obtain ⟨hcz35_0, hcz35_1, hcz35_2, hcz35_3, hcz35_4, hfz35_0, hfz35_1, hfz35_2, hfz35_3, hfz35_4⟩ := b5 BK469.out))
  refine bodyPost_ret (results_cell_row rfl _ _ gb469 50 #[.int .i64 t470, .int .i64 0, .slice none 0 0, .slice none 0 0, .slice none 0 0] (0, 0) _ rfl (fq BK469.out) Try.underlying50 rfl kr) rfl ?_
  exact ⟨_, _, _, ew, rn, rn, rn, bq⟩
def impl_isSample.f (a0 : Int) : Option (Bool) := (impl_inRange.f a0 (-32768) 32767).bind fun t483 => (some t483)
theorem impl_isSample.calls (a0 : Int) (r : Bool) (w : World) (h : impl_isSample.f a0 = some r) :
  Calls Try.prog 131 #[.int .i64 a0] w fun e w' => e = .returned (.bool r) ∧ Drawn0 w w' := by
 unfold impl_isSample.f at h
 have H := h
 clear h
 replace H := bo H
 obtain ⟨t483, A2, H⟩ := H
 replace H : (some t483) = some r := H
 obtain rfl := Option.some.inj H
 go_enter Try.func131, Try.ntmps131
 go_wp2_with (first | ((with_reducible refine gC 105 rfl ?_); refine gl (some 4) Try.func105 #[.int .i64 a0, .int .i64 (-32768), .int .i64 32767] ?_; (with_reducible refine (impl_inRange.calls a0 (-32768) 32767 t483 _ A2.out).mono ?_); rintro e w' ⟨rfl, ⟨nd, rfl⟩⟩; refine ii ?_))
 go_ret
 exact ⟨ex, dr⟩
def impl_areSamples_1.f (a0 : Int) : Option (Bool) := (impl_isSample.f a0).bind fun t484 => (some (!t484))
theorem impl_areSamples_1.calls (a0 : Int) (r : Bool) (w : World) (h : impl_areSamples_1.f a0 = some r) :
  Calls Try.prog 130 #[.int .i64 a0] w fun e w' => e = .returned (.bool r) ∧ Drawn0 w w' := by
 unfold impl_areSamples_1.f at h
 have H := h
 clear h
 replace H := bo H
 obtain ⟨t484, A2, H⟩ := H
 replace H : (some (!t484)) = some r := H
 obtain rfl := Option.some.inj H
 go_enter Try.func130, Try.ntmps130
 go_wp2_with (first | ((with_reducible refine gC 131 rfl ?_); refine gl (some 4) Try.func131 #[.int .i64 a0] ?_; (with_reducible refine (impl_isSample.calls a0 t484 _ A2.out).mono ?_); rintro e w' ⟨rfl, ⟨nd, rfl⟩⟩; refine ii ?_))
 go_ret
 exact ⟨ex, dr⟩
theorem okp_areSamples_1 (w : World) : FnOKp 130 #[] (fun x => !decide (-32768 ≤ x ∧ x ≤ 32767)) w := by
 refine ⟨fun args w => enters_ Try.func130 kr rfl args w, fun W _ x => ?_⟩
 show Calls Try.prog 130 #[.int .i64 x] W _
 refine (impl_areSamples_1.calls x _ W ?_).mono (fun _ _ h => h)
 simp only [impl_areSamples_1.f, impl_inRange.f, impl_isSample.f]
 by_cases h : (-32768) ≤ x <;> simp [h]
def impl_areSamples.f (l0 : List Int) : Option (Bool) := (slices_ContainsFunc_int64_int64.f l0 (fun x => !decide (-32768 ≤ x ∧ x ≤ 32767))).bind fun t485 => (some (!t485))
theorem impl_areSamples.calls (A0 : Option Addr) (c0 : Nat) (l0 : List Int) (r : Bool) (w : World) (hr0 : Kd.C (Kd.int .i64) w A0 l0.length l0) (hc0 : l0.length ≤ c0) (h : impl_areSamples.f l0 = some r) :
  Calls Try.prog 96 #[.slice A0 l0.length c0] w fun e w' => e = .returned (.bool r) ∧ Drawn0 w w' := by
 have HR0 := aM hr0
 have HC0 := aM hc0
 clear hr0 hc0
 unfold impl_areSamples.f at h
 have H := h
 clear h
 replace H := bo H
 obtain ⟨t485, A2, H⟩ := H
 replace H : (some (!t485)) = some r := H
 obtain rfl := Option.some.inj H
 go_enter Try.func96, Try.ntmps96
 go_wp2_with (first | ((with_reducible refine gC 103 rfl ?_); refine gl (some 4) Try.func103 #[.slice A0 l0.length c0, .func (.func 130) #[] #[]] ?_; (with_reducible refine (slices_ContainsFunc_int64_int64.calls _ _ l0 _ _ (fun x => !decide (-32768 ≤ x ∧ x ≤ 32767)) t485 _ ?s1 ?s2 ?s3 A2.out).mono ?_); (case s1 => exact cq HR0.out); (case s2 => exact HC0.out); (case s3 => exact okp_areSamples_1 _); rintro e w' ⟨rfl, ⟨nd, rfl⟩⟩; refine ii ?_))
 go_ret
 exact ⟨ex, dr⟩
end Go.Proofs.Ytmhnpogjkbmmnaa.PFnStates
