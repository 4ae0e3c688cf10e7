import Derived.Test.YtmhnpogjkbmmnaaPFnStatesx0
import Derived.Test.YtmhnpogjkbmmnaaPFnStatesx1
import Derived.Test.YtmhnpogjkbmmnaaPFnStatesx5
import Derived.Test.YtmhnpogjkbmmnaaPFnStatesx14
import Derived.Test.YtmhnpogjkbmmnaaPFnStatesx21
import Derived.Test.YtmhnpogjkbmmnaaPFnStatesx22
namespace Go.Proofs.Ytmhnpogjkbmmnaa.PFnStates
open Go.RowKit Go.Proofs.YtmhnpogjkbmmnaaW.PrintWords Go.Proofs.YtmhnpogjkbmmnaaW.PrintLast Go.Proofs.YtmhnpogjkbmmnaaW.PrintMore
open Go.Proofs.YtmhnpogjkbmmnaaW.PrintWords.Kd renaming R_alloc → rA, R_drewN → rN, R_drew → rD, R_far → rF, R_mono → rM, R_base → rB, R_new' → rW, R_below → rL, R_lt → rT, R_lower → rG, R_elder' → rH, R_reads' → rR
open Go.Proofs.YtmhnpogjkbmmnaaW.PrintMore.Kd renaming R_told → rO, R_old → rE
open Go.Proofs.YtmhnpogjkbmmnaaW.PrintWords renaming below_alloc → bA, pw_below_drewN → bN, below_drew1 → bD, below_set → bS, below_step → bT, below_size → bZ, blk_drewN → kN, blk_drew → kD, blk_alloc → kA, blk_below → kB, blk_cell → kC, blk_frozen → kF
open Go.Proofs.YtmhnpogjkbmmnaaW.PrintWords.Aside0 renaming mk → aM
attribute [local go_sem] max2_int min2_int max_two min_two max_three min_three max_four min_four
set_option maxHeartbeats 8000000
set_option maxRecDepth 100000
set_option linter.unusedVariables false
set_option linter.unusedSimpArgs false
def spec_l1BentSamples.f (k : Nat) (s0_0 : List Int) (s0_1 : Int) (a1 : Int) : Option (List Int × Int) := (spec_l1Max.f a1 0).bind fun t728 => ((spec_l1Min.f t728 20).bind fun t729 => ((spec_l1Samples.f k s0_0 s0_1 t729).bind fun bt730 => ((spec_l1Next.f s0_0 bt730.2 12).bind fun bt734 => (if bt734.1 = 0 then (if bt730.1.length < 17592186044416 then (some ((bt730.1 ++ [0]), bt734.2)) else (none)) else (if bt734.1 = 1 then (if (bt730.1.length : Int) > 0 then ((spec_l1Next.f s0_0 bt734.2 (bt730.1.length : Int)).bind fun bt739 => ((spec_l1Pick.f s0_0 bt739.2 (([32768, (-32769)] : List Int))).bind fun bt744 => (if 0 ≤ bt739.1 then (if bt739.1 < (bt730.1.length : Int) then (some ((bt730.1.set (bt739.1 : Int).toNat bt744.1), bt744.2)) else (none)) else (none)))) else (some (bt730.1, bt734.2))) else (some (bt730.1, bt734.2)))))))
theorem spec_l1BentSamples.calls (k : Nat) (g : Nat) (s0_0 : List Int) (s0_1 : Int) (a1 : Int) (r1 : List Int) (r2 : Int) (w0 w : World) (hI : IsS149 w0 w g s0_0 s0_1) (hB : Below w0.heap.size w0 w) (h : spec_l1BentSamples.f k s0_0 s0_1 a1 = some (r1, r2)) :
  Calls Try.prog 90 #[.pointer (some ⟨g, 0, none⟩), .int .i64 a1] w fun e w' => ∃ v0_ : Value, e = .returned (v0_) ∧ Kd.R (Kd.int .i64) 2 w' w.heap.size (fun _ => True) v0_ r1 ∧ IsS149 w0 w' g s0_0 r2 ∧ Below w0.heap.size w0 w' ∧ KeepBut w w' g none := by
 have HI0 := aM hI
 have HK := aM (KeepBut.refl w g none)
 have HL := aM hB.size
 clear hI
 have HW0 := aM hB.size
 have HB := aM hB
 clear hB
 unfold spec_l1BentSamples.f at h
 have H := h
 clear h
 replace H := bo H
 obtain ⟨t728, A3, H⟩ := H
 replace H := bz H
 replace H := bo H
 obtain ⟨t729, A4, H⟩ := H
 replace H := bz H
 replace H := bo H
 obtain ⟨⟨t730, t733⟩, A5, H⟩ := H
 replace H := bz H
 replace H := bo H
 obtain ⟨⟨t734, t735⟩, A6, H⟩ := H
 replace H := bz H
 by_cases c7 : t734 = 0
 ·rw [if_pos c7] at H
  have c7b0 := eT c7
  have c7b1 := nF c7
  clear c7
  by_cases c8 : t730.length < 17592186044416
  ·rw [if_pos c8] at H
   have LMc8 := aM c8
   clear c8
   obtain ⟨y736, Ny736⟩ : ∃ y_ : List Int, Aside0 (y_ = (t730 ++ [0])) := ⟨_, ⟨rfl⟩⟩
   rw [← Ny736.out] at H
   simp only [Option.some.injEq, Prod.mk.injEq] at H
   obtain ⟨rfl, rfl⟩ := H
   go_enter Try.func90, Try.ntmps90
   go_wp2_with (first | ((with_reducible refine gC 93 rfl ?_); refine gl (some 8) Try.func93 #[.int .i64 a1, .int .i64 0] ?_; (with_reducible refine (spec_l1Max.calls a1 0 t728 _ A3.out).mono ?_); rintro e w' ⟨rfl, ⟨nd, rfl⟩⟩; refine ii ?_) | ((with_reducible refine gC 84 rfl ?_); refine gl (some 9) Try.func84 #[.int .i64 t728, .int .i64 20] ?_; (with_reducible refine (spec_l1Min.calls t728 20 t729 _ A4.out).mono ?_); rintro e w' ⟨rfl, ⟨nd, rfl⟩⟩; refine ii ?_) | ((with_reducible refine gC 127 rfl ?_); refine gl (some 10) Try.func127 #[.pointer (some ⟨g, 0, none⟩), .int .i64 t729] ?_; (with_reducible refine (spec_l1Samples.calls k g s0_0 s0_1 t729 t730 t733 w0 _ ?s1 ?s2 A5.out).mono ?_); (case s1 => exact sq HI0.out); (case s2 => exact bq); rintro e w9 ⟨v731, rfl, ho0, hi, hb, hk⟩; refine ii ?_; have HO732 := aM (rG ho0 (ks w g)); replace HK := kt w hk; replace HB := aM hb; replace HI0 := aM hi; (try clear hb); (try clear ho0)) | ((with_reducible refine gC 94 rfl ?_); refine gl (some 12) Try.func94 #[.pointer (some ⟨g, 0, none⟩), .int .i64 12] ?_; (with_reducible refine (spec_l1Next.calls g s0_0 t733 12 t734 t735 w0 _ ?s1 ?s2 A6.out).mono ?_); (case s1 => exact sq HI0.out); (case s2 => exact bq); rintro e w10 ⟨rfl, hi, hb, hk⟩; refine ii ?_; replace HO732 := zK (sA HI0) (rq HO732.out) hk; replace HK := kt w hk; replace HB := aM hb; replace HI0 := aM hi; (try clear hb)) | ((with_reducible refine gate_builtin (b := .append) (xs := #[.tmp 15, .tmp 16]) rfl ?_); at_builtin; refine Kd.R_append (Kd.int .i64) w.heap.size rfl (.tmp 15) (.tmp 16) 22 2 (.int .i64 0) 8 rfl Try.underlying22 info2 rfl (by decide) (by omega) v731 t730 0 [.int .i64 0] (fun _ => True) (fun _ => False) rfl rfl ?aP (fun _ hk => hk.elim) ?aF ?aO (Below.refl _ _) ?aS ?aL ?_; (case aP => exact rfl); (case aF => exact (fun _ _ => trivial)); (case aO => exact (rq HO732.out)); (case aS => exact (ks w g)); (case aL => have := LMc8.out; omega); intro v737 w11 ho hb hg hat; rw [← Ny736.out] at ho; replace HB := aM (below_weaken bq HL.out hb); replace HI0 := aM (IsS149.grown (sq HI0.out) hg (IsS149.own_ne HI0.out HO732.out (by decide))); replace HK := aM (KeepBut.trans (hq (w := w)) (KeepBut.of_grown hg g) (Kd.R_base2 HO732.out)); have HO738 := aM (ho); clear HO732 ho hb hg hat))
   go_ret
   exact ⟨_, ew, by (with_reducible repeat (first | apply rA | apply rN | apply rD)); exact HO738.out, sq HI0.out, bq, hq⟩
  ·rw [if_neg c8] at H
   exact absurd H (by simp)
 ·rw [if_neg c7] at H
  have c7b0 := eF c7
  have c7b1 := nT c7
  by_cases c12 : t734 = 1
  ·rw [if_pos c12] at H
   have c12b0 := eT c12
   have c12b1 := nF c12
   clear c12
   by_cases c13 : (t730.length : Int) > 0
   ·rw [if_pos c13] at H
    have c13b0 : decide (0 < (t730.length : Int)) = true := decide_eq_true c13
    have c13b1 : decide (0 < t730.length) = true := decide_eq_true (by omega)
    clear c13
    replace H := bo H
    obtain ⟨⟨t739, t740⟩, A14, H⟩ := H
    replace H := bz H
    obtain ⟨y741, Ny741⟩ : ∃ y_ : List Int, Aside0 (y_ = (([32768, (-32769)] : List Int))) := ⟨_, ⟨rfl⟩⟩
    rw [← Ny741.out] at H
    replace H := bo H
    obtain ⟨⟨t744, t745⟩, A15, H⟩ := H
    replace H := bz H
    by_cases c16 : 0 ≤ t739
    ·rw [if_pos c16] at H
     have c16b0 := dT c16
     clear c16
     by_cases c17 : t739 < (t730.length : Int)
     ·rw [if_pos c17] at H
      have c17b0 := dT c17
      clear c17
      obtain ⟨y746, Ny746⟩ : ∃ y_ : List Int, Aside0 (y_ = (t730.set (t739 : Int).toNat t744)) := ⟨_, ⟨rfl⟩⟩
      rw [← Ny746.out] at H
      simp only [Option.some.injEq, Prod.mk.injEq] at H
      obtain ⟨rfl, rfl⟩ := H
      go_enter Try.func90, Try.ntmps90
      go_wp2_with (first | ((with_reducible refine gC 93 rfl ?_); refine gl (some 8) Try.func93 #[.int .i64 a1, .int .i64 0] ?_; (with_reducible refine (spec_l1Max.calls a1 0 t728 _ A3.out).mono ?_); rintro e w' ⟨rfl, ⟨nd, rfl⟩⟩; refine ii ?_) | ((with_reducible refine gC 84 rfl ?_); refine gl (some 9) Try.func84 #[.int .i64 t728, .int .i64 20] ?_; (with_reducible refine (spec_l1Min.calls t728 20 t729 _ A4.out).mono ?_); rintro e w' ⟨rfl, ⟨nd, rfl⟩⟩; refine ii ?_) | ((with_reducible refine gC 127 rfl ?_); refine gl (some 10) Try.func127 #[.pointer (some ⟨g, 0, none⟩), .int .i64 t729] ?_; (with_reducible refine (spec_l1Samples.calls k g s0_0 s0_1 t729 t730 t733 w0 _ ?s1 ?s2 A5.out).mono ?_); (case s1 => exact sq HI0.out); (case s2 => exact bq); rintro e w19 ⟨v731, rfl, ho0, hi, hb, hk⟩; refine ii ?_; have HO732 := aM (rG ho0 (ks w g)); replace HK := kt w hk; replace HB := aM hb; replace HI0 := aM hi; (try clear hb); (try clear ho0)) | ((with_reducible refine gC 94 rfl ?_); refine gl (some 12) Try.func94 #[.pointer (some ⟨g, 0, none⟩), .int .i64 12] ?_; (with_reducible refine (spec_l1Next.calls g s0_0 t733 12 t734 t735 w0 _ ?s1 ?s2 A6.out).mono ?_); (case s1 => exact sq HI0.out); (case s2 => exact bq); rintro e w20 ⟨rfl, hi, hb, hk⟩; refine ii ?_; replace HO732 := zK (sA HI0) (rq HO732.out) hk; replace HK := kt w hk; replace HB := aM hb; replace HI0 := aM hi; (try clear hb); obtain ⟨Ao21, co21, rfl⟩ := rS HO732.out) | ((with_reducible refine gC 94 rfl ?_); refine gl (some 27) Try.func94 #[.pointer (some ⟨g, 0, none⟩), .int .i64 (t730.length : Int)] ?_; (with_reducible refine (spec_l1Next.calls g s0_0 t735 (t730.length : Int) t739 t740 w0 _ ?s1 ?s2 A14.out).mono ?_); (case s1 => exact sq HI0.out); (case s2 => exact bq); rintro e w22 ⟨rfl, hi, hb, hk⟩; refine ii ?_; replace HO732 := zK (sA HI0) (rq HO732.out) hk; replace HK := kt w hk; replace HB := aM hb; replace HI0 := aM hi; (try clear hb)) | ((with_reducible refine gD 29 rfl ?_); refine Kd.R_lit (Kd.int .i64) _ 2 ?hg (N := 29) ?hd (xs := ([32768, (-32769)] : List Int)) (inner := [.int .i64 32768, .int .i64 (-32769)]) (ok := fun _ => True) (okp := fun _ => True) ?hr ?hp (fun _ hk => hk) trivial (Below.refl _ _) (Nat.le_refl _) (by simp) ?_; (case hd => rfl); (case hg => rfl); (case hr => first | (go_simp; done) | (go_simp; rfl)); (case hp => exact (Reps.one (show Kd.M (Kd.int .i64) _ _ _ 32768 [.int .i64 32768] from rfl) (Reps.one (show Kd.M (Kd.int .i64) _ _ _ (-32769) [.int .i64 (-32769)] from rfl) (Reps.none _ _)))); intro v742 w23 ho24 hb hg_ hnew_; clear hg_ hnew_; rw [← Ny741.out] at ho24; have HO743 := aM (rG (wq ho24 HO732) (ks w g)); replace HO732 := zh (rq HO732.out) ho24 hb; replace HK := ku w g hb; replace HB := aM (bT bq hb); replace HI0 := aM (IsS149.below (sq HI0.out) hb); clear hb ho24; obtain ⟨Ao25, co25, rfl⟩ := rS HO743.out) | ((with_reducible refine gC 86 rfl ?_); refine gl (some 30) Try.func86 #[.pointer (some ⟨g, 0, none⟩), .slice Ao25 y741.length co25] ?_; (with_reducible refine (spec_l1Pick.calls g s0_0 t740 _ _ y741 t744 t745 w0 _ ?s1 ?s2 ?s3 ?s4 ?s5 A15.out).mono ?_); (case s1 => exact sq HI0.out); (case s2 => exact bq); (case s3 => exact cq (rR HO743.out).2.2); (case s4 => exact (rR HO743.out).2.1); (case s5 => exact far_slice (IsS149.own_ne HI0.out HO743.out (by decide))); rintro e w26 ⟨rfl, hi, hb, hk⟩; refine ii ?_; replace HO732 := zK (sA HI0) (rq HO732.out) hk; replace HO743 := zK (sA HI0) (rq HO743.out) hk; replace HK := kt w hk; replace HB := aM hb; replace HI0 := aM hi; (try clear hb); have p18 : 0 ≤ (t739 : Int) := dt; have q18 : (t739 : Int) < ((t730.length : Int) : Int) := dt; obtain ⟨go18, co18, eo18, gb18, gl18, cl18, HG18⟩ := Kd.R_form HO732.out (by omega); (first | cases eo18 | (injection eo18 with ea_ en_ ec_; (first | subst ea_ | (injection ea_ with ea_; subst ea_)); subst ec_; clear en_)); have GB18 := aM gb18; have GG18 := aM HG18; clear gb18 gl18 HG18; obtain ⟨hx18_0, hf18_0⟩ := Kd.R_celln 0 HO732.out (t739 : Int) p18 q18; replace p18 := eq_true p18; replace q18 := eq_true q18; have n_ := aM (rM (ok' := (fun k_ => nS Ao25 y741 co25 k_)) HO732.out (fun k_ hk => hk.2)); clear HO732; have HO732 := n_; clear n_; obtain ⟨hy27_, hz27_⟩ := Kd.R_celln 0 HO732.out (t739 : Int) (dt) (dt); have HP27 := Kd.R_putg HO732.out (t739 : Int) t744) | ((with_reducible refine gate_store (t := 2) (p := 31) rfl ?_); refine store_event (t := 2) (p := 31) (v := ?vo_w28) (w1 := (w26.setCell ⟨go18, (t739 : Int).toNat, none⟩ (.int .i64 t744))) ?hg ?ho ?hn ?hr ?_; (case ho => rfl); (case hg => rfl); (case hn => rfl); (case hr => first | (go_simp; done) | (go_simp; rfl)); intro w28 hw; have hg : w26.grownBy w28 (some go18) := (by rw [hw]; exact HP27.2); have hp_ : Kd.R (Kd.int .i64) 2 w28 w.heap.size (fun k_ => nS Ao25 y741 co25 k_) (.slice (some ⟨go18, 0, none⟩) t730.length co21) y746 := (by rw [hw, Ny746.out]; exact HP27.1); clear HP27; replace HI0 := aM (IsS149.grown (sq HI0.out) hg (IsS149.own_ne HI0.out HO732.out (by decide))); replace HO743 := aM (Kd.R_after (v := (.slice (some ⟨go18, 0, none⟩) t730.length co21)) (v1 := (.slice (some ⟨go18, 0, none⟩) t730.length co21)) (ok := (fun _ => True)) (rq HO743.out) hg (.inl rfl)); replace HB := aM ((by rw [hw]; exact bS (HB.out) (Nat.le_trans HL.out GB18.out) : Below w0.heap.size w0 w28)); replace HK := aM (KeepBut.trans (hq (w := w)) (KeepBut.of_grown hg g) (Kd.R_base2 HO732.out)); replace HO732 := aM (hp_); clear hg hw hp_))
      go_ret
      exact ⟨_, ew, by (with_reducible repeat (first | apply rA | apply rN | apply rD)); exact rM HO732.out (fun _ hk => trivial), sq HI0.out, bq, hq⟩
     ·rw [if_neg c17] at H
      exact absurd H (by simp)
    ·rw [if_neg c16] at H
     exact absurd H (by simp)
   ·rw [if_neg c13] at H
    have c13b0 : decide (0 < (t730.length : Int)) = false := decide_eq_false c13
    have c13b1 : decide (0 < t730.length) = false := decide_eq_false (by omega)
    clear c13
    simp only [Option.some.injEq, Prod.mk.injEq] at H
    obtain ⟨rfl, rfl⟩ := H
    go_enter Try.func90, Try.ntmps90
    go_wp2_with (first | ((with_reducible refine gC 93 rfl ?_); refine gl (some 8) Try.func93 #[.int .i64 a1, .int .i64 0] ?_; (with_reducible refine (spec_l1Max.calls a1 0 t728 _ A3.out).mono ?_); rintro e w' ⟨rfl, ⟨nd, rfl⟩⟩; refine ii ?_) | ((with_reducible refine gC 84 rfl ?_); refine gl (some 9) Try.func84 #[.int .i64 t728, .int .i64 20] ?_; (with_reducible refine (spec_l1Min.calls t728 20 t729 _ A4.out).mono ?_); rintro e w' ⟨rfl, ⟨nd, rfl⟩⟩; refine ii ?_) | ((with_reducible refine gC 127 rfl ?_); refine gl (some 10) Try.func127 #[.pointer (some ⟨g, 0, none⟩), .int .i64 t729] ?_; (with_reducible refine (spec_l1Samples.calls k g s0_0 s0_1 t729 t730 t733 w0 _ ?s1 ?s2 A5.out).mono ?_); (case s1 => exact sq HI0.out); (case s2 => exact bq); rintro e w29 ⟨v731, rfl, ho0, hi, hb, hk⟩; refine ii ?_; have HO732 := aM (rG ho0 (ks w g)); replace HK := kt w hk; replace HB := aM hb; replace HI0 := aM hi; (try clear hb); (try clear ho0)) | ((with_reducible refine gC 94 rfl ?_); refine gl (some 12) Try.func94 #[.pointer (some ⟨g, 0, none⟩), .int .i64 12] ?_; (with_reducible refine (spec_l1Next.calls g s0_0 t733 12 t734 t735 w0 _ ?s1 ?s2 A6.out).mono ?_); (case s1 => exact sq HI0.out); (case s2 => exact bq); rintro e w30 ⟨rfl, hi, hb, hk⟩; refine ii ?_; replace HO732 := zK (sA HI0) (rq HO732.out) hk; replace HK := kt w hk; replace HB := aM hb; replace HI0 := aM hi; (try clear hb); obtain ⟨Ao31, co31, rfl⟩ := rS HO732.out))
    go_ret
    exact ⟨_, ew, by (with_reducible repeat (first | apply rA | apply rN | apply rD)); exact HO732.out, sq HI0.out, bq, hq⟩
  ·rw [if_neg c12] at H
   have c12b0 := eF c12
   have c12b1 := nT c12
   simp only [Option.some.injEq, Prod.mk.injEq] at H
   obtain ⟨rfl, rfl⟩ := H
   go_enter Try.func90, Try.ntmps90
   go_wp2_with (first | ((with_reducible refine gC 93 rfl ?_); refine gl (some 8) Try.func93 #[.int .i64 a1, .int .i64 0] ?_; (with_reducible refine (spec_l1Max.calls a1 0 t728 _ A3.out).mono ?_); rintro e w' ⟨rfl, ⟨nd, rfl⟩⟩; refine ii ?_) | ((with_reducible refine gC 84 rfl ?_); refine gl (some 9) Try.func84 #[.int .i64 t728, .int .i64 20] ?_; (with_reducible refine (spec_l1Min.calls t728 20 t729 _ A4.out).mono ?_); rintro e w' ⟨rfl, ⟨nd, rfl⟩⟩; refine ii ?_) | ((with_reducible refine gC 127 rfl ?_); refine gl (some 10) Try.func127 #[.pointer (some ⟨g, 0, none⟩), .int .i64 t729] ?_; (with_reducible refine (spec_l1Samples.calls k g s0_0 s0_1 t729 t730 t733 w0 _ ?s1 ?s2 A5.out).mono ?_); (case s1 => exact sq HI0.out); (case s2 => exact bq); rintro e w32 ⟨v731, rfl, ho0, hi, hb, hk⟩; refine ii ?_; have HO732 := aM (rG ho0 (ks w g)); replace HK := kt w hk; replace HB := aM hb; replace HI0 := aM hi; (try clear hb); (try clear ho0)) | ((with_reducible refine gC 94 rfl ?_); refine gl (some 12) Try.func94 #[.pointer (some ⟨g, 0, none⟩), .int .i64 12] ?_; (with_reducible refine (spec_l1Next.calls g s0_0 t733 12 t734 t735 w0 _ ?s1 ?s2 A6.out).mono ?_); (case s1 => exact sq HI0.out); (case s2 => exact bq); rintro e w33 ⟨rfl, hi, hb, hk⟩; refine ii ?_; replace HO732 := zK (sA HI0) (rq HO732.out) hk; replace HK := kt w hk; replace HB := aM hb; replace HI0 := aM hi; (try clear hb)))
   go_ret
   exact ⟨_, ew, by (with_reducible repeat (first | apply rA | apply rN | apply rD)); exact HO732.out, sq HI0.out, bq, hq⟩
def spec_DrawFeedFrame.f (k : Nat) (l0 : List Int) : Option (Int × List Int × List Int × List Int) := (spec_l1Source.f l0).bind fun bt748 => ((spec_l7Bent.f k bt748.1 bt748.2).bind fun bt751 => ((spec_l1BentSamples.f k bt748.1 bt751.2.2.2 bt751.1).bind fun bt760 => (some (bt751.1, bt751.2.1, bt751.2.2.1, bt760.1))))
theorem spec_DrawFeedFrame.calls (k : Nat) (A0 : Option Addr) (c0 : Nat) (l0 : List Int) (r1 : Int) (r2 : List Int) (r3 : List Int) (r4 : List Int) (w : World) (hr0 : Kd.C (Kd.int .u8) w A0 l0.length l0) (hc0 : l0.length ≤ c0) (h : spec_DrawFeedFrame.f k l0 = some (r1, r2, r3, r4)) :
  Calls Try.prog 41 #[.slice A0 l0.length c0] w fun e w' => ∃ v1_ v2_ v3_ : Value, e = .returned (.tuple #[.agg #[.int .i64 r1, v1_, v2_], v3_]) ∧ Kd.Q (Kd.int .i64) 2 w' w.heap.size (fun k_ => nb v2_ k_ ∧ nb v3_ k_) v1_ r2 ∧ Kd.R (Kd.int .i64) 2 w' w.heap.size (fun k_ => nb v1_ k_ ∧ nb v3_ k_) v2_ r3 ∧ Kd.R (Kd.int .i64) 2 w' w.heap.size (fun k_ => nb v1_ k_ ∧ nb v2_ k_) v3_ r4 ∧ Below w.heap.size w w' := by
 have hu48 := Try.underlying48
 have HR0 := aM hr0
 have HC0 := aM hc0
 clear hr0 hc0
 have HB := aM (Below.refl w.heap.size w)
 unfold spec_DrawFeedFrame.f at h
 have H := h
 clear h
 replace H := bo H
 obtain ⟨⟨t748, t749⟩, A2, H⟩ := H
 replace H := bz H
 replace H := bo H
 obtain ⟨⟨t751, t752, t755, t758⟩, A3, H⟩ := H
 replace H := bz H
 replace H := bo H
 obtain ⟨⟨t760, t763⟩, A4, H⟩ := H
 replace H := bz H
 simp only [Option.some.injEq, Prod.mk.injEq] at H
 obtain ⟨rfl, rfl, rfl, rfl⟩ := H
 go_enter Try.func41, Try.ntmps41
 try go_wp2_with (first | ((with_reducible refine gD 2 rfl ?_); refine bx 2 48 #[.int .i64 0, .slice none 0 0, .slice none 0 0] ?_; intro gb747 hg w5 hbox hb; have BK747 := aM hbox; have GW747 := gw w hg; have GE747 := GW747; replace HB := aM (bT bq hb); clear hb hbox hg) | ((with_reducible refine gC 82 rfl ?_); refine gl (some 7) Try.func82 #[.slice A0 l0.length c0] ?_; (with_reducible refine (spec_l1Source.calls _ _ l0 t748 t749 w _ ?s1 ?s2 ?s3 A2.out).mono ?_); (case s1 => exact bq); (case s2 => exact HR0.out); (case s3 => exact HC0.out); rintro e w6 ⟨g750, rfl, hi, hb, hb2⟩; refine ii ?_; replace HB := aM hb; have HI750 := aM hi; have NB750_747 := aM (IsS149.ne_blk hi (kB (kq BK747.out) hb2) (by decide)); have NB747_750 := aM (Ne.symm (IsS149.ne_blk hi (kB (kq BK747.out) hb2) (by decide))); replace BK747 := zb BK747 hb2; (try clear hb)) | ((with_reducible refine gC 89 rfl ?_); refine gl (some 9) Try.func89 #[.pointer (some ⟨g750, 0, none⟩)] ?_; (with_reducible refine (spec_l7Bent.calls k g750 t748 t749 t751 t752 t755 t758 w _ ?s1 ?s2 A3.out).mono ?_); (case s1 => exact sq HI750.out); (case s2 => exact bq); rintro e w7 ⟨v753, v756, rfl, ho0, ho1, hi, hb, hk⟩; refine ii ?_; replace BK747 := zs BK747 hk NB747_750; have HO754 := aM (Kd.Q_lower ho0 (bZ bq)); have HO757 := aM (rG ho1 (bZ bq)); replace HB := aM hb; replace HI750 := aM hi; (try clear hb); (try clear ho0); (try clear ho1)) | ((with_reducible refine gD 5 rfl ?_); refine bx 5 48 #[.int .i64 0, .slice none 0 0, .slice none 0 0] ?_; intro gb759 hg w8 hbox hb; replace HO754 := aM (Kd.Q_below (oq HO754.out) hb); replace HO757 := zl HO757 hb; have BK759 := aM hbox; have GW759 := gw w hg; have GE759 := GW759; replace HB := aM (bT bq hb); have NB747_759 := nl BK747 hg; have NB759_747 := aM NB747_759.out.symm; replace BK747 := zb BK747 hb; have NB750_759 := aM ((by rw [hg]; exact Nat.ne_of_lt (IsS149.lt (sA HI750)) : g750 ≠ gb759)); have NB759_750 := aM NB750_759.out.symm; replace HI750 := aM (IsS149.below (sq HI750.out) hb); clear hb hbox hg; have hnb9 := NB759_747.out; have hnc9 := NB747_759.out; have hnb10 := NB759_750.out; have hnc10 := NB750_759.out; obtain ⟨hcz11_0, hcz11_1, hcz11_2, hfz11_0, hfz11_1, hfz11_2⟩ := b3 BK759.out; obtain ⟨Ao12, co12, eo12, _⟩ := Kd.Q_slice HO754.out; subst eo12; obtain ⟨Ao13, co13, rfl⟩ := rS HO757.out))
 generalize hgw_ : (((w8.setCell ⟨gb759, 0, none⟩ (.int .i64 t751)).setCell ⟨gb759, 1, none⟩ (.slice Ao12 t752.length co12)).setCell ⟨gb759, 2, none⟩ (.slice Ao13 t755.length co13)) = w14
 have n0_ : Aside0 (Kd.Q (Kd.int .i64) 2 w14 w.heap.size (fun k_ => nS Ao13 t755 co13 k_) (.slice Ao12 t752.length co12) t752) := ⟨by rw [← hgw_]; exact Kd.Q_mono (Kd.Q_far (p := ⟨gb759, 2, none⟩) (Kd.Q_far (p := ⟨gb759, 1, none⟩) (Kd.Q_far (p := ⟨gb759, 0, none⟩) (Kd.Q_types HO754.out BK759.out (by decide)) (fun _ hk => hk.2) (.int .i64 t751)) (fun _ hk => hk.2) (.slice Ao12 t752.length co12)) (fun _ hk => hk.2) (.slice Ao13 t755.length co13)) (fun _ hk => hk.1)⟩
 have n1_ : Aside0 (Kd.R (Kd.int .i64) 2 w14 w.heap.size (fun k_ => nS Ao12 t752 co12 k_) (.slice Ao13 t755.length co13) t755) := ⟨by rw [← hgw_]; exact rM (rf (Kd.R_types HO757.out BK759.out (by decide))) (fun _ hk => hk.1)⟩
 have n2_ : Aside0 (w14.heap[gb747]? = some (.cells #[.int .i64 0, .slice none 0 0, .slice none 0 0] 48 (0, 0))) := ⟨by rw [← hgw_]; exact fq BK747.out⟩
 have n3_ : Aside0 (w14.heap[gb759]? = some (.cells #[.int .i64 t751, .slice Ao12 t752.length co12, .slice Ao13 t755.length co13] 48 (0, 0))) := ⟨by rw [← hgw_]; exact fq BK759.out⟩
 have n4_ : Aside0 (IsS149 w w14 g750 t748 t758) := ⟨by rw [← hgw_]; repeat (first | (with_reducible first | exact HI750.out | apply IsS149.alloc | apply IsS149.drewN | apply IsS149.drew | apply IsS149.set_1 | refine IsS149.far ?_ NB750_747.out _ | refine IsS149.far ?_ NB750_759.out _) | exact HI750.out)⟩
 have n5_ : Aside0 (Below w.heap.size w w14) := ⟨by rw [← hgw_]; repeat (first | (with_reducible first | exact HB.out | apply bA | apply bN | apply bD | refine bS ?_ (IsS149.ge HI750.out) | refine bS ?_ GE747.out | refine bS ?_ GE759.out) | exact HB.out)⟩
 (try clear HO754)
 (try clear HO757)
 (try clear BK747)
 (try clear BK759)
 (try clear HI750)
 (try clear HB)
 clear hgw_
 have HO754 := n0_
 have HO757 := n1_
 have BK747 := n2_
 have BK759 := n3_
 have HI750 := n4_
 have HB := n5_
 clear n0_ n1_ n2_ n3_ n4_ n5_
 replace HO754 := aM (Kd.Q_drew HO754.out)
 replace HO757 := zd HO757
 replace BK747 := zk BK747
 replace BK759 := zk BK759
 replace HI750 := aM (IsS149.drew HI750.out)
 replace HB := aM (bD HB.out)
 refine start_ (n := 7) (S := fun w' => w'.cell? ⟨gb759, 0, none⟩ = some (.int .i64 t751) ∧ w'.cell? ⟨gb759, 1, none⟩ = some (.slice Ao12 t752.length co12) ∧ w'.cell? ⟨gb759, 2, none⟩ = some (.slice Ao13 t755.length co13)) (ds := []) #[N,N,N,N,N,N,N] kr rfl rfl ⟨cc, cc, cc⟩ (fun hHeld => ?_)
 generalize w14.drew = w15 at HO754 HO757 BK747 BK759 HI750 HB hHeld ⊢
 refine pure_ (i := 1) (N := some 11) (v := ?_) (a' := ?_) #[N,Y,N,N,N,N,N] rfl rfl kr (fun _ _ _ h => h) (Or.inl ⟨by rfl, ?_⟩) ?_ ?_
 rotate_left
 ·intro w'
  go_simp
  with_reducible rfl
 rotate_left
 ·simp only [Act.put, pa, pb, pc, i64_w, i32_w]
  rfl
 refine pure_ (i := 2) (N := some 12) (v := ?_) (a' := ?_) #[N,Y,Y,N,N,N,N] rfl rfl kr (fun _ _ _ h => h) (Or.inl ⟨by rfl, ?_⟩) ?_ ?_
 rotate_left
 ·intro w'
  go_simp
  with_reducible rfl
 rotate_left
 ·simp only [Act.put, pa, pb, pc, i64_w, i32_w]
  rfl
 refine take_ (i := 0) (N := some 10) (v := ?_) (a' := ?_) #[Y,Y,Y,N,N,N,N] rfl rfl kr (fun _ _ _ h => h) (Or.inl ⟨by rfl, ?_⟩) hHeld ?_ ?_
 rotate_left
 ·rintro w' ⟨s0, s1, s2⟩
  go_simp
  with_reducible rfl
 rotate_left
 ·simp only [Act.put, pa, pb, pc, i64_w, i32_w]
  rfl
 refine take_ (i := 3) (N := some 13) (v := ?_) (a' := ?_) #[Y,Y,Y,Y,N,N,N] rfl rfl kr (fun _ _ _ h => h) (Or.inl ⟨by rfl, ?_⟩) hHeld ?_ ?_
 rotate_left
 ·rintro w' ⟨s0, s1, s2⟩
  go_simp
  with_reducible rfl
 rotate_left
 ·simp only [Act.put, pa, pb, pc, i64_w, i32_w]
  rfl
 refine one_ (i := 4) (N := some 14) #[Y,Y,Y,Y,Y,N,N] rfl rfl kr (by decide) (fun K hK => ?_)
 refine goes_ Try.func90 kr rfl #[.pointer (some ⟨g750, 0, none⟩), .int .i64 t751] (by rfl) rfl rfl mq ?_
 with_reducible refine (spec_l1BentSamples.calls k g750 t748 t758 t751 t760 t763 w _ ?s1 ?s2 A4.out).mono ?_
 (case s1 => exact sq HI750.out)
 (case s2 => exact bq)
 rintro e w16 ⟨v761, rfl, ho0, hi, hb, hk⟩
 refine ⟨_, rfl, ?_⟩
 replace BK747 := zs BK747 hk NB747_750
 replace BK759 := zs BK759 hk NB759_750
 have HO762 := aM (rG (wq (rW ho0 (Kd.Q_lt (oq HO754.out))) HO757) (bZ bq))
 replace HO754 := aM (Kd.Q_mono (Kd.Q_told (Kd.Q_oldK (IsS149.apartQ (sA HI750) (oq HO754.out) (by decide)) hk) (rB ho0)) (fun _ h_ => h_.1))
 replace HO757 := zO (sA HI750) (rq HO757.out) hk ho0
 replace HB := aM hb
 replace HI750 := aM hi
 (try clear hb)
 (try clear hb2)
 (try clear hk)
 (try clear hi)
 (try clear ho0)
 refine hK.out _ _ ⟨cc, cc, cc⟩ (fun hHeld => ?_)
 clear hK K
 refine nn ?_
 refine one_ (i := 5) (N := none) #[Y,Y,Y,Y,Y,Y,N] rfl rfl kr (by decide) (fun K hK => ?_)
 have hs17 : w16.cell? ⟨gb747, 0, none⟩ = some (.int .i64 0) := cc
 have hfs17 := kF BK747.out 0
 have hns17_1 := NB759_747.out
 have hms17_1 := NB747_759.out
 have hs18 : w16.cell? ⟨gb747, 1, none⟩ = some (.slice none 0 0) := cc
 have hfs18 := kF BK747.out 1
 have hns18_1 := NB759_747.out
 have hms18_1 := NB747_759.out
 have hs19 : w16.cell? ⟨gb747, 2, none⟩ = some (.slice none 0 0) := cc
 have hfs19 := kF BK747.out 2
 have hns19_1 := NB759_747.out
 have hms19_1 := NB747_759.out
 refine skip_ (w1 := ?_) (by rfl) rfl ?_ ?_
 rotate_left
 ·go_simp
  rfl
 refine hK.out _ _ ⟨(lf hHeld.1), (lf hHeld.2.1), (lf hHeld.2.2)⟩ (fun hHeld => ?_)
 clear hK K
 refine pure_ (i := 6) (N := some 3) (v := ?_) (a' := ?_) #[Y,Y,Y,Y,Y,Y,Y] rfl rfl kr (fun _ _ _ h => h) (Or.inl ⟨by rfl, ?_⟩) ?_ ?_
 rotate_left
 ·intro w'
  go_simp
  with_reducible rfl
 rotate_left
 ·simp only [Act.put, pa, pb, pc, i64_w, i32_w]
  rfl
 refine done_ kr ?_
 try go_wp2
 refine bodyPost_ret (results_ct rfl _ _ gb747 48 #[.int .i64 t751, .slice Ao12 t752.length co12, .slice Ao13 t755.length co13] (0, 0) _ rfl (fq BK747.out) Try.underlying48 rfl kr) rfl ?_
 exact ⟨_, _, _, ew, by (with_reducible repeat (first | apply Kd.Q_alloc | apply Kd.Q_drewN | apply Kd.Q_drew)); exact Kd.Q_mono (Kd.Q_far (p := ⟨gb747, 2, none⟩) (Kd.Q_far (p := ⟨gb747, 1, none⟩) (Kd.Q_far (p := ⟨gb747, 0, none⟩) (Kd.Q_types HO754.out BK747.out (by decide)) (fun _ hk => hk.2) (.int .i64 t751)) (fun _ hk => hk.2) (.slice Ao12 t752.length co12)) (fun _ hk => hk.2) (.slice Ao13 t755.length co13)) (fun _ hk => ⟨hk.1.1, hk.1.2⟩), rM (rf (Kd.R_types HO757.out BK747.out (by decide))) (fun _ hk => ⟨hk.1.1, hk.1.2⟩), rM (rf (Kd.R_types HO762.out BK747.out (by decide))) (fun _ hk => ⟨hk.1.1.2, hk.1.2⟩), bq⟩
def spec_l7NewSynth.f (a0 : Int) : Option (Int × List Int × List Int) := (spec_l1Zeros.f (wrap64 (Int.tdiv a0 2))).bind fun t765 => ((spec_l1Zeros.f (wrap64 (Int.tdiv a0 2))).bind fun t768 => (some (a0, t765, t768)))
theorem spec_l7NewSynth.calls (a0 : Int) (r1 : Int) (r2 : List Int) (r3 : List Int) (w : World) (h : spec_l7NewSynth.f a0 = some (r1, r2, r3)) :
  Calls Try.prog 149 #[.int .i64 a0] w fun e w' => ∃ v1_ v2_ : Value, e = .returned (.agg #[.int .i64 r1, v1_, v2_]) ∧ Kd.R (Kd.int .i64) 2 w' w.heap.size (fun k_ => nb v2_ k_) v1_ r2 ∧ Kd.R (Kd.int .i64) 2 w' w.heap.size (fun k_ => nb v1_ k_) v2_ r3 ∧ Below w.heap.size w w' := by
 have hu35 := Try.underlying35
 have HB := aM (Below.refl w.heap.size w)
 unfold spec_l7NewSynth.f at h
 have H := h
 clear h
 replace H := bo H
 obtain ⟨t765, A2, H⟩ := H
 replace H := bz H
 replace H := bo H
 obtain ⟨t768, A3, H⟩ := H
 replace H := bz H
 simp only [Option.some.injEq, Prod.mk.injEq] at H
 obtain ⟨rfl, rfl, rfl⟩ := H
 go_enter Try.func149, Try.ntmps149
 go_wp2_with (first | ((with_reducible refine gD 2 rfl ?_); refine bx 2 35 #[.int .i64 0, .slice none 0 0, .slice none 0 0] ?_; intro gb764 hg w4 hbox hb; have BK764 := aM hbox; have GW764 := gw w hg; have GE764 := GW764; replace HB := aM (bT bq hb); clear hb hbox hg) | ((with_reducible refine gC 136 rfl ?_); refine gl (some 6) Try.func136 #[.int .i64 (wrap64 (Int.tdiv a0 2))] ?_; (with_reducible refine (spec_l1Zeros.calls (wrap64 (Int.tdiv a0 2)) t765 _ A2.out).mono ?_); rintro e w5 ⟨v766, rfl, ho0, hb⟩; refine ii ?_; have HO767 := aM (rG ho0 (bZ bq)); replace BK764 := zb BK764 hb; replace HB := aM (bT bq hb); (try clear hb); (try clear ho0)) | ((with_reducible refine gC 136 rfl ?_); refine gl (some 9) Try.func136 #[.int .i64 (wrap64 (Int.tdiv a0 2))] ?_; (with_reducible refine (spec_l1Zeros.calls (wrap64 (Int.tdiv a0 2)) t768 _ A3.out).mono ?_); rintro e w6 ⟨v769, rfl, ho0, hb⟩; refine ii ?_; have HO770 := aM (rG (wq ho0 HO767) (bZ bq)); replace HO767 := zh (rq HO767.out) ho0 hb; replace BK764 := zb BK764 hb; replace HB := aM (bT bq hb); (try clear hb); (try clear ho0); obtain ⟨Ao7, co7, rfl⟩ := rS HO770.out; obtain ⟨Ao8, co8, rfl⟩ := rS HO767.out; obtain ⟨hcz9_0, hcz9_1, hcz9_2, hfz9_0, hfz9_1, hfz9_2⟩ := b3 BK764.out))
 refine bodyPost_ret (results_cell_row rfl _ _ gb764 35 #[.int .i64 a0, .slice Ao8 t765.length co8, .slice Ao7 t768.length co7] (0, 0) _ rfl (fq BK764.out) Try.underlying35 rfl kr) rfl ?_
 exact ⟨_, _, ew, rM (rf (Kd.R_types HO767.out BK764.out (by decide))) (fun _ hk => hk.1.2), rM (rf (Kd.R_types HO770.out BK764.out (by decide))) (fun _ hk => hk.1.2), bq⟩
def spec_l7Synth.l0 : Nat → Int → List Int → Int → Int → List Int → List Int → Int → List Int → List Int → Option (Int × List Int × List Int × Int)
 | 0, _, _, _, _, _, _, _, _, _ => none
 | k + 1, x5, x1000, x1001, x782000, x782001, x782002, x790000, x790001, x790002 => if x5 > 0 then ((spec_l1Samples.f k x1000 x1001 x790000).bind fun bt795 => ((spec_l7Feed.f k x790000 x790001 x790002 bt795.1).bind fun bt799 => ((spec_l7Play.f k x782000 x782001 x782002 bt799.2.2.2).bind fun bt809 => (spec_l7Synth.l0 k (wrap64 (x5 - 1)) x1000 bt795.2 bt809.1 bt809.2.1 bt809.2.2.1 bt799.1 bt799.2.1 bt799.2.2.1)))) else (some (x782000, x782001, x782002, x1001))
def spec_l7Synth.f (k : Nat) (s0_0 : List Int) (s0_1 : Int) : Option (Int × List Int × List Int × Int) := (spec_l1Size.f s0_0 s0_1).bind fun bt772 => ((spec_l7NewSynth.f bt772.1).bind fun bt774 => ((spec_l7New.f bt774.1).bind fun bt782 => ((spec_l1Next.f s0_0 bt772.2 4).bind fun bt790 => (spec_l7Synth.l0 k bt790.1 s0_0 bt790.2 bt774.1 bt774.2.1 bt774.2.2 bt782.1 bt782.2.1 bt782.2.2))))
theorem spec_l7Synth.calls (k : Nat) (g : Nat) (s0_0 : List Int) (s0_1 : Int) (r1 : Int) (r2 : List Int) (r3 : List Int) (r4 : Int) (w0 w : World) (hI : IsS149 w0 w g s0_0 s0_1) (hB : Below w0.heap.size w0 w) (h : spec_l7Synth.f k s0_0 s0_1 = some (r1, r2, r3, r4)) :
  Calls Try.prog 128 #[.pointer (some ⟨g, 0, none⟩)] w fun e w' => ∃ v1_ v2_ : Value, e = .returned (.agg #[.int .i64 r1, v1_, v2_]) ∧ Kd.R (Kd.int .i64) 2 w' w.heap.size (fun k_ => nb v2_ k_) v1_ r2 ∧ Kd.R (Kd.int .i64) 2 w' w.heap.size (fun k_ => nb v1_ k_) v2_ r3 ∧ IsS149 w0 w' g s0_0 r4 ∧ Below w0.heap.size w0 w' ∧ KeepBut w w' g none := by
 have hu35 := Try.underlying35
 have hu48 := Try.underlying48
 have HI0 := aM hI
 have HK := aM (KeepBut.refl w g none)
 have HL := aM hB.size
 clear hI
 have HW0 := aM hB.size
 have HB := aM hB
 clear hB
 unfold spec_l7Synth.f at h
 have H := h
 clear h
 replace H := bo H
 obtain ⟨⟨t772, t773⟩, A2, H⟩ := H
 replace H := bz H
 replace H := bo H
 obtain ⟨⟨t774, t775, t778⟩, A3, H⟩ := H
 replace H := bz H
 replace H := bo H
 obtain ⟨⟨t782, t783, t786⟩, A4, H⟩ := H
 replace H := bz H
 replace H := bo H
 obtain ⟨⟨t790, t791⟩, A5, H⟩ := H
 replace H := bz H
 have H' := aM H
 clear H
 go_enter Try.func128, Try.ntmps128
 go_wp2_with (first | ((with_reducible refine gD 2 rfl ?_); refine bx 2 35 #[.int .i64 0, .slice none 0 0, .slice none 0 0] ?_; intro gb771 hg w6 hbox hb; replace HB := aM (bT bq hb); have BK771 := aM hbox; have GW771 := gk w g hg; have GE771 := aM (Nat.le_trans HW0.out GW771.out); replace HK := ku w g hb; have NB0_771 := aM ((by rw [hg]; exact Nat.ne_of_lt (IsS149.lt (sA HI0)) : g ≠ gb771)); have NB771_0 := aM NB0_771.out.symm; replace HI0 := aM (IsS149.below (sq HI0.out) hb); clear hb hbox hg) | ((with_reducible refine gC 133 rfl ?_); refine gl (some 8) Try.func133 #[.pointer (some ⟨g, 0, none⟩)] ?_; (with_reducible refine (spec_l1Size.calls g s0_0 s0_1 t772 t773 w0 _ ?s1 ?s2 A2.out).mono ?_); (case s1 => exact sq HI0.out); (case s2 => exact bq); rintro e w7 ⟨rfl, hi, hb, hk⟩; refine ii ?_; replace BK771 := zs BK771 hk NB771_0; replace HK := kt w hk; replace HB := aM hb; replace HI0 := aM hi; (try clear hb)) | ((with_reducible refine gC 149 rfl ?_); refine gl (some 9) Try.func149 #[.int .i64 t772] ?_; (with_reducible refine (spec_l7NewSynth.calls t772 t774 t775 t778 _ A3.out).mono ?_); rintro e w8 ⟨v776, v779, rfl, ho0, ho1, hb⟩; refine ii ?_; have HO777 := aM (rG ho0 (ks w g)); have HO780 := aM (rG ho1 (ks w g)); replace BK771 := zb BK771 hb; replace HK := ku w g hb; replace HB := aM (bT bq hb); replace HI0 := aM (IsS149.below (sq HI0.out) hb); (try clear hb); (try clear ho0); (try clear ho1)) | ((with_reducible refine gD 3 rfl ?_); refine bx 3 35 #[.int .i64 0, .slice none 0 0, .slice none 0 0] ?_; intro gb781 hg w9 hbox hb; replace HO777 := zl HO777 hb; replace HO780 := zl HO780 hb; replace HB := aM (bT bq hb); have BK781 := aM hbox; have GW781 := gk w g hg; have GE781 := aM (Nat.le_trans HW0.out GW781.out); replace HK := ku w g hb; have NB771_781 := nl BK771 hg; have NB781_771 := aM NB771_781.out.symm; replace BK771 := zb BK771 hb; have NB0_781 := aM ((by rw [hg]; exact Nat.ne_of_lt (IsS149.lt (sA HI0)) : g ≠ gb781)); have NB781_0 := aM NB0_781.out.symm; replace HI0 := aM (IsS149.below (sq HI0.out) hb); clear hb hbox hg; have hnb10 := NB781_771.out; have hnc10 := NB771_781.out; have hnb11 := NB781_0.out; have hnc11 := NB0_781.out; obtain ⟨hcz12_0, hcz12_1, hcz12_2, hfz12_0, hfz12_1, hfz12_2⟩ := b3 BK781.out; obtain ⟨Ao13, co13, rfl⟩ := rS HO777.out; obtain ⟨Ao14, co14, rfl⟩ := rS HO780.out) | ((with_reducible refine gC 147 rfl ?_); refine gl (some 12) Try.func147 #[.int .i64 t774] ?_; (with_reducible refine (spec_l7New.calls t774 t782 t783 t786 _ A4.out).mono ?_); rintro e w15 ⟨v784, v787, rfl, ho0, ho1, hb⟩; refine ii ?_; have HO785 := aM (rG (rW (rW ho0 (rT (tf HO777 BK781))) (rT (tf HO780 BK781))) (ks w g)); have HO788 := aM (rG (rW (rW ho1 (rT (tf HO777 BK781))) (rT (tf HO780 BK781))) (ks w g)); replace HO777 := z2 (tf HO777 BK781) hb ho0 ho1; replace HO780 := z2 (tf HO780 BK781) hb ho0 ho1; replace BK771 := aM (kB (g := gb771) (o := .cells #[.int .i64 0, .slice none 0 0, .slice none 0 0] 35 (0, 0)) (fq BK771.out) hb); replace BK781 := aM (kB (g := gb781) (o := .cells #[.int .i64 t774, .slice Ao13 t775.length co13, .slice Ao14 t778.length co14] 35 (0, 0)) (fq BK781.out) hb); replace HK := ku w g hb; replace HB := aM (bT bq hb); replace HI0 := aM (IsS149.below (sA HI0) hb); (try clear hb); (try clear ho0); (try clear ho1)) | ((with_reducible refine gD 4 rfl ?_); refine bx 4 48 #[.int .i64 0, .slice none 0 0, .slice none 0 0] ?_; intro gb789 hg w16 hbox hb; replace HO777 := zl HO777 hb; replace HO780 := zl HO780 hb; replace HO785 := zl HO785 hb; replace HO788 := zl HO788 hb; replace HB := aM (bT bq hb); have BK789 := aM hbox; have GW789 := gk w g hg; have GE789 := aM (Nat.le_trans HW0.out GW789.out); replace HK := ku w g hb; have NB771_789 := nl BK771 hg; have NB789_771 := aM NB771_789.out.symm; replace BK771 := zb BK771 hb; have NB781_789 := nl BK781 hg; have NB789_781 := aM NB781_789.out.symm; replace BK781 := zb BK781 hb; have NB0_789 := aM ((by rw [hg]; exact Nat.ne_of_lt (IsS149.lt (sA HI0)) : g ≠ gb789)); have NB789_0 := aM NB0_789.out.symm; replace HI0 := aM (IsS149.below (sq HI0.out) hb); clear hb hbox hg; have hnb17 := NB789_771.out; have hnc17 := NB771_789.out; have hnb18 := NB789_781.out; have hnc18 := NB781_789.out; have hnb19 := NB789_0.out; have hnc19 := NB0_789.out; obtain ⟨hcz20_0, hcz20_1, hcz20_2, hfz20_0, hfz20_1, hfz20_2⟩ := b3 BK789.out; obtain ⟨Ao21, co21, rfl⟩ := rS HO785.out; obtain ⟨Ao22, co22, rfl⟩ := rS HO788.out) | ((with_reducible refine gC 94 rfl ?_); refine gl (some 14) Try.func94 #[.pointer (some ⟨g, 0, none⟩), .int .i64 4] ?_; (with_reducible refine (spec_l1Next.calls g s0_0 t773 4 t790 t791 w0 _ ?s1 ?s2 A5.out).mono ?_); (case s1 => exact sq HI0.out); (case s2 => exact bq); rintro e w23 ⟨rfl, hi, hb, hk⟩; refine ii ?_; replace BK771 := aM (KeepBut.blk hk (g' := gb771) (o := .cells #[.int .i64 0, .slice none 0 0, .slice none 0 0] 35 (0, 0)) (fq BK771.out) NB771_0.out (by simp)); replace HO777 := zK (sA HI0) (tf HO777 BK789) hk; replace HO780 := zK (sA HI0) (tf HO780 BK789) hk; replace BK781 := aM (KeepBut.blk hk (g' := gb781) (o := .cells #[.int .i64 t774, .slice Ao13 t775.length co13, .slice Ao14 t778.length co14] 35 (0, 0)) (fq BK781.out) NB781_0.out (by simp)); replace HO785 := zK (sA HI0) (tf HO785 BK789) hk; replace HO788 := zK (sA HI0) (tf HO788 BK789) hk; replace BK789 := aM (KeepBut.blk hk (g' := gb789) (o := .cells #[.int .i64 t782, .slice Ao21 t783.length co21, .slice Ao22 t786.length co22] 48 (0, 0)) (fq BK789.out) NB789_0.out (by simp)); replace HK := kt w hk; replace HB := aM hb; replace HI0 := aM hi; (try clear hb)))
 go_loopg [5] k (fun kq v5 w' => ∃ (x5_1 : Int) (x1001_1 : Int) (x782000_1 : Int) (x782001_1 : List Int) (x782002_1 : List Int) (x790000_1 : Int) (x790001_1 : List Int) (x790002_1 : List Int) (u782001 : Value) (u782002 : Value) (u790001 : Value) (u790002 : Value), v5 = .int .i64 x5_1 ∧ Aside0 (spec_l7Synth.l0 kq x5_1 s0_0 x1001_1 x782000_1 x782001_1 x782002_1 x790000_1 x790001_1 x790002_1 = some (r1, r2, r3, r4)) ∧ Aside0 (kq ≤ k) ∧ Aside0 (Kd.R (Kd.int .i64) 2 w' w.heap.size (fun k_ => nb u782002 k_ ∧ nb u790001 k_ ∧ nb u790002 k_) u782001 x782001_1) ∧ Aside0 (Kd.R (Kd.int .i64) 2 w' w.heap.size (fun k_ => nb u782001 k_ ∧ nb u790001 k_ ∧ nb u790002 k_) u782002 x782002_1) ∧ Aside0 (Kd.R (Kd.int .i64) 2 w' w.heap.size (fun k_ => nb u782001 k_ ∧ nb u782002 k_ ∧ nb u790002 k_) u790001 x790001_1) ∧ Aside0 (Kd.R (Kd.int .i64) 2 w' w.heap.size (fun k_ => nb u782001 k_ ∧ nb u782002 k_ ∧ nb u790001 k_) u790002 x790002_1) ∧ Aside0 (w'.heap[gb771]? = some (.cells #[.int .i64 0, (.slice none 0 0), (.slice none 0 0)] 35 (0, 0))) ∧ Aside0 (w'.heap[gb781]? = some (.cells #[.int .i64 x782000_1, u782001, u782002] 35 (0, 0))) ∧ Aside0 (w'.heap[gb789]? = some (.cells #[.int .i64 x790000_1, u790001, u790002] 48 (0, 0))) ∧ Aside0 (IsS149 w0 w' g s0_0 x1001_1) ∧ Aside0 (KeepBut w w' g none) ∧ Aside0 (Below w0.heap.size w0 w'))
 case atStart => exact ⟨(t790), (t791), (t774), (t775), (t778), (t782), (t783), (t786), (.slice Ao13 t775.length co13), (.slice Ao14 t778.length co14), (.slice Ao21 t783.length co21), (.slice Ao22 t786.length co22), (ex), H', ⟨Nat.le_refl _⟩, aM (rq (rM HO777.out jq)), aM (rq (rM HO780.out jq)), aM (rq (rM HO785.out jq)), aM (rq (rM HO788.out jq)), aM (kq BK771.out), aM (kq BK781.out), aM (kq BK789.out), ⟨sq HI0.out⟩, ⟨hq⟩, ⟨bq⟩⟩
 case round =>
  clear H'
  try clear c1
  try clear p2
  try clear c9
  try clear c10
  try clear c11
  try clear c12
  try clear c13
  try clear c14
  try clear c17
  try clear c18
  try clear c19
  try clear hcz12_0
  try clear hcz12_1
  try clear hcz12_2
  try clear hcz20_0
  try clear hcz20_1
  try clear hcz20_2
  try clear hfz12_0
  try clear hfz12_1
  try clear hfz12_2
  try clear hfz20_0
  try clear hfz20_1
  try clear hfz20_2
  obtain ⟨x5_1, x1001_1, x782000_1, x782001_1, x782002_1, x790000_1, x790001_1, x790002_1, u782001, u782002, u790001, u790002, rfl, HA, HK1, HO_782001, HO_782002, HO_790001, HO_790002, BK771, BK781, BK789, HI0, HK, HB⟩ := hrel
  cases gk with
  | zero => exact absurd HA.out (by simp [spec_l7Synth.l0])
  | succ k1 =>
   have H := HA.out
   clear HA
   simp only [spec_l7Synth.l0] at H
   by_cases c24 : x5_1 > 0
   ·rw [if_pos c24] at H
    have c24b0 : decide (0 < x5_1) = true := decide_eq_true c24
    clear c24
    obtain ⟨y792, hy792⟩ : ∃ y_ : List Int, y_ = (([] : List Int)) := ⟨_, rfl⟩
    replace H : ((spec_l1Samples.f k1 s0_0 x1001_1 x790000_1).bind fun bt795 => ((spec_l7Feed.f k1 x790000_1 x790001_1 x790002_1 bt795.1).bind fun bt799 => ((spec_l7Play.f k1 x782000_1 x782001_1 x782002_1 bt799.2.2.2).bind fun bt809 => (spec_l7Synth.l0 k1 (wrap64 (x5_1 - 1)) s0_0 bt795.2 bt809.1 bt809.2.1 bt809.2.2.1 bt799.1 bt799.2.1 bt799.2.2.1)))) = some (r1, r2, r3, r4) := hl hy792 H
    have Ny792 := aM hy792
    clear hy792
    replace H := bo H
    obtain ⟨⟨t795, t798⟩, A25, H⟩ := H
    replace H := bz H
    replace H := bo H
    obtain ⟨⟨t799, t800, t803, t806⟩, A26, H⟩ := H
    replace H := bz H
    replace H := bo H
    obtain ⟨⟨t809, t810, t813, t816⟩, A27, H⟩ := H
    replace H := bz H
    have H' := aM H
    clear H
    go_wp2_with (first | ((with_reducible refine gD 19 rfl ?_); refine Kd.R_lit (Kd.int .i64) _ 2 ?hg (N := 19) ?hd (xs := ([] : List Int)) (inner := []) (ok := fun _ => True) (okp := fun _ => True) ?hr ?hp (fun _ hk => hk) trivial (Below.refl _ _) (Nat.le_refl _) (by simp) ?_; (case hd => rfl); (case hg => rfl); (case hr => first | (go_simp; done) | (go_simp; rfl)); (case hp => exact (Reps.none _ _)); intro v793 w28 ho29 hb hg_ hnew_; clear hg_ hnew_; rw [← Ny792.out] at ho29; have HO794 := aM (rG (wq (wq (wq (wq ho29 HO_782001) HO_782002) HO_790001) HO_790002) (ks w g)); replace HO_782001 := zh (rq HO_782001.out) ho29 hb; replace HO_782002 := zh (rq HO_782002.out) ho29 hb; replace HO_790001 := zh (rq HO_790001.out) ho29 hb; replace HO_790002 := zh (rq HO_790002.out) ho29 hb; replace BK771 := zb BK771 hb; replace BK781 := zb BK781 hb; replace BK789 := zb BK789 hb; replace HK := ku w g hb; replace HB := aM (bT bq hb); replace HI0 := aM (IsS149.below (sq HI0.out) hb); clear hb ho29; have hnb30 := NB789_771.out; have hnc30 := NB771_789.out; have hnb31 := NB789_781.out; have hnc31 := NB781_789.out; have hnb32 := NB789_0.out; have hnc32 := NB0_789.out; obtain ⟨hcz33_0, hcz33_1, hcz33_2, hfz33_0, hfz33_1, hfz33_2⟩ := b3 BK789.out) | ((with_reducible refine gC 127 rfl ?_); refine gl (some 24) Try.func127 #[.pointer (some ⟨g, 0, none⟩), .int .i64 x790000_1] ?_; (with_reducible refine (spec_l1Samples.calls k1 g s0_0 x1001_1 x790000_1 t795 t798 w0 _ ?s1 ?s2 A25.out).mono ?_); (case s1 => exact sq HI0.out); (case s2 => exact bq); rintro e w34 ⟨v796, rfl, ho0, hi, hb, hk⟩; refine ii ?_; replace BK771 := zs BK771 hk NB771_0; replace BK781 := zs BK781 hk NB781_0; replace BK789 := zs BK789 hk NB789_0; have HO797 := aM (rG (wq (wq (wq (wq (wq ho0 HO_782001) HO_782002) HO_790001) HO_790002) HO794) (ks w g)); replace HO_782001 := zO (sA HI0) (rq HO_782001.out) hk ho0; replace HO_782002 := zO (sA HI0) (rq HO_782002.out) hk ho0; replace HO_790001 := zO (sA HI0) (rq HO_790001.out) hk ho0; replace HO_790002 := zO (sA HI0) (rq HO_790002.out) hk ho0; replace HO794 := zO (sA HI0) (rq HO794.out) hk ho0; replace HK := kt w hk; replace HB := aM hb; replace HI0 := aM hi; (try clear hb); (try clear ho0); obtain ⟨Ao35, co35, rfl⟩ := rS HO_790001.out; obtain ⟨Ao36, co36, rfl⟩ := rS HO_790002.out; obtain ⟨Ao37, co37, rfl⟩ := rS HO797.out) | ((with_reducible refine gC 75 rfl ?_); refine gl (some 25) Try.func75 #[.pointer (some ⟨gb789, 0, none⟩), .slice Ao37 t795.length co37] ?_; (with_reducible refine (spec_l7Feed.calls k1 gb789 x790000_1 Ao35 co35 x790001_1 Ao36 co36 x790002_1 _ _ t795 t799 t800 t803 t806 _ ?s1 ?s2 ?s3 ?s4 ?s5 ?s6 ?s7 A26.out).mono ?_); (case s1 => (with_reducible repeat (first | refine kN ?_ _ | refine kD ?_ | refine kA ?_ _)); exact BK789.out); (case s2 => exact cq (rR HO_790001.out).2.2); (case s3 => exact (rR HO_790001.out).2.1); (case s4 => exact cq (rR HO_790002.out).2.2); (case s5 => exact (rR HO_790002.out).2.1); (case s6 => exact cq (rR HO797.out).2.2); (case s7 => exact (rR HO797.out).2.1); rintro e w38 ⟨v801, v804, v807, rfl, ho0, ho1, ho2, hb⟩; refine ii ?_; have HO802 := aM (rG (wq (wq (wq (wq (wq (wq ho0 HO_782001) HO_782002) HO_790001) HO_790002) HO794) HO797) (ks w g)); have HO805 := aM (rG (wq (wq (wq (wq (wq (wq ho1 HO_782001) HO_782002) HO_790001) HO_790002) HO794) HO797) (ks w g)); have HO808 := aM (rG (wq (wq (wq (wq (wq (wq ho2 HO_782001) HO_782002) HO_790001) HO_790002) HO794) HO797) (ks w g)); replace HO_782001 := z3 (rq HO_782001.out) hb ho0 ho1 ho2; replace HO_782002 := z3 (rq HO_782002.out) hb ho0 ho1 ho2; replace HO_790001 := z3 (rq HO_790001.out) hb ho0 ho1 ho2; replace HO_790002 := z3 (rq HO_790002.out) hb ho0 ho1 ho2; replace HO794 := z3 (rq HO794.out) hb ho0 ho1 ho2; replace HO797 := z3 (rq HO797.out) hb ho0 ho1 ho2; replace BK771 := zb BK771 hb; replace BK781 := zb BK781 hb; replace BK789 := zb BK789 hb; replace HK := ku w g hb; replace HB := aM (bT bq hb); replace HI0 := aM (IsS149.below (sq HI0.out) hb); (try clear hb); (try clear ho0); (try clear ho1); (try clear ho2); obtain ⟨hcz39_0, hcz39_1, hcz39_2, hfz39_0, hfz39_1, hfz39_2⟩ := b3 BK789.out; obtain ⟨Ao40, co40, rfl⟩ := rS HO802.out; obtain ⟨Ao41, co41, rfl⟩ := rS HO805.out; obtain ⟨Ao42, co42, rfl⟩ := rS HO_782001.out; obtain ⟨Ao43, co43, rfl⟩ := rS HO_782002.out; obtain ⟨Ao44, co44, rfl⟩ := rS HO808.out) | ((with_reducible refine gC 67 rfl ?_); refine gl (some 30) Try.func67 #[.pointer (some ⟨gb781, 0, none⟩), .slice Ao44 t806.length co44] ?_; (with_reducible refine (spec_l7Play.calls k1 gb781 x782000_1 Ao42 co42 x782001_1 Ao43 co43 x782002_1 _ _ t806 t809 t810 t813 t816 _ ?s1 ?s2 ?s3 ?s4 ?s5 ?s6 ?s7 A27.out).mono ?_); (case s1 => (with_reducible repeat (first | refine kN ?_ _ | refine kD ?_ | refine kA ?_ _)); refine blk_far ?_ NB781_789.out _; (with_reducible repeat (first | refine kN ?_ _ | refine kD ?_ | refine kA ?_ _)); refine blk_far ?_ NB781_789.out _; (with_reducible repeat (first | refine kN ?_ _ | refine kD ?_ | refine kA ?_ _)); refine blk_far ?_ NB781_789.out _; (with_reducible repeat (first | refine kN ?_ _ | refine kD ?_ | refine kA ?_ _)); exact BK781.out); (case s2 => refine (rR (e := 2) (base := w.heap.size) (ok := fun k_ => ((((((nS Ao43 x782002_1 co43 k_ ∧ (nS Ao35 x790001_1 co35 k_ ∧ nS Ao36 x790002_1 co36 k_)) ∧ nb v793 k_) ∧ nS Ao37 t795 co37 k_) ∧ nS Ao40 t800 co40 k_) ∧ nS Ao41 t803 co41 k_) ∧ nS Ao44 t806 co44 k_)) (n := x782001_1.length) (c := co42) ?_).2.2; exact (tf HO_782001 BK789)); (case s3 => exact (rR HO_782001.out).2.1); (case s4 => refine (rR (e := 2) (base := w.heap.size) (ok := fun k_ => ((((((nS Ao42 x782001_1 co42 k_ ∧ (nS Ao35 x790001_1 co35 k_ ∧ nS Ao36 x790002_1 co36 k_)) ∧ nb v793 k_) ∧ nS Ao37 t795 co37 k_) ∧ nS Ao40 t800 co40 k_) ∧ nS Ao41 t803 co41 k_) ∧ nS Ao44 t806 co44 k_)) (n := x782002_1.length) (c := co43) ?_).2.2; exact (tf HO_782002 BK789)); (case s5 => exact (rR HO_782002.out).2.1); (case s6 => refine (rR (e := 2) (base := w.heap.size) (ok := fun k_ => (((((((nS Ao40 t800 co40 k_ ∧ nS Ao41 t803 co41 k_) ∧ nS Ao42 x782001_1 co42 k_) ∧ nS Ao43 x782002_1 co43 k_) ∧ nS Ao35 x790001_1 co35 k_) ∧ nS Ao36 x790002_1 co36 k_) ∧ nb v793 k_) ∧ nS Ao37 t795 co37 k_)) (n := t806.length) (c := co44) ?_).2.2; exact (tf HO808 BK789)); (case s7 => exact (rR HO808.out).2.1); rintro e w45 ⟨v811, v814, v817, rfl, ho0, ho1, ho2, hb⟩; refine ii ?_; have HO812 := aM (rG (rW (rW (rW (rW (rW (rW (rW (rW (rW ho0 (rT (tf HO_782001 BK789))) (rT (tf HO_782002 BK789))) (rT (tf HO_790001 BK789))) (rT (tf HO_790002 BK789))) (rT (tf HO794 BK789))) (rT (tf HO797 BK789))) (rT (tf HO802 BK789))) (rT (tf HO805 BK789))) (rT (tf HO808 BK789))) (ks w g)); have HO815 := aM (rG (rW (rW (rW (rW (rW (rW (rW (rW (rW ho1 (rT (tf HO_782001 BK789))) (rT (tf HO_782002 BK789))) (rT (tf HO_790001 BK789))) (rT (tf HO_790002 BK789))) (rT (tf HO794 BK789))) (rT (tf HO797 BK789))) (rT (tf HO802 BK789))) (rT (tf HO805 BK789))) (rT (tf HO808 BK789))) (ks w g)); have HO818 := aM (rG (rW (rW (rW (rW (rW (rW (rW (rW (rW ho2 (rT (tf HO_782001 BK789))) (rT (tf HO_782002 BK789))) (rT (tf HO_790001 BK789))) (rT (tf HO_790002 BK789))) (rT (tf HO794 BK789))) (rT (tf HO797 BK789))) (rT (tf HO802 BK789))) (rT (tf HO805 BK789))) (rT (tf HO808 BK789))) (ks w g)); replace HO_782001 := z3 (tf HO_782001 BK789) hb ho0 ho1 ho2; replace HO_782002 := z3 (tf HO_782002 BK789) hb ho0 ho1 ho2; replace HO_790001 := z3 (tf HO_790001 BK789) hb ho0 ho1 ho2; replace HO_790002 := z3 (tf HO_790002 BK789) hb ho0 ho1 ho2; replace HO794 := z3 (tf HO794 BK789) hb ho0 ho1 ho2; replace HO797 := z3 (tf HO797 BK789) hb ho0 ho1 ho2; replace HO802 := z3 (tf HO802 BK789) hb ho0 ho1 ho2; replace HO805 := z3 (tf HO805 BK789) hb ho0 ho1 ho2; replace HO808 := z3 (tf HO808 BK789) hb ho0 ho1 ho2; replace BK771 := aM (kB (g := gb771) (o := .cells #[.int .i64 0, .slice none 0 0, .slice none 0 0] 35 (0, 0)) (fq BK771.out) hb); replace BK781 := aM (kB (g := gb781) (o := .cells #[.int .i64 x782000_1, .slice Ao42 x782001_1.length co42, .slice Ao43 x782002_1.length co43] 35 (0, 0)) (fq BK781.out) hb); replace BK789 := aM (kB (g := gb789) (o := .cells #[.int .i64 t799, .slice Ao40 t800.length co40, .slice Ao41 t803.length co41] 48 (0, 0)) (fq BK789.out) hb); replace HK := ku w g hb; replace HB := aM (bT bq hb); replace HI0 := aM (IsS149.below (sA HI0) hb); (try clear hb); (try clear ho0); (try clear ho1); (try clear ho2); have hnb46 := NB781_771.out; have hnc46 := NB771_781.out; have hnb47 := NB781_0.out; have hnc47 := NB0_781.out; obtain ⟨hcz48_0, hcz48_1, hcz48_2, hfz48_0, hfz48_1, hfz48_2⟩ := b3 BK781.out; obtain ⟨Ao49, co49, rfl⟩ := rS HO812.out; obtain ⟨Ao50, co50, rfl⟩ := rS HO815.out))
    go_roundg k1
    case measure => have := HK1.out; omega
    case rel => exact ⟨(wrap64 (x5_1 - 1)), (t798), (t809), (t810), (t813), (t799), (t800), (t803), (.slice Ao49 t810.length co49), (.slice Ao50 t813.length co50), (.slice Ao40 t800.length co40), (.slice Ao41 t803.length co41), (ex), H', ⟨by have := HK1.out; omega⟩, aM (rM (rf (Kd.R_types HO812.out BK781.out (by decide))) jq), aM (rM (rf (Kd.R_types HO815.out BK781.out (by decide))) jq), aM (rM (rf (Kd.R_types HO802.out BK781.out (by decide))) jq), aM (rM (rf (Kd.R_types HO805.out BK781.out (by decide))) jq), aM (fq BK771.out), aM (fq BK781.out), aM (fq BK789.out), ⟨sq HI0.out⟩, ⟨hq⟩, ⟨bq⟩⟩
   ·rw [if_neg c24] at H
    have c24b0 : decide (0 < x5_1) = false := decide_eq_false c24
    clear c24
    simp only [Option.some.injEq, Prod.mk.injEq] at H
    obtain ⟨rfl, rfl, rfl, rfl⟩ := H
    have hnb51 := NB781_771.out
    have hnc51 := NB771_781.out
    have hnb52 := NB781_789.out
    have hnc52 := NB789_781.out
    have hnb53 := NB781_0.out
    have hnc53 := NB0_781.out
    obtain ⟨hcz54_0, hcz54_1, hcz54_2, hfz54_0, hfz54_1, hfz54_2⟩ := b3 BK781.out
    have hnb55 := NB771_789.out
    have hnc55 := NB789_771.out
    have hnb56 := NB771_0.out
    have hnc56 := NB0_771.out
    obtain ⟨hcz57_0, hcz57_1, hcz57_2, hfz57_0, hfz57_1, hfz57_2⟩ := b3 BK771.out
    obtain ⟨Ao58, co58, eo58⟩ := Kd.R_slice HO_782001.out
    subst eo58
    obtain ⟨Ao59, co59, eo59⟩ := Kd.R_slice HO_782002.out
    subst eo59
    go_wp2
    refine bodyPost_ret (results_cell_row rfl _ _ gb771 35 #[.int .i64 x782000_1, .slice Ao58 x782001_1.length co58, .slice Ao59 x782002_1.length co59] (0, 0) _ rfl (fq BK771.out) Try.underlying35 rfl kr) rfl ?_
    exact ⟨_, _, ew, rM (rf (Kd.R_types HO_782001.out BK771.out (by decide))) (fun _ hk => hk.1.1), rM (rf (Kd.R_types HO_782002.out BK771.out (by decide))) (fun _ hk => hk.1.1), sq HI0.out, bq, hq⟩
end Go.Proofs.Ytmhnpogjkbmmnaa.PFnStates
