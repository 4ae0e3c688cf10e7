import Derived.Test.YtmhnpogjkbmmnaaPFnStatesx0
import Derived.Test.YtmhnpogjkbmmnaaPFnStatesx21
import Derived.Test.YtmhnpogjkbmmnaaPFnStatesx22
import Derived.Test.YtmhnpogjkbmmnaaPFnStatesx23
namespace Go.Proofs.Ytmhnpogjkbmmnaa.PFnStates
open Go.RowKit Go.Proofs.YtmhnpogjkbmmnaaW.PrintWords Go.Proofs.YtmhnpogjkbmmnaaW.PrintLast Go.Proofs.YtmhnpogjkbmmnaaW.PrintMore
open Go.Proofs.YtmhnpogjkbmmnaaW.PrintWords.Kd renaming R_alloc → rA, R_drewN → rN, R_drew → rD, R_far → rF, R_mono → rM, R_base → rB, R_new' → rW, R_below → rL, R_lt → rT, R_lower → rG, R_elder' → rH, R_reads' → rR
open Go.Proofs.YtmhnpogjkbmmnaaW.PrintMore.Kd renaming R_told → rO
open Go.Proofs.YtmhnpogjkbmmnaaW.PrintWords renaming below_alloc → bA, pw_below_drewN → bN, below_drew1 → bD, below_set → bS, below_step → bT, below_size → bZ, blk_drewN → kN, blk_drew → kD, blk_alloc → kA, blk_below → kB, blk_cell → kC, blk_frozen → kF
open Go.Proofs.YtmhnpogjkbmmnaaW.PrintWords.Aside0 renaming mk → aM
attribute [local go_sem] max2_int min2_int max_two min_two max_three min_three max_four min_four
set_option maxHeartbeats 8000000
set_option maxRecDepth 100000
set_option linter.unusedVariables false
set_option linter.unusedSimpArgs false
def spec_l7BentSynth.f (k : Nat) (s0_0 : List Int) (s0_1 : Int) : Option (Int × List Int × List Int × Int) := (spec_l7Synth.f k s0_0 s0_1).bind fun bt820 => ((spec_l1Next.f s0_0 bt820.2.2.2 14).bind fun bt829 => (if bt829.1 = 0 then ((spec_l1BentSize.f s0_0 bt829.2).bind fun bt831 => (some (bt831.1, bt820.2.1, bt820.2.2.1, bt831.2))) else (if bt829.1 = 1 then (if bt820.2.2.1.length < 17592186044416 then (some (bt820.1, bt820.2.1, (bt820.2.2.1 ++ [0]), bt829.2)) else (none)) else (if bt829.1 = 2 then ((spec_l1Pick.f s0_0 bt829.2 (([1073741824, (-1073741824), 1073741825] : List Int))).bind fun bt839 => (if 0 < (bt820.2.1.length : Int) then (some (bt820.1, (bt820.2.1.set (0 : Int).toNat bt839.1), bt820.2.2.1, bt839.2)) else (none))) else (if bt829.1 = 3 then ((spec_l1Pick.f s0_0 bt829.2 (([268435456, (-268435456), (-268435457)] : List Int))).bind fun bt845 => (if 0 < (bt820.2.2.1.length : Int) then (some (bt820.1, bt820.2.1, (bt820.2.2.1.set (0 : Int).toNat bt845.1), bt845.2)) else (none))) else (some (bt820.1, bt820.2.1, bt820.2.2.1, bt829.2)))))))
theorem spec_l7BentSynth.calls (k : Nat) (g : Nat) (s0_0 : List Int) (s0_1 : Int) (r1 : Int) (r2 : List Int) (r3 : List Int) (r4 : Int) (w0 w : World) (hI : IsS149 w0 w g s0_0 s0_1) (hB : Below w0.heap.size w0 w) (h : spec_l7BentSynth.f k s0_0 s0_1 = some (r1, r2, r3, r4)) :
  Calls Try.prog 91 #[.pointer (some ⟨g, 0, none⟩)] w fun e w' => ∃ v1_ v2_ : Value, e = .returned (.agg #[.int .i64 r1, v1_, v2_]) ∧ Kd.R (Kd.int .i64) 2 w' w.heap.size (fun k_ => nb v2_ k_) v1_ r2 ∧ Kd.R (Kd.int .i64) 2 w' w.heap.size (fun k_ => nb v1_ k_) v2_ r3 ∧ IsS149 w0 w' g s0_0 r4 ∧ Below w0.heap.size w0 w' ∧ KeepBut w w' g none := by
 have hu35 := Try.underlying35
 have HI0 := aM hI
 have HK := aM (KeepBut.refl w g none)
 have HL := aM hB.size
 clear hI
 have HW0 := aM hB.size
 have HB := aM hB
 clear hB
 unfold spec_l7BentSynth.f at h
 have H := h
 clear h
 replace H := bo H
 obtain ⟨⟨t820, t821, t824, t827⟩, A2, H⟩ := H
 replace H := bz H
 replace H := bo H
 obtain ⟨⟨t829, t830⟩, A3, H⟩ := H
 replace H := bz H
 by_cases c4 : t829 = 0
 ·rw [if_pos c4] at H
  have c4b0 := eT c4
  have c4b1 := nF c4
  clear c4
  replace H := bo H
  obtain ⟨⟨t831, t832⟩, A5, H⟩ := H
  replace H := bz H
  simp only [Option.some.injEq, Prod.mk.injEq] at H
  obtain ⟨rfl, rfl, rfl, rfl⟩ := H
  go_enter Try.func91, Try.ntmps91
  go_wp2_with (first | ((with_reducible refine gD 2 rfl ?_); refine bx 2 35 #[.int .i64 0, .slice none 0 0, .slice none 0 0] ?_; intro gb819 hg w6 hbox hb; replace HB := aM (bT bq hb); have BK819 := aM hbox; have GW819 := gk w g hg; have GE819 := aM (Nat.le_trans HW0.out GW819.out); replace HK := ku w g hb; have NB0_819 := aM ((by rw [hg]; exact Nat.ne_of_lt (IsS149.lt (sA HI0)) : g ≠ gb819)); have NB819_0 := aM NB0_819.out.symm; replace HI0 := aM (IsS149.below (sq HI0.out) hb); clear hb hbox hg) | ((with_reducible refine gC 128 rfl ?_); refine gl (some 5) Try.func128 #[.pointer (some ⟨g, 0, none⟩)] ?_; (with_reducible refine (spec_l7Synth.calls k g s0_0 s0_1 t820 t821 t824 t827 w0 _ ?s1 ?s2 A2.out).mono ?_); (case s1 => exact sq HI0.out); (case s2 => exact bq); rintro e w7 ⟨v822, v825, rfl, ho0, ho1, hi, hb, hk⟩; refine ii ?_; replace BK819 := zs BK819 hk NB819_0; have HO823 := aM (rG ho0 (ks w g)); have HO826 := aM (rG ho1 (ks w g)); replace HK := kt w hk; replace HB := aM hb; replace HI0 := aM hi; (try clear hb); (try clear ho0); (try clear ho1)) | ((with_reducible refine gD 3 rfl ?_); refine bx 3 35 #[.int .i64 0, .slice none 0 0, .slice none 0 0] ?_; intro gb828 hg w8 hbox hb; replace HO823 := zl HO823 hb; replace HO826 := zl HO826 hb; replace HB := aM (bT bq hb); have BK828 := aM hbox; have GW828 := gk w g hg; have GE828 := aM (Nat.le_trans HW0.out GW828.out); replace HK := ku w g hb; have NB819_828 := nl BK819 hg; have NB828_819 := aM NB819_828.out.symm; replace BK819 := zb BK819 hb; have NB0_828 := aM ((by rw [hg]; exact Nat.ne_of_lt (IsS149.lt (sA HI0)) : g ≠ gb828)); have NB828_0 := aM NB0_828.out.symm; replace HI0 := aM (IsS149.below (sq HI0.out) hb); clear hb hbox hg; have hnb9 := NB828_819.out; have hnc9 := NB819_828.out; have hnb10 := NB828_0.out; have hnc10 := NB0_828.out; obtain ⟨hcz11_0, hcz11_1, hcz11_2, hfz11_0, hfz11_1, hfz11_2⟩ := b3 BK828.out; obtain ⟨Ao12, co12, rfl⟩ := rS HO823.out; obtain ⟨Ao13, co13, rfl⟩ := rS HO826.out) | ((with_reducible refine gC 94 rfl ?_); refine gl (some 7) Try.func94 #[.pointer (some ⟨g, 0, none⟩), .int .i64 14] ?_; (with_reducible refine (spec_l1Next.calls g s0_0 t827 14 t829 t830 w0 _ ?s1 ?s2 A3.out).mono ?_); (case s1 => exact sq HI0.out); (case s2 => exact bq); rintro e w14 ⟨rfl, hi, hb, hk⟩; refine ii ?_; replace BK819 := aM (KeepBut.blk hk (g' := gb819) (o := .cells #[.int .i64 0, .slice none 0 0, .slice none 0 0] 35 (0, 0)) (fq BK819.out) NB819_0.out (by simp)); replace HO823 := zK (sA HI0) (tf HO823 BK828) hk; replace HO826 := zK (sA HI0) (tf HO826 BK828) hk; replace BK828 := aM (KeepBut.blk hk (g' := gb828) (o := .cells #[.int .i64 t820, .slice Ao12 t821.length co12, .slice Ao13 t824.length co13] 35 (0, 0)) (fq BK828.out) NB828_0.out (by simp)); replace HK := kt w hk; replace HB := aM hb; replace HI0 := aM hi; (try clear hb)) | ((with_reducible refine gC 83 rfl ?_); refine gl (some 11) Try.func83 #[.pointer (some ⟨g, 0, none⟩)] ?_; (with_reducible refine (spec_l1BentSize.calls g s0_0 t830 t831 t832 w0 _ ?s1 ?s2 A5.out).mono ?_); (case s1 => exact sq HI0.out); (case s2 => exact bq); rintro e w15 ⟨rfl, hi, hb, hk⟩; refine ii ?_; replace BK819 := zs BK819 hk NB819_0; replace HO823 := zK (sA HI0) (rq HO823.out) hk; replace HO826 := zK (sA HI0) (rq HO826.out) hk; replace BK828 := zs BK828 hk NB828_0; replace HK := kt w hk; replace HB := aM hb; replace HI0 := aM hi; (try clear hb); obtain ⟨hcz16_0, hcz16_1, hcz16_2, hfz16_0, hfz16_1, hfz16_2⟩ := b3 BK828.out; have hnb17 := NB819_0.out; have hnc17 := NB0_819.out; obtain ⟨hcz18_0, hcz18_1, hcz18_2, hfz18_0, hfz18_1, hfz18_2⟩ := b3 BK819.out))
  refine bodyPost_ret (results_cell_row rfl _ _ gb819 35 #[.int .i64 t831, .slice Ao12 t821.length co12, .slice Ao13 t824.length co13] (0, 0) _ rfl (fq BK819.out) Try.underlying35 rfl kr) rfl ?_
  exact ⟨_, _, ew, rM (rf (Kd.R_types (Kd.R_types HO823.out BK828.out (by decide)) BK819.out (by decide))) (fun _ hk => hk.1.1), rM (rf (Kd.R_types (Kd.R_types HO826.out BK828.out (by decide)) BK819.out (by decide))) (fun _ hk => hk.1.1), sq HI0.out, bq, hq⟩
 ·rw [if_neg c4] at H
  have c4b0 := eF c4
  have c4b1 := nT c4
  by_cases c19 : t829 = 1
  ·rw [if_pos c19] at H
   have c19b0 := eT c19
   have c19b1 := nF c19
   clear c19
   by_cases c20 : t824.length < 17592186044416
   ·rw [if_pos c20] at H
    have LMc20 := aM c20
    clear c20
    obtain ⟨y833, Ny833⟩ : ∃ y_ : List Int, Aside0 (y_ = (t824 ++ [0])) := ⟨_, ⟨rfl⟩⟩
    rw [← Ny833.out] at H
    simp only [Option.some.injEq, Prod.mk.injEq] at H
    obtain ⟨rfl, rfl, rfl, rfl⟩ := H
    go_enter Try.func91, Try.ntmps91
    go_wp2_with (first | ((with_reducible refine gD 2 rfl ?_); refine bx 2 35 #[.int .i64 0, .slice none 0 0, .slice none 0 0] ?_; intro gb819 hg w21 hbox hb; replace HB := aM (bT bq hb); have BK819 := aM hbox; have GW819 := gk w g hg; have GE819 := aM (Nat.le_trans HW0.out GW819.out); replace HK := ku w g hb; have NB0_819 := aM ((by rw [hg]; exact Nat.ne_of_lt (IsS149.lt (sA HI0)) : g ≠ gb819)); have NB819_0 := aM NB0_819.out.symm; replace HI0 := aM (IsS149.below (sq HI0.out) hb); clear hb hbox hg) | ((with_reducible refine gC 128 rfl ?_); refine gl (some 5) Try.func128 #[.pointer (some ⟨g, 0, none⟩)] ?_; (with_reducible refine (spec_l7Synth.calls k g s0_0 s0_1 t820 t821 t824 t827 w0 _ ?s1 ?s2 A2.out).mono ?_); (case s1 => exact sq HI0.out); (case s2 => exact bq); rintro e w22 ⟨v822, v825, rfl, ho0, ho1, hi, hb, hk⟩; refine ii ?_; replace BK819 := zs BK819 hk NB819_0; have HO823 := aM (rG ho0 (ks w g)); have HO826 := aM (rG ho1 (ks w g)); replace HK := kt w hk; replace HB := aM hb; replace HI0 := aM hi; (try clear hb); (try clear ho0); (try clear ho1)) | ((with_reducible refine gD 3 rfl ?_); refine bx 3 35 #[.int .i64 0, .slice none 0 0, .slice none 0 0] ?_; intro gb828 hg w23 hbox hb; replace HO823 := zl HO823 hb; replace HO826 := zl HO826 hb; replace HB := aM (bT bq hb); have BK828 := aM hbox; have GW828 := gk w g hg; have GE828 := aM (Nat.le_trans HW0.out GW828.out); replace HK := ku w g hb; have NB819_828 := nl BK819 hg; have NB828_819 := aM NB819_828.out.symm; replace BK819 := zb BK819 hb; have NB0_828 := aM ((by rw [hg]; exact Nat.ne_of_lt (IsS149.lt (sA HI0)) : g ≠ gb828)); have NB828_0 := aM NB0_828.out.symm; replace HI0 := aM (IsS149.below (sq HI0.out) hb); clear hb hbox hg; have hnb24 := NB828_819.out; have hnc24 := NB819_828.out; have hnb25 := NB828_0.out; have hnc25 := NB0_828.out; obtain ⟨hcz26_0, hcz26_1, hcz26_2, hfz26_0, hfz26_1, hfz26_2⟩ := b3 BK828.out; obtain ⟨Ao27, co27, rfl⟩ := rS HO823.out; obtain ⟨Ao28, co28, rfl⟩ := rS HO826.out) | ((with_reducible refine gC 94 rfl ?_); refine gl (some 7) Try.func94 #[.pointer (some ⟨g, 0, none⟩), .int .i64 14] ?_; (with_reducible refine (spec_l1Next.calls g s0_0 t827 14 t829 t830 w0 _ ?s1 ?s2 A3.out).mono ?_); (case s1 => exact sq HI0.out); (case s2 => exact bq); rintro e w29 ⟨rfl, hi, hb, hk⟩; refine ii ?_; replace BK819 := aM (KeepBut.blk hk (g' := gb819) (o := .cells #[.int .i64 0, .slice none 0 0, .slice none 0 0] 35 (0, 0)) (fq BK819.out) NB819_0.out (by simp)); replace HO823 := zK (sA HI0) (tf HO823 BK828) hk; replace HO826 := zK (sA HI0) (tf HO826 BK828) hk; replace BK828 := aM (KeepBut.blk hk (g' := gb828) (o := .cells #[.int .i64 t820, .slice Ao27 t821.length co27, .slice Ao28 t824.length co28] 35 (0, 0)) (fq BK828.out) NB828_0.out (by simp)); replace HK := kt w hk; replace HB := aM hb; replace HI0 := aM hi; (try clear hb); obtain ⟨hcz30_0, hcz30_1, hcz30_2, hfz30_0, hfz30_1, hfz30_2⟩ := b3 BK828.out) | ((with_reducible refine gate_builtin (b := .append) (xs := #[.tmp 16, .tmp 17]) rfl ?_); at_builtin; refine Kd.R_append (Kd.int .i64) w.heap.size rfl (.tmp 16) (.tmp 17) 22 2 (.int .i64 0) 8 rfl Try.underlying22 info2 rfl (by decide) (by omega) (.slice Ao28 t824.length co28) t824 0 [.int .i64 0] (fun k_ => nS Ao27 t821 co27 k_) (fun _ => False) rfl rfl ?aP (fun _ hk => hk.elim) ?aF ?aO (Below.refl _ _) ?aS ?aL ?_; (case aP => exact rfl); (case aF => exact (fun k_ hk => Kd.fresh' (rT (rq HO823.out)) k_ hk)); (case aO => exact (rq HO826.out)); (case aS => exact (ks w g)); (case aL => have := LMc20.out; omega); intro v834 w31 ho hb hg hat; rw [← Ny833.out] at ho; replace BK819 := aM (blk_grown (kq BK819.out) hg (Kd.R_ne HO826.out BK819.out (by decide))); replace HO823 := aM (Kd.R_after (ok := (fun _ => True)) (rq (rM HO823.out (fun _ hk => ⟨trivial, hk⟩))) hg hat); replace BK828 := aM (blk_grown (kq BK828.out) hg (Kd.R_ne HO826.out BK828.out (by decide))); replace HB := aM (below_weaken bq HL.out hb); replace HI0 := aM (IsS149.grown (sq HI0.out) hg (IsS149.own_ne HI0.out HO826.out (by decide))); replace HK := aM (KeepBut.trans (hq (w := w)) (KeepBut.of_grown hg g) (Kd.R_base2 HO826.out)); have HO835 := aM (ho); clear HO826 ho hb hg hat; obtain ⟨Ao32, co32, rfl⟩ := rS HO835.out; obtain ⟨hcz33_0, hcz33_1, hcz33_2, hfz33_0, hfz33_1, hfz33_2⟩ := b3 BK828.out; have hnb34 := NB819_0.out; have hnc34 := NB0_819.out; obtain ⟨hcz35_0, hcz35_1, hcz35_2, hfz35_0, hfz35_1, hfz35_2⟩ := b3 BK819.out))
    refine bodyPost_ret (results_cell_row rfl _ _ gb819 35 #[.int .i64 t820, .slice Ao27 t821.length co27, .slice Ao32 y833.length co32] (0, 0) _ rfl (fq BK819.out) Try.underlying35 rfl kr) rfl ?_
    exact ⟨_, _, ew, rM (rf (Kd.R_types (Kd.R_types HO823.out BK828.out (by decide)) BK819.out (by decide))) (fun _ hk => hk.1.1.2), rM (rf (Kd.R_types (Kd.R_types HO835.out BK828.out (by decide)) BK819.out (by decide))) (fun _ hk => hk.1.1), sq HI0.out, bq, hq⟩
   ·rw [if_neg c20] at H
    exact absurd H (by simp)
  ·rw [if_neg c19] at H
   have c19b0 := eF c19
   have c19b1 := nT c19
   by_cases c36 : t829 = 2
   ·rw [if_pos c36] at H
    have c36b0 := eT c36
    have c36b1 := nF c36
    clear c36
    obtain ⟨y836, Ny836⟩ : ∃ y_ : List Int, Aside0 (y_ = (([1073741824, (-1073741824), 1073741825] : List Int))) := ⟨_, ⟨rfl⟩⟩
    rw [← Ny836.out] at H
    replace H := bo H
    obtain ⟨⟨t839, t840⟩, A37, H⟩ := H
    replace H := bz H
    by_cases c38 : 0 < (t821.length : Int)
    ·rw [if_pos c38] at H
     have c38b0 := dT c38
     have c38b1 : decide (0 < t821.length) = true := decide_eq_true (by omega)
     clear c38
     obtain ⟨y841, Ny841⟩ : ∃ y_ : List Int, Aside0 (y_ = (t821.set (0 : Int).toNat t839)) := ⟨_, ⟨rfl⟩⟩
     rw [← Ny841.out] at H
     simp only [Option.some.injEq, Prod.mk.injEq] at H
     obtain ⟨rfl, rfl, rfl, rfl⟩ := H
     go_enter Try.func91, Try.ntmps91
     try go_wp2_with (first | ((with_reducible refine gD 2 rfl ?_); refine bx 2 35 #[.int .i64 0, .slice none 0 0, .slice none 0 0] ?_; intro gb819 hg w40 hbox hb; replace HB := aM (bT bq hb); have BK819 := aM hbox; have GW819 := gk w g hg; have GE819 := aM (Nat.le_trans HW0.out GW819.out); replace HK := ku w g hb; have NB0_819 := aM ((by rw [hg]; exact Nat.ne_of_lt (IsS149.lt (sA HI0)) : g ≠ gb819)); have NB819_0 := aM NB0_819.out.symm; replace HI0 := aM (IsS149.below (sq HI0.out) hb); clear hb hbox hg) | ((with_reducible refine gC 128 rfl ?_); refine gl (some 5) Try.func128 #[.pointer (some ⟨g, 0, none⟩)] ?_; (with_reducible refine (spec_l7Synth.calls k g s0_0 s0_1 t820 t821 t824 t827 w0 _ ?s1 ?s2 A2.out).mono ?_); (case s1 => exact sq HI0.out); (case s2 => exact bq); rintro e w41 ⟨v822, v825, rfl, ho0, ho1, hi, hb, hk⟩; refine ii ?_; replace BK819 := zs BK819 hk NB819_0; have HO823 := aM (rG ho0 (ks w g)); have HO826 := aM (rG ho1 (ks w g)); replace HK := kt w hk; replace HB := aM hb; replace HI0 := aM hi; (try clear hb); (try clear ho0); (try clear ho1)) | ((with_reducible refine gD 3 rfl ?_); refine bx 3 35 #[.int .i64 0, .slice none 0 0, .slice none 0 0] ?_; intro gb828 hg w42 hbox hb; replace HO823 := zl HO823 hb; replace HO826 := zl HO826 hb; replace HB := aM (bT bq hb); have BK828 := aM hbox; have GW828 := gk w g hg; have GE828 := aM (Nat.le_trans HW0.out GW828.out); replace HK := ku w g hb; have NB819_828 := nl BK819 hg; have NB828_819 := aM NB819_828.out.symm; replace BK819 := zb BK819 hb; have NB0_828 := aM ((by rw [hg]; exact Nat.ne_of_lt (IsS149.lt (sA HI0)) : g ≠ gb828)); have NB828_0 := aM NB0_828.out.symm; replace HI0 := aM (IsS149.below (sq HI0.out) hb); clear hb hbox hg; have hnb43 := NB828_819.out; have hnc43 := NB819_828.out; have hnb44 := NB828_0.out; have hnc44 := NB0_828.out; obtain ⟨hcz45_0, hcz45_1, hcz45_2, hfz45_0, hfz45_1, hfz45_2⟩ := b3 BK828.out; obtain ⟨Ao46, co46, rfl⟩ := rS HO823.out; obtain ⟨Ao47, co47, rfl⟩ := rS HO826.out) | ((with_reducible refine gC 94 rfl ?_); refine gl (some 7) Try.func94 #[.pointer (some ⟨g, 0, none⟩), .int .i64 14] ?_; (with_reducible refine (spec_l1Next.calls g s0_0 t827 14 t829 t830 w0 _ ?s1 ?s2 A3.out).mono ?_); (case s1 => exact sq HI0.out); (case s2 => exact bq); rintro e w48 ⟨rfl, hi, hb, hk⟩; refine ii ?_; replace BK819 := aM (KeepBut.blk hk (g' := gb819) (o := .cells #[.int .i64 0, .slice none 0 0, .slice none 0 0] 35 (0, 0)) (fq BK819.out) NB819_0.out (by simp)); replace HO823 := zK (sA HI0) (tf HO823 BK828) hk; replace HO826 := zK (sA HI0) (tf HO826 BK828) hk; replace BK828 := aM (KeepBut.blk hk (g' := gb828) (o := .cells #[.int .i64 t820, .slice Ao46 t821.length co46, .slice Ao47 t824.length co47] 35 (0, 0)) (fq BK828.out) NB828_0.out (by simp)); replace HK := kt w hk; replace HB := aM hb; replace HI0 := aM hi; (try clear hb)))
     replace HO823 := zd HO823
     replace HO826 := zd HO826
     replace BK819 := zk BK819
     replace BK828 := zk BK828
     replace HI0 := aM (IsS149.drew HI0.out)
     replace HK := aM (keep_drew HK.out)
     replace HB := aM (bD HB.out)
     refine start_ (n := 7) (S := fun w' => w'.cell? ⟨gb828, 0, none⟩ = some (.int .i64 t820) ∧ w'.cell? ⟨gb828, 1, none⟩ = some (.slice Ao46 t821.length co46) ∧ w'.cell? ⟨gb828, 2, none⟩ = some (.slice Ao47 t824.length co47)) (ds := [6]) #[N,N,N,N,N,N,N] kr rfl rfl ⟨cc, cc, cc⟩ (fun hHeld => ?_)
     generalize w48.drew = w49 at HO823 HO826 BK819 BK828 HI0 HK HB hHeld ⊢
     refine pure_ (i := 0) (N := some 22) (v := ?_) (a' := ?_) #[Y,N,N,N,N,N,N] rfl rfl kr (fun _ _ _ h => h) (Or.inl ⟨by rfl, ?_⟩) ?_ ?_
     rotate_left
     ·intro w'
      go_simp
      with_reducible rfl
     rotate_left
     ·simp only [Act.put, pa, pb, pc, i64_w, i32_w]
      rfl
     refine pure_ (i := 2) (N := some 24) (v := ?_) (a' := ?_) #[Y,N,Y,N,N,N,N] rfl rfl kr (fun _ _ _ h => h) (Or.inl ⟨by rfl, ?_⟩) ?_ ?_
     rotate_left
     ·intro w'
      go_simp
      with_reducible rfl
     rotate_left
     ·simp only [Act.put, pa, pb, pc, i64_w, i32_w]
      rfl
     refine take_ (i := 1) (N := some 23) (v := ?_) (a' := ?_) #[Y,Y,Y,N,N,N,N] rfl rfl kr (fun _ _ _ h => h) (Or.inl ⟨by rfl, ?_⟩) hHeld ?_ ?_
     rotate_left
     ·rintro w' ⟨s0, s1, s2⟩
      go_simp
      with_reducible rfl
     rotate_left
     ·simp only [Act.put, pa, pb, pc, i64_w, i32_w]
      rfl
     refine one_ (i := 3) (N := some 25) #[Y,Y,Y,Y,N,N,N] rfl rfl kr (by decide) (fun K hK => ?_)
     refine Kd.R_lit_step (Kd.int .i64) _ 2 ?hg (N := 25) ?hd (xs := ([1073741824, (-1073741824), 1073741825] : List Int)) (inner := [.int .i64 1073741824, .int .i64 (-1073741824), .int .i64 1073741825]) (ok := fun _ => True) (okp := fun _ => True) ?hr ?hp (fun _ hk => hk) trivial (Below.refl _ _) (Nat.le_refl _) (by simp) ?_; (case hd => rfl); (case hg => rfl); (case hr => first | (go_simp; done) | (go_simp; rfl)); (case hp => exact (Reps.one (show Kd.M (Kd.int .i64) _ _ _ 1073741824 [.int .i64 1073741824] from rfl) (Reps.one (show Kd.M (Kd.int .i64) _ _ _ (-1073741824) [.int .i64 (-1073741824)] from rfl) (Reps.one (show Kd.M (Kd.int .i64) _ _ _ 1073741825 [.int .i64 1073741825] from rfl) (Reps.none _ _)))))
     intro v837 w50 ho51 hb hg_ hnew_
     clear hg_ hnew_
     rw [← Ny836.out] at ho51
     have HO838 := aM (rG (wq (wq ho51 HO823) HO826) (ks w g))
     replace HO823 := zh (rq HO823.out) ho51 hb
     replace HO826 := zh (rq HO826.out) ho51 hb
     replace BK819 := zb BK819 hb
     replace BK828 := zb BK828 hb
     replace HK := ku w g hb
     replace HB := aM (bT bq hb)
     replace HI0 := aM (IsS149.below (sq HI0.out) hb)
     clear hb ho51
     obtain ⟨Ao52, co52, eo52⟩ := Kd.R_slice HO838.out
     (first | subst eo52 | (injection eo52 with f1_ f2_ f3_; have f4_ := f1_.symm; have f5_ := f3_.symm; clear f1_ f2_ f3_; subst f4_; subst f5_))
     refine hK.out _ _ ⟨cc, cc, cc⟩ (fun hHeld => ?_)
     clear hK K
     refine nn ?_
     refine one_ (i := 4) (N := some 26) #[Y,Y,Y,Y,Y,N,N] rfl rfl kr (by decide) (fun K hK => ?_)
     refine goes_ Try.func86 kr rfl #[.pointer (some ⟨g, 0, none⟩), .slice Ao52 y836.length co52] (by rfl) rfl rfl mq ?_
     with_reducible refine (spec_l1Pick.calls g s0_0 t830 _ _ y836 t839 t840 w0 _ ?s1 ?s2 ?s3 ?s4 ?s5 A37.out).mono ?_
     (case s1 => exact sq HI0.out)
     (case s2 => exact bq)
     (case s3 => exact cq (rR HO838.out).2.2)
     (case s4 => exact (rR HO838.out).2.1)
     (case s5 => exact far_slice (IsS149.own_ne HI0.out HO838.out (by decide)))
     rintro e w53 ⟨rfl, hi, hb, hk⟩
     refine ⟨_, rfl, ?_⟩
     replace BK819 := zs BK819 hk NB819_0
     replace HO823 := zK (sA HI0) (rq HO823.out) hk
     replace HO826 := zK (sA HI0) (rq HO826.out) hk
     replace BK828 := zs BK828 hk NB828_0
     replace HO838 := zK (sA HI0) (rq HO838.out) hk
     replace HK := kt w hk
     replace HB := aM hb
     replace HI0 := aM hi
     (try clear hb)
     (try clear hb2)
     (try clear hk)
     (try clear hi)
     have p39 : 0 ≤ (0 : Int) := (by omega)
     have q39 : (0 : Int) < ((t821.length : Int) : Int) := dt
     have qi39 : (0 < t821.length) = True := eq_true (by omega)
     obtain ⟨go39, co39, eo39, gb39, gl39, cl39, HG39⟩ := Kd.R_form HO823.out (by omega)
     (first | cases eo39 | (injection eo39 with ea_ en_ ec_; (first | subst ea_ | (injection ea_ with ea_; subst ea_)); subst ec_; clear en_))
     have GB39 := aM gb39
     have GG39 := aM HG39
     clear gb39 gl39 HG39
     obtain ⟨hx39_0, hf39_0⟩ := Kd.R_celln 0 HO823.out (0 : Int) p39 q39
     (try rw [show ((0 : Int)).toNat = 0 from rfl] at hx39_0)
     (try simp only [Nat.reduceMul, Nat.zero_mul, Nat.zero_add, Nat.reduceAdd] at hx39_0)
     (try rw [show ((0 : Int)).toNat = 0 from rfl] at hf39_0)
     (try simp only [Nat.reduceMul, Nat.zero_mul, Nat.zero_add, Nat.reduceAdd] at hf39_0)
     replace p39 := eq_true p39
     replace q39 := eq_true q39
     have HN0_go39 := aM (show g ≠ go39 from by have h_ := IsS149.own_ne HI0.out HO823.out (by decide); intro e_; exact h_ (by rw [e_]; rfl))
     have HP54 := Kd.R_putn HO823.out (0 : Int) t839
     rw [← Ny841.out] at HP54
     have HQ54 := aM HP54
     clear HP54
     refine hK.out _ _ ⟨cc, cc, cc⟩ (fun hHeld => ?_)
     clear hK K
     refine nn ?_
     refine pure_ (i := 5) (N := some 27) (v := ?_) (a' := ?_) #[Y,Y,Y,Y,Y,Y,N] rfl rfl kr (fun _ _ _ h => h) (Or.inl ⟨by rfl, ?_⟩) ?_ ?_
     rotate_left
     ·intro w'
      go_simp
      with_reducible rfl
     rotate_left
     ·simp only [Act.put, pa, pb, pc, i64_w, i32_w]
      rfl
     refine last_ (i := 6) (N := none) #[Y,Y,Y,Y,Y,Y,Y] rfl rfl kr (by decide) (fun K hK => ?_)
     refine skip_ (w1 := ?_) (by rfl) rfl ?_ ?_
     rotate_left
     ·go_simp
      rfl
     refine hK.out _ _ ?_
     clear hK K
     refine done_ kr ?_
     generalize hgw_ : (w53.setCell ⟨go39, 0, none⟩ (.int .i64 t839)) = w55
     have n0_ : Aside0 (Kd.R (Kd.int .i64) 2 w55 w.heap.size (fun k_ => nS Ao47 t824 co47 k_ ∧ nS Ao52 y836 co52 k_) (.slice (some ⟨go39, 0, none⟩) t821.length co46) y841) := ⟨by rw [← hgw_]; exact HQ54.out⟩
     have n1_ : Aside0 (Kd.R (Kd.int .i64) 2 w55 w.heap.size (fun k_ => some k_ ≠ (.slice (some ⟨go39, 0, none⟩) t821.length co46 : Value).ownBlock ∧ nS Ao52 y836 co52 k_) (.slice Ao47 t824.length co47) t824) := ⟨by rw [← hgw_]; exact rM (rF (rM HO826.out (fun k_ hk => (⟨hk, fun e_ => hk.1 (by rw [e_]; rfl)⟩ : _ ∧ k_ ≠ go39))) (fun _ hk => hk.2) (.int .i64 t839)) jq⟩
     have n2_ : Aside0 (Kd.R (Kd.int .i64) 2 w55 w.heap.size (fun k_ => some k_ ≠ (.slice (some ⟨go39, 0, none⟩) t821.length co46 : Value).ownBlock ∧ nS Ao47 t824 co47 k_) (.slice Ao52 y836.length co52) y836) := ⟨by rw [← hgw_]; exact rM (rF (rM HO838.out (fun k_ hk => (⟨hk, fun e_ => hk.1.2 (by rw [e_]; rfl)⟩ : _ ∧ k_ ≠ go39))) (fun _ hk => hk.2) (.int .i64 t839)) jq⟩
     have n3_ : Aside0 (w55.heap[gb819]? = some (.cells #[.int .i64 0, .slice none 0 0, .slice none 0 0] 35 (0, 0))) := ⟨by rw [← hgw_]; (with_reducible repeat (first | refine kN ?_ _ | refine kD ?_ | refine kA ?_ _)); refine blk_far ?_ (by have h_ := Kd.R_ne HO823.out BK819.out (by decide); intro e_; exact h_ (by rw [e_]; rfl)) _; (with_reducible repeat (first | refine kN ?_ _ | refine kD ?_ | refine kA ?_ _)); exact BK819.out⟩
     have n4_ : Aside0 (w55.heap[gb828]? = some (.cells #[.int .i64 t820, .slice (some ⟨go39, 0, none⟩) t821.length co46, .slice Ao47 t824.length co47] 35 (0, 0))) := ⟨by rw [← hgw_]; (with_reducible repeat (first | refine kN ?_ _ | refine kD ?_ | refine kA ?_ _)); refine blk_far ?_ (by have h_ := Kd.R_ne HO823.out BK828.out (by decide); intro e_; exact h_ (by rw [e_]; rfl)) _; (with_reducible repeat (first | refine kN ?_ _ | refine kD ?_ | refine kA ?_ _)); exact BK828.out⟩
     have n5_ : Aside0 (IsS149 w0 w55 g s0_0 t840) := ⟨by rw [← hgw_]; repeat (first | (with_reducible first | exact HI0.out | apply IsS149.alloc | apply IsS149.drewN | apply IsS149.drew | apply IsS149.set_1 | refine IsS149.far ?_ HN0_go39.out _ | refine IsS149.far ?_ NB0_819.out _ | refine IsS149.far ?_ NB0_828.out _) | exact HI0.out)⟩
     have n6_ : Aside0 (KeepBut w w55 g none) := ⟨by rw [← hgw_]; repeat (first | (with_reducible first | exact HK.out | apply KeepBut.set_ | apply keep_drewN | apply keep_drew | apply keep_alloc | refine keep_far ?_ GB39.out _ | refine keep_far ?_ GW819.out _ | refine keep_far ?_ GW828.out _) | exact HK.out)⟩
     have n7_ : Aside0 (Below w0.heap.size w0 w55) := ⟨by rw [← hgw_]; repeat (first | (with_reducible first | exact HB.out | apply bA | apply bN | apply bD | refine bS ?_ (Nat.le_trans HL.out GB39.out) | refine bS ?_ (IsS149.ge HI0.out) | refine bS ?_ GE819.out | refine bS ?_ GE828.out) | exact HB.out)⟩
     (try clear HO823)
     (try clear HO826)
     (try clear HO838)
     (try clear BK819)
     (try clear BK828)
     (try clear HI0)
     (try clear HK)
     (try clear HB)
     clear hgw_
     have HO823 := n0_
     have HO826 := n1_
     have HO838 := n2_
     have BK819 := n3_
     have BK828 := n4_
     have HI0 := n5_
     have HK := n6_
     have HB := n7_
     clear n0_ n1_ n2_ n3_ n4_ n5_ n6_ n7_
     obtain ⟨hcz56_0, hcz56_1, hcz56_2, hfz56_0, hfz56_1, hfz56_2⟩ := b3 BK828.out
     have hnb57 := NB819_0.out
     have hnc57 := NB0_819.out
     obtain ⟨hcz58_0, hcz58_1, hcz58_2, hfz58_0, hfz58_1, hfz58_2⟩ := b3 BK819.out
     try go_wp2
     refine bodyPost_ret (results_cell_row rfl _ _ gb819 35 #[.int .i64 t820, .slice (some ⟨go39, 0, none⟩) t821.length co46, .slice Ao47 t824.length co47] (0, 0) _ rfl (fq BK819.out) Try.underlying35 rfl kr) rfl ?_
     exact ⟨_, _, ew, rM (rf (Kd.R_types HO823.out BK819.out (by decide))) (fun _ hk => hk.1.1), rM (rf (Kd.R_types HO826.out BK819.out (by decide))) (fun _ hk => hk.1.1), sq HI0.out, bq, hq⟩
    ·rw [if_neg c38] at H
     exact absurd H (by simp)
   ·rw [if_neg c36] at H
    have c36b0 := eF c36
    have c36b1 := nT c36
    by_cases c59 : t829 = 3
    ·rw [if_pos c59] at H
     have c59b0 := eT c59
     have c59b1 := nF c59
     clear c59
     obtain ⟨y842, Ny842⟩ : ∃ y_ : List Int, Aside0 (y_ = (([268435456, (-268435456), (-268435457)] : List Int))) := ⟨_, ⟨rfl⟩⟩
     rw [← Ny842.out] at H
     replace H := bo H
     obtain ⟨⟨t845, t846⟩, A60, H⟩ := H
     replace H := bz H
     by_cases c61 : 0 < (t824.length : Int)
     ·rw [if_pos c61] at H
      have c61b0 := dT c61
      have c61b1 : decide (0 < t824.length) = true := decide_eq_true (by omega)
      clear c61
      obtain ⟨y847, Ny847⟩ : ∃ y_ : List Int, Aside0 (y_ = (t824.set (0 : Int).toNat t845)) := ⟨_, ⟨rfl⟩⟩
      rw [← Ny847.out] at H
      simp only [Option.some.injEq, Prod.mk.injEq] at H
      obtain ⟨rfl, rfl, rfl, rfl⟩ := H
      go_enter Try.func91, Try.ntmps91
      try go_wp2_with (first | ((with_reducible refine gD 2 rfl ?_); refine bx 2 35 #[.int .i64 0, .slice none 0 0, .slice none 0 0] ?_; intro gb819 hg w63 hbox hb; replace HB := aM (bT bq hb); have BK819 := aM hbox; have GW819 := gk w g hg; have GE819 := aM (Nat.le_trans HW0.out GW819.out); replace HK := ku w g hb; have NB0_819 := aM ((by rw [hg]; exact Nat.ne_of_lt (IsS149.lt (sA HI0)) : g ≠ gb819)); have NB819_0 := aM NB0_819.out.symm; replace HI0 := aM (IsS149.below (sq HI0.out) hb); clear hb hbox hg) | ((with_reducible refine gC 128 rfl ?_); refine gl (some 5) Try.func128 #[.pointer (some ⟨g, 0, none⟩)] ?_; (with_reducible refine (spec_l7Synth.calls k g s0_0 s0_1 t820 t821 t824 t827 w0 _ ?s1 ?s2 A2.out).mono ?_); (case s1 => exact sq HI0.out); (case s2 => exact bq); rintro e w64 ⟨v822, v825, rfl, ho0, ho1, hi, hb, hk⟩; refine ii ?_; replace BK819 := zs BK819 hk NB819_0; have HO823 := aM (rG ho0 (ks w g)); have HO826 := aM (rG ho1 (ks w g)); replace HK := kt w hk; replace HB := aM hb; replace HI0 := aM hi; (try clear hb); (try clear ho0); (try clear ho1)) | ((with_reducible refine gD 3 rfl ?_); refine bx 3 35 #[.int .i64 0, .slice none 0 0, .slice none 0 0] ?_; intro gb828 hg w65 hbox hb; replace HO823 := zl HO823 hb; replace HO826 := zl HO826 hb; replace HB := aM (bT bq hb); have BK828 := aM hbox; have GW828 := gk w g hg; have GE828 := aM (Nat.le_trans HW0.out GW828.out); replace HK := ku w g hb; have NB819_828 := nl BK819 hg; have NB828_819 := aM NB819_828.out.symm; replace BK819 := zb BK819 hb; have NB0_828 := aM ((by rw [hg]; exact Nat.ne_of_lt (IsS149.lt (sA HI0)) : g ≠ gb828)); have NB828_0 := aM NB0_828.out.symm; replace HI0 := aM (IsS149.below (sq HI0.out) hb); clear hb hbox hg; have hnb66 := NB828_819.out; have hnc66 := NB819_828.out; have hnb67 := NB828_0.out; have hnc67 := NB0_828.out; obtain ⟨hcz68_0, hcz68_1, hcz68_2, hfz68_0, hfz68_1, hfz68_2⟩ := b3 BK828.out; obtain ⟨Ao69, co69, rfl⟩ := rS HO823.out; obtain ⟨Ao70, co70, rfl⟩ := rS HO826.out) | ((with_reducible refine gC 94 rfl ?_); refine gl (some 7) Try.func94 #[.pointer (some ⟨g, 0, none⟩), .int .i64 14] ?_; (with_reducible refine (spec_l1Next.calls g s0_0 t827 14 t829 t830 w0 _ ?s1 ?s2 A3.out).mono ?_); (case s1 => exact sq HI0.out); (case s2 => exact bq); rintro e w71 ⟨rfl, hi, hb, hk⟩; refine ii ?_; replace BK819 := aM (KeepBut.blk hk (g' := gb819) (o := .cells #[.int .i64 0, .slice none 0 0, .slice none 0 0] 35 (0, 0)) (fq BK819.out) NB819_0.out (by simp)); replace HO823 := zK (sA HI0) (tf HO823 BK828) hk; replace HO826 := zK (sA HI0) (tf HO826 BK828) hk; replace BK828 := aM (KeepBut.blk hk (g' := gb828) (o := .cells #[.int .i64 t820, .slice Ao69 t821.length co69, .slice Ao70 t824.length co70] 35 (0, 0)) (fq BK828.out) NB828_0.out (by simp)); replace HK := kt w hk; replace HB := aM hb; replace HI0 := aM hi; (try clear hb)))
      replace HO823 := zd HO823
      replace HO826 := zd HO826
      replace BK819 := zk BK819
      replace BK828 := zk BK828
      replace HI0 := aM (IsS149.drew HI0.out)
      replace HK := aM (keep_drew HK.out)
      replace HB := aM (bD HB.out)
      refine start_ (n := 7) (S := fun w' => w'.cell? ⟨gb828, 0, none⟩ = some (.int .i64 t820) ∧ w'.cell? ⟨gb828, 1, none⟩ = some (.slice Ao69 t821.length co69) ∧ w'.cell? ⟨gb828, 2, none⟩ = some (.slice Ao70 t824.length co70)) (ds := [6]) #[N,N,N,N,N,N,N] kr rfl rfl ⟨cc, cc, cc⟩ (fun hHeld => ?_)
      generalize w71.drew = w72 at HO823 HO826 BK819 BK828 HI0 HK HB hHeld ⊢
      refine pure_ (i := 0) (N := some 30) (v := ?_) (a' := ?_) #[Y,N,N,N,N,N,N] rfl rfl kr (fun _ _ _ h => h) (Or.inl ⟨by rfl, ?_⟩) ?_ ?_
      rotate_left
      ·intro w'
       go_simp
       with_reducible rfl
      rotate_left
      ·simp only [Act.put, pa, pb, pc, i64_w, i32_w]
       rfl
      refine pure_ (i := 2) (N := some 32) (v := ?_) (a' := ?_) #[Y,N,Y,N,N,N,N] rfl rfl kr (fun _ _ _ h => h) (Or.inl ⟨by rfl, ?_⟩) ?_ ?_
      rotate_left
      ·intro w'
       go_simp
       with_reducible rfl
      rotate_left
      ·simp only [Act.put, pa, pb, pc, i64_w, i32_w]
       rfl
      refine take_ (i := 1) (N := some 31) (v := ?_) (a' := ?_) #[Y,Y,Y,N,N,N,N] rfl rfl kr (fun _ _ _ h => h) (Or.inl ⟨by rfl, ?_⟩) hHeld ?_ ?_
      rotate_left
      ·rintro w' ⟨s0, s1, s2⟩
       go_simp
       with_reducible rfl
      rotate_left
      ·simp only [Act.put, pa, pb, pc, i64_w, i32_w]
       rfl
      refine one_ (i := 3) (N := some 33) #[Y,Y,Y,Y,N,N,N] rfl rfl kr (by decide) (fun K hK => ?_)
      refine Kd.R_lit_step (Kd.int .i64) _ 2 ?hg (N := 33) ?hd (xs := ([268435456, (-268435456), (-268435457)] : List Int)) (inner := [.int .i64 268435456, .int .i64 (-268435456), .int .i64 (-268435457)]) (ok := fun _ => True) (okp := fun _ => True) ?hr ?hp (fun _ hk => hk) trivial (Below.refl _ _) (Nat.le_refl _) (by simp) ?_; (case hd => rfl); (case hg => rfl); (case hr => first | (go_simp; done) | (go_simp; rfl)); (case hp => exact (Reps.one (show Kd.M (Kd.int .i64) _ _ _ 268435456 [.int .i64 268435456] from rfl) (Reps.one (show Kd.M (Kd.int .i64) _ _ _ (-268435456) [.int .i64 (-268435456)] from rfl) (Reps.one (show Kd.M (Kd.int .i64) _ _ _ (-268435457) [.int .i64 (-268435457)] from rfl) (Reps.none _ _)))))
      intro v843 w73 ho74 hb hg_ hnew_
      clear hg_ hnew_
      rw [← Ny842.out] at ho74
      have HO844 := aM (rG (wq (wq ho74 HO823) HO826) (ks w g))
      replace HO823 := zh (rq HO823.out) ho74 hb
      replace HO826 := zh (rq HO826.out) ho74 hb
      replace BK819 := zb BK819 hb
      replace BK828 := zb BK828 hb
      replace HK := ku w g hb
      replace HB := aM (bT bq hb)
      replace HI0 := aM (IsS149.below (sq HI0.out) hb)
      clear hb ho74
      obtain ⟨Ao75, co75, eo75⟩ := Kd.R_slice HO844.out
      (first | subst eo75 | (injection eo75 with f1_ f2_ f3_; have f4_ := f1_.symm; have f5_ := f3_.symm; clear f1_ f2_ f3_; subst f4_; subst f5_))
      refine hK.out _ _ ⟨cc, cc, cc⟩ (fun hHeld => ?_)
      clear hK K
      refine nn ?_
      refine one_ (i := 4) (N := some 34) #[Y,Y,Y,Y,Y,N,N] rfl rfl kr (by decide) (fun K hK => ?_)
      refine goes_ Try.func86 kr rfl #[.pointer (some ⟨g, 0, none⟩), .slice Ao75 y842.length co75] (by rfl) rfl rfl mq ?_
      with_reducible refine (spec_l1Pick.calls g s0_0 t830 _ _ y842 t845 t846 w0 _ ?s1 ?s2 ?s3 ?s4 ?s5 A60.out).mono ?_
      (case s1 => exact sq HI0.out)
      (case s2 => exact bq)
      (case s3 => exact cq (rR HO844.out).2.2)
      (case s4 => exact (rR HO844.out).2.1)
      (case s5 => exact far_slice (IsS149.own_ne HI0.out HO844.out (by decide)))
      rintro e w76 ⟨rfl, hi, hb, hk⟩
      refine ⟨_, rfl, ?_⟩
      replace BK819 := zs BK819 hk NB819_0
      replace HO823 := zK (sA HI0) (rq HO823.out) hk
      replace HO826 := zK (sA HI0) (rq HO826.out) hk
      replace BK828 := zs BK828 hk NB828_0
      replace HO844 := zK (sA HI0) (rq HO844.out) hk
      replace HK := kt w hk
      replace HB := aM hb
      replace HI0 := aM hi
      (try clear hb)
      (try clear hb2)
      (try clear hk)
      (try clear hi)
      have p62 : 0 ≤ (0 : Int) := (by omega)
      have q62 : (0 : Int) < ((t824.length : Int) : Int) := dt
      have qi62 : (0 < t824.length) = True := eq_true (by omega)
      obtain ⟨go62, co62, eo62, gb62, gl62, cl62, HG62⟩ := Kd.R_form HO826.out (by omega)
      (first | cases eo62 | (injection eo62 with ea_ en_ ec_; (first | subst ea_ | (injection ea_ with ea_; subst ea_)); subst ec_; clear en_))
      have GB62 := aM gb62
      have GG62 := aM HG62
      clear gb62 gl62 HG62
      obtain ⟨hx62_0, hf62_0⟩ := Kd.R_celln 0 HO826.out (0 : Int) p62 q62
      (try rw [show ((0 : Int)).toNat = 0 from rfl] at hx62_0)
      (try simp only [Nat.reduceMul, Nat.zero_mul, Nat.zero_add, Nat.reduceAdd] at hx62_0)
      (try rw [show ((0 : Int)).toNat = 0 from rfl] at hf62_0)
      (try simp only [Nat.reduceMul, Nat.zero_mul, Nat.zero_add, Nat.reduceAdd] at hf62_0)
      replace p62 := eq_true p62
      replace q62 := eq_true q62
      have HN0_go62 := aM (show g ≠ go62 from by have h_ := IsS149.own_ne HI0.out HO826.out (by decide); intro e_; exact h_ (by rw [e_]; rfl))
      have HP77 := Kd.R_putn HO826.out (0 : Int) t845
      rw [← Ny847.out] at HP77
      have HQ77 := aM HP77
      clear HP77
      refine hK.out _ _ ⟨cc, cc, cc⟩ (fun hHeld => ?_)
      clear hK K
      refine nn ?_
      refine pure_ (i := 5) (N := some 35) (v := ?_) (a' := ?_) #[Y,Y,Y,Y,Y,Y,N] rfl rfl kr (fun _ _ _ h => h) (Or.inl ⟨by rfl, ?_⟩) ?_ ?_
      rotate_left
      ·intro w'
       go_simp
       with_reducible rfl
      rotate_left
      ·simp only [Act.put, pa, pb, pc, i64_w, i32_w]
       rfl
      refine last_ (i := 6) (N := none) #[Y,Y,Y,Y,Y,Y,Y] rfl rfl kr (by decide) (fun K hK => ?_)
      refine skip_ (w1 := ?_) (by rfl) rfl ?_ ?_
      rotate_left
      ·go_simp
       rfl
      refine hK.out _ _ ?_
      clear hK K
      refine done_ kr ?_
      generalize hgw_ : (w76.setCell ⟨go62, 0, none⟩ (.int .i64 t845)) = w78
      have n0_ : Aside0 (Kd.R (Kd.int .i64) 2 w78 w.heap.size (fun k_ => some k_ ≠ (.slice (some ⟨go62, 0, none⟩) t824.length co70 : Value).ownBlock ∧ nS Ao75 y842 co75 k_) (.slice Ao69 t821.length co69) t821) := ⟨by rw [← hgw_]; exact rM (rF (rM HO823.out (fun k_ hk => (⟨hk, fun e_ => hk.1 (by rw [e_]; rfl)⟩ : _ ∧ k_ ≠ go62))) (fun _ hk => hk.2) (.int .i64 t845)) jq⟩
      have n1_ : Aside0 (Kd.R (Kd.int .i64) 2 w78 w.heap.size (fun k_ => nS Ao69 t821 co69 k_ ∧ nS Ao75 y842 co75 k_) (.slice (some ⟨go62, 0, none⟩) t824.length co70) y847) := ⟨by rw [← hgw_]; exact HQ77.out⟩
      have n2_ : Aside0 (Kd.R (Kd.int .i64) 2 w78 w.heap.size (fun k_ => nS Ao69 t821 co69 k_ ∧ some k_ ≠ (.slice (some ⟨go62, 0, none⟩) t824.length co70 : Value).ownBlock) (.slice Ao75 y842.length co75) y842) := ⟨by rw [← hgw_]; exact rM (rF (rM HO844.out (fun k_ hk => (⟨hk, fun e_ => hk.2 (by rw [e_]; rfl)⟩ : _ ∧ k_ ≠ go62))) (fun _ hk => hk.2) (.int .i64 t845)) jq⟩
      have n3_ : Aside0 (w78.heap[gb819]? = some (.cells #[.int .i64 0, .slice none 0 0, .slice none 0 0] 35 (0, 0))) := ⟨by rw [← hgw_]; (with_reducible repeat (first | refine kN ?_ _ | refine kD ?_ | refine kA ?_ _)); refine blk_far ?_ (by have h_ := Kd.R_ne HO826.out BK819.out (by decide); intro e_; exact h_ (by rw [e_]; rfl)) _; (with_reducible repeat (first | refine kN ?_ _ | refine kD ?_ | refine kA ?_ _)); exact BK819.out⟩
      have n4_ : Aside0 (w78.heap[gb828]? = some (.cells #[.int .i64 t820, .slice Ao69 t821.length co69, .slice (some ⟨go62, 0, none⟩) t824.length co70] 35 (0, 0))) := ⟨by rw [← hgw_]; (with_reducible repeat (first | refine kN ?_ _ | refine kD ?_ | refine kA ?_ _)); refine blk_far ?_ (by have h_ := Kd.R_ne HO826.out BK828.out (by decide); intro e_; exact h_ (by rw [e_]; rfl)) _; (with_reducible repeat (first | refine kN ?_ _ | refine kD ?_ | refine kA ?_ _)); exact BK828.out⟩
      have n5_ : Aside0 (IsS149 w0 w78 g s0_0 t846) := ⟨by rw [← hgw_]; repeat (first | (with_reducible first | exact HI0.out | apply IsS149.alloc | apply IsS149.drewN | apply IsS149.drew | apply IsS149.set_1 | refine IsS149.far ?_ HN0_go62.out _ | refine IsS149.far ?_ NB0_819.out _ | refine IsS149.far ?_ NB0_828.out _) | exact HI0.out)⟩
      have n6_ : Aside0 (KeepBut w w78 g none) := ⟨by rw [← hgw_]; repeat (first | (with_reducible first | exact HK.out | apply KeepBut.set_ | apply keep_drewN | apply keep_drew | apply keep_alloc | refine keep_far ?_ GB62.out _ | refine keep_far ?_ GW819.out _ | refine keep_far ?_ GW828.out _) | exact HK.out)⟩
      have n7_ : Aside0 (Below w0.heap.size w0 w78) := ⟨by rw [← hgw_]; repeat (first | (with_reducible first | exact HB.out | apply bA | apply bN | apply bD | refine bS ?_ (Nat.le_trans HL.out GB62.out) | refine bS ?_ (IsS149.ge HI0.out) | refine bS ?_ GE819.out | refine bS ?_ GE828.out) | exact HB.out)⟩
      (try clear HO823)
      (try clear HO826)
      (try clear HO844)
      (try clear BK819)
      (try clear BK828)
      (try clear HI0)
      (try clear HK)
      (try clear HB)
      clear hgw_
      have HO823 := n0_
      have HO826 := n1_
      have HO844 := n2_
      have BK819 := n3_
      have BK828 := n4_
      have HI0 := n5_
      have HK := n6_
      have HB := n7_
      clear n0_ n1_ n2_ n3_ n4_ n5_ n6_ n7_
      obtain ⟨hcz79_0, hcz79_1, hcz79_2, hfz79_0, hfz79_1, hfz79_2⟩ := b3 BK828.out
      have hnb80 := NB819_0.out
      have hnc80 := NB0_819.out
      obtain ⟨hcz81_0, hcz81_1, hcz81_2, hfz81_0, hfz81_1, hfz81_2⟩ := b3 BK819.out
      try go_wp2
      refine bodyPost_ret (results_cell_row rfl _ _ gb819 35 #[.int .i64 t820, .slice Ao69 t821.length co69, .slice (some ⟨go62, 0, none⟩) t824.length co70] (0, 0) _ rfl (fq BK819.out) Try.underlying35 rfl kr) rfl ?_
      exact ⟨_, _, ew, rM (rf (Kd.R_types HO823.out BK819.out (by decide))) (fun _ hk => hk.1.1), rM (rf (Kd.R_types HO826.out BK819.out (by decide))) (fun _ hk => hk.1.1), sq HI0.out, bq, hq⟩
     ·rw [if_neg c61] at H
      exact absurd H (by simp)
    ·rw [if_neg c59] at H
     have c59b0 := eF c59
     have c59b1 := nT c59
     simp only [Option.some.injEq, Prod.mk.injEq] at H
     obtain ⟨rfl, rfl, rfl, rfl⟩ := H
     go_enter Try.func91, Try.ntmps91
     go_wp2_with (first | ((with_reducible refine gD 2 rfl ?_); refine bx 2 35 #[.int .i64 0, .slice none 0 0, .slice none 0 0] ?_; intro gb819 hg w82 hbox hb; replace HB := aM (bT bq hb); have BK819 := aM hbox; have GW819 := gk w g hg; have GE819 := aM (Nat.le_trans HW0.out GW819.out); replace HK := ku w g hb; have NB0_819 := aM ((by rw [hg]; exact Nat.ne_of_lt (IsS149.lt (sA HI0)) : g ≠ gb819)); have NB819_0 := aM NB0_819.out.symm; replace HI0 := aM (IsS149.below (sq HI0.out) hb); clear hb hbox hg) | ((with_reducible refine gC 128 rfl ?_); refine gl (some 5) Try.func128 #[.pointer (some ⟨g, 0, none⟩)] ?_; (with_reducible refine (spec_l7Synth.calls k g s0_0 s0_1 t820 t821 t824 t827 w0 _ ?s1 ?s2 A2.out).mono ?_); (case s1 => exact sq HI0.out); (case s2 => exact bq); rintro e w83 ⟨v822, v825, rfl, ho0, ho1, hi, hb, hk⟩; refine ii ?_; replace BK819 := zs BK819 hk NB819_0; have HO823 := aM (rG ho0 (ks w g)); have HO826 := aM (rG ho1 (ks w g)); replace HK := kt w hk; replace HB := aM hb; replace HI0 := aM hi; (try clear hb); (try clear ho0); (try clear ho1)) | ((with_reducible refine gD 3 rfl ?_); refine bx 3 35 #[.int .i64 0, .slice none 0 0, .slice none 0 0] ?_; intro gb828 hg w84 hbox hb; replace HO823 := zl HO823 hb; replace HO826 := zl HO826 hb; replace HB := aM (bT bq hb); have BK828 := aM hbox; have GW828 := gk w g hg; have GE828 := aM (Nat.le_trans HW0.out GW828.out); replace HK := ku w g hb; have NB819_828 := nl BK819 hg; have NB828_819 := aM NB819_828.out.symm; replace BK819 := zb BK819 hb; have NB0_828 := aM ((by rw [hg]; exact Nat.ne_of_lt (IsS149.lt (sA HI0)) : g ≠ gb828)); have NB828_0 := aM NB0_828.out.symm; replace HI0 := aM (IsS149.below (sq HI0.out) hb); clear hb hbox hg; have hnb85 := NB828_819.out; have hnc85 := NB819_828.out; have hnb86 := NB828_0.out; have hnc86 := NB0_828.out; obtain ⟨hcz87_0, hcz87_1, hcz87_2, hfz87_0, hfz87_1, hfz87_2⟩ := b3 BK828.out; obtain ⟨Ao88, co88, rfl⟩ := rS HO823.out; obtain ⟨Ao89, co89, rfl⟩ := rS HO826.out) | ((with_reducible refine gC 94 rfl ?_); refine gl (some 7) Try.func94 #[.pointer (some ⟨g, 0, none⟩), .int .i64 14] ?_; (with_reducible refine (spec_l1Next.calls g s0_0 t827 14 t829 t830 w0 _ ?s1 ?s2 A3.out).mono ?_); (case s1 => exact sq HI0.out); (case s2 => exact bq); rintro e w90 ⟨rfl, hi, hb, hk⟩; refine ii ?_; replace BK819 := aM (KeepBut.blk hk (g' := gb819) (o := .cells #[.int .i64 0, .slice none 0 0, .slice none 0 0] 35 (0, 0)) (fq BK819.out) NB819_0.out (by simp)); replace HO823 := zK (sA HI0) (tf HO823 BK828) hk; replace HO826 := zK (sA HI0) (tf HO826 BK828) hk; replace BK828 := aM (KeepBut.blk hk (g' := gb828) (o := .cells #[.int .i64 t820, .slice Ao88 t821.length co88, .slice Ao89 t824.length co89] 35 (0, 0)) (fq BK828.out) NB828_0.out (by simp)); replace HK := kt w hk; replace HB := aM hb; replace HI0 := aM hi; (try clear hb); obtain ⟨hcz91_0, hcz91_1, hcz91_2, hfz91_0, hfz91_1, hfz91_2⟩ := b3 BK828.out; have hnb92 := NB819_0.out; have hnc92 := NB0_819.out; obtain ⟨hcz93_0, hcz93_1, hcz93_2, hfz93_0, hfz93_1, hfz93_2⟩ := b3 BK819.out))
     refine bodyPost_ret (results_cell_row rfl _ _ gb819 35 #[.int .i64 t820, .slice Ao88 t821.length co88, .slice Ao89 t824.length co89] (0, 0) _ rfl (fq BK819.out) Try.underlying35 rfl kr) rfl ?_
     exact ⟨_, _, ew, rM (rf (Kd.R_types HO823.out BK819.out (by decide))) (fun _ hk => hk.1), rM (rf (Kd.R_types HO826.out BK819.out (by decide))) (fun _ hk => hk.1), sq HI0.out, bq, hq⟩
def spec_l1DrawList.l0 : Nat → Int → Int → List Int → List Int → Int → Option (List Int × Int)
 | 0, _, _, _, _, _ => none
 | k + 1, x1, x2, x7, x1000, x1001 => if x1 > 0 then ((spec_l1Signed.f x1000 x1001 x2).bind fun bt851 => (if x7.length < 17592186044416 then (spec_l1DrawList.l0 k (wrap64 (x1 - 1)) x2 (x7 ++ [bt851.1]) x1000 bt851.2) else (none))) else (some (x7, x1001))
def spec_l1DrawList.f (k : Nat) (s0_0 : List Int) (s0_1 : Int) (a1 : Int) (a2 : Int) : Option (List Int × Int) := spec_l1DrawList.l0 k a1 a2 (([] : List Int)) s0_0 s0_1
theorem spec_l1DrawList.calls (k : Nat) (g : Nat) (s0_0 : List Int) (s0_1 : Int) (a1 : Int) (a2 : Int) (r1 : List Int) (r2 : Int) (w0 w : World) (hI : IsS149 w0 w g s0_0 s0_1) (hB : Below w0.heap.size w0 w) (h : spec_l1DrawList.f k s0_0 s0_1 a1 a2 = some (r1, r2)) :
  Calls Try.prog 92 #[.pointer (some ⟨g, 0, none⟩), .int .i64 a1, .int .i64 a2] w fun e w' => ∃ v0_ : Value, e = .returned (v0_) ∧ Kd.R (Kd.int .i64) 2 w' w.heap.size (fun _ => True) v0_ r1 ∧ IsS149 w0 w' g s0_0 r2 ∧ Below w0.heap.size w0 w' ∧ KeepBut w w' g none := by
 have HI0 := aM hI
 have HK := aM (KeepBut.refl w g none)
 have HL := aM hB.size
 clear hI
 have HW0 := aM hB.size
 have HB := aM hB
 clear hB
 unfold spec_l1DrawList.f at h
 have H := h
 clear h
 obtain ⟨y848, hy848⟩ : ∃ y_ : List Int, y_ = (([] : List Int)) := ⟨_, rfl⟩
 replace H : (spec_l1DrawList.l0 k a1 a2 y848 s0_0 s0_1) = some (r1, r2) := hl hy848 H
 have Ny848 := aM hy848
 clear hy848
 have H' := aM H
 clear H
 go_enter Try.func92, Try.ntmps92
 go_wp2_with (first | ((with_reducible refine gD 8 rfl ?_); refine Kd.R_lit (Kd.int .i64) _ 2 ?hg (N := 8) ?hd (xs := ([] : List Int)) (inner := []) (ok := fun _ => True) (okp := fun _ => True) ?hr ?hp (fun _ hk => hk) trivial (Below.refl _ _) (Nat.le_refl _) (by simp) ?_; (case hd => rfl); (case hg => rfl); (case hr => first | (go_simp; done) | (go_simp; rfl)); (case hp => exact (Reps.none _ _)); intro v849 w4 ho5 hb hg_ hnew_; clear hg_ hnew_; rw [← Ny848.out] at ho5; have HO850 := aM (rG ho5 (ks w g)); replace HK := ku w g hb; replace HB := aM (bT bq hb); replace HI0 := aM (IsS149.below (sq HI0.out) hb); clear hb ho5))
 go_loopg [1, 7] k (fun kq v1 v7 w' => ∃ (x1_1 : Int) (x7_1 : List Int) (x1001_1 : Int), v1 = .int .i64 x1_1 ∧ Aside0 (spec_l1DrawList.l0 kq x1_1 a2 x7_1 s0_0 x1001_1 = some (r1, r2)) ∧ Aside0 (kq ≤ k) ∧ Aside0 (Kd.R (Kd.int .i64) 2 w' w.heap.size (fun _ => True) v7 x7_1) ∧ Aside0 (IsS149 w0 w' g s0_0 x1001_1) ∧ Aside0 (KeepBut w w' g none) ∧ Aside0 (Below w0.heap.size w0 w'))
 case atStart => exact ⟨(a1), (y848), (s0_1), (ex), H', ⟨Nat.le_refl _⟩, aM (rq HO850.out), ⟨sq HI0.out⟩, ⟨hq⟩, ⟨bq⟩⟩
 case round =>
  clear H'
  try clear p2
  obtain ⟨x1_1, x7_1, x1001_1, rfl, HA, HK1, HO_7, HI0, HK, HB⟩ := hrel
  cases gk with
  | zero => exact absurd HA.out (by simp [spec_l1DrawList.l0])
  | succ k1 =>
   have H := HA.out
   clear HA
   simp only [spec_l1DrawList.l0] at H
   by_cases c6 : x1_1 > 0
   ·rw [if_pos c6] at H
    have c6b0 : decide (0 < x1_1) = true := decide_eq_true c6
    clear c6
    replace H := bo H
    obtain ⟨⟨t851, t852⟩, A7, H⟩ := H
    replace H := bz H
    by_cases c8 : x7_1.length < 17592186044416
    ·rw [if_pos c8] at H
     have LMc8 := aM c8
     clear c8
     obtain ⟨y853, Ny853⟩ : ∃ y_ : List Int, Aside0 (y_ = (x7_1 ++ [t851])) := ⟨_, ⟨rfl⟩⟩
     rw [← Ny853.out] at H
     have H' := aM H
     clear H
     go_wp2_with (first | ((with_reducible refine gC 129 rfl ?_); refine gl (some 16) Try.func129 #[.pointer (some ⟨g, 0, none⟩), .int .i64 a2] ?_; (with_reducible refine (spec_l1Signed.calls g s0_0 x1001_1 a2 t851 t852 w0 _ ?s1 ?s2 A7.out).mono ?_); (case s1 => exact sq HI0.out); (case s2 => exact bq); rintro e w9 ⟨rfl, hi, hb, hk⟩; refine ii ?_; replace HO_7 := zK (sA HI0) (rq HO_7.out) hk; replace HK := kt w hk; replace HB := aM hb; replace HI0 := aM hi; (try clear hb)) | ((with_reducible refine gate_builtin (b := .append) (xs := #[.tmp 13, .tmp 17]) rfl ?_); at_builtin; refine Kd.R_append (Kd.int .i64) w.heap.size rfl (.tmp 13) (.tmp 17) 22 2 (.int .i64 0) 8 rfl Try.underlying22 info2 rfl (by decide) (by omega) u7 x7_1 t851 [.int .i64 t851] (fun _ => True) (fun _ => False) rfl rfl ?aP (fun _ hk => hk.elim) ?aF ?aO (Below.refl _ _) ?aS ?aL ?_; (case aP => exact rfl); (case aF => exact (fun _ _ => trivial)); (case aO => exact (rq HO_7.out)); (case aS => exact (ks w g)); (case aL => have := LMc8.out; omega); intro v854 w10 ho hb hg hat; rw [← Ny853.out] at ho; replace HB := aM (below_weaken bq HL.out hb); replace HI0 := aM (IsS149.grown (sq HI0.out) hg (IsS149.own_ne HI0.out HO_7.out (by decide))); replace HK := aM (KeepBut.trans (hq (w := w)) (KeepBut.of_grown hg g) (Kd.R_base2 HO_7.out)); have HO855 := aM (ho); clear HO_7 ho hb hg hat))
     go_roundg k1
     case measure => have := HK1.out; omega
     case rel => exact ⟨(wrap64 (x1_1 - 1)), (y853), (t852), (ex), H', ⟨by have := HK1.out; omega⟩, aM (rq HO855.out), ⟨sq HI0.out⟩, ⟨hq⟩, ⟨bq⟩⟩
    ·rw [if_neg c8] at H
     exact absurd H (by simp)
   ·rw [if_neg c6] at H
    have c6b0 : decide (0 < x1_1) = false := decide_eq_false c6
    clear c6
    simp only [Option.some.injEq, Prod.mk.injEq] at H
    obtain ⟨rfl, rfl⟩ := H
    go_wp2
    go_ret
    exact ⟨_, ew, by (with_reducible repeat (first | apply rA | apply rN | apply rD)); exact HO_7.out, sq HI0.out, bq, hq⟩
def spec_DrawPlayBlock.f (k : Nat) (l0 : List Int) : Option (Int × List Int × List Int × List Int) := (spec_l1Source.f l0).bind fun bt857 => ((spec_l7BentSynth.f k bt857.1 bt857.2).bind fun bt860 => ((spec_l1Max.f bt860.1 0).bind fun t869 => ((spec_l1Min.f t869 20).bind fun t870 => ((spec_l1Pick.f bt857.1 bt860.2.2.2 (([9, 4000, 200000] : List Int))).bind fun bt874 => ((spec_l1DrawList.f k bt857.1 bt874.2 t870 bt874.1).bind fun bt876 => ((spec_l1Next.f bt857.1 bt876.2 12).bind fun bt880 => (if bt880.1 = 0 then (if bt876.1.length < 17592186044416 then (some (bt860.1, bt860.2.1, bt860.2.2.1, (bt876.1 ++ [0]))) else (none)) else (if bt880.1 = 1 then (if (bt876.1.length : Int) > 0 then ((spec_l1Pick.f bt857.1 bt880.2 (([16777216, (-16777216), 16777217] : List Int))).bind fun bt888 => (if 0 < (bt876.1.length : Int) then (some (bt860.1, bt860.2.1, bt860.2.2.1, (bt876.1.set (0 : Int).toNat bt888.1))) else (none))) else (some (bt860.1, bt860.2.1, bt860.2.2.1, bt876.1))) else (some (bt860.1, bt860.2.1, bt860.2.2.1, bt876.1))))))))))
theorem spec_DrawPlayBlock.calls (k : Nat) (A0 : Option Addr) (c0 : Nat) (l0 : List Int) (r1 : Int) (r2 : List Int) (r3 : List Int) (r4 : List Int) (w : World) (hr0 : Kd.C (Kd.int .u8) w A0 l0.length l0) (hc0 : l0.length ≤ c0) (h : spec_DrawPlayBlock.f k l0 = some (r1, r2, r3, r4)) :
  Calls Try.prog 42 #[.slice A0 l0.length c0] w fun e w' => ∃ v1_ v2_ v3_ : Value, e = .returned (.tuple #[.agg #[.int .i64 r1, v1_, v2_], v3_]) ∧ Kd.R (Kd.int .i64) 2 w' w.heap.size (fun k_ => nb v2_ k_ ∧ nb v3_ k_) v1_ r2 ∧ Kd.R (Kd.int .i64) 2 w' w.heap.size (fun k_ => nb v1_ k_ ∧ nb v3_ k_) v2_ r3 ∧ Kd.R (Kd.int .i64) 2 w' w.heap.size (fun k_ => nb v1_ k_ ∧ nb v2_ k_) v3_ r4 ∧ Below w.heap.size w w' := by
 have hu35 := Try.underlying35
 have HR0 := aM hr0
 have HC0 := aM hc0
 clear hr0 hc0
 have HB := aM (Below.refl w.heap.size w)
 unfold spec_DrawPlayBlock.f at h
 have H := h
 clear h
 replace H := bo H
 obtain ⟨⟨t857, t858⟩, A2, H⟩ := H
 replace H := bz H
 replace H := bo H
 obtain ⟨⟨t860, t861, t864, t867⟩, A3, H⟩ := H
 replace H := bz H
 replace H := bo H
 obtain ⟨t869, A4, H⟩ := H
 replace H := bz H
 replace H := bo H
 obtain ⟨t870, A5, H⟩ := H
 replace H := bz H
 obtain ⟨y871, Ny871⟩ : ∃ y_ : List Int, Aside0 (y_ = (([9, 4000, 200000] : List Int))) := ⟨_, ⟨rfl⟩⟩
 rw [← Ny871.out] at H
 replace H := bo H
 obtain ⟨⟨t874, t875⟩, A6, H⟩ := H
 replace H := bz H
 replace H := bo H
 obtain ⟨⟨t876, t879⟩, A7, H⟩ := H
 replace H := bz H
 replace H := bo H
 obtain ⟨⟨t880, t881⟩, A8, H⟩ := H
 replace H := bz H
 by_cases c9 : t880 = 0
 ·rw [if_pos c9] at H
  have c9b0 := eT c9
  have c9b1 := nF c9
  clear c9
  by_cases c10 : t876.length < 17592186044416
  ·rw [if_pos c10] at H
   have LMc10 := aM c10
   clear c10
   obtain ⟨y882, Ny882⟩ : ∃ y_ : List Int, Aside0 (y_ = (t876 ++ [0])) := ⟨_, ⟨rfl⟩⟩
   rw [← Ny882.out] at H
   simp only [Option.some.injEq, Prod.mk.injEq] at H
   obtain ⟨rfl, rfl, rfl, rfl⟩ := H
   go_enter Try.func42, Try.ntmps42
   go_wp2_with (first | ((with_reducible refine gD 2 rfl ?_); refine bx 2 35 #[.int .i64 0, .slice none 0 0, .slice none 0 0] ?_; intro gb856 hg w11 hbox hb; have BK856 := aM hbox; have GW856 := gw w hg; have GE856 := GW856; replace HB := aM (bT bq hb); clear hb hbox hg) | ((with_reducible refine gC 82 rfl ?_); refine gl (some 8) Try.func82 #[.slice A0 l0.length c0] ?_; (with_reducible refine (spec_l1Source.calls _ _ l0 t857 t858 w _ ?s1 ?s2 ?s3 A2.out).mono ?_); (case s1 => exact bq); (case s2 => exact HR0.out); (case s3 => exact HC0.out); rintro e w12 ⟨g859, rfl, hi, hb, hb2⟩; refine ii ?_; replace HB := aM hb; have HI859 := aM hi; have NB859_856 := aM (IsS149.ne_blk hi (kB (kq BK856.out) hb2) (by decide)); have NB856_859 := aM (Ne.symm (IsS149.ne_blk hi (kB (kq BK856.out) hb2) (by decide))); replace BK856 := zb BK856 hb2; (try clear hb)) | ((with_reducible refine gC 91 rfl ?_); refine gl (some 10) Try.func91 #[.pointer (some ⟨g859, 0, none⟩)] ?_; (with_reducible refine (spec_l7BentSynth.calls k g859 t857 t858 t860 t861 t864 t867 w _ ?s1 ?s2 A3.out).mono ?_); (case s1 => exact sq HI859.out); (case s2 => exact bq); rintro e w13 ⟨v862, v865, rfl, ho0, ho1, hi, hb, hk⟩; refine ii ?_; replace BK856 := zs BK856 hk NB856_859; have HO863 := aM (rG ho0 (bZ bq)); have HO866 := aM (rG ho1 (bZ bq)); replace HB := aM hb; replace HI859 := aM hi; (try clear hb); (try clear ho0); (try clear ho1)) | ((with_reducible refine gD 5 rfl ?_); refine bx 5 35 #[.int .i64 0, .slice none 0 0, .slice none 0 0] ?_; intro gb868 hg w14 hbox hb; replace HO863 := zl HO863 hb; replace HO866 := zl HO866 hb; have BK868 := aM hbox; have GW868 := gw w hg; have GE868 := GW868; replace HB := aM (bT bq hb); have NB856_868 := nl BK856 hg; have NB868_856 := aM NB856_868.out.symm; replace BK856 := zb BK856 hb; have NB859_868 := aM ((by rw [hg]; exact Nat.ne_of_lt (IsS149.lt (sA HI859)) : g859 ≠ gb868)); have NB868_859 := aM NB859_868.out.symm; replace HI859 := aM (IsS149.below (sq HI859.out) hb); clear hb hbox hg; have hnb15 := NB868_856.out; have hnc15 := NB856_868.out; have hnb16 := NB868_859.out; have hnc16 := NB859_868.out; obtain ⟨hcz17_0, hcz17_1, hcz17_2, hfz17_0, hfz17_1, hfz17_2⟩ := b3 BK868.out; obtain ⟨Ao18, co18, rfl⟩ := rS HO863.out; obtain ⟨Ao19, co19, rfl⟩ := rS HO866.out) | ((with_reducible refine gC 93 rfl ?_); refine gl (some 14) Try.func93 #[.int .i64 t860, .int .i64 0] ?_; (with_reducible refine (spec_l1Max.calls t860 0 t869 _ A4.out).mono ?_); rintro e w' ⟨rfl, ⟨nd, rfl⟩⟩; refine ii ?_) | ((with_reducible refine gC 84 rfl ?_); refine gl (some 15) Try.func84 #[.int .i64 t869, .int .i64 20] ?_; (with_reducible refine (spec_l1Min.calls t869 20 t870 _ A5.out).mono ?_); rintro e w' ⟨rfl, ⟨nd, rfl⟩⟩; refine ii ?_) | ((with_reducible refine gD 17 rfl ?_); refine Kd.R_lit (Kd.int .i64) _ 2 ?hg (N := 17) ?hd (xs := ([9, 4000, 200000] : List Int)) (inner := [.int .i64 9, .int .i64 4000, .int .i64 200000]) (ok := fun _ => True) (okp := fun _ => True) ?hr ?hp (fun _ hk => hk) trivial (Below.refl _ _) (Nat.le_refl _) (by simp) ?_; (case hd => rfl); (case hg => rfl); (case hr => first | (go_simp; done) | (go_simp; rfl)); (case hp => exact (Reps.one (show Kd.M (Kd.int .i64) _ _ _ 9 [.int .i64 9] from rfl) (Reps.one (show Kd.M (Kd.int .i64) _ _ _ 4000 [.int .i64 4000] from rfl) (Reps.one (show Kd.M (Kd.int .i64) _ _ _ 200000 [.int .i64 200000] from rfl) (Reps.none _ _))))); intro v872 w20 ho21 hb hg_ hnew_; clear hg_ hnew_; rw [← Ny871.out] at ho21; have HO873 := aM (rG (rW (rW ho21 (rT (tf HO863 BK868))) (rT (tf HO866 BK868))) (bZ bq)); replace HO863 := zh (tf HO863 BK868) ho21 hb; replace HO866 := zh (tf HO866 BK868) ho21 hb; replace BK856 := aM (kB (g := gb856) (o := .cells #[.int .i64 0, .slice none 0 0, .slice none 0 0] 35 (0, 0)) (fq BK856.out) hb); replace BK868 := aM (kB (g := gb868) (o := .cells #[.int .i64 t860, .slice Ao18 t861.length co18, .slice Ao19 t864.length co19] 35 (0, 0)) (fq BK868.out) hb); replace HB := aM (bT bq hb); replace HI859 := aM (IsS149.below (sA HI859) hb); clear hb ho21; obtain ⟨Ao22, co22, rfl⟩ := rS HO873.out) | ((with_reducible refine gC 86 rfl ?_); refine gl (some 18) Try.func86 #[.pointer (some ⟨g859, 0, none⟩), .slice Ao22 y871.length co22] ?_; (with_reducible refine (spec_l1Pick.calls g859 t857 t867 _ _ y871 t874 t875 w _ ?s1 ?s2 ?s3 ?s4 ?s5 A6.out).mono ?_); (case s1 => exact sq HI859.out); (case s2 => exact bq); (case s3 => exact cq (rR HO873.out).2.2); (case s4 => exact (rR HO873.out).2.1); (case s5 => exact far_slice (IsS149.own_ne HI859.out HO873.out (by decide))); rintro e w23 ⟨rfl, hi, hb, hk⟩; refine ii ?_; replace BK856 := zs BK856 hk NB856_859; replace HO863 := zK (sA HI859) (rq HO863.out) hk; replace HO866 := zK (sA HI859) (rq HO866.out) hk; replace BK868 := zs BK868 hk NB868_859; replace HO873 := zK (sA HI859) (rq HO873.out) hk; replace HB := aM hb; replace HI859 := aM hi; (try clear hb)) | ((with_reducible refine gC 92 rfl ?_); refine gl (some 19) Try.func92 #[.pointer (some ⟨g859, 0, none⟩), .int .i64 t870, .int .i64 t874] ?_; (with_reducible refine (spec_l1DrawList.calls k g859 t857 t875 t870 t874 t876 t879 w _ ?s1 ?s2 A7.out).mono ?_); (case s1 => exact sq HI859.out); (case s2 => exact bq); rintro e w24 ⟨v877, rfl, ho0, hi, hb, hk⟩; refine ii ?_; replace BK856 := zs BK856 hk NB856_859; replace BK868 := zs BK868 hk NB868_859; have HO878 := aM (rG (wq (wq (wq ho0 HO863) HO866) HO873) (bZ bq)); replace HO863 := zO (sA HI859) (rq HO863.out) hk ho0; replace HO866 := zO (sA HI859) (rq HO866.out) hk ho0; replace HO873 := zO (sA HI859) (rq HO873.out) hk ho0; replace HB := aM hb; replace HI859 := aM hi; (try clear hb); (try clear ho0)) | ((with_reducible refine gC 94 rfl ?_); refine gl (some 21) Try.func94 #[.pointer (some ⟨g859, 0, none⟩), .int .i64 12] ?_; (with_reducible refine (spec_l1Next.calls g859 t857 t879 12 t880 t881 w _ ?s1 ?s2 A8.out).mono ?_); (case s1 => exact sq HI859.out); (case s2 => exact bq); rintro e w25 ⟨rfl, hi, hb, hk⟩; refine ii ?_; replace BK856 := zs BK856 hk NB856_859; replace HO863 := zK (sA HI859) (rq HO863.out) hk; replace HO866 := zK (sA HI859) (rq HO866.out) hk; replace BK868 := zs BK868 hk NB868_859; replace HO873 := zK (sA HI859) (rq HO873.out) hk; replace HO878 := zK (sA HI859) (rq HO878.out) hk; replace HB := aM hb; replace HI859 := aM hi; (try clear hb)) | ((with_reducible refine gate_builtin (b := .append) (xs := #[.tmp 24, .tmp 25]) rfl ?_); at_builtin; refine Kd.R_append (Kd.int .i64) (w0 := w) w.heap.size rfl (.tmp 24) (.tmp 25) 22 2 (.int .i64 0) 8 rfl Try.underlying22 info2 rfl (by decide) (by omega) v877 t876 0 [.int .i64 0] (fun k_ => nS Ao18 t861 co18 k_ ∧ nS Ao19 t864 co19 k_ ∧ nS Ao22 y871 co22 k_) (fun _ => False) rfl rfl ?aP (fun _ hk => hk.elim) ?aF ?aO ?aB ?aS ?aL ?_; (case aP => exact rfl); (case aB => exact bq); (case aF => exact (fun k_ hk => ⟨Kd.fresh' (rT (rq HO863.out)) k_ hk, Kd.fresh' (rT (rq HO866.out)) k_ hk, Kd.fresh' (rT (rq HO873.out)) k_ hk⟩)); (case aO => exact (rq (rM HO878.out jq))); (case aS => exact (bZ bq)); (case aL => have := LMc10.out; omega); intro v883 w26 ho hb hg hat; rw [← Ny882.out] at ho; replace BK856 := aM (blk_grown (kq BK856.out) hg (Kd.R_ne HO878.out BK856.out (by decide))); replace HI859 := aM (IsS149.grown (sq HI859.out) hg (IsS149.own_ne HI859.out HO878.out (by decide))); replace HO863 := aM (Kd.R_after (ok := (fun k_ => nS Ao19 t864 co19 k_ ∧ nS Ao22 y871 co22 k_)) (rq HO863.out) hg hat); replace HO866 := aM (Kd.R_after (ok := (fun k_ => nS Ao18 t861 co18 k_ ∧ nS Ao22 y871 co22 k_)) (rq HO866.out) hg hat); replace BK868 := aM (blk_grown (kq BK868.out) hg (Kd.R_ne HO878.out BK868.out (by decide))); replace HO873 := aM (Kd.R_after (ok := (fun k_ => nS Ao18 t861 co18 k_ ∧ nS Ao19 t864 co19 k_)) (rq (rM HO873.out jq)) hg hat); replace HB := aM hb; have HO884 := aM (ho); clear HO878 ho hb hg hat; obtain ⟨hcz27_0, hcz27_1, hcz27_2, hfz27_0, hfz27_1, hfz27_2⟩ := b3 BK868.out; have hnb28 := NB856_859.out; have hnc28 := NB859_856.out; obtain ⟨hcz29_0, hcz29_1, hcz29_2, hfz29_0, hfz29_1, hfz29_2⟩ := b3 BK856.out))
   refine bodyPost_ret (results_ct rfl _ _ gb856 35 #[.int .i64 t860, .slice Ao18 t861.length co18, .slice Ao19 t864.length co19] (0, 0) _ rfl (fq BK856.out) Try.underlying35 rfl kr) rfl ?_
   exact ⟨_, _, _, ew, rM (rf (Kd.R_types HO863.out BK856.out (by decide))) (fun _ hk => ⟨hk.1.1.1, hk.1.2⟩), rM (rf (Kd.R_types HO866.out BK856.out (by decide))) (fun _ hk => ⟨hk.1.1.1, hk.1.2⟩), rM (rf (Kd.R_types HO884.out BK856.out (by decide))) (fun _ hk => ⟨hk.1.1, hk.1.2.1⟩), bq⟩
  ·rw [if_neg c10] at H
   exact absurd H (by simp)
 ·rw [if_neg c9] at H
  have c9b0 := eF c9
  have c9b1 := nT c9
  by_cases c30 : t880 = 1
  ·rw [if_pos c30] at H
   have c30b0 := eT c30
   have c30b1 := nF c30
   clear c30
   by_cases c31 : (t876.length : Int) > 0
   ·rw [if_pos c31] at H
    have c31b0 : decide (0 < (t876.length : Int)) = true := decide_eq_true c31
    have c31b1 : decide (0 < t876.length) = true := decide_eq_true (by omega)
    clear c31
    obtain ⟨y885, Ny885⟩ : ∃ y_ : List Int, Aside0 (y_ = (([16777216, (-16777216), 16777217] : List Int))) := ⟨_, ⟨rfl⟩⟩
    rw [← Ny885.out] at H
    replace H := bo H
    obtain ⟨⟨t888, t889⟩, A32, H⟩ := H
    replace H := bz H
    by_cases c33 : 0 < (t876.length : Int)
    ·rw [if_pos c33] at H
     have c33b0 := dT c33
     have c33b1 : decide (0 < t876.length) = true := decide_eq_true (by omega)
     clear c33
     obtain ⟨y890, Ny890⟩ : ∃ y_ : List Int, Aside0 (y_ = (t876.set (0 : Int).toNat t888)) := ⟨_, ⟨rfl⟩⟩
     rw [← Ny890.out] at H
     simp only [Option.some.injEq, Prod.mk.injEq] at H
     obtain ⟨rfl, rfl, rfl, rfl⟩ := H
     go_enter Try.func42, Try.ntmps42
     go_wp2_with (first | ((with_reducible refine gD 2 rfl ?_); refine bx 2 35 #[.int .i64 0, .slice none 0 0, .slice none 0 0] ?_; intro gb856 hg w35 hbox hb; have BK856 := aM hbox; have GW856 := gw w hg; have GE856 := GW856; replace HB := aM (bT bq hb); clear hb hbox hg) | ((with_reducible refine gC 82 rfl ?_); refine gl (some 8) Try.func82 #[.slice A0 l0.length c0] ?_; (with_reducible refine (spec_l1Source.calls _ _ l0 t857 t858 w _ ?s1 ?s2 ?s3 A2.out).mono ?_); (case s1 => exact bq); (case s2 => exact HR0.out); (case s3 => exact HC0.out); rintro e w36 ⟨g859, rfl, hi, hb, hb2⟩; refine ii ?_; replace HB := aM hb; have HI859 := aM hi; have NB859_856 := aM (IsS149.ne_blk hi (kB (kq BK856.out) hb2) (by decide)); have NB856_859 := aM (Ne.symm (IsS149.ne_blk hi (kB (kq BK856.out) hb2) (by decide))); replace BK856 := zb BK856 hb2; (try clear hb)) | ((with_reducible refine gC 91 rfl ?_); refine gl (some 10) Try.func91 #[.pointer (some ⟨g859, 0, none⟩)] ?_; (with_reducible refine (spec_l7BentSynth.calls k g859 t857 t858 t860 t861 t864 t867 w _ ?s1 ?s2 A3.out).mono ?_); (case s1 => exact sq HI859.out); (case s2 => exact bq); rintro e w37 ⟨v862, v865, rfl, ho0, ho1, hi, hb, hk⟩; refine ii ?_; replace BK856 := zs BK856 hk NB856_859; have HO863 := aM (rG ho0 (bZ bq)); have HO866 := aM (rG ho1 (bZ bq)); replace HB := aM hb; replace HI859 := aM hi; (try clear hb); (try clear ho0); (try clear ho1)) | ((with_reducible refine gD 5 rfl ?_); refine bx 5 35 #[.int .i64 0, .slice none 0 0, .slice none 0 0] ?_; intro gb868 hg w38 hbox hb; replace HO863 := zl HO863 hb; replace HO866 := zl HO866 hb; have BK868 := aM hbox; have GW868 := gw w hg; have GE868 := GW868; replace HB := aM (bT bq hb); have NB856_868 := nl BK856 hg; have NB868_856 := aM NB856_868.out.symm; replace BK856 := zb BK856 hb; have NB859_868 := aM ((by rw [hg]; exact Nat.ne_of_lt (IsS149.lt (sA HI859)) : g859 ≠ gb868)); have NB868_859 := aM NB859_868.out.symm; replace HI859 := aM (IsS149.below (sq HI859.out) hb); clear hb hbox hg; have hnb39 := NB868_856.out; have hnc39 := NB856_868.out; have hnb40 := NB868_859.out; have hnc40 := NB859_868.out; obtain ⟨hcz41_0, hcz41_1, hcz41_2, hfz41_0, hfz41_1, hfz41_2⟩ := b3 BK868.out; obtain ⟨Ao42, co42, rfl⟩ := rS HO863.out; obtain ⟨Ao43, co43, rfl⟩ := rS HO866.out) | ((with_reducible refine gC 93 rfl ?_); refine gl (some 14) Try.func93 #[.int .i64 t860, .int .i64 0] ?_; (with_reducible refine (spec_l1Max.calls t860 0 t869 _ A4.out).mono ?_); rintro e w' ⟨rfl, ⟨nd, rfl⟩⟩; refine ii ?_) | ((with_reducible refine gC 84 rfl ?_); refine gl (some 15) Try.func84 #[.int .i64 t869, .int .i64 20] ?_; (with_reducible refine (spec_l1Min.calls t869 20 t870 _ A5.out).mono ?_); rintro e w' ⟨rfl, ⟨nd, rfl⟩⟩; refine ii ?_) | ((with_reducible refine gD 17 rfl ?_); refine Kd.R_lit (Kd.int .i64) _ 2 ?hg (N := 17) ?hd (xs := ([9, 4000, 200000] : List Int)) (inner := [.int .i64 9, .int .i64 4000, .int .i64 200000]) (ok := fun _ => True) (okp := fun _ => True) ?hr ?hp (fun _ hk => hk) trivial (Below.refl _ _) (Nat.le_refl _) (by simp) ?_; (case hd => rfl); (case hg => rfl); (case hr => first | (go_simp; done) | (go_simp; rfl)); (case hp => exact (Reps.one (show Kd.M (Kd.int .i64) _ _ _ 9 [.int .i64 9] from rfl) (Reps.one (show Kd.M (Kd.int .i64) _ _ _ 4000 [.int .i64 4000] from rfl) (Reps.one (show Kd.M (Kd.int .i64) _ _ _ 200000 [.int .i64 200000] from rfl) (Reps.none _ _))))); intro v872 w44 ho45 hb hg_ hnew_; clear hg_ hnew_; rw [← Ny871.out] at ho45; have HO873 := aM (rG (rW (rW ho45 (rT (tf HO863 BK868))) (rT (tf HO866 BK868))) (bZ bq)); replace HO863 := zh (tf HO863 BK868) ho45 hb; replace HO866 := zh (tf HO866 BK868) ho45 hb; replace BK856 := aM (kB (g := gb856) (o := .cells #[.int .i64 0, .slice none 0 0, .slice none 0 0] 35 (0, 0)) (fq BK856.out) hb); replace BK868 := aM (kB (g := gb868) (o := .cells #[.int .i64 t860, .slice Ao42 t861.length co42, .slice Ao43 t864.length co43] 35 (0, 0)) (fq BK868.out) hb); replace HB := aM (bT bq hb); replace HI859 := aM (IsS149.below (sA HI859) hb); clear hb ho45; obtain ⟨Ao46, co46, rfl⟩ := rS HO873.out) | ((with_reducible refine gC 86 rfl ?_); refine gl (some 18) Try.func86 #[.pointer (some ⟨g859, 0, none⟩), .slice Ao46 y871.length co46] ?_; (with_reducible refine (spec_l1Pick.calls g859 t857 t867 _ _ y871 t874 t875 w _ ?s1 ?s2 ?s3 ?s4 ?s5 A6.out).mono ?_); (case s1 => exact sq HI859.out); (case s2 => exact bq); (case s3 => exact cq (rR HO873.out).2.2); (case s4 => exact (rR HO873.out).2.1); (case s5 => exact far_slice (IsS149.own_ne HI859.out HO873.out (by decide))); rintro e w47 ⟨rfl, hi, hb, hk⟩; refine ii ?_; replace BK856 := zs BK856 hk NB856_859; replace HO863 := zK (sA HI859) (rq HO863.out) hk; replace HO866 := zK (sA HI859) (rq HO866.out) hk; replace BK868 := zs BK868 hk NB868_859; replace HO873 := zK (sA HI859) (rq HO873.out) hk; replace HB := aM hb; replace HI859 := aM hi; (try clear hb)) | ((with_reducible refine gC 92 rfl ?_); refine gl (some 19) Try.func92 #[.pointer (some ⟨g859, 0, none⟩), .int .i64 t870, .int .i64 t874] ?_; (with_reducible refine (spec_l1DrawList.calls k g859 t857 t875 t870 t874 t876 t879 w _ ?s1 ?s2 A7.out).mono ?_); (case s1 => exact sq HI859.out); (case s2 => exact bq); rintro e w48 ⟨v877, rfl, ho0, hi, hb, hk⟩; refine ii ?_; replace BK856 := zs BK856 hk NB856_859; replace BK868 := zs BK868 hk NB868_859; have HO878 := aM (rG (wq (wq (wq ho0 HO863) HO866) HO873) (bZ bq)); replace HO863 := zO (sA HI859) (rq HO863.out) hk ho0; replace HO866 := zO (sA HI859) (rq HO866.out) hk ho0; replace HO873 := zO (sA HI859) (rq HO873.out) hk ho0; replace HB := aM hb; replace HI859 := aM hi; (try clear hb); (try clear ho0)) | ((with_reducible refine gC 94 rfl ?_); refine gl (some 21) Try.func94 #[.pointer (some ⟨g859, 0, none⟩), .int .i64 12] ?_; (with_reducible refine (spec_l1Next.calls g859 t857 t879 12 t880 t881 w _ ?s1 ?s2 A8.out).mono ?_); (case s1 => exact sq HI859.out); (case s2 => exact bq); rintro e w49 ⟨rfl, hi, hb, hk⟩; refine ii ?_; replace BK856 := zs BK856 hk NB856_859; replace HO863 := zK (sA HI859) (rq HO863.out) hk; replace HO866 := zK (sA HI859) (rq HO866.out) hk; replace BK868 := zs BK868 hk NB868_859; replace HO873 := zK (sA HI859) (rq HO873.out) hk; replace HO878 := zK (sA HI859) (rq HO878.out) hk; replace HB := aM hb; replace HI859 := aM hi; (try clear hb); obtain ⟨Ao50, co50, rfl⟩ := rS HO878.out) | ((with_reducible refine gD 34 rfl ?_); refine Kd.R_lit (Kd.int .i64) _ 2 ?hg (N := 34) ?hd (xs := ([16777216, (-16777216), 16777217] : List Int)) (inner := [.int .i64 16777216, .int .i64 (-16777216), .int .i64 16777217]) (ok := fun _ => True) (okp := fun _ => True) ?hr ?hp (fun _ hk => hk) trivial (Below.refl _ _) (Nat.le_refl _) (by simp) ?_; (case hd => rfl); (case hg => rfl); (case hr => first | (go_simp; done) | (go_simp; rfl)); (case hp => exact (Reps.one (show Kd.M (Kd.int .i64) _ _ _ 16777216 [.int .i64 16777216] from rfl) (Reps.one (show Kd.M (Kd.int .i64) _ _ _ (-16777216) [.int .i64 (-16777216)] from rfl) (Reps.one (show Kd.M (Kd.int .i64) _ _ _ 16777217 [.int .i64 16777217] from rfl) (Reps.none _ _))))); intro v886 w51 ho52 hb hg_ hnew_; clear hg_ hnew_; rw [← Ny885.out] at ho52; have HO887 := aM (rG (wq (wq (wq (wq ho52 HO863) HO866) HO873) HO878) (bZ bq)); replace HO863 := zh (rq HO863.out) ho52 hb; replace HO866 := zh (rq HO866.out) ho52 hb; replace HO873 := zh (rq HO873.out) ho52 hb; replace HO878 := zh (rq HO878.out) ho52 hb; replace BK856 := zb BK856 hb; replace BK868 := zb BK868 hb; replace HB := aM (bT bq hb); replace HI859 := aM (IsS149.below (sq HI859.out) hb); clear hb ho52; obtain ⟨Ao53, co53, rfl⟩ := rS HO887.out) | ((with_reducible refine gC 86 rfl ?_); refine gl (some 35) Try.func86 #[.pointer (some ⟨g859, 0, none⟩), .slice Ao53 y885.length co53] ?_; (with_reducible refine (spec_l1Pick.calls g859 t857 t881 _ _ y885 t888 t889 w _ ?s1 ?s2 ?s3 ?s4 ?s5 A32.out).mono ?_); (case s1 => exact sq HI859.out); (case s2 => exact bq); (case s3 => exact cq (rR HO887.out).2.2); (case s4 => exact (rR HO887.out).2.1); (case s5 => exact far_slice (IsS149.own_ne HI859.out HO887.out (by decide))); rintro e w54 ⟨rfl, hi, hb, hk⟩; refine ii ?_; replace BK856 := zs BK856 hk NB856_859; replace HO863 := zK (sA HI859) (rq HO863.out) hk; replace HO866 := zK (sA HI859) (rq HO866.out) hk; replace BK868 := zs BK868 hk NB868_859; replace HO873 := zK (sA HI859) (rq HO873.out) hk; replace HO878 := zK (sA HI859) (rq HO878.out) hk; replace HO887 := zK (sA HI859) (rq HO887.out) hk; replace HB := aM hb; replace HI859 := aM hi; (try clear hb); have p34 : 0 ≤ (0 : Int) := (by omega); have q34 : (0 : Int) < ((t876.length : Int) : Int) := dt; have qi34 : (0 < t876.length) = True := eq_true (by omega); obtain ⟨go34, co34, eo34, gb34, gl34, cl34, HG34⟩ := Kd.R_form HO878.out (by omega); (first | cases eo34 | (injection eo34 with ea_ en_ ec_; (first | subst ea_ | (injection ea_ with ea_; subst ea_)); subst ec_; clear en_)); have GB34 := aM gb34; have GG34 := aM HG34; clear gb34 gl34 HG34; obtain ⟨hx34_0, hf34_0⟩ := Kd.R_celln 0 HO878.out (0 : Int) p34 q34; (try rw [show ((0 : Int)).toNat = 0 from rfl] at hx34_0); (try simp only [Nat.reduceMul, Nat.zero_mul, Nat.zero_add, Nat.reduceAdd] at hx34_0); (try rw [show ((0 : Int)).toNat = 0 from rfl] at hf34_0); (try simp only [Nat.reduceMul, Nat.zero_mul, Nat.zero_add, Nat.reduceAdd] at hf34_0); replace p34 := eq_true p34; replace q34 := eq_true q34; have n_ := aM (rM (ok' := (fun k_ => nS Ao42 t861 co42 k_ ∧ nS Ao43 t864 co43 k_ ∧ nS Ao46 y871 co46 k_ ∧ nS Ao53 y885 co53 k_)) HO878.out jq); clear HO878; have HO878 := n_; clear n_; obtain ⟨hy55_, hz55_⟩ := Kd.R_celln 0 HO878.out (0 : Int) (by omega) (dt); (try simp only [Int.reduceToNat, Int.toNat_zero, Int.toNat_ofNat, Nat.reduceMul, Nat.zero_mul, Nat.zero_add] at hy55_ hz55_); (try rw [show ((0 : Int)).toNat = 0 from rfl] at hy55_); (try rw [show ((0 : Int)).toNat = 0 from rfl] at hz55_); have HP55 := Kd.R_putg HO878.out (0 : Int) t888) | ((with_reducible refine gate_store (t := 2) (p := 36) rfl ?_); refine store_event (t := 2) (p := 36) (v := ?vo_w56) (w1 := (w54.setCell ⟨go34, (0 : Int).toNat, none⟩ (.int .i64 t888))) ?hg ?ho ?hn ?hr ?_; (case ho => rfl); (case hg => rfl); (case hn => rfl); (case hr => first | (go_simp; done) | (go_simp; rfl)); intro w56 hw; have hg : w54.grownBy w56 (some go34) := (by rw [hw]; exact HP55.2); have hp_ : Kd.R (Kd.int .i64) 2 w56 w.heap.size (fun k_ => nS Ao42 t861 co42 k_ ∧ nS Ao43 t864 co43 k_ ∧ nS Ao46 y871 co46 k_ ∧ nS Ao53 y885 co53 k_) (.slice (some ⟨go34, 0, none⟩) t876.length co50) y890 := (by rw [hw, Ny890.out]; exact HP55.1); clear HP55; replace BK856 := aM (blk_grown (kq BK856.out) hg (Kd.R_ne HO878.out BK856.out (by decide))); replace HI859 := aM (IsS149.grown (sq HI859.out) hg (IsS149.own_ne HI859.out HO878.out (by decide))); replace HO863 := aM (Kd.R_after (v := (.slice (some ⟨go34, 0, none⟩) t876.length co50)) (v1 := (.slice (some ⟨go34, 0, none⟩) t876.length co50)) (ok := (fun k_ => nS Ao43 t864 co43 k_ ∧ nS Ao46 y871 co46 k_ ∧ nS Ao53 y885 co53 k_)) (rq (rM HO863.out jq)) hg (.inl rfl)); replace HO866 := aM (Kd.R_after (v := (.slice (some ⟨go34, 0, none⟩) t876.length co50)) (v1 := (.slice (some ⟨go34, 0, none⟩) t876.length co50)) (ok := (fun k_ => nS Ao42 t861 co42 k_ ∧ nS Ao46 y871 co46 k_ ∧ nS Ao53 y885 co53 k_)) (rq (rM HO866.out jq)) hg (.inl rfl)); replace BK868 := aM (blk_grown (kq BK868.out) hg (Kd.R_ne HO878.out BK868.out (by decide))); replace HO873 := aM (Kd.R_after (v := (.slice (some ⟨go34, 0, none⟩) t876.length co50)) (v1 := (.slice (some ⟨go34, 0, none⟩) t876.length co50)) (ok := (fun k_ => nS Ao42 t861 co42 k_ ∧ nS Ao43 t864 co43 k_ ∧ nS Ao53 y885 co53 k_)) (rq (rM HO873.out jq)) hg (.inl rfl)); replace HO878 := aM (hp_); replace HO887 := aM (Kd.R_after (v := (.slice (some ⟨go34, 0, none⟩) t876.length co50)) (v1 := (.slice (some ⟨go34, 0, none⟩) t876.length co50)) (ok := (fun k_ => nS Ao42 t861 co42 k_ ∧ nS Ao43 t864 co43 k_ ∧ nS Ao46 y871 co46 k_)) (rq (rM HO887.out jq)) hg (.inl rfl)); replace HB := aM ((by rw [hw]; exact bS (HB.out) GB34.out : Below w.heap.size w w56)); clear hg hw hp_; obtain ⟨hcz57_0, hcz57_1, hcz57_2, hfz57_0, hfz57_1, hfz57_2⟩ := b3 BK868.out; have hnb58 := NB856_859.out; have hnc58 := NB859_856.out; obtain ⟨hcz59_0, hcz59_1, hcz59_2, hfz59_0, hfz59_1, hfz59_2⟩ := b3 BK856.out))
     refine bodyPost_ret (results_ct rfl _ _ gb856 35 #[.int .i64 t860, .slice Ao42 t861.length co42, .slice Ao43 t864.length co43] (0, 0) _ rfl (fq BK856.out) Try.underlying35 rfl kr) rfl ?_
     exact ⟨_, _, _, ew, rM (rf (Kd.R_types HO863.out BK856.out (by decide))) (fun _ hk => ⟨hk.1.1.1, hk.1.2⟩), rM (rf (Kd.R_types HO866.out BK856.out (by decide))) (fun _ hk => ⟨hk.1.1.1, hk.1.2⟩), rM (rf (Kd.R_types HO878.out BK856.out (by decide))) (fun _ hk => ⟨hk.1.1, hk.1.2.1⟩), bq⟩
    ·rw [if_neg c33] at H
     exact absurd H (by simp)
   ·rw [if_neg c31] at H
    have c31b0 : decide (0 < (t876.length : Int)) = false := decide_eq_false c31
    have c31b1 : decide (0 < t876.length) = false := decide_eq_false (by omega)
    clear c31
    simp only [Option.some.injEq, Prod.mk.injEq] at H
    obtain ⟨rfl, rfl, rfl, rfl⟩ := H
    go_enter Try.func42, Try.ntmps42
    go_wp2_with (first | ((with_reducible refine gD 2 rfl ?_); refine bx 2 35 #[.int .i64 0, .slice none 0 0, .slice none 0 0] ?_; intro gb856 hg w60 hbox hb; have BK856 := aM hbox; have GW856 := gw w hg; have GE856 := GW856; replace HB := aM (bT bq hb); clear hb hbox hg) | ((with_reducible refine gC 82 rfl ?_); refine gl (some 8) Try.func82 #[.slice A0 l0.length c0] ?_; (with_reducible refine (spec_l1Source.calls _ _ l0 t857 t858 w _ ?s1 ?s2 ?s3 A2.out).mono ?_); (case s1 => exact bq); (case s2 => exact HR0.out); (case s3 => exact HC0.out); rintro e w61 ⟨g859, rfl, hi, hb, hb2⟩; refine ii ?_; replace HB := aM hb; have HI859 := aM hi; have NB859_856 := aM (IsS149.ne_blk hi (kB (kq BK856.out) hb2) (by decide)); have NB856_859 := aM (Ne.symm (IsS149.ne_blk hi (kB (kq BK856.out) hb2) (by decide))); replace BK856 := zb BK856 hb2; (try clear hb)) | ((with_reducible refine gC 91 rfl ?_); refine gl (some 10) Try.func91 #[.pointer (some ⟨g859, 0, none⟩)] ?_; (with_reducible refine (spec_l7BentSynth.calls k g859 t857 t858 t860 t861 t864 t867 w _ ?s1 ?s2 A3.out).mono ?_); (case s1 => exact sq HI859.out); (case s2 => exact bq); rintro e w62 ⟨v862, v865, rfl, ho0, ho1, hi, hb, hk⟩; refine ii ?_; replace BK856 := zs BK856 hk NB856_859; have HO863 := aM (rG ho0 (bZ bq)); have HO866 := aM (rG ho1 (bZ bq)); replace HB := aM hb; replace HI859 := aM hi; (try clear hb); (try clear ho0); (try clear ho1)) | ((with_reducible refine gD 5 rfl ?_); refine bx 5 35 #[.int .i64 0, .slice none 0 0, .slice none 0 0] ?_; intro gb868 hg w63 hbox hb; replace HO863 := zl HO863 hb; replace HO866 := zl HO866 hb; have BK868 := aM hbox; have GW868 := gw w hg; have GE868 := GW868; replace HB := aM (bT bq hb); have NB856_868 := nl BK856 hg; have NB868_856 := aM NB856_868.out.symm; replace BK856 := zb BK856 hb; have NB859_868 := aM ((by rw [hg]; exact Nat.ne_of_lt (IsS149.lt (sA HI859)) : g859 ≠ gb868)); have NB868_859 := aM NB859_868.out.symm; replace HI859 := aM (IsS149.below (sq HI859.out) hb); clear hb hbox hg; have hnb64 := NB868_856.out; have hnc64 := NB856_868.out; have hnb65 := NB868_859.out; have hnc65 := NB859_868.out; obtain ⟨hcz66_0, hcz66_1, hcz66_2, hfz66_0, hfz66_1, hfz66_2⟩ := b3 BK868.out; obtain ⟨Ao67, co67, rfl⟩ := rS HO863.out; obtain ⟨Ao68, co68, rfl⟩ := rS HO866.out) | ((with_reducible refine gC 93 rfl ?_); refine gl (some 14) Try.func93 #[.int .i64 t860, .int .i64 0] ?_; (with_reducible refine (spec_l1Max.calls t860 0 t869 _ A4.out).mono ?_); rintro e w' ⟨rfl, ⟨nd, rfl⟩⟩; refine ii ?_) | ((with_reducible refine gC 84 rfl ?_); refine gl (some 15) Try.func84 #[.int .i64 t869, .int .i64 20] ?_; (with_reducible refine (spec_l1Min.calls t869 20 t870 _ A5.out).mono ?_); rintro e w' ⟨rfl, ⟨nd, rfl⟩⟩; refine ii ?_) | ((with_reducible refine gD 17 rfl ?_); refine Kd.R_lit (Kd.int .i64) _ 2 ?hg (N := 17) ?hd (xs := ([9, 4000, 200000] : List Int)) (inner := [.int .i64 9, .int .i64 4000, .int .i64 200000]) (ok := fun _ => True) (okp := fun _ => True) ?hr ?hp (fun _ hk => hk) trivial (Below.refl _ _) (Nat.le_refl _) (by simp) ?_; (case hd => rfl); (case hg => rfl); (case hr => first | (go_simp; done) | (go_simp; rfl)); (case hp => exact (Reps.one (show Kd.M (Kd.int .i64) _ _ _ 9 [.int .i64 9] from rfl) (Reps.one (show Kd.M (Kd.int .i64) _ _ _ 4000 [.int .i64 4000] from rfl) (Reps.one (show Kd.M (Kd.int .i64) _ _ _ 200000 [.int .i64 200000] from rfl) (Reps.none _ _))))); intro v872 w69 ho70 hb hg_ hnew_; clear hg_ hnew_; rw [← Ny871.out] at ho70; have HO873 := aM (rG (rW (rW ho70 (rT (tf HO863 BK868))) (rT (tf HO866 BK868))) (bZ bq)); replace HO863 := zh (tf HO863 BK868) ho70 hb; replace HO866 := zh (tf HO866 BK868) ho70 hb; replace BK856 := aM (kB (g := gb856) (o := .cells #[.int .i64 0, .slice none 0 0, .slice none 0 0] 35 (0, 0)) (fq BK856.out) hb); replace BK868 := aM (kB (g := gb868) (o := .cells #[.int .i64 t860, .slice Ao67 t861.length co67, .slice Ao68 t864.length co68] 35 (0, 0)) (fq BK868.out) hb); replace HB := aM (bT bq hb); replace HI859 := aM (IsS149.below (sA HI859) hb); clear hb ho70; obtain ⟨Ao71, co71, rfl⟩ := rS HO873.out) | ((with_reducible refine gC 86 rfl ?_); refine gl (some 18) Try.func86 #[.pointer (some ⟨g859, 0, none⟩), .slice Ao71 y871.length co71] ?_; (with_reducible refine (spec_l1Pick.calls g859 t857 t867 _ _ y871 t874 t875 w _ ?s1 ?s2 ?s3 ?s4 ?s5 A6.out).mono ?_); (case s1 => exact sq HI859.out); (case s2 => exact bq); (case s3 => exact cq (rR HO873.out).2.2); (case s4 => exact (rR HO873.out).2.1); (case s5 => exact far_slice (IsS149.own_ne HI859.out HO873.out (by decide))); rintro e w72 ⟨rfl, hi, hb, hk⟩; refine ii ?_; replace BK856 := zs BK856 hk NB856_859; replace HO863 := zK (sA HI859) (rq HO863.out) hk; replace HO866 := zK (sA HI859) (rq HO866.out) hk; replace BK868 := zs BK868 hk NB868_859; replace HO873 := zK (sA HI859) (rq HO873.out) hk; replace HB := aM hb; replace HI859 := aM hi; (try clear hb)) | ((with_reducible refine gC 92 rfl ?_); refine gl (some 19) Try.func92 #[.pointer (some ⟨g859, 0, none⟩), .int .i64 t870, .int .i64 t874] ?_; (with_reducible refine (spec_l1DrawList.calls k g859 t857 t875 t870 t874 t876 t879 w _ ?s1 ?s2 A7.out).mono ?_); (case s1 => exact sq HI859.out); (case s2 => exact bq); rintro e w73 ⟨v877, rfl, ho0, hi, hb, hk⟩; refine ii ?_; replace BK856 := zs BK856 hk NB856_859; replace BK868 := zs BK868 hk NB868_859; have HO878 := aM (rG (wq (wq (wq ho0 HO863) HO866) HO873) (bZ bq)); replace HO863 := zO (sA HI859) (rq HO863.out) hk ho0; replace HO866 := zO (sA HI859) (rq HO866.out) hk ho0; replace HO873 := zO (sA HI859) (rq HO873.out) hk ho0; replace HB := aM hb; replace HI859 := aM hi; (try clear hb); (try clear ho0)) | ((with_reducible refine gC 94 rfl ?_); refine gl (some 21) Try.func94 #[.pointer (some ⟨g859, 0, none⟩), .int .i64 12] ?_; (with_reducible refine (spec_l1Next.calls g859 t857 t879 12 t880 t881 w _ ?s1 ?s2 A8.out).mono ?_); (case s1 => exact sq HI859.out); (case s2 => exact bq); rintro e w74 ⟨rfl, hi, hb, hk⟩; refine ii ?_; replace BK856 := zs BK856 hk NB856_859; replace HO863 := zK (sA HI859) (rq HO863.out) hk; replace HO866 := zK (sA HI859) (rq HO866.out) hk; replace BK868 := zs BK868 hk NB868_859; replace HO873 := zK (sA HI859) (rq HO873.out) hk; replace HO878 := zK (sA HI859) (rq HO878.out) hk; replace HB := aM hb; replace HI859 := aM hi; (try clear hb); obtain ⟨Ao75, co75, rfl⟩ := rS HO878.out; obtain ⟨hcz76_0, hcz76_1, hcz76_2, hfz76_0, hfz76_1, hfz76_2⟩ := b3 BK868.out; have hnb77 := NB856_859.out; have hnc77 := NB859_856.out; obtain ⟨hcz78_0, hcz78_1, hcz78_2, hfz78_0, hfz78_1, hfz78_2⟩ := b3 BK856.out))
    refine bodyPost_ret (results_ct rfl _ _ gb856 35 #[.int .i64 t860, .slice Ao67 t861.length co67, .slice Ao68 t864.length co68] (0, 0) _ rfl (fq BK856.out) Try.underlying35 rfl kr) rfl ?_
    exact ⟨_, _, _, ew, rM (rf (Kd.R_types HO863.out BK856.out (by decide))) (fun _ hk => ⟨hk.1.1.1, hk.1.2⟩), rM (rf (Kd.R_types HO866.out BK856.out (by decide))) (fun _ hk => ⟨hk.1.1.1, hk.1.2⟩), rM (rf (Kd.R_types HO878.out BK856.out (by decide))) (fun _ hk => ⟨hk.1.1.1.2, hk.1.1.2⟩), bq⟩
  ·rw [if_neg c30] at H
   have c30b0 := eF c30
   have c30b1 := nT c30
   simp only [Option.some.injEq, Prod.mk.injEq] at H
   obtain ⟨rfl, rfl, rfl, rfl⟩ := H
   go_enter Try.func42, Try.ntmps42
   go_wp2_with (first | ((with_reducible refine gD 2 rfl ?_); refine bx 2 35 #[.int .i64 0, .slice none 0 0, .slice none 0 0] ?_; intro gb856 hg w79 hbox hb; have BK856 := aM hbox; have GW856 := gw w hg; have GE856 := GW856; replace HB := aM (bT bq hb); clear hb hbox hg) | ((with_reducible refine gC 82 rfl ?_); refine gl (some 8) Try.func82 #[.slice A0 l0.length c0] ?_; (with_reducible refine (spec_l1Source.calls _ _ l0 t857 t858 w _ ?s1 ?s2 ?s3 A2.out).mono ?_); (case s1 => exact bq); (case s2 => exact HR0.out); (case s3 => exact HC0.out); rintro e w80 ⟨g859, rfl, hi, hb, hb2⟩; refine ii ?_; replace HB := aM hb; have HI859 := aM hi; have NB859_856 := aM (IsS149.ne_blk hi (kB (kq BK856.out) hb2) (by decide)); have NB856_859 := aM (Ne.symm (IsS149.ne_blk hi (kB (kq BK856.out) hb2) (by decide))); replace BK856 := zb BK856 hb2; (try clear hb)) | ((with_reducible refine gC 91 rfl ?_); refine gl (some 10) Try.func91 #[.pointer (some ⟨g859, 0, none⟩)] ?_; (with_reducible refine (spec_l7BentSynth.calls k g859 t857 t858 t860 t861 t864 t867 w _ ?s1 ?s2 A3.out).mono ?_); (case s1 => exact sq HI859.out); (case s2 => exact bq); rintro e w81 ⟨v862, v865, rfl, ho0, ho1, hi, hb, hk⟩; refine ii ?_; replace BK856 := zs BK856 hk NB856_859; have HO863 := aM (rG ho0 (bZ bq)); have HO866 := aM (rG ho1 (bZ bq)); replace HB := aM hb; replace HI859 := aM hi; (try clear hb); (try clear ho0); (try clear ho1)) | ((with_reducible refine gD 5 rfl ?_); refine bx 5 35 #[.int .i64 0, .slice none 0 0, .slice none 0 0] ?_; intro gb868 hg w82 hbox hb; replace HO863 := zl HO863 hb; replace HO866 := zl HO866 hb; have BK868 := aM hbox; have GW868 := gw w hg; have GE868 := GW868; replace HB := aM (bT bq hb); have NB856_868 := nl BK856 hg; have NB868_856 := aM NB856_868.out.symm; replace BK856 := zb BK856 hb; have NB859_868 := aM ((by rw [hg]; exact Nat.ne_of_lt (IsS149.lt (sA HI859)) : g859 ≠ gb868)); have NB868_859 := aM NB859_868.out.symm; replace HI859 := aM (IsS149.below (sq HI859.out) hb); clear hb hbox hg; have hnb83 := NB868_856.out; have hnc83 := NB856_868.out; have hnb84 := NB868_859.out; have hnc84 := NB859_868.out; obtain ⟨hcz85_0, hcz85_1, hcz85_2, hfz85_0, hfz85_1, hfz85_2⟩ := b3 BK868.out; obtain ⟨Ao86, co86, rfl⟩ := rS HO863.out; obtain ⟨Ao87, co87, rfl⟩ := rS HO866.out) | ((with_reducible refine gC 93 rfl ?_); refine gl (some 14) Try.func93 #[.int .i64 t860, .int .i64 0] ?_; (with_reducible refine (spec_l1Max.calls t860 0 t869 _ A4.out).mono ?_); rintro e w' ⟨rfl, ⟨nd, rfl⟩⟩; refine ii ?_) | ((with_reducible refine gC 84 rfl ?_); refine gl (some 15) Try.func84 #[.int .i64 t869, .int .i64 20] ?_; (with_reducible refine (spec_l1Min.calls t869 20 t870 _ A5.out).mono ?_); rintro e w' ⟨rfl, ⟨nd, rfl⟩⟩; refine ii ?_) | ((with_reducible refine gD 17 rfl ?_); refine Kd.R_lit (Kd.int .i64) _ 2 ?hg (N := 17) ?hd (xs := ([9, 4000, 200000] : List Int)) (inner := [.int .i64 9, .int .i64 4000, .int .i64 200000]) (ok := fun _ => True) (okp := fun _ => True) ?hr ?hp (fun _ hk => hk) trivial (Below.refl _ _) (Nat.le_refl _) (by simp) ?_; (case hd => rfl); (case hg => rfl); (case hr => first | (go_simp; done) | (go_simp; rfl)); (case hp => exact (Reps.one (show Kd.M (Kd.int .i64) _ _ _ 9 [.int .i64 9] from rfl) (Reps.one (show Kd.M (Kd.int .i64) _ _ _ 4000 [.int .i64 4000] from rfl) (Reps.one (show Kd.M (Kd.int .i64) _ _ _ 200000 [.int .i64 200000] from rfl) (Reps.none _ _))))); intro v872 w88 ho89 hb hg_ hnew_; clear hg_ hnew_; rw [← Ny871.out] at ho89; have HO873 := aM (rG (rW (rW ho89 (rT (tf HO863 BK868))) (rT (tf HO866 BK868))) (bZ bq)); replace HO863 := zh (tf HO863 BK868) ho89 hb; replace HO866 := zh (tf HO866 BK868) ho89 hb; replace BK856 := aM (kB (g := gb856) (o := .cells #[.int .i64 0, .slice none 0 0, .slice none 0 0] 35 (0, 0)) (fq BK856.out) hb); replace BK868 := aM (kB (g := gb868) (o := .cells #[.int .i64 t860, .slice Ao86 t861.length co86, .slice Ao87 t864.length co87] 35 (0, 0)) (fq BK868.out) hb); replace HB := aM (bT bq hb); replace HI859 := aM (IsS149.below (sA HI859) hb); clear hb ho89; obtain ⟨Ao90, co90, rfl⟩ := rS HO873.out) | ((with_reducible refine gC 86 rfl ?_); refine gl (some 18) Try.func86 #[.pointer (some ⟨g859, 0, none⟩), .slice Ao90 y871.length co90] ?_; (with_reducible refine (spec_l1Pick.calls g859 t857 t867 _ _ y871 t874 t875 w _ ?s1 ?s2 ?s3 ?s4 ?s5 A6.out).mono ?_); (case s1 => exact sq HI859.out); (case s2 => exact bq); (case s3 => exact cq (rR HO873.out).2.2); (case s4 => exact (rR HO873.out).2.1); (case s5 => exact far_slice (IsS149.own_ne HI859.out HO873.out (by decide))); rintro e w91 ⟨rfl, hi, hb, hk⟩; refine ii ?_; replace BK856 := zs BK856 hk NB856_859; replace HO863 := zK (sA HI859) (rq HO863.out) hk; replace HO866 := zK (sA HI859) (rq HO866.out) hk; replace BK868 := zs BK868 hk NB868_859; replace HO873 := zK (sA HI859) (rq HO873.out) hk; replace HB := aM hb; replace HI859 := aM hi; (try clear hb)) | ((with_reducible refine gC 92 rfl ?_); refine gl (some 19) Try.func92 #[.pointer (some ⟨g859, 0, none⟩), .int .i64 t870, .int .i64 t874] ?_; (with_reducible refine (spec_l1DrawList.calls k g859 t857 t875 t870 t874 t876 t879 w _ ?s1 ?s2 A7.out).mono ?_); (case s1 => exact sq HI859.out); (case s2 => exact bq); rintro e w92 ⟨v877, rfl, ho0, hi, hb, hk⟩; refine ii ?_; replace BK856 := zs BK856 hk NB856_859; replace BK868 := zs BK868 hk NB868_859; have HO878 := aM (rG (wq (wq (wq ho0 HO863) HO866) HO873) (bZ bq)); replace HO863 := zO (sA HI859) (rq HO863.out) hk ho0; replace HO866 := zO (sA HI859) (rq HO866.out) hk ho0; replace HO873 := zO (sA HI859) (rq HO873.out) hk ho0; replace HB := aM hb; replace HI859 := aM hi; (try clear hb); (try clear ho0)) | ((with_reducible refine gC 94 rfl ?_); refine gl (some 21) Try.func94 #[.pointer (some ⟨g859, 0, none⟩), .int .i64 12] ?_; (with_reducible refine (spec_l1Next.calls g859 t857 t879 12 t880 t881 w _ ?s1 ?s2 A8.out).mono ?_); (case s1 => exact sq HI859.out); (case s2 => exact bq); rintro e w93 ⟨rfl, hi, hb, hk⟩; refine ii ?_; replace BK856 := zs BK856 hk NB856_859; replace HO863 := zK (sA HI859) (rq HO863.out) hk; replace HO866 := zK (sA HI859) (rq HO866.out) hk; replace BK868 := zs BK868 hk NB868_859; replace HO873 := zK (sA HI859) (rq HO873.out) hk; replace HO878 := zK (sA HI859) (rq HO878.out) hk; replace HB := aM hb; replace HI859 := aM hi; (try clear hb); obtain ⟨hcz94_0, hcz94_1, hcz94_2, hfz94_0, hfz94_1, hfz94_2⟩ := b3 BK868.out; have hnb95 := NB856_859.out; have hnc95 := NB859_856.out; obtain ⟨hcz96_0, hcz96_1, hcz96_2, hfz96_0, hfz96_1, hfz96_2⟩ := b3 BK856.out))
   refine bodyPost_ret (results_ct rfl _ _ gb856 35 #[.int .i64 t860, .slice Ao86 t861.length co86, .slice Ao87 t864.length co87] (0, 0) _ rfl (fq BK856.out) Try.underlying35 rfl kr) rfl ?_
   exact ⟨_, _, _, ew, rM (rf (Kd.R_types HO863.out BK856.out (by decide))) (fun _ hk => ⟨hk.1.1.1, hk.1.2⟩), rM (rf (Kd.R_types HO866.out BK856.out (by decide))) (fun _ hk => ⟨hk.1.1.1, hk.1.2⟩), rM (rf (Kd.R_types HO878.out BK856.out (by decide))) (fun _ hk => ⟨hk.1.1.1.2, hk.1.1.2⟩), bq⟩
end Go.Proofs.Ytmhnpogjkbmmnaa.PFnStates
