import Derived.Test.YtmhnpogjkbmmnaaPFnStatesx0
import Derived.Test.YtmhnpogjkbmmnaaPFnStatesx5
import Derived.Test.YtmhnpogjkbmmnaaPFnStatesx7
import Derived.Test.YtmhnpogjkbmmnaaPFnStatesx11
import Derived.Test.YtmhnpogjkbmmnaaPFnStatesx15
import Derived.Test.YtmhnpogjkbmmnaaPFnStatesx16
import Derived.Test.YtmhnpogjkbmmnaaPFnStatesx20
import Derived.Test.YtmhnpogjkbmmnaaPFnStatesx21
import Derived.Test.YtmhnpogjkbmmnaaPFnStatesx23
import Derived.Test.YtmhnpogjkbmmnaaPFnStatesx24
import Derived.Test.YtmhnpogjkbmmnaaPFnStatesx25
namespace Go.Proofs.Ytmhnpogjkbmmnaa.PFnStates
open Go.RowKit Go.Proofs.YtmhnpogjkbmmnaaW.PrintWords Go.Proofs.YtmhnpogjkbmmnaaW.PrintLast Go.Proofs.YtmhnpogjkbmmnaaW.PrintMore
open Go.Proofs.YtmhnpogjkbmmnaaW.PrintWords.Kd renaming R_alloc → rA, R_drewN → rN, R_drew → rD, R_far → rF, R_mono → rM, R_base → rB, R_new' → rW, R_below → rL, R_lt → rT, R_lower → rG, R_reads' → rR, C_below → cB
open Go.Proofs.YtmhnpogjkbmmnaaW.PrintMore.Kd renaming R_told → rO, R_old → rE
open Go.Proofs.YtmhnpogjkbmmnaaW.PrintWords renaming below_alloc → bA, pw_below_drewN → bN, below_drew1 → bD, below_set → bS, below_step → bT, below_size → bZ, blk_drewN → kN, blk_drew → kD, blk_alloc → kA, blk_below → kB, blk_cell → kC, blk_frozen → kF
open Go.Proofs.YtmhnpogjkbmmnaaW.PrintWords.Aside0 renaming mk → aM
attribute [local go_sem] max2_int min2_int max_two min_two max_three min_three max_four min_four
set_option maxHeartbeats 8000000
set_option maxRecDepth 100000
set_option linter.unusedVariables false
set_option linter.unusedSimpArgs false
mutual
def laws_FnStates.j0 : Nat → List Int → List Int → Bool → Int → List Int → List Int → Int → Int → List Int → List Int → List Int → Int → List Int → List Int → Int → Int → List Int → List Int → List Int → Option (Bool)
 | 0, _, _, _, _, _, _, _, _, _, _, _, _, _, _, _, _, _, _, _ => none
 | k + 1, x4, x7, x42, x915000, x915001, x915002, x927000, x927001, x927002, x927003, x927004, x938000, x938001, x938002, x950000, x950001, x950002, x950003, x950004 => if x42 = true then (some false) else (if x927000 = 0 then ((impl_LapFault.f k x927001 x927002 x927003).bind fun t972 => (if t972 = 0 then ((spec_FeedFrame.f k x915000 x915001 x915002 x4).bind fun bt973 => ((laws_lwNums.f k x927004 bt973.2.2.2.2).bind fun t984 => (if t984 = true then ((spec_FeedFrame.f k x915000 x915001 x915002 x4).bind fun bt985 => ((impl_SameLaps.f k x927001 x927002 x927003 bt985.2.1 bt985.2.2.1 bt985.2.2.2.1).bind fun t996 => (laws_FnStates.j1 k x7 (!t996) x938000 x938001 x938002 x950000 x950001 x950002 x950003 x950004))) else (laws_FnStates.j1 k x7 true x938000 x938001 x938002 x950000 x950001 x950002 x950003 x950004)))) else (laws_FnStates.j1 k x7 true x938000 x938001 x938002 x950000 x950001 x950002 x950003 x950004))) else (laws_FnStates.j1 k x7 false x938000 x938001 x938002 x950000 x950001 x950002 x950003 x950004))
def laws_FnStates.j1 : Nat → List Int → Bool → Int → List Int → List Int → Int → Int → List Int → List Int → List Int → Option (Bool)
 | 0, _, _, _, _, _, _, _, _, _, _ => none
 | k + 1, x7, x71, x938000, x938001, x938002, x950000, x950001, x950002, x950003, x950004 => if x71 = true then (some false) else (if x950000 = 0 then ((impl_SynthFault.f k x950001 x950002 x950003).bind fun t997 => (if t997 = 0 then ((spec_PlayBlock.f k x938000 x938001 x938002 x7).bind fun bt998 => ((laws_lwNums.f k x950004 bt998.2.2.2.2).bind fun t1009 => (if t1009 = true then ((spec_PlayBlock.f k x938000 x938001 x938002 x7).bind fun bt1010 => ((impl_SameSynths.f k x950001 x950002 x950003 bt1010.2.1 bt1010.2.2.1 bt1010.2.2.2.1).bind fun t1021 => (some t1021))) else (some false)))) else (some false))) else (some true))
end
def laws_FnStates.f (k : Nat) (l0 : List Int) : Option (Bool) := (laws_lwBig.f l0).bind fun t903 => (if t903 = true then (some true) else ((spec_DrawFeedFrame.f k l0).bind fun bt904 => ((impl_FeedFrame.f k bt904.1 bt904.2.1 bt904.2.2.1 bt904.2.2.2).bind fun bt915 => ((spec_DrawPlayBlock.f k l0).bind fun bt927 => ((impl_PlayBlock.f k bt927.1 bt927.2.1 bt927.2.2.1 bt927.2.2.2).bind fun bt938 => ((spec_FeedFrame.f k bt904.1 bt904.2.1 bt904.2.2.1 bt904.2.2.2).bind fun bt950 => (if bt915.1 = bt950.1 then ((spec_PlayBlock.f k bt927.1 bt927.2.1 bt927.2.2.1 bt927.2.2.2).bind fun bt961 => (laws_FnStates.j0 k bt904.2.2.2 bt927.2.2.2 (bt938.1 != bt961.1) bt904.1 bt904.2.1 bt904.2.2.1 bt915.1 bt915.2.1 bt915.2.2.1 bt915.2.2.2.1 bt915.2.2.2.2 bt927.1 bt927.2.1 bt927.2.2.1 bt938.1 bt938.2.1 bt938.2.2.1 bt938.2.2.2.1 bt938.2.2.2.2)) else (laws_FnStates.j0 k bt904.2.2.2 bt927.2.2.2 true bt904.1 bt904.2.1 bt904.2.2.1 bt915.1 bt915.2.1 bt915.2.2.1 bt915.2.2.2.1 bt915.2.2.2.2 bt927.1 bt927.2.1 bt927.2.2.1 bt938.1 bt938.2.1 bt938.2.2.1 bt938.2.2.2.1 bt938.2.2.2.2))))))))
def laws_FnStates.T7 : Bool × List (List Nat × List Nat) := (true, [([], []), ([0], [0]), ([], []), ([], []), ([2, 3], [2, 3]), ([4], [4]), ([1, 5], [1, 5]), ([6, 4], [6]), ([7], [7]), ([8, 7], [7, 8]), ([7], [7]), ([7], [7]), ([10, 11, 7, 7], [7, 10, 11]), ([12, 7], [7, 12]), ([9, 13, 7], [7, 9, 13]), ([7, 14], [7, 14])])
def laws_FnStates.B7 : List Nat := [0, 1, 0, 0, 12, 28, 63, 127, 255, 511, 255, 255, 3327, 7423, 16383, 32767]
theorem laws_FnStates.tab7 : rtab .any (opsOf Try.f7 7) = laws_FnStates.T7 := by kernel_rfl
theorem laws_FnStates.bits7 : waitsOk laws_FnStates.T7.2 laws_FnStates.B7 = true := by kernel_rfl
def laws_FnStates.T9 : Bool × List (List Nat × List Nat) := (true, [([], []), ([0], [0]), ([1], [1]), ([2], [2]), ([3], [3]), ([4, 3], [3, 4]), ([5, 3, 3], [3, 5]), ([6, 3], [3, 6]), ([7, 6, 3], [3, 7]), ([8], [8]), ([9, 8], [8, 9]), ([8], [8]), ([8], [8]), ([11, 12, 8, 8], [8, 11, 12]), ([13, 8], [8, 13]), ([10, 14, 13, 8], [8, 10, 14]), ([15, 8], [8, 15]), ([8, 16, 3], [3, 8, 16]), ([17, 15, 3], [3, 17]), ([18], [18]), ([19, 18], [18, 19]), ([18], [18]), ([18], [18]), ([21, 22, 18, 18], [18, 21, 22]), ([23, 18], [18, 23]), ([20, 24, 23, 18], [18, 20, 24]), ([25, 18], [18, 25]), ([18, 26, 3], [3, 18, 26]), ([3, 27], [3, 27])])
def laws_FnStates.B9 : List Nat := [0, 1, 3, 7, 15, 31, 63, 127, 255, 511, 1023, 511, 511, 6655, 14847, 32767, 65535, 131071, 262143, 524287, 1048575, 524287, 524287, 6815743, 15204351, 33554431, 67108863, 134217727, 268435455]
theorem laws_FnStates.tab9 : rtab .any (opsOf Try.f7 9) = laws_FnStates.T9 := by kernel_rfl
theorem laws_FnStates.bits9 : waitsOk laws_FnStates.T9.2 laws_FnStates.B9 = true := by kernel_rfl
def laws_FnStates.T11 : Bool × List (List Nat × List Nat) := (true, [([], []), ([0], [0]), ([1], [1]), ([2], [2]), ([3], [3]), ([4, 3], [3, 4]), ([5, 3, 3], [3, 5]), ([6, 3], [3, 6]), ([7, 6, 3], [3, 7]), ([8], [8]), ([9, 8], [8, 9]), ([8], [8]), ([8], [8]), ([11, 12, 8, 8], [8, 11, 12]), ([13, 8], [8, 13]), ([10, 14, 13, 8], [8, 10, 14]), ([8, 15, 3], [3, 8, 15]), ([16, 15, 3], [3, 16]), ([17], [17]), ([18, 17], [17, 18]), ([17], [17]), ([17], [17]), ([20, 21, 17, 17], [17, 20, 21]), ([22, 17], [17, 22]), ([19, 23, 22, 17], [17, 19, 23]), ([17, 24, 3], [3, 17, 24]), ([3, 25], [3, 25]), ([26, 24, 0, 1, 2, 3, 4, 5, 6, 7, 8, 9, 10, 11, 12, 13, 14, 15, 16, 17, 18, 19, 20, 21, 22, 23, 24, 25, 26], [26])])
def laws_FnStates.B11 : List Nat := [0, 1, 3, 7, 15, 31, 63, 127, 255, 511, 1023, 511, 511, 6655, 14847, 32767, 65535, 131071, 262143, 524287, 262143, 262143, 3407871, 7602175, 16777215, 33554431, 67108863, 134217727]
theorem laws_FnStates.tab11 : rtab .any (opsOf Try.f7 11) = laws_FnStates.T11 := by kernel_rfl
theorem laws_FnStates.bits11 : waitsOk laws_FnStates.T11.2 laws_FnStates.B11 = true := by kernel_rfl
theorem laws_FnStates.calls (k : Nat) (A0 : Option Addr) (c0 : Nat) (l0 : List Int) (r : Bool) (w : World) (hr0 : Kd.C (Kd.int .u8) w A0 l0.length l0) (hc0 : l0.length ≤ c0) (h : laws_FnStates.f k l0 = some r) (hlaw : r = true := by rfl) :
  Calls Try.prog 7 #[.slice A0 l0.length c0] w fun e w' => e = .returned (.bool r) ∧ Below w.heap.size w w' := by
 have hu48 := Try.underlying48
 have hu50 := Try.underlying50
 have hu35 := Try.underlying35
 have hu37 := Try.underlying37
 have hfd50_0 : ∀ (x0 x1 x2 x3 x4 : Value) (W : World), (Instr.field 50 (.agg #[x0, x1, x2, x3, x4]) 0).run Try.prog W = .ok (x0) W := fun _ _ _ _ _ _ => by kernel_rfl
 have hfd37_0 : ∀ (x0 x1 x2 x3 x4 : Value) (W : World), (Instr.field 37 (.agg #[x0, x1, x2, x3, x4]) 0).run Try.prog W = .ok (x0) W := fun _ _ _ _ _ _ => by kernel_rfl
 have hfd50_2 : ∀ (x0 x1 x2 x3 x4 : Value) (W : World), (Instr.field 50 (.agg #[x0, x1, x2, x3, x4]) 2).run Try.prog W = .ok (x4) W := fun _ _ _ _ _ _ => by kernel_rfl
 have hfd50_1 : ∀ (x0 x1 x2 x3 x4 : Value) (W : World), (Instr.field 50 (.agg #[x0, x1, x2, x3, x4]) 1).run Try.prog W = .ok (.agg #[x1, x2, x3]) W := fun _ _ _ _ _ _ => by kernel_rfl
 have hfd37_2 : ∀ (x0 x1 x2 x3 x4 : Value) (W : World), (Instr.field 37 (.agg #[x0, x1, x2, x3, x4]) 2).run Try.prog W = .ok (x4) W := fun _ _ _ _ _ _ => by kernel_rfl
 have hfd37_1 : ∀ (x0 x1 x2 x3 x4 : Value) (W : World), (Instr.field 37 (.agg #[x0, x1, x2, x3, x4]) 1).run Try.prog W = .ok (.agg #[x1, x2, x3]) W := fun _ _ _ _ _ _ => by kernel_rfl
 have HLAW := aM hlaw
 clear hlaw
 have HR0 := aM hr0
 have HC0 := aM hc0
 clear hr0 hc0
 have HB := aM (Below.refl w.heap.size w)
 unfold laws_FnStates.f at h
 have H := h
 clear h
 replace H := bo H
 obtain ⟨t903, A2, H⟩ := H
 replace H := bz H
 by_cases c3 : t903 = true
 ·subst c3
  have H1 : (some true) = some r := by rw [if_pos rfl] at H; exact H
  clear H
  have H := H1
  clear H1
  obtain rfl := Option.some.inj H
  go_enter Try.func7, Try.ntmps7
  go_wp2_with (first | ((with_reducible refine gC 35 rfl ?_); refine gl (some 10) Try.func35 #[.slice A0 l0.length c0] ?_; (with_reducible refine (laws_lwBig.calls _ _ l0 true _ ?s1 ?s2 A2.out).mono ?_); (case s1 => exact cq HR0.out); (case s2 => exact HC0.out); rintro e w' ⟨rfl, ⟨nd, rfl⟩⟩; refine ii ?_))
  go_ret
  exact ⟨ew, bq⟩
 ·replace c3 := Bool.eq_false_iff.mpr c3
  subst c3
  have H1 : ((spec_DrawFeedFrame.f k l0).bind fun bt904 => ((impl_FeedFrame.f k bt904.1 bt904.2.1 bt904.2.2.1 bt904.2.2.2).bind fun bt915 => ((spec_DrawPlayBlock.f k l0).bind fun bt927 => ((impl_PlayBlock.f k bt927.1 bt927.2.1 bt927.2.2.1 bt927.2.2.2).bind fun bt938 => ((spec_FeedFrame.f k bt904.1 bt904.2.1 bt904.2.2.1 bt904.2.2.2).bind fun bt950 => (if bt915.1 = bt950.1 then ((spec_PlayBlock.f k bt927.1 bt927.2.1 bt927.2.2.1 bt927.2.2.2).bind fun bt961 => (laws_FnStates.j0 k bt904.2.2.2 bt927.2.2.2 (bt938.1 != bt961.1) bt904.1 bt904.2.1 bt904.2.2.1 bt915.1 bt915.2.1 bt915.2.2.1 bt915.2.2.2.1 bt915.2.2.2.2 bt927.1 bt927.2.1 bt927.2.2.1 bt938.1 bt938.2.1 bt938.2.2.1 bt938.2.2.2.1 bt938.2.2.2.2)) else (laws_FnStates.j0 k bt904.2.2.2 bt927.2.2.2 true bt904.1 bt904.2.1 bt904.2.2.1 bt915.1 bt915.2.1 bt915.2.2.1 bt915.2.2.2.1 bt915.2.2.2.2 bt927.1 bt927.2.1 bt927.2.2.1 bt938.1 bt938.2.1 bt938.2.2.1 bt938.2.2.2.1 bt938.2.2.2.2))))))) = some r := by rw [if_neg (show ¬ (false = true) by decide)] at H; exact H
  clear H
  have H := H1
  clear H1
  replace H := bo H
  obtain ⟨⟨t904, t905, t908, t911⟩, A4, H⟩ := H
  replace H := bz H
  replace H := bo H
  obtain ⟨⟨t915, t916, t917, t920, t923⟩, A5, H⟩ := H
  replace H := bz H
  replace H := bo H
  obtain ⟨⟨t927, t928, t931, t934⟩, A6, H⟩ := H
  replace H := bz H
  replace H := bo H
  obtain ⟨⟨t938, t939, t940, t943, t946⟩, A7, H⟩ := H
  replace H := bz H
  have HC8 := aM H
  clear H
  go_enter Try.func7, Try.ntmps7
  go_upto_region 7 with (first | ((with_reducible refine gC 35 rfl ?_); refine gl (some 10) Try.func35 #[.slice A0 l0.length c0] ?_; (with_reducible refine (laws_lwBig.calls _ _ l0 false _ ?s1 ?s2 A2.out).mono ?_); (case s1 => exact cq HR0.out); (case s2 => exact HC0.out); rintro e w' ⟨rfl, ⟨nd, rfl⟩⟩; refine ii ?_) | ((with_reducible refine gC 41 rfl ?_); refine gl (some 13) Try.func41 #[.slice A0 l0.length c0] ?_; (with_reducible refine (spec_DrawFeedFrame.calls k _ _ l0 t904 t905 t908 t911 _ ?s1 ?s2 A4.out).mono ?_); (case s1 => exact cq HR0.out); (case s2 => exact HC0.out); rintro e w9 ⟨v906, v909, v912, rfl, ho0, ho1, ho2, hb⟩; refine ii ?_; have HO907 := aM (Kd.Q_lower ho0 (bZ bq)); have HO910 := aM (rG ho1 (bZ bq)); have HO913 := aM (rG ho2 (bZ bq)); replace HB := aM (bT bq hb); (try clear hb); (try clear ho0); (try clear ho1); (try clear ho2)) | ((with_reducible refine gD 3 rfl ?_); refine bx 3 48 #[.int .i64 0, .slice none 0 0, .slice none 0 0] ?_; intro gb914 hg w10 hbox hb; replace HO907 := aM (Kd.Q_below (oq HO907.out) hb); replace HO910 := zl HO910 hb; replace HO913 := zl HO913 hb; have BK914 := aM hbox; have GW914 := gw w hg; have GE914 := GW914; replace HB := aM (bT bq hb); clear hb hbox hg; obtain ⟨hcz11_0, hcz11_1, hcz11_2, hfz11_0, hfz11_1, hfz11_2⟩ := b3 BK914.out; obtain ⟨Ao12, co12, eo12, _⟩ := Kd.Q_slice HO907.out; subst eo12; obtain ⟨Ao13, co13, rfl⟩ := rS HO910.out; obtain ⟨Ao14, co14, rfl⟩ := rS HO913.out) | ((with_reducible refine gC 29 rfl ?_); refine gl (some 18) Try.func29 #[.agg #[.int .i64 t904, .slice Ao12 t905.length co12, .slice Ao13 t908.length co13], .slice Ao14 t911.length co14] ?_; (with_reducible refine (impl_FeedFrame.calls k t904 _ _ t905 _ _ t908 _ _ t911 t915 t916 t917 t920 t923 _ ?s1 ?s2 ?s3 ?s4 ?s5 ?s6 A5.out).mono ?_); (case s1 => refine (Kd.Q_reads' (e := 2) (base := w.heap.size) (ok := fun k_ => (nS Ao13 t908 co13 k_ ∧ nS Ao14 t911 co14 k_)) (n := t905.length) (c := co12) ?_).2.2; exact (oq ((Kd.Q_mono (Kd.Q_far (p := ⟨gb914, 2, none⟩) (Kd.Q_far (p := ⟨gb914, 1, none⟩) (Kd.Q_far (p := ⟨gb914, 0, none⟩) (Kd.Q_types HO907.out BK914.out (by decide)) (fun _ hk => hk.2) (.int .i64 t904)) (fun _ hk => hk.2) (.slice Ao12 t905.length co12)) (fun _ hk => hk.2) (.slice Ao13 t908.length co13)) (fun _ h_ => h_.1))))); (case s2 => exact (Kd.Q_reads' HO907.out).2.1); (case s3 => refine (rR (e := 2) (base := w.heap.size) (ok := fun k_ => (nS Ao12 t905 co12 k_ ∧ nS Ao14 t911 co14 k_)) (n := t908.length) (c := co13) ?_).2.2; exact (tf HO910 BK914)); (case s4 => exact (rR HO910.out).2.1); (case s5 => refine (rR (e := 2) (base := w.heap.size) (ok := fun k_ => (nS Ao12 t905 co12 k_ ∧ nS Ao13 t908 co13 k_)) (n := t911.length) (c := co14) ?_).2.2; exact (tf HO913 BK914)); (case s6 => exact (rR HO913.out).2.1); rintro e w15 ⟨v918, v921, v924, rfl, ho0, ho1, ho2, hb⟩; refine ii ?_; have HO919 := aM (rG (rW (rW (rW ho0 (Kd.Q_lt (oq ((Kd.Q_mono (Kd.Q_far (p := ⟨gb914, 2, none⟩) (Kd.Q_far (p := ⟨gb914, 1, none⟩) (Kd.Q_far (p := ⟨gb914, 0, none⟩) (Kd.Q_types HO907.out BK914.out (by decide)) (fun _ hk => hk.2) (.int .i64 t904)) (fun _ hk => hk.2) (.slice Ao12 t905.length co12)) (fun _ hk => hk.2) (.slice Ao13 t908.length co13)) (fun _ h_ => h_.1)))))) (rT (tf HO910 BK914))) (rT (tf HO913 BK914))) (bZ bq)); have HO922 := aM (rG (rW (rW (rW ho1 (Kd.Q_lt (oq ((Kd.Q_mono (Kd.Q_far (p := ⟨gb914, 2, none⟩) (Kd.Q_far (p := ⟨gb914, 1, none⟩) (Kd.Q_far (p := ⟨gb914, 0, none⟩) (Kd.Q_types HO907.out BK914.out (by decide)) (fun _ hk => hk.2) (.int .i64 t904)) (fun _ hk => hk.2) (.slice Ao12 t905.length co12)) (fun _ hk => hk.2) (.slice Ao13 t908.length co13)) (fun _ h_ => h_.1)))))) (rT (tf HO910 BK914))) (rT (tf HO913 BK914))) (bZ bq)); have HO925 := aM (rG (rW (rW (rW ho2 (Kd.Q_lt (oq ((Kd.Q_mono (Kd.Q_far (p := ⟨gb914, 2, none⟩) (Kd.Q_far (p := ⟨gb914, 1, none⟩) (Kd.Q_far (p := ⟨gb914, 0, none⟩) (Kd.Q_types HO907.out BK914.out (by decide)) (fun _ hk => hk.2) (.int .i64 t904)) (fun _ hk => hk.2) (.slice Ao12 t905.length co12)) (fun _ hk => hk.2) (.slice Ao13 t908.length co13)) (fun _ h_ => h_.1)))))) (rT (tf HO910 BK914))) (rT (tf HO913 BK914))) (bZ bq)); replace HO907 := aM (Kd.Q_mono (Kd.Q_told (Kd.Q_told (Kd.Q_told (Kd.Q_old (oq ((Kd.Q_mono (Kd.Q_far (p := ⟨gb914, 2, none⟩) (Kd.Q_far (p := ⟨gb914, 1, none⟩) (Kd.Q_far (p := ⟨gb914, 0, none⟩) (Kd.Q_types HO907.out BK914.out (by decide)) (fun _ hk => hk.2) (.int .i64 t904)) (fun _ hk => hk.2) (.slice Ao12 t905.length co12)) (fun _ hk => hk.2) (.slice Ao13 t908.length co13)) (fun _ h_ => h_.1)))) hb) (rB ho0)) (rB ho1)) (rB ho2)) (fun _ h_ => h_.1)); replace HO910 := z3 (tf HO910 BK914) hb ho0 ho1 ho2; replace HO913 := z3 (tf HO913 BK914) hb ho0 ho1 ho2; replace BK914 := aM (kB (g := gb914) (o := .cells #[.int .i64 t904, .slice Ao12 t905.length co12, .slice Ao13 t908.length co13] 48 (0, 0)) (fq BK914.out) hb); replace HB := aM (bT bq hb); (try clear hb); (try clear ho0); (try clear ho1); (try clear ho2)) | ((with_reducible refine gD 5 rfl ?_); refine bx 5 50 #[.int .i64 0, .int .i64 0, .slice none 0 0, .slice none 0 0, .slice none 0 0] ?_; intro gb926 hg w16 hbox hb; replace HO907 := aM (Kd.Q_below (oq HO907.out) hb); replace HO910 := zl HO910 hb; replace HO913 := zl HO913 hb; replace HO919 := zl HO919 hb; replace HO922 := zl HO922 hb; replace HO925 := zl HO925 hb; have BK926 := aM hbox; have GW926 := gw w hg; have GE926 := GW926; replace HB := aM (bT bq hb); have NB914_926 := nl BK914 hg; have NB926_914 := aM NB914_926.out.symm; replace BK914 := zb BK914 hb; clear hb hbox hg; have hnb17 := NB926_914.out; have hnc17 := NB914_926.out; obtain ⟨hcz18_0, hcz18_1, hcz18_2, hcz18_3, hcz18_4, hfz18_0, hfz18_1, hfz18_2, hfz18_3, hfz18_4⟩ := b5 BK926.out; obtain ⟨Ao19, co19, rfl⟩ := rS HO919.out; obtain ⟨Ao20, co20, rfl⟩ := rS HO922.out; obtain ⟨Ao21, co21, rfl⟩ := rS HO925.out) | ((with_reducible refine gC 42 rfl ?_); refine gl (some 21) Try.func42 #[.slice A0 l0.length c0] ?_; (with_reducible refine (spec_DrawPlayBlock.calls k _ _ l0 t927 t928 t931 t934 _ ?s1 ?s2 A6.out).mono ?_); (case s1 => exact cB HR0.out bq); (case s2 => exact HC0.out); rintro e w22 ⟨v929, v932, v935, rfl, ho0, ho1, ho2, hb⟩; refine ii ?_; have HO930 := aM (rG (rW (rW (rW (rW (rW (rW ho0 (Kd.Q_lt (oq ((Kd.Q_mono (Kd.Q_far (p := ⟨gb926, 4, none⟩) (Kd.Q_far (p := ⟨gb926, 3, none⟩) (Kd.Q_far (p := ⟨gb926, 2, none⟩) (Kd.Q_far (p := ⟨gb926, 1, none⟩) (Kd.Q_far (p := ⟨gb926, 0, none⟩) (Kd.Q_types HO907.out BK926.out (by decide)) (fun _ hk => hk.2) (.int .i64 t915)) (fun _ hk => hk.2) (.int .i64 t916)) (fun _ hk => hk.2) (.slice Ao19 t917.length co19)) (fun _ hk => hk.2) (.slice Ao20 t920.length co20)) (fun _ hk => hk.2) (.slice Ao21 t923.length co21)) (fun _ h_ => h_.1)))))) (rT (tf HO910 BK926))) (rT (tf HO913 BK926))) (rT (tf HO919 BK926))) (rT (tf HO922 BK926))) (rT (tf HO925 BK926))) (bZ bq)); have HO933 := aM (rG (rW (rW (rW (rW (rW (rW ho1 (Kd.Q_lt (oq ((Kd.Q_mono (Kd.Q_far (p := ⟨gb926, 4, none⟩) (Kd.Q_far (p := ⟨gb926, 3, none⟩) (Kd.Q_far (p := ⟨gb926, 2, none⟩) (Kd.Q_far (p := ⟨gb926, 1, none⟩) (Kd.Q_far (p := ⟨gb926, 0, none⟩) (Kd.Q_types HO907.out BK926.out (by decide)) (fun _ hk => hk.2) (.int .i64 t915)) (fun _ hk => hk.2) (.int .i64 t916)) (fun _ hk => hk.2) (.slice Ao19 t917.length co19)) (fun _ hk => hk.2) (.slice Ao20 t920.length co20)) (fun _ hk => hk.2) (.slice Ao21 t923.length co21)) (fun _ h_ => h_.1)))))) (rT (tf HO910 BK926))) (rT (tf HO913 BK926))) (rT (tf HO919 BK926))) (rT (tf HO922 BK926))) (rT (tf HO925 BK926))) (bZ bq)); have HO936 := aM (rG (rW (rW (rW (rW (rW (rW ho2 (Kd.Q_lt (oq ((Kd.Q_mono (Kd.Q_far (p := ⟨gb926, 4, none⟩) (Kd.Q_far (p := ⟨gb926, 3, none⟩) (Kd.Q_far (p := ⟨gb926, 2, none⟩) (Kd.Q_far (p := ⟨gb926, 1, none⟩) (Kd.Q_far (p := ⟨gb926, 0, none⟩) (Kd.Q_types HO907.out BK926.out (by decide)) (fun _ hk => hk.2) (.int .i64 t915)) (fun _ hk => hk.2) (.int .i64 t916)) (fun _ hk => hk.2) (.slice Ao19 t917.length co19)) (fun _ hk => hk.2) (.slice Ao20 t920.length co20)) (fun _ hk => hk.2) (.slice Ao21 t923.length co21)) (fun _ h_ => h_.1)))))) (rT (tf HO910 BK926))) (rT (tf HO913 BK926))) (rT (tf HO919 BK926))) (rT (tf HO922 BK926))) (rT (tf HO925 BK926))) (bZ bq)); replace HO907 := aM (Kd.Q_mono (Kd.Q_told (Kd.Q_told (Kd.Q_told (Kd.Q_old (oq ((Kd.Q_mono (Kd.Q_far (p := ⟨gb926, 4, none⟩) (Kd.Q_far (p := ⟨gb926, 3, none⟩) (Kd.Q_far (p := ⟨gb926, 2, none⟩) (Kd.Q_far (p := ⟨gb926, 1, none⟩) (Kd.Q_far (p := ⟨gb926, 0, none⟩) (Kd.Q_types HO907.out BK926.out (by decide)) (fun _ hk => hk.2) (.int .i64 t915)) (fun _ hk => hk.2) (.int .i64 t916)) (fun _ hk => hk.2) (.slice Ao19 t917.length co19)) (fun _ hk => hk.2) (.slice Ao20 t920.length co20)) (fun _ hk => hk.2) (.slice Ao21 t923.length co21)) (fun _ h_ => h_.1)))) hb) (rB ho0)) (rB ho1)) (rB ho2)) (fun _ h_ => h_.1)); replace HO910 := z3 (tf HO910 BK926) hb ho0 ho1 ho2; replace HO913 := z3 (tf HO913 BK926) hb ho0 ho1 ho2; replace HO919 := z3 (tf HO919 BK926) hb ho0 ho1 ho2; replace HO922 := z3 (tf HO922 BK926) hb ho0 ho1 ho2; replace HO925 := z3 (tf HO925 BK926) hb ho0 ho1 ho2; replace BK914 := aM (kB (g := gb914) (o := .cells #[.int .i64 t904, .slice Ao12 t905.length co12, .slice Ao13 t908.length co13] 48 (0, 0)) (fq BK914.out) hb); replace BK926 := aM (kB (g := gb926) (o := .cells #[.int .i64 t915, .int .i64 t916, .slice Ao19 t917.length co19, .slice Ao20 t920.length co20, .slice Ao21 t923.length co21] 50 (0, 0)) (fq BK926.out) hb); replace HB := aM (bT bq hb); (try clear hb); (try clear ho0); (try clear ho1); (try clear ho2)) | ((with_reducible refine gD 6 rfl ?_); refine bx 6 35 #[.int .i64 0, .slice none 0 0, .slice none 0 0] ?_; intro gb937 hg w23 hbox hb; replace HO907 := aM (Kd.Q_below (oq HO907.out) hb); replace HO910 := zl HO910 hb; replace HO913 := zl HO913 hb; replace HO919 := zl HO919 hb; replace HO922 := zl HO922 hb; replace HO925 := zl HO925 hb; replace HO930 := zl HO930 hb; replace HO933 := zl HO933 hb; replace HO936 := zl HO936 hb; have BK937 := aM hbox; have GW937 := gw w hg; have GE937 := GW937; replace HB := aM (bT bq hb); have NB914_937 := nl BK914 hg; have NB937_914 := aM NB914_937.out.symm; replace BK914 := zb BK914 hb; have NB926_937 := nl BK926 hg; have NB937_926 := aM NB926_937.out.symm; replace BK926 := zb BK926 hb; clear hb hbox hg; have hnb24 := NB937_914.out; have hnc24 := NB914_937.out; have hnb25 := NB937_926.out; have hnc25 := NB926_937.out; obtain ⟨hcz26_0, hcz26_1, hcz26_2, hfz26_0, hfz26_1, hfz26_2⟩ := b3 BK937.out; obtain ⟨Ao27, co27, rfl⟩ := rS HO930.out; obtain ⟨Ao28, co28, rfl⟩ := rS HO933.out; obtain ⟨Ao29, co29, rfl⟩ := rS HO936.out) | ((with_reducible refine gC 20 rfl ?_); refine gl (some 26) Try.func20 #[.agg #[.int .i64 t927, .slice Ao27 t928.length co27, .slice Ao28 t931.length co28], .slice Ao29 t934.length co29] ?_; (with_reducible refine (impl_PlayBlock.calls k t927 _ _ t928 _ _ t931 _ _ t934 t938 t939 t940 t943 t946 _ ?s1 ?s2 ?s3 ?s4 ?s5 ?s6 A7.out).mono ?_); (case s1 => refine (rR (e := 2) (base := w.heap.size) (ok := fun k_ => (((((((nS Ao28 t931 co28 k_ ∧ nS Ao29 t934 co29 k_) ∧ nS Ao12 t905 co12 k_) ∧ nS Ao13 t908 co13 k_) ∧ nS Ao14 t911 co14 k_) ∧ nS Ao19 t917 co19 k_) ∧ nS Ao20 t920 co20 k_) ∧ nS Ao21 t923 co21 k_)) (n := t928.length) (c := co27) ?_).2.2; exact (tf HO930 BK937)); (case s2 => exact (rR HO930.out).2.1); (case s3 => refine (rR (e := 2) (base := w.heap.size) (ok := fun k_ => (((((((nS Ao27 t928 co27 k_ ∧ nS Ao29 t934 co29 k_) ∧ nS Ao12 t905 co12 k_) ∧ nS Ao13 t908 co13 k_) ∧ nS Ao14 t911 co14 k_) ∧ nS Ao19 t917 co19 k_) ∧ nS Ao20 t920 co20 k_) ∧ nS Ao21 t923 co21 k_)) (n := t931.length) (c := co28) ?_).2.2; exact (tf HO933 BK937)); (case s4 => exact (rR HO933.out).2.1); (case s5 => refine (rR (e := 2) (base := w.heap.size) (ok := fun k_ => (((((((nS Ao27 t928 co27 k_ ∧ nS Ao28 t931 co28 k_) ∧ nS Ao12 t905 co12 k_) ∧ nS Ao13 t908 co13 k_) ∧ nS Ao14 t911 co14 k_) ∧ nS Ao19 t917 co19 k_) ∧ nS Ao20 t920 co20 k_) ∧ nS Ao21 t923 co21 k_)) (n := t934.length) (c := co29) ?_).2.2; exact (tf HO936 BK937)); (case s6 => exact (rR HO936.out).2.1); rintro e w30 ⟨v941, v944, v947, rfl, ho0, ho1, ho2, hb⟩; refine ii ?_; have HO942 := aM (rG (rW (rW (rW (rW (rW (rW (rW (rW (rW ho0 (Kd.Q_lt (oq ((Kd.Q_mono (Kd.Q_far (p := ⟨gb937, 2, none⟩) (Kd.Q_far (p := ⟨gb937, 1, none⟩) (Kd.Q_far (p := ⟨gb937, 0, none⟩) (Kd.Q_types HO907.out BK937.out (by decide)) (fun _ hk => hk.2) (.int .i64 t927)) (fun _ hk => hk.2) (.slice Ao27 t928.length co27)) (fun _ hk => hk.2) (.slice Ao28 t931.length co28)) (fun _ h_ => h_.1)))))) (rT (tf HO910 BK937))) (rT (tf HO913 BK937))) (rT (tf HO919 BK937))) (rT (tf HO922 BK937))) (rT (tf HO925 BK937))) (rT (tf HO930 BK937))) (rT (tf HO933 BK937))) (rT (tf HO936 BK937))) (bZ bq)); have HO945 := aM (rG (rW (rW (rW (rW (rW (rW (rW (rW (rW ho1 (Kd.Q_lt (oq ((Kd.Q_mono (Kd.Q_far (p := ⟨gb937, 2, none⟩) (Kd.Q_far (p := ⟨gb937, 1, none⟩) (Kd.Q_far (p := ⟨gb937, 0, none⟩) (Kd.Q_types HO907.out BK937.out (by decide)) (fun _ hk => hk.2) (.int .i64 t927)) (fun _ hk => hk.2) (.slice Ao27 t928.length co27)) (fun _ hk => hk.2) (.slice Ao28 t931.length co28)) (fun _ h_ => h_.1)))))) (rT (tf HO910 BK937))) (rT (tf HO913 BK937))) (rT (tf HO919 BK937))) (rT (tf HO922 BK937))) (rT (tf HO925 BK937))) (rT (tf HO930 BK937))) (rT (tf HO933 BK937))) (rT (tf HO936 BK937))) (bZ bq)); have HO948 := aM (rG (rW (rW (rW (rW (rW (rW (rW (rW (rW ho2 (Kd.Q_lt (oq ((Kd.Q_mono (Kd.Q_far (p := ⟨gb937, 2, none⟩) (Kd.Q_far (p := ⟨gb937, 1, none⟩) (Kd.Q_far (p := ⟨gb937, 0, none⟩) (Kd.Q_types HO907.out BK937.out (by decide)) (fun _ hk => hk.2) (.int .i64 t927)) (fun _ hk => hk.2) (.slice Ao27 t928.length co27)) (fun _ hk => hk.2) (.slice Ao28 t931.length co28)) (fun _ h_ => h_.1)))))) (rT (tf HO910 BK937))) (rT (tf HO913 BK937))) (rT (tf HO919 BK937))) (rT (tf HO922 BK937))) (rT (tf HO925 BK937))) (rT (tf HO930 BK937))) (rT (tf HO933 BK937))) (rT (tf HO936 BK937))) (bZ bq)); replace HO907 := aM (Kd.Q_mono (Kd.Q_told (Kd.Q_told (Kd.Q_told (Kd.Q_old (oq ((Kd.Q_mono (Kd.Q_far (p := ⟨gb937, 2, none⟩) (Kd.Q_far (p := ⟨gb937, 1, none⟩) (Kd.Q_far (p := ⟨gb937, 0, none⟩) (Kd.Q_types HO907.out BK937.out (by decide)) (fun _ hk => hk.2) (.int .i64 t927)) (fun _ hk => hk.2) (.slice Ao27 t928.length co27)) (fun _ hk => hk.2) (.slice Ao28 t931.length co28)) (fun _ h_ => h_.1)))) hb) (rB ho0)) (rB ho1)) (rB ho2)) (fun _ h_ => h_.1)); replace HO910 := z3 (tf HO910 BK937) hb ho0 ho1 ho2; replace HO913 := z3 (tf HO913 BK937) hb ho0 ho1 ho2; replace HO919 := z3 (tf HO919 BK937) hb ho0 ho1 ho2; replace HO922 := z3 (tf HO922 BK937) hb ho0 ho1 ho2; replace HO925 := z3 (tf HO925 BK937) hb ho0 ho1 ho2; replace HO930 := z3 (tf HO930 BK937) hb ho0 ho1 ho2; replace HO933 := z3 (tf HO933 BK937) hb ho0 ho1 ho2; replace HO936 := z3 (tf HO936 BK937) hb ho0 ho1 ho2; replace BK914 := aM (kB (g := gb914) (o := .cells #[.int .i64 t904, .slice Ao12 t905.length co12, .slice Ao13 t908.length co13] 48 (0, 0)) (fq BK914.out) hb); replace BK926 := aM (kB (g := gb926) (o := .cells #[.int .i64 t915, .int .i64 t916, .slice Ao19 t917.length co19, .slice Ao20 t920.length co20, .slice Ao21 t923.length co21] 50 (0, 0)) (fq BK926.out) hb); replace BK937 := aM (kB (g := gb937) (o := .cells #[.int .i64 t927, .slice Ao27 t928.length co27, .slice Ao28 t931.length co28] 35 (0, 0)) (fq BK937.out) hb); replace HB := aM (bT bq hb); (try clear hb); (try clear ho0); (try clear ho1); (try clear ho2)) | ((with_reducible refine gD 8 rfl ?_); refine bx 8 37 #[.int .i64 0, .int .i64 0, .slice none 0 0, .slice none 0 0, .slice none 0 0] ?_; intro gb949 hg w31 hbox hb; replace HO907 := aM (Kd.Q_below (oq HO907.out) hb); replace HO910 := zl HO910 hb; replace HO913 := zl HO913 hb; replace HO919 := zl HO919 hb; replace HO922 := zl HO922 hb; replace HO925 := zl HO925 hb; replace HO930 := zl HO930 hb; replace HO933 := zl HO933 hb; replace HO936 := zl HO936 hb; replace HO942 := zl HO942 hb; replace HO945 := zl HO945 hb; replace HO948 := zl HO948 hb; have BK949 := aM hbox; have GW949 := gw w hg; have GE949 := GW949; replace HB := aM (bT bq hb); have NB914_949 := nl BK914 hg; have NB949_914 := aM NB914_949.out.symm; replace BK914 := zb BK914 hb; have NB926_949 := nl BK926 hg; have NB949_926 := aM NB926_949.out.symm; replace BK926 := zb BK926 hb; have NB937_949 := nl BK937 hg; have NB949_937 := aM NB937_949.out.symm; replace BK937 := zb BK937 hb; clear hb hbox hg; have hnb32 := NB949_914.out; have hnc32 := NB914_949.out; have hnb33 := NB949_926.out; have hnc33 := NB926_949.out; have hnb34 := NB949_937.out; have hnc34 := NB937_949.out; obtain ⟨hcz35_0, hcz35_1, hcz35_2, hcz35_3, hcz35_4, hfz35_0, hfz35_1, hfz35_2, hfz35_3, hfz35_4⟩ := b5 BK949.out; obtain ⟨Ao36, co36, rfl⟩ := rS HO942.out; obtain ⟨Ao37, co37, rfl⟩ := rS HO945.out; obtain ⟨Ao38, co38, rfl⟩ := rS HO948.out))
  (try simp only [Act.put, pa, pb, pc])
  go_cut [42] (fun v42 wc => ∃ (kq : Nat) (x42_7 : Bool), v42 = .bool x42_7 ∧ Aside0 (laws_FnStates.j0 kq t911 t934 x42_7 t904 t905 t908 t915 t916 t917 t920 t923 t927 t928 t931 t938 t939 t940 t943 t946 = some r) ∧ Aside0 (kq ≤ k) ∧ Aside0 (Kd.R (Kd.int .i64) 2 wc w.heap.size (fun k_ => some k_ ≠ ((.slice Ao29 t934.length co29) : Value).ownBlock ∧ some k_ ≠ ((.slice Ao12 t905.length co12) : Value).ownBlock ∧ some k_ ≠ ((.slice Ao13 t908.length co13) : Value).ownBlock ∧ some k_ ≠ ((.slice Ao19 t917.length co19) : Value).ownBlock ∧ some k_ ≠ ((.slice Ao20 t920.length co20) : Value).ownBlock ∧ some k_ ≠ ((.slice Ao21 t923.length co21) : Value).ownBlock ∧ some k_ ≠ ((.slice Ao27 t928.length co27) : Value).ownBlock ∧ some k_ ≠ ((.slice Ao28 t931.length co28) : Value).ownBlock ∧ some k_ ≠ ((.slice Ao36 t940.length co36) : Value).ownBlock ∧ some k_ ≠ ((.slice Ao37 t943.length co37) : Value).ownBlock ∧ some k_ ≠ ((.slice Ao38 t946.length co38) : Value).ownBlock) (.slice Ao14 t911.length co14) t911) ∧ Aside0 (Kd.R (Kd.int .i64) 2 wc w.heap.size (fun k_ => some k_ ≠ ((.slice Ao14 t911.length co14) : Value).ownBlock ∧ some k_ ≠ ((.slice Ao12 t905.length co12) : Value).ownBlock ∧ some k_ ≠ ((.slice Ao13 t908.length co13) : Value).ownBlock ∧ some k_ ≠ ((.slice Ao19 t917.length co19) : Value).ownBlock ∧ some k_ ≠ ((.slice Ao20 t920.length co20) : Value).ownBlock ∧ some k_ ≠ ((.slice Ao21 t923.length co21) : Value).ownBlock ∧ some k_ ≠ ((.slice Ao27 t928.length co27) : Value).ownBlock ∧ some k_ ≠ ((.slice Ao28 t931.length co28) : Value).ownBlock ∧ some k_ ≠ ((.slice Ao36 t940.length co36) : Value).ownBlock ∧ some k_ ≠ ((.slice Ao37 t943.length co37) : Value).ownBlock ∧ some k_ ≠ ((.slice Ao38 t946.length co38) : Value).ownBlock) (.slice Ao29 t934.length co29) t934) ∧ Aside0 (Kd.Q (Kd.int .i64) 2 wc w.heap.size (fun k_ => some k_ ≠ ((.slice Ao14 t911.length co14) : Value).ownBlock ∧ some k_ ≠ ((.slice Ao29 t934.length co29) : Value).ownBlock ∧ some k_ ≠ ((.slice Ao13 t908.length co13) : Value).ownBlock ∧ some k_ ≠ ((.slice Ao19 t917.length co19) : Value).ownBlock ∧ some k_ ≠ ((.slice Ao20 t920.length co20) : Value).ownBlock ∧ some k_ ≠ ((.slice Ao21 t923.length co21) : Value).ownBlock ∧ some k_ ≠ ((.slice Ao27 t928.length co27) : Value).ownBlock ∧ some k_ ≠ ((.slice Ao28 t931.length co28) : Value).ownBlock ∧ some k_ ≠ ((.slice Ao36 t940.length co36) : Value).ownBlock ∧ some k_ ≠ ((.slice Ao37 t943.length co37) : Value).ownBlock ∧ some k_ ≠ ((.slice Ao38 t946.length co38) : Value).ownBlock) (.slice Ao12 t905.length co12) t905) ∧ Aside0 (Kd.R (Kd.int .i64) 2 wc w.heap.size (fun k_ => some k_ ≠ ((.slice Ao14 t911.length co14) : Value).ownBlock ∧ some k_ ≠ ((.slice Ao29 t934.length co29) : Value).ownBlock ∧ some k_ ≠ ((.slice Ao12 t905.length co12) : Value).ownBlock ∧ some k_ ≠ ((.slice Ao19 t917.length co19) : Value).ownBlock ∧ some k_ ≠ ((.slice Ao20 t920.length co20) : Value).ownBlock ∧ some k_ ≠ ((.slice Ao21 t923.length co21) : Value).ownBlock ∧ some k_ ≠ ((.slice Ao27 t928.length co27) : Value).ownBlock ∧ some k_ ≠ ((.slice Ao28 t931.length co28) : Value).ownBlock ∧ some k_ ≠ ((.slice Ao36 t940.length co36) : Value).ownBlock ∧ some k_ ≠ ((.slice Ao37 t943.length co37) : Value).ownBlock ∧ some k_ ≠ ((.slice Ao38 t946.length co38) : Value).ownBlock) (.slice Ao13 t908.length co13) t908) ∧ Aside0 (Kd.R (Kd.int .i64) 2 wc w.heap.size (fun k_ => some k_ ≠ ((.slice Ao14 t911.length co14) : Value).ownBlock ∧ some k_ ≠ ((.slice Ao29 t934.length co29) : Value).ownBlock ∧ some k_ ≠ ((.slice Ao12 t905.length co12) : Value).ownBlock ∧ some k_ ≠ ((.slice Ao13 t908.length co13) : Value).ownBlock ∧ some k_ ≠ ((.slice Ao20 t920.length co20) : Value).ownBlock ∧ some k_ ≠ ((.slice Ao21 t923.length co21) : Value).ownBlock ∧ some k_ ≠ ((.slice Ao27 t928.length co27) : Value).ownBlock ∧ some k_ ≠ ((.slice Ao28 t931.length co28) : Value).ownBlock ∧ some k_ ≠ ((.slice Ao36 t940.length co36) : Value).ownBlock ∧ some k_ ≠ ((.slice Ao37 t943.length co37) : Value).ownBlock ∧ some k_ ≠ ((.slice Ao38 t946.length co38) : Value).ownBlock) (.slice Ao19 t917.length co19) t917) ∧ Aside0 (Kd.R (Kd.int .i64) 2 wc w.heap.size (fun k_ => some k_ ≠ ((.slice Ao14 t911.length co14) : Value).ownBlock ∧ some k_ ≠ ((.slice Ao29 t934.length co29) : Value).ownBlock ∧ some k_ ≠ ((.slice Ao12 t905.length co12) : Value).ownBlock ∧ some k_ ≠ ((.slice Ao13 t908.length co13) : Value).ownBlock ∧ some k_ ≠ ((.slice Ao19 t917.length co19) : Value).ownBlock ∧ some k_ ≠ ((.slice Ao21 t923.length co21) : Value).ownBlock ∧ some k_ ≠ ((.slice Ao27 t928.length co27) : Value).ownBlock ∧ some k_ ≠ ((.slice Ao28 t931.length co28) : Value).ownBlock ∧ some k_ ≠ ((.slice Ao36 t940.length co36) : Value).ownBlock ∧ some k_ ≠ ((.slice Ao37 t943.length co37) : Value).ownBlock ∧ some k_ ≠ ((.slice Ao38 t946.length co38) : Value).ownBlock) (.slice Ao20 t920.length co20) t920) ∧ Aside0 (Kd.R (Kd.int .i64) 2 wc w.heap.size (fun k_ => some k_ ≠ ((.slice Ao14 t911.length co14) : Value).ownBlock ∧ some k_ ≠ ((.slice Ao29 t934.length co29) : Value).ownBlock ∧ some k_ ≠ ((.slice Ao12 t905.length co12) : Value).ownBlock ∧ some k_ ≠ ((.slice Ao13 t908.length co13) : Value).ownBlock ∧ some k_ ≠ ((.slice Ao19 t917.length co19) : Value).ownBlock ∧ some k_ ≠ ((.slice Ao20 t920.length co20) : Value).ownBlock ∧ some k_ ≠ ((.slice Ao27 t928.length co27) : Value).ownBlock ∧ some k_ ≠ ((.slice Ao28 t931.length co28) : Value).ownBlock ∧ some k_ ≠ ((.slice Ao36 t940.length co36) : Value).ownBlock ∧ some k_ ≠ ((.slice Ao37 t943.length co37) : Value).ownBlock ∧ some k_ ≠ ((.slice Ao38 t946.length co38) : Value).ownBlock) (.slice Ao21 t923.length co21) t923) ∧ Aside0 (Kd.R (Kd.int .i64) 2 wc w.heap.size (fun k_ => some k_ ≠ ((.slice Ao14 t911.length co14) : Value).ownBlock ∧ some k_ ≠ ((.slice Ao29 t934.length co29) : Value).ownBlock ∧ some k_ ≠ ((.slice Ao12 t905.length co12) : Value).ownBlock ∧ some k_ ≠ ((.slice Ao13 t908.length co13) : Value).ownBlock ∧ some k_ ≠ ((.slice Ao19 t917.length co19) : Value).ownBlock ∧ some k_ ≠ ((.slice Ao20 t920.length co20) : Value).ownBlock ∧ some k_ ≠ ((.slice Ao21 t923.length co21) : Value).ownBlock ∧ some k_ ≠ ((.slice Ao28 t931.length co28) : Value).ownBlock ∧ some k_ ≠ ((.slice Ao36 t940.length co36) : Value).ownBlock ∧ some k_ ≠ ((.slice Ao37 t943.length co37) : Value).ownBlock ∧ some k_ ≠ ((.slice Ao38 t946.length co38) : Value).ownBlock) (.slice Ao27 t928.length co27) t928) ∧ Aside0 (Kd.R (Kd.int .i64) 2 wc w.heap.size (fun k_ => some k_ ≠ ((.slice Ao14 t911.length co14) : Value).ownBlock ∧ some k_ ≠ ((.slice Ao29 t934.length co29) : Value).ownBlock ∧ some k_ ≠ ((.slice Ao12 t905.length co12) : Value).ownBlock ∧ some k_ ≠ ((.slice Ao13 t908.length co13) : Value).ownBlock ∧ some k_ ≠ ((.slice Ao19 t917.length co19) : Value).ownBlock ∧ some k_ ≠ ((.slice Ao20 t920.length co20) : Value).ownBlock ∧ some k_ ≠ ((.slice Ao21 t923.length co21) : Value).ownBlock ∧ some k_ ≠ ((.slice Ao27 t928.length co27) : Value).ownBlock ∧ some k_ ≠ ((.slice Ao36 t940.length co36) : Value).ownBlock ∧ some k_ ≠ ((.slice Ao37 t943.length co37) : Value).ownBlock ∧ some k_ ≠ ((.slice Ao38 t946.length co38) : Value).ownBlock) (.slice Ao28 t931.length co28) t931) ∧ Aside0 (Kd.R (Kd.int .i64) 2 wc w.heap.size (fun k_ => some k_ ≠ ((.slice Ao14 t911.length co14) : Value).ownBlock ∧ some k_ ≠ ((.slice Ao29 t934.length co29) : Value).ownBlock ∧ some k_ ≠ ((.slice Ao12 t905.length co12) : Value).ownBlock ∧ some k_ ≠ ((.slice Ao13 t908.length co13) : Value).ownBlock ∧ some k_ ≠ ((.slice Ao19 t917.length co19) : Value).ownBlock ∧ some k_ ≠ ((.slice Ao20 t920.length co20) : Value).ownBlock ∧ some k_ ≠ ((.slice Ao21 t923.length co21) : Value).ownBlock ∧ some k_ ≠ ((.slice Ao27 t928.length co27) : Value).ownBlock ∧ some k_ ≠ ((.slice Ao28 t931.length co28) : Value).ownBlock ∧ some k_ ≠ ((.slice Ao37 t943.length co37) : Value).ownBlock ∧ some k_ ≠ ((.slice Ao38 t946.length co38) : Value).ownBlock) (.slice Ao36 t940.length co36) t940) ∧ Aside0 (Kd.R (Kd.int .i64) 2 wc w.heap.size (fun k_ => some k_ ≠ ((.slice Ao14 t911.length co14) : Value).ownBlock ∧ some k_ ≠ ((.slice Ao29 t934.length co29) : Value).ownBlock ∧ some k_ ≠ ((.slice Ao12 t905.length co12) : Value).ownBlock ∧ some k_ ≠ ((.slice Ao13 t908.length co13) : Value).ownBlock ∧ some k_ ≠ ((.slice Ao19 t917.length co19) : Value).ownBlock ∧ some k_ ≠ ((.slice Ao20 t920.length co20) : Value).ownBlock ∧ some k_ ≠ ((.slice Ao21 t923.length co21) : Value).ownBlock ∧ some k_ ≠ ((.slice Ao27 t928.length co27) : Value).ownBlock ∧ some k_ ≠ ((.slice Ao28 t931.length co28) : Value).ownBlock ∧ some k_ ≠ ((.slice Ao36 t940.length co36) : Value).ownBlock ∧ some k_ ≠ ((.slice Ao38 t946.length co38) : Value).ownBlock) (.slice Ao37 t943.length co37) t943) ∧ Aside0 (Kd.R (Kd.int .i64) 2 wc w.heap.size (fun k_ => some k_ ≠ ((.slice Ao14 t911.length co14) : Value).ownBlock ∧ some k_ ≠ ((.slice Ao29 t934.length co29) : Value).ownBlock ∧ some k_ ≠ ((.slice Ao12 t905.length co12) : Value).ownBlock ∧ some k_ ≠ ((.slice Ao13 t908.length co13) : Value).ownBlock ∧ some k_ ≠ ((.slice Ao19 t917.length co19) : Value).ownBlock ∧ some k_ ≠ ((.slice Ao20 t920.length co20) : Value).ownBlock ∧ some k_ ≠ ((.slice Ao21 t923.length co21) : Value).ownBlock ∧ some k_ ≠ ((.slice Ao27 t928.length co27) : Value).ownBlock ∧ some k_ ≠ ((.slice Ao28 t931.length co28) : Value).ownBlock ∧ some k_ ≠ ((.slice Ao36 t940.length co36) : Value).ownBlock ∧ some k_ ≠ ((.slice Ao37 t943.length co37) : Value).ownBlock) (.slice Ao38 t946.length co38) t946) ∧ Aside0 (wc.heap[gb914]? = some (.cells #[.int .i64 t904, (.slice Ao12 t905.length co12), (.slice Ao13 t908.length co13)] 48 (0, 0))) ∧ Aside0 (wc.heap[gb926]? = some (.cells #[.int .i64 t915, .int .i64 t916, (.slice Ao19 t917.length co19), (.slice Ao20 t920.length co20), (.slice Ao21 t923.length co21)] 50 (0, 0))) ∧ Aside0 (wc.heap[gb937]? = some (.cells #[.int .i64 t927, (.slice Ao27 t928.length co27), (.slice Ao28 t931.length co28)] 35 (0, 0))) ∧ Aside0 (wc.heap[gb949]? = some (.cells #[.int .i64 t938, .int .i64 t939, (.slice Ao36 t940.length co36), (.slice Ao37 t943.length co37), (.slice Ao38 t946.length co38)] 37 (0, 0))) ∧ Aside0 (Below w.heap.size w wc))
  case first =>
   have H := HC8.out
   clear HC8
   replace H := bo H
   obtain ⟨⟨t950, t951, t952, t955, t958⟩, A39, H⟩ := H
   replace H := bz H
   by_cases c40 : t915 = t950
   ·rw [if_pos c40] at H
    have c40b0 := eT c40
    have c40b1 := nF c40
    clear c40
    (first | rw [c40b0] | (simp only [i64_w, i32_w]; rw [c40b0]) | skip)
    replace H := bo H
    obtain ⟨⟨t961, t962, t963, t966, t969⟩, A41, H⟩ := H
    replace H := bz H
    have H' := aM H
    clear H
    try go_wp2
    generalize hgw_ : (((((w31.setCell ⟨gb949, 0, none⟩ (.int .i64 t938)).setCell ⟨gb949, 1, none⟩ (.int .i64 t939)).setCell ⟨gb949, 2, none⟩ (.slice Ao36 t940.length co36)).setCell ⟨gb949, 3, none⟩ (.slice Ao37 t943.length co37)).setCell ⟨gb949, 4, none⟩ (.slice Ao38 t946.length co38)) = w42
    have n0_ : Aside0 (Kd.Q (Kd.int .i64) 2 w42 w.heap.size (fun k_ => nS Ao13 t908 co13 k_ ∧ nS Ao14 t911 co14 k_ ∧ nS Ao19 t917 co19 k_ ∧ nS Ao20 t920 co20 k_ ∧ nS Ao21 t923 co21 k_ ∧ nS Ao27 t928 co27 k_ ∧ nS Ao28 t931 co28 k_ ∧ nS Ao29 t934 co29 k_ ∧ nS Ao36 t940 co36 k_ ∧ nS Ao37 t943 co37 k_ ∧ nS Ao38 t946 co38 k_) (.slice Ao12 t905.length co12) t905) := ⟨by rw [← hgw_]; exact Kd.Q_mono (Kd.Q_far (p := ⟨gb949, 4, none⟩) (Kd.Q_far (p := ⟨gb949, 3, none⟩) (Kd.Q_far (p := ⟨gb949, 2, none⟩) (Kd.Q_far (p := ⟨gb949, 1, none⟩) (Kd.Q_far (p := ⟨gb949, 0, none⟩) (Kd.Q_types HO907.out BK949.out (by decide)) (fun _ hk => hk.2) (.int .i64 t938)) (fun _ hk => hk.2) (.int .i64 t939)) (fun _ hk => hk.2) (.slice Ao36 t940.length co36)) (fun _ hk => hk.2) (.slice Ao37 t943.length co37)) (fun _ hk => hk.2) (.slice Ao38 t946.length co38)) jq⟩
    have n1_ : Aside0 (Kd.R (Kd.int .i64) 2 w42 w.heap.size (fun k_ => nS Ao12 t905 co12 k_ ∧ nS Ao14 t911 co14 k_ ∧ nS Ao19 t917 co19 k_ ∧ nS Ao20 t920 co20 k_ ∧ nS Ao21 t923 co21 k_ ∧ nS Ao27 t928 co27 k_ ∧ nS Ao28 t931 co28 k_ ∧ nS Ao29 t934 co29 k_ ∧ nS Ao36 t940 co36 k_ ∧ nS Ao37 t943 co37 k_ ∧ nS Ao38 t946 co38 k_) (.slice Ao13 t908.length co13) t908) := ⟨by rw [← hgw_]; exact rM (rf (Kd.R_types HO910.out BK949.out (by decide))) jq⟩
    have n2_ : Aside0 (Kd.R (Kd.int .i64) 2 w42 w.heap.size (fun k_ => nS Ao12 t905 co12 k_ ∧ nS Ao13 t908 co13 k_ ∧ nS Ao19 t917 co19 k_ ∧ nS Ao20 t920 co20 k_ ∧ nS Ao21 t923 co21 k_ ∧ nS Ao27 t928 co27 k_ ∧ nS Ao28 t931 co28 k_ ∧ nS Ao29 t934 co29 k_ ∧ nS Ao36 t940 co36 k_ ∧ nS Ao37 t943 co37 k_ ∧ nS Ao38 t946 co38 k_) (.slice Ao14 t911.length co14) t911) := ⟨by rw [← hgw_]; exact rM (rf (Kd.R_types HO913.out BK949.out (by decide))) jq⟩
    have n3_ : Aside0 (Kd.R (Kd.int .i64) 2 w42 w.heap.size (fun k_ => nS Ao12 t905 co12 k_ ∧ nS Ao13 t908 co13 k_ ∧ nS Ao14 t911 co14 k_ ∧ nS Ao20 t920 co20 k_ ∧ nS Ao21 t923 co21 k_ ∧ nS Ao27 t928 co27 k_ ∧ nS Ao28 t931 co28 k_ ∧ nS Ao29 t934 co29 k_ ∧ nS Ao36 t940 co36 k_ ∧ nS Ao37 t943 co37 k_ ∧ nS Ao38 t946 co38 k_) (.slice Ao19 t917.length co19) t917) := ⟨by rw [← hgw_]; exact rM (rf (Kd.R_types HO919.out BK949.out (by decide))) jq⟩
    have n4_ : Aside0 (Kd.R (Kd.int .i64) 2 w42 w.heap.size (fun k_ => nS Ao12 t905 co12 k_ ∧ nS Ao13 t908 co13 k_ ∧ nS Ao14 t911 co14 k_ ∧ nS Ao19 t917 co19 k_ ∧ nS Ao21 t923 co21 k_ ∧ nS Ao27 t928 co27 k_ ∧ nS Ao28 t931 co28 k_ ∧ nS Ao29 t934 co29 k_ ∧ nS Ao36 t940 co36 k_ ∧ nS Ao37 t943 co37 k_ ∧ nS Ao38 t946 co38 k_) (.slice Ao20 t920.length co20) t920) := ⟨by rw [← hgw_]; exact rM (rf (Kd.R_types HO922.out BK949.out (by decide))) jq⟩
    have n5_ : Aside0 (Kd.R (Kd.int .i64) 2 w42 w.heap.size (fun k_ => nS Ao12 t905 co12 k_ ∧ nS Ao13 t908 co13 k_ ∧ nS Ao14 t911 co14 k_ ∧ nS Ao19 t917 co19 k_ ∧ nS Ao20 t920 co20 k_ ∧ nS Ao27 t928 co27 k_ ∧ nS Ao28 t931 co28 k_ ∧ nS Ao29 t934 co29 k_ ∧ nS Ao36 t940 co36 k_ ∧ nS Ao37 t943 co37 k_ ∧ nS Ao38 t946 co38 k_) (.slice Ao21 t923.length co21) t923) := ⟨by rw [← hgw_]; exact rM (rf (Kd.R_types HO925.out BK949.out (by decide))) jq⟩
    have n6_ : Aside0 (Kd.R (Kd.int .i64) 2 w42 w.heap.size (fun k_ => nS Ao12 t905 co12 k_ ∧ nS Ao13 t908 co13 k_ ∧ nS Ao14 t911 co14 k_ ∧ nS Ao19 t917 co19 k_ ∧ nS Ao20 t920 co20 k_ ∧ nS Ao21 t923 co21 k_ ∧ nS Ao28 t931 co28 k_ ∧ nS Ao29 t934 co29 k_ ∧ nS Ao36 t940 co36 k_ ∧ nS Ao37 t943 co37 k_ ∧ nS Ao38 t946 co38 k_) (.slice Ao27 t928.length co27) t928) := ⟨by rw [← hgw_]; exact rM (rf (Kd.R_types HO930.out BK949.out (by decide))) jq⟩
    have n7_ : Aside0 (Kd.R (Kd.int .i64) 2 w42 w.heap.size (fun k_ => nS Ao12 t905 co12 k_ ∧ nS Ao13 t908 co13 k_ ∧ nS Ao14 t911 co14 k_ ∧ nS Ao19 t917 co19 k_ ∧ nS Ao20 t920 co20 k_ ∧ nS Ao21 t923 co21 k_ ∧ nS Ao27 t928 co27 k_ ∧ nS Ao29 t934 co29 k_ ∧ nS Ao36 t940 co36 k_ ∧ nS Ao37 t943 co37 k_ ∧ nS Ao38 t946 co38 k_) (.slice Ao28 t931.length co28) t931) := ⟨by rw [← hgw_]; exact rM (rf (Kd.R_types HO933.out BK949.out (by decide))) jq⟩
    have n8_ : Aside0 (Kd.R (Kd.int .i64) 2 w42 w.heap.size (fun k_ => nS Ao12 t905 co12 k_ ∧ nS Ao13 t908 co13 k_ ∧ nS Ao14 t911 co14 k_ ∧ nS Ao19 t917 co19 k_ ∧ nS Ao20 t920 co20 k_ ∧ nS Ao21 t923 co21 k_ ∧ nS Ao27 t928 co27 k_ ∧ nS Ao28 t931 co28 k_ ∧ nS Ao36 t940 co36 k_ ∧ nS Ao37 t943 co37 k_ ∧ nS Ao38 t946 co38 k_) (.slice Ao29 t934.length co29) t934) := ⟨by rw [← hgw_]; exact rM (rf (Kd.R_types HO936.out BK949.out (by decide))) jq⟩
    have n9_ : Aside0 (Kd.R (Kd.int .i64) 2 w42 w.heap.size (fun k_ => nS Ao12 t905 co12 k_ ∧ nS Ao13 t908 co13 k_ ∧ nS Ao14 t911 co14 k_ ∧ nS Ao19 t917 co19 k_ ∧ nS Ao20 t920 co20 k_ ∧ nS Ao21 t923 co21 k_ ∧ nS Ao27 t928 co27 k_ ∧ nS Ao28 t931 co28 k_ ∧ nS Ao29 t934 co29 k_ ∧ nS Ao37 t943 co37 k_ ∧ nS Ao38 t946 co38 k_) (.slice Ao36 t940.length co36) t940) := ⟨by rw [← hgw_]; exact rM (rf (Kd.R_types HO942.out BK949.out (by decide))) jq⟩
    have n10_ : Aside0 (Kd.R (Kd.int .i64) 2 w42 w.heap.size (fun k_ => nS Ao12 t905 co12 k_ ∧ nS Ao13 t908 co13 k_ ∧ nS Ao14 t911 co14 k_ ∧ nS Ao19 t917 co19 k_ ∧ nS Ao20 t920 co20 k_ ∧ nS Ao21 t923 co21 k_ ∧ nS Ao27 t928 co27 k_ ∧ nS Ao28 t931 co28 k_ ∧ nS Ao29 t934 co29 k_ ∧ nS Ao36 t940 co36 k_ ∧ nS Ao38 t946 co38 k_) (.slice Ao37 t943.length co37) t943) := ⟨by rw [← hgw_]; exact rM (rf (Kd.R_types HO945.out BK949.out (by decide))) jq⟩
    have n11_ : Aside0 (Kd.R (Kd.int .i64) 2 w42 w.heap.size (fun k_ => nS Ao12 t905 co12 k_ ∧ nS Ao13 t908 co13 k_ ∧ nS Ao14 t911 co14 k_ ∧ nS Ao19 t917 co19 k_ ∧ nS Ao20 t920 co20 k_ ∧ nS Ao21 t923 co21 k_ ∧ nS Ao27 t928 co27 k_ ∧ nS Ao28 t931 co28 k_ ∧ nS Ao29 t934 co29 k_ ∧ nS Ao36 t940 co36 k_ ∧ nS Ao37 t943 co37 k_) (.slice Ao38 t946.length co38) t946) := ⟨by rw [← hgw_]; exact rM (rf (Kd.R_types HO948.out BK949.out (by decide))) jq⟩
    have n12_ : Aside0 (w42.heap[gb914]? = some (.cells #[.int .i64 t904, .slice Ao12 t905.length co12, .slice Ao13 t908.length co13] 48 (0, 0))) := ⟨by rw [← hgw_]; exact fq BK914.out⟩
    have n13_ : Aside0 (w42.heap[gb926]? = some (.cells #[.int .i64 t915, .int .i64 t916, .slice Ao19 t917.length co19, .slice Ao20 t920.length co20, .slice Ao21 t923.length co21] 50 (0, 0))) := ⟨by rw [← hgw_]; exact fq BK926.out⟩
    have n14_ : Aside0 (w42.heap[gb937]? = some (.cells #[.int .i64 t927, .slice Ao27 t928.length co27, .slice Ao28 t931.length co28] 35 (0, 0))) := ⟨by rw [← hgw_]; exact fq BK937.out⟩
    have n15_ : Aside0 (w42.heap[gb949]? = some (.cells #[.int .i64 t938, .int .i64 t939, .slice Ao36 t940.length co36, .slice Ao37 t943.length co37, .slice Ao38 t946.length co38] 37 (0, 0))) := ⟨by rw [← hgw_]; exact fq BK949.out⟩
    have n16_ : Aside0 (Below w.heap.size w w42) := ⟨by rw [← hgw_]; repeat (first | (with_reducible first | exact HB.out | apply bA | apply bN | apply bD | refine bS ?_ GE914.out | refine bS ?_ GE926.out | refine bS ?_ GE937.out | refine bS ?_ GE949.out) | exact HB.out)⟩
    (try clear HO907)
    (try clear HO910)
    (try clear HO913)
    (try clear HO919)
    (try clear HO922)
    (try clear HO925)
    (try clear HO930)
    (try clear HO933)
    (try clear HO936)
    (try clear HO942)
    (try clear HO945)
    (try clear HO948)
    (try clear BK914)
    (try clear BK926)
    (try clear BK937)
    (try clear BK949)
    (try clear HB)
    clear hgw_
    have HO907 := n0_
    have HO910 := n1_
    have HO913 := n2_
    have HO919 := n3_
    have HO922 := n4_
    have HO925 := n5_
    have HO930 := n6_
    have HO933 := n7_
    have HO936 := n8_
    have HO942 := n9_
    have HO945 := n10_
    have HO948 := n11_
    have BK914 := n12_
    have BK926 := n13_
    have BK937 := n14_
    have BK949 := n15_
    have HB := n16_
    clear n0_ n1_ n2_ n3_ n4_ n5_ n6_ n7_ n8_ n9_ n10_ n11_ n12_ n13_ n14_ n15_ n16_
    replace HO907 := aM (Kd.Q_drew HO907.out)
    replace HO910 := zd HO910
    replace HO913 := zd HO913
    replace HO919 := zd HO919
    replace HO922 := zd HO922
    replace HO925 := zd HO925
    replace HO930 := zd HO930
    replace HO933 := zd HO933
    replace HO936 := zd HO936
    replace HO942 := zd HO942
    replace HO945 := zd HO945
    replace HO948 := zd HO948
    replace BK914 := zk BK914
    replace BK926 := zk BK926
    replace BK937 := zk BK937
    replace BK949 := zk BK949
    replace HB := aM (bD HB.out)
    refine start_ (n := 16) (S := fun w' => w'.cell? ⟨gb926, 0, none⟩ = some (.int .i64 t915) ∧ w'.cell? ⟨gb926, 1, none⟩ = some (.int .i64 t916) ∧ w'.cell? ⟨gb926, 2, none⟩ = some (.slice Ao19 t917.length co19) ∧ w'.cell? ⟨gb926, 3, none⟩ = some (.slice Ao20 t920.length co20) ∧ w'.cell? ⟨gb926, 4, none⟩ = some (.slice Ao21 t923.length co21) ∧ w'.cell? ⟨gb914, 0, none⟩ = some (.int .i64 t904) ∧ w'.cell? ⟨gb914, 1, none⟩ = some (.slice Ao12 t905.length co12) ∧ w'.cell? ⟨gb914, 2, none⟩ = some (.slice Ao13 t908.length co13) ∧ w'.cell? ⟨gb949, 0, none⟩ = some (.int .i64 t938) ∧ w'.cell? ⟨gb949, 1, none⟩ = some (.int .i64 t939) ∧ w'.cell? ⟨gb949, 2, none⟩ = some (.slice Ao36 t940.length co36) ∧ w'.cell? ⟨gb949, 3, none⟩ = some (.slice Ao37 t943.length co37) ∧ w'.cell? ⟨gb949, 4, none⟩ = some (.slice Ao38 t946.length co38) ∧ w'.cell? ⟨gb937, 0, none⟩ = some (.int .i64 t927) ∧ w'.cell? ⟨gb937, 1, none⟩ = some (.slice Ao27 t928.length co27) ∧ w'.cell? ⟨gb937, 2, none⟩ = some (.slice Ao28 t931.length co28)) (ds := []) #[N,N,N,N,N,N,N,N,N,N,N,N,N,N,N,N] kr rfl rfl ⟨cc, cc, cc, cc, cc, cc, cc, cc, cc, cc, cc, cc, cc, cc, cc, cc⟩ (fun hHeld => ?_); refine with_tabW laws_FnStates.tab7 laws_FnStates.bits7 (fun HT_ HW_ => ?_)
    generalize w42.drew = w43 at HO907 HO910 HO913 HO919 HO922 HO925 HO930 HO933 HO936 HO942 HO945 HO948 BK914 BK926 BK937 BK949 HB hHeld ⊢
    refine p1 27 0 ?_
    refine p1 30 3 ?_
    refine t1 28 1 ?_ (hy := by rintro w' ⟨s0, s1, s2, s3, s4, s5, s6, s7, s8, s9, s10, s11, s12, s13, s14, s15⟩; go_simp; with_reducible rfl)
    refine t1 29 2 ?_ (hy := by rintro w' ⟨s0, s1, s2, s3, s4, s5, s6, s7, s8, s9, s10, s11, s12, s13, s14, s15⟩; go_simp; with_reducible rfl)
    refine o1 31 4 fun K hK => ?_
    refine goes_ Try.func27 kr rfl #[.agg #[.int .i64 t904, .slice Ao12 t905.length co12, .slice Ao13 t908.length co13], .slice Ao14 t911.length co14] (by rfl) rfl rfl mq ?_
    with_reducible refine (spec_FeedFrame.calls k t904 _ _ t905 _ _ t908 _ _ t911 t950 t951 t952 t955 t958 _ ?s1 ?s2 ?s3 ?s4 ?s5 ?s6 A39.out).mono ?_
    (case s1 => exact cq (Kd.Q_reads' HO907.out).2.2)
    (case s2 => exact (Kd.Q_reads' HO907.out).2.1)
    (case s3 => exact cq (rR HO910.out).2.2)
    (case s4 => exact (rR HO910.out).2.1)
    (case s5 => exact cq (rR HO913.out).2.2)
    (case s6 => exact (rR HO913.out).2.1)
    rintro e w44 ⟨v953, v956, v959, rfl, ho0, ho1, ho2, hb⟩
    refine ⟨_, rfl, ?_⟩
    have HO954 := aM (rG (wq (wq (wq (wq (wq (wq (wq (wq (wq (wq (wq (rW ho0 (Kd.Q_lt (oq HO907.out))) HO910) HO913) HO919) HO922) HO925) HO930) HO933) HO936) HO942) HO945) HO948) (bZ bq))
    have HO957 := aM (rG (wq (wq (wq (wq (wq (wq (wq (wq (wq (wq (wq (rW ho1 (Kd.Q_lt (oq HO907.out))) HO910) HO913) HO919) HO922) HO925) HO930) HO933) HO936) HO942) HO945) HO948) (bZ bq))
    have HO960 := aM (rG (wq (wq (wq (wq (wq (wq (wq (wq (wq (wq (wq (rW ho2 (Kd.Q_lt (oq HO907.out))) HO910) HO913) HO919) HO922) HO925) HO930) HO933) HO936) HO942) HO945) HO948) (bZ bq))
    replace HO907 := aM (Kd.Q_mono (Kd.Q_told (Kd.Q_told (Kd.Q_told (Kd.Q_old (oq HO907.out) hb) (rB ho0)) (rB ho1)) (rB ho2)) (fun _ h_ => h_.1))
    replace HO910 := z3 (rq HO910.out) hb ho0 ho1 ho2
    replace HO913 := z3 (rq HO913.out) hb ho0 ho1 ho2
    replace HO919 := z3 (rq HO919.out) hb ho0 ho1 ho2
    replace HO922 := z3 (rq HO922.out) hb ho0 ho1 ho2
    replace HO925 := z3 (rq HO925.out) hb ho0 ho1 ho2
    replace HO930 := z3 (rq HO930.out) hb ho0 ho1 ho2
    replace HO933 := z3 (rq HO933.out) hb ho0 ho1 ho2
    replace HO936 := z3 (rq HO936.out) hb ho0 ho1 ho2
    replace HO942 := z3 (rq HO942.out) hb ho0 ho1 ho2
    replace HO945 := z3 (rq HO945.out) hb ho0 ho1 ho2
    replace HO948 := z3 (rq HO948.out) hb ho0 ho1 ho2
    replace BK914 := zb BK914 hb
    replace BK926 := zb BK926 hb
    replace BK937 := zb BK937 hb
    replace BK949 := zb BK949 hb
    replace HB := aM (bT bq hb)
    (try clear hb)
    (try clear hb2)
    (try clear hk)
    (try clear hi)
    (try clear ho0)
    (try clear ho1)
    (try clear ho2)
    refine hK.out _ _ ⟨cc, cc, cc, cc, cc, cc, cc, cc, cc, cc, cc, cc, cc, cc, cc, cc⟩ (fun hHeld => ?_)
    clear hK K
    refine nn ?_
    refine p1 32 5 ?_
    refine p1 33 6 ?_
    refine p1 34 7 ?_
    refine p1 35 8 ?_
    refine p1 38 11 ?_
    refine t1 36 9 ?_ (hy := by rintro w' ⟨s0, s1, s2, s3, s4, s5, s6, s7, s8, s9, s10, s11, s12, s13, s14, s15⟩; go_simp; with_reducible rfl)
    refine t1 37 10 ?_ (hy := by rintro w' ⟨s0, s1, s2, s3, s4, s5, s6, s7, s8, s9, s10, s11, s12, s13, s14, s15⟩; go_simp; with_reducible rfl)
    refine o1 39 12 fun K hK => ?_
    refine goes_ Try.func18 kr rfl #[.agg #[.int .i64 t927, .slice Ao27 t928.length co27, .slice Ao28 t931.length co28], .slice Ao29 t934.length co29] (by rfl) rfl rfl mq ?_
    with_reducible refine (spec_PlayBlock.calls k t927 _ _ t928 _ _ t931 _ _ t934 t961 t962 t963 t966 t969 _ ?s1 ?s2 ?s3 ?s4 ?s5 ?s6 A41.out).mono ?_
    (case s1 => exact cq (rR HO930.out).2.2)
    (case s2 => exact (rR HO930.out).2.1)
    (case s3 => exact cq (rR HO933.out).2.2)
    (case s4 => exact (rR HO933.out).2.1)
    (case s5 => exact cq (rR HO936.out).2.2)
    (case s6 => exact (rR HO936.out).2.1)
    rintro e w45 ⟨v964, v967, v970, rfl, ho0, ho1, ho2, hb⟩
    refine ⟨_, rfl, ?_⟩
    have HO965 := aM (rG (wq (wq (wq (wq (wq (wq (wq (wq (wq (wq (wq (wq (wq (wq (rW ho0 (Kd.Q_lt (oq HO907.out))) HO910) HO913) HO919) HO922) HO925) HO930) HO933) HO936) HO942) HO945) HO948) HO954) HO957) HO960) (bZ bq))
    have HO968 := aM (rG (wq (wq (wq (wq (wq (wq (wq (wq (wq (wq (wq (wq (wq (wq (rW ho1 (Kd.Q_lt (oq HO907.out))) HO910) HO913) HO919) HO922) HO925) HO930) HO933) HO936) HO942) HO945) HO948) HO954) HO957) HO960) (bZ bq))
    have HO971 := aM (rG (wq (wq (wq (wq (wq (wq (wq (wq (wq (wq (wq (wq (wq (wq (rW ho2 (Kd.Q_lt (oq HO907.out))) HO910) HO913) HO919) HO922) HO925) HO930) HO933) HO936) HO942) HO945) HO948) HO954) HO957) HO960) (bZ bq))
    replace HO907 := aM (Kd.Q_mono (Kd.Q_told (Kd.Q_told (Kd.Q_told (Kd.Q_old (oq HO907.out) hb) (rB ho0)) (rB ho1)) (rB ho2)) (fun _ h_ => h_.1))
    replace HO910 := z3 (rq HO910.out) hb ho0 ho1 ho2
    replace HO913 := z3 (rq HO913.out) hb ho0 ho1 ho2
    replace HO919 := z3 (rq HO919.out) hb ho0 ho1 ho2
    replace HO922 := z3 (rq HO922.out) hb ho0 ho1 ho2
    replace HO925 := z3 (rq HO925.out) hb ho0 ho1 ho2
    replace HO930 := z3 (rq HO930.out) hb ho0 ho1 ho2
    replace HO933 := z3 (rq HO933.out) hb ho0 ho1 ho2
    replace HO936 := z3 (rq HO936.out) hb ho0 ho1 ho2
    replace HO942 := z3 (rq HO942.out) hb ho0 ho1 ho2
    replace HO945 := z3 (rq HO945.out) hb ho0 ho1 ho2
    replace HO948 := z3 (rq HO948.out) hb ho0 ho1 ho2
    replace HO954 := z3 (rq HO954.out) hb ho0 ho1 ho2
    replace HO957 := z3 (rq HO957.out) hb ho0 ho1 ho2
    replace HO960 := z3 (rq HO960.out) hb ho0 ho1 ho2
    replace BK914 := zb BK914 hb
    replace BK926 := zb BK926 hb
    replace BK937 := zb BK937 hb
    replace BK949 := zb BK949 hb
    replace HB := aM (bT bq hb)
    (try clear hb)
    (try clear hb2)
    (try clear hk)
    (try clear hi)
    (try clear ho0)
    (try clear ho1)
    (try clear ho2)
    refine hK.out _ _ ⟨cc, cc, cc, cc, cc, cc, cc, cc, cc, cc, cc, cc, cc, cc, cc, cc⟩ (fun hHeld => ?_)
    clear hK K
    refine nn ?_
    refine p1 40 13 ?_
    refine p1 41 14 ?_
    refine p1 42 15 ?_
    refine done_ (done_of HT_.out kr) ?_
    try go_wp2
    go_meet
    case rel => exact ⟨_, ((t938 != t961)), (ex), H', ⟨by first | omega | exact Nat.le_refl _⟩, aM (rq (rM HO913.out jq)), aM (rq (rM HO936.out jq)), aM (oq (Kd.Q_mono HO907.out jq)), aM (rq (rM HO910.out jq)), aM (rq (rM HO919.out jq)), aM (rq (rM HO922.out jq)), aM (rq (rM HO925.out jq)), aM (rq (rM HO930.out jq)), aM (rq (rM HO933.out jq)), aM (rq (rM HO942.out jq)), aM (rq (rM HO945.out jq)), aM (rq (rM HO948.out jq)), aM (kq BK914.out), aM (kq BK926.out), aM (kq BK937.out), aM (kq BK949.out), ⟨bq⟩⟩
   ·rw [if_neg c40] at H
    have c40b0 := eF c40
    have c40b1 := nT c40
    (first | rw [c40b0] | (simp only [i64_w, i32_w]; rw [c40b0]) | skip)
    have H' := aM H
    clear H
    try go_wp2
    generalize hgw_ : (((((w31.setCell ⟨gb949, 0, none⟩ (.int .i64 t938)).setCell ⟨gb949, 1, none⟩ (.int .i64 t939)).setCell ⟨gb949, 2, none⟩ (.slice Ao36 t940.length co36)).setCell ⟨gb949, 3, none⟩ (.slice Ao37 t943.length co37)).setCell ⟨gb949, 4, none⟩ (.slice Ao38 t946.length co38)) = w46
    have n0_ : Aside0 (Kd.Q (Kd.int .i64) 2 w46 w.heap.size (fun k_ => nS Ao13 t908 co13 k_ ∧ nS Ao14 t911 co14 k_ ∧ nS Ao19 t917 co19 k_ ∧ nS Ao20 t920 co20 k_ ∧ nS Ao21 t923 co21 k_ ∧ nS Ao27 t928 co27 k_ ∧ nS Ao28 t931 co28 k_ ∧ nS Ao29 t934 co29 k_ ∧ nS Ao36 t940 co36 k_ ∧ nS Ao37 t943 co37 k_ ∧ nS Ao38 t946 co38 k_) (.slice Ao12 t905.length co12) t905) := ⟨by rw [← hgw_]; exact Kd.Q_mono (Kd.Q_far (p := ⟨gb949, 4, none⟩) (Kd.Q_far (p := ⟨gb949, 3, none⟩) (Kd.Q_far (p := ⟨gb949, 2, none⟩) (Kd.Q_far (p := ⟨gb949, 1, none⟩) (Kd.Q_far (p := ⟨gb949, 0, none⟩) (Kd.Q_types HO907.out BK949.out (by decide)) (fun _ hk => hk.2) (.int .i64 t938)) (fun _ hk => hk.2) (.int .i64 t939)) (fun _ hk => hk.2) (.slice Ao36 t940.length co36)) (fun _ hk => hk.2) (.slice Ao37 t943.length co37)) (fun _ hk => hk.2) (.slice Ao38 t946.length co38)) jq⟩
    have n1_ : Aside0 (Kd.R (Kd.int .i64) 2 w46 w.heap.size (fun k_ => nS Ao12 t905 co12 k_ ∧ nS Ao14 t911 co14 k_ ∧ nS Ao19 t917 co19 k_ ∧ nS Ao20 t920 co20 k_ ∧ nS Ao21 t923 co21 k_ ∧ nS Ao27 t928 co27 k_ ∧ nS Ao28 t931 co28 k_ ∧ nS Ao29 t934 co29 k_ ∧ nS Ao36 t940 co36 k_ ∧ nS Ao37 t943 co37 k_ ∧ nS Ao38 t946 co38 k_) (.slice Ao13 t908.length co13) t908) := ⟨by rw [← hgw_]; exact rM (rf (Kd.R_types HO910.out BK949.out (by decide))) jq⟩
    have n2_ : Aside0 (Kd.R (Kd.int .i64) 2 w46 w.heap.size (fun k_ => nS Ao12 t905 co12 k_ ∧ nS Ao13 t908 co13 k_ ∧ nS Ao19 t917 co19 k_ ∧ nS Ao20 t920 co20 k_ ∧ nS Ao21 t923 co21 k_ ∧ nS Ao27 t928 co27 k_ ∧ nS Ao28 t931 co28 k_ ∧ nS Ao29 t934 co29 k_ ∧ nS Ao36 t940 co36 k_ ∧ nS Ao37 t943 co37 k_ ∧ nS Ao38 t946 co38 k_) (.slice Ao14 t911.length co14) t911) := ⟨by rw [← hgw_]; exact rM (rf (Kd.R_types HO913.out BK949.out (by decide))) jq⟩
    have n3_ : Aside0 (Kd.R (Kd.int .i64) 2 w46 w.heap.size (fun k_ => nS Ao12 t905 co12 k_ ∧ nS Ao13 t908 co13 k_ ∧ nS Ao14 t911 co14 k_ ∧ nS Ao20 t920 co20 k_ ∧ nS Ao21 t923 co21 k_ ∧ nS Ao27 t928 co27 k_ ∧ nS Ao28 t931 co28 k_ ∧ nS Ao29 t934 co29 k_ ∧ nS Ao36 t940 co36 k_ ∧ nS Ao37 t943 co37 k_ ∧ nS Ao38 t946 co38 k_) (.slice Ao19 t917.length co19) t917) := ⟨by rw [← hgw_]; exact rM (rf (Kd.R_types HO919.out BK949.out (by decide))) jq⟩
    have n4_ : Aside0 (Kd.R (Kd.int .i64) 2 w46 w.heap.size (fun k_ => nS Ao12 t905 co12 k_ ∧ nS Ao13 t908 co13 k_ ∧ nS Ao14 t911 co14 k_ ∧ nS Ao19 t917 co19 k_ ∧ nS Ao21 t923 co21 k_ ∧ nS Ao27 t928 co27 k_ ∧ nS Ao28 t931 co28 k_ ∧ nS Ao29 t934 co29 k_ ∧ nS Ao36 t940 co36 k_ ∧ nS Ao37 t943 co37 k_ ∧ nS Ao38 t946 co38 k_) (.slice Ao20 t920.length co20) t920) := ⟨by rw [← hgw_]; exact rM (rf (Kd.R_types HO922.out BK949.out (by decide))) jq⟩
    have n5_ : Aside0 (Kd.R (Kd.int .i64) 2 w46 w.heap.size (fun k_ => nS Ao12 t905 co12 k_ ∧ nS Ao13 t908 co13 k_ ∧ nS Ao14 t911 co14 k_ ∧ nS Ao19 t917 co19 k_ ∧ nS Ao20 t920 co20 k_ ∧ nS Ao27 t928 co27 k_ ∧ nS Ao28 t931 co28 k_ ∧ nS Ao29 t934 co29 k_ ∧ nS Ao36 t940 co36 k_ ∧ nS Ao37 t943 co37 k_ ∧ nS Ao38 t946 co38 k_) (.slice Ao21 t923.length co21) t923) := ⟨by rw [← hgw_]; exact rM (rf (Kd.R_types HO925.out BK949.out (by decide))) jq⟩
    have n6_ : Aside0 (Kd.R (Kd.int .i64) 2 w46 w.heap.size (fun k_ => nS Ao12 t905 co12 k_ ∧ nS Ao13 t908 co13 k_ ∧ nS Ao14 t911 co14 k_ ∧ nS Ao19 t917 co19 k_ ∧ nS Ao20 t920 co20 k_ ∧ nS Ao21 t923 co21 k_ ∧ nS Ao28 t931 co28 k_ ∧ nS Ao29 t934 co29 k_ ∧ nS Ao36 t940 co36 k_ ∧ nS Ao37 t943 co37 k_ ∧ nS Ao38 t946 co38 k_) (.slice Ao27 t928.length co27) t928) := ⟨by rw [← hgw_]; exact rM (rf (Kd.R_types HO930.out BK949.out (by decide))) jq⟩
    have n7_ : Aside0 (Kd.R (Kd.int .i64) 2 w46 w.heap.size (fun k_ => nS Ao12 t905 co12 k_ ∧ nS Ao13 t908 co13 k_ ∧ nS Ao14 t911 co14 k_ ∧ nS Ao19 t917 co19 k_ ∧ nS Ao20 t920 co20 k_ ∧ nS Ao21 t923 co21 k_ ∧ nS Ao27 t928 co27 k_ ∧ nS Ao29 t934 co29 k_ ∧ nS Ao36 t940 co36 k_ ∧ nS Ao37 t943 co37 k_ ∧ nS Ao38 t946 co38 k_) (.slice Ao28 t931.length co28) t931) := ⟨by rw [← hgw_]; exact rM (rf (Kd.R_types HO933.out BK949.out (by decide))) jq⟩
    have n8_ : Aside0 (Kd.R (Kd.int .i64) 2 w46 w.heap.size (fun k_ => nS Ao12 t905 co12 k_ ∧ nS Ao13 t908 co13 k_ ∧ nS Ao14 t911 co14 k_ ∧ nS Ao19 t917 co19 k_ ∧ nS Ao20 t920 co20 k_ ∧ nS Ao21 t923 co21 k_ ∧ nS Ao27 t928 co27 k_ ∧ nS Ao28 t931 co28 k_ ∧ nS Ao36 t940 co36 k_ ∧ nS Ao37 t943 co37 k_ ∧ nS Ao38 t946 co38 k_) (.slice Ao29 t934.length co29) t934) := ⟨by rw [← hgw_]; exact rM (rf (Kd.R_types HO936.out BK949.out (by decide))) jq⟩
    have n9_ : Aside0 (Kd.R (Kd.int .i64) 2 w46 w.heap.size (fun k_ => nS Ao12 t905 co12 k_ ∧ nS Ao13 t908 co13 k_ ∧ nS Ao14 t911 co14 k_ ∧ nS Ao19 t917 co19 k_ ∧ nS Ao20 t920 co20 k_ ∧ nS Ao21 t923 co21 k_ ∧ nS Ao27 t928 co27 k_ ∧ nS Ao28 t931 co28 k_ ∧ nS Ao29 t934 co29 k_ ∧ nS Ao37 t943 co37 k_ ∧ nS Ao38 t946 co38 k_) (.slice Ao36 t940.length co36) t940) := ⟨by rw [← hgw_]; exact rM (rf (Kd.R_types HO942.out BK949.out (by decide))) jq⟩
    have n10_ : Aside0 (Kd.R (Kd.int .i64) 2 w46 w.heap.size (fun k_ => nS Ao12 t905 co12 k_ ∧ nS Ao13 t908 co13 k_ ∧ nS Ao14 t911 co14 k_ ∧ nS Ao19 t917 co19 k_ ∧ nS Ao20 t920 co20 k_ ∧ nS Ao21 t923 co21 k_ ∧ nS Ao27 t928 co27 k_ ∧ nS Ao28 t931 co28 k_ ∧ nS Ao29 t934 co29 k_ ∧ nS Ao36 t940 co36 k_ ∧ nS Ao38 t946 co38 k_) (.slice Ao37 t943.length co37) t943) := ⟨by rw [← hgw_]; exact rM (rf (Kd.R_types HO945.out BK949.out (by decide))) jq⟩
    have n11_ : Aside0 (Kd.R (Kd.int .i64) 2 w46 w.heap.size (fun k_ => nS Ao12 t905 co12 k_ ∧ nS Ao13 t908 co13 k_ ∧ nS Ao14 t911 co14 k_ ∧ nS Ao19 t917 co19 k_ ∧ nS Ao20 t920 co20 k_ ∧ nS Ao21 t923 co21 k_ ∧ nS Ao27 t928 co27 k_ ∧ nS Ao28 t931 co28 k_ ∧ nS Ao29 t934 co29 k_ ∧ nS Ao36 t940 co36 k_ ∧ nS Ao37 t943 co37 k_) (.slice Ao38 t946.length co38) t946) := ⟨by rw [← hgw_]; exact rM (rf (Kd.R_types HO948.out BK949.out (by decide))) jq⟩
    have n12_ : Aside0 (w46.heap[gb914]? = some (.cells #[.int .i64 t904, .slice Ao12 t905.length co12, .slice Ao13 t908.length co13] 48 (0, 0))) := ⟨by rw [← hgw_]; exact fq BK914.out⟩
    have n13_ : Aside0 (w46.heap[gb926]? = some (.cells #[.int .i64 t915, .int .i64 t916, .slice Ao19 t917.length co19, .slice Ao20 t920.length co20, .slice Ao21 t923.length co21] 50 (0, 0))) := ⟨by rw [← hgw_]; exact fq BK926.out⟩
    have n14_ : Aside0 (w46.heap[gb937]? = some (.cells #[.int .i64 t927, .slice Ao27 t928.length co27, .slice Ao28 t931.length co28] 35 (0, 0))) := ⟨by rw [← hgw_]; exact fq BK937.out⟩
    have n15_ : Aside0 (w46.heap[gb949]? = some (.cells #[.int .i64 t938, .int .i64 t939, .slice Ao36 t940.length co36, .slice Ao37 t943.length co37, .slice Ao38 t946.length co38] 37 (0, 0))) := ⟨by rw [← hgw_]; exact fq BK949.out⟩
    have n16_ : Aside0 (Below w.heap.size w w46) := ⟨by rw [← hgw_]; repeat (first | (with_reducible first | exact HB.out | apply bA | apply bN | apply bD | refine bS ?_ GE914.out | refine bS ?_ GE926.out | refine bS ?_ GE937.out | refine bS ?_ GE949.out) | exact HB.out)⟩
    (try clear HO907)
    (try clear HO910)
    (try clear HO913)
    (try clear HO919)
    (try clear HO922)
    (try clear HO925)
    (try clear HO930)
    (try clear HO933)
    (try clear HO936)
    (try clear HO942)
    (try clear HO945)
    (try clear HO948)
    (try clear BK914)
    (try clear BK926)
    (try clear BK937)
    (try clear BK949)
    (try clear HB)
    clear hgw_
    have HO907 := n0_
    have HO910 := n1_
    have HO913 := n2_
    have HO919 := n3_
    have HO922 := n4_
    have HO925 := n5_
    have HO930 := n6_
    have HO933 := n7_
    have HO936 := n8_
    have HO942 := n9_
    have HO945 := n10_
    have HO948 := n11_
    have BK914 := n12_
    have BK926 := n13_
    have BK937 := n14_
    have BK949 := n15_
    have HB := n16_
    clear n0_ n1_ n2_ n3_ n4_ n5_ n6_ n7_ n8_ n9_ n10_ n11_ n12_ n13_ n14_ n15_ n16_
    replace HO907 := aM (Kd.Q_drew HO907.out)
    replace HO910 := zd HO910
    replace HO913 := zd HO913
    replace HO919 := zd HO919
    replace HO922 := zd HO922
    replace HO925 := zd HO925
    replace HO930 := zd HO930
    replace HO933 := zd HO933
    replace HO936 := zd HO936
    replace HO942 := zd HO942
    replace HO945 := zd HO945
    replace HO948 := zd HO948
    replace BK914 := zk BK914
    replace BK926 := zk BK926
    replace BK937 := zk BK937
    replace BK949 := zk BK949
    replace HB := aM (bD HB.out)
    refine start_ (n := 16) (S := fun w' => w'.cell? ⟨gb926, 0, none⟩ = some (.int .i64 t915) ∧ w'.cell? ⟨gb926, 1, none⟩ = some (.int .i64 t916) ∧ w'.cell? ⟨gb926, 2, none⟩ = some (.slice Ao19 t917.length co19) ∧ w'.cell? ⟨gb926, 3, none⟩ = some (.slice Ao20 t920.length co20) ∧ w'.cell? ⟨gb926, 4, none⟩ = some (.slice Ao21 t923.length co21) ∧ w'.cell? ⟨gb914, 0, none⟩ = some (.int .i64 t904) ∧ w'.cell? ⟨gb914, 1, none⟩ = some (.slice Ao12 t905.length co12) ∧ w'.cell? ⟨gb914, 2, none⟩ = some (.slice Ao13 t908.length co13)) (ds := []) #[N,N,N,N,N,N,N,N,N,N,N,N,N,N,N,N] kr rfl rfl ⟨cc, cc, cc, cc, cc, cc, cc, cc⟩ (fun hHeld => ?_); refine with_tabW laws_FnStates.tab7 laws_FnStates.bits7 (fun HT_ HW_ => ?_)
    generalize w46.drew = w47 at HO907 HO910 HO913 HO919 HO922 HO925 HO930 HO933 HO936 HO942 HO945 HO948 BK914 BK926 BK937 BK949 HB hHeld ⊢
    refine p1 27 0 ?_
    refine p1 30 3 ?_
    refine t1 28 1 ?_ (hy := by rintro w' ⟨s0, s1, s2, s3, s4, s5, s6, s7⟩; go_simp; with_reducible rfl)
    refine t1 29 2 ?_ (hy := by rintro w' ⟨s0, s1, s2, s3, s4, s5, s6, s7⟩; go_simp; with_reducible rfl)
    refine o1 31 4 fun K hK => ?_
    refine goes_ Try.func27 kr rfl #[.agg #[.int .i64 t904, .slice Ao12 t905.length co12, .slice Ao13 t908.length co13], .slice Ao14 t911.length co14] (by rfl) rfl rfl mq ?_
    with_reducible refine (spec_FeedFrame.calls k t904 _ _ t905 _ _ t908 _ _ t911 t950 t951 t952 t955 t958 _ ?s1 ?s2 ?s3 ?s4 ?s5 ?s6 A39.out).mono ?_
    (case s1 => exact cq (Kd.Q_reads' HO907.out).2.2)
    (case s2 => exact (Kd.Q_reads' HO907.out).2.1)
    (case s3 => exact cq (rR HO910.out).2.2)
    (case s4 => exact (rR HO910.out).2.1)
    (case s5 => exact cq (rR HO913.out).2.2)
    (case s6 => exact (rR HO913.out).2.1)
    rintro e w48 ⟨v953, v956, v959, rfl, ho0, ho1, ho2, hb⟩
    refine ⟨_, rfl, ?_⟩
    have HO954 := aM (rG (wq (wq (wq (wq (wq (wq (wq (wq (wq (wq (wq (rW ho0 (Kd.Q_lt (oq HO907.out))) HO910) HO913) HO919) HO922) HO925) HO930) HO933) HO936) HO942) HO945) HO948) (bZ bq))
    have HO957 := aM (rG (wq (wq (wq (wq (wq (wq (wq (wq (wq (wq (wq (rW ho1 (Kd.Q_lt (oq HO907.out))) HO910) HO913) HO919) HO922) HO925) HO930) HO933) HO936) HO942) HO945) HO948) (bZ bq))
    have HO960 := aM (rG (wq (wq (wq (wq (wq (wq (wq (wq (wq (wq (wq (rW ho2 (Kd.Q_lt (oq HO907.out))) HO910) HO913) HO919) HO922) HO925) HO930) HO933) HO936) HO942) HO945) HO948) (bZ bq))
    replace HO907 := aM (Kd.Q_mono (Kd.Q_told (Kd.Q_told (Kd.Q_told (Kd.Q_old (oq HO907.out) hb) (rB ho0)) (rB ho1)) (rB ho2)) (fun _ h_ => h_.1))
    replace HO910 := z3 (rq HO910.out) hb ho0 ho1 ho2
    replace HO913 := z3 (rq HO913.out) hb ho0 ho1 ho2
    replace HO919 := z3 (rq HO919.out) hb ho0 ho1 ho2
    replace HO922 := z3 (rq HO922.out) hb ho0 ho1 ho2
    replace HO925 := z3 (rq HO925.out) hb ho0 ho1 ho2
    replace HO930 := z3 (rq HO930.out) hb ho0 ho1 ho2
    replace HO933 := z3 (rq HO933.out) hb ho0 ho1 ho2
    replace HO936 := z3 (rq HO936.out) hb ho0 ho1 ho2
    replace HO942 := z3 (rq HO942.out) hb ho0 ho1 ho2
    replace HO945 := z3 (rq HO945.out) hb ho0 ho1 ho2
    replace HO948 := z3 (rq HO948.out) hb ho0 ho1 ho2
    replace BK914 := zb BK914 hb
    replace BK926 := zb BK926 hb
    replace BK937 := zb BK937 hb
    replace BK949 := zb BK949 hb
    replace HB := aM (bT bq hb)
    (try clear hb)
    (try clear hb2)
    (try clear hk)
    (try clear hi)
    (try clear ho0)
    (try clear ho1)
    (try clear ho2)
    refine hK.out _ _ ⟨cc, cc, cc, cc, cc, cc, cc, cc⟩ (fun hHeld => ?_)
    clear hK K
    refine nn ?_
    refine p1 32 5 ?_
    refine p1 33 6 ?_
    refine p1 34 7 ?_
    refine p2 35 8 ?_
    refine p2 36 9 ?_
    refine p2 37 10 ?_
    refine p2 38 11 ?_
    refine p2 39 12 ?_
    refine p2 40 13 ?_
    refine p2 41 14 ?_
    refine p1 42 15 ?_
    refine done_ (done_of HT_.out kr) ?_
    try go_wp2
    go_meet
    case rel => exact ⟨_, (true), (ex), H', ⟨by first | omega | exact Nat.le_refl _⟩, aM (rq (rM HO913.out jq)), aM (rq (rM HO936.out jq)), aM (oq (Kd.Q_mono HO907.out jq)), aM (rq (rM HO910.out jq)), aM (rq (rM HO919.out jq)), aM (rq (rM HO922.out jq)), aM (rq (rM HO925.out jq)), aM (rq (rM HO930.out jq)), aM (rq (rM HO933.out jq)), aM (rq (rM HO942.out jq)), aM (rq (rM HO945.out jq)), aM (rq (rM HO948.out jq)), aM (kq BK914.out), aM (kq BK926.out), aM (kq BK937.out), aM (kq BK949.out), ⟨bq⟩⟩
  case rest =>
   clear HC8
   try clear c1
   try clear c2
   try clear p2
   try clear c4
   try clear c18
   try clear c27
   try clear c40
   try clear c40b0
   try clear c40b1
   obtain ⟨kq, x42_7, rfl, HA, HJ7, HO_4, HO_7, HO_915001, HO_915002, HO_927002, HO_927003, HO_927004, HO_938001, HO_938002, HO_950002, HO_950003, HO_950004, BK914, BK926, BK937, BK949, HB⟩ := hcut
   cases kq with
   | zero => exact absurd HA.out (by simp [laws_FnStates.j0])
   | succ kj7 =>
    have H := HA.out
    clear HA
    simp only [laws_FnStates.j0] at H
    by_cases c49 : x42_7 = true
    ·subst c49
     have H1 : (some false) = some r := by rw [if_pos rfl] at H; exact H
     clear H
     have H := H1
     clear H1
     exact absurd (H.trans (congrArg some HLAW.out)) (by simp)
    ·replace c49 := Bool.eq_false_iff.mpr c49
     subst c49
     have H1 : (if t915 = 0 then ((impl_LapFault.f kj7 t916 t917 t920).bind fun t972 => (if t972 = 0 then ((spec_FeedFrame.f kj7 t904 t905 t908 t911).bind fun bt973 => ((laws_lwNums.f kj7 t923 bt973.2.2.2.2).bind fun t984 => (if t984 = true then ((spec_FeedFrame.f kj7 t904 t905 t908 t911).bind fun bt985 => ((impl_SameLaps.f kj7 t916 t917 t920 bt985.2.1 bt985.2.2.1 bt985.2.2.2.1).bind fun t996 => (laws_FnStates.j1 kj7 t934 (!t996) t927 t928 t931 t938 t939 t940 t943 t946))) else (laws_FnStates.j1 kj7 t934 true t927 t928 t931 t938 t939 t940 t943 t946)))) else (laws_FnStates.j1 kj7 t934 true t927 t928 t931 t938 t939 t940 t943 t946))) else (laws_FnStates.j1 kj7 t934 false t927 t928 t931 t938 t939 t940 t943 t946)) = some r := by rw [if_neg (show ¬ (false = true) by decide)] at H; exact H
     clear H
     have H := H1
     clear H1
     have HC50 := aM H
     clear H
     go_upto_region 9 with (fail)
     go_cut [71] (fun v71 wc => ∃ (kq : Nat) (x71_49 : Bool), v71 = .bool x71_49 ∧ Aside0 (laws_FnStates.j1 kq t934 x71_49 t927 t928 t931 t938 t939 t940 t943 t946 = some r) ∧ Aside0 (kq ≤ kj7) ∧ Aside0 (Kd.R (Kd.int .i64) 2 wc w.heap.size (fun k_ => some k_ ≠ ((.slice Ao12 t905.length co12) : Value).ownBlock ∧ some k_ ≠ ((.slice Ao13 t908.length co13) : Value).ownBlock ∧ some k_ ≠ ((.slice Ao19 t917.length co19) : Value).ownBlock ∧ some k_ ≠ ((.slice Ao20 t920.length co20) : Value).ownBlock ∧ some k_ ≠ ((.slice Ao21 t923.length co21) : Value).ownBlock ∧ some k_ ≠ ((.slice Ao27 t928.length co27) : Value).ownBlock ∧ some k_ ≠ ((.slice Ao28 t931.length co28) : Value).ownBlock ∧ some k_ ≠ ((.slice Ao36 t940.length co36) : Value).ownBlock ∧ some k_ ≠ ((.slice Ao37 t943.length co37) : Value).ownBlock ∧ some k_ ≠ ((.slice Ao38 t946.length co38) : Value).ownBlock) (.slice Ao29 t934.length co29) t934) ∧ Aside0 (Kd.Q (Kd.int .i64) 2 wc w.heap.size (fun k_ => some k_ ≠ ((.slice Ao29 t934.length co29) : Value).ownBlock ∧ some k_ ≠ ((.slice Ao13 t908.length co13) : Value).ownBlock ∧ some k_ ≠ ((.slice Ao19 t917.length co19) : Value).ownBlock ∧ some k_ ≠ ((.slice Ao20 t920.length co20) : Value).ownBlock ∧ some k_ ≠ ((.slice Ao21 t923.length co21) : Value).ownBlock ∧ some k_ ≠ ((.slice Ao27 t928.length co27) : Value).ownBlock ∧ some k_ ≠ ((.slice Ao28 t931.length co28) : Value).ownBlock ∧ some k_ ≠ ((.slice Ao36 t940.length co36) : Value).ownBlock ∧ some k_ ≠ ((.slice Ao37 t943.length co37) : Value).ownBlock ∧ some k_ ≠ ((.slice Ao38 t946.length co38) : Value).ownBlock) (.slice Ao12 t905.length co12) t905) ∧ Aside0 (Kd.R (Kd.int .i64) 2 wc w.heap.size (fun k_ => some k_ ≠ ((.slice Ao29 t934.length co29) : Value).ownBlock ∧ some k_ ≠ ((.slice Ao12 t905.length co12) : Value).ownBlock ∧ some k_ ≠ ((.slice Ao19 t917.length co19) : Value).ownBlock ∧ some k_ ≠ ((.slice Ao20 t920.length co20) : Value).ownBlock ∧ some k_ ≠ ((.slice Ao21 t923.length co21) : Value).ownBlock ∧ some k_ ≠ ((.slice Ao27 t928.length co27) : Value).ownBlock ∧ some k_ ≠ ((.slice Ao28 t931.length co28) : Value).ownBlock ∧ some k_ ≠ ((.slice Ao36 t940.length co36) : Value).ownBlock ∧ some k_ ≠ ((.slice Ao37 t943.length co37) : Value).ownBlock ∧ some k_ ≠ ((.slice Ao38 t946.length co38) : Value).ownBlock) (.slice Ao13 t908.length co13) t908) ∧ Aside0 (Kd.R (Kd.int .i64) 2 wc w.heap.size (fun k_ => some k_ ≠ ((.slice Ao29 t934.length co29) : Value).ownBlock ∧ some k_ ≠ ((.slice Ao12 t905.length co12) : Value).ownBlock ∧ some k_ ≠ ((.slice Ao13 t908.length co13) : Value).ownBlock ∧ some k_ ≠ ((.slice Ao20 t920.length co20) : Value).ownBlock ∧ some k_ ≠ ((.slice Ao21 t923.length co21) : Value).ownBlock ∧ some k_ ≠ ((.slice Ao27 t928.length co27) : Value).ownBlock ∧ some k_ ≠ ((.slice Ao28 t931.length co28) : Value).ownBlock ∧ some k_ ≠ ((.slice Ao36 t940.length co36) : Value).ownBlock ∧ some k_ ≠ ((.slice Ao37 t943.length co37) : Value).ownBlock ∧ some k_ ≠ ((.slice Ao38 t946.length co38) : Value).ownBlock) (.slice Ao19 t917.length co19) t917) ∧ Aside0 (Kd.R (Kd.int .i64) 2 wc w.heap.size (fun k_ => some k_ ≠ ((.slice Ao29 t934.length co29) : Value).ownBlock ∧ some k_ ≠ ((.slice Ao12 t905.length co12) : Value).ownBlock ∧ some k_ ≠ ((.slice Ao13 t908.length co13) : Value).ownBlock ∧ some k_ ≠ ((.slice Ao19 t917.length co19) : Value).ownBlock ∧ some k_ ≠ ((.slice Ao21 t923.length co21) : Value).ownBlock ∧ some k_ ≠ ((.slice Ao27 t928.length co27) : Value).ownBlock ∧ some k_ ≠ ((.slice Ao28 t931.length co28) : Value).ownBlock ∧ some k_ ≠ ((.slice Ao36 t940.length co36) : Value).ownBlock ∧ some k_ ≠ ((.slice Ao37 t943.length co37) : Value).ownBlock ∧ some k_ ≠ ((.slice Ao38 t946.length co38) : Value).ownBlock) (.slice Ao20 t920.length co20) t920) ∧ Aside0 (Kd.R (Kd.int .i64) 2 wc w.heap.size (fun k_ => some k_ ≠ ((.slice Ao29 t934.length co29) : Value).ownBlock ∧ some k_ ≠ ((.slice Ao12 t905.length co12) : Value).ownBlock ∧ some k_ ≠ ((.slice Ao13 t908.length co13) : Value).ownBlock ∧ some k_ ≠ ((.slice Ao19 t917.length co19) : Value).ownBlock ∧ some k_ ≠ ((.slice Ao20 t920.length co20) : Value).ownBlock ∧ some k_ ≠ ((.slice Ao27 t928.length co27) : Value).ownBlock ∧ some k_ ≠ ((.slice Ao28 t931.length co28) : Value).ownBlock ∧ some k_ ≠ ((.slice Ao36 t940.length co36) : Value).ownBlock ∧ some k_ ≠ ((.slice Ao37 t943.length co37) : Value).ownBlock ∧ some k_ ≠ ((.slice Ao38 t946.length co38) : Value).ownBlock) (.slice Ao21 t923.length co21) t923) ∧ Aside0 (Kd.R (Kd.int .i64) 2 wc w.heap.size (fun k_ => some k_ ≠ ((.slice Ao29 t934.length co29) : Value).ownBlock ∧ some k_ ≠ ((.slice Ao12 t905.length co12) : Value).ownBlock ∧ some k_ ≠ ((.slice Ao13 t908.length co13) : Value).ownBlock ∧ some k_ ≠ ((.slice Ao19 t917.length co19) : Value).ownBlock ∧ some k_ ≠ ((.slice Ao20 t920.length co20) : Value).ownBlock ∧ some k_ ≠ ((.slice Ao21 t923.length co21) : Value).ownBlock ∧ some k_ ≠ ((.slice Ao28 t931.length co28) : Value).ownBlock ∧ some k_ ≠ ((.slice Ao36 t940.length co36) : Value).ownBlock ∧ some k_ ≠ ((.slice Ao37 t943.length co37) : Value).ownBlock ∧ some k_ ≠ ((.slice Ao38 t946.length co38) : Value).ownBlock) (.slice Ao27 t928.length co27) t928) ∧ Aside0 (Kd.R (Kd.int .i64) 2 wc w.heap.size (fun k_ => some k_ ≠ ((.slice Ao29 t934.length co29) : Value).ownBlock ∧ some k_ ≠ ((.slice Ao12 t905.length co12) : Value).ownBlock ∧ some k_ ≠ ((.slice Ao13 t908.length co13) : Value).ownBlock ∧ some k_ ≠ ((.slice Ao19 t917.length co19) : Value).ownBlock ∧ some k_ ≠ ((.slice Ao20 t920.length co20) : Value).ownBlock ∧ some k_ ≠ ((.slice Ao21 t923.length co21) : Value).ownBlock ∧ some k_ ≠ ((.slice Ao27 t928.length co27) : Value).ownBlock ∧ some k_ ≠ ((.slice Ao36 t940.length co36) : Value).ownBlock ∧ some k_ ≠ ((.slice Ao37 t943.length co37) : Value).ownBlock ∧ some k_ ≠ ((.slice Ao38 t946.length co38) : Value).ownBlock) (.slice Ao28 t931.length co28) t931) ∧ Aside0 (Kd.R (Kd.int .i64) 2 wc w.heap.size (fun k_ => some k_ ≠ ((.slice Ao29 t934.length co29) : Value).ownBlock ∧ some k_ ≠ ((.slice Ao12 t905.length co12) : Value).ownBlock ∧ some k_ ≠ ((.slice Ao13 t908.length co13) : Value).ownBlock ∧ some k_ ≠ ((.slice Ao19 t917.length co19) : Value).ownBlock ∧ some k_ ≠ ((.slice Ao20 t920.length co20) : Value).ownBlock ∧ some k_ ≠ ((.slice Ao21 t923.length co21) : Value).ownBlock ∧ some k_ ≠ ((.slice Ao27 t928.length co27) : Value).ownBlock ∧ some k_ ≠ ((.slice Ao28 t931.length co28) : Value).ownBlock ∧ some k_ ≠ ((.slice Ao37 t943.length co37) : Value).ownBlock ∧ some k_ ≠ ((.slice Ao38 t946.length co38) : Value).ownBlock) (.slice Ao36 t940.length co36) t940) ∧ Aside0 (Kd.R (Kd.int .i64) 2 wc w.heap.size (fun k_ => some k_ ≠ ((.slice Ao29 t934.length co29) : Value).ownBlock ∧ some k_ ≠ ((.slice Ao12 t905.length co12) : Value).ownBlock ∧ some k_ ≠ ((.slice Ao13 t908.length co13) : Value).ownBlock ∧ some k_ ≠ ((.slice Ao19 t917.length co19) : Value).ownBlock ∧ some k_ ≠ ((.slice Ao20 t920.length co20) : Value).ownBlock ∧ some k_ ≠ ((.slice Ao21 t923.length co21) : Value).ownBlock ∧ some k_ ≠ ((.slice Ao27 t928.length co27) : Value).ownBlock ∧ some k_ ≠ ((.slice Ao28 t931.length co28) : Value).ownBlock ∧ some k_ ≠ ((.slice Ao36 t940.length co36) : Value).ownBlock ∧ some k_ ≠ ((.slice Ao38 t946.length co38) : Value).ownBlock) (.slice Ao37 t943.length co37) t943) ∧ Aside0 (Kd.R (Kd.int .i64) 2 wc w.heap.size (fun k_ => some k_ ≠ ((.slice Ao29 t934.length co29) : Value).ownBlock ∧ some k_ ≠ ((.slice Ao12 t905.length co12) : Value).ownBlock ∧ some k_ ≠ ((.slice Ao13 t908.length co13) : Value).ownBlock ∧ some k_ ≠ ((.slice Ao19 t917.length co19) : Value).ownBlock ∧ some k_ ≠ ((.slice Ao20 t920.length co20) : Value).ownBlock ∧ some k_ ≠ ((.slice Ao21 t923.length co21) : Value).ownBlock ∧ some k_ ≠ ((.slice Ao27 t928.length co27) : Value).ownBlock ∧ some k_ ≠ ((.slice Ao28 t931.length co28) : Value).ownBlock ∧ some k_ ≠ ((.slice Ao36 t940.length co36) : Value).ownBlock ∧ some k_ ≠ ((.slice Ao37 t943.length co37) : Value).ownBlock) (.slice Ao38 t946.length co38) t946) ∧ Aside0 (wc.heap[gb914]? = some (.cells #[.int .i64 t904, (.slice Ao12 t905.length co12), (.slice Ao13 t908.length co13)] 48 (0, 0))) ∧ Aside0 (wc.heap[gb926]? = some (.cells #[.int .i64 t915, .int .i64 t916, (.slice Ao19 t917.length co19), (.slice Ao20 t920.length co20), (.slice Ao21 t923.length co21)] 50 (0, 0))) ∧ Aside0 (wc.heap[gb937]? = some (.cells #[.int .i64 t927, (.slice Ao27 t928.length co27), (.slice Ao28 t931.length co28)] 35 (0, 0))) ∧ Aside0 (wc.heap[gb949]? = some (.cells #[.int .i64 t938, .int .i64 t939, (.slice Ao36 t940.length co36), (.slice Ao37 t943.length co37), (.slice Ao38 t946.length co38)] 37 (0, 0))) ∧ Aside0 (Below w.heap.size w wc))
     case first =>
      have H := HC50.out
      clear HC50
      by_cases c51 : t915 = 0
      ·rw [if_pos c51] at H
       have c51b0 := eT c51
       have c51b1 := nF c51
       clear c51
       (first | rw [c51b0] | (simp only [i64_w, i32_w]; rw [c51b0]) | skip)
       replace H := bo H
       obtain ⟨t972, A52, H⟩ := H
       replace H := bz H
       by_cases c53 : t972 = 0
       ·rw [if_pos c53] at H
        have c53b0 := eT c53
        have c53b1 := nF c53
        clear c53
        replace H := bo H
        obtain ⟨⟨t973, t974, t975, t978, t981⟩, A54, H⟩ := H
        replace H := bz H
        replace H := bo H
        obtain ⟨t984, A55, H⟩ := H
        replace H := bz H
        by_cases c56 : t984 = true
        ·subst c56
         have H1 : ((spec_FeedFrame.f kj7 t904 t905 t908 t911).bind fun bt985 => ((impl_SameLaps.f kj7 t916 t917 t920 bt985.2.1 bt985.2.2.1 bt985.2.2.2.1).bind fun t996 => (laws_FnStates.j1 kj7 t934 (!t996) t927 t928 t931 t938 t939 t940 t943 t946))) = some r := by rw [if_pos rfl] at H; exact H
         clear H
         have H := H1
         clear H1
         replace H := bo H
         obtain ⟨⟨t985, t986, t987, t990, t993⟩, A57, H⟩ := H
         replace H := bz H
         replace H := bo H
         obtain ⟨t996, A58, H⟩ := H
         replace H := bz H
         have H' := aM H
         clear H
         try go_wp2
         replace HO_4 := zd HO_4
         replace HO_7 := zd HO_7
         replace HO_915001 := aM (Kd.Q_drew HO_915001.out)
         replace HO_915002 := zd HO_915002
         replace HO_927002 := zd HO_927002
         replace HO_927003 := zd HO_927003
         replace HO_927004 := zd HO_927004
         replace HO_938001 := zd HO_938001
         replace HO_938002 := zd HO_938002
         replace HO_950002 := zd HO_950002
         replace HO_950003 := zd HO_950003
         replace HO_950004 := zd HO_950004
         replace BK914 := zk BK914
         replace BK926 := zk BK926
         replace BK937 := zk BK937
         replace BK949 := zk BK949
         replace HB := aM (bD HB.out)
         refine start_ (n := 29) (S := fun w' => w'.cell? ⟨gb926, 0, none⟩ = some (.int .i64 t915) ∧ w'.cell? ⟨gb926, 1, none⟩ = some (.int .i64 t916) ∧ w'.cell? ⟨gb926, 2, none⟩ = some (.slice Ao19 t917.length co19) ∧ w'.cell? ⟨gb926, 3, none⟩ = some (.slice Ao20 t920.length co20) ∧ w'.cell? ⟨gb926, 4, none⟩ = some (.slice Ao21 t923.length co21) ∧ w'.cell? ⟨gb914, 0, none⟩ = some (.int .i64 t904) ∧ w'.cell? ⟨gb914, 1, none⟩ = some (.slice Ao12 t905.length co12) ∧ w'.cell? ⟨gb914, 2, none⟩ = some (.slice Ao13 t908.length co13)) (ds := []) #[N,N,N,N,N,N,N,N,N,N,N,N,N,N,N,N,N,N,N,N,N,N,N,N,N,N,N,N,N] kr rfl rfl ⟨cc, cc, cc, cc, cc, cc, cc, cc⟩ (fun hHeld => ?_); refine with_tabW laws_FnStates.tab9 laws_FnStates.bits9 (fun HT_ HW_ => ?_)
         generalize wc.drew = w59 at HO_4 HO_7 HO_915001 HO_915002 HO_927002 HO_927003 HO_927004 HO_938001 HO_938002 HO_950002 HO_950003 HO_950004 BK914 BK926 BK937 BK949 HB hHeld ⊢
         refine p1 43 0 ?_
         refine t1 44 1 ?_ (hy := by rintro w' ⟨s0, s1, s2, s3, s4, s5, s6, s7⟩; go_simp; with_reducible rfl)
         refine p1 45 2 ?_
         refine p1 46 3 ?_
         refine p1 47 4 ?_
         refine t1 48 5 ?_ (hy := by rintro w' ⟨s0, s1, s2, s3, s4, s5, s6, s7⟩; go_simp; with_reducible rfl)
         refine o1 49 6 fun K hK => ?_
         refine goes_ Try.func43 kr rfl #[.agg #[.int .i64 t916, .slice Ao19 t917.length co19, .slice Ao20 t920.length co20]] (by rfl) rfl rfl mq ?_
         with_reducible refine (impl_LapFault.calls kj7 t916 _ _ t917 _ _ t920 t972 _ ?s1 ?s2 ?s3 ?s4 A52.out).mono ?_
         (case s1 => exact cq (rR HO_927002.out).2.2)
         (case s2 => exact (rR HO_927002.out).2.1)
         (case s3 => exact cq (rR HO_927003.out).2.2)
         (case s4 => exact (rR HO_927003.out).2.1)
         rintro e w60 ⟨rfl, hb⟩
         refine ⟨_, rfl, ?_⟩
         replace HO_4 := zl HO_4 hb
         replace HO_7 := zl HO_7 hb
         replace HO_915001 := aM (Kd.Q_below (oq HO_915001.out) hb)
         replace HO_915002 := zl HO_915002 hb
         replace HO_927002 := zl HO_927002 hb
         replace HO_927003 := zl HO_927003 hb
         replace HO_927004 := zl HO_927004 hb
         replace HO_938001 := zl HO_938001 hb
         replace HO_938002 := zl HO_938002 hb
         replace HO_950002 := zl HO_950002 hb
         replace HO_950003 := zl HO_950003 hb
         replace HO_950004 := zl HO_950004 hb
         replace BK914 := zb BK914 hb
         replace BK926 := zb BK926 hb
         replace BK937 := zb BK937 hb
         replace BK949 := zb BK949 hb
         replace HB := aM (bT bq hb)
         (try clear hb)
         (try clear hb2)
         (try clear hk)
         (try clear hi)
         refine hK.out _ _ ⟨cc, cc, cc, cc, cc, cc, cc, cc⟩ (fun hHeld => ?_)
         clear hK K
         refine nn ?_
         refine p1 50 7 ?_
         refine p1 51 8 ?_
         refine p1 52 9 ?_
         refine p1 55 12 ?_
         refine t1 53 10 ?_ (hy := by rintro w' ⟨s0, s1, s2, s3, s4, s5, s6, s7⟩; go_simp; with_reducible rfl)
         refine t1 54 11 ?_ (hy := by rintro w' ⟨s0, s1, s2, s3, s4, s5, s6, s7⟩; go_simp; with_reducible rfl)
         refine o1 56 13 fun K hK => ?_
         refine goes_ Try.func27 kr rfl #[.agg #[.int .i64 t904, .slice Ao12 t905.length co12, .slice Ao13 t908.length co13], .slice Ao14 t911.length co14] (by rfl) rfl rfl mq ?_
         with_reducible refine (spec_FeedFrame.calls kj7 t904 _ _ t905 _ _ t908 _ _ t911 t973 t974 t975 t978 t981 _ ?s1 ?s2 ?s3 ?s4 ?s5 ?s6 A54.out).mono ?_
         (case s1 => exact cq (Kd.Q_reads' HO_915001.out).2.2)
         (case s2 => exact (Kd.Q_reads' HO_915001.out).2.1)
         (case s3 => exact cq (rR HO_915002.out).2.2)
         (case s4 => exact (rR HO_915002.out).2.1)
         (case s5 => exact cq (rR HO_4.out).2.2)
         (case s6 => exact (rR HO_4.out).2.1)
         rintro e w61 ⟨v976, v979, v982, rfl, ho0, ho1, ho2, hb⟩
         refine ⟨_, rfl, ?_⟩
         have HO977 := aM (rG (wq (wq (wq (wq (wq (wq (wq (wq (wq (rW (wq (wq ho0 HO_4) HO_7) (Kd.Q_lt (oq HO_915001.out))) HO_915002) HO_927002) HO_927003) HO_927004) HO_938001) HO_938002) HO_950002) HO_950003) HO_950004) (bZ bq))
         have HO980 := aM (rG (wq (wq (wq (wq (wq (wq (wq (wq (wq (rW (wq (wq ho1 HO_4) HO_7) (Kd.Q_lt (oq HO_915001.out))) HO_915002) HO_927002) HO_927003) HO_927004) HO_938001) HO_938002) HO_950002) HO_950003) HO_950004) (bZ bq))
         have HO983 := aM (rG (wq (wq (wq (wq (wq (wq (wq (wq (wq (rW (wq (wq ho2 HO_4) HO_7) (Kd.Q_lt (oq HO_915001.out))) HO_915002) HO_927002) HO_927003) HO_927004) HO_938001) HO_938002) HO_950002) HO_950003) HO_950004) (bZ bq))
         replace HO_4 := z3 (rq HO_4.out) hb ho0 ho1 ho2
         replace HO_7 := z3 (rq HO_7.out) hb ho0 ho1 ho2
         replace HO_915001 := aM (Kd.Q_mono (Kd.Q_told (Kd.Q_told (Kd.Q_told (Kd.Q_old (oq HO_915001.out) hb) (rB ho0)) (rB ho1)) (rB ho2)) (fun _ h_ => h_.1))
         replace HO_915002 := z3 (rq HO_915002.out) hb ho0 ho1 ho2
         replace HO_927002 := z3 (rq HO_927002.out) hb ho0 ho1 ho2
         replace HO_927003 := z3 (rq HO_927003.out) hb ho0 ho1 ho2
         replace HO_927004 := z3 (rq HO_927004.out) hb ho0 ho1 ho2
         replace HO_938001 := z3 (rq HO_938001.out) hb ho0 ho1 ho2
         replace HO_938002 := z3 (rq HO_938002.out) hb ho0 ho1 ho2
         replace HO_950002 := z3 (rq HO_950002.out) hb ho0 ho1 ho2
         replace HO_950003 := z3 (rq HO_950003.out) hb ho0 ho1 ho2
         replace HO_950004 := z3 (rq HO_950004.out) hb ho0 ho1 ho2
         replace BK914 := zb BK914 hb
         replace BK926 := zb BK926 hb
         replace BK937 := zb BK937 hb
         replace BK949 := zb BK949 hb
         replace HB := aM (bT bq hb)
         (try clear hb)
         (try clear hb2)
         (try clear hk)
         (try clear hi)
         (try clear ho0)
         (try clear ho1)
         (try clear ho2)
         obtain ⟨Ao62, co62, eo62⟩ := Kd.R_slice HO983.out
         (first | subst eo62 | (injection eo62 with f1_ f2_ f3_; have f4_ := f1_.symm; have f5_ := f3_.symm; clear f1_ f2_ f3_; subst f4_; subst f5_))
         refine hK.out _ _ ⟨cc, cc, cc, cc, cc, cc, cc, cc⟩ (fun hHeld => ?_)
         clear hK K
         refine nn ?_
         refine p1 57 14 ?_
         refine o1 58 15 fun K hK => ?_
         refine goes_ Try.func44 kr rfl #[.slice Ao21 t923.length co21, .slice Ao62 t981.length co62] (by rfl) rfl rfl mq ?_
         with_reducible refine (laws_lwNums.calls kj7 _ _ t923 _ _ t981 true _ ?s1 ?s2 ?s3 ?s4 A55.out).mono ?_
         (case s1 => exact cq (rR HO_927004.out).2.2)
         (case s2 => exact (rR HO_927004.out).2.1)
         (case s3 => exact cq (rR HO983.out).2.2)
         (case s4 => exact (rR HO983.out).2.1)
         rintro e w' ⟨rfl, ⟨nd, rfl⟩⟩
         refine ⟨_, rfl, ?_⟩
         refine hK.out _ _ ⟨cc, cc, cc, cc, cc, cc, cc, cc⟩ (fun hHeld => ?_)
         clear hK K
         refine nn ?_
         refine p1 59 16 ?_
         refine p1 60 17 ?_
         refine p1 61 18 ?_
         refine p1 62 19 ?_
         refine p1 65 22 ?_
         refine t1 63 20 ?_ (hy := by rintro w' ⟨s0, s1, s2, s3, s4, s5, s6, s7⟩; go_simp; with_reducible rfl)
         refine t1 64 21 ?_ (hy := by rintro w' ⟨s0, s1, s2, s3, s4, s5, s6, s7⟩; go_simp; with_reducible rfl)
         refine o1 66 23 fun K hK => ?_
         refine goes_ Try.func27 kr rfl #[.agg #[.int .i64 t904, .slice Ao12 t905.length co12, .slice Ao13 t908.length co13], .slice Ao14 t911.length co14] (by rfl) rfl rfl mq ?_
         with_reducible refine (spec_FeedFrame.calls kj7 t904 _ _ t905 _ _ t908 _ _ t911 t985 t986 t987 t990 t993 _ ?s1 ?s2 ?s3 ?s4 ?s5 ?s6 A57.out).mono ?_
         (case s1 => exact cq (Kd.Q_reads' HO_915001.out).2.2)
         (case s2 => exact (Kd.Q_reads' HO_915001.out).2.1)
         (case s3 => exact cq (rR HO_915002.out).2.2)
         (case s4 => exact (rR HO_915002.out).2.1)
         (case s5 => exact cq (rR HO_4.out).2.2)
         (case s6 => exact (rR HO_4.out).2.1)
         rintro e w63 ⟨v988, v991, v994, rfl, ho0, ho1, ho2, hb⟩
         refine ⟨_, rfl, ?_⟩
         have HO989 := aM (rG (wq (wq (wq (wq (wq (wq (wq (wq (wq (wq (wq (wq (rW (wq (wq ho0 HO_4) HO_7) (Kd.Q_lt (oq HO_915001.out))) HO_915002) HO_927002) HO_927003) HO_927004) HO_938001) HO_938002) HO_950002) HO_950003) HO_950004) HO977) HO980) HO983) (bZ bq))
         have HO992 := aM (rG (wq (wq (wq (wq (wq (wq (wq (wq (wq (wq (wq (wq (rW (wq (wq ho1 HO_4) HO_7) (Kd.Q_lt (oq HO_915001.out))) HO_915002) HO_927002) HO_927003) HO_927004) HO_938001) HO_938002) HO_950002) HO_950003) HO_950004) HO977) HO980) HO983) (bZ bq))
         have HO995 := aM (rG (wq (wq (wq (wq (wq (wq (wq (wq (wq (wq (wq (wq (rW (wq (wq ho2 HO_4) HO_7) (Kd.Q_lt (oq HO_915001.out))) HO_915002) HO_927002) HO_927003) HO_927004) HO_938001) HO_938002) HO_950002) HO_950003) HO_950004) HO977) HO980) HO983) (bZ bq))
         replace HO_4 := z3 (rq HO_4.out) hb ho0 ho1 ho2
         replace HO_7 := z3 (rq HO_7.out) hb ho0 ho1 ho2
         replace HO_915001 := aM (Kd.Q_mono (Kd.Q_told (Kd.Q_told (Kd.Q_told (Kd.Q_old (oq HO_915001.out) hb) (rB ho0)) (rB ho1)) (rB ho2)) (fun _ h_ => h_.1))
         replace HO_915002 := z3 (rq HO_915002.out) hb ho0 ho1 ho2
         replace HO_927002 := z3 (rq HO_927002.out) hb ho0 ho1 ho2
         replace HO_927003 := z3 (rq HO_927003.out) hb ho0 ho1 ho2
         replace HO_927004 := z3 (rq HO_927004.out) hb ho0 ho1 ho2
         replace HO_938001 := z3 (rq HO_938001.out) hb ho0 ho1 ho2
         replace HO_938002 := z3 (rq HO_938002.out) hb ho0 ho1 ho2
         replace HO_950002 := z3 (rq HO_950002.out) hb ho0 ho1 ho2
         replace HO_950003 := z3 (rq HO_950003.out) hb ho0 ho1 ho2
         replace HO_950004 := z3 (rq HO_950004.out) hb ho0 ho1 ho2
         replace HO977 := z3 (rq HO977.out) hb ho0 ho1 ho2
         replace HO980 := z3 (rq HO980.out) hb ho0 ho1 ho2
         replace HO983 := z3 (rq HO983.out) hb ho0 ho1 ho2
         replace BK914 := zb BK914 hb
         replace BK926 := zb BK926 hb
         replace BK937 := zb BK937 hb
         replace BK949 := zb BK949 hb
         replace HB := aM (bT bq hb)
         (try clear hb)
         (try clear hb2)
         (try clear hk)
         (try clear hi)
         (try clear ho0)
         (try clear ho1)
         (try clear ho2)
         obtain ⟨Ao64, co64, eo64⟩ := Kd.R_slice HO989.out
         (first | subst eo64 | (injection eo64 with f1_ f2_ f3_; have f4_ := f1_.symm; have f5_ := f3_.symm; clear f1_ f2_ f3_; subst f4_; subst f5_))
         obtain ⟨Ao65, co65, eo65⟩ := Kd.R_slice HO992.out
         (first | subst eo65 | (injection eo65 with f1_ f2_ f3_; have f4_ := f1_.symm; have f5_ := f3_.symm; clear f1_ f2_ f3_; subst f4_; subst f5_))
         refine hK.out _ _ ⟨cc, cc, cc, cc, cc, cc, cc, cc⟩ (fun hHeld => ?_)
         clear hK K
         refine nn ?_
         refine p1 67 24 ?_
         refine o1 68 25 fun K hK => ?_
         refine goes_ Try.func45 kr rfl #[.agg #[.int .i64 t916, .slice Ao19 t917.length co19, .slice Ao20 t920.length co20], .agg #[.int .i64 t986, .slice Ao64 t987.length co64, .slice Ao65 t990.length co65]] (by rfl) rfl rfl mq ?_
         with_reducible refine (impl_SameLaps.calls kj7 t916 _ _ t917 _ _ t920 t986 _ _ t987 _ _ t990 t996 _ ?s1 ?s2 ?s3 ?s4 ?s5 ?s6 ?s7 ?s8 A58.out).mono ?_
         (case s1 => exact cq (rR HO_927002.out).2.2)
         (case s2 => exact (rR HO_927002.out).2.1)
         (case s3 => exact cq (rR HO_927003.out).2.2)
         (case s4 => exact (rR HO_927003.out).2.1)
         (case s5 => exact cq (rR HO989.out).2.2)
         (case s6 => exact (rR HO989.out).2.1)
         (case s7 => exact cq (rR HO992.out).2.2)
         (case s8 => exact (rR HO992.out).2.1)
         rintro e w66 ⟨rfl, hb⟩
         refine ⟨_, rfl, ?_⟩
         replace HO_4 := zl HO_4 hb
         replace HO_7 := zl HO_7 hb
         replace HO_915001 := aM (Kd.Q_below (oq HO_915001.out) hb)
         replace HO_915002 := zl HO_915002 hb
         replace HO_927002 := zl HO_927002 hb
         replace HO_927003 := zl HO_927003 hb
         replace HO_927004 := zl HO_927004 hb
         replace HO_938001 := zl HO_938001 hb
         replace HO_938002 := zl HO_938002 hb
         replace HO_950002 := zl HO_950002 hb
         replace HO_950003 := zl HO_950003 hb
         replace HO_950004 := zl HO_950004 hb
         replace HO977 := zl HO977 hb
         replace HO980 := zl HO980 hb
         replace HO983 := zl HO983 hb
         replace HO989 := zl HO989 hb
         replace HO992 := zl HO992 hb
         replace HO995 := zl HO995 hb
         replace BK914 := zb BK914 hb
         replace BK926 := zb BK926 hb
         replace BK937 := zb BK937 hb
         replace BK949 := zb BK949 hb
         replace HB := aM (bT bq hb)
         (try clear hb)
         (try clear hb2)
         (try clear hk)
         (try clear hi)
         refine hK.out _ _ ⟨cc, cc, cc, cc, cc, cc, cc, cc⟩ (fun hHeld => ?_)
         clear hK K
         refine nn ?_
         refine p1 69 26 ?_
         refine p1 70 27 ?_
         refine p1 71 28 ?_
         refine done_ (done_of HT_.out kr) ?_
         try go_wp2
         go_meet
         case rel => exact ⟨_, (!t996), (ex), H', ⟨by have := HJ7.out; first | omega | exact Nat.le_refl _⟩, aM (rq (rM HO_7.out jq)), aM (oq (Kd.Q_mono HO_915001.out jq)), aM (rq (rM HO_915002.out jq)), aM (rq (rM HO_927002.out jq)), aM (rq (rM HO_927003.out jq)), aM (rq (rM HO_927004.out jq)), aM (rq (rM HO_938001.out jq)), aM (rq (rM HO_938002.out jq)), aM (rq (rM HO_950002.out jq)), aM (rq (rM HO_950003.out jq)), aM (rq (rM HO_950004.out jq)), aM (kq BK914.out), aM (kq BK926.out), aM (kq BK937.out), aM (kq BK949.out), ⟨bq⟩⟩
        ·replace c56 := Bool.eq_false_iff.mpr c56
         subst c56
         have H1 : (laws_FnStates.j1 kj7 t934 true t927 t928 t931 t938 t939 t940 t943 t946) = some r := by rw [if_neg (show ¬ (false = true) by decide)] at H; exact H
         clear H
         have H := H1
         clear H1
         have H' := aM H
         clear H
         try go_wp2
         replace HO_4 := zd HO_4
         replace HO_7 := zd HO_7
         replace HO_915001 := aM (Kd.Q_drew HO_915001.out)
         replace HO_915002 := zd HO_915002
         replace HO_927002 := zd HO_927002
         replace HO_927003 := zd HO_927003
         replace HO_927004 := zd HO_927004
         replace HO_938001 := zd HO_938001
         replace HO_938002 := zd HO_938002
         replace HO_950002 := zd HO_950002
         replace HO_950003 := zd HO_950003
         replace HO_950004 := zd HO_950004
         replace BK914 := zk BK914
         replace BK926 := zk BK926
         replace BK937 := zk BK937
         replace BK949 := zk BK949
         replace HB := aM (bD HB.out)
         refine start_ (n := 29) (S := fun w' => w'.cell? ⟨gb926, 0, none⟩ = some (.int .i64 t915) ∧ w'.cell? ⟨gb926, 1, none⟩ = some (.int .i64 t916) ∧ w'.cell? ⟨gb926, 2, none⟩ = some (.slice Ao19 t917.length co19) ∧ w'.cell? ⟨gb926, 3, none⟩ = some (.slice Ao20 t920.length co20) ∧ w'.cell? ⟨gb926, 4, none⟩ = some (.slice Ao21 t923.length co21) ∧ w'.cell? ⟨gb914, 0, none⟩ = some (.int .i64 t904) ∧ w'.cell? ⟨gb914, 1, none⟩ = some (.slice Ao12 t905.length co12) ∧ w'.cell? ⟨gb914, 2, none⟩ = some (.slice Ao13 t908.length co13)) (ds := []) #[N,N,N,N,N,N,N,N,N,N,N,N,N,N,N,N,N,N,N,N,N,N,N,N,N,N,N,N,N] kr rfl rfl ⟨cc, cc, cc, cc, cc, cc, cc, cc⟩ (fun hHeld => ?_); refine with_tabW laws_FnStates.tab9 laws_FnStates.bits9 (fun HT_ HW_ => ?_)
         generalize wc.drew = w67 at HO_4 HO_7 HO_915001 HO_915002 HO_927002 HO_927003 HO_927004 HO_938001 HO_938002 HO_950002 HO_950003 HO_950004 BK914 BK926 BK937 BK949 HB hHeld ⊢
         refine p1 43 0 ?_
         refine t1 44 1 ?_ (hy := by rintro w' ⟨s0, s1, s2, s3, s4, s5, s6, s7⟩; go_simp; with_reducible rfl)
         refine p1 45 2 ?_
         refine p1 46 3 ?_
         refine p1 47 4 ?_
         refine t1 48 5 ?_ (hy := by rintro w' ⟨s0, s1, s2, s3, s4, s5, s6, s7⟩; go_simp; with_reducible rfl)
         refine o1 49 6 fun K hK => ?_
         refine goes_ Try.func43 kr rfl #[.agg #[.int .i64 t916, .slice Ao19 t917.length co19, .slice Ao20 t920.length co20]] (by rfl) rfl rfl mq ?_
         with_reducible refine (impl_LapFault.calls kj7 t916 _ _ t917 _ _ t920 t972 _ ?s1 ?s2 ?s3 ?s4 A52.out).mono ?_
         (case s1 => exact cq (rR HO_927002.out).2.2)
         (case s2 => exact (rR HO_927002.out).2.1)
         (case s3 => exact cq (rR HO_927003.out).2.2)
         (case s4 => exact (rR HO_927003.out).2.1)
         rintro e w68 ⟨rfl, hb⟩
         refine ⟨_, rfl, ?_⟩
         replace HO_4 := zl HO_4 hb
         replace HO_7 := zl HO_7 hb
         replace HO_915001 := aM (Kd.Q_below (oq HO_915001.out) hb)
         replace HO_915002 := zl HO_915002 hb
         replace HO_927002 := zl HO_927002 hb
         replace HO_927003 := zl HO_927003 hb
         replace HO_927004 := zl HO_927004 hb
         replace HO_938001 := zl HO_938001 hb
         replace HO_938002 := zl HO_938002 hb
         replace HO_950002 := zl HO_950002 hb
         replace HO_950003 := zl HO_950003 hb
         replace HO_950004 := zl HO_950004 hb
         replace BK914 := zb BK914 hb
         replace BK926 := zb BK926 hb
         replace BK937 := zb BK937 hb
         replace BK949 := zb BK949 hb
         replace HB := aM (bT bq hb)
         (try clear hb)
         (try clear hb2)
         (try clear hk)
         (try clear hi)
         refine hK.out _ _ ⟨cc, cc, cc, cc, cc, cc, cc, cc⟩ (fun hHeld => ?_)
         clear hK K
         refine nn ?_
         refine p1 50 7 ?_
         refine p1 51 8 ?_
         refine p1 52 9 ?_
         refine p1 55 12 ?_
         refine t1 53 10 ?_ (hy := by rintro w' ⟨s0, s1, s2, s3, s4, s5, s6, s7⟩; go_simp; with_reducible rfl)
         refine t1 54 11 ?_ (hy := by rintro w' ⟨s0, s1, s2, s3, s4, s5, s6, s7⟩; go_simp; with_reducible rfl)
         refine o1 56 13 fun K hK => ?_
         refine goes_ Try.func27 kr rfl #[.agg #[.int .i64 t904, .slice Ao12 t905.length co12, .slice Ao13 t908.length co13], .slice Ao14 t911.length co14] (by rfl) rfl rfl mq ?_
         with_reducible refine (spec_FeedFrame.calls kj7 t904 _ _ t905 _ _ t908 _ _ t911 t973 t974 t975 t978 t981 _ ?s1 ?s2 ?s3 ?s4 ?s5 ?s6 A54.out).mono ?_
         (case s1 => exact cq (Kd.Q_reads' HO_915001.out).2.2)
         (case s2 => exact (Kd.Q_reads' HO_915001.out).2.1)
         (case s3 => exact cq (rR HO_915002.out).2.2)
         (case s4 => exact (rR HO_915002.out).2.1)
         (case s5 => exact cq (rR HO_4.out).2.2)
         (case s6 => exact (rR HO_4.out).2.1)
         rintro e w69 ⟨v976, v979, v982, rfl, ho0, ho1, ho2, hb⟩
         refine ⟨_, rfl, ?_⟩
         have HO977 := aM (rG (wq (wq (wq (wq (wq (wq (wq (wq (wq (rW (wq (wq ho0 HO_4) HO_7) (Kd.Q_lt (oq HO_915001.out))) HO_915002) HO_927002) HO_927003) HO_927004) HO_938001) HO_938002) HO_950002) HO_950003) HO_950004) (bZ bq))
         have HO980 := aM (rG (wq (wq (wq (wq (wq (wq (wq (wq (wq (rW (wq (wq ho1 HO_4) HO_7) (Kd.Q_lt (oq HO_915001.out))) HO_915002) HO_927002) HO_927003) HO_927004) HO_938001) HO_938002) HO_950002) HO_950003) HO_950004) (bZ bq))
         have HO983 := aM (rG (wq (wq (wq (wq (wq (wq (wq (wq (wq (rW (wq (wq ho2 HO_4) HO_7) (Kd.Q_lt (oq HO_915001.out))) HO_915002) HO_927002) HO_927003) HO_927004) HO_938001) HO_938002) HO_950002) HO_950003) HO_950004) (bZ bq))
         replace HO_4 := z3 (rq HO_4.out) hb ho0 ho1 ho2
         replace HO_7 := z3 (rq HO_7.out) hb ho0 ho1 ho2
         replace HO_915001 := aM (Kd.Q_mono (Kd.Q_told (Kd.Q_told (Kd.Q_told (Kd.Q_old (oq HO_915001.out) hb) (rB ho0)) (rB ho1)) (rB ho2)) (fun _ h_ => h_.1))
         replace HO_915002 := z3 (rq HO_915002.out) hb ho0 ho1 ho2
         replace HO_927002 := z3 (rq HO_927002.out) hb ho0 ho1 ho2
         replace HO_927003 := z3 (rq HO_927003.out) hb ho0 ho1 ho2
         replace HO_927004 := z3 (rq HO_927004.out) hb ho0 ho1 ho2
         replace HO_938001 := z3 (rq HO_938001.out) hb ho0 ho1 ho2
         replace HO_938002 := z3 (rq HO_938002.out) hb ho0 ho1 ho2
         replace HO_950002 := z3 (rq HO_950002.out) hb ho0 ho1 ho2
         replace HO_950003 := z3 (rq HO_950003.out) hb ho0 ho1 ho2
         replace HO_950004 := z3 (rq HO_950004.out) hb ho0 ho1 ho2
         replace BK914 := zb BK914 hb
         replace BK926 := zb BK926 hb
         replace BK937 := zb BK937 hb
         replace BK949 := zb BK949 hb
         replace HB := aM (bT bq hb)
         (try clear hb)
         (try clear hb2)
         (try clear hk)
         (try clear hi)
         (try clear ho0)
         (try clear ho1)
         (try clear ho2)
         obtain ⟨Ao70, co70, eo70⟩ := Kd.R_slice HO983.out
         (first | subst eo70 | (injection eo70 with f1_ f2_ f3_; have f4_ := f1_.symm; have f5_ := f3_.symm; clear f1_ f2_ f3_; subst f4_; subst f5_))
         refine hK.out _ _ ⟨cc, cc, cc, cc, cc, cc, cc, cc⟩ (fun hHeld => ?_)
         clear hK K
         refine nn ?_
         refine p1 57 14 ?_
         refine o1 58 15 fun K hK => ?_
         refine goes_ Try.func44 kr rfl #[.slice Ao21 t923.length co21, .slice Ao70 t981.length co70] (by rfl) rfl rfl mq ?_
         with_reducible refine (laws_lwNums.calls kj7 _ _ t923 _ _ t981 false _ ?s1 ?s2 ?s3 ?s4 A55.out).mono ?_
         (case s1 => exact cq (rR HO_927004.out).2.2)
         (case s2 => exact (rR HO_927004.out).2.1)
         (case s3 => exact cq (rR HO983.out).2.2)
         (case s4 => exact (rR HO983.out).2.1)
         rintro e w' ⟨rfl, ⟨nd, rfl⟩⟩
         refine ⟨_, rfl, ?_⟩
         refine hK.out _ _ ⟨cc, cc, cc, cc, cc, cc, cc, cc⟩ (fun hHeld => ?_)
         clear hK K
         refine nn ?_
         refine p1 59 16 ?_
         refine p1 60 17 ?_
         refine p1 61 18 ?_
         refine p2 62 19 ?_
         refine p2 63 20 ?_
         refine p2 64 21 ?_
         refine p2 65 22 ?_
         refine p2 66 23 ?_
         refine p2 67 24 ?_
         refine p2 68 25 ?_
         refine p2 69 26 ?_
         refine p1 70 27 ?_
         refine p1 71 28 ?_
         refine done_ (done_of HT_.out kr) ?_
         try go_wp2
         go_meet
         case rel => exact ⟨_, (true), (ex), H', ⟨by have := HJ7.out; first | omega | exact Nat.le_refl _⟩, aM (rq (rM HO_7.out jq)), aM (oq (Kd.Q_mono HO_915001.out jq)), aM (rq (rM HO_915002.out jq)), aM (rq (rM HO_927002.out jq)), aM (rq (rM HO_927003.out jq)), aM (rq (rM HO_927004.out jq)), aM (rq (rM HO_938001.out jq)), aM (rq (rM HO_938002.out jq)), aM (rq (rM HO_950002.out jq)), aM (rq (rM HO_950003.out jq)), aM (rq (rM HO_950004.out jq)), aM (kq BK914.out), aM (kq BK926.out), aM (kq BK937.out), aM (kq BK949.out), ⟨bq⟩⟩
       ·rw [if_neg c53] at H
        have c53b0 := eF c53
        have c53b1 := nT c53
        have H' := aM H
        clear H
        try go_wp2
        replace HO_4 := zd HO_4
        replace HO_7 := zd HO_7
        replace HO_915001 := aM (Kd.Q_drew HO_915001.out)
        replace HO_915002 := zd HO_915002
        replace HO_927002 := zd HO_927002
        replace HO_927003 := zd HO_927003
        replace HO_927004 := zd HO_927004
        replace HO_938001 := zd HO_938001
        replace HO_938002 := zd HO_938002
        replace HO_950002 := zd HO_950002
        replace HO_950003 := zd HO_950003
        replace HO_950004 := zd HO_950004
        replace BK914 := zk BK914
        replace BK926 := zk BK926
        replace BK937 := zk BK937
        replace BK949 := zk BK949
        replace HB := aM (bD HB.out)
        refine start_ (n := 29) (S := fun w' => w'.cell? ⟨gb926, 0, none⟩ = some (.int .i64 t915) ∧ w'.cell? ⟨gb926, 1, none⟩ = some (.int .i64 t916) ∧ w'.cell? ⟨gb926, 2, none⟩ = some (.slice Ao19 t917.length co19) ∧ w'.cell? ⟨gb926, 3, none⟩ = some (.slice Ao20 t920.length co20) ∧ w'.cell? ⟨gb926, 4, none⟩ = some (.slice Ao21 t923.length co21)) (ds := []) #[N,N,N,N,N,N,N,N,N,N,N,N,N,N,N,N,N,N,N,N,N,N,N,N,N,N,N,N,N] kr rfl rfl ⟨cc, cc, cc, cc, cc⟩ (fun hHeld => ?_); refine with_tabW laws_FnStates.tab9 laws_FnStates.bits9 (fun HT_ HW_ => ?_)
        generalize wc.drew = w71 at HO_4 HO_7 HO_915001 HO_915002 HO_927002 HO_927003 HO_927004 HO_938001 HO_938002 HO_950002 HO_950003 HO_950004 BK914 BK926 BK937 BK949 HB hHeld ⊢
        refine p1 43 0 ?_
        refine t1 44 1 ?_ (hy := by rintro w' ⟨s0, s1, s2, s3, s4⟩; go_simp; with_reducible rfl)
        refine p1 45 2 ?_
        refine p1 46 3 ?_
        refine p1 47 4 ?_
        refine t1 48 5 ?_ (hy := by rintro w' ⟨s0, s1, s2, s3, s4⟩; go_simp; with_reducible rfl)
        refine o1 49 6 fun K hK => ?_
        refine goes_ Try.func43 kr rfl #[.agg #[.int .i64 t916, .slice Ao19 t917.length co19, .slice Ao20 t920.length co20]] (by rfl) rfl rfl mq ?_
        with_reducible refine (impl_LapFault.calls kj7 t916 _ _ t917 _ _ t920 t972 _ ?s1 ?s2 ?s3 ?s4 A52.out).mono ?_
        (case s1 => exact cq (rR HO_927002.out).2.2)
        (case s2 => exact (rR HO_927002.out).2.1)
        (case s3 => exact cq (rR HO_927003.out).2.2)
        (case s4 => exact (rR HO_927003.out).2.1)
        rintro e w72 ⟨rfl, hb⟩
        refine ⟨_, rfl, ?_⟩
        replace HO_4 := zl HO_4 hb
        replace HO_7 := zl HO_7 hb
        replace HO_915001 := aM (Kd.Q_below (oq HO_915001.out) hb)
        replace HO_915002 := zl HO_915002 hb
        replace HO_927002 := zl HO_927002 hb
        replace HO_927003 := zl HO_927003 hb
        replace HO_927004 := zl HO_927004 hb
        replace HO_938001 := zl HO_938001 hb
        replace HO_938002 := zl HO_938002 hb
        replace HO_950002 := zl HO_950002 hb
        replace HO_950003 := zl HO_950003 hb
        replace HO_950004 := zl HO_950004 hb
        replace BK914 := zb BK914 hb
        replace BK926 := zb BK926 hb
        replace BK937 := zb BK937 hb
        replace BK949 := zb BK949 hb
        replace HB := aM (bT bq hb)
        (try clear hb)
        (try clear hb2)
        (try clear hk)
        (try clear hi)
        refine hK.out _ _ ⟨cc, cc, cc, cc, cc⟩ (fun hHeld => ?_)
        clear hK K
        refine nn ?_
        refine p1 50 7 ?_
        refine p1 51 8 ?_
        refine p2 52 9 ?_
        refine p2 53 10 ?_
        refine p2 54 11 ?_
        refine p2 55 12 ?_
        refine p2 56 13 ?_
        refine p2 57 14 ?_
        refine p2 58 15 ?_
        refine p2 59 16 ?_
        refine p1 60 17 ?_
        refine p1 61 18 ?_
        refine p2 62 19 ?_
        refine p2 63 20 ?_
        refine p2 64 21 ?_
        refine p2 65 22 ?_
        refine p2 66 23 ?_
        refine p2 67 24 ?_
        refine p2 68 25 ?_
        refine p2 69 26 ?_
        refine p1 70 27 ?_
        refine p1 71 28 ?_
        refine done_ (done_of HT_.out kr) ?_
        try go_wp2
        go_meet
        case rel => exact ⟨_, (true), (ex), H', ⟨by have := HJ7.out; first | omega | exact Nat.le_refl _⟩, aM (rq (rM HO_7.out jq)), aM (oq (Kd.Q_mono HO_915001.out jq)), aM (rq (rM HO_915002.out jq)), aM (rq (rM HO_927002.out jq)), aM (rq (rM HO_927003.out jq)), aM (rq (rM HO_927004.out jq)), aM (rq (rM HO_938001.out jq)), aM (rq (rM HO_938002.out jq)), aM (rq (rM HO_950002.out jq)), aM (rq (rM HO_950003.out jq)), aM (rq (rM HO_950004.out jq)), aM (kq BK914.out), aM (kq BK926.out), aM (kq BK937.out), aM (kq BK949.out), ⟨bq⟩⟩
      ·rw [if_neg c51] at H
       have c51b0 := eF c51
       have c51b1 := nT c51
       (first | rw [c51b0] | (simp only [i64_w, i32_w]; rw [c51b0]) | skip)
       have H' := aM H
       clear H
       try go_wp2
       replace HO_4 := zd HO_4
       replace HO_7 := zd HO_7
       replace HO_915001 := aM (Kd.Q_drew HO_915001.out)
       replace HO_915002 := zd HO_915002
       replace HO_927002 := zd HO_927002
       replace HO_927003 := zd HO_927003
       replace HO_927004 := zd HO_927004
       replace HO_938001 := zd HO_938001
       replace HO_938002 := zd HO_938002
       replace HO_950002 := zd HO_950002
       replace HO_950003 := zd HO_950003
       replace HO_950004 := zd HO_950004
       replace BK914 := zk BK914
       replace BK926 := zk BK926
       replace BK937 := zk BK937
       replace BK949 := zk BK949
       replace HB := aM (bD HB.out)
       refine start_ (n := 29) (S := fun w' => w'.cell? ⟨gb926, 0, none⟩ = some (.int .i64 t915) ∧ w'.cell? ⟨gb926, 1, none⟩ = some (.int .i64 t916) ∧ w'.cell? ⟨gb926, 2, none⟩ = some (.slice Ao19 t917.length co19) ∧ w'.cell? ⟨gb926, 3, none⟩ = some (.slice Ao20 t920.length co20) ∧ w'.cell? ⟨gb926, 4, none⟩ = some (.slice Ao21 t923.length co21)) (ds := []) #[N,N,N,N,N,N,N,N,N,N,N,N,N,N,N,N,N,N,N,N,N,N,N,N,N,N,N,N,N] kr rfl rfl ⟨cc, cc, cc, cc, cc⟩ (fun hHeld => ?_); refine with_tabW laws_FnStates.tab9 laws_FnStates.bits9 (fun HT_ HW_ => ?_)
       generalize wc.drew = w73 at HO_4 HO_7 HO_915001 HO_915002 HO_927002 HO_927003 HO_927004 HO_938001 HO_938002 HO_950002 HO_950003 HO_950004 BK914 BK926 BK937 BK949 HB hHeld ⊢
       refine p1 43 0 ?_
       refine t1 44 1 ?_ (hy := by rintro w' ⟨s0, s1, s2, s3, s4⟩; go_simp; with_reducible rfl)
       refine p1 45 2 ?_
       refine p1 46 3 ?_
       refine p2 47 4 ?_
       refine p2 48 5 ?_
       refine p2 49 6 ?_
       refine p2 50 7 ?_
       refine p2 51 8 ?_
       refine p2 52 9 ?_
       refine p2 53 10 ?_
       refine p2 54 11 ?_
       refine p2 55 12 ?_
       refine p2 56 13 ?_
       refine p2 57 14 ?_
       refine p2 58 15 ?_
       refine p2 59 16 ?_
       refine p2 60 17 ?_
       refine p2 61 18 ?_
       refine p2 62 19 ?_
       refine p2 63 20 ?_
       refine p2 64 21 ?_
       refine p2 65 22 ?_
       refine p2 66 23 ?_
       refine p2 67 24 ?_
       refine p2 68 25 ?_
       refine p2 69 26 ?_
       refine p2 70 27 ?_
       refine p1 71 28 ?_
       refine done_ (done_of HT_.out kr) ?_
       try go_wp2
       go_meet
       case rel => exact ⟨_, (false), (ex), H', ⟨by have := HJ7.out; first | omega | exact Nat.le_refl _⟩, aM (rq (rM HO_7.out jq)), aM (oq (Kd.Q_mono HO_915001.out jq)), aM (rq (rM HO_915002.out jq)), aM (rq (rM HO_927002.out jq)), aM (rq (rM HO_927003.out jq)), aM (rq (rM HO_927004.out jq)), aM (rq (rM HO_938001.out jq)), aM (rq (rM HO_938002.out jq)), aM (rq (rM HO_950002.out jq)), aM (rq (rM HO_950003.out jq)), aM (rq (rM HO_950004.out jq)), aM (kq BK914.out), aM (kq BK926.out), aM (kq BK937.out), aM (kq BK949.out), ⟨bq⟩⟩
     case rest =>
      clear HC50
      try clear p2
      try clear c4
      try clear c5
      try clear c43
      try clear c44
      try clear c51
      try clear c51b0
      try clear c51b1
      try clear c53
      try clear c53b0
      try clear c53b1
      obtain ⟨kq, x71_49, rfl, HA, HJ49, HO_7, HO_915001, HO_915002, HO_927002, HO_927003, HO_927004, HO_938001, HO_938002, HO_950002, HO_950003, HO_950004, BK914, BK926, BK937, BK949, HB⟩ := hcut
      cases kq with
      | zero => exact absurd HA.out (by simp [laws_FnStates.j1])
      | succ kj49 =>
       have H := HA.out
       clear HA
       simp only [laws_FnStates.j1] at H
       by_cases c74 : x71_49 = true
       ·subst c74
        have H1 : (some false) = some r := by rw [if_pos rfl] at H; exact H
        clear H
        have H := H1
        clear H1
        exact absurd (H.trans (congrArg some HLAW.out)) (by simp)
       ·replace c74 := Bool.eq_false_iff.mpr c74
        subst c74
        have H1 : (if t938 = 0 then ((impl_SynthFault.f kj49 t939 t940 t943).bind fun t997 => (if t997 = 0 then ((spec_PlayBlock.f kj49 t927 t928 t931 t934).bind fun bt998 => ((laws_lwNums.f kj49 t946 bt998.2.2.2.2).bind fun t1009 => (if t1009 = true then ((spec_PlayBlock.f kj49 t927 t928 t931 t934).bind fun bt1010 => ((impl_SameSynths.f kj49 t939 t940 t943 bt1010.2.1 bt1010.2.2.1 bt1010.2.2.2.1).bind fun t1021 => (some t1021))) else (some false)))) else (some false))) else (some true)) = some r := by rw [if_neg (show ¬ (false = true) by decide)] at H; exact H
        clear H
        have H := H1
        clear H1
        by_cases c75 : t938 = 0
        ·rw [if_pos c75] at H
         have c75b0 := eT c75
         have c75b1 := nF c75
         clear c75
         replace H := bo H
         obtain ⟨t997, A76, H⟩ := H
         replace H := bz H
         by_cases c77 : t997 = 0
         ·rw [if_pos c77] at H
          have c77b0 := eT c77
          have c77b1 := nF c77
          clear c77
          replace H := bo H
          obtain ⟨⟨t998, t999, t1000, t1003, t1006⟩, A78, H⟩ := H
          replace H := bz H
          replace H := bo H
          obtain ⟨t1009, A79, H⟩ := H
          replace H := bz H
          by_cases c80 : t1009 = true
          ·subst c80
           have H1 : ((spec_PlayBlock.f kj49 t927 t928 t931 t934).bind fun bt1010 => ((impl_SameSynths.f kj49 t939 t940 t943 bt1010.2.1 bt1010.2.2.1 bt1010.2.2.2.1).bind fun t1021 => (some t1021))) = some r := by rw [if_pos rfl] at H; exact H
           clear H
           have H := H1
           clear H1
           replace H := bo H
           obtain ⟨⟨t1010, t1011, t1012, t1015, t1018⟩, A81, H⟩ := H
           replace H := bz H
           replace H := bo H
           obtain ⟨t1021, A82, H⟩ := H
           replace H : (some t1021) = some r := H
           obtain rfl := Option.some.inj H
           try go_wp2
           replace HO_7 := zd HO_7
           replace HO_915001 := aM (Kd.Q_drew HO_915001.out)
           replace HO_915002 := zd HO_915002
           replace HO_927002 := zd HO_927002
           replace HO_927003 := zd HO_927003
           replace HO_927004 := zd HO_927004
           replace HO_938001 := zd HO_938001
           replace HO_938002 := zd HO_938002
           replace HO_950002 := zd HO_950002
           replace HO_950003 := zd HO_950003
           replace HO_950004 := zd HO_950004
           replace BK914 := zk BK914
           replace BK926 := zk BK926
           replace BK937 := zk BK937
           replace BK949 := zk BK949
           replace HB := aM (bD HB.out)
           refine start_ (n := 28) (S := fun w' => w'.cell? ⟨gb949, 0, none⟩ = some (.int .i64 t938) ∧ w'.cell? ⟨gb949, 1, none⟩ = some (.int .i64 t939) ∧ w'.cell? ⟨gb949, 2, none⟩ = some (.slice Ao36 t940.length co36) ∧ w'.cell? ⟨gb949, 3, none⟩ = some (.slice Ao37 t943.length co37) ∧ w'.cell? ⟨gb949, 4, none⟩ = some (.slice Ao38 t946.length co38) ∧ w'.cell? ⟨gb937, 0, none⟩ = some (.int .i64 t927) ∧ w'.cell? ⟨gb937, 1, none⟩ = some (.slice Ao27 t928.length co27) ∧ w'.cell? ⟨gb937, 2, none⟩ = some (.slice Ao28 t931.length co28)) (ds := []) #[N,N,N,N,N,N,N,N,N,N,N,N,N,N,N,N,N,N,N,N,N,N,N,N,N,N,N,N] kr rfl rfl ⟨cc, cc, cc, cc, cc, cc, cc, cc⟩ (fun hHeld => ?_); refine with_tabW laws_FnStates.tab11 laws_FnStates.bits11 (fun HT_ HW_ => ?_)
           generalize wc.drew = w83 at HO_7 HO_915001 HO_915002 HO_927002 HO_927003 HO_927004 HO_938001 HO_938002 HO_950002 HO_950003 HO_950004 BK914 BK926 BK937 BK949 HB hHeld ⊢
           refine p1 72 0 ?_
           refine t1 73 1 ?_ (hy := by rintro w' ⟨s0, s1, s2, s3, s4, s5, s6, s7⟩; go_simp; with_reducible rfl)
           refine p1 74 2 ?_
           refine p1 75 3 ?_
           refine p1 76 4 ?_
           refine t1 77 5 ?_ (hy := by rintro w' ⟨s0, s1, s2, s3, s4, s5, s6, s7⟩; go_simp; with_reducible rfl)
           refine o1 78 6 fun K hK => ?_
           refine goes_ Try.func46 kr rfl #[.agg #[.int .i64 t939, .slice Ao36 t940.length co36, .slice Ao37 t943.length co37]] (by rfl) rfl rfl mq ?_
           with_reducible refine (impl_SynthFault.calls kj49 t939 _ _ t940 _ _ t943 t997 _ ?s1 ?s2 ?s3 ?s4 A76.out).mono ?_
           (case s1 => exact cq (rR HO_950002.out).2.2)
           (case s2 => exact (rR HO_950002.out).2.1)
           (case s3 => exact cq (rR HO_950003.out).2.2)
           (case s4 => exact (rR HO_950003.out).2.1)
           rintro e w84 ⟨rfl, hb⟩
           refine ⟨_, rfl, ?_⟩
           replace HO_7 := zl HO_7 hb
           replace HO_915001 := aM (Kd.Q_below (oq HO_915001.out) hb)
           replace HO_915002 := zl HO_915002 hb
           replace HO_927002 := zl HO_927002 hb
           replace HO_927003 := zl HO_927003 hb
           replace HO_927004 := zl HO_927004 hb
           replace HO_938001 := zl HO_938001 hb
           replace HO_938002 := zl HO_938002 hb
           replace HO_950002 := zl HO_950002 hb
           replace HO_950003 := zl HO_950003 hb
           replace HO_950004 := zl HO_950004 hb
           replace BK914 := zb BK914 hb
           replace BK926 := zb BK926 hb
           replace BK937 := zb BK937 hb
           replace BK949 := zb BK949 hb
           replace HB := aM (bT bq hb)
           (try clear hb)
           (try clear hb2)
           (try clear hk)
           (try clear hi)
           refine hK.out _ _ ⟨cc, cc, cc, cc, cc, cc, cc, cc⟩ (fun hHeld => ?_)
           clear hK K
           refine nn ?_
           refine p1 79 7 ?_
           refine p1 80 8 ?_
           refine p1 81 9 ?_
           refine p1 84 12 ?_
           refine t1 82 10 ?_ (hy := by rintro w' ⟨s0, s1, s2, s3, s4, s5, s6, s7⟩; go_simp; with_reducible rfl)
           refine t1 83 11 ?_ (hy := by rintro w' ⟨s0, s1, s2, s3, s4, s5, s6, s7⟩; go_simp; with_reducible rfl)
           refine o1 85 13 fun K hK => ?_
           refine goes_ Try.func18 kr rfl #[.agg #[.int .i64 t927, .slice Ao27 t928.length co27, .slice Ao28 t931.length co28], .slice Ao29 t934.length co29] (by rfl) rfl rfl mq ?_
           with_reducible refine (spec_PlayBlock.calls kj49 t927 _ _ t928 _ _ t931 _ _ t934 t998 t999 t1000 t1003 t1006 _ ?s1 ?s2 ?s3 ?s4 ?s5 ?s6 A78.out).mono ?_
           (case s1 => exact cq (rR HO_938001.out).2.2)
           (case s2 => exact (rR HO_938001.out).2.1)
           (case s3 => exact cq (rR HO_938002.out).2.2)
           (case s4 => exact (rR HO_938002.out).2.1)
           (case s5 => exact cq (rR HO_7.out).2.2)
           (case s6 => exact (rR HO_7.out).2.1)
           rintro e w85 ⟨v1001, v1004, v1007, rfl, ho0, ho1, ho2, hb⟩
           refine ⟨_, rfl, ?_⟩
           have HO1002 := aM (rG (wq (wq (wq (wq (wq (wq (wq (wq (wq (rW (wq ho0 HO_7) (Kd.Q_lt (oq HO_915001.out))) HO_915002) HO_927002) HO_927003) HO_927004) HO_938001) HO_938002) HO_950002) HO_950003) HO_950004) (bZ bq))
           have HO1005 := aM (rG (wq (wq (wq (wq (wq (wq (wq (wq (wq (rW (wq ho1 HO_7) (Kd.Q_lt (oq HO_915001.out))) HO_915002) HO_927002) HO_927003) HO_927004) HO_938001) HO_938002) HO_950002) HO_950003) HO_950004) (bZ bq))
           have HO1008 := aM (rG (wq (wq (wq (wq (wq (wq (wq (wq (wq (rW (wq ho2 HO_7) (Kd.Q_lt (oq HO_915001.out))) HO_915002) HO_927002) HO_927003) HO_927004) HO_938001) HO_938002) HO_950002) HO_950003) HO_950004) (bZ bq))
           replace HO_7 := z3 (rq HO_7.out) hb ho0 ho1 ho2
           replace HO_915001 := aM (Kd.Q_mono (Kd.Q_told (Kd.Q_told (Kd.Q_told (Kd.Q_old (oq HO_915001.out) hb) (rB ho0)) (rB ho1)) (rB ho2)) (fun _ h_ => h_.1))
           replace HO_915002 := z3 (rq HO_915002.out) hb ho0 ho1 ho2
           replace HO_927002 := z3 (rq HO_927002.out) hb ho0 ho1 ho2
           replace HO_927003 := z3 (rq HO_927003.out) hb ho0 ho1 ho2
           replace HO_927004 := z3 (rq HO_927004.out) hb ho0 ho1 ho2
           replace HO_938001 := z3 (rq HO_938001.out) hb ho0 ho1 ho2
           replace HO_938002 := z3 (rq HO_938002.out) hb ho0 ho1 ho2
           replace HO_950002 := z3 (rq HO_950002.out) hb ho0 ho1 ho2
           replace HO_950003 := z3 (rq HO_950003.out) hb ho0 ho1 ho2
           replace HO_950004 := z3 (rq HO_950004.out) hb ho0 ho1 ho2
           replace BK914 := zb BK914 hb
           replace BK926 := zb BK926 hb
           replace BK937 := zb BK937 hb
           replace BK949 := zb BK949 hb
           replace HB := aM (bT bq hb)
           (try clear hb)
           (try clear hb2)
           (try clear hk)
           (try clear hi)
           (try clear ho0)
           (try clear ho1)
           (try clear ho2)
           obtain ⟨Ao86, co86, eo86⟩ := Kd.R_slice HO1008.out
           (first | subst eo86 | (injection eo86 with f1_ f2_ f3_; have f4_ := f1_.symm; have f5_ := f3_.symm; clear f1_ f2_ f3_; subst f4_; subst f5_))
           refine hK.out _ _ ⟨cc, cc, cc, cc, cc, cc, cc, cc⟩ (fun hHeld => ?_)
           clear hK K
           refine nn ?_
           refine p1 86 14 ?_
           refine o1 87 15 fun K hK => ?_
           refine goes_ Try.func44 kr rfl #[.slice Ao38 t946.length co38, .slice Ao86 t1006.length co86] (by rfl) rfl rfl mq ?_
           with_reducible refine (laws_lwNums.calls kj49 _ _ t946 _ _ t1006 true _ ?s1 ?s2 ?s3 ?s4 A79.out).mono ?_
           (case s1 => exact cq (rR HO_950004.out).2.2)
           (case s2 => exact (rR HO_950004.out).2.1)
           (case s3 => exact cq (rR HO1008.out).2.2)
           (case s4 => exact (rR HO1008.out).2.1)
           rintro e w' ⟨rfl, ⟨nd, rfl⟩⟩
           refine ⟨_, rfl, ?_⟩
           refine hK.out _ _ ⟨cc, cc, cc, cc, cc, cc, cc, cc⟩ (fun hHeld => ?_)
           clear hK K
           refine nn ?_
           refine p1 88 16 ?_
           refine p1 89 17 ?_
           refine p1 90 18 ?_
           refine p1 93 21 ?_
           refine t1 91 19 ?_ (hy := by rintro w' ⟨s0, s1, s2, s3, s4, s5, s6, s7⟩; go_simp; with_reducible rfl)
           refine t1 92 20 ?_ (hy := by rintro w' ⟨s0, s1, s2, s3, s4, s5, s6, s7⟩; go_simp; with_reducible rfl)
           refine o1 94 22 fun K hK => ?_
           refine goes_ Try.func18 kr rfl #[.agg #[.int .i64 t927, .slice Ao27 t928.length co27, .slice Ao28 t931.length co28], .slice Ao29 t934.length co29] (by rfl) rfl rfl mq ?_
           with_reducible refine (spec_PlayBlock.calls kj49 t927 _ _ t928 _ _ t931 _ _ t934 t1010 t1011 t1012 t1015 t1018 _ ?s1 ?s2 ?s3 ?s4 ?s5 ?s6 A81.out).mono ?_
           (case s1 => exact cq (rR HO_938001.out).2.2)
           (case s2 => exact (rR HO_938001.out).2.1)
           (case s3 => exact cq (rR HO_938002.out).2.2)
           (case s4 => exact (rR HO_938002.out).2.1)
           (case s5 => exact cq (rR HO_7.out).2.2)
           (case s6 => exact (rR HO_7.out).2.1)
           rintro e w87 ⟨v1013, v1016, v1019, rfl, ho0, ho1, ho2, hb⟩
           refine ⟨_, rfl, ?_⟩
           have HO1014 := aM (rG (wq (wq (wq (wq (wq (wq (wq (wq (wq (wq (wq (wq (rW (wq ho0 HO_7) (Kd.Q_lt (oq HO_915001.out))) HO_915002) HO_927002) HO_927003) HO_927004) HO_938001) HO_938002) HO_950002) HO_950003) HO_950004) HO1002) HO1005) HO1008) (bZ bq))
           have HO1017 := aM (rG (wq (wq (wq (wq (wq (wq (wq (wq (wq (wq (wq (wq (rW (wq ho1 HO_7) (Kd.Q_lt (oq HO_915001.out))) HO_915002) HO_927002) HO_927003) HO_927004) HO_938001) HO_938002) HO_950002) HO_950003) HO_950004) HO1002) HO1005) HO1008) (bZ bq))
           have HO1020 := aM (rG (wq (wq (wq (wq (wq (wq (wq (wq (wq (wq (wq (wq (rW (wq ho2 HO_7) (Kd.Q_lt (oq HO_915001.out))) HO_915002) HO_927002) HO_927003) HO_927004) HO_938001) HO_938002) HO_950002) HO_950003) HO_950004) HO1002) HO1005) HO1008) (bZ bq))
           replace HO_7 := z3 (rq HO_7.out) hb ho0 ho1 ho2
           replace HO_915001 := aM (Kd.Q_mono (Kd.Q_told (Kd.Q_told (Kd.Q_told (Kd.Q_old (oq HO_915001.out) hb) (rB ho0)) (rB ho1)) (rB ho2)) (fun _ h_ => h_.1))
           replace HO_915002 := z3 (rq HO_915002.out) hb ho0 ho1 ho2
           replace HO_927002 := z3 (rq HO_927002.out) hb ho0 ho1 ho2
           replace HO_927003 := z3 (rq HO_927003.out) hb ho0 ho1 ho2
           replace HO_927004 := z3 (rq HO_927004.out) hb ho0 ho1 ho2
           replace HO_938001 := z3 (rq HO_938001.out) hb ho0 ho1 ho2
           replace HO_938002 := z3 (rq HO_938002.out) hb ho0 ho1 ho2
           replace HO_950002 := z3 (rq HO_950002.out) hb ho0 ho1 ho2
           replace HO_950003 := z3 (rq HO_950003.out) hb ho0 ho1 ho2
           replace HO_950004 := z3 (rq HO_950004.out) hb ho0 ho1 ho2
           replace HO1002 := z3 (rq HO1002.out) hb ho0 ho1 ho2
           replace HO1005 := z3 (rq HO1005.out) hb ho0 ho1 ho2
           replace HO1008 := z3 (rq HO1008.out) hb ho0 ho1 ho2
           replace BK914 := zb BK914 hb
           replace BK926 := zb BK926 hb
           replace BK937 := zb BK937 hb
           replace BK949 := zb BK949 hb
           replace HB := aM (bT bq hb)
           (try clear hb)
           (try clear hb2)
           (try clear hk)
           (try clear hi)
           (try clear ho0)
           (try clear ho1)
           (try clear ho2)
           obtain ⟨Ao88, co88, eo88⟩ := Kd.R_slice HO1014.out
           (first | subst eo88 | (injection eo88 with f1_ f2_ f3_; have f4_ := f1_.symm; have f5_ := f3_.symm; clear f1_ f2_ f3_; subst f4_; subst f5_))
           obtain ⟨Ao89, co89, eo89⟩ := Kd.R_slice HO1017.out
           (first | subst eo89 | (injection eo89 with f1_ f2_ f3_; have f4_ := f1_.symm; have f5_ := f3_.symm; clear f1_ f2_ f3_; subst f4_; subst f5_))
           refine hK.out _ _ ⟨cc, cc, cc, cc, cc, cc, cc, cc⟩ (fun hHeld => ?_)
           clear hK K
           refine nn ?_
           refine p1 95 23 ?_
           refine o1 96 24 fun K hK => ?_
           refine goes_ Try.func47 kr rfl #[.agg #[.int .i64 t939, .slice Ao36 t940.length co36, .slice Ao37 t943.length co37], .agg #[.int .i64 t1011, .slice Ao88 t1012.length co88, .slice Ao89 t1015.length co89]] (by rfl) rfl rfl mq ?_
           with_reducible refine (impl_SameSynths.calls kj49 t939 _ _ t940 _ _ t943 t1011 _ _ t1012 _ _ t1015 t1021 _ ?s1 ?s2 ?s3 ?s4 ?s5 ?s6 ?s7 ?s8 A82.out).mono ?_
           (case s1 => exact cq (rR HO_950002.out).2.2)
           (case s2 => exact (rR HO_950002.out).2.1)
           (case s3 => exact cq (rR HO_950003.out).2.2)
           (case s4 => exact (rR HO_950003.out).2.1)
           (case s5 => exact cq (rR HO1014.out).2.2)
           (case s6 => exact (rR HO1014.out).2.1)
           (case s7 => exact cq (rR HO1017.out).2.2)
           (case s8 => exact (rR HO1017.out).2.1)
           rintro e w90 ⟨rfl, hb⟩
           refine ⟨_, rfl, ?_⟩
           replace HO_7 := zl HO_7 hb
           replace HO_915001 := aM (Kd.Q_below (oq HO_915001.out) hb)
           replace HO_915002 := zl HO_915002 hb
           replace HO_927002 := zl HO_927002 hb
           replace HO_927003 := zl HO_927003 hb
           replace HO_927004 := zl HO_927004 hb
           replace HO_938001 := zl HO_938001 hb
           replace HO_938002 := zl HO_938002 hb
           replace HO_950002 := zl HO_950002 hb
           replace HO_950003 := zl HO_950003 hb
           replace HO_950004 := zl HO_950004 hb
           replace HO1002 := zl HO1002 hb
           replace HO1005 := zl HO1005 hb
           replace HO1008 := zl HO1008 hb
           replace HO1014 := zl HO1014 hb
           replace HO1017 := zl HO1017 hb
           replace HO1020 := zl HO1020 hb
           replace BK914 := zb BK914 hb
           replace BK926 := zb BK926 hb
           replace BK937 := zb BK937 hb
           replace BK949 := zb BK949 hb
           replace HB := aM (bT bq hb)
           (try clear hb)
           (try clear hb2)
           (try clear hk)
           (try clear hi)
           refine hK.out _ _ ⟨cc, cc, cc, cc, cc, cc, cc, cc⟩ (fun hHeld => ?_)
           clear hK K
           refine nn ?_
           refine p1 97 25 ?_
           refine p1 98 26 ?_
           refine p1 2 27 ?_
           refine done_ (done_of HT_.out kr) ?_
           try go_wp2
           go_ret
           exact ⟨ew, bq⟩
          ·replace c80 := Bool.eq_false_iff.mpr c80
           subst c80
           have H1 : (some false) = some r := by rw [if_neg (show ¬ (false = true) by decide)] at H; exact H
           clear H
           have H := H1
           clear H1
           exact absurd (H.trans (congrArg some HLAW.out)) (by simp)
         ·rw [if_neg c77] at H
          have c77b0 := eF c77
          have c77b1 := nT c77
          exact absurd (H.trans (congrArg some HLAW.out)) (by simp)
        ·rw [if_neg c75] at H
         have c75b0 := eF c75
         have c75b1 := nT c75
         obtain rfl := Option.some.inj H
         try go_wp2
         replace HO_7 := zd HO_7
         replace HO_915001 := aM (Kd.Q_drew HO_915001.out)
         replace HO_915002 := zd HO_915002
         replace HO_927002 := zd HO_927002
         replace HO_927003 := zd HO_927003
         replace HO_927004 := zd HO_927004
         replace HO_938001 := zd HO_938001
         replace HO_938002 := zd HO_938002
         replace HO_950002 := zd HO_950002
         replace HO_950003 := zd HO_950003
         replace HO_950004 := zd HO_950004
         replace BK914 := zk BK914
         replace BK926 := zk BK926
         replace BK937 := zk BK937
         replace BK949 := zk BK949
         replace HB := aM (bD HB.out)
         refine start_ (n := 28) (S := fun w' => w'.cell? ⟨gb949, 0, none⟩ = some (.int .i64 t938) ∧ w'.cell? ⟨gb949, 1, none⟩ = some (.int .i64 t939) ∧ w'.cell? ⟨gb949, 2, none⟩ = some (.slice Ao36 t940.length co36) ∧ w'.cell? ⟨gb949, 3, none⟩ = some (.slice Ao37 t943.length co37) ∧ w'.cell? ⟨gb949, 4, none⟩ = some (.slice Ao38 t946.length co38)) (ds := []) #[N,N,N,N,N,N,N,N,N,N,N,N,N,N,N,N,N,N,N,N,N,N,N,N,N,N,N,N] kr rfl rfl ⟨cc, cc, cc, cc, cc⟩ (fun hHeld => ?_); refine with_tabW laws_FnStates.tab11 laws_FnStates.bits11 (fun HT_ HW_ => ?_)
         generalize wc.drew = w91 at HO_7 HO_915001 HO_915002 HO_927002 HO_927003 HO_927004 HO_938001 HO_938002 HO_950002 HO_950003 HO_950004 BK914 BK926 BK937 BK949 HB hHeld ⊢
         refine p1 72 0 ?_
         refine t1 73 1 ?_ (hy := by rintro w' ⟨s0, s1, s2, s3, s4⟩; go_simp; with_reducible rfl)
         refine p1 74 2 ?_
         refine p1 75 3 ?_
         refine p2 76 4 ?_
         refine p2 77 5 ?_
         refine p2 78 6 ?_
         refine p2 79 7 ?_
         refine p2 80 8 ?_
         refine p2 81 9 ?_
         refine p2 82 10 ?_
         refine p2 83 11 ?_
         refine p2 84 12 ?_
         refine p2 85 13 ?_
         refine p2 86 14 ?_
         refine p2 87 15 ?_
         refine p2 88 16 ?_
         refine p2 89 17 ?_
         refine p2 90 18 ?_
         refine p2 91 19 ?_
         refine p2 92 20 ?_
         refine p2 93 21 ?_
         refine p2 94 22 ?_
         refine p2 95 23 ?_
         refine p2 96 24 ?_
         refine p2 97 25 ?_
         refine p1 98 26 ?_
         refine p1 2 27 ?_
         refine done_ (done_of HT_.out kr) ?_
         try go_wp2
         go_ret
         exact ⟨ew, bq⟩
/-- THE ONE PURE STATEMENT of laws_FnStates: yours. -/
def laws_FnStates.Pure : Prop := ∀ (l0 : List Int), l0.length ≤ maxLen → l0.length * 1 ≤ 140737488351232 → (∀ x ∈ l0, (Lit.int .u8 x).wf = true) → ∃ k, laws_FnStates.f k l0 = some true
theorem laws_FnStates.walk (P : laws_FnStates.Pure) (a0 : Option Addr) (len0 cap0 : Nat) (z0 : List Int) (w : World) (w0 : (a0 = none ∧ len0 = 0 ∧ cap0 = 0 ∧ z0 = []) ∨ ∃ x, a0 = some x ∧ len0 ≤ cap0 ∧ cap0 ≤ maxLen ∧ z0.length = cap0 ∧ (∀ i, i < z0.length → w.cell? (x.add i) = some (.int .u8 (z0.getD i 0))) ∧ ∀ n ∈ z0, (Lit.int .u8 n).wf = true) (y0 : len0 * 1 ≤ 140737488351232) :
  Calls Try.prog 7 #[.slice a0 len0 cap0] w fun e w' => e = .returned (.bool true) ∧ Below w.heap.size w w' := by
 obtain ⟨l0, rfl, hr0, hm0, hw0, hc0⟩ := ReadsInt.ofRowC w0
 obtain ⟨k, h⟩ := P l0 hm0 y0 hw0
 refine (laws_FnStates.calls k _ _ l0 true w (Kd.C_of_reads (d := (0 : Int)) (h1 := fun _ => rfl) hr0) hc0 h).mono ?_
 rintro e w' ⟨rfl, hd⟩
 exact ⟨rfl, hd⟩
end Go.Proofs.Ytmhnpogjkbmmnaa.PFnStates
