-- Written by a program of this session: wip/mkprint.py over the kit's print, with contracts proved by hand (wip/given.py)
-- shortened
-- squeezed
import Derived.Test.YtmhnpogjkbmmnaaPFnExactFeedFramex0
import Derived.Test.YtmhnpogjkbmmnaaPFnExactFeedFramex1
import Derived.Test.YtmhnpogjkbmmnaaPFnExactFeedFramex2
import Derived.Test.YtmhnpogjkbmmnaaPFnExactFeedFramex3
import Derived.Test.YtmhnpogjkbmmnaaPFnExactFeedFramex5
namespace Go.Proofs.Ytmhnpogjkbmmnaa.PFnExactFeedFrame
open Go.RowKit Go.Proofs.YtmhnpogjkbmmnaaW.PrintWords Go.Proofs.YtmhnpogjkbmmnaaW.PrintLast Go.Proofs.YtmhnpogjkbmmnaaW.PrintMore
open Go.Proofs.YtmhnpogjkbmmnaaW.PrintWords.Kd renaming R_alloc → rA, R_drewN → rN, R_drew → rD, R_far → rF, R_mono → rM, R_base → rB, R_new' → rW, R_below → rL, R_lt → rT, R_lower → rG, R_elder' → rH, R_reads' → rR, C_alloc → cA, C_drewN → cN, C_drew → cD, C_below → cB
open Go.Proofs.YtmhnpogjkbmmnaaW.PrintWords renaming below_alloc → bA, pw_below_drewN → bN, below_drew1 → bD, below_set → bS, below_step → bT, below_size → bZ, blk_drewN → kN, blk_drew → kD, blk_alloc → kA, blk_below → kB, blk_cell → kC, blk_frozen → kF
open Go.Proofs.YtmhnpogjkbmmnaaW.PrintWords.Aside0 renaming mk → aM
attribute [local go_sem] max2_int min2_int max_two min_two max_three min_three max_four min_four   -- for this text's walks alone
set_option linter.unusedVariables false
set_option linter.unusedSimpArgs false

/-- A state of type 48 at block g of W; what its slices lead to came in by w0. -/
def IsS48 (w0 W : World) (g : Nat) (f0 : Int) (f1 : List Int) (f2 : List Int) : Prop := ∃ A1 c1, ∃ A2 c2, W.heap[g]? = some (.cells #[.int .i64 f0, .slice A1 f1.length c1, .slice A2 f2.length c2] 48 (0, 0)) ∧ w0.heap.size ≤ g ∧ Kd.C (Kd.int .i64) w0 A1 f1.length f1 ∧ Kd.C (Kd.int .i64) w0 A2 f2.length f2 ∧ f1.length ≤ c1 ∧ f2.length ≤ c2
theorem IsS48.grown {w0 W : World} {g : Nat} {f0 : Int} {f1 : List Int} {f2 : List Int} {W1 : World} {row : Option Nat} (h : IsS48 w0 W g f0 f1 f2) (hw : W.grownBy W1 row) (hne : some g ≠ row) : IsS48 w0 W1 g f0 f1 f2 := by
 obtain ⟨A1, c1, A2, c2, hb, hg, hr1, hr2, hq1, hq2⟩ := h
 exact ⟨A1, c1, A2, c2, blk_grown hb hw hne, hg, hr1, hr2, hq1, hq2⟩
theorem IsS48.own_neN {w0 W : World} {g : Nat} {f0 : Int} {f1 : List Int} {f2 : List Int} {α : Type} {d : Kd α} {e : Nat} {base : Nat} {ok : Nat → Prop} {v : Value} {xs : List α} (h : IsS48 w0 W g f0 f1 f2) (ho : Kd.N d e W base ok v xs) (ht : e ≠ 48) : some g ≠ v.ownBlock := by
 obtain ⟨A1, c1, A2, c2, hb, hg, hr1, hr2, hq1, hq2⟩ := h
 exact Kd.N_ne ho hb ht
theorem IsS48.fresh {w0 W : World} {g : Nat} {f0 : Int} {f1 : List Int} {f2 : List Int} (h : IsS48 w0 W g f0 f1 f2) : ∀ k, W.heap.size ≤ k → k ≠ g := by
 obtain ⟨A1, c1, A2, c2, hb, hg, hr1, hr2, hq1, hq2⟩ := h
 exact Kd.freshB hb
theorem IsS48.kept {w0 W : World} {g : Nat} {f0 : Int} {f1 : List Int} {f2 : List Int} {W1 : World} {S : Nat → Prop} (h : IsS48 w0 W g f0 f1 f2) (hk : Kept W W1 S) (hne : ¬ S g) : IsS48 w0 W1 g f0 f1 f2 := by
 obtain ⟨A1, c1, A2, c2, hb, hg, hr1, hr2, hq1, hq2⟩ := h
 exact ⟨A1, c1, A2, c2, blk_kept hb hk hne, hg, hr1, hr2, hq1, hq2⟩
theorem IsS48.below {w0 W : World} {g : Nat} {f0 : Int} {f1 : List Int} {f2 : List Int} {W1 : World} (h : IsS48 w0 W g f0 f1 f2) (hw : Below W.heap.size W W1) : IsS48 w0 W1 g f0 f1 f2 := h.grown (grown_of_below hw none) (by simp)
theorem IsS48.alloc {w0 W : World} {g : Nat} {f0 : Int} {f1 : List Int} {f2 : List Int} (h : IsS48 w0 W g f0 f1 f2) (o : Obj) : IsS48 w0 (W.alloc o) g f0 f1 f2 := h.below (bA (Below.refl _ _) o)
theorem IsS48.drewN {w0 W : World} {g : Nat} {f0 : Int} {f1 : List Int} {f2 : List Int} (h : IsS48 w0 W g f0 f1 f2) (m : Nat) : IsS48 w0 (W.drewN m) g f0 f1 f2 := h
theorem IsS48.drew {w0 W : World} {g : Nat} {f0 : Int} {f1 : List Int} {f2 : List Int} (h : IsS48 w0 W g f0 f1 f2) : IsS48 w0 W.drew g f0 f1 f2 := h
theorem IsS48.at_ {w0 W : World} {g : Nat} {f0 : Int} {f1 : List Int} {f2 : List Int} {w' : World} {m : Nat} (hq : W.drewN m = w') (h : IsS48 w0 W g f0 f1 f2) : IsS48 w0 w' g f0 f1 f2 := by subst hq; exact IsS48.drewN h m
theorem IsS48.apart {w0 W : World} {g : Nat} {f0 : Int} {f1 : List Int} {f2 : List Int} {α : Type} {d : Kd α} {e : Nat} {base : Nat} {ok : Nat → Prop} {v : Value} {xs : List α} (h : IsS48 w0 W g f0 f1 f2) (ho : d.R e W base ok v xs) (ht : ∀ q, q ∈ e :: d.E → q ≠ 48) : d.R e W base (fun k => ok k ∧ k ≠ g) v xs := by
 obtain ⟨A1, c1, A2, c2, hb, hg, hr1, hr2, hq1, hq2⟩ := h
 exact Kd.R_types ho hb ht
theorem IsS48.own_ne {w0 W : World} {g : Nat} {f0 : Int} {f1 : List Int} {f2 : List Int} {α : Type} {d : Kd α} {e : Nat} {base : Nat} {ok : Nat → Prop} {v : Value} {xs : List α} (h : IsS48 w0 W g f0 f1 f2) (ho : d.R e W base ok v xs) (ht : e ≠ 48) : some g ≠ v.ownBlock := by
 obtain ⟨A1, c1, A2, c2, hb, hg, hr1, hr2, hq1, hq2⟩ := h
 exact Kd.R_ne ho hb ht
theorem IsS48.apartQ {w0 W : World} {g : Nat} {f0 : Int} {f1 : List Int} {f2 : List Int} {α : Type} {d : Kd α} {e : Nat} {base : Nat} {ok : Nat → Prop} {v : Value} {xs : List α} (h : IsS48 w0 W g f0 f1 f2) (ho : d.Q e W base ok v xs) (ht : ∀ q, q ∈ e :: d.E → q ≠ 48) : d.Q e W base (fun k => ok k ∧ k ≠ g) v xs := by
 obtain ⟨A1, c1, A2, c2, hb, hg, hr1, hr2, hq1, hq2⟩ := h
 exact Kd.Q_types ho hb ht
theorem IsS48.own_neQ {w0 W : World} {g : Nat} {f0 : Int} {f1 : List Int} {f2 : List Int} {α : Type} {d : Kd α} {e : Nat} {base : Nat} {ok : Nat → Prop} {v : Value} {xs : List α} (h : IsS48 w0 W g f0 f1 f2) (ho : d.Q e W base ok v xs) (ht : e ≠ 48) : some g ≠ v.ownBlock := by
 obtain ⟨A1, c1, A2, c2, hb, hg, hr1, hr2, hq1, hq2⟩ := h
 exact Kd.Q_ne ho hb ht
theorem IsS48.apartS {w0 W : World} {g : Nat} {f0 : Int} {f1 : List Int} {f2 : List Int} {α : Type} {d : Kd α} {e : Nat} {base : Nat} {ok : Nat → Prop} {v : Value} {xs : List α} (h : IsS48 w0 W g f0 f1 f2) (ho : d.S e W base ok v xs) (ht : ∀ q, q ∈ e :: d.E → q ≠ 48) : d.S e W base (fun k => ok k ∧ k ≠ g) v xs := by
 obtain ⟨A1, c1, A2, c2, hb, hg, hr1, hr2, hq1, hq2⟩ := h
 exact Kd.S_types ho hb ht
theorem IsS48.own_neS {w0 W : World} {g : Nat} {f0 : Int} {f1 : List Int} {f2 : List Int} {α : Type} {d : Kd α} {e : Nat} {base : Nat} {ok : Nat → Prop} {v : Value} {xs : List α} (h : IsS48 w0 W g f0 f1 f2) (ho : d.S e W base ok v xs) (ht : e ≠ 48) : some g ≠ v.ownBlock := by
 obtain ⟨A1, c1, A2, c2, hb, hg, hr1, hr2, hq1, hq2⟩ := h
 exact Kd.S_ne ho hb ht
theorem IsS48.lt {w0 W : World} {g : Nat} {f0 : Int} {f1 : List Int} {f2 : List Int} (h : IsS48 w0 W g f0 f1 f2) : g < W.heap.size := by
 obtain ⟨A1, c1, A2, c2, hb, hg, hr1, hr2, hq1, hq2⟩ := h
 exact blk_lt hb
theorem IsS48.ge {w0 W : World} {g : Nat} {f0 : Int} {f1 : List Int} {f2 : List Int} (h : IsS48 w0 W g f0 f1 f2) : w0.heap.size ≤ g := by
 obtain ⟨A1, c1, A2, c2, hb, hg, hr1, hr2, hq1, hq2⟩ := h
 exact hg
theorem IsS48.ne_blk {w0 W : World} {g : Nat} {f0 : Int} {f1 : List Int} {f2 : List Int} {a : Nat} {cs : Array Value} {t : TypeId} {fr : Nat × Nat} (h : IsS48 w0 W g f0 f1 f2) (hb2 : W.heap[a]? = some (.cells cs t fr)) (ht : t ≠ 48) : g ≠ a := by
 obtain ⟨A1, c1, A2, c2, hb, hg, hr1, hr2, hq1, hq2⟩ := h
 rintro rfl
 rw [hb] at hb2
 injection hb2 with hb2
 injection hb2 with _ ht2
 exact ht ht2.symm
theorem IsS48.far {w0 W : World} {g : Nat} {f0 : Int} {f1 : List Int} {f2 : List Int} {p : Addr} (h : IsS48 w0 W g f0 f1 f2) (hne : g ≠ p.block) (u : Value) : IsS48 w0 (W.setCell p u) g f0 f1 f2 := by
 obtain ⟨A1, c1, A2, c2, hb, hg, hr1, hr2, hq1, hq2⟩ := h
 exact ⟨A1, c1, A2, c2, blk_far hb hne u, hg, hr1, hr2, hq1, hq2⟩
theorem cellS48_0 {W : World} {g : Nat} {A1 : Option Addr} {c1 : Nat} {A2 : Option Addr} {c2 : Nat} {f0 : Int} {f1 : List Int} {f2 : List Int} (h : W.heap[g]? = some (.cells #[.int .i64 f0, .slice A1 f1.length c1, .slice A2 f2.length c2] 48 (0, 0))) : W.cell? ⟨g, 0, none⟩ = some (.int .i64 f0) := (kC h 0).trans rfl
theorem IsS48.set_0 {w0 W : World} {g : Nat} {f0 : Int} {f1 : List Int} {f2 : List Int} (h : IsS48 w0 W g f0 f1 f2) (x : Int) : IsS48 w0 (W.setCell ⟨g, 0, none⟩ (.int .i64 x)) g x f1 f2 := by
 obtain ⟨A1, c1, A2, c2, hb, hg, hr1, hr2, hq1, hq2⟩ := h
 exact ⟨A1, c1, A2, c2, by simpa using blk_set hb 0 (.int .i64 x), hg, hr1, hr2, hq1, hq2⟩
theorem cellS48_1 {W : World} {g : Nat} {A1 : Option Addr} {c1 : Nat} {A2 : Option Addr} {c2 : Nat} {f0 : Int} {f1 : List Int} {f2 : List Int} (h : W.heap[g]? = some (.cells #[.int .i64 f0, .slice A1 f1.length c1, .slice A2 f2.length c2] 48 (0, 0))) : W.cell? ⟨g, 1, none⟩ = some (.slice A1 f1.length c1) := (kC h 1).trans rfl
theorem cellS48_2 {W : World} {g : Nat} {A1 : Option Addr} {c1 : Nat} {A2 : Option Addr} {c2 : Nat} {f0 : Int} {f1 : List Int} {f2 : List Int} (h : W.heap[g]? = some (.cells #[.int .i64 f0, .slice A1 f1.length c1, .slice A2 f2.length c2] 48 (0, 0))) : W.cell? ⟨g, 2, none⟩ = some (.slice A2 f2.length c2) := (kC h 2).trans rfl
theorem IsS48.new (w0 W : World) (A1 : Option Addr) (c1 : Nat) (A2 : Option Addr) (c2 : Nat) (f0 : Int) (f1 : List Int) (f2 : List Int) (hB : Below w0.heap.size w0 W) (hr1 : Kd.C (Kd.int .i64) w0 A1 f1.length f1) (hr2 : Kd.C (Kd.int .i64) w0 A2 f2.length f2) (hq1 : f1.length ≤ c1) (hq2 : f2.length ≤ c2) : IsS48 w0 (W.alloc (.cells #[.int .i64 f0, .slice A1 f1.length c1, .slice A2 f2.length c2] 48)) W.heap.size f0 f1 f2 := ⟨A1, c1, A2, c2, by simpa using heap_alloc_new W _, hB.size, hr1, hr2, hq1, hq2⟩

/-! ### spec_l7Feed: function 75 -/
def spec_l7Feed.f (k : Nat) (s0_0 : Int) (s0_1 : List Int) (s0_2 : List Int) (l1 : List Int) : Option (Int × List Int × List Int × List Int × Int) := if 0 ≤ (wrap64 (Int.tdiv s0_0 2)) then (if (wrap64 (Int.tdiv s0_0 2)) ≤ (l1.length : Int) then ((spec_l7Seam.f k s0_0 s0_2 (l1.take ((wrap64 (Int.tdiv s0_0 2)) : Int).toNat) false).bind fun bt213 => ((spec_l1Ints.f s0_1).bind fun t219 => (if t219.length + bt213.1.length < 17592186044416 then ((spec_l1Ints.f (l1.drop ((wrap64 (Int.tdiv s0_0 2)) : Int).toNat)).bind fun t226 => ((spec_l6Spread.f k (t219 ++ bt213.1)).bind fun t229 => (some (s0_0, bt213.2, t226, t229, s0_0)))) else (none)))) else (none)) else (none)
theorem spec_l7Feed.mono : ∀ a0 a1 a2 a3 k, LeO (spec_l7Feed.f k a0 a1 a2 a3) (spec_l7Feed.f (k + 1) a0 a1 a2 a3) := by
 intro a0 a1 a2 a3 k
 unfold spec_l7Feed.f
 repeat' first
   | (with_reducible exact spec_l6Spread.mono _ _)
   | (with_reducible exact spec_l7Seam.mono _ _ _ _ _)
   | (with_reducible exact LeO.refl _)
   | (with_reducible exact LeO.none _)
   | (with_reducible refine LeO.ite ?_ ?_)
   | (with_reducible refine LeO.bind ?_ (fun _ => ?_))
   | exact spec_l6Spread.mono _ _
   | exact spec_l7Seam.mono _ _ _ _ _
   | exact LeO.none _
   | refine LeO.ite ?_ ?_
   | refine LeO.bind ?_ (fun _ => ?_)
def spec_l7Feed.T2 : Bool × List (List Nat × List Nat) := (true, [([], []), ([0], [0]), ([1], [1]), ([2], [2]), ([], []), ([4], [4]), ([5], [5]), ([6], [6]), ([], []), ([], []), ([8, 9], [8, 9]), ([3, 7, 10], [3, 7, 10]), ([11], [11]), ([12], [12]), ([12], [12]), ([13, 11, 0, 1, 2, 3, 4, 5, 6, 7, 8, 9, 10, 11, 12, 13], [13]), ([14, 15, 0, 1, 2, 3, 4, 5, 6, 7, 8, 9, 10, 11, 12, 13, 14, 15], [14])])
def spec_l7Feed.B2 : List Nat := [0, 1, 3, 7, 0, 16, 48, 112, 0, 0, 768, 2047, 4095, 8191, 8191, 16383, 65535]
theorem spec_l7Feed.tab2 : rtab .any (opsOf Try.f75 2) = spec_l7Feed.T2 := by kernel_rfl
theorem spec_l7Feed.bits2 : waitsOk spec_l7Feed.T2.2 spec_l7Feed.B2 = true := by kernel_rfl
def spec_l7Feed.T4 : Bool × List (List Nat × List Nat) := (true, [([], []), ([0], [0]), ([1], [1]), ([2], [2]), ([], []), ([], []), ([], []), ([5, 6], [5, 6]), ([7], [7]), ([3, 4, 8], [3, 4, 8]), ([], []), ([10, 8], [10]), ([9, 11, 0, 1, 2, 3, 4, 5, 6, 7, 8, 9], [9]), ([11, 12, 0, 1, 2, 3, 4, 5, 6, 7, 8, 9, 10, 11, 12], [11])])
def spec_l7Feed.B4 : List Nat := [0, 1, 3, 7, 0, 0, 0, 96, 224, 511, 0, 1504, 4095, 8191]
theorem spec_l7Feed.tab4 : rtab .any (opsOf Try.f75 4) = spec_l7Feed.T4 := by kernel_rfl
theorem spec_l7Feed.bits4 : waitsOk spec_l7Feed.T4.2 spec_l7Feed.B4 = true := by kernel_rfl
set_option maxHeartbeats 8000000 in
set_option maxRecDepth 100000 in
theorem spec_l7Feed.calls (k : Nat) (g : Nat) (s0_0 : Int) (s0_1 : List Int) (s0_2 : List Int) (A1 : Option Addr) (c1 : Nat) (l1 : List Int) (r1 : Int) (r2 : List Int) (r3 : List Int) (r4 : List Int) (r5 : Int) (w0 w : World) (hI : IsS48 w0 w g s0_0 s0_1 s0_2) (hB : Below w0.heap.size w0 w) (hr1 : Kd.C (Kd.int .i64) w A1 l1.length l1) (hc1 : l1.length ≤ c1) (hf1 : ∀ ad, A1 = some ad → 0 < l1.length → ad.block ≠ g) (h : spec_l7Feed.f k s0_0 s0_1 s0_2 l1 = some (r1, r2, r3, r4, r5)) :
  Calls Try.prog 75 #[.pointer (some ⟨g, 0, none⟩), .slice A1 l1.length c1] w fun e w' => ∃ v1_ v2_ v3_ : Value, e = .returned (.tuple #[.agg #[.int .i64 r1, v1_, v2_], v3_]) ∧ Kd.R (Kd.int .i64) 2 w' w.heap.size (fun k_ => some k_ ≠ (v2_ : Value).ownBlock ∧ some k_ ≠ (v3_ : Value).ownBlock) v1_ r2 ∧ Kd.R (Kd.int .i64) 2 w' w.heap.size (fun k_ => some k_ ≠ (v1_ : Value).ownBlock ∧ some k_ ≠ (v3_ : Value).ownBlock) v2_ r3 ∧ Kd.R (Kd.int .i64) 2 w' w.heap.size (fun k_ => some k_ ≠ (v1_ : Value).ownBlock ∧ some k_ ≠ (v2_ : Value).ownBlock) v3_ r4 ∧ IsS48 w0 w' g r5 s0_1 s0_2 ∧ Below w0.heap.size w0 w' ∧ KeepBut w w' g none := by
 have hu48 := Try.underlying48
 have HR1 := aM hr1
 have HC1 := aM hc1
 clear hr1 hc1
 have HI0 := aM hI
 have HK := aM (KeepBut.refl w g none)
 have HL := aM hB.size
 clear hI
 have HW0 := aM hB.size
 have HB := aM hB
 clear hB
 have H : (if 0 ≤ (wrap64 (Int.tdiv s0_0 2)) then (if (wrap64 (Int.tdiv s0_0 2)) ≤ (l1.length : Int) then ((spec_l7Seam.f k s0_0 s0_2 (l1.take ((wrap64 (Int.tdiv s0_0 2)) : Int).toNat) false).bind fun bt213 => ((spec_l1Ints.f s0_1).bind fun t219 => (if t219.length + bt213.1.length < 17592186044416 then ((spec_l1Ints.f (l1.drop ((wrap64 (Int.tdiv s0_0 2)) : Int).toNat)).bind fun t226 => ((spec_l6Spread.f k (t219 ++ bt213.1)).bind fun t229 => (some (s0_0, bt213.2, t226, t229, s0_0)))) else (none)))) else (none)) else (none)) = some (r1, r2, r3, r4, r5) := h
 clear h
 obtain ⟨ji3, hji3⟩ : ∃ j_ : Int, (wrap64 (Int.tdiv s0_0 2)) = j_ := ⟨_, rfl⟩
 replace H : (if 0 ≤ (ji3) then (if (ji3) ≤ (l1.length : Int) then ((spec_l7Seam.f k s0_0 s0_2 (l1.take ((ji3) : Int).toNat) false).bind fun bt213 => ((spec_l1Ints.f s0_1).bind fun t219 => (if t219.length + bt213.1.length < 17592186044416 then ((spec_l1Ints.f (l1.drop ((ji3) : Int).toNat)).bind fun t226 => ((spec_l6Spread.f k (t219 ++ bt213.1)).bind fun t229 => (some (s0_0, bt213.2, t226, t229, s0_0)))) else (none)))) else (none)) else (none)) = some (r1, r2, r3, r4, r5) := by first | (rw [hji3] at H; exact H) | (simp only [hji3] at H ⊢; exact H)
 have hji3w : (IntKind.i64.wrap (Int.tdiv s0_0 2)) = ji3 := (i64_w _).trans hji3
 by_cases c4 : 0 ≤ (ji3)
 ·rw [if_pos c4] at H
  have c4b0 := eq_true c4
  have c4b1 : decide (0 ≤ (ji3)) = true := decide_eq_true c4
  clear c4
  by_cases c5 : (ji3) ≤ (l1.length : Int)
  ·rw [if_pos c5] at H
   have c5b0 := eq_true c5
   have c5b1 : decide ((ji3) ≤ (l1.length : Int)) = true := decide_eq_true c5
   clear c5
   replace H := Option.bind_eq_some_iff.mp H
   obtain ⟨⟨t213, t214⟩, A60, H⟩ := H
   replace H : ((spec_l1Ints.f s0_1).bind fun t219 => (if t219.length + t213.length < 17592186044416 then ((spec_l1Ints.f (l1.drop ((ji3) : Int).toNat)).bind fun t226 => ((spec_l6Spread.f k (t219 ++ t213)).bind fun t229 => (some (s0_0, t214, t226, t229, s0_0)))) else (none))) = some (r1, r2, r3, r4, r5) := H
   have A6 := aM A60
   clear A60
   replace H := Option.bind_eq_some_iff.mp H
   obtain ⟨t219, A70, H⟩ := H
   replace H : (if t219.length + t213.length < 17592186044416 then ((spec_l1Ints.f (l1.drop ((ji3) : Int).toNat)).bind fun t226 => ((spec_l6Spread.f k (t219 ++ t213)).bind fun t229 => (some (s0_0, t214, t226, t229, s0_0)))) else (none)) = some (r1, r2, r3, r4, r5) := H
   have A7 := aM A70
   clear A70
   by_cases c8 : t219.length + t213.length < 17592186044416
   ·rw [if_pos c8] at H
    have LMc8 := aM c8
    clear c8
    obtain ⟨y222, hy222⟩ : ∃ y_ : List Int, y_ = (t219 ++ t213) := ⟨_, rfl⟩
    replace H : ((spec_l1Ints.f (l1.drop ((ji3) : Int).toNat)).bind fun t226 => ((spec_l6Spread.f k y222).bind fun t229 => (some (s0_0, t214, t226, t229, s0_0)))) = some (r1, r2, r3, r4, r5) := by first | (rw [hy222]; with_reducible exact H) | (have H2_ := (Option.bind_some _ _).symm.trans H; rw [hy222]; with_reducible exact H2_) | (have H2_ := (Option.bind_some _ _).symm.trans H; with_reducible exact H2_) | with_reducible exact H | (rw [hy222]; exact H) | exact H
    have Ny222 := aM hy222
    clear hy222
    have c9b0 := eq_true (of_decide_eq_true (by first | (with_reducible assumption) | assumption) : 0 ≤ (ji3))
    have c10b0 := eq_true (of_decide_eq_true (by first | (with_reducible assumption) | assumption) : (ji3) ≤ (l1.length : Int))
    replace H := Option.bind_eq_some_iff.mp H
    obtain ⟨t226, A110, H⟩ := H
    replace H : ((spec_l6Spread.f k y222).bind fun t229 => (some (s0_0, t214, t226, t229, s0_0))) = some (r1, r2, r3, r4, r5) := H
    have A11 := aM A110
    clear A110
    replace H := Option.bind_eq_some_iff.mp H
    obtain ⟨t229, A120, H⟩ := H
    replace H : (some (s0_0, t214, t226, t229, s0_0)) = some (r1, r2, r3, r4, r5) := H
    have A12 := aM A120
    clear A120
    simp only [Option.some.injEq, Prod.mk.injEq] at H
    obtain ⟨rfl, rfl, rfl, rfl, rfl⟩ := H
    go_enter Try.func75, Try.ntmps75
    try go_wp2_with (first | ((with_reducible refine gate_dst (N := 4) rfl ?_); refine box_event ?hg (N := 4) ?hd (cs := #[.int .i64 0, .slice none 0 0, .slice none 0 0]) (t := 48) ?hr ?_; (case hd => rfl); (case hg => rfl); (case hr => first | (go_simp; done) | (go_simp; rfl)); intro gb211 hg w13 hbox hb; have n0_ := aM (IsS48.below (by repeat (first | (with_reducible first | exact HI0.out | apply IsS48.alloc | apply IsS48.drewN | apply IsS48.drew | apply IsS48.set_0) | exact HI0.out)) hb); have n1_ := aM (KeepBut.trans (by repeat (first | (with_reducible first | exact HK.out | apply KeepBut.set_ | apply keep_drewN | apply keep_drew | apply keep_alloc) | exact HK.out)) (KeepBut.of_below hb g none) (.inl rfl)); have n2_ := aM (bT (by repeat (first | (with_reducible first | exact HB.out | apply bA | apply bN | apply bD | refine bS ?_ (IsS48.ge HI0.out)) | exact HB.out)) hb); have n3_ := aM (hbox); have n4_ := aM ((by rw [hg]; exact (keep_size (w := w) (g := g) (row := none) (by repeat (first | (with_reducible first | exact HK.out | apply KeepBut.set_ | apply keep_drewN | apply keep_drew | apply keep_alloc) | exact HK.out))) : w.heap.size ≤ gb211)); have n5_ := aM ((Nat.le_trans HW0.out (by rw [hg]; exact (keep_size (w := w) (g := g) (row := none) (by repeat (first | (with_reducible first | exact HK.out | apply KeepBut.set_ | apply keep_drewN | apply keep_drew | apply keep_alloc) | exact HK.out))) : w.heap.size ≤ gb211) : w0.heap.size ≤ gb211)); have n6_ := aM ((by rw [hg]; exact Nat.ne_of_lt (IsS48.lt (show IsS48 w0 _ g s0_0 s0_1 s0_2 from by repeat (first | (with_reducible first | exact HI0.out | apply IsS48.alloc | apply IsS48.drewN | apply IsS48.drew | apply IsS48.set_0) | exact HI0.out))) : g ≠ gb211)); have n7_ := aM ((by rw [hg]; exact Nat.ne_of_gt (IsS48.lt (show IsS48 w0 _ g s0_0 s0_1 s0_2 from by repeat (first | (with_reducible first | exact HI0.out | apply IsS48.alloc | apply IsS48.drewN | apply IsS48.drew | apply IsS48.set_0) | exact HI0.out))) : gb211 ≠ g)); clear HI0 HK HB; have HI0 := n0_; have HK := n1_; have HB := n2_; have BK211 := n3_; have GW211 := n4_; have GE211 := n5_; have NB0_211 := n6_; have NB211_0 := n7_; clear n0_ n1_ n2_ n3_ n4_ n5_ n6_ n7_ hb hbox hg; obtain ⟨ASz14_1, cSz14_1, ASz14_2, cSz14_2, HGz14, hgz14, HSz14_1, HSz14_2, HCSz14_1, HCSz14_2⟩ := HI0.out; have hcz14_0 := cellS48_0 HGz14; have hcz14_1 := cellS48_1 HGz14; have hcz14_2 := cellS48_2 HGz14; have hfz14_0 := kF HGz14 0; clear HGz14 hgz14))
    have n0_ := aM (kD BK211.out)
    have n1_ := aM (IsS48.drew HI0.out)
    have n2_ := aM (keep_drew HK.out)
    have n3_ := aM (bD HB.out)
    clear BK211
    clear HI0
    clear HK
    clear HB
    have BK211 := n0_
    have HI0 := n1_
    have HK := n2_
    have HB := n3_
    clear n0_ n1_ n2_ n3_
    obtain ⟨i016, hi016, _, hsz16, _⟩ := info_parts info2
    obtain ⟨hcut16, hA16, hC16⟩ := print_take_of (P := Try.prog) (Value.int .i64) 0 22 2 .i64 Try.underlying22 hi016 hsz16 A1 c1 l1 (ji3) (of_decide_eq_true (by first | (with_reducible assumption) | assumption)) (of_decide_eq_true (by first | (with_reducible assumption) | assumption)) HC1.out
    have HR212 := aM (Kd.C_of_reads (h1 := fun _ => rfl) (hA16 _ (Kd.reads_of_C HR1.out)))
    have HC212 := aM hC16
    have hf212 : ∀ ad : Addr, A1 = some ad → 0 < (l1.take ((ji3) : Int).toNat).length → ad.block ≠ g := fun ad he h_ => by cases he; exact Kd.foot_ne (fun W_ hk_ => Kd.C_of_reads (h1 := fun _ => rfl) (hA16 _ (Kd.reads_of_C (Kd.C_foot_ne (fun h => h) HR1.out hf1 W_ hk_)))) h_ (by decide)
    clear hA16 hC16 hi016 hsz16
    obtain ⟨ASz17_1, cSz17_1, ASz17_2, cSz17_2, HGz17, hgz17, HSz17_1, HSz17_2, HCSz17_1, HCSz17_2⟩ := HI0.out
    refine start_ (n := 17) (S := fun w' => w'.cell? ⟨g, 2, none⟩ = some (.slice ASz17_2 s0_2.length cSz17_2) ∧ w'.cell? ⟨g, 0, none⟩ = some (.int .i64 s0_0)) (ds := []) #[N,N,N,N,N,N,N,N,N,N,N,N,N,N,N,N,N] (by kernel_rfl) rfl rfl ⟨(cellS48_2 HGz17), (by obtain ⟨_, _, _, _, HG_, _⟩ := HI0.out; exact cellS48_0 HG_)⟩ (fun hHeld => ?_); refine with_tabW spec_l7Feed.tab2 spec_l7Feed.bits2 (fun HT_ HW_ => ?_)
    generalize w13.drew = w15 at BK211 HI0 HK HB HR212 hHeld ⊢
    refine pure_ (i := 0) (N := some 16) (v := ?_) (a' := ?_) #[Y,N,N,N,N,N,N,N,N,N,N,N,N,N,N,N,N] rfl rfl (any_of HT_.out (by kernel_rfl)) (fun _ _ _ h => h) (Or.inl ⟨by rfl, ?_⟩) ?_ ?_
    rotate_left
    ·intro w'
     go_simp
     with_reducible rfl
    rotate_left
    ·simp only [Act.put, pa, pb, pc, i64_w, i32_w]
     rfl
    refine pure_ (i := 1) (N := some 17) (v := ?_) (a' := ?_) #[Y,Y,N,N,N,N,N,N,N,N,N,N,N,N,N,N,N] rfl rfl (any_of HT_.out (by kernel_rfl)) (fun _ _ _ h => h) (Or.inl ⟨by rfl, ?_⟩) ?_ ?_
    rotate_left
    ·intro w'
     go_simp
     with_reducible rfl
    rotate_left
    ·simp only [Act.put, pa, pb, pc, i64_w, i32_w]
     rfl
    refine pure_ (i := 2) (N := some 18) (v := ?_) (a' := ?_) #[Y,Y,Y,N,N,N,N,N,N,N,N,N,N,N,N,N,N] rfl rfl (any_of HT_.out (by kernel_rfl)) (fun _ _ _ h => h) (Or.inl ⟨by rfl, ?_⟩) ?_ ?_
    rotate_left
    ·intro w'
     go_simp
     with_reducible rfl
    rotate_left
    ·simp only [Act.put, pa, pb, pc, i64_w, i32_w]
     rfl
    refine pure_ (i := 4) (N := some 20) (v := ?_) (a' := ?_) #[Y,Y,Y,N,Y,N,N,N,N,N,N,N,N,N,N,N,N] rfl rfl (any_of HT_.out (by kernel_rfl)) (fun _ _ _ h => h) (Or.inl ⟨by rfl, ?_⟩) ?_ ?_
    rotate_left
    ·intro w'
     go_simp
     with_reducible rfl
    rotate_left
    ·simp only [Act.put, pa, pb, pc, i64_w, i32_w]
     rfl
    refine pure_ (i := 5) (N := some 21) (v := ?_) (a' := ?_) #[Y,Y,Y,N,Y,Y,N,N,N,N,N,N,N,N,N,N,N] rfl rfl (any_of HT_.out (by kernel_rfl)) (fun _ _ _ h => h) (Or.inl ⟨by rfl, ?_⟩) ?_ ?_
    rotate_left
    ·intro w'
     go_simp
     with_reducible rfl
    rotate_left
    ·simp only [Act.put, pa, pb, pc, i64_w, i32_w]
     rfl
    refine pure_ (i := 6) (N := some 22) (v := ?_) (a' := ?_) #[Y,Y,Y,N,Y,Y,Y,N,N,N,N,N,N,N,N,N,N] rfl rfl (any_of HT_.out (by kernel_rfl)) (fun _ _ _ h => h) (Or.inl ⟨by rfl, ?_⟩) ?_ ?_
    rotate_left
    ·intro w'
     go_simp
     with_reducible rfl
    rotate_left
    ·simp only [Act.put, pa, pb, pc, i64_w, i32_w]
     rfl
    refine pure_ (i := 8) (N := some 24) (v := ?_) (a' := ?_) #[Y,Y,Y,N,Y,Y,Y,N,Y,N,N,N,N,N,N,N,N] rfl rfl (any_of HT_.out (by kernel_rfl)) (fun _ _ _ h => h) (Or.inl ⟨by rfl, ?_⟩) ?_ ?_
    rotate_left
    ·intro w'
     go_simp
     with_reducible rfl
    rotate_left
    ·simp only [Act.put, pa, pb, pc, i64_w, i32_w]
     rfl
    refine pure_ (i := 9) (N := some 25) (v := ?_) (a' := ?_) #[Y,Y,Y,N,Y,Y,Y,N,Y,Y,N,N,N,N,N,N,N] rfl rfl (any_of HT_.out (by kernel_rfl)) (fun _ _ _ h => h) (Or.inl ⟨by rfl, ?_⟩) ?_ ?_
    rotate_left
    ·intro w'
     go_simp
     with_reducible rfl
    rotate_left
    ·simp only [Act.put, pa, pb, pc, i64_w, i32_w]
     rfl
    refine pure_ (i := 10) (N := some 26) (v := ?_) (a' := ?_) #[Y,Y,Y,N,Y,Y,Y,N,Y,Y,Y,N,N,N,N,N,N] rfl rfl (any_of HT_.out (by kernel_rfl)) (fun _ _ _ h => h) (Or.inl ⟨by rfl, ?_⟩) ?_ ?_
    rotate_left
    ·intro w'
     go_simp
     with_reducible rfl
    rotate_left
    ·simp only [Act.put, pa, pb, pc, i64_w, i32_w]
     rfl
    refine take_ (i := 3) (N := some 19) (v := ?_) (a' := ?_) #[Y,Y,Y,Y,Y,Y,Y,N,Y,Y,Y,N,N,N,N,N,N] rfl rfl (take_ofW HT_.out HW_.out (by kernel_rfl)) (fun _ _ _ h => h) (Or.inl ⟨by rfl, ?_⟩) hHeld ?_ ?_
    rotate_left
    ·rintro w' ⟨s0, s1⟩
     go_simp
     with_reducible rfl
    rotate_left
    ·simp only [Act.put, pa, pb, pc, i64_w, i32_w]
     rfl
    refine take_ (i := 7) (N := some 23) (v := ?_) (a' := ?_) #[Y,Y,Y,Y,Y,Y,Y,Y,Y,Y,Y,N,N,N,N,N,N] rfl rfl (take_ofW HT_.out HW_.out (by kernel_rfl)) (fun _ _ _ h => h) (Or.inl ⟨by rfl, ?_⟩) hHeld ?_ ?_
    rotate_left
    ·rintro w' ⟨s0, s1⟩
     go_simp
     with_reducible rfl
    rotate_left
    ·simp only [Act.put, pa, pb, pc, i64_w, i32_w]
     rfl
    refine one_ (i := 11) (N := some 27) #[Y,Y,Y,Y,Y,Y,Y,Y,Y,Y,Y,Y,N,N,N,N,N] rfl rfl (one_of HT_.out (by kernel_rfl)) (by decide) (fun K hK => ?_)
    refine goes_ Try.func113 (by kernel_rfl) rfl #[.int .i64 s0_0, .slice ASz17_2 s0_2.length cSz17_2, .slice A1 (l1.take ((ji3) : Int).toNat).length c1, .bool false] (by rfl) rfl rfl (by (try simp only [List.map_toArray, List.map_cons, List.map_nil]); first | done | (rw [show (l1.take ((ji3) : Int).toNat).length = (ji3).toNat from (by rw [List.length_take]; have h_ : ((ji3) : Int) ≤ (l1.length : Int) := of_decide_eq_true (by first | (with_reducible assumption) | assumption); omega)] <;> rfl) | (simp only [hji3]; rfl) | rfl | (simp only [List.length_drop, List.length_take]; rfl)) ?_
    with_reducible refine (spec_l7Seam.calls k s0_0 _ _ s0_2 _ _ (l1.take ((ji3) : Int).toNat) false t213 t214 _ ?side1 ?side2 ?side3 ?side4 A6.out).mono ?_
    (case side1 => exact cB HSz17_2 (by repeat (first | (with_reducible first | exact HB.out | apply bA | apply bN | apply bD | refine bS ?_ (IsS48.ge HI0.out) | refine bS ?_ GE211.out) | exact HB.out)))
    (case side2 => exact HCSz17_2)
    (case side3 => exact Kd.C_keep 0 HR212.out (by repeat (first | (with_reducible first | exact HK.out | apply KeepBut.set_ | apply keep_drewN | apply keep_drew | apply keep_alloc | refine keep_far ?_ GW211.out _) | exact HK.out)) hf212)
    (case side4 => exact HC212.out)
    rintro e w18 ⟨v215, v217, rfl, ho0, ho1, hb⟩
    have HS0_ := (hb.cell (World.block_lt_of_cell? _ _ (hHeld.1))).trans (hHeld.1)
    refine ⟨_, rfl, ?_⟩
    have n0_ := aM (rG ho0 (keep_size (w := w) (g := g) (row := none) (by repeat (first | (with_reducible first | exact HK.out | apply KeepBut.set_ | apply keep_drewN | apply keep_drew | apply keep_alloc | refine keep_far ?_ GW211.out _) | exact HK.out))))
    have n1_ := aM (rG ho1 (keep_size (w := w) (g := g) (row := none) (by repeat (first | (with_reducible first | exact HK.out | apply KeepBut.set_ | apply keep_drewN | apply keep_drew | apply keep_alloc | refine keep_far ?_ GW211.out _) | exact HK.out))))
    have n2_ := aM (IsS48.below (by repeat (first | (with_reducible first | exact HI0.out | apply IsS48.alloc | apply IsS48.drewN | apply IsS48.drew | apply IsS48.set_0 | refine IsS48.far ?_ NB0_211.out _) | exact HI0.out)) hb)
    have n3_ := aM (kB (g := gb211) (o := .cells #[.int .i64 0, .slice none 0 0, .slice none 0 0] 48 (0, 0)) (by (with_reducible repeat (first | refine kN ?_ _ | refine kD ?_ | refine kA ?_ _)); exact BK211.out) hb)
    have n4_ := aM (KeepBut.trans (by repeat (first | (with_reducible first | exact HK.out | apply KeepBut.set_ | apply keep_drewN | apply keep_drew | apply keep_alloc | refine keep_far ?_ GW211.out _) | exact HK.out)) (KeepBut.of_below hb g none) (.inl rfl))
    have n5_ := aM (bT (by repeat (first | (with_reducible first | exact HB.out | apply bA | apply bN | apply bD | refine bS ?_ (IsS48.ge HI0.out) | refine bS ?_ GE211.out) | exact HB.out)) hb)
    clear HI0
    clear BK211
    clear HK
    clear HB
    have HO216 := n0_
    have HO218 := n1_
    have HI0 := n2_
    have BK211 := n3_
    have HK := n4_
    have HB := n5_
    clear n0_ n1_ n2_ n3_ n4_ n5_
    (try clear hb)
    (try clear hb2)
    (try clear hk)
    (try clear hi)
    (try clear ho0)
    (try clear ho1)
    refine hK.out _ _ ⟨HS0_, (by obtain ⟨_, _, _, _, HG_, _⟩ := HI0.out; exact cellS48_0 HG_)⟩ (fun hHeld => ?_)
    clear hK K
    refine norm_ (a' := ?_) ?_ ?_
    rotate_left
    ·show Act.put _ (some 27) _ = _
     simp only [Act.put, pa, pb, pc, i64_w, i32_w]
     rfl
    refine pure_ (i := 12) (N := some 15) (v := ?_) (a' := ?_) #[Y,Y,Y,Y,Y,Y,Y,Y,Y,Y,Y,Y,Y,N,N,N,N] rfl rfl (any_of HT_.out (by kernel_rfl)) (fun _ _ _ h => h) (Or.inl ⟨by rfl, ?_⟩) ?_ ?_
    rotate_left
    ·intro w'
     go_simp
     with_reducible rfl
    rotate_left
    ·simp only [Act.put, pa, pb, pc, i64_w, i32_w]
     rfl
    refine pure_ (i := 13) (N := some 28) (v := ?_) (a' := ?_) #[Y,Y,Y,Y,Y,Y,Y,Y,Y,Y,Y,Y,Y,Y,N,N,N] rfl rfl (any_of HT_.out (by kernel_rfl)) (fun _ _ _ h => h) (Or.inl ⟨by rfl, ?_⟩) ?_ ?_
    rotate_left
    ·intro w'
     go_simp
     with_reducible rfl
    rotate_left
    ·simp only [Act.put, pa, pb, pc, i64_w, i32_w]
     rfl
    refine pure_ (i := 14) (N := some 29) (v := ?_) (a' := ?_) #[Y,Y,Y,Y,Y,Y,Y,Y,Y,Y,Y,Y,Y,Y,Y,N,N] rfl rfl (any_of HT_.out (by kernel_rfl)) (fun _ _ _ h => h) (Or.inl ⟨by rfl, ?_⟩) ?_ ?_
    rotate_left
    ·intro w'
     go_simp
     with_reducible rfl
    rotate_left
    ·simp only [Act.put, pa, pb, pc, i64_w, i32_w]
     rfl
    refine pure_ (i := 15) (N := some 7) (v := ?_) (a' := ?_) #[Y,Y,Y,Y,Y,Y,Y,Y,Y,Y,Y,Y,Y,Y,Y,Y,N] rfl rfl (any_of HT_.out (by kernel_rfl)) (fun _ _ _ h => h) (Or.inl ⟨by rfl, ?_⟩) ?_ ?_
    rotate_left
    ·intro w'
     go_simp
     with_reducible rfl
    rotate_left
    ·simp only [Act.put, pa, pb, pc, i64_w, i32_w]
     rfl
    refine pure_ (i := 16) (N := some 8) (v := ?_) (a' := ?_) #[Y,Y,Y,Y,Y,Y,Y,Y,Y,Y,Y,Y,Y,Y,Y,Y,Y] rfl rfl (any_of HT_.out (by kernel_rfl)) (fun _ _ _ h => h) (Or.inl ⟨by rfl, ?_⟩) ?_ ?_
    rotate_left
    ·intro w'
     go_simp
     with_reducible rfl
    rotate_left
    ·simp only [Act.put, pa, pb, pc, i64_w, i32_w]
     rfl
    refine done_ (done_of HT_.out (by kernel_rfl)) ?_
    obtain ⟨ASz19_1, cSz19_1, ASz19_2, cSz19_2, HGz19, hgz19, HSz19_1, HSz19_2, HCSz19_1, HCSz19_2⟩ := HI0.out
    have hcz19_0 := cellS48_0 HGz19
    have hcz19_1 := cellS48_1 HGz19
    have hcz19_2 := cellS48_2 HGz19
    have hfz19_0 := kF HGz19 0
    clear HGz19 hgz19
    try go_wp2_with (first | ((with_reducible refine gate_callee (f := 114) rfl ?_); refine goesL_ (some 34) rfl rfl Try.func114 (by kernel_rfl) rfl #[.slice ASz19_1 s0_1.length cSz19_1] rfl (by first | rfl | (simp only [List.map_toArray, List.map_cons, List.map_nil]; rfl)) ?_; (with_reducible refine (spec_l1Ints.calls _ _ s0_1 t219 _ ?side1 ?side2 A7.out).mono ?_); (case side1 => exact cB HSz19_1 (by repeat (first | (with_reducible first | exact HB.out | apply bA | apply bN | apply bD | refine bS ?_ (IsS48.ge HI0.out) | refine bS ?_ GE211.out) | exact HB.out))); (case side2 => exact HCSz19_1); rintro e w20 ⟨v220, rfl, ho0, hb⟩; refine ⟨_, rfl, ?_⟩; have n0_ := aM (rH (by (with_reducible repeat (first | apply rA | apply rN | apply rD)); exact HO216.out) (rB ho0) hb); have n1_ := aM (rH (by (with_reducible repeat (first | apply rA | apply rN | apply rD)); exact HO218.out) (rB ho0) hb); have n2_ := aM (rG (rW (rW ho0 (rT (by (with_reducible repeat (first | apply rA | apply rN | apply rD)); exact HO216.out))) (rT (by (with_reducible repeat (first | apply rA | apply rN | apply rD)); exact HO218.out))) (keep_size (w := w) (g := g) (row := none) (by repeat (first | (with_reducible first | exact HK.out | apply KeepBut.set_ | apply keep_drewN | apply keep_drew | apply keep_alloc | refine keep_far ?_ GW211.out _) | exact HK.out)))); have n3_ := aM (IsS48.below (by repeat (first | (with_reducible first | exact HI0.out | apply IsS48.alloc | apply IsS48.drewN | apply IsS48.drew | apply IsS48.set_0 | refine IsS48.far ?_ NB0_211.out _) | exact HI0.out)) hb); have n4_ := aM (kB (g := gb211) (o := .cells #[.int .i64 0, .slice none 0 0, .slice none 0 0] 48 (0, 0)) (by (with_reducible repeat (first | refine kN ?_ _ | refine kD ?_ | refine kA ?_ _)); exact BK211.out) hb); have n5_ := aM (KeepBut.trans (by repeat (first | (with_reducible first | exact HK.out | apply KeepBut.set_ | apply keep_drewN | apply keep_drew | apply keep_alloc | refine keep_far ?_ GW211.out _) | exact HK.out)) (KeepBut.of_below hb g none) (.inl rfl)); have n6_ := aM (bT (by repeat (first | (with_reducible first | exact HB.out | apply bA | apply bN | apply bD | refine bS ?_ (IsS48.ge HI0.out) | refine bS ?_ GE211.out) | exact HB.out)) hb); clear HO216 HO218 HI0 BK211 HK HB; have HO216 := n0_; have HO218 := n1_; have HO221 := n2_; have HI0 := n3_; have BK211 := n4_; have HK := n5_; have HB := n6_; clear n0_ n1_ n2_ n3_ n4_ n5_ n6_; (try clear hb); (try clear ho0); obtain ⟨Ao22, co22, eo22⟩ := Kd.R_slice HO216.out; subst eo22) | ((with_reducible refine gate_builtin (b := .append) (xs := #[.tmp 34, .tmp 35]) rfl ?_); at_builtin; refine Kd.R_append_rows (Kd.int .i64) w.heap.size rfl (.tmp 34) (.tmp 35) 22 2 (.int .i64 0) 8 rfl Try.underlying22 info2 rfl (by decide) (by omega) v220 t219 t213 _ _ _ (fun k_ => some k_ ≠ (.slice Ao22 t213.length co22 : Value).ownBlock ∧ some k_ ≠ (v217 : Value).ownBlock) (fun _ => False) rfl rfl ?aO ?aR (fun _ _ h => h) (fun _ h => h.elim) ?aF (Below.refl _ _) ?aS ?aL ?_; (case aR => repeat (first | exact (rR HO216.out).2.2 | (with_reducible refine cA ?_ _) | (with_reducible refine cN ?_ _) | (with_reducible refine cD ?_))); (case aF => exact (fun k_ hk => ⟨Kd.fresh' (rT (by (with_reducible repeat (first | apply rA | apply rN | apply rD)); exact HO216.out)) k_ hk, Kd.fresh' (rT (by (with_reducible repeat (first | apply rA | apply rN | apply rD)); exact HO218.out)) k_ hk⟩)); (case aO => exact (by (with_reducible repeat (first | apply rA | apply rN | apply rD)); exact rM HO221.out (fun _ hk => ⟨hk.1.2, hk.2⟩))); (case aS => exact (keep_size (w := w) (g := g) (row := none) (by repeat (first | (with_reducible first | exact HK.out | apply KeepBut.set_ | apply keep_drewN | apply keep_drew | apply keep_alloc | refine keep_far ?_ GW211.out _) | exact HK.out)))); (case aL => have := LMc8.out; omega); intro v223 w21 ho hb hg hat; rw [← Ny222.out] at ho; have n0_ := aM (IsS48.grown (by repeat (first | (with_reducible first | exact HI0.out | apply IsS48.alloc | apply IsS48.drewN | apply IsS48.drew | apply IsS48.set_0 | refine IsS48.far ?_ NB0_211.out _) | exact HI0.out)) hg (IsS48.own_ne HI0.out HO221.out (by decide))); have n1_ := aM (blk_grown (g := gb211) (o := .cells #[.int .i64 0, .slice none 0 0, .slice none 0 0] 48 (0, 0)) (by (with_reducible repeat (first | refine kN ?_ _ | refine kD ?_ | refine kA ?_ _)); exact BK211.out) hg (Kd.R_ne HO221.out BK211.out (by decide))); have n2_ := aM (Kd.R_after (ok := (fun k_ => some k_ ≠ (v217 : Value).ownBlock)) (by (with_reducible repeat (first | apply rA | apply rN | apply rD)); exact HO216.out) hg hat); have n3_ := aM (Kd.R_after (ok := (fun k_ => some k_ ≠ (.slice Ao22 t213.length co22 : Value).ownBlock)) (by (with_reducible repeat (first | apply rA | apply rN | apply rD)); exact HO218.out) hg hat); have n4_ := aM (below_weaken (by repeat (first | (with_reducible first | exact HB.out | apply bA | apply bN | apply bD | refine bS ?_ (IsS48.ge HI0.out) | refine bS ?_ GE211.out) | exact HB.out)) HL.out hb); have n5_ := aM (KeepBut.trans (by repeat (first | (with_reducible first | exact HK.out | apply KeepBut.set_ | apply keep_drewN | apply keep_drew | apply keep_alloc | refine keep_far ?_ GW211.out _) | exact HK.out)) (KeepBut.of_grown hg g) (Kd.R_base2 HO221.out)); have n6_ := aM (ho); clear HI0 BK211 HO216 HO218 HB HK HO221; have HI0 := n0_; have BK211 := n1_; have HO216 := n2_; have HO218 := n3_; have HB := n4_; have HK := n5_; have HO224 := n6_; clear n0_ n1_ n2_ n3_ n4_ n5_ n6_ ho hb hg hat))
    have n0_ := aM (rD HO216.out)
    have n1_ := aM (rD HO218.out)
    have n2_ := aM (rD HO224.out)
    have n3_ := aM (kD BK211.out)
    have n4_ := aM (IsS48.drew HI0.out)
    have n5_ := aM (keep_drew HK.out)
    have n6_ := aM (bD HB.out)
    clear HO216
    clear HO218
    clear HO224
    clear BK211
    clear HI0
    clear HK
    clear HB
    have HO216 := n0_
    have HO218 := n1_
    have HO224 := n2_
    have BK211 := n3_
    have HI0 := n4_
    have HK := n5_
    have HB := n6_
    clear n0_ n1_ n2_ n3_ n4_ n5_ n6_
    obtain ⟨i024, hi024, _, hsz24, _⟩ := info_parts info2
    obtain ⟨A24, hcut24, hA24, hC24⟩ := print_drop_of (P := Try.prog) (Value.int .i64) 0 22 2 .i64 Try.underlying22 hi024 hsz24 A1 c1 l1 (ji3) (of_decide_eq_true (by first | (with_reducible assumption) | assumption)) (of_decide_eq_true (by first | (with_reducible assumption) | assumption)) HC1.out
    have HR225 := aM (Kd.C_of_reads (h1 := fun _ => rfl) (hA24 _ (Kd.reads_of_C HR1.out)))
    have HC225 := aM hC24
    have hf225 : ∀ ad : Addr, A24 = some ad → 0 < (l1.drop ((ji3) : Int).toNat).length → ad.block ≠ g := fun ad he h_ => by cases he; exact Kd.foot_ne (fun W_ hk_ => Kd.C_of_reads (h1 := fun _ => rfl) (hA24 _ (Kd.reads_of_C (Kd.C_foot_ne (fun h => h) HR1.out hf1 W_ hk_)))) h_ (by decide)
    clear hA24 hC24 hi024 hsz24
    refine start_ (n := 14) (S := fun w' => w'.cell? ⟨g, 0, none⟩ = some (.int .i64 s0_0)) (ds := []) #[N,N,N,N,N,N,N,N,N,N,N,N,N,N] (by kernel_rfl) rfl rfl ((by obtain ⟨_, _, _, _, HG_, _⟩ := HI0.out; exact cellS48_0 HG_)) (fun hHeld => ?_); refine with_tabW spec_l7Feed.tab4 spec_l7Feed.bits4 (fun HT_ HW_ => ?_)
    generalize w21.drew = w23 at HO216 HO218 HO224 BK211 HI0 HK HB HR225 hHeld ⊢
    refine pure_ (i := 0) (N := some 37) (v := ?_) (a' := ?_) #[Y,N,N,N,N,N,N,N,N,N,N,N,N,N] rfl rfl (any_of HT_.out (by kernel_rfl)) (fun _ _ _ h => h) (Or.inl ⟨by rfl, ?_⟩) ?_ ?_
    rotate_left
    ·intro w'
     go_simp
     with_reducible rfl
    rotate_left
    ·simp only [Act.put, pa, pb, pc, i64_w, i32_w]
     rfl
    refine pure_ (i := 1) (N := some 38) (v := ?_) (a' := ?_) #[Y,Y,N,N,N,N,N,N,N,N,N,N,N,N] rfl rfl (any_of HT_.out (by kernel_rfl)) (fun _ _ _ h => h) (Or.inl ⟨by rfl, ?_⟩) ?_ ?_
    rotate_left
    ·intro w'
     go_simp
     with_reducible rfl
    rotate_left
    ·simp only [Act.put, pa, pb, pc, i64_w, i32_w]
     rfl
    refine pure_ (i := 2) (N := some 39) (v := ?_) (a' := ?_) #[Y,Y,Y,N,N,N,N,N,N,N,N,N,N,N] rfl rfl (any_of HT_.out (by kernel_rfl)) (fun _ _ _ h => h) (Or.inl ⟨by rfl, ?_⟩) ?_ ?_
    rotate_left
    ·intro w'
     go_simp
     with_reducible rfl
    rotate_left
    ·simp only [Act.put, pa, pb, pc, i64_w, i32_w]
     rfl
    refine pure_ (i := 4) (N := some 41) (v := ?_) (a' := ?_) #[Y,Y,Y,N,Y,N,N,N,N,N,N,N,N,N] rfl rfl (any_of HT_.out (by kernel_rfl)) (fun _ _ _ h => h) (Or.inl ⟨by rfl, ?_⟩) ?_ ?_
    rotate_left
    ·intro w'
     go_simp
     with_reducible rfl
    rotate_left
    ·simp only [Act.put, pa, pb, pc, i64_w, i32_w]
     rfl
    refine pure_ (i := 5) (N := some 42) (v := ?_) (a' := ?_) #[Y,Y,Y,N,Y,Y,N,N,N,N,N,N,N,N] rfl rfl (any_of HT_.out (by kernel_rfl)) (fun _ _ _ h => h) (Or.inl ⟨by rfl, ?_⟩) ?_ ?_
    rotate_left
    ·intro w'
     go_simp
     with_reducible rfl
    rotate_left
    ·simp only [Act.put, pa, pb, pc, i64_w, i32_w]
     rfl
    refine pure_ (i := 6) (N := some 43) (v := ?_) (a' := ?_) #[Y,Y,Y,N,Y,Y,Y,N,N,N,N,N,N,N] rfl rfl (any_of HT_.out (by kernel_rfl)) (fun _ _ _ h => h) (Or.inl ⟨by rfl, ?_⟩) ?_ ?_
    rotate_left
    ·intro w'
     go_simp
     with_reducible rfl
    rotate_left
    ·simp only [Act.put, pa, pb, pc, i64_w, i32_w]
     rfl
    refine pure_ (i := 7) (N := some 44) (v := ?_) (a' := ?_) #[Y,Y,Y,N,Y,Y,Y,Y,N,N,N,N,N,N] rfl rfl (any_of HT_.out (by kernel_rfl)) (fun _ _ _ h => h) (Or.inl ⟨by rfl, ?_⟩) ?_ ?_
    rotate_left
    ·intro w'
     go_simp
     with_reducible rfl
    rotate_left
    ·simp only [Act.put, pa, pb, pc, i64_w, i32_w]
     rfl
    refine pure_ (i := 10) (N := some 47) (v := ?_) (a' := ?_) #[Y,Y,Y,N,Y,Y,Y,Y,N,N,Y,N,N,N] rfl rfl (any_of HT_.out (by kernel_rfl)) (fun _ _ _ h => h) (Or.inl ⟨by rfl, ?_⟩) ?_ ?_
    rotate_left
    ·intro w'
     go_simp
     with_reducible rfl
    rotate_left
    ·simp only [Act.put, pa, pb, pc, i64_w, i32_w]
     rfl
    refine take_ (i := 3) (N := some 40) (v := ?_) (a' := ?_) #[Y,Y,Y,Y,Y,Y,Y,Y,N,N,Y,N,N,N] rfl rfl (take_ofW HT_.out HW_.out (by kernel_rfl)) (fun _ _ _ h => h) (Or.inl ⟨by rfl, ?_⟩) hHeld ?_ ?_
    rotate_left
    ·intro w' s0
     go_simp
     with_reducible rfl
    rotate_left
    ·simp only [Act.put, pa, pb, pc, i64_w, i32_w]
     rfl
    refine one_ (i := 8) (N := some 45) #[Y,Y,Y,Y,Y,Y,Y,Y,Y,N,Y,N,N,N] rfl rfl (one_of HT_.out (by kernel_rfl)) (by decide) (fun K hK => ?_)
    refine goes_ Try.func114 (by kernel_rfl) rfl #[.slice A24 (l1.drop ((ji3) : Int).toNat).length (c1 - (ji3).toNat)] (by rfl) rfl rfl (by (try simp only [List.map_toArray, List.map_cons, List.map_nil]); first | done | (rw [show (l1.drop ((ji3) : Int).toNat).length = (l1.length - (ji3).toNat) from List.length_drop] <;> rfl) | (simp only [hji3]; rfl) | rfl | (simp only [List.length_drop, List.length_take]; rfl)) ?_
    with_reducible refine (spec_l1Ints.calls _ _ (l1.drop ((ji3) : Int).toNat) t226 _ ?side1 ?side2 A11.out).mono ?_
    (case side1 => exact Kd.C_keep 0 HR225.out (by repeat (first | (with_reducible first | exact HK.out | apply KeepBut.set_ | apply keep_drewN | apply keep_drew | apply keep_alloc | refine keep_far ?_ GW211.out _) | exact HK.out)) hf225)
    (case side2 => exact HC225.out)
    rintro e w25 ⟨v227, rfl, ho0, hb⟩
    refine ⟨_, rfl, ?_⟩
    have n0_ := aM (rH (by (with_reducible repeat (first | apply rA | apply rN | apply rD)); exact HO216.out) (rB ho0) hb)
    have n1_ := aM (rH (by (with_reducible repeat (first | apply rA | apply rN | apply rD)); exact HO218.out) (rB ho0) hb)
    have n2_ := aM (rH (by (with_reducible repeat (first | apply rA | apply rN | apply rD)); exact HO224.out) (rB ho0) hb)
    have n3_ := aM (rG (rW (rW (rW ho0 (rT (by (with_reducible repeat (first | apply rA | apply rN | apply rD)); exact HO216.out))) (rT (by (with_reducible repeat (first | apply rA | apply rN | apply rD)); exact HO218.out))) (rT (by (with_reducible repeat (first | apply rA | apply rN | apply rD)); exact HO224.out))) (keep_size (w := w) (g := g) (row := none) (by repeat (first | (with_reducible first | exact HK.out | apply KeepBut.set_ | apply keep_drewN | apply keep_drew | apply keep_alloc | refine keep_far ?_ GW211.out _) | exact HK.out))))
    have n4_ := aM (IsS48.below (by repeat (first | (with_reducible first | exact HI0.out | apply IsS48.alloc | apply IsS48.drewN | apply IsS48.drew | apply IsS48.set_0 | refine IsS48.far ?_ NB0_211.out _) | exact HI0.out)) hb)
    have n5_ := aM (kB (g := gb211) (o := .cells #[.int .i64 0, .slice none 0 0, .slice none 0 0] 48 (0, 0)) (by (with_reducible repeat (first | refine kN ?_ _ | refine kD ?_ | refine kA ?_ _)); exact BK211.out) hb)
    have n6_ := aM (KeepBut.trans (by repeat (first | (with_reducible first | exact HK.out | apply KeepBut.set_ | apply keep_drewN | apply keep_drew | apply keep_alloc | refine keep_far ?_ GW211.out _) | exact HK.out)) (KeepBut.of_below hb g none) (.inl rfl))
    have n7_ := aM (bT (by repeat (first | (with_reducible first | exact HB.out | apply bA | apply bN | apply bD | refine bS ?_ (IsS48.ge HI0.out) | refine bS ?_ GE211.out) | exact HB.out)) hb)
    clear HO216
    clear HO218
    clear HO224
    clear HI0
    clear BK211
    clear HK
    clear HB
    have HO216 := n0_
    have HO218 := n1_
    have HO224 := n2_
    have HO228 := n3_
    have HI0 := n4_
    have BK211 := n5_
    have HK := n6_
    have HB := n7_
    clear n0_ n1_ n2_ n3_ n4_ n5_ n6_ n7_
    (try clear hb)
    (try clear hb2)
    (try clear hk)
    (try clear hi)
    (try clear ho0)
    obtain ⟨Ao26, co26, eo26⟩ := Kd.R_slice HO228.out
    (first | subst eo26 | (injection eo26 with f1_ f2_ f3_; have f4_ := f1_.symm; have f5_ := f3_.symm; clear f1_ f2_ f3_; subst f4_; subst f5_))
    obtain ⟨Ao27, co27, eo27⟩ := Kd.R_slice HO218.out
    (first | subst eo27 | (injection eo27 with f1_ f2_ f3_; have f4_ := f1_.symm; have f5_ := f3_.symm; clear f1_ f2_ f3_; subst f4_; subst f5_))
    obtain ⟨Ao28, co28, eo28⟩ := Kd.R_slice HO224.out
    (first | subst eo28 | (injection eo28 with f1_ f2_ f3_; have f4_ := f1_.symm; have f5_ := f3_.symm; clear f1_ f2_ f3_; subst f4_; subst f5_))
    refine hK.out _ _ ((by obtain ⟨_, _, _, _, HG_, _⟩ := HI0.out; exact cellS48_0 HG_)) (fun hHeld => ?_)
    clear hK K
    refine norm_ (a' := ?_) ?_ ?_
    rotate_left
    ·show Act.put _ (some 45) _ = _
     simp only [Act.put, pa, pb, pc, i64_w, i32_w]
     rfl
    refine pure_ (i := 9) (N := some 46) (v := ?_) (a' := ?_) #[Y,Y,Y,Y,Y,Y,Y,Y,Y,Y,Y,N,N,N] rfl rfl (any_of HT_.out (by kernel_rfl)) (fun _ _ _ h => h) (Or.inl ⟨by rfl, ?_⟩) ?_ ?_
    rotate_left
    ·intro w'
     go_simp
     with_reducible rfl
    rotate_left
    ·simp only [Act.put, pa, pb, pc, i64_w, i32_w]
     rfl
    refine one_ (i := 11) (N := some 48) #[Y,Y,Y,Y,Y,Y,Y,Y,Y,Y,Y,Y,N,N] rfl rfl (one_of HT_.out (by kernel_rfl)) (by decide) (fun K hK => ?_)
    refine goes_ Try.func119 (by kernel_rfl) rfl #[.slice Ao28 y222.length co28] (by rfl) rfl rfl (by first | rfl | (simp only [List.map_toArray, List.map_cons, List.map_nil]; rfl)) ?_
    with_reducible refine (spec_l6Spread.calls k _ _ y222 t229 _ ?side1 ?side2 A12.out).mono ?_
    (case side1 => repeat (first | exact (rR HO224.out).2.2 | (with_reducible refine cA ?_ _) | (with_reducible refine cN ?_ _) | (with_reducible refine cD ?_)))
    (case side2 => exact (rR HO224.out).2.1)
    rintro e w29 ⟨v230, rfl, ho0, hb⟩
    refine ⟨_, rfl, ?_⟩
    have n0_ := aM (rH (by (with_reducible repeat (first | apply rA | apply rN | apply rD)); exact HO216.out) (rB ho0) hb)
    have n1_ := aM (rH (by (with_reducible repeat (first | apply rA | apply rN | apply rD)); exact HO218.out) (rB ho0) hb)
    have n2_ := aM (rH (by (with_reducible repeat (first | apply rA | apply rN | apply rD)); exact HO224.out) (rB ho0) hb)
    have n3_ := aM (rH (by (with_reducible repeat (first | apply rA | apply rN | apply rD)); exact HO228.out) (rB ho0) hb)
    have n4_ := aM (rG (rW (rW (rW (rW ho0 (rT (by (with_reducible repeat (first | apply rA | apply rN | apply rD)); exact HO216.out))) (rT (by (with_reducible repeat (first | apply rA | apply rN | apply rD)); exact HO218.out))) (rT (by (with_reducible repeat (first | apply rA | apply rN | apply rD)); exact HO224.out))) (rT (by (with_reducible repeat (first | apply rA | apply rN | apply rD)); exact HO228.out))) (keep_size (w := w) (g := g) (row := none) (by repeat (first | (with_reducible first | exact HK.out | apply KeepBut.set_ | apply keep_drewN | apply keep_drew | apply keep_alloc | refine keep_far ?_ GW211.out _) | exact HK.out))))
    have n5_ := aM (IsS48.below (by repeat (first | (with_reducible first | exact HI0.out | apply IsS48.alloc | apply IsS48.drewN | apply IsS48.drew | apply IsS48.set_0 | refine IsS48.far ?_ NB0_211.out _) | exact HI0.out)) hb)
    have n6_ := aM (kB (g := gb211) (o := .cells #[.int .i64 0, .slice none 0 0, .slice none 0 0] 48 (0, 0)) (by (with_reducible repeat (first | refine kN ?_ _ | refine kD ?_ | refine kA ?_ _)); exact BK211.out) hb)
    have n7_ := aM (KeepBut.trans (by repeat (first | (with_reducible first | exact HK.out | apply KeepBut.set_ | apply keep_drewN | apply keep_drew | apply keep_alloc | refine keep_far ?_ GW211.out _) | exact HK.out)) (KeepBut.of_below hb g none) (.inl rfl))
    have n8_ := aM (bT (by repeat (first | (with_reducible first | exact HB.out | apply bA | apply bN | apply bD | refine bS ?_ (IsS48.ge HI0.out) | refine bS ?_ GE211.out) | exact HB.out)) hb)
    clear HO216
    clear HO218
    clear HO224
    clear HO228
    clear HI0
    clear BK211
    clear HK
    clear HB
    have HO216 := n0_
    have HO218 := n1_
    have HO224 := n2_
    have HO228 := n3_
    have HO231 := n4_
    have HI0 := n5_
    have BK211 := n6_
    have HK := n7_
    have HB := n8_
    clear n0_ n1_ n2_ n3_ n4_ n5_ n6_ n7_ n8_
    (try clear hb)
    (try clear hb2)
    (try clear hk)
    (try clear hi)
    (try clear ho0)
    refine hK.out _ _ ((by obtain ⟨_, _, _, _, HG_, _⟩ := HI0.out; exact cellS48_0 HG_)) (fun hHeld => ?_)
    clear hK K
    refine norm_ (a' := ?_) ?_ ?_
    rotate_left
    ·show Act.put _ (some 48) _ = _
     simp only [Act.put, pa, pb, pc, i64_w, i32_w]
     rfl
    refine one_ (i := 12) (N := none) #[Y,Y,Y,Y,Y,Y,Y,Y,Y,Y,Y,Y,Y,N] rfl rfl (one_of HT_.out (by kernel_rfl)) (by decide) (fun K hK => ?_)
    have hs30 : w29.cell? ⟨gb211, 0, none⟩ = some (.int .i64 0) := (kC BK211.out 0).trans rfl
    have hfs30 := kF BK211.out 0
    have hs31 : w29.cell? ⟨gb211, 1, none⟩ = some (.slice none 0 0) := (kC BK211.out 1).trans rfl
    have hfs31 := kF BK211.out 1
    have hs32 : w29.cell? ⟨gb211, 2, none⟩ = some (.slice none 0 0) := (kC BK211.out 2).trans rfl
    have hfs32 := kF BK211.out 2
    refine skip_ (w1 := ?_) (by rfl) rfl ?_ ?_
    rotate_left
    ·go_simp
     rfl
    refine hK.out _ _ (((cell_far (p := ⟨gb211, _, none⟩) NB0_211.out _).trans (((cell_far (p := ⟨gb211, _, none⟩) NB0_211.out _).trans (((cell_far (p := ⟨gb211, _, none⟩) NB0_211.out _).trans (hHeld))))))) (fun hHeld => ?_)
    clear hK K
    refine pure_ (i := 13) (N := some 5) (v := ?_) (a' := ?_) #[Y,Y,Y,Y,Y,Y,Y,Y,Y,Y,Y,Y,Y,Y] rfl rfl (any_of HT_.out (by kernel_rfl)) (fun _ _ _ h => h) (Or.inl ⟨by rfl, ?_⟩) ?_ ?_
    rotate_left
    ·intro w'
     go_simp
     with_reducible rfl
    rotate_left
    ·simp only [Act.put, pa, pb, pc, i64_w, i32_w]
     rfl
    refine done_ (done_of HT_.out (by kernel_rfl)) ?_
    try go_wp2
    refine bodyPost_ret (results_ct rfl _ _ gb211 48 #[.int .i64 s0_0, .slice Ao27 t214.length co27, .slice Ao26 t226.length co26] (0, 0) _ rfl (by (with_reducible repeat (first | refine kN ?_ _ | refine kD ?_ | refine kA ?_ _)); refine blk_put (cs := #[.int .i64 s0_0, .slice Ao27 t214.length co27, .slice none 0 0]) ?_ 2 _ rfl; (with_reducible repeat (first | refine kN ?_ _ | refine kD ?_ | refine kA ?_ _)); refine blk_put (cs := #[.int .i64 s0_0, .slice none 0 0, .slice none 0 0]) ?_ 1 _ rfl; (with_reducible repeat (first | refine kN ?_ _ | refine kD ?_ | refine kA ?_ _)); refine blk_put (cs := #[.int .i64 0, .slice none 0 0, .slice none 0 0]) ?_ 0 _ rfl; (with_reducible repeat (first | refine kN ?_ _ | refine kD ?_ | refine kA ?_ _)); exact BK211.out) Try.underlying48 rfl (by kernel_rfl)) rfl ?_
    exact ⟨_, _, _, by first | rfl | (simp [errW_none, errW_some] <;> rfl) | (simp only [← hji3]; first | rfl | (simp [errW_none, errW_some] <;> rfl)) | (simp [*, errW_none, errW_some] <;> rfl), by (with_reducible repeat (first | apply rA | apply rN | apply rD)); exact rM (rF (p := ⟨gb211, 2, none⟩) (rF (p := ⟨gb211, 1, none⟩) (rF (p := ⟨gb211, 0, none⟩) (Kd.R_types HO218.out BK211.out (by decide)) (fun _ hk => hk.2) (.int .i64 s0_0)) (fun _ hk => hk.2) (.slice Ao27 t214.length co27)) (fun _ hk => hk.2) (.slice Ao26 t226.length co26)) (fun _ hk => ⟨hk.1.1.2, hk.1.2⟩), by (with_reducible repeat (first | apply rA | apply rN | apply rD)); exact rM (rF (p := ⟨gb211, 2, none⟩) (rF (p := ⟨gb211, 1, none⟩) (rF (p := ⟨gb211, 0, none⟩) (Kd.R_types HO228.out BK211.out (by decide)) (fun _ hk => hk.2) (.int .i64 s0_0)) (fun _ hk => hk.2) (.slice Ao27 t214.length co27)) (fun _ hk => hk.2) (.slice Ao26 t226.length co26)) (fun _ hk => ⟨hk.1.1.1.2, hk.1.2⟩), by (with_reducible repeat (first | apply rA | apply rN | apply rD)); exact rM (rF (p := ⟨gb211, 2, none⟩) (rF (p := ⟨gb211, 1, none⟩) (rF (p := ⟨gb211, 0, none⟩) (Kd.R_types HO231.out BK211.out (by decide)) (fun _ hk => hk.2) (.int .i64 s0_0)) (fun _ hk => hk.2) (.slice Ao27 t214.length co27)) (fun _ hk => hk.2) (.slice Ao26 t226.length co26)) (fun _ hk => ⟨hk.1.1.1.2, hk.1.2⟩), by repeat (first | (with_reducible first | exact HI0.out | apply IsS48.alloc | apply IsS48.drewN | apply IsS48.drew | apply IsS48.set_0 | refine IsS48.far ?_ NB0_211.out _) | exact HI0.out), by repeat (first | (with_reducible first | exact HB.out | apply bA | apply bN | apply bD | refine bS ?_ (IsS48.ge HI0.out) | refine bS ?_ GE211.out) | exact HB.out), by repeat (first | (with_reducible first | exact HK.out | apply KeepBut.set_ | apply keep_drewN | apply keep_drew | apply keep_alloc | refine keep_far ?_ GW211.out _) | exact HK.out)⟩
   ·rw [if_neg c8] at H
    exact absurd H (by simp)
  ·rw [if_neg c5] at H
   exact absurd H (by simp)
 ·rw [if_neg c4] at H
  exact absurd H (by simp)

/-! ### spec_FeedFrame: function 27 -/
def spec_FeedFrame.f (k : Nat) (a0_0 : Int) (l0_1 : List Int) (l0_2 : List Int) (l1 : List Int) : Option (Int × Int × List Int × List Int × List Int) := (spec_LapFault.f k a0_0 l0_1 l0_2).bind fun t234 => (if t234 = 0 then ((spec_SamplesFault.f k a0_0 l1).bind fun t235 => (if t235 = 0 then ((spec_l7Feed.f k a0_0 l0_1 l0_2 l1).bind fun bt236 => (some (0, bt236.1, bt236.2.1, bt236.2.2.1, bt236.2.2.2.1))) else (some (t235, 0, ([] : List Int), ([] : List Int), ([] : List Int))))) else (some (t234, 0, ([] : List Int), ([] : List Int), ([] : List Int))))
theorem spec_FeedFrame.mono : ∀ a0 a1 a2 a3 k, LeO (spec_FeedFrame.f k a0 a1 a2 a3) (spec_FeedFrame.f (k + 1) a0 a1 a2 a3) := by
 intro a0 a1 a2 a3 k
 unfold spec_FeedFrame.f
 repeat' first
   | (with_reducible exact spec_LapFault.mono _ _ _ _)
   | (with_reducible exact spec_SamplesFault.mono _ _ _)
   | (with_reducible exact spec_l7Feed.mono _ _ _ _ _)
   | (with_reducible exact LeO.refl _)
   | (with_reducible exact LeO.none _)
   | (with_reducible refine LeO.ite ?_ ?_)
   | (with_reducible refine LeO.bind ?_ (fun _ => ?_))
   | exact spec_LapFault.mono _ _ _ _
   | exact spec_SamplesFault.mono _ _ _
   | exact spec_l7Feed.mono _ _ _ _ _
   | exact LeO.none _
   | refine LeO.ite ?_ ?_
   | refine LeO.bind ?_ (fun _ => ?_)
set_option maxHeartbeats 8000000 in
set_option maxRecDepth 100000 in
theorem spec_FeedFrame.calls (k : Nat) (a0_0 : Int) (A0_1 : Option Addr) (c0_1 : Nat) (l0_1 : List Int) (A0_2 : Option Addr) (c0_2 : Nat) (l0_2 : List Int) (A1 : Option Addr) (c1 : Nat) (l1 : List Int) (r1 : Int) (r2 : Int) (r3 : List Int) (r4 : List Int) (r5 : List Int) (w : World) (hr0_1 : Kd.C (Kd.int .i64) w A0_1 l0_1.length l0_1) (hc0_1 : l0_1.length ≤ c0_1) (hr0_2 : Kd.C (Kd.int .i64) w A0_2 l0_2.length l0_2) (hc0_2 : l0_2.length ≤ c0_2) (hr1 : Kd.C (Kd.int .i64) w A1 l1.length l1) (hc1 : l1.length ≤ c1) (h : spec_FeedFrame.f k a0_0 l0_1 l0_2 l1 = some (r1, r2, r3, r4, r5)) :
  Calls Try.prog 27 #[.agg #[.int .i64 a0_0, .slice A0_1 l0_1.length c0_1, .slice A0_2 l0_2.length c0_2], .slice A1 l1.length c1] w fun e w' => ∃ v2_ v3_ v4_ : Value, e = .returned (.agg #[.int .i64 r1, .int .i64 r2, v2_, v3_, v4_]) ∧ Kd.R (Kd.int .i64) 2 w' w.heap.size (fun k_ => some k_ ≠ (v3_ : Value).ownBlock ∧ some k_ ≠ (v4_ : Value).ownBlock) v2_ r3 ∧ Kd.R (Kd.int .i64) 2 w' w.heap.size (fun k_ => some k_ ≠ (v2_ : Value).ownBlock ∧ some k_ ≠ (v4_ : Value).ownBlock) v3_ r4 ∧ Kd.R (Kd.int .i64) 2 w' w.heap.size (fun k_ => some k_ ≠ (v2_ : Value).ownBlock ∧ some k_ ≠ (v3_ : Value).ownBlock) v4_ r5 ∧ Below w.heap.size w w' := by
 have hu48 := Try.underlying48
 have hu50 := Try.underlying50
 have HR0_1 := aM hr0_1
 have HC0_1 := aM hc0_1
 clear hr0_1 hc0_1
 have HR0_2 := aM hr0_2
 have HC0_2 := aM hc0_2
 clear hr0_2 hc0_2
 have HR1 := aM hr1
 have HC1 := aM hc1
 clear hr1 hc1
 have HB := aM (Below.refl w.heap.size w)
 have H : ((spec_LapFault.f k a0_0 l0_1 l0_2).bind fun t234 => (if t234 = 0 then ((spec_SamplesFault.f k a0_0 l1).bind fun t235 => (if t235 = 0 then ((spec_l7Feed.f k a0_0 l0_1 l0_2 l1).bind fun bt236 => (some (0, bt236.1, bt236.2.1, bt236.2.2.1, bt236.2.2.2.1))) else (some (t235, 0, ([] : List Int), ([] : List Int), ([] : List Int))))) else (some (t234, 0, ([] : List Int), ([] : List Int), ([] : List Int))))) = some (r1, r2, r3, r4, r5) := h
 clear h
 replace H := Option.bind_eq_some_iff.mp H
 obtain ⟨t234, A30, H⟩ := H
 replace H : (if t234 = 0 then ((spec_SamplesFault.f k a0_0 l1).bind fun t235 => (if t235 = 0 then ((spec_l7Feed.f k a0_0 l0_1 l0_2 l1).bind fun bt236 => (some (0, bt236.1, bt236.2.1, bt236.2.2.1, bt236.2.2.2.1))) else (some (t235, 0, ([] : List Int), ([] : List Int), ([] : List Int))))) else (some (t234, 0, ([] : List Int), ([] : List Int), ([] : List Int)))) = some (r1, r2, r3, r4, r5) := H
 have A3 := aM A30
 clear A30
 by_cases c4 : t234 = 0
 ·rw [if_pos c4] at H
  have c4b0 : (t234 == 0) = true := beq_iff_eq.mpr c4
  have c4b1 : (t234 != 0) = false := bne_eq_false_iff_eq.mpr c4
  clear c4
  replace H := Option.bind_eq_some_iff.mp H
  obtain ⟨t235, A50, H⟩ := H
  replace H : (if t235 = 0 then ((spec_l7Feed.f k a0_0 l0_1 l0_2 l1).bind fun bt236 => (some (0, bt236.1, bt236.2.1, bt236.2.2.1, bt236.2.2.2.1))) else (some (t235, 0, ([] : List Int), ([] : List Int), ([] : List Int)))) = some (r1, r2, r3, r4, r5) := H
  have A5 := aM A50
  clear A50
  by_cases c6 : t235 = 0
  ·rw [if_pos c6] at H
   have c6b0 : (t235 == 0) = true := beq_iff_eq.mpr c6
   have c6b1 : (t235 != 0) = false := bne_eq_false_iff_eq.mpr c6
   clear c6
   replace H := Option.bind_eq_some_iff.mp H
   obtain ⟨⟨t236, t237, t240, t243, t246⟩, A70, H⟩ := H
   replace H : (some (0, t236, t237, t240, t243)) = some (r1, r2, r3, r4, r5) := H
   have A7 := aM A70
   clear A70
   simp only [Option.some.injEq, Prod.mk.injEq] at H
   obtain ⟨rfl, rfl, rfl, rfl, rfl⟩ := H
   go_enter Try.func27, Try.ntmps27
   go_wp2_with (first | ((with_reducible refine gate_dst (N := 2) rfl ?_); refine box_event ?hg (N := 2) ?hd (cs := #[.int .i64 a0_0, .slice A0_1 l0_1.length c0_1, .slice A0_2 l0_2.length c0_2]) (t := 48) ?hr ?_; (case hd => rfl); (case hg => rfl); (case hr => first | (go_simp; done) | (go_simp; rfl)); intro gb232 hg w8 hbox hb; have n0_ := aM (bT (by repeat (first | exact HB.out | apply bA | apply bN | apply bD)) hb); have n1_ := aM (hbox); have n2_ := aM ((by rw [hg]; exact (bZ (by repeat (first | exact HB.out | apply bA | apply bN | apply bD))) : w.heap.size ≤ gb232)); have n3_ := aM ((by rw [hg]; exact (bZ (by repeat (first | exact HB.out | apply bA | apply bN | apply bD))) : w.heap.size ≤ gb232)); clear HB; have HB := n0_; have BK232 := n1_; have GW232 := n2_; have GE232 := n3_; clear n0_ n1_ n2_ n3_ hb hbox hg) | ((with_reducible refine gate_dst (N := 4) rfl ?_); refine box_event ?hg (N := 4) ?hd (cs := #[.int .i64 0, .int .i64 0, .slice none 0 0, .slice none 0 0, .slice none 0 0]) (t := 50) ?hr ?_; (case hd => rfl); (case hg => rfl); (case hr => first | (go_simp; done) | (go_simp; rfl)); intro gb233 hg w9 hbox hb; have n0_ := aM (kB (g := gb232) (o := .cells #[.int .i64 a0_0, .slice A0_1 l0_1.length c0_1, .slice A0_2 l0_2.length c0_2] 48 (0, 0)) (by (with_reducible repeat (first | refine kN ?_ _ | refine kD ?_ | refine kA ?_ _)); exact BK232.out) hb); have n1_ := aM (bT (by repeat (first | (with_reducible first | exact HB.out | apply bA | apply bN | apply bD | refine bS ?_ GE232.out) | exact HB.out)) hb); have n2_ := aM (hbox); have n3_ := aM ((by rw [hg]; exact (bZ (by repeat (first | (with_reducible first | exact HB.out | apply bA | apply bN | apply bD | refine bS ?_ GE232.out) | exact HB.out))) : w.heap.size ≤ gb233)); have n4_ := aM ((by rw [hg]; exact (bZ (by repeat (first | (with_reducible first | exact HB.out | apply bA | apply bN | apply bD | refine bS ?_ GE232.out) | exact HB.out))) : w.heap.size ≤ gb233)); have n5_ := aM ((by rw [hg]; exact Nat.ne_of_lt (blk_lt (g := gb232) (o := .cells #[.int .i64 a0_0, .slice A0_1 l0_1.length c0_1, .slice A0_2 l0_2.length c0_2] 48 (0, 0)) (by (with_reducible repeat (first | refine kN ?_ _ | refine kD ?_ | refine kA ?_ _)); exact BK232.out)) : gb232 ≠ gb233)); have n6_ := aM ((by rw [hg]; exact Nat.ne_of_gt (blk_lt (g := gb232) (o := .cells #[.int .i64 a0_0, .slice A0_1 l0_1.length c0_1, .slice A0_2 l0_2.length c0_2] 48 (0, 0)) (by (with_reducible repeat (first | refine kN ?_ _ | refine kD ?_ | refine kA ?_ _)); exact BK232.out)) : gb233 ≠ gb232)); clear BK232 HB; have BK232 := n0_; have HB := n1_; have BK233 := n2_; have GW233 := n3_; have GE233 := n4_; have NB232_233 := n5_; have NB233_232 := n6_; clear n0_ n1_ n2_ n3_ n4_ n5_ n6_ hb hbox hg; have hnb10 := NB232_233.out; have hnc10 := NB233_232.out; have hcz11_0 : w9.cell? ⟨gb232, 0, none⟩ = some (.int .i64 a0_0) := (kC BK232.out 0).trans rfl; have hcz11_1 : w9.cell? ⟨gb232, 1, none⟩ = some (.slice A0_1 l0_1.length c0_1) := (kC BK232.out 1).trans rfl; have hcz11_2 : w9.cell? ⟨gb232, 2, none⟩ = some (.slice A0_2 l0_2.length c0_2) := (kC BK232.out 2).trans rfl; have hfz11_0 := kF BK232.out 0; have hfz11_1 := kF BK232.out 1; have hfz11_2 := kF BK232.out 2) | ((with_reducible refine gate_callee (f := 73) rfl ?_); refine goesL_ (some 10) rfl rfl Try.func73 (by kernel_rfl) rfl #[.agg #[.int .i64 a0_0, .slice A0_1 l0_1.length c0_1, .slice A0_2 l0_2.length c0_2]] rfl (by first | rfl | (simp only [List.map_toArray, List.map_cons, List.map_nil]; rfl)) ?_; (with_reducible refine (spec_LapFault.calls k a0_0 _ _ l0_1 _ _ l0_2 t234 _ ?side1 ?side2 ?side3 ?side4 A3.out).mono ?_); (case side1 => repeat (first | exact (cB HR0_1.out HB.out) | (with_reducible refine cA ?_ _) | (with_reducible refine cN ?_ _) | (with_reducible refine cD ?_))); (case side2 => exact HC0_1.out); (case side3 => repeat (first | exact (cB HR0_2.out HB.out) | (with_reducible refine cA ?_ _) | (with_reducible refine cN ?_ _) | (with_reducible refine cD ?_))); (case side4 => exact HC0_2.out); rintro e w12 ⟨rfl, hb⟩; refine ⟨_, rfl, ?_⟩; have n0_ := aM (kB (g := gb232) (o := .cells #[.int .i64 a0_0, .slice A0_1 l0_1.length c0_1, .slice A0_2 l0_2.length c0_2] 48 (0, 0)) (by (with_reducible repeat (first | refine kN ?_ _ | refine kD ?_ | refine kA ?_ _)); exact BK232.out) hb); have n1_ := aM (kB (g := gb233) (o := .cells #[.int .i64 0, .int .i64 0, .slice none 0 0, .slice none 0 0, .slice none 0 0] 50 (0, 0)) (by (with_reducible repeat (first | refine kN ?_ _ | refine kD ?_ | refine kA ?_ _)); exact BK233.out) hb); have n2_ := aM (bT (by repeat (first | (with_reducible first | exact HB.out | apply bA | apply bN | apply bD | refine bS ?_ GE232.out | refine bS ?_ GE233.out) | exact HB.out)) hb); clear BK232 BK233 HB; have BK232 := n0_; have BK233 := n1_; have HB := n2_; clear n0_ n1_ n2_; (try clear hb); have hcz13_0 : w12.cell? ⟨gb232, 0, none⟩ = some (.int .i64 a0_0) := (kC BK232.out 0).trans rfl; have hcz13_1 : w12.cell? ⟨gb232, 1, none⟩ = some (.slice A0_1 l0_1.length c0_1) := (kC BK232.out 1).trans rfl; have hcz13_2 : w12.cell? ⟨gb232, 2, none⟩ = some (.slice A0_2 l0_2.length c0_2) := (kC BK232.out 2).trans rfl; have hfz13_0 := kF BK232.out 0; have hfz13_1 := kF BK232.out 1; have hfz13_2 := kF BK232.out 2) | ((with_reducible refine gate_callee (f := 74) rfl ?_); refine goesL_ (some 18) rfl rfl Try.func74 (by kernel_rfl) rfl #[.int .i64 a0_0, .slice A1 l1.length c1] rfl (by first | rfl | (simp only [List.map_toArray, List.map_cons, List.map_nil]; rfl)) ?_; (with_reducible refine (spec_SamplesFault.calls k a0_0 _ _ l1 t235 _ ?side1 ?side2 A5.out).mono ?_); (case side1 => repeat (first | exact (cB HR1.out HB.out) | (with_reducible refine cA ?_ _) | (with_reducible refine cN ?_ _) | (with_reducible refine cD ?_))); (case side2 => exact HC1.out); rintro e w' ⟨rfl, ⟨nd, rfl⟩⟩; refine ⟨_, rfl, ?_⟩; (try (rw [drewN_self w12]; generalize hq_ : World.drewN w12 _ = w12; have n0_ : Aside0 (w12.heap[gb232]? = some (.cells #[.int .i64 a0_0, .slice A0_1 l0_1.length c0_1, .slice A0_2 l0_2.length c0_2] 48 (0, 0))) := ⟨by rw [← hq_]; exact (by (with_reducible repeat (first | refine kN ?_ _ | refine kD ?_ | refine kA ?_ _)); exact BK232.out)⟩; have n1_ : Aside0 (w12.heap[gb233]? = some (.cells #[.int .i64 0, .int .i64 0, .slice none 0 0, .slice none 0 0, .slice none 0 0] 50 (0, 0))) := ⟨by rw [← hq_]; exact (by (with_reducible repeat (first | refine kN ?_ _ | refine kD ?_ | refine kA ?_ _)); exact BK233.out)⟩; have n2_ : Aside0 (Below w.heap.size w w12) := ⟨by rw [← hq_]; exact (by repeat (first | (with_reducible first | exact HB.out | apply bA | apply bN | apply bD | refine bS ?_ GE232.out | refine bS ?_ GE233.out) | exact HB.out))⟩; clear BK232 BK233 HB hq_; have BK232 := n0_; have BK233 := n1_; have HB := n2_; clear n0_ n1_ n2_)); have HI232 := aM (show IsS48 w w12 gb232 a0_0 l0_1 l0_2 from ⟨_, _, _, _, by (with_reducible repeat (first | refine kN ?_ _ | refine kD ?_ | refine kA ?_ _)); exact BK232.out, GE232.out, HR0_1.out, HR0_2.out, HC0_1.out, HC0_2.out⟩)) | ((with_reducible refine gate_callee (f := 75) rfl ?_); refine goesL_ (some 25) rfl rfl Try.func75 (by kernel_rfl) rfl #[.pointer (some ⟨gb232, 0, none⟩), .slice A1 l1.length c1] rfl (by first | rfl | (simp only [List.map_toArray, List.map_cons, List.map_nil]; rfl)) ?_; (with_reducible refine (spec_l7Feed.calls k gb232 a0_0 l0_1 l0_2 _ _ l1 t236 t237 t240 t243 t246 w _ ?side1 ?side2 ?side3 ?side4 ?side5 A7.out).mono ?_); (case side1 => repeat (first | (with_reducible first | exact HI232.out | apply IsS48.alloc | apply IsS48.drewN | apply IsS48.drew | apply IsS48.set_0 | refine IsS48.far ?_ NB232_233.out _) | exact HI232.out)); (case side2 => repeat (first | (with_reducible first | exact HB.out | apply bA | apply bN | apply bD | refine bS ?_ (IsS48.ge HI232.out) | refine bS ?_ GE233.out) | exact HB.out)); (case side3 => repeat (first | exact (cB HR1.out HB.out) | (with_reducible refine cA ?_ _) | (with_reducible refine cN ?_ _) | (with_reducible refine cD ?_))); (case side4 => exact HC1.out); (case side5 => exact Kd.far_C 0 HR1.out (IsS48.ge HI232.out)); rintro e w14 ⟨v238, v241, v244, rfl, ho0, ho1, ho2, hi, hb, hk⟩; refine ⟨_, rfl, ?_⟩; have n0_ := aM (KeepBut.blk hk (g' := gb233) (o := .cells #[.int .i64 0, .int .i64 0, .slice none 0 0, .slice none 0 0, .slice none 0 0] 50 (0, 0)) (by (with_reducible repeat (first | refine kN ?_ _ | refine kD ?_ | refine kA ?_ _)); exact BK233.out) NB233_232.out (by simp)); have n1_ := aM (rG ho0 (bZ (by repeat (first | (with_reducible first | exact HB.out | apply bA | apply bN | apply bD | refine bS ?_ (IsS48.ge HI232.out) | refine bS ?_ GE233.out) | exact HB.out)))); have n2_ := aM (rG ho1 (bZ (by repeat (first | (with_reducible first | exact HB.out | apply bA | apply bN | apply bD | refine bS ?_ (IsS48.ge HI232.out) | refine bS ?_ GE233.out) | exact HB.out)))); have n3_ := aM (rG ho2 (bZ (by repeat (first | (with_reducible first | exact HB.out | apply bA | apply bN | apply bD | refine bS ?_ (IsS48.ge HI232.out) | refine bS ?_ GE233.out) | exact HB.out)))); have n4_ := aM (hb); have n5_ := aM (hi); clear BK233 HB HI232; have BK233 := n0_; have HO239 := n1_; have HO242 := n2_; have HO245 := n3_; have HB := n4_; have HI232 := n5_; clear n0_ n1_ n2_ n3_ n4_ n5_; (try clear hb); (try clear ho0); (try clear ho1); (try clear ho2)) | ((with_reducible refine gate_dst (N := 7) rfl ?_); refine box_event ?hg (N := 7) ?hd (cs := #[.int .i64 0, .slice none 0 0, .slice none 0 0]) (t := 48) ?hr ?_; (case hd => rfl); (case hg => rfl); (case hr => first | (go_simp; done) | (go_simp; rfl)); intro gb247 hg w15 hbox hb; have n0_ := aM (rL (by (with_reducible repeat (first | apply rA | apply rN | apply rD)); exact HO239.out) hb); have n1_ := aM (rL (by (with_reducible repeat (first | apply rA | apply rN | apply rD)); exact HO242.out) hb); have n2_ := aM (rL (by (with_reducible repeat (first | apply rA | apply rN | apply rD)); exact HO245.out) hb); have n3_ := aM (kB (g := gb233) (o := .cells #[.int .i64 0, .int .i64 0, .slice none 0 0, .slice none 0 0, .slice none 0 0] 50 (0, 0)) (by (with_reducible repeat (first | refine kN ?_ _ | refine kD ?_ | refine kA ?_ _)); exact BK233.out) hb); have n4_ := aM (IsS48.below (by repeat (first | (with_reducible first | exact HI232.out | apply IsS48.alloc | apply IsS48.drewN | apply IsS48.drew | apply IsS48.set_0 | refine IsS48.far ?_ NB232_233.out _) | exact HI232.out)) hb); have n5_ := aM (bT (by repeat (first | (with_reducible first | exact HB.out | apply bA | apply bN | apply bD | refine bS ?_ (IsS48.ge HI232.out) | refine bS ?_ GE233.out) | exact HB.out)) hb); have n6_ := aM (hbox); have n7_ := aM ((by rw [hg]; exact (bZ (by repeat (first | (with_reducible first | exact HB.out | apply bA | apply bN | apply bD | refine bS ?_ (IsS48.ge HI232.out) | refine bS ?_ GE233.out) | exact HB.out))) : w.heap.size ≤ gb247)); have n8_ := aM ((by rw [hg]; exact (bZ (by repeat (first | (with_reducible first | exact HB.out | apply bA | apply bN | apply bD | refine bS ?_ (IsS48.ge HI232.out) | refine bS ?_ GE233.out) | exact HB.out))) : w.heap.size ≤ gb247)); have n9_ := aM ((by rw [hg]; exact Nat.ne_of_lt (blk_lt (g := gb233) (o := .cells #[.int .i64 0, .int .i64 0, .slice none 0 0, .slice none 0 0, .slice none 0 0] 50 (0, 0)) (by (with_reducible repeat (first | refine kN ?_ _ | refine kD ?_ | refine kA ?_ _)); exact BK233.out)) : gb233 ≠ gb247)); have n10_ := aM ((by rw [hg]; exact Nat.ne_of_gt (blk_lt (g := gb233) (o := .cells #[.int .i64 0, .int .i64 0, .slice none 0 0, .slice none 0 0, .slice none 0 0] 50 (0, 0)) (by (with_reducible repeat (first | refine kN ?_ _ | refine kD ?_ | refine kA ?_ _)); exact BK233.out)) : gb247 ≠ gb233)); have n11_ := aM ((by rw [hg]; exact Nat.ne_of_lt (IsS48.lt (show IsS48 w _ gb232 t246 l0_1 l0_2 from by repeat (first | (with_reducible first | exact HI232.out | apply IsS48.alloc | apply IsS48.drewN | apply IsS48.drew | apply IsS48.set_0 | refine IsS48.far ?_ NB232_233.out _) | exact HI232.out))) : gb232 ≠ gb247)); have n12_ := aM ((by rw [hg]; exact Nat.ne_of_gt (IsS48.lt (show IsS48 w _ gb232 t246 l0_1 l0_2 from by repeat (first | (with_reducible first | exact HI232.out | apply IsS48.alloc | apply IsS48.drewN | apply IsS48.drew | apply IsS48.set_0 | refine IsS48.far ?_ NB232_233.out _) | exact HI232.out))) : gb247 ≠ gb232)); clear HO239 HO242 HO245 BK233 HI232 HB; have HO239 := n0_; have HO242 := n1_; have HO245 := n2_; have BK233 := n3_; have HI232 := n4_; have HB := n5_; have BK247 := n6_; have GW247 := n7_; have GE247 := n8_; have NB233_247 := n9_; have NB247_233 := n10_; have NB232_247 := n11_; have NB247_232 := n12_; clear n0_ n1_ n2_ n3_ n4_ n5_ n6_ n7_ n8_ n9_ n10_ n11_ n12_ hb hbox hg; have hnb16 := NB247_233.out; have hnc16 := NB233_247.out; have hnb17 := NB247_232.out; have hnc17 := NB232_247.out; have hcz18_0 : w15.cell? ⟨gb247, 0, none⟩ = some (.int .i64 0) := (kC BK247.out 0).trans rfl; have hcz18_1 : w15.cell? ⟨gb247, 1, none⟩ = some (.slice none 0 0) := (kC BK247.out 1).trans rfl; have hcz18_2 : w15.cell? ⟨gb247, 2, none⟩ = some (.slice none 0 0) := (kC BK247.out 2).trans rfl; have hfz18_0 := kF BK247.out 0; have hfz18_1 := kF BK247.out 1; have hfz18_2 := kF BK247.out 2; obtain ⟨Ao19, co19, eo19⟩ := Kd.R_slice HO239.out; subst eo19; obtain ⟨Ao20, co20, eo20⟩ := Kd.R_slice HO242.out; subst eo20; obtain ⟨Ao21, co21, eo21⟩ := Kd.R_slice HO245.out; subst eo21; have hcz22_0 : w15.cell? ⟨gb233, 0, none⟩ = some (.int .i64 0) := (kC BK233.out 0).trans rfl; have hcz22_1 : w15.cell? ⟨gb233, 1, none⟩ = some (.int .i64 0) := (kC BK233.out 1).trans rfl; have hcz22_2 : w15.cell? ⟨gb233, 2, none⟩ = some (.slice none 0 0) := (kC BK233.out 2).trans rfl; have hcz22_3 : w15.cell? ⟨gb233, 3, none⟩ = some (.slice none 0 0) := (kC BK233.out 3).trans rfl; have hcz22_4 : w15.cell? ⟨gb233, 4, none⟩ = some (.slice none 0 0) := (kC BK233.out 4).trans rfl; have hfz22_0 := kF BK233.out 0; have hfz22_1 := kF BK233.out 1; have hfz22_2 := kF BK233.out 2; have hfz22_3 := kF BK233.out 3; have hfz22_4 := kF BK233.out 4))
   refine bodyPost_ret (results_cell_row rfl _ _ gb233 50 #[.int .i64 0, .int .i64 t236, .slice Ao19 t237.length co19, .slice Ao20 t240.length co20, .slice Ao21 t243.length co21] (0, 0) _ rfl (by (with_reducible repeat (first | refine kN ?_ _ | refine kD ?_ | refine kA ?_ _)); refine blk_put (cs := #[.int .i64 0, .int .i64 t236, .slice Ao19 t237.length co19, .slice Ao20 t240.length co20, .slice none 0 0]) ?_ 4 _ rfl; (with_reducible repeat (first | refine kN ?_ _ | refine kD ?_ | refine kA ?_ _)); refine blk_put (cs := #[.int .i64 0, .int .i64 t236, .slice Ao19 t237.length co19, .slice none 0 0, .slice none 0 0]) ?_ 3 _ rfl; (with_reducible repeat (first | refine kN ?_ _ | refine kD ?_ | refine kA ?_ _)); refine blk_put (cs := #[.int .i64 0, .int .i64 t236, .slice none 0 0, .slice none 0 0, .slice none 0 0]) ?_ 2 _ rfl; (with_reducible repeat (first | refine kN ?_ _ | refine kD ?_ | refine kA ?_ _)); refine blk_put (cs := #[.int .i64 0, .int .i64 0, .slice none 0 0, .slice none 0 0, .slice none 0 0]) ?_ 1 _ rfl; (with_reducible repeat (first | refine kN ?_ _ | refine kD ?_ | refine kA ?_ _)); refine blk_put (cs := #[.int .i64 0, .int .i64 0, .slice none 0 0, .slice none 0 0, .slice none 0 0]) ?_ 0 _ rfl; (with_reducible repeat (first | refine kN ?_ _ | refine kD ?_ | refine kA ?_ _)); refine blk_far ?_ NB233_247.out _; (with_reducible repeat (first | refine kN ?_ _ | refine kD ?_ | refine kA ?_ _)); refine blk_far ?_ NB233_247.out _; (with_reducible repeat (first | refine kN ?_ _ | refine kD ?_ | refine kA ?_ _)); refine blk_far ?_ NB233_247.out _; (with_reducible repeat (first | refine kN ?_ _ | refine kD ?_ | refine kA ?_ _)); exact BK233.out) Try.underlying50 rfl (by kernel_rfl)) rfl ?_
   exact ⟨_, _, _, by first | rfl | (simp [errW_none, errW_some] <;> rfl) | (simp [*, errW_none, errW_some] <;> rfl), by (with_reducible repeat (first | apply rA | apply rN | apply rD)); exact rM (rF (p := ⟨gb233, 4, none⟩) (rF (p := ⟨gb233, 3, none⟩) (rF (p := ⟨gb233, 2, none⟩) (rF (p := ⟨gb233, 1, none⟩) (rF (p := ⟨gb233, 0, none⟩) (rF (p := ⟨gb247, 2, none⟩) (rF (p := ⟨gb247, 1, none⟩) (rF (p := ⟨gb247, 0, none⟩) (Kd.R_types (Kd.R_types HO239.out BK247.out (by decide)) BK233.out (by decide)) (fun _ hk => hk.1.2) (.int .i64 t236)) (fun _ hk => hk.1.2) (.slice Ao19 t237.length co19)) (fun _ hk => hk.1.2) (.slice Ao20 t240.length co20)) (fun _ hk => hk.2) (.int .i64 0)) (fun _ hk => hk.2) (.int .i64 t236)) (fun _ hk => hk.2) (.slice Ao19 t237.length co19)) (fun _ hk => hk.2) (.slice Ao20 t240.length co20)) (fun _ hk => hk.2) (.slice Ao21 t243.length co21)) (fun _ hk => ⟨hk.1.1.1, hk.1.1.2⟩), by (with_reducible repeat (first | apply rA | apply rN | apply rD)); exact rM (rF (p := ⟨gb233, 4, none⟩) (rF (p := ⟨gb233, 3, none⟩) (rF (p := ⟨gb233, 2, none⟩) (rF (p := ⟨gb233, 1, none⟩) (rF (p := ⟨gb233, 0, none⟩) (rF (p := ⟨gb247, 2, none⟩) (rF (p := ⟨gb247, 1, none⟩) (rF (p := ⟨gb247, 0, none⟩) (Kd.R_types (Kd.R_types HO242.out BK247.out (by decide)) BK233.out (by decide)) (fun _ hk => hk.1.2) (.int .i64 t236)) (fun _ hk => hk.1.2) (.slice Ao19 t237.length co19)) (fun _ hk => hk.1.2) (.slice Ao20 t240.length co20)) (fun _ hk => hk.2) (.int .i64 0)) (fun _ hk => hk.2) (.int .i64 t236)) (fun _ hk => hk.2) (.slice Ao19 t237.length co19)) (fun _ hk => hk.2) (.slice Ao20 t240.length co20)) (fun _ hk => hk.2) (.slice Ao21 t243.length co21)) (fun _ hk => ⟨hk.1.1.1, hk.1.1.2⟩), by (with_reducible repeat (first | apply rA | apply rN | apply rD)); exact rM (rF (p := ⟨gb233, 4, none⟩) (rF (p := ⟨gb233, 3, none⟩) (rF (p := ⟨gb233, 2, none⟩) (rF (p := ⟨gb233, 1, none⟩) (rF (p := ⟨gb233, 0, none⟩) (rF (p := ⟨gb247, 2, none⟩) (rF (p := ⟨gb247, 1, none⟩) (rF (p := ⟨gb247, 0, none⟩) (Kd.R_types (Kd.R_types HO245.out BK247.out (by decide)) BK233.out (by decide)) (fun _ hk => hk.1.2) (.int .i64 t236)) (fun _ hk => hk.1.2) (.slice Ao19 t237.length co19)) (fun _ hk => hk.1.2) (.slice Ao20 t240.length co20)) (fun _ hk => hk.2) (.int .i64 0)) (fun _ hk => hk.2) (.int .i64 t236)) (fun _ hk => hk.2) (.slice Ao19 t237.length co19)) (fun _ hk => hk.2) (.slice Ao20 t240.length co20)) (fun _ hk => hk.2) (.slice Ao21 t243.length co21)) (fun _ hk => ⟨hk.1.1.1, hk.1.1.2⟩), by repeat (first | (with_reducible first | exact HB.out | apply bA | apply bN | apply bD | refine bS ?_ (IsS48.ge HI232.out) | refine bS ?_ GE233.out | refine bS ?_ GE247.out) | exact HB.out)⟩
  ·rw [if_neg c6] at H
   have c6b0 : (t235 == 0) = false := beq_eq_false_iff_ne.mpr c6
   have c6b1 : (t235 != 0) = true := bne_iff_ne.mpr c6
   simp only [Option.some.injEq, Prod.mk.injEq] at H
   obtain ⟨rfl, rfl, rfl, rfl, rfl⟩ := H
   go_enter Try.func27, Try.ntmps27
   go_wp2_with (first | ((with_reducible refine gate_dst (N := 2) rfl ?_); refine box_event ?hg (N := 2) ?hd (cs := #[.int .i64 a0_0, .slice A0_1 l0_1.length c0_1, .slice A0_2 l0_2.length c0_2]) (t := 48) ?hr ?_; (case hd => rfl); (case hg => rfl); (case hr => first | (go_simp; done) | (go_simp; rfl)); intro gb232 hg w23 hbox hb; have n0_ := aM (bT (by repeat (first | exact HB.out | apply bA | apply bN | apply bD)) hb); have n1_ := aM (hbox); have n2_ := aM ((by rw [hg]; exact (bZ (by repeat (first | exact HB.out | apply bA | apply bN | apply bD))) : w.heap.size ≤ gb232)); have n3_ := aM ((by rw [hg]; exact (bZ (by repeat (first | exact HB.out | apply bA | apply bN | apply bD))) : w.heap.size ≤ gb232)); clear HB; have HB := n0_; have BK232 := n1_; have GW232 := n2_; have GE232 := n3_; clear n0_ n1_ n2_ n3_ hb hbox hg) | ((with_reducible refine gate_dst (N := 4) rfl ?_); refine box_event ?hg (N := 4) ?hd (cs := #[.int .i64 0, .int .i64 0, .slice none 0 0, .slice none 0 0, .slice none 0 0]) (t := 50) ?hr ?_; (case hd => rfl); (case hg => rfl); (case hr => first | (go_simp; done) | (go_simp; rfl)); intro gb233 hg w24 hbox hb; have n0_ := aM (kB (g := gb232) (o := .cells #[.int .i64 a0_0, .slice A0_1 l0_1.length c0_1, .slice A0_2 l0_2.length c0_2] 48 (0, 0)) (by (with_reducible repeat (first | refine kN ?_ _ | refine kD ?_ | refine kA ?_ _)); exact BK232.out) hb); have n1_ := aM (bT (by repeat (first | (with_reducible first | exact HB.out | apply bA | apply bN | apply bD | refine bS ?_ GE232.out) | exact HB.out)) hb); have n2_ := aM (hbox); have n3_ := aM ((by rw [hg]; exact (bZ (by repeat (first | (with_reducible first | exact HB.out | apply bA | apply bN | apply bD | refine bS ?_ GE232.out) | exact HB.out))) : w.heap.size ≤ gb233)); have n4_ := aM ((by rw [hg]; exact (bZ (by repeat (first | (with_reducible first | exact HB.out | apply bA | apply bN | apply bD | refine bS ?_ GE232.out) | exact HB.out))) : w.heap.size ≤ gb233)); have n5_ := aM ((by rw [hg]; exact Nat.ne_of_lt (blk_lt (g := gb232) (o := .cells #[.int .i64 a0_0, .slice A0_1 l0_1.length c0_1, .slice A0_2 l0_2.length c0_2] 48 (0, 0)) (by (with_reducible repeat (first | refine kN ?_ _ | refine kD ?_ | refine kA ?_ _)); exact BK232.out)) : gb232 ≠ gb233)); have n6_ := aM ((by rw [hg]; exact Nat.ne_of_gt (blk_lt (g := gb232) (o := .cells #[.int .i64 a0_0, .slice A0_1 l0_1.length c0_1, .slice A0_2 l0_2.length c0_2] 48 (0, 0)) (by (with_reducible repeat (first | refine kN ?_ _ | refine kD ?_ | refine kA ?_ _)); exact BK232.out)) : gb233 ≠ gb232)); clear BK232 HB; have BK232 := n0_; have HB := n1_; have BK233 := n2_; have GW233 := n3_; have GE233 := n4_; have NB232_233 := n5_; have NB233_232 := n6_; clear n0_ n1_ n2_ n3_ n4_ n5_ n6_ hb hbox hg; have hnb25 := NB232_233.out; have hnc25 := NB233_232.out; have hcz26_0 : w24.cell? ⟨gb232, 0, none⟩ = some (.int .i64 a0_0) := (kC BK232.out 0).trans rfl; have hcz26_1 : w24.cell? ⟨gb232, 1, none⟩ = some (.slice A0_1 l0_1.length c0_1) := (kC BK232.out 1).trans rfl; have hcz26_2 : w24.cell? ⟨gb232, 2, none⟩ = some (.slice A0_2 l0_2.length c0_2) := (kC BK232.out 2).trans rfl; have hfz26_0 := kF BK232.out 0; have hfz26_1 := kF BK232.out 1; have hfz26_2 := kF BK232.out 2) | ((with_reducible refine gate_callee (f := 73) rfl ?_); refine goesL_ (some 10) rfl rfl Try.func73 (by kernel_rfl) rfl #[.agg #[.int .i64 a0_0, .slice A0_1 l0_1.length c0_1, .slice A0_2 l0_2.length c0_2]] rfl (by first | rfl | (simp only [List.map_toArray, List.map_cons, List.map_nil]; rfl)) ?_; (with_reducible refine (spec_LapFault.calls k a0_0 _ _ l0_1 _ _ l0_2 t234 _ ?side1 ?side2 ?side3 ?side4 A3.out).mono ?_); (case side1 => repeat (first | exact (cB HR0_1.out HB.out) | (with_reducible refine cA ?_ _) | (with_reducible refine cN ?_ _) | (with_reducible refine cD ?_))); (case side2 => exact HC0_1.out); (case side3 => repeat (first | exact (cB HR0_2.out HB.out) | (with_reducible refine cA ?_ _) | (with_reducible refine cN ?_ _) | (with_reducible refine cD ?_))); (case side4 => exact HC0_2.out); rintro e w27 ⟨rfl, hb⟩; refine ⟨_, rfl, ?_⟩; have n0_ := aM (kB (g := gb232) (o := .cells #[.int .i64 a0_0, .slice A0_1 l0_1.length c0_1, .slice A0_2 l0_2.length c0_2] 48 (0, 0)) (by (with_reducible repeat (first | refine kN ?_ _ | refine kD ?_ | refine kA ?_ _)); exact BK232.out) hb); have n1_ := aM (kB (g := gb233) (o := .cells #[.int .i64 0, .int .i64 0, .slice none 0 0, .slice none 0 0, .slice none 0 0] 50 (0, 0)) (by (with_reducible repeat (first | refine kN ?_ _ | refine kD ?_ | refine kA ?_ _)); exact BK233.out) hb); have n2_ := aM (bT (by repeat (first | (with_reducible first | exact HB.out | apply bA | apply bN | apply bD | refine bS ?_ GE232.out | refine bS ?_ GE233.out) | exact HB.out)) hb); clear BK232 BK233 HB; have BK232 := n0_; have BK233 := n1_; have HB := n2_; clear n0_ n1_ n2_; (try clear hb); have hcz28_0 : w27.cell? ⟨gb232, 0, none⟩ = some (.int .i64 a0_0) := (kC BK232.out 0).trans rfl; have hcz28_1 : w27.cell? ⟨gb232, 1, none⟩ = some (.slice A0_1 l0_1.length c0_1) := (kC BK232.out 1).trans rfl; have hcz28_2 : w27.cell? ⟨gb232, 2, none⟩ = some (.slice A0_2 l0_2.length c0_2) := (kC BK232.out 2).trans rfl; have hfz28_0 := kF BK232.out 0; have hfz28_1 := kF BK232.out 1; have hfz28_2 := kF BK232.out 2) | ((with_reducible refine gate_callee (f := 74) rfl ?_); refine goesL_ (some 18) rfl rfl Try.func74 (by kernel_rfl) rfl #[.int .i64 a0_0, .slice A1 l1.length c1] rfl (by first | rfl | (simp only [List.map_toArray, List.map_cons, List.map_nil]; rfl)) ?_; (with_reducible refine (spec_SamplesFault.calls k a0_0 _ _ l1 t235 _ ?side1 ?side2 A5.out).mono ?_); (case side1 => repeat (first | exact (cB HR1.out HB.out) | (with_reducible refine cA ?_ _) | (with_reducible refine cN ?_ _) | (with_reducible refine cD ?_))); (case side2 => exact HC1.out); rintro e w' ⟨rfl, ⟨nd, rfl⟩⟩; refine ⟨_, rfl, ?_⟩; (try (rw [drewN_self w27]; generalize hq_ : World.drewN w27 _ = w27; have n0_ : Aside0 (w27.heap[gb232]? = some (.cells #[.int .i64 a0_0, .slice A0_1 l0_1.length c0_1, .slice A0_2 l0_2.length c0_2] 48 (0, 0))) := ⟨by rw [← hq_]; exact (by (with_reducible repeat (first | refine kN ?_ _ | refine kD ?_ | refine kA ?_ _)); exact BK232.out)⟩; have n1_ : Aside0 (w27.heap[gb233]? = some (.cells #[.int .i64 0, .int .i64 0, .slice none 0 0, .slice none 0 0, .slice none 0 0] 50 (0, 0))) := ⟨by rw [← hq_]; exact (by (with_reducible repeat (first | refine kN ?_ _ | refine kD ?_ | refine kA ?_ _)); exact BK233.out)⟩; have n2_ : Aside0 (Below w.heap.size w w27) := ⟨by rw [← hq_]; exact (by repeat (first | (with_reducible first | exact HB.out | apply bA | apply bN | apply bD | refine bS ?_ GE232.out | refine bS ?_ GE233.out) | exact HB.out))⟩; clear BK232 BK233 HB hq_; have BK232 := n0_; have BK233 := n1_; have HB := n2_; clear n0_ n1_ n2_)); have hcz29_0 : w27.cell? ⟨gb233, 0, none⟩ = some (.int .i64 0) := (kC BK233.out 0).trans rfl; have hcz29_1 : w27.cell? ⟨gb233, 1, none⟩ = some (.int .i64 0) := (kC BK233.out 1).trans rfl; have hcz29_2 : w27.cell? ⟨gb233, 2, none⟩ = some (.slice none 0 0) := (kC BK233.out 2).trans rfl; have hcz29_3 : w27.cell? ⟨gb233, 3, none⟩ = some (.slice none 0 0) := (kC BK233.out 3).trans rfl; have hcz29_4 : w27.cell? ⟨gb233, 4, none⟩ = some (.slice none 0 0) := (kC BK233.out 4).trans rfl; have hfz29_0 := kF BK233.out 0; have hfz29_1 := kF BK233.out 1; have hfz29_2 := kF BK233.out 2; have hfz29_3 := kF BK233.out 3; have hfz29_4 := kF BK233.out 4))
   refine bodyPost_ret (results_cell_row rfl _ _ gb233 50 #[.int .i64 t235, .int .i64 0, .slice none 0 0, .slice none 0 0, .slice none 0 0] (0, 0) _ rfl (by (with_reducible repeat (first | refine kN ?_ _ | refine kD ?_ | refine kA ?_ _)); refine blk_put (cs := #[.int .i64 t235, .int .i64 0, .slice none 0 0, .slice none 0 0, .slice none 0 0]) ?_ 4 _ rfl; (with_reducible repeat (first | refine kN ?_ _ | refine kD ?_ | refine kA ?_ _)); refine blk_put (cs := #[.int .i64 t235, .int .i64 0, .slice none 0 0, .slice none 0 0, .slice none 0 0]) ?_ 3 _ rfl; (with_reducible repeat (first | refine kN ?_ _ | refine kD ?_ | refine kA ?_ _)); refine blk_put (cs := #[.int .i64 t235, .int .i64 0, .slice none 0 0, .slice none 0 0, .slice none 0 0]) ?_ 2 _ rfl; (with_reducible repeat (first | refine kN ?_ _ | refine kD ?_ | refine kA ?_ _)); refine blk_put (cs := #[.int .i64 t235, .int .i64 0, .slice none 0 0, .slice none 0 0, .slice none 0 0]) ?_ 1 _ rfl; (with_reducible repeat (first | refine kN ?_ _ | refine kD ?_ | refine kA ?_ _)); refine blk_put (cs := #[.int .i64 0, .int .i64 0, .slice none 0 0, .slice none 0 0, .slice none 0 0]) ?_ 0 _ rfl; (with_reducible repeat (first | refine kN ?_ _ | refine kD ?_ | refine kA ?_ _)); exact BK233.out) Try.underlying50 rfl (by kernel_rfl)) rfl ?_
   exact ⟨_, _, _, by first | rfl | (simp [errW_none, errW_some] <;> rfl) | (simp [*, errW_none, errW_some] <;> rfl), by first | exact Kd.R_nil _ _ _ _ _ | exact Kd.N_nil _ _ _ _ _ | exact Kd.V_nil _ _ _ _ _ | exact Kd.Q_nil _ _ _ _ _ | exact Kd.S_nil _ _ _ _ _, by first | exact Kd.R_nil _ _ _ _ _ | exact Kd.N_nil _ _ _ _ _ | exact Kd.V_nil _ _ _ _ _ | exact Kd.Q_nil _ _ _ _ _ | exact Kd.S_nil _ _ _ _ _, by first | exact Kd.R_nil _ _ _ _ _ | exact Kd.N_nil _ _ _ _ _ | exact Kd.V_nil _ _ _ _ _ | exact Kd.Q_nil _ _ _ _ _ | exact Kd.S_nil _ _ _ _ _, by repeat (first | (with_reducible first | exact HB.out | apply bA | apply bN | apply bD | refine bS ?_ GE232.out | refine bS ?_ GE233.out) | exact HB.out)⟩
 ·rw [if_neg c4] at H
  have c4b0 : (t234 == 0) = false := beq_eq_false_iff_ne.mpr c4
  have c4b1 : (t234 != 0) = true := bne_iff_ne.mpr c4
  simp only [Option.some.injEq, Prod.mk.injEq] at H
  obtain ⟨rfl, rfl, rfl, rfl, rfl⟩ := H
  go_enter Try.func27, Try.ntmps27
  go_wp2_with (first | ((with_reducible refine gate_dst (N := 2) rfl ?_); refine box_event ?hg (N := 2) ?hd (cs := #[.int .i64 a0_0, .slice A0_1 l0_1.length c0_1, .slice A0_2 l0_2.length c0_2]) (t := 48) ?hr ?_; (case hd => rfl); (case hg => rfl); (case hr => first | (go_simp; done) | (go_simp; rfl)); intro gb232 hg w30 hbox hb; have n0_ := aM (bT (by repeat (first | exact HB.out | apply bA | apply bN | apply bD)) hb); have n1_ := aM (hbox); have n2_ := aM ((by rw [hg]; exact (bZ (by repeat (first | exact HB.out | apply bA | apply bN | apply bD))) : w.heap.size ≤ gb232)); have n3_ := aM ((by rw [hg]; exact (bZ (by repeat (first | exact HB.out | apply bA | apply bN | apply bD))) : w.heap.size ≤ gb232)); clear HB; have HB := n0_; have BK232 := n1_; have GW232 := n2_; have GE232 := n3_; clear n0_ n1_ n2_ n3_ hb hbox hg) | ((with_reducible refine gate_dst (N := 4) rfl ?_); refine box_event ?hg (N := 4) ?hd (cs := #[.int .i64 0, .int .i64 0, .slice none 0 0, .slice none 0 0, .slice none 0 0]) (t := 50) ?hr ?_; (case hd => rfl); (case hg => rfl); (case hr => first | (go_simp; done) | (go_simp; rfl)); intro gb233 hg w31 hbox hb; have n0_ := aM (kB (g := gb232) (o := .cells #[.int .i64 a0_0, .slice A0_1 l0_1.length c0_1, .slice A0_2 l0_2.length c0_2] 48 (0, 0)) (by (with_reducible repeat (first | refine kN ?_ _ | refine kD ?_ | refine kA ?_ _)); exact BK232.out) hb); have n1_ := aM (bT (by repeat (first | (with_reducible first | exact HB.out | apply bA | apply bN | apply bD | refine bS ?_ GE232.out) | exact HB.out)) hb); have n2_ := aM (hbox); have n3_ := aM ((by rw [hg]; exact (bZ (by repeat (first | (with_reducible first | exact HB.out | apply bA | apply bN | apply bD | refine bS ?_ GE232.out) | exact HB.out))) : w.heap.size ≤ gb233)); have n4_ := aM ((by rw [hg]; exact (bZ (by repeat (first | (with_reducible first | exact HB.out | apply bA | apply bN | apply bD | refine bS ?_ GE232.out) | exact HB.out))) : w.heap.size ≤ gb233)); have n5_ := aM ((by rw [hg]; exact Nat.ne_of_lt (blk_lt (g := gb232) (o := .cells #[.int .i64 a0_0, .slice A0_1 l0_1.length c0_1, .slice A0_2 l0_2.length c0_2] 48 (0, 0)) (by (with_reducible repeat (first | refine kN ?_ _ | refine kD ?_ | refine kA ?_ _)); exact BK232.out)) : gb232 ≠ gb233)); have n6_ := aM ((by rw [hg]; exact Nat.ne_of_gt (blk_lt (g := gb232) (o := .cells #[.int .i64 a0_0, .slice A0_1 l0_1.length c0_1, .slice A0_2 l0_2.length c0_2] 48 (0, 0)) (by (with_reducible repeat (first | refine kN ?_ _ | refine kD ?_ | refine kA ?_ _)); exact BK232.out)) : gb233 ≠ gb232)); clear BK232 HB; have BK232 := n0_; have HB := n1_; have BK233 := n2_; have GW233 := n3_; have GE233 := n4_; have NB232_233 := n5_; have NB233_232 := n6_; clear n0_ n1_ n2_ n3_ n4_ n5_ n6_ hb hbox hg; have hnb32 := NB232_233.out; have hnc32 := NB233_232.out; have hcz33_0 : w31.cell? ⟨gb232, 0, none⟩ = some (.int .i64 a0_0) := (kC BK232.out 0).trans rfl; have hcz33_1 : w31.cell? ⟨gb232, 1, none⟩ = some (.slice A0_1 l0_1.length c0_1) := (kC BK232.out 1).trans rfl; have hcz33_2 : w31.cell? ⟨gb232, 2, none⟩ = some (.slice A0_2 l0_2.length c0_2) := (kC BK232.out 2).trans rfl; have hfz33_0 := kF BK232.out 0; have hfz33_1 := kF BK232.out 1; have hfz33_2 := kF BK232.out 2) | ((with_reducible refine gate_callee (f := 73) rfl ?_); refine goesL_ (some 10) rfl rfl Try.func73 (by kernel_rfl) rfl #[.agg #[.int .i64 a0_0, .slice A0_1 l0_1.length c0_1, .slice A0_2 l0_2.length c0_2]] rfl (by first | rfl | (simp only [List.map_toArray, List.map_cons, List.map_nil]; rfl)) ?_; (with_reducible refine (spec_LapFault.calls k a0_0 _ _ l0_1 _ _ l0_2 t234 _ ?side1 ?side2 ?side3 ?side4 A3.out).mono ?_); (case side1 => repeat (first | exact (cB HR0_1.out HB.out) | (with_reducible refine cA ?_ _) | (with_reducible refine cN ?_ _) | (with_reducible refine cD ?_))); (case side2 => exact HC0_1.out); (case side3 => repeat (first | exact (cB HR0_2.out HB.out) | (with_reducible refine cA ?_ _) | (with_reducible refine cN ?_ _) | (with_reducible refine cD ?_))); (case side4 => exact HC0_2.out); rintro e w34 ⟨rfl, hb⟩; refine ⟨_, rfl, ?_⟩; have n0_ := aM (kB (g := gb232) (o := .cells #[.int .i64 a0_0, .slice A0_1 l0_1.length c0_1, .slice A0_2 l0_2.length c0_2] 48 (0, 0)) (by (with_reducible repeat (first | refine kN ?_ _ | refine kD ?_ | refine kA ?_ _)); exact BK232.out) hb); have n1_ := aM (kB (g := gb233) (o := .cells #[.int .i64 0, .int .i64 0, .slice none 0 0, .slice none 0 0, .slice none 0 0] 50 (0, 0)) (by (with_reducible repeat (first | refine kN ?_ _ | refine kD ?_ | refine kA ?_ _)); exact BK233.out) hb); have n2_ := aM (bT (by repeat (first | (with_reducible first | exact HB.out | apply bA | apply bN | apply bD | refine bS ?_ GE232.out | refine bS ?_ GE233.out) | exact HB.out)) hb); clear BK232 BK233 HB; have BK232 := n0_; have BK233 := n1_; have HB := n2_; clear n0_ n1_ n2_; (try clear hb); have hcz35_0 : w34.cell? ⟨gb233, 0, none⟩ = some (.int .i64 0) := (kC BK233.out 0).trans rfl; have hcz35_1 : w34.cell? ⟨gb233, 1, none⟩ = some (.int .i64 0) := (kC BK233.out 1).trans rfl; have hcz35_2 : w34.cell? ⟨gb233, 2, none⟩ = some (.slice none 0 0) := (kC BK233.out 2).trans rfl; have hcz35_3 : w34.cell? ⟨gb233, 3, none⟩ = some (.slice none 0 0) := (kC BK233.out 3).trans rfl; have hcz35_4 : w34.cell? ⟨gb233, 4, none⟩ = some (.slice none 0 0) := (kC BK233.out 4).trans rfl; have hfz35_0 := kF BK233.out 0; have hfz35_1 := kF BK233.out 1; have hfz35_2 := kF BK233.out 2; have hfz35_3 := kF BK233.out 3; have hfz35_4 := kF BK233.out 4))
  refine bodyPost_ret (results_cell_row rfl _ _ gb233 50 #[.int .i64 t234, .int .i64 0, .slice none 0 0, .slice none 0 0, .slice none 0 0] (0, 0) _ rfl (by (with_reducible repeat (first | refine kN ?_ _ | refine kD ?_ | refine kA ?_ _)); refine blk_put (cs := #[.int .i64 t234, .int .i64 0, .slice none 0 0, .slice none 0 0, .slice none 0 0]) ?_ 4 _ rfl; (with_reducible repeat (first | refine kN ?_ _ | refine kD ?_ | refine kA ?_ _)); refine blk_put (cs := #[.int .i64 t234, .int .i64 0, .slice none 0 0, .slice none 0 0, .slice none 0 0]) ?_ 3 _ rfl; (with_reducible repeat (first | refine kN ?_ _ | refine kD ?_ | refine kA ?_ _)); refine blk_put (cs := #[.int .i64 t234, .int .i64 0, .slice none 0 0, .slice none 0 0, .slice none 0 0]) ?_ 2 _ rfl; (with_reducible repeat (first | refine kN ?_ _ | refine kD ?_ | refine kA ?_ _)); refine blk_put (cs := #[.int .i64 t234, .int .i64 0, .slice none 0 0, .slice none 0 0, .slice none 0 0]) ?_ 1 _ rfl; (with_reducible repeat (first | refine kN ?_ _ | refine kD ?_ | refine kA ?_ _)); refine blk_put (cs := #[.int .i64 0, .int .i64 0, .slice none 0 0, .slice none 0 0, .slice none 0 0]) ?_ 0 _ rfl; (with_reducible repeat (first | refine kN ?_ _ | refine kD ?_ | refine kA ?_ _)); exact BK233.out) Try.underlying50 rfl (by kernel_rfl)) rfl ?_
  exact ⟨_, _, _, by first | rfl | (simp [errW_none, errW_some] <;> rfl) | (simp [*, errW_none, errW_some] <;> rfl), by first | exact Kd.R_nil _ _ _ _ _ | exact Kd.N_nil _ _ _ _ _ | exact Kd.V_nil _ _ _ _ _ | exact Kd.Q_nil _ _ _ _ _ | exact Kd.S_nil _ _ _ _ _, by first | exact Kd.R_nil _ _ _ _ _ | exact Kd.N_nil _ _ _ _ _ | exact Kd.V_nil _ _ _ _ _ | exact Kd.Q_nil _ _ _ _ _ | exact Kd.S_nil _ _ _ _ _, by first | exact Kd.R_nil _ _ _ _ _ | exact Kd.N_nil _ _ _ _ _ | exact Kd.V_nil _ _ _ _ _ | exact Kd.Q_nil _ _ _ _ _ | exact Kd.S_nil _ _ _ _ _, by repeat (first | (with_reducible first | exact HB.out | apply bA | apply bN | apply bD | refine bS ?_ GE232.out | refine bS ?_ GE233.out) | exact HB.out)⟩

/-! ### laws_toLap: function 28 -/
def laws_toLap.f (k : Nat) (a0_0 : Int) (l0_1 : List Int) (l0_2 : List Int) : Option (Int × List Int × List Int) := (laws_toInt64S.f k l0_1).bind fun t251 => ((laws_toInt64S.f k l0_2).bind fun t254 => (some (a0_0, t251, t254)))
theorem laws_toLap.mono : ∀ a0 a1 a2 k, LeO (laws_toLap.f k a0 a1 a2) (laws_toLap.f (k + 1) a0 a1 a2) := by
 intro a0 a1 a2 k
 unfold laws_toLap.f
 repeat' first
   | (with_reducible exact laws_toInt64S.mono _ _)
   | (with_reducible exact LeO.refl _)
   | (with_reducible exact LeO.none _)
   | (with_reducible refine LeO.ite ?_ ?_)
   | (with_reducible refine LeO.bind ?_ (fun _ => ?_))
   | exact laws_toInt64S.mono _ _
   | exact LeO.none _
   | refine LeO.ite ?_ ?_
   | refine LeO.bind ?_ (fun _ => ?_)
set_option maxHeartbeats 8000000 in
set_option maxRecDepth 100000 in
theorem laws_toLap.calls (k : Nat) (a0_0 : Int) (A0_1 : Option Addr) (c0_1 : Nat) (l0_1 : List Int) (A0_2 : Option Addr) (c0_2 : Nat) (l0_2 : List Int) (r1 : Int) (r2 : List Int) (r3 : List Int) (w : World) (hr0_1 : Kd.C (Kd.int .i64) w A0_1 l0_1.length l0_1) (hc0_1 : l0_1.length ≤ c0_1) (hr0_2 : Kd.C (Kd.int .i64) w A0_2 l0_2.length l0_2) (hc0_2 : l0_2.length ≤ c0_2) (h : laws_toLap.f k a0_0 l0_1 l0_2 = some (r1, r2, r3)) :
  Calls Try.prog 28 #[.agg #[.int .i64 a0_0, .slice A0_1 l0_1.length c0_1, .slice A0_2 l0_2.length c0_2]] w fun e w' => ∃ v1_ v2_ : Value, e = .returned (.agg #[.int .i64 r1, v1_, v2_]) ∧ Kd.R (Kd.int .i64) 2 w' w.heap.size (fun k_ => some k_ ≠ (v2_ : Value).ownBlock) v1_ r2 ∧ Kd.R (Kd.int .i64) 2 w' w.heap.size (fun k_ => some k_ ≠ (v1_ : Value).ownBlock) v2_ r3 ∧ Below w.heap.size w w' := by
 have hu46 := Try.underlying46
 have hu48 := Try.underlying48
 have HR0_1 := aM hr0_1
 have HC0_1 := aM hc0_1
 clear hr0_1 hc0_1
 have HR0_2 := aM hr0_2
 have HC0_2 := aM hc0_2
 clear hr0_2 hc0_2
 have HB := aM (Below.refl w.heap.size w)
 have H : ((laws_toInt64S.f k l0_1).bind fun t251 => ((laws_toInt64S.f k l0_2).bind fun t254 => (some (a0_0, t251, t254)))) = some (r1, r2, r3) := h
 clear h
 replace H := Option.bind_eq_some_iff.mp H
 obtain ⟨t251, A20, H⟩ := H
 replace H : ((laws_toInt64S.f k l0_2).bind fun t254 => (some (a0_0, t251, t254))) = some (r1, r2, r3) := H
 have A2 := aM A20
 clear A20
 replace H := Option.bind_eq_some_iff.mp H
 obtain ⟨t254, A30, H⟩ := H
 replace H : (some (a0_0, t251, t254)) = some (r1, r2, r3) := H
 have A3 := aM A30
 clear A30
 simp only [Option.some.injEq, Prod.mk.injEq] at H
 obtain ⟨rfl, rfl, rfl⟩ := H
 go_enter Try.func28, Try.ntmps28
 go_wp2_with (first | ((with_reducible refine gate_dst (N := 1) rfl ?_); refine box_event ?hg (N := 1) ?hd (cs := #[.int .i64 a0_0, .slice A0_1 l0_1.length c0_1, .slice A0_2 l0_2.length c0_2]) (t := 46) ?hr ?_; (case hd => rfl); (case hg => rfl); (case hr => first | (go_simp; done) | (go_simp; rfl)); intro gb248 hg w4 hbox hb; have n0_ := aM (bT (by repeat (first | exact HB.out | apply bA | apply bN | apply bD)) hb); have n1_ := aM (hbox); have n2_ := aM ((by rw [hg]; exact (bZ (by repeat (first | exact HB.out | apply bA | apply bN | apply bD))) : w.heap.size ≤ gb248)); have n3_ := aM ((by rw [hg]; exact (bZ (by repeat (first | exact HB.out | apply bA | apply bN | apply bD))) : w.heap.size ≤ gb248)); clear HB; have HB := n0_; have BK248 := n1_; have GW248 := n2_; have GE248 := n3_; clear n0_ n1_ n2_ n3_ hb hbox hg) | ((with_reducible refine gate_dst (N := 2) rfl ?_); refine box_event ?hg (N := 2) ?hd (cs := #[.int .i64 0, .slice none 0 0, .slice none 0 0]) (t := 48) ?hr ?_; (case hd => rfl); (case hg => rfl); (case hr => first | (go_simp; done) | (go_simp; rfl)); intro gb249 hg w5 hbox hb; have n0_ := aM (kB (g := gb248) (o := .cells #[.int .i64 a0_0, .slice A0_1 l0_1.length c0_1, .slice A0_2 l0_2.length c0_2] 46 (0, 0)) (by (with_reducible repeat (first | refine kN ?_ _ | refine kD ?_ | refine kA ?_ _)); exact BK248.out) hb); have n1_ := aM (bT (by repeat (first | (with_reducible first | exact HB.out | apply bA | apply bN | apply bD | refine bS ?_ GE248.out) | exact HB.out)) hb); have n2_ := aM (hbox); have n3_ := aM ((by rw [hg]; exact (bZ (by repeat (first | (with_reducible first | exact HB.out | apply bA | apply bN | apply bD | refine bS ?_ GE248.out) | exact HB.out))) : w.heap.size ≤ gb249)); have n4_ := aM ((by rw [hg]; exact (bZ (by repeat (first | (with_reducible first | exact HB.out | apply bA | apply bN | apply bD | refine bS ?_ GE248.out) | exact HB.out))) : w.heap.size ≤ gb249)); have n5_ := aM ((by rw [hg]; exact Nat.ne_of_lt (blk_lt (g := gb248) (o := .cells #[.int .i64 a0_0, .slice A0_1 l0_1.length c0_1, .slice A0_2 l0_2.length c0_2] 46 (0, 0)) (by (with_reducible repeat (first | refine kN ?_ _ | refine kD ?_ | refine kA ?_ _)); exact BK248.out)) : gb248 ≠ gb249)); have n6_ := aM ((by rw [hg]; exact Nat.ne_of_gt (blk_lt (g := gb248) (o := .cells #[.int .i64 a0_0, .slice A0_1 l0_1.length c0_1, .slice A0_2 l0_2.length c0_2] 46 (0, 0)) (by (with_reducible repeat (first | refine kN ?_ _ | refine kD ?_ | refine kA ?_ _)); exact BK248.out)) : gb249 ≠ gb248)); clear BK248 HB; have BK248 := n0_; have HB := n1_; have BK249 := n2_; have GW249 := n3_; have GE249 := n4_; have NB248_249 := n5_; have NB249_248 := n6_; clear n0_ n1_ n2_ n3_ n4_ n5_ n6_ hb hbox hg) | ((with_reducible refine gate_dst (N := 3) rfl ?_); refine box_event ?hg (N := 3) ?hd (cs := #[.int .i64 0, .slice none 0 0, .slice none 0 0]) (t := 48) ?hr ?_; (case hd => rfl); (case hg => rfl); (case hr => first | (go_simp; done) | (go_simp; rfl)); intro gb250 hg w6 hbox hb; have n0_ := aM (kB (g := gb248) (o := .cells #[.int .i64 a0_0, .slice A0_1 l0_1.length c0_1, .slice A0_2 l0_2.length c0_2] 46 (0, 0)) (by (with_reducible repeat (first | refine kN ?_ _ | refine kD ?_ | refine kA ?_ _)); exact BK248.out) hb); have n1_ := aM (kB (g := gb249) (o := .cells #[.int .i64 0, .slice none 0 0, .slice none 0 0] 48 (0, 0)) (by (with_reducible repeat (first | refine kN ?_ _ | refine kD ?_ | refine kA ?_ _)); exact BK249.out) hb); have n2_ := aM (bT (by repeat (first | (with_reducible first | exact HB.out | apply bA | apply bN | apply bD | refine bS ?_ GE248.out | refine bS ?_ GE249.out) | exact HB.out)) hb); have n3_ := aM (hbox); have n4_ := aM ((by rw [hg]; exact (bZ (by repeat (first | (with_reducible first | exact HB.out | apply bA | apply bN | apply bD | refine bS ?_ GE248.out | refine bS ?_ GE249.out) | exact HB.out))) : w.heap.size ≤ gb250)); have n5_ := aM ((by rw [hg]; exact (bZ (by repeat (first | (with_reducible first | exact HB.out | apply bA | apply bN | apply bD | refine bS ?_ GE248.out | refine bS ?_ GE249.out) | exact HB.out))) : w.heap.size ≤ gb250)); have n6_ := aM ((by rw [hg]; exact Nat.ne_of_lt (blk_lt (g := gb248) (o := .cells #[.int .i64 a0_0, .slice A0_1 l0_1.length c0_1, .slice A0_2 l0_2.length c0_2] 46 (0, 0)) (by (with_reducible repeat (first | refine kN ?_ _ | refine kD ?_ | refine kA ?_ _)); exact BK248.out)) : gb248 ≠ gb250)); have n7_ := aM ((by rw [hg]; exact Nat.ne_of_gt (blk_lt (g := gb248) (o := .cells #[.int .i64 a0_0, .slice A0_1 l0_1.length c0_1, .slice A0_2 l0_2.length c0_2] 46 (0, 0)) (by (with_reducible repeat (first | refine kN ?_ _ | refine kD ?_ | refine kA ?_ _)); exact BK248.out)) : gb250 ≠ gb248)); have n8_ := aM ((by rw [hg]; exact Nat.ne_of_lt (blk_lt (g := gb249) (o := .cells #[.int .i64 0, .slice none 0 0, .slice none 0 0] 48 (0, 0)) (by (with_reducible repeat (first | refine kN ?_ _ | refine kD ?_ | refine kA ?_ _)); exact BK249.out)) : gb249 ≠ gb250)); have n9_ := aM ((by rw [hg]; exact Nat.ne_of_gt (blk_lt (g := gb249) (o := .cells #[.int .i64 0, .slice none 0 0, .slice none 0 0] 48 (0, 0)) (by (with_reducible repeat (first | refine kN ?_ _ | refine kD ?_ | refine kA ?_ _)); exact BK249.out)) : gb250 ≠ gb249)); clear BK248 BK249 HB; have BK248 := n0_; have BK249 := n1_; have HB := n2_; have BK250 := n3_; have GW250 := n4_; have GE250 := n5_; have NB248_250 := n6_; have NB250_248 := n7_; have NB249_250 := n8_; have NB250_249 := n9_; clear n0_ n1_ n2_ n3_ n4_ n5_ n6_ n7_ n8_ n9_ hb hbox hg; have hnb7 := NB248_249.out; have hnc7 := NB249_248.out; have hnb8 := NB248_250.out; have hnc8 := NB250_248.out; have hcz9_0 : w6.cell? ⟨gb248, 0, none⟩ = some (.int .i64 a0_0) := (kC BK248.out 0).trans rfl; have hcz9_1 : w6.cell? ⟨gb248, 1, none⟩ = some (.slice A0_1 l0_1.length c0_1) := (kC BK248.out 1).trans rfl; have hcz9_2 : w6.cell? ⟨gb248, 2, none⟩ = some (.slice A0_2 l0_2.length c0_2) := (kC BK248.out 2).trans rfl; have hfz9_0 := kF BK248.out 0; have hfz9_1 := kF BK248.out 1; have hfz9_2 := kF BK248.out 2; have hnb10 := NB250_249.out; have hnc10 := NB249_250.out; have hcz11_0 : w6.cell? ⟨gb250, 0, none⟩ = some (.int .i64 0) := (kC BK250.out 0).trans rfl; have hcz11_1 : w6.cell? ⟨gb250, 1, none⟩ = some (.slice none 0 0) := (kC BK250.out 1).trans rfl; have hcz11_2 : w6.cell? ⟨gb250, 2, none⟩ = some (.slice none 0 0) := (kC BK250.out 2).trans rfl; have hfz11_0 := kF BK250.out 0; have hfz11_1 := kF BK250.out 1; have hfz11_2 := kF BK250.out 2) | ((with_reducible refine gate_callee (f := 10) rfl ?_); refine goesL_ (some 9) rfl rfl Try.func10 (by kernel_rfl) rfl #[.slice A0_1 l0_1.length c0_1] rfl (by first | rfl | (simp only [List.map_toArray, List.map_cons, List.map_nil]; rfl)) ?_; (with_reducible refine (laws_toInt64S.calls k _ _ l0_1 t251 _ ?side1 ?side2 A2.out).mono ?_); (case side1 => exact cB HR0_1.out (by repeat (first | (with_reducible first | exact HB.out | apply bA | apply bN | apply bD | refine bS ?_ GE248.out | refine bS ?_ GE249.out | refine bS ?_ GE250.out) | exact HB.out))); (case side2 => exact HC0_1.out); rintro e w12 ⟨v252, rfl, ho0, hb⟩; refine ⟨_, rfl, ?_⟩; have n0_ := aM (rG ho0 (bZ (by repeat (first | (with_reducible first | exact HB.out | apply bA | apply bN | apply bD | refine bS ?_ GE248.out | refine bS ?_ GE249.out | refine bS ?_ GE250.out) | exact HB.out)))); have n1_ := aM (kB (g := gb248) (o := .cells #[.int .i64 a0_0, .slice A0_1 l0_1.length c0_1, .slice A0_2 l0_2.length c0_2] 46 (0, 0)) (by (with_reducible repeat (first | refine kN ?_ _ | refine kD ?_ | refine kA ?_ _)); refine blk_far ?_ NB248_250.out _; (with_reducible repeat (first | refine kN ?_ _ | refine kD ?_ | refine kA ?_ _)); exact BK248.out) hb); have n2_ := aM (kB (g := gb249) (o := .cells #[.int .i64 0, .slice none 0 0, .slice none 0 0] 48 (0, 0)) (by (with_reducible repeat (first | refine kN ?_ _ | refine kD ?_ | refine kA ?_ _)); refine blk_far ?_ NB249_250.out _; (with_reducible repeat (first | refine kN ?_ _ | refine kD ?_ | refine kA ?_ _)); exact BK249.out) hb); have n3_ := aM (kB (g := gb250) (o := .cells #[.int .i64 a0_0, .slice none 0 0, .slice none 0 0] 48 (0, 0)) (by (with_reducible repeat (first | refine kN ?_ _ | refine kD ?_ | refine kA ?_ _)); refine blk_put (cs := #[.int .i64 0, .slice none 0 0, .slice none 0 0]) ?_ 0 _ rfl; (with_reducible repeat (first | refine kN ?_ _ | refine kD ?_ | refine kA ?_ _)); exact BK250.out) hb); have n4_ := aM (bT (by repeat (first | (with_reducible first | exact HB.out | apply bA | apply bN | apply bD | refine bS ?_ GE248.out | refine bS ?_ GE249.out | refine bS ?_ GE250.out) | exact HB.out)) hb); clear BK248 BK249 BK250 HB; have HO253 := n0_; have BK248 := n1_; have BK249 := n2_; have BK250 := n3_; have HB := n4_; clear n0_ n1_ n2_ n3_ n4_; (try clear hb); (try clear ho0); obtain ⟨Ao13, co13, eo13⟩ := Kd.R_slice HO253.out; subst eo13; have hcz14_0 : w12.cell? ⟨gb250, 0, none⟩ = some (.int .i64 a0_0) := (kC BK250.out 0).trans rfl; have hcz14_1 : w12.cell? ⟨gb250, 1, none⟩ = some (.slice none 0 0) := (kC BK250.out 1).trans rfl; have hcz14_2 : w12.cell? ⟨gb250, 2, none⟩ = some (.slice none 0 0) := (kC BK250.out 2).trans rfl; have hfz14_0 := kF BK250.out 0; have hfz14_1 := kF BK250.out 1; have hfz14_2 := kF BK250.out 2; have hcz15_0 : w12.cell? ⟨gb248, 0, none⟩ = some (.int .i64 a0_0) := (kC BK248.out 0).trans rfl; have hcz15_1 : w12.cell? ⟨gb248, 1, none⟩ = some (.slice A0_1 l0_1.length c0_1) := (kC BK248.out 1).trans rfl; have hcz15_2 : w12.cell? ⟨gb248, 2, none⟩ = some (.slice A0_2 l0_2.length c0_2) := (kC BK248.out 2).trans rfl; have hfz15_0 := kF BK248.out 0; have hfz15_1 := kF BK248.out 1; have hfz15_2 := kF BK248.out 2) | ((with_reducible refine gate_callee (f := 10) rfl ?_); refine goesL_ (some 13) rfl rfl Try.func10 (by kernel_rfl) rfl #[.slice A0_2 l0_2.length c0_2] rfl (by first | rfl | (simp only [List.map_toArray, List.map_cons, List.map_nil]; rfl)) ?_; (with_reducible refine (laws_toInt64S.calls k _ _ l0_2 t254 _ ?side1 ?side2 A3.out).mono ?_); (case side1 => exact cB HR0_2.out (by repeat (first | (with_reducible first | exact HB.out | apply bA | apply bN | apply bD | refine bS ?_ GE248.out | refine bS ?_ GE249.out | refine bS ?_ GE250.out) | exact HB.out))); (case side2 => exact HC0_2.out); rintro e w16 ⟨v255, rfl, ho0, hb⟩; refine ⟨_, rfl, ?_⟩; have n0_ := aM (rH (by (with_reducible repeat (first | apply rA | apply rN | apply rD)); exact (rM (rF (p := ⟨gb250, 1, none⟩) (Kd.R_types HO253.out BK250.out (by decide)) (fun _ hk => hk.2) (.slice Ao13 t251.length co13)) (fun _ h_ => h_.1))) (rB ho0) hb); have n1_ := aM (rG (rW ho0 (rT (by (with_reducible repeat (first | apply rA | apply rN | apply rD)); exact (rM (rF (p := ⟨gb250, 1, none⟩) (Kd.R_types HO253.out BK250.out (by decide)) (fun _ hk => hk.2) (.slice Ao13 t251.length co13)) (fun _ h_ => h_.1))))) (bZ (by repeat (first | (with_reducible first | exact HB.out | apply bA | apply bN | apply bD | refine bS ?_ GE248.out | refine bS ?_ GE249.out | refine bS ?_ GE250.out) | exact HB.out)))); have n2_ := aM (kB (g := gb248) (o := .cells #[.int .i64 a0_0, .slice A0_1 l0_1.length c0_1, .slice A0_2 l0_2.length c0_2] 46 (0, 0)) (by (with_reducible repeat (first | refine kN ?_ _ | refine kD ?_ | refine kA ?_ _)); refine blk_far ?_ NB248_250.out _; (with_reducible repeat (first | refine kN ?_ _ | refine kD ?_ | refine kA ?_ _)); exact BK248.out) hb); have n3_ := aM (kB (g := gb249) (o := .cells #[.int .i64 0, .slice none 0 0, .slice none 0 0] 48 (0, 0)) (by (with_reducible repeat (first | refine kN ?_ _ | refine kD ?_ | refine kA ?_ _)); refine blk_far ?_ NB249_250.out _; (with_reducible repeat (first | refine kN ?_ _ | refine kD ?_ | refine kA ?_ _)); exact BK249.out) hb); have n4_ := aM (kB (g := gb250) (o := .cells #[.int .i64 a0_0, .slice Ao13 t251.length co13, .slice none 0 0] 48 (0, 0)) (by (with_reducible repeat (first | refine kN ?_ _ | refine kD ?_ | refine kA ?_ _)); refine blk_put (cs := #[.int .i64 a0_0, .slice none 0 0, .slice none 0 0]) ?_ 1 _ rfl; (with_reducible repeat (first | refine kN ?_ _ | refine kD ?_ | refine kA ?_ _)); exact BK250.out) hb); have n5_ := aM (bT (by repeat (first | (with_reducible first | exact HB.out | apply bA | apply bN | apply bD | refine bS ?_ GE248.out | refine bS ?_ GE249.out | refine bS ?_ GE250.out) | exact HB.out)) hb); clear HO253 BK248 BK249 BK250 HB; have HO253 := n0_; have HO256 := n1_; have BK248 := n2_; have BK249 := n3_; have BK250 := n4_; have HB := n5_; clear n0_ n1_ n2_ n3_ n4_ n5_; (try clear hb); (try clear ho0); obtain ⟨Ao17, co17, eo17⟩ := Kd.R_slice HO256.out; subst eo17; have hcz18_0 : w16.cell? ⟨gb250, 0, none⟩ = some (.int .i64 a0_0) := (kC BK250.out 0).trans rfl; have hcz18_1 : w16.cell? ⟨gb250, 1, none⟩ = some (.slice Ao13 t251.length co13) := (kC BK250.out 1).trans rfl; have hcz18_2 : w16.cell? ⟨gb250, 2, none⟩ = some (.slice none 0 0) := (kC BK250.out 2).trans rfl; have hfz18_0 := kF BK250.out 0; have hfz18_1 := kF BK250.out 1; have hfz18_2 := kF BK250.out 2; have hcz19_0 : w16.cell? ⟨gb249, 0, none⟩ = some (.int .i64 0) := (kC BK249.out 0).trans rfl; have hcz19_1 : w16.cell? ⟨gb249, 1, none⟩ = some (.slice none 0 0) := (kC BK249.out 1).trans rfl; have hcz19_2 : w16.cell? ⟨gb249, 2, none⟩ = some (.slice none 0 0) := (kC BK249.out 2).trans rfl; have hfz19_0 := kF BK249.out 0; have hfz19_1 := kF BK249.out 1; have hfz19_2 := kF BK249.out 2))
 refine bodyPost_ret (results_cell_row rfl _ _ gb249 48 #[.int .i64 a0_0, .slice Ao13 t251.length co13, .slice Ao17 t254.length co17] (0, 0) _ rfl (by (with_reducible repeat (first | refine kN ?_ _ | refine kD ?_ | refine kA ?_ _)); refine blk_put (cs := #[.int .i64 a0_0, .slice Ao13 t251.length co13, .slice none 0 0]) ?_ 2 _ rfl; (with_reducible repeat (first | refine kN ?_ _ | refine kD ?_ | refine kA ?_ _)); refine blk_put (cs := #[.int .i64 a0_0, .slice none 0 0, .slice none 0 0]) ?_ 1 _ rfl; (with_reducible repeat (first | refine kN ?_ _ | refine kD ?_ | refine kA ?_ _)); refine blk_put (cs := #[.int .i64 0, .slice none 0 0, .slice none 0 0]) ?_ 0 _ rfl; (with_reducible repeat (first | refine kN ?_ _ | refine kD ?_ | refine kA ?_ _)); refine blk_far ?_ NB249_250.out _; (with_reducible repeat (first | refine kN ?_ _ | refine kD ?_ | refine kA ?_ _)); exact BK249.out) Try.underlying48 rfl (by kernel_rfl)) rfl ?_
 exact ⟨_, _, by first | rfl | (simp [errW_none, errW_some] <;> rfl) | (simp [*, errW_none, errW_some] <;> rfl), by (with_reducible repeat (first | apply rA | apply rN | apply rD)); exact rM (rF (p := ⟨gb249, 2, none⟩) (rF (p := ⟨gb249, 1, none⟩) (rF (p := ⟨gb249, 0, none⟩) (rF (p := ⟨gb250, 2, none⟩) (Kd.R_types (Kd.R_types HO253.out BK250.out (by decide)) BK249.out (by decide)) (fun _ hk => hk.1.2) (.slice Ao17 t254.length co17)) (fun _ hk => hk.2) (.int .i64 a0_0)) (fun _ hk => hk.2) (.slice Ao13 t251.length co13)) (fun _ hk => hk.2) (.slice Ao17 t254.length co17)) (fun _ hk => hk.1.1.2), by (with_reducible repeat (first | apply rA | apply rN | apply rD)); exact rM (rF (p := ⟨gb249, 2, none⟩) (rF (p := ⟨gb249, 1, none⟩) (rF (p := ⟨gb249, 0, none⟩) (rF (p := ⟨gb250, 2, none⟩) (Kd.R_types (Kd.R_types HO256.out BK250.out (by decide)) BK249.out (by decide)) (fun _ hk => hk.1.2) (.slice Ao17 t254.length co17)) (fun _ hk => hk.2) (.int .i64 a0_0)) (fun _ hk => hk.2) (.slice Ao13 t251.length co13)) (fun _ hk => hk.2) (.slice Ao17 t254.length co17)) (fun _ hk => hk.1.1.2), by repeat (first | (with_reducible first | exact HB.out | apply bA | apply bN | apply bD | refine bS ?_ GE248.out | refine bS ?_ GE249.out | refine bS ?_ GE250.out) | exact HB.out)⟩

/-! ### impl_first: function 54 -/
def impl_first.l0 : Nat → List Int → Int → Int → Option (Int)
 | 0, _, _, _ => none
 | k + 1, x5, x6, x7 => if x7 < x6 then (if 0 ≤ x7 then (if x7 < (x5.length : Int) then (if (rd x5 x7) = 0 then (impl_first.l0 k x5 x6 (wrap64 (x7 + 1))) else (some (rd x5 x7))) else (none)) else (none)) else (some 0)
def impl_first.f (k : Nat) (l0 : List Int) : Option (Int) := impl_first.l0 k l0 (l0.length : Int) 0
theorem impl_first.mono_l : ∀ k, (∀ y0 y1 y2, LeO (impl_first.l0 k y0 y1 y2) (impl_first.l0 (k + 1) y0 y1 y2))
 | 0 => fun _ _ _ r h => by simp [impl_first.l0] at h
 | k + 1 => by
  have ih0 := impl_first.mono_l k
  ·intro y0 y1 y2
   unfold impl_first.l0
   repeat' first
   | (with_reducible exact ih0 _ _ _)
   | (with_reducible exact LeO.refl _)
   | (with_reducible exact LeO.none _)
   | (with_reducible refine LeO.ite ?_ ?_)
   | (with_reducible refine LeO.bind ?_ (fun _ => ?_))
   | exact ih0 _ _ _
   | exact LeO.none _
   | refine LeO.ite ?_ ?_
   | refine LeO.bind ?_ (fun _ => ?_)
theorem impl_first.mono : ∀ a0 k, LeO (impl_first.f k a0) (impl_first.f (k + 1) a0) := by
 intro a0 k
 have ih0 := impl_first.mono_l k
 unfold impl_first.f
 repeat' first
   | (with_reducible exact ih0 _ _ _)
   | (with_reducible exact LeO.refl _)
   | (with_reducible exact LeO.none _)
   | (with_reducible refine LeO.ite ?_ ?_)
   | (with_reducible refine LeO.bind ?_ (fun _ => ?_))
   | exact ih0 _ _ _
   | exact LeO.none _
   | refine LeO.ite ?_ ?_
   | refine LeO.bind ?_ (fun _ => ?_)
set_option maxHeartbeats 8000000 in
set_option maxRecDepth 100000 in
theorem impl_first.calls (k : Nat) (A0 : Option Addr) (c0 : Nat) (l0 : List Int) (r : Int) (w : World) (hr0 : Kd.C (Kd.int .i64) w A0 l0.length l0) (hc0 : l0.length ≤ c0) (h : impl_first.f k l0 = some r) :
  Calls Try.prog 54 #[.slice A0 l0.length c0] w fun e w' => e = .returned (.int .i64 r) ∧ Drawn0 w w' := by
 have HR0 := aM hr0
 have HC0 := aM hc0
 clear hr0 hc0
 have H : (impl_first.l0 k l0 (l0.length : Int) 0) = some r := h
 clear h
 have H' := aM H
 clear H
 go_enter Try.func54, Try.ntmps54
 go_wp2
 go_loopg [7] k (fun kq v7 w' => ∃ (x7_1 : Int), v7 = .int .i64 x7_1 ∧ Aside0 (impl_first.l0 kq l0 (l0.length : Int) x7_1 = some r) ∧ Aside0 (kq ≤ k) ∧ Drawn0 w w')
 case atStart => exact ⟨(0), (by first | rfl | (simp; done) | (simp [*]; done)), H', ⟨Nat.le_refl _⟩, by repeat (first | exact Drawn0.refl _ | apply Drawn0.step)⟩
 case round =>
  clear H'
  obtain ⟨x7_1, rfl, HA, HK1, ⟨m1, rfl⟩⟩ := hrel
  cases gk with
  | zero => exact absurd HA.out (by simp [impl_first.l0])
  | succ k1 =>
   have H := HA.out
   clear HA
   simp only [impl_first.l0] at H
   by_cases c2 : x7_1 < (l0.length : Int)
   ·rw [if_pos c2] at H
    have c2b0 : decide (x7_1 < (l0.length : Int)) = true := decide_eq_true c2
    clear c2
    by_cases c3 : 0 ≤ x7_1
    ·rw [if_pos c3] at H
     have c3b0 : decide (0 ≤ x7_1) = true := decide_eq_true c3
     clear c3
     by_cases c4 : x7_1 < (l0.length : Int)
     ·rw [if_pos c4] at H
      have c4b0 : decide (x7_1 < (l0.length : Int)) = true := decide_eq_true c4
      clear c4
      by_cases c5 : (rd l0 x7_1) = 0
      ·rw [if_pos c5] at H
       have c5b0 : ((rd l0 x7_1) == 0) = true := beq_iff_eq.mpr c5
       have c5b1 : ((rd l0 x7_1) != 0) = false := bne_eq_false_iff_eq.mpr c5
       clear c5
       have H' := aM H
       clear H
       have p257 : 0 ≤ (x7_1 : Int) := of_decide_eq_true (by first | (with_reducible assumption) | assumption)
       have q257 : x7_1 < (l0.length : Int) := of_decide_eq_true (by first | (with_reducible assumption) | assumption)
       obtain ⟨ad257, e257, hx257_0⟩ := Kd.at_int HR0.out x7_1 p257 q257
       cases e257
       replace p257 := eq_true p257
       replace q257 := eq_true q257
       go_wp2
       go_roundg k1
       case measure => have := HK1.out; omega
       case rel => exact ⟨(wrap64 (x7_1 + 1)), (by first | rfl | (simp; done) | (simp [*]; done)), H', ⟨by have := HK1.out; omega⟩, by repeat (first | exact Drawn0.refl _ | apply Drawn0.step)⟩
      ·rw [if_neg c5] at H
       have c5b0 : ((rd l0 x7_1) == 0) = false := beq_eq_false_iff_ne.mpr c5
       have c5b1 : ((rd l0 x7_1) != 0) = true := bne_iff_ne.mpr c5
       obtain rfl := Option.some.inj H
       have p257 : 0 ≤ (x7_1 : Int) := of_decide_eq_true (by first | (with_reducible assumption) | assumption)
       have q257 : x7_1 < (l0.length : Int) := of_decide_eq_true (by first | (with_reducible assumption) | assumption)
       obtain ⟨ad257, e257, hx257_0⟩ := Kd.at_int HR0.out x7_1 p257 q257
       cases e257
       replace p257 := eq_true p257
       replace q257 := eq_true q257
       go_wp2
       go_ret
       exact ⟨by first | rfl | (simp; done) | (simp [*]; done), by repeat (first | exact Drawn0.refl _ | apply Drawn0.step)⟩
     ·rw [if_neg c4] at H
      exact absurd H (by simp)
    ·rw [if_neg c3] at H
     exact absurd H (by simp)
   ·rw [if_neg c2] at H
    have c2b0 : decide (x7_1 < (l0.length : Int)) = false := decide_eq_false c2
    clear c2
    obtain rfl := Option.some.inj H
    go_wp2
    go_ret
    exact ⟨by first | rfl | (simp; done) | (simp [*]; done), by repeat (first | exact Drawn0.refl _ | apply Drawn0.step)⟩

/-! ### impl_SizeFault: function 55 -/
def impl_SizeFault.f (a0 : Int) : Option (Int) := if a0 = 4 then (some 0) else (if a0 = 8 then (some 0) else (if a0 = 16 then (some 0) else (some 3)))
set_option maxHeartbeats 8000000 in
set_option maxRecDepth 100000 in
theorem impl_SizeFault.calls (a0 : Int) (r : Int) (w : World) (h : impl_SizeFault.f a0 = some r) :
  Calls Try.prog 55 #[.int .i64 a0] w fun e w' => e = .returned (.int .i64 r) ∧ Drawn0 w w' := by
 have H : (if a0 = 4 then (some 0) else (if a0 = 8 then (some 0) else (if a0 = 16 then (some 0) else (some 3)))) = some r := h
 clear h
 by_cases c2 : a0 = 4
 ·rw [if_pos c2] at H
  have c2b0 : (a0 == 4) = true := beq_iff_eq.mpr c2
  have c2b1 : (a0 != 4) = false := bne_eq_false_iff_eq.mpr c2
  clear c2
  obtain rfl := Option.some.inj H
  go_enter Try.func55, Try.ntmps55
  go_wp2
  go_ret
  exact ⟨by first | rfl | (simp; done) | (simp [*]; done), by repeat (first | exact Drawn0.refl _ | apply Drawn0.step)⟩
 ·rw [if_neg c2] at H
  have c2b0 : (a0 == 4) = false := beq_eq_false_iff_ne.mpr c2
  have c2b1 : (a0 != 4) = true := bne_iff_ne.mpr c2
  by_cases c3 : a0 = 8
  ·rw [if_pos c3] at H
   have c3b0 : (a0 == 8) = true := beq_iff_eq.mpr c3
   have c3b1 : (a0 != 8) = false := bne_eq_false_iff_eq.mpr c3
   clear c3
   obtain rfl := Option.some.inj H
   go_enter Try.func55, Try.ntmps55
   go_wp2
   go_ret
   exact ⟨by first | rfl | (simp; done) | (simp [*]; done), by repeat (first | exact Drawn0.refl _ | apply Drawn0.step)⟩
  ·rw [if_neg c3] at H
   have c3b0 : (a0 == 8) = false := beq_eq_false_iff_ne.mpr c3
   have c3b1 : (a0 != 8) = true := bne_iff_ne.mpr c3
   by_cases c4 : a0 = 16
   ·rw [if_pos c4] at H
    have c4b0 : (a0 == 16) = true := beq_iff_eq.mpr c4
    have c4b1 : (a0 != 16) = false := bne_eq_false_iff_eq.mpr c4
    clear c4
    obtain rfl := Option.some.inj H
    go_enter Try.func55, Try.ntmps55
    go_wp2
    go_ret
    exact ⟨by first | rfl | (simp; done) | (simp [*]; done), by repeat (first | exact Drawn0.refl _ | apply Drawn0.step)⟩
   ·rw [if_neg c4] at H
    have c4b0 : (a0 == 16) = false := beq_eq_false_iff_ne.mpr c4
    have c4b1 : (a0 != 16) = true := bne_iff_ne.mpr c4
    obtain rfl := Option.some.inj H
    go_enter Try.func55, Try.ntmps55
    go_wp2
    go_ret
    exact ⟨by first | rfl | (simp; done) | (simp [*]; done), by repeat (first | exact Drawn0.refl _ | apply Drawn0.step)⟩

end Go.Proofs.Ytmhnpogjkbmmnaa.PFnExactFeedFrame
