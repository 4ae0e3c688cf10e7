-- Written by a program of this session: wip/mkprint.py over the kit's print, with contracts proved by hand (wip/given.py)
-- shortened
-- told short
-- squeezed
import Derived.Test.YtjdgebfihbhbaaaPFnExactPlayBlockx0
import Derived.Test.YtjdgebfihbhbaaaPFnExactPlayBlockx1
import Derived.Test.YtjdgebfihbhbaaaPFnExactPlayBlockx2
import Derived.Test.YtjdgebfihbhbaaaPFnExactPlayBlockx4
namespace Go.Proofs.Ytjdgebfihbhbaaa.PFnExactPlayBlock
open Go.RowKit Go.Proofs.YtjdgebfihbhbaaaW.PrintWords Go.Proofs.YtjdgebfihbhbaaaW.PrintLast Go.Proofs.YtjdgebfihbhbaaaW.PrintMore
open Go.Proofs.YtjdgebfihbhbaaaW.PrintWords.Kd renaming R_alloc → rA, R_drewN → rN, R_drew → rD, R_far → rF, R_mono → rM, R_base → rB, R_new' → rW, R_below → rL, R_lt → rT, R_lower → rG, R_elder' → rH, R_reads' → rR, C_alloc → cA, C_drewN → cN, C_drew → cD, C_below → cB
open Go.Proofs.YtjdgebfihbhbaaaW.PrintMore.Kd renaming R_told → rO, R_old → rE
open Go.Proofs.YtjdgebfihbhbaaaW.PrintWords renaming below_alloc → bA, pw_below_drewN → bN, below_drew1 → bD, below_set → bS, below_step → bT, below_size → bZ, blk_drewN → kN, blk_drew → kD, blk_alloc → kA, blk_below → kB, blk_cell → kC, blk_frozen → kF
open Go.Proofs.YtjdgebfihbhbaaaW.PrintWords.Aside0 renaming mk → aM
attribute [local go_sem] max2_int min2_int max_two min_two max_three min_three max_four min_four   -- for this text's walks alone
set_option linter.unusedVariables false
set_option linter.unusedSimpArgs false

/-- A state of type 35 at block g of W; what its slices lead to came in by w0. -/
def IsS35 (w0 W : World) (g : Nat) (f0 : Int) (f1 : List Int) (f2 : List Int) : Prop := ∃ A1 c1, ∃ A2 c2, W.heap[g]? = some (.cells #[.int .i64 f0, .slice A1 f1.length c1, .slice A2 f2.length c2] 35 (0, 0)) ∧ w0.heap.size ≤ g ∧ Kd.C (Kd.int .i64) w0 A1 f1.length f1 ∧ Kd.C (Kd.int .i64) w0 A2 f2.length f2 ∧ f1.length ≤ c1 ∧ f2.length ≤ c2
theorem IsS35.grown {w0 W : World} {g : Nat} {f0 : Int} {f1 : List Int} {f2 : List Int} {W1 : World} {row : Option Nat} (h : IsS35 w0 W g f0 f1 f2) (hw : W.grownBy W1 row) (hne : some g ≠ row) : IsS35 w0 W1 g f0 f1 f2 := by
 obtain ⟨A1, c1, A2, c2, hb, hg, hr1, hr2, hq1, hq2⟩ := h
 exact ⟨A1, c1, A2, c2, blk_grown hb hw hne, hg, hr1, hr2, hq1, hq2⟩
theorem IsS35.own_neN {w0 W : World} {g : Nat} {f0 : Int} {f1 : List Int} {f2 : List Int} {α : Type} {d : Kd α} {e : Nat} {base : Nat} {ok : Nat → Prop} {v : Value} {xs : List α} (h : IsS35 w0 W g f0 f1 f2) (ho : Kd.N d e W base ok v xs) (ht : e ≠ 35) : some g ≠ v.ownBlock := by
 obtain ⟨A1, c1, A2, c2, hb, hg, hr1, hr2, hq1, hq2⟩ := h
 exact Kd.N_ne ho hb ht
theorem IsS35.fresh {w0 W : World} {g : Nat} {f0 : Int} {f1 : List Int} {f2 : List Int} (h : IsS35 w0 W g f0 f1 f2) : ∀ k, W.heap.size ≤ k → k ≠ g := by
 obtain ⟨A1, c1, A2, c2, hb, hg, hr1, hr2, hq1, hq2⟩ := h
 exact Kd.freshB hb
theorem IsS35.kept {w0 W : World} {g : Nat} {f0 : Int} {f1 : List Int} {f2 : List Int} {W1 : World} {S : Nat → Prop} (h : IsS35 w0 W g f0 f1 f2) (hk : Kept W W1 S) (hne : ¬ S g) : IsS35 w0 W1 g f0 f1 f2 := by
 obtain ⟨A1, c1, A2, c2, hb, hg, hr1, hr2, hq1, hq2⟩ := h
 exact ⟨A1, c1, A2, c2, blk_kept hb hk hne, hg, hr1, hr2, hq1, hq2⟩
theorem IsS35.below {w0 W : World} {g : Nat} {f0 : Int} {f1 : List Int} {f2 : List Int} {W1 : World} (h : IsS35 w0 W g f0 f1 f2) (hw : Below W.heap.size W W1) : IsS35 w0 W1 g f0 f1 f2 := h.grown (grown_of_below hw none) (by simp)
theorem IsS35.alloc {w0 W : World} {g : Nat} {f0 : Int} {f1 : List Int} {f2 : List Int} (h : IsS35 w0 W g f0 f1 f2) (o : Obj) : IsS35 w0 (W.alloc o) g f0 f1 f2 := h.below (bA (Below.refl _ _) o)
theorem IsS35.drewN {w0 W : World} {g : Nat} {f0 : Int} {f1 : List Int} {f2 : List Int} (h : IsS35 w0 W g f0 f1 f2) (m : Nat) : IsS35 w0 (W.drewN m) g f0 f1 f2 := h
theorem IsS35.drew {w0 W : World} {g : Nat} {f0 : Int} {f1 : List Int} {f2 : List Int} (h : IsS35 w0 W g f0 f1 f2) : IsS35 w0 W.drew g f0 f1 f2 := h
theorem IsS35.at_ {w0 W : World} {g : Nat} {f0 : Int} {f1 : List Int} {f2 : List Int} {w' : World} {m : Nat} (hq : W.drewN m = w') (h : IsS35 w0 W g f0 f1 f2) : IsS35 w0 w' g f0 f1 f2 := by subst hq; exact IsS35.drewN h m
theorem IsS35.apart {w0 W : World} {g : Nat} {f0 : Int} {f1 : List Int} {f2 : List Int} {α : Type} {d : Kd α} {e : Nat} {base : Nat} {ok : Nat → Prop} {v : Value} {xs : List α} (h : IsS35 w0 W g f0 f1 f2) (ho : d.R e W base ok v xs) (ht : ∀ q, q ∈ e :: d.E → q ≠ 35) : d.R e W base (fun k => ok k ∧ k ≠ g) v xs := by
 obtain ⟨A1, c1, A2, c2, hb, hg, hr1, hr2, hq1, hq2⟩ := h
 exact Kd.R_types ho hb ht
theorem IsS35.own_ne {w0 W : World} {g : Nat} {f0 : Int} {f1 : List Int} {f2 : List Int} {α : Type} {d : Kd α} {e : Nat} {base : Nat} {ok : Nat → Prop} {v : Value} {xs : List α} (h : IsS35 w0 W g f0 f1 f2) (ho : d.R e W base ok v xs) (ht : e ≠ 35) : some g ≠ v.ownBlock := by
 obtain ⟨A1, c1, A2, c2, hb, hg, hr1, hr2, hq1, hq2⟩ := h
 exact Kd.R_ne ho hb ht
theorem IsS35.apartQ {w0 W : World} {g : Nat} {f0 : Int} {f1 : List Int} {f2 : List Int} {α : Type} {d : Kd α} {e : Nat} {base : Nat} {ok : Nat → Prop} {v : Value} {xs : List α} (h : IsS35 w0 W g f0 f1 f2) (ho : d.Q e W base ok v xs) (ht : ∀ q, q ∈ e :: d.E → q ≠ 35) : d.Q e W base (fun k => ok k ∧ k ≠ g) v xs := by
 obtain ⟨A1, c1, A2, c2, hb, hg, hr1, hr2, hq1, hq2⟩ := h
 exact Kd.Q_types ho hb ht
theorem IsS35.own_neQ {w0 W : World} {g : Nat} {f0 : Int} {f1 : List Int} {f2 : List Int} {α : Type} {d : Kd α} {e : Nat} {base : Nat} {ok : Nat → Prop} {v : Value} {xs : List α} (h : IsS35 w0 W g f0 f1 f2) (ho : d.Q e W base ok v xs) (ht : e ≠ 35) : some g ≠ v.ownBlock := by
 obtain ⟨A1, c1, A2, c2, hb, hg, hr1, hr2, hq1, hq2⟩ := h
 exact Kd.Q_ne ho hb ht
theorem IsS35.apartS {w0 W : World} {g : Nat} {f0 : Int} {f1 : List Int} {f2 : List Int} {α : Type} {d : Kd α} {e : Nat} {base : Nat} {ok : Nat → Prop} {v : Value} {xs : List α} (h : IsS35 w0 W g f0 f1 f2) (ho : d.S e W base ok v xs) (ht : ∀ q, q ∈ e :: d.E → q ≠ 35) : d.S e W base (fun k => ok k ∧ k ≠ g) v xs := by
 obtain ⟨A1, c1, A2, c2, hb, hg, hr1, hr2, hq1, hq2⟩ := h
 exact Kd.S_types ho hb ht
theorem IsS35.own_neS {w0 W : World} {g : Nat} {f0 : Int} {f1 : List Int} {f2 : List Int} {α : Type} {d : Kd α} {e : Nat} {base : Nat} {ok : Nat → Prop} {v : Value} {xs : List α} (h : IsS35 w0 W g f0 f1 f2) (ho : d.S e W base ok v xs) (ht : e ≠ 35) : some g ≠ v.ownBlock := by
 obtain ⟨A1, c1, A2, c2, hb, hg, hr1, hr2, hq1, hq2⟩ := h
 exact Kd.S_ne ho hb ht
theorem IsS35.lt {w0 W : World} {g : Nat} {f0 : Int} {f1 : List Int} {f2 : List Int} (h : IsS35 w0 W g f0 f1 f2) : g < W.heap.size := by
 obtain ⟨A1, c1, A2, c2, hb, hg, hr1, hr2, hq1, hq2⟩ := h
 exact blk_lt hb
theorem IsS35.ge {w0 W : World} {g : Nat} {f0 : Int} {f1 : List Int} {f2 : List Int} (h : IsS35 w0 W g f0 f1 f2) : w0.heap.size ≤ g := by
 obtain ⟨A1, c1, A2, c2, hb, hg, hr1, hr2, hq1, hq2⟩ := h
 exact hg
theorem IsS35.ne_blk {w0 W : World} {g : Nat} {f0 : Int} {f1 : List Int} {f2 : List Int} {a : Nat} {cs : Array Value} {t : TypeId} {fr : Nat × Nat} (h : IsS35 w0 W g f0 f1 f2) (hb2 : W.heap[a]? = some (.cells cs t fr)) (ht : t ≠ 35) : g ≠ a := by
 obtain ⟨A1, c1, A2, c2, hb, hg, hr1, hr2, hq1, hq2⟩ := h
 rintro rfl
 rw [hb] at hb2
 injection hb2 with hb2
 injection hb2 with _ ht2
 exact ht ht2.symm
theorem IsS35.far {w0 W : World} {g : Nat} {f0 : Int} {f1 : List Int} {f2 : List Int} {p : Addr} (h : IsS35 w0 W g f0 f1 f2) (hne : g ≠ p.block) (u : Value) : IsS35 w0 (W.setCell p u) g f0 f1 f2 := by
 obtain ⟨A1, c1, A2, c2, hb, hg, hr1, hr2, hq1, hq2⟩ := h
 exact ⟨A1, c1, A2, c2, blk_far hb hne u, hg, hr1, hr2, hq1, hq2⟩
theorem cellS35_0 {W : World} {g : Nat} {A1 : Option Addr} {c1 : Nat} {A2 : Option Addr} {c2 : Nat} {f0 : Int} {f1 : List Int} {f2 : List Int} (h : W.heap[g]? = some (.cells #[.int .i64 f0, .slice A1 f1.length c1, .slice A2 f2.length c2] 35 (0, 0))) : W.cell? ⟨g, 0, none⟩ = some (.int .i64 f0) := (kC h 0).trans rfl
theorem IsS35.set_0 {w0 W : World} {g : Nat} {f0 : Int} {f1 : List Int} {f2 : List Int} (h : IsS35 w0 W g f0 f1 f2) (x : Int) : IsS35 w0 (W.setCell ⟨g, 0, none⟩ (.int .i64 x)) g x f1 f2 := by
 obtain ⟨A1, c1, A2, c2, hb, hg, hr1, hr2, hq1, hq2⟩ := h
 exact ⟨A1, c1, A2, c2, by simpa using blk_set hb 0 (.int .i64 x), hg, hr1, hr2, hq1, hq2⟩
theorem cellS35_1 {W : World} {g : Nat} {A1 : Option Addr} {c1 : Nat} {A2 : Option Addr} {c2 : Nat} {f0 : Int} {f1 : List Int} {f2 : List Int} (h : W.heap[g]? = some (.cells #[.int .i64 f0, .slice A1 f1.length c1, .slice A2 f2.length c2] 35 (0, 0))) : W.cell? ⟨g, 1, none⟩ = some (.slice A1 f1.length c1) := (kC h 1).trans rfl
theorem cellS35_2 {W : World} {g : Nat} {A1 : Option Addr} {c1 : Nat} {A2 : Option Addr} {c2 : Nat} {f0 : Int} {f1 : List Int} {f2 : List Int} (h : W.heap[g]? = some (.cells #[.int .i64 f0, .slice A1 f1.length c1, .slice A2 f2.length c2] 35 (0, 0))) : W.cell? ⟨g, 2, none⟩ = some (.slice A2 f2.length c2) := (kC h 2).trans rfl
theorem IsS35.new (w0 W : World) (A1 : Option Addr) (c1 : Nat) (A2 : Option Addr) (c2 : Nat) (f0 : Int) (f1 : List Int) (f2 : List Int) (hB : Below w0.heap.size w0 W) (hr1 : Kd.C (Kd.int .i64) w0 A1 f1.length f1) (hr2 : Kd.C (Kd.int .i64) w0 A2 f2.length f2) (hq1 : f1.length ≤ c1) (hq2 : f2.length ≤ c2) : IsS35 w0 (W.alloc (.cells #[.int .i64 f0, .slice A1 f1.length c1, .slice A2 f2.length c2] 35)) W.heap.size f0 f1 f2 := ⟨A1, c1, A2, c2, by simpa using heap_alloc_new W _, hB.size, hr1, hr2, hq1, hq2⟩

/-! ### spec_l7Play: function 59 -/
def spec_l7Play.f (k : Nat) (s0_0 : Int) (s0_1 : List Int) (s0_2 : List Int) (l1 : List Int) : Option (Int × List Int × List Int × List Int × Int) := (spec_l6Gather.f k l1).bind fun t207 => (if 0 ≤ (wrap64 (Int.tdiv s0_0 2)) then (if (wrap64 (Int.tdiv s0_0 2)) ≤ (t207.length : Int) then ((spec_l7Seam.f k s0_0 s0_2 (t207.take ((wrap64 (Int.tdiv s0_0 2)) : Int).toNat) true).bind fun bt214 => ((spec_l1Ints.f (t207.drop ((wrap64 (Int.tdiv s0_0 2)) : Int).toNat)).bind fun t224 => ((spec_l1Ints.f s0_1).bind fun t227 => (if t227.length + bt214.1.length < 17592186044416 then (some (s0_0, bt214.2, t224, (t227 ++ bt214.1), s0_0)) else (none))))) else (none)) else (none))
theorem spec_l7Play.mono : ∀ a0 a1 a2 a3 k, LeO (spec_l7Play.f k a0 a1 a2 a3) (spec_l7Play.f (k + 1) a0 a1 a2 a3) := by
 intro a0 a1 a2 a3 k
 unfold spec_l7Play.f
 repeat' first
   | (with_reducible exact spec_l6Gather.mono _ _)
   | (with_reducible exact spec_l7Seam.mono _ _ _ _ _)
   | (with_reducible exact LeO.refl _)
   | (with_reducible exact LeO.none _)
   | (with_reducible refine LeO.ite ?_ ?_)
   | (with_reducible refine LeO.bind ?_ (fun _ => ?_))
   | exact spec_l6Gather.mono _ _
   | exact spec_l7Seam.mono _ _ _ _ _
   | exact LeO.none _
   | refine LeO.ite ?_ ?_
   | refine LeO.bind ?_ (fun _ => ?_)
def spec_l7Play.T3 : Bool × List (List Nat × List Nat) := (true, [([], []), ([0], [0]), ([1], [1]), ([2], [2]), ([], []), ([4], [4]), ([5], [5]), ([6], [6]), ([], []), ([], []), ([8, 9], [8, 9]), ([3, 7, 10], [3, 7, 10]), ([11], [11]), ([12], [12]), ([12], [12]), ([13, 11, 0, 1, 2, 3, 4, 5, 6, 7, 8, 9, 10, 11, 12, 13], [13]), ([14, 15, 0, 1, 2, 3, 4, 5, 6, 7, 8, 9, 10, 11, 12, 13, 14, 15], [14])])
def spec_l7Play.B3 : List Nat := [0, 1, 3, 7, 0, 16, 48, 112, 0, 0, 768, 2047, 4095, 8191, 8191, 16383, 65535]
theorem spec_l7Play.tab3 : rtab .any (opsOf Try.f59 3) = spec_l7Play.T3 := by kernel_rfl
theorem spec_l7Play.bits3 : waitsOk spec_l7Play.T3.2 spec_l7Play.B3 = true := by kernel_rfl
def spec_l7Play.T4 : Bool × List (List Nat × List Nat) := (true, [([], []), ([0], [0]), ([1], [1]), ([2], [2]), ([], []), ([], []), ([], []), ([5, 6], [5, 6]), ([7], [7]), ([3, 4, 8], [3, 4, 8]), ([], []), ([10], [10]), ([11], [11]), ([12], [12]), ([13, 8], [13]), ([], []), ([14, 15, 14], [14, 15]), ([9, 16, 0, 1, 2, 3, 4, 5, 6, 7, 8, 9], [9]), ([16, 17, 0, 1, 2, 3, 4, 5, 6, 7, 8, 9, 10, 11, 12, 13, 14, 15, 16, 17], [16])])
def spec_l7Play.B4 : List Nat := [0, 1, 3, 7, 0, 0, 0, 96, 224, 511, 0, 1024, 3072, 7168, 15840, 0, 64992, 131071, 262143]
theorem spec_l7Play.tab4 : rtab .any (opsOf Try.f59 4) = spec_l7Play.T4 := by kernel_rfl
theorem spec_l7Play.bits4 : waitsOk spec_l7Play.T4.2 spec_l7Play.B4 = true := by kernel_rfl
set_option maxHeartbeats 8000000 in
set_option maxRecDepth 100000 in
theorem spec_l7Play.calls (k : Nat) (g : Nat) (s0_0 : Int) (s0_1 : List Int) (s0_2 : List Int) (A1 : Option Addr) (c1 : Nat) (l1 : List Int) (r1 : Int) (r2 : List Int) (r3 : List Int) (r4 : List Int) (r5 : Int) (w0 w : World) (hI : IsS35 w0 w g s0_0 s0_1 s0_2) (hB : Below w0.heap.size w0 w) (hr1 : Kd.C (Kd.int .i64) w A1 l1.length l1) (hc1 : l1.length ≤ c1) (hf1 : ∀ ad, A1 = some ad → 0 < l1.length → ad.block ≠ g) (h : spec_l7Play.f k s0_0 s0_1 s0_2 l1 = some (r1, r2, r3, r4, r5)) :
  Calls Try.prog 59 #[.pointer (some ⟨g, 0, none⟩), .slice A1 l1.length c1] w fun e w' => ∃ v1_ v2_ v3_ : Value, e = .returned (.tuple #[.agg #[.int .i64 r1, v1_, v2_], v3_]) ∧ Kd.R (Kd.int .i64) 2 w' w.heap.size (fun k_ => some k_ ≠ (v2_ : Value).ownBlock ∧ some k_ ≠ (v3_ : Value).ownBlock) v1_ r2 ∧ Kd.R (Kd.int .i64) 2 w' w.heap.size (fun k_ => some k_ ≠ (v1_ : Value).ownBlock ∧ some k_ ≠ (v3_ : Value).ownBlock) v2_ r3 ∧ Kd.R (Kd.int .i64) 2 w' w.heap.size (fun k_ => some k_ ≠ (v1_ : Value).ownBlock ∧ some k_ ≠ (v2_ : Value).ownBlock) v3_ r4 ∧ IsS35 w0 w' g r5 s0_1 s0_2 ∧ Below w0.heap.size w0 w' ∧ KeepBut w w' g none := by
 have hu35 := Try.underlying35
 have HR1 := aM hr1
 have HC1 := aM hc1
 clear hr1 hc1
 have HI0 := aM hI
 have HK := aM (KeepBut.refl w g none)
 have HL := aM hB.size
 clear hI
 have HW0 := aM hB.size
 have HB := aM hB
 clear hB
 have H : ((spec_l6Gather.f k l1).bind fun t207 => (if 0 ≤ (wrap64 (Int.tdiv s0_0 2)) then (if (wrap64 (Int.tdiv s0_0 2)) ≤ (t207.length : Int) then ((spec_l7Seam.f k s0_0 s0_2 (t207.take ((wrap64 (Int.tdiv s0_0 2)) : Int).toNat) true).bind fun bt214 => ((spec_l1Ints.f (t207.drop ((wrap64 (Int.tdiv s0_0 2)) : Int).toNat)).bind fun t224 => ((spec_l1Ints.f s0_1).bind fun t227 => (if t227.length + bt214.1.length < 17592186044416 then (some (s0_0, bt214.2, t224, (t227 ++ bt214.1), s0_0)) else (none))))) else (none)) else (none))) = some (r1, r2, r3, r4, r5) := h
 clear h
 replace H := Option.bind_eq_some_iff.mp H
 obtain ⟨t207, A30, H⟩ := H
 replace H : (if 0 ≤ (wrap64 (Int.tdiv s0_0 2)) then (if (wrap64 (Int.tdiv s0_0 2)) ≤ (t207.length : Int) then ((spec_l7Seam.f k s0_0 s0_2 (t207.take ((wrap64 (Int.tdiv s0_0 2)) : Int).toNat) true).bind fun bt214 => ((spec_l1Ints.f (t207.drop ((wrap64 (Int.tdiv s0_0 2)) : Int).toNat)).bind fun t224 => ((spec_l1Ints.f s0_1).bind fun t227 => (if t227.length + bt214.1.length < 17592186044416 then (some (s0_0, bt214.2, t224, (t227 ++ bt214.1), s0_0)) else (none))))) else (none)) else (none)) = some (r1, r2, r3, r4, r5) := H
 have A3 := aM A30
 clear A30
 obtain ⟨ji4, hji4⟩ : ∃ j_ : Int, (wrap64 (Int.tdiv s0_0 2)) = j_ := ⟨_, rfl⟩
 replace H : (if 0 ≤ (ji4) then (if (ji4) ≤ (t207.length : Int) then ((spec_l7Seam.f k s0_0 s0_2 (t207.take ((ji4) : Int).toNat) true).bind fun bt214 => ((spec_l1Ints.f (t207.drop ((ji4) : Int).toNat)).bind fun t224 => ((spec_l1Ints.f s0_1).bind fun t227 => (if t227.length + bt214.1.length < 17592186044416 then (some (s0_0, bt214.2, t224, (t227 ++ bt214.1), s0_0)) else (none))))) else (none)) else (none)) = some (r1, r2, r3, r4, r5) := by first | (rw [hji4] at H; exact H) | (simp only [hji4] at H ⊢; exact H)
 (try rw [hji4] at A3)
 have hji4w : (IntKind.i64.wrap (Int.tdiv s0_0 2)) = ji4 := (i64_w _).trans hji4
 by_cases c5 : 0 ≤ (ji4)
 ·rw [if_pos c5] at H
  have c5b0 := eq_true c5
  have c5b1 : decide (0 ≤ (ji4)) = true := decide_eq_true c5
  clear c5
  by_cases c6 : (ji4) ≤ (t207.length : Int)
  ·rw [if_pos c6] at H
   have c6b0 := eq_true c6
   have c6b1 : decide ((ji4) ≤ (t207.length : Int)) = true := decide_eq_true c6
   clear c6
   obtain ⟨y210, hy210⟩ : ∃ y_ : List Int, y_ = (t207.take ((ji4) : Int).toNat) := ⟨_, rfl⟩
   replace H : ((spec_l7Seam.f k s0_0 s0_2 y210 true).bind fun bt214 => ((spec_l1Ints.f (t207.drop ((ji4) : Int).toNat)).bind fun t224 => ((spec_l1Ints.f s0_1).bind fun t227 => (if t227.length + bt214.1.length < 17592186044416 then (some (s0_0, bt214.2, t224, (t227 ++ bt214.1), s0_0)) else (none))))) = some (r1, r2, r3, r4, r5) := by first | (rw [hy210]; with_reducible exact H) | (have H2_ := (Option.bind_some _ _).symm.trans H; rw [hy210]; with_reducible exact H2_) | (have H2_ := (Option.bind_some _ _).symm.trans H; with_reducible exact H2_) | with_reducible exact H | (rw [hy210]; exact H) | exact H
   have Ny210 := aM hy210
   clear hy210
   replace H := Option.bind_eq_some_iff.mp H
   obtain ⟨⟨t214, t215⟩, A70, H⟩ := H
   replace H : ((spec_l1Ints.f (t207.drop ((ji4) : Int).toNat)).bind fun t224 => ((spec_l1Ints.f s0_1).bind fun t227 => (if t227.length + t214.length < 17592186044416 then (some (s0_0, t215, t224, (t227 ++ t214), s0_0)) else (none)))) = some (r1, r2, r3, r4, r5) := H
   have A7 := aM A70
   clear A70
   have c8b0 := eq_true (of_decide_eq_true (by first | (with_reducible assumption) | assumption) : 0 ≤ (ji4))
   have c9b0 := eq_true (of_decide_eq_true (by first | (with_reducible assumption) | assumption) : (ji4) ≤ (t207.length : Int))
   obtain ⟨y220, hy220⟩ : ∃ y_ : List Int, y_ = (t207.drop ((ji4) : Int).toNat) := ⟨_, rfl⟩
   replace H : ((spec_l1Ints.f y220).bind fun t224 => ((spec_l1Ints.f s0_1).bind fun t227 => (if t227.length + t214.length < 17592186044416 then (some (s0_0, t215, t224, (t227 ++ t214), s0_0)) else (none)))) = some (r1, r2, r3, r4, r5) := by first | (rw [hy220]; with_reducible exact H) | (have H2_ := (Option.bind_some _ _).symm.trans H; rw [hy220]; with_reducible exact H2_) | (have H2_ := (Option.bind_some _ _).symm.trans H; with_reducible exact H2_) | with_reducible exact H | (rw [hy220]; exact H) | exact H
   have Ny220 := aM hy220
   clear hy220
   replace H := Option.bind_eq_some_iff.mp H
   obtain ⟨t224, A100, H⟩ := H
   replace H : ((spec_l1Ints.f s0_1).bind fun t227 => (if t227.length + t214.length < 17592186044416 then (some (s0_0, t215, t224, (t227 ++ t214), s0_0)) else (none))) = some (r1, r2, r3, r4, r5) := H
   have A10 := aM A100
   clear A100
   replace H := Option.bind_eq_some_iff.mp H
   obtain ⟨t227, A110, H⟩ := H
   replace H : (if t227.length + t214.length < 17592186044416 then (some (s0_0, t215, t224, (t227 ++ t214), s0_0)) else (none)) = some (r1, r2, r3, r4, r5) := H
   have A11 := aM A110
   clear A110
   by_cases c12 : t227.length + t214.length < 17592186044416
   ·rw [if_pos c12] at H
    have LMc12 := aM c12
    clear c12
    obtain ⟨y230, hy230⟩ : ∃ y_ : List Int, y_ = (t227 ++ t214) := ⟨_, rfl⟩
    replace H : (some (s0_0, t215, t224, y230, s0_0)) = some (r1, r2, r3, r4, r5) := by first | (rw [hy230]; with_reducible exact H) | (have H2_ := (Option.bind_some _ _).symm.trans H; rw [hy230]; with_reducible exact H2_) | (have H2_ := (Option.bind_some _ _).symm.trans H; with_reducible exact H2_) | with_reducible exact H | (rw [hy230]; exact H) | exact H
    have Ny230 := aM hy230
    clear hy230
    simp only [Option.some.injEq, Prod.mk.injEq] at H
    obtain ⟨rfl, rfl, rfl, rfl, rfl⟩ := H
    go_enter Try.func59, Try.ntmps59
    try go_wp2_with (first | ((with_reducible refine gate_dst (N := 4) rfl ?_); refine box_event ?hg (N := 4) ?hd (cs := #[.int .i64 0, .slice none 0 0, .slice none 0 0]) (t := 35) ?hr ?_; (case hd => rfl); (case hg => rfl); (case hr => first | (go_simp; done) | (go_simp; rfl)); intro gb206 hg w13 hbox hb; have n0_ := aM (IsS35.below (by repeat (first | (with_reducible first | exact HI0.out | apply IsS35.alloc | apply IsS35.drewN | apply IsS35.drew | apply IsS35.set_0) | exact HI0.out)) hb); have n1_ := aM (KeepBut.trans (by repeat (first | (with_reducible first | exact HK.out | apply KeepBut.set_ | apply keep_drewN | apply keep_drew | apply keep_alloc) | exact HK.out)) (KeepBut.of_below hb g none) (.inl rfl)); have n2_ := aM (bT (by repeat (first | (with_reducible first | exact HB.out | apply bA | apply bN | apply bD | refine bS ?_ (IsS35.ge HI0.out)) | exact HB.out)) hb); have n3_ := aM (hbox); have n4_ := aM ((by rw [hg]; exact (keep_size (w := w) (g := g) (row := none) (by repeat (first | (with_reducible first | exact HK.out | apply KeepBut.set_ | apply keep_drewN | apply keep_drew | apply keep_alloc) | exact HK.out))) : w.heap.size ≤ gb206)); have n5_ := aM ((Nat.le_trans HW0.out (by rw [hg]; exact (keep_size (w := w) (g := g) (row := none) (by repeat (first | (with_reducible first | exact HK.out | apply KeepBut.set_ | apply keep_drewN | apply keep_drew | apply keep_alloc) | exact HK.out))) : w.heap.size ≤ gb206) : w0.heap.size ≤ gb206)); have n6_ := aM ((by rw [hg]; exact Nat.ne_of_lt (IsS35.lt (show IsS35 w0 _ g s0_0 s0_1 s0_2 from by repeat (first | (with_reducible first | exact HI0.out | apply IsS35.alloc | apply IsS35.drewN | apply IsS35.drew | apply IsS35.set_0) | exact HI0.out))) : g ≠ gb206)); have n7_ := aM ((by rw [hg]; exact Nat.ne_of_gt (IsS35.lt (show IsS35 w0 _ g s0_0 s0_1 s0_2 from by repeat (first | (with_reducible first | exact HI0.out | apply IsS35.alloc | apply IsS35.drewN | apply IsS35.drew | apply IsS35.set_0) | exact HI0.out))) : gb206 ≠ g)); clear HI0 HK HB; have HI0 := n0_; have HK := n1_; have HB := n2_; have BK206 := n3_; have GW206 := n4_; have GE206 := n5_; have NB0_206 := n6_; have NB206_0 := n7_; clear n0_ n1_ n2_ n3_ n4_ n5_ n6_ n7_ hb hbox hg; obtain ⟨ASz14_1, cSz14_1, ASz14_2, cSz14_2, HGz14, hgz14, HSz14_1, HSz14_2, HCSz14_1, HCSz14_2⟩ := HI0.out; have hcz14_0 := cellS35_0 HGz14; have hcz14_1 := cellS35_1 HGz14; have hcz14_2 := cellS35_2 HGz14; have hfz14_0 := kF HGz14 0; clear HGz14 hgz14) | ((with_reducible refine gate_callee (f := 103) rfl ?_); refine goesL_ (some 16) rfl rfl Try.func103 (by kernel_rfl) rfl #[.slice A1 l1.length c1] rfl mq ?_; (with_reducible refine (spec_l6Gather.calls k _ _ l1 t207 _ ?side1 ?side2 A3.out).mono ?_); (case side1 => exact Kd.C_keep 0 HR1.out (by repeat (first | (with_reducible first | exact HK.out | apply KeepBut.set_ | apply keep_drewN | apply keep_drew | apply keep_alloc | refine keep_far ?_ GW206.out _) | exact HK.out)) hf1); (case side2 => exact HC1.out); rintro e w15 ⟨v208, rfl, ho0, hb⟩; refine ⟨_, rfl, ?_⟩; have n0_ := aM (rG ho0 (keep_size (w := w) (g := g) (row := none) (by repeat (first | (with_reducible first | exact HK.out | apply KeepBut.set_ | apply keep_drewN | apply keep_drew | apply keep_alloc | refine keep_far ?_ GW206.out _) | exact HK.out)))); have n1_ := aM (IsS35.below (by repeat (first | (with_reducible first | exact HI0.out | apply IsS35.alloc | apply IsS35.drewN | apply IsS35.drew | apply IsS35.set_0 | refine IsS35.far ?_ NB0_206.out _) | exact HI0.out)) hb); have n2_ := aM (kB (g := gb206) (o := .cells #[.int .i64 0, .slice none 0 0, .slice none 0 0] 35 (0, 0)) (kq BK206.out) hb); have n3_ := aM (KeepBut.trans (by repeat (first | (with_reducible first | exact HK.out | apply KeepBut.set_ | apply keep_drewN | apply keep_drew | apply keep_alloc | refine keep_far ?_ GW206.out _) | exact HK.out)) (KeepBut.of_below hb g none) (.inl rfl)); have n4_ := aM (bT (by repeat (first | (with_reducible first | exact HB.out | apply bA | apply bN | apply bD | refine bS ?_ (IsS35.ge HI0.out) | refine bS ?_ GE206.out) | exact HB.out)) hb); clear HI0 BK206 HK HB; have HO209 := n0_; have HI0 := n1_; have BK206 := n2_; have HK := n3_; have HB := n4_; clear n0_ n1_ n2_ n3_ n4_; (try clear hb); (try clear ho0)))
    have n0_ := aM (rD HO209.out)
    have n1_ := aM (kD BK206.out)
    have n2_ := aM (IsS35.drew HI0.out)
    have n3_ := aM (keep_drew HK.out)
    have n4_ := aM (bD HB.out)
    clear HO209
    clear BK206
    clear HI0
    clear HK
    clear HB
    have HO209 := n0_
    have BK206 := n1_
    have HI0 := n2_
    have HK := n3_
    have HB := n4_
    clear n0_ n1_ n2_ n3_ n4_
    obtain ⟨Ao18, co18, eo18⟩ := Kd.R_slice HO209.out
    (first | subst eo18 | (injection eo18 with f1_ f2_ f3_; have f4_ := f1_.symm; have f5_ := f3_.symm; clear f1_ f2_ f3_; subst f4_; subst f5_))
    have q17 : ((ji4) : Int) ≤ ((t207.length : Int) : Int) := of_decide_eq_true (by first | (with_reducible assumption) | assumption)
    obtain ⟨i017, hi017, _, hsz17, _⟩ := info_parts info2
    have hroom17 : t207.length ≤ co18 := (rR HO209.out).2.1
    have hC17 : Kd.C (Kd.int .i64) _ Ao18 t207.length t207 := (rR HO209.out).2.2
    have hcut17 := cut_to (P := Try.prog) 22 2 .i64 Try.underlying22 hi017 Ao18 t207.length co18 (ji4) (of_decide_eq_true (by first | (with_reducible assumption) | assumption)) q17 hroom17
    have hr17 := Kd.C_take (m := ((ji4) : Int).toNat) hC17 (by omega)
    have hy17 : y210.length = ((ji4) : Int).toNat := (by rw [Ny210.out, List.length_take]; omega)
    rw [← Ny210.out] at hr17
    rw [← hy17] at hcut17
    have HR213 := aM hr17
    have HC213 := aM (show y210.length ≤ co18 from by omega)
    clear hr17 hC17 hroom17 hi017 hsz17
    have KY17 := aM hy17
    clear hy17
    have KL17 := aM (show ((ji4) : Int).toNat ≤ t207.length from by omega)
    replace q17 := eq_true q17
    obtain ⟨ASz19_1, cSz19_1, ASz19_2, cSz19_2, HGz19, hgz19, HSz19_1, HSz19_2, HCSz19_1, HCSz19_2⟩ := HI0.out
    refine start_ (n := 17) (S := fun w' => w'.cell? ⟨g, 2, none⟩ = some (.slice ASz19_2 s0_2.length cSz19_2) ∧ w'.cell? ⟨g, 0, none⟩ = some (.int .i64 s0_0)) (ds := []) #[N,N,N,N,N,N,N,N,N,N,N,N,N,N,N,N,N] (by kernel_rfl) rfl rfl ⟨(cellS35_2 HGz19), (by obtain ⟨_, _, _, _, HG_, _⟩ := HI0.out; exact cellS35_0 HG_)⟩ (fun hHeld => ?_); refine with_tabW spec_l7Play.tab3 spec_l7Play.bits3 (fun HT_ HW_ => ?_)
    generalize w15.drew = w16 at HO209 BK206 HI0 HK HB HR213 hHeld ⊢
    refine pure_ (i := 0) (N := some 18) (v := ?_) (a' := ?_) #[Y,N,N,N,N,N,N,N,N,N,N,N,N,N,N,N,N] rfl rfl (any_of HT_.out (by kernel_rfl)) (fun _ _ _ h => h) (Or.inl ⟨by rfl, ?_⟩) ?_ ?_
    rotate_left
    ·intro w'
     go_simp
     with_reducible rfl
    rotate_left
    ·simp only [Act.put, pa, pb, pc, i64_w, i32_w]
     rfl
    refine pure_ (i := 1) (N := some 19) (v := ?_) (a' := ?_) #[Y,Y,N,N,N,N,N,N,N,N,N,N,N,N,N,N,N] rfl rfl (any_of HT_.out (by kernel_rfl)) (fun _ _ _ h => h) (Or.inl ⟨by rfl, ?_⟩) ?_ ?_
    rotate_left
    ·intro w'
     go_simp
     with_reducible rfl
    rotate_left
    ·simp only [Act.put, pa, pb, pc, i64_w, i32_w]
     rfl
    refine pure_ (i := 2) (N := some 20) (v := ?_) (a' := ?_) #[Y,Y,Y,N,N,N,N,N,N,N,N,N,N,N,N,N,N] rfl rfl (any_of HT_.out (by kernel_rfl)) (fun _ _ _ h => h) (Or.inl ⟨by rfl, ?_⟩) ?_ ?_
    rotate_left
    ·intro w'
     go_simp
     with_reducible rfl
    rotate_left
    ·simp only [Act.put, pa, pb, pc, i64_w, i32_w]
     rfl
    refine pure_ (i := 4) (N := some 22) (v := ?_) (a' := ?_) #[Y,Y,Y,N,Y,N,N,N,N,N,N,N,N,N,N,N,N] rfl rfl (any_of HT_.out (by kernel_rfl)) (fun _ _ _ h => h) (Or.inl ⟨by rfl, ?_⟩) ?_ ?_
    rotate_left
    ·intro w'
     go_simp
     with_reducible rfl
    rotate_left
    ·simp only [Act.put, pa, pb, pc, i64_w, i32_w]
     rfl
    refine pure_ (i := 5) (N := some 23) (v := ?_) (a' := ?_) #[Y,Y,Y,N,Y,Y,N,N,N,N,N,N,N,N,N,N,N] rfl rfl (any_of HT_.out (by kernel_rfl)) (fun _ _ _ h => h) (Or.inl ⟨by rfl, ?_⟩) ?_ ?_
    rotate_left
    ·intro w'
     go_simp
     with_reducible rfl
    rotate_left
    ·simp only [Act.put, pa, pb, pc, i64_w, i32_w]
     rfl
    refine pure_ (i := 6) (N := some 24) (v := ?_) (a' := ?_) #[Y,Y,Y,N,Y,Y,Y,N,N,N,N,N,N,N,N,N,N] rfl rfl (any_of HT_.out (by kernel_rfl)) (fun _ _ _ h => h) (Or.inl ⟨by rfl, ?_⟩) ?_ ?_
    rotate_left
    ·intro w'
     go_simp
     with_reducible rfl
    rotate_left
    ·simp only [Act.put, pa, pb, pc, i64_w, i32_w]
     rfl
    refine pure_ (i := 8) (N := some 26) (v := ?_) (a' := ?_) #[Y,Y,Y,N,Y,Y,Y,N,Y,N,N,N,N,N,N,N,N] rfl rfl (any_of HT_.out (by kernel_rfl)) (fun _ _ _ h => h) (Or.inl ⟨by rfl, ?_⟩) ?_ ?_
    rotate_left
    ·intro w'
     go_simp
     with_reducible rfl
    rotate_left
    ·simp only [Act.put, pa, pb, pc, i64_w, i32_w]
     rfl
    refine pure_ (i := 9) (N := some 27) (v := ?_) (a' := ?_) #[Y,Y,Y,N,Y,Y,Y,N,Y,Y,N,N,N,N,N,N,N] rfl rfl (any_of HT_.out (by kernel_rfl)) (fun _ _ _ h => h) (Or.inl ⟨by rfl, ?_⟩) ?_ ?_
    rotate_left
    ·intro w'
     go_simp
     with_reducible rfl
    rotate_left
    ·simp only [Act.put, pa, pb, pc, i64_w, i32_w]
     rfl
    refine pure_ (i := 10) (N := some 28) (v := ?_) (a' := ?_) #[Y,Y,Y,N,Y,Y,Y,N,Y,Y,Y,N,N,N,N,N,N] rfl rfl (any_of HT_.out (by kernel_rfl)) (fun _ _ _ h => h) (Or.inl ⟨by rfl, ?_⟩) ?_ ?_
    rotate_left
    ·intro w'
     go_simp
     with_reducible rfl
    rotate_left
    ·simp only [Act.put, pa, pb, pc, i64_w, i32_w]
     rfl
    refine take_ (i := 3) (N := some 21) (v := ?_) (a' := ?_) #[Y,Y,Y,Y,Y,Y,Y,N,Y,Y,Y,N,N,N,N,N,N] rfl rfl (take_ofW HT_.out HW_.out (by kernel_rfl)) (fun _ _ _ h => h) (Or.inl ⟨by rfl, ?_⟩) hHeld ?_ ?_
    rotate_left
    ·rintro w' ⟨s0, s1⟩
     go_simp
     with_reducible rfl
    rotate_left
    ·simp only [Act.put, pa, pb, pc, i64_w, i32_w]
     rfl
    refine take_ (i := 7) (N := some 25) (v := ?_) (a' := ?_) #[Y,Y,Y,Y,Y,Y,Y,Y,Y,Y,Y,N,N,N,N,N,N] rfl rfl (take_ofW HT_.out HW_.out (by kernel_rfl)) (fun _ _ _ h => h) (Or.inl ⟨by rfl, ?_⟩) hHeld ?_ ?_
    rotate_left
    ·rintro w' ⟨s0, s1⟩
     go_simp
     with_reducible rfl
    rotate_left
    ·simp only [Act.put, pa, pb, pc, i64_w, i32_w]
     rfl
    refine one_ (i := 11) (N := some 29) #[Y,Y,Y,Y,Y,Y,Y,Y,Y,Y,Y,Y,N,N,N,N,N] rfl rfl (one_of HT_.out (by kernel_rfl)) (by decide) (fun K hK => ?_)
    refine goes_ Try.func104 (by kernel_rfl) rfl #[.int .i64 s0_0, .slice ASz19_2 s0_2.length cSz19_2, .slice Ao18 y210.length co18, .bool true] (by rfl) rfl rfl mq ?_
    with_reducible refine (spec_l7Seam.calls k s0_0 _ _ s0_2 _ _ y210 true t214 t215 _ ?side1 ?side2 ?side3 ?side4 A7.out).mono ?_
    (case side1 => exact cB HSz19_2 (by repeat (first | (with_reducible first | exact HB.out | apply bA | apply bN | apply bD | refine bS ?_ (IsS35.ge HI0.out) | refine bS ?_ GE206.out) | exact HB.out)))
    (case side2 => exact HCSz19_2)
    (case side3 => repeat (first | exact (by repeat (first | (with_reducible exact HR213.out) | (with_reducible refine cA ?_ _) | (with_reducible refine cN ?_ _) | (with_reducible refine cD ?_) | exact HR213.out)) | (with_reducible refine cA ?_ _) | (with_reducible refine cN ?_ _) | (with_reducible refine cD ?_)))
    (case side4 => exact HC213.out)
    rintro e w20 ⟨v216, v218, rfl, ho0, ho1, hb⟩
    have HS0_ := (hb.cell (World.block_lt_of_cell? _ _ (hHeld.1))).trans (hHeld.1)
    refine ⟨_, rfl, ?_⟩
    have n0_ := aM (rM (rO (rO (rE (rq HO209.out) hb) (rB ho0)) (rB ho1)) (fun _ h_ => h_.1))
    have n1_ := aM (rG (rW ho0 (rT (rq HO209.out))) (keep_size (w := w) (g := g) (row := none) (by repeat (first | (with_reducible first | exact HK.out | apply KeepBut.set_ | apply keep_drewN | apply keep_drew | apply keep_alloc | refine keep_far ?_ GW206.out _) | exact HK.out))))
    have n2_ := aM (rG (rW ho1 (rT (rq HO209.out))) (keep_size (w := w) (g := g) (row := none) (by repeat (first | (with_reducible first | exact HK.out | apply KeepBut.set_ | apply keep_drewN | apply keep_drew | apply keep_alloc | refine keep_far ?_ GW206.out _) | exact HK.out))))
    have n3_ := aM (IsS35.below (by repeat (first | (with_reducible first | exact HI0.out | apply IsS35.alloc | apply IsS35.drewN | apply IsS35.drew | apply IsS35.set_0 | refine IsS35.far ?_ NB0_206.out _) | exact HI0.out)) hb)
    have n4_ := aM (kB (g := gb206) (o := .cells #[.int .i64 0, .slice none 0 0, .slice none 0 0] 35 (0, 0)) (kq BK206.out) hb)
    have n5_ := aM (cB (by repeat (first | (with_reducible exact HR213.out) | (with_reducible refine cA ?_ _) | (with_reducible refine cN ?_ _) | (with_reducible refine cD ?_) | exact HR213.out)) hb)
    have n6_ := aM (KeepBut.trans (by repeat (first | (with_reducible first | exact HK.out | apply KeepBut.set_ | apply keep_drewN | apply keep_drew | apply keep_alloc | refine keep_far ?_ GW206.out _) | exact HK.out)) (KeepBut.of_below hb g none) (.inl rfl))
    have n7_ := aM (bT (by repeat (first | (with_reducible first | exact HB.out | apply bA | apply bN | apply bD | refine bS ?_ (IsS35.ge HI0.out) | refine bS ?_ GE206.out) | exact HB.out)) hb)
    clear HO209
    clear HI0
    clear BK206
    clear HR213
    clear HK
    clear HB
    have HO209 := n0_
    have HO217 := n1_
    have HO219 := n2_
    have HI0 := n3_
    have BK206 := n4_
    have HR213 := n5_
    have HK := n6_
    have HB := n7_
    clear n0_ n1_ n2_ n3_ n4_ n5_ n6_ n7_
    (try clear hb)
    (try clear hb2)
    (try clear hk)
    (try clear hi)
    (try clear ho0)
    (try clear ho1)
    refine hK.out _ _ ⟨HS0_, (by obtain ⟨_, _, _, _, HG_, _⟩ := HI0.out; exact cellS35_0 HG_)⟩ (fun hHeld => ?_)
    clear hK K
    refine norm_ (a' := ?_) ?_ ?_
    rotate_left
    ·show Act.put _ (some 29) _ = _
     simp only [Act.put, pa, pb, pc, i64_w, i32_w]
     rfl
    refine pure_ (i := 12) (N := some 17) (v := ?_) (a' := ?_) #[Y,Y,Y,Y,Y,Y,Y,Y,Y,Y,Y,Y,Y,N,N,N,N] rfl rfl (any_of HT_.out (by kernel_rfl)) (fun _ _ _ h => h) (Or.inl ⟨by rfl, ?_⟩) ?_ ?_
    rotate_left
    ·intro w'
     go_simp
     with_reducible rfl
    rotate_left
    ·simp only [Act.put, pa, pb, pc, i64_w, i32_w]
     rfl
    refine pure_ (i := 13) (N := some 30) (v := ?_) (a' := ?_) #[Y,Y,Y,Y,Y,Y,Y,Y,Y,Y,Y,Y,Y,Y,N,N,N] rfl rfl (any_of HT_.out (by kernel_rfl)) (fun _ _ _ h => h) (Or.inl ⟨by rfl, ?_⟩) ?_ ?_
    rotate_left
    ·intro w'
     go_simp
     with_reducible rfl
    rotate_left
    ·simp only [Act.put, pa, pb, pc, i64_w, i32_w]
     rfl
    refine pure_ (i := 14) (N := some 31) (v := ?_) (a' := ?_) #[Y,Y,Y,Y,Y,Y,Y,Y,Y,Y,Y,Y,Y,Y,Y,N,N] rfl rfl (any_of HT_.out (by kernel_rfl)) (fun _ _ _ h => h) (Or.inl ⟨by rfl, ?_⟩) ?_ ?_
    rotate_left
    ·intro w'
     go_simp
     with_reducible rfl
    rotate_left
    ·simp only [Act.put, pa, pb, pc, i64_w, i32_w]
     rfl
    refine pure_ (i := 15) (N := some 8) (v := ?_) (a' := ?_) #[Y,Y,Y,Y,Y,Y,Y,Y,Y,Y,Y,Y,Y,Y,Y,Y,N] rfl rfl (any_of HT_.out (by kernel_rfl)) (fun _ _ _ h => h) (Or.inl ⟨by rfl, ?_⟩) ?_ ?_
    rotate_left
    ·intro w'
     go_simp
     with_reducible rfl
    rotate_left
    ·simp only [Act.put, pa, pb, pc, i64_w, i32_w]
     rfl
    refine pure_ (i := 16) (N := some 9) (v := ?_) (a' := ?_) #[Y,Y,Y,Y,Y,Y,Y,Y,Y,Y,Y,Y,Y,Y,Y,Y,Y] rfl rfl (any_of HT_.out (by kernel_rfl)) (fun _ _ _ h => h) (Or.inl ⟨by rfl, ?_⟩) ?_ ?_
    rotate_left
    ·intro w'
     go_simp
     with_reducible rfl
    rotate_left
    ·simp only [Act.put, pa, pb, pc, i64_w, i32_w]
     rfl
    refine done_ (done_of HT_.out (by kernel_rfl)) ?_
    try go_wp2
    have n0_ := aM (rD HO209.out)
    have n1_ := aM (rD HO217.out)
    have n2_ := aM (rD HO219.out)
    have n3_ := aM (kD BK206.out)
    have n4_ := aM (cD HR213.out)
    have n5_ := aM (IsS35.drew HI0.out)
    have n6_ := aM (keep_drew HK.out)
    have n7_ := aM (bD HB.out)
    clear HO209
    clear HO217
    clear HO219
    clear BK206
    clear HR213
    clear HI0
    clear HK
    clear HB
    have HO209 := n0_
    have HO217 := n1_
    have HO219 := n2_
    have BK206 := n3_
    have HR213 := n4_
    have HI0 := n5_
    have HK := n6_
    have HB := n7_
    clear n0_ n1_ n2_ n3_ n4_ n5_ n6_ n7_
    have q22 : ((ji4) : Int) ≤ ((t207.length : Int) : Int) := of_decide_eq_true (by first | (with_reducible assumption) | assumption)
    obtain ⟨i022, hi022, _, hsz22, _⟩ := info_parts info2
    have hroom22 : t207.length ≤ co18 := (rR HO209.out).2.1
    have hC22 : Kd.C (Kd.int .i64) _ Ao18 t207.length t207 := (rR HO209.out).2.2
    have q022 : (0 : Int) ≤ ((ji4) : Int) := of_decide_eq_true (by first | (with_reducible assumption) | assumption)
    have hcut22 := cut_from (P := Try.prog) 22 2 .i64 Try.underlying22 hi022 1 hsz22 Ao18 t207.length co18 (ji4) q022 q22
    have hr22 := Kd.C_drop (m := ((ji4) : Int).toNat) (c := co18) hC22 (by omega) hroom22
    obtain ⟨A22, hA22⟩ : ∃ A1, A1 = (if co18 = ((ji4) : Int).toNat then Ao18 else (Ao18 : Option Addr).map (·.add (((ji4) : Int).toNat * 1))) := ⟨_, rfl⟩
    obtain ⟨c22, hc22⟩ : ∃ c1, c1 = co18 - ((ji4) : Int).toNat := ⟨_, rfl⟩
    have hy22 : y220.length = t207.length - ((ji4) : Int).toNat := (by rw [Ny220.out, List.length_drop] <;> omega)
    rw [show (t207).drop ((ji4) : Int).toNat = y220 from Ny220.out.symm] at hr22
    replace hr22 : Kd.C (Kd.int .i64) _ A22 y220.length y220 := (by rw [hA22]; exact hr22)
    rw [← hy22, ← hA22, ← hc22] at hcut22
    have HR223 := aM hr22
    have HC223 := aM (show y220.length ≤ c22 from by rw [hy22, hc22]; exact Nat.sub_le_sub_right hroom22 _)
    clear hr22 hC22 hroom22 hi022 hsz22 hc22
    have KY22 := aM hy22
    have KA22 := aM hA22
    clear hy22 hA22
    have KL22 := aM (show ((ji4) : Int).toNat ≤ t207.length from by omega)
    replace q22 := eq_true q22
    obtain ⟨ASz26_1, cSz26_1, ASz26_2, cSz26_2, HGz26, hgz26, HSz26_1, HSz26_2, HCSz26_1, HCSz26_2⟩ := HI0.out
    refine start_ (n := 19) (S := fun w' => w'.cell? ⟨g, 1, none⟩ = some (.slice ASz26_1 s0_1.length cSz26_1) ∧ w'.cell? ⟨g, 0, none⟩ = some (.int .i64 s0_0)) (ds := []) #[N,N,N,N,N,N,N,N,N,N,N,N,N,N,N,N,N,N,N] (by kernel_rfl) rfl rfl ⟨(cellS35_1 HGz26), (by obtain ⟨_, _, _, _, HG_, _⟩ := HI0.out; exact cellS35_0 HG_)⟩ (fun hHeld => ?_); refine with_tabW spec_l7Play.tab4 spec_l7Play.bits4 (fun HT_ HW_ => ?_)
    generalize w20.drew = w21 at HO209 HO217 HO219 BK206 HR213 HI0 HK HB HR223 hHeld ⊢
    refine pure_ (i := 0) (N := some 32) (v := ?_) (a' := ?_) #[Y,N,N,N,N,N,N,N,N,N,N,N,N,N,N,N,N,N,N] rfl rfl (any_of HT_.out (by kernel_rfl)) (fun _ _ _ h => h) (Or.inl ⟨by rfl, ?_⟩) ?_ ?_
    rotate_left
    ·intro w'
     go_simp
     with_reducible rfl
    rotate_left
    ·simp only [Act.put, pa, pb, pc, i64_w, i32_w]
     rfl
    refine pure_ (i := 1) (N := some 33) (v := ?_) (a' := ?_) #[Y,Y,N,N,N,N,N,N,N,N,N,N,N,N,N,N,N,N,N] rfl rfl (any_of HT_.out (by kernel_rfl)) (fun _ _ _ h => h) (Or.inl ⟨by rfl, ?_⟩) ?_ ?_
    rotate_left
    ·intro w'
     go_simp
     with_reducible rfl
    rotate_left
    ·simp only [Act.put, pa, pb, pc, i64_w, i32_w]
     rfl
    refine pure_ (i := 2) (N := some 34) (v := ?_) (a' := ?_) #[Y,Y,Y,N,N,N,N,N,N,N,N,N,N,N,N,N,N,N,N] rfl rfl (any_of HT_.out (by kernel_rfl)) (fun _ _ _ h => h) (Or.inl ⟨by rfl, ?_⟩) ?_ ?_
    rotate_left
    ·intro w'
     go_simp
     with_reducible rfl
    rotate_left
    ·simp only [Act.put, pa, pb, pc, i64_w, i32_w]
     rfl
    refine pure_ (i := 4) (N := some 36) (v := ?_) (a' := ?_) #[Y,Y,Y,N,Y,N,N,N,N,N,N,N,N,N,N,N,N,N,N] rfl rfl (any_of HT_.out (by kernel_rfl)) (fun _ _ _ h => h) (Or.inl ⟨by rfl, ?_⟩) ?_ ?_
    rotate_left
    ·intro w'
     go_simp
     with_reducible rfl
    rotate_left
    ·simp only [Act.put, pa, pb, pc, i64_w, i32_w]
     rfl
    refine pure_ (i := 5) (N := some 37) (v := ?_) (a' := ?_) #[Y,Y,Y,N,Y,Y,N,N,N,N,N,N,N,N,N,N,N,N,N] rfl rfl (any_of HT_.out (by kernel_rfl)) (fun _ _ _ h => h) (Or.inl ⟨by rfl, ?_⟩) ?_ ?_
    rotate_left
    ·intro w'
     go_simp
     with_reducible rfl
    rotate_left
    ·simp only [Act.put, pa, pb, pc, i64_w, i32_w]
     rfl
    refine pure_ (i := 6) (N := some 38) (v := ?_) (a' := ?_) #[Y,Y,Y,N,Y,Y,Y,N,N,N,N,N,N,N,N,N,N,N,N] rfl rfl (any_of HT_.out (by kernel_rfl)) (fun _ _ _ h => h) (Or.inl ⟨by rfl, ?_⟩) ?_ ?_
    rotate_left
    ·intro w'
     go_simp
     with_reducible rfl
    rotate_left
    ·simp only [Act.put, pa, pb, pc, i64_w, i32_w]
     rfl
    refine pure_ (i := 7) (N := some 39) (v := ?_) (a' := ?_) #[Y,Y,Y,N,Y,Y,Y,Y,N,N,N,N,N,N,N,N,N,N,N] rfl rfl (any_of HT_.out (by kernel_rfl)) (fun _ _ _ h => h) (Or.inl ⟨by rfl, ?_⟩) ?_ ?_
    rotate_left
    ·intro w'
     go_simp
     with_reducible rfl
    rotate_left
    ·simp only [Act.put, pa, pb, pc, i64_w, i32_w]
     rfl
    refine pure_ (i := 10) (N := some 42) (v := ?_) (a' := ?_) #[Y,Y,Y,N,Y,Y,Y,Y,N,N,Y,N,N,N,N,N,N,N,N] rfl rfl (any_of HT_.out (by kernel_rfl)) (fun _ _ _ h => h) (Or.inl ⟨by rfl, ?_⟩) ?_ ?_
    rotate_left
    ·intro w'
     go_simp
     with_reducible rfl
    rotate_left
    ·simp only [Act.put, pa, pb, pc, i64_w, i32_w]
     rfl
    refine pure_ (i := 11) (N := some 43) (v := ?_) (a' := ?_) #[Y,Y,Y,N,Y,Y,Y,Y,N,N,Y,Y,N,N,N,N,N,N,N] rfl rfl (any_of HT_.out (by kernel_rfl)) (fun _ _ _ h => h) (Or.inl ⟨by rfl, ?_⟩) ?_ ?_
    rotate_left
    ·intro w'
     go_simp
     with_reducible rfl
    rotate_left
    ·simp only [Act.put, pa, pb, pc, i64_w, i32_w]
     rfl
    refine pure_ (i := 12) (N := some 44) (v := ?_) (a' := ?_) #[Y,Y,Y,N,Y,Y,Y,Y,N,N,Y,Y,Y,N,N,N,N,N,N] rfl rfl (any_of HT_.out (by kernel_rfl)) (fun _ _ _ h => h) (Or.inl ⟨by rfl, ?_⟩) ?_ ?_
    rotate_left
    ·intro w'
     go_simp
     with_reducible rfl
    rotate_left
    ·simp only [Act.put, pa, pb, pc, i64_w, i32_w]
     rfl
    refine pure_ (i := 15) (N := some 47) (v := ?_) (a' := ?_) #[Y,Y,Y,N,Y,Y,Y,Y,N,N,Y,Y,Y,N,N,Y,N,N,N] rfl rfl (any_of HT_.out (by kernel_rfl)) (fun _ _ _ h => h) (Or.inl ⟨by rfl, ?_⟩) ?_ ?_
    rotate_left
    ·intro w'
     go_simp
     with_reducible rfl
    rotate_left
    ·simp only [Act.put, pa, pb, pc, i64_w, i32_w]
     rfl
    refine take_ (i := 3) (N := some 35) (v := ?_) (a' := ?_) #[Y,Y,Y,Y,Y,Y,Y,Y,N,N,Y,Y,Y,N,N,Y,N,N,N] rfl rfl (take_ofW HT_.out HW_.out (by kernel_rfl)) (fun _ _ _ h => h) (Or.inl ⟨by rfl, ?_⟩) hHeld ?_ ?_
    rotate_left
    ·rintro w' ⟨s0, s1⟩
     go_simp
     with_reducible rfl
    rotate_left
    ·simp only [Act.put, pa, pb, pc, i64_w, i32_w]
     rfl
    refine take_ (i := 13) (N := some 45) (v := ?_) (a' := ?_) #[Y,Y,Y,Y,Y,Y,Y,Y,N,N,Y,Y,Y,Y,N,Y,N,N,N] rfl rfl (take_ofW HT_.out HW_.out (by kernel_rfl)) (fun _ _ _ h => h) (Or.inl ⟨by rfl, ?_⟩) hHeld ?_ ?_
    rotate_left
    ·rintro w' ⟨s0, s1⟩
     go_simp
     with_reducible rfl
    rotate_left
    ·simp only [Act.put, pa, pb, pc, i64_w, i32_w]
     rfl
    refine one_ (i := 8) (N := some 40) #[Y,Y,Y,Y,Y,Y,Y,Y,Y,N,Y,Y,Y,Y,N,Y,N,N,N] rfl rfl (one_of HT_.out (by kernel_rfl)) (by decide) (fun K hK => ?_)
    refine goes_ Try.func105 (by kernel_rfl) rfl #[.slice A22 y220.length c22] (by rfl) rfl rfl mq ?_
    with_reducible refine (spec_l1Ints.calls _ _ y220 t224 _ ?side1 ?side2 A10.out).mono ?_
    (case side1 => repeat (first | exact (by repeat (first | (with_reducible exact HR223.out) | (with_reducible refine cA ?_ _) | (with_reducible refine cN ?_ _) | (with_reducible refine cD ?_) | exact HR223.out)) | (with_reducible refine cA ?_ _) | (with_reducible refine cN ?_ _) | (with_reducible refine cD ?_)))
    (case side2 => exact HC223.out)
    rintro e w23 ⟨v225, rfl, ho0, hb⟩
    have HS0_ := (hb.cell (World.block_lt_of_cell? _ _ (hHeld.1))).trans (hHeld.1)
    refine ⟨_, rfl, ?_⟩
    have n0_ := aM (rH (rq HO209.out) (rB ho0) hb)
    have n1_ := aM (rH (rq HO217.out) (rB ho0) hb)
    have n2_ := aM (rH (rq HO219.out) (rB ho0) hb)
    have n3_ := aM (rG (rW (rW (rW ho0 (rT (rq HO209.out))) (rT (rq HO217.out))) (rT (rq HO219.out))) (keep_size (w := w) (g := g) (row := none) (by repeat (first | (with_reducible first | exact HK.out | apply KeepBut.set_ | apply keep_drewN | apply keep_drew | apply keep_alloc | refine keep_far ?_ GW206.out _) | exact HK.out))))
    have n4_ := aM (IsS35.below (by repeat (first | (with_reducible first | exact HI0.out | apply IsS35.alloc | apply IsS35.drewN | apply IsS35.drew | apply IsS35.set_0 | refine IsS35.far ?_ NB0_206.out _) | exact HI0.out)) hb)
    have n5_ := aM (kB (g := gb206) (o := .cells #[.int .i64 0, .slice none 0 0, .slice none 0 0] 35 (0, 0)) (kq BK206.out) hb)
    have n6_ := aM (cB (by repeat (first | (with_reducible exact HR213.out) | (with_reducible refine cA ?_ _) | (with_reducible refine cN ?_ _) | (with_reducible refine cD ?_) | exact HR213.out)) hb)
    have n7_ := aM (cB (by repeat (first | (with_reducible exact HR223.out) | (with_reducible refine cA ?_ _) | (with_reducible refine cN ?_ _) | (with_reducible refine cD ?_) | exact HR223.out)) hb)
    have n8_ := aM (KeepBut.trans (by repeat (first | (with_reducible first | exact HK.out | apply KeepBut.set_ | apply keep_drewN | apply keep_drew | apply keep_alloc | refine keep_far ?_ GW206.out _) | exact HK.out)) (KeepBut.of_below hb g none) (.inl rfl))
    have n9_ := aM (bT (by repeat (first | (with_reducible first | exact HB.out | apply bA | apply bN | apply bD | refine bS ?_ (IsS35.ge HI0.out) | refine bS ?_ GE206.out) | exact HB.out)) hb)
    clear HO209
    clear HO217
    clear HO219
    clear HI0
    clear BK206
    clear HR213
    clear HR223
    clear HK
    clear HB
    have HO209 := n0_
    have HO217 := n1_
    have HO219 := n2_
    have HO226 := n3_
    have HI0 := n4_
    have BK206 := n5_
    have HR213 := n6_
    have HR223 := n7_
    have HK := n8_
    have HB := n9_
    clear n0_ n1_ n2_ n3_ n4_ n5_ n6_ n7_ n8_ n9_
    (try clear hb)
    (try clear hb2)
    (try clear hk)
    (try clear hi)
    (try clear ho0)
    obtain ⟨Ao24, co24, eo24⟩ := Kd.R_slice HO226.out
    (first | subst eo24 | (injection eo24 with f1_ f2_ f3_; have f4_ := f1_.symm; have f5_ := f3_.symm; clear f1_ f2_ f3_; subst f4_; subst f5_))
    obtain ⟨Ao25, co25, eo25⟩ := Kd.R_slice HO219.out
    (first | subst eo25 | (injection eo25 with f1_ f2_ f3_; have f4_ := f1_.symm; have f5_ := f3_.symm; clear f1_ f2_ f3_; subst f4_; subst f5_))
    refine hK.out _ _ ⟨HS0_, (by obtain ⟨_, _, _, _, HG_, _⟩ := HI0.out; exact cellS35_0 HG_)⟩ (fun hHeld => ?_)
    clear hK K
    refine norm_ (a' := ?_) ?_ ?_
    rotate_left
    ·show Act.put _ (some 40) _ = _
     simp only [Act.put, pa, pb, pc, i64_w, i32_w]
     rfl
    refine pure_ (i := 9) (N := some 41) (v := ?_) (a' := ?_) #[Y,Y,Y,Y,Y,Y,Y,Y,Y,Y,Y,Y,Y,Y,N,Y,N,N,N] rfl rfl (any_of HT_.out (by kernel_rfl)) (fun _ _ _ h => h) (Or.inl ⟨by rfl, ?_⟩) ?_ ?_
    rotate_left
    ·intro w'
     go_simp
     with_reducible rfl
    rotate_left
    ·simp only [Act.put, pa, pb, pc, i64_w, i32_w]
     rfl
    refine one_ (i := 14) (N := some 46) #[Y,Y,Y,Y,Y,Y,Y,Y,Y,Y,Y,Y,Y,Y,Y,Y,N,N,N] rfl rfl (one_of HT_.out (by kernel_rfl)) (by decide) (fun K hK => ?_)
    refine goes_ Try.func105 (by kernel_rfl) rfl #[.slice ASz26_1 s0_1.length cSz26_1] (by rfl) rfl rfl mq ?_
    with_reducible refine (spec_l1Ints.calls _ _ s0_1 t227 _ ?side1 ?side2 A11.out).mono ?_
    (case side1 => exact cB HSz26_1 (by repeat (first | (with_reducible first | exact HB.out | apply bA | apply bN | apply bD | refine bS ?_ (IsS35.ge HI0.out) | refine bS ?_ GE206.out) | exact HB.out)))
    (case side2 => exact HCSz26_1)
    rintro e w27 ⟨v228, rfl, ho0, hb⟩
    have HS0_ := (hb.cell (World.block_lt_of_cell? _ _ (hHeld.1))).trans (hHeld.1)
    refine ⟨_, rfl, ?_⟩
    have n0_ := aM (rH (rq HO209.out) (rB ho0) hb)
    have n1_ := aM (rH (rq HO217.out) (rB ho0) hb)
    have n2_ := aM (rH (rq HO219.out) (rB ho0) hb)
    have n3_ := aM (rH (rq HO226.out) (rB ho0) hb)
    have n4_ := aM (rG (rW (rW (rW (rW ho0 (rT (rq HO209.out))) (rT (rq HO217.out))) (rT (rq HO219.out))) (rT (rq HO226.out))) (keep_size (w := w) (g := g) (row := none) (by repeat (first | (with_reducible first | exact HK.out | apply KeepBut.set_ | apply keep_drewN | apply keep_drew | apply keep_alloc | refine keep_far ?_ GW206.out _) | exact HK.out))))
    have n5_ := aM (IsS35.below (by repeat (first | (with_reducible first | exact HI0.out | apply IsS35.alloc | apply IsS35.drewN | apply IsS35.drew | apply IsS35.set_0 | refine IsS35.far ?_ NB0_206.out _) | exact HI0.out)) hb)
    have n6_ := aM (kB (g := gb206) (o := .cells #[.int .i64 0, .slice none 0 0, .slice none 0 0] 35 (0, 0)) (kq BK206.out) hb)
    have n7_ := aM (cB (by repeat (first | (with_reducible exact HR213.out) | (with_reducible refine cA ?_ _) | (with_reducible refine cN ?_ _) | (with_reducible refine cD ?_) | exact HR213.out)) hb)
    have n8_ := aM (cB (by repeat (first | (with_reducible exact HR223.out) | (with_reducible refine cA ?_ _) | (with_reducible refine cN ?_ _) | (with_reducible refine cD ?_) | exact HR223.out)) hb)
    have n9_ := aM (KeepBut.trans (by repeat (first | (with_reducible first | exact HK.out | apply KeepBut.set_ | apply keep_drewN | apply keep_drew | apply keep_alloc | refine keep_far ?_ GW206.out _) | exact HK.out)) (KeepBut.of_below hb g none) (.inl rfl))
    have n10_ := aM (bT (by repeat (first | (with_reducible first | exact HB.out | apply bA | apply bN | apply bD | refine bS ?_ (IsS35.ge HI0.out) | refine bS ?_ GE206.out) | exact HB.out)) hb)
    clear HO209
    clear HO217
    clear HO219
    clear HO226
    clear HI0
    clear BK206
    clear HR213
    clear HR223
    clear HK
    clear HB
    have HO209 := n0_
    have HO217 := n1_
    have HO219 := n2_
    have HO226 := n3_
    have HO229 := n4_
    have HI0 := n5_
    have BK206 := n6_
    have HR213 := n7_
    have HR223 := n8_
    have HK := n9_
    have HB := n10_
    clear n0_ n1_ n2_ n3_ n4_ n5_ n6_ n7_ n8_ n9_ n10_
    (try clear hb)
    (try clear hb2)
    (try clear hk)
    (try clear hi)
    (try clear ho0)
    obtain ⟨Ao29, co29, eo29⟩ := Kd.R_slice HO217.out
    (first | subst eo29 | (injection eo29 with f1_ f2_ f3_; have f4_ := f1_.symm; have f5_ := f3_.symm; clear f1_ f2_ f3_; subst f4_; subst f5_))
    refine hK.out _ _ ⟨HS0_, (by obtain ⟨_, _, _, _, HG_, _⟩ := HI0.out; exact cellS35_0 HG_)⟩ (fun hHeld => ?_)
    clear hK K
    refine norm_ (a' := ?_) ?_ ?_
    rotate_left
    ·show Act.put _ (some 46) _ = _
     simp only [Act.put, pa, pb, pc, i64_w, i32_w]
     rfl
    refine one_ (i := 16) (N := some 48) #[Y,Y,Y,Y,Y,Y,Y,Y,Y,Y,Y,Y,Y,Y,Y,Y,Y,N,N] rfl rfl (one_of HT_.out (by kernel_rfl)) (by decide) (fun K hK => ?_)
    refine Kd.R_append_rows_step (Kd.int .i64) w.heap.size (by rfl) (.tmp 46) (.tmp 47) 22 2 (.int .i64 0) 8 rfl Try.underlying22 info2 rfl (by decide) (by omega) v228 t227 t214 _ _ _ (fun k_ => some k_ ≠ (.slice Ao18 t207.length co18 : Value).ownBlock ∧ some k_ ≠ (.slice Ao29 t214.length co29 : Value).ownBlock ∧ some k_ ≠ (.slice Ao25 t215.length co25 : Value).ownBlock ∧ some k_ ≠ (.slice Ao24 t224.length co24 : Value).ownBlock) (fun _ => False) rfl rfl ?aO ?aR (fun _ _ h => h) (fun _ h => h.elim) ?aF (Below.refl _ _) ?aS ?aL ?_
    (case aR => exact cq (rR HO217.out).2.2)
    (case aF => exact (fun k_ hk => ⟨Kd.fresh' (rT (rq HO209.out)) k_ hk, Kd.fresh' (rT (rq HO217.out)) k_ hk, Kd.fresh' (rT (rq HO219.out)) k_ hk, Kd.fresh' (rT (rq HO226.out)) k_ hk⟩))
    (case aO => exact (by (with_reducible repeat (first | apply rA | apply rN | apply rD)); exact rM HO229.out (fun _ hk => ⟨hk.1.1.1.2, ⟨hk.1.1.2, ⟨hk.1.2, hk.2⟩⟩⟩)))
    (case aS => exact (keep_size (w := w) (g := g) (row := none) (by repeat (first | (with_reducible first | exact HK.out | apply KeepBut.set_ | apply keep_drewN | apply keep_drew | apply keep_alloc | refine keep_far ?_ GW206.out _) | exact HK.out))))
    (case aL => have := LMc12.out; omega)
    intro v231 w28 ho hb hg hat
    have HS0_ := cell_grown hg (hHeld.1) (IsS35.own_ne HI0.out HO229.out (by decide))
    rw [← Ny230.out] at ho
    have n0_ := aM (IsS35.grown (by repeat (first | (with_reducible first | exact HI0.out | apply IsS35.alloc | apply IsS35.drewN | apply IsS35.drew | apply IsS35.set_0 | refine IsS35.far ?_ NB0_206.out _) | exact HI0.out)) hg (IsS35.own_ne HI0.out HO229.out (by decide)))
    have n1_ := aM (blk_grown (g := gb206) (o := .cells #[.int .i64 0, .slice none 0 0, .slice none 0 0] 35 (0, 0)) (kq BK206.out) hg (Kd.R_ne HO229.out BK206.out (by decide)))
    have n2_ := aM (Kd.R_after (ok := (fun k_ => some k_ ≠ (.slice Ao29 t214.length co29 : Value).ownBlock ∧ some k_ ≠ (.slice Ao25 t215.length co25 : Value).ownBlock ∧ some k_ ≠ (.slice Ao24 t224.length co24 : Value).ownBlock)) (by (with_reducible repeat (first | apply rA | apply rN | apply rD)); exact rM HO209.out (fun _ hk => ⟨⟨hk.1.1.1.2, ⟨hk.1.1.2, hk.1.2⟩⟩, hk.2⟩)) hg hat)
    have n3_ := aM (Kd.R_after (ok := (fun k_ => some k_ ≠ (.slice Ao18 t207.length co18 : Value).ownBlock ∧ some k_ ≠ (.slice Ao25 t215.length co25 : Value).ownBlock ∧ some k_ ≠ (.slice Ao24 t224.length co24 : Value).ownBlock)) (by (with_reducible repeat (first | apply rA | apply rN | apply rD)); exact rM HO217.out (fun _ hk => ⟨⟨hk.1.1.2, ⟨hk.1.1.1, hk.1.2⟩⟩, hk.2⟩)) hg hat)
    have n4_ := aM (Kd.R_after (ok := (fun k_ => some k_ ≠ (.slice Ao18 t207.length co18 : Value).ownBlock ∧ some k_ ≠ (.slice Ao29 t214.length co29 : Value).ownBlock ∧ some k_ ≠ (.slice Ao24 t224.length co24 : Value).ownBlock)) (by (with_reducible repeat (first | apply rA | apply rN | apply rD)); exact rM HO219.out (fun _ hk => ⟨⟨hk.1.1.2, ⟨hk.1.1.1, hk.1.2⟩⟩, hk.2⟩)) hg hat)
    have n5_ := aM (Kd.R_after (ok := (fun k_ => some k_ ≠ (.slice Ao18 t207.length co18 : Value).ownBlock ∧ some k_ ≠ (.slice Ao29 t214.length co29 : Value).ownBlock ∧ some k_ ≠ (.slice Ao25 t215.length co25 : Value).ownBlock)) (by (with_reducible repeat (first | apply rA | apply rN | apply rD)); exact rM HO226.out (fun _ hk => ⟨⟨hk.1.1.1.2, ⟨hk.1.1.2, hk.1.2⟩⟩, hk.2⟩)) hg hat)
    have n6_ := aM (below_weaken (by repeat (first | (with_reducible first | exact HB.out | apply bA | apply bN | apply bD | refine bS ?_ (IsS35.ge HI0.out) | refine bS ?_ GE206.out) | exact HB.out)) HL.out hb)
    have n7_ := aM (KeepBut.trans (by repeat (first | (with_reducible first | exact HK.out | apply KeepBut.set_ | apply keep_drewN | apply keep_drew | apply keep_alloc | refine keep_far ?_ GW206.out _) | exact HK.out)) (KeepBut.of_grown hg g) (Kd.R_base2 HO229.out))
    have n8_ := aM ((show Kd.C (Kd.int .i64) w28 Ao18 y210.length y210 from by rw [Ny210.out]; exact Kd.C_take (m := ((ji4) : Int).toNat) ((rR (Kd.R_after (ok := (fun k_ => some k_ ≠ (.slice Ao29 t214.length co29 : Value).ownBlock ∧ some k_ ≠ (.slice Ao25 t215.length co25 : Value).ownBlock ∧ some k_ ≠ (.slice Ao24 t224.length co24 : Value).ownBlock)) (by (with_reducible repeat (first | apply rA | apply rN | apply rD)); exact rM HO209.out (fun _ hk => ⟨⟨hk.1.1.1.2, ⟨hk.1.1.2, hk.1.2⟩⟩, hk.2⟩)) hg hat)).2.2) KL17.out))
    have n9_ := aM ((show Kd.C (Kd.int .i64) w28 A22 y220.length y220 from by rw [Ny220.out, KA22.out]; exact Kd.C_drop (m := ((ji4) : Int).toNat) (c := co18) ((rR (Kd.R_after (ok := (fun k_ => some k_ ≠ (.slice Ao29 t214.length co29 : Value).ownBlock ∧ some k_ ≠ (.slice Ao25 t215.length co25 : Value).ownBlock ∧ some k_ ≠ (.slice Ao24 t224.length co24 : Value).ownBlock)) (by (with_reducible repeat (first | apply rA | apply rN | apply rD)); exact rM HO209.out (fun _ hk => ⟨⟨hk.1.1.1.2, ⟨hk.1.1.2, hk.1.2⟩⟩, hk.2⟩)) hg hat)).2.2) KL22.out ((rR (Kd.R_after (ok := (fun k_ => some k_ ≠ (.slice Ao29 t214.length co29 : Value).ownBlock ∧ some k_ ≠ (.slice Ao25 t215.length co25 : Value).ownBlock ∧ some k_ ≠ (.slice Ao24 t224.length co24 : Value).ownBlock)) (by (with_reducible repeat (first | apply rA | apply rN | apply rD)); exact rM HO209.out (fun _ hk => ⟨⟨hk.1.1.1.2, ⟨hk.1.1.2, hk.1.2⟩⟩, hk.2⟩)) hg hat)).2.1)))
    have n10_ := aM (ho)
    clear HI0
    clear BK206
    clear HO209
    clear HO217
    clear HO219
    clear HO226
    clear HB
    clear HK
    clear HR213
    clear HR223
    clear HO229
    have HI0 := n0_
    have BK206 := n1_
    have HO209 := n2_
    have HO217 := n3_
    have HO219 := n4_
    have HO226 := n5_
    have HB := n6_
    have HK := n7_
    have HR213 := n8_
    have HR223 := n9_
    have HO232 := n10_
    clear n0_ n1_ n2_ n3_ n4_ n5_ n6_ n7_ n8_ n9_ n10_
    clear ho hb hg hat
    refine hK.out _ _ ⟨HS0_, (by obtain ⟨_, _, _, _, HG_, _⟩ := HI0.out; exact cellS35_0 HG_)⟩ (fun hHeld => ?_)
    clear hK K
    refine norm_ (a' := ?_) ?_ ?_
    rotate_left
    ·show Act.put _ (some 48) _ = _
     simp only [Act.put, pa, pb, pc, i64_w, i32_w]
     rfl
    refine one_ (i := 17) (N := none) #[Y,Y,Y,Y,Y,Y,Y,Y,Y,Y,Y,Y,Y,Y,Y,Y,Y,Y,N] rfl rfl (one_of HT_.out (by kernel_rfl)) (by decide) (fun K hK => ?_)
    have hs30 : w28.cell? ⟨gb206, 0, none⟩ = some (.int .i64 0) := (kC BK206.out 0).trans rfl
    have hfs30 := kF BK206.out 0
    have hs31 : w28.cell? ⟨gb206, 1, none⟩ = some (.slice none 0 0) := (kC BK206.out 1).trans rfl
    have hfs31 := kF BK206.out 1
    have hs32 : w28.cell? ⟨gb206, 2, none⟩ = some (.slice none 0 0) := (kC BK206.out 2).trans rfl
    have hfs32 := kF BK206.out 2
    refine skip_ (w1 := ?_) (by rfl) rfl ?_ ?_
    rotate_left
    ·go_simp
     rfl
    refine hK.out _ _ ⟨((cell_far (p := ⟨gb206, _, none⟩) (by first | exact NB0_206.out | (rw [add_block]; exact NB0_206.out) | (show (Addr.add _ _).block ≠ _; rw [add_block]; exact NB0_206.out) | (dsimp only; exact NB0_206.out)) _).trans (((cell_far (p := ⟨gb206, _, none⟩) (by first | exact NB0_206.out | (rw [add_block]; exact NB0_206.out) | (show (Addr.add _ _).block ≠ _; rw [add_block]; exact NB0_206.out) | (dsimp only; exact NB0_206.out)) _).trans (((cell_far (p := ⟨gb206, _, none⟩) (by first | exact NB0_206.out | (rw [add_block]; exact NB0_206.out) | (show (Addr.add _ _).block ≠ _; rw [add_block]; exact NB0_206.out) | (dsimp only; exact NB0_206.out)) _).trans (hHeld.1)))))), ((cell_far (p := ⟨gb206, _, none⟩) NB0_206.out _).trans (((cell_far (p := ⟨gb206, _, none⟩) NB0_206.out _).trans (((cell_far (p := ⟨gb206, _, none⟩) NB0_206.out _).trans (hHeld.2))))))⟩ (fun hHeld => ?_)
    clear hK K
    refine pure_ (i := 18) (N := some 5) (v := ?_) (a' := ?_) #[Y,Y,Y,Y,Y,Y,Y,Y,Y,Y,Y,Y,Y,Y,Y,Y,Y,Y,Y] rfl rfl (any_of HT_.out (by kernel_rfl)) (fun _ _ _ h => h) (Or.inl ⟨by rfl, ?_⟩) ?_ ?_
    rotate_left
    ·intro w'
     go_simp
     with_reducible rfl
    rotate_left
    ·simp only [Act.put, pa, pb, pc, i64_w, i32_w]
     rfl
    refine done_ (done_of HT_.out (by kernel_rfl)) ?_
    try go_wp2
    refine bodyPost_ret (results_ct rfl _ _ gb206 35 #[.int .i64 s0_0, .slice Ao25 t215.length co25, .slice Ao24 t224.length co24] (0, 0) _ rfl (by (with_reducible repeat (first | refine kN ?_ _ | refine kD ?_ | refine kA ?_ _)); refine blk_put (cs := #[.int .i64 s0_0, .slice Ao25 t215.length co25, .slice none 0 0]) ?_ 2 _ rfl; (with_reducible repeat (first | refine kN ?_ _ | refine kD ?_ | refine kA ?_ _)); refine blk_put (cs := #[.int .i64 s0_0, .slice none 0 0, .slice none 0 0]) ?_ 1 _ rfl; (with_reducible repeat (first | refine kN ?_ _ | refine kD ?_ | refine kA ?_ _)); refine blk_put (cs := #[.int .i64 0, .slice none 0 0, .slice none 0 0]) ?_ 0 _ rfl; (with_reducible repeat (first | refine kN ?_ _ | refine kD ?_ | refine kA ?_ _)); exact BK206.out) Try.underlying35 rfl (by kernel_rfl)) rfl ?_
    exact ⟨_, _, _, by first | rfl | (simp [errW_none, errW_some] <;> rfl) | (simp only [← hji4]; first | rfl | (simp [errW_none, errW_some] <;> rfl)) | (simp [*, errW_none, errW_some] <;> rfl), by (with_reducible repeat (first | apply rA | apply rN | apply rD)); exact rM (rF (p := ⟨gb206, 2, none⟩) (rF (p := ⟨gb206, 1, none⟩) (rF (p := ⟨gb206, 0, none⟩) (Kd.R_types HO219.out BK206.out (by decide)) (fun _ hk => hk.2) (.int .i64 s0_0)) (fun _ hk => hk.2) (.slice Ao25 t215.length co25)) (fun _ hk => hk.2) (.slice Ao24 t224.length co24)) (fun _ hk => ⟨hk.1.1.2.2, hk.1.2⟩), by (with_reducible repeat (first | apply rA | apply rN | apply rD)); exact rM (rF (p := ⟨gb206, 2, none⟩) (rF (p := ⟨gb206, 1, none⟩) (rF (p := ⟨gb206, 0, none⟩) (Kd.R_types HO226.out BK206.out (by decide)) (fun _ hk => hk.2) (.int .i64 s0_0)) (fun _ hk => hk.2) (.slice Ao25 t215.length co25)) (fun _ hk => hk.2) (.slice Ao24 t224.length co24)) (fun _ hk => ⟨hk.1.1.2.2, hk.1.2⟩), by (with_reducible repeat (first | apply rA | apply rN | apply rD)); exact rM (rF (p := ⟨gb206, 2, none⟩) (rF (p := ⟨gb206, 1, none⟩) (rF (p := ⟨gb206, 0, none⟩) (Kd.R_types HO232.out BK206.out (by decide)) (fun _ hk => hk.2) (.int .i64 s0_0)) (fun _ hk => hk.2) (.slice Ao25 t215.length co25)) (fun _ hk => hk.2) (.slice Ao24 t224.length co24)) (fun _ hk => ⟨hk.1.2.2.1, hk.1.2.2.2⟩), by repeat (first | (with_reducible first | exact HI0.out | apply IsS35.alloc | apply IsS35.drewN | apply IsS35.drew | apply IsS35.set_0 | refine IsS35.far ?_ NB0_206.out _) | exact HI0.out), by repeat (first | (with_reducible first | exact HB.out | apply bA | apply bN | apply bD | refine bS ?_ (IsS35.ge HI0.out) | refine bS ?_ GE206.out) | exact HB.out), by repeat (first | (with_reducible first | exact HK.out | apply KeepBut.set_ | apply keep_drewN | apply keep_drew | apply keep_alloc | refine keep_far ?_ GW206.out _) | exact HK.out)⟩
   ·rw [if_neg c12] at H
    exact absurd H (by simp)
  ·rw [if_neg c6] at H
   exact absurd H (by simp)
 ·rw [if_neg c5] at H
  exact absurd H (by simp)

/-! ### spec_PlayBlock: function 17 -/
def spec_PlayBlock.f (k : Nat) (a0_0 : Int) (l0_1 : List Int) (l0_2 : List Int) (l1 : List Int) : Option (Int × Int × List Int × List Int × List Int) := (spec_SynthFault.f k a0_0 l0_1 l0_2).bind fun t235 => (if t235 = 0 then (if (l1.length : Int) = a0_0 then ((spec_l6Ask.f k l1 16777216).bind fun t236 => (if t236 = 0 then ((spec_l7Play.f k a0_0 l0_1 l0_2 l1).bind fun bt237 => (some (0, bt237.1, bt237.2.1, bt237.2.2.1, bt237.2.2.2.1))) else (some (t236, 0, ([] : List Int), ([] : List Int), ([] : List Int))))) else (some (2, 0, ([] : List Int), ([] : List Int), ([] : List Int)))) else (some (t235, 0, ([] : List Int), ([] : List Int), ([] : List Int))))
theorem spec_PlayBlock.mono : ∀ a0 a1 a2 a3 k, LeO (spec_PlayBlock.f k a0 a1 a2 a3) (spec_PlayBlock.f (k + 1) a0 a1 a2 a3) := by
 intro a0 a1 a2 a3 k
 unfold spec_PlayBlock.f
 repeat' first
   | (with_reducible exact spec_SynthFault.mono _ _ _ _)
   | (with_reducible exact spec_l6Ask.mono _ _ _)
   | (with_reducible exact spec_l7Play.mono _ _ _ _ _)
   | (with_reducible exact LeO.refl _)
   | (with_reducible exact LeO.none _)
   | (with_reducible refine LeO.ite ?_ ?_)
   | (with_reducible refine LeO.bind ?_ (fun _ => ?_))
   | exact spec_SynthFault.mono _ _ _ _
   | exact spec_l6Ask.mono _ _ _
   | exact spec_l7Play.mono _ _ _ _ _
   | exact LeO.none _
   | refine LeO.ite ?_ ?_
   | refine LeO.bind ?_ (fun _ => ?_)
set_option maxHeartbeats 8000000 in
set_option maxRecDepth 100000 in
theorem spec_PlayBlock.calls (k : Nat) (a0_0 : Int) (A0_1 : Option Addr) (c0_1 : Nat) (l0_1 : List Int) (A0_2 : Option Addr) (c0_2 : Nat) (l0_2 : List Int) (A1 : Option Addr) (c1 : Nat) (l1 : List Int) (r1 : Int) (r2 : Int) (r3 : List Int) (r4 : List Int) (r5 : List Int) (w : World) (hr0_1 : Kd.C (Kd.int .i64) w A0_1 l0_1.length l0_1) (hc0_1 : l0_1.length ≤ c0_1) (hr0_2 : Kd.C (Kd.int .i64) w A0_2 l0_2.length l0_2) (hc0_2 : l0_2.length ≤ c0_2) (hr1 : Kd.C (Kd.int .i64) w A1 l1.length l1) (hc1 : l1.length ≤ c1) (h : spec_PlayBlock.f k a0_0 l0_1 l0_2 l1 = some (r1, r2, r3, r4, r5)) :
  Calls Try.prog 17 #[.agg #[.int .i64 a0_0, .slice A0_1 l0_1.length c0_1, .slice A0_2 l0_2.length c0_2], .slice A1 l1.length c1] w fun e w' => ∃ v2_ v3_ v4_ : Value, e = .returned (.agg #[.int .i64 r1, .int .i64 r2, v2_, v3_, v4_]) ∧ Kd.R (Kd.int .i64) 2 w' w.heap.size (fun k_ => some k_ ≠ (v3_ : Value).ownBlock ∧ some k_ ≠ (v4_ : Value).ownBlock) v2_ r3 ∧ Kd.R (Kd.int .i64) 2 w' w.heap.size (fun k_ => some k_ ≠ (v2_ : Value).ownBlock ∧ some k_ ≠ (v4_ : Value).ownBlock) v3_ r4 ∧ Kd.R (Kd.int .i64) 2 w' w.heap.size (fun k_ => some k_ ≠ (v2_ : Value).ownBlock ∧ some k_ ≠ (v3_ : Value).ownBlock) v4_ r5 ∧ Below w.heap.size w w' := by
 have hu35 := Try.underlying35
 have hu37 := Try.underlying37
 have HR0_1 := aM hr0_1
 have HC0_1 := aM hc0_1
 clear hr0_1 hc0_1
 have HR0_2 := aM hr0_2
 have HC0_2 := aM hc0_2
 clear hr0_2 hc0_2
 have HR1 := aM hr1
 have HC1 := aM hc1
 clear hr1 hc1
 have HB := aM (Below.refl w.heap.size w)
 have H : ((spec_SynthFault.f k a0_0 l0_1 l0_2).bind fun t235 => (if t235 = 0 then (if (l1.length : Int) = a0_0 then ((spec_l6Ask.f k l1 16777216).bind fun t236 => (if t236 = 0 then ((spec_l7Play.f k a0_0 l0_1 l0_2 l1).bind fun bt237 => (some (0, bt237.1, bt237.2.1, bt237.2.2.1, bt237.2.2.2.1))) else (some (t236, 0, ([] : List Int), ([] : List Int), ([] : List Int))))) else (some (2, 0, ([] : List Int), ([] : List Int), ([] : List Int)))) else (some (t235, 0, ([] : List Int), ([] : List Int), ([] : List Int))))) = some (r1, r2, r3, r4, r5) := h
 clear h
 replace H := Option.bind_eq_some_iff.mp H
 obtain ⟨t235, A30, H⟩ := H
 replace H : (if t235 = 0 then (if (l1.length : Int) = a0_0 then ((spec_l6Ask.f k l1 16777216).bind fun t236 => (if t236 = 0 then ((spec_l7Play.f k a0_0 l0_1 l0_2 l1).bind fun bt237 => (some (0, bt237.1, bt237.2.1, bt237.2.2.1, bt237.2.2.2.1))) else (some (t236, 0, ([] : List Int), ([] : List Int), ([] : List Int))))) else (some (2, 0, ([] : List Int), ([] : List Int), ([] : List Int)))) else (some (t235, 0, ([] : List Int), ([] : List Int), ([] : List Int)))) = some (r1, r2, r3, r4, r5) := H
 have A3 := aM A30
 clear A30
 by_cases c4 : t235 = 0
 ·rw [if_pos c4] at H
  have c4b0 : (t235 == 0) = true := beq_iff_eq.mpr c4
  have c4b1 : (t235 != 0) = false := bne_eq_false_iff_eq.mpr c4
  clear c4
  by_cases c5 : (l1.length : Int) = a0_0
  ·rw [if_pos c5] at H
   have c5b0 : ((l1.length : Int) == a0_0) = true := beq_iff_eq.mpr c5
   have c5b1 : ((l1.length : Int) != a0_0) = false := bne_eq_false_iff_eq.mpr c5
   clear c5
   replace H := Option.bind_eq_some_iff.mp H
   obtain ⟨t236, A60, H⟩ := H
   replace H : (if t236 = 0 then ((spec_l7Play.f k a0_0 l0_1 l0_2 l1).bind fun bt237 => (some (0, bt237.1, bt237.2.1, bt237.2.2.1, bt237.2.2.2.1))) else (some (t236, 0, ([] : List Int), ([] : List Int), ([] : List Int)))) = some (r1, r2, r3, r4, r5) := H
   have A6 := aM A60
   clear A60
   by_cases c7 : t236 = 0
   ·rw [if_pos c7] at H
    have c7b0 : (t236 == 0) = true := beq_iff_eq.mpr c7
    have c7b1 : (t236 != 0) = false := bne_eq_false_iff_eq.mpr c7
    clear c7
    replace H := Option.bind_eq_some_iff.mp H
    obtain ⟨⟨t237, t238, t241, t244, t247⟩, A80, H⟩ := H
    replace H : (some (0, t237, t238, t241, t244)) = some (r1, r2, r3, r4, r5) := H
    have A8 := aM A80
    clear A80
    simp only [Option.some.injEq, Prod.mk.injEq] at H
    obtain ⟨rfl, rfl, rfl, rfl, rfl⟩ := H
    go_enter Try.func17, Try.ntmps17
    go_wp2_with (first | ((with_reducible refine gate_dst (N := 2) rfl ?_); refine box_event ?hg (N := 2) ?hd (cs := #[.int .i64 a0_0, .slice A0_1 l0_1.length c0_1, .slice A0_2 l0_2.length c0_2]) (t := 35) ?hr ?_; (case hd => rfl); (case hg => rfl); (case hr => first | (go_simp; done) | (go_simp; rfl)); intro gb233 hg w9 hbox hb; have n0_ := aM (bT bq hb); have n1_ := aM (hbox); have n2_ := aM ((by rw [hg]; exact (bZ bq) : w.heap.size ≤ gb233)); have n3_ := aM ((by rw [hg]; exact (bZ bq) : w.heap.size ≤ gb233)); clear HB; have HB := n0_; have BK233 := n1_; have GW233 := n2_; have GE233 := n3_; clear n0_ n1_ n2_ n3_ hb hbox hg) | ((with_reducible refine gate_dst (N := 4) rfl ?_); refine box_event ?hg (N := 4) ?hd (cs := #[.int .i64 0, .int .i64 0, .slice none 0 0, .slice none 0 0, .slice none 0 0]) (t := 37) ?hr ?_; (case hd => rfl); (case hg => rfl); (case hr => first | (go_simp; done) | (go_simp; rfl)); intro gb234 hg w10 hbox hb; have n0_ := aM (kB (g := gb233) (o := .cells #[.int .i64 a0_0, .slice A0_1 l0_1.length c0_1, .slice A0_2 l0_2.length c0_2] 35 (0, 0)) (kq BK233.out) hb); have n1_ := aM (bT bq hb); have n2_ := aM (hbox); have n3_ := aM ((by rw [hg]; exact (bZ bq) : w.heap.size ≤ gb234)); have n4_ := aM ((by rw [hg]; exact (bZ bq) : w.heap.size ≤ gb234)); have n5_ := aM ((by rw [hg]; exact Nat.ne_of_lt (blk_lt (g := gb233) (o := .cells #[.int .i64 a0_0, .slice A0_1 l0_1.length c0_1, .slice A0_2 l0_2.length c0_2] 35 (0, 0)) (kq BK233.out)) : gb233 ≠ gb234)); have n6_ := aM ((by rw [hg]; exact Nat.ne_of_gt (blk_lt (g := gb233) (o := .cells #[.int .i64 a0_0, .slice A0_1 l0_1.length c0_1, .slice A0_2 l0_2.length c0_2] 35 (0, 0)) (kq BK233.out)) : gb234 ≠ gb233)); clear BK233 HB; have BK233 := n0_; have HB := n1_; have BK234 := n2_; have GW234 := n3_; have GE234 := n4_; have NB233_234 := n5_; have NB234_233 := n6_; clear n0_ n1_ n2_ n3_ n4_ n5_ n6_ hb hbox hg; have hnb11 := NB233_234.out; have hnc11 := NB234_233.out; have hcz12_0 : w10.cell? ⟨gb233, 0, none⟩ = some (.int .i64 a0_0) := (kC BK233.out 0).trans rfl; have hcz12_1 : w10.cell? ⟨gb233, 1, none⟩ = some (.slice A0_1 l0_1.length c0_1) := (kC BK233.out 1).trans rfl; have hcz12_2 : w10.cell? ⟨gb233, 2, none⟩ = some (.slice A0_2 l0_2.length c0_2) := (kC BK233.out 2).trans rfl; have hfz12_0 := kF BK233.out 0; have hfz12_1 := kF BK233.out 1; have hfz12_2 := kF BK233.out 2) | ((with_reducible refine gate_callee (f := 57) rfl ?_); refine goesL_ (some 10) rfl rfl Try.func57 (by kernel_rfl) rfl #[.agg #[.int .i64 a0_0, .slice A0_1 l0_1.length c0_1, .slice A0_2 l0_2.length c0_2]] rfl mq ?_; (with_reducible refine (spec_SynthFault.calls k a0_0 _ _ l0_1 _ _ l0_2 t235 _ ?side1 ?side2 ?side3 ?side4 A3.out).mono ?_); (case side1 => exact cq (cB HR0_1.out HB.out)); (case side2 => exact HC0_1.out); (case side3 => exact cq (cB HR0_2.out HB.out)); (case side4 => exact HC0_2.out); rintro e w13 ⟨rfl, hb⟩; refine ⟨_, rfl, ?_⟩; have n0_ := aM (kB (g := gb233) (o := .cells #[.int .i64 a0_0, .slice A0_1 l0_1.length c0_1, .slice A0_2 l0_2.length c0_2] 35 (0, 0)) (kq BK233.out) hb); have n1_ := aM (kB (g := gb234) (o := .cells #[.int .i64 0, .int .i64 0, .slice none 0 0, .slice none 0 0, .slice none 0 0] 37 (0, 0)) (kq BK234.out) hb); have n2_ := aM (bT bq hb); clear BK233 BK234 HB; have BK233 := n0_; have BK234 := n1_; have HB := n2_; clear n0_ n1_ n2_; (try clear hb); have hcz14_0 : w13.cell? ⟨gb233, 0, none⟩ = some (.int .i64 a0_0) := (kC BK233.out 0).trans rfl; have hcz14_1 : w13.cell? ⟨gb233, 1, none⟩ = some (.slice A0_1 l0_1.length c0_1) := (kC BK233.out 1).trans rfl; have hcz14_2 : w13.cell? ⟨gb233, 2, none⟩ = some (.slice A0_2 l0_2.length c0_2) := (kC BK233.out 2).trans rfl; have hfz14_0 := kF BK233.out 0; have hfz14_1 := kF BK233.out 1; have hfz14_2 := kF BK233.out 2) | ((with_reducible refine gate_callee (f := 58) rfl ?_); refine goesL_ (some 22) rfl rfl Try.func58 (by kernel_rfl) rfl #[.slice A1 l1.length c1, .int .i64 16777216] rfl mq ?_; (with_reducible refine (spec_l6Ask.calls k _ _ l1 16777216 t236 _ ?side1 ?side2 A6.out).mono ?_); (case side1 => exact cq (cB HR1.out HB.out)); (case side2 => exact HC1.out); rintro e w' ⟨rfl, ⟨nd, rfl⟩⟩; refine ⟨_, rfl, ?_⟩; (try (rw [drewN_self w13]; generalize hq_ : World.drewN w13 _ = w13; have n0_ : Aside0 (w13.heap[gb233]? = some (.cells #[.int .i64 a0_0, .slice A0_1 l0_1.length c0_1, .slice A0_2 l0_2.length c0_2] 35 (0, 0))) := ⟨by rw [← hq_]; exact (kq BK233.out)⟩; have n1_ : Aside0 (w13.heap[gb234]? = some (.cells #[.int .i64 0, .int .i64 0, .slice none 0 0, .slice none 0 0, .slice none 0 0] 37 (0, 0))) := ⟨by rw [← hq_]; exact (kq BK234.out)⟩; have n2_ : Aside0 (Below w.heap.size w w13) := ⟨by rw [← hq_]; exact bq⟩; clear BK233 BK234 HB hq_; have BK233 := n0_; have BK234 := n1_; have HB := n2_; clear n0_ n1_ n2_)); have HI233 := aM (show IsS35 w w13 gb233 a0_0 l0_1 l0_2 from ⟨_, _, _, _, by (with_reducible repeat (first | refine kN ?_ _ | refine kD ?_ | refine kA ?_ _)); exact BK233.out, GE233.out, HR0_1.out, HR0_2.out, HC0_1.out, HC0_2.out⟩)) | ((with_reducible refine gate_callee (f := 59) rfl ?_); refine goesL_ (some 29) rfl rfl Try.func59 (by kernel_rfl) rfl #[.pointer (some ⟨gb233, 0, none⟩), .slice A1 l1.length c1] rfl mq ?_; (with_reducible refine (spec_l7Play.calls k gb233 a0_0 l0_1 l0_2 _ _ l1 t237 t238 t241 t244 t247 w _ ?side1 ?side2 ?side3 ?side4 ?side5 A8.out).mono ?_); (case side1 => repeat (first | (with_reducible first | exact HI233.out | apply IsS35.alloc | apply IsS35.drewN | apply IsS35.drew | apply IsS35.set_0 | refine IsS35.far ?_ NB233_234.out _) | exact HI233.out)); (case side2 => repeat (first | (with_reducible first | exact HB.out | apply bA | apply bN | apply bD | refine bS ?_ (IsS35.ge HI233.out) | refine bS ?_ GE234.out) | exact HB.out)); (case side3 => exact cq (cB HR1.out HB.out)); (case side4 => exact HC1.out); (case side5 => exact Kd.far_C 0 HR1.out (IsS35.ge HI233.out)); rintro e w15 ⟨v239, v242, v245, rfl, ho0, ho1, ho2, hi, hb, hk⟩; refine ⟨_, rfl, ?_⟩; have n0_ := aM (KeepBut.blk hk (g' := gb234) (o := .cells #[.int .i64 0, .int .i64 0, .slice none 0 0, .slice none 0 0, .slice none 0 0] 37 (0, 0)) (kq BK234.out) NB234_233.out (by simp)); have n1_ := aM (rG ho0 (bZ (by repeat (first | (with_reducible first | exact HB.out | apply bA | apply bN | apply bD | refine bS ?_ (IsS35.ge HI233.out) | refine bS ?_ GE234.out) | exact HB.out)))); have n2_ := aM (rG ho1 (bZ (by repeat (first | (with_reducible first | exact HB.out | apply bA | apply bN | apply bD | refine bS ?_ (IsS35.ge HI233.out) | refine bS ?_ GE234.out) | exact HB.out)))); have n3_ := aM (rG ho2 (bZ (by repeat (first | (with_reducible first | exact HB.out | apply bA | apply bN | apply bD | refine bS ?_ (IsS35.ge HI233.out) | refine bS ?_ GE234.out) | exact HB.out)))); have n4_ := aM (hb); have n5_ := aM (hi); clear BK234 HB HI233; have BK234 := n0_; have HO240 := n1_; have HO243 := n2_; have HO246 := n3_; have HB := n4_; have HI233 := n5_; clear n0_ n1_ n2_ n3_ n4_ n5_; (try clear hb); (try clear ho0); (try clear ho1); (try clear ho2)) | ((with_reducible refine gate_dst (N := 7) rfl ?_); refine box_event ?hg (N := 7) ?hd (cs := #[.int .i64 0, .slice none 0 0, .slice none 0 0]) (t := 35) ?hr ?_; (case hd => rfl); (case hg => rfl); (case hr => first | (go_simp; done) | (go_simp; rfl)); intro gb248 hg w16 hbox hb; have n0_ := aM (rL (rq HO240.out) hb); have n1_ := aM (rL (rq HO243.out) hb); have n2_ := aM (rL (rq HO246.out) hb); have n3_ := aM (kB (g := gb234) (o := .cells #[.int .i64 0, .int .i64 0, .slice none 0 0, .slice none 0 0, .slice none 0 0] 37 (0, 0)) (kq BK234.out) hb); have n4_ := aM (IsS35.below (by repeat (first | (with_reducible first | exact HI233.out | apply IsS35.alloc | apply IsS35.drewN | apply IsS35.drew | apply IsS35.set_0 | refine IsS35.far ?_ NB233_234.out _) | exact HI233.out)) hb); have n5_ := aM (bT (by repeat (first | (with_reducible first | exact HB.out | apply bA | apply bN | apply bD | refine bS ?_ (IsS35.ge HI233.out) | refine bS ?_ GE234.out) | exact HB.out)) hb); have n6_ := aM (hbox); have n7_ := aM ((by rw [hg]; exact (bZ (by repeat (first | (with_reducible first | exact HB.out | apply bA | apply bN | apply bD | refine bS ?_ (IsS35.ge HI233.out) | refine bS ?_ GE234.out) | exact HB.out))) : w.heap.size ≤ gb248)); have n8_ := aM ((by rw [hg]; exact (bZ (by repeat (first | (with_reducible first | exact HB.out | apply bA | apply bN | apply bD | refine bS ?_ (IsS35.ge HI233.out) | refine bS ?_ GE234.out) | exact HB.out))) : w.heap.size ≤ gb248)); have n9_ := aM ((by rw [hg]; exact Nat.ne_of_lt (blk_lt (g := gb234) (o := .cells #[.int .i64 0, .int .i64 0, .slice none 0 0, .slice none 0 0, .slice none 0 0] 37 (0, 0)) (kq BK234.out)) : gb234 ≠ gb248)); have n10_ := aM ((by rw [hg]; exact Nat.ne_of_gt (blk_lt (g := gb234) (o := .cells #[.int .i64 0, .int .i64 0, .slice none 0 0, .slice none 0 0, .slice none 0 0] 37 (0, 0)) (kq BK234.out)) : gb248 ≠ gb234)); have n11_ := aM ((by rw [hg]; exact Nat.ne_of_lt (IsS35.lt (show IsS35 w _ gb233 t247 l0_1 l0_2 from by repeat (first | (with_reducible first | exact HI233.out | apply IsS35.alloc | apply IsS35.drewN | apply IsS35.drew | apply IsS35.set_0 | refine IsS35.far ?_ NB233_234.out _) | exact HI233.out))) : gb233 ≠ gb248)); have n12_ := aM ((by rw [hg]; exact Nat.ne_of_gt (IsS35.lt (show IsS35 w _ gb233 t247 l0_1 l0_2 from by repeat (first | (with_reducible first | exact HI233.out | apply IsS35.alloc | apply IsS35.drewN | apply IsS35.drew | apply IsS35.set_0 | refine IsS35.far ?_ NB233_234.out _) | exact HI233.out))) : gb248 ≠ gb233)); clear HO240 HO243 HO246 BK234 HI233 HB; have HO240 := n0_; have HO243 := n1_; have HO246 := n2_; have BK234 := n3_; have HI233 := n4_; have HB := n5_; have BK248 := n6_; have GW248 := n7_; have GE248 := n8_; have NB234_248 := n9_; have NB248_234 := n10_; have NB233_248 := n11_; have NB248_233 := n12_; clear n0_ n1_ n2_ n3_ n4_ n5_ n6_ n7_ n8_ n9_ n10_ n11_ n12_ hb hbox hg; have hnb17 := NB248_234.out; have hnc17 := NB234_248.out; have hnb18 := NB248_233.out; have hnc18 := NB233_248.out; have hcz19_0 : w16.cell? ⟨gb248, 0, none⟩ = some (.int .i64 0) := (kC BK248.out 0).trans rfl; have hcz19_1 : w16.cell? ⟨gb248, 1, none⟩ = some (.slice none 0 0) := (kC BK248.out 1).trans rfl; have hcz19_2 : w16.cell? ⟨gb248, 2, none⟩ = some (.slice none 0 0) := (kC BK248.out 2).trans rfl; have hfz19_0 := kF BK248.out 0; have hfz19_1 := kF BK248.out 1; have hfz19_2 := kF BK248.out 2; obtain ⟨Ao20, co20, eo20⟩ := Kd.R_slice HO240.out; subst eo20; obtain ⟨Ao21, co21, eo21⟩ := Kd.R_slice HO243.out; subst eo21; obtain ⟨Ao22, co22, eo22⟩ := Kd.R_slice HO246.out; subst eo22; have hcz23_0 : w16.cell? ⟨gb234, 0, none⟩ = some (.int .i64 0) := (kC BK234.out 0).trans rfl; have hcz23_1 : w16.cell? ⟨gb234, 1, none⟩ = some (.int .i64 0) := (kC BK234.out 1).trans rfl; have hcz23_2 : w16.cell? ⟨gb234, 2, none⟩ = some (.slice none 0 0) := (kC BK234.out 2).trans rfl; have hcz23_3 : w16.cell? ⟨gb234, 3, none⟩ = some (.slice none 0 0) := (kC BK234.out 3).trans rfl; have hcz23_4 : w16.cell? ⟨gb234, 4, none⟩ = some (.slice none 0 0) := (kC BK234.out 4).trans rfl; have hfz23_0 := kF BK234.out 0; have hfz23_1 := kF BK234.out 1; have hfz23_2 := kF BK234.out 2; have hfz23_3 := kF BK234.out 3; have hfz23_4 := kF BK234.out 4))
    refine bodyPost_ret (results_cell_row rfl _ _ gb234 37 #[.int .i64 0, .int .i64 t237, .slice Ao20 t238.length co20, .slice Ao21 t241.length co21, .slice Ao22 t244.length co22] (0, 0) _ rfl (by (with_reducible repeat (first | refine kN ?_ _ | refine kD ?_ | refine kA ?_ _)); refine blk_put (cs := #[.int .i64 0, .int .i64 t237, .slice Ao20 t238.length co20, .slice Ao21 t241.length co21, .slice none 0 0]) ?_ 4 _ rfl; (with_reducible repeat (first | refine kN ?_ _ | refine kD ?_ | refine kA ?_ _)); refine blk_put (cs := #[.int .i64 0, .int .i64 t237, .slice Ao20 t238.length co20, .slice none 0 0, .slice none 0 0]) ?_ 3 _ rfl; (with_reducible repeat (first | refine kN ?_ _ | refine kD ?_ | refine kA ?_ _)); refine blk_put (cs := #[.int .i64 0, .int .i64 t237, .slice none 0 0, .slice none 0 0, .slice none 0 0]) ?_ 2 _ rfl; (with_reducible repeat (first | refine kN ?_ _ | refine kD ?_ | refine kA ?_ _)); refine blk_put (cs := #[.int .i64 0, .int .i64 0, .slice none 0 0, .slice none 0 0, .slice none 0 0]) ?_ 1 _ rfl; (with_reducible repeat (first | refine kN ?_ _ | refine kD ?_ | refine kA ?_ _)); refine blk_put (cs := #[.int .i64 0, .int .i64 0, .slice none 0 0, .slice none 0 0, .slice none 0 0]) ?_ 0 _ rfl; (with_reducible repeat (first | refine kN ?_ _ | refine kD ?_ | refine kA ?_ _)); refine blk_far ?_ NB234_248.out _; (with_reducible repeat (first | refine kN ?_ _ | refine kD ?_ | refine kA ?_ _)); refine blk_far ?_ NB234_248.out _; (with_reducible repeat (first | refine kN ?_ _ | refine kD ?_ | refine kA ?_ _)); refine blk_far ?_ NB234_248.out _; (with_reducible repeat (first | refine kN ?_ _ | refine kD ?_ | refine kA ?_ _)); exact BK234.out) Try.underlying37 rfl (by kernel_rfl)) rfl ?_
    exact ⟨_, _, _, by first | rfl | (simp [errW_none, errW_some] <;> rfl) | (simp [*, errW_none, errW_some] <;> rfl), by (with_reducible repeat (first | apply rA | apply rN | apply rD)); exact rM (rF (p := ⟨gb234, 4, none⟩) (rF (p := ⟨gb234, 3, none⟩) (rF (p := ⟨gb234, 2, none⟩) (rF (p := ⟨gb234, 1, none⟩) (rF (p := ⟨gb234, 0, none⟩) (rF (p := ⟨gb248, 2, none⟩) (rF (p := ⟨gb248, 1, none⟩) (rF (p := ⟨gb248, 0, none⟩) (Kd.R_types (Kd.R_types HO240.out BK248.out (by decide)) BK234.out (by decide)) (fun _ hk => hk.1.2) (.int .i64 t237)) (fun _ hk => hk.1.2) (.slice Ao20 t238.length co20)) (fun _ hk => hk.1.2) (.slice Ao21 t241.length co21)) (fun _ hk => hk.2) (.int .i64 0)) (fun _ hk => hk.2) (.int .i64 t237)) (fun _ hk => hk.2) (.slice Ao20 t238.length co20)) (fun _ hk => hk.2) (.slice Ao21 t241.length co21)) (fun _ hk => hk.2) (.slice Ao22 t244.length co22)) (fun _ hk => ⟨hk.1.1.1, hk.1.1.2⟩), by (with_reducible repeat (first | apply rA | apply rN | apply rD)); exact rM (rF (p := ⟨gb234, 4, none⟩) (rF (p := ⟨gb234, 3, none⟩) (rF (p := ⟨gb234, 2, none⟩) (rF (p := ⟨gb234, 1, none⟩) (rF (p := ⟨gb234, 0, none⟩) (rF (p := ⟨gb248, 2, none⟩) (rF (p := ⟨gb248, 1, none⟩) (rF (p := ⟨gb248, 0, none⟩) (Kd.R_types (Kd.R_types HO243.out BK248.out (by decide)) BK234.out (by decide)) (fun _ hk => hk.1.2) (.int .i64 t237)) (fun _ hk => hk.1.2) (.slice Ao20 t238.length co20)) (fun _ hk => hk.1.2) (.slice Ao21 t241.length co21)) (fun _ hk => hk.2) (.int .i64 0)) (fun _ hk => hk.2) (.int .i64 t237)) (fun _ hk => hk.2) (.slice Ao20 t238.length co20)) (fun _ hk => hk.2) (.slice Ao21 t241.length co21)) (fun _ hk => hk.2) (.slice Ao22 t244.length co22)) (fun _ hk => ⟨hk.1.1.1, hk.1.1.2⟩), by (with_reducible repeat (first | apply rA | apply rN | apply rD)); exact rM (rF (p := ⟨gb234, 4, none⟩) (rF (p := ⟨gb234, 3, none⟩) (rF (p := ⟨gb234, 2, none⟩) (rF (p := ⟨gb234, 1, none⟩) (rF (p := ⟨gb234, 0, none⟩) (rF (p := ⟨gb248, 2, none⟩) (rF (p := ⟨gb248, 1, none⟩) (rF (p := ⟨gb248, 0, none⟩) (Kd.R_types (Kd.R_types HO246.out BK248.out (by decide)) BK234.out (by decide)) (fun _ hk => hk.1.2) (.int .i64 t237)) (fun _ hk => hk.1.2) (.slice Ao20 t238.length co20)) (fun _ hk => hk.1.2) (.slice Ao21 t241.length co21)) (fun _ hk => hk.2) (.int .i64 0)) (fun _ hk => hk.2) (.int .i64 t237)) (fun _ hk => hk.2) (.slice Ao20 t238.length co20)) (fun _ hk => hk.2) (.slice Ao21 t241.length co21)) (fun _ hk => hk.2) (.slice Ao22 t244.length co22)) (fun _ hk => ⟨hk.1.1.1, hk.1.1.2⟩), by repeat (first | (with_reducible first | exact HB.out | apply bA | apply bN | apply bD | refine bS ?_ (IsS35.ge HI233.out) | refine bS ?_ GE234.out | refine bS ?_ GE248.out) | exact HB.out)⟩
   ·rw [if_neg c7] at H
    have c7b0 : (t236 == 0) = false := beq_eq_false_iff_ne.mpr c7
    have c7b1 : (t236 != 0) = true := bne_iff_ne.mpr c7
    simp only [Option.some.injEq, Prod.mk.injEq] at H
    obtain ⟨rfl, rfl, rfl, rfl, rfl⟩ := H
    go_enter Try.func17, Try.ntmps17
    go_wp2_with (first | ((with_reducible refine gate_dst (N := 2) rfl ?_); refine box_event ?hg (N := 2) ?hd (cs := #[.int .i64 a0_0, .slice A0_1 l0_1.length c0_1, .slice A0_2 l0_2.length c0_2]) (t := 35) ?hr ?_; (case hd => rfl); (case hg => rfl); (case hr => first | (go_simp; done) | (go_simp; rfl)); intro gb233 hg w24 hbox hb; have n0_ := aM (bT bq hb); have n1_ := aM (hbox); have n2_ := aM ((by rw [hg]; exact (bZ bq) : w.heap.size ≤ gb233)); have n3_ := aM ((by rw [hg]; exact (bZ bq) : w.heap.size ≤ gb233)); clear HB; have HB := n0_; have BK233 := n1_; have GW233 := n2_; have GE233 := n3_; clear n0_ n1_ n2_ n3_ hb hbox hg) | ((with_reducible refine gate_dst (N := 4) rfl ?_); refine box_event ?hg (N := 4) ?hd (cs := #[.int .i64 0, .int .i64 0, .slice none 0 0, .slice none 0 0, .slice none 0 0]) (t := 37) ?hr ?_; (case hd => rfl); (case hg => rfl); (case hr => first | (go_simp; done) | (go_simp; rfl)); intro gb234 hg w25 hbox hb; have n0_ := aM (kB (g := gb233) (o := .cells #[.int .i64 a0_0, .slice A0_1 l0_1.length c0_1, .slice A0_2 l0_2.length c0_2] 35 (0, 0)) (kq BK233.out) hb); have n1_ := aM (bT bq hb); have n2_ := aM (hbox); have n3_ := aM ((by rw [hg]; exact (bZ bq) : w.heap.size ≤ gb234)); have n4_ := aM ((by rw [hg]; exact (bZ bq) : w.heap.size ≤ gb234)); have n5_ := aM ((by rw [hg]; exact Nat.ne_of_lt (blk_lt (g := gb233) (o := .cells #[.int .i64 a0_0, .slice A0_1 l0_1.length c0_1, .slice A0_2 l0_2.length c0_2] 35 (0, 0)) (kq BK233.out)) : gb233 ≠ gb234)); have n6_ := aM ((by rw [hg]; exact Nat.ne_of_gt (blk_lt (g := gb233) (o := .cells #[.int .i64 a0_0, .slice A0_1 l0_1.length c0_1, .slice A0_2 l0_2.length c0_2] 35 (0, 0)) (kq BK233.out)) : gb234 ≠ gb233)); clear BK233 HB; have BK233 := n0_; have HB := n1_; have BK234 := n2_; have GW234 := n3_; have GE234 := n4_; have NB233_234 := n5_; have NB234_233 := n6_; clear n0_ n1_ n2_ n3_ n4_ n5_ n6_ hb hbox hg; have hnb26 := NB233_234.out; have hnc26 := NB234_233.out; have hcz27_0 : w25.cell? ⟨gb233, 0, none⟩ = some (.int .i64 a0_0) := (kC BK233.out 0).trans rfl; have hcz27_1 : w25.cell? ⟨gb233, 1, none⟩ = some (.slice A0_1 l0_1.length c0_1) := (kC BK233.out 1).trans rfl; have hcz27_2 : w25.cell? ⟨gb233, 2, none⟩ = some (.slice A0_2 l0_2.length c0_2) := (kC BK233.out 2).trans rfl; have hfz27_0 := kF BK233.out 0; have hfz27_1 := kF BK233.out 1; have hfz27_2 := kF BK233.out 2) | ((with_reducible refine gate_callee (f := 57) rfl ?_); refine goesL_ (some 10) rfl rfl Try.func57 (by kernel_rfl) rfl #[.agg #[.int .i64 a0_0, .slice A0_1 l0_1.length c0_1, .slice A0_2 l0_2.length c0_2]] rfl mq ?_; (with_reducible refine (spec_SynthFault.calls k a0_0 _ _ l0_1 _ _ l0_2 t235 _ ?side1 ?side2 ?side3 ?side4 A3.out).mono ?_); (case side1 => exact cq (cB HR0_1.out HB.out)); (case side2 => exact HC0_1.out); (case side3 => exact cq (cB HR0_2.out HB.out)); (case side4 => exact HC0_2.out); rintro e w28 ⟨rfl, hb⟩; refine ⟨_, rfl, ?_⟩; have n0_ := aM (kB (g := gb233) (o := .cells #[.int .i64 a0_0, .slice A0_1 l0_1.length c0_1, .slice A0_2 l0_2.length c0_2] 35 (0, 0)) (kq BK233.out) hb); have n1_ := aM (kB (g := gb234) (o := .cells #[.int .i64 0, .int .i64 0, .slice none 0 0, .slice none 0 0, .slice none 0 0] 37 (0, 0)) (kq BK234.out) hb); have n2_ := aM (bT bq hb); clear BK233 BK234 HB; have BK233 := n0_; have BK234 := n1_; have HB := n2_; clear n0_ n1_ n2_; (try clear hb); have hcz29_0 : w28.cell? ⟨gb233, 0, none⟩ = some (.int .i64 a0_0) := (kC BK233.out 0).trans rfl; have hcz29_1 : w28.cell? ⟨gb233, 1, none⟩ = some (.slice A0_1 l0_1.length c0_1) := (kC BK233.out 1).trans rfl; have hcz29_2 : w28.cell? ⟨gb233, 2, none⟩ = some (.slice A0_2 l0_2.length c0_2) := (kC BK233.out 2).trans rfl; have hfz29_0 := kF BK233.out 0; have hfz29_1 := kF BK233.out 1; have hfz29_2 := kF BK233.out 2) | ((with_reducible refine gate_callee (f := 58) rfl ?_); refine goesL_ (some 22) rfl rfl Try.func58 (by kernel_rfl) rfl #[.slice A1 l1.length c1, .int .i64 16777216] rfl mq ?_; (with_reducible refine (spec_l6Ask.calls k _ _ l1 16777216 t236 _ ?side1 ?side2 A6.out).mono ?_); (case side1 => exact cq (cB HR1.out HB.out)); (case side2 => exact HC1.out); rintro e w' ⟨rfl, ⟨nd, rfl⟩⟩; refine ⟨_, rfl, ?_⟩; (try (rw [drewN_self w28]; generalize hq_ : World.drewN w28 _ = w28; have n0_ : Aside0 (w28.heap[gb233]? = some (.cells #[.int .i64 a0_0, .slice A0_1 l0_1.length c0_1, .slice A0_2 l0_2.length c0_2] 35 (0, 0))) := ⟨by rw [← hq_]; exact (kq BK233.out)⟩; have n1_ : Aside0 (w28.heap[gb234]? = some (.cells #[.int .i64 0, .int .i64 0, .slice none 0 0, .slice none 0 0, .slice none 0 0] 37 (0, 0))) := ⟨by rw [← hq_]; exact (kq BK234.out)⟩; have n2_ : Aside0 (Below w.heap.size w w28) := ⟨by rw [← hq_]; exact bq⟩; clear BK233 BK234 HB hq_; have BK233 := n0_; have BK234 := n1_; have HB := n2_; clear n0_ n1_ n2_)); have hcz30_0 : w28.cell? ⟨gb234, 0, none⟩ = some (.int .i64 0) := (kC BK234.out 0).trans rfl; have hcz30_1 : w28.cell? ⟨gb234, 1, none⟩ = some (.int .i64 0) := (kC BK234.out 1).trans rfl; have hcz30_2 : w28.cell? ⟨gb234, 2, none⟩ = some (.slice none 0 0) := (kC BK234.out 2).trans rfl; have hcz30_3 : w28.cell? ⟨gb234, 3, none⟩ = some (.slice none 0 0) := (kC BK234.out 3).trans rfl; have hcz30_4 : w28.cell? ⟨gb234, 4, none⟩ = some (.slice none 0 0) := (kC BK234.out 4).trans rfl; have hfz30_0 := kF BK234.out 0; have hfz30_1 := kF BK234.out 1; have hfz30_2 := kF BK234.out 2; have hfz30_3 := kF BK234.out 3; have hfz30_4 := kF BK234.out 4))
    refine bodyPost_ret (results_cell_row rfl _ _ gb234 37 #[.int .i64 t236, .int .i64 0, .slice none 0 0, .slice none 0 0, .slice none 0 0] (0, 0) _ rfl (by (with_reducible repeat (first | refine kN ?_ _ | refine kD ?_ | refine kA ?_ _)); refine blk_put (cs := #[.int .i64 t236, .int .i64 0, .slice none 0 0, .slice none 0 0, .slice none 0 0]) ?_ 4 _ rfl; (with_reducible repeat (first | refine kN ?_ _ | refine kD ?_ | refine kA ?_ _)); refine blk_put (cs := #[.int .i64 t236, .int .i64 0, .slice none 0 0, .slice none 0 0, .slice none 0 0]) ?_ 3 _ rfl; (with_reducible repeat (first | refine kN ?_ _ | refine kD ?_ | refine kA ?_ _)); refine blk_put (cs := #[.int .i64 t236, .int .i64 0, .slice none 0 0, .slice none 0 0, .slice none 0 0]) ?_ 2 _ rfl; (with_reducible repeat (first | refine kN ?_ _ | refine kD ?_ | refine kA ?_ _)); refine blk_put (cs := #[.int .i64 t236, .int .i64 0, .slice none 0 0, .slice none 0 0, .slice none 0 0]) ?_ 1 _ rfl; (with_reducible repeat (first | refine kN ?_ _ | refine kD ?_ | refine kA ?_ _)); refine blk_put (cs := #[.int .i64 0, .int .i64 0, .slice none 0 0, .slice none 0 0, .slice none 0 0]) ?_ 0 _ rfl; (with_reducible repeat (first | refine kN ?_ _ | refine kD ?_ | refine kA ?_ _)); exact BK234.out) Try.underlying37 rfl (by kernel_rfl)) rfl ?_
    exact ⟨_, _, _, by first | rfl | (simp [errW_none, errW_some] <;> rfl) | (simp [*, errW_none, errW_some] <;> rfl), by first | exact Kd.R_nil _ _ _ _ _ | exact Kd.N_nil _ _ _ _ _ | exact Kd.V_nil _ _ _ _ _ | exact Kd.Q_nil _ _ _ _ _ | exact Kd.S_nil _ _ _ _ _, by first | exact Kd.R_nil _ _ _ _ _ | exact Kd.N_nil _ _ _ _ _ | exact Kd.V_nil _ _ _ _ _ | exact Kd.Q_nil _ _ _ _ _ | exact Kd.S_nil _ _ _ _ _, by first | exact Kd.R_nil _ _ _ _ _ | exact Kd.N_nil _ _ _ _ _ | exact Kd.V_nil _ _ _ _ _ | exact Kd.Q_nil _ _ _ _ _ | exact Kd.S_nil _ _ _ _ _, bq⟩
  ·rw [if_neg c5] at H
   have c5b0 : ((l1.length : Int) == a0_0) = false := beq_eq_false_iff_ne.mpr c5
   have c5b1 : ((l1.length : Int) != a0_0) = true := bne_iff_ne.mpr c5
   simp only [Option.some.injEq, Prod.mk.injEq] at H
   obtain ⟨rfl, rfl, rfl, rfl, rfl⟩ := H
   go_enter Try.func17, Try.ntmps17
   go_wp2_with (first | ((with_reducible refine gate_dst (N := 2) rfl ?_); refine box_event ?hg (N := 2) ?hd (cs := #[.int .i64 a0_0, .slice A0_1 l0_1.length c0_1, .slice A0_2 l0_2.length c0_2]) (t := 35) ?hr ?_; (case hd => rfl); (case hg => rfl); (case hr => first | (go_simp; done) | (go_simp; rfl)); intro gb233 hg w31 hbox hb; have n0_ := aM (bT bq hb); have n1_ := aM (hbox); have n2_ := aM ((by rw [hg]; exact (bZ bq) : w.heap.size ≤ gb233)); have n3_ := aM ((by rw [hg]; exact (bZ bq) : w.heap.size ≤ gb233)); clear HB; have HB := n0_; have BK233 := n1_; have GW233 := n2_; have GE233 := n3_; clear n0_ n1_ n2_ n3_ hb hbox hg) | ((with_reducible refine gate_dst (N := 4) rfl ?_); refine box_event ?hg (N := 4) ?hd (cs := #[.int .i64 0, .int .i64 0, .slice none 0 0, .slice none 0 0, .slice none 0 0]) (t := 37) ?hr ?_; (case hd => rfl); (case hg => rfl); (case hr => first | (go_simp; done) | (go_simp; rfl)); intro gb234 hg w32 hbox hb; have n0_ := aM (kB (g := gb233) (o := .cells #[.int .i64 a0_0, .slice A0_1 l0_1.length c0_1, .slice A0_2 l0_2.length c0_2] 35 (0, 0)) (kq BK233.out) hb); have n1_ := aM (bT bq hb); have n2_ := aM (hbox); have n3_ := aM ((by rw [hg]; exact (bZ bq) : w.heap.size ≤ gb234)); have n4_ := aM ((by rw [hg]; exact (bZ bq) : w.heap.size ≤ gb234)); have n5_ := aM ((by rw [hg]; exact Nat.ne_of_lt (blk_lt (g := gb233) (o := .cells #[.int .i64 a0_0, .slice A0_1 l0_1.length c0_1, .slice A0_2 l0_2.length c0_2] 35 (0, 0)) (kq BK233.out)) : gb233 ≠ gb234)); have n6_ := aM ((by rw [hg]; exact Nat.ne_of_gt (blk_lt (g := gb233) (o := .cells #[.int .i64 a0_0, .slice A0_1 l0_1.length c0_1, .slice A0_2 l0_2.length c0_2] 35 (0, 0)) (kq BK233.out)) : gb234 ≠ gb233)); clear BK233 HB; have BK233 := n0_; have HB := n1_; have BK234 := n2_; have GW234 := n3_; have GE234 := n4_; have NB233_234 := n5_; have NB234_233 := n6_; clear n0_ n1_ n2_ n3_ n4_ n5_ n6_ hb hbox hg; have hnb33 := NB233_234.out; have hnc33 := NB234_233.out; have hcz34_0 : w32.cell? ⟨gb233, 0, none⟩ = some (.int .i64 a0_0) := (kC BK233.out 0).trans rfl; have hcz34_1 : w32.cell? ⟨gb233, 1, none⟩ = some (.slice A0_1 l0_1.length c0_1) := (kC BK233.out 1).trans rfl; have hcz34_2 : w32.cell? ⟨gb233, 2, none⟩ = some (.slice A0_2 l0_2.length c0_2) := (kC BK233.out 2).trans rfl; have hfz34_0 := kF BK233.out 0; have hfz34_1 := kF BK233.out 1; have hfz34_2 := kF BK233.out 2) | ((with_reducible refine gate_callee (f := 57) rfl ?_); refine goesL_ (some 10) rfl rfl Try.func57 (by kernel_rfl) rfl #[.agg #[.int .i64 a0_0, .slice A0_1 l0_1.length c0_1, .slice A0_2 l0_2.length c0_2]] rfl mq ?_; (with_reducible refine (spec_SynthFault.calls k a0_0 _ _ l0_1 _ _ l0_2 t235 _ ?side1 ?side2 ?side3 ?side4 A3.out).mono ?_); (case side1 => exact cq (cB HR0_1.out HB.out)); (case side2 => exact HC0_1.out); (case side3 => exact cq (cB HR0_2.out HB.out)); (case side4 => exact HC0_2.out); rintro e w35 ⟨rfl, hb⟩; refine ⟨_, rfl, ?_⟩; have n0_ := aM (kB (g := gb233) (o := .cells #[.int .i64 a0_0, .slice A0_1 l0_1.length c0_1, .slice A0_2 l0_2.length c0_2] 35 (0, 0)) (kq BK233.out) hb); have n1_ := aM (kB (g := gb234) (o := .cells #[.int .i64 0, .int .i64 0, .slice none 0 0, .slice none 0 0, .slice none 0 0] 37 (0, 0)) (kq BK234.out) hb); have n2_ := aM (bT bq hb); clear BK233 BK234 HB; have BK233 := n0_; have BK234 := n1_; have HB := n2_; clear n0_ n1_ n2_; (try clear hb); have hcz36_0 : w35.cell? ⟨gb233, 0, none⟩ = some (.int .i64 a0_0) := (kC BK233.out 0).trans rfl; have hcz36_1 : w35.cell? ⟨gb233, 1, none⟩ = some (.slice A0_1 l0_1.length c0_1) := (kC BK233.out 1).trans rfl; have hcz36_2 : w35.cell? ⟨gb233, 2, none⟩ = some (.slice A0_2 l0_2.length c0_2) := (kC BK233.out 2).trans rfl; have hfz36_0 := kF BK233.out 0; have hfz36_1 := kF BK233.out 1; have hfz36_2 := kF BK233.out 2; have hcz37_0 : w35.cell? ⟨gb234, 0, none⟩ = some (.int .i64 0) := (kC BK234.out 0).trans rfl; have hcz37_1 : w35.cell? ⟨gb234, 1, none⟩ = some (.int .i64 0) := (kC BK234.out 1).trans rfl; have hcz37_2 : w35.cell? ⟨gb234, 2, none⟩ = some (.slice none 0 0) := (kC BK234.out 2).trans rfl; have hcz37_3 : w35.cell? ⟨gb234, 3, none⟩ = some (.slice none 0 0) := (kC BK234.out 3).trans rfl; have hcz37_4 : w35.cell? ⟨gb234, 4, none⟩ = some (.slice none 0 0) := (kC BK234.out 4).trans rfl; have hfz37_0 := kF BK234.out 0; have hfz37_1 := kF BK234.out 1; have hfz37_2 := kF BK234.out 2; have hfz37_3 := kF BK234.out 3; have hfz37_4 := kF BK234.out 4))
   refine bodyPost_ret (results_cell_row rfl _ _ gb234 37 #[.int .i64 2, .int .i64 0, .slice none 0 0, .slice none 0 0, .slice none 0 0] (0, 0) _ rfl (by (with_reducible repeat (first | refine kN ?_ _ | refine kD ?_ | refine kA ?_ _)); refine blk_put (cs := #[.int .i64 2, .int .i64 0, .slice none 0 0, .slice none 0 0, .slice none 0 0]) ?_ 4 _ rfl; (with_reducible repeat (first | refine kN ?_ _ | refine kD ?_ | refine kA ?_ _)); refine blk_put (cs := #[.int .i64 2, .int .i64 0, .slice none 0 0, .slice none 0 0, .slice none 0 0]) ?_ 3 _ rfl; (with_reducible repeat (first | refine kN ?_ _ | refine kD ?_ | refine kA ?_ _)); refine blk_put (cs := #[.int .i64 2, .int .i64 0, .slice none 0 0, .slice none 0 0, .slice none 0 0]) ?_ 2 _ rfl; (with_reducible repeat (first | refine kN ?_ _ | refine kD ?_ | refine kA ?_ _)); refine blk_put (cs := #[.int .i64 2, .int .i64 0, .slice none 0 0, .slice none 0 0, .slice none 0 0]) ?_ 1 _ rfl; (with_reducible repeat (first | refine kN ?_ _ | refine kD ?_ | refine kA ?_ _)); refine blk_put (cs := #[.int .i64 0, .int .i64 0, .slice none 0 0, .slice none 0 0, .slice none 0 0]) ?_ 0 _ rfl; (with_reducible repeat (first | refine kN ?_ _ | refine kD ?_ | refine kA ?_ _)); exact BK234.out) Try.underlying37 rfl (by kernel_rfl)) rfl ?_
   exact ⟨_, _, _, by first | rfl | (simp [errW_none, errW_some] <;> rfl) | (simp [*, errW_none, errW_some] <;> rfl), by first | exact Kd.R_nil _ _ _ _ _ | exact Kd.N_nil _ _ _ _ _ | exact Kd.V_nil _ _ _ _ _ | exact Kd.Q_nil _ _ _ _ _ | exact Kd.S_nil _ _ _ _ _, by first | exact Kd.R_nil _ _ _ _ _ | exact Kd.N_nil _ _ _ _ _ | exact Kd.V_nil _ _ _ _ _ | exact Kd.Q_nil _ _ _ _ _ | exact Kd.S_nil _ _ _ _ _, by first | exact Kd.R_nil _ _ _ _ _ | exact Kd.N_nil _ _ _ _ _ | exact Kd.V_nil _ _ _ _ _ | exact Kd.Q_nil _ _ _ _ _ | exact Kd.S_nil _ _ _ _ _, bq⟩
 ·rw [if_neg c4] at H
  have c4b0 : (t235 == 0) = false := beq_eq_false_iff_ne.mpr c4
  have c4b1 : (t235 != 0) = true := bne_iff_ne.mpr c4
  simp only [Option.some.injEq, Prod.mk.injEq] at H
  obtain ⟨rfl, rfl, rfl, rfl, rfl⟩ := H
  go_enter Try.func17, Try.ntmps17
  go_wp2_with (first | ((with_reducible refine gate_dst (N := 2) rfl ?_); refine box_event ?hg (N := 2) ?hd (cs := #[.int .i64 a0_0, .slice A0_1 l0_1.length c0_1, .slice A0_2 l0_2.length c0_2]) (t := 35) ?hr ?_; (case hd => rfl); (case hg => rfl); (case hr => first | (go_simp; done) | (go_simp; rfl)); intro gb233 hg w38 hbox hb; have n0_ := aM (bT bq hb); have n1_ := aM (hbox); have n2_ := aM ((by rw [hg]; exact (bZ bq) : w.heap.size ≤ gb233)); have n3_ := aM ((by rw [hg]; exact (bZ bq) : w.heap.size ≤ gb233)); clear HB; have HB := n0_; have BK233 := n1_; have GW233 := n2_; have GE233 := n3_; clear n0_ n1_ n2_ n3_ hb hbox hg) | ((with_reducible refine gate_dst (N := 4) rfl ?_); refine box_event ?hg (N := 4) ?hd (cs := #[.int .i64 0, .int .i64 0, .slice none 0 0, .slice none 0 0, .slice none 0 0]) (t := 37) ?hr ?_; (case hd => rfl); (case hg => rfl); (case hr => first | (go_simp; done) | (go_simp; rfl)); intro gb234 hg w39 hbox hb; have n0_ := aM (kB (g := gb233) (o := .cells #[.int .i64 a0_0, .slice A0_1 l0_1.length c0_1, .slice A0_2 l0_2.length c0_2] 35 (0, 0)) (kq BK233.out) hb); have n1_ := aM (bT bq hb); have n2_ := aM (hbox); have n3_ := aM ((by rw [hg]; exact (bZ bq) : w.heap.size ≤ gb234)); have n4_ := aM ((by rw [hg]; exact (bZ bq) : w.heap.size ≤ gb234)); have n5_ := aM ((by rw [hg]; exact Nat.ne_of_lt (blk_lt (g := gb233) (o := .cells #[.int .i64 a0_0, .slice A0_1 l0_1.length c0_1, .slice A0_2 l0_2.length c0_2] 35 (0, 0)) (kq BK233.out)) : gb233 ≠ gb234)); have n6_ := aM ((by rw [hg]; exact Nat.ne_of_gt (blk_lt (g := gb233) (o := .cells #[.int .i64 a0_0, .slice A0_1 l0_1.length c0_1, .slice A0_2 l0_2.length c0_2] 35 (0, 0)) (kq BK233.out)) : gb234 ≠ gb233)); clear BK233 HB; have BK233 := n0_; have HB := n1_; have BK234 := n2_; have GW234 := n3_; have GE234 := n4_; have NB233_234 := n5_; have NB234_233 := n6_; clear n0_ n1_ n2_ n3_ n4_ n5_ n6_ hb hbox hg; have hnb40 := NB233_234.out; have hnc40 := NB234_233.out; have hcz41_0 : w39.cell? ⟨gb233, 0, none⟩ = some (.int .i64 a0_0) := (kC BK233.out 0).trans rfl; have hcz41_1 : w39.cell? ⟨gb233, 1, none⟩ = some (.slice A0_1 l0_1.length c0_1) := (kC BK233.out 1).trans rfl; have hcz41_2 : w39.cell? ⟨gb233, 2, none⟩ = some (.slice A0_2 l0_2.length c0_2) := (kC BK233.out 2).trans rfl; have hfz41_0 := kF BK233.out 0; have hfz41_1 := kF BK233.out 1; have hfz41_2 := kF BK233.out 2) | ((with_reducible refine gate_callee (f := 57) rfl ?_); refine goesL_ (some 10) rfl rfl Try.func57 (by kernel_rfl) rfl #[.agg #[.int .i64 a0_0, .slice A0_1 l0_1.length c0_1, .slice A0_2 l0_2.length c0_2]] rfl mq ?_; (with_reducible refine (spec_SynthFault.calls k a0_0 _ _ l0_1 _ _ l0_2 t235 _ ?side1 ?side2 ?side3 ?side4 A3.out).mono ?_); (case side1 => exact cq (cB HR0_1.out HB.out)); (case side2 => exact HC0_1.out); (case side3 => exact cq (cB HR0_2.out HB.out)); (case side4 => exact HC0_2.out); rintro e w42 ⟨rfl, hb⟩; refine ⟨_, rfl, ?_⟩; have n0_ := aM (kB (g := gb233) (o := .cells #[.int .i64 a0_0, .slice A0_1 l0_1.length c0_1, .slice A0_2 l0_2.length c0_2] 35 (0, 0)) (kq BK233.out) hb); have n1_ := aM (kB (g := gb234) (o := .cells #[.int .i64 0, .int .i64 0, .slice none 0 0, .slice none 0 0, .slice none 0 0] 37 (0, 0)) (kq BK234.out) hb); have n2_ := aM (bT bq hb); clear BK233 BK234 HB; have BK233 := n0_; have BK234 := n1_; have HB := n2_; clear n0_ n1_ n2_; (try clear hb); have hcz43_0 : w42.cell? ⟨gb234, 0, none⟩ = some (.int .i64 0) := (kC BK234.out 0).trans rfl; have hcz43_1 : w42.cell? ⟨gb234, 1, none⟩ = some (.int .i64 0) := (kC BK234.out 1).trans rfl; have hcz43_2 : w42.cell? ⟨gb234, 2, none⟩ = some (.slice none 0 0) := (kC BK234.out 2).trans rfl; have hcz43_3 : w42.cell? ⟨gb234, 3, none⟩ = some (.slice none 0 0) := (kC BK234.out 3).trans rfl; have hcz43_4 : w42.cell? ⟨gb234, 4, none⟩ = some (.slice none 0 0) := (kC BK234.out 4).trans rfl; have hfz43_0 := kF BK234.out 0; have hfz43_1 := kF BK234.out 1; have hfz43_2 := kF BK234.out 2; have hfz43_3 := kF BK234.out 3; have hfz43_4 := kF BK234.out 4))
  refine bodyPost_ret (results_cell_row rfl _ _ gb234 37 #[.int .i64 t235, .int .i64 0, .slice none 0 0, .slice none 0 0, .slice none 0 0] (0, 0) _ rfl (by (with_reducible repeat (first | refine kN ?_ _ | refine kD ?_ | refine kA ?_ _)); refine blk_put (cs := #[.int .i64 t235, .int .i64 0, .slice none 0 0, .slice none 0 0, .slice none 0 0]) ?_ 4 _ rfl; (with_reducible repeat (first | refine kN ?_ _ | refine kD ?_ | refine kA ?_ _)); refine blk_put (cs := #[.int .i64 t235, .int .i64 0, .slice none 0 0, .slice none 0 0, .slice none 0 0]) ?_ 3 _ rfl; (with_reducible repeat (first | refine kN ?_ _ | refine kD ?_ | refine kA ?_ _)); refine blk_put (cs := #[.int .i64 t235, .int .i64 0, .slice none 0 0, .slice none 0 0, .slice none 0 0]) ?_ 2 _ rfl; (with_reducible repeat (first | refine kN ?_ _ | refine kD ?_ | refine kA ?_ _)); refine blk_put (cs := #[.int .i64 t235, .int .i64 0, .slice none 0 0, .slice none 0 0, .slice none 0 0]) ?_ 1 _ rfl; (with_reducible repeat (first | refine kN ?_ _ | refine kD ?_ | refine kA ?_ _)); refine blk_put (cs := #[.int .i64 0, .int .i64 0, .slice none 0 0, .slice none 0 0, .slice none 0 0]) ?_ 0 _ rfl; (with_reducible repeat (first | refine kN ?_ _ | refine kD ?_ | refine kA ?_ _)); exact BK234.out) Try.underlying37 rfl (by kernel_rfl)) rfl ?_
  exact ⟨_, _, _, by first | rfl | (simp [errW_none, errW_some] <;> rfl) | (simp [*, errW_none, errW_some] <;> rfl), by first | exact Kd.R_nil _ _ _ _ _ | exact Kd.N_nil _ _ _ _ _ | exact Kd.V_nil _ _ _ _ _ | exact Kd.Q_nil _ _ _ _ _ | exact Kd.S_nil _ _ _ _ _, by first | exact Kd.R_nil _ _ _ _ _ | exact Kd.N_nil _ _ _ _ _ | exact Kd.V_nil _ _ _ _ _ | exact Kd.Q_nil _ _ _ _ _ | exact Kd.S_nil _ _ _ _ _, by first | exact Kd.R_nil _ _ _ _ _ | exact Kd.N_nil _ _ _ _ _ | exact Kd.V_nil _ _ _ _ _ | exact Kd.Q_nil _ _ _ _ _ | exact Kd.S_nil _ _ _ _ _, bq⟩

/-! ### laws_toSynth: function 18 -/
def laws_toSynth.f (k : Nat) (a0_0 : Int) (l0_1 : List Int) (l0_2 : List Int) : Option (Int × List Int × List Int) := (laws_toInt64S.f k l0_1).bind fun t252 => ((laws_toInt64S.f k l0_2).bind fun t255 => (some (a0_0, t252, t255)))
theorem laws_toSynth.mono : ∀ a0 a1 a2 k, LeO (laws_toSynth.f k a0 a1 a2) (laws_toSynth.f (k + 1) a0 a1 a2) := by
 intro a0 a1 a2 k
 unfold laws_toSynth.f
 repeat' first
   | (with_reducible exact laws_toInt64S.mono _ _)
   | (with_reducible exact LeO.refl _)
   | (with_reducible exact LeO.none _)
   | (with_reducible refine LeO.ite ?_ ?_)
   | (with_reducible refine LeO.bind ?_ (fun _ => ?_))
   | exact laws_toInt64S.mono _ _
   | exact LeO.none _
   | refine LeO.ite ?_ ?_
   | refine LeO.bind ?_ (fun _ => ?_)
set_option maxHeartbeats 8000000 in
set_option maxRecDepth 100000 in
theorem laws_toSynth.calls (k : Nat) (a0_0 : Int) (A0_1 : Option Addr) (c0_1 : Nat) (l0_1 : List Int) (A0_2 : Option Addr) (c0_2 : Nat) (l0_2 : List Int) (r1 : Int) (r2 : List Int) (r3 : List Int) (w : World) (hr0_1 : Kd.C (Kd.int .i64) w A0_1 l0_1.length l0_1) (hc0_1 : l0_1.length ≤ c0_1) (hr0_2 : Kd.C (Kd.int .i64) w A0_2 l0_2.length l0_2) (hc0_2 : l0_2.length ≤ c0_2) (h : laws_toSynth.f k a0_0 l0_1 l0_2 = some (r1, r2, r3)) :
  Calls Try.prog 18 #[.agg #[.int .i64 a0_0, .slice A0_1 l0_1.length c0_1, .slice A0_2 l0_2.length c0_2]] w fun e w' => ∃ v1_ v2_ : Value, e = .returned (.agg #[.int .i64 r1, v1_, v2_]) ∧ Kd.R (Kd.int .i64) 2 w' w.heap.size (fun k_ => some k_ ≠ (v2_ : Value).ownBlock) v1_ r2 ∧ Kd.R (Kd.int .i64) 2 w' w.heap.size (fun k_ => some k_ ≠ (v1_ : Value).ownBlock) v2_ r3 ∧ Below w.heap.size w w' := by
 have hu33 := Try.underlying33
 have hu35 := Try.underlying35
 have HR0_1 := aM hr0_1
 have HC0_1 := aM hc0_1
 clear hr0_1 hc0_1
 have HR0_2 := aM hr0_2
 have HC0_2 := aM hc0_2
 clear hr0_2 hc0_2
 have HB := aM (Below.refl w.heap.size w)
 have H : ((laws_toInt64S.f k l0_1).bind fun t252 => ((laws_toInt64S.f k l0_2).bind fun t255 => (some (a0_0, t252, t255)))) = some (r1, r2, r3) := h
 clear h
 replace H := Option.bind_eq_some_iff.mp H
 obtain ⟨t252, A20, H⟩ := H
 replace H : ((laws_toInt64S.f k l0_2).bind fun t255 => (some (a0_0, t252, t255))) = some (r1, r2, r3) := H
 have A2 := aM A20
 clear A20
 replace H := Option.bind_eq_some_iff.mp H
 obtain ⟨t255, A30, H⟩ := H
 replace H : (some (a0_0, t252, t255)) = some (r1, r2, r3) := H
 have A3 := aM A30
 clear A30
 simp only [Option.some.injEq, Prod.mk.injEq] at H
 obtain ⟨rfl, rfl, rfl⟩ := H
 go_enter Try.func18, Try.ntmps18
 go_wp2_with (first | ((with_reducible refine gate_dst (N := 1) rfl ?_); refine box_event ?hg (N := 1) ?hd (cs := #[.int .i64 a0_0, .slice A0_1 l0_1.length c0_1, .slice A0_2 l0_2.length c0_2]) (t := 33) ?hr ?_; (case hd => rfl); (case hg => rfl); (case hr => first | (go_simp; done) | (go_simp; rfl)); intro gb249 hg w4 hbox hb; have n0_ := aM (bT bq hb); have n1_ := aM (hbox); have n2_ := aM ((by rw [hg]; exact (bZ bq) : w.heap.size ≤ gb249)); have n3_ := aM ((by rw [hg]; exact (bZ bq) : w.heap.size ≤ gb249)); clear HB; have HB := n0_; have BK249 := n1_; have GW249 := n2_; have GE249 := n3_; clear n0_ n1_ n2_ n3_ hb hbox hg) | ((with_reducible refine gate_dst (N := 2) rfl ?_); refine box_event ?hg (N := 2) ?hd (cs := #[.int .i64 0, .slice none 0 0, .slice none 0 0]) (t := 35) ?hr ?_; (case hd => rfl); (case hg => rfl); (case hr => first | (go_simp; done) | (go_simp; rfl)); intro gb250 hg w5 hbox hb; have n0_ := aM (kB (g := gb249) (o := .cells #[.int .i64 a0_0, .slice A0_1 l0_1.length c0_1, .slice A0_2 l0_2.length c0_2] 33 (0, 0)) (kq BK249.out) hb); have n1_ := aM (bT bq hb); have n2_ := aM (hbox); have n3_ := aM ((by rw [hg]; exact (bZ bq) : w.heap.size ≤ gb250)); have n4_ := aM ((by rw [hg]; exact (bZ bq) : w.heap.size ≤ gb250)); have n5_ := aM ((by rw [hg]; exact Nat.ne_of_lt (blk_lt (g := gb249) (o := .cells #[.int .i64 a0_0, .slice A0_1 l0_1.length c0_1, .slice A0_2 l0_2.length c0_2] 33 (0, 0)) (kq BK249.out)) : gb249 ≠ gb250)); have n6_ := aM ((by rw [hg]; exact Nat.ne_of_gt (blk_lt (g := gb249) (o := .cells #[.int .i64 a0_0, .slice A0_1 l0_1.length c0_1, .slice A0_2 l0_2.length c0_2] 33 (0, 0)) (kq BK249.out)) : gb250 ≠ gb249)); clear BK249 HB; have BK249 := n0_; have HB := n1_; have BK250 := n2_; have GW250 := n3_; have GE250 := n4_; have NB249_250 := n5_; have NB250_249 := n6_; clear n0_ n1_ n2_ n3_ n4_ n5_ n6_ hb hbox hg) | ((with_reducible refine gate_dst (N := 3) rfl ?_); refine box_event ?hg (N := 3) ?hd (cs := #[.int .i64 0, .slice none 0 0, .slice none 0 0]) (t := 35) ?hr ?_; (case hd => rfl); (case hg => rfl); (case hr => first | (go_simp; done) | (go_simp; rfl)); intro gb251 hg w6 hbox hb; have n0_ := aM (kB (g := gb249) (o := .cells #[.int .i64 a0_0, .slice A0_1 l0_1.length c0_1, .slice A0_2 l0_2.length c0_2] 33 (0, 0)) (kq BK249.out) hb); have n1_ := aM (kB (g := gb250) (o := .cells #[.int .i64 0, .slice none 0 0, .slice none 0 0] 35 (0, 0)) (kq BK250.out) hb); have n2_ := aM (bT bq hb); have n3_ := aM (hbox); have n4_ := aM ((by rw [hg]; exact (bZ bq) : w.heap.size ≤ gb251)); have n5_ := aM ((by rw [hg]; exact (bZ bq) : w.heap.size ≤ gb251)); have n6_ := aM ((by rw [hg]; exact Nat.ne_of_lt (blk_lt (g := gb249) (o := .cells #[.int .i64 a0_0, .slice A0_1 l0_1.length c0_1, .slice A0_2 l0_2.length c0_2] 33 (0, 0)) (kq BK249.out)) : gb249 ≠ gb251)); have n7_ := aM ((by rw [hg]; exact Nat.ne_of_gt (blk_lt (g := gb249) (o := .cells #[.int .i64 a0_0, .slice A0_1 l0_1.length c0_1, .slice A0_2 l0_2.length c0_2] 33 (0, 0)) (kq BK249.out)) : gb251 ≠ gb249)); have n8_ := aM ((by rw [hg]; exact Nat.ne_of_lt (blk_lt (g := gb250) (o := .cells #[.int .i64 0, .slice none 0 0, .slice none 0 0] 35 (0, 0)) (kq BK250.out)) : gb250 ≠ gb251)); have n9_ := aM ((by rw [hg]; exact Nat.ne_of_gt (blk_lt (g := gb250) (o := .cells #[.int .i64 0, .slice none 0 0, .slice none 0 0] 35 (0, 0)) (kq BK250.out)) : gb251 ≠ gb250)); clear BK249 BK250 HB; have BK249 := n0_; have BK250 := n1_; have HB := n2_; have BK251 := n3_; have GW251 := n4_; have GE251 := n5_; have NB249_251 := n6_; have NB251_249 := n7_; have NB250_251 := n8_; have NB251_250 := n9_; clear n0_ n1_ n2_ n3_ n4_ n5_ n6_ n7_ n8_ n9_ hb hbox hg; have hnb7 := NB249_250.out; have hnc7 := NB250_249.out; have hnb8 := NB249_251.out; have hnc8 := NB251_249.out; have hcz9_0 : w6.cell? ⟨gb249, 0, none⟩ = some (.int .i64 a0_0) := (kC BK249.out 0).trans rfl; have hcz9_1 : w6.cell? ⟨gb249, 1, none⟩ = some (.slice A0_1 l0_1.length c0_1) := (kC BK249.out 1).trans rfl; have hcz9_2 : w6.cell? ⟨gb249, 2, none⟩ = some (.slice A0_2 l0_2.length c0_2) := (kC BK249.out 2).trans rfl; have hfz9_0 := kF BK249.out 0; have hfz9_1 := kF BK249.out 1; have hfz9_2 := kF BK249.out 2; have hnb10 := NB251_250.out; have hnc10 := NB250_251.out; have hcz11_0 : w6.cell? ⟨gb251, 0, none⟩ = some (.int .i64 0) := (kC BK251.out 0).trans rfl; have hcz11_1 : w6.cell? ⟨gb251, 1, none⟩ = some (.slice none 0 0) := (kC BK251.out 1).trans rfl; have hcz11_2 : w6.cell? ⟨gb251, 2, none⟩ = some (.slice none 0 0) := (kC BK251.out 2).trans rfl; have hfz11_0 := kF BK251.out 0; have hfz11_1 := kF BK251.out 1; have hfz11_2 := kF BK251.out 2) | ((with_reducible refine gate_callee (f := 9) rfl ?_); refine goesL_ (some 9) rfl rfl Try.func9 (by kernel_rfl) rfl #[.slice A0_1 l0_1.length c0_1] rfl mq ?_; (with_reducible refine (laws_toInt64S.calls k _ _ l0_1 t252 _ ?side1 ?side2 A2.out).mono ?_); (case side1 => exact cB HR0_1.out bq); (case side2 => exact HC0_1.out); rintro e w12 ⟨v253, rfl, ho0, hb⟩; refine ⟨_, rfl, ?_⟩; have n0_ := aM (rG ho0 (bZ bq)); have n1_ := aM (kB (g := gb249) (o := .cells #[.int .i64 a0_0, .slice A0_1 l0_1.length c0_1, .slice A0_2 l0_2.length c0_2] 33 (0, 0)) (by (with_reducible repeat (first | refine kN ?_ _ | refine kD ?_ | refine kA ?_ _)); refine blk_far ?_ NB249_251.out _; (with_reducible repeat (first | refine kN ?_ _ | refine kD ?_ | refine kA ?_ _)); exact BK249.out) hb); have n2_ := aM (kB (g := gb250) (o := .cells #[.int .i64 0, .slice none 0 0, .slice none 0 0] 35 (0, 0)) (by (with_reducible repeat (first | refine kN ?_ _ | refine kD ?_ | refine kA ?_ _)); refine blk_far ?_ NB250_251.out _; (with_reducible repeat (first | refine kN ?_ _ | refine kD ?_ | refine kA ?_ _)); exact BK250.out) hb); have n3_ := aM (kB (g := gb251) (o := .cells #[.int .i64 a0_0, .slice none 0 0, .slice none 0 0] 35 (0, 0)) (by (with_reducible repeat (first | refine kN ?_ _ | refine kD ?_ | refine kA ?_ _)); refine blk_put (cs := #[.int .i64 0, .slice none 0 0, .slice none 0 0]) ?_ 0 _ rfl; (with_reducible repeat (first | refine kN ?_ _ | refine kD ?_ | refine kA ?_ _)); exact BK251.out) hb); have n4_ := aM (bT bq hb); clear BK249 BK250 BK251 HB; have HO254 := n0_; have BK249 := n1_; have BK250 := n2_; have BK251 := n3_; have HB := n4_; clear n0_ n1_ n2_ n3_ n4_; (try clear hb); (try clear ho0); obtain ⟨Ao13, co13, eo13⟩ := Kd.R_slice HO254.out; subst eo13; have hcz14_0 : w12.cell? ⟨gb251, 0, none⟩ = some (.int .i64 a0_0) := (kC BK251.out 0).trans rfl; have hcz14_1 : w12.cell? ⟨gb251, 1, none⟩ = some (.slice none 0 0) := (kC BK251.out 1).trans rfl; have hcz14_2 : w12.cell? ⟨gb251, 2, none⟩ = some (.slice none 0 0) := (kC BK251.out 2).trans rfl; have hfz14_0 := kF BK251.out 0; have hfz14_1 := kF BK251.out 1; have hfz14_2 := kF BK251.out 2; have hcz15_0 : w12.cell? ⟨gb249, 0, none⟩ = some (.int .i64 a0_0) := (kC BK249.out 0).trans rfl; have hcz15_1 : w12.cell? ⟨gb249, 1, none⟩ = some (.slice A0_1 l0_1.length c0_1) := (kC BK249.out 1).trans rfl; have hcz15_2 : w12.cell? ⟨gb249, 2, none⟩ = some (.slice A0_2 l0_2.length c0_2) := (kC BK249.out 2).trans rfl; have hfz15_0 := kF BK249.out 0; have hfz15_1 := kF BK249.out 1; have hfz15_2 := kF BK249.out 2) | ((with_reducible refine gate_callee (f := 9) rfl ?_); refine goesL_ (some 13) rfl rfl Try.func9 (by kernel_rfl) rfl #[.slice A0_2 l0_2.length c0_2] rfl mq ?_; (with_reducible refine (laws_toInt64S.calls k _ _ l0_2 t255 _ ?side1 ?side2 A3.out).mono ?_); (case side1 => exact cB HR0_2.out bq); (case side2 => exact HC0_2.out); rintro e w16 ⟨v256, rfl, ho0, hb⟩; refine ⟨_, rfl, ?_⟩; have n0_ := aM (rH (by (with_reducible repeat (first | apply rA | apply rN | apply rD)); exact (rM (rF (p := ⟨gb251, 1, none⟩) (Kd.R_types HO254.out BK251.out (by decide)) (fun _ hk => hk.2) (.slice Ao13 t252.length co13)) (fun _ h_ => h_.1))) (rB ho0) hb); have n1_ := aM (rG (rW ho0 (rT (by (with_reducible repeat (first | apply rA | apply rN | apply rD)); exact (rM (rF (p := ⟨gb251, 1, none⟩) (Kd.R_types HO254.out BK251.out (by decide)) (fun _ hk => hk.2) (.slice Ao13 t252.length co13)) (fun _ h_ => h_.1))))) (bZ bq)); have n2_ := aM (kB (g := gb249) (o := .cells #[.int .i64 a0_0, .slice A0_1 l0_1.length c0_1, .slice A0_2 l0_2.length c0_2] 33 (0, 0)) (by (with_reducible repeat (first | refine kN ?_ _ | refine kD ?_ | refine kA ?_ _)); refine blk_far ?_ NB249_251.out _; (with_reducible repeat (first | refine kN ?_ _ | refine kD ?_ | refine kA ?_ _)); exact BK249.out) hb); have n3_ := aM (kB (g := gb250) (o := .cells #[.int .i64 0, .slice none 0 0, .slice none 0 0] 35 (0, 0)) (by (with_reducible repeat (first | refine kN ?_ _ | refine kD ?_ | refine kA ?_ _)); refine blk_far ?_ NB250_251.out _; (with_reducible repeat (first | refine kN ?_ _ | refine kD ?_ | refine kA ?_ _)); exact BK250.out) hb); have n4_ := aM (kB (g := gb251) (o := .cells #[.int .i64 a0_0, .slice Ao13 t252.length co13, .slice none 0 0] 35 (0, 0)) (by (with_reducible repeat (first | refine kN ?_ _ | refine kD ?_ | refine kA ?_ _)); refine blk_put (cs := #[.int .i64 a0_0, .slice none 0 0, .slice none 0 0]) ?_ 1 _ rfl; (with_reducible repeat (first | refine kN ?_ _ | refine kD ?_ | refine kA ?_ _)); exact BK251.out) hb); have n5_ := aM (bT bq hb); clear HO254 BK249 BK250 BK251 HB; have HO254 := n0_; have HO257 := n1_; have BK249 := n2_; have BK250 := n3_; have BK251 := n4_; have HB := n5_; clear n0_ n1_ n2_ n3_ n4_ n5_; (try clear hb); (try clear ho0); obtain ⟨Ao17, co17, eo17⟩ := Kd.R_slice HO257.out; subst eo17; have hcz18_0 : w16.cell? ⟨gb251, 0, none⟩ = some (.int .i64 a0_0) := (kC BK251.out 0).trans rfl; have hcz18_1 : w16.cell? ⟨gb251, 1, none⟩ = some (.slice Ao13 t252.length co13) := (kC BK251.out 1).trans rfl; have hcz18_2 : w16.cell? ⟨gb251, 2, none⟩ = some (.slice none 0 0) := (kC BK251.out 2).trans rfl; have hfz18_0 := kF BK251.out 0; have hfz18_1 := kF BK251.out 1; have hfz18_2 := kF BK251.out 2; have hcz19_0 : w16.cell? ⟨gb250, 0, none⟩ = some (.int .i64 0) := (kC BK250.out 0).trans rfl; have hcz19_1 : w16.cell? ⟨gb250, 1, none⟩ = some (.slice none 0 0) := (kC BK250.out 1).trans rfl; have hcz19_2 : w16.cell? ⟨gb250, 2, none⟩ = some (.slice none 0 0) := (kC BK250.out 2).trans rfl; have hfz19_0 := kF BK250.out 0; have hfz19_1 := kF BK250.out 1; have hfz19_2 := kF BK250.out 2))
 refine bodyPost_ret (results_cell_row rfl _ _ gb250 35 #[.int .i64 a0_0, .slice Ao13 t252.length co13, .slice Ao17 t255.length co17] (0, 0) _ rfl (by (with_reducible repeat (first | refine kN ?_ _ | refine kD ?_ | refine kA ?_ _)); refine blk_put (cs := #[.int .i64 a0_0, .slice Ao13 t252.length co13, .slice none 0 0]) ?_ 2 _ rfl; (with_reducible repeat (first | refine kN ?_ _ | refine kD ?_ | refine kA ?_ _)); refine blk_put (cs := #[.int .i64 a0_0, .slice none 0 0, .slice none 0 0]) ?_ 1 _ rfl; (with_reducible repeat (first | refine kN ?_ _ | refine kD ?_ | refine kA ?_ _)); refine blk_put (cs := #[.int .i64 0, .slice none 0 0, .slice none 0 0]) ?_ 0 _ rfl; (with_reducible repeat (first | refine kN ?_ _ | refine kD ?_ | refine kA ?_ _)); refine blk_far ?_ NB250_251.out _; (with_reducible repeat (first | refine kN ?_ _ | refine kD ?_ | refine kA ?_ _)); exact BK250.out) Try.underlying35 rfl (by kernel_rfl)) rfl ?_
 exact ⟨_, _, by first | rfl | (simp [errW_none, errW_some] <;> rfl) | (simp [*, errW_none, errW_some] <;> rfl), by (with_reducible repeat (first | apply rA | apply rN | apply rD)); exact rM (rF (p := ⟨gb250, 2, none⟩) (rF (p := ⟨gb250, 1, none⟩) (rF (p := ⟨gb250, 0, none⟩) (rF (p := ⟨gb251, 2, none⟩) (Kd.R_types (Kd.R_types HO254.out BK251.out (by decide)) BK250.out (by decide)) (fun _ hk => hk.1.2) (.slice Ao17 t255.length co17)) (fun _ hk => hk.2) (.int .i64 a0_0)) (fun _ hk => hk.2) (.slice Ao13 t252.length co13)) (fun _ hk => hk.2) (.slice Ao17 t255.length co17)) (fun _ hk => hk.1.1.2), by (with_reducible repeat (first | apply rA | apply rN | apply rD)); exact rM (rF (p := ⟨gb250, 2, none⟩) (rF (p := ⟨gb250, 1, none⟩) (rF (p := ⟨gb250, 0, none⟩) (rF (p := ⟨gb251, 2, none⟩) (Kd.R_types (Kd.R_types HO257.out BK251.out (by decide)) BK250.out (by decide)) (fun _ hk => hk.1.2) (.slice Ao17 t255.length co17)) (fun _ hk => hk.2) (.int .i64 a0_0)) (fun _ hk => hk.2) (.slice Ao13 t252.length co13)) (fun _ hk => hk.2) (.slice Ao17 t255.length co17)) (fun _ hk => hk.1.1.2), bq⟩

end Go.Proofs.Ytjdgebfihbhbaaa.PFnExactPlayBlock
