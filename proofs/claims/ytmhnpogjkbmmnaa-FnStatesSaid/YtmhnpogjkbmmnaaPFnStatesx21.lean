import Derived.Test.YtmhnpogjkbmmnaaPFnStatesx0
import Derived.Test.YtmhnpogjkbmmnaaPFnStatesx1
namespace Go.Proofs.Ytmhnpogjkbmmnaa.PFnStates
open Go.RowKit Go.Proofs.YtmhnpogjkbmmnaaW.PrintWords Go.Proofs.YtmhnpogjkbmmnaaW.PrintLast Go.Proofs.YtmhnpogjkbmmnaaW.PrintMore
open Go.Proofs.YtmhnpogjkbmmnaaW.PrintWords.Kd renaming R_alloc → rA, R_drewN → rN, R_drew → rD, R_far → rF, R_mono → rM, R_base → rB, R_new' → rW, R_lt → rT, R_lower → rG, R_elder' → rH, R_reads' → rR
open Go.Proofs.YtmhnpogjkbmmnaaW.PrintWords renaming below_alloc → bA, pw_below_drewN → bN, below_drew1 → bD, below_set → bS, below_step → bT, below_size → bZ, blk_drewN → kN, blk_drew → kD, blk_alloc → kA, blk_below → kB, blk_cell → kC, blk_frozen → kF
open Go.Proofs.YtmhnpogjkbmmnaaW.PrintWords.Aside0 renaming mk → aM
attribute [local go_sem] max2_int min2_int max_two min_two max_three min_three max_four min_four
set_option maxHeartbeats 8000000
set_option maxRecDepth 100000
set_option linter.unusedVariables false
set_option linter.unusedSimpArgs false
def laws_lwBig.f (l0 : List Int) : Option (Bool) := some (decide ((l0.length : Int) > 1048576))
theorem laws_lwBig.calls (A0 : Option Addr) (c0 : Nat) (l0 : List Int) (r : Bool) (w : World) (hr0 : Kd.C (Kd.int .u8) w A0 l0.length l0) (hc0 : l0.length ≤ c0) (h : laws_lwBig.f l0 = some r) :
  Calls Try.prog 35 #[.slice A0 l0.length c0] w fun e w' => e = .returned (.bool r) ∧ Drawn0 w w' := by
 have HR0 := aM hr0
 have HC0 := aM hc0
 clear hr0 hc0
 unfold laws_lwBig.f at h
 have H := h
 clear h
 obtain rfl := Option.some.inj H
 go_enter Try.func35, Try.ntmps35
 go_wp2
 go_ret
 exact ⟨ex, dr⟩
/-- A state of type 149 at block g of W; what its slices lead to came in by w0. -/
def IsS149 (w0 W : World) (g : Nat) (f0 : List Int) (f1 : Int) : Prop := ∃ A0 c0, W.heap[g]? = some (.cells #[.slice A0 f0.length c0, .int .i64 f1] 149 (0, 0)) ∧ w0.heap.size ≤ g ∧ Kd.C (Kd.int .u8) w0 A0 f0.length f0
theorem IsS149.grown {w0 W : World} {g : Nat} {f0 : List Int} {f1 : Int} {W1 : World} {row : Option Nat} (h : IsS149 w0 W g f0 f1) (hw : W.grownBy W1 row) (hne : some g ≠ row) : IsS149 w0 W1 g f0 f1 := by
 obtain ⟨A0, c0, hb, hg, hr0⟩ := h
 exact ⟨A0, c0, blk_grown hb hw hne, hg, hr0⟩
theorem IsS149.own_neN {w0 W : World} {g : Nat} {f0 : List Int} {f1 : Int} {α : Type} {d : Kd α} {e : Nat} {base : Nat} {ok : Nat → Prop} {v : Value} {xs : List α} (h : IsS149 w0 W g f0 f1) (ho : Kd.N d e W base ok v xs) (ht : e ≠ 149) : some g ≠ v.ownBlock := by
 obtain ⟨A0, c0, hb, hg, hr0⟩ := h
 exact Kd.N_ne ho hb ht
theorem IsS149.fresh {w0 W : World} {g : Nat} {f0 : List Int} {f1 : Int} (h : IsS149 w0 W g f0 f1) : ∀ k, W.heap.size ≤ k → k ≠ g := by
 obtain ⟨A0, c0, hb, hg, hr0⟩ := h
 exact Kd.freshB hb
theorem IsS149.kept {w0 W : World} {g : Nat} {f0 : List Int} {f1 : Int} {W1 : World} {S : Nat → Prop} (h : IsS149 w0 W g f0 f1) (hk : Kept W W1 S) (hne : ¬ S g) : IsS149 w0 W1 g f0 f1 := by
 obtain ⟨A0, c0, hb, hg, hr0⟩ := h
 exact ⟨A0, c0, blk_kept hb hk hne, hg, hr0⟩
theorem IsS149.below {w0 W : World} {g : Nat} {f0 : List Int} {f1 : Int} {W1 : World} (h : IsS149 w0 W g f0 f1) (hw : Below W.heap.size W W1) : IsS149 w0 W1 g f0 f1 := h.grown (grown_of_below hw none) (by simp)
theorem IsS149.alloc {w0 W : World} {g : Nat} {f0 : List Int} {f1 : Int} (h : IsS149 w0 W g f0 f1) (o : Obj) : IsS149 w0 (W.alloc o) g f0 f1 := h.below (bA (Below.refl _ _) o)
theorem IsS149.drewN {w0 W : World} {g : Nat} {f0 : List Int} {f1 : Int} (h : IsS149 w0 W g f0 f1) (m : Nat) : IsS149 w0 (W.drewN m) g f0 f1 := h
theorem IsS149.drew {w0 W : World} {g : Nat} {f0 : List Int} {f1 : Int} (h : IsS149 w0 W g f0 f1) : IsS149 w0 W.drew g f0 f1 := h
theorem IsS149.at_ {w0 W : World} {g : Nat} {f0 : List Int} {f1 : Int} {w' : World} {m : Nat} (hq : W.drewN m = w') (h : IsS149 w0 W g f0 f1) : IsS149 w0 w' g f0 f1 := by subst hq; exact IsS149.drewN h m
theorem IsS149.apart {w0 W : World} {g : Nat} {f0 : List Int} {f1 : Int} {α : Type} {d : Kd α} {e : Nat} {base : Nat} {ok : Nat → Prop} {v : Value} {xs : List α} (h : IsS149 w0 W g f0 f1) (ho : d.R e W base ok v xs) (ht : ∀ q, q ∈ e :: d.E → q ≠ 149) : d.R e W base (fun k => ok k ∧ k ≠ g) v xs := by
 obtain ⟨A0, c0, hb, hg, hr0⟩ := h
 exact Kd.R_types ho hb ht
theorem IsS149.own_ne {w0 W : World} {g : Nat} {f0 : List Int} {f1 : Int} {α : Type} {d : Kd α} {e : Nat} {base : Nat} {ok : Nat → Prop} {v : Value} {xs : List α} (h : IsS149 w0 W g f0 f1) (ho : d.R e W base ok v xs) (ht : e ≠ 149) : some g ≠ v.ownBlock := by
 obtain ⟨A0, c0, hb, hg, hr0⟩ := h
 exact Kd.R_ne ho hb ht
theorem IsS149.apartQ {w0 W : World} {g : Nat} {f0 : List Int} {f1 : Int} {α : Type} {d : Kd α} {e : Nat} {base : Nat} {ok : Nat → Prop} {v : Value} {xs : List α} (h : IsS149 w0 W g f0 f1) (ho : d.Q e W base ok v xs) (ht : ∀ q, q ∈ e :: d.E → q ≠ 149) : d.Q e W base (fun k => ok k ∧ k ≠ g) v xs := by
 obtain ⟨A0, c0, hb, hg, hr0⟩ := h
 exact Kd.Q_types ho hb ht
theorem IsS149.own_neQ {w0 W : World} {g : Nat} {f0 : List Int} {f1 : Int} {α : Type} {d : Kd α} {e : Nat} {base : Nat} {ok : Nat → Prop} {v : Value} {xs : List α} (h : IsS149 w0 W g f0 f1) (ho : d.Q e W base ok v xs) (ht : e ≠ 149) : some g ≠ v.ownBlock := by
 obtain ⟨A0, c0, hb, hg, hr0⟩ := h
 exact Kd.Q_ne ho hb ht
theorem IsS149.apartS {w0 W : World} {g : Nat} {f0 : List Int} {f1 : Int} {α : Type} {d : Kd α} {e : Nat} {base : Nat} {ok : Nat → Prop} {v : Value} {xs : List α} (h : IsS149 w0 W g f0 f1) (ho : d.S e W base ok v xs) (ht : ∀ q, q ∈ e :: d.E → q ≠ 149) : d.S e W base (fun k => ok k ∧ k ≠ g) v xs := by
 obtain ⟨A0, c0, hb, hg, hr0⟩ := h
 exact Kd.S_types ho hb ht
theorem IsS149.own_neS {w0 W : World} {g : Nat} {f0 : List Int} {f1 : Int} {α : Type} {d : Kd α} {e : Nat} {base : Nat} {ok : Nat → Prop} {v : Value} {xs : List α} (h : IsS149 w0 W g f0 f1) (ho : d.S e W base ok v xs) (ht : e ≠ 149) : some g ≠ v.ownBlock := by
 obtain ⟨A0, c0, hb, hg, hr0⟩ := h
 exact Kd.S_ne ho hb ht
theorem IsS149.lt {w0 W : World} {g : Nat} {f0 : List Int} {f1 : Int} (h : IsS149 w0 W g f0 f1) : g < W.heap.size := by
 obtain ⟨A0, c0, hb, hg, hr0⟩ := h
 exact blk_lt hb
theorem IsS149.ge {w0 W : World} {g : Nat} {f0 : List Int} {f1 : Int} (h : IsS149 w0 W g f0 f1) : w0.heap.size ≤ g := by
 obtain ⟨A0, c0, hb, hg, hr0⟩ := h
 exact hg
theorem IsS149.ne_blk {w0 W : World} {g : Nat} {f0 : List Int} {f1 : Int} {a : Nat} {cs : Array Value} {t : TypeId} {fr : Nat × Nat} (h : IsS149 w0 W g f0 f1) (hb2 : W.heap[a]? = some (.cells cs t fr)) (ht : t ≠ 149) : g ≠ a := by
 obtain ⟨A0, c0, hb, hg, hr0⟩ := h
 rintro rfl
 rw [hb] at hb2
 injection hb2 with hb2
 injection hb2 with _ ht2
 exact ht ht2.symm
theorem IsS149.far {w0 W : World} {g : Nat} {f0 : List Int} {f1 : Int} {p : Addr} (h : IsS149 w0 W g f0 f1) (hne : g ≠ p.block) (u : Value) : IsS149 w0 (W.setCell p u) g f0 f1 := by
 obtain ⟨A0, c0, hb, hg, hr0⟩ := h
 exact ⟨A0, c0, blk_far hb hne u, hg, hr0⟩
theorem cellS149_0 {W : World} {g : Nat} {A0 : Option Addr} {c0 : Nat} {f0 : List Int} {f1 : Int} (h : W.heap[g]? = some (.cells #[.slice A0 f0.length c0, .int .i64 f1] 149 (0, 0))) : W.cell? ⟨g, 0, none⟩ = some (.slice A0 f0.length c0) := (kC h 0).trans rfl
theorem cellS149_1 {W : World} {g : Nat} {A0 : Option Addr} {c0 : Nat} {f0 : List Int} {f1 : Int} (h : W.heap[g]? = some (.cells #[.slice A0 f0.length c0, .int .i64 f1] 149 (0, 0))) : W.cell? ⟨g, 1, none⟩ = some (.int .i64 f1) := (kC h 1).trans rfl
theorem IsS149.set_1 {w0 W : World} {g : Nat} {f0 : List Int} {f1 : Int} (h : IsS149 w0 W g f0 f1) (x : Int) : IsS149 w0 (W.setCell ⟨g, 1, none⟩ (.int .i64 x)) g f0 x := by
 obtain ⟨A0, c0, hb, hg, hr0⟩ := h
 exact ⟨A0, c0, by simpa using blk_set hb 1 (.int .i64 x), hg, hr0⟩
theorem IsS149.new (w0 W : World) (A0 : Option Addr) (c0 : Nat) (f0 : List Int) (f1 : Int) (hB : Below w0.heap.size w0 W) (hr0 : Kd.C (Kd.int .u8) w0 A0 f0.length f0) : IsS149 w0 (W.alloc (.cells #[.slice A0 f0.length c0, .int .i64 f1] 149)) W.heap.size f0 f1 := ⟨A0, c0, by simpa using heap_alloc_new W _, hB.size, hr0⟩
section
variable {α β : Type} {d : Kd α} {d1 : Kd β} {e e1 base g : Nat} {ok ok1 : Nat → Prop} {w0 W W1 : World} {u v : Value} {xs : List α} {ys : List β} {f0 : List Int} {f1 : Int}
theorem sA (h0 : Aside0 (IsS149 w0 W g f0 f1)) (h : IsS149 w0 W g f0 f1 → IsS149 w0 W1 g f0 f1 := by intro z_; exact sq z_) : IsS149 w0 W1 g f0 f1 := h h0.out
theorem zK (hI : IsS149 w0 W g f0 f1) (h : Kd.R d e W base ok v xs) (hk : KeepBut W W1 g none) (ht : ∀ q, q ∈ e :: d.E → q ≠ 149 := by decide) : Aside0 (Kd.R d e W1 base ok v xs) := ⟨Kd.R_mono (Kd.R_keep (IsS149.apart hI h ht) hk (fun _ h => h.2)) (fun _ h => h.1)⟩
theorem zO (hI : IsS149 w0 W g f0 f1) (h : Kd.R d e W base ok u xs) (hk : KeepBut W W1 g none) (h1 : Kd.R d1 e1 W1 W.heap.size ok1 v ys) (ht : ∀ q, q ∈ e :: d.E → q ≠ 149 := by decide) : Aside0 (Kd.R d e W1 base (fun k => ok k ∧ some k ≠ v.ownBlock) u xs) := ⟨Kd.R_mono (Kd.R_told (Kd.R_oldK (IsS149.apart hI h ht) hk) (Kd.R_base h1)) (fun _ h_ => h_.1)⟩
end
def spec_l1Source.f (l0 : List Int) : Option (List Int × Int) := some (l0, 0)
theorem spec_l1Source.calls (A0 : Option Addr) (c0 : Nat) (l0 : List Int) (r1 : List Int) (r2 : Int) (w0 w : World) (hB : Below w0.heap.size w0 w) (hr0 : Kd.C (Kd.int .u8) w0 A0 l0.length l0) (hc0 : l0.length ≤ c0) (h : spec_l1Source.f l0 = some (r1, r2)) :
  Calls Try.prog 82 #[.slice A0 l0.length c0] w fun e w' => ∃ g_ : Nat, e = .returned (.pointer (some ⟨g_, 0, none⟩)) ∧ IsS149 w0 w' g_ r1 r2 ∧ Below w0.heap.size w0 w' ∧ Below w.heap.size w w' := by
 have hu149 := Try.underlying149
 have HR0 := aM hr0
 have HC0 := aM hc0
 clear hr0 hc0
 have HBW := aM (Below.refl w.heap.size w)
 have HW0 := aM hB.size
 have HB := aM hB
 clear hB
 unfold spec_l1Source.f at h
 have H := h
 clear h
 simp only [Option.some.injEq, Prod.mk.injEq] at H
 obtain ⟨rfl, rfl⟩ := H
 go_enter Try.func82, Try.ntmps82
 go_wp2_with (first | ((with_reducible refine gD 5 rfl ?_); refine bx 5 149 #[.slice A0 l0.length c0, .int .i64 0] ?_; intro gb604 hg w2 hbox hb; replace HB := aM (bT bq hb); have BK604 := aM hbox; have GW604 := aM ((by rw [hg]; exact (bZ (by repeat (first | (with_reducible first | exact HBW.out | apply bA | apply bN | apply bD) | exact HBW.out))) : w.heap.size ≤ gb604)); have GE604 := aM ((Nat.le_trans HW0.out (by rw [hg]; exact (bZ (by repeat (first | (with_reducible first | exact HBW.out | apply bA | apply bN | apply bD) | exact HBW.out))) : w.heap.size ≤ gb604) : w0.heap.size ≤ gb604)); replace HBW := aM (bT HBW.out hb); clear hb hbox hg))
 go_ret
 exact ⟨_, rfl, (show IsS149 w0 _ gb604 l0 0 from ⟨_, _, by (with_reducible repeat (first | refine kN ?_ _ | refine kD ?_ | refine kA ?_ _)); exact BK604.out, GE604.out, HR0.out⟩), bq, by repeat (first | (with_reducible first | exact HBW.out | apply bA | apply bN | apply bD | refine bS ?_ GW604.out) | exact HBW.out)⟩
def spec_l1Next.f (s0_0 : List Int) (s0_1 : Int) (a1 : Int) : Option (Int × Int) := if a1 < 1 then (some (0, wrap64 (s0_1 + 1))) else (if (s0_0.length : Int) = 0 then (if a1 = 0 then (none) else (some (Int.tmod (wrap64 ((wrap64 ((wrap64 (s0_1 + 1)) - 1)) * 7)) a1, wrap64 (s0_1 + 1)))) else (if 0 ≤ (Int.tmod (wrap64 ((wrap64 (s0_1 + 1)) - 1)) (s0_0.length : Int)) then (if (Int.tmod (wrap64 ((wrap64 (s0_1 + 1)) - 1)) (s0_0.length : Int)) < (s0_0.length : Int) then (if a1 > 200 then (if 0 ≤ (Int.tmod (wrap64 ((wrap64 ((wrap64 (s0_1 + 1)) - 1)) + 1)) (s0_0.length : Int)) then (if (Int.tmod (wrap64 ((wrap64 ((wrap64 (s0_1 + 1)) - 1)) + 1)) (s0_0.length : Int)) < (s0_0.length : Int) then (if a1 > 60000 then (if 0 ≤ (Int.tmod (wrap64 ((wrap64 ((wrap64 (s0_1 + 1)) - 1)) + 2)) (s0_0.length : Int)) then (if (Int.tmod (wrap64 ((wrap64 ((wrap64 (s0_1 + 1)) - 1)) + 2)) (s0_0.length : Int)) < (s0_0.length : Int) then (if a1 = 0 then (none) else (some (Int.tmod (wrap64 ((wrap64 ((wrap64 ((wrap64 ((wrap64 ((wrap64 ((wrap64 (rd s0_0 (Int.tmod (wrap64 ((wrap64 (s0_1 + 1)) - 1)) (s0_0.length : Int)))) + (wrap64 ((wrap64 (Int.tdiv (wrap64 ((wrap64 (s0_1 + 1)) - 1)) (s0_0.length : Int))) * 37)))) * 251)) + (wrap64 ((wrap64 (rd s0_0 (Int.tmod (wrap64 ((wrap64 ((wrap64 (s0_1 + 1)) - 1)) + 1)) (s0_0.length : Int)))) * 13)))) + (wrap64 ((wrap64 (s0_1 + 1)) - 1)))) * 257)) + (wrap64 (rd s0_0 (Int.tmod (wrap64 ((wrap64 ((wrap64 (s0_1 + 1)) - 1)) + 2)) (s0_0.length : Int)))))) a1, wrap64 (s0_1 + 1)))) else (none)) else (none)) else (if a1 = 0 then (none) else (some (Int.tmod (wrap64 ((wrap64 ((wrap64 ((wrap64 ((wrap64 (rd s0_0 (Int.tmod (wrap64 ((wrap64 (s0_1 + 1)) - 1)) (s0_0.length : Int)))) + (wrap64 ((wrap64 (Int.tdiv (wrap64 ((wrap64 (s0_1 + 1)) - 1)) (s0_0.length : Int))) * 37)))) * 251)) + (wrap64 ((wrap64 (rd s0_0 (Int.tmod (wrap64 ((wrap64 ((wrap64 (s0_1 + 1)) - 1)) + 1)) (s0_0.length : Int)))) * 13)))) + (wrap64 ((wrap64 (s0_1 + 1)) - 1)))) a1, wrap64 (s0_1 + 1))))) else (none)) else (none)) else (if a1 > 60000 then (if 0 ≤ (Int.tmod (wrap64 ((wrap64 ((wrap64 (s0_1 + 1)) - 1)) + 2)) (s0_0.length : Int)) then (if (Int.tmod (wrap64 ((wrap64 ((wrap64 (s0_1 + 1)) - 1)) + 2)) (s0_0.length : Int)) < (s0_0.length : Int) then (if a1 = 0 then (none) else (some (Int.tmod (wrap64 ((wrap64 ((wrap64 ((wrap64 (rd s0_0 (Int.tmod (wrap64 ((wrap64 (s0_1 + 1)) - 1)) (s0_0.length : Int)))) + (wrap64 ((wrap64 (Int.tdiv (wrap64 ((wrap64 (s0_1 + 1)) - 1)) (s0_0.length : Int))) * 37)))) * 257)) + (wrap64 (rd s0_0 (Int.tmod (wrap64 ((wrap64 ((wrap64 (s0_1 + 1)) - 1)) + 2)) (s0_0.length : Int)))))) a1, wrap64 (s0_1 + 1)))) else (none)) else (none)) else (if a1 = 0 then (none) else (some (Int.tmod (wrap64 ((wrap64 (rd s0_0 (Int.tmod (wrap64 ((wrap64 (s0_1 + 1)) - 1)) (s0_0.length : Int)))) + (wrap64 ((wrap64 (Int.tdiv (wrap64 ((wrap64 (s0_1 + 1)) - 1)) (s0_0.length : Int))) * 37)))) a1, wrap64 (s0_1 + 1)))))) else (none)) else (none)))
theorem spec_l1Next.calls (g : Nat) (s0_0 : List Int) (s0_1 : Int) (a1 : Int) (r1 : Int) (r2 : Int) (w0 w : World) (hI : IsS149 w0 w g s0_0 s0_1) (hB : Below w0.heap.size w0 w) (h : spec_l1Next.f s0_0 s0_1 a1 = some (r1, r2)) :
  Calls Try.prog 94 #[.pointer (some ⟨g, 0, none⟩), .int .i64 a1] w fun e w' => e = .returned (.int .i64 r1) ∧ IsS149 w0 w' g s0_0 r2 ∧ Below w0.heap.size w0 w' ∧ KeepBut w w' g none := by
 have HI0 := aM hI
 have HK := aM (KeepBut.refl w g none)
 have HL := aM hB.size
 clear hI
 have HW0 := aM hB.size
 have HB := aM hB
 clear hB
 unfold spec_l1Next.f at h
 have H := h
 clear h
 by_cases c3 : a1 < 1
 ·rw [if_pos c3] at H
  have c3b0 := dT c3
  clear c3
  simp only [Option.some.injEq, Prod.mk.injEq] at H
  obtain ⟨rfl, rfl⟩ := H
  obtain ⟨ASz4_0, cSz4_0, HGz4, hgz4, HSz4_0⟩ := HI0.out
  have hcz4_0 := cellS149_0 HGz4
  have hcz4_1 := cellS149_1 HGz4
  have hfz4_1 := kF HGz4 1
  clear HGz4 hgz4
  go_enter Try.func94, Try.ntmps94
  go_wp2
  repeat (go_quiet (fail); try go_wp2)
  go_ret
  exact ⟨ew, sq HI0.out, bq, hq⟩
 ·rw [if_neg c3] at H
  have c3b0 := dF c3
  clear c3
  by_cases c5 : (s0_0.length : Int) = 0
  ·rw [if_pos c5] at H
   have c5b0 := eT c5
   have c5b1 := nF c5
   clear c5
   by_cases c6 : a1 = 0
   ·rw [if_pos c6] at H
    exact absurd H (by simp)
   ·rw [if_neg c6] at H
    have c6b0 := eF c6
    have c6b1 := nT c6
    simp only [Option.some.injEq, Prod.mk.injEq] at H
    obtain ⟨rfl, rfl⟩ := H
    obtain ⟨ASz7_0, cSz7_0, HGz7, hgz7, HSz7_0⟩ := HI0.out
    have hcz7_0 := cellS149_0 HGz7
    have hcz7_1 := cellS149_1 HGz7
    have hfz7_1 := kF HGz7 1
    clear HGz7 hgz7
    go_enter Try.func94, Try.ntmps94
    go_wp2
    repeat (go_quiet (fail); try go_wp2)
    go_ret
    exact ⟨ew, sq HI0.out, bq, hq⟩
  ·rw [if_neg c5] at H
   have c5b0 := eF c5
   have c5b1 := nT c5
   have c5b2 : ¬ (s0_0 = []) := fun h_ => c5 (by rw [h_]; rfl)
   obtain ⟨ji8, hji8⟩ : ∃ j_ : Int, (Int.tmod (wrap64 ((wrap64 (s0_1 + 1)) - 1)) (s0_0.length : Int)) = j_ := ⟨_, rfl⟩
   rw [hji8] at H
   by_cases c9 : 0 ≤ (ji8)
   ·rw [if_pos c9] at H
    have c9b0 := dT c9
    clear c9
    by_cases c10 : (ji8) < (s0_0.length : Int)
    ·rw [if_pos c10] at H
     have c10b0 := dT c10
     clear c10
     by_cases c11 : a1 > 200
     ·rw [if_pos c11] at H
      have c11b0 : decide (200 < a1) = true := decide_eq_true c11
      clear c11
      obtain ⟨ji12, hji12⟩ : ∃ j_ : Int, (Int.tmod (wrap64 ((wrap64 ((wrap64 (s0_1 + 1)) - 1)) + 1)) (s0_0.length : Int)) = j_ := ⟨_, rfl⟩
      rw [hji12] at H
      by_cases c13 : 0 ≤ (ji12)
      ·rw [if_pos c13] at H
       have c13b0 := dT c13
       clear c13
       by_cases c14 : (ji12) < (s0_0.length : Int)
       ·rw [if_pos c14] at H
        have c14b0 := dT c14
        clear c14
        by_cases c15 : a1 > 60000
        ·rw [if_pos c15] at H
         have c15b0 : decide (60000 < a1) = true := decide_eq_true c15
         clear c15
         obtain ⟨ji16, hji16⟩ : ∃ j_ : Int, (Int.tmod (wrap64 ((wrap64 ((wrap64 (s0_1 + 1)) - 1)) + 2)) (s0_0.length : Int)) = j_ := ⟨_, rfl⟩
         rw [hji16] at H
         by_cases c17 : 0 ≤ (ji16)
         ·rw [if_pos c17] at H
          have c17b0 := dT c17
          clear c17
          by_cases c18 : (ji16) < (s0_0.length : Int)
          ·rw [if_pos c18] at H
           have c18b0 := dT c18
           clear c18
           by_cases c19 : a1 = 0
           ·rw [if_pos c19] at H
            exact absurd H (by simp)
           ·rw [if_neg c19] at H
            have c19b0 := eF c19
            have c19b1 := nT c19
            simp only [Option.some.injEq, Prod.mk.injEq] at H
            obtain ⟨rfl, rfl⟩ := H
            obtain ⟨ASz20_0, cSz20_0, HGz20, hgz20, HSz20_0⟩ := HI0.out
            have hcz20_0 := cellS149_0 HGz20
            have hcz20_1 := cellS149_1 HGz20
            have hfz20_1 := kF HGz20 1
            clear HGz20 hgz20
            have p605 : 0 ≤ ((ji8) : Int) := dt
            have q605 : (ji8) < (s0_0.length : Int) := dt
            obtain ⟨ad605, e605, hx605_0⟩ := Kd.at_int HSz20_0 (ji8) p605 q605
            cases e605
            have hn605_0 : ad605.block ≠ g := Nat.ne_of_lt (Nat.lt_of_lt_of_le (by have := World.block_lt_of_cell? _ _ hx605_0; first | rwa [add_block] at this | exact this) (IsS149.ge HI0.out))
            replace hx605_0 := pw_cell_below HB.out hx605_0
            replace hx605_0 := (cell_far (p := ⟨g, 1, none⟩) (by first | (rw [add_block]; exact hn605_0) | (show (Addr.add _ _).block ≠ _; rw [add_block]; exact hn605_0) | exact hn605_0) (.int .i64 (wrap64 (s0_1 + 1)))).trans hx605_0
            (try have hy605_0 := fun (n_ : Nat) => (show (((w.drewN n_).setCell ⟨g, 1, none⟩ (.int .i64 (wrap64 (s0_1 + 1))))).cell? _ = some _ from hx605_0))
            clear hn605_0
            replace p605 := eq_true p605
            replace q605 := eq_true q605
            have p606 : 0 ≤ ((ji12) : Int) := dt
            have q606 : (ji12) < (s0_0.length : Int) := dt
            obtain ⟨ad606, e606, hx606_0⟩ := Kd.at_int HSz20_0 (ji12) p606 q606
            obtain rfl : ad605 = ad606 := (by injection e606)
            have hn606_0 : ad605.block ≠ g := Nat.ne_of_lt (Nat.lt_of_lt_of_le (by have := World.block_lt_of_cell? _ _ hx606_0; first | rwa [add_block] at this | exact this) (IsS149.ge HI0.out))
            replace hx606_0 := pw_cell_below HB.out hx606_0
            replace hx606_0 := (cell_far (p := ⟨g, 1, none⟩) (by first | (rw [add_block]; exact hn606_0) | (show (Addr.add _ _).block ≠ _; rw [add_block]; exact hn606_0) | exact hn606_0) (.int .i64 (wrap64 (s0_1 + 1)))).trans hx606_0
            (try have hy606_0 := fun (n_ : Nat) => (show (((w.drewN n_).setCell ⟨g, 1, none⟩ (.int .i64 (wrap64 (s0_1 + 1))))).cell? _ = some _ from hx606_0))
            clear hn606_0
            replace p606 := eq_true p606
            replace q606 := eq_true q606
            have p607 : 0 ≤ ((ji16) : Int) := dt
            have q607 : (ji16) < (s0_0.length : Int) := dt
            obtain ⟨ad607, e607, hx607_0⟩ := Kd.at_int HSz20_0 (ji16) p607 q607
            obtain rfl : ad605 = ad607 := (by injection e607)
            have hn607_0 : ad605.block ≠ g := Nat.ne_of_lt (Nat.lt_of_lt_of_le (by have := World.block_lt_of_cell? _ _ hx607_0; first | rwa [add_block] at this | exact this) (IsS149.ge HI0.out))
            replace hx607_0 := pw_cell_below HB.out hx607_0
            replace hx607_0 := (cell_far (p := ⟨g, 1, none⟩) (by first | (rw [add_block]; exact hn607_0) | (show (Addr.add _ _).block ≠ _; rw [add_block]; exact hn607_0) | exact hn607_0) (.int .i64 (wrap64 (s0_1 + 1)))).trans hx607_0
            (try have hy607_0 := fun (n_ : Nat) => (show (((w.drewN n_).setCell ⟨g, 1, none⟩ (.int .i64 (wrap64 (s0_1 + 1))))).cell? _ = some _ from hx607_0))
            clear hn607_0
            replace p607 := eq_true p607
            replace q607 := eq_true q607
            go_enter Try.func94, Try.ntmps94
            go_wp2
            repeat (go_quiet (fail); try go_wp2)
            go_ret
            exact ⟨by first | rfl | (simp [errW_none, errW_some] <;> rfl) | (simp only [← hji8, ← hji12, ← hji16]; first | rfl | (simp [errW_none, errW_some] <;> rfl)) | (simp [*, errW_none, errW_some] <;> rfl), sq HI0.out, bq, hq⟩
          ·rw [if_neg c18] at H
           exact absurd H (by simp)
         ·rw [if_neg c17] at H
          exact absurd H (by simp)
        ·rw [if_neg c15] at H
         have c15b0 : decide (60000 < a1) = false := decide_eq_false c15
         clear c15
         by_cases c21 : a1 = 0
         ·rw [if_pos c21] at H
          exact absurd H (by simp)
         ·rw [if_neg c21] at H
          have c21b0 := eF c21
          have c21b1 := nT c21
          simp only [Option.some.injEq, Prod.mk.injEq] at H
          obtain ⟨rfl, rfl⟩ := H
          obtain ⟨ASz22_0, cSz22_0, HGz22, hgz22, HSz22_0⟩ := HI0.out
          have hcz22_0 := cellS149_0 HGz22
          have hcz22_1 := cellS149_1 HGz22
          have hfz22_1 := kF HGz22 1
          clear HGz22 hgz22
          have p605 : 0 ≤ ((ji8) : Int) := dt
          have q605 : (ji8) < (s0_0.length : Int) := dt
          obtain ⟨ad605, e605, hx605_0⟩ := Kd.at_int HSz22_0 (ji8) p605 q605
          cases e605
          have hn605_0 : ad605.block ≠ g := Nat.ne_of_lt (Nat.lt_of_lt_of_le (by have := World.block_lt_of_cell? _ _ hx605_0; first | rwa [add_block] at this | exact this) (IsS149.ge HI0.out))
          replace hx605_0 := pw_cell_below HB.out hx605_0
          replace hx605_0 := (cell_far (p := ⟨g, 1, none⟩) (by first | (rw [add_block]; exact hn605_0) | (show (Addr.add _ _).block ≠ _; rw [add_block]; exact hn605_0) | exact hn605_0) (.int .i64 (wrap64 (s0_1 + 1)))).trans hx605_0
          (try have hy605_0 := fun (n_ : Nat) => (show (((w.drewN n_).setCell ⟨g, 1, none⟩ (.int .i64 (wrap64 (s0_1 + 1))))).cell? _ = some _ from hx605_0))
          clear hn605_0
          replace p605 := eq_true p605
          replace q605 := eq_true q605
          have p606 : 0 ≤ ((ji12) : Int) := dt
          have q606 : (ji12) < (s0_0.length : Int) := dt
          obtain ⟨ad606, e606, hx606_0⟩ := Kd.at_int HSz22_0 (ji12) p606 q606
          obtain rfl : ad605 = ad606 := (by injection e606)
          have hn606_0 : ad605.block ≠ g := Nat.ne_of_lt (Nat.lt_of_lt_of_le (by have := World.block_lt_of_cell? _ _ hx606_0; first | rwa [add_block] at this | exact this) (IsS149.ge HI0.out))
          replace hx606_0 := pw_cell_below HB.out hx606_0
          replace hx606_0 := (cell_far (p := ⟨g, 1, none⟩) (by first | (rw [add_block]; exact hn606_0) | (show (Addr.add _ _).block ≠ _; rw [add_block]; exact hn606_0) | exact hn606_0) (.int .i64 (wrap64 (s0_1 + 1)))).trans hx606_0
          (try have hy606_0 := fun (n_ : Nat) => (show (((w.drewN n_).setCell ⟨g, 1, none⟩ (.int .i64 (wrap64 (s0_1 + 1))))).cell? _ = some _ from hx606_0))
          clear hn606_0
          replace p606 := eq_true p606
          replace q606 := eq_true q606
          go_enter Try.func94, Try.ntmps94
          go_wp2
          repeat (go_quiet (fail); try go_wp2)
          go_ret
          exact ⟨by first | rfl | (simp [errW_none, errW_some] <;> rfl) | (simp only [← hji8, ← hji12]; first | rfl | (simp [errW_none, errW_some] <;> rfl)) | (simp [*, errW_none, errW_some] <;> rfl), sq HI0.out, bq, hq⟩
       ·rw [if_neg c14] at H
        exact absurd H (by simp)
      ·rw [if_neg c13] at H
       exact absurd H (by simp)
     ·rw [if_neg c11] at H
      have c11b0 : decide (200 < a1) = false := decide_eq_false c11
      clear c11
      by_cases c23 : a1 > 60000
      ·rw [if_pos c23] at H
       have c23b0 : decide (60000 < a1) = true := decide_eq_true c23
       clear c23
       obtain ⟨ji24, hji24⟩ : ∃ j_ : Int, (Int.tmod (wrap64 ((wrap64 ((wrap64 (s0_1 + 1)) - 1)) + 2)) (s0_0.length : Int)) = j_ := ⟨_, rfl⟩
       rw [hji24] at H
       by_cases c25 : 0 ≤ (ji24)
       ·rw [if_pos c25] at H
        have c25b0 := dT c25
        clear c25
        by_cases c26 : (ji24) < (s0_0.length : Int)
        ·rw [if_pos c26] at H
         have c26b0 := dT c26
         clear c26
         by_cases c27 : a1 = 0
         ·rw [if_pos c27] at H
          exact absurd H (by simp)
         ·rw [if_neg c27] at H
          have c27b0 := eF c27
          have c27b1 := nT c27
          simp only [Option.some.injEq, Prod.mk.injEq] at H
          obtain ⟨rfl, rfl⟩ := H
          obtain ⟨ASz28_0, cSz28_0, HGz28, hgz28, HSz28_0⟩ := HI0.out
          have hcz28_0 := cellS149_0 HGz28
          have hcz28_1 := cellS149_1 HGz28
          have hfz28_1 := kF HGz28 1
          clear HGz28 hgz28
          have p605 : 0 ≤ ((ji8) : Int) := dt
          have q605 : (ji8) < (s0_0.length : Int) := dt
          obtain ⟨ad605, e605, hx605_0⟩ := Kd.at_int HSz28_0 (ji8) p605 q605
          cases e605
          have hn605_0 : ad605.block ≠ g := Nat.ne_of_lt (Nat.lt_of_lt_of_le (by have := World.block_lt_of_cell? _ _ hx605_0; first | rwa [add_block] at this | exact this) (IsS149.ge HI0.out))
          replace hx605_0 := pw_cell_below HB.out hx605_0
          replace hx605_0 := (cell_far (p := ⟨g, 1, none⟩) (by first | (rw [add_block]; exact hn605_0) | (show (Addr.add _ _).block ≠ _; rw [add_block]; exact hn605_0) | exact hn605_0) (.int .i64 (wrap64 (s0_1 + 1)))).trans hx605_0
          (try have hy605_0 := fun (n_ : Nat) => (show (((w.drewN n_).setCell ⟨g, 1, none⟩ (.int .i64 (wrap64 (s0_1 + 1))))).cell? _ = some _ from hx605_0))
          clear hn605_0
          replace p605 := eq_true p605
          replace q605 := eq_true q605
          have p608 : 0 ≤ ((ji24) : Int) := dt
          have q608 : (ji24) < (s0_0.length : Int) := dt
          obtain ⟨ad608, e608, hx608_0⟩ := Kd.at_int HSz28_0 (ji24) p608 q608
          obtain rfl : ad605 = ad608 := (by injection e608)
          have hn608_0 : ad605.block ≠ g := Nat.ne_of_lt (Nat.lt_of_lt_of_le (by have := World.block_lt_of_cell? _ _ hx608_0; first | rwa [add_block] at this | exact this) (IsS149.ge HI0.out))
          replace hx608_0 := pw_cell_below HB.out hx608_0
          replace hx608_0 := (cell_far (p := ⟨g, 1, none⟩) (by first | (rw [add_block]; exact hn608_0) | (show (Addr.add _ _).block ≠ _; rw [add_block]; exact hn608_0) | exact hn608_0) (.int .i64 (wrap64 (s0_1 + 1)))).trans hx608_0
          (try have hy608_0 := fun (n_ : Nat) => (show (((w.drewN n_).setCell ⟨g, 1, none⟩ (.int .i64 (wrap64 (s0_1 + 1))))).cell? _ = some _ from hx608_0))
          clear hn608_0
          replace p608 := eq_true p608
          replace q608 := eq_true q608
          go_enter Try.func94, Try.ntmps94
          go_wp2
          repeat (go_quiet (fail); try go_wp2)
          go_ret
          exact ⟨by first | rfl | (simp [errW_none, errW_some] <;> rfl) | (simp only [← hji8, ← hji24]; first | rfl | (simp [errW_none, errW_some] <;> rfl)) | (simp [*, errW_none, errW_some] <;> rfl), sq HI0.out, bq, hq⟩
        ·rw [if_neg c26] at H
         exact absurd H (by simp)
       ·rw [if_neg c25] at H
        exact absurd H (by simp)
      ·rw [if_neg c23] at H
       have c23b0 : decide (60000 < a1) = false := decide_eq_false c23
       clear c23
       by_cases c29 : a1 = 0
       ·rw [if_pos c29] at H
        exact absurd H (by simp)
       ·rw [if_neg c29] at H
        have c29b0 := eF c29
        have c29b1 := nT c29
        simp only [Option.some.injEq, Prod.mk.injEq] at H
        obtain ⟨rfl, rfl⟩ := H
        obtain ⟨ASz30_0, cSz30_0, HGz30, hgz30, HSz30_0⟩ := HI0.out
        have hcz30_0 := cellS149_0 HGz30
        have hcz30_1 := cellS149_1 HGz30
        have hfz30_1 := kF HGz30 1
        clear HGz30 hgz30
        have p605 : 0 ≤ ((ji8) : Int) := dt
        have q605 : (ji8) < (s0_0.length : Int) := dt
        obtain ⟨ad605, e605, hx605_0⟩ := Kd.at_int HSz30_0 (ji8) p605 q605
        cases e605
        have hn605_0 : ad605.block ≠ g := Nat.ne_of_lt (Nat.lt_of_lt_of_le (by have := World.block_lt_of_cell? _ _ hx605_0; first | rwa [add_block] at this | exact this) (IsS149.ge HI0.out))
        replace hx605_0 := pw_cell_below HB.out hx605_0
        replace hx605_0 := (cell_far (p := ⟨g, 1, none⟩) (by first | (rw [add_block]; exact hn605_0) | (show (Addr.add _ _).block ≠ _; rw [add_block]; exact hn605_0) | exact hn605_0) (.int .i64 (wrap64 (s0_1 + 1)))).trans hx605_0
        (try have hy605_0 := fun (n_ : Nat) => (show (((w.drewN n_).setCell ⟨g, 1, none⟩ (.int .i64 (wrap64 (s0_1 + 1))))).cell? _ = some _ from hx605_0))
        clear hn605_0
        replace p605 := eq_true p605
        replace q605 := eq_true q605
        go_enter Try.func94, Try.ntmps94
        go_wp2
        repeat (go_quiet (fail); try go_wp2)
        go_ret
        exact ⟨by first | rfl | (simp [errW_none, errW_some] <;> rfl) | (simp only [← hji8]; first | rfl | (simp [errW_none, errW_some] <;> rfl)) | (simp [*, errW_none, errW_some] <;> rfl), sq HI0.out, bq, hq⟩
    ·rw [if_neg c10] at H
     exact absurd H (by simp)
   ·rw [if_neg c9] at H
    exact absurd H (by simp)
def spec_l1Pick.f (s0_0 : List Int) (s0_1 : Int) (l1 : List Int) : Option (Int × Int) := (spec_l1Next.f s0_0 s0_1 (l1.length : Int)).bind fun bt609 => (if 0 ≤ bt609.1 then (if bt609.1 < (l1.length : Int) then (some (rd l1 bt609.1, bt609.2)) else (none)) else (none))
theorem spec_l1Pick.calls (g : Nat) (s0_0 : List Int) (s0_1 : Int) (A1 : Option Addr) (c1 : Nat) (l1 : List Int) (r1 : Int) (r2 : Int) (w0 w : World) (hI : IsS149 w0 w g s0_0 s0_1) (hB : Below w0.heap.size w0 w) (hr1 : Kd.C (Kd.int .i64) w A1 l1.length l1) (hc1 : l1.length ≤ c1) (hf1 : ∀ ad, A1 = some ad → 0 < l1.length → ad.block ≠ g) (h : spec_l1Pick.f s0_0 s0_1 l1 = some (r1, r2)) :
  Calls Try.prog 86 #[.pointer (some ⟨g, 0, none⟩), .slice A1 l1.length c1] w fun e w' => e = .returned (.int .i64 r1) ∧ IsS149 w0 w' g s0_0 r2 ∧ Below w0.heap.size w0 w' ∧ KeepBut w w' g none := by
 have HR1 := aM hr1
 have HC1 := aM hc1
 clear hr1 hc1
 have HI0 := aM hI
 have HK := aM (KeepBut.refl w g none)
 have HL := aM hB.size
 clear hI
 have HW0 := aM hB.size
 have HB := aM hB
 clear hB
 unfold spec_l1Pick.f at h
 have H := h
 clear h
 replace H := bo H
 obtain ⟨⟨t609, t610⟩, A3, H⟩ := H
 replace H := bz H
 by_cases c4 : 0 ≤ t609
 ·rw [if_pos c4] at H
  have c4b0 := dT c4
  clear c4
  by_cases c5 : t609 < (l1.length : Int)
  ·rw [if_pos c5] at H
   have c5b0 := dT c5
   clear c5
   simp only [Option.some.injEq, Prod.mk.injEq] at H
   obtain ⟨rfl, rfl⟩ := H
   go_enter Try.func86, Try.ntmps86
   go_wp2_with (first | ((with_reducible refine gC 94 rfl ?_); refine gl (some 9) Try.func94 #[.pointer (some ⟨g, 0, none⟩), .int .i64 (l1.length : Int)] ?_; (with_reducible refine (spec_l1Next.calls g s0_0 s0_1 (l1.length : Int) t609 t610 w0 _ ?s1 ?s2 A3.out).mono ?_); (case s1 => exact sq HI0.out); (case s2 => exact bq); rintro e w6 ⟨rfl, hi, hb, hk⟩; refine ii ?_; replace HK := kt w hk; replace HB := aM hb; replace HI0 := aM hi; (try clear hb); have p611 : 0 ≤ (t609 : Int) := dt; have q611 : t609 < (l1.length : Int) := dt; obtain ⟨ad611, e611, hx611_0⟩ := Kd.at_int HR1.out t609 p611 q611; cases e611; replace hx611_0 := keep_cell HK.out hx611_0 (by first | (rw [add_block]; exact hf1 _ rfl (by omega)) | exact hf1 _ rfl (by omega) | exact hf1 ad611 rfl (by omega)); replace p611 := eq_true p611; replace q611 := eq_true q611))
   go_ret
   exact ⟨ew, sq HI0.out, bq, hq⟩
  ·rw [if_neg c5] at H
   exact absurd H (by simp)
 ·rw [if_neg c4] at H
  exact absurd H (by simp)
def spec_l1BentSize.f (s0_0 : List Int) (s0_1 : Int) : Option (Int × Int) := (spec_l1Pick.f s0_0 s0_1 (([4, 8, 16, 8, 4, 8, 16, 8, 4, 8, 16, 8, 0, 5, 32] : List Int))).bind fun bt615 => (some (bt615.1, bt615.2))
theorem spec_l1BentSize.calls (g : Nat) (s0_0 : List Int) (s0_1 : Int) (r1 : Int) (r2 : Int) (w0 w : World) (hI : IsS149 w0 w g s0_0 s0_1) (hB : Below w0.heap.size w0 w) (h : spec_l1BentSize.f s0_0 s0_1 = some (r1, r2)) :
  Calls Try.prog 83 #[.pointer (some ⟨g, 0, none⟩)] w fun e w' => e = .returned (.int .i64 r1) ∧ IsS149 w0 w' g s0_0 r2 ∧ Below w0.heap.size w0 w' ∧ KeepBut w w' g none := by
 have HI0 := aM hI
 have HK := aM (KeepBut.refl w g none)
 have HL := aM hB.size
 clear hI
 have HW0 := aM hB.size
 have HB := aM hB
 clear hB
 unfold spec_l1BentSize.f at h
 have H := h
 clear h
 obtain ⟨y612, Ny612⟩ : ∃ y_ : List Int, Aside0 (y_ = (([4, 8, 16, 8, 4, 8, 16, 8, 4, 8, 16, 8, 0, 5, 32] : List Int))) := ⟨_, ⟨rfl⟩⟩
 rw [← Ny612.out] at H
 replace H := bo H
 obtain ⟨⟨t615, t616⟩, A2, H⟩ := H
 replace H := bz H
 simp only [Option.some.injEq, Prod.mk.injEq] at H
 obtain ⟨rfl, rfl⟩ := H
 go_enter Try.func83, Try.ntmps83
 go_wp2_with (first | ((with_reducible refine gD 4 rfl ?_); refine Kd.R_lit (Kd.int .i64) _ 2 ?hg (N := 4) ?hd (xs := ([4, 8, 16, 8, 4, 8, 16, 8, 4, 8, 16, 8, 0, 5, 32] : List Int)) (inner := [.int .i64 4, .int .i64 8, .int .i64 16, .int .i64 8, .int .i64 4, .int .i64 8, .int .i64 16, .int .i64 8, .int .i64 4, .int .i64 8, .int .i64 16, .int .i64 8, .int .i64 0, .int .i64 5, .int .i64 32]) (ok := fun _ => True) (okp := fun _ => True) ?hr ?hp (fun _ hk => hk) trivial (Below.refl _ _) (Nat.le_refl _) (by simp) ?_; (case hd => rfl); (case hg => rfl); (case hr => first | (go_simp; done) | (go_simp; rfl)); (case hp => exact (Reps.one (show Kd.M (Kd.int .i64) _ _ _ 4 [.int .i64 4] from rfl) (Reps.one (show Kd.M (Kd.int .i64) _ _ _ 8 [.int .i64 8] from rfl) (Reps.one (show Kd.M (Kd.int .i64) _ _ _ 16 [.int .i64 16] from rfl) (Reps.one (show Kd.M (Kd.int .i64) _ _ _ 8 [.int .i64 8] from rfl) (Reps.one (show Kd.M (Kd.int .i64) _ _ _ 4 [.int .i64 4] from rfl) (Reps.one (show Kd.M (Kd.int .i64) _ _ _ 8 [.int .i64 8] from rfl) (Reps.one (show Kd.M (Kd.int .i64) _ _ _ 16 [.int .i64 16] from rfl) (Reps.one (show Kd.M (Kd.int .i64) _ _ _ 8 [.int .i64 8] from rfl) (Reps.one (show Kd.M (Kd.int .i64) _ _ _ 4 [.int .i64 4] from rfl) (Reps.one (show Kd.M (Kd.int .i64) _ _ _ 8 [.int .i64 8] from rfl) (Reps.one (show Kd.M (Kd.int .i64) _ _ _ 16 [.int .i64 16] from rfl) (Reps.one (show Kd.M (Kd.int .i64) _ _ _ 8 [.int .i64 8] from rfl) (Reps.one (show Kd.M (Kd.int .i64) _ _ _ 0 [.int .i64 0] from rfl) (Reps.one (show Kd.M (Kd.int .i64) _ _ _ 5 [.int .i64 5] from rfl) (Reps.one (show Kd.M (Kd.int .i64) _ _ _ 32 [.int .i64 32] from rfl) (Reps.none _ _))))))))))))))))); intro v613 w3 ho4 hb hg_ hnew_; clear hg_ hnew_; rw [← Ny612.out] at ho4; have HO614 := aM (rG ho4 (ks w g)); replace HK := ku w g hb; replace HB := aM (bT bq hb); replace HI0 := aM (IsS149.below (sq HI0.out) hb); clear hb ho4; obtain ⟨Ao5, co5, rfl⟩ := rS HO614.out) | ((with_reducible refine gC 86 rfl ?_); refine gl (some 5) Try.func86 #[.pointer (some ⟨g, 0, none⟩), .slice Ao5 y612.length co5] ?_; (with_reducible refine (spec_l1Pick.calls g s0_0 s0_1 _ _ y612 t615 t616 w0 _ ?s1 ?s2 ?s3 ?s4 ?s5 A2.out).mono ?_); (case s1 => exact sq HI0.out); (case s2 => exact bq); (case s3 => exact cq (rR HO614.out).2.2); (case s4 => exact (rR HO614.out).2.1); (case s5 => exact far_slice (IsS149.own_ne HI0.out HO614.out (by decide))); rintro e w6 ⟨rfl, hi, hb, hk⟩; refine ii ?_; replace HO614 := zK (sA HI0) (rq HO614.out) hk; replace HK := kt w hk; replace HB := aM hb; replace HI0 := aM hi; (try clear hb)))
 go_ret
 exact ⟨ew, sq HI0.out, bq, hq⟩
def spec_l1Signed.f (s0_0 : List Int) (s0_1 : Int) (a1 : Int) : Option (Int × Int) := (spec_l1Next.f s0_0 s0_1 (wrap64 ((wrap64 (2 * a1)) + 1))).bind fun bt617 => (some (wrap64 (bt617.1 - a1), bt617.2))
theorem spec_l1Signed.calls (g : Nat) (s0_0 : List Int) (s0_1 : Int) (a1 : Int) (r1 : Int) (r2 : Int) (w0 w : World) (hI : IsS149 w0 w g s0_0 s0_1) (hB : Below w0.heap.size w0 w) (h : spec_l1Signed.f s0_0 s0_1 a1 = some (r1, r2)) :
  Calls Try.prog 129 #[.pointer (some ⟨g, 0, none⟩), .int .i64 a1] w fun e w' => e = .returned (.int .i64 r1) ∧ IsS149 w0 w' g s0_0 r2 ∧ Below w0.heap.size w0 w' ∧ KeepBut w w' g none := by
 have HI0 := aM hI
 have HK := aM (KeepBut.refl w g none)
 have HL := aM hB.size
 clear hI
 have HW0 := aM hB.size
 have HB := aM hB
 clear hB
 unfold spec_l1Signed.f at h
 have H := h
 clear h
 replace H := bo H
 obtain ⟨⟨t617, t618⟩, A3, H⟩ := H
 replace H := bz H
 simp only [Option.some.injEq, Prod.mk.injEq] at H
 obtain ⟨rfl, rfl⟩ := H
 go_enter Try.func129, Try.ntmps129
 go_wp2_with (first | ((with_reducible refine gC 94 rfl ?_); refine gl (some 9) Try.func94 #[.pointer (some ⟨g, 0, none⟩), .int .i64 (wrap64 ((wrap64 (2 * a1)) + 1))] ?_; (with_reducible refine (spec_l1Next.calls g s0_0 s0_1 (wrap64 ((wrap64 (2 * a1)) + 1)) t617 t618 w0 _ ?s1 ?s2 A3.out).mono ?_); (case s1 => exact sq HI0.out); (case s2 => exact bq); rintro e w4 ⟨rfl, hi, hb, hk⟩; refine ii ?_; replace HK := kt w hk; replace HB := aM hb; replace HI0 := aM hi; (try clear hb)))
 go_ret
 exact ⟨ew, sq HI0.out, bq, hq⟩
def spec_Clamp16.f (a0 : Int) : Option (Int) := if a0 < (-32768) then (some (-32768)) else (if a0 > 32767 then (some 32767) else (some a0))
theorem spec_Clamp16.calls (a0 : Int) (r : Int) (w : World) (h : spec_Clamp16.f a0 = some r) :
  Calls Try.prog 148 #[.int .i64 a0] w fun e w' => e = .returned (.int .i64 r) ∧ Drawn0 w w' := by
 unfold spec_Clamp16.f at h
 have H := h
 clear h
 by_cases c2 : a0 < (-32768)
 ·rw [if_pos c2] at H
  have c2b0 := dT c2
  clear c2
  obtain rfl := Option.some.inj H
  go_enter Try.func148, Try.ntmps148
  go_wp2
  go_ret
  exact ⟨ex, dr⟩
 ·rw [if_neg c2] at H
  have c2b0 := dF c2
  clear c2
  by_cases c3 : a0 > 32767
  ·rw [if_pos c3] at H
   have c3b0 : decide (32767 < a0) = true := decide_eq_true c3
   clear c3
   obtain rfl := Option.some.inj H
   go_enter Try.func148, Try.ntmps148
   go_wp2
   go_ret
   exact ⟨ex, dr⟩
  ·rw [if_neg c3] at H
   have c3b0 : decide (32767 < a0) = false := decide_eq_false c3
   clear c3
   obtain rfl := Option.some.inj H
   go_enter Try.func148, Try.ntmps148
   go_wp2
   go_ret
   exact ⟨ex, dr⟩
def spec_l1Samples.l0 : Nat → Int → List Int → Int → Int → Int → Int → List Int → Int → Option (List Int × Int)
 | 0, _, _, _, _, _, _, _, _ => none
 | k + 1, x1, x5, x6, x7, x8, x9, x1000, x1001 => if x9 < x1 then (if x8 = 0 then ((spec_Clamp16.f 0).bind fun t631 => (if x5.length < 17592186044416 then (spec_l1Samples.l0 k x1 (x5 ++ [t631]) x6 x7 x8 (wrap64 (x9 + 1)) x1000 x1001) else (none))) else (if x8 = 1 then ((spec_l1Signed.f x1000 x1001 32767).bind fun bt635 => ((spec_Clamp16.f bt635.1).bind fun t637 => (if x5.length < 17592186044416 then (spec_l1Samples.l0 k x1 (x5 ++ [t637]) x6 x7 x8 (wrap64 (x9 + 1)) x1000 bt635.2) else (none)))) else (if x8 = 2 then ((spec_l1Pick.f x1000 x1001 (([32767, (-32768), 0] : List Int))).bind fun bt644 => ((spec_Clamp16.f bt644.1).bind fun t646 => (if x5.length < 17592186044416 then (spec_l1Samples.l0 k x1 (x5 ++ [t646]) x6 x7 x8 (wrap64 (x9 + 1)) x1000 bt644.2) else (none)))) else (if x8 = 3 then ((spec_l1Signed.f x1000 x1001 20).bind fun bt650 => ((spec_Clamp16.f (wrap64 ((wrap64 (x6 + (wrap64 (x7 * x9)))) + bt650.1))).bind fun t652 => (if x5.length < 17592186044416 then (spec_l1Samples.l0 k x1 (x5 ++ [t652]) x6 x7 x8 (wrap64 (x9 + 1)) x1000 bt650.2) else (none)))) else ((spec_Clamp16.f (wrap64 (x6 + (wrap64 (x7 * x9))))).bind fun t656 => (if x5.length < 17592186044416 then (spec_l1Samples.l0 k x1 (x5 ++ [t656]) x6 x7 x8 (wrap64 (x9 + 1)) x1000 x1001) else (none))))))) else (some (x5, x1001))
def spec_l1Samples.f (k : Nat) (s0_0 : List Int) (s0_1 : Int) (a1 : Int) : Option (List Int × Int) := (spec_l1Signed.f s0_0 s0_1 20000).bind fun bt622 => ((spec_l1Pick.f s0_0 bt622.2 (([0, 1, 50, 700, (-300)] : List Int))).bind fun bt627 => ((spec_l1Next.f s0_0 bt627.2 5).bind fun bt629 => (spec_l1Samples.l0 k a1 (([] : List Int)) bt622.1 bt627.1 bt629.1 0 s0_0 bt629.2)))
theorem spec_l1Samples.calls (k : Nat) (g : Nat) (s0_0 : List Int) (s0_1 : Int) (a1 : Int) (r1 : List Int) (r2 : Int) (w0 w : World) (hI : IsS149 w0 w g s0_0 s0_1) (hB : Below w0.heap.size w0 w) (h : spec_l1Samples.f k s0_0 s0_1 a1 = some (r1, r2)) :
  Calls Try.prog 127 #[.pointer (some ⟨g, 0, none⟩), .int .i64 a1] w fun e w' => ∃ v0_ : Value, e = .returned (v0_) ∧ Kd.R (Kd.int .i64) 2 w' w.heap.size (fun _ => True) v0_ r1 ∧ IsS149 w0 w' g s0_0 r2 ∧ Below w0.heap.size w0 w' ∧ KeepBut w w' g none := by
 have HI0 := aM hI
 have HK := aM (KeepBut.refl w g none)
 have HL := aM hB.size
 clear hI
 have HW0 := aM hB.size
 have HB := aM hB
 clear hB
 unfold spec_l1Samples.f at h
 have H := h
 clear h
 obtain ⟨y619, hy619⟩ : ∃ y_ : List Int, y_ = (([] : List Int)) := ⟨_, rfl⟩
 replace H : ((spec_l1Signed.f s0_0 s0_1 20000).bind fun bt622 => ((spec_l1Pick.f s0_0 bt622.2 (([0, 1, 50, 700, (-300)] : List Int))).bind fun bt627 => ((spec_l1Next.f s0_0 bt627.2 5).bind fun bt629 => (spec_l1Samples.l0 k a1 y619 bt622.1 bt627.1 bt629.1 0 s0_0 bt629.2)))) = some (r1, r2) := hl hy619 H
 have Ny619 := aM hy619
 clear hy619
 replace H := bo H
 obtain ⟨⟨t622, t623⟩, A3, H⟩ := H
 replace H := bz H
 obtain ⟨y624, Ny624⟩ : ∃ y_ : List Int, Aside0 (y_ = (([0, 1, 50, 700, (-300)] : List Int))) := ⟨_, ⟨rfl⟩⟩
 rw [← Ny624.out] at H
 replace H := bo H
 obtain ⟨⟨t627, t628⟩, A4, H⟩ := H
 replace H := bz H
 replace H := bo H
 obtain ⟨⟨t629, t630⟩, A5, H⟩ := H
 replace H := bz H
 have H' := aM H
 clear H
 go_enter Try.func127, Try.ntmps127
 go_wp2_with (first | ((with_reducible refine gD 11 rfl ?_); refine Kd.R_lit (Kd.int .i64) _ 2 ?hg (N := 11) ?hd (xs := ([] : List Int)) (inner := []) (ok := fun _ => True) (okp := fun _ => True) ?hr ?hp (fun _ hk => hk) trivial (Below.refl _ _) (Nat.le_refl _) (by simp) ?_; (case hd => rfl); (case hg => rfl); (case hr => first | (go_simp; done) | (go_simp; rfl)); (case hp => exact (Reps.none _ _)); intro v620 w6 ho7 hb hg_ hnew_; clear hg_ hnew_; rw [← Ny619.out] at ho7; have HO621 := aM (rG ho7 (ks w g)); replace HK := ku w g hb; replace HB := aM (bT bq hb); replace HI0 := aM (IsS149.below (sq HI0.out) hb); clear hb ho7) | ((with_reducible refine gC 129 rfl ?_); refine gl (some 13) Try.func129 #[.pointer (some ⟨g, 0, none⟩), .int .i64 20000] ?_; (with_reducible refine (spec_l1Signed.calls g s0_0 s0_1 20000 t622 t623 w0 _ ?s1 ?s2 A3.out).mono ?_); (case s1 => exact sq HI0.out); (case s2 => exact bq); rintro e w8 ⟨rfl, hi, hb, hk⟩; refine ii ?_; replace HO621 := zK (sA HI0) (rq HO621.out) hk; replace HK := kt w hk; replace HB := aM hb; replace HI0 := aM hi; (try clear hb)) | ((with_reducible refine gD 15 rfl ?_); refine Kd.R_lit (Kd.int .i64) _ 2 ?hg (N := 15) ?hd (xs := ([0, 1, 50, 700, (-300)] : List Int)) (inner := [.int .i64 0, .int .i64 1, .int .i64 50, .int .i64 700, .int .i64 (-300)]) (ok := fun _ => True) (okp := fun _ => True) ?hr ?hp (fun _ hk => hk) trivial (Below.refl _ _) (Nat.le_refl _) (by simp) ?_; (case hd => rfl); (case hg => rfl); (case hr => first | (go_simp; done) | (go_simp; rfl)); (case hp => exact (Reps.one (show Kd.M (Kd.int .i64) _ _ _ 0 [.int .i64 0] from rfl) (Reps.one (show Kd.M (Kd.int .i64) _ _ _ 1 [.int .i64 1] from rfl) (Reps.one (show Kd.M (Kd.int .i64) _ _ _ 50 [.int .i64 50] from rfl) (Reps.one (show Kd.M (Kd.int .i64) _ _ _ 700 [.int .i64 700] from rfl) (Reps.one (show Kd.M (Kd.int .i64) _ _ _ (-300) [.int .i64 (-300)] from rfl) (Reps.none _ _))))))); intro v625 w9 ho10 hb hg_ hnew_; clear hg_ hnew_; rw [← Ny624.out] at ho10; have HO626 := aM (rG (wq ho10 HO621) (ks w g)); replace HO621 := zh (rq HO621.out) ho10 hb; replace HK := ku w g hb; replace HB := aM (bT bq hb); replace HI0 := aM (IsS149.below (sq HI0.out) hb); clear hb ho10; obtain ⟨Ao11, co11, rfl⟩ := rS HO626.out) | ((with_reducible refine gC 86 rfl ?_); refine gl (some 16) Try.func86 #[.pointer (some ⟨g, 0, none⟩), .slice Ao11 y624.length co11] ?_; (with_reducible refine (spec_l1Pick.calls g s0_0 t623 _ _ y624 t627 t628 w0 _ ?s1 ?s2 ?s3 ?s4 ?s5 A4.out).mono ?_); (case s1 => exact sq HI0.out); (case s2 => exact bq); (case s3 => exact cq (rR HO626.out).2.2); (case s4 => exact (rR HO626.out).2.1); (case s5 => exact far_slice (IsS149.own_ne HI0.out HO626.out (by decide))); rintro e w12 ⟨rfl, hi, hb, hk⟩; refine ii ?_; replace HO621 := zK (sA HI0) (rq HO621.out) hk; replace HO626 := zK (sA HI0) (rq HO626.out) hk; replace HK := kt w hk; replace HB := aM hb; replace HI0 := aM hi; (try clear hb)) | ((with_reducible refine gC 94 rfl ?_); refine gl (some 18) Try.func94 #[.pointer (some ⟨g, 0, none⟩), .int .i64 5] ?_; (with_reducible refine (spec_l1Next.calls g s0_0 t628 5 t629 t630 w0 _ ?s1 ?s2 A5.out).mono ?_); (case s1 => exact sq HI0.out); (case s2 => exact bq); rintro e w13 ⟨rfl, hi, hb, hk⟩; refine ii ?_; replace HO621 := zK (sA HI0) (rq HO621.out) hk; replace HO626 := zK (sA HI0) (rq HO626.out) hk; replace HK := kt w hk; replace HB := aM hb; replace HI0 := aM hi; (try clear hb)))
 go_loopg [5, 9] k (fun kq v5 v9 w' => ∃ (x5_1 : List Int) (x9_1 : Int) (x1001_1 : Int), v9 = .int .i64 x9_1 ∧ Aside0 (spec_l1Samples.l0 kq a1 x5_1 t622 t627 t629 x9_1 s0_0 x1001_1 = some (r1, r2)) ∧ Aside0 (kq ≤ k) ∧ Aside0 (Kd.R (Kd.int .i64) 2 w' w.heap.size (fun _ => True) v5 x5_1) ∧ Aside0 (IsS149 w0 w' g s0_0 x1001_1) ∧ Aside0 (KeepBut w w' g none) ∧ Aside0 (Below w0.heap.size w0 w'))
 case atStart => exact ⟨(y619), (0), (t630), (ex), H', ⟨Nat.le_refl _⟩, aM (rq (rM HO621.out (fun _ hk => trivial))), ⟨sq HI0.out⟩, ⟨hq⟩, ⟨bq⟩⟩
 case round =>
  clear H'
  try clear c1
  try clear p2
  try clear c8
  try clear c9
  try clear c12
  obtain ⟨x5_1, x9_1, x1001_1, rfl, HA, HK1, HO_5, HI0, HK, HB⟩ := hrel
  cases gk with
  | zero => exact absurd HA.out (by simp [spec_l1Samples.l0])
  | succ k1 =>
   have H := HA.out
   clear HA
   simp only [spec_l1Samples.l0] at H
   by_cases c14 : x9_1 < a1
   ·rw [if_pos c14] at H
    have c14b0 := dT c14
    clear c14
    by_cases c15 : t629 = 0
    ·rw [if_pos c15] at H
     have c15b0 := eT c15
     have c15b1 := nF c15
     clear c15
     replace H := bo H
     obtain ⟨t631, A16, H⟩ := H
     replace H := bz H
     by_cases c17 : x5_1.length < 17592186044416
     ·rw [if_pos c17] at H
      have LMc17 := aM c17
      clear c17
      obtain ⟨y632, Ny632⟩ : ∃ y_ : List Int, Aside0 (y_ = (x5_1 ++ [t631])) := ⟨_, ⟨rfl⟩⟩
      rw [← Ny632.out] at H
      have H' := aM H
      clear H
      go_wp2_with (first | ((with_reducible refine gC 148 rfl ?_); refine gl (some 49) Try.func148 #[.int .i64 0] ?_; (with_reducible refine (spec_Clamp16.calls 0 t631 _ A16.out).mono ?_); rintro e w' ⟨rfl, ⟨nd, rfl⟩⟩; refine ii ?_) | ((with_reducible refine gate_builtin (b := .append) (xs := #[.tmp 47, .tmp 50]) rfl ?_); at_builtin; refine Kd.R_append (Kd.int .i64) w.heap.size rfl (.tmp 47) (.tmp 50) 22 2 (.int .i64 0) 8 rfl Try.underlying22 info2 rfl (by decide) (by omega) u5 x5_1 t631 [.int .i64 t631] (fun _ => True) (fun _ => False) rfl rfl ?aP (fun _ hk => hk.elim) ?aF ?aO (Below.refl _ _) ?aS ?aL ?_; (case aP => exact rfl); (case aF => exact (fun _ _ => trivial)); (case aO => exact (rq HO_5.out)); (case aS => exact (ks w g)); (case aL => have := LMc17.out; omega); intro v633 w18 ho hb hg hat; rw [← Ny632.out] at ho; replace HB := aM (below_weaken bq HL.out hb); replace HI0 := aM (IsS149.grown (sq HI0.out) hg (IsS149.own_ne HI0.out HO_5.out (by decide))); replace HK := aM (KeepBut.trans (hq (w := w)) (KeepBut.of_grown hg g) (Kd.R_base2 HO_5.out)); have HO634 := aM (ho); clear HO_5 ho hb hg hat))
      go_roundg k1
      case measure => have := HK1.out; omega
      case rel => exact ⟨(y632), (wrap64 (x9_1 + 1)), (x1001_1), (ex), H', ⟨by have := HK1.out; omega⟩, aM (rq HO634.out), ⟨sq HI0.out⟩, ⟨hq⟩, ⟨bq⟩⟩
     ·rw [if_neg c17] at H
      exact absurd H (by simp)
    ·rw [if_neg c15] at H
     have c15b0 := eF c15
     have c15b1 := nT c15
     by_cases c19 : t629 = 1
     ·rw [if_pos c19] at H
      have c19b0 := eT c19
      have c19b1 := nF c19
      clear c19
      replace H := bo H
      obtain ⟨⟨t635, t636⟩, A20, H⟩ := H
      replace H := bz H
      replace H := bo H
      obtain ⟨t637, A21, H⟩ := H
      replace H := bz H
      by_cases c22 : x5_1.length < 17592186044416
      ·rw [if_pos c22] at H
       have LMc22 := aM c22
       clear c22
       obtain ⟨y638, Ny638⟩ : ∃ y_ : List Int, Aside0 (y_ = (x5_1 ++ [t637])) := ⟨_, ⟨rfl⟩⟩
       rw [← Ny638.out] at H
       have H' := aM H
       clear H
       go_wp2_with (first | ((with_reducible refine gC 129 rfl ?_); refine gl (some 35) Try.func129 #[.pointer (some ⟨g, 0, none⟩), .int .i64 32767] ?_; (with_reducible refine (spec_l1Signed.calls g s0_0 x1001_1 32767 t635 t636 w0 _ ?s1 ?s2 A20.out).mono ?_); (case s1 => exact sq HI0.out); (case s2 => exact bq); rintro e w23 ⟨rfl, hi, hb, hk⟩; refine ii ?_; replace HO_5 := zK (sA HI0) (rq HO_5.out) hk; replace HK := kt w hk; replace HB := aM hb; replace HI0 := aM hi; (try clear hb)) | ((with_reducible refine gC 148 rfl ?_); refine gl (some 49) Try.func148 #[.int .i64 t635] ?_; (with_reducible refine (spec_Clamp16.calls t635 t637 _ A21.out).mono ?_); rintro e w' ⟨rfl, ⟨nd, rfl⟩⟩; refine ii ?_) | ((with_reducible refine gate_builtin (b := .append) (xs := #[.tmp 47, .tmp 50]) rfl ?_); at_builtin; refine Kd.R_append (Kd.int .i64) w.heap.size rfl (.tmp 47) (.tmp 50) 22 2 (.int .i64 0) 8 rfl Try.underlying22 info2 rfl (by decide) (by omega) u5 x5_1 t637 [.int .i64 t637] (fun _ => True) (fun _ => False) rfl rfl ?aP (fun _ hk => hk.elim) ?aF ?aO (Below.refl _ _) ?aS ?aL ?_; (case aP => exact rfl); (case aF => exact (fun _ _ => trivial)); (case aO => exact (rq HO_5.out)); (case aS => exact (ks w g)); (case aL => have := LMc22.out; omega); intro v639 w24 ho hb hg hat; rw [← Ny638.out] at ho; replace HB := aM (below_weaken bq HL.out hb); replace HI0 := aM (IsS149.grown (sq HI0.out) hg (IsS149.own_ne HI0.out HO_5.out (by decide))); replace HK := aM (KeepBut.trans (hq (w := w)) (KeepBut.of_grown hg g) (Kd.R_base2 HO_5.out)); have HO640 := aM (ho); clear HO_5 ho hb hg hat))
       go_roundg k1
       case measure => have := HK1.out; omega
       case rel => exact ⟨(y638), (wrap64 (x9_1 + 1)), (t636), (ex), H', ⟨by have := HK1.out; omega⟩, aM (rq HO640.out), ⟨sq HI0.out⟩, ⟨hq⟩, ⟨bq⟩⟩
      ·rw [if_neg c22] at H
       exact absurd H (by simp)
     ·rw [if_neg c19] at H
      have c19b0 := eF c19
      have c19b1 := nT c19
      by_cases c25 : t629 = 2
      ·rw [if_pos c25] at H
       have c25b0 := eT c25
       have c25b1 := nF c25
       clear c25
       obtain ⟨y641, Ny641⟩ : ∃ y_ : List Int, Aside0 (y_ = (([32767, (-32768), 0] : List Int))) := ⟨_, ⟨rfl⟩⟩
       rw [← Ny641.out] at H
       replace H := bo H
       obtain ⟨⟨t644, t645⟩, A26, H⟩ := H
       replace H := bz H
       replace H := bo H
       obtain ⟨t646, A27, H⟩ := H
       replace H := bz H
       by_cases c28 : x5_1.length < 17592186044416
       ·rw [if_pos c28] at H
        have LMc28 := aM c28
        clear c28
        obtain ⟨y647, Ny647⟩ : ∃ y_ : List Int, Aside0 (y_ = (x5_1 ++ [t646])) := ⟨_, ⟨rfl⟩⟩
        rw [← Ny647.out] at H
        have H' := aM H
        clear H
        go_wp2_with (first | ((with_reducible refine gD 39 rfl ?_); refine Kd.R_lit (Kd.int .i64) _ 2 ?hg (N := 39) ?hd (xs := ([32767, (-32768), 0] : List Int)) (inner := [.int .i64 32767, .int .i64 (-32768), .int .i64 0]) (ok := fun _ => True) (okp := fun _ => True) ?hr ?hp (fun _ hk => hk) trivial (Below.refl _ _) (Nat.le_refl _) (by simp) ?_; (case hd => rfl); (case hg => rfl); (case hr => first | (go_simp; done) | (go_simp; rfl)); (case hp => exact (Reps.one (show Kd.M (Kd.int .i64) _ _ _ 32767 [.int .i64 32767] from rfl) (Reps.one (show Kd.M (Kd.int .i64) _ _ _ (-32768) [.int .i64 (-32768)] from rfl) (Reps.one (show Kd.M (Kd.int .i64) _ _ _ 0 [.int .i64 0] from rfl) (Reps.none _ _))))); intro v642 w29 ho30 hb hg_ hnew_; clear hg_ hnew_; rw [← Ny641.out] at ho30; have HO643 := aM (rG (wq ho30 HO_5) (ks w g)); replace HO_5 := zh (rq HO_5.out) ho30 hb; replace HK := ku w g hb; replace HB := aM (bT bq hb); replace HI0 := aM (IsS149.below (sq HI0.out) hb); clear hb ho30; obtain ⟨Ao31, co31, rfl⟩ := rS HO643.out) | ((with_reducible refine gC 86 rfl ?_); refine gl (some 40) Try.func86 #[.pointer (some ⟨g, 0, none⟩), .slice Ao31 y641.length co31] ?_; (with_reducible refine (spec_l1Pick.calls g s0_0 x1001_1 _ _ y641 t644 t645 w0 _ ?s1 ?s2 ?s3 ?s4 ?s5 A26.out).mono ?_); (case s1 => exact sq HI0.out); (case s2 => exact bq); (case s3 => exact cq (rR HO643.out).2.2); (case s4 => exact (rR HO643.out).2.1); (case s5 => exact far_slice (IsS149.own_ne HI0.out HO643.out (by decide))); rintro e w32 ⟨rfl, hi, hb, hk⟩; refine ii ?_; replace HO_5 := zK (sA HI0) (rq HO_5.out) hk; replace HO643 := zK (sA HI0) (rq HO643.out) hk; replace HK := kt w hk; replace HB := aM hb; replace HI0 := aM hi; (try clear hb)) | ((with_reducible refine gC 148 rfl ?_); refine gl (some 49) Try.func148 #[.int .i64 t644] ?_; (with_reducible refine (spec_Clamp16.calls t644 t646 _ A27.out).mono ?_); rintro e w' ⟨rfl, ⟨nd, rfl⟩⟩; refine ii ?_) | ((with_reducible refine gate_builtin (b := .append) (xs := #[.tmp 47, .tmp 50]) rfl ?_); at_builtin; refine Kd.R_append (Kd.int .i64) w.heap.size rfl (.tmp 47) (.tmp 50) 22 2 (.int .i64 0) 8 rfl Try.underlying22 info2 rfl (by decide) (by omega) u5 x5_1 t646 [.int .i64 t646] (fun k_ => nS Ao31 y641 co31 k_) (fun _ => False) rfl rfl ?aP (fun _ hk => hk.elim) ?aF ?aO (Below.refl _ _) ?aS ?aL ?_; (case aP => exact rfl); (case aF => exact (fun k_ hk => Kd.fresh' (rT (rq HO643.out)) k_ hk)); (case aO => exact (rq (rM HO_5.out (fun _ hk => hk.2)))); (case aS => exact (ks w g)); (case aL => have := LMc28.out; omega); intro v648 w33 ho hb hg hat; rw [← Ny647.out] at ho; replace HO643 := aM (Kd.R_after (ok := (fun _ => True)) (rq HO643.out) hg hat); replace HB := aM (below_weaken bq HL.out hb); replace HI0 := aM (IsS149.grown (sq HI0.out) hg (IsS149.own_ne HI0.out HO_5.out (by decide))); replace HK := aM (KeepBut.trans (hq (w := w)) (KeepBut.of_grown hg g) (Kd.R_base2 HO_5.out)); have HO649 := aM (ho); clear HO_5 ho hb hg hat))
        go_roundg k1
        case measure => have := HK1.out; omega
        case rel => exact ⟨(y647), (wrap64 (x9_1 + 1)), (t645), (ex), H', ⟨by have := HK1.out; omega⟩, aM (rq (rM HO649.out (fun _ hk => trivial))), ⟨sq HI0.out⟩, ⟨hq⟩, ⟨bq⟩⟩
       ·rw [if_neg c28] at H
        exact absurd H (by simp)
      ·rw [if_neg c25] at H
       have c25b0 := eF c25
       have c25b1 := nT c25
       by_cases c34 : t629 = 3
       ·rw [if_pos c34] at H
        have c34b0 := eT c34
        have c34b1 := nF c34
        clear c34
        replace H := bo H
        obtain ⟨⟨t650, t651⟩, A35, H⟩ := H
        replace H := bz H
        replace H := bo H
        obtain ⟨t652, A36, H⟩ := H
        replace H := bz H
        by_cases c37 : x5_1.length < 17592186044416
        ·rw [if_pos c37] at H
         have LMc37 := aM c37
         clear c37
         obtain ⟨y653, Ny653⟩ : ∃ y_ : List Int, Aside0 (y_ = (x5_1 ++ [t652])) := ⟨_, ⟨rfl⟩⟩
         rw [← Ny653.out] at H
         have H' := aM H
         clear H
         go_wp2_with (first | ((with_reducible refine gC 129 rfl ?_); refine gl (some 45) Try.func129 #[.pointer (some ⟨g, 0, none⟩), .int .i64 20] ?_; (with_reducible refine (spec_l1Signed.calls g s0_0 x1001_1 20 t650 t651 w0 _ ?s1 ?s2 A35.out).mono ?_); (case s1 => exact sq HI0.out); (case s2 => exact bq); rintro e w38 ⟨rfl, hi, hb, hk⟩; refine ii ?_; replace HO_5 := zK (sA HI0) (rq HO_5.out) hk; replace HK := kt w hk; replace HB := aM hb; replace HI0 := aM hi; (try clear hb)) | ((with_reducible refine gC 148 rfl ?_); refine gl (some 49) Try.func148 #[.int .i64 (wrap64 ((wrap64 (t622 + (wrap64 (t627 * x9_1)))) + t650))] ?_; (with_reducible refine (spec_Clamp16.calls (wrap64 ((wrap64 (t622 + (wrap64 (t627 * x9_1)))) + t650)) t652 _ A36.out).mono ?_); rintro e w' ⟨rfl, ⟨nd, rfl⟩⟩; refine ii ?_) | ((with_reducible refine gate_builtin (b := .append) (xs := #[.tmp 47, .tmp 50]) rfl ?_); at_builtin; refine Kd.R_append (Kd.int .i64) w.heap.size rfl (.tmp 47) (.tmp 50) 22 2 (.int .i64 0) 8 rfl Try.underlying22 info2 rfl (by decide) (by omega) u5 x5_1 t652 [.int .i64 t652] (fun _ => True) (fun _ => False) rfl rfl ?aP (fun _ hk => hk.elim) ?aF ?aO (Below.refl _ _) ?aS ?aL ?_; (case aP => exact rfl); (case aF => exact (fun _ _ => trivial)); (case aO => exact (rq HO_5.out)); (case aS => exact (ks w g)); (case aL => have := LMc37.out; omega); intro v654 w39 ho hb hg hat; rw [← Ny653.out] at ho; replace HB := aM (below_weaken bq HL.out hb); replace HI0 := aM (IsS149.grown (sq HI0.out) hg (IsS149.own_ne HI0.out HO_5.out (by decide))); replace HK := aM (KeepBut.trans (hq (w := w)) (KeepBut.of_grown hg g) (Kd.R_base2 HO_5.out)); have HO655 := aM (ho); clear HO_5 ho hb hg hat))
         go_roundg k1
         case measure => have := HK1.out; omega
         case rel => exact ⟨(y653), (wrap64 (x9_1 + 1)), (t651), (ex), H', ⟨by have := HK1.out; omega⟩, aM (rq HO655.out), ⟨sq HI0.out⟩, ⟨hq⟩, ⟨bq⟩⟩
        ·rw [if_neg c37] at H
         exact absurd H (by simp)
       ·rw [if_neg c34] at H
        have c34b0 := eF c34
        have c34b1 := nT c34
        replace H := bo H
        obtain ⟨t656, A40, H⟩ := H
        replace H := bz H
        by_cases c41 : x5_1.length < 17592186044416
        ·rw [if_pos c41] at H
         have LMc41 := aM c41
         clear c41
         obtain ⟨y657, Ny657⟩ : ∃ y_ : List Int, Aside0 (y_ = (x5_1 ++ [t656])) := ⟨_, ⟨rfl⟩⟩
         rw [← Ny657.out] at H
         have H' := aM H
         clear H
         go_wp2_with (first | ((with_reducible refine gC 148 rfl ?_); refine gl (some 49) Try.func148 #[.int .i64 (wrap64 (t622 + (wrap64 (t627 * x9_1))))] ?_; (with_reducible refine (spec_Clamp16.calls (wrap64 (t622 + (wrap64 (t627 * x9_1)))) t656 _ A40.out).mono ?_); rintro e w' ⟨rfl, ⟨nd, rfl⟩⟩; refine ii ?_) | ((with_reducible refine gate_builtin (b := .append) (xs := #[.tmp 47, .tmp 50]) rfl ?_); at_builtin; refine Kd.R_append (Kd.int .i64) w.heap.size rfl (.tmp 47) (.tmp 50) 22 2 (.int .i64 0) 8 rfl Try.underlying22 info2 rfl (by decide) (by omega) u5 x5_1 t656 [.int .i64 t656] (fun _ => True) (fun _ => False) rfl rfl ?aP (fun _ hk => hk.elim) ?aF ?aO (Below.refl _ _) ?aS ?aL ?_; (case aP => exact rfl); (case aF => exact (fun _ _ => trivial)); (case aO => exact (rq HO_5.out)); (case aS => exact (ks w g)); (case aL => have := LMc41.out; omega); intro v658 w42 ho hb hg hat; rw [← Ny657.out] at ho; replace HB := aM (below_weaken bq HL.out hb); replace HI0 := aM (IsS149.grown (sq HI0.out) hg (IsS149.own_ne HI0.out HO_5.out (by decide))); replace HK := aM (KeepBut.trans (hq (w := w)) (KeepBut.of_grown hg g) (Kd.R_base2 HO_5.out)); have HO659 := aM (ho); clear HO_5 ho hb hg hat))
         go_roundg k1
         case measure => have := HK1.out; omega
         case rel => exact ⟨(y657), (wrap64 (x9_1 + 1)), (x1001_1), (ex), H', ⟨by have := HK1.out; omega⟩, aM (rq HO659.out), ⟨sq HI0.out⟩, ⟨hq⟩, ⟨bq⟩⟩
        ·rw [if_neg c41] at H
         exact absurd H (by simp)
   ·rw [if_neg c14] at H
    have c14b0 := dF c14
    clear c14
    simp only [Option.some.injEq, Prod.mk.injEq] at H
    obtain ⟨rfl, rfl⟩ := H
    go_wp2
    go_ret
    exact ⟨_, ew, by (with_reducible repeat (first | apply rA | apply rN | apply rD)); exact HO_5.out, sq HI0.out, bq, hq⟩
def spec_l1Size.f (s0_0 : List Int) (s0_1 : Int) : Option (Int × Int) := (spec_l1Pick.f s0_0 s0_1 (([4, 8, 16, 8] : List Int))).bind fun bt663 => (some (bt663.1, bt663.2))
theorem spec_l1Size.calls (g : Nat) (s0_0 : List Int) (s0_1 : Int) (r1 : Int) (r2 : Int) (w0 w : World) (hI : IsS149 w0 w g s0_0 s0_1) (hB : Below w0.heap.size w0 w) (h : spec_l1Size.f s0_0 s0_1 = some (r1, r2)) :
  Calls Try.prog 133 #[.pointer (some ⟨g, 0, none⟩)] w fun e w' => e = .returned (.int .i64 r1) ∧ IsS149 w0 w' g s0_0 r2 ∧ Below w0.heap.size w0 w' ∧ KeepBut w w' g none := by
 have HI0 := aM hI
 have HK := aM (KeepBut.refl w g none)
 have HL := aM hB.size
 clear hI
 have HW0 := aM hB.size
 have HB := aM hB
 clear hB
 unfold spec_l1Size.f at h
 have H := h
 clear h
 obtain ⟨y660, Ny660⟩ : ∃ y_ : List Int, Aside0 (y_ = (([4, 8, 16, 8] : List Int))) := ⟨_, ⟨rfl⟩⟩
 rw [← Ny660.out] at H
 replace H := bo H
 obtain ⟨⟨t663, t664⟩, A2, H⟩ := H
 replace H := bz H
 simp only [Option.some.injEq, Prod.mk.injEq] at H
 obtain ⟨rfl, rfl⟩ := H
 go_enter Try.func133, Try.ntmps133
 go_wp2_with (first | ((with_reducible refine gD 4 rfl ?_); refine Kd.R_lit (Kd.int .i64) _ 2 ?hg (N := 4) ?hd (xs := ([4, 8, 16, 8] : List Int)) (inner := [.int .i64 4, .int .i64 8, .int .i64 16, .int .i64 8]) (ok := fun _ => True) (okp := fun _ => True) ?hr ?hp (fun _ hk => hk) trivial (Below.refl _ _) (Nat.le_refl _) (by simp) ?_; (case hd => rfl); (case hg => rfl); (case hr => first | (go_simp; done) | (go_simp; rfl)); (case hp => exact (Reps.one (show Kd.M (Kd.int .i64) _ _ _ 4 [.int .i64 4] from rfl) (Reps.one (show Kd.M (Kd.int .i64) _ _ _ 8 [.int .i64 8] from rfl) (Reps.one (show Kd.M (Kd.int .i64) _ _ _ 16 [.int .i64 16] from rfl) (Reps.one (show Kd.M (Kd.int .i64) _ _ _ 8 [.int .i64 8] from rfl) (Reps.none _ _)))))); intro v661 w3 ho4 hb hg_ hnew_; clear hg_ hnew_; rw [← Ny660.out] at ho4; have HO662 := aM (rG ho4 (ks w g)); replace HK := ku w g hb; replace HB := aM (bT bq hb); replace HI0 := aM (IsS149.below (sq HI0.out) hb); clear hb ho4; obtain ⟨Ao5, co5, rfl⟩ := rS HO662.out) | ((with_reducible refine gC 86 rfl ?_); refine gl (some 5) Try.func86 #[.pointer (some ⟨g, 0, none⟩), .slice Ao5 y660.length co5] ?_; (with_reducible refine (spec_l1Pick.calls g s0_0 s0_1 _ _ y660 t663 t664 w0 _ ?s1 ?s2 ?s3 ?s4 ?s5 A2.out).mono ?_); (case s1 => exact sq HI0.out); (case s2 => exact bq); (case s3 => exact cq (rR HO662.out).2.2); (case s4 => exact (rR HO662.out).2.1); (case s5 => exact far_slice (IsS149.own_ne HI0.out HO662.out (by decide))); rintro e w6 ⟨rfl, hi, hb, hk⟩; refine ii ?_; replace HO662 := zK (sA HI0) (rq HO662.out) hk; replace HK := kt w hk; replace HB := aM hb; replace HI0 := aM hi; (try clear hb)))
 go_ret
 exact ⟨ew, sq HI0.out, bq, hq⟩
def spec_l7New.f (a0 : Int) : Option (Int × List Int × List Int) := (spec_l1Zeros.f (wrap64 (Int.tdiv a0 2))).bind fun t666 => ((spec_l1Zeros.f (wrap64 (Int.tdiv a0 2))).bind fun t669 => (some (a0, t666, t669)))
theorem spec_l7New.calls (a0 : Int) (r1 : Int) (r2 : List Int) (r3 : List Int) (w : World) (h : spec_l7New.f a0 = some (r1, r2, r3)) :
  Calls Try.prog 147 #[.int .i64 a0] w fun e w' => ∃ v1_ v2_ : Value, e = .returned (.agg #[.int .i64 r1, v1_, v2_]) ∧ Kd.R (Kd.int .i64) 2 w' w.heap.size (fun k_ => nb v2_ k_) v1_ r2 ∧ Kd.R (Kd.int .i64) 2 w' w.heap.size (fun k_ => nb v1_ k_) v2_ r3 ∧ Below w.heap.size w w' := by
 have hu48 := Try.underlying48
 have HB := aM (Below.refl w.heap.size w)
 unfold spec_l7New.f at h
 have H := h
 clear h
 replace H := bo H
 obtain ⟨t666, A2, H⟩ := H
 replace H := bz H
 replace H := bo H
 obtain ⟨t669, A3, H⟩ := H
 replace H := bz H
 simp only [Option.some.injEq, Prod.mk.injEq] at H
 obtain ⟨rfl, rfl, rfl⟩ := H
 go_enter Try.func147, Try.ntmps147
 go_wp2_with (first | ((with_reducible refine gD 2 rfl ?_); refine bx 2 48 #[.int .i64 0, .slice none 0 0, .slice none 0 0] ?_; intro gb665 hg w4 hbox hb; have BK665 := aM hbox; have GW665 := gw w hg; have GE665 := GW665; replace HB := aM (bT bq hb); clear hb hbox hg) | ((with_reducible refine gC 136 rfl ?_); refine gl (some 6) Try.func136 #[.int .i64 (wrap64 (Int.tdiv a0 2))] ?_; (with_reducible refine (spec_l1Zeros.calls (wrap64 (Int.tdiv a0 2)) t666 _ A2.out).mono ?_); rintro e w5 ⟨v667, rfl, ho0, hb⟩; refine ii ?_; have HO668 := aM (rG ho0 (bZ bq)); replace BK665 := zb BK665 hb; replace HB := aM (bT bq hb); (try clear hb); (try clear ho0)) | ((with_reducible refine gC 136 rfl ?_); refine gl (some 9) Try.func136 #[.int .i64 (wrap64 (Int.tdiv a0 2))] ?_; (with_reducible refine (spec_l1Zeros.calls (wrap64 (Int.tdiv a0 2)) t669 _ A3.out).mono ?_); rintro e w6 ⟨v670, rfl, ho0, hb⟩; refine ii ?_; have HO671 := aM (rG (wq ho0 HO668) (bZ bq)); replace HO668 := zh (rq HO668.out) ho0 hb; replace BK665 := zb BK665 hb; replace HB := aM (bT bq hb); (try clear hb); (try clear ho0); obtain ⟨Ao7, co7, rfl⟩ := rS HO671.out; obtain ⟨Ao8, co8, rfl⟩ := rS HO668.out; obtain ⟨hcz9_0, hcz9_1, hcz9_2, hfz9_0, hfz9_1, hfz9_2⟩ := b3 BK665.out))
 refine bodyPost_ret (results_cell_row rfl _ _ gb665 48 #[.int .i64 a0, .slice Ao8 t666.length co8, .slice Ao7 t669.length co7] (0, 0) _ rfl (fq BK665.out) Try.underlying48 rfl kr) rfl ?_
 exact ⟨_, _, ew, rM (rf (Kd.R_types HO668.out BK665.out (by decide))) (fun _ hk => hk.1.2), rM (rf (Kd.R_types HO671.out BK665.out (by decide))) (fun _ hk => hk.1.2), bq⟩
end Go.Proofs.Ytmhnpogjkbmmnaa.PFnStates
