-- Written by a program of this session: wip/mkprint.py over the kit's print, with contracts proved by hand (wip/given.py)
-- told shortest
-- told short
-- squeezed
import Derived.Test.YtmhnpogjkbmmnaaProg
import Derived.Below
import Derived.Deep.Draws
import Derived.Deep.AppendLies
import Derived.Maps.AppendAt
import Derived.OwnWalk
import Derived.Laws.BytesArg
import Derived.Laws.MakeOwn
import Derived.Laws.OwnMore
import Derived.Deep.OwnRows
import Derived.Tactics
import Derived.Lib.ConvBytes
import Derived.Laws.Slices
import Derived.WalkKit
import Derived.KernelRfl
import Derived.RowKit3
import Derived.Deep.LoopGhost
import Derived.Deep.QuietTactic
import Derived.BigQuiet
import Derived.WideLaws
import Derived.Deep.DeepCutAuto
import Derived.Deep.CutBlock
import Derived.Deep.RegionHeld3
import Derived.Laws.Rows
import Derived.Lib.AppendStr
import Derived.ArgAppend
import Derived.Laws.IdiomCopy
import Derived.OrdersHeld
import Derived.Laws.BitsLemmas
import Derived.RowKit
import Derived.Lib.SliceRun
import Derived.Laws.EntriesVeiled
import Derived.Lib.Strings
import Derived.Lib.Slices
import Derived.Lib.Small
import Derived.Lib.Walk
import Derived.Lib.BitFns
import Derived.Test.YtmhnpogjkbmmnaaWWords
import Derived.Test.YtmhnpogjkbmmnaaWLast
import Derived.Test.YtmhnpogjkbmmnaaWTab
import Derived.Test.YtmhnpogjkbmmnaaWFour
import Derived.Test.YtmhnpogjkbmmnaaWQPut
import Derived.Test.YtmhnpogjkbmmnaaWApart
import Derived.Test.YtmhnpogjkbmmnaaWArr
import Derived.Test.YtmhnpogjkbmmnaaWZeros
import Derived.Test.YtmhnpogjkbmmnaaWFoot
import Derived.Test.YtmhnpogjkbmmnaaWKept
import Derived.Test.YtmhnpogjkbmmnaaWShare
import Derived.Test.YtmhnpogjkbmmnaaWN
import Derived.Test.YtmhnpogjkbmmnaaWFootNe
import Derived.Test.YtmhnpogjkbmmnaaWAt
import Derived.Test.YtmhnpogjkbmmnaaWEqStruct
import Derived.Test.YtmhnpogjkbmmnaaWRepsOne
import Derived.Test.YtmhnpogjkbmmnaaWInv
import Derived.Test.YtmhnpogjkbmmnaaWInvWords
import Derived.Test.YtmhnpogjkbmmnaaWGuard
import Derived.Test.YtmhnpogjkbmmnaaWNEv
import Derived.Test.YtmhnpogjkbmmnaaWMore
namespace Go.Proofs.Ytmhnpogjkbmmnaa.PFnFrameBounds
open Go.RowKit Go.Proofs.YtmhnpogjkbmmnaaW.PrintWords Go.Proofs.YtmhnpogjkbmmnaaW.PrintLast Go.Proofs.YtmhnpogjkbmmnaaW.PrintMore
attribute [local go_sem] max2_int min2_int max_two min_two max_three min_three max_four min_four   -- for this text's walks alone
set_option linter.unusedVariables false
set_option linter.unusedSimpArgs false



def errW : Option Int → Value
 | none => .nilIface
 | some c => .iface 0 (.int .i64 c)
theorem errW_none : errW none = .nilIface := rfl
theorem errW_some (c : Int) : errW (some c) = .iface 0 (.int .i64 c) := rfl

abbrev Y : Bool := true
abbrev N : Bool := false
theorem pa {α : Type} (xs : List α) (i : Nat) (v : α) : xs.toArray.setIfInBounds i v = (xs.set i v).toArray := List.setIfInBounds_toArray ..
theorem pb {α : Type} (x : α) (l : List α) (b : α) : (x :: l).set 0 b = b :: l := List.set_cons_zero ..
theorem pc {α : Type} (x : α) (l : List α) (n : Nat) (b : α) : (x :: l).set (n + 1) b = x :: l.set n b := List.set_cons_succ ..
/-! words for what stands in the walks again and again: each is a theorem whose premise has a proof of its own -/
theorem bq {B : Nat} {w W : World} (h : Below B w W := by repeat (first | (with_reducible first | exact HB.out | apply below_alloc | apply pw_below_drewN | apply below_drew1 | refine below_set ?_ (Aside0.out (by assumption)) | refine below_set ?_ (IsS149.ge (Aside0.out (by assumption)))) | exact HB.out)) : Below B w W := h
theorem kq {w W : World} {g : Nat} {o : Obj} (h0 : w.heap[g]? = some o) (h : w.heap[g]? = some o → W.heap[g]? = some o := by intro z_; (with_reducible repeat (first | refine blk_drewN ?_ _ | refine blk_drew ?_ | refine blk_alloc ?_ _)); exact z_) : W.heap[g]? = some o := h h0
theorem rq {α : Type} {d : Kd α} {e : Nat} {w W : World} {base : Nat} {ok : Nat → Prop} {v : Value} {xs : List α} (h0 : Kd.R d e w base ok v xs) (h : Kd.R d e w base ok v xs → Kd.R d e W base ok v xs := by intro z_; (with_reducible repeat (first | apply Kd.R_alloc | apply Kd.R_drewN | apply Kd.R_drew)); exact z_) : Kd.R d e W base ok v xs := h h0
theorem cq {α : Type} {d : Kd α} {w W : World} {A : Option Addr} {n : Nat} {xs : List α} (h0 : Kd.C d w A n xs) (h : Kd.C d w A n xs → Kd.C d W A n xs := by intro z_; repeat (first | exact z_ | (with_reducible refine Kd.C_alloc ?_ _) | (with_reducible refine Kd.C_drewN ?_ _) | (with_reducible refine Kd.C_drew ?_))) : Kd.C d W A n xs := h h0
theorem mq {α : Type} {a b : α} (h : a = b := by first | done | rfl | (simp only [List.map_toArray, List.map_cons, List.map_nil]; first | done | rfl | (simp only [List.length_drop, List.length_take]; rfl)) | (simp only [List.length_drop, List.length_take]; rfl)) : a = b := h
abbrev nS {α : Type} (A : Option Addr) (l : List α) (c k : Nat) : Prop := some k ≠ (Value.slice A l.length c).ownBlock
abbrev nb (v : Value) (k : Nat) : Prop := some k ≠ v.ownBlock
theorem jq {p q : Nat → Prop} (h : ∀ k, p k → q k := by intro k hk; (try dsimp only [nS, nb] at hk ⊢); first | exact hk | (simp only [hk, ne_eq, not_false_eq_true, and_self, true_and, and_true]; done) | (and_intros <;> first | (simp only [hk, ne_eq, not_false_eq_true]; done) | (simp [Value.ownBlock]; done))) : ∀ k, p k → q k := h
theorem kr {α : Type} {a b : α} (h : a = b := by kernel_rfl) : a = b := h
/-! more words: a step of a region; what a row or a block is behind a run of stores -/
theorem pp {P : Program} {ops : Array Oper} {Q : Exit → Act → World → Prop} {md : Region.Mode} {S : World → Prop} {ds : List Nat} {T : Bool × List (List Nat × List Nat)} {N : Option Tmp} {oi : Oper} {v : Value} {fuel : Nat} {l : Array Bool} {a : Act} {w : World} {a' : Act} (hT : Aside0 (rtab md ops = T)) (i : Nat) (l' : Array Bool) (h : wpAnyLast P md ops Q S ds fuel l' a' w)
  (hi : ops[i]? = some oi := by rfl) (hN : oi.dst = N := by rfl) (hc : anyT T l.toList l'.toList i = true := by kernel_rfl) (hQ : ∀ c a w, Q (.panic c) (a.put oi.dst v) w → Q (.panic c) a w := by exact fun _ _ _ h => h) (hy : Yields P ops oi v a := by exact Or.inl ⟨by rfl, by intro w'; go_simp; with_reducible rfl⟩) (ha : a.put N v = a' := by simp only [Act.put, pa, pb, pc, i64_w, i32_w]; rfl) :
  wpAnyLast P md ops Q S ds (fuel + 1) l a w := pure_ l' hi hN (any_of hT.out hc) hQ hy ha h
theorem fq {w W : World} {g : Nat} {t : TypeId} {cs cs' : Array Value} (h0 : w.heap[g]? = some (.cells cs t (0, 0))) (h : w.heap[g]? = some (.cells cs t (0, 0)) → W.heap[g]? = some (.cells cs' t (0, 0)) := by intro z_; repeat (first | (with_reducible exact z_) | (with_reducible refine blk_drewN ?_ _) | (with_reducible refine blk_drew ?_) | (with_reducible refine blk_alloc ?_ _) | (with_reducible refine blk_far ?_ (Aside0.out (by assumption)) _) | apply blk_put | (simp only [pa, pb, pc]; done) | (simp only [pa, pb, pc]; rfl) | rfl)) : W.heap[g]? = some (.cells cs' t (0, 0)) := h h0
theorem rf {α : Type} {d : Kd α} {e : Nat} {w W : World} {base : Nat} {ok : Nat → Prop} {v : Value} {xs : List α} (h0 : Kd.R d e w base ok v xs) (h : Kd.R d e w base ok v xs → Kd.R d e W base ok v xs := by intro z_; repeat (first | (with_reducible exact z_) | (with_reducible apply Kd.R_alloc) | (with_reducible apply Kd.R_drewN) | (with_reducible apply Kd.R_drew) | (with_reducible refine Kd.R_far ?_ (by first | exact fun _ hk => hk.2 | exact fun _ hk => hk.1.2 | exact fun _ hk => hk.1.1.2 | exact fun _ hk => hk.1.1.1.2) _))) : Kd.R d e W base ok v xs := h h0
theorem ew {α : Type} {a b : α} (h : a = b := by first | rfl | (simp [errW_none, errW_some] <;> rfl) | (simp [*, errW_none, errW_some] <;> rfl)) : a = b := h
theorem ex {α : Type} {a b : α} (h : a = b := by first | rfl | (simp; done) | (simp [*]; done)) : a = b := h
theorem hq {w W : World} {g : Nat} {row : Option Nat} (h : KeepBut w W g row := by repeat (first | (with_reducible first | exact HK.out | apply KeepBut.set_ | apply keep_drewN | apply keep_drew | apply keep_alloc | refine keep_far ?_ (Aside0.out (by assumption)) _) | exact HK.out)) : KeepBut w W g row := h
theorem sq {p q : Prop} (h0 : p) (h : p → q := by intro z_; repeat (first | (with_reducible first | exact z_ | apply IsS149.alloc | apply IsS149.drew | apply IsS149.drewN | refine IsS149.far ?_ (Aside0.out (by assumption)) _ | apply IsS149.set_1) | exact z_)) : q := h h0
theorem vq {α : Type} {d : Kd α} {e : Nat} {w W : World} {base : Nat} {ok : Nat → Prop} {v : Value} {xs : List α} (h0 : Kd.V d e w base ok v xs) (h : Kd.V d e w base ok v xs → Kd.V d e W base ok v xs := by intro z_; (with_reducible repeat (first | apply Kd.V_alloc | apply Kd.V_drewN | apply Kd.V_drew)); exact z_) : Kd.V d e W base ok v xs := h h0
theorem nq {α : Type} {d : Kd α} {e : Nat} {w W : World} {base : Nat} {ok : Nat → Prop} {v : Value} {xs : List α} (h0 : Kd.N d e w base ok v xs) (h : Kd.N d e w base ok v xs → Kd.N d e W base ok v xs := by intro z_; (with_reducible repeat (first | apply Kd.N_alloc | apply Kd.N_drewN | apply Kd.N_drew)); exact z_) : Kd.N d e W base ok v xs := h h0
/-! function values: what is asked of one that is handed on -/
structure FnOKp (g : Nat) (lb : Array Value) (p : Int → Bool) (w : World) : Prop where
 en : ∀ args w, (callFunc g args).run Try.prog w = .ok (.enter g args) w
 ok : ∀ W, Below w.heap.size w W → ∀ x, Calls Try.prog g (#[.int .i64 x] ++ lb) W fun e w' => e = .returned (.bool (p x)) ∧ Drawn0 W w'
theorem FnOKp.later {g : Nat} {lb : Array Value} {p : Int → Bool} {w W : World} (h : FnOKp g lb p w) (hb : Below w.heap.size w W) : FnOKp g lb p W :=
 ⟨h.en, fun W' hb' x => h.ok W' (hb.trans (hb'.mono hb.size)) x⟩
structure FnOK2 (g : Nat) (lb : Array Value) (S : Int → Int → Option (Int × Int)) (w : World) : Prop where
 en : ∀ args w, (callFunc g args).run Try.prog w = .ok (.enter g args) w
 ok : ∀ W, Below w.heap.size w W → ∀ a b r1 r2, S a b = some (r1, r2) → Calls Try.prog g (#[.int .i64 a, .int .i64 b] ++ lb) W fun e w' => e = .returned (.tuple #[.int .i64 r1, .int .i64 r2]) ∧ Below W.heap.size W w'
theorem FnOK2.later {g : Nat} {lb : Array Value} {S : Int → Int → Option (Int × Int)} {w W : World} (h : FnOK2 g lb S w) (hb : Below w.heap.size w W) : FnOK2 g lb S W :=
 ⟨h.en, fun W' hb' => h.ok W' (hb.trans (hb'.mono hb.size))⟩
theorem FnOK2.calls {g : Nat} {lb : Array Value} {S : Int → Int → Option (Int × Int)} {w W : World} (h : FnOK2 g lb S w) (hb : Below w.heap.size w W) (a b r1 r2 : Int) (e : S a b = some (r1, r2)) :
  Calls Try.prog g (#[.int .i64 a, .int .i64 b] ++ lb) W fun e w' => e = .returned (.tuple #[.int .i64 r1, .int .i64 r2]) ∧ Below W.heap.size W w' := h.ok W hb a b r1 r2 e
structure FnOK3 (g : Nat) (lb : Array Value) (S : Int → Int → Int → Option (Int × Int)) (w : World) : Prop where
 en : ∀ args w, (callFunc g args).run Try.prog w = .ok (.enter g args) w
 ok : ∀ W, Below w.heap.size w W → ∀ a b c r1 r2, S a b c = some (r1, r2) → Calls Try.prog g (#[.int .i64 a, .int .i64 b, .int .i64 c] ++ lb) W fun e w' => e = .returned (.tuple #[.int .i64 r1, .int .i64 r2]) ∧ Below W.heap.size W w'
theorem FnOK3.later {g : Nat} {lb : Array Value} {S : Int → Int → Int → Option (Int × Int)} {w W : World} (h : FnOK3 g lb S w) (hb : Below w.heap.size w W) : FnOK3 g lb S W :=
 ⟨h.en, fun W' hb' => h.ok W' (hb.trans (hb'.mono hb.size))⟩
theorem FnOK3.calls {g : Nat} {lb : Array Value} {S : Int → Int → Int → Option (Int × Int)} {w W : World} (h : FnOK3 g lb S w) (hb : Below w.heap.size w W) (a b c r1 r2 : Int) (e : S a b c = some (r1, r2)) :
  Calls Try.prog g (#[.int .i64 a, .int .i64 b, .int .i64 c] ++ lb) W fun e w' => e = .returned (.tuple #[.int .i64 r1, .int .i64 r2]) ∧ Below W.heap.size W w' := h.ok W hb a b c r1 r2 e
structure FnOK4 (g : Nat) (lb : Array Value) (S : Int → Int → Int → Int → Option (Int × Int)) (w : World) : Prop where
 en : ∀ args w, (callFunc g args).run Try.prog w = .ok (.enter g args) w
 ok : ∀ W, Below w.heap.size w W → ∀ a b c d r1 r2, S a b c d = some (r1, r2) → Calls Try.prog g (#[.int .i64 a, .int .i64 b, .int .i64 c, .int .i64 d] ++ lb) W fun e w' => e = .returned (.tuple #[.int .i64 r1, .int .i64 r2]) ∧ Below W.heap.size W w'
theorem FnOK4.later {g : Nat} {lb : Array Value} {S : Int → Int → Int → Int → Option (Int × Int)} {w W : World} (h : FnOK4 g lb S w) (hb : Below w.heap.size w W) : FnOK4 g lb S W :=
 ⟨h.en, fun W' hb' => h.ok W' (hb.trans (hb'.mono hb.size))⟩
theorem FnOK4.calls {g : Nat} {lb : Array Value} {S : Int → Int → Int → Int → Option (Int × Int)} {w W : World} (h : FnOK4 g lb S w) (hb : Below w.heap.size w W) (a b c d r1 r2 : Int) (e : S a b c d = some (r1, r2)) :
  Calls Try.prog g (#[.int .i64 a, .int .i64 b, .int .i64 c, .int .i64 d] ++ lb) W fun e w' => e = .returned (.tuple #[.int .i64 r1, .int .i64 r2]) ∧ Below W.heap.size W w' := h.ok W hb a b c d r1 r2 e
/-- A call of a function value, in a region that draws its order. -/
theorem goesV_ {P : Program} {ops : Array Oper} {Q : Exit → Act → World → Prop} {oi : Oper} {N : Option Tmp} {a : Act} {w : World} {K : Act → World → Prop} {g : FuncId} {lb : Array Value} {o : Operand} {asx : Array Operand} {ts : Array TypeId} (he : ∀ args w, (callFunc g args).run P w = .ok (.enter g args) w) (args : Array Value)
  (hw : Region.wanted oi (yielded ops a.tmps) = true) (hN : oi.dst = N) (hop : oi.op = .call { callee := .value o, args := asx, argTypes := ts }) (hev : a.eval o = .func (.func g) #[] lb) (hargs : asx.map a.eval = args)
  (h : Calls P g (args ++ lb) w fun e w' => ∃ v, e = .returned v ∧ K (a.put N v) w') : if Region.wanted oi (yielded ops a.tmps) = true then Oper.wp P oi a w K Q else K (a.put N undef) w := by
 refine call_ g (args ++ lb) hw hN ?_ h
 unfold execOp
 simp [hop, resolve, Deferred.ofValue, invoke, hev, hargs, he]
theorem cell_drew_set {w : World} {p q : Addr} {v : Value} {r : Option Value} (h : (w.setCell p v).cell? q = r) (m : Nat) : ((w.drewN m).setCell p v).cell? q = r := h
theorem frozen_set {w : World} {p q : Addr} {v : Value} {b : Bool} (h : (w.setCell p v).frozen? q = b) : w.frozen? q = b := (World.frozen?_setCell _ _ _ _).symm.trans h

theorem info2 : (Try.prog.info? 2).map (fun i => (i.zero, i.size, i.bytes)) = some (some (.int .i64 0), 1, 8) := by kernel_rfl
theorem info22 : (Try.prog.info? 22).map (fun i => (i.zero, i.size, i.bytes)) = some (some (.slice none 0 0), 1, 24) := by kernel_rfl
-- the values' own types
def rd_L1 (xs : List (List Int)) (i : Int) : (List Int) := xs.getD i.toNat ([] : List Int)
theorem at_L1 {w : World} {A : Option Addr} {n : Nat} {xs : List (List Int)} (h : Kd.C (Kd.slice 2 (Kd.int .i64)) w A n xs) (i : Int) (h0 : 0 ≤ i) (h1 : i < n) : ∃ ad A0 c0, A = some ad ∧ w.cell? (ad.add i.toNat) = some (.slice A0 (rd_L1 xs i).length c0) ∧ (rd_L1 xs i).length ≤ c0 ∧ (Kd.int .i64).C w A0 (rd_L1 xs i).length (rd_L1 xs i) := by
 obtain ⟨ad, c, e, _, hK, hc0⟩ := Kd.C_get h ([] : List Int) i h0 h1
 have hc : ∀ j u, c[j]? = some u → w.cell? (ad.add (i.toNat * 1 + j)) = some u := hc0
 obtain ⟨A0, c0, rfl, l0, g0⟩ := hK
 exact ⟨ad, A0, c0, e, by have hq := hc 0 _ rfl; rwa [Nat.mul_one, Nat.add_zero] at hq, l0, g0⟩

end Go.Proofs.Ytmhnpogjkbmmnaa.PFnFrameBounds
