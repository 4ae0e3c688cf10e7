import Derived.Test.YtmhnpogjkbmmnaaProg
import Derived.Below
import Derived.Deep.Draws
import Derived.Deep.AppendLies
import Derived.Maps.AppendAt
import Derived.OwnWalk
import Derived.Laws.BytesArg
import Derived.Laws.MakeOwn
import Derived.Laws.OwnMore
import Derived.Deep.OwnRows
import Derived.Tactics
import Derived.Lib.ConvBytes
import Derived.Laws.Slices
import Derived.WalkKit
import Derived.KernelRfl
import Derived.RowKit3
import Derived.Deep.LoopGhost
import Derived.Deep.QuietTactic
import Derived.BigQuiet
import Derived.WideLaws
import Derived.Deep.DeepCutAuto
import Derived.Deep.CutBlock
import Derived.Deep.RegionHeld3
import Derived.Laws.Rows
import Derived.Lib.AppendStr
import Derived.ArgAppend
import Derived.Laws.IdiomCopy
import Derived.OrdersHeld
import Derived.Laws.BitsLemmas
import Derived.RowKit
import Derived.Lib.SliceRun
import Derived.Laws.EntriesVeiled
import Derived.Lib.Strings
import Derived.Lib.Slices
import Derived.Lib.Small
import Derived.Lib.Walk
import Derived.Lib.BitFns
import Derived.Test.YtmhnpogjkbmmnaaWWords
import Derived.Test.YtmhnpogjkbmmnaaWLast
import Derived.Test.YtmhnpogjkbmmnaaWTab
import Derived.Test.YtmhnpogjkbmmnaaWFour
import Derived.Test.YtmhnpogjkbmmnaaWQPut
import Derived.Test.YtmhnpogjkbmmnaaWApart
import Derived.Test.YtmhnpogjkbmmnaaWArr
import Derived.Test.YtmhnpogjkbmmnaaWZeros
import Derived.Test.YtmhnpogjkbmmnaaWFoot
import Derived.Test.YtmhnpogjkbmmnaaWKept
import Derived.Test.YtmhnpogjkbmmnaaWShare
import Derived.Test.YtmhnpogjkbmmnaaWN
import Derived.Test.YtmhnpogjkbmmnaaWFootNe
import Derived.Test.YtmhnpogjkbmmnaaWAt
import Derived.Test.YtmhnpogjkbmmnaaWEqStruct
import Derived.Test.YtmhnpogjkbmmnaaWRepsOne
import Derived.Test.YtmhnpogjkbmmnaaWInv
import Derived.Test.YtmhnpogjkbmmnaaWInvWords
import Derived.Test.YtmhnpogjkbmmnaaWGuard
import Derived.Test.YtmhnpogjkbmmnaaWNEv
import Derived.Test.YtmhnpogjkbmmnaaWMore
namespace Go.Proofs.Ytmhnpogjkbmmnaa.PFnStates
open Go.RowKit Go.Proofs.YtmhnpogjkbmmnaaW.PrintWords Go.Proofs.YtmhnpogjkbmmnaaW.PrintLast Go.Proofs.YtmhnpogjkbmmnaaW.PrintMore
attribute [local go_sem] max2_int min2_int max_two min_two max_three min_three max_four min_four
set_option maxHeartbeats 8000000
set_option maxRecDepth 100000
set_option linter.unusedVariables false
set_option linter.unusedSimpArgs false
def errW : Option Int → Value
 | none => .nilIface
 | some c => .iface 0 (.int .i64 c)
theorem errW_none : errW none = .nilIface := rfl
theorem errW_some (c : Int) : errW (some c) = .iface 0 (.int .i64 c) := rfl
abbrev Y : Bool := true
abbrev N : Bool := false
theorem pa {α : Type} (xs : List α) (i : Nat) (v : α) : xs.toArray.setIfInBounds i v = (xs.set i v).toArray := List.setIfInBounds_toArray ..
theorem pb {α : Type} (x : α) (l : List α) (b : α) : (x :: l).set 0 b = b :: l := List.set_cons_zero ..
theorem pc {α : Type} (x : α) (l : List α) (n : Nat) (b : α) : (x :: l).set (n + 1) b = x :: l.set n b := List.set_cons_succ ..
theorem bq {B : Nat} {w W : World} (h : Below B w W := by repeat (first | (with_reducible first | exact HB.out | apply below_alloc | apply pw_below_drewN | apply below_drew1 | refine below_set ?_ (Aside0.out (by assumption)) | refine below_set ?_ (IsS149.ge (Aside0.out (by assumption)))) | exact HB.out)) : Below B w W := h
theorem kq {w W : World} {g : Nat} {o : Obj} (h0 : w.heap[g]? = some o) (h : w.heap[g]? = some o → W.heap[g]? = some o := by intro z_; (with_reducible repeat (first | refine blk_drewN ?_ _ | refine blk_drew ?_ | refine blk_alloc ?_ _)); exact z_) : W.heap[g]? = some o := h h0
theorem rq {α : Type} {d : Kd α} {e : Nat} {w W : World} {base : Nat} {ok : Nat → Prop} {v : Value} {xs : List α} (h0 : Kd.R d e w base ok v xs) (h : Kd.R d e w base ok v xs → Kd.R d e W base ok v xs := by intro z_; (with_reducible repeat (first | apply Kd.R_alloc | apply Kd.R_drewN | apply Kd.R_drew)); exact z_) : Kd.R d e W base ok v xs := h h0
theorem cq {α : Type} {d : Kd α} {w W : World} {A : Option Addr} {n : Nat} {xs : List α} (h0 : Kd.C d w A n xs) (h : Kd.C d w A n xs → Kd.C d W A n xs := by intro z_; repeat (first | exact z_ | (with_reducible refine Kd.C_alloc ?_ _) | (with_reducible refine Kd.C_drewN ?_ _) | (with_reducible refine Kd.C_drew ?_))) : Kd.C d W A n xs := h h0
theorem mq {α : Type} {a b : α} (h : a = b := by first | done | rfl | (simp only [List.map_toArray, List.map_cons, List.map_nil]; first | done | rfl | (simp only [List.length_drop, List.length_take]; rfl)) | (simp only [List.length_drop, List.length_take]; rfl)) : a = b := h
abbrev nS {α : Type} (A : Option Addr) (l : List α) (c k : Nat) : Prop := some k ≠ (Value.slice A l.length c).ownBlock
abbrev nb (v : Value) (k : Nat) : Prop := some k ≠ v.ownBlock
theorem jq {p q : Nat → Prop} (h : ∀ k, p k → q k := by intro k hk; (try dsimp only [nS, nb] at hk ⊢); first | exact hk | (simp only [hk, ne_eq, not_false_eq_true, and_self, true_and, and_true]; done) | (and_intros <;> first | (simp only [hk, ne_eq, not_false_eq_true]; done) | (simp [Value.ownBlock]; done))) : ∀ k, p k → q k := h
theorem kr {α : Type} {a b : α} (h : a = b := by kernel_rfl) : a = b := h
theorem pp {P : Program} {ops : Array Oper} {Q : Exit → Act → World → Prop} {md : Region.Mode} {S : World → Prop} {ds : List Nat} {T : Bool × List (List Nat × List Nat)} {N : Option Tmp} {oi : Oper} {v : Value} {fuel : Nat} {l : Array Bool} {a : Act} {w : World} {a' : Act} (hT : Aside0 (rtab md ops = T)) (i : Nat) (l' : Array Bool) (h : wpAnyLast P md ops Q S ds fuel l' a' w)
  (hi : ops[i]? = some oi := by rfl) (hN : oi.dst = N := by rfl) (hc : anyT T l.toList l'.toList i = true := by kernel_rfl) (hQ : ∀ c a w, Q (.panic c) (a.put oi.dst v) w → Q (.panic c) a w := by exact fun _ _ _ h => h) (hy : Yields P ops oi v a := by exact Or.inl ⟨by rfl, by intro w'; go_simp; with_reducible rfl⟩) (ha : a.put N v = a' := by simp only [Act.put, pa, pb, pc, i64_w, i32_w]; rfl) :
  wpAnyLast P md ops Q S ds (fuel + 1) l a w := pure_ l' hi hN (any_of hT.out hc) hQ hy ha h
theorem fq {w W : World} {g : Nat} {t : TypeId} {cs cs' : Array Value} (h0 : w.heap[g]? = some (.cells cs t (0, 0))) (h : w.heap[g]? = some (.cells cs t (0, 0)) → W.heap[g]? = some (.cells cs' t (0, 0)) := by intro z_; repeat (first | (with_reducible exact z_) | (with_reducible refine blk_drewN ?_ _) | (with_reducible refine blk_drew ?_) | (with_reducible refine blk_alloc ?_ _) | (with_reducible refine blk_far ?_ (Aside0.out (by assumption)) _) | (focus ((with_reducible apply blk_far); (case hp => exact Aside0.out (by assumption)))) | (with_reducible apply blk_put) | (simp only [pa, pb, pc]; done) | (simp only [pa, pb, pc]; rfl))) : W.heap[g]? = some (.cells cs' t (0, 0)) := h h0
theorem rf {α : Type} {d : Kd α} {e : Nat} {w W : World} {base : Nat} {ok : Nat → Prop} {v : Value} {xs : List α} (h0 : Kd.R d e w base ok v xs) (h : Kd.R d e w base ok v xs → Kd.R d e W base ok v xs := by intro z_; repeat (first | (with_reducible exact z_) | (with_reducible apply Kd.R_alloc) | (with_reducible apply Kd.R_drewN) | (with_reducible apply Kd.R_drew) | (with_reducible refine Kd.R_far ?_ (by first | exact fun _ hk => hk.2 | exact fun _ hk => hk.1.2 | exact fun _ hk => hk.1.1.2 | exact fun _ hk => hk.1.1.1.2) _))) : Kd.R d e W base ok v xs := h h0
theorem ew {α : Type} {a b : α} (h : a = b := by first | rfl | (simp [errW_none, errW_some] <;> rfl) | (simp [*, errW_none, errW_some] <;> rfl)) : a = b := h
theorem ex {α : Type} {a b : α} (h : a = b := by first | rfl | (simp; done) | (simp [*]; done)) : a = b := h
theorem hq {w W : World} {g : Nat} {row : Option Nat} (h : KeepBut w W g row := by repeat (first | (with_reducible first | exact HK.out | apply KeepBut.set_ | apply keep_drewN | apply keep_drew | apply keep_alloc | refine keep_far ?_ (Aside0.out (by assumption)) _) | exact HK.out)) : KeepBut w W g row := h
set_option simprocs false in
theorem bz {p q : Prop} (h0 : p) (h : p → q := by intro z_; (try dsimp only at z_); exact z_) : q := h h0
theorem bo {α β : Type} {o : Option α} {f : α → Option β} {r : β} (h : o.bind f = some r) : ∃ a, Aside0 (o = some a) ∧ f a = some r := by
 obtain ⟨a, h1, h2⟩ := Option.bind_eq_some_iff.mp h
 exact ⟨a, Aside0.mk h1, h2⟩
theorem hl {p q r : Prop} (hy : r) (H : p) (h : r → p → q := by intro hy_ H_; first | (rw [hy_]; with_reducible exact H_) | (have H2_ := (Option.bind_some _ _).symm.trans H_; rw [hy_]; with_reducible exact H2_) | (have H2_ := (Option.bind_some _ _).symm.trans H_; with_reducible exact H2_) | with_reducible exact H_ | (rw [hy_]; exact H_) | exact H_) : q := h hy H
theorem nn {P : Program} {ops : Array Oper} {Q : Exit → Act → World → Prop} {md : Region.Mode} {S : World → Prop} {ds : List Nat} {fuel : Nat} {l : Array Bool} {a a' : Act} {w : World} (h : wpAnyLast P md ops Q S ds fuel l a' w) (ha : a = a' := by (show Act.put _ (some _) _ = _); simp only [Act.put, pa, pb, pc, i64_w, i32_w]; rfl) : wpAnyLast P md ops Q S ds fuel l a w := norm_ ha h
theorem oo {P : Program} {ops : Array Oper} {Q : Exit → Act → World → Prop} {md : Region.Mode} {S : World → Prop} {ds : List Nat} {T : Bool × List (List Nat × List Nat)} {N : Option Tmp} {oi : Oper} {fuel : Nat} {l : Array Bool} {a : Act} {w : World} (hT : Aside0 (rtab md ops = T)) (i : Nat) (l' : Array Bool)
  (h : ∀ K : Act → World → Prop, Shut (∀ a' w', S w' → (S w' → wpAnyLast P md ops Q S ds fuel l' a' w') → K a' w') → if Region.wanted oi (yielded ops a.tmps) = true then Oper.wp P oi a w K Q else K (a.put N undef) w)
  (hi : ops[i]? = some oi := by rfl) (hN : oi.dst = N := by rfl) (hc : (readyT T.2 l.toList == [i] && l.toList.set i true == l'.toList) = true := by kernel_rfl) (hd : i ∉ ds := by decide) : wpAnyLast P md ops Q S ds (fuel + 1) l a w := one_ l' hi hN (one_of hT.out hc) hd h
theorem tt {P : Program} {ops : Array Oper} {Q : Exit → Act → World → Prop} {md : Region.Mode} {S : World → Prop} {ds : List Nat} {T : Bool × List (List Nat × List Nat)} {B : List Nat} {N : Option Tmp} {oi : Oper} {v : Value} {fuel : Nat} {l : Array Bool} {a : Act} {w : World} {a' : Act} (hT : Aside0 (rtab md ops = T)) (hB : Aside0 (waitsOk T.2 B = true)) (i : Nat) (l' : Array Bool) (hS : S w) (h : wpAnyLast P md ops Q S ds fuel l' a' w)
  (hi : ops[i]? = some oi := by rfl) (hN : oi.dst = N := by rfl) (hc : takeW T B ds l.toList l'.toList i = true := by kernel_rfl) (hQ : ∀ c a w, Q (.panic c) (a.put oi.dst v) w → Q (.panic c) a w := by exact fun _ _ _ h => h) (hw : Region.wanted oi (yielded ops a.tmps) = true := by rfl) (hy : ∀ w', S w' → (execOp a.eval oi).run P w' = .ok (.value v) w') (ha : a.put N v = a' := by simp only [Act.put, pa, pb, pc, i64_w, i32_w]; rfl) :
  wpAnyLast P md ops Q S ds (fuel + 1) l a w := take_ l' hi hN (take_ofW hT.out hB.out hc) hQ (Or.inl ⟨hw, hy⟩) hS ha h
theorem cc {w : World} {g i : Nat} {o : Option Value} (h : w.cell? ⟨g, i, none⟩ = o := by exact (blk_cell (Aside0.out (by assumption)) _).trans rfl) : w.cell? ⟨g, i, none⟩ = o := h
theorem lf {w W : World} {a : Addr} {o : Option Value} (h0 : w.cell? a = o) (h : w.cell? a = o → W.cell? a = o := by intro z_; repeat (first | (with_reducible exact z_) | (with_reducible refine (cell_far (Aside0.out (by assumption)) _).trans ?_))) : W.cell? a = o := h h0
theorem sq {p q : Prop} (h0 : p) (h : p → q := by intro z_; repeat (first | (with_reducible first | exact z_ | apply IsS149.alloc | apply IsS149.drew | apply IsS149.drewN | refine IsS149.far ?_ (Aside0.out (by assumption)) _ | apply IsS149.set_1) | exact z_)) : q := h h0
theorem vq {α : Type} {d : Kd α} {e : Nat} {w W : World} {base : Nat} {ok : Nat → Prop} {v : Value} {xs : List α} (h0 : Kd.V d e w base ok v xs) (h : Kd.V d e w base ok v xs → Kd.V d e W base ok v xs := by intro z_; (with_reducible repeat (first | apply Kd.V_alloc | apply Kd.V_drewN | apply Kd.V_drew)); exact z_) : Kd.V d e W base ok v xs := h h0
theorem nq {α : Type} {d : Kd α} {e : Nat} {w W : World} {base : Nat} {ok : Nat → Prop} {v : Value} {xs : List α} (h0 : Kd.N d e w base ok v xs) (h : Kd.N d e w base ok v xs → Kd.N d e W base ok v xs := by intro z_; (with_reducible repeat (first | apply Kd.N_alloc | apply Kd.N_drewN | apply Kd.N_drew)); exact z_) : Kd.N d e W base ok v xs := h h0
theorem oq {α : Type} {d : Kd α} {e : Nat} {w W : World} {base : Nat} {ok : Nat → Prop} {v : Value} {xs : List α} (h0 : Kd.Q d e w base ok v xs) (h : Kd.Q d e w base ok v xs → Kd.Q d e W base ok v xs := by intro z_; (with_reducible repeat (first | apply Kd.Q_alloc | apply Kd.Q_drewN | apply Kd.Q_drew)); exact z_) : Kd.Q d e W base ok v xs := h h0
structure FnOKp (g : Nat) (lb : Array Value) (p : Int → Bool) (w : World) : Prop where
 en : ∀ args w, (callFunc g args).run Try.prog w = .ok (.enter g args) w
 ok : ∀ W, Below w.heap.size w W → ∀ x, Calls Try.prog g (#[.int .i64 x] ++ lb) W fun e w' => e = .returned (.bool (p x)) ∧ Drawn0 W w'
theorem FnOKp.later {g : Nat} {lb : Array Value} {p : Int → Bool} {w W : World} (h : FnOKp g lb p w) (hb : Below w.heap.size w W) : FnOKp g lb p W :=
 ⟨h.en, fun W' hb' x => h.ok W' (hb.trans (hb'.mono hb.size)) x⟩
structure FnOK2 (g : Nat) (lb : Array Value) (S : Int → Int → Option (Int × Int)) (w : World) : Prop where
 en : ∀ args w, (callFunc g args).run Try.prog w = .ok (.enter g args) w
 ok : ∀ W, Below w.heap.size w W → ∀ a b r1 r2, S a b = some (r1, r2) → Calls Try.prog g (#[.int .i64 a, .int .i64 b] ++ lb) W fun e w' => e = .returned (.tuple #[.int .i64 r1, .int .i64 r2]) ∧ Below W.heap.size W w'
theorem FnOK2.later {g : Nat} {lb : Array Value} {S : Int → Int → Option (Int × Int)} {w W : World} (h : FnOK2 g lb S w) (hb : Below w.heap.size w W) : FnOK2 g lb S W :=
 ⟨h.en, fun W' hb' => h.ok W' (hb.trans (hb'.mono hb.size))⟩
theorem FnOK2.calls {g : Nat} {lb : Array Value} {S : Int → Int → Option (Int × Int)} {w W : World} (h : FnOK2 g lb S w) (hb : Below w.heap.size w W) (a b r1 r2 : Int) (e : S a b = some (r1, r2)) :
  Calls Try.prog g (#[.int .i64 a, .int .i64 b] ++ lb) W fun e w' => e = .returned (.tuple #[.int .i64 r1, .int .i64 r2]) ∧ Below W.heap.size W w' := h.ok W hb a b r1 r2 e
structure FnOK3 (g : Nat) (lb : Array Value) (S : Int → Int → Int → Option (Int × Int)) (w : World) : Prop where
 en : ∀ args w, (callFunc g args).run Try.prog w = .ok (.enter g args) w
 ok : ∀ W, Below w.heap.size w W → ∀ a b c r1 r2, S a b c = some (r1, r2) → Calls Try.prog g (#[.int .i64 a, .int .i64 b, .int .i64 c] ++ lb) W fun e w' => e = .returned (.tuple #[.int .i64 r1, .int .i64 r2]) ∧ Below W.heap.size W w'
theorem FnOK3.later {g : Nat} {lb : Array Value} {S : Int → Int → Int → Option (Int × Int)} {w W : World} (h : FnOK3 g lb S w) (hb : Below w.heap.size w W) : FnOK3 g lb S W :=
 ⟨h.en, fun W' hb' => h.ok W' (hb.trans (hb'.mono hb.size))⟩
theorem FnOK3.calls {g : Nat} {lb : Array Value} {S : Int → Int → Int → Option (Int × Int)} {w W : World} (h : FnOK3 g lb S w) (hb : Below w.heap.size w W) (a b c r1 r2 : Int) (e : S a b c = some (r1, r2)) :
  Calls Try.prog g (#[.int .i64 a, .int .i64 b, .int .i64 c] ++ lb) W fun e w' => e = .returned (.tuple #[.int .i64 r1, .int .i64 r2]) ∧ Below W.heap.size W w' := h.ok W hb a b c r1 r2 e
structure FnOK4 (g : Nat) (lb : Array Value) (S : Int → Int → Int → Int → Option (Int × Int)) (w : World) : Prop where
 en : ∀ args w, (callFunc g args).run Try.prog w = .ok (.enter g args) w
 ok : ∀ W, Below w.heap.size w W → ∀ a b c d r1 r2, S a b c d = some (r1, r2) → Calls Try.prog g (#[.int .i64 a, .int .i64 b, .int .i64 c, .int .i64 d] ++ lb) W fun e w' => e = .returned (.tuple #[.int .i64 r1, .int .i64 r2]) ∧ Below W.heap.size W w'
theorem FnOK4.later {g : Nat} {lb : Array Value} {S : Int → Int → Int → Int → Option (Int × Int)} {w W : World} (h : FnOK4 g lb S w) (hb : Below w.heap.size w W) : FnOK4 g lb S W :=
 ⟨h.en, fun W' hb' => h.ok W' (hb.trans (hb'.mono hb.size))⟩
theorem FnOK4.calls {g : Nat} {lb : Array Value} {S : Int → Int → Int → Int → Option (Int × Int)} {w W : World} (h : FnOK4 g lb S w) (hb : Below w.heap.size w W) (a b c d r1 r2 : Int) (e : S a b c d = some (r1, r2)) :
  Calls Try.prog g (#[.int .i64 a, .int .i64 b, .int .i64 c, .int .i64 d] ++ lb) W fun e w' => e = .returned (.tuple #[.int .i64 r1, .int .i64 r2]) ∧ Below W.heap.size W w' := h.ok W hb a b c d r1 r2 e
/-- A call of a function value, in a region that draws its order. -/
theorem goesV_ {P : Program} {ops : Array Oper} {Q : Exit → Act → World → Prop} {oi : Oper} {N : Option Tmp} {a : Act} {w : World} {K : Act → World → Prop} {g : FuncId} {lb : Array Value} {o : Operand} {asx : Array Operand} {ts : Array TypeId} (he : ∀ args w, (callFunc g args).run P w = .ok (.enter g args) w) (args : Array Value)
  (hw : Region.wanted oi (yielded ops a.tmps) = true) (hN : oi.dst = N) (hop : oi.op = .call { callee := .value o, args := asx, argTypes := ts }) (hev : a.eval o = .func (.func g) #[] lb) (hargs : asx.map a.eval = args)
  (h : Calls P g (args ++ lb) w fun e w' => ∃ v, e = .returned v ∧ K (a.put N v) w') : if Region.wanted oi (yielded ops a.tmps) = true then Oper.wp P oi a w K Q else K (a.put N undef) w := by
 refine call_ g (args ++ lb) hw hN ?_ h
 unfold execOp
 simp [hop, resolve, Deferred.ofValue, invoke, hev, hargs, he]
theorem cell_drew_set {w : World} {p q : Addr} {v : Value} {r : Option Value} (h : (w.setCell p v).cell? q = r) (m : Nat) : ((w.drewN m).setCell p v).cell? q = r := h
theorem frozen_set {w : World} {p q : Addr} {v : Value} {b : Bool} (h : (w.setCell p v).frozen? q = b) : w.frozen? q = b := (World.frozen?_setCell _ _ _ _).symm.trans h
theorem info2 : (Try.prog.info? 2).map (fun i => (i.zero, i.size, i.bytes)) = some (some (.int .i64 0), 1, 8) := by kernel_rfl
theorem info22 : (Try.prog.info? 22).map (fun i => (i.zero, i.size, i.bytes)) = some (some (.slice none 0 0), 1, 24) := by kernel_rfl
def rd_L1 (xs : List (List Int)) (i : Int) : (List Int) := xs.getD i.toNat ([] : List Int)
theorem at_L1 {w : World} {A : Option Addr} {n : Nat} {xs : List (List Int)} (h : Kd.C (Kd.slice 2 (Kd.int .i64)) w A n xs) (i : Int) (h0 : 0 ≤ i) (h1 : i < n) : ∃ ad A0 c0, A = some ad ∧ w.cell? (ad.add i.toNat) = some (.slice A0 (rd_L1 xs i).length c0) ∧ (rd_L1 xs i).length ≤ c0 ∧ (Kd.int .i64).C w A0 (rd_L1 xs i).length (rd_L1 xs i) := by
 obtain ⟨ad, c, e, _, hK, hc0⟩ := Kd.C_get h ([] : List Int) i h0 h1
 have hc : ∀ j u, c[j]? = some u → w.cell? (ad.add (i.toNat * 1 + j)) = some u := hc0
 obtain ⟨A0, c0, rfl, l0, g0⟩ := hK
 exact ⟨ad, A0, c0, e, by have hq := hc 0 _ rfl; rwa [Nat.mul_one, Nat.add_zero] at hq, l0, g0⟩
theorem dt {p : Prop} [Decidable p] (h : decide p = true := by first | (with_reducible assumption) | assumption) : p := of_decide_eq_true h
theorem dr {w W : World} (h : Drawn0 w W := by repeat (first | exact Drawn0.refl _ | apply Drawn0.step)) : Drawn0 w W := h
theorem rn {p : Prop} (h : p := by first | exact Kd.R_nil _ _ _ _ _ | exact Kd.N_nil _ _ _ _ _ | exact Kd.V_nil _ _ _ _ _ | exact Kd.Q_nil _ _ _ _ _ | exact Kd.S_nil _ _ _ _ _) : p := h
theorem dT {p : Prop} [Decidable p] (h : p) : decide p = true := decide_eq_true h
theorem dF {p : Prop} [Decidable p] (h : ¬ p) : decide p = false := decide_eq_false h
theorem eT {α : Type} [BEq α] [LawfulBEq α] {a b : α} (h : a = b) : (a == b) = true := beq_iff_eq.mpr h
theorem eF {α : Type} [BEq α] [LawfulBEq α] {a b : α} (h : ¬ a = b) : (a == b) = false := beq_eq_false_iff_ne.mpr h
theorem nT {α : Type} [BEq α] [LawfulBEq α] {a b : α} (h : ¬ a = b) : (a != b) = true := bne_iff_ne.mpr h
theorem nF {α : Type} [BEq α] [LawfulBEq α] {a b : α} (h : a = b) : (a != b) = false := bne_eq_false_iff_eq.mpr h
theorem p1 {P : Program} {ops : Array Oper} {Q : Exit → Act → World → Prop} {md : Region.Mode} {S : World → Prop} {ds : List Nat} {T : Bool × List (List Nat × List Nat)} {oi : Oper} {v : Value} {fuel : Nat} {l : Array Bool} {a : Act} {w : World} {a' : Act} (n : Tmp) (i : Nat) (h : wpAnyLast P md ops Q S ds fuel (l.toList.set i true).toArray a' w) (hT : Aside0 (rtab md ops = T) := by exact HT_)
  (hi : ops[i]? = some oi := by rfl) (hN : oi.dst = some n := by rfl) (hc : anyT T l.toList (l.toList.set i true) i = true := by kernel_rfl) (hQ : ∀ c a w, Q (.panic c) (a.put oi.dst v) w → Q (.panic c) a w := by exact fun _ _ _ h => h) (hy : Yields P ops oi v a := by exact Or.inl ⟨by rfl, by intro w'; go_simp; with_reducible rfl⟩) (ha : a.put (some n) v = a' := by simp only [Act.put, pa, pb, pc, i64_w, i32_w]; rfl) :
  wpAnyLast P md ops Q S ds (fuel + 1) l a w := pp hT i _ h hi hN hc hQ hy ha
theorem p2 {P : Program} {ops : Array Oper} {Q : Exit → Act → World → Prop} {md : Region.Mode} {S : World → Prop} {ds : List Nat} {T : Bool × List (List Nat × List Nat)} {oi : Oper} {fuel : Nat} {l : Array Bool} {a : Act} {w : World} {a' : Act} (n : Tmp) (i : Nat) (h : wpAnyLast P md ops Q S ds fuel (l.toList.set i true).toArray a' w) (hT : Aside0 (rtab md ops = T) := by exact HT_)
  (hi : ops[i]? = some oi := by rfl) (hN : oi.dst = some n := by rfl) (hc : anyT T l.toList (l.toList.set i true) i = true := by kernel_rfl) (hQ : ∀ c a w, Q (.panic c) (a.put oi.dst undef) w → Q (.panic c) a w := by exact fun _ _ _ h => h) (hy : Yields P ops oi undef a := by exact Or.inr ⟨by rfl, rfl⟩) (ha : a.put (some n) undef = a' := by simp only [Act.put, pa, pb, pc, i64_w, i32_w]; rfl) :
  wpAnyLast P md ops Q S ds (fuel + 1) l a w := pp hT i _ h hi hN hc hQ hy ha
theorem o1 {P : Program} {ops : Array Oper} {Q : Exit → Act → World → Prop} {md : Region.Mode} {S : World → Prop} {ds : List Nat} {T : Bool × List (List Nat × List Nat)} {oi : Oper} {fuel : Nat} {l : Array Bool} {a : Act} {w : World} (n : Tmp) (i : Nat)
  (h : ∀ K : Act → World → Prop, Shut (∀ a' w', S w' → (S w' → wpAnyLast P md ops Q S ds fuel (l.toList.set i true).toArray a' w') → K a' w') → if Region.wanted oi (yielded ops a.tmps) = true then Oper.wp P oi a w K Q else K (a.put (some n) undef) w) (hT : Aside0 (rtab md ops = T) := by exact HT_)
  (hi : ops[i]? = some oi := by rfl) (hN : oi.dst = some n := by rfl) (hc : (readyT T.2 l.toList == [i] && l.toList.set i true == l.toList.set i true) = true := by kernel_rfl) (hd : i ∉ ds := by decide) : wpAnyLast P md ops Q S ds (fuel + 1) l a w := oo hT i _ h hi hN hc hd
theorem t1 {P : Program} {ops : Array Oper} {Q : Exit → Act → World → Prop} {md : Region.Mode} {S : World → Prop} {ds : List Nat} {T : Bool × List (List Nat × List Nat)} {B : List Nat} {oi : Oper} {v : Value} {fuel : Nat} {l : Array Bool} {a : Act} {w : World} {a' : Act} (n : Tmp) (i : Nat) (h : wpAnyLast P md ops Q S ds fuel (l.toList.set i true).toArray a' w) (hT : Aside0 (rtab md ops = T) := by exact HT_) (hB : Aside0 (waitsOk T.2 B = true) := by exact HW_) (hS : S w := by exact hHeld)
  (hi : ops[i]? = some oi := by rfl) (hN : oi.dst = some n := by rfl) (hc : takeW T B ds l.toList (l.toList.set i true) i = true := by kernel_rfl) (hQ : ∀ c a w, Q (.panic c) (a.put oi.dst v) w → Q (.panic c) a w := by exact fun _ _ _ h => h) (hw : Region.wanted oi (yielded ops a.tmps) = true := by rfl) (hy : ∀ w', S w' → (execOp a.eval oi).run P w' = .ok (.value v) w') (ha : a.put (some n) v = a' := by simp only [Act.put, pa, pb, pc, i64_w, i32_w]; rfl) :
  wpAnyLast P md ops Q S ds (fuel + 1) l a w := tt hT hB i _ hS h hi hN hc hQ hw hy ha
theorem b2 {w : World} {g : Nat} {t : TypeId} {a b : Value} (h : w.heap[g]? = some (.cells #[a, b] t (0, 0))) : w.cell? ⟨g, 0, none⟩ = some a ∧ w.cell? ⟨g, 1, none⟩ = some b ∧ w.frozen? ⟨g, 0, none⟩ = false ∧ w.frozen? ⟨g, 1, none⟩ = false := ⟨blk_cell h 0, blk_cell h 1, blk_frozen h 0, blk_frozen h 1⟩
theorem b3 {w : World} {g : Nat} {t : TypeId} {a b c : Value} (h : w.heap[g]? = some (.cells #[a, b, c] t (0, 0))) : w.cell? ⟨g, 0, none⟩ = some a ∧ w.cell? ⟨g, 1, none⟩ = some b ∧ w.cell? ⟨g, 2, none⟩ = some c ∧ w.frozen? ⟨g, 0, none⟩ = false ∧ w.frozen? ⟨g, 1, none⟩ = false ∧ w.frozen? ⟨g, 2, none⟩ = false := ⟨blk_cell h 0, blk_cell h 1, blk_cell h 2, blk_frozen h 0, blk_frozen h 1, blk_frozen h 2⟩
theorem b5 {w : World} {g : Nat} {t : TypeId} {a b c d e : Value} (h : w.heap[g]? = some (.cells #[a, b, c, d, e] t (0, 0))) : w.cell? ⟨g, 0, none⟩ = some a ∧ w.cell? ⟨g, 1, none⟩ = some b ∧ w.cell? ⟨g, 2, none⟩ = some c ∧ w.cell? ⟨g, 3, none⟩ = some d ∧ w.cell? ⟨g, 4, none⟩ = some e ∧ w.frozen? ⟨g, 0, none⟩ = false ∧ w.frozen? ⟨g, 1, none⟩ = false ∧ w.frozen? ⟨g, 2, none⟩ = false ∧ w.frozen? ⟨g, 3, none⟩ = false ∧ w.frozen? ⟨g, 4, none⟩ = false :=
 ⟨blk_cell h 0, blk_cell h 1, blk_cell h 2, blk_cell h 3, blk_cell h 4, blk_frozen h 0, blk_frozen h 1, blk_frozen h 2, blk_frozen h 3, blk_frozen h 4⟩
section
variable {P : Program} {ops : Array Oper} {rest : List Oper} {o : Oper} {a : Act} {Q : Exit → Act → World → Prop} {W : World}
theorem bx (N : Tmp) (t : TypeId) (cs : Array Value) (h : ∀ g, g = W.heap.size → ∀ w1, w1.heap[g]? = some (.cells cs t (0, 0)) → Below W.heap.size W w1 → wpList P ops Q rest (a.put o.dst (.pointer (some ⟨g, 0, none⟩))) w1) (hg : o.guard = none := by rfl) (hd : o.dst = some N := by rfl)
  (hr : (execOp a.eval o).run P W = .ok (.value (.pointer (some ⟨W.heap.size, 0, none⟩))) (W.alloc (.cells cs t (0, 0))) := by first | (go_simp; done) | (go_simp; rfl)) : wpList P ops Q (o :: rest) a W := box_event hg hd hr h
theorem gD (N : Tmp) (hN : o.dst = some N) (h : wpList P ops Q (o :: rest) a W) : wpList P ops Q (o :: rest) a W := h
theorem gC (f : FuncId) {az : Array Operand} {ts : Array TypeId} (ho : o.op = .call { callee := .value (.func f), args := az, argTypes := ts }) (h : wpList P ops Q (o :: rest) a W) : wpList P ops Q (o :: rest) a W := h
theorem gl (N : Option Tmp) {f : FuncId} {fn : Func} {az : Array Operand} {ts : Array TypeId} (hf : P.funcs[f]? = some fn) (args : Array Value) (h : Calls P f args W fun e w' => ∃ v, e = .returned v ∧ wpList P ops Q rest (a.put N v) w') (hd : o.dst = N := by rfl) (hg : o.guard = none := by rfl) (hname : (fn.name == "runtime.NumGoroutine") = false := by kernel_rfl) (hb : fn.body.isSome = true := by rfl)
  (hop : o.op = .call { callee := .value (.func f), args := az, argTypes := ts } := by rfl) (hargs : az.map a.eval = args := by first | done | rfl | (simp only [List.map_toArray, List.map_cons, List.map_nil]; first | done | rfl | (simp only [List.length_drop, List.length_take]; rfl)) | (simp only [List.length_drop, List.length_take]; rfl)) : wpList P ops Q (o :: rest) a W := goesL_ N hd hg hf hname hb args hop hargs h
end
theorem ii {v : Value} {p : Value → Prop} (h : p v) : ∃ v', Ending.returned v = .returned v' ∧ p v' := ⟨v, rfl, h⟩
section
variable {α β : Type} {d : Kd α} {d1 : Kd β} {e e1 base b1 g g1 t : Nat} {ok ok1 : Nat → Prop} {w W W1 : World} {u v x y : Value} {xs : List α} {ys : List β} {cs : Array Value} {o : Obj}
theorem tf (h0 : Aside0 (Kd.R d e w base ok v xs)) (hb : Aside0 (w.heap[g]? = some (.cells cs t (0, 0)))) (ht : ∀ q, q ∈ e :: d.E → q ≠ t := by decide) (h : Kd.R d e w base (fun k => ok k ∧ k ≠ g) v xs → Kd.R d e W base (fun k => ok k ∧ k ≠ g) v xs := by intro z_; exact rf z_) : Kd.R d e W base ok v xs := Kd.R_mono (h (Kd.R_types h0.out hb.out ht)) (fun _ h_ => h_.1)
theorem rS (h : Kd.R d e w base ok v xs) : ∃ A c, v = .slice A xs.length c := Kd.R_slice h
theorem zb (h0 : Aside0 (w.heap[g]? = some o)) (hb : Below W.heap.size W W1) (h : w.heap[g]? = some o → W.heap[g]? = some o := by intro z_; exact kq z_) : Aside0 (W1.heap[g]? = some o) := ⟨blk_below (h h0.out) hb⟩
theorem zl (h0 : Aside0 (Kd.R d e w base ok v xs)) (hb : Below W.heap.size W W1) (h : Kd.R d e w base ok v xs → Kd.R d e W base ok v xs := by intro z_; exact rq z_) : Aside0 (Kd.R d e W1 base ok v xs) := ⟨Kd.R_below (h h0.out) hb⟩
theorem zd (h : Aside0 (Kd.R d e w base ok v xs)) : Aside0 (Kd.R d e w.drew base ok v xs) := ⟨Kd.R_drew h.out⟩
theorem zk (h : Aside0 (w.heap[g]? = some o)) : Aside0 (w.drew.heap[g]? = some o) := ⟨blk_drew h.out⟩
theorem zh (h : Kd.R d e W base ok u xs) (h1 : Kd.R d1 e1 W1 W.heap.size ok1 v ys) (hb : Below W.heap.size W W1) : Aside0 (Kd.R d e W1 base (fun k => ok k ∧ some k ≠ v.ownBlock) u xs) := ⟨Kd.R_elder' h (Kd.R_base h1) hb⟩
theorem z1 (h : Kd.R d e W base ok u xs) (hb : Below W.heap.size W W1) (h1 : Kd.R d1 e1 W1 W.heap.size ok1 v ys) : Aside0 (Kd.R d e W1 base (fun k => ok k ∧ some k ≠ v.ownBlock) u xs) := ⟨Kd.R_mono (Kd.R_told (Kd.R_old h hb) (Kd.R_base h1)) (fun _ h_ => h_.1)⟩
theorem z2 {γ : Type} {d2 : Kd γ} {e2 : Nat} {ok2 : Nat → Prop} {zs : List γ} (h : Kd.R d e W base ok u xs) (hb : Below W.heap.size W W1) (h1 : Kd.R d1 e1 W1 W.heap.size ok1 v ys) (h2 : Kd.R d2 e2 W1 W.heap.size ok2 x zs) : Aside0 (Kd.R d e W1 base (fun k => (ok k ∧ some k ≠ v.ownBlock) ∧ some k ≠ x.ownBlock) u xs) := ⟨Kd.R_mono (Kd.R_told (Kd.R_told (Kd.R_old h hb) (Kd.R_base h1)) (Kd.R_base h2)) (fun _ h_ => h_.1)⟩
theorem z3 {γ δ : Type} {d2 : Kd γ} {d3 : Kd δ} {e2 e3 : Nat} {ok2 ok3 : Nat → Prop} {zs : List γ} {qs : List δ} (h : Kd.R d e W base ok u xs) (hb : Below W.heap.size W W1) (h1 : Kd.R d1 e1 W1 W.heap.size ok1 v ys) (h2 : Kd.R d2 e2 W1 W.heap.size ok2 x zs) (h3 : Kd.R d3 e3 W1 W.heap.size ok3 y qs) : Aside0 (Kd.R d e W1 base (fun k => ((ok k ∧ some k ≠ v.ownBlock) ∧ some k ≠ x.ownBlock) ∧ some k ≠ y.ownBlock) u xs) :=
 ⟨Kd.R_mono (Kd.R_told (Kd.R_told (Kd.R_told (Kd.R_old h hb) (Kd.R_base h1)) (Kd.R_base h2)) (Kd.R_base h3)) (fun _ h_ => h_.1)⟩
theorem wq (h : Kd.R d e W1 W.heap.size ok v xs) (h1 : Aside0 (Kd.R d1 e1 w b1 ok1 u ys)) (h2 : Kd.R d1 e1 w b1 ok1 u ys → Kd.R d1 e1 W b1 ok1 u ys := by intro z_; exact rq z_) : Kd.R d e W1 W.heap.size (fun k => ok k ∧ some k ≠ u.ownBlock) v xs := Kd.R_new' h (Kd.R_lt (h2 h1.out))
theorem gw (w : World) (hg : g = W.heap.size) (h : Below w.heap.size w W := by exact bq) : Aside0 (w.heap.size ≤ g) := ⟨by rw [hg]; exact below_size h⟩
theorem gk (w : World) (g1 : Nat) (hg : g = W.heap.size) (h : KeepBut w W g1 none := by exact hq) : Aside0 (w.heap.size ≤ g) := ⟨by rw [hg]; exact h.1⟩
theorem ks (w : World) (g : Nat) (h : KeepBut w W g none := by exact hq) : w.heap.size ≤ W.heap.size := h.1
theorem nl (h0 : Aside0 (w.heap[g]? = some o)) (hg : g1 = W.heap.size) (h : w.heap[g]? = some o → W.heap[g]? = some o := by intro z_; exact kq z_) : Aside0 (g ≠ g1) := ⟨by rw [hg]; exact Nat.ne_of_lt (blk_lt (h h0.out))⟩
theorem kt (w : World) (hk : KeepBut W W1 g none) (h : KeepBut w W g none := by exact hq) : Aside0 (KeepBut w W1 g none) := ⟨KeepBut.trans h hk (.inl rfl)⟩
theorem ku (w : World) (g : Nat) (hb : Below W.heap.size W W1) (h : KeepBut w W g none := by exact hq) : Aside0 (KeepBut w W1 g none) := ⟨KeepBut.trans h (KeepBut.of_below hb g none) (.inl rfl)⟩
theorem zs (h0 : Aside0 (w.heap[g1]? = some o)) (hk : KeepBut W W1 g none) (hn : Aside0 (g1 ≠ g)) (h : w.heap[g1]? = some o → W.heap[g1]? = some o := by intro z_; exact kq z_) : Aside0 (W1.heap[g1]? = some o) := ⟨KeepBut.blk hk (h h0.out) hn.out (by simp)⟩
end
end Go.Proofs.Ytmhnpogjkbmmnaa.PFnStates
