-- Written by a program of this session: wip/mkprint.py over the kit's print, with contracts proved by hand (wip/given.py)
import Derived.Test.YthinfihnnjnmfaaProg
import Derived.Below
import Derived.Deep.Draws
import Derived.Deep.AppendLies
import Derived.Maps.AppendAt
import Derived.OwnWalk
import Derived.Laws.BytesArg
import Derived.Laws.MakeOwn
import Derived.Laws.OwnMore
import Derived.Deep.OwnRows
import Derived.Tactics
import Derived.Lib.ConvBytes
import Derived.Laws.Slices
import Derived.WalkKit
import Derived.KernelRfl
import Derived.RowKit3
import Derived.Deep.LoopGhost
import Derived.Deep.QuietTactic
import Derived.BigQuiet
import Derived.WideLaws
import Derived.Deep.DeepCutAuto
import Derived.Deep.CutBlock
import Derived.Deep.RegionHeld3
import Derived.Laws.Rows
import Derived.Lib.AppendStr
import Derived.ArgAppend
import Derived.Laws.IdiomCopy
import Derived.OrdersHeld
import Derived.Laws.BitsLemmas
import Derived.RowKit
import Derived.Lib.SliceRun
import Derived.Laws.EntriesVeiled
import Derived.Lib.Strings
import Derived.Lib.Slices
import Derived.Lib.Small
import Derived.Lib.Walk
import Derived.Lib.BitFns
import Derived.Test.YthinfihnnjnmfaaWWords
import Derived.Test.YthinfihnnjnmfaaWLast
import Derived.Test.YthinfihnnjnmfaaWTab
import Derived.Test.YthinfihnnjnmfaaWFour
import Derived.Test.YthinfihnnjnmfaaWQPut
import Derived.Test.YthinfihnnjnmfaaWApart
import Derived.Test.YthinfihnnjnmfaaWArr
import Derived.Test.YthinfihnnjnmfaaWZeros
import Derived.Test.YthinfihnnjnmfaaWFoot
import Derived.Test.YthinfihnnjnmfaaWKept
import Derived.Test.YthinfihnnjnmfaaWShare
import Derived.Test.YthinfihnnjnmfaaWN
import Derived.Test.YthinfihnnjnmfaaWFootNe
import Derived.Test.YthinfihnnjnmfaaWAt
import Derived.Test.YthinfihnnjnmfaaWEqStruct
import Derived.Test.YthinfihnnjnmfaaWRepsOne
import Derived.Test.YthinfihnnjnmfaaWInv
import Derived.Test.YthinfihnnjnmfaaWInvWords
import Derived.Test.YthinfihnnjnmfaaWGuard
import Derived.Test.YthinfihnnjnmfaaWNEv
import Derived.Test.YthinfihnnjnmfaaWMore
namespace Go.Proofs.Ythinfihnnjnmfaa.PFnPairBounds
open Go.RowKit Go.Proofs.YthinfihnnjnmfaaW.PrintWords Go.Proofs.YthinfihnnjnmfaaW.PrintLast Go.Proofs.YthinfihnnjnmfaaW.PrintMore
attribute [local go_sem] max2_int min2_int max_two min_two max_three min_three max_four min_four   -- for this text's walks alone
set_option linter.unusedVariables false
set_option linter.unusedSimpArgs false



def errW : Option Int → Value
  | none => .nilIface
  | some c => .iface 0 (.int .i64 c)
theorem errW_none : errW none = .nilIface := rfl
theorem errW_some (c : Int) : errW (some c) = .iface 0 (.int .i64 c) := rfl

abbrev Y : Bool := true
abbrev N : Bool := false
theorem pa {α : Type} (xs : List α) (i : Nat) (v : α) : xs.toArray.setIfInBounds i v = (xs.set i v).toArray := List.setIfInBounds_toArray ..
theorem pb {α : Type} (x : α) (l : List α) (b : α) : (x :: l).set 0 b = b :: l := List.set_cons_zero ..
theorem pc {α : Type} (x : α) (l : List α) (n : Nat) (b : α) : (x :: l).set (n + 1) b = x :: l.set n b := List.set_cons_succ ..
/-! function values: what is asked of one that is handed on -/
structure FnOKp (g : Nat) (lb : Array Value) (p : Int → Bool) (w : World) : Prop where
  en : ∀ args w, (callFunc g args).run Try.prog w = .ok (.enter g args) w
  ok : ∀ W, Below w.heap.size w W → ∀ x, Calls Try.prog g (#[.int .i64 x] ++ lb) W fun e w' => e = .returned (.bool (p x)) ∧ Drawn0 W w'
theorem FnOKp.later {g : Nat} {lb : Array Value} {p : Int → Bool} {w W : World} (h : FnOKp g lb p w) (hb : Below w.heap.size w W) : FnOKp g lb p W :=
  ⟨h.en, fun W' hb' x => h.ok W' (hb.trans (hb'.mono hb.size)) x⟩
structure FnOK2 (g : Nat) (lb : Array Value) (S : Int → Int → Option (Int × Int)) (w : World) : Prop where
  en : ∀ args w, (callFunc g args).run Try.prog w = .ok (.enter g args) w
  ok : ∀ W, Below w.heap.size w W → ∀ a b r1 r2, S a b = some (r1, r2) → Calls Try.prog g (#[.int .i64 a, .int .i64 b] ++ lb) W fun e w' => e = .returned (.tuple #[.int .i64 r1, .int .i64 r2]) ∧ Below W.heap.size W w'
theorem FnOK2.later {g : Nat} {lb : Array Value} {S : Int → Int → Option (Int × Int)} {w W : World} (h : FnOK2 g lb S w) (hb : Below w.heap.size w W) : FnOK2 g lb S W :=
  ⟨h.en, fun W' hb' => h.ok W' (hb.trans (hb'.mono hb.size))⟩
theorem FnOK2.calls {g : Nat} {lb : Array Value} {S : Int → Int → Option (Int × Int)} {w W : World} (h : FnOK2 g lb S w) (hb : Below w.heap.size w W) (a b r1 r2 : Int) (e : S a b = some (r1, r2)) :
    Calls Try.prog g (#[.int .i64 a, .int .i64 b] ++ lb) W fun e w' => e = .returned (.tuple #[.int .i64 r1, .int .i64 r2]) ∧ Below W.heap.size W w' := h.ok W hb a b r1 r2 e
structure FnOK3 (g : Nat) (lb : Array Value) (S : Int → Int → Int → Option (Int × Int)) (w : World) : Prop where
  en : ∀ args w, (callFunc g args).run Try.prog w = .ok (.enter g args) w
  ok : ∀ W, Below w.heap.size w W → ∀ a b c r1 r2, S a b c = some (r1, r2) → Calls Try.prog g (#[.int .i64 a, .int .i64 b, .int .i64 c] ++ lb) W fun e w' => e = .returned (.tuple #[.int .i64 r1, .int .i64 r2]) ∧ Below W.heap.size W w'
theorem FnOK3.later {g : Nat} {lb : Array Value} {S : Int → Int → Int → Option (Int × Int)} {w W : World} (h : FnOK3 g lb S w) (hb : Below w.heap.size w W) : FnOK3 g lb S W :=
  ⟨h.en, fun W' hb' => h.ok W' (hb.trans (hb'.mono hb.size))⟩
theorem FnOK3.calls {g : Nat} {lb : Array Value} {S : Int → Int → Int → Option (Int × Int)} {w W : World} (h : FnOK3 g lb S w) (hb : Below w.heap.size w W) (a b c r1 r2 : Int) (e : S a b c = some (r1, r2)) :
    Calls Try.prog g (#[.int .i64 a, .int .i64 b, .int .i64 c] ++ lb) W fun e w' => e = .returned (.tuple #[.int .i64 r1, .int .i64 r2]) ∧ Below W.heap.size W w' := h.ok W hb a b c r1 r2 e
structure FnOK4 (g : Nat) (lb : Array Value) (S : Int → Int → Int → Int → Option (Int × Int)) (w : World) : Prop where
  en : ∀ args w, (callFunc g args).run Try.prog w = .ok (.enter g args) w
  ok : ∀ W, Below w.heap.size w W → ∀ a b c d r1 r2, S a b c d = some (r1, r2) → Calls Try.prog g (#[.int .i64 a, .int .i64 b, .int .i64 c, .int .i64 d] ++ lb) W fun e w' => e = .returned (.tuple #[.int .i64 r1, .int .i64 r2]) ∧ Below W.heap.size W w'
theorem FnOK4.later {g : Nat} {lb : Array Value} {S : Int → Int → Int → Int → Option (Int × Int)} {w W : World} (h : FnOK4 g lb S w) (hb : Below w.heap.size w W) : FnOK4 g lb S W :=
  ⟨h.en, fun W' hb' => h.ok W' (hb.trans (hb'.mono hb.size))⟩
theorem FnOK4.calls {g : Nat} {lb : Array Value} {S : Int → Int → Int → Int → Option (Int × Int)} {w W : World} (h : FnOK4 g lb S w) (hb : Below w.heap.size w W) (a b c d r1 r2 : Int) (e : S a b c d = some (r1, r2)) :
    Calls Try.prog g (#[.int .i64 a, .int .i64 b, .int .i64 c, .int .i64 d] ++ lb) W fun e w' => e = .returned (.tuple #[.int .i64 r1, .int .i64 r2]) ∧ Below W.heap.size W w' := h.ok W hb a b c d r1 r2 e
/-- A call of a function value, in a region that draws its order. -/
theorem goesV_ {P : Program} {ops : Array Oper} {Q : Exit → Act → World → Prop} {oi : Oper} {N : Option Tmp} {a : Act} {w : World} {K : Act → World → Prop} {g : FuncId} {lb : Array Value} {o : Operand} {asx : Array Operand} {ts : Array TypeId} (he : ∀ args w, (callFunc g args).run P w = .ok (.enter g args) w) (args : Array Value)
    (hw : Region.wanted oi (yielded ops a.tmps) = true) (hN : oi.dst = N) (hop : oi.op = .call { callee := .value o, args := asx, argTypes := ts }) (hev : a.eval o = .func (.func g) #[] lb) (hargs : asx.map a.eval = args)
    (h : Calls P g (args ++ lb) w fun e w' => ∃ v, e = .returned v ∧ K (a.put N v) w') : if Region.wanted oi (yielded ops a.tmps) = true then Oper.wp P oi a w K Q else K (a.put N undef) w := by
  refine call_ g (args ++ lb) hw hN ?_ h
  unfold execOp
  simp [hop, resolve, Deferred.ofValue, invoke, hev, hargs, he]
theorem cell_drew_set {w : World} {p q : Addr} {v : Value} {r : Option Value} (h : (w.setCell p v).cell? q = r) (m : Nat) : ((w.drewN m).setCell p v).cell? q = r := h
theorem frozen_set {w : World} {p q : Addr} {v : Value} {b : Bool} (h : (w.setCell p v).frozen? q = b) : w.frozen? q = b := (World.frozen?_setCell _ _ _ _).symm.trans h

theorem info2 : (Try.prog.info? 2).map (fun i => (i.zero, i.size, i.bytes)) = some (some (.int .i64 0), 1, 8) := by kernel_rfl
-- the values' own types

end Go.Proofs.Ythinfihnnjnmfaa.PFnPairBounds
