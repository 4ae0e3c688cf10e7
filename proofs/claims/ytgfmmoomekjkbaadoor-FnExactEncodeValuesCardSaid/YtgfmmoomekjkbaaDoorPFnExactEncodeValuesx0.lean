-- Written by a program of this session: wip/mkprint.py over the kit's print, with contracts proved by hand (wip/given.py)
import Derived.Test.YtgfmmoomekjkbaaDoorProg
import Derived.Below
import Derived.Deep.Draws
import Derived.Deep.AppendLies
import Derived.Maps.AppendAt
import Derived.OwnWalk
import Derived.Laws.BytesArg
import Derived.Laws.MakeOwn
import Derived.Laws.OwnMore
import Derived.Deep.OwnRows
import Derived.Tactics
import Derived.Lib.ConvBytes
import Derived.Laws.Slices
import Derived.WalkKit
import Derived.KernelRfl
import Derived.RowKit3
import Derived.Deep.LoopGhost
import Derived.Deep.QuietTactic
import Derived.BigQuiet
import Derived.WideLaws
import Derived.Deep.DeepCutAuto
import Derived.Deep.CutBlock
import Derived.Deep.RegionHeld3
import Derived.Laws.Rows
import Derived.Lib.AppendStr
import Derived.ArgAppend
import Derived.Laws.IdiomCopy
import Derived.OrdersHeld
import Derived.Laws.BitsLemmas
import Derived.RowKit
import Derived.Lib.SliceRun
import Derived.Laws.EntriesVeiled
import Derived.Lib.Strings
import Derived.Lib.Slices
import Derived.Lib.Small
import Derived.Lib.Walk
import Derived.Lib.BitFns
import Derived.Test.YtgfmmoomekjkbaaDoorLen64
import Derived.Test.YtgfmmoomekjkbaaDoorWWords
import Derived.Test.YtgfmmoomekjkbaaDoorWLast
import Derived.Test.YtgfmmoomekjkbaaDoorWTab
import Derived.Test.YtgfmmoomekjkbaaDoorWFour
import Derived.Test.YtgfmmoomekjkbaaDoorWQPut
import Derived.Test.YtgfmmoomekjkbaaDoorWApart
import Derived.Test.YtgfmmoomekjkbaaDoorWArr
import Derived.Test.YtgfmmoomekjkbaaDoorWZeros
import Derived.Test.YtgfmmoomekjkbaaDoorWFoot
import Derived.Test.YtgfmmoomekjkbaaDoorWKept
import Derived.Test.YtgfmmoomekjkbaaDoorWShare
import Derived.Test.YtgfmmoomekjkbaaDoorWN
import Derived.Test.YtgfmmoomekjkbaaDoorWFootNe
import Derived.Test.YtgfmmoomekjkbaaDoorWAt
import Derived.Test.YtgfmmoomekjkbaaDoorWEqStruct
import Derived.Test.YtgfmmoomekjkbaaDoorWRepsOne
import Derived.Test.YtgfmmoomekjkbaaDoorWInv
import Derived.Test.YtgfmmoomekjkbaaDoorWInvWords
import Derived.Test.YtgfmmoomekjkbaaDoorWGuard
import Derived.Test.YtgfmmoomekjkbaaDoorWNEv
import Derived.Test.YtgfmmoomekjkbaaDoorWMore
namespace Go.Proofs.YtgfmmoomekjkbaaDoor.PFnExactEncodeValues
open Go.RowKit Go.Proofs.YtgfmmoomekjkbaaDoorW.PrintWords Go.Proofs.YtgfmmoomekjkbaaDoorW.PrintLast Go.Proofs.YtgfmmoomekjkbaaDoorW.PrintMore
attribute [local go_sem] max2_int min2_int max_two min_two max_three min_three max_four min_four   -- for this text's walks alone
set_option linter.unusedVariables false
set_option linter.unusedSimpArgs false



def errW : Option Int → Value
  | none => .nilIface
  | some c => .iface 0 (.int .i64 c)
theorem errW_none : errW none = .nilIface := rfl
theorem errW_some (c : Int) : errW (some c) = .iface 0 (.int .i64 c) := rfl

abbrev Y : Bool := true
abbrev N : Bool := false
theorem pa {α : Type} (xs : List α) (i : Nat) (v : α) : xs.toArray.setIfInBounds i v = (xs.set i v).toArray := List.setIfInBounds_toArray ..
theorem pb {α : Type} (x : α) (l : List α) (b : α) : (x :: l).set 0 b = b :: l := List.set_cons_zero ..
theorem pc {α : Type} (x : α) (l : List α) (n : Nat) (b : α) : (x :: l).set (n + 1) b = x :: l.set n b := List.set_cons_succ ..
/-! function values: what is asked of one that is handed on -/
structure FnOKp (g : Nat) (lb : Array Value) (p : Int → Bool) (w : World) : Prop where
  en : ∀ args w, (callFunc g args).run Tryd.prog w = .ok (.enter g args) w
  ok : ∀ W, Below w.heap.size w W → ∀ x, Calls Tryd.prog g (#[.int .i64 x] ++ lb) W fun e w' => e = .returned (.bool (p x)) ∧ Drawn0 W w'
theorem FnOKp.later {g : Nat} {lb : Array Value} {p : Int → Bool} {w W : World} (h : FnOKp g lb p w) (hb : Below w.heap.size w W) : FnOKp g lb p W :=
  ⟨h.en, fun W' hb' x => h.ok W' (hb.trans (hb'.mono hb.size)) x⟩
structure FnOK2 (g : Nat) (lb : Array Value) (S : Int → Int → Option (Int × Int)) (w : World) : Prop where
  en : ∀ args w, (callFunc g args).run Tryd.prog w = .ok (.enter g args) w
  ok : ∀ W, Below w.heap.size w W → ∀ a b r1 r2, S a b = some (r1, r2) → Calls Tryd.prog g (#[.int .i64 a, .int .i64 b] ++ lb) W fun e w' => e = .returned (.tuple #[.int .i64 r1, .int .i64 r2]) ∧ Below W.heap.size W w'
theorem FnOK2.later {g : Nat} {lb : Array Value} {S : Int → Int → Option (Int × Int)} {w W : World} (h : FnOK2 g lb S w) (hb : Below w.heap.size w W) : FnOK2 g lb S W :=
  ⟨h.en, fun W' hb' => h.ok W' (hb.trans (hb'.mono hb.size))⟩
theorem FnOK2.calls {g : Nat} {lb : Array Value} {S : Int → Int → Option (Int × Int)} {w W : World} (h : FnOK2 g lb S w) (hb : Below w.heap.size w W) (a b r1 r2 : Int) (e : S a b = some (r1, r2)) :
    Calls Tryd.prog g (#[.int .i64 a, .int .i64 b] ++ lb) W fun e w' => e = .returned (.tuple #[.int .i64 r1, .int .i64 r2]) ∧ Below W.heap.size W w' := h.ok W hb a b r1 r2 e
structure FnOK3 (g : Nat) (lb : Array Value) (S : Int → Int → Int → Option (Int × Int)) (w : World) : Prop where
  en : ∀ args w, (callFunc g args).run Tryd.prog w = .ok (.enter g args) w
  ok : ∀ W, Below w.heap.size w W → ∀ a b c r1 r2, S a b c = some (r1, r2) → Calls Tryd.prog g (#[.int .i64 a, .int .i64 b, .int .i64 c] ++ lb) W fun e w' => e = .returned (.tuple #[.int .i64 r1, .int .i64 r2]) ∧ Below W.heap.size W w'
theorem FnOK3.later {g : Nat} {lb : Array Value} {S : Int → Int → Int → Option (Int × Int)} {w W : World} (h : FnOK3 g lb S w) (hb : Below w.heap.size w W) : FnOK3 g lb S W :=
  ⟨h.en, fun W' hb' => h.ok W' (hb.trans (hb'.mono hb.size))⟩
theorem FnOK3.calls {g : Nat} {lb : Array Value} {S : Int → Int → Int → Option (Int × Int)} {w W : World} (h : FnOK3 g lb S w) (hb : Below w.heap.size w W) (a b c r1 r2 : Int) (e : S a b c = some (r1, r2)) :
    Calls Tryd.prog g (#[.int .i64 a, .int .i64 b, .int .i64 c] ++ lb) W fun e w' => e = .returned (.tuple #[.int .i64 r1, .int .i64 r2]) ∧ Below W.heap.size W w' := h.ok W hb a b c r1 r2 e
structure FnOK4 (g : Nat) (lb : Array Value) (S : Int → Int → Int → Int → Option (Int × Int)) (w : World) : Prop where
  en : ∀ args w, (callFunc g args).run Tryd.prog w = .ok (.enter g args) w
  ok : ∀ W, Below w.heap.size w W → ∀ a b c d r1 r2, S a b c d = some (r1, r2) → Calls Tryd.prog g (#[.int .i64 a, .int .i64 b, .int .i64 c, .int .i64 d] ++ lb) W fun e w' => e = .returned (.tuple #[.int .i64 r1, .int .i64 r2]) ∧ Below W.heap.size W w'
theorem FnOK4.later {g : Nat} {lb : Array Value} {S : Int → Int → Int → Int → Option (Int × Int)} {w W : World} (h : FnOK4 g lb S w) (hb : Below w.heap.size w W) : FnOK4 g lb S W :=
  ⟨h.en, fun W' hb' => h.ok W' (hb.trans (hb'.mono hb.size))⟩
theorem FnOK4.calls {g : Nat} {lb : Array Value} {S : Int → Int → Int → Int → Option (Int × Int)} {w W : World} (h : FnOK4 g lb S w) (hb : Below w.heap.size w W) (a b c d r1 r2 : Int) (e : S a b c d = some (r1, r2)) :
    Calls Tryd.prog g (#[.int .i64 a, .int .i64 b, .int .i64 c, .int .i64 d] ++ lb) W fun e w' => e = .returned (.tuple #[.int .i64 r1, .int .i64 r2]) ∧ Below W.heap.size W w' := h.ok W hb a b c d r1 r2 e
/-- A call of a function value, in a region that draws its order. -/
theorem goesV_ {P : Program} {ops : Array Oper} {Q : Exit → Act → World → Prop} {oi : Oper} {N : Option Tmp} {a : Act} {w : World} {K : Act → World → Prop} {g : FuncId} {lb : Array Value} {o : Operand} {asx : Array Operand} {ts : Array TypeId} (he : ∀ args w, (callFunc g args).run P w = .ok (.enter g args) w) (args : Array Value)
    (hw : Region.wanted oi (yielded ops a.tmps) = true) (hN : oi.dst = N) (hop : oi.op = .call { callee := .value o, args := asx, argTypes := ts }) (hev : a.eval o = .func (.func g) #[] lb) (hargs : asx.map a.eval = args)
    (h : Calls P g (args ++ lb) w fun e w' => ∃ v, e = .returned v ∧ K (a.put N v) w') : if Region.wanted oi (yielded ops a.tmps) = true then Oper.wp P oi a w K Q else K (a.put N undef) w := by
  refine call_ g (args ++ lb) hw hN ?_ h
  unfold execOp
  simp [hop, resolve, Deferred.ofValue, invoke, hev, hargs, he]
theorem cell_drew_set {w : World} {p q : Addr} {v : Value} {r : Option Value} (h : (w.setCell p v).cell? q = r) (m : Nat) : ((w.drewN m).setCell p v).cell? q = r := h
theorem frozen_set {w : World} {p q : Addr} {v : Value} {b : Bool} (h : (w.setCell p v).frozen? q = b) : w.frozen? q = b := (World.frozen?_setCell _ _ _ _).symm.trans h

theorem info2 : (Tryd.prog.info? 2).map (fun i => (i.zero, i.size, i.bytes)) = some (some (.int .i64 0), 1, 8) := by kernel_rfl
theorem info5 : (Tryd.prog.info? 5).map (fun i => (i.zero, i.size, i.bytes)) = some (some (.int .u8 0), 1, 1) := by kernel_rfl
theorem info48 : (Tryd.prog.info? 48).map (fun i => (i.zero, i.size, i.bytes)) = some (some (.agg #[(.int .i64 0), (.int .i64 0), (.int .i64 0)]), 3, 24) := by kernel_rfl
-- the values' own types
/-! #### struct type 48 -/
structure S48 where
  f0 : Int
  f1 : Int
  f2 : Int
def z48 : S48 := ⟨(0 : Int), (0 : Int), (0 : Int)⟩
def k48 : Kd S48 := Kd.iso (Kd.pair (Kd.int .i64) (Kd.pair (Kd.int .i64) (Kd.int .i64))) (fun x : S48 => (x.f0, x.f1, x.f2))
theorem k48_open {w : World} {x : S48} {cs : List Value} (h : k48.K w x cs) : cs = [.int .i64 x.f0, .int .i64 x.f1, .int .i64 x.f2] := by
  obtain ⟨_, _, rfl, rfl, ⟨_, _, rfl, rfl, rfl⟩⟩ := h
  exact rfl
theorem k48_openM {w : World} {base : Nat} {ok : Nat → Prop} {x : S48} {cs : List Value} (h : k48.M w base ok x cs) : cs = [.int .i64 x.f0, .int .i64 x.f1, .int .i64 x.f2] := by
  obtain ⟨_, _, rfl, rfl, ⟨_, _, rfl, rfl, rfl⟩⟩ := h
  exact rfl
theorem k48_mk (w : World) (x : S48)  : k48.K w x [.int .i64 x.f0, .int .i64 x.f1, .int .i64 x.f2] := ⟨[.int .i64 x.f0], [.int .i64 x.f1, .int .i64 x.f2], rfl, rfl, ⟨[.int .i64 x.f1], [.int .i64 x.f2], rfl, rfl, rfl⟩⟩
theorem k48_mkM (w : World) (base : Nat) (ok : Nat → Prop) (x : S48)  : k48.M w base ok x [.int .i64 x.f0, .int .i64 x.f1, .int .i64 x.f2] := ⟨[.int .i64 x.f0], [.int .i64 x.f1, .int .i64 x.f2], rfl, rfl, ⟨[.int .i64 x.f1], [.int .i64 x.f2], rfl, rfl, rfl⟩⟩
theorem k48_mkF (W : World) (ok : Nat → Prop) (x : S48) : Kd.FK k48 W ok x [.int .i64 x.f0, .int .i64 x.f1, .int .i64 x.f2] := fun W2 _ => k48_mk W2 x
def rd_T48 (xs : List S48) (i : Int) : S48 := xs.getD i.toNat z48
theorem at_T48 {w : World} {A : Option Addr} {n : Nat} {xs : List S48} (h : Kd.C k48 w A n xs) (i : Int) (h0 : 0 ≤ i) (h1 : i < n) : ∃ ad , A = some ad ∧ w.cell? (ad.add (i.toNat * 3)) = some (.int .i64 (rd_T48 xs i).f0) ∧ w.cell? ⟨(ad.add (i.toNat * 3)).block, (ad.add (i.toNat * 3)).off + 1, none⟩ = some (.int .i64 (rd_T48 xs i).f1) ∧ w.cell? ⟨(ad.add (i.toNat * 3)).block, (ad.add (i.toNat * 3)).off + 2, none⟩ = some (.int .i64 (rd_T48 xs i).f2) := by
  obtain ⟨ad, c, e, _, hK, hc0⟩ := Kd.C_get h z48 i h0 h1
  have hc : ∀ j u, c[j]? = some u → w.cell? (ad.add (i.toNat * 3 + j)) = some u := hc0
  obtain rfl := k48_open hK
  exact ⟨ad, e, hc 0 _ rfl, by rw [← add_field _ _ 1 (by omega)]; exact hc 1 _ rfl, by rw [← add_field _ _ 2 (by omega)]; exact hc 2 _ rfl⟩

end Go.Proofs.YtgfmmoomekjkbaaDoor.PFnExactEncodeValues
