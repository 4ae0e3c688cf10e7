/-
  SlotsOf answers as the reference does, for every number, in memory of its own.
-/
import Derived.Test.YtfolhiijdckfhaaPFnExactSlotsOfx
namespace Go.Proofs.Ytfolhiijdckfhaa.Pure
open Go.RowKit Go.Proofs.Ytfolhiijdckfhaa.PFnExactSlotsOf Go.Proofs.YtfolhiijdckfhaaW.PrintWords Go.Proofs.YtfolhiijdckfhaaW.PrintLast Go.Proofs.YtfolhiijdckfhaaW.PrintMore
set_option linter.unusedVariables false
set_option linter.unusedSimpArgs false

theorem w64 {x : Int} (h1 : -9223372036854775808 ≤ x) (h2 : x ≤ 9223372036854775807) : wrap64 x = x := by
  unfold wrap64; omega
theorem tdiv_pos {a : Int} (h : 0 ≤ a) (b : Int) : Int.tdiv a b = a / b := Int.tdiv_eq_ediv_of_nonneg h
theorem tmod_pos {a : Int} (h : 0 ≤ a) (b : Int) : Int.tmod a b = a % b := Int.tmod_eq_emod_of_nonneg h
theorem tdiv_neg {a : Int} (h : a ≤ 0) (b : Int) : Int.tdiv a b = -((-a) / b) := by
  have := Int.neg_tdiv (-a) b
  rw [Int.neg_neg] at this
  rw [this, tdiv_pos (by omega)]
theorem tmod_neg {a : Int} (h : a ≤ 0) (b : Int) : Int.tmod a b = -((-a) % b) := by
  have := Int.neg_tmod (-a) b
  rw [Int.neg_neg] at this
  rw [this, tmod_pos (by omega)]
theorem div_unique {x b q r : Int} (hb : 0 < b) (h : r + b * q = x) (h0 : 0 ≤ r) (h1 : r < b) : x / b = q :=
  ((Int.ediv_emod_unique hb).2 ⟨h, h0, h1⟩).1
theorem div_parts (x b : Int) : b * (x / b) + x % b = x := Int.mul_ediv_add_emod x b
theorem neg_div {a b : Int} (hb : 0 < b) : (-a) / b = if a % b = 0 then -(a / b) else -(a / b) - 1 := by
  have h := div_parts a b
  have h0 := Int.emod_nonneg a (Int.ne_of_gt hb)
  have h1 := Int.emod_lt_of_pos a hb
  split
  · exact div_unique (r := 0) hb (by rw [Int.mul_neg]; omega) (by omega) (by omega)
  · exact div_unique (r := b - a % b) hb (by rw [Int.mul_sub, Int.mul_neg]; omega) (by omega) (by omega)
theorem ceil_div {a b : Int} (hb : 0 < b) : (a + b - 1) / b = -((-a) / b) := by
  have h := div_parts (-a) b
  have h0 := Int.emod_nonneg (-a) (Int.ne_of_gt hb)
  have h1 := Int.emod_lt_of_pos (-a) hb
  exact div_unique (r := b - 1 - (-a) % b) hb (by rw [Int.mul_neg]; omega) (by omega) (by omega)
theorem div_bd {a b : Int} (ha : 0 ≤ a) (hb : 0 < b) : 0 ≤ a / b ∧ a / b ≤ a :=
  ⟨Int.ediv_nonneg ha (by omega), Int.ediv_le_self b ha⟩
theorem floor_tdiv {x b : Int} (hb : 0 < b) : (if Int.tmod x b < 0 then Int.tdiv x b - 1 else Int.tdiv x b) = x / b := by
  by_cases h : 0 ≤ x
  · have h0 := Int.emod_nonneg x (Int.ne_of_gt hb)
    rw [tmod_pos h, tdiv_pos h, if_neg (by omega)]
  · rw [tmod_neg (by omega), tdiv_neg (by omega)]
    have h0 := Int.emod_nonneg (-x) (Int.ne_of_gt hb)
    have e := neg_div (a := -x) hb
    rw [Int.neg_neg] at e
    rw [e]
    by_cases hz : (-x) % b = 0
    · rw [if_pos hz, if_neg (by omega)]
    · rw [if_neg hz, if_pos (by omega)]
theorem floor_bd {x b : Int} (hb : 0 < b) : (0 ≤ x → 0 ≤ x / b ∧ x / b ≤ x) ∧ (x < 0 → x ≤ x / b ∧ x / b < 0) := by
  refine ⟨fun h => div_bd h hb, fun h => ?_⟩
  have e := neg_div (a := -x) hb
  rw [Int.neg_neg] at e
  have d := div_bd (a := -x) (by omega) hb
  have p := div_parts (-x) b
  have h0 := Int.emod_nonneg (-x) (Int.ne_of_gt hb)
  rw [e]
  split
  · next hz =>
    rw [hz] at p
    have : (-x) / b ≠ 0 := fun e0 => by rw [e0, Int.mul_zero] at p; omega
    omega
  · next hz =>
    have : (-x) / b < -x := by
      rcases Int.lt_or_eq_of_le d.2 with h2 | h2
      · exact h2
      · exfalso
        rw [h2] at p
        have hb1 : b ≠ 1 := fun e1 => by subst e1; omega
        have : 2 * (-x) ≤ b * (-x) := Int.mul_le_mul_of_nonneg_right (by omega) (by omega)
        omega
    omega

theorem inRange_eq (a b c : Int) : impl_inRange.f a b c = some (decide (b ≤ a ∧ a ≤ c)) := by
  unfold impl_inRange.f; by_cases h : b ≤ a <;> simp [h]

theorem l1In_eq (a b c : Int) : spec_l1In.f a b c = some (decide (b ≤ a ∧ a ≤ c)) := by
  unfold spec_l1In.f; by_cases h : b ≤ a <;> simp [h]

theorem within_eq (a b : Int) (h0 : 0 ≤ b) (h1 : b ≤ 9000000000000000000) : impl_within.f a b = some (decide (-b ≤ a ∧ a ≤ b)) := by
  unfold impl_within.f; rw [inRange_eq, w64 (by omega) (by omega)]; rfl

theorem rd_nat (xs : List Int) (i : Nat) : rd xs (i : Int) = xs.getD i 0 := by unfold rd; rw [Int.toNat_natCast]
theorem rd_get (xs : List Int) (i : Nat) (h : i < xs.length) : rd xs (i : Int) = xs[i] := by
  rw [rd_nat, List.getD_eq_getElem?_getD, List.getElem?_eq_getElem h]; rfl
theorem w64_succ (i : Nat) (h : i ≤ 4000000000000000000) : wrap64 ((i : Int) + 1) = ((i + 1 : Nat) : Int) := by
  rw [w64 (by omega) (by omega)]; omega
theorem nat_nonneg (i : Nat) : 0 ≤ (i : Int) := Int.natCast_nonneg i
theorem set_get_take {xs ys : List Int} {i : Nat} (hl : ys.length = xs.length) (ht : ys.take i = xs.take i) (hi : i < xs.length) :
    (ys.set i (rd xs (i : Int))).take (i + 1) = xs.take (i + 1) := by
  rw [rd_get xs i hi]
  apply List.ext_getElem?
  intro n
  by_cases hn : n < i + 1
  · rw [List.getElem?_take_of_lt hn, List.getElem?_take_of_lt hn]
    by_cases e : n = i
    · subst e
      rw [List.getElem?_set_self (by omega), List.getElem?_eq_getElem hi]
    · rw [List.getElem?_set_ne (by omega)]
      have := congrArg (fun l => l[n]?) ht
      simp only [List.getElem?_take_of_lt (show n < i by omega)] at this
      exact this
  · rw [List.getElem?_take_eq_none (by omega), List.getElem?_take_eq_none (by omega)]

theorem l2Length_l0 : ∀ (d x m k : Nat), x < 2 ^ d → d ≤ 64 → m + d ≤ 1000 → d < k → spec_l2Length.l0 k (x : Int) (m : Int) = some ((m + Lib.bitLen x : Nat) : Int) := by
  intro d
  induction d with
  | zero =>
    intro x m k hx hd hm hk
    obtain ⟨k, rfl⟩ : ∃ q, k = q + 1 := ⟨k - 1, by omega⟩
    have : x = 0 := by simpa using hx
    subst this
    simp only [spec_l2Length.l0]
    rw [if_neg (by omega)]
    rfl
  | succ d ih =>
    intro x m k hx hd hm hk
    obtain ⟨k, rfl⟩ : ∃ q, k = q + 1 := ⟨k - 1, by omega⟩
    have hx2 : x < 2 ^ 64 := Nat.lt_of_lt_of_le hx (Nat.pow_le_pow_right (by omega) hd)
    simp only [spec_l2Length.l0]
    by_cases h : x = 0
    · subst h
      rw [if_neg (by omega)]
      rfl
    · rw [Nat.pow_succ] at hx
      rw [if_pos (by omega), tdiv_pos (by omega), show (x : Int) / 2 = ((x / 2 : Nat) : Int) by omega, w64 (x := ((x / 2 : Nat) : Int)) (by omega) (by omega), w64_succ m (by omega), ih (x / 2) (m + 1) k (by omega) (by omega) (by omega) (by omega), Lib.bitLen_half x h hx2]
      congr 2
      omega
theorem l2Length_eq (x k : Nat) (hx : x < 65536) (hk : 20 < k) : spec_l2Length.f k (x : Int) = some ((Lib.bitLen x : Nat) : Int) := by
  have := l2Length_l0 16 x 0 k (by omega) (by omega) (by omega) (by omega)
  rw [Nat.zero_add] at this
  exact this

theorem rdT_nat (xs : List S57) (i : Nat) : rd_T57 xs (i : Int) = xs.getD i z57 := by unfold rd_T57; rw [Int.toNat_natCast]

theorem eqSlot_refl (a b c : Int) : laws_eqSlot.f a b c a b c = some true := by
  unfold laws_eqSlot.f; rw [if_pos rfl, if_pos rfl, if_pos rfl]
theorem eqSlotS_l0 (xs : List S57) (hn : xs.length ≤ 1000000000000000000) : ∀ (d i k : Nat), i + d = xs.length → d < k → laws_eqSlotS.l0 k xs xs (i : Int) = some true := by
  intro d
  induction d with
  | zero =>
    intro i k hi hk
    obtain ⟨k, rfl⟩ : ∃ q, k = q + 1 := ⟨k - 1, by omega⟩
    simp only [laws_eqSlotS.l0]
    rw [if_neg (by omega)]
  | succ d ih =>
    intro i k hi hk
    obtain ⟨k, rfl⟩ : ∃ q, k = q + 1 := ⟨k - 1, by omega⟩
    simp only [laws_eqSlotS.l0, eqSlot_refl, Option.bind_some]
    rw [if_pos (by omega), if_pos (by omega), if_pos (by omega), if_pos trivial, w64_succ _ (by omega)]
    exact ih (i + 1) k (by omega) (by omega)
theorem eqSlotS_refl (xs : List S57) (hn : xs.length ≤ 1000000000000000000) (k : Nat) (hk : xs.length < k) : laws_eqSlotS.f k xs xs = some true := by
  unfold laws_eqSlotS.f
  rw [if_pos rfl]
  exact eqSlotS_l0 xs hn xs.length 0 k (by omega) hk

theorem eqSlotsResult_refl (c : Int) (xs : List S57) (hn : xs.length ≤ 1000000000000000000) (k : Nat) (hk : xs.length < k) : laws_eqSlotsResult.f k c xs c xs = some true := by
  unfold laws_eqSlotsResult.f
  rw [if_pos rfl, eqSlotS_refl xs hn k hk]; rfl

def mk3 (m : Nat) : S57 := ⟨(m : Int), ((m + 1 : Nat) : Int), ((m + 2 : Nat) : Int)⟩
theorem markSlotS_l0 : ∀ (d i : Nat) (xs : List S57) (m k : Nat), i + d = xs.length → d < k → xs.length ≤ 100000000000000000 → m + 3 * d ≤ 1000000000000000000 →
    ∃ ys, laws_markSlotS.l0 k xs (m : Int) (i : Int) = some (((m + 3 * d : Nat) : Int), ys) ∧ ys.length = xs.length ∧ (∀ j, j < i → ys.getD j z57 = xs.getD j z57) ∧ ∀ j, i ≤ j → j < xs.length → ys.getD j z57 = mk3 (m + 3 * (j - i)) := by
  intro d
  induction d with
  | zero =>
    intro i xs m k hi hk hn hm
    obtain ⟨k, rfl⟩ : ∃ q, k = q + 1 := ⟨k - 1, by omega⟩
    refine ⟨xs, ?_, rfl, fun j _ => rfl, fun j h1 h2 => by omega⟩
    simp only [laws_markSlotS.l0]
    rw [if_neg (by omega)]; rfl
  | succ d ih =>
    intro i xs m k hi hk hn hm
    obtain ⟨k, rfl⟩ : ∃ q, k = q + 1 := ⟨k - 1, by omega⟩
    obtain ⟨ys, h1, h2, h3, h4⟩ := ih (i + 1) (xs.set i (mk3 m)) (m + 3) k (by rw [List.length_set]; omega) (by omega) (by rw [List.length_set]; omega) (by omega)
    rw [List.length_set] at h2 h4
    have hg : ∀ (zs : List S57) (v : S57), zs.length = xs.length → (zs.set i v).getD i z57 = v := fun zs v hz => by
      rw [List.getD_eq_getElem?_getD, List.getElem?_set_self (by omega)]; rfl
    refine ⟨ys, ?_, h2, fun j hj => ?_, fun j hj1 hj2 => ?_⟩
    · have e : ((xs.set i ⟨(m : Int), (xs.getD i z57).f1, (xs.getD i z57).f2⟩).set i ⟨(m : Int), ((m + 1 : Nat) : Int), (xs.getD i z57).f2⟩).set i ⟨(m : Int), ((m + 1 : Nat) : Int), ((m + 2 : Nat) : Int)⟩ = xs.set i (mk3 m) := by
        rw [List.set_set, List.set_set]; rfl
      simp only [laws_markSlotS.l0, Option.bind_some]
      rw [if_pos (by omega), if_pos (by omega), w64_succ m (by omega), w64_succ (m + 1) (by omega), w64_succ (m + 1 + 1) (by omega), w64_succ i (by omega), Int.toNat_natCast]
      simp only [rdT_nat, hg, List.length_set]
      rw [e, show m + 1 + 1 + 1 = m + 3 by omega, h1]
      rw [show m + 3 + 3 * d = m + 3 * (d + 1) by omega]
    · rw [h3 j (by omega), List.getD_eq_getElem?_getD, List.getElem?_set_ne (by omega), ← List.getD_eq_getElem?_getD]
    · by_cases e : j = i
      · subst e
        rw [h3 j (by omega), hg xs _ rfl]
        rw [show m + 3 * (j - j) = m by omega]
      · rw [h4 j (by omega) hj2]
        rw [show m + 3 + 3 * (j - (i + 1)) = m + 3 * (j - i) by omega]

theorem heldSlotS_l0 (ys : List S57) (m0 : Nat) (hn : ys.length ≤ 100000000000000000) (hm : m0 ≤ 100000000000000000) (hy : ∀ j, j < ys.length → ys.getD j z57 = mk3 (m0 + 3 * j)) : ∀ (d i k : Nat), i + d = ys.length → d < k →
    laws_heldSlotS.l0 k ys ((m0 + 3 * i : Nat) : Int) (i : Int) = some ((m0 + 3 * ys.length : Nat) : Int) := by
  intro d
  induction d with
  | zero =>
    intro i k hi hk
    obtain ⟨k, rfl⟩ : ∃ q, k = q + 1 := ⟨k - 1, by omega⟩
    simp only [laws_heldSlotS.l0]
    rw [if_neg (by omega)]
    rw [show i = ys.length by omega]
  | succ d ih =>
    intro i k hi hk
    obtain ⟨k, rfl⟩ : ∃ q, k = q + 1 := ⟨k - 1, by omega⟩
    have e1 := w64_succ (m0 + 3 * i) (by omega)
    have e2 := w64_succ (m0 + 3 * i + 1) (by omega)
    have e3 := w64_succ (m0 + 3 * i + 1 + 1) (by omega)
    have e4 := w64_succ i (by omega)
    simp only [laws_heldSlotS.l0, rdT_nat, hy i (by omega), e1, e2, e3, e4]
    rw [if_pos (by omega), if_pos (by omega), mk3]
    simp only [if_true]
    exact ih (i + 1) k (by omega) (by omega)
theorem mark_held_slots (xs : List S57) (k : Nat) (hn : xs.length ≤ 10000000000000000) (hk : xs.length < k) :
    ∃ ys, laws_markSlotS.f k xs 1 = some (((1 + 3 * xs.length : Nat) : Int), ys) ∧ ys.length = xs.length ∧ laws_heldSlotS.f k ys 1 = some ((1 + 3 * xs.length : Nat) : Int) := by
  obtain ⟨ys, h1, h2, h3, h4⟩ := markSlotS_l0 xs.length 0 xs 1 k (by omega) hk (by omega) (by omega)
  refine ⟨ys, h1, h2, ?_⟩
  have := heldSlotS_l0 ys 1 (by omega) (by omega) (fun j hj => by have := h4 j (by omega) (by omega); simpa using this) ys.length 0 k (by omega) (by omega)
  rw [h2] at this
  exact this

theorem lift {α : Type} {f : Nat → Option α} (h : ∀ k, LeO (f k) (f (k + 1))) {k : Nat} {r : α} (e : f k = some r) (m : Nat) (hm : k ≤ m) : f m = some r := by
  obtain ⟨d, rfl⟩ := Nat.le.dest hm
  clear hm
  induction d with
  | zero => exact e
  | succ d ih => exact h _ _ ih
def zig (a : Int) : Nat := if a < 0 then (-2 * a - 1).toNat else (2 * a).toNat
theorem zig_bd {a : Int} (h : -65535 ≤ a ∧ a ≤ 65535) : zig a ≤ 131070 := by unfold zig; split <;> omega
theorem zigF {a : Int} (h : -65535 ≤ a ∧ a ≤ 65535) : (if a < 0 then (some (wrap64 ((wrap64 ((-2) * a)) - 1))) else (some (wrap64 (2 * a)))) = some (zig a : Int) := by
  unfold zig
  split
  · rw [w64 (x := -2 * a) (by omega) (by omega), w64 (by omega) (by omega), Int.toNat_of_nonneg (by omega)]
  · rw [w64 (by omega) (by omega), Int.toNat_of_nonneg (by omega)]
theorem l4Zig_eq {a : Int} (h : -65535 ≤ a ∧ a ≤ 65535) : spec_l4Zig.f a = some (zig a : Int) := zigF h
theorem zigOf_eq {a : Int} (h : -65535 ≤ a ∧ a ≤ 65535) : impl_zigOf.f a = some (zig a : Int) := zigF h
def cls (n : Nat) : S57 := match impl_classSlot.f 40 (n : Int) with
  | some p => ⟨p.1, p.2.1, p.2.2⟩
  | none => z57
theorem cls_all : ∀ n : Fin 18, spec_l4Class.f 40 (n.val : Int) = some ((cls n.val).f0, (cls n.val).f1, (cls n.val).f2) ∧ impl_classSlot.f 40 (n.val : Int) = some ((cls n.val).f0, (cls n.val).f1, (cls n.val).f2) := by decide +kernel
theorem specClass_eq (n k : Nat) (hn : n < 18) (hk : 40 ≤ k) : spec_l4Class.f k (n : Int) = some ((cls n).f0, (cls n).f1, (cls n).f2) := lift (spec_l4Class.mono n) (cls_all ⟨n, hn⟩).1 k hk
theorem implClass_eq (n k : Nat) (hn : n < 18) (hk : 40 ≤ k) : impl_classSlot.f k (n : Int) = some ((cls n).f0, (cls n).f1, (cls n).f2) := lift (impl_classSlot.mono n) (cls_all ⟨n, hn⟩).2 k hk
theorem two_all : ∀ w : Fin 18, spec_l4Two.f 40 (w.val : Int) = some ((2 ^ w.val : Nat) : Int) := by decide +kernel
theorem two_eq (w k : Nat) (hw : w ≤ 17) (hk : 40 ≤ k) : spec_l4Two.f k (w : Int) = some ((2 ^ w : Nat) : Int) := lift (spec_l4Two.mono w) (two_all ⟨w, by omega⟩) k hk
def pcs (n : Nat) : List Int := if n < 2 then [] else if n - 1 > 8 then [((n - 9 : Nat) : Int), 8] else [((n - 1 : Nat) : Int)]
theorem pieces_all : ∀ n : Fin 18, spec_l4Pieces.f (n.val : Int) = some (pcs n.val) ∧ impl_pieces.f (n.val : Int) = some (pcs n.val) := by decide +kernel
def sl (z w s : Nat) : S57 := ⟨((z / 2 ^ s % 2 ^ w : Nat) : Int), 1, ((2 ^ w : Nat) : Int)⟩
def slotsL (z : Nat) : List S57 := [cls (Lib.bitLen z)] ++ (if Lib.bitLen z < 2 then [] else if Lib.bitLen z - 1 > 8 then [sl z (Lib.bitLen z - 9) 8, sl z 8 0] else [sl z (Lib.bitLen z - 1) 0])
theorem cast_step (s w : Nat) (h1 : w ≤ 17) (h2 : s ≤ 17) : wrap64 (((s + w : Nat) : Int) - (w : Int)) = (s : Int) := by
  rw [w64 (by omega) (by omega)]; omega
theorem spec_step (k z : Nat) (xs : List S57) (ps : List Int) (i w s : Nat) (hk : 40 ≤ k) (hi : i < ps.length) (hp : ps.length ≤ 10) (hw : rd ps (i : Int) = (w : Int)) (h1 : w ≤ 17) (h2 : s ≤ 17) (hz : z < 131072) (hx : xs.length ≤ 10) :
    spec_l4Slots.l0 (k + 1) (z : Int) xs ps ((s + w : Nat) : Int) (i : Int) = spec_l4Slots.l0 k (z : Int) (xs ++ [sl z w s]) ps (s : Int) ((i + 1 : Nat) : Int) := by
  simp only [spec_l4Slots.l0]
  rw [if_pos (by omega), if_pos (by omega)]
  simp only [hw, cast_step s w h1 h2, two_eq w k h1 hk, two_eq s k h2 hk, Option.bind_some, w64_succ i (show i ≤ 4000000000000000000 by omega)]
  have hq : 0 < 2 ^ w := Nat.two_pow_pos w
  have hs : 0 < 2 ^ s := Nat.two_pow_pos s
  unfold sl
  generalize 2 ^ w = q at hq ⊢
  generalize 2 ^ s = p at hs ⊢
  have hd : z / p ≤ z := Nat.div_le_self z p
  have hd0 : (0 : Int) ≤ ((z / p : Nat) : Int) := Int.natCast_nonneg _
  have e2 : Int.tmod (wrap64 (Int.tdiv (z : Int) (p : Int))) (q : Int) = ((z / p % q : Nat) : Int) := by
    rw [tdiv_pos (by omega), ← Int.natCast_ediv, w64 (by omega) (by omega), tmod_pos (by omega)]
    rfl
  rw [if_neg (by omega), if_neg (by omega), if_pos (by omega), e2]
theorem shl_all : ∀ w : Fin 18, shl .i64 1 (w.val : Int) = ((2 ^ w.val : Nat) : Int) ∧ wrap64 (((2 ^ w.val : Nat) : Int) - 1) = (2 : Int) ^ w.val - 1 := by decide +kernel
theorem shr_eq (z s : Nat) (hs : s ≤ 17) : shr .i64 (z : Int) (s : Int) = ((z / 2 ^ s : Nat) : Int) := by
  unfold shr
  rw [Int.toNat_natCast, show IntKind.i64.bits = 64 from rfl, Nat.min_eq_left (by omega), Int.natCast_ediv, Int.natCast_pow]
  rfl
theorem impl_step (k z : Nat) (xs : List S57) (ps : List Int) (i w s : Nat) (hi : i < ps.length) (hp : ps.length ≤ 10) (hw : rd ps (i : Int) = (w : Int)) (h1 : w ≤ 17) (h2 : s ≤ 17) (hz : z < 131072) (hx : xs.length ≤ 10) :
    impl_slotsOf.l0 (k + 1) (z : Int) xs ((s + w : Nat) : Int) ps (ps.length : Int) (i : Int) = impl_slotsOf.l0 k (z : Int) (xs ++ [sl z w s]) (s : Int) ps (ps.length : Int) ((i + 1 : Nat) : Int) := by
  simp only [impl_slotsOf.l0]
  rw [if_pos (by omega), if_pos (by omega), if_pos (by omega)]
  have hd : z / 2 ^ s ≤ z := Nat.div_le_self z _
  have hd0 : (0 : Int) ≤ ((z / 2 ^ s : Nat) : Int) := Int.natCast_nonneg _
  have hb := bits_mask .i64 62 (by decide) (fun n h0 h1 => by rw [IntKind.wrap_i64]; omega) w (by omega) ((z / 2 ^ s : Nat) : Int) (by omega) (by omega)
  have ha := shl_all ⟨w, by omega⟩
  simp only [hw, cast_step s w h1 h2, ha.1, ha.2, shr_eq z s h2, w64_succ i (show i ≤ 4000000000000000000 by omega), hb]
  rw [if_pos (by omega), if_pos (by omega), if_pos (by omega)]
  unfold sl
  rw [Int.natCast_emod, Int.natCast_pow]
  rfl
theorem len17 {z : Nat} (hz : z < 131072) : Lib.bitLen z < 18 := by
  have := Lib.bitLen_le z 17 (by omega) (by omega)
  omega
theorem pcs_cases (n : Nat) : (n < 2 ∧ pcs n = []) ∨ (2 ≤ n ∧ n - 1 > 8 ∧ pcs n = [((n - 9 : Nat) : Int), 8]) ∨ (2 ≤ n ∧ ¬ n - 1 > 8 ∧ pcs n = [((n - 1 : Nat) : Int)]) := by
  unfold pcs
  by_cases h : n < 2
  · exact .inl ⟨h, by rw [if_pos h]⟩
  · by_cases g : n - 1 > 8
    · exact .inr (.inl ⟨by omega, g, by rw [if_neg h, if_pos g]⟩)
    · exact .inr (.inr ⟨by omega, g, by rw [if_neg h, if_neg g]⟩)
theorem pred64 (n : Nat) (h : n < 18) (h2 : 2 ≤ n) : wrap64 ((n : Int) - 1) = ((n - 1 : Nat) : Int) := by
  rw [w64 (by omega) (by omega)]; omega
theorem spec_run (z k n : Nat) (hz : z < 131072) (hn : n < 18) (hk : 50 ≤ k) : spec_l4Slots.l0 k (z : Int) [cls n] (pcs n) (wrap64 ((n : Int) - 1)) 0 = some ([cls n] ++ (if n < 2 then [] else if n - 1 > 8 then [sl z (n - 9) 8, sl z 8 0] else [sl z (n - 1) 0])) := by
  obtain ⟨k, rfl⟩ : ∃ q, k = q + 3 := ⟨k - 3, by omega⟩
  rcases pcs_cases n with ⟨h, e⟩ | ⟨h2, h, e⟩ | ⟨h2, h, e⟩
  · rw [e, if_pos h]
    simp only [spec_l4Slots.l0]
    rw [if_neg (by simp)]
    rfl
  · have s1 := spec_step (k + 2) z [cls n] (pcs n) 0 (n - 9) 8 (by omega) (by rw [e]; simp) (by rw [e]; simp) (by rw [e]; rfl) (by omega) (by omega) hz (by simp)
    have s2 := spec_step (k + 1) z ([cls n] ++ [sl z (n - 9) 8]) (pcs n) 1 8 0 (by omega) (by rw [e]; simp) (by rw [e]; simp) (by rw [e]; rfl) (by omega) (by omega) hz (by simp)
    rw [pred64 n hn h2, show n - 1 = 8 + (n - 9) by omega]
    refine s1.trans (Eq.trans s2 ?_)
    rw [if_neg (by omega), if_pos (by omega)]
    simp only [spec_l4Slots.l0]
    rw [if_neg (by rw [e]; simp)]
    rfl
  · have s1 := spec_step (k + 2) z [cls n] (pcs n) 0 (n - 1) 0 (by omega) (by rw [e]; simp) (by rw [e]; simp) (by rw [e]; rfl) (by omega) (by omega) hz (by simp)
    rw [pred64 n hn h2]
    rw [Nat.zero_add] at s1
    refine s1.trans ?_
    rw [if_neg (by omega), if_neg h]
    simp only [spec_l4Slots.l0]
    rw [if_neg (by rw [e]; simp)]
theorem impl_run (z k n : Nat) (hz : z < 131072) (hn : n < 18) (hk : 50 ≤ k) : impl_slotsOf.l0 k (z : Int) [cls n] (wrap64 ((n : Int) - 1)) (pcs n) ((pcs n).length : Int) 0 = some ([cls n] ++ (if n < 2 then [] else if n - 1 > 8 then [sl z (n - 9) 8, sl z 8 0] else [sl z (n - 1) 0])) := by
  obtain ⟨k, rfl⟩ : ∃ q, k = q + 3 := ⟨k - 3, by omega⟩
  rcases pcs_cases n with ⟨h, e⟩ | ⟨h2, h, e⟩ | ⟨h2, h, e⟩
  · rw [e, if_pos h]
    simp only [impl_slotsOf.l0]
    rw [if_neg (by simp)]
    rfl
  · have s1 := impl_step (k + 2) z [cls n] (pcs n) 0 (n - 9) 8 (by rw [e]; simp) (by rw [e]; simp) (by rw [e]; rfl) (by omega) (by omega) hz (by simp)
    have s2 := impl_step (k + 1) z ([cls n] ++ [sl z (n - 9) 8]) (pcs n) 1 8 0 (by rw [e]; simp) (by rw [e]; simp) (by rw [e]; rfl) (by omega) (by omega) hz (by simp)
    rw [pred64 n hn h2, show n - 1 = 8 + (n - 9) by omega]
    refine s1.trans (Eq.trans s2 ?_)
    rw [if_neg (by omega), if_pos (by omega)]
    simp only [impl_slotsOf.l0]
    rw [if_neg (by rw [e]; simp)]
    rfl
  · have s1 := impl_step (k + 2) z [cls n] (pcs n) 0 (n - 1) 0 (by rw [e]; simp) (by rw [e]; simp) (by rw [e]; rfl) (by omega) (by omega) hz (by simp)
    rw [pred64 n hn h2]
    rw [Nat.zero_add] at s1
    refine s1.trans ?_
    rw [if_neg (by omega), if_neg h]
    simp only [impl_slotsOf.l0]
    rw [if_neg (by rw [e]; simp)]
theorem l2Length_eq17 (x k : Nat) (hx : x < 131072) (hk : 20 < k) : spec_l2Length.f k (x : Int) = some ((Lib.bitLen x : Nat) : Int) := by
  have := l2Length_l0 17 x 0 k (by omega) (by omega) (by omega) (by omega)
  rw [Nat.zero_add] at this
  exact this
theorem u64_id' {n : Int} (h0 : 0 ≤ n) (h1 : n < 9223372036854775808) : IntKind.u64.wrap n = n := by
  rw [IntKind.wrap_u64]; omega
theorem bitsLen_eq (x : Nat) (hx : x < 131072) : bits_Len64.f (IntKind.u64.wrap (x : Int)) = some ((Lib.bitLen x : Nat) : Int) := by
  unfold bits_Len64.f; rw [u64_id' (by omega) (by omega), if_pos (by omega), Int.toNat_natCast]
theorem spec_slots_eq {a : Int} (h : -65535 ≤ a ∧ a ≤ 65535) (k : Nat) (hk : 50 ≤ k) : spec_l4Slots.f k a = some (slotsL (zig a)) := by
  have hz : zig a < 131072 := by have := zig_bd h; omega
  unfold spec_l4Slots.f
  simp only [l4Zig_eq h, Option.bind_some, l2Length_eq17 _ k hz (by omega), specClass_eq _ k (len17 hz) (by omega), (pieces_all ⟨_, len17 hz⟩).1]
  exact spec_run _ k _ hz (len17 hz) hk
theorem impl_slots_eq {a : Int} (h : -65535 ≤ a ∧ a ≤ 65535) (k : Nat) (hk : 50 ≤ k) : impl_slotsOf.f k a = some (slotsL (zig a)) := by
  have hz : zig a < 131072 := by have := zig_bd h; omega
  unfold impl_slotsOf.f
  simp only [zigOf_eq h, Option.bind_some, bitsLen_eq _ hz, implClass_eq _ k (len17 hz) (by omega), (pieces_all ⟨_, len17 hz⟩).2]
  exact impl_run _ k _ hz (len17 hz) hk
theorem slotsL_len (z : Nat) : 1 ≤ (slotsL z).length ∧ (slotsL z).length ≤ 3 := by
  unfold slotsL
  split
  · simp
  · split <;> simp
theorem l4Value_eq (a : Int) : spec_l4Value.f a = some (decide (-65535 ≤ a ∧ a ≤ 65535)) := by
  unfold spec_l4Value.f; rw [l1In_eq]; rfl
theorem isValue_eq (a : Int) : impl_isValue.f a = some (decide (-65535 ≤ a ∧ a ≤ 65535)) := by
  unfold impl_isValue.f; rw [within_eq _ _ (by omega) (by omega)]; rfl
def slotsR (a : Int) : Int × List S57 := if -65535 ≤ a ∧ a ≤ 65535 then (0, slotsL (zig a)) else (3, [])
theorem spec_SlotsOf_eq (a : Int) (k : Nat) (hk : 50 ≤ k) : spec_SlotsOf.f k a = some (slotsR a) := by
  unfold spec_SlotsOf.f slotsR
  rw [l4Value_eq]
  by_cases h : -65535 ≤ a ∧ a ≤ 65535
  · simp only [decide_eq_true h, Option.bind_some, if_true, spec_slots_eq h k hk, if_pos h]
  · simp only [decide_eq_false h, Option.bind_some, if_neg h]; rfl
theorem impl_SlotsOf_eq (a : Int) (k : Nat) (hk : 50 ≤ k) : impl_SlotsOf.f k a = some (slotsR a) := by
  unfold impl_SlotsOf.f slotsR
  rw [isValue_eq]
  by_cases h : -65535 ≤ a ∧ a ≤ 65535
  · simp only [decide_eq_true h, Option.bind_some, if_true, impl_slots_eq h k hk, if_pos h]
  · simp only [decide_eq_false h, Option.bind_some, if_neg h]; rfl

-- PLUS: lists slots zigs
theorem neg_cast (n : Nat) : ¬ ((n : Nat) : Int) < 0 := by omega
theorem FnExactSlotsOf : laws_FnExactSlotsOf.Pure := by
  intro a0 _
  refine ⟨100, ?_⟩
  obtain ⟨c, ys, e, hl⟩ : ∃ c ys, slotsR a0 = (c, ys) ∧ ys.length ≤ 3 := by
    unfold slotsR
    split
    · exact ⟨_, _, rfl, (slotsL_len _).2⟩
    · exact ⟨_, _, rfl, by simp⟩
  have hi := impl_SlotsOf_eq a0 100 (by omega)
  have hs := spec_SlotsOf_eq a0 100 (by omega)
  rw [e] at hi hs
  have he := eqSlotsResult_refl c ys (by omega) 100 (by omega)
  obtain ⟨zs, m1, m2, m3⟩ := mark_held_slots ys 100 (by omega) (by omega)
  have hm : laws_markSlotsResult.f 100 c ys 1 = some (((1 + 3 * ys.length : Nat) : Int), zs) := by
    unfold laws_markSlotsResult.f; rw [m1]; rfl
  have hh : laws_heldSlotsResult.f 100 c zs 1 = some ((1 + 3 * ys.length : Nat) : Int) := by
    unfold laws_heldSlotsResult.f
    rw [m3]
    simp only [Option.bind_some]
    rw [if_neg (neg_cast _)]
  unfold laws_FnExactSlotsOf.f
  simp only [hs, hi, he, hm, hh, Option.bind_some, if_true, if_neg (neg_cast _)]

end Go.Proofs.Ytfolhiijdckfhaa.Pure
