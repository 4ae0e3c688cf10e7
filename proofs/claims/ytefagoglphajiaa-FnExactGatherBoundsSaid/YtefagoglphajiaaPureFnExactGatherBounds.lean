/-
  GatherBounds answers as the reference does, for every list, in memory of its own, and leaves the list as it was.
-/
import Derived.Test.YtefagoglphajiaaPFnExactGatherBoundsx
namespace Go.Proofs.Ytefagoglphajiaa.Pure
open Go.RowKit Go.Proofs.Ytefagoglphajiaa.PFnExactGatherBounds Go.Proofs.YtefagoglphajiaaW.PrintWords Go.Proofs.YtefagoglphajiaaW.PrintLast Go.Proofs.YtefagoglphajiaaW.PrintMore
set_option linter.unusedVariables false
set_option linter.unusedSimpArgs false

theorem w64 {x : Int} (h1 : -9223372036854775808 ≤ x) (h2 : x ≤ 9223372036854775807) : wrap64 x = x := by
  unfold wrap64; omega
theorem tdiv_pos {a : Int} (h : 0 ≤ a) (b : Int) : Int.tdiv a b = a / b := Int.tdiv_eq_ediv_of_nonneg h
theorem tmod_pos {a : Int} (h : 0 ≤ a) (b : Int) : Int.tmod a b = a % b := Int.tmod_eq_emod_of_nonneg h
theorem tdiv_neg {a : Int} (h : a ≤ 0) (b : Int) : Int.tdiv a b = -((-a) / b) := by
  have := Int.neg_tdiv (-a) b
  rw [Int.neg_neg] at this
  rw [this, tdiv_pos (by omega)]
theorem tmod_neg {a : Int} (h : a ≤ 0) (b : Int) : Int.tmod a b = -((-a) % b) := by
  have := Int.neg_tmod (-a) b
  rw [Int.neg_neg] at this
  rw [this, tmod_pos (by omega)]
theorem div_unique {x b q r : Int} (hb : 0 < b) (h : r + b * q = x) (h0 : 0 ≤ r) (h1 : r < b) : x / b = q :=
  ((Int.ediv_emod_unique hb).2 ⟨h, h0, h1⟩).1
theorem div_parts (x b : Int) : b * (x / b) + x % b = x := Int.mul_ediv_add_emod x b
theorem neg_div {a b : Int} (hb : 0 < b) : (-a) / b = if a % b = 0 then -(a / b) else -(a / b) - 1 := by
  have h := div_parts a b
  have h0 := Int.emod_nonneg a (Int.ne_of_gt hb)
  have h1 := Int.emod_lt_of_pos a hb
  split
  · exact div_unique (r := 0) hb (by rw [Int.mul_neg]; omega) (by omega) (by omega)
  · exact div_unique (r := b - a % b) hb (by rw [Int.mul_sub, Int.mul_neg]; omega) (by omega) (by omega)
theorem ceil_div {a b : Int} (hb : 0 < b) : (a + b - 1) / b = -((-a) / b) := by
  have h := div_parts (-a) b
  have h0 := Int.emod_nonneg (-a) (Int.ne_of_gt hb)
  have h1 := Int.emod_lt_of_pos (-a) hb
  exact div_unique (r := b - 1 - (-a) % b) hb (by rw [Int.mul_neg]; omega) (by omega) (by omega)
theorem div_bd {a b : Int} (ha : 0 ≤ a) (hb : 0 < b) : 0 ≤ a / b ∧ a / b ≤ a :=
  ⟨Int.ediv_nonneg ha (by omega), Int.ediv_le_self b ha⟩
theorem floor_tdiv {x b : Int} (hb : 0 < b) : (if Int.tmod x b < 0 then Int.tdiv x b - 1 else Int.tdiv x b) = x / b := by
  by_cases h : 0 ≤ x
  · have h0 := Int.emod_nonneg x (Int.ne_of_gt hb)
    rw [tmod_pos h, tdiv_pos h, if_neg (by omega)]
  · rw [tmod_neg (by omega), tdiv_neg (by omega)]
    have h0 := Int.emod_nonneg (-x) (Int.ne_of_gt hb)
    have e := neg_div (a := -x) hb
    rw [Int.neg_neg] at e
    rw [e]
    by_cases hz : (-x) % b = 0
    · rw [if_pos hz, if_neg (by omega)]
    · rw [if_neg hz, if_pos (by omega)]
theorem floor_bd {x b : Int} (hb : 0 < b) : (0 ≤ x → 0 ≤ x / b ∧ x / b ≤ x) ∧ (x < 0 → x ≤ x / b ∧ x / b < 0) := by
  refine ⟨fun h => div_bd h hb, fun h => ?_⟩
  have e := neg_div (a := -x) hb
  rw [Int.neg_neg] at e
  have d := div_bd (a := -x) (by omega) hb
  have p := div_parts (-x) b
  have h0 := Int.emod_nonneg (-x) (Int.ne_of_gt hb)
  rw [e]
  split
  · next hz =>
    rw [hz] at p
    have : (-x) / b ≠ 0 := fun e0 => by rw [e0, Int.mul_zero] at p; omega
    omega
  · next hz =>
    have : (-x) / b < -x := by
      rcases Int.lt_or_eq_of_le d.2 with h2 | h2
      · exact h2
      · exfalso
        rw [h2] at p
        have hb1 : b ≠ 1 := fun e1 => by subst e1; omega
        have : 2 * (-x) ≤ b * (-x) := Int.mul_le_mul_of_nonneg_right (by omega) (by omega)
        omega
    omega

theorem inRange_eq (a b c : Int) : impl_inRange.f a b c = some (decide (b ≤ a ∧ a ≤ c)) := by
  unfold impl_inRange.f; by_cases h : b ≤ a <;> simp [h]

theorem l1In_eq (a b c : Int) : spec_l1In.f a b c = some (decide (b ≤ a ∧ a ≤ c)) := by
  unfold spec_l1In.f; by_cases h : b ≤ a <;> simp [h]

theorem codeIf_eq (b : Bool) (c : Int) : impl_codeIf.f b c = some (if b = true then c else 0) := by
  unfold impl_codeIf.f; cases b <;> rfl

theorem floorDiv_eq (x b : Int) (hb : 0 < b) (h0 : -9000000000000000000 ≤ x) (h1 : x ≤ 9000000000000000000) : impl_floorDiv.f x b = some (x / b) := by
  have e := floor_tdiv (x := x) hb
  have d := floor_bd (x := x) hb
  unfold impl_floorDiv.f
  rw [if_neg (by omega)]
  by_cases h : Int.tmod x b < 0
  · rw [if_pos h] at e ⊢
    rw [w64 (x := Int.tdiv x b) (by omega) (by omega), w64 (by omega) (by omega), e]
  · rw [if_neg h] at e ⊢
    rw [w64 (by omega) (by omega), e]

theorem ceilDiv_eq (x b : Int) (hb : 0 < b) (h0 : -9000000000000000000 ≤ x) (h1 : x ≤ 9000000000000000000) : impl_ceilDiv.f x b = some (-((-x) / b)) := by
  have d := floor_bd (x := -x) hb
  unfold impl_ceilDiv.f
  rw [w64 (by omega) (by omega), floorDiv_eq _ _ hb (by omega) (by omega)]
  simp only [Option.bind_some]
  rw [w64 (by omega) (by omega)]

theorem l1Ceil_eq (x b : Int) (hb : 0 < b) (h0 : 0 ≤ x) (h1 : x + b ≤ 9000000000000000000) : spec_l1Ceil.f x b = some (-((-x) / b)) := by
  have e := ceil_div (a := x) hb
  have d := div_bd (a := x + b - 1) (by omega) hb
  unfold spec_l1Ceil.f
  rw [if_neg (by omega), w64 (x := x + b) (by omega) (by omega), w64 (x := x + b - 1) (by omega) (by omega), tdiv_pos (by omega), w64 (by omega) (by omega), e]

theorem rd_nat (xs : List Int) (i : Nat) : rd xs (i : Int) = xs.getD i 0 := by unfold rd; rw [Int.toNat_natCast]
theorem rd_get (xs : List Int) (i : Nat) (h : i < xs.length) : rd xs (i : Int) = xs[i] := by
  rw [rd_nat, List.getD_eq_getElem?_getD, List.getElem?_eq_getElem h]; rfl
theorem w64_succ (i : Nat) (h : i ≤ 4000000000000000000) : wrap64 ((i : Int) + 1) = ((i + 1 : Nat) : Int) := by
  rw [w64 (by omega) (by omega)]; omega
theorem nat_nonneg (i : Nat) : 0 ≤ (i : Int) := Int.natCast_nonneg i
theorem set_get_take {xs ys : List Int} {i : Nat} (hl : ys.length = xs.length) (ht : ys.take i = xs.take i) (hi : i < xs.length) :
    (ys.set i (rd xs (i : Int))).take (i + 1) = xs.take (i + 1) := by
  rw [rd_get xs i hi]
  apply List.ext_getElem?
  intro n
  by_cases hn : n < i + 1
  · rw [List.getElem?_take_of_lt hn, List.getElem?_take_of_lt hn]
    by_cases e : n = i
    · subst e
      rw [List.getElem?_set_self (by omega), List.getElem?_eq_getElem hi]
    · rw [List.getElem?_set_ne (by omega)]
      have := congrArg (fun l => l[n]?) ht
      simp only [List.getElem?_take_of_lt (show n < i by omega)] at this
      exact this
  · rw [List.getElem?_take_eq_none (by omega), List.getElem?_take_eq_none (by omega)]

theorem toInt64S_l0 (xs : List Int) (hn : xs.length ≤ 1000000000000000000) : ∀ (d i : Nat) (ys : List Int) (k : Nat), i + d = xs.length → d < k → ys.length = xs.length → ys.take i = xs.take i →
    laws_toInt64S.l0 k xs ys (i : Int) = some xs := by
  intro d
  induction d with
  | zero =>
    intro i ys k hi hk hl ht
    obtain ⟨k, rfl⟩ : ∃ m, k = m + 1 := ⟨k - 1, by omega⟩
    simp only [laws_toInt64S.l0]
    rw [if_neg (by omega)]
    rw [List.take_of_length_le (by omega), List.take_of_length_le (by omega)] at ht
    rw [ht]
  | succ d ih =>
    intro i ys k hi hk hl ht
    obtain ⟨k, rfl⟩ : ∃ m, k = m + 1 := ⟨k - 1, by omega⟩
    simp only [laws_toInt64S.l0]
    rw [if_pos (by omega), if_pos (by omega), if_pos (by omega), w64_succ _ (by omega), Int.toNat_natCast]
    exact ih (i + 1) _ k (by omega) (by omega) (by rw [List.length_set, hl]) (set_get_take hl ht (by omega))
theorem toInt64S_eq (xs : List Int) (hn : xs.length ≤ 1048576) (k : Nat) (hk : xs.length < k) : laws_toInt64S.f k xs = some xs := by
  unfold laws_toInt64S.f
  rw [if_pos (by omega), if_pos (by omega), Int.toNat_natCast]
  exact toInt64S_l0 xs (by omega) xs.length 0 _ k (by omega) hk (by simp) (by simp)

theorem eqInt64S_l0 (xs : List Int) (hn : xs.length ≤ 1000000000000000000) : ∀ (d i : Nat) (k : Nat), i + d = xs.length → d < k → laws_eqInt64S.l0 k xs xs (i : Int) = some true := by
  intro d
  induction d with
  | zero =>
    intro i k hi hk
    obtain ⟨k, rfl⟩ : ∃ m, k = m + 1 := ⟨k - 1, by omega⟩
    simp only [laws_eqInt64S.l0]
    rw [if_neg (by omega)]
  | succ d ih =>
    intro i k hi hk
    obtain ⟨k, rfl⟩ : ∃ m, k = m + 1 := ⟨k - 1, by omega⟩
    simp only [laws_eqInt64S.l0]
    rw [if_pos (by omega), if_pos (by omega), if_pos (by omega), if_pos trivial, w64_succ _ (by omega)]
    exact ih (i + 1) k (by omega) (by omega)
theorem eqInt64S_refl (xs : List Int) (hn : xs.length ≤ 1000000000000000000) (k : Nat) (hk : xs.length < k) : laws_eqInt64S.f k xs xs = some true := by
  unfold laws_eqInt64S.f
  rw [if_pos rfl]
  exact eqInt64S_l0 xs hn xs.length 0 k (by omega) hk

theorem markInt64S_l0 : ∀ (d i : Nat) (xs : List Int) (m k : Nat), i + d = xs.length → d < k → xs.length ≤ 1000000000000000000 → m + d ≤ 1000000000000000000 →
    ∃ ys, laws_markInt64S.l0 k xs (m : Int) (i : Int) = some (((m + d : Nat) : Int), ys) ∧ ys.length = xs.length ∧ (∀ j, j < i → ys.getD j 0 = xs.getD j 0) ∧ ∀ j, i ≤ j → j < xs.length → ys.getD j 0 = ((m + (j - i) : Nat) : Int) := by
  intro d
  induction d with
  | zero =>
    intro i xs m k hi hk hn hm
    obtain ⟨k, rfl⟩ : ∃ q, k = q + 1 := ⟨k - 1, by omega⟩
    refine ⟨xs, ?_, rfl, fun j _ => rfl, fun j h1 h2 => by omega⟩
    simp only [laws_markInt64S.l0]
    rw [if_neg (by omega)]; rfl
  | succ d ih =>
    intro i xs m k hi hk hn hm
    obtain ⟨k, rfl⟩ : ∃ q, k = q + 1 := ⟨k - 1, by omega⟩
    obtain ⟨ys, h1, h2, h3, h4⟩ := ih (i + 1) (xs.set i (((m : Nat) : Int))) (m + 1) k (by rw [List.length_set]; omega) (by omega) (by rw [List.length_set]; omega) (by omega)
    rw [List.length_set] at h2 h4
    refine ⟨ys, ?_, h2, fun j hj => ?_, fun j hj1 hj2 => ?_⟩
    · simp only [laws_markInt64S.l0]
      rw [if_pos (by omega), if_pos (by omega), w64_succ _ (by omega), w64_succ _ (by omega), Int.toNat_natCast, h1]
      rw [show m + 1 + d = m + (d + 1) by omega]
    · rw [h3 j (by omega), List.getD_eq_getElem?_getD, List.getElem?_set_ne (by omega), ← List.getD_eq_getElem?_getD]
    · by_cases e : j = i
      · subst e
        rw [h3 j (by omega), List.getD_eq_getElem?_getD, List.getElem?_set_self (by omega)]
        simp
      · rw [h4 j (by omega) hj2]
        rw [show m + 1 + (j - (i + 1)) = m + (j - i) by omega]

theorem heldInt64S_l0 (ys : List Int) (m0 : Nat) (hn : ys.length ≤ 1000000000000000000) (hm : m0 ≤ 1000000000000000000) (hy : ∀ j, j < ys.length → ys.getD j 0 = ((m0 + j : Nat) : Int)) : ∀ (d i k : Nat), i + d = ys.length → d < k →
    laws_heldInt64S.l0 k ys ((m0 + i : Nat) : Int) (i : Int) = some ((m0 + ys.length : Nat) : Int) := by
  intro d
  induction d with
  | zero =>
    intro i k hi hk
    obtain ⟨k, rfl⟩ : ∃ q, k = q + 1 := ⟨k - 1, by omega⟩
    simp only [laws_heldInt64S.l0]
    rw [if_neg (by omega)]
    rw [show i = ys.length by omega]
  | succ d ih =>
    intro i k hi hk
    obtain ⟨k, rfl⟩ : ∃ q, k = q + 1 := ⟨k - 1, by omega⟩
    simp only [laws_heldInt64S.l0]
    rw [if_pos (by omega), if_pos (by omega), rd_nat, if_pos (hy i (by omega)), w64_succ _ (by omega), w64_succ _ (by omega)]
    exact ih (i + 1) k (by omega) (by omega)
theorem mark_held_ints (xs : List Int) (m k : Nat) (hn : xs.length ≤ 100000000000000000) (hm : m ≤ 100000000000000000) (hk : xs.length < k) :
    ∃ ys, laws_markInt64S.f k xs (m : Int) = some (((m + xs.length : Nat) : Int), ys) ∧ ys.length = xs.length ∧ laws_heldInt64S.f k ys (m : Int) = some ((m + xs.length : Nat) : Int) := by
  obtain ⟨ys, h1, h2, h3, h4⟩ := markInt64S_l0 xs.length 0 xs m k (by omega) hk (by omega) (by omega)
  refine ⟨ys, h1, h2, ?_⟩
  have := heldInt64S_l0 ys m (by omega) (by omega) (fun j hj => by have := h4 j (by omega) (by omega); simpa using this) ys.length 0 k (by omega) (by omega)
  rw [h2] at this
  exact this

def sizeF (a : Int) : Int := if a = 4 then 0 else if a = 8 then 0 else if a = 16 then 0 else 3
theorem sizeF_cases (a : Int) : (sizeF a = 0 ∧ (a = 4 ∨ a = 8 ∨ a = 16)) ∨ (sizeF a = 3 ∧ a ≠ 4 ∧ a ≠ 8 ∧ a ≠ 16) := by
  unfold sizeF
  by_cases h1 : a = 4
  · simp [h1]
  · by_cases h2 : a = 8
    · simp [h2]
    · by_cases h3 : a = 16 <;> simp [h1, h2, h3]
def allIn (lo hi : Int) (xs : List Int) : Bool := xs.all fun n => decide (lo ≤ n ∧ n ≤ hi)
def In (lo hi : Int) (xs : List Int) : Prop := ∀ x ∈ xs, lo ≤ x ∧ x ≤ hi
theorem allIn_iff (lo hi : Int) (xs : List Int) : allIn lo hi xs = true ↔ In lo hi xs := by
  unfold allIn
  rw [List.all_eq_true]
  exact ⟨fun h x hx => by simpa using h x hx, fun h x hx => by simpa using h x hx⟩
theorem allIn_cons (lo hi x : Int) (xs : List Int) : allIn lo hi (x :: xs) = (decide (lo ≤ x ∧ x ≤ hi) && allIn lo hi xs) := rfl
theorem drop_rd' (xs : List Int) (i : Nat) (h : i < xs.length) : xs.drop i = rd xs (i : Int) :: xs.drop (i + 1) := by
  rw [rd_get xs i h]; exact List.drop_eq_getElem_cons h
def nz : List Int → Int
  | [] => 0
  | x :: xs => if x = 0 then nz xs else x

theorem spec_SizeFault_eq (a : Int) : spec_SizeFault.f a = some (sizeF a) := by
  unfold spec_SizeFault.f sizeF
  by_cases h1 : a = 4
  · simp [h1]
  · by_cases h2 : a = 8
    · simp [h2]
    · by_cases h3 : a = 16 <;> simp [h1, h2, h3]

theorem impl_SizeFault_eq (a : Int) : impl_SizeFault.f a = some (sizeF a) := by
  unfold impl_SizeFault.f sizeF
  by_cases h1 : a = 4
  · simp [h1]
  · by_cases h2 : a = 8
    · simp [h2]
    · by_cases h3 : a = 16 <;> simp [h1, h2, h3]

theorem first_l0 (xs : List Int) (hn : xs.length ≤ 1000) : ∀ (d i k : Nat), i + d = xs.length → d < k → impl_first.l0 k xs (xs.length : Int) (i : Int) = some (nz (xs.drop i)) := by
  intro d
  induction d with
  | zero =>
    intro i k hi hk
    obtain ⟨k, rfl⟩ : ∃ m, k = m + 1 := ⟨k - 1, by omega⟩
    simp only [impl_first.l0]
    rw [if_neg (by omega), List.drop_of_length_le (by omega)]; rfl
  | succ d ih =>
    intro i k hi hk
    obtain ⟨k, rfl⟩ : ∃ m, k = m + 1 := ⟨k - 1, by omega⟩
    simp only [impl_first.l0]
    rw [if_pos (by omega), if_pos (by omega), if_pos (by omega), drop_rd' xs i (by omega), nz]
    by_cases h : rd xs (i : Int) = 0
    · rw [if_pos h, if_pos h, w64_succ _ (by omega)]
      exact ih (i + 1) k (by omega) (by omega)
    · rw [if_neg h, if_neg h]
theorem first_eq (xs : List Int) (hn : xs.length ≤ 1000) (k : Nat) (hk : xs.length < k) : impl_first.f k xs = some (nz xs) :=
  first_l0 xs hn xs.length 0 k (by omega) hk

theorem neg_cast (n : Nat) : ¬ ((n : Int) < 0) := by omega

def tn (x : Int) : Int := (x + 512) / 1024
theorem mul_bd {p b M : Int} (hp : 0 ≤ p) (hp2 : p ≤ 1024) (hb : -M ≤ b) (hb2 : b ≤ M) : -(1024 * M) ≤ p * b ∧ p * b ≤ 1024 * M := by
  have h1 := Int.mul_le_mul_of_nonneg_left hb2 hp
  have h2 := Int.mul_le_mul_of_nonneg_left hb hp
  have h3 := Int.mul_le_mul_of_nonneg_right hp2 (show 0 ≤ M by omega)
  rw [Int.mul_neg] at h2
  omega
theorem tn_bd {x M : Int} (h0 : -(1024 * M) ≤ x) (h1 : x ≤ 1024 * M) : -M ≤ tn x ∧ tn x ≤ M := by unfold tn; omega
def forth (p u a b : Int) : Int × Int :=
  (a - tn (p * b) - tn (p * (b + tn (u * (a - tn (p * b))))), b + tn (u * (a - tn (p * b))))
def back (p u a b : Int) : Int × Int :=
  (a + tn (p * b) + tn (p * (b - tn (u * (a + tn (p * b))))), b - tn (u * (a + tn (p * b))))
theorem back_forth (p u a b : Int) : back p u (forth p u a b).1 (forth p u a b).2 = (a, b) := by
  unfold back forth
  simp only
  have e1 : a - tn (p * b) - tn (p * (b + tn (u * (a - tn (p * b))))) + tn (p * (b + tn (u * (a - tn (p * b))))) = a - tn (p * b) := by omega
  rw [e1]
  have e2 : b + tn (u * (a - tn (p * b))) - tn (u * (a - tn (p * b))) = b := by omega
  rw [e2]
  have e3 : a - tn (p * b) + tn (p * b) = a := by omega
  rw [e3]
theorem forth_back (p u a b : Int) : forth p u (back p u a b).1 (back p u a b).2 = (a, b) := by
  unfold back forth
  simp only
  have e1 : a + tn (p * b) + tn (p * (b - tn (u * (a + tn (p * b))))) - tn (p * (b - tn (u * (a + tn (p * b))))) = a + tn (p * b) := by omega
  rw [e1]
  have e2 : b - tn (u * (a + tn (p * b))) + tn (u * (a + tn (p * b))) = b := by omega
  rw [e2]
  have e3 : a + tn (p * b) - tn (p * b) = a := by omega
  rw [e3]
def Valid (s n : Int) : Prop := (s = 4 ∧ (n = 0 ∨ n = 1)) ∨ (s = 8 ∧ (n = 0 ∨ n = 1 ∨ n = 2 ∨ n = 3)) ∨ (s = 16 ∧ (n = 0 ∨ n = 1 ∨ n = 2 ∨ n = 3 ∨ n = 4 ∨ n = 5 ∨ n = 6 ∨ n = 7))
def tfault (s n : Int) : Int := if sizeF s = 0 then (if 0 ≤ n ∧ n ≤ wrap64 (wrap64 (Int.tdiv s 2) - 1) then 0 else 3) else 3
theorem tfault_cases (s n : Int) : (tfault s n = 0 ∧ Valid s n) ∨ tfault s n = 3 := by
  unfold tfault
  rcases sizeF_cases s with ⟨h, hc⟩ | ⟨h, _⟩
  · rw [if_pos h]
    by_cases hn : 0 ≤ n ∧ n ≤ wrap64 (wrap64 (Int.tdiv s 2) - 1)
    · rw [if_pos hn]
      refine .inl ⟨rfl, ?_⟩
      unfold Valid
      rcases hc with rfl | rfl | rfl
      · have e : wrap64 (wrap64 (Int.tdiv 4 2) - 1) = 1 := by unfold wrap64; decide
        rw [e] at hn; omega
      · have e : wrap64 (wrap64 (Int.tdiv 8 2) - 1) = 3 := by unfold wrap64; decide
        rw [e] at hn; omega
      · have e : wrap64 (wrap64 (Int.tdiv 16 2) - 1) = 7 := by unfold wrap64; decide
        rw [e] at hn; omega
    · rw [if_neg hn]; exact .inr rfl
  · rw [if_neg (by omega)]; exact .inr rfl

def pu (s n : Int) : Int × Int := (impl_turnOf.f s n).getD (0, 0)
theorem turnOf_eq {s n : Int} (h : Valid s n) : impl_turnOf.f s n = some (pu s n) ∧ (0 ≤ (pu s n).1 ∧ (pu s n).1 ≤ 1024) ∧ (0 ≤ (pu s n).2 ∧ (pu s n).2 ≤ 1024) := by
  unfold Valid at h
  rcases h with ⟨rfl, rfl | rfl⟩ | ⟨rfl, rfl | rfl | rfl | rfl⟩ | ⟨rfl, rfl | rfl | rfl | rfl | rfl | rfl | rfl | rfl⟩ <;> exact ⟨rfl, by decide, by decide⟩

theorem l5P_eq {s n : Int} (h : Valid s n) : spec_l5P.f s n = some (pu s n).1 := by
  unfold Valid at h
  rcases h with ⟨rfl, rfl | rfl⟩ | ⟨rfl, rfl | rfl | rfl | rfl⟩ | ⟨rfl, rfl | rfl | rfl | rfl | rfl | rfl | rfl | rfl⟩ <;> (unfold spec_l5P.f wrap64; decide)

theorem l5U_eq {s n : Int} (h : Valid s n) : spec_l5U.f s n = some (pu s n).2 := by
  unfold Valid at h
  rcases h with ⟨rfl, rfl | rfl⟩ | ⟨rfl, rfl | rfl | rfl | rfl⟩ | ⟨rfl, rfl | rfl | rfl | rfl | rfl | rfl | rfl | rfl⟩ <;> (unfold spec_l5U.f wrap64; decide)

def sh (f b : Int) : Int := -((-(f * b)) / 1024)
theorem sh_bd {f b : Int} (hf : 0 ≤ f) (hf2 : f ≤ 1024) (hb : 0 ≤ b) : 0 ≤ sh f b ∧ sh f b ≤ b ∧ 0 ≤ f * b ∧ f * b ≤ 1024 * b := by
  have h1 := Int.mul_le_mul_of_nonneg_right hf2 hb
  have h2 := Int.mul_nonneg hf hb
  unfold sh
  omega
def tb (p u a b : Int) : Int × Int := (a + sh p b + sh p (b + sh u (a + sh p b)), b + sh u (a + sh p b))

theorem l8Share_eq (f b : Int) (hf : 0 ≤ f ∧ f ≤ 1024) (hb : 0 ≤ b ∧ b ≤ 1125899906842624) : spec_l8Share.f f b = some (sh f b) := by
  have h := sh_bd hf.1 hf.2 hb.1
  unfold spec_l8Share.f
  rw [w64 (x := f * b) (by omega) (by omega), l1Ceil_eq _ _ (by omega) (by omega) (by omega)]
  rfl

theorem share_eq (f b : Int) (hf : 0 ≤ f ∧ f ≤ 1024) (hb : 0 ≤ b ∧ b ≤ 1125899906842624) : impl_share.f f b = some (sh f b) := by
  have h := sh_bd hf.1 hf.2 hb.1
  unfold impl_share.f
  rw [w64 (x := f * b) (by omega) (by omega), ceilDiv_eq _ _ (by omega) (by omega) (by omega)]
  rfl

theorem turn_bounds_eq (p u a b : Int) (hp : 0 ≤ p ∧ p ≤ 1024) (hu : 0 ≤ u ∧ u ≤ 1024) (ha : 0 ≤ a ∧ a ≤ 140737488355328) (hb : 0 ≤ b ∧ b ≤ 140737488355328) : impl_turn_bounds.f p u a b = some (tb p u a b) := by
  have h1 := sh_bd hp.1 hp.2 hb.1
  have h2 := sh_bd (b := a + sh p b) hu.1 hu.2 (by omega)
  have h3 := sh_bd (b := b + sh u (a + sh p b)) hp.1 hp.2 (by omega)
  unfold impl_turn_bounds.f
  rw [share_eq p b hp (by omega)]
  simp only [Option.bind_some]
  rw [w64 (x := a + sh p b) (by omega) (by omega), share_eq u _ hu (by omega)]
  simp only [Option.bind_some]
  rw [w64 (x := b + sh u (a + sh p b)) (by omega) (by omega), share_eq p _ hp (by omega)]
  simp only [Option.bind_some]
  rw [w64 (by omega) (by omega)]
  rfl

theorem l8Turn_eq {s n : Int} (hv : Valid s n) (a b : Int) (ha : 0 ≤ a ∧ a ≤ 140737488355328) (hb : 0 ≤ b ∧ b ≤ 140737488355328) : spec_l8Turn.f s n a b = some (tb (pu s n).1 (pu s n).2 a b) := by
  obtain ⟨_, hp, hu⟩ := turnOf_eq hv
  have eP := l5P_eq hv
  have eU := l5U_eq hv
  generalize (pu s n).1 = p at hp eP ⊢
  generalize (pu s n).2 = u at hu eU ⊢
  have h1 := sh_bd hp.1 hp.2 hb.1
  have h2 := sh_bd (b := a + sh p b) hu.1 hu.2 (by omega)
  have h3 := sh_bd (b := b + sh u (a + sh p b)) hp.1 hp.2 (by omega)
  unfold spec_l8Turn.f
  rw [eP, eU]
  simp only [Option.bind_some]
  rw [l8Share_eq p b hp (by omega)]
  simp only [Option.bind_some]
  rw [w64 (x := a + sh p b) (by omega) (by omega), l8Share_eq u _ hu (by omega)]
  simp only [Option.bind_some]
  rw [w64 (x := b + sh u (a + sh p b)) (by omega) (by omega), l8Share_eq p _ hp (by omega)]
  simp only [Option.bind_some]
  rw [w64 (by omega) (by omega)]
  rfl

theorem l1All_l0 (xs : List Int) (lo hi : Int) (hn : xs.length ≤ 1000000000000) : ∀ (d i k : Nat), i + d = xs.length → d < k → spec_l1All.l0 k xs lo hi (i : Int) = some (allIn lo hi (xs.drop i)) := by
  intro d
  induction d with
  | zero =>
    intro i k hi' hk
    obtain ⟨k, rfl⟩ : ∃ m, k = m + 1 := ⟨k - 1, by omega⟩
    simp only [spec_l1All.l0]
    rw [if_neg (by omega), List.drop_of_length_le (by omega)]; rfl
  | succ d ih =>
    intro i k hi' hk
    obtain ⟨k, rfl⟩ : ∃ m, k = m + 1 := ⟨k - 1, by omega⟩
    simp only [spec_l1All.l0]
    rw [if_pos (by omega), if_pos (by omega), l1In_eq, drop_rd' xs i (by omega), allIn_cons]
    simp only [Option.bind_some]
    by_cases h : lo ≤ rd xs (i : Int) ∧ rd xs (i : Int) ≤ hi
    · rw [decide_eq_true h, if_pos rfl, w64_succ _ (by omega), ih (i + 1) k (by omega) (by omega)]; rfl
    · rw [decide_eq_false h]; rfl
theorem l1All_eq (xs : List Int) (lo hi : Int) (hn : xs.length ≤ 1000000000000) (k : Nat) (hk : xs.length < k) : spec_l1All.f k xs lo hi = some (allIn lo hi xs) :=
  l1All_l0 xs lo hi hn xs.length 0 k (by omega) hk

theorem bindS {α β : Type} (a : α) (f : α → Option β) : (some a).bind f = f a := by cases h : (some a).bind f <;> (rw [← h]; rfl)
def gen (n : Nat) (f : Nat → Int) : List Int := (List.range n).map f
theorem gen_length (n : Nat) (f : Nat → Int) : (gen n f).length = n := by simp [gen]
theorem rd_gen (n : Nat) (f : Nat → Int) {j : Nat} (h : j < n) : rd (gen n f) (j : Int) = f j := by
  rw [rd_get _ j (by rw [gen_length]; exact h)]; simp [gen]
theorem rd_out (xs : List Int) {j : Nat} (h : xs.length ≤ j) : rd xs (j : Int) = 0 := by
  rw [rd_nat, List.getD_eq_getElem?_getD, List.getElem?_eq_none h]; rfl
theorem rd_set (xs : List Int) {i : Nat} (v : Int) (h : i < xs.length) (j : Nat) : rd (xs.set i v) (j : Int) = if j = i then v else rd xs (j : Int) := by
  rw [rd_nat, rd_nat, List.getD_eq_getElem?_getD, List.getD_eq_getElem?_getD]
  by_cases e : j = i
  · subst e; rw [if_pos rfl, List.getElem?_set_self h]; rfl
  · rw [if_neg e, List.getElem?_set_ne (fun q => e q.symm)]
theorem ext_rd {xs ys : List Int} (hl : xs.length = ys.length) (h : ∀ j : Nat, j < xs.length → rd xs (j : Int) = rd ys (j : Int)) : xs = ys := by
  apply List.ext_getElem hl
  intro j h1 h2
  have := h j h1
  rwa [rd_get xs j h1, rd_get ys j h2] at this
theorem gen_succ (n : Nat) (f : Nat → Int) : gen (n + 1) f = gen n f ++ [f n] := by simp [gen, List.range_succ]
theorem gen_rd (xs : List Int) {n : Nat} (h : xs.length = n) : gen n (fun j => rd xs (j : Int)) = xs :=
  ext_rd (by rw [gen_length, h]) (fun j hj => by rw [gen_length] at hj; rw [rd_gen _ _ hj])
theorem gen_congr {n : Nat} {f g : Nat → Int} (h : ∀ j, j < n → f j = g j) : gen n f = gen n g :=
  ext_rd (by rw [gen_length, gen_length]) (fun j hj => by rw [gen_length] at hj; rw [rd_gen _ _ hj, rd_gen _ _ hj, h j hj])
theorem zeros_gen (n : Nat) : List.replicate n (0 : Int) = gen n (fun _ => 0) := List.ext_getElem (by simp [gen]) (fun i h1 h2 => by simp [gen])
/-- the last half of a list, written from both ends -/
def U (m : Nat) (f g : Nat → Int) (i : Nat) : List Int := gen (2 * m) fun j => if j < m then (if j < i then f j else 0) else (if 2 * m - 1 - j < i then g (2 * m - 1 - j) else 0)
theorem U_zero (m : Nat) (f g : Nat → Int) : U m f g 0 = List.replicate (2 * m) 0 := by
  rw [zeros_gen]; unfold U
  exact gen_congr (fun j _ => by by_cases h : j < m <;> simp [h])
theorem U_length (m : Nat) (f g : Nat → Int) (i : Nat) : (U m f g i).length = 2 * m := gen_length _ _
theorem U_step (m : Nat) (f g : Nat → Int) {i : Nat} (hi : i < m) : ((U m f g i).set i (f i)).set (2 * m - 1 - i) (g i) = U m f g (i + 1) := by
  refine ext_rd (by rw [List.length_set, List.length_set, U_length, U_length]) ?_
  intro j hj
  rw [List.length_set, List.length_set, U_length] at hj
  rw [rd_set _ _ (by rw [List.length_set, U_length]; omega), rd_set _ _ (by rw [U_length]; omega)]
  unfold U
  rw [rd_gen _ _ hj, rd_gen _ _ hj]
  by_cases h1 : j = 2 * m - 1 - i
  · rw [if_pos h1, if_neg (show ¬ j < m by omega), if_pos (show 2 * m - 1 - j < i + 1 by omega), show 2 * m - 1 - j = i by omega]
  · rw [if_neg h1]
    by_cases h2 : j = i
    · rw [if_pos h2, if_pos (show j < m by omega), if_pos (show j < i + 1 by omega), h2]
    · rw [if_neg h2]
      by_cases h3 : j < m
      · rw [if_pos h3, if_pos h3]
        by_cases h4 : j < i
        · rw [if_pos h4, if_pos (by omega)]
        · rw [if_neg h4, if_neg (by omega)]
      · rw [if_neg h3, if_neg h3]
        by_cases h4 : 2 * m - 1 - j < i
        · rw [if_pos h4, if_pos (by omega)]
        · rw [if_neg h4, if_neg (by omega)]
theorem U_end (m : Nat) (f g : Nat → Int) : U m f g m = gen (2 * m) fun j => if j < m then f j else g (2 * m - 1 - j) := by
  unfold U
  refine gen_congr (fun j hj => ?_)
  by_cases h : j < m
  · rw [if_pos h, if_pos h, if_pos h]
  · rw [if_neg h, if_neg h, if_pos (by omega)]
/-- a list turned from both ends -/
def W (m : Nat) (d : List Int) (f g : Nat → Int) (i : Nat) : List Int := gen m fun j => if j < i then f j else if m - 1 - j < i then g (m - 1 - j) else rd d (j : Int)
theorem W_zero (m : Nat) (d : List Int) (f g : Nat → Int) (h : d.length = m) : W m d f g 0 = d := by
  unfold W
  refine (gen_congr (fun j _ => ?_)).trans (gen_rd d h)
  rw [if_neg (by omega), if_neg (by omega)]
theorem W_length (m : Nat) (d : List Int) (f g : Nat → Int) (i : Nat) : (W m d f g i).length = m := gen_length _ _
theorem W_lo (m : Nat) (d : List Int) (f g : Nat → Int) {i : Nat} (h : 2 * (i + 1) ≤ m) : rd (W m d f g i) (i : Int) = rd d (i : Int) := by
  unfold W; rw [rd_gen _ _ (by omega), if_neg (by omega), if_neg (by omega)]
theorem W_hi (m : Nat) (d : List Int) (f g : Nat → Int) {i : Nat} (h : 2 * (i + 1) ≤ m) : rd (W m d f g i) ((m - 1 - i : Nat) : Int) = rd d ((m - 1 - i : Nat) : Int) := by
  unfold W; rw [rd_gen _ _ (by omega), if_neg (by omega), if_neg (by omega)]
theorem W_step (m : Nat) (d : List Int) (f g : Nat → Int) {i : Nat} (h : 2 * (i + 1) ≤ m) : ((W m d f g i).set i (f i)).set (m - 1 - i) (g i) = W m d f g (i + 1) := by
  refine ext_rd (by rw [List.length_set, List.length_set, W_length, W_length]) ?_
  intro j hj
  rw [List.length_set, List.length_set, W_length] at hj
  rw [rd_set _ _ (by rw [List.length_set, W_length]; omega), rd_set _ _ (by rw [W_length]; omega)]
  unfold W
  rw [rd_gen _ _ hj, rd_gen _ _ hj]
  by_cases h1 : j = m - 1 - i
  · rw [if_pos h1, if_neg (by omega), if_pos (by omega), show m - 1 - j = i by omega]
  · rw [if_neg h1]
    by_cases h2 : j = i
    · rw [if_pos h2, if_pos (by omega), h2]
    · rw [if_neg h2]
      by_cases h3 : j < i
      · rw [if_pos h3, if_pos (by omega)]
      · rw [if_neg h3, if_neg (show ¬ j < i + 1 by omega)]
        by_cases h4 : m - 1 - j < i
        · rw [if_pos h4, if_pos (by omega)]
        · rw [if_neg h4, if_neg (by omega)]
def twist (st : Nat → Int → Int → Int × Int) (q : Nat) (d : List Int) : List Int :=
  W d.length d (fun j => (st j (rd d (j : Int)) (rd d ((d.length - 1 - j : Nat) : Int))).1) (fun j => (st j (rd d (j : Int)) (rd d ((d.length - 1 - j : Nat) : Int))).2) q
theorem twist_length (st : Nat → Int → Int → Int × Int) (q : Nat) (d : List Int) : (twist st q d).length = d.length := W_length _ _ _ _ _
theorem twist_zero (st : Nat → Int → Int → Int × Int) (d : List Int) : twist st 0 d = d := W_zero _ _ _ _ rfl
theorem twist_lo (st : Nat → Int → Int → Int × Int) (d : List Int) {i : Nat} (h : 2 * (i + 1) ≤ d.length) : rd (twist st i d) (i : Int) = rd d (i : Int) := W_lo _ _ _ _ h
theorem twist_hi (st : Nat → Int → Int → Int × Int) (d : List Int) {i : Nat} (h : 2 * (i + 1) ≤ d.length) : rd (twist st i d) ((d.length - 1 - i : Nat) : Int) = rd d ((d.length - 1 - i : Nat) : Int) := W_hi _ _ _ _ h
theorem twist_step (st : Nat → Int → Int → Int × Int) (d : List Int) {i : Nat} (h : 2 * (i + 1) ≤ d.length) :
    ((twist st i d).set i (st i (rd d (i : Int)) (rd d ((d.length - 1 - i : Nat) : Int))).1).set (d.length - 1 - i) (st i (rd d (i : Int)) (rd d ((d.length - 1 - i : Nat) : Int))).2 = twist st (i + 1) d := W_step _ _ _ _ h
def Bd (M : Int) (xs : List Int) : Prop := ∀ j : Nat, -M ≤ rd xs (j : Int) ∧ rd xs (j : Int) ≤ M
theorem Bd.mono {M N : Int} {xs : List Int} (h : Bd M xs) (hm : M ≤ N) : Bd N xs := fun j => by have := h j; omega
theorem Bd_gen {n : Nat} {f : Nat → Int} {M : Int} (h0 : 0 ≤ M) (h : ∀ j, j < n → -M ≤ f j ∧ f j ≤ M) : Bd M (gen n f) := fun j => by
  by_cases hj : j < n
  · rw [rd_gen _ _ hj]; exact h j hj
  · rw [rd_out _ (by rw [gen_length]; omega)]; omega
theorem Bd_twist {st : Nat → Int → Int → Int × Int} {q : Nat} {d : List Int} {N M : Int} (h0 : 0 ≤ N) (hNM : N ≤ M) (hq : 2 * q ≤ d.length) (hd : Bd N d)
    (hs : ∀ i a b, i < q → (-N ≤ a ∧ a ≤ N) → (-N ≤ b ∧ b ≤ N) → (-M ≤ (st i a b).1 ∧ (st i a b).1 ≤ M) ∧ (-M ≤ (st i a b).2 ∧ (st i a b).2 ≤ M)) : Bd M (twist st q d) := by
  unfold twist W
  refine Bd_gen (by omega) (fun j hj => ?_)
  by_cases h1 : j < q
  · rw [if_pos h1]; exact (hs j _ _ h1 (hd _) (hd _)).1
  · rw [if_neg h1]
    by_cases h2 : d.length - 1 - j < q
    · rw [if_pos h2]; exact (hs _ _ _ h2 (hd _) (hd _)).2
    · rw [if_neg h2]; have := hd j; omega
theorem twist_inv {f g : Nat → Int → Int → Int × Int} {q : Nat} {d : List Int} (hq : 2 * q ≤ d.length) (h : ∀ i a b, i < q → g i (f i a b).1 (f i a b).2 = (a, b)) : twist g q (twist f q d) = d := by
  have hl := twist_length f q d
  have rlo : ∀ j, j < q → rd (twist f q d) (j : Int) = (f j (rd d (j : Int)) (rd d ((d.length - 1 - j : Nat) : Int))).1 := fun j hj => by
    unfold twist W; rw [rd_gen _ _ (by omega), if_pos hj]
  have rhi : ∀ j, j < q → rd (twist f q d) ((d.length - 1 - j : Nat) : Int) = (f j (rd d (j : Int)) (rd d ((d.length - 1 - j : Nat) : Int))).2 := fun j hj => by
    unfold twist W; rw [rd_gen _ _ (by omega), if_neg (by omega), if_pos (by omega), show d.length - 1 - (d.length - 1 - j) = j by omega]
  refine ext_rd (by rw [twist_length, hl]) (fun j hj => ?_)
  rw [twist_length, hl] at hj
  rw [show twist g q (twist f q d) = W (twist f q d).length (twist f q d) (fun j => (g j (rd (twist f q d) (j : Int)) (rd (twist f q d) (((twist f q d).length - 1 - j : Nat) : Int))).1) (fun j => (g j (rd (twist f q d) (j : Int)) (rd (twist f q d) (((twist f q d).length - 1 - j : Nat) : Int))).2) q from rfl, hl]
  unfold W
  rw [rd_gen _ _ hj]
  by_cases h1 : j < q
  · rw [if_pos h1]
    simp only [rlo j h1, rhi j h1, h j _ _ h1]
  · rw [if_neg h1]
    by_cases h2 : d.length - 1 - j < q
    · rw [if_pos h2]
      simp only [rlo _ h2, rhi _ h2, h _ _ _ h2]
      rw [show d.length - 1 - (d.length - 1 - j) = j by omega]
    · rw [if_neg h2]
      unfold twist W
      rw [rd_gen _ _ hj, if_neg h1, if_neg h2]
def outs (pf : Int → Int → Int × Int) (s e : List Int) : List Int := gen (2 * s.length) fun j => if j < s.length then (pf (rd s (j : Int)) (rd e (j : Int))).1 else (pf (rd s ((2 * s.length - 1 - j : Nat) : Int)) (rd e ((2 * s.length - 1 - j : Nat) : Int))).2
theorem outs_length (pf : Int → Int → Int × Int) (s e : List Int) : (outs pf s e).length = 2 * s.length := gen_length _ _
def uniteM (st : Nat → Nat → Int → Int → Int × Int) (pf : Int → Int → Int × Int) (s d : List Int) : List Int := outs pf s (twist (st (2 * s.length)) (s.length / 2) d)
theorem uniteM_length (st : Nat → Nat → Int → Int → Int × Int) (pf : Int → Int → Int × Int) (s d : List Int) : (uniteM st pf s d).length = 2 * s.length := gen_length _ _
def evens (c : List Int) : List Int := gen (c.length / 2) fun j => rd c ((2 * j : Nat) : Int)
def odds (c : List Int) : List Int := gen (c.length / 2) fun j => rd c ((2 * j + 1 : Nat) : Int)
def gatherM (st : Nat → Nat → Int → Int → Int × Int) (pf : Int → Int → Int × Int) : Nat → List Int → List Int
  | 0, c => c
  | L + 1, c => uniteM st pf (gatherM st pf L (evens c)) (gatherM st pf L (odds c))
theorem gatherM_length (st : Nat → Nat → Int → Int → Int × Int) (pf : Int → Int → Int × Int) : ∀ (L : Nat) (c : List Int), c.length = 2 ^ L → (gatherM st pf L c).length = 2 ^ L := by
  intro L
  induction L with
  | zero => intro c h; exact h
  | succ L ih =>
    intro c h
    rw [Nat.pow_succ] at h
    rw [gatherM, uniteM_length, ih _ (by unfold evens; rw [gen_length]; omega), Nat.pow_succ]; omega
theorem Bd_evens {M : Int} {c : List Int} (h0 : 0 ≤ M) (h : Bd M c) : Bd M (evens c) := Bd_gen h0 (fun j _ => h _)
theorem Bd_odds {M : Int} {c : List Int} (h0 : 0 ≤ M) (h : Bd M c) : Bd M (odds c) := Bd_gen h0 (fun j _ => h _)
def Sz (m : Nat) : Prop := m = 1 ∨ m = 2 ∨ m = 4 ∨ m = 8
theorem idx1 {m i : Nat} (hm : m ≤ 8) (hi : i < m) : wrap64 (wrap64 (wrap64 (Int.tdiv ((2 * m : Nat) : Int) 2) - 1) - (i : Int)) = ((m - 1 - i : Nat) : Int) := by
  rw [tdiv_pos (by omega), w64 (x := ((2 * m : Nat) : Int) / 2) (by omega) (by omega), w64 (x := ((2 * m : Nat) : Int) / 2 - 1) (by omega) (by omega), w64 (by omega) (by omega)]
  omega
theorem idx2 {m i : Nat} (hm : m ≤ 8) (hi : i < 2 * m) : wrap64 (wrap64 (((2 * m : Nat) : Int) - 1) - (i : Int)) = ((2 * m - 1 - i : Nat) : Int) := by
  rw [w64 (x := ((2 * m : Nat) : Int) - 1) (by omega) (by omega), w64 (by omega) (by omega)]
  omega
theorem quart {m : Nat} (hm : m ≤ 8) : wrap64 (Int.tdiv ((2 * m : Nat) : Int) 4) = ((m / 2 : Nat) : Int) := by
  rw [tdiv_pos (by omega), w64 (by omega) (by omega)]; omega
theorem halfI {m : Nat} (hm : m ≤ 8) : wrap64 (Int.tdiv ((2 * m : Nat) : Int) 2) = (m : Int) := by
  rw [tdiv_pos (by omega), w64 (by omega) (by omega)]; omega

theorem Bd_all {N : Int} {xs : List Int} (h0 : 0 ≤ N) (h : allIn (-N) N xs = true) : Bd N xs := fun j => by
  by_cases hj : j < xs.length
  · rw [rd_get xs j hj]; exact (allIn_iff _ _ _).1 h _ (List.getElem_mem hj)
  · rw [rd_out _ (by omega)]; omega
def lvl (n : Nat) : Nat := if n = 4 then 2 else if n = 8 then 3 else 4
theorem lvl_of {n : Nat} (h : sizeF (n : Int) = 0) : n = 2 ^ lvl n ∧ lvl n ≤ 4 := by
  rcases sizeF_cases (n : Int) with ⟨_, hc⟩ | ⟨h3, _⟩
  · unfold lvl
    rcases hc with e | e | e
    · obtain rfl : n = 4 := by omega
      exact ⟨rfl, by decide⟩
    · obtain rfl : n = 8 := by omega
      exact ⟨rfl, by decide⟩
    · obtain rfl : n = 16 := by omega
      exact ⟨rfl, by decide⟩
  · omega

theorem iUnite_l0 (S0 : Int → Int → Int → Int → Option (Int × Int)) (S1 : Int → Int → Option (Int × Int)) (s d o : List Int) (st : Nat → Int → Int → Int × Int) (m : Nat) (hm : m ≤ 8) (hd : d.length = m)
    (hst : ∀ i, i < m / 2 → S0 ((2 * m : Nat) : Int) (i : Int) (rd d (i : Int)) (rd d ((m - 1 - i : Nat) : Int)) = some (st i (rd d (i : Int)) (rd d ((m - 1 - i : Nat) : Int)))) :
    ∀ (dd i k K : Nat), i + dd = m / 2 → K = k + dd + 1 → impl_undo_unite.l0 K s (twist st i d) ((2 * m : Nat) : Int) o ((m / 2 : Nat) : Int) (i : Int) S0 S1 = impl_undo_unite.l1 k s (twist st (m / 2) d) ((2 * m : Nat) : Int) o (s.length : Int) 0 S0 S1 := by
  intro dd
  induction dd with
  | zero =>
    intro i k K hi hK
    obtain rfl : K = k + 1 := by omega
    simp only [impl_undo_unite.l0]
    rw [if_neg (by omega), show i = m / 2 by omega]
  | succ dd ih =>
    intro i k K hi hK
    have hl : (twist st i d).length = m := by rw [twist_length, hd]
    have h2 : 2 * (i + 1) ≤ d.length := by omega
    have e1 := twist_lo st d h2
    have e2 := twist_hi st d h2
    have e3 := twist_step st d h2
    rw [hd] at e2 e3
    obtain ⟨K, rfl⟩ : ∃ q, K = q + 1 := ⟨K - 1, by omega⟩
    simp only [impl_undo_unite.l0, idx1 hm (show i < m by omega), hl, e1, e2]
    rw [if_pos (by omega), if_pos (by omega), if_pos (by omega), if_pos (by omega), if_pos (by omega), hst i (by omega)]
    simp only [Option.bind_some]
    rw [w64_succ _ (by omega), Int.toNat_natCast, Int.toNat_natCast, e3]
    exact ih (i + 1) k K (by omega) (by omega)
theorem iUnite_l1 (S0 : Int → Int → Int → Int → Option (Int × Int)) (S1 : Int → Int → Option (Int × Int)) (s e : List Int) (pf : Int → Int → Int × Int) (m : Nat) (hm : m ≤ 8) (hs : s.length = m) (he : e.length = m)
    (hpf : ∀ i : Nat, i < m → S1 (rd s (i : Int)) (rd e (i : Int)) = some (pf (rd s (i : Int)) (rd e (i : Int)))) :
    ∀ (dd i k : Nat), i + dd = m → dd < k → impl_undo_unite.l1 k s e ((2 * m : Nat) : Int) (U m (fun j => (pf (rd s (j : Int)) (rd e (j : Int))).1) (fun j => (pf (rd s (j : Int)) (rd e (j : Int))).2) i) (m : Int) (i : Int) S0 S1 = some (outs pf s e, e) := by
  intro dd
  induction dd with
  | zero =>
    intro i k hi hk
    obtain ⟨k, rfl⟩ : ∃ q, k = q + 1 := ⟨k - 1, by omega⟩
    simp only [impl_undo_unite.l1]
    rw [if_neg (by omega), show i = m by omega, U_end]
    unfold outs; rw [hs]
  | succ dd ih =>
    intro i k hi hk
    obtain ⟨k, rfl⟩ : ∃ q, k = q + 1 := ⟨k - 1, by omega⟩
    have e3 := U_step m (fun j => (pf (rd s (j : Int)) (rd e (j : Int))).1) (fun j => (pf (rd s (j : Int)) (rd e (j : Int))).2) (show i < m by omega)
    simp only [impl_undo_unite.l1, idx2 hm (show i < 2 * m by omega), U_length]
    rw [if_pos (by omega), if_pos (by omega), if_pos (by omega), if_pos (by omega), hpf i (by omega)]
    simp only [Option.bind_some]
    rw [if_pos (by omega), if_pos (by omega), if_pos (by omega), w64_succ _ (by omega), Int.toNat_natCast, Int.toNat_natCast, e3]
    exact ih (i + 1) k (by omega) (by omega)
theorem impl_unite_eq (S0 : Int → Int → Int → Int → Option (Int × Int)) (S1 : Int → Int → Option (Int × Int)) (st : Nat → Nat → Int → Int → Int × Int) (pf : Int → Int → Int × Int) (s d : List Int) (m : Nat) (hm : m ≤ 8) (hs : s.length = m) (hd : d.length = m)
    (hst : ∀ i, i < m / 2 → S0 ((2 * m : Nat) : Int) (i : Int) (rd d (i : Int)) (rd d ((m - 1 - i : Nat) : Int)) = some (st (2 * m) i (rd d (i : Int)) (rd d ((m - 1 - i : Nat) : Int))))
    (hpf : ∀ i : Nat, i < m → S1 (rd s (i : Int)) (rd (twist (st (2 * m)) (m / 2) d) (i : Int)) = some (pf (rd s (i : Int)) (rd (twist (st (2 * m)) (m / 2) d) (i : Int)))) (k : Nat) (hk : 40 ≤ k) :
    impl_undo_unite.f k S0 S1 s d = some (uniteM st pf s d, twist (st (2 * m)) (m / 2) d) := by
  unfold impl_undo_unite.f
  have e0 : wrap64 (2 * (s.length : Int)) = ((2 * m : Nat) : Int) := by rw [w64 (by omega) (by omega)]; omega
  rw [e0, if_pos (by omega), if_pos (by omega), quart hm, Int.toNat_natCast]
  have h1 := iUnite_l0 S0 S1 s d (List.replicate (2 * m) 0) (st (2 * m)) m hm hd hst (m / 2) 0 (k - m / 2 - 1) k (by omega) (by omega)
  rw [twist_zero] at h1
  refine h1.trans ?_
  have h2 := iUnite_l1 S0 S1 s (twist (st (2 * m)) (m / 2) d) pf m hm hs (by rw [twist_length, hd]) hpf m 0 (k - m / 2 - 1) (by omega) (by omega)
  rw [U_zero] at h2
  unfold uniteM
  rw [hs]
  exact h2

theorem rot_crude {p u a b N : Int} (hp : 0 ≤ p ∧ p ≤ 1024) (hu : 0 ≤ u ∧ u ≤ 1024) (h0 : 0 ≤ N) (ha : -N ≤ a ∧ a ≤ N) (hb : -N ≤ b ∧ b ≤ N) :
    ((-(5 * N) ≤ (forth p u a b).1 ∧ (forth p u a b).1 ≤ 5 * N) ∧ (-(5 * N) ≤ (forth p u a b).2 ∧ (forth p u a b).2 ≤ 5 * N)) ∧ ((-(5 * N) ≤ (back p u a b).1 ∧ (back p u a b).1 ≤ 5 * N) ∧ (-(5 * N) ≤ (back p u a b).2 ∧ (back p u a b).2 ≤ 5 * N)) := by
  have m1 := mul_bd hp.1 hp.2 hb.1 hb.2
  have t1 := tn_bd m1.1 m1.2
  have m2 := mul_bd (b := a - tn (p * b)) (M := 2 * N) hu.1 hu.2 (by omega) (by omega)
  have t2 := tn_bd m2.1 m2.2
  have m3 := mul_bd (b := b + tn (u * (a - tn (p * b)))) (M := 3 * N) hp.1 hp.2 (by omega) (by omega)
  have t3 := tn_bd m3.1 m3.2
  have n2 := mul_bd (b := a + tn (p * b)) (M := 2 * N) hu.1 hu.2 (by omega) (by omega)
  have s2 := tn_bd n2.1 n2.2
  have n3 := mul_bd (b := b - tn (u * (a + tn (p * b)))) (M := 3 * N) hp.1 hp.2 (by omega) (by omega)
  have s3 := tn_bd n3.1 n3.2
  unfold forth back
  simp only
  clear m1 m2 m3 n2 n3
  generalize tn (p * (b + tn (u * (a - tn (p * b))))) = x3 at t3 ⊢
  generalize tn (p * (b - tn (u * (a + tn (p * b))))) = y3 at s3 ⊢
  generalize tn (u * (a - tn (p * b))) = x2 at t2 ⊢
  generalize tn (u * (a + tn (p * b))) = y2 at s2 ⊢
  generalize tn (p * b) = x1 at t1 ⊢
  omega
def backS (n i : Nat) (a b : Int) : Int × Int := back (pu (n : Int) (i : Int)).1 (pu (n : Int) (i : Int)).2 a b
def forthS (n i : Nat) (a b : Int) : Int × Int := forth (pu (n : Int) (i : Int)).1 (pu (n : Int) (i : Int)).2 a b
def pf (s d : Int) : Int × Int := (s - d / 2 + d, s - d / 2)
def mx (a b : Int) : Int × Int := (b + (a - b) / 2, a - b)
theorem valid_of {m i : Nat} (hm : Sz m) (hi : i < m / 2) : Valid ((2 * m : Nat) : Int) (i : Int) := by
  unfold Sz at hm
  unfold Valid
  rcases hm with rfl | rfl | rfl | rfl
  · omega
  · exact .inl ⟨rfl, by omega⟩
  · exact .inr (.inl ⟨rfl, by omega⟩)
  · exact .inr (.inr ⟨rfl, by omega⟩)
theorem Sz.le {m : Nat} (h : Sz m) : 1 ≤ m ∧ m ≤ 8 := by unfold Sz at h; omega
theorem Bd_back {m : Nat} (hm : Sz m) {d : List Int} (hd : d.length = m) {N M : Int} (hN : 0 ≤ N) (hM : 5 * N ≤ M) (h : Bd N d) : Bd M (twist (backS (2 * m)) (m / 2) d) := by
  refine Bd_twist (N := N) (by omega) (by omega) (by omega) h ?_
  intro i a b hi ha hb
  obtain ⟨_, hp, hu⟩ := turnOf_eq (valid_of hm hi)
  have := (rot_crude hp hu hN ha hb).2
  unfold backS
  omega
theorem Bd_forth {m : Nat} (hm : Sz m) {d : List Int} (hd : d.length = m) {N M : Int} (hN : 0 ≤ N) (hM : 5 * N ≤ M) (h : Bd N d) : Bd M (twist (forthS (2 * m)) (m / 2) d) := by
  refine Bd_twist (N := N) (by omega) (by omega) (by omega) h ?_
  intro i a b hi ha hb
  obtain ⟨_, hp, hu⟩ := turnOf_eq (valid_of hm hi)
  have := (rot_crude hp hu hN ha hb).1
  unfold forthS
  omega
theorem Bd_outs {s e : List Int} {A N M : Int} (hA : 0 ≤ A) (hN : 0 ≤ N) (hM : 2 * A + N + 1 ≤ 2 * M) (hs : Bd A s) (he : Bd N e) : Bd M (outs pf s e) := by
  unfold outs pf
  refine Bd_gen (by omega) (fun j hj => ?_)
  by_cases h : j < s.length
  · rw [if_pos h]
    have h1 := hs j
    have h2 := he j
    simp only
    omega
  · rw [if_neg h]
    have h1 := hs (2 * s.length - 1 - j)
    have h2 := he (2 * s.length - 1 - j)
    simp only
    omega
theorem Bd_unite {m : Nat} (hm : Sz m) {s d : List Int} (hs : s.length = m) (hd : d.length = m) {N : Int} (hN : 1 ≤ N) (h1 : Bd N s) (h2 : Bd N d) : Bd (4 * N) (uniteM backS pf s d) := by
  unfold uniteM
  rw [hs]
  have := Bd_back hm hd (M := 5 * N) (by omega) (by omega) h2
  exact Bd_outs (A := N) (N := 5 * N) (by omega) (by omega) (by omega) h1 this

theorem iGather_l0 (S0 : Int → Int → Int → Int → Option (Int × Int)) (S1 : Int → Int → Option (Int × Int)) (c : List Int) (m : Nat) (hc : c.length = 2 * m) (hm : m ≤ 8) : ∀ (dd i k K : Nat), i + dd = m → K = k + 2 * dd + 1 →
    impl_undo_gather.l0 K (gen i fun j => rd c ((2 * j : Nat) : Int)) (gen i fun j => rd c ((2 * j + 1 : Nat) : Int)) c (c.length : Int) ((2 * i : Nat) : Int) S0 S1 = (impl_undo_gather.f k S0 S1 (evens c)).bind fun a => (impl_undo_gather.f k S0 S1 (odds c)).bind fun b => (impl_undo_unite.f k S0 S1 a b).bind fun t => some t.1 := by
  intro dd
  induction dd with
  | zero =>
    intro i k K hi hK
    obtain rfl : K = k + 1 := by omega
    simp only [impl_undo_gather.l0]
    rw [if_neg (by omega)]
    unfold evens odds
    rw [hc, show 2 * m / 2 = i by omega]
  | succ dd ih =>
    intro i k K hi hK
    obtain ⟨K, rfl⟩ : ∃ q, K = q + 1 := ⟨K - 1, by omega⟩
    have t0 : Int.tmod ((2 * i : Nat) : Int) 2 = 0 := by rw [tmod_pos (by omega)]; omega
    have t1 : ¬ Int.tmod ((2 * i + 1 : Nat) : Int) 2 = 0 := by rw [tmod_pos (by omega)]; omega
    rw [impl_undo_gather.l0]
    rw [if_pos (by omega), if_pos (by omega), if_pos (by omega), if_pos t0, gen_length, if_pos (by omega), w64_succ _ (by omega)]
    obtain ⟨K, rfl⟩ : ∃ q, K = q + 1 := ⟨K - 1, by omega⟩
    rw [impl_undo_gather.l0]
    rw [if_pos (by omega), if_pos (by omega), if_pos (by omega), if_neg t1, gen_length, if_pos (by omega), w64_succ _ (by omega)]
    have := ih (i + 1) k K (by omega) (by omega)
    rw [gen_succ, gen_succ] at this
    exact this

theorem ints_marks (c : Int) (ys : List Int) (hl : ys.length ≤ 1000000) (k : Nat) (hk : ys.length < k) : ∃ zs, laws_markIntsResult.f k c ys 1 = some (((1 + ys.length : Nat) : Int), zs) ∧ laws_heldIntsResult.f k c zs 1 = some ((1 + ys.length : Nat) : Int) := by
  obtain ⟨zs, m1, m2, m3⟩ := mark_held_ints ys 1 k (by omega) (by omega) hk
  refine ⟨zs, ?_, ?_⟩
  · unfold laws_markIntsResult.f
    rw [show (1 : Int) = ((1 : Nat) : Int) from rfl, m1]; rfl
  · unfold laws_heldIntsResult.f
    rw [show (1 : Int) = ((1 : Nat) : Int) from rfl, m3]
    simp only [Option.bind_some]
    rw [if_neg (by omega)]

theorem ints_res (c : Int) (ys : List Int) (hl : ys.length ≤ 1000000) (k : Nat) (hk : ys.length < k) : laws_eqIntsResult.f k c ys c ys = some true := by
  unfold laws_eqIntsResult.f
  rw [if_pos rfl, eqInt64S_refl ys (by omega) k hk]; rfl

def Nd (N : Int) (xs : List Int) : Prop := ∀ j : Nat, 0 ≤ rd xs (j : Int) ∧ rd xs (j : Int) ≤ N
theorem Nd_gen {n : Nat} {f : Nat → Int} {M : Int} (h0 : 0 ≤ M) (h : ∀ j, j < n → 0 ≤ f j ∧ f j ≤ M) : Nd M (gen n f) := fun j => by
  by_cases hj : j < n
  · rw [rd_gen _ _ hj]; exact h j hj
  · rw [rd_out _ (by rw [gen_length]; omega)]; omega
theorem Nd_twist {st : Nat → Int → Int → Int × Int} {q : Nat} {d : List Int} {N M : Int} (h0 : 0 ≤ N) (hNM : N ≤ M) (hd : Nd N d)
    (hs : ∀ i a b, i < q → (0 ≤ a ∧ a ≤ N) → (0 ≤ b ∧ b ≤ N) → (0 ≤ (st i a b).1 ∧ (st i a b).1 ≤ M) ∧ (0 ≤ (st i a b).2 ∧ (st i a b).2 ≤ M)) : Nd M (twist st q d) := by
  unfold twist W
  refine Nd_gen (by omega) (fun j hj => ?_)
  by_cases h1 : j < q
  · rw [if_pos h1]; exact (hs j _ _ h1 (hd _) (hd _)).1
  · rw [if_neg h1]
    by_cases h2 : d.length - 1 - j < q
    · rw [if_pos h2]; exact (hs _ _ _ h2 (hd _) (hd _)).2
    · rw [if_neg h2]; have := hd j; omega
def boundS (n i : Nat) (a b : Int) : Int × Int := tb (pu (n : Int) (i : Int)).1 (pu (n : Int) (i : Int)).2 a b
def pg (s d : Int) : Int × Int := (s + -((-d) / 2), s + -((-d) / 2))
theorem tb_crude {p u a b N : Int} (hp : 0 ≤ p ∧ p ≤ 1024) (hu : 0 ≤ u ∧ u ≤ 1024) (ha : 0 ≤ a ∧ a ≤ N) (hb : 0 ≤ b ∧ b ≤ N) : (0 ≤ (tb p u a b).1 ∧ (tb p u a b).1 ≤ 5 * N) ∧ (0 ≤ (tb p u a b).2 ∧ (tb p u a b).2 ≤ 5 * N) := by
  have h1 := sh_bd hp.1 hp.2 hb.1
  have h2 := sh_bd (b := a + sh p b) hu.1 hu.2 (by omega)
  have h3 := sh_bd (b := b + sh u (a + sh p b)) hp.1 hp.2 (by omega)
  unfold tb
  simp only
  omega
theorem Nd_bound {m : Nat} (hm : Sz m) {d : List Int} {N : Int} (hN : 0 ≤ N) (h : Nd N d) : Nd (5 * N) (twist (boundS (2 * m)) (m / 2) d) := by
  refine Nd_twist (N := N) hN (by omega) h ?_
  intro i a b hi ha hb
  obtain ⟨_, hp, hu⟩ := turnOf_eq (valid_of hm hi)
  exact tb_crude hp hu ha hb
theorem Nd_outs {s e : List Int} {N : Int} (hN : 1 ≤ N) (hs : Nd N s) (he : Nd (5 * N) e) : Nd (4 * N) (outs pg s e) := by
  unfold outs pg
  refine Nd_gen (by omega) (fun j hj => ?_)
  by_cases h : j < s.length
  · rw [if_pos h]
    have h1 := hs j
    have h2 := he j
    simp only
    omega
  · rw [if_neg h]
    have h1 := hs (2 * s.length - 1 - j)
    have h2 := he (2 * s.length - 1 - j)
    simp only
    omega
theorem Nd_unite {m : Nat} (hm : Sz m) {s d : List Int} (hs : s.length = m) {N : Int} (hN : 1 ≤ N) (h1 : Nd N s) (h2 : Nd N d) : Nd (4 * N) (uniteM boundS pg s d) := by
  unfold uniteM
  rw [hs]
  exact Nd_outs hN h1 (Nd_bound hm (by omega) h2)
theorem Nd_evens {M : Int} {c : List Int} (h0 : 0 ≤ M) (h : Nd M c) : Nd M (evens c) := Nd_gen h0 (fun j _ => h _)
theorem Nd_odds {M : Int} {c : List Int} (h0 : 0 ≤ M) (h : Nd M c) : Nd M (odds c) := Nd_gen h0 (fun j _ => h _)
theorem pw4 (L : Nat) (hL : L ≤ 4) : 1 ≤ 2 ^ L ∧ 2 ^ L ≤ 16 := ⟨Nat.two_pow_pos L, Nat.pow_le_pow_right (by omega) hL⟩
theorem SzP (L : Nat) (hL : L ≤ 3) : Sz (2 ^ L) := by
  unfold Sz
  match L, hL with
  | 0, _ => exact .inl rfl
  | 1, _ => exact .inr (.inl rfl)
  | 2, _ => exact .inr (.inr (.inl rfl))
  | 3, _ => exact .inr (.inr (.inr rfl))
theorem evensL (c : List Int) : (evens c).length = c.length / 2 := gen_length _ _
theorem oddsL (c : List Int) : (odds c).length = c.length / 2 := gen_length _ _
theorem Nd_gather : ∀ (L : Nat) (c : List Int) (N : Int), L ≤ 4 → c.length = 2 ^ L → 1 ≤ N → Nd N c → Nd (4 ^ L * N) (gatherM boundS pg L c) := by
  intro L
  induction L with
  | zero => intro c N _ _ _ h; rw [gatherM]; simpa using h
  | succ L ih =>
    intro c N hL hc hN h
    rw [Nat.pow_succ] at hc
    have e1 : (evens c).length = 2 ^ L := by rw [evensL]; omega
    have e2 : (odds c).length = 2 ^ L := by rw [oddsL]; omega
    have b1 := ih (evens c) N (by omega) e1 hN (Nd_evens (by omega) h)
    have b2 := ih (odds c) N (by omega) e2 hN (Nd_odds (by omega) h)
    have hp : (1 : Int) ≤ 4 ^ L := Int.pow_pos (show (0 : Int) < 4 by decide)
    have hpN : 1 ≤ (4 : Int) ^ L * N := by have := Int.mul_le_mul_of_nonneg_right hp (show 0 ≤ N by omega); omega
    have := Nd_unite (SzP L (by omega)) (gatherM_length boundS pg L _ e1) hpN b1 b2
    rw [gatherM]
    rwa [← Int.mul_assoc, Int.mul_comm 4 ((4 : Int) ^ L), ← Int.pow_succ] at this

theorem bGather_l0 (c : List Int) (m : Nat) (hc : c.length = 2 * m) (hm : m ≤ 8) : ∀ (dd i k K : Nat), i + dd = m → K = k + dd + 1 →
    spec_l8Gather.l0 K c ((2 * m : Nat) : Int) (gen i fun j => rd c ((2 * j : Nat) : Int)) (gen i fun j => rd c ((2 * j + 1 : Nat) : Int)) ((2 * i : Nat) : Int) = (spec_l8Gather.f k (evens c)).bind fun a => (spec_l8Gather.f k (odds c)).bind fun b => if ((2 * m : Nat) : Int) > 2 then spec_l8Gather.l1 k ((2 * m : Nat) : Int) a b 0 else spec_l8Gather.j2 k ((2 * m : Nat) : Int) a b := by
  intro dd
  induction dd with
  | zero =>
    intro i k K hi hK
    obtain rfl : K = k + 1 := by omega
    simp only [spec_l8Gather.l0]
    rw [w64_succ _ (by omega), if_neg (by omega)]
    unfold evens odds
    rw [hc, show 2 * m / 2 = i by omega]
  | succ dd ih =>
    intro i k K hi hK
    obtain ⟨K, rfl⟩ : ∃ q, K = q + 1 := ⟨K - 1, by omega⟩
    simp only [spec_l8Gather.l0, gen_length]
    have e2 : wrap64 (((2 * i : Nat) : Int) + 2) = ((2 * (i + 1) : Nat) : Int) := by rw [w64 (by omega) (by omega)]; omega
    rw [w64_succ _ (by omega), e2, if_pos (by omega), if_pos (by omega), if_pos (by omega), if_pos (by omega), if_pos (by omega), if_pos (by omega), if_pos (by omega)]
    have := ih (i + 1) k K (by omega) (by omega)
    rw [gen_succ, gen_succ] at this
    exact this
theorem bGather_l1 (s d : List Int) (st : Nat → Int → Int → Int × Int) (m : Nat) (hm : m ≤ 8) (hd : d.length = m)
    (hst : ∀ i, i < m / 2 → spec_l8Turn.f ((2 * m : Nat) : Int) (i : Int) (rd d (i : Int)) (rd d ((m - 1 - i : Nat) : Int)) = some (st i (rd d (i : Int)) (rd d ((m - 1 - i : Nat) : Int)))) :
    ∀ (dd i k K : Nat), i + dd = m / 2 → K = k + dd + 1 → spec_l8Gather.l1 K ((2 * m : Nat) : Int) s (twist st i d) (i : Int) = spec_l8Gather.j2 k ((2 * m : Nat) : Int) s (twist st (m / 2) d) := by
  intro dd
  induction dd with
  | zero =>
    intro i k K hi hK
    obtain rfl : K = k + 1 := by omega
    simp only [spec_l8Gather.l1, quart hm]
    rw [if_neg (by omega), show i = m / 2 by omega]
  | succ dd ih =>
    intro i k K hi hK
    have hl : (twist st i d).length = m := by rw [twist_length, hd]
    have h2 : 2 * (i + 1) ≤ d.length := by omega
    have e1 := twist_lo st d h2
    have e2 := twist_hi st d h2
    have e3 := twist_step st d h2
    rw [hd] at e2 e3
    obtain ⟨K, rfl⟩ : ∃ q, K = q + 1 := ⟨K - 1, by omega⟩
    simp only [spec_l8Gather.l1, quart hm, idx1 hm (show i < m by omega), hl, e1, e2]
    rw [if_pos (by omega), if_pos (by omega), if_pos (by omega), if_pos (by omega), if_pos (by omega), hst i (by omega)]
    simp only [Option.bind_some]
    rw [w64_succ _ (by omega), Int.toNat_natCast, Int.toNat_natCast, e3]
    exact ih (i + 1) k K (by omega) (by omega)
theorem bGather_l2 (s e : List Int) (m : Nat) (hm : m ≤ 8) (hs : s.length = m) (he : e.length = m) {N : Int} (hN : 0 ≤ N) (hN2 : N ≤ 100000000000) (h1 : Nd N s) (h2 : Nd (5 * N) e) :
    ∀ (dd i k : Nat), i + dd = m → dd < k → spec_l8Gather.l2 k ((2 * m : Nat) : Int) s e (U m (fun j => (pg (rd s (j : Int)) (rd e (j : Int))).1) (fun j => (pg (rd s (j : Int)) (rd e (j : Int))).2) i) (i : Int) = some (outs pg s e) := by
  intro dd
  induction dd with
  | zero =>
    intro i k hi hk
    obtain ⟨k, rfl⟩ : ∃ q, k = q + 1 := ⟨k - 1, by omega⟩
    simp only [spec_l8Gather.l2, halfI hm]
    rw [if_neg (by omega), show i = m by omega, U_end]
    unfold outs; rw [hs]
  | succ dd ih =>
    intro i k hi hk
    obtain ⟨k, rfl⟩ : ∃ q, k = q + 1 := ⟨k - 1, by omega⟩
    have b1 := h1 i
    have b2 := h2 i
    have e3 := U_step m (fun j => (pg (rd s (j : Int)) (rd e (j : Int))).1) (fun j => (pg (rd s (j : Int)) (rd e (j : Int))).2) (show i < m by omega)
    have ec := l1Ceil_eq (rd e (i : Int)) 2 (by omega) (by omega) (by omega)
    have ew : wrap64 (rd s (i : Int) + -((-(rd e (i : Int))) / 2)) = rd s (i : Int) + -((-(rd e (i : Int))) / 2) := w64 (by omega) (by omega)
    simp only [spec_l8Gather.l2, halfI hm, idx2 hm (show i < 2 * m by omega), U_length]
    rw [if_pos (by omega), if_pos (by omega), if_pos (by omega), if_pos (by omega), ec]
    simp only [Option.bind_some]
    rw [if_pos (by omega), if_pos (by omega), if_pos (by omega), w64_succ _ (by omega), Int.toNat_natCast, Int.toNat_natCast, ew]
    have hx := ih (i + 1) k (by omega) (by omega)
    rw [← e3] at hx
    exact hx
theorem bGather : ∀ (L : Nat) (c : List Int) (N : Int) (k : Nat), L ≤ 4 → c.length = 2 ^ L → 1 ≤ N → Nd N c → 4 ^ L * N ≤ 100000000000 → 60 + 30 * L ≤ k → spec_l8Gather.f k c = some (gatherM boundS pg L c) := by
  intro L
  induction L with
  | zero =>
    intro c N k _ hc _ _ _ hk
    obtain ⟨k, rfl⟩ : ∃ q, k = q + 1 := ⟨k - 1, by omega⟩
    simp only [spec_l8Gather.f]
    unfold spec_l1Ints.f
    simp only [bindS, List.length_nil, List.nil_append]
    rw [if_pos (by rw [hc]; rfl), if_pos (by rw [hc]; decide)]
    rfl
  | succ L ih =>
    intro c N k hL hc hN h hb hk
    obtain ⟨k, rfl⟩ : ∃ q, k = q + 1 := ⟨k - 1, by omega⟩
    have hp2 := pw4 L (by omega)
    have hpw : (2 : Nat) ^ (L + 1) = 2 * 2 ^ L := by rw [Nat.pow_succ]; omega
    have hp8 : 2 ^ L ≤ 8 := Nat.pow_le_pow_right (n := 2) (by omega) (show L ≤ 3 by omega)
    rw [hpw] at hc
    have e1 : (evens c).length = 2 ^ L := by rw [evensL]; omega
    have e2 : (odds c).length = 2 ^ L := by rw [oddsL]; omega
    have hp : (1 : Int) ≤ 4 ^ L := Int.pow_pos (show (0 : Int) < 4 by decide)
    have hpN : 1 ≤ (4 : Int) ^ L * N := by have := Int.mul_le_mul_of_nonneg_right hp (show 0 ≤ N by omega); omega
    have hb' : 4 * ((4 : Int) ^ L * N) ≤ 100000000000 := by rw [← Int.mul_assoc, Int.mul_comm 4 ((4 : Int) ^ L), ← Int.pow_succ]; exact hb
    have b1 := Nd_gather L (evens c) N (by omega) e1 hN (Nd_evens (by omega) h)
    have b2 := Nd_gather L (odds c) N (by omega) e2 hN (Nd_odds (by omega) h)
    have l1 := gatherM_length boundS pg L _ e1
    have l2 := gatherM_length boundS pg L _ e2
    have g1 := ih (evens c) N (k - 2 ^ L - 1) (by omega) e1 hN (Nd_evens (by omega) h) (by omega) (by omega)
    have g2 := ih (odds c) N (k - 2 ^ L - 1) (by omega) e2 hN (Nd_odds (by omega) h) (by omega) (by omega)
    have g0 := bGather_l0 c (2 ^ L) hc hp8 (2 ^ L) 0 (k - 2 ^ L - 1) k (by omega) (by omega)
    have hSz := SzP L (by omega)
    generalize hS : gatherM boundS pg L (evens c) = S at b1 l1 g1
    generalize hD : gatherM boundS pg L (odds c) = D at b2 l2 g2
    have hr : gatherM boundS pg (L + 1) c = uniteM boundS pg (gatherM boundS pg L (evens c)) D := by rw [gatherM, hD]
    generalize hm : 2 ^ L = m at *
    generalize hM : (4 : Int) ^ L * N = M at *
    have tl : ∀ q, 20 ≤ q → spec_l8Gather.j2 q ((2 * m : Nat) : Int) S (twist (boundS (2 * m)) (m / 2) D) = some (uniteM boundS pg S D) := by
      intro q hq
      obtain ⟨q, rfl⟩ : ∃ r, q = r + 1 := ⟨q - 1, by omega⟩
      simp only [spec_l8Gather.j2]
      unfold spec_l1Zeros.f
      rw [if_pos (by omega), if_pos (by omega), Int.toNat_natCast]
      simp only [bindS]
      have := bGather_l2 S (twist (boundS (2 * m)) (m / 2) D) m hp8 l1 (by rw [twist_length, l2]) (N := M) (by omega) (by omega) b1 (Nd_bound hSz (by omega) b2) m 0 q (by omega) (by omega)
      rw [U_zero] at this
      unfold uniteM
      rw [l1]
      exact this
    simp only [spec_l8Gather.f]
    rw [if_neg (by omega), hc]
    refine Eq.trans g0 ?_
    simp only [g1, g2, bindS]
    have hfin : (if ((2 * m : Nat) : Int) > 2 then spec_l8Gather.l1 (k - m - 1) ((2 * m : Nat) : Int) S D 0 else spec_l8Gather.j2 (k - m - 1) ((2 * m : Nat) : Int) S D) = some (uniteM boundS pg S D) := by
      by_cases hgt : ((2 * m : Nat) : Int) > 2
      · rw [if_pos hgt]
        have := bGather_l1 S D (boundS (2 * m)) m hp8 l2 (fun i hi => by
          have c1 := b2 i
          have c2 := b2 (m - 1 - i)
          exact l8Turn_eq (valid_of hSz hi) _ _ (by omega) (by omega)) (m / 2) 0 (k - m - 1 - m / 2 - 1) (k - m - 1) (by omega) (by omega)
        rw [twist_zero] at this
        exact this.trans (tl _ (by omega))
      · rw [if_neg hgt]
        have := tl (k - m - 1) (by omega)
        rw [show m / 2 = 0 by omega, twist_zero] at this
        exact this
    exact hfin.trans (by rw [hr, hS])

theorem ofBounds1_eq {s n : Int} (hv : Valid s n) (a b : Int) (ha : 0 ≤ a ∧ a ≤ 140737488355328) (hb : 0 ≤ b ∧ b ≤ 140737488355328) : impl_ofBounds_1.f s n a b = some (tb (pu s n).1 (pu s n).2 a b) := by
  unfold impl_ofBounds_1.f
  obtain ⟨e, hp, hu⟩ := turnOf_eq hv
  rw [e]
  simp only [Option.bind_some]
  rw [turn_bounds_eq _ _ _ _ hp hu ha hb]; rfl
theorem partBounds_eq (s d : Int) (hs : 0 ≤ s ∧ s ≤ 1099511627776) (hd : 0 ≤ d ∧ d ≤ 1099511627776) : impl_partBounds.f s d = some (pg s d) := by
  unfold impl_partBounds.f pg
  rw [ceilDiv_eq _ _ (by omega) (by omega) (by omega)]
  simp only [Option.bind_some]
  rw [w64 (by omega) (by omega)]
theorem iUniteB {m : Nat} (hm : Sz m) {s d : List Int} (hs : s.length = m) (hd : d.length = m) {N : Int} (hN : 0 ≤ N) (hN2 : N ≤ 100000000000) (h1 : Nd N s) (h2 : Nd N d) (k : Nat) (hk : 40 ≤ k) : ∃ e, impl_undo_unite.f k impl_ofBounds_1.f impl_partBounds.f s d = some (uniteM boundS pg s d, e) := by
  have hb := Nd_bound hm hN h2
  refine ⟨_, impl_unite_eq impl_ofBounds_1.f impl_partBounds.f boundS pg s d m hm.le.2 hs hd ?_ ?_ k hk⟩
  · intro i hi
    have b1 := h2 i
    have b2 := h2 (m - 1 - i)
    exact ofBounds1_eq (valid_of hm hi) _ _ (by omega) (by omega)
  · intro i hi
    have b1 := h1 i
    have b2 := hb i
    exact partBounds_eq _ _ (by omega) (by omega)

theorem iGatherB : ∀ (L : Nat) (c : List Int) (N : Int) (k : Nat), L ≤ 4 → c.length = 2 ^ L → 1 ≤ N → Nd N c → 4 ^ L * N ≤ 100000000000 → 60 + 30 * L ≤ k → impl_undo_gather.f k impl_ofBounds_1.f impl_partBounds.f c = some (gatherM boundS pg L c) := by
  intro L
  induction L with
  | zero =>
    intro c N k _ hc _ _ _ hk
    obtain ⟨k, rfl⟩ : ∃ q, k = q + 1 := ⟨k - 1, by omega⟩
    have hc1 : c.length = 1 := hc
    simp only [impl_undo_gather.f]
    rw [if_pos (by omega), if_pos (by omega), gatherM]
    match c, hc1 with
    | [x], _ => rfl
  | succ L ih =>
    intro c N k hL hc hN h hb hk
    obtain ⟨k, rfl⟩ : ∃ q, k = q + 1 := ⟨k - 1, by omega⟩
    have hp2 := pw4 L (by omega)
    have hpw : (2 : Nat) ^ (L + 1) = 2 * 2 ^ L := by rw [Nat.pow_succ]; omega
    have hp8 : 2 ^ L ≤ 8 := by
      have := Nat.pow_le_pow_right (n := 2) (by omega) (show L ≤ 3 by omega)
      exact this
    rw [hpw] at hc
    have e1 : (evens c).length = 2 ^ L := by rw [evensL]; omega
    have e2 : (odds c).length = 2 ^ L := by rw [oddsL]; omega
    have hp : (1 : Int) ≤ 4 ^ L := Int.pow_pos (show (0 : Int) < 4 by decide)
    have hpN : 1 ≤ (4 : Int) ^ L * N := by have := Int.mul_le_mul_of_nonneg_right hp (show 0 ≤ N by omega); omega
    have hb' : 4 * ((4 : Int) ^ L * N) ≤ 100000000000 := by rw [← Int.mul_assoc, Int.mul_comm 4 ((4 : Int) ^ L), ← Int.pow_succ]; exact hb
    have b1 := Nd_gather L (evens c) N (by omega) e1 hN (Nd_evens (by omega) h)
    have b2 := Nd_gather L (odds c) N (by omega) e2 hN (Nd_odds (by omega) h)
    have l1 := gatherM_length boundS pg L _ e1
    have l2 := gatherM_length boundS pg L _ e2
    have g1 := ih (evens c) N (k - 2 * 2 ^ L - 1) (by omega) e1 hN (Nd_evens (by omega) h) (by omega) (by omega)
    have g2 := ih (odds c) N (k - 2 * 2 ^ L - 1) (by omega) e2 hN (Nd_odds (by omega) h) (by omega) (by omega)
    obtain ⟨e, g3⟩ := iUniteB (SzP L (by omega)) l1 l2 (by omega) (by omega) b1 b2 (k - 2 * 2 ^ L - 1) (by omega)
    have g0 := iGather_l0 impl_ofBounds_1.f impl_partBounds.f c (2 ^ L) hc hp8 (2 ^ L) 0 (k - 2 * 2 ^ L - 1) k (by omega) (by omega)
    simp only [impl_undo_gather.f]
    rw [if_neg (by omega)]
    refine Eq.trans g0 ?_
    simp only [g1, g2, g3, bindS]
    rw [gatherM]

theorem Nd_all {N : Int} {xs : List Int} (h0 : 0 ≤ N) (h : allIn 0 N xs = true) : Nd N xs := fun j => by
  by_cases hj : j < xs.length
  · rw [rd_get xs j hj]; exact (allIn_iff _ _ _).1 h _ (List.getElem_mem hj)
  · rw [rd_out _ (by omega)]; omega
def gboundsR (xs : List Int) : Int × List Int := if sizeF (xs.length : Int) = 0 then (if allIn 0 67108864 xs = true then (0, gatherM boundS pg (lvl xs.length) xs) else (3, [])) else (2, [])
theorem pow_topB (L : Nat) (hL : L ≤ 4) : (4 : Int) ^ L * 67108864 ≤ 100000000000 := by
  match L, hL with
  | 0, _ => decide
  | 1, _ => decide
  | 2, _ => decide
  | 3, _ => decide
  | 4, _ => decide
theorem spec_gboundsR (xs : List Int) (k : Nat) (hk : 1000 ≤ k) (hl : xs.length < k) : spec_GatherBounds.f k xs = some (gboundsR xs) := by
  unfold spec_GatherBounds.f spec_l8Ask.f gboundsR
  simp only [spec_SizeFault_eq, bindS]
  by_cases h : sizeF (xs.length : Int) = 0
  · obtain ⟨hn, hL⟩ := lvl_of h
    have h16 := pw4 _ hL
    rw [if_pos h, if_pos h, l1All_eq xs _ _ (by omega) k hl]
    simp only [bindS]
    by_cases h1 : allIn 0 67108864 xs = true
    · rw [if_pos h1, if_pos h1]
      simp only [bindS]
      rw [if_pos trivial, bGather (lvl xs.length) xs 67108864 k hL hn (by omega) (Nd_all (by omega) h1) (pow_topB _ hL) (by omega)]
      simp only [bindS]
    · rw [if_neg h1, if_neg h1]
      simp only [bindS]
      rw [if_neg (by decide)]
  · rw [if_neg h, if_neg h]
    simp only [bindS]
    rw [if_neg (by decide)]
theorem any_allIn (lo hi : Int) (xs : List Int) : (xs.any fun x => !decide (lo ≤ x ∧ x ≤ hi)) = !allIn lo hi xs := by
  unfold allIn
  induction xs with
  | nil => rfl
  | cons x xs ih => rw [List.any_cons, List.all_cons, ih]; cases decide (lo ≤ x ∧ x ≤ hi) <;> simp
theorem boundsFault_eq (xs : List Int) (k : Nat) (hk : 100 ≤ k) : impl_boundsFault.f k xs = some (if sizeF (xs.length : Int) = 0 then (if allIn 0 67108864 xs = true then 0 else 3) else 2) := by
  have w1 : slices_ContainsFunc_int64_int64.f xs (fun x => !decide (0 ≤ x ∧ x ≤ 67108864)) = some (!allIn 0 67108864 xs) := by
    unfold slices_ContainsFunc_int64_int64.f; rw [any_allIn]
  have hf : ∀ p q : Int, impl_first.f k [p, q] = some (nz [p, q]) := fun p q => first_eq _ (by simp) k (by simp; omega)
  unfold impl_boundsFault.f impl_isBlock.f
  simp only [impl_SizeFault_eq, bindS, w1, codeIf_eq, hf, nz]
  by_cases h : sizeF (xs.length : Int) = 0
  · by_cases h1 : allIn 0 67108864 xs = true <;> simp [h, h1]
  · by_cases h1 : allIn 0 67108864 xs = true <;> simp [h, h1]
theorem impl_gboundsR (xs : List Int) (k : Nat) (hk : 1000 ≤ k) : impl_GatherBounds.f k xs = some (gboundsR xs) := by
  unfold impl_GatherBounds.f gboundsR impl_ofBounds.f
  rw [boundsFault_eq xs k (by omega)]
  simp only [bindS]
  by_cases h : sizeF (xs.length : Int) = 0
  · obtain ⟨hn, hL⟩ := lvl_of h
    have h16 := pw4 _ hL
    rw [if_pos h, if_pos h]
    by_cases h1 : allIn 0 67108864 xs = true
    · rw [if_pos h1, if_pos h1, if_pos rfl, iGatherB (lvl xs.length) xs 67108864 k hL hn (by omega) (Nd_all (by omega) h1) (pow_topB _ hL) (by omega)]
      simp only [bindS]
    · rw [if_neg h1, if_neg h1, if_neg (by decide)]
  · rw [if_neg h, if_neg h, if_neg (by decide)]
theorem gboundsR_len (xs : List Int) : (gboundsR xs).2.length ≤ 16 := by
  unfold gboundsR
  by_cases h : sizeF (xs.length : Int) = 0
  · rw [if_pos h]
    obtain ⟨hn, hL⟩ := lvl_of h
    have h16 := pw4 _ hL
    split
    · simp only; rw [gatherM_length _ _ _ _ hn]; omega
    · simp
  · rw [if_neg h]; simp

-- PLUS: lists sizef turns bounds blk rot marks boundall boundg iboundg igatherb gboundsR
theorem GatherBounds_law_j0 (l0 ys : List Int) (c : Int) (K : Nat) (hi : impl_GatherBounds.f K l0 = some (c, ys)) (hy : ys.length ≤ 1000) (h0 : l0.length ≤ 1048576) (hK : 1048600 ≤ K) : laws_FnExactGatherBounds.j0 (K + 1) l0 false c ys c ys = some true := by
  obtain ⟨zs, m1, m2⟩ := ints_marks c ys (by omega) K (by omega)
  simp only [laws_FnExactGatherBounds.j0]
  rw [if_neg (by decide)]
  simp only [m1, m2, toInt64S_eq l0 h0 K (by omega), hi, ints_res c ys (by omega) K (by omega), bindS, if_true, if_neg (neg_cast _)]
theorem FnExactGatherBounds : laws_FnExactGatherBounds.Pure := by
  intro l0 _ _ _
  obtain ⟨K, hK⟩ : ∃ K, K = 1048700 := ⟨_, rfl⟩
  refine ⟨K + 1, ?_⟩
  unfold laws_FnExactGatherBounds.f
  by_cases hb : (l0.length : Int) > 1048576
  · rw [if_pos hb]
  rw [if_neg hb]
  obtain ⟨c, ys, e, hl⟩ : ∃ c ys, gboundsR l0 = (c, ys) ∧ ys.length ≤ 16 := ⟨_, _, rfl, gboundsR_len l0⟩
  have hi := impl_gboundsR l0 K (by omega)
  have hi' := impl_gboundsR l0 (K + 1) (by omega)
  have hs := spec_gboundsR l0 (K + 1) (by omega) (by omega)
  rw [e] at hi hi' hs
  obtain ⟨z1, m1, _, _⟩ := mark_held_ints l0 1 (K + 1) (by omega) (by omega) (by omega)
  have hm : laws_markInt64S.f (K + 1) l0 1 = some (((1 + l0.length : Nat) : Int), z1) := m1
  have hj := GatherBounds_law_j0 l0 ys c K hi (by omega) (by omega) (by omega)
  simp only [toInt64S_eq l0 (show l0.length ≤ 1048576 by omega) (K + 1) (by omega), hs, hi', ints_res c ys (by omega) (K + 1) (by omega), eqInt64S_refl l0 (by omega) (K + 1) (by omega), hm, bindS, if_true, if_neg (neg_cast _), Bool.not_true]
  exact hj

end Go.Proofs.Ytefagoglphajiaa.Pure
