/-
  FrameBounds answers as the reference does, for every size and all lists of bounds, leaves the lists as they were, and shares no memory with them.
-/
import Derived.Test.YtjdgebfihbhbaaaPFnExactFrameBoundsx11
namespace Go.Proofs.Ytjdgebfihbhbaaa.Pure
open Go.RowKit Go.Proofs.Ytjdgebfihbhbaaa.PFnExactFrameBounds Go.Proofs.YtjdgebfihbhbaaaW.PrintWords Go.Proofs.YtjdgebfihbhbaaaW.PrintLast Go.Proofs.YtjdgebfihbhbaaaW.PrintMore
set_option linter.unusedVariables false
set_option linter.unusedSimpArgs false
theorem w64 {x : Int} (h1 : -9223372036854775808 ≤ x) (h2 : x ≤ 9223372036854775807) : wrap64 x = x := by
  unfold wrap64; omega
theorem tdiv_pos {a : Int} (h : 0 ≤ a) (b : Int) : Int.tdiv a b = a / b := Int.tdiv_eq_ediv_of_nonneg h
theorem tmod_pos {a : Int} (h : 0 ≤ a) (b : Int) : Int.tmod a b = a % b := Int.tmod_eq_emod_of_nonneg h
theorem tdiv_neg {a : Int} (h : a ≤ 0) (b : Int) : Int.tdiv a b = -((-a) / b) := by
  have := Int.neg_tdiv (-a) b
  rw [Int.neg_neg] at this
  rw [this, tdiv_pos (by omega)]
theorem tmod_neg {a : Int} (h : a ≤ 0) (b : Int) : Int.tmod a b = -((-a) % b) := by
  have := Int.neg_tmod (-a) b
  rw [Int.neg_neg] at this
  rw [this, tmod_pos (by omega)]
theorem div_unique {x b q r : Int} (hb : 0 < b) (h : r + b * q = x) (h0 : 0 ≤ r) (h1 : r < b) : x / b = q :=
  ((Int.ediv_emod_unique hb).2 ⟨h, h0, h1⟩).1
theorem div_parts (x b : Int) : b * (x / b) + x % b = x := Int.mul_ediv_add_emod x b
theorem neg_div {a b : Int} (hb : 0 < b) : (-a) / b = if a % b = 0 then -(a / b) else -(a / b) - 1 := by
  have h := div_parts a b
  have h0 := Int.emod_nonneg a (Int.ne_of_gt hb)
  have h1 := Int.emod_lt_of_pos a hb
  split
  · exact div_unique (r := 0) hb (by rw [Int.mul_neg]; omega) (by omega) (by omega)
  · exact div_unique (r := b - a % b) hb (by rw [Int.mul_sub, Int.mul_neg]; omega) (by omega) (by omega)
theorem ceil_div {a b : Int} (hb : 0 < b) : (a + b - 1) / b = -((-a) / b) := by
  have h := div_parts (-a) b
  have h0 := Int.emod_nonneg (-a) (Int.ne_of_gt hb)
  have h1 := Int.emod_lt_of_pos (-a) hb
  exact div_unique (r := b - 1 - (-a) % b) hb (by rw [Int.mul_neg]; omega) (by omega) (by omega)
theorem div_bd {a b : Int} (ha : 0 ≤ a) (hb : 0 < b) : 0 ≤ a / b ∧ a / b ≤ a :=
  ⟨Int.ediv_nonneg ha (by omega), Int.ediv_le_self b ha⟩
theorem floor_tdiv {x b : Int} (hb : 0 < b) : (if Int.tmod x b < 0 then Int.tdiv x b - 1 else Int.tdiv x b) = x / b := by
  by_cases h : 0 ≤ x
  · have h0 := Int.emod_nonneg x (Int.ne_of_gt hb)
    rw [tmod_pos h, tdiv_pos h, if_neg (by omega)]
  · rw [tmod_neg (by omega), tdiv_neg (by omega)]
    have h0 := Int.emod_nonneg (-x) (Int.ne_of_gt hb)
    have e := neg_div (a := -x) hb
    rw [Int.neg_neg] at e
    rw [e]
    by_cases hz : (-x) % b = 0
    · rw [if_pos hz, if_neg (by omega)]
    · rw [if_neg hz, if_pos (by omega)]
theorem floor_bd {x b : Int} (hb : 0 < b) : (0 ≤ x → 0 ≤ x / b ∧ x / b ≤ x) ∧ (x < 0 → x ≤ x / b ∧ x / b < 0) := by
  refine ⟨fun h => div_bd h hb, fun h => ?_⟩
  have e := neg_div (a := -x) hb
  rw [Int.neg_neg] at e
  have d := div_bd (a := -x) (by omega) hb
  have p := div_parts (-x) b
  have h0 := Int.emod_nonneg (-x) (Int.ne_of_gt hb)
  rw [e]
  split
  · next hz =>
    rw [hz] at p
    have : (-x) / b ≠ 0 := fun e0 => by rw [e0, Int.mul_zero] at p; omega
    omega
  · next hz =>
    have : (-x) / b < -x := by
      rcases Int.lt_or_eq_of_le d.2 with h2 | h2
      · exact h2
      · exfalso
        rw [h2] at p
        have hb1 : b ≠ 1 := fun e1 => by subst e1; omega
        have : 2 * (-x) ≤ b * (-x) := Int.mul_le_mul_of_nonneg_right (by omega) (by omega)
        omega
    omega

theorem l1In_eq (a b c : Int) : spec_l1In.f a b c = some (decide (b ≤ a ∧ a ≤ c)) := by
  unfold spec_l1In.f; by_cases h : b ≤ a <;> simp [h]

theorem codeIf_eq (b : Bool) (c : Int) : impl_codeIf.f b c = some (if b = true then c else 0) := by
  unfold impl_codeIf.f; cases b <;> rfl

theorem floorDiv_eq (x b : Int) (hb : 0 < b) (h0 : -9000000000000000000 ≤ x) (h1 : x ≤ 9000000000000000000) : impl_floorDiv.f x b = some (x / b) := by
  have e := floor_tdiv (x := x) hb
  have d := floor_bd (x := x) hb
  unfold impl_floorDiv.f
  rw [if_neg (by omega)]
  by_cases h : Int.tmod x b < 0
  · rw [if_pos h] at e ⊢
    rw [w64 (x := Int.tdiv x b) (by omega) (by omega), w64 (by omega) (by omega), e]
  · rw [if_neg h] at e ⊢
    rw [w64 (by omega) (by omega), e]

theorem ceilDiv_eq (x b : Int) (hb : 0 < b) (h0 : -9000000000000000000 ≤ x) (h1 : x ≤ 9000000000000000000) : impl_ceilDiv.f x b = some (-((-x) / b)) := by
  have d := floor_bd (x := -x) hb
  unfold impl_ceilDiv.f
  rw [w64 (by omega) (by omega), floorDiv_eq _ _ hb (by omega) (by omega)]
  simp only [Option.bind_some]
  rw [w64 (by omega) (by omega)]

theorem l1Ceil_eq (x b : Int) (hb : 0 < b) (h0 : 0 ≤ x) (h1 : x + b ≤ 9000000000000000000) : spec_l1Ceil.f x b = some (-((-x) / b)) := by
  have e := ceil_div (a := x) hb
  have d := div_bd (a := x + b - 1) (by omega) hb
  unfold spec_l1Ceil.f
  rw [if_neg (by omega), w64 (x := x + b) (by omega) (by omega), w64 (x := x + b - 1) (by omega) (by omega), tdiv_pos (by omega), w64 (by omega) (by omega), e]

theorem rd_nat (xs : List Int) (i : Nat) : rd xs (i : Int) = xs.getD i 0 := by unfold rd; rw [Int.toNat_natCast]
theorem rd_get (xs : List Int) (i : Nat) (h : i < xs.length) : rd xs (i : Int) = xs[i] := by
  rw [rd_nat, List.getD_eq_getElem?_getD, List.getElem?_eq_getElem h]; rfl
theorem w64_succ (i : Nat) (h : i ≤ 4000000000000000000) : wrap64 ((i : Int) + 1) = ((i + 1 : Nat) : Int) := by
  rw [w64 (by omega) (by omega)]; omega
theorem set_get_take {xs ys : List Int} {i : Nat} (hl : ys.length = xs.length) (ht : ys.take i = xs.take i) (hi : i < xs.length) :
    (ys.set i (rd xs (i : Int))).take (i + 1) = xs.take (i + 1) := by
  rw [rd_get xs i hi]
  apply List.ext_getElem?
  intro n
  by_cases hn : n < i + 1
  · rw [List.getElem?_take_of_lt hn, List.getElem?_take_of_lt hn]
    by_cases e : n = i
    · subst e
      rw [List.getElem?_set_self (by omega), List.getElem?_eq_getElem hi]
    · rw [List.getElem?_set_ne (by omega)]
      have := congrArg (fun l => l[n]?) ht
      simp only [List.getElem?_take_of_lt (show n < i by omega)] at this
      exact this
  · rw [List.getElem?_take_eq_none (by omega), List.getElem?_take_eq_none (by omega)]

theorem toInt64S_l0 (xs : List Int) (hn : xs.length ≤ 1000000000000000000) : ∀ (d i : Nat) (ys : List Int) (k : Nat), i + d = xs.length → d < k → ys.length = xs.length → ys.take i = xs.take i →
    laws_toInt64S.l0 k xs ys (i : Int) = some xs := by
  intro d
  induction d with
  | zero =>
    intro i ys k hi hk hl ht
    obtain ⟨k, rfl⟩ : ∃ m, k = m + 1 := ⟨k - 1, by omega⟩
    simp only [laws_toInt64S.l0]
    rw [if_neg (by omega)]
    rw [List.take_of_length_le (by omega), List.take_of_length_le (by omega)] at ht
    rw [ht]
  | succ d ih =>
    intro i ys k hi hk hl ht
    obtain ⟨k, rfl⟩ : ∃ m, k = m + 1 := ⟨k - 1, by omega⟩
    simp only [laws_toInt64S.l0]
    rw [if_pos (by omega), if_pos (by omega), if_pos (by omega), w64_succ _ (by omega), Int.toNat_natCast]
    exact ih (i + 1) _ k (by omega) (by omega) (by rw [List.length_set, hl]) (set_get_take hl ht (by omega))
theorem toInt64S_eq (xs : List Int) (hn : xs.length ≤ 1048576) (k : Nat) (hk : xs.length < k) : laws_toInt64S.f k xs = some xs := by
  unfold laws_toInt64S.f
  rw [if_pos (by omega), if_pos (by omega), Int.toNat_natCast]
  exact toInt64S_l0 xs (by omega) xs.length 0 _ k (by omega) hk (by simp) (by simp)

theorem eqInt64S_l0 (xs : List Int) (hn : xs.length ≤ 1000000000000000000) : ∀ (d i : Nat) (k : Nat), i + d = xs.length → d < k → laws_eqInt64S.l0 k xs xs (i : Int) = some true := by
  intro d
  induction d with
  | zero =>
    intro i k hi hk
    obtain ⟨k, rfl⟩ : ∃ m, k = m + 1 := ⟨k - 1, by omega⟩
    simp only [laws_eqInt64S.l0]
    rw [if_neg (by omega)]
  | succ d ih =>
    intro i k hi hk
    obtain ⟨k, rfl⟩ : ∃ m, k = m + 1 := ⟨k - 1, by omega⟩
    simp only [laws_eqInt64S.l0]
    rw [if_pos (by omega), if_pos (by omega), if_pos (by omega), if_pos trivial, w64_succ _ (by omega)]
    exact ih (i + 1) k (by omega) (by omega)
theorem eqInt64S_refl (xs : List Int) (hn : xs.length ≤ 1000000000000000000) (k : Nat) (hk : xs.length < k) : laws_eqInt64S.f k xs xs = some true := by
  unfold laws_eqInt64S.f
  rw [if_pos rfl]
  exact eqInt64S_l0 xs hn xs.length 0 k (by omega) hk

theorem markInt64S_l0 : ∀ (d i : Nat) (xs : List Int) (m k : Nat), i + d = xs.length → d < k → xs.length ≤ 1000000000000000000 → m + d ≤ 1000000000000000000 →
    ∃ ys, laws_markInt64S.l0 k xs (m : Int) (i : Int) = some (((m + d : Nat) : Int), ys) ∧ ys.length = xs.length ∧ (∀ j, j < i → ys.getD j 0 = xs.getD j 0) ∧ ∀ j, i ≤ j → j < xs.length → ys.getD j 0 = ((m + (j - i) : Nat) : Int) := by
  intro d
  induction d with
  | zero =>
    intro i xs m k hi hk hn hm
    obtain ⟨k, rfl⟩ : ∃ q, k = q + 1 := ⟨k - 1, by omega⟩
    refine ⟨xs, ?_, rfl, fun j _ => rfl, fun j h1 h2 => by omega⟩
    simp only [laws_markInt64S.l0]
    rw [if_neg (by omega)]; rfl
  | succ d ih =>
    intro i xs m k hi hk hn hm
    obtain ⟨k, rfl⟩ : ∃ q, k = q + 1 := ⟨k - 1, by omega⟩
    obtain ⟨ys, h1, h2, h3, h4⟩ := ih (i + 1) (xs.set i (((m : Nat) : Int))) (m + 1) k (by rw [List.length_set]; omega) (by omega) (by rw [List.length_set]; omega) (by omega)
    rw [List.length_set] at h2 h4
    refine ⟨ys, ?_, h2, fun j hj => ?_, fun j hj1 hj2 => ?_⟩
    · simp only [laws_markInt64S.l0]
      rw [if_pos (by omega), if_pos (by omega), w64_succ _ (by omega), w64_succ _ (by omega), Int.toNat_natCast, h1]
      rw [show m + 1 + d = m + (d + 1) by omega]
    · rw [h3 j (by omega), List.getD_eq_getElem?_getD, List.getElem?_set_ne (by omega), ← List.getD_eq_getElem?_getD]
    · by_cases e : j = i
      · subst e
        rw [h3 j (by omega), List.getD_eq_getElem?_getD, List.getElem?_set_self (by omega)]
        simp
      · rw [h4 j (by omega) hj2]
        rw [show m + 1 + (j - (i + 1)) = m + (j - i) by omega]

theorem heldInt64S_l0 (ys : List Int) (m0 : Nat) (hn : ys.length ≤ 1000000000000000000) (hm : m0 ≤ 1000000000000000000) (hy : ∀ j, j < ys.length → ys.getD j 0 = ((m0 + j : Nat) : Int)) : ∀ (d i k : Nat), i + d = ys.length → d < k →
    laws_heldInt64S.l0 k ys ((m0 + i : Nat) : Int) (i : Int) = some ((m0 + ys.length : Nat) : Int) := by
  intro d
  induction d with
  | zero =>
    intro i k hi hk
    obtain ⟨k, rfl⟩ : ∃ q, k = q + 1 := ⟨k - 1, by omega⟩
    simp only [laws_heldInt64S.l0]
    rw [if_neg (by omega)]
    rw [show i = ys.length by omega]
  | succ d ih =>
    intro i k hi hk
    obtain ⟨k, rfl⟩ : ∃ q, k = q + 1 := ⟨k - 1, by omega⟩
    simp only [laws_heldInt64S.l0]
    rw [if_pos (by omega), if_pos (by omega), rd_nat, if_pos (hy i (by omega)), w64_succ _ (by omega), w64_succ _ (by omega)]
    exact ih (i + 1) k (by omega) (by omega)
theorem mark_held_ints (xs : List Int) (m k : Nat) (hn : xs.length ≤ 100000000000000000) (hm : m ≤ 100000000000000000) (hk : xs.length < k) :
    ∃ ys, laws_markInt64S.f k xs (m : Int) = some (((m + xs.length : Nat) : Int), ys) ∧ ys.length = xs.length ∧ laws_heldInt64S.f k ys (m : Int) = some ((m + xs.length : Nat) : Int) := by
  obtain ⟨ys, h1, h2, h3, h4⟩ := markInt64S_l0 xs.length 0 xs m k (by omega) hk (by omega) (by omega)
  refine ⟨ys, h1, h2, ?_⟩
  have := heldInt64S_l0 ys m (by omega) (by omega) (fun j hj => by have := h4 j (by omega) (by omega); simpa using this) ys.length 0 k (by omega) (by omega)
  rw [h2] at this
  exact this

def sizeF (a : Int) : Int := if a = 4 then 0 else if a = 8 then 0 else if a = 16 then 0 else 3
theorem sizeF_cases (a : Int) : (sizeF a = 0 ∧ (a = 4 ∨ a = 8 ∨ a = 16)) ∨ (sizeF a = 3 ∧ a ≠ 4 ∧ a ≠ 8 ∧ a ≠ 16) := by
  unfold sizeF
  by_cases h1 : a = 4
  · simp [h1]
  · by_cases h2 : a = 8
    · simp [h2]
    · by_cases h3 : a = 16 <;> simp [h1, h2, h3]
def allIn (lo hi : Int) (xs : List Int) : Bool := xs.all fun n => decide (lo ≤ n ∧ n ≤ hi)
def In (lo hi : Int) (xs : List Int) : Prop := ∀ x ∈ xs, lo ≤ x ∧ x ≤ hi
theorem allIn_iff (lo hi : Int) (xs : List Int) : allIn lo hi xs = true ↔ In lo hi xs := by
  unfold allIn
  rw [List.all_eq_true]
  exact ⟨fun h x hx => by simpa using h x hx, fun h x hx => by simpa using h x hx⟩
theorem allIn_cons (lo hi x : Int) (xs : List Int) : allIn lo hi (x :: xs) = (decide (lo ≤ x ∧ x ≤ hi) && allIn lo hi xs) := rfl
theorem drop_rd' (xs : List Int) (i : Nat) (h : i < xs.length) : xs.drop i = rd xs (i : Int) :: xs.drop (i + 1) := by
  rw [rd_get xs i h]; exact List.drop_eq_getElem_cons h
def nz : List Int → Int
  | [] => 0
  | x :: xs => if x = 0 then nz xs else x

theorem spec_SizeFault_eq (a : Int) : spec_SizeFault.f a = some (sizeF a) := by
  unfold spec_SizeFault.f sizeF
  by_cases h1 : a = 4
  · simp [h1]
  · by_cases h2 : a = 8
    · simp [h2]
    · by_cases h3 : a = 16 <;> simp [h1, h2, h3]

theorem impl_SizeFault_eq (a : Int) : impl_SizeFault.f a = some (sizeF a) := by
  unfold impl_SizeFault.f sizeF
  by_cases h1 : a = 4
  · simp [h1]
  · by_cases h2 : a = 8
    · simp [h2]
    · by_cases h3 : a = 16 <;> simp [h1, h2, h3]

theorem first_l0 (xs : List Int) (hn : xs.length ≤ 1000) : ∀ (d i k : Nat), i + d = xs.length → d < k → impl_first.l0 k xs (xs.length : Int) (i : Int) = some (nz (xs.drop i)) := by
  intro d
  induction d with
  | zero =>
    intro i k hi hk
    obtain ⟨k, rfl⟩ : ∃ m, k = m + 1 := ⟨k - 1, by omega⟩
    simp only [impl_first.l0]
    rw [if_neg (by omega), List.drop_of_length_le (by omega)]; rfl
  | succ d ih =>
    intro i k hi hk
    obtain ⟨k, rfl⟩ : ∃ m, k = m + 1 := ⟨k - 1, by omega⟩
    simp only [impl_first.l0]
    rw [if_pos (by omega), if_pos (by omega), if_pos (by omega), drop_rd' xs i (by omega), nz]
    by_cases h : rd xs (i : Int) = 0
    · rw [if_pos h, if_pos h, w64_succ _ (by omega)]
      exact ih (i + 1) k (by omega) (by omega)
    · rw [if_neg h, if_neg h]
theorem first_eq (xs : List Int) (hn : xs.length ≤ 1000) (k : Nat) (hk : xs.length < k) : impl_first.f k xs = some (nz xs) :=
  first_l0 xs hn xs.length 0 k (by omega) hk

theorem neg_cast (n : Nat) : ¬ ((n : Int) < 0) := by omega

def Valid (s n : Int) : Prop := (s = 4 ∧ (n = 0 ∨ n = 1)) ∨ (s = 8 ∧ (n = 0 ∨ n = 1 ∨ n = 2 ∨ n = 3)) ∨ (s = 16 ∧ (n = 0 ∨ n = 1 ∨ n = 2 ∨ n = 3 ∨ n = 4 ∨ n = 5 ∨ n = 6 ∨ n = 7))
def pu (s n : Int) : Int × Int := (impl_turnOf.f s n).getD (0, 0)
theorem turnOf_eq {s n : Int} (h : Valid s n) : impl_turnOf.f s n = some (pu s n) ∧ (0 ≤ (pu s n).1 ∧ (pu s n).1 ≤ 1024) ∧ (0 ≤ (pu s n).2 ∧ (pu s n).2 ≤ 1024) := by
  unfold Valid at h
  rcases h with ⟨rfl, rfl | rfl⟩ | ⟨rfl, rfl | rfl | rfl | rfl⟩ | ⟨rfl, rfl | rfl | rfl | rfl | rfl | rfl | rfl | rfl⟩ <;> exact ⟨rfl, by decide, by decide⟩

theorem l5P_eq {s n : Int} (h : Valid s n) : spec_l5P.f s n = some (pu s n).1 := by
  unfold Valid at h
  rcases h with ⟨rfl, rfl | rfl⟩ | ⟨rfl, rfl | rfl | rfl | rfl⟩ | ⟨rfl, rfl | rfl | rfl | rfl | rfl | rfl | rfl | rfl⟩ <;> (unfold spec_l5P.f wrap64; decide)

theorem l5U_eq {s n : Int} (h : Valid s n) : spec_l5U.f s n = some (pu s n).2 := by
  unfold Valid at h
  rcases h with ⟨rfl, rfl | rfl⟩ | ⟨rfl, rfl | rfl | rfl | rfl⟩ | ⟨rfl, rfl | rfl | rfl | rfl | rfl | rfl | rfl | rfl⟩ <;> (unfold spec_l5U.f wrap64; decide)

def sh (f b : Int) : Int := -((-(f * b)) / 1024)
theorem sh_bd {f b : Int} (hf : 0 ≤ f) (hf2 : f ≤ 1024) (hb : 0 ≤ b) : 0 ≤ sh f b ∧ sh f b ≤ b ∧ 0 ≤ f * b ∧ f * b ≤ 1024 * b := by
  have h1 := Int.mul_le_mul_of_nonneg_right hf2 hb
  have h2 := Int.mul_nonneg hf hb
  unfold sh
  omega
def tb (p u a b : Int) : Int × Int := (a + sh p b + sh p (b + sh u (a + sh p b)), b + sh u (a + sh p b))

theorem l8Share_eq (f b : Int) (hf : 0 ≤ f ∧ f ≤ 1024) (hb : 0 ≤ b ∧ b ≤ 1125899906842624) : spec_l8Share.f f b = some (sh f b) := by
  have h := sh_bd hf.1 hf.2 hb.1
  unfold spec_l8Share.f
  rw [w64 (x := f * b) (by omega) (by omega), l1Ceil_eq _ _ (by omega) (by omega) (by omega)]
  rfl

theorem share_eq (f b : Int) (hf : 0 ≤ f ∧ f ≤ 1024) (hb : 0 ≤ b ∧ b ≤ 1125899906842624) : impl_share.f f b = some (sh f b) := by
  have h := sh_bd hf.1 hf.2 hb.1
  unfold impl_share.f
  rw [w64 (x := f * b) (by omega) (by omega), ceilDiv_eq _ _ (by omega) (by omega) (by omega)]
  rfl

theorem turn_bounds_eq (p u a b : Int) (hp : 0 ≤ p ∧ p ≤ 1024) (hu : 0 ≤ u ∧ u ≤ 1024) (ha : 0 ≤ a ∧ a ≤ 140737488355328) (hb : 0 ≤ b ∧ b ≤ 140737488355328) : impl_turn_bounds.f p u a b = some (tb p u a b) := by
  have h1 := sh_bd hp.1 hp.2 hb.1
  have h2 := sh_bd (b := a + sh p b) hu.1 hu.2 (by omega)
  have h3 := sh_bd (b := b + sh u (a + sh p b)) hp.1 hp.2 (by omega)
  unfold impl_turn_bounds.f
  rw [share_eq p b hp (by omega)]
  simp only [Option.bind_some]
  rw [w64 (x := a + sh p b) (by omega) (by omega), share_eq u _ hu (by omega)]
  simp only [Option.bind_some]
  rw [w64 (x := b + sh u (a + sh p b)) (by omega) (by omega), share_eq p _ hp (by omega)]
  simp only [Option.bind_some]
  rw [w64 (by omega) (by omega)]
  rfl

theorem l8Turn_eq {s n : Int} (hv : Valid s n) (a b : Int) (ha : 0 ≤ a ∧ a ≤ 140737488355328) (hb : 0 ≤ b ∧ b ≤ 140737488355328) : spec_l8Turn.f s n a b = some (tb (pu s n).1 (pu s n).2 a b) := by
  obtain ⟨_, hp, hu⟩ := turnOf_eq hv
  have eP := l5P_eq hv
  have eU := l5U_eq hv
  generalize (pu s n).1 = p at hp eP ⊢
  generalize (pu s n).2 = u at hu eU ⊢
  have h1 := sh_bd hp.1 hp.2 hb.1
  have h2 := sh_bd (b := a + sh p b) hu.1 hu.2 (by omega)
  have h3 := sh_bd (b := b + sh u (a + sh p b)) hp.1 hp.2 (by omega)
  unfold spec_l8Turn.f
  rw [eP, eU]
  simp only [Option.bind_some]
  rw [l8Share_eq p b hp (by omega)]
  simp only [Option.bind_some]
  rw [w64 (x := a + sh p b) (by omega) (by omega), l8Share_eq u _ hu (by omega)]
  simp only [Option.bind_some]
  rw [w64 (x := b + sh u (a + sh p b)) (by omega) (by omega), l8Share_eq p _ hp (by omega)]
  simp only [Option.bind_some]
  rw [w64 (by omega) (by omega)]
  rfl

theorem l1All_l0 (xs : List Int) (lo hi : Int) (hn : xs.length ≤ 1000000000000) : ∀ (d i k : Nat), i + d = xs.length → d < k → spec_l1All.l0 k xs lo hi (i : Int) = some (allIn lo hi (xs.drop i)) := by
  intro d
  induction d with
  | zero =>
    intro i k hi' hk
    obtain ⟨k, rfl⟩ : ∃ m, k = m + 1 := ⟨k - 1, by omega⟩
    simp only [spec_l1All.l0]
    rw [if_neg (by omega), List.drop_of_length_le (by omega)]; rfl
  | succ d ih =>
    intro i k hi' hk
    obtain ⟨k, rfl⟩ : ∃ m, k = m + 1 := ⟨k - 1, by omega⟩
    simp only [spec_l1All.l0]
    rw [if_pos (by omega), if_pos (by omega), l1In_eq, drop_rd' xs i (by omega), allIn_cons]
    simp only [Option.bind_some]
    by_cases h : lo ≤ rd xs (i : Int) ∧ rd xs (i : Int) ≤ hi
    · rw [decide_eq_true h, if_pos rfl, w64_succ _ (by omega), ih (i + 1) k (by omega) (by omega)]; rfl
    · rw [decide_eq_false h]; rfl
theorem l1All_eq (xs : List Int) (lo hi : Int) (hn : xs.length ≤ 1000000000000) (k : Nat) (hk : xs.length < k) : spec_l1All.f k xs lo hi = some (allIn lo hi xs) :=
  l1All_l0 xs lo hi hn xs.length 0 k (by omega) hk

theorem bindS {α β : Type} (a : α) (f : α → Option β) : (some a).bind f = f a := by cases h : (some a).bind f <;> (rw [← h]; rfl)
def gen (n : Nat) (f : Nat → Int) : List Int := (List.range n).map f
theorem gen_length (n : Nat) (f : Nat → Int) : (gen n f).length = n := by simp [gen]
theorem rd_gen (n : Nat) (f : Nat → Int) {j : Nat} (h : j < n) : rd (gen n f) (j : Int) = f j := by
  rw [rd_get _ j (by rw [gen_length]; exact h)]; simp [gen]
theorem rd_out (xs : List Int) {j : Nat} (h : xs.length ≤ j) : rd xs (j : Int) = 0 := by
  rw [rd_nat, List.getD_eq_getElem?_getD, List.getElem?_eq_none h]; rfl
theorem rd_set (xs : List Int) {i : Nat} (v : Int) (h : i < xs.length) (j : Nat) : rd (xs.set i v) (j : Int) = if j = i then v else rd xs (j : Int) := by
  rw [rd_nat, rd_nat, List.getD_eq_getElem?_getD, List.getD_eq_getElem?_getD]
  by_cases e : j = i
  · subst e; rw [if_pos rfl, List.getElem?_set_self h]; rfl
  · rw [if_neg e, List.getElem?_set_ne (fun q => e q.symm)]
theorem ext_rd {xs ys : List Int} (hl : xs.length = ys.length) (h : ∀ j : Nat, j < xs.length → rd xs (j : Int) = rd ys (j : Int)) : xs = ys := by
  apply List.ext_getElem hl
  intro j h1 h2
  have := h j h1
  rwa [rd_get xs j h1, rd_get ys j h2] at this
theorem gen_succ (n : Nat) (f : Nat → Int) : gen (n + 1) f = gen n f ++ [f n] := by simp [gen, List.range_succ]
theorem gen_rd (xs : List Int) {n : Nat} (h : xs.length = n) : gen n (fun j => rd xs (j : Int)) = xs :=
  ext_rd (by rw [gen_length, h]) (fun j hj => by rw [gen_length] at hj; rw [rd_gen _ _ hj])
theorem gen_congr {n : Nat} {f g : Nat → Int} (h : ∀ j, j < n → f j = g j) : gen n f = gen n g :=
  ext_rd (by rw [gen_length, gen_length]) (fun j hj => by rw [gen_length] at hj; rw [rd_gen _ _ hj, rd_gen _ _ hj, h j hj])
theorem zeros_gen (n : Nat) : List.replicate n (0 : Int) = gen n (fun _ => 0) := List.ext_getElem (by simp [gen]) (fun i h1 h2 => by simp [gen])
/-- the last half of a list, written from both ends -/
def U (m : Nat) (f g : Nat → Int) (i : Nat) : List Int := gen (2 * m) fun j => if j < m then (if j < i then f j else 0) else (if 2 * m - 1 - j < i then g (2 * m - 1 - j) else 0)
theorem U_zero (m : Nat) (f g : Nat → Int) : U m f g 0 = List.replicate (2 * m) 0 := by
  rw [zeros_gen]; unfold U
  exact gen_congr (fun j _ => by by_cases h : j < m <;> simp [h])
theorem U_length (m : Nat) (f g : Nat → Int) (i : Nat) : (U m f g i).length = 2 * m := gen_length _ _
theorem U_step (m : Nat) (f g : Nat → Int) {i : Nat} (hi : i < m) : ((U m f g i).set i (f i)).set (2 * m - 1 - i) (g i) = U m f g (i + 1) := by
  refine ext_rd (by rw [List.length_set, List.length_set, U_length, U_length]) ?_
  intro j hj
  rw [List.length_set, List.length_set, U_length] at hj
  rw [rd_set _ _ (by rw [List.length_set, U_length]; omega), rd_set _ _ (by rw [U_length]; omega)]
  unfold U
  rw [rd_gen _ _ hj, rd_gen _ _ hj]
  by_cases h1 : j = 2 * m - 1 - i
  · rw [if_pos h1, if_neg (show ¬ j < m by omega), if_pos (show 2 * m - 1 - j < i + 1 by omega), show 2 * m - 1 - j = i by omega]
  · rw [if_neg h1]
    by_cases h2 : j = i
    · rw [if_pos h2, if_pos (show j < m by omega), if_pos (show j < i + 1 by omega), h2]
    · rw [if_neg h2]
      by_cases h3 : j < m
      · rw [if_pos h3, if_pos h3]
        by_cases h4 : j < i
        · rw [if_pos h4, if_pos (by omega)]
        · rw [if_neg h4, if_neg (by omega)]
      · rw [if_neg h3, if_neg h3]
        by_cases h4 : 2 * m - 1 - j < i
        · rw [if_pos h4, if_pos (by omega)]
        · rw [if_neg h4, if_neg (by omega)]
theorem U_end (m : Nat) (f g : Nat → Int) : U m f g m = gen (2 * m) fun j => if j < m then f j else g (2 * m - 1 - j) := by
  unfold U
  refine gen_congr (fun j hj => ?_)
  by_cases h : j < m
  · rw [if_pos h, if_pos h, if_pos h]
  · rw [if_neg h, if_neg h, if_pos (by omega)]
/-- a list turned from both ends -/
def W (m : Nat) (d : List Int) (f g : Nat → Int) (i : Nat) : List Int := gen m fun j => if j < i then f j else if m - 1 - j < i then g (m - 1 - j) else rd d (j : Int)
theorem W_zero (m : Nat) (d : List Int) (f g : Nat → Int) (h : d.length = m) : W m d f g 0 = d := by
  unfold W
  refine (gen_congr (fun j _ => ?_)).trans (gen_rd d h)
  rw [if_neg (by omega), if_neg (by omega)]
theorem W_length (m : Nat) (d : List Int) (f g : Nat → Int) (i : Nat) : (W m d f g i).length = m := gen_length _ _
theorem W_lo (m : Nat) (d : List Int) (f g : Nat → Int) {i : Nat} (h : 2 * (i + 1) ≤ m) : rd (W m d f g i) (i : Int) = rd d (i : Int) := by
  unfold W; rw [rd_gen _ _ (by omega), if_neg (by omega), if_neg (by omega)]
theorem W_hi (m : Nat) (d : List Int) (f g : Nat → Int) {i : Nat} (h : 2 * (i + 1) ≤ m) : rd (W m d f g i) ((m - 1 - i : Nat) : Int) = rd d ((m - 1 - i : Nat) : Int) := by
  unfold W; rw [rd_gen _ _ (by omega), if_neg (by omega), if_neg (by omega)]
theorem W_step (m : Nat) (d : List Int) (f g : Nat → Int) {i : Nat} (h : 2 * (i + 1) ≤ m) : ((W m d f g i).set i (f i)).set (m - 1 - i) (g i) = W m d f g (i + 1) := by
  refine ext_rd (by rw [List.length_set, List.length_set, W_length, W_length]) ?_
  intro j hj
  rw [List.length_set, List.length_set, W_length] at hj
  rw [rd_set _ _ (by rw [List.length_set, W_length]; omega), rd_set _ _ (by rw [W_length]; omega)]
  unfold W
  rw [rd_gen _ _ hj, rd_gen _ _ hj]
  by_cases h1 : j = m - 1 - i
  · rw [if_pos h1, if_neg (by omega), if_pos (by omega), show m - 1 - j = i by omega]
  · rw [if_neg h1]
    by_cases h2 : j = i
    · rw [if_pos h2, if_pos (by omega), h2]
    · rw [if_neg h2]
      by_cases h3 : j < i
      · rw [if_pos h3, if_pos (by omega)]
      · rw [if_neg h3, if_neg (show ¬ j < i + 1 by omega)]
        by_cases h4 : m - 1 - j < i
        · rw [if_pos h4, if_pos (by omega)]
        · rw [if_neg h4, if_neg (by omega)]
def twist (st : Nat → Int → Int → Int × Int) (q : Nat) (d : List Int) : List Int :=
  W d.length d (fun j => (st j (rd d (j : Int)) (rd d ((d.length - 1 - j : Nat) : Int))).1) (fun j => (st j (rd d (j : Int)) (rd d ((d.length - 1 - j : Nat) : Int))).2) q
theorem twist_length (st : Nat → Int → Int → Int × Int) (q : Nat) (d : List Int) : (twist st q d).length = d.length := W_length _ _ _ _ _
theorem twist_zero (st : Nat → Int → Int → Int × Int) (d : List Int) : twist st 0 d = d := W_zero _ _ _ _ rfl
theorem twist_lo (st : Nat → Int → Int → Int × Int) (d : List Int) {i : Nat} (h : 2 * (i + 1) ≤ d.length) : rd (twist st i d) (i : Int) = rd d (i : Int) := W_lo _ _ _ _ h
theorem twist_hi (st : Nat → Int → Int → Int × Int) (d : List Int) {i : Nat} (h : 2 * (i + 1) ≤ d.length) : rd (twist st i d) ((d.length - 1 - i : Nat) : Int) = rd d ((d.length - 1 - i : Nat) : Int) := W_hi _ _ _ _ h
theorem twist_step (st : Nat → Int → Int → Int × Int) (d : List Int) {i : Nat} (h : 2 * (i + 1) ≤ d.length) :
    ((twist st i d).set i (st i (rd d (i : Int)) (rd d ((d.length - 1 - i : Nat) : Int))).1).set (d.length - 1 - i) (st i (rd d (i : Int)) (rd d ((d.length - 1 - i : Nat) : Int))).2 = twist st (i + 1) d := W_step _ _ _ _ h
def outs (pf : Int → Int → Int × Int) (s e : List Int) : List Int := gen (2 * s.length) fun j => if j < s.length then (pf (rd s (j : Int)) (rd e (j : Int))).1 else (pf (rd s ((2 * s.length - 1 - j : Nat) : Int)) (rd e ((2 * s.length - 1 - j : Nat) : Int))).2
def uniteM (st : Nat → Nat → Int → Int → Int × Int) (pf : Int → Int → Int × Int) (s d : List Int) : List Int := outs pf s (twist (st (2 * s.length)) (s.length / 2) d)
theorem uniteM_length (st : Nat → Nat → Int → Int → Int × Int) (pf : Int → Int → Int × Int) (s d : List Int) : (uniteM st pf s d).length = 2 * s.length := gen_length _ _
def evens (c : List Int) : List Int := gen (c.length / 2) fun j => rd c ((2 * j : Nat) : Int)
def odds (c : List Int) : List Int := gen (c.length / 2) fun j => rd c ((2 * j + 1 : Nat) : Int)
def gatherM (st : Nat → Nat → Int → Int → Int × Int) (pf : Int → Int → Int × Int) : Nat → List Int → List Int
  | 0, c => c
  | L + 1, c => uniteM st pf (gatherM st pf L (evens c)) (gatherM st pf L (odds c))
theorem gatherM_length (st : Nat → Nat → Int → Int → Int × Int) (pf : Int → Int → Int × Int) : ∀ (L : Nat) (c : List Int), c.length = 2 ^ L → (gatherM st pf L c).length = 2 ^ L := by
  intro L
  induction L with
  | zero => intro c h; exact h
  | succ L ih =>
    intro c h
    rw [Nat.pow_succ] at h
    rw [gatherM, uniteM_length, ih _ (by unfold evens; rw [gen_length]; omega), Nat.pow_succ]; omega
def Sz (m : Nat) : Prop := m = 1 ∨ m = 2 ∨ m = 4 ∨ m = 8
theorem idx1 {m i : Nat} (hm : m ≤ 8) (hi : i < m) : wrap64 (wrap64 (wrap64 (Int.tdiv ((2 * m : Nat) : Int) 2) - 1) - (i : Int)) = ((m - 1 - i : Nat) : Int) := by
  rw [tdiv_pos (by omega), w64 (x := ((2 * m : Nat) : Int) / 2) (by omega) (by omega), w64 (x := ((2 * m : Nat) : Int) / 2 - 1) (by omega) (by omega), w64 (by omega) (by omega)]
  omega
theorem idx2 {m i : Nat} (hm : m ≤ 8) (hi : i < 2 * m) : wrap64 (wrap64 (((2 * m : Nat) : Int) - 1) - (i : Int)) = ((2 * m - 1 - i : Nat) : Int) := by
  rw [w64 (x := ((2 * m : Nat) : Int) - 1) (by omega) (by omega), w64 (by omega) (by omega)]
  omega
theorem quart {m : Nat} (hm : m ≤ 8) : wrap64 (Int.tdiv ((2 * m : Nat) : Int) 4) = ((m / 2 : Nat) : Int) := by
  rw [tdiv_pos (by omega), w64 (by omega) (by omega)]; omega
theorem halfI {m : Nat} (hm : m ≤ 8) : wrap64 (Int.tdiv ((2 * m : Nat) : Int) 2) = (m : Int) := by
  rw [tdiv_pos (by omega), w64 (by omega) (by omega)]; omega

theorem cloneI_eq (xs : List Int) (h : xs.length ≤ 1000000) : slices_Clone_int64_int64.f xs = some xs := by
  unfold slices_Clone_int64_int64.f; rw [if_pos (by omega)]

theorem concatI_eq (xs ys : List Int) (h : xs.length + ys.length < 100000000) (K : Nat) : slices_Concat_int64_int64.f (K + 1 + 1 + 1 + 1 + 1 + 1) [xs, ys] = some (xs ++ ys) := by
  have s0 : wrap64 (0 + 1) = 1 := by unfold wrap64; decide
  have s1 : wrap64 (1 + 1) = 2 := by unfold wrap64; decide
  have r0 : rd_L1 [xs, ys] 0 = xs := rfl
  have r1 : rd_L1 [xs, ys] 1 = ys := rfl
  have l2 : (([xs, ys] : List (List Int)).length : Int) = 2 := rfl
  unfold slices_Concat_int64_int64.f
  rw [slices_Concat_int64_int64.l0, l2, if_pos (by omega), if_pos (by omega), if_pos (by omega), r0, w64 (x := 0 + (xs.length : Int)) (by omega) (by omega), if_neg (by omega), s0]
  rw [slices_Concat_int64_int64.l0, l2, if_pos (by omega), if_pos (by omega), if_pos (by omega), r1, w64 (x := 0 + (xs.length : Int) + (ys.length : Int)) (by omega) (by omega), if_neg (by omega), s1]
  rw [slices_Concat_int64_int64.l0, if_neg (by omega)]
  unfold slices_Grow_int64_int64.f
  rw [if_pos (by omega)]
  simp only [Option.bind_some]
  rw [slices_Concat_int64_int64.l1, l2, if_pos (by omega), if_pos (by omega), if_pos (by omega), r0, if_pos (by simp; omega), s0]
  rw [slices_Concat_int64_int64.l1, l2, if_pos (by omega), if_pos (by omega), if_pos (by omega), r1, if_pos (by simp; omega), s1]
  rw [slices_Concat_int64_int64.l1, if_neg (by omega)]
  rfl

def lvl (n : Nat) : Nat := if n = 4 then 2 else if n = 8 then 3 else 4
theorem iUnite_l0 (S0 : Int → Int → Int → Int → Option (Int × Int)) (S1 : Int → Int → Option (Int × Int)) (s d o : List Int) (st : Nat → Int → Int → Int × Int) (m : Nat) (hm : m ≤ 8) (hd : d.length = m)
    (hst : ∀ i, i < m / 2 → S0 ((2 * m : Nat) : Int) (i : Int) (rd d (i : Int)) (rd d ((m - 1 - i : Nat) : Int)) = some (st i (rd d (i : Int)) (rd d ((m - 1 - i : Nat) : Int)))) :
    ∀ (dd i k K : Nat), i + dd = m / 2 → K = k + dd + 1 → impl_undo_unite.l0 K s (twist st i d) ((2 * m : Nat) : Int) o ((m / 2 : Nat) : Int) (i : Int) S0 S1 = impl_undo_unite.l1 k s (twist st (m / 2) d) ((2 * m : Nat) : Int) o (s.length : Int) 0 S0 S1 := by
  intro dd
  induction dd with
  | zero =>
    intro i k K hi hK
    obtain rfl : K = k + 1 := by omega
    simp only [impl_undo_unite.l0]
    rw [if_neg (by omega), show i = m / 2 by omega]
  | succ dd ih =>
    intro i k K hi hK
    have hl : (twist st i d).length = m := by rw [twist_length, hd]
    have h2 : 2 * (i + 1) ≤ d.length := by omega
    have e1 := twist_lo st d h2
    have e2 := twist_hi st d h2
    have e3 := twist_step st d h2
    rw [hd] at e2 e3
    obtain ⟨K, rfl⟩ : ∃ q, K = q + 1 := ⟨K - 1, by omega⟩
    simp only [impl_undo_unite.l0, idx1 hm (show i < m by omega), hl, e1, e2]
    rw [if_pos (by omega), if_pos (by omega), if_pos (by omega), if_pos (by omega), if_pos (by omega), hst i (by omega)]
    simp only [Option.bind_some]
    rw [w64_succ _ (by omega), Int.toNat_natCast, Int.toNat_natCast, e3]
    exact ih (i + 1) k K (by omega) (by omega)
theorem iUnite_l1 (S0 : Int → Int → Int → Int → Option (Int × Int)) (S1 : Int → Int → Option (Int × Int)) (s e : List Int) (pf : Int → Int → Int × Int) (m : Nat) (hm : m ≤ 8) (hs : s.length = m) (he : e.length = m)
    (hpf : ∀ i : Nat, i < m → S1 (rd s (i : Int)) (rd e (i : Int)) = some (pf (rd s (i : Int)) (rd e (i : Int)))) :
    ∀ (dd i k : Nat), i + dd = m → dd < k → impl_undo_unite.l1 k s e ((2 * m : Nat) : Int) (U m (fun j => (pf (rd s (j : Int)) (rd e (j : Int))).1) (fun j => (pf (rd s (j : Int)) (rd e (j : Int))).2) i) (m : Int) (i : Int) S0 S1 = some (outs pf s e, e) := by
  intro dd
  induction dd with
  | zero =>
    intro i k hi hk
    obtain ⟨k, rfl⟩ : ∃ q, k = q + 1 := ⟨k - 1, by omega⟩
    simp only [impl_undo_unite.l1]
    rw [if_neg (by omega), show i = m by omega, U_end]
    unfold outs; rw [hs]
  | succ dd ih =>
    intro i k hi hk
    obtain ⟨k, rfl⟩ : ∃ q, k = q + 1 := ⟨k - 1, by omega⟩
    have e3 := U_step m (fun j => (pf (rd s (j : Int)) (rd e (j : Int))).1) (fun j => (pf (rd s (j : Int)) (rd e (j : Int))).2) (show i < m by omega)
    simp only [impl_undo_unite.l1, idx2 hm (show i < 2 * m by omega), U_length]
    rw [if_pos (by omega), if_pos (by omega), if_pos (by omega), if_pos (by omega), hpf i (by omega)]
    simp only [Option.bind_some]
    rw [if_pos (by omega), if_pos (by omega), if_pos (by omega), w64_succ _ (by omega), Int.toNat_natCast, Int.toNat_natCast, e3]
    exact ih (i + 1) k (by omega) (by omega)
theorem impl_unite_eq (S0 : Int → Int → Int → Int → Option (Int × Int)) (S1 : Int → Int → Option (Int × Int)) (st : Nat → Nat → Int → Int → Int × Int) (pf : Int → Int → Int × Int) (s d : List Int) (m : Nat) (hm : m ≤ 8) (hs : s.length = m) (hd : d.length = m)
    (hst : ∀ i, i < m / 2 → S0 ((2 * m : Nat) : Int) (i : Int) (rd d (i : Int)) (rd d ((m - 1 - i : Nat) : Int)) = some (st (2 * m) i (rd d (i : Int)) (rd d ((m - 1 - i : Nat) : Int))))
    (hpf : ∀ i : Nat, i < m → S1 (rd s (i : Int)) (rd (twist (st (2 * m)) (m / 2) d) (i : Int)) = some (pf (rd s (i : Int)) (rd (twist (st (2 * m)) (m / 2) d) (i : Int)))) (k : Nat) (hk : 40 ≤ k) :
    impl_undo_unite.f k S0 S1 s d = some (uniteM st pf s d, twist (st (2 * m)) (m / 2) d) := by
  unfold impl_undo_unite.f
  have e0 : wrap64 (2 * (s.length : Int)) = ((2 * m : Nat) : Int) := by rw [w64 (by omega) (by omega)]; omega
  rw [e0, if_pos (by omega), if_pos (by omega), quart hm, Int.toNat_natCast]
  have h1 := iUnite_l0 S0 S1 s d (List.replicate (2 * m) 0) (st (2 * m)) m hm hd hst (m / 2) 0 (k - m / 2 - 1) k (by omega) (by omega)
  rw [twist_zero] at h1
  refine h1.trans ?_
  have h2 := iUnite_l1 S0 S1 s (twist (st (2 * m)) (m / 2) d) pf m hm hs (by rw [twist_length, hd]) hpf m 0 (k - m / 2 - 1) (by omega) (by omega)
  rw [U_zero] at h2
  unfold uniteM
  rw [hs]
  exact h2

def pf (s d : Int) : Int × Int := (s - d / 2 + d, s - d / 2)
theorem valid_of {m i : Nat} (hm : Sz m) (hi : i < m / 2) : Valid ((2 * m : Nat) : Int) (i : Int) := by
  unfold Sz at hm
  unfold Valid
  rcases hm with rfl | rfl | rfl | rfl
  · omega
  · exact .inl ⟨rfl, by omega⟩
  · exact .inr (.inl ⟨rfl, by omega⟩)
  · exact .inr (.inr ⟨rfl, by omega⟩)
theorem Sz.le {m : Nat} (h : Sz m) : 1 ≤ m ∧ m ≤ 8 := by unfold Sz at h; omega
theorem size_m {a : Int} (h : sizeF a = 0) : ∃ m : Nat, (m = 2 ∨ m = 4 ∨ m = 8) ∧ a = ((2 * m : Nat) : Int) := by
  rcases sizeF_cases a with ⟨_, h4 | h8 | h16⟩ | ⟨h3, _⟩
  · exact ⟨2, .inl rfl, h4⟩
  · exact ⟨4, .inr (.inl rfl), h8⟩
  · exact ⟨8, .inr (.inr rfl), h16⟩
  · omega
theorem lvl_m {m : Nat} (h : m = 2 ∨ m = 4 ∨ m = 8) : 2 * m = 2 ^ lvl (2 * m) ∧ lvl (2 * m) ≤ 4 := by
  rcases h with rfl | rfl | rfl <;> decide

def SA (m : Nat) (f z : Nat → Int) (i : Nat) : List Int := gen m fun j => if m - 1 - j < i then f (m - 1 - j) else z j
def SB (m : Nat) (g z : Nat → Int) (i : Nat) : List Int := gen m fun j => if j < i then g j else z j
theorem SA_length (m : Nat) (f z : Nat → Int) (i : Nat) : (SA m f z i).length = m := gen_length _ _
theorem SB_length (m : Nat) (g z : Nat → Int) (i : Nat) : (SB m g z i).length = m := gen_length _ _
theorem SA_zero (m : Nat) (f z : Nat → Int) : SA m f z 0 = gen m z := gen_congr fun j _ => if_neg (by omega)
theorem SB_zero (m : Nat) (f z : Nat → Int) : SB m f z 0 = gen m z := gen_congr fun j _ => if_neg (by omega)
theorem SA_end (m : Nat) (f z : Nat → Int) : SA m f z m = gen m fun j => f (m - 1 - j) := gen_congr fun j _ => if_pos (by omega)
theorem SB_end (m : Nat) (f z : Nat → Int) : SB m f z m = gen m f := gen_congr fun j hj => if_pos hj
theorem SA_at (m : Nat) (f z : Nat → Int) {i : Nat} (h : i < m) : rd (SA m f z i) ((m - 1 - i : Nat) : Int) = z (m - 1 - i) := by
  unfold SA; rw [rd_gen _ _ (by omega), if_neg (by omega)]
theorem SB_at (m : Nat) (f z : Nat → Int) {i : Nat} (h : i < m) : rd (SB m f z i) (i : Int) = z i := by
  unfold SB; rw [rd_gen _ _ (by omega), if_neg (by omega)]
theorem SA_step (m : Nat) (f z : Nat → Int) {i : Nat} (h : i < m) : (SA m f z i).set (m - 1 - i) (f i) = SA m f z (i + 1) := by
  refine ext_rd (by rw [List.length_set, SA_length, SA_length]) ?_
  intro j hj
  rw [List.length_set, SA_length] at hj
  rw [rd_set _ _ (by rw [SA_length]; omega)]
  unfold SA
  rw [rd_gen _ _ hj, rd_gen _ _ hj]
  by_cases e : j = m - 1 - i
  · rw [if_pos e, if_pos (by omega), show m - 1 - j = i by omega]
  · rw [if_neg e]
    by_cases g : m - 1 - j < i
    · rw [if_pos g, if_pos (by omega)]
    · rw [if_neg g, if_neg (by omega)]
theorem SB_step (m : Nat) (f z : Nat → Int) {i : Nat} (h : i < m) : (SB m f z i).set i (f i) = SB m f z (i + 1) := by
  refine ext_rd (by rw [List.length_set, SB_length, SB_length]) ?_
  intro j hj
  rw [List.length_set, SB_length] at hj
  rw [rd_set _ _ (by rw [SB_length]; omega)]
  unfold SB
  rw [rd_gen _ _ hj, rd_gen _ _ hj]
  by_cases e : j = i
  · rw [if_pos e, if_pos (by omega), e]
  · rw [if_neg e]
    by_cases g : j < i
    · rw [if_pos g, if_pos (by omega)]
    · rw [if_neg g, if_neg (by omega)]
/-- What a seam tells, by what each step tells. -/
def seamA (m : Nat) (F : Nat → Int × Int) : List Int := gen m fun j => (F (m - 1 - j)).1
def seamB (m : Nat) (F : Nat → Int × Int) : List Int := gen m fun j => (F j).2
theorem seamA_length (m : Nat) (F : Nat → Int × Int) : (seamA m F).length = m := gen_length _ _
theorem seamB_length (m : Nat) (F : Nat → Int × Int) : (seamB m F).length = m := gen_length _ _
theorem idxS {m i : Nat} (hm : m ≤ 8) (hi : i < m) : wrap64 (wrap64 ((m : Int) - 1) - (i : Int)) = ((m - 1 - i : Nat) : Int) := by
  rw [w64 (x := (m : Int) - 1) (by omega) (by omega), w64 (by omega) (by omega)]; omega
theorem validS {m i : Nat} (hm : m = 2 ∨ m = 4 ∨ m = 8) (hi : i < m) : Valid ((2 * m : Nat) : Int) (i : Int) := by
  unfold Valid; omega
theorem iSeam_l0 {m : Nat} (hm : m ≤ 8) (S : Int → Int → Int → Option (Int × Int)) (F : Nat → Int × Int) (za zb : Nat → Int) (h : ∀ i, i < m → S (i : Int) (za (m - 1 - i)) (zb i) = some (F i)) : ∀ (d i K : Nat), i + d = m → d < K →
    impl_seam.l0 K S (SA m (fun i => (F i).1) za i) (SB m (fun i => (F i).2) zb i) (m : Int) (i : Int) = some (seamA m F, seamB m F) := by
  intro d
  induction d with
  | zero =>
    intro i K hi hK
    obtain ⟨K, rfl⟩ : ∃ q, K = q + 1 := ⟨K - 1, by omega⟩
    obtain rfl : i = m := by omega
    rw [impl_seam.l0, if_neg (by omega), SA_end, SB_end]; rfl
  | succ d ih =>
    intro i K hi hK
    obtain ⟨K, rfl⟩ : ∃ q, K = q + 1 := ⟨K - 1, by omega⟩
    have ix := idxS hm (show i < m by omega)
    rw [impl_seam.l0, SA_length, SB_length, ix, SA_at _ _ _ (by omega), SB_at _ _ _ (by omega), h i (by omega)]
    rw [if_pos (by omega), if_pos (by omega), if_pos (by omega), if_pos (by omega), if_pos (by omega), bindS, Int.toNat_natCast, Int.toNat_natCast, w64_succ i (by omega)]
    have e1 := SA_step m (fun i => (F i).1) za (i := i) (by omega)
    have e2 := SB_step m (fun i => (F i).2) zb (i := i) (by omega)
    rw [e1, e2]
    exact ih (i + 1) K (by omega) (by omega)
theorem iSeam {m : Nat} (hm : m ≤ 8) (S : Int → Int → Int → Option (Int × Int)) (F : Nat → Int × Int) (a b : List Int) (ha : a.length = m) (hb : b.length = m) (h : ∀ i : Nat, i < m → S (i : Int) (rd a ((m - 1 - i : Nat) : Int)) (rd b (i : Int)) = some (F i)) (K : Nat) (hK : 20 ≤ K) :
    impl_seam.f K a b S = some (seamA m F, seamB m F) := by
  unfold impl_seam.f
  rw [cloneI_eq a (by omega), bindS, cloneI_eq b (by omega), bindS, hb]
  have := iSeam_l0 hm S F (fun j => rd a (j : Int)) (fun j => rd b (j : Int)) h m 0 K (by omega) (by omega)
  rw [SA_zero, SB_zero, gen_rd a ha, gen_rd b hb] at this
  exact this

theorem zerosB_eq {m : Nat} (hm : m ≤ 1000) : spec_l1Zeros.f (m : Int) = some (gen m fun _ => 0) := by
  unfold spec_l1Zeros.f
  rw [if_pos (by omega), Int.toNat_natCast, if_pos (by omega), zeros_gen]
theorem bSeam_l0 {m : Nat} (hm : m ≤ 8) (s : Int) (F : Nat → Int × Int) (a b : List Int) (ha : a.length = m) (hb : b.length = m)
    (h : ∀ i : Nat, i < m → spec_l8Turn.f s (i : Int) (rd a ((m - 1 - i : Nat) : Int)) (rd b (i : Int)) = some (F i)) : ∀ (d i K : Nat), i + d = m → d < K →
    spec_l8Seam.l0 K s a b (m : Int) (SA m (fun i => (F i).1) (fun _ => 0) i) (SB m (fun i => (F i).2) (fun _ => 0) i) (i : Int) = some (seamA m F, seamB m F) := by
  intro d
  induction d with
  | zero =>
    intro i K hi hK
    obtain ⟨K, rfl⟩ : ∃ q, K = q + 1 := ⟨K - 1, by omega⟩
    obtain rfl : i = m := by omega
    rw [spec_l8Seam.l0, if_neg (by omega), SA_end, SB_end]; rfl
  | succ d ih =>
    intro i K hi hK
    obtain ⟨K, rfl⟩ : ∃ q, K = q + 1 := ⟨K - 1, by omega⟩
    have ix := idxS hm (show i < m by omega)
    have e1 := SA_step m (fun i => (F i).1) (fun _ => 0) (i := i) (by omega)
    have e2 := SB_step m (fun i => (F i).2) (fun _ => 0) (i := i) (by omega)
    have hh := h i (by omega)
    have ih' := ih (i + 1) K (by omega) (by omega)
    rw [spec_l8Seam.l0, SA_length, SB_length, ix, hh]
    rw [if_pos (by omega), if_pos (by omega), if_pos (by omega), if_pos (by omega), if_pos (by omega), bindS, if_pos (by omega), if_pos (by omega), Int.toNat_natCast, Int.toNat_natCast, w64_succ i (by omega), e1, e2]
    exact ih'
theorem bSeam {m : Nat} (hm : m ≤ 8) (F : Nat → Int × Int) (a b : List Int) (ha : a.length = m) (hb : b.length = m)
    (h : ∀ i : Nat, i < m → spec_l8Turn.f ((2 * m : Nat) : Int) (i : Int) (rd a ((m - 1 - i : Nat) : Int)) (rd b (i : Int)) = some (F i)) (K : Nat) (hK : 20 ≤ K) :
    spec_l8Seam.f K ((2 * m : Nat) : Int) a b = some (seamA m F, seamB m F) := by
  unfold spec_l8Seam.f
  rw [halfI hm, zerosB_eq (by omega), bindS, bindS]
  have := bSeam_l0 hm _ F a b ha hb h m 0 K (by omega) (by omega)
  rw [SA_zero, SB_zero] at this
  exact this

theorem iGather_l0 (S0 : Int → Int → Int → Int → Option (Int × Int)) (S1 : Int → Int → Option (Int × Int)) (c : List Int) (m : Nat) (hc : c.length = 2 * m) (hm : m ≤ 8) : ∀ (dd i k K : Nat), i + dd = m → K = k + 2 * dd + 1 →
    impl_undo_gather.l0 K (gen i fun j => rd c ((2 * j : Nat) : Int)) (gen i fun j => rd c ((2 * j + 1 : Nat) : Int)) c (c.length : Int) ((2 * i : Nat) : Int) S0 S1 = (impl_undo_gather.f k S0 S1 (evens c)).bind fun a => (impl_undo_gather.f k S0 S1 (odds c)).bind fun b => (impl_undo_unite.f k S0 S1 a b).bind fun t => some t.1 := by
  intro dd
  induction dd with
  | zero =>
    intro i k K hi hK
    obtain rfl : K = k + 1 := by omega
    simp only [impl_undo_gather.l0]
    rw [if_neg (by omega)]
    unfold evens odds
    rw [hc, show 2 * m / 2 = i by omega]
  | succ dd ih =>
    intro i k K hi hK
    obtain ⟨K, rfl⟩ : ∃ q, K = q + 1 := ⟨K - 1, by omega⟩
    have t0 : Int.tmod ((2 * i : Nat) : Int) 2 = 0 := by rw [tmod_pos (by omega)]; omega
    have t1 : ¬ Int.tmod ((2 * i + 1 : Nat) : Int) 2 = 0 := by rw [tmod_pos (by omega)]; omega
    rw [impl_undo_gather.l0]
    rw [if_pos (by omega), if_pos (by omega), if_pos (by omega), if_pos t0, gen_length, if_pos (by omega), w64_succ _ (by omega)]
    obtain ⟨K, rfl⟩ : ∃ q, K = q + 1 := ⟨K - 1, by omega⟩
    rw [impl_undo_gather.l0]
    rw [if_pos (by omega), if_pos (by omega), if_pos (by omega), if_neg t1, gen_length, if_pos (by omega), w64_succ _ (by omega)]
    have := ih (i + 1) k K (by omega) (by omega)
    rw [gen_succ, gen_succ] at this
    exact this

theorem ints_marks (c : Int) (ys : List Int) (hl : ys.length ≤ 1000000) (k : Nat) (hk : ys.length < k) : ∃ zs, laws_markIntsResult.f k c ys 1 = some (((1 + ys.length : Nat) : Int), zs) ∧ laws_heldIntsResult.f k c zs 1 = some ((1 + ys.length : Nat) : Int) := by
  obtain ⟨zs, m1, m2, m3⟩ := mark_held_ints ys 1 k (by omega) (by omega) hk
  refine ⟨zs, ?_, ?_⟩
  · unfold laws_markIntsResult.f
    rw [show (1 : Int) = ((1 : Nat) : Int) from rfl, m1]; rfl
  · unfold laws_heldIntsResult.f
    rw [show (1 : Int) = ((1 : Nat) : Int) from rfl, m3]
    simp only [Option.bind_some]
    rw [if_neg (by omega)]

theorem ints_res (c : Int) (ys : List Int) (hl : ys.length ≤ 1000000) (k : Nat) (hk : ys.length < k) : laws_eqIntsResult.f k c ys c ys = some true := by
  unfold laws_eqIntsResult.f
  rw [if_pos rfl, eqInt64S_refl ys (by omega) k hk]; rfl

def Nd (N : Int) (xs : List Int) : Prop := ∀ j : Nat, 0 ≤ rd xs (j : Int) ∧ rd xs (j : Int) ≤ N
theorem Nd_gen {n : Nat} {f : Nat → Int} {M : Int} (h0 : 0 ≤ M) (h : ∀ j, j < n → 0 ≤ f j ∧ f j ≤ M) : Nd M (gen n f) := fun j => by
  by_cases hj : j < n
  · rw [rd_gen _ _ hj]; exact h j hj
  · rw [rd_out _ (by rw [gen_length]; omega)]; omega
theorem Nd_twist {st : Nat → Int → Int → Int × Int} {q : Nat} {d : List Int} {N M : Int} (h0 : 0 ≤ N) (hNM : N ≤ M) (hd : Nd N d)
    (hs : ∀ i a b, i < q → (0 ≤ a ∧ a ≤ N) → (0 ≤ b ∧ b ≤ N) → (0 ≤ (st i a b).1 ∧ (st i a b).1 ≤ M) ∧ (0 ≤ (st i a b).2 ∧ (st i a b).2 ≤ M)) : Nd M (twist st q d) := by
  unfold twist W
  refine Nd_gen (by omega) (fun j hj => ?_)
  by_cases h1 : j < q
  · rw [if_pos h1]; exact (hs j _ _ h1 (hd _) (hd _)).1
  · rw [if_neg h1]
    by_cases h2 : d.length - 1 - j < q
    · rw [if_pos h2]; exact (hs _ _ _ h2 (hd _) (hd _)).2
    · rw [if_neg h2]; have := hd j; omega
def boundS (n i : Nat) (a b : Int) : Int × Int := tb (pu (n : Int) (i : Int)).1 (pu (n : Int) (i : Int)).2 a b
def pg (s d : Int) : Int × Int := (s + -((-d) / 2), s + -((-d) / 2))
theorem tb_crude {p u a b N : Int} (hp : 0 ≤ p ∧ p ≤ 1024) (hu : 0 ≤ u ∧ u ≤ 1024) (ha : 0 ≤ a ∧ a ≤ N) (hb : 0 ≤ b ∧ b ≤ N) : (0 ≤ (tb p u a b).1 ∧ (tb p u a b).1 ≤ 5 * N) ∧ (0 ≤ (tb p u a b).2 ∧ (tb p u a b).2 ≤ 5 * N) := by
  have h1 := sh_bd hp.1 hp.2 hb.1
  have h2 := sh_bd (b := a + sh p b) hu.1 hu.2 (by omega)
  have h3 := sh_bd (b := b + sh u (a + sh p b)) hp.1 hp.2 (by omega)
  unfold tb
  simp only
  omega
theorem Nd_bound {m : Nat} (hm : Sz m) {d : List Int} {N : Int} (hN : 0 ≤ N) (h : Nd N d) : Nd (5 * N) (twist (boundS (2 * m)) (m / 2) d) := by
  refine Nd_twist (N := N) hN (by omega) h ?_
  intro i a b hi ha hb
  obtain ⟨_, hp, hu⟩ := turnOf_eq (valid_of hm hi)
  exact tb_crude hp hu ha hb
theorem Nd_outs {s e : List Int} {N : Int} (hN : 1 ≤ N) (hs : Nd N s) (he : Nd (5 * N) e) : Nd (4 * N) (outs pg s e) := by
  unfold outs pg
  refine Nd_gen (by omega) (fun j hj => ?_)
  by_cases h : j < s.length
  · rw [if_pos h]
    have h1 := hs j
    have h2 := he j
    simp only
    omega
  · rw [if_neg h]
    have h1 := hs (2 * s.length - 1 - j)
    have h2 := he (2 * s.length - 1 - j)
    simp only
    omega
theorem Nd_unite {m : Nat} (hm : Sz m) {s d : List Int} (hs : s.length = m) {N : Int} (hN : 1 ≤ N) (h1 : Nd N s) (h2 : Nd N d) : Nd (4 * N) (uniteM boundS pg s d) := by
  unfold uniteM
  rw [hs]
  exact Nd_outs hN h1 (Nd_bound hm (by omega) h2)
theorem Nd_evens {M : Int} {c : List Int} (h0 : 0 ≤ M) (h : Nd M c) : Nd M (evens c) := Nd_gen h0 (fun j _ => h _)
theorem Nd_odds {M : Int} {c : List Int} (h0 : 0 ≤ M) (h : Nd M c) : Nd M (odds c) := Nd_gen h0 (fun j _ => h _)
theorem pw4 (L : Nat) (hL : L ≤ 4) : 1 ≤ 2 ^ L ∧ 2 ^ L ≤ 16 := ⟨Nat.two_pow_pos L, Nat.pow_le_pow_right (by omega) hL⟩
theorem SzP (L : Nat) (hL : L ≤ 3) : Sz (2 ^ L) := by
  unfold Sz
  match L, hL with
  | 0, _ => exact .inl rfl
  | 1, _ => exact .inr (.inl rfl)
  | 2, _ => exact .inr (.inr (.inl rfl))
  | 3, _ => exact .inr (.inr (.inr rfl))
theorem evensL (c : List Int) : (evens c).length = c.length / 2 := gen_length _ _
theorem oddsL (c : List Int) : (odds c).length = c.length / 2 := gen_length _ _
theorem Nd_gather : ∀ (L : Nat) (c : List Int) (N : Int), L ≤ 4 → c.length = 2 ^ L → 1 ≤ N → Nd N c → Nd (4 ^ L * N) (gatherM boundS pg L c) := by
  intro L
  induction L with
  | zero => intro c N _ _ _ h; rw [gatherM]; simpa using h
  | succ L ih =>
    intro c N hL hc hN h
    rw [Nat.pow_succ] at hc
    have e1 : (evens c).length = 2 ^ L := by rw [evensL]; omega
    have e2 : (odds c).length = 2 ^ L := by rw [oddsL]; omega
    have b1 := ih (evens c) N (by omega) e1 hN (Nd_evens (by omega) h)
    have b2 := ih (odds c) N (by omega) e2 hN (Nd_odds (by omega) h)
    have hp : (1 : Int) ≤ 4 ^ L := Int.pow_pos (show (0 : Int) < 4 by decide)
    have hpN : 1 ≤ (4 : Int) ^ L * N := by have := Int.mul_le_mul_of_nonneg_right hp (show 0 ≤ N by omega); omega
    have := Nd_unite (SzP L (by omega)) (gatherM_length boundS pg L _ e1) hpN b1 b2
    rw [gatherM]
    rwa [← Int.mul_assoc, Int.mul_comm 4 ((4 : Int) ^ L), ← Int.pow_succ] at this

theorem bGather_l0 (c : List Int) (m : Nat) (hc : c.length = 2 * m) (hm : m ≤ 8) : ∀ (dd i k K : Nat), i + dd = m → K = k + dd + 1 →
    spec_l8Gather.l0 K c ((2 * m : Nat) : Int) (gen i fun j => rd c ((2 * j : Nat) : Int)) (gen i fun j => rd c ((2 * j + 1 : Nat) : Int)) ((2 * i : Nat) : Int) = (spec_l8Gather.f k (evens c)).bind fun a => (spec_l8Gather.f k (odds c)).bind fun b => if ((2 * m : Nat) : Int) > 2 then spec_l8Gather.l1 k ((2 * m : Nat) : Int) a b 0 else spec_l8Gather.j2 k ((2 * m : Nat) : Int) a b := by
  intro dd
  induction dd with
  | zero =>
    intro i k K hi hK
    obtain rfl : K = k + 1 := by omega
    simp only [spec_l8Gather.l0]
    rw [w64_succ _ (by omega), if_neg (by omega)]
    unfold evens odds
    rw [hc, show 2 * m / 2 = i by omega]
  | succ dd ih =>
    intro i k K hi hK
    obtain ⟨K, rfl⟩ : ∃ q, K = q + 1 := ⟨K - 1, by omega⟩
    simp only [spec_l8Gather.l0, gen_length]
    have e2 : wrap64 (((2 * i : Nat) : Int) + 2) = ((2 * (i + 1) : Nat) : Int) := by rw [w64 (by omega) (by omega)]; omega
    rw [w64_succ _ (by omega), e2, if_pos (by omega), if_pos (by omega), if_pos (by omega), if_pos (by omega), if_pos (by omega), if_pos (by omega), if_pos (by omega)]
    have := ih (i + 1) k K (by omega) (by omega)
    rw [gen_succ, gen_succ] at this
    exact this
theorem bGather_l1 (s d : List Int) (st : Nat → Int → Int → Int × Int) (m : Nat) (hm : m ≤ 8) (hd : d.length = m)
    (hst : ∀ i, i < m / 2 → spec_l8Turn.f ((2 * m : Nat) : Int) (i : Int) (rd d (i : Int)) (rd d ((m - 1 - i : Nat) : Int)) = some (st i (rd d (i : Int)) (rd d ((m - 1 - i : Nat) : Int)))) :
    ∀ (dd i k K : Nat), i + dd = m / 2 → K = k + dd + 1 → spec_l8Gather.l1 K ((2 * m : Nat) : Int) s (twist st i d) (i : Int) = spec_l8Gather.j2 k ((2 * m : Nat) : Int) s (twist st (m / 2) d) := by
  intro dd
  induction dd with
  | zero =>
    intro i k K hi hK
    obtain rfl : K = k + 1 := by omega
    simp only [spec_l8Gather.l1, quart hm]
    rw [if_neg (by omega), show i = m / 2 by omega]
  | succ dd ih =>
    intro i k K hi hK
    have hl : (twist st i d).length = m := by rw [twist_length, hd]
    have h2 : 2 * (i + 1) ≤ d.length := by omega
    have e1 := twist_lo st d h2
    have e2 := twist_hi st d h2
    have e3 := twist_step st d h2
    rw [hd] at e2 e3
    obtain ⟨K, rfl⟩ : ∃ q, K = q + 1 := ⟨K - 1, by omega⟩
    simp only [spec_l8Gather.l1, quart hm, idx1 hm (show i < m by omega), hl, e1, e2]
    rw [if_pos (by omega), if_pos (by omega), if_pos (by omega), if_pos (by omega), if_pos (by omega), hst i (by omega)]
    simp only [Option.bind_some]
    rw [w64_succ _ (by omega), Int.toNat_natCast, Int.toNat_natCast, e3]
    exact ih (i + 1) k K (by omega) (by omega)
theorem bGather_l2 (s e : List Int) (m : Nat) (hm : m ≤ 8) (hs : s.length = m) (he : e.length = m) {N : Int} (hN : 0 ≤ N) (hN2 : N ≤ 100000000000) (h1 : Nd N s) (h2 : Nd (5 * N) e) :
    ∀ (dd i k : Nat), i + dd = m → dd < k → spec_l8Gather.l2 k ((2 * m : Nat) : Int) s e (U m (fun j => (pg (rd s (j : Int)) (rd e (j : Int))).1) (fun j => (pg (rd s (j : Int)) (rd e (j : Int))).2) i) (i : Int) = some (outs pg s e) := by
  intro dd
  induction dd with
  | zero =>
    intro i k hi hk
    obtain ⟨k, rfl⟩ : ∃ q, k = q + 1 := ⟨k - 1, by omega⟩
    simp only [spec_l8Gather.l2, halfI hm]
    rw [if_neg (by omega), show i = m by omega, U_end]
    unfold outs; rw [hs]
  | succ dd ih =>
    intro i k hi hk
    obtain ⟨k, rfl⟩ : ∃ q, k = q + 1 := ⟨k - 1, by omega⟩
    have b1 := h1 i
    have b2 := h2 i
    have e3 := U_step m (fun j => (pg (rd s (j : Int)) (rd e (j : Int))).1) (fun j => (pg (rd s (j : Int)) (rd e (j : Int))).2) (show i < m by omega)
    have ec := l1Ceil_eq (rd e (i : Int)) 2 (by omega) (by omega) (by omega)
    have ew : wrap64 (rd s (i : Int) + -((-(rd e (i : Int))) / 2)) = rd s (i : Int) + -((-(rd e (i : Int))) / 2) := w64 (by omega) (by omega)
    simp only [spec_l8Gather.l2, halfI hm, idx2 hm (show i < 2 * m by omega), U_length]
    rw [if_pos (by omega), if_pos (by omega), if_pos (by omega), if_pos (by omega), ec]
    simp only [Option.bind_some]
    rw [if_pos (by omega), if_pos (by omega), if_pos (by omega), w64_succ _ (by omega), Int.toNat_natCast, Int.toNat_natCast, ew]
    have hx := ih (i + 1) k (by omega) (by omega)
    rw [← e3] at hx
    exact hx
theorem bGather : ∀ (L : Nat) (c : List Int) (N : Int) (k : Nat), L ≤ 4 → c.length = 2 ^ L → 1 ≤ N → Nd N c → 4 ^ L * N ≤ 100000000000 → 60 + 30 * L ≤ k → spec_l8Gather.f k c = some (gatherM boundS pg L c) := by
  intro L
  induction L with
  | zero =>
    intro c N k _ hc _ _ _ hk
    obtain ⟨k, rfl⟩ : ∃ q, k = q + 1 := ⟨k - 1, by omega⟩
    simp only [spec_l8Gather.f]
    unfold spec_l1Ints.f
    simp only [bindS, List.length_nil, List.nil_append]
    rw [if_pos (by rw [hc]; rfl), if_pos (by rw [hc]; decide)]
    rfl
  | succ L ih =>
    intro c N k hL hc hN h hb hk
    obtain ⟨k, rfl⟩ : ∃ q, k = q + 1 := ⟨k - 1, by omega⟩
    have hp2 := pw4 L (by omega)
    have hpw : (2 : Nat) ^ (L + 1) = 2 * 2 ^ L := by rw [Nat.pow_succ]; omega
    have hp8 : 2 ^ L ≤ 8 := Nat.pow_le_pow_right (n := 2) (by omega) (show L ≤ 3 by omega)
    rw [hpw] at hc
    have e1 : (evens c).length = 2 ^ L := by rw [evensL]; omega
    have e2 : (odds c).length = 2 ^ L := by rw [oddsL]; omega
    have hp : (1 : Int) ≤ 4 ^ L := Int.pow_pos (show (0 : Int) < 4 by decide)
    have hpN : 1 ≤ (4 : Int) ^ L * N := by have := Int.mul_le_mul_of_nonneg_right hp (show 0 ≤ N by omega); omega
    have hb' : 4 * ((4 : Int) ^ L * N) ≤ 100000000000 := by rw [← Int.mul_assoc, Int.mul_comm 4 ((4 : Int) ^ L), ← Int.pow_succ]; exact hb
    have b1 := Nd_gather L (evens c) N (by omega) e1 hN (Nd_evens (by omega) h)
    have b2 := Nd_gather L (odds c) N (by omega) e2 hN (Nd_odds (by omega) h)
    have l1 := gatherM_length boundS pg L _ e1
    have l2 := gatherM_length boundS pg L _ e2
    have g1 := ih (evens c) N (k - 2 ^ L - 1) (by omega) e1 hN (Nd_evens (by omega) h) (by omega) (by omega)
    have g2 := ih (odds c) N (k - 2 ^ L - 1) (by omega) e2 hN (Nd_odds (by omega) h) (by omega) (by omega)
    have g0 := bGather_l0 c (2 ^ L) hc hp8 (2 ^ L) 0 (k - 2 ^ L - 1) k (by omega) (by omega)
    have hSz := SzP L (by omega)
    generalize hS : gatherM boundS pg L (evens c) = S at b1 l1 g1
    generalize hD : gatherM boundS pg L (odds c) = D at b2 l2 g2
    have hr : gatherM boundS pg (L + 1) c = uniteM boundS pg (gatherM boundS pg L (evens c)) D := by rw [gatherM, hD]
    generalize hm : 2 ^ L = m at *
    generalize hM : (4 : Int) ^ L * N = M at *
    have tl : ∀ q, 20 ≤ q → spec_l8Gather.j2 q ((2 * m : Nat) : Int) S (twist (boundS (2 * m)) (m / 2) D) = some (uniteM boundS pg S D) := by
      intro q hq
      obtain ⟨q, rfl⟩ : ∃ r, q = r + 1 := ⟨q - 1, by omega⟩
      simp only [spec_l8Gather.j2]
      unfold spec_l1Zeros.f
      rw [if_pos (by omega), if_pos (by omega), Int.toNat_natCast]
      simp only [bindS]
      have := bGather_l2 S (twist (boundS (2 * m)) (m / 2) D) m hp8 l1 (by rw [twist_length, l2]) (N := M) (by omega) (by omega) b1 (Nd_bound hSz (by omega) b2) m 0 q (by omega) (by omega)
      rw [U_zero] at this
      unfold uniteM
      rw [l1]
      exact this
    simp only [spec_l8Gather.f]
    rw [if_neg (by omega), hc]
    refine Eq.trans g0 ?_
    simp only [g1, g2, bindS]
    have hfin : (if ((2 * m : Nat) : Int) > 2 then spec_l8Gather.l1 (k - m - 1) ((2 * m : Nat) : Int) S D 0 else spec_l8Gather.j2 (k - m - 1) ((2 * m : Nat) : Int) S D) = some (uniteM boundS pg S D) := by
      by_cases hgt : ((2 * m : Nat) : Int) > 2
      · rw [if_pos hgt]
        have := bGather_l1 S D (boundS (2 * m)) m hp8 l2 (fun i hi => by
          have c1 := b2 i
          have c2 := b2 (m - 1 - i)
          exact l8Turn_eq (valid_of hSz hi) _ _ (by omega) (by omega)) (m / 2) 0 (k - m - 1 - m / 2 - 1) (k - m - 1) (by omega) (by omega)
        rw [twist_zero] at this
        exact this.trans (tl _ (by omega))
      · rw [if_neg hgt]
        have := tl (k - m - 1) (by omega)
        rw [show m / 2 = 0 by omega, twist_zero] at this
        exact this
    exact hfin.trans (by rw [hr, hS])

theorem ofBounds1_eq {s n : Int} (hv : Valid s n) (a b : Int) (ha : 0 ≤ a ∧ a ≤ 140737488355328) (hb : 0 ≤ b ∧ b ≤ 140737488355328) : impl_ofBounds_1.f s n a b = some (tb (pu s n).1 (pu s n).2 a b) := by
  unfold impl_ofBounds_1.f
  obtain ⟨e, hp, hu⟩ := turnOf_eq hv
  rw [e]
  simp only [Option.bind_some]
  rw [turn_bounds_eq _ _ _ _ hp hu ha hb]; rfl
theorem partBounds_eq (s d : Int) (hs : 0 ≤ s ∧ s ≤ 1099511627776) (hd : 0 ≤ d ∧ d ≤ 1099511627776) : impl_partBounds.f s d = some (pg s d) := by
  unfold impl_partBounds.f pg
  rw [ceilDiv_eq _ _ (by omega) (by omega) (by omega)]
  simp only [Option.bind_some]
  rw [w64 (by omega) (by omega)]
theorem iUniteB {m : Nat} (hm : Sz m) {s d : List Int} (hs : s.length = m) (hd : d.length = m) {N : Int} (hN : 0 ≤ N) (hN2 : N ≤ 100000000000) (h1 : Nd N s) (h2 : Nd N d) (k : Nat) (hk : 40 ≤ k) : ∃ e, impl_undo_unite.f k impl_ofBounds_1.f impl_partBounds.f s d = some (uniteM boundS pg s d, e) := by
  have hb := Nd_bound hm hN h2
  refine ⟨_, impl_unite_eq impl_ofBounds_1.f impl_partBounds.f boundS pg s d m hm.le.2 hs hd ?_ ?_ k hk⟩
  · intro i hi
    have b1 := h2 i
    have b2 := h2 (m - 1 - i)
    exact ofBounds1_eq (valid_of hm hi) _ _ (by omega) (by omega)
  · intro i hi
    have b1 := h1 i
    have b2 := hb i
    exact partBounds_eq _ _ (by omega) (by omega)

theorem iGatherB : ∀ (L : Nat) (c : List Int) (N : Int) (k : Nat), L ≤ 4 → c.length = 2 ^ L → 1 ≤ N → Nd N c → 4 ^ L * N ≤ 100000000000 → 60 + 30 * L ≤ k → impl_undo_gather.f k impl_ofBounds_1.f impl_partBounds.f c = some (gatherM boundS pg L c) := by
  intro L
  induction L with
  | zero =>
    intro c N k _ hc _ _ _ hk
    obtain ⟨k, rfl⟩ : ∃ q, k = q + 1 := ⟨k - 1, by omega⟩
    have hc1 : c.length = 1 := hc
    simp only [impl_undo_gather.f]
    rw [if_pos (by omega), if_pos (by omega), gatherM]
    match c, hc1 with
    | [x], _ => rfl
  | succ L ih =>
    intro c N k hL hc hN h hb hk
    obtain ⟨k, rfl⟩ : ∃ q, k = q + 1 := ⟨k - 1, by omega⟩
    have hp2 := pw4 L (by omega)
    have hpw : (2 : Nat) ^ (L + 1) = 2 * 2 ^ L := by rw [Nat.pow_succ]; omega
    have hp8 : 2 ^ L ≤ 8 := by
      have := Nat.pow_le_pow_right (n := 2) (by omega) (show L ≤ 3 by omega)
      exact this
    rw [hpw] at hc
    have e1 : (evens c).length = 2 ^ L := by rw [evensL]; omega
    have e2 : (odds c).length = 2 ^ L := by rw [oddsL]; omega
    have hp : (1 : Int) ≤ 4 ^ L := Int.pow_pos (show (0 : Int) < 4 by decide)
    have hpN : 1 ≤ (4 : Int) ^ L * N := by have := Int.mul_le_mul_of_nonneg_right hp (show 0 ≤ N by omega); omega
    have hb' : 4 * ((4 : Int) ^ L * N) ≤ 100000000000 := by rw [← Int.mul_assoc, Int.mul_comm 4 ((4 : Int) ^ L), ← Int.pow_succ]; exact hb
    have b1 := Nd_gather L (evens c) N (by omega) e1 hN (Nd_evens (by omega) h)
    have b2 := Nd_gather L (odds c) N (by omega) e2 hN (Nd_odds (by omega) h)
    have l1 := gatherM_length boundS pg L _ e1
    have l2 := gatherM_length boundS pg L _ e2
    have g1 := ih (evens c) N (k - 2 * 2 ^ L - 1) (by omega) e1 hN (Nd_evens (by omega) h) (by omega) (by omega)
    have g2 := ih (odds c) N (k - 2 * 2 ^ L - 1) (by omega) e2 hN (Nd_odds (by omega) h) (by omega) (by omega)
    obtain ⟨e, g3⟩ := iUniteB (SzP L (by omega)) l1 l2 (by omega) (by omega) b1 b2 (k - 2 * 2 ^ L - 1) (by omega)
    have g0 := iGather_l0 impl_ofBounds_1.f impl_partBounds.f c (2 ^ L) hc hp8 (2 ^ L) 0 (k - 2 * 2 ^ L - 1) k (by omega) (by omega)
    simp only [impl_undo_gather.f]
    rw [if_neg (by omega)]
    refine Eq.trans g0 ?_
    simp only [g1, g2, g3, bindS]
    rw [gatherM]

theorem Nd_all {N : Int} {xs : List Int} (h0 : 0 ≤ N) (h : allIn 0 N xs = true) : Nd N xs := fun j => by
  by_cases hj : j < xs.length
  · rw [rd_get xs j hj]; exact (allIn_iff _ _ _).1 h _ (List.getElem_mem hj)
  · rw [rd_out _ (by omega)]; omega
theorem pow_topB (L : Nat) (hL : L ≤ 4) : (4 : Int) ^ L * 67108864 ≤ 100000000000 := by
  match L, hL with
  | 0, _ => decide
  | 1, _ => decide
  | 2, _ => decide
  | 3, _ => decide
  | 4, _ => decide
theorem any_allIn (lo hi : Int) (xs : List Int) : (xs.any fun x => !decide (lo ≤ x ∧ x ≤ hi)) = !allIn lo hi xs := by
  unfold allIn
  induction xs with
  | nil => rfl
  | cons x xs ih => rw [List.any_cons, List.all_cons, ih]; cases decide (lo ≤ x ∧ x ≤ hi) <;> simp
theorem boundsFault_eq (xs : List Int) (k : Nat) (hk : 100 ≤ k) : impl_boundsFault.f k xs = some (if sizeF (xs.length : Int) = 0 then (if allIn 0 67108864 xs = true then 0 else 3) else 2) := by
  have w1 : slices_ContainsFunc_int64_int64.f xs (fun x => !decide (0 ≤ x ∧ x ≤ 67108864)) = some (!allIn 0 67108864 xs) := by
    unfold slices_ContainsFunc_int64_int64.f; rw [any_allIn]
  have hf : ∀ p q : Int, impl_first.f k [p, q] = some (nz [p, q]) := fun p q => first_eq _ (by simp) k (by simp; omega)
  unfold impl_boundsFault.f impl_isBlock.f
  simp only [impl_SizeFault_eq, bindS, w1, codeIf_eq, hf, nz]
  by_cases h : sizeF (xs.length : Int) = 0
  · by_cases h1 : allIn 0 67108864 xs = true <;> simp [h, h1]
  · by_cases h1 : allIn 0 67108864 xs = true <;> simp [h, h1]

theorem Nd_take {N : Int} (h0 : 0 ≤ N) {xs : List Int} (n : Nat) (hx : Nd N xs) : Nd N (xs.take n) := by
  intro j
  have := hx j
  rw [rd_nat, List.getD_eq_getElem?_getD] at this ⊢
  rw [List.getElem?_take]
  split
  · exact this
  · exact ⟨Int.le_refl _, h0⟩
theorem Nd_drop {N : Int} {xs : List Int} (n : Nat) (hx : Nd N xs) : Nd N (xs.drop n) := by
  intro j
  have := hx (n + j)
  rw [rd_nat, List.getD_eq_getElem?_getD] at this ⊢
  rwa [List.getElem?_drop]
def bc (xs : List Int) : Int := if sizeF (xs.length : Int) = 0 then (if allIn 0 67108864 xs = true then 0 else 3) else 2
theorem l8Ask_eq (xs : List Int) (hn : xs.length ≤ 1000000000) (k : Nat) (hk : xs.length < k) : spec_l8Ask.f k xs = some (bc xs) := by
  unfold spec_l8Ask.f bc
  rw [spec_SizeFault_eq, bindS]
  by_cases h : sizeF (xs.length : Int) = 0
  · rw [if_pos h, if_pos h, l1All_eq xs _ _ (by omega) k hk, bindS]
    by_cases g : allIn 0 67108864 xs = true
    · rw [if_pos g, if_pos g]
    · rw [if_neg g, if_neg g]
  · rw [if_neg h, if_neg h]
def stQ (m : Nat) (a b : List Int) (i : Nat) : Int × Int := boundS (2 * m) i (rd a ((m - 1 - i : Nat) : Int)) (rd b (i : Int))
def gB (m : Nat) (c : List Int) : List Int := gatherM boundS pg (lvl (2 * m)) c
theorem gB_length {m : Nat} (m3 : m = 2 ∨ m = 4 ∨ m = 8) {c : List Int} (h : c.length = 2 * m) : (gB m c).length = 2 * m := by
  unfold gB
  rw [gatherM_length _ _ _ _ (by rw [h]; exact (lvl_m m3).1)]; exact (lvl_m m3).1.symm
theorem gB_nd {m : Nat} (m3 : m = 2 ∨ m = 4 ∨ m = 8) {c : List Int} (h : c.length = 2 * m) (hb : Nd 67108864 c) : Nd 100000000000 (gB m c) := by
  have g := Nd_gather (lvl (2 * m)) c 67108864 (lvl_m m3).2 (by rw [h]; exact (lvl_m m3).1) (by omega) hb
  have p := pow_topB (lvl (2 * m)) (lvl_m m3).2
  intro j
  have := g j
  unfold gB
  omega
theorem gB_spec {m : Nat} (m3 : m = 2 ∨ m = 4 ∨ m = 8) {c : List Int} (h : c.length = 2 * m) (hb : Nd 67108864 c) (k : Nat) (hk : 1000 ≤ k) : spec_l8Gather.f k c = some (gB m c) :=
  bGather (lvl (2 * m)) c 67108864 k (lvl_m m3).2 (by rw [h]; exact (lvl_m m3).1) (by omega) hb (pow_topB _ (lvl_m m3).2) (by have := (lvl_m m3).2; omega)
theorem gB_impl {m : Nat} (m3 : m = 2 ∨ m = 4 ∨ m = 8) {c : List Int} (h : c.length = 2 * m) (hb : Nd 67108864 c) (k : Nat) (hk : 1000 ≤ k) : impl_undo_gather.f k impl_ofBounds_1.f impl_partBounds.f c = some (gB m c) :=
  iGatherB (lvl (2 * m)) c 67108864 k (lvl_m m3).2 (by rw [h]; exact (lvl_m m3).1) (by omega) hb (pow_topB _ (lvl_m m3).2) (by have := (lvl_m m3).2; omega)
theorem stQ_spec {m : Nat} (m3 : m = 2 ∨ m = 4 ∨ m = 8) {a b : List Int} (ha : Nd 100000000000 a) (hb : Nd 100000000000 b) : ∀ i : Nat, i < m → spec_l8Turn.f ((2 * m : Nat) : Int) (i : Int) (rd a ((m - 1 - i : Nat) : Int)) (rd b (i : Int)) = some (stQ m a b i) := by
  intro i hi
  have a1 := ha (m - 1 - i)
  have a2 := hb i
  exact l8Turn_eq (validS m3 hi) _ _ (by omega) (by omega)
theorem stQ_impl {m : Nat} (m3 : m = 2 ∨ m = 4 ∨ m = 8) {a b : List Int} (ha : Nd 100000000000 a) (hb : Nd 100000000000 b) : ∀ i : Nat, i < m → impl_ofBounds_1.f ((2 * m : Nat) : Int) (i : Int) (rd a ((m - 1 - i : Nat) : Int)) (rd b (i : Int)) = some (stQ m a b i) := by
  intro i hi
  have a1 := ha (m - 1 - i)
  have a2 := hb i
  exact ofBounds1_eq (validS m3 hi) _ _ (by omega) (by omega)
structure RightB (m : Nat) (x y z : List Int) : Prop where
  m3 : m = 2 ∨ m = 4 ∨ m = 8
  lx : x.length = 2 * m
  ly : y.length = 2 * m
  lz : z.length = 2 * m
  bx : Nd 67108864 x
  by' : Nd 67108864 y
  bz : Nd 67108864 z
def frameB (m : Nat) (x y z : List Int) : List Int :=
  seamB m (stQ m ((gB m x).drop m) ((gB m y).take m)) ++ seamA m (stQ m ((gB m y).drop m) ((gB m z).take m))
theorem frameB_length (m : Nat) (x y z : List Int) : (frameB m x y z).length = 2 * m := by
  unfold frameB; rw [List.length_append, seamB_length, seamA_length]; omega
theorem spec_frame_ok {m : Nat} {x y z : List Int} (h : RightB m x y z) (k : Nat) (hk : 1000 ≤ k) : spec_l8Frame.f k ((2 * m : Nat) : Int) x y z = some (frameB m x y z) := by
  have hm8 : m ≤ 8 := by have := h.m3; omega
  have lx := gB_length h.m3 h.lx
  have ly := gB_length h.m3 h.ly
  have lz := gB_length h.m3 h.lz
  have nx := gB_nd h.m3 h.lx h.bx
  have ny := gB_nd h.m3 h.ly h.by'
  have nz := gB_nd h.m3 h.lz h.bz
  have e1 := bSeam hm8 (stQ m ((gB m x).drop m) ((gB m y).take m)) ((gB m x).drop m) ((gB m y).take m) (by rw [List.length_drop]; omega) (by rw [List.length_take]; omega) (stQ_spec h.m3 (Nd_drop m nx) (Nd_take (by omega) m ny)) k (by omega)
  have e2 := bSeam hm8 (stQ m ((gB m y).drop m) ((gB m z).take m)) ((gB m y).drop m) ((gB m z).take m) (by rw [List.length_drop]; omega) (by rw [List.length_take]; omega) (stQ_spec h.m3 (Nd_drop m ny) (Nd_take (by omega) m nz)) k (by omega)
  unfold spec_l8Frame.f
  rw [gB_spec h.m3 h.lx h.bx k hk, bindS, gB_spec h.m3 h.ly h.by' k hk, bindS, gB_spec h.m3 h.lz h.bz k hk, bindS, halfI hm8, if_pos (by omega), if_pos (by omega), if_pos (by omega), Int.toNat_natCast, e1, bindS, if_pos (by omega), e2, bindS]
  simp only [seamA_length, seamB_length]
  rw [if_pos (by omega)]
  rfl
theorem impl_frame_ok {m : Nat} {x y z : List Int} (h : RightB m x y z) (k : Nat) (hk : 1000 ≤ k) : impl_FrameBounds.j0 (k + 1) x y z 0 ((2 * m : Nat) : Int) = some (0, frameB m x y z) := by
  have hm8 : m ≤ 8 := by have := h.m3; omega
  have lx := gB_length h.m3 h.lx
  have ly := gB_length h.m3 h.ly
  have lz := gB_length h.m3 h.lz
  have nx := gB_nd h.m3 h.lx h.bx
  have ny := gB_nd h.m3 h.ly h.by'
  have nz := gB_nd h.m3 h.lz h.bz
  have e1 := iSeam hm8 (impl_ofBounds_1.f ((2 * m : Nat) : Int)) (stQ m ((gB m x).drop m) ((gB m y).take m)) ((gB m x).drop m) ((gB m y).take m) (by rw [List.length_drop]; omega) (by rw [List.length_take]; omega) (stQ_impl h.m3 (Nd_drop m nx) (Nd_take (by omega) m ny)) k (by omega)
  have e2 := iSeam hm8 (impl_ofBounds_1.f ((2 * m : Nat) : Int)) (stQ m ((gB m y).drop m) ((gB m z).take m)) ((gB m y).drop m) ((gB m z).take m) (by rw [List.length_drop]; omega) (by rw [List.length_take]; omega) (stQ_impl h.m3 (Nd_drop m ny) (Nd_take (by omega) m nz)) k (by omega)
  obtain ⟨q, hq⟩ : ∃ q, k = q + 1 + 1 + 1 + 1 + 1 + 1 := ⟨k - 6, by omega⟩
  have e3 := concatI_eq (seamB m (stQ m ((gB m x).drop m) ((gB m y).take m))) (seamA m (stQ m ((gB m y).drop m) ((gB m z).take m))) (by rw [seamA_length, seamB_length]; omega) q
  rw [← hq] at e3
  rw [impl_FrameBounds.j0, if_pos rfl, impl_ofBounds.f, bindS, gB_impl h.m3 h.ly h.by' k hk, bindS, gB_impl h.m3 h.lx h.bx k hk, bindS, halfI hm8, if_pos (by omega), if_pos (by omega), if_pos (by omega), Int.toNat_natCast, e1, bindS, gB_impl h.m3 h.lz h.bz k hk, bindS, if_pos (by omega), e2, bindS]
  simp only
  rw [e3, bindS]
  rfl
theorem bc_nd {m : Nat} (m3 : m = 2 ∨ m = 4 ∨ m = 8) {x : List Int} (h : (x.length : Int) = ((2 * m : Nat) : Int)) (hs : sizeF ((2 * m : Nat) : Int) = 0) (hb : bc x = 0) : x.length = 2 * m ∧ Nd 67108864 x := by
  unfold bc at hb
  rw [h, if_pos hs] at hb
  by_cases g : allIn 0 67108864 x = true
  · exact ⟨by omega, Nd_all (by omega) g⟩
  · rw [if_neg g] at hb; omega
theorem frame_both (a : Int) (x y z : List Int) (hx : x.length ≤ 1048576) (hy : y.length ≤ 1048576) (hz : z.length ≤ 1048576) :
    ∃ c r, r.length ≤ 16 ∧ ∀ k : Nat, 2000 ≤ k → x.length < k → y.length < k → z.length < k → spec_FrameBounds.f (k + 1) a x y z = some (c, r) ∧ impl_FrameBounds.f (k + 1) a x y z = some (c, r) := by
  have hA : ∀ (k : Nat) (xs : List Int), xs.length ≤ 1048576 → xs.length < k → spec_l8Ask.f k xs = some (bc xs) := fun k xs h hk => l8Ask_eq xs (by omega) k hk
  have hG : ∀ (k : Nat) (xs : List Int), 2000 ≤ k → impl_boundsFault.f k xs = some (bc xs) := fun k xs hk => boundsFault_eq xs k (by omega)
  have hF : ∀ (k : Nat) (p q r s t : Int), 2000 ≤ k → impl_first.f k [p, q, r, s, t] = some (nz [p, q, r, s, t]) := fun k p q r s t hk => first_eq [p, q, r, s, t] (by simp) k (by simp; omega)
  have c1 : (if true = true then (2 : Int) else 0) = 2 := rfl
  have c0 : (if false = true then (2 : Int) else 0) = 0 := rfl
  have j0n : ∀ (k : Nat) (c : Int), ¬ c = 0 → impl_FrameBounds.j0 (k + 1) x y z c a = some (c, []) := fun k c hc => by rw [impl_FrameBounds.j0, if_neg hc]
  have bad : ∀ (k : Nat), 2000 ≤ k → (∀ c, ¬ c = 0 → nz [sizeF a, 2, bc x, bc y, bc z] = c → impl_FrameBounds.j0 k x y z c a = some (c, [])) := fun k hk c hc _ => by
    obtain ⟨q, rfl⟩ : ∃ q, k = q + 1 := ⟨k - 1, by omega⟩
    exact j0n q c hc
  by_cases hs : sizeF a = 0
  · obtain ⟨m, m3, rfl⟩ := size_m hs
    by_cases gx : (x.length : Int) = ((2 * m : Nat) : Int)
    · have nx : ((x.length : Int) != ((2 * m : Nat) : Int)) = false := by rw [gx]; simp
      by_cases gy : (y.length : Int) = ((2 * m : Nat) : Int)
      · have ny : ((y.length : Int) != ((2 * m : Nat) : Int)) = false := by rw [gy]; simp
        by_cases gz : (z.length : Int) = ((2 * m : Nat) : Int)
        · have nzz : ((z.length : Int) != ((2 * m : Nat) : Int)) = false := by rw [gz]; simp
          by_cases b1 : bc x = 0
          · by_cases b2 : bc y = 0
            · by_cases b3 : bc z = 0
              · obtain ⟨lx, bx⟩ := bc_nd m3 gx hs b1
                obtain ⟨ly, by'⟩ := bc_nd m3 gy hs b2
                obtain ⟨lz, bz⟩ := bc_nd m3 gz hs b3
                have R : RightB m x y z := ⟨m3, lx, ly, lz, bx, by', bz⟩
                refine ⟨0, frameB m x y z, by rw [frameB_length]; omega, fun k k1 k2 k3 k4 => ⟨?_, ?_⟩⟩
                · unfold spec_FrameBounds.f
                  obtain ⟨q, rfl⟩ : ∃ q, k = q + 1 := ⟨k - 1, by omega⟩
                  rw [spec_SizeFault_eq, hs, bindS, if_pos rfl, if_pos gx, if_pos gy, nzz, spec_FrameBounds.j0, if_neg (by decide), hA _ x hx (by omega), b1, bindS, if_pos rfl, hA _ y hy (by omega), b2, bindS, if_pos rfl, hA _ z hz (by omega), b3, bindS, if_pos rfl, spec_frame_ok R _ (by omega), bindS]
                · unfold impl_FrameBounds.f impl_FrameBounds_1.f
                  rw [impl_SizeFault_eq, hs, bindS, nx, bindS, if_neg (by decide), ny, bindS, if_neg (by decide), nzz, bindS, codeIf_eq, bindS, hG _ x (by omega), bindS, hG _ y (by omega), bindS, hG _ z (by omega), bindS, c0, b1, b2, b3, hF _ _ _ _ _ _ (by omega), bindS]
                  simp only [nz, if_true]
                  exact impl_frame_ok R k (by omega)
              · refine ⟨bc z, [], by simp, fun k k1 k2 k3 k4 => ⟨?_, ?_⟩⟩
                · unfold spec_FrameBounds.f
                  obtain ⟨q, rfl⟩ : ∃ q, k = q + 1 := ⟨k - 1, by omega⟩
                  rw [spec_SizeFault_eq, hs, bindS, if_pos rfl, if_pos gx, if_pos gy, nzz, spec_FrameBounds.j0, if_neg (by decide), hA _ x hx (by omega), b1, bindS, if_pos rfl, hA _ y hy (by omega), b2, bindS, if_pos rfl, hA _ z hz (by omega), bindS, if_neg b3]
                · unfold impl_FrameBounds.f impl_FrameBounds_1.f
                  rw [impl_SizeFault_eq, hs, bindS, nx, bindS, if_neg (by decide), ny, bindS, if_neg (by decide), nzz, bindS, codeIf_eq, bindS, hG _ x (by omega), bindS, hG _ y (by omega), bindS, hG _ z (by omega), bindS, c0, b1, b2, hF _ _ _ _ _ _ (by omega), bindS]
                  simp only [nz, if_true, if_neg b3]
                  exact j0n k _ b3
            · refine ⟨bc y, [], by simp, fun k k1 k2 k3 k4 => ⟨?_, ?_⟩⟩
              · unfold spec_FrameBounds.f
                obtain ⟨q, rfl⟩ : ∃ q, k = q + 1 := ⟨k - 1, by omega⟩
                rw [spec_SizeFault_eq, hs, bindS, if_pos rfl, if_pos gx, if_pos gy, nzz, spec_FrameBounds.j0, if_neg (by decide), hA _ x hx (by omega), b1, bindS, if_pos rfl, hA _ y hy (by omega), bindS, if_neg b2]
              · unfold impl_FrameBounds.f impl_FrameBounds_1.f
                rw [impl_SizeFault_eq, hs, bindS, nx, bindS, if_neg (by decide), ny, bindS, if_neg (by decide), nzz, bindS, codeIf_eq, bindS, hG _ x (by omega), bindS, hG _ y (by omega), bindS, hG _ z (by omega), bindS, c0, b1, hF _ _ _ _ _ _ (by omega), bindS]
                simp only [nz, if_true, if_neg b2]
                exact j0n k _ b2
          · refine ⟨bc x, [], by simp, fun k k1 k2 k3 k4 => ⟨?_, ?_⟩⟩
            · unfold spec_FrameBounds.f
              obtain ⟨q, rfl⟩ : ∃ q, k = q + 1 := ⟨k - 1, by omega⟩
              rw [spec_SizeFault_eq, hs, bindS, if_pos rfl, if_pos gx, if_pos gy, nzz, spec_FrameBounds.j0, if_neg (by decide), hA _ x hx (by omega), bindS, if_neg b1]
            · unfold impl_FrameBounds.f impl_FrameBounds_1.f
              rw [impl_SizeFault_eq, hs, bindS, nx, bindS, if_neg (by decide), ny, bindS, if_neg (by decide), nzz, bindS, codeIf_eq, bindS, hG _ x (by omega), bindS, hG _ y (by omega), bindS, hG _ z (by omega), bindS, c0, hF _ _ _ _ _ _ (by omega), bindS]
              simp only [nz, if_true, if_neg b1]
              exact j0n k _ b1
        · have nzz : ((z.length : Int) != ((2 * m : Nat) : Int)) = true := by simp only [bne_iff_ne, ne_eq]; exact gz
          refine ⟨2, [], by simp, fun k k1 k2 k3 k4 => ⟨?_, ?_⟩⟩
          · unfold spec_FrameBounds.f
            obtain ⟨q, rfl⟩ : ∃ q, k = q + 1 := ⟨k - 1, by omega⟩
            rw [spec_SizeFault_eq, hs, bindS, if_pos rfl, if_pos gx, if_pos gy, nzz, spec_FrameBounds.j0, if_pos rfl]
          · unfold impl_FrameBounds.f impl_FrameBounds_1.f
            rw [impl_SizeFault_eq, hs, bindS, nx, bindS, if_neg (by decide), ny, bindS, if_neg (by decide), nzz, bindS, codeIf_eq, bindS, hG _ x (by omega), bindS, hG _ y (by omega), bindS, hG _ z (by omega), bindS, c1, hF _ _ _ _ _ _ (by omega), bindS]
            simp only [nz, if_true, if_neg (show ¬ (2 : Int) = 0 by decide)]
            exact j0n k _ (by decide)
      · have ny : ((y.length : Int) != ((2 * m : Nat) : Int)) = true := by simp only [bne_iff_ne, ne_eq]; exact gy
        refine ⟨2, [], by simp, fun k k1 k2 k3 k4 => ⟨?_, ?_⟩⟩
        · unfold spec_FrameBounds.f
          obtain ⟨q, rfl⟩ : ∃ q, k = q + 1 := ⟨k - 1, by omega⟩
          rw [spec_SizeFault_eq, hs, bindS, if_pos rfl, if_pos gx, if_neg gy, spec_FrameBounds.j0, if_pos rfl]
        · unfold impl_FrameBounds.f impl_FrameBounds_1.f
          rw [impl_SizeFault_eq, hs, bindS, nx, bindS, if_neg (by decide), ny, bindS, if_pos rfl, codeIf_eq, bindS, hG _ x (by omega), bindS, hG _ y (by omega), bindS, hG _ z (by omega), bindS, c1, hF _ _ _ _ _ _ (by omega), bindS]
          simp only [nz, if_true, if_neg (show ¬ (2 : Int) = 0 by decide)]
          exact j0n k _ (by decide)
    · have nx : ((x.length : Int) != ((2 * m : Nat) : Int)) = true := by simp only [bne_iff_ne, ne_eq]; exact gx
      refine ⟨2, [], by simp, fun k k1 k2 k3 k4 => ⟨?_, ?_⟩⟩
      · unfold spec_FrameBounds.f
        obtain ⟨q, rfl⟩ : ∃ q, k = q + 1 := ⟨k - 1, by omega⟩
        rw [spec_SizeFault_eq, hs, bindS, if_pos rfl, if_neg gx, spec_FrameBounds.j0, if_pos rfl]
      · unfold impl_FrameBounds.f impl_FrameBounds_1.f
        rw [impl_SizeFault_eq, hs, bindS, nx, bindS, if_pos rfl, codeIf_eq, bindS, hG _ x (by omega), bindS, hG _ y (by omega), bindS, hG _ z (by omega), bindS, c1, hF _ _ _ _ _ _ (by omega), bindS]
        simp only [nz, if_true, if_neg (show ¬ (2 : Int) = 0 by decide)]
        exact j0n k _ (by decide)
  · refine ⟨sizeF a, [], by simp, fun k k1 k2 k3 k4 => ⟨?_, ?_⟩⟩
    · unfold spec_FrameBounds.f
      rw [spec_SizeFault_eq, bindS, if_neg hs]
    · have hn : ∀ p q r s : Int, nz [sizeF a, p, q, r, s] = sizeF a := fun p q r s => by simp only [nz, if_neg hs]
      unfold impl_FrameBounds.f impl_FrameBounds_1.f
      rw [impl_SizeFault_eq, bindS, bindS]
      cases e1 : ((x.length : Int) != a)
      · rw [if_neg (by decide), bindS]
        cases e2 : ((y.length : Int) != a)
        · rw [if_neg (by decide), bindS, codeIf_eq, bindS, hG _ x (by omega), bindS, hG _ y (by omega), bindS, hG _ z (by omega), bindS, hF _ _ _ _ _ _ (by omega), bindS, hn]
          exact j0n k _ hs
        · rw [if_pos rfl, codeIf_eq, bindS, hG _ x (by omega), bindS, hG _ y (by omega), bindS, hG _ z (by omega), bindS, hF _ _ _ _ _ _ (by omega), bindS, hn]
          exact j0n k _ hs
      · rw [if_pos rfl, codeIf_eq, bindS, hG _ x (by omega), bindS, hG _ y (by omega), bindS, hG _ z (by omega), bindS, hF _ _ _ _ _ _ (by omega), bindS, hn]
        exact j0n k _ hs

theorem FnExactFrameBounds : laws_FnExactFrameBounds.Pure := by
  intro a x y z _ _ _ _ _ _ _ _ _ _
  obtain ⟨K, hK⟩ : ∃ K, K = 1060000 := ⟨_, rfl⟩
  refine ⟨K + 1 + 1, ?_⟩
  unfold laws_FnExactFrameBounds.f
  by_cases hb : (x.length : Int) > 1048576
  · rw [if_pos hb]
  by_cases hb2 : (y.length : Int) > 1048576
  · rw [if_neg hb, if_pos hb2]
  by_cases hb3 : (z.length : Int) > 1048576
  · rw [if_neg hb, if_neg hb2, if_pos hb3]
  rw [if_neg hb, if_neg hb2, if_neg hb3]
  obtain ⟨c, r, hl, hh⟩ := frame_both a x y z (by omega) (by omega) (by omega)
  obtain ⟨s1, i1⟩ := hh (K + 1) (by omega) (by omega) (by omega) (by omega)
  have i2 := (hh K (by omega) (by omega) (by omega) (by omega)).2
  have tx := toInt64S_eq x (by omega) (K + 1) (by omega)
  have ty := toInt64S_eq y (by omega) (K + 1) (by omega)
  have tz := toInt64S_eq z (by omega) (K + 1) (by omega)
  have tx' := toInt64S_eq x (by omega) (K + 1 + 1) (by omega)
  have ty' := toInt64S_eq y (by omega) (K + 1 + 1) (by omega)
  have tz' := toInt64S_eq z (by omega) (K + 1 + 1) (by omega)
  have ex := eqInt64S_refl x (by omega) (K + 1 + 1) (by omega)
  have ey := eqInt64S_refl y (by omega) (K + 1 + 1) (by omega)
  have ez := eqInt64S_refl z (by omega) (K + 1 + 1) (by omega)
  have er := ints_res c r (by omega) (K + 1) (by omega)
  have er' := ints_res c r (by omega) (K + 1 + 1) (by omega)
  obtain ⟨zs, m1, m2⟩ := ints_marks c r (by omega) (K + 1) (by omega)
  have hj : laws_FnExactFrameBounds.j0 (K + 1 + 1) a x y z false c r c r = some true := by
    rw [laws_FnExactFrameBounds.j0, if_neg (by decide)]
    simp only [m1, m2, tx, ty, tz, i2, er, bindS, if_true, if_neg (neg_cast _)]
  obtain ⟨ax, n1, _, _⟩ := mark_held_ints x 1 (K + 1 + 1) (by omega) (by omega) (by omega)
  obtain ⟨ay, n2, _, _⟩ := mark_held_ints y (1 + x.length) (K + 1 + 1) (by omega) (by omega) (by omega)
  obtain ⟨az, n3, _, _⟩ := mark_held_ints z (1 + x.length + y.length) (K + 1 + 1) (by omega) (by omega) (by omega)
  rw [show ((1 : Nat) : Int) = 1 from rfl] at n1
  simp only [tx', ty', tz', s1, i1, er', ex, ey, ez, n1, n2, n3, bindS, if_true, if_neg (neg_cast _), Bool.not_true]
  exact hj

end Go.Proofs.Ytjdgebfihbhbaaa.Pure
