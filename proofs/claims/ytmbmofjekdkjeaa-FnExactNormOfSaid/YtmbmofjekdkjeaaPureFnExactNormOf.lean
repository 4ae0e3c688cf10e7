/-
  NormOf answers as the reference does, for every list of numbers, and leaves it as it was.
-/
import Derived.Test.YtmbmofjekdkjeaaPFnExactNormOfx
namespace Go.Proofs.Ytmbmofjekdkjeaa.Pure
open Go.RowKit Go.Proofs.Ytmbmofjekdkjeaa.PFnExactNormOf Go.Proofs.YtmbmofjekdkjeaaW.PrintWords Go.Proofs.YtmbmofjekdkjeaaW.PrintLast Go.Proofs.YtmbmofjekdkjeaaW.PrintMore
set_option linter.unusedVariables false
set_option linter.unusedSimpArgs false

theorem w64 {x : Int} (h1 : -9223372036854775808 ≤ x) (h2 : x ≤ 9223372036854775807) : wrap64 x = x := by
  unfold wrap64; omega
theorem tdiv_pos {a : Int} (h : 0 ≤ a) (b : Int) : Int.tdiv a b = a / b := Int.tdiv_eq_ediv_of_nonneg h
theorem tmod_pos {a : Int} (h : 0 ≤ a) (b : Int) : Int.tmod a b = a % b := Int.tmod_eq_emod_of_nonneg h
theorem tdiv_neg {a : Int} (h : a ≤ 0) (b : Int) : Int.tdiv a b = -((-a) / b) := by
  have := Int.neg_tdiv (-a) b
  rw [Int.neg_neg] at this
  rw [this, tdiv_pos (by omega)]
theorem tmod_neg {a : Int} (h : a ≤ 0) (b : Int) : Int.tmod a b = -((-a) % b) := by
  have := Int.neg_tmod (-a) b
  rw [Int.neg_neg] at this
  rw [this, tmod_pos (by omega)]
theorem div_unique {x b q r : Int} (hb : 0 < b) (h : r + b * q = x) (h0 : 0 ≤ r) (h1 : r < b) : x / b = q :=
  ((Int.ediv_emod_unique hb).2 ⟨h, h0, h1⟩).1
theorem div_parts (x b : Int) : b * (x / b) + x % b = x := Int.mul_ediv_add_emod x b
theorem neg_div {a b : Int} (hb : 0 < b) : (-a) / b = if a % b = 0 then -(a / b) else -(a / b) - 1 := by
  have h := div_parts a b
  have h0 := Int.emod_nonneg a (Int.ne_of_gt hb)
  have h1 := Int.emod_lt_of_pos a hb
  split
  · exact div_unique (r := 0) hb (by rw [Int.mul_neg]; omega) (by omega) (by omega)
  · exact div_unique (r := b - a % b) hb (by rw [Int.mul_sub, Int.mul_neg]; omega) (by omega) (by omega)
theorem ceil_div {a b : Int} (hb : 0 < b) : (a + b - 1) / b = -((-a) / b) := by
  have h := div_parts (-a) b
  have h0 := Int.emod_nonneg (-a) (Int.ne_of_gt hb)
  have h1 := Int.emod_lt_of_pos (-a) hb
  exact div_unique (r := b - 1 - (-a) % b) hb (by rw [Int.mul_neg]; omega) (by omega) (by omega)
theorem div_bd {a b : Int} (ha : 0 ≤ a) (hb : 0 < b) : 0 ≤ a / b ∧ a / b ≤ a :=
  ⟨Int.ediv_nonneg ha (by omega), Int.ediv_le_self b ha⟩
theorem floor_tdiv {x b : Int} (hb : 0 < b) : (if Int.tmod x b < 0 then Int.tdiv x b - 1 else Int.tdiv x b) = x / b := by
  by_cases h : 0 ≤ x
  · have h0 := Int.emod_nonneg x (Int.ne_of_gt hb)
    rw [tmod_pos h, tdiv_pos h, if_neg (by omega)]
  · rw [tmod_neg (by omega), tdiv_neg (by omega)]
    have h0 := Int.emod_nonneg (-x) (Int.ne_of_gt hb)
    have e := neg_div (a := -x) hb
    rw [Int.neg_neg] at e
    rw [e]
    by_cases hz : (-x) % b = 0
    · rw [if_pos hz, if_neg (by omega)]
    · rw [if_neg hz, if_pos (by omega)]
theorem floor_bd {x b : Int} (hb : 0 < b) : (0 ≤ x → 0 ≤ x / b ∧ x / b ≤ x) ∧ (x < 0 → x ≤ x / b ∧ x / b < 0) := by
  refine ⟨fun h => div_bd h hb, fun h => ?_⟩
  have e := neg_div (a := -x) hb
  rw [Int.neg_neg] at e
  have d := div_bd (a := -x) (by omega) hb
  have p := div_parts (-x) b
  have h0 := Int.emod_nonneg (-x) (Int.ne_of_gt hb)
  rw [e]
  split
  · next hz =>
    rw [hz] at p
    have : (-x) / b ≠ 0 := fun e0 => by rw [e0, Int.mul_zero] at p; omega
    omega
  · next hz =>
    have : (-x) / b < -x := by
      rcases Int.lt_or_eq_of_le d.2 with h2 | h2
      · exact h2
      · exfalso
        rw [h2] at p
        have hb1 : b ≠ 1 := fun e1 => by subst e1; omega
        have : 2 * (-x) ≤ b * (-x) := Int.mul_le_mul_of_nonneg_right (by omega) (by omega)
        omega
    omega

theorem inRange_eq (a b c : Int) : impl_inRange.f a b c = some (decide (b ≤ a ∧ a ≤ c)) := by
  unfold impl_inRange.f; by_cases h : b ≤ a <;> simp [h]

theorem l1In_eq (a b c : Int) : spec_l1In.f a b c = some (decide (b ≤ a ∧ a ≤ c)) := by
  unfold spec_l1In.f; by_cases h : b ≤ a <;> simp [h]

theorem within_eq (a b : Int) (h0 : 0 ≤ b) (h1 : b ≤ 9000000000000000000) : impl_within.f a b = some (decide (-b ≤ a ∧ a ≤ b)) := by
  unfold impl_within.f; rw [inRange_eq, w64 (by omega) (by omega)]; rfl

theorem l1Top_eq (x : Int) : spec_l1Top.f x = some (decide (-1099511627776 ≤ x ∧ x ≤ 1099511627776)) := by
  unfold spec_l1Top.f; rw [l1In_eq]; rfl

theorem eqInt_refl (a b : Int) : laws_eqIntResult.f a b a b = some true := by unfold laws_eqIntResult.f; rw [if_pos rfl, if_pos rfl]

theorem rd_nat (xs : List Int) (i : Nat) : rd xs (i : Int) = xs.getD i 0 := by unfold rd; rw [Int.toNat_natCast]
theorem rd_get (xs : List Int) (i : Nat) (h : i < xs.length) : rd xs (i : Int) = xs[i] := by
  rw [rd_nat, List.getD_eq_getElem?_getD, List.getElem?_eq_getElem h]; rfl
theorem w64_succ (i : Nat) (h : i ≤ 4000000000000000000) : wrap64 ((i : Int) + 1) = ((i + 1 : Nat) : Int) := by
  rw [w64 (by omega) (by omega)]; omega
theorem nat_nonneg (i : Nat) : 0 ≤ (i : Int) := Int.natCast_nonneg i
theorem set_get_take {xs ys : List Int} {i : Nat} (hl : ys.length = xs.length) (ht : ys.take i = xs.take i) (hi : i < xs.length) :
    (ys.set i (rd xs (i : Int))).take (i + 1) = xs.take (i + 1) := by
  rw [rd_get xs i hi]
  apply List.ext_getElem?
  intro n
  by_cases hn : n < i + 1
  · rw [List.getElem?_take_of_lt hn, List.getElem?_take_of_lt hn]
    by_cases e : n = i
    · subst e
      rw [List.getElem?_set_self (by omega), List.getElem?_eq_getElem hi]
    · rw [List.getElem?_set_ne (by omega)]
      have := congrArg (fun l => l[n]?) ht
      simp only [List.getElem?_take_of_lt (show n < i by omega)] at this
      exact this
  · rw [List.getElem?_take_eq_none (by omega), List.getElem?_take_eq_none (by omega)]

theorem toInt64S_l0 (xs : List Int) (hn : xs.length ≤ 1000000000000000000) : ∀ (d i : Nat) (ys : List Int) (k : Nat), i + d = xs.length → d < k → ys.length = xs.length → ys.take i = xs.take i →
    laws_toInt64S.l0 k xs ys (i : Int) = some xs := by
  intro d
  induction d with
  | zero =>
    intro i ys k hi hk hl ht
    obtain ⟨k, rfl⟩ : ∃ m, k = m + 1 := ⟨k - 1, by omega⟩
    simp only [laws_toInt64S.l0]
    rw [if_neg (by omega)]
    rw [List.take_of_length_le (by omega), List.take_of_length_le (by omega)] at ht
    rw [ht]
  | succ d ih =>
    intro i ys k hi hk hl ht
    obtain ⟨k, rfl⟩ : ∃ m, k = m + 1 := ⟨k - 1, by omega⟩
    simp only [laws_toInt64S.l0]
    rw [if_pos (by omega), if_pos (by omega), if_pos (by omega), w64_succ _ (by omega), Int.toNat_natCast]
    exact ih (i + 1) _ k (by omega) (by omega) (by rw [List.length_set, hl]) (set_get_take hl ht (by omega))
theorem toInt64S_eq (xs : List Int) (hn : xs.length ≤ 1048576) (k : Nat) (hk : xs.length < k) : laws_toInt64S.f k xs = some xs := by
  unfold laws_toInt64S.f
  rw [if_pos (by omega), if_pos (by omega), Int.toNat_natCast]
  exact toInt64S_l0 xs (by omega) xs.length 0 _ k (by omega) hk (by simp) (by simp)

theorem eqInt64S_l0 (xs : List Int) (hn : xs.length ≤ 1000000000000000000) : ∀ (d i : Nat) (k : Nat), i + d = xs.length → d < k → laws_eqInt64S.l0 k xs xs (i : Int) = some true := by
  intro d
  induction d with
  | zero =>
    intro i k hi hk
    obtain ⟨k, rfl⟩ : ∃ m, k = m + 1 := ⟨k - 1, by omega⟩
    simp only [laws_eqInt64S.l0]
    rw [if_neg (by omega)]
  | succ d ih =>
    intro i k hi hk
    obtain ⟨k, rfl⟩ : ∃ m, k = m + 1 := ⟨k - 1, by omega⟩
    simp only [laws_eqInt64S.l0]
    rw [if_pos (by omega), if_pos (by omega), if_pos (by omega), if_pos trivial, w64_succ _ (by omega)]
    exact ih (i + 1) k (by omega) (by omega)
theorem eqInt64S_refl (xs : List Int) (hn : xs.length ≤ 1000000000000000000) (k : Nat) (hk : xs.length < k) : laws_eqInt64S.f k xs xs = some true := by
  unfold laws_eqInt64S.f
  rw [if_pos rfl]
  exact eqInt64S_l0 xs hn xs.length 0 k (by omega) hk

def nabs (x : Int) : Int := if x < 0 then -x else x
def norm : List Int → Int
  | [] => 0
  | x :: xs => nabs x + norm xs
def Within (m : Int) (xs : List Int) : Prop := ∀ x ∈ xs, -m ≤ x ∧ x ≤ m
theorem Within.rd {m : Int} (h0 : 0 ≤ m) {xs : List Int} (h : Within m xs) (i : Nat) : -m ≤ rd xs (i : Int) ∧ rd xs (i : Int) ≤ m := by
  rw [rd_nat, List.getD_eq_getElem?_getD]
  by_cases hi : i < xs.length
  · rw [List.getElem?_eq_getElem hi]; exact h _ (List.getElem_mem hi)
  · rw [List.getElem?_eq_none (by omega)]; exact ⟨by simp; omega, by simp; omega⟩
theorem all_within (m : Int) (xs : List Int) : (xs.all fun n => decide (-m ≤ n ∧ n ≤ m)) = true ↔ Within m xs := by
  rw [List.all_eq_true]
  exact ⟨fun h x hx => by simpa using h x hx, fun h x hx => by simpa using h x hx⟩
theorem norm_bd (m : Int) (h0 : 0 ≤ m) : ∀ xs : List Int, Within m xs → 0 ≤ norm xs ∧ norm xs ≤ m * xs.length := by
  intro xs
  induction xs with
  | nil => intro _; simp [norm]
  | cons x xs ih =>
    intro h
    have hx := h x List.mem_cons_self
    have := ih (fun y hy => h y (List.mem_cons_of_mem _ hy))
    rw [norm, List.length_cons]
    unfold nabs
    have e : m * ((xs.length + 1 : Nat) : Int) = m * xs.length + m := by rw [Int.natCast_add, Int.mul_add]; simp
    rw [e]
    split <;> omega
theorem drop_rd (xs : List Int) (i : Nat) (h : i < xs.length) : xs.drop i = rd xs (i : Int) :: xs.drop (i + 1) := by
  rw [rd_get xs i h]; exact List.drop_eq_getElem_cons h
theorem Within.drop {m : Int} {xs : List Int} (h : Within m xs) (i : Nat) : Within m (xs.drop i) := fun x hx => h x (List.mem_of_mem_drop hx)

theorem abs_eq (x : Int) (h0 : -9000000000000000000 ≤ x) (h1 : x ≤ 9000000000000000000) : impl_abs.f x = some (if x < 0 then -x else x) := by
  unfold impl_abs.f mx
  rw [w64 (by omega) (by omega)]
  split <;> split <;> first | rfl | (congr 1; omega)

theorem l1Abs_eq (x : Int) (h0 : -9000000000000000000 ≤ x) (h1 : x ≤ 9000000000000000000) : spec_l1Abs.f x = some (if x < 0 then -x else x) := by
  unfold spec_l1Abs.f
  by_cases h : x < 0
  · rw [if_pos h, if_pos h, w64 (by omega) (by omega)]
  · rw [if_neg h, if_neg h]

theorem any_not (p : Int → Bool) (xs : List Int) : (!xs.any fun n => !p n) = xs.all p := by
  induction xs with
  | nil => rfl
  | cons x xs ih => rw [List.any_cons, List.all_cons, ← ih]; cases p x <;> simp
theorem allWithin_eq (xs : List Int) (m : Int) (h0 : 0 ≤ m) (h1 : m ≤ 9000000000000000000) : impl_allWithin.f xs m = some (xs.all fun n => decide (-m ≤ n ∧ n ≤ m)) := by
  unfold impl_allWithin.f
  rw [if_pos ⟨h0, h1⟩, any_not]

theorem impl_norm_l0 (xs : List Int) (hw : Within 1099511627776 xs) (hn : xs.length ≤ 64) : ∀ (d i k : Nat) (s : Int), i + d = xs.length → d < k → 0 ≤ s → s ≤ 1099511627776 * i →
    impl_normOf.l0 k s xs (xs.length : Int) (i : Int) = some (s + norm (xs.drop i)) := by
  intro d
  induction d with
  | zero =>
    intro i k s hi hk h0 h1
    obtain ⟨k, rfl⟩ : ∃ m, k = m + 1 := ⟨k - 1, by omega⟩
    simp only [impl_normOf.l0]
    rw [if_neg (by omega), List.drop_of_length_le (by omega)]
    simp [norm]
  | succ d ih =>
    intro i k s hi hk h0 h1
    obtain ⟨k, rfl⟩ : ∃ m, k = m + 1 := ⟨k - 1, by omega⟩
    have hb := hw.rd (by omega) i
    simp only [impl_normOf.l0]
    rw [if_pos (by omega), if_pos (by omega), if_pos (by omega), abs_eq _ (by omega) (by omega)]
    simp only [Option.bind_some]
    rw [drop_rd xs i (by omega), norm]
    have e : (if rd xs (i : Int) < 0 then -rd xs (i : Int) else rd xs (i : Int)) = nabs (rd xs (i : Int)) := rfl
    have hn1 : 0 ≤ nabs (rd xs (i : Int)) ∧ nabs (rd xs (i : Int)) ≤ 1099511627776 := by unfold nabs; split <;> omega
    rw [e]
    generalize nabs (rd xs (i : Int)) = a at hn1
    rw [w64_succ _ (by omega), w64 (by omega) (by omega), ih (i + 1) k (s + a) (by omega) (by omega) (by omega) (by omega)]
    rw [Int.add_assoc]
theorem impl_norm_eq (xs : List Int) (hw : Within 1099511627776 xs) (hn : xs.length ≤ 64) (k : Nat) (hk : xs.length < k) : impl_normOf.f k xs = some (norm xs) := by
  unfold impl_normOf.f
  have := impl_norm_l0 xs hw hn xs.length 0 k 0 (by omega) hk (by omega) (by omega)
  simpa using this

theorem spec_norm_l0 (xs : List Int) (hw : Within 1099511627776 xs) (hn : xs.length ≤ 64) : ∀ (d i k : Nat) (s : Int), i + d = xs.length → d < k → 0 ≤ s → s ≤ 1099511627776 * i →
    spec_l1Norm.l0 k xs s (i : Int) = some (s + norm (xs.drop i)) := by
  intro d
  induction d with
  | zero =>
    intro i k s hi hk h0 h1
    obtain ⟨k, rfl⟩ : ∃ m, k = m + 1 := ⟨k - 1, by omega⟩
    simp only [spec_l1Norm.l0]
    rw [if_neg (by omega), List.drop_of_length_le (by omega)]
    simp [norm]
  | succ d ih =>
    intro i k s hi hk h0 h1
    obtain ⟨k, rfl⟩ : ∃ m, k = m + 1 := ⟨k - 1, by omega⟩
    have hb := hw.rd (by omega) i
    simp only [spec_l1Norm.l0]
    rw [if_pos (by omega), if_pos (by omega), l1Abs_eq _ (by omega) (by omega)]
    simp only [Option.bind_some]
    rw [drop_rd xs i (by omega), norm]
    have e : (if rd xs (i : Int) < 0 then -rd xs (i : Int) else rd xs (i : Int)) = nabs (rd xs (i : Int)) := rfl
    have hn1 : 0 ≤ nabs (rd xs (i : Int)) ∧ nabs (rd xs (i : Int)) ≤ 1099511627776 := by unfold nabs; split <;> omega
    rw [e]
    generalize nabs (rd xs (i : Int)) = a at hn1
    rw [w64_succ _ (by omega), w64 (by omega) (by omega), ih (i + 1) k (s + a) (by omega) (by omega) (by omega) (by omega)]
    rw [Int.add_assoc]
theorem spec_norm_eq (xs : List Int) (hw : Within 1099511627776 xs) (hn : xs.length ≤ 64) (k : Nat) (hk : xs.length < k) : spec_l1Norm.f k xs = some (norm xs) := by
  unfold spec_l1Norm.f
  have := spec_norm_l0 xs hw hn xs.length 0 k 0 (by omega) hk (by omega) (by omega)
  simpa using this

theorem spec_NormOf_l0 (xs : List Int) (hn : xs.length ≤ 64) : ∀ (d i k : Nat), i + d = xs.length → d + 100 < k → Within 1099511627776 (xs.take i) →
    spec_NormOf.l0 k xs (i : Int) = some (if (xs.all fun n => decide (-1099511627776 ≤ n ∧ n ≤ 1099511627776)) = true then (0, norm xs) else (3, 0)) := by
  intro d
  induction d with
  | zero =>
    intro i k hi hk hw
    obtain ⟨k, rfl⟩ : ∃ m, k = m + 1 := ⟨k - 1, by omega⟩
    rw [List.take_of_length_le (by omega)] at hw
    simp only [spec_NormOf.l0]
    rw [if_neg (by omega), spec_norm_eq xs hw hn k (by omega), if_pos ((all_within _ _).2 hw)]; rfl
  | succ d ih =>
    intro i k hi hk hw
    obtain ⟨k, rfl⟩ : ∃ m, k = m + 1 := ⟨k - 1, by omega⟩
    simp only [spec_NormOf.l0]
    rw [if_pos (by omega), if_pos (by omega), l1Top_eq]
    simp only [Option.bind_some]
    by_cases hb : -1099511627776 ≤ rd xs (i : Int) ∧ rd xs (i : Int) ≤ 1099511627776
    · rw [if_pos (by simpa using hb), w64_succ _ (by omega)]
      refine ih (i + 1) k (by omega) (by omega) ?_
      intro x hx
      rw [List.take_succ_eq_append_getElem (by omega), List.mem_append] at hx
      rcases hx with hx | hx
      · exact hw x hx
      · rw [List.mem_singleton] at hx
        rw [hx, ← rd_get xs i (by omega)]; exact hb
    · rw [if_neg (by simpa using hb), if_neg]
      intro h
      have := (all_within _ _).1 h
      exact hb (this.rd (by omega) i)
theorem spec_NormOf_eq (xs : List Int) (k : Nat) (hk : xs.length + 200 < k) : spec_NormOf.f k xs = some (if (xs.length : Int) > 64 then (2, 0) else if (xs.all fun n => decide (-1099511627776 ≤ n ∧ n ≤ 1099511627776)) = true then (0, norm xs) else (3, 0)) := by
  unfold spec_NormOf.f
  by_cases h : (xs.length : Int) > 64
  · rw [if_pos h, if_pos h]
  · rw [if_neg h, if_neg h]
    exact spec_NormOf_l0 xs (by omega) xs.length 0 k (by omega) (by omega) (fun x hx => by simp at hx)

theorem impl_NormOf_eq (xs : List Int) (k : Nat) (hk : xs.length + 200 < k) : impl_NormOf.f k xs = some (if (xs.length : Int) > 64 then (2, 0) else if (xs.all fun n => decide (-1099511627776 ≤ n ∧ n ≤ 1099511627776)) = true then (0, norm xs) else (3, 0)) := by
  unfold impl_NormOf.f
  by_cases h : (xs.length : Int) > 64
  · rw [if_pos h, if_pos h]
  · rw [if_neg h, if_neg h, allWithin_eq _ _ (by omega) (by omega)]
    simp only [Option.bind_some]
    by_cases ha : (xs.all fun n => decide (-1099511627776 ≤ n ∧ n ≤ 1099511627776)) = true
    · rw [if_pos ha, if_pos ha, impl_norm_eq xs ((all_within _ _).1 ha) (by omega) k (by omega)]; rfl
    · rw [if_neg ha, if_neg ha]

-- PLUS: lists norm
theorem FnExactNormOf : laws_FnExactNormOf.Pure := by
  intro l0 h1 h2 h3
  refine ⟨l0.length + 300, ?_⟩
  unfold laws_FnExactNormOf.f
  by_cases hb : (l0.length : Int) > 1048576
  · rw [if_pos hb]
  · rw [if_neg hb]
    have e1 := toInt64S_eq l0 (by omega) (l0.length + 300) (by omega)
    have e2 := impl_NormOf_eq l0 (l0.length + 300) (by omega)
    have e3 := spec_NormOf_eq l0 (l0.length + 300) (by omega)
    have e4 := eqInt64S_refl l0 (by omega) (l0.length + 300) (by omega)
    simp only [e1, Option.bind_some, e2, e3, eqInt_refl, e4, if_true]

end Go.Proofs.Ytmbmofjekdkjeaa.Pure
