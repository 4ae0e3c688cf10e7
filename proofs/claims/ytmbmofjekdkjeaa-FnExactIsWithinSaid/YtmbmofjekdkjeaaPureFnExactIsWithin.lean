/-
  IsWithin answers as the reference does, for every three lists of numbers, and leaves them as they were.
-/
import Derived.Test.YtmbmofjekdkjeaaPFnExactIsWithinx
namespace Go.Proofs.Ytmbmofjekdkjeaa.Pure
open Go.RowKit Go.Proofs.Ytmbmofjekdkjeaa.PFnExactIsWithin Go.Proofs.YtmbmofjekdkjeaaW.PrintWords Go.Proofs.YtmbmofjekdkjeaaW.PrintLast Go.Proofs.YtmbmofjekdkjeaaW.PrintMore
set_option linter.unusedVariables false
set_option linter.unusedSimpArgs false

theorem w64 {x : Int} (h1 : -9223372036854775808 ≤ x) (h2 : x ≤ 9223372036854775807) : wrap64 x = x := by
  unfold wrap64; omega
theorem tdiv_pos {a : Int} (h : 0 ≤ a) (b : Int) : Int.tdiv a b = a / b := Int.tdiv_eq_ediv_of_nonneg h
theorem tmod_pos {a : Int} (h : 0 ≤ a) (b : Int) : Int.tmod a b = a % b := Int.tmod_eq_emod_of_nonneg h
theorem tdiv_neg {a : Int} (h : a ≤ 0) (b : Int) : Int.tdiv a b = -((-a) / b) := by
  have := Int.neg_tdiv (-a) b
  rw [Int.neg_neg] at this
  rw [this, tdiv_pos (by omega)]
theorem tmod_neg {a : Int} (h : a ≤ 0) (b : Int) : Int.tmod a b = -((-a) % b) := by
  have := Int.neg_tmod (-a) b
  rw [Int.neg_neg] at this
  rw [this, tmod_pos (by omega)]
theorem div_unique {x b q r : Int} (hb : 0 < b) (h : r + b * q = x) (h0 : 0 ≤ r) (h1 : r < b) : x / b = q :=
  ((Int.ediv_emod_unique hb).2 ⟨h, h0, h1⟩).1
theorem div_parts (x b : Int) : b * (x / b) + x % b = x := Int.mul_ediv_add_emod x b
theorem neg_div {a b : Int} (hb : 0 < b) : (-a) / b = if a % b = 0 then -(a / b) else -(a / b) - 1 := by
  have h := div_parts a b
  have h0 := Int.emod_nonneg a (Int.ne_of_gt hb)
  have h1 := Int.emod_lt_of_pos a hb
  split
  · exact div_unique (r := 0) hb (by rw [Int.mul_neg]; omega) (by omega) (by omega)
  · exact div_unique (r := b - a % b) hb (by rw [Int.mul_sub, Int.mul_neg]; omega) (by omega) (by omega)
theorem ceil_div {a b : Int} (hb : 0 < b) : (a + b - 1) / b = -((-a) / b) := by
  have h := div_parts (-a) b
  have h0 := Int.emod_nonneg (-a) (Int.ne_of_gt hb)
  have h1 := Int.emod_lt_of_pos (-a) hb
  exact div_unique (r := b - 1 - (-a) % b) hb (by rw [Int.mul_neg]; omega) (by omega) (by omega)
theorem div_bd {a b : Int} (ha : 0 ≤ a) (hb : 0 < b) : 0 ≤ a / b ∧ a / b ≤ a :=
  ⟨Int.ediv_nonneg ha (by omega), Int.ediv_le_self b ha⟩
theorem floor_tdiv {x b : Int} (hb : 0 < b) : (if Int.tmod x b < 0 then Int.tdiv x b - 1 else Int.tdiv x b) = x / b := by
  by_cases h : 0 ≤ x
  · have h0 := Int.emod_nonneg x (Int.ne_of_gt hb)
    rw [tmod_pos h, tdiv_pos h, if_neg (by omega)]
  · rw [tmod_neg (by omega), tdiv_neg (by omega)]
    have h0 := Int.emod_nonneg (-x) (Int.ne_of_gt hb)
    have e := neg_div (a := -x) hb
    rw [Int.neg_neg] at e
    rw [e]
    by_cases hz : (-x) % b = 0
    · rw [if_pos hz, if_neg (by omega)]
    · rw [if_neg hz, if_pos (by omega)]
theorem floor_bd {x b : Int} (hb : 0 < b) : (0 ≤ x → 0 ≤ x / b ∧ x / b ≤ x) ∧ (x < 0 → x ≤ x / b ∧ x / b < 0) := by
  refine ⟨fun h => div_bd h hb, fun h => ?_⟩
  have e := neg_div (a := -x) hb
  rw [Int.neg_neg] at e
  have d := div_bd (a := -x) (by omega) hb
  have p := div_parts (-x) b
  have h0 := Int.emod_nonneg (-x) (Int.ne_of_gt hb)
  rw [e]
  split
  · next hz =>
    rw [hz] at p
    have : (-x) / b ≠ 0 := fun e0 => by rw [e0, Int.mul_zero] at p; omega
    omega
  · next hz =>
    have : (-x) / b < -x := by
      rcases Int.lt_or_eq_of_le d.2 with h2 | h2
      · exact h2
      · exfalso
        rw [h2] at p
        have hb1 : b ≠ 1 := fun e1 => by subst e1; omega
        have : 2 * (-x) ≤ b * (-x) := Int.mul_le_mul_of_nonneg_right (by omega) (by omega)
        omega
    omega

theorem inRange_eq (a b c : Int) : impl_inRange.f a b c = some (decide (b ≤ a ∧ a ≤ c)) := by
  unfold impl_inRange.f; by_cases h : b ≤ a <;> simp [h]

theorem l1In_eq (a b c : Int) : spec_l1In.f a b c = some (decide (b ≤ a ∧ a ≤ c)) := by
  unfold spec_l1In.f; by_cases h : b ≤ a <;> simp [h]

theorem within_eq (a b : Int) (h0 : 0 ≤ b) (h1 : b ≤ 9000000000000000000) : impl_within.f a b = some (decide (-b ≤ a ∧ a ≤ b)) := by
  unfold impl_within.f; rw [inRange_eq, w64 (by omega) (by omega)]; rfl

theorem l1Top_eq (x : Int) : spec_l1Top.f x = some (decide (-1099511627776 ≤ x ∧ x ≤ 1099511627776)) := by
  unfold spec_l1Top.f; rw [l1In_eq]; rfl

theorem rd_nat (xs : List Int) (i : Nat) : rd xs (i : Int) = xs.getD i 0 := by unfold rd; rw [Int.toNat_natCast]
theorem rd_get (xs : List Int) (i : Nat) (h : i < xs.length) : rd xs (i : Int) = xs[i] := by
  rw [rd_nat, List.getD_eq_getElem?_getD, List.getElem?_eq_getElem h]; rfl
theorem w64_succ (i : Nat) (h : i ≤ 4000000000000000000) : wrap64 ((i : Int) + 1) = ((i + 1 : Nat) : Int) := by
  rw [w64 (by omega) (by omega)]; omega
theorem nat_nonneg (i : Nat) : 0 ≤ (i : Int) := Int.natCast_nonneg i
theorem set_get_take {xs ys : List Int} {i : Nat} (hl : ys.length = xs.length) (ht : ys.take i = xs.take i) (hi : i < xs.length) :
    (ys.set i (rd xs (i : Int))).take (i + 1) = xs.take (i + 1) := by
  rw [rd_get xs i hi]
  apply List.ext_getElem?
  intro n
  by_cases hn : n < i + 1
  · rw [List.getElem?_take_of_lt hn, List.getElem?_take_of_lt hn]
    by_cases e : n = i
    · subst e
      rw [List.getElem?_set_self (by omega), List.getElem?_eq_getElem hi]
    · rw [List.getElem?_set_ne (by omega)]
      have := congrArg (fun l => l[n]?) ht
      simp only [List.getElem?_take_of_lt (show n < i by omega)] at this
      exact this
  · rw [List.getElem?_take_eq_none (by omega), List.getElem?_take_eq_none (by omega)]

theorem toInt64S_l0 (xs : List Int) (hn : xs.length ≤ 1000000000000000000) : ∀ (d i : Nat) (ys : List Int) (k : Nat), i + d = xs.length → d < k → ys.length = xs.length → ys.take i = xs.take i →
    laws_toInt64S.l0 k xs ys (i : Int) = some xs := by
  intro d
  induction d with
  | zero =>
    intro i ys k hi hk hl ht
    obtain ⟨k, rfl⟩ : ∃ m, k = m + 1 := ⟨k - 1, by omega⟩
    simp only [laws_toInt64S.l0]
    rw [if_neg (by omega)]
    rw [List.take_of_length_le (by omega), List.take_of_length_le (by omega)] at ht
    rw [ht]
  | succ d ih =>
    intro i ys k hi hk hl ht
    obtain ⟨k, rfl⟩ : ∃ m, k = m + 1 := ⟨k - 1, by omega⟩
    simp only [laws_toInt64S.l0]
    rw [if_pos (by omega), if_pos (by omega), if_pos (by omega), w64_succ _ (by omega), Int.toNat_natCast]
    exact ih (i + 1) _ k (by omega) (by omega) (by rw [List.length_set, hl]) (set_get_take hl ht (by omega))
theorem toInt64S_eq (xs : List Int) (hn : xs.length ≤ 1048576) (k : Nat) (hk : xs.length < k) : laws_toInt64S.f k xs = some xs := by
  unfold laws_toInt64S.f
  rw [if_pos (by omega), if_pos (by omega), Int.toNat_natCast]
  exact toInt64S_l0 xs (by omega) xs.length 0 _ k (by omega) hk (by simp) (by simp)

theorem eqInt64S_l0 (xs : List Int) (hn : xs.length ≤ 1000000000000000000) : ∀ (d i : Nat) (k : Nat), i + d = xs.length → d < k → laws_eqInt64S.l0 k xs xs (i : Int) = some true := by
  intro d
  induction d with
  | zero =>
    intro i k hi hk
    obtain ⟨k, rfl⟩ : ∃ m, k = m + 1 := ⟨k - 1, by omega⟩
    simp only [laws_eqInt64S.l0]
    rw [if_neg (by omega)]
  | succ d ih =>
    intro i k hi hk
    obtain ⟨k, rfl⟩ : ∃ m, k = m + 1 := ⟨k - 1, by omega⟩
    simp only [laws_eqInt64S.l0]
    rw [if_pos (by omega), if_pos (by omega), if_pos (by omega), if_pos trivial, w64_succ _ (by omega)]
    exact ih (i + 1) k (by omega) (by omega)
theorem eqInt64S_refl (xs : List Int) (hn : xs.length ≤ 1000000000000000000) (k : Nat) (hk : xs.length < k) : laws_eqInt64S.f k xs xs = some true := by
  unfold laws_eqInt64S.f
  rw [if_pos rfl]
  exact eqInt64S_l0 xs hn xs.length 0 k (by omega) hk

def nabs (x : Int) : Int := if x < 0 then -x else x
def norm : List Int → Int
  | [] => 0
  | x :: xs => nabs x + norm xs
def Within (m : Int) (xs : List Int) : Prop := ∀ x ∈ xs, -m ≤ x ∧ x ≤ m
theorem Within.rd {m : Int} (h0 : 0 ≤ m) {xs : List Int} (h : Within m xs) (i : Nat) : -m ≤ rd xs (i : Int) ∧ rd xs (i : Int) ≤ m := by
  rw [rd_nat, List.getD_eq_getElem?_getD]
  by_cases hi : i < xs.length
  · rw [List.getElem?_eq_getElem hi]; exact h _ (List.getElem_mem hi)
  · rw [List.getElem?_eq_none (by omega)]; exact ⟨by simp; omega, by simp; omega⟩
theorem all_within (m : Int) (xs : List Int) : (xs.all fun n => decide (-m ≤ n ∧ n ≤ m)) = true ↔ Within m xs := by
  rw [List.all_eq_true]
  exact ⟨fun h x hx => by simpa using h x hx, fun h x hx => by simpa using h x hx⟩
theorem norm_bd (m : Int) (h0 : 0 ≤ m) : ∀ xs : List Int, Within m xs → 0 ≤ norm xs ∧ norm xs ≤ m * xs.length := by
  intro xs
  induction xs with
  | nil => intro _; simp [norm]
  | cons x xs ih =>
    intro h
    have hx := h x List.mem_cons_self
    have := ih (fun y hy => h y (List.mem_cons_of_mem _ hy))
    rw [norm, List.length_cons]
    unfold nabs
    have e : m * ((xs.length + 1 : Nat) : Int) = m * xs.length + m := by rw [Int.natCast_add, Int.mul_add]; simp
    rw [e]
    split <;> omega
theorem drop_rd (xs : List Int) (i : Nat) (h : i < xs.length) : xs.drop i = rd xs (i : Int) :: xs.drop (i + 1) := by
  rw [rd_get xs i h]; exact List.drop_eq_getElem_cons h
theorem Within.drop {m : Int} {xs : List Int} (h : Within m xs) (i : Nat) : Within m (xs.drop i) := fun x hx => h x (List.mem_of_mem_drop hx)

theorem abs_eq (x : Int) (h0 : -9000000000000000000 ≤ x) (h1 : x ≤ 9000000000000000000) : impl_abs.f x = some (if x < 0 then -x else x) := by
  unfold impl_abs.f mx
  rw [w64 (by omega) (by omega)]
  split <;> split <;> first | rfl | (congr 1; omega)

theorem l1Abs_eq (x : Int) (h0 : -9000000000000000000 ≤ x) (h1 : x ≤ 9000000000000000000) : spec_l1Abs.f x = some (if x < 0 then -x else x) := by
  unfold spec_l1Abs.f
  by_cases h : x < 0
  · rw [if_pos h, if_pos h, w64 (by omega) (by omega)]
  · rw [if_neg h, if_neg h]

theorem any_not (p : Int → Bool) (xs : List Int) : (!xs.any fun n => !p n) = xs.all p := by
  induction xs with
  | nil => rfl
  | cons x xs ih => rw [List.any_cons, List.all_cons, ← ih]; cases p x <;> simp
theorem allWithin_eq (xs : List Int) (m : Int) (h0 : 0 ≤ m) (h1 : m ≤ 9000000000000000000) : impl_allWithin.f xs m = some (xs.all fun n => decide (-m ≤ n ∧ n ≤ m)) := by
  unfold impl_allWithin.f
  rw [if_pos ⟨h0, h1⟩, any_not]

-- PLUS: lists norm
def Near (a b e : List Int) (i : Nat) : Prop := ∀ j, i ≤ j → j < a.length → (-1099511627776 ≤ rd a (j : Int) ∧ rd a (j : Int) ≤ 1099511627776) ∧ (-1099511627776 ≤ rd b (j : Int) ∧ rd b (j : Int) ≤ 1099511627776) ∧ nabs (rd a (j : Int) - rd b (j : Int)) ≤ rd e (j : Int)
theorem spec_iw (a b e : List Int) (hb : b.length = a.length) (he : e.length = a.length) (hn : a.length ≤ 1048576) : ∀ (d i k : Nat), i + d = a.length → d < k → ∃ r, spec_IsWithin.l0 k a b e (i : Int) = some r ∧ (r = true ↔ Near a b e i) := by
  intro d
  induction d with
  | zero =>
    intro i k hi hk
    obtain ⟨k, rfl⟩ : ∃ m, k = m + 1 := ⟨k - 1, by omega⟩
    refine ⟨true, ?_, iff_of_true rfl (fun j h1 h2 => by omega)⟩
    simp only [spec_IsWithin.l0]
    rw [if_neg (by omega)]
  | succ d ih =>
    intro i k hi hk
    obtain ⟨k, rfl⟩ : ∃ m, k = m + 1 := ⟨k - 1, by omega⟩
    simp only [spec_IsWithin.l0]
    rw [if_pos (by omega), if_pos (by omega), l1Top_eq]
    simp only [Option.bind_some]
    by_cases h1 : -1099511627776 ≤ rd a (i : Int) ∧ rd a (i : Int) ≤ 1099511627776
    · rw [if_pos (by simpa using h1), if_pos (by omega), l1Top_eq]
      simp only [Option.bind_some]
      by_cases h2 : -1099511627776 ≤ rd b (i : Int) ∧ rd b (i : Int) ≤ 1099511627776
      · rw [if_pos (by simpa using h2), w64 (x := rd a (i : Int) - rd b (i : Int)) (by omega) (by omega), l1Abs_eq _ (by omega) (by omega)]
        simp only [Option.bind_some]
        rw [if_pos (by omega)]
        by_cases h3 : (if rd a (i : Int) - rd b (i : Int) < 0 then -(rd a (i : Int) - rd b (i : Int)) else rd a (i : Int) - rd b (i : Int)) > rd e (i : Int)
        · rw [if_pos h3]
          refine ⟨false, rfl, iff_of_false (by simp) (fun h => ?_)⟩
          have := (h i (by omega) (by omega)).2.2
          unfold nabs at this
          omega
        · rw [if_neg h3, w64_succ _ (by omega)]
          obtain ⟨r, hr, hp⟩ := ih (i + 1) k (by omega) (by omega)
          refine ⟨r, hr, hp.trans ⟨fun h j hj1 hj2 => ?_, fun h j hj1 hj2 => h j (by omega) hj2⟩⟩
          by_cases ej : j = i
          · subst ej
            exact ⟨h1, h2, by unfold nabs; omega⟩
          · exact h j (by omega) hj2
      · rw [if_neg (by simpa using h2)]
        exact ⟨false, rfl, iff_of_false (by simp) (fun h => h2 (h i (by omega) (by omega)).2.1)⟩
    · rw [if_neg (by simpa using h1)]
      exact ⟨false, rfl, iff_of_false (by simp) (fun h => h1 (h i (by omega) (by omega)).1)⟩
theorem impl_iw (a b e : List Int) (ha : Within 1099511627776 a) (hbw : Within 1099511627776 b) (hb : b.length = a.length) (he : e.length = a.length) (hn : a.length ≤ 1048576) : ∀ (d i k : Nat), i + d = a.length → d < k → ∃ r, impl_IsWithin.l0 k a b e (a.length : Int) (i : Int) = some r ∧ (r = true ↔ Near a b e i) := by
  intro d
  induction d with
  | zero =>
    intro i k hi hk
    obtain ⟨k, rfl⟩ : ∃ m, k = m + 1 := ⟨k - 1, by omega⟩
    refine ⟨true, ?_, iff_of_true rfl (fun j h1 h2 => by omega)⟩
    simp only [impl_IsWithin.l0]
    rw [if_neg (by omega)]
  | succ d ih =>
    intro i k hi hk
    obtain ⟨k, rfl⟩ : ∃ m, k = m + 1 := ⟨k - 1, by omega⟩
    have h1 := ha.rd (by omega) i
    have h2 := hbw.rd (by omega) i
    simp only [impl_IsWithin.l0]
    rw [if_pos (by omega), if_pos (by omega), if_pos (by omega), if_pos (by omega), w64 (x := rd a (i : Int) - rd b (i : Int)) (by omega) (by omega), abs_eq _ (by omega) (by omega)]
    simp only [Option.bind_some]
    rw [if_pos (by omega)]
    by_cases h3 : (if rd a (i : Int) - rd b (i : Int) < 0 then -(rd a (i : Int) - rd b (i : Int)) else rd a (i : Int) - rd b (i : Int)) > rd e (i : Int)
    · rw [if_pos h3]
      refine ⟨false, rfl, iff_of_false (by simp) (fun h => ?_)⟩
      have := (h i (by omega) (by omega)).2.2
      unfold nabs at this
      omega
    · rw [if_neg h3, w64_succ _ (by omega)]
      obtain ⟨r, hr, hp⟩ := ih (i + 1) k (by omega) (by omega)
      refine ⟨r, hr, hp.trans ⟨fun h j hj1 hj2 => ?_, fun h j hj1 hj2 => h j (by omega) hj2⟩⟩
      by_cases ej : j = i
      · subst ej
        exact ⟨h1, h2, by unfold nabs; omega⟩
      · exact h j (by omega) hj2
theorem both_iw (a b e : List Int) (hn : a.length ≤ 1048576) (k : Nat) (hk : a.length + 100 < k) : ∃ r, spec_IsWithin.f k a b e = some r ∧ impl_IsWithin.f k a b e = some r := by
  obtain ⟨k, rfl⟩ : ∃ m, k = m + 1 := ⟨k - 1, by omega⟩
  unfold spec_IsWithin.f impl_IsWithin.f
  by_cases hb : b.length = a.length
  · rw [if_pos (by omega), if_pos (by omega)]
    by_cases he : e.length = a.length
    · rw [if_pos (by omega), allWithin_eq _ _ (by omega) (by omega), allWithin_eq _ _ (by omega) (by omega)]
      have e0 : ((a.length : Int) != (e.length : Int)) = false := by simp; omega
      rw [e0]
      simp only [spec_IsWithin.j0, Option.bind_some]
      obtain ⟨r, hr, hp⟩ := spec_iw a b e hb he hn a.length 0 k (by omega) (by omega)
      refine ⟨r, hr, ?_⟩
      by_cases ha : (a.all fun n => decide (-1099511627776 ≤ n ∧ n ≤ 1099511627776)) = true
      · rw [if_pos ha]
        by_cases hbw : (b.all fun n => decide (-1099511627776 ≤ n ∧ n ≤ 1099511627776)) = true
        · rw [hbw]
          simp only [impl_IsWithin.j0, Bool.not_true]
          obtain ⟨q, hq, hp2⟩ := impl_iw a b e ((all_within _ _).1 ha) ((all_within _ _).1 hbw) hb he hn a.length 0 k (by omega) (by omega)
          rw [if_neg (by simp)]
          have : q = r := by
            have := hp2.trans hp.symm
            cases q <;> cases r <;> simp_all
          rw [← this]; exact hq
        · have hbf : (b.all fun n => decide (-1099511627776 ≤ n ∧ n ≤ 1099511627776)) = false := by simpa using hbw
          rw [hbf]
          simp only [impl_IsWithin.j0, Bool.not_false, if_true]
          have : r = false := by
            cases r with
            | false => rfl
            | true =>
              exfalso
              refine hbw ((all_within _ _).2 fun x hx => ?_)
              obtain ⟨j, hj, rfl⟩ := List.getElem_of_mem hx
              have := ((hp.1 rfl) j (by omega) (by omega)).2.1
              rw [rd_get b j hj] at this
              exact this
          rw [this]
      · rw [if_neg ha]
        simp only [impl_IsWithin.j0, if_true]
        have : r = false := by
          cases r with
          | false => rfl
          | true =>
            exfalso
            refine ha ((all_within _ _).2 fun x hx => ?_)
            obtain ⟨j, hj, rfl⟩ := List.getElem_of_mem hx
            have := ((hp.1 rfl) j (by omega) (by omega)).1
            rw [rd_get a j hj] at this
            exact this
        rw [this]
    · rw [if_neg (by omega)]
      have e0 : ((a.length : Int) != (e.length : Int)) = true := by simp; omega
      rw [e0]
      refine ⟨false, ?_, ?_⟩
      · simp only [spec_IsWithin.j0, if_true]
      · simp only [impl_IsWithin.j0, if_true]
  · rw [if_neg (by omega), if_neg (by omega)]
    refine ⟨false, ?_, ?_⟩
    · simp only [spec_IsWithin.j0, if_true]
    · simp only [impl_IsWithin.j0, if_true]
theorem FnExactIsWithin : laws_FnExactIsWithin.Pure := by
  intro l0 l1 l2 _ _ _ _ _ _ _ _ _
  refine ⟨l0.length + l1.length + l2.length + 300, ?_⟩
  unfold laws_FnExactIsWithin.f
  by_cases h0 : (l0.length : Int) > 1048576
  · rw [if_pos h0]
  rw [if_neg h0]
  by_cases h1 : (l1.length : Int) > 1048576
  · rw [if_pos h1]
  rw [if_neg h1]
  by_cases h2 : (l2.length : Int) > 1048576
  · rw [if_pos h2]
  rw [if_neg h2]
  obtain ⟨r, hs, hi⟩ := both_iw l0 l1 l2 (by omega) (l0.length + l1.length + l2.length + 300) (by omega)
  simp only [toInt64S_eq l0 (by omega) (l0.length + l1.length + l2.length + 300) (by omega), toInt64S_eq l1 (by omega) (l0.length + l1.length + l2.length + 300) (by omega), toInt64S_eq l2 (by omega) (l0.length + l1.length + l2.length + 300) (by omega), Option.bind_some, hs, hi, eqInt64S_refl l0 (by omega) (l0.length + l1.length + l2.length + 300) (by omega), eqInt64S_refl l1 (by omega) (l0.length + l1.length + l2.length + 300) (by omega), eqInt64S_refl l2 (by omega) (l0.length + l1.length + l2.length + 300) (by omega), if_true]
  simp

end Go.Proofs.Ytmbmofjekdkjeaa.Pure
