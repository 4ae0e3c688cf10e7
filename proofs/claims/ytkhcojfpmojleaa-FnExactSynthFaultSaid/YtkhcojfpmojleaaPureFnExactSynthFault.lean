/-
  SynthFault answers as the reference does, for every value, and leaves it as it was.
-/
import Derived.Test.YtkhcojfpmojleaaPFnExactSynthFaultx
namespace Go.Proofs.Ytkhcojfpmojleaa.Pure
open Go.RowKit Go.Proofs.Ytkhcojfpmojleaa.PFnExactSynthFault Go.Proofs.YtkhcojfpmojleaaW.PrintWords Go.Proofs.YtkhcojfpmojleaaW.PrintLast Go.Proofs.YtkhcojfpmojleaaW.PrintMore
set_option linter.unusedVariables false
set_option linter.unusedSimpArgs false

theorem w64 {x : Int} (h1 : -9223372036854775808 ≤ x) (h2 : x ≤ 9223372036854775807) : wrap64 x = x := by
  unfold wrap64; omega
theorem tdiv_pos {a : Int} (h : 0 ≤ a) (b : Int) : Int.tdiv a b = a / b := Int.tdiv_eq_ediv_of_nonneg h
theorem tmod_pos {a : Int} (h : 0 ≤ a) (b : Int) : Int.tmod a b = a % b := Int.tmod_eq_emod_of_nonneg h
theorem tdiv_neg {a : Int} (h : a ≤ 0) (b : Int) : Int.tdiv a b = -((-a) / b) := by
  have := Int.neg_tdiv (-a) b
  rw [Int.neg_neg] at this
  rw [this, tdiv_pos (by omega)]
theorem tmod_neg {a : Int} (h : a ≤ 0) (b : Int) : Int.tmod a b = -((-a) % b) := by
  have := Int.neg_tmod (-a) b
  rw [Int.neg_neg] at this
  rw [this, tmod_pos (by omega)]
theorem div_unique {x b q r : Int} (hb : 0 < b) (h : r + b * q = x) (h0 : 0 ≤ r) (h1 : r < b) : x / b = q :=
  ((Int.ediv_emod_unique hb).2 ⟨h, h0, h1⟩).1
theorem div_parts (x b : Int) : b * (x / b) + x % b = x := Int.mul_ediv_add_emod x b
theorem neg_div {a b : Int} (hb : 0 < b) : (-a) / b = if a % b = 0 then -(a / b) else -(a / b) - 1 := by
  have h := div_parts a b
  have h0 := Int.emod_nonneg a (Int.ne_of_gt hb)
  have h1 := Int.emod_lt_of_pos a hb
  split
  · exact div_unique (r := 0) hb (by rw [Int.mul_neg]; omega) (by omega) (by omega)
  · exact div_unique (r := b - a % b) hb (by rw [Int.mul_sub, Int.mul_neg]; omega) (by omega) (by omega)
theorem ceil_div {a b : Int} (hb : 0 < b) : (a + b - 1) / b = -((-a) / b) := by
  have h := div_parts (-a) b
  have h0 := Int.emod_nonneg (-a) (Int.ne_of_gt hb)
  have h1 := Int.emod_lt_of_pos (-a) hb
  exact div_unique (r := b - 1 - (-a) % b) hb (by rw [Int.mul_neg]; omega) (by omega) (by omega)
theorem div_bd {a b : Int} (ha : 0 ≤ a) (hb : 0 < b) : 0 ≤ a / b ∧ a / b ≤ a :=
  ⟨Int.ediv_nonneg ha (by omega), Int.ediv_le_self b ha⟩
theorem floor_tdiv {x b : Int} (hb : 0 < b) : (if Int.tmod x b < 0 then Int.tdiv x b - 1 else Int.tdiv x b) = x / b := by
  by_cases h : 0 ≤ x
  · have h0 := Int.emod_nonneg x (Int.ne_of_gt hb)
    rw [tmod_pos h, tdiv_pos h, if_neg (by omega)]
  · rw [tmod_neg (by omega), tdiv_neg (by omega)]
    have h0 := Int.emod_nonneg (-x) (Int.ne_of_gt hb)
    have e := neg_div (a := -x) hb
    rw [Int.neg_neg] at e
    rw [e]
    by_cases hz : (-x) % b = 0
    · rw [if_pos hz, if_neg (by omega)]
    · rw [if_neg hz, if_pos (by omega)]
theorem floor_bd {x b : Int} (hb : 0 < b) : (0 ≤ x → 0 ≤ x / b ∧ x / b ≤ x) ∧ (x < 0 → x ≤ x / b ∧ x / b < 0) := by
  refine ⟨fun h => div_bd h hb, fun h => ?_⟩
  have e := neg_div (a := -x) hb
  rw [Int.neg_neg] at e
  have d := div_bd (a := -x) (by omega) hb
  have p := div_parts (-x) b
  have h0 := Int.emod_nonneg (-x) (Int.ne_of_gt hb)
  rw [e]
  split
  · next hz =>
    rw [hz] at p
    have : (-x) / b ≠ 0 := fun e0 => by rw [e0, Int.mul_zero] at p; omega
    omega
  · next hz =>
    have : (-x) / b < -x := by
      rcases Int.lt_or_eq_of_le d.2 with h2 | h2
      · exact h2
      · exfalso
        rw [h2] at p
        have hb1 : b ≠ 1 := fun e1 => by subst e1; omega
        have : 2 * (-x) ≤ b * (-x) := Int.mul_le_mul_of_nonneg_right (by omega) (by omega)
        omega
    omega

theorem inRange_eq (a b c : Int) : impl_inRange.f a b c = some (decide (b ≤ a ∧ a ≤ c)) := by
  unfold impl_inRange.f; by_cases h : b ≤ a <;> simp [h]

theorem l1In_eq (a b c : Int) : spec_l1In.f a b c = some (decide (b ≤ a ∧ a ≤ c)) := by
  unfold spec_l1In.f; by_cases h : b ≤ a <;> simp [h]

theorem within_eq (a b : Int) (h0 : 0 ≤ b) (h1 : b ≤ 9000000000000000000) : impl_within.f a b = some (decide (-b ≤ a ∧ a ≤ b)) := by
  unfold impl_within.f; rw [inRange_eq, w64 (by omega) (by omega)]; rfl

theorem codeIf_eq (b : Bool) (c : Int) : impl_codeIf.f b c = some (if b = true then c else 0) := by
  unfold impl_codeIf.f; cases b <;> rfl

theorem rd_nat (xs : List Int) (i : Nat) : rd xs (i : Int) = xs.getD i 0 := by unfold rd; rw [Int.toNat_natCast]
theorem rd_get (xs : List Int) (i : Nat) (h : i < xs.length) : rd xs (i : Int) = xs[i] := by
  rw [rd_nat, List.getD_eq_getElem?_getD, List.getElem?_eq_getElem h]; rfl
theorem w64_succ (i : Nat) (h : i ≤ 4000000000000000000) : wrap64 ((i : Int) + 1) = ((i + 1 : Nat) : Int) := by
  rw [w64 (by omega) (by omega)]; omega
theorem nat_nonneg (i : Nat) : 0 ≤ (i : Int) := Int.natCast_nonneg i
theorem set_get_take {xs ys : List Int} {i : Nat} (hl : ys.length = xs.length) (ht : ys.take i = xs.take i) (hi : i < xs.length) :
    (ys.set i (rd xs (i : Int))).take (i + 1) = xs.take (i + 1) := by
  rw [rd_get xs i hi]
  apply List.ext_getElem?
  intro n
  by_cases hn : n < i + 1
  · rw [List.getElem?_take_of_lt hn, List.getElem?_take_of_lt hn]
    by_cases e : n = i
    · subst e
      rw [List.getElem?_set_self (by omega), List.getElem?_eq_getElem hi]
    · rw [List.getElem?_set_ne (by omega)]
      have := congrArg (fun l => l[n]?) ht
      simp only [List.getElem?_take_of_lt (show n < i by omega)] at this
      exact this
  · rw [List.getElem?_take_eq_none (by omega), List.getElem?_take_eq_none (by omega)]

theorem szInt_eq (xs : List Int) (b : Int) (hx : xs.length ≤ 9223372036854775807) (h0 : 0 ≤ b) (h1 : b ≤ 1048576) : laws_szInt64S.f xs b = some (if (xs.length : Int) ≤ b then b - xs.length else -1) := by
  unfold laws_szInt64S.f
  rw [w64 (by omega) (by omega)]
  by_cases h : (xs.length : Int) ≤ b
  · rw [if_neg (by omega), if_pos h]
  · rw [if_pos (by omega), if_neg h]

theorem toInt64S_l0 (xs : List Int) (hn : xs.length ≤ 1000000000000000000) : ∀ (d i : Nat) (ys : List Int) (k : Nat), i + d = xs.length → d < k → ys.length = xs.length → ys.take i = xs.take i →
    laws_toInt64S.l0 k xs ys (i : Int) = some xs := by
  intro d
  induction d with
  | zero =>
    intro i ys k hi hk hl ht
    obtain ⟨k, rfl⟩ : ∃ m, k = m + 1 := ⟨k - 1, by omega⟩
    simp only [laws_toInt64S.l0]
    rw [if_neg (by omega)]
    rw [List.take_of_length_le (by omega), List.take_of_length_le (by omega)] at ht
    rw [ht]
  | succ d ih =>
    intro i ys k hi hk hl ht
    obtain ⟨k, rfl⟩ : ∃ m, k = m + 1 := ⟨k - 1, by omega⟩
    simp only [laws_toInt64S.l0]
    rw [if_pos (by omega), if_pos (by omega), if_pos (by omega), w64_succ _ (by omega), Int.toNat_natCast]
    exact ih (i + 1) _ k (by omega) (by omega) (by rw [List.length_set, hl]) (set_get_take hl ht (by omega))
theorem toInt64S_eq (xs : List Int) (hn : xs.length ≤ 1048576) (k : Nat) (hk : xs.length < k) : laws_toInt64S.f k xs = some xs := by
  unfold laws_toInt64S.f
  rw [if_pos (by omega), if_pos (by omega), Int.toNat_natCast]
  exact toInt64S_l0 xs (by omega) xs.length 0 _ k (by omega) hk (by simp) (by simp)

theorem eqInt64S_l0 (xs : List Int) (hn : xs.length ≤ 1000000000000000000) : ∀ (d i : Nat) (k : Nat), i + d = xs.length → d < k → laws_eqInt64S.l0 k xs xs (i : Int) = some true := by
  intro d
  induction d with
  | zero =>
    intro i k hi hk
    obtain ⟨k, rfl⟩ : ∃ m, k = m + 1 := ⟨k - 1, by omega⟩
    simp only [laws_eqInt64S.l0]
    rw [if_neg (by omega)]
  | succ d ih =>
    intro i k hi hk
    obtain ⟨k, rfl⟩ : ∃ m, k = m + 1 := ⟨k - 1, by omega⟩
    simp only [laws_eqInt64S.l0]
    rw [if_pos (by omega), if_pos (by omega), if_pos (by omega), if_pos trivial, w64_succ _ (by omega)]
    exact ih (i + 1) k (by omega) (by omega)
theorem eqInt64S_refl (xs : List Int) (hn : xs.length ≤ 1000000000000000000) (k : Nat) (hk : xs.length < k) : laws_eqInt64S.f k xs xs = some true := by
  unfold laws_eqInt64S.f
  rw [if_pos rfl]
  exact eqInt64S_l0 xs hn xs.length 0 k (by omega) hk

theorem any_not (p : Int → Bool) (xs : List Int) : (!xs.any fun n => !p n) = xs.all p := by
  induction xs with
  | nil => rfl
  | cons x xs ih => rw [List.any_cons, List.all_cons, ← ih]; cases p x <;> simp
theorem allWithin_eq (xs : List Int) (m : Int) (h0 : 0 ≤ m) (h1 : m ≤ 9000000000000000000) : impl_allWithin.f xs m = some (xs.all fun n => decide (-m ≤ n ∧ n ≤ m)) := by
  unfold impl_allWithin.f
  rw [if_pos ⟨h0, h1⟩, any_not]

def sizeF (a : Int) : Int := if a = 4 then 0 else if a = 8 then 0 else if a = 16 then 0 else 3
theorem sizeF_cases (a : Int) : (sizeF a = 0 ∧ (a = 4 ∨ a = 8 ∨ a = 16)) ∨ (sizeF a = 3 ∧ a ≠ 4 ∧ a ≠ 8 ∧ a ≠ 16) := by
  unfold sizeF
  by_cases h1 : a = 4
  · simp [h1]
  · by_cases h2 : a = 8
    · simp [h2]
    · by_cases h3 : a = 16 <;> simp [h1, h2, h3]
def allIn (lo hi : Int) (xs : List Int) : Bool := xs.all fun n => decide (lo ≤ n ∧ n ≤ hi)
def In (lo hi : Int) (xs : List Int) : Prop := ∀ x ∈ xs, lo ≤ x ∧ x ≤ hi
theorem allIn_iff (lo hi : Int) (xs : List Int) : allIn lo hi xs = true ↔ In lo hi xs := by
  unfold allIn
  rw [List.all_eq_true]
  exact ⟨fun h x hx => by simpa using h x hx, fun h x hx => by simpa using h x hx⟩
theorem allIn_cons (lo hi x : Int) (xs : List Int) : allIn lo hi (x :: xs) = (decide (lo ≤ x ∧ x ≤ hi) && allIn lo hi xs) := rfl
theorem drop_rd' (xs : List Int) (i : Nat) (h : i < xs.length) : xs.drop i = rd xs (i : Int) :: xs.drop (i + 1) := by
  rw [rd_get xs i h]; exact List.drop_eq_getElem_cons h
def nz : List Int → Int
  | [] => 0
  | x :: xs => if x = 0 then nz xs else x

theorem spec_SizeFault_eq (a : Int) : spec_SizeFault.f a = some (sizeF a) := by
  unfold spec_SizeFault.f sizeF
  by_cases h1 : a = 4
  · simp [h1]
  · by_cases h2 : a = 8
    · simp [h2]
    · by_cases h3 : a = 16 <;> simp [h1, h2, h3]

theorem impl_SizeFault_eq (a : Int) : impl_SizeFault.f a = some (sizeF a) := by
  unfold impl_SizeFault.f sizeF
  by_cases h1 : a = 4
  · simp [h1]
  · by_cases h2 : a = 8
    · simp [h2]
    · by_cases h3 : a = 16 <;> simp [h1, h2, h3]

theorem first_l0 (xs : List Int) (hn : xs.length ≤ 1000) : ∀ (d i k : Nat), i + d = xs.length → d < k → impl_first.l0 k xs (xs.length : Int) (i : Int) = some (nz (xs.drop i)) := by
  intro d
  induction d with
  | zero =>
    intro i k hi hk
    obtain ⟨k, rfl⟩ : ∃ m, k = m + 1 := ⟨k - 1, by omega⟩
    simp only [impl_first.l0]
    rw [if_neg (by omega), List.drop_of_length_le (by omega)]; rfl
  | succ d ih =>
    intro i k hi hk
    obtain ⟨k, rfl⟩ : ∃ m, k = m + 1 := ⟨k - 1, by omega⟩
    simp only [impl_first.l0]
    rw [if_pos (by omega), if_pos (by omega), if_pos (by omega), drop_rd' xs i (by omega), nz]
    by_cases h : rd xs (i : Int) = 0
    · rw [if_pos h, if_pos h, w64_succ _ (by omega)]
      exact ih (i + 1) k (by omega) (by omega)
    · rw [if_neg h, if_neg h]
theorem first_eq (xs : List Int) (hn : xs.length ≤ 1000) (k : Nat) (hk : xs.length < k) : impl_first.f k xs = some (nz xs) :=
  first_l0 xs hn xs.length 0 k (by omega) hk

theorem eqSynth_refl (s : Int) (xs ys : List Int) (hx : xs.length ≤ 1000000000000000000) (hy : ys.length ≤ 1000000000000000000) (k : Nat) (hkx : xs.length < k) (hky : ys.length < k) : laws_eqSynth.f k s xs ys s xs ys = some true := by
  unfold laws_eqSynth.f
  rw [if_pos rfl, eqInt64S_refl xs hx k hkx, eqInt64S_refl ys hy k hky]; rfl

theorem l1All_l0 (xs : List Int) (lo hi : Int) (hn : xs.length ≤ 1000000000000) : ∀ (d i k : Nat), i + d = xs.length → d < k → spec_l1All.l0 k xs lo hi (i : Int) = some (allIn lo hi (xs.drop i)) := by
  intro d
  induction d with
  | zero =>
    intro i k hi' hk
    obtain ⟨k, rfl⟩ : ∃ m, k = m + 1 := ⟨k - 1, by omega⟩
    simp only [spec_l1All.l0]
    rw [if_neg (by omega), List.drop_of_length_le (by omega)]; rfl
  | succ d ih =>
    intro i k hi' hk
    obtain ⟨k, rfl⟩ : ∃ m, k = m + 1 := ⟨k - 1, by omega⟩
    simp only [spec_l1All.l0]
    rw [if_pos (by omega), if_pos (by omega), l1In_eq, drop_rd' xs i (by omega), allIn_cons]
    simp only [Option.bind_some]
    by_cases h : lo ≤ rd xs (i : Int) ∧ rd xs (i : Int) ≤ hi
    · rw [decide_eq_true h, if_pos rfl, w64_succ _ (by omega), ih (i + 1) k (by omega) (by omega)]; rfl
    · rw [decide_eq_false h]; rfl
theorem l1All_eq (xs : List Int) (lo hi : Int) (hn : xs.length ≤ 1000000000000) (k : Nat) (hk : xs.length < k) : spec_l1All.f k xs lo hi = some (allIn lo hi xs) :=
  l1All_l0 xs lo hi hn xs.length 0 k (by omega) hk

-- PLUS: lists sizef
theorem szSynth_eq (a : Int) (xs ys : List Int) (b : Int) (hx : xs.length ≤ 9223372036854775807) (hy : ys.length ≤ 9223372036854775807) (h0 : 0 ≤ b) (h1 : b ≤ 1048576) :
    laws_szSynth.f a xs ys b = some (if (xs.length : Int) ≤ b then (if (ys.length : Int) ≤ b - xs.length then b - xs.length - ys.length else -1) else -1) := by
  unfold laws_szSynth.f
  rw [szInt_eq xs b hx h0 h1]
  simp only [Option.bind_some]
  by_cases h : (xs.length : Int) ≤ b
  · rw [if_pos h, if_neg (by omega), szInt_eq ys _ hy (by omega) (by omega)]
    simp only [Option.bind_some]
    rw [if_pos h]
    by_cases g : (ys.length : Int) ≤ b - xs.length
    · rw [if_pos g, if_neg (by omega)]
    · rw [if_neg g, if_pos (by omega)]
  · rw [if_neg h, if_pos (by omega), if_neg h]
theorem toSynth_eq (a : Int) (xs ys : List Int) (hx : xs.length ≤ 1048576) (hy : ys.length ≤ 1048576) (k : Nat) (hk : xs.length < k) (hk2 : ys.length < k) : laws_toSynth.f k a xs ys = some (a, xs, ys) := by
  unfold laws_toSynth.f
  rw [toInt64S_eq xs hx k hk, toInt64S_eq ys hy k hk2]; rfl
def faultF (a : Int) (x y : List Int) : Int := if sizeF a = 0 then (if (x.length : Int) = wrap64 (Int.tdiv a 2) then (if (y.length : Int) = wrap64 (Int.tdiv a 2) then (if allIn (-1073741824) 1073741824 x = true then (if allIn (-268435456) 268435456 y = true then 0 else 3) else 3) else 2) else 2) else sizeF a
theorem spec_fault_eq (a : Int) (x y : List Int) (hx : x.length ≤ 1000000000000) (hy : y.length ≤ 1000000000000) (k : Nat) (hk : x.length < k) (hk2 : y.length < k) : spec_SynthFault.f (k + 1) a x y = some (faultF a x y) := by
  unfold spec_SynthFault.f faultF
  rw [spec_SizeFault_eq]
  simp only [Option.bind_some]
  by_cases h : sizeF a = 0
  · rw [if_pos h, if_pos h]
    by_cases g : (x.length : Int) = wrap64 (Int.tdiv a 2)
    · rw [if_pos g, if_pos g]
      by_cases e : (y.length : Int) = wrap64 (Int.tdiv a 2)
      · rw [if_pos e, show ((y.length : Int) != wrap64 (Int.tdiv a 2)) = false by rw [e]; simp]
        simp only [spec_SynthFault.j0]
        rw [if_neg (by decide), l1All_eq x _ _ hx k hk, l1All_eq y _ _ hy k hk2]
        simp only [Option.bind_some]
        by_cases p : allIn (-1073741824) 1073741824 x = true
        · rw [if_pos p, if_pos p]
          by_cases q : allIn (-268435456) 268435456 y = true
          · rw [if_pos q, if_pos q]
          · rw [if_neg q, if_neg q]
        · rw [if_neg p, if_neg p]
      · rw [if_neg e, show ((y.length : Int) != wrap64 (Int.tdiv a 2)) = true by simp [e]]
        simp only [spec_SynthFault.j0]
        rw [if_pos trivial]
    · rw [if_neg g, if_neg g]
      simp only [spec_SynthFault.j0]
      rw [if_pos trivial]
  · rw [if_neg h, if_neg h]
theorem impl_fault_eq (a : Int) (x y : List Int) (k : Nat) (hk : 10 < k) : impl_SynthFault.f k a x y = some (faultF a x y) := by
  have w1 : impl_allWithin.f x 1073741824 = some (allIn (-1073741824) 1073741824 x) := allWithin_eq x 1073741824 (by omega) (by omega)
  have w2 : impl_allWithin.f y 268435456 = some (allIn (-268435456) 268435456 y) := allWithin_eq y 268435456 (by omega) (by omega)
  unfold impl_SynthFault.f faultF impl_halfOf.f
  rw [impl_SizeFault_eq]
  simp only [Option.bind_some, w1, w2, codeIf_eq]
  have hf : ∀ p q r : Int, impl_first.f k [p, q, r] = some (nz [p, q, r]) := fun p q r => first_eq _ (by simp) k (by simp; omega)
  simp only [hf, nz]
  by_cases h : sizeF a = 0
  · by_cases g : (x.length : Int) = wrap64 (Int.tdiv a 2)
    · by_cases e : (y.length : Int) = wrap64 (Int.tdiv a 2)
      · by_cases p : allIn (-1073741824) 1073741824 x = true
        · by_cases q : allIn (-268435456) 268435456 y = true
          · simp [h, g, e, p, q]
          · simp [h, g, e, p, q]
        · simp [h, g, e, p]
      · by_cases p : allIn (-1073741824) 1073741824 x = true <;> simp [h, g, e, p]
    · by_cases p : allIn (-1073741824) 1073741824 x = true <;> simp [h, g, p]
  · by_cases g : (x.length : Int) = wrap64 (Int.tdiv a 2)
    · by_cases p : allIn (-1073741824) 1073741824 x = true <;> simp [h, g, p]
    · by_cases p : allIn (-1073741824) 1073741824 x = true <;> simp [h, g, p]
theorem FnExactSynthFault (a : Int) (x y : List Int) (_ : (Lit.int .i64 a).wf = true) (hx : x.length ≤ maxLen) (_ : ∀ n ∈ x, (Lit.int .i64 n).wf = true) (hy : y.length ≤ maxLen) (_ : ∀ n ∈ y, (Lit.int .i64 n).wf = true) : ∃ k, laws_FnExactSynthFault.f k a x y = some true := by
  have hm : maxLen = 9223372036854775807 := rfl
  obtain ⟨K, hK⟩ : ∃ K, K = 1048600 := ⟨_, rfl⟩
  refine ⟨K + 1, ?_⟩
  unfold laws_FnExactSynthFault.f
  rw [szSynth_eq a x y _ (by omega) (by omega) (by omega) (by omega)]
  simp only [Option.bind_some]
  by_cases h1 : (x.length : Int) ≤ 1048576
  · by_cases h2 : (y.length : Int) ≤ 1048576 - x.length
    · rw [if_pos h1, if_pos h2, if_neg (by omega)]
      simp only [toSynth_eq a x y (by omega) (by omega) (K + 1) (by omega) (by omega), spec_fault_eq a x y (by omega) (by omega) K (by omega) (by omega), impl_fault_eq a x y (K + 1) (by omega), eqSynth_refl a x y (by omega) (by omega) (K + 1) (by omega) (by omega), Option.bind_some, if_true]
    · rw [if_pos h1, if_neg h2, if_pos (by omega)]
  · rw [if_neg h1, if_pos (by omega)]

end Go.Proofs.Ytkhcojfpmojleaa.Pure
