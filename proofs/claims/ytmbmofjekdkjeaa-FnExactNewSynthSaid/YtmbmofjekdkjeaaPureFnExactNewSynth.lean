/-
  NewSynth answers as the reference does, for every size, in memory of its own.
-/
import Derived.Test.YtmbmofjekdkjeaaPFnExactNewSynthx
namespace Go.Proofs.Ytmbmofjekdkjeaa.Pure
open Go.RowKit Go.Proofs.Ytmbmofjekdkjeaa.PFnExactNewSynth Go.Proofs.YtmbmofjekdkjeaaW.PrintWords Go.Proofs.YtmbmofjekdkjeaaW.PrintLast Go.Proofs.YtmbmofjekdkjeaaW.PrintMore
set_option linter.unusedVariables false
set_option linter.unusedSimpArgs false

theorem w64 {x : Int} (h1 : -9223372036854775808 ≤ x) (h2 : x ≤ 9223372036854775807) : wrap64 x = x := by
  unfold wrap64; omega
theorem tdiv_pos {a : Int} (h : 0 ≤ a) (b : Int) : Int.tdiv a b = a / b := Int.tdiv_eq_ediv_of_nonneg h
theorem tmod_pos {a : Int} (h : 0 ≤ a) (b : Int) : Int.tmod a b = a % b := Int.tmod_eq_emod_of_nonneg h
theorem tdiv_neg {a : Int} (h : a ≤ 0) (b : Int) : Int.tdiv a b = -((-a) / b) := by
  have := Int.neg_tdiv (-a) b
  rw [Int.neg_neg] at this
  rw [this, tdiv_pos (by omega)]
theorem tmod_neg {a : Int} (h : a ≤ 0) (b : Int) : Int.tmod a b = -((-a) % b) := by
  have := Int.neg_tmod (-a) b
  rw [Int.neg_neg] at this
  rw [this, tmod_pos (by omega)]
theorem div_unique {x b q r : Int} (hb : 0 < b) (h : r + b * q = x) (h0 : 0 ≤ r) (h1 : r < b) : x / b = q :=
  ((Int.ediv_emod_unique hb).2 ⟨h, h0, h1⟩).1
theorem div_parts (x b : Int) : b * (x / b) + x % b = x := Int.mul_ediv_add_emod x b
theorem neg_div {a b : Int} (hb : 0 < b) : (-a) / b = if a % b = 0 then -(a / b) else -(a / b) - 1 := by
  have h := div_parts a b
  have h0 := Int.emod_nonneg a (Int.ne_of_gt hb)
  have h1 := Int.emod_lt_of_pos a hb
  split
  · exact div_unique (r := 0) hb (by rw [Int.mul_neg]; omega) (by omega) (by omega)
  · exact div_unique (r := b - a % b) hb (by rw [Int.mul_sub, Int.mul_neg]; omega) (by omega) (by omega)
theorem ceil_div {a b : Int} (hb : 0 < b) : (a + b - 1) / b = -((-a) / b) := by
  have h := div_parts (-a) b
  have h0 := Int.emod_nonneg (-a) (Int.ne_of_gt hb)
  have h1 := Int.emod_lt_of_pos (-a) hb
  exact div_unique (r := b - 1 - (-a) % b) hb (by rw [Int.mul_neg]; omega) (by omega) (by omega)
theorem div_bd {a b : Int} (ha : 0 ≤ a) (hb : 0 < b) : 0 ≤ a / b ∧ a / b ≤ a :=
  ⟨Int.ediv_nonneg ha (by omega), Int.ediv_le_self b ha⟩
theorem floor_tdiv {x b : Int} (hb : 0 < b) : (if Int.tmod x b < 0 then Int.tdiv x b - 1 else Int.tdiv x b) = x / b := by
  by_cases h : 0 ≤ x
  · have h0 := Int.emod_nonneg x (Int.ne_of_gt hb)
    rw [tmod_pos h, tdiv_pos h, if_neg (by omega)]
  · rw [tmod_neg (by omega), tdiv_neg (by omega)]
    have h0 := Int.emod_nonneg (-x) (Int.ne_of_gt hb)
    have e := neg_div (a := -x) hb
    rw [Int.neg_neg] at e
    rw [e]
    by_cases hz : (-x) % b = 0
    · rw [if_pos hz, if_neg (by omega)]
    · rw [if_neg hz, if_pos (by omega)]
theorem floor_bd {x b : Int} (hb : 0 < b) : (0 ≤ x → 0 ≤ x / b ∧ x / b ≤ x) ∧ (x < 0 → x ≤ x / b ∧ x / b < 0) := by
  refine ⟨fun h => div_bd h hb, fun h => ?_⟩
  have e := neg_div (a := -x) hb
  rw [Int.neg_neg] at e
  have d := div_bd (a := -x) (by omega) hb
  have p := div_parts (-x) b
  have h0 := Int.emod_nonneg (-x) (Int.ne_of_gt hb)
  rw [e]
  split
  · next hz =>
    rw [hz] at p
    have : (-x) / b ≠ 0 := fun e0 => by rw [e0, Int.mul_zero] at p; omega
    omega
  · next hz =>
    have : (-x) / b < -x := by
      rcases Int.lt_or_eq_of_le d.2 with h2 | h2
      · exact h2
      · exfalso
        rw [h2] at p
        have hb1 : b ≠ 1 := fun e1 => by subst e1; omega
        have : 2 * (-x) ≤ b * (-x) := Int.mul_le_mul_of_nonneg_right (by omega) (by omega)
        omega
    omega

theorem rd_nat (xs : List Int) (i : Nat) : rd xs (i : Int) = xs.getD i 0 := by unfold rd; rw [Int.toNat_natCast]
theorem rd_get (xs : List Int) (i : Nat) (h : i < xs.length) : rd xs (i : Int) = xs[i] := by
  rw [rd_nat, List.getD_eq_getElem?_getD, List.getElem?_eq_getElem h]; rfl
theorem w64_succ (i : Nat) (h : i ≤ 4000000000000000000) : wrap64 ((i : Int) + 1) = ((i + 1 : Nat) : Int) := by
  rw [w64 (by omega) (by omega)]; omega
theorem nat_nonneg (i : Nat) : 0 ≤ (i : Int) := Int.natCast_nonneg i
theorem set_get_take {xs ys : List Int} {i : Nat} (hl : ys.length = xs.length) (ht : ys.take i = xs.take i) (hi : i < xs.length) :
    (ys.set i (rd xs (i : Int))).take (i + 1) = xs.take (i + 1) := by
  rw [rd_get xs i hi]
  apply List.ext_getElem?
  intro n
  by_cases hn : n < i + 1
  · rw [List.getElem?_take_of_lt hn, List.getElem?_take_of_lt hn]
    by_cases e : n = i
    · subst e
      rw [List.getElem?_set_self (by omega), List.getElem?_eq_getElem hi]
    · rw [List.getElem?_set_ne (by omega)]
      have := congrArg (fun l => l[n]?) ht
      simp only [List.getElem?_take_of_lt (show n < i by omega)] at this
      exact this
  · rw [List.getElem?_take_eq_none (by omega), List.getElem?_take_eq_none (by omega)]

theorem eqInt64S_l0 (xs : List Int) (hn : xs.length ≤ 1000000000000000000) : ∀ (d i : Nat) (k : Nat), i + d = xs.length → d < k → laws_eqInt64S.l0 k xs xs (i : Int) = some true := by
  intro d
  induction d with
  | zero =>
    intro i k hi hk
    obtain ⟨k, rfl⟩ : ∃ m, k = m + 1 := ⟨k - 1, by omega⟩
    simp only [laws_eqInt64S.l0]
    rw [if_neg (by omega)]
  | succ d ih =>
    intro i k hi hk
    obtain ⟨k, rfl⟩ : ∃ m, k = m + 1 := ⟨k - 1, by omega⟩
    simp only [laws_eqInt64S.l0]
    rw [if_pos (by omega), if_pos (by omega), if_pos (by omega), if_pos trivial, w64_succ _ (by omega)]
    exact ih (i + 1) k (by omega) (by omega)
theorem eqInt64S_refl (xs : List Int) (hn : xs.length ≤ 1000000000000000000) (k : Nat) (hk : xs.length < k) : laws_eqInt64S.f k xs xs = some true := by
  unfold laws_eqInt64S.f
  rw [if_pos rfl]
  exact eqInt64S_l0 xs hn xs.length 0 k (by omega) hk

theorem markInt64S_l0 : ∀ (d i : Nat) (xs : List Int) (m k : Nat), i + d = xs.length → d < k → xs.length ≤ 1000000000000000000 → m + d ≤ 1000000000000000000 →
    ∃ ys, laws_markInt64S.l0 k xs (m : Int) (i : Int) = some (((m + d : Nat) : Int), ys) ∧ ys.length = xs.length ∧ (∀ j, j < i → ys.getD j 0 = xs.getD j 0) ∧ ∀ j, i ≤ j → j < xs.length → ys.getD j 0 = ((m + (j - i) : Nat) : Int) := by
  intro d
  induction d with
  | zero =>
    intro i xs m k hi hk hn hm
    obtain ⟨k, rfl⟩ : ∃ q, k = q + 1 := ⟨k - 1, by omega⟩
    refine ⟨xs, ?_, rfl, fun j _ => rfl, fun j h1 h2 => by omega⟩
    simp only [laws_markInt64S.l0]
    rw [if_neg (by omega)]; rfl
  | succ d ih =>
    intro i xs m k hi hk hn hm
    obtain ⟨k, rfl⟩ : ∃ q, k = q + 1 := ⟨k - 1, by omega⟩
    obtain ⟨ys, h1, h2, h3, h4⟩ := ih (i + 1) (xs.set i (((m : Nat) : Int))) (m + 1) k (by rw [List.length_set]; omega) (by omega) (by rw [List.length_set]; omega) (by omega)
    rw [List.length_set] at h2 h4
    refine ⟨ys, ?_, h2, fun j hj => ?_, fun j hj1 hj2 => ?_⟩
    · simp only [laws_markInt64S.l0]
      rw [if_pos (by omega), if_pos (by omega), w64_succ _ (by omega), w64_succ _ (by omega), Int.toNat_natCast, h1]
      rw [show m + 1 + d = m + (d + 1) by omega]
    · rw [h3 j (by omega), List.getD_eq_getElem?_getD, List.getElem?_set_ne (by omega), ← List.getD_eq_getElem?_getD]
    · by_cases e : j = i
      · subst e
        rw [h3 j (by omega), List.getD_eq_getElem?_getD, List.getElem?_set_self (by omega)]
        simp
      · rw [h4 j (by omega) hj2]
        rw [show m + 1 + (j - (i + 1)) = m + (j - i) by omega]

theorem heldInt64S_l0 (ys : List Int) (m0 : Nat) (hn : ys.length ≤ 1000000000000000000) (hm : m0 ≤ 1000000000000000000) (hy : ∀ j, j < ys.length → ys.getD j 0 = ((m0 + j : Nat) : Int)) : ∀ (d i k : Nat), i + d = ys.length → d < k →
    laws_heldInt64S.l0 k ys ((m0 + i : Nat) : Int) (i : Int) = some ((m0 + ys.length : Nat) : Int) := by
  intro d
  induction d with
  | zero =>
    intro i k hi hk
    obtain ⟨k, rfl⟩ : ∃ q, k = q + 1 := ⟨k - 1, by omega⟩
    simp only [laws_heldInt64S.l0]
    rw [if_neg (by omega)]
    rw [show i = ys.length by omega]
  | succ d ih =>
    intro i k hi hk
    obtain ⟨k, rfl⟩ : ∃ q, k = q + 1 := ⟨k - 1, by omega⟩
    simp only [laws_heldInt64S.l0]
    rw [if_pos (by omega), if_pos (by omega), rd_nat, if_pos (hy i (by omega)), w64_succ _ (by omega), w64_succ _ (by omega)]
    exact ih (i + 1) k (by omega) (by omega)
theorem mark_held_ints (xs : List Int) (m k : Nat) (hn : xs.length ≤ 100000000000000000) (hm : m ≤ 100000000000000000) (hk : xs.length < k) :
    ∃ ys, laws_markInt64S.f k xs (m : Int) = some (((m + xs.length : Nat) : Int), ys) ∧ ys.length = xs.length ∧ laws_heldInt64S.f k ys (m : Int) = some ((m + xs.length : Nat) : Int) := by
  obtain ⟨ys, h1, h2, h3, h4⟩ := markInt64S_l0 xs.length 0 xs m k (by omega) hk (by omega) (by omega)
  refine ⟨ys, h1, h2, ?_⟩
  have := heldInt64S_l0 ys m (by omega) (by omega) (fun j hj => by have := h4 j (by omega) (by omega); simpa using this) ys.length 0 k (by omega) (by omega)
  rw [h2] at this
  exact this

def sizeF (a : Int) : Int := if a = 4 then 0 else if a = 8 then 0 else if a = 16 then 0 else 3
theorem sizeF_cases (a : Int) : (sizeF a = 0 ∧ (a = 4 ∨ a = 8 ∨ a = 16)) ∨ (sizeF a = 3 ∧ a ≠ 4 ∧ a ≠ 8 ∧ a ≠ 16) := by
  unfold sizeF
  by_cases h1 : a = 4
  · simp [h1]
  · by_cases h2 : a = 8
    · simp [h2]
    · by_cases h3 : a = 16 <;> simp [h1, h2, h3]
def allIn (lo hi : Int) (xs : List Int) : Bool := xs.all fun n => decide (lo ≤ n ∧ n ≤ hi)
def In (lo hi : Int) (xs : List Int) : Prop := ∀ x ∈ xs, lo ≤ x ∧ x ≤ hi
theorem allIn_iff (lo hi : Int) (xs : List Int) : allIn lo hi xs = true ↔ In lo hi xs := by
  unfold allIn
  rw [List.all_eq_true]
  exact ⟨fun h x hx => by simpa using h x hx, fun h x hx => by simpa using h x hx⟩
theorem allIn_cons (lo hi x : Int) (xs : List Int) : allIn lo hi (x :: xs) = (decide (lo ≤ x ∧ x ≤ hi) && allIn lo hi xs) := rfl
theorem drop_rd' (xs : List Int) (i : Nat) (h : i < xs.length) : xs.drop i = rd xs (i : Int) :: xs.drop (i + 1) := by
  rw [rd_get xs i h]; exact List.drop_eq_getElem_cons h
def nz : List Int → Int
  | [] => 0
  | x :: xs => if x = 0 then nz xs else x

theorem spec_SizeFault_eq (a : Int) : spec_SizeFault.f a = some (sizeF a) := by
  unfold spec_SizeFault.f sizeF
  by_cases h1 : a = 4
  · simp [h1]
  · by_cases h2 : a = 8
    · simp [h2]
    · by_cases h3 : a = 16 <;> simp [h1, h2, h3]

theorem impl_SizeFault_eq (a : Int) : impl_SizeFault.f a = some (sizeF a) := by
  unfold impl_SizeFault.f sizeF
  by_cases h1 : a = 4
  · simp [h1]
  · by_cases h2 : a = 8
    · simp [h2]
    · by_cases h3 : a = 16 <;> simp [h1, h2, h3]

theorem neg_cast (n : Nat) : ¬ ((n : Int) < 0) := by omega

theorem eqSynth_refl (s : Int) (xs ys : List Int) (hx : xs.length ≤ 1000000000000000000) (hy : ys.length ≤ 1000000000000000000) (k : Nat) (hkx : xs.length < k) (hky : ys.length < k) : laws_eqSynth.f k s xs ys s xs ys = some true := by
  unfold laws_eqSynth.f
  rw [if_pos rfl, eqInt64S_refl xs hx k hkx, eqInt64S_refl ys hy k hky]; rfl

theorem mark_held_synth (s : Int) (xs ys : List Int) (m k : Nat) (hx : xs.length ≤ 10000000000000000) (hy : ys.length ≤ 10000000000000000) (hm : m ≤ 10000000000000000) (hkx : xs.length < k) (hky : ys.length < k) :
    ∃ xs' ys', laws_markSynth.f k s xs ys (m : Int) = some (((m + xs.length + ys.length : Nat) : Int), xs', ys') ∧ xs'.length = xs.length ∧ ys'.length = ys.length ∧ laws_heldSynth.f k s xs' ys' (m : Int) = some ((m + xs.length + ys.length : Nat) : Int) := by
  obtain ⟨xs', a1, a2, a3⟩ := mark_held_ints xs m k (by omega) (by omega) hkx
  obtain ⟨ys', b1, b2, b3⟩ := mark_held_ints ys (m + xs.length) k (by omega) (by omega) hky
  refine ⟨xs', ys', ?_, a2, b2, ?_⟩
  · unfold laws_markSynth.f
    rw [a1]
    simp only [Option.bind_some]
    rw [b1]; rfl
  · unfold laws_heldSynth.f
    rw [a3]
    simp only [Option.bind_some]
    rw [if_neg (neg_cast _), b3]
    simp only [Option.bind_some]
    rw [if_neg (neg_cast _)]

-- PLUS: lists sizef marks
theorem new_half (a : Int) (h : a = 4 ∨ a = 8 ∨ a = 16) : ∃ n : Nat, n ≤ 8 ∧ wrap64 (Int.tdiv a 2) = (n : Int) := by
  rcases h with rfl | rfl | rfl
  · exact ⟨2, by omega, by unfold wrap64; decide⟩
  · exact ⟨4, by omega, by unfold wrap64; decide⟩
  · exact ⟨8, by omega, by unfold wrap64; decide⟩
theorem both_new (a : Int) : ∃ c s xs ys, spec_NewSynth.f a = some (c, s, xs, ys) ∧ impl_NewSynth.f a = some (c, s, xs, ys) ∧ xs.length ≤ 8 ∧ ys.length ≤ 8 := by
  unfold spec_NewSynth.f impl_NewSynth.f
  rw [spec_SizeFault_eq, impl_SizeFault_eq]
  simp only [Option.bind_some]
  rcases sizeF_cases a with ⟨h, hc⟩ | ⟨h, _⟩
  · obtain ⟨n, hn, e⟩ := new_half a hc
    rw [if_pos h, if_pos h]
    unfold spec_l7NewSynth.f spec_l1Zeros.f
    rw [e, Int.toNat_natCast]
    simp only [Option.bind_some, if_pos (show (0 : Int) ≤ (n : Int) by omega), if_pos (show n ≤ 35184372088832 by omega)]
    exact ⟨_, _, _, _, rfl, rfl, by simp; omega, by simp; omega⟩
  · rw [h]
    exact ⟨3, 0, [], [], by simp, by simp, by simp, by simp⟩
theorem FnExactNewSynth : laws_FnExactNewSynth.Pure := by
  intro a0 _
  refine ⟨300, ?_⟩
  obtain ⟨c, s, xs, ys, h1, h2, hx, hy⟩ := both_new a0
  obtain ⟨xs', ys', hm, _, _, hh⟩ := mark_held_synth s xs ys 1 300 (by omega) (by omega) (by omega) (by omega) (by omega)
  have he : laws_eqSynthResult.f 300 c s xs ys c s xs ys = some true := by
    unfold laws_eqSynthResult.f
    rw [if_pos rfl, eqSynth_refl s xs ys (by omega) (by omega) 300 (by omega) (by omega)]; rfl
  have hm' : laws_markSynthResult.f 300 c s xs ys 1 = some (((1 + xs.length + ys.length : Nat) : Int), xs', ys') := by
    unfold laws_markSynthResult.f
    rw [show (1 : Int) = ((1 : Nat) : Int) from rfl, hm]; rfl
  have hh' : laws_heldSynthResult.f 300 c s xs' ys' 1 = some ((1 + xs.length + ys.length : Nat) : Int) := by
    unfold laws_heldSynthResult.f
    rw [show (1 : Int) = ((1 : Nat) : Int) from rfl, hh]
    simp only [Option.bind_some]
    rw [if_neg (neg_cast _)]
  unfold laws_FnExactNewSynth.f
  simp only [h1, h2, Option.bind_some, he, hm', hh', if_true, if_neg (neg_cast _)]

end Go.Proofs.Ytmbmofjekdkjeaa.Pure
