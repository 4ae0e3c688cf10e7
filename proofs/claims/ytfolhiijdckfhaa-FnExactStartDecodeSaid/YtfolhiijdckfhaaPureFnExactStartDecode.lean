/-
  StartDecode answers as the reference does, for every list of bytes, leaves it as it was, and shares no memory with it.
-/
import Derived.Test.YtfolhiijdckfhaaPFnExactStartDecodex
namespace Go.Proofs.Ytfolhiijdckfhaa.Pure
open Go.RowKit Go.Proofs.Ytfolhiijdckfhaa.PFnExactStartDecode Go.Proofs.YtfolhiijdckfhaaW.PrintWords Go.Proofs.YtfolhiijdckfhaaW.PrintLast Go.Proofs.YtfolhiijdckfhaaW.PrintMore
set_option linter.unusedVariables false
set_option linter.unusedSimpArgs false

theorem w64 {x : Int} (h1 : -9223372036854775808 ≤ x) (h2 : x ≤ 9223372036854775807) : wrap64 x = x := by
  unfold wrap64; omega
theorem tdiv_pos {a : Int} (h : 0 ≤ a) (b : Int) : Int.tdiv a b = a / b := Int.tdiv_eq_ediv_of_nonneg h
theorem tmod_pos {a : Int} (h : 0 ≤ a) (b : Int) : Int.tmod a b = a % b := Int.tmod_eq_emod_of_nonneg h
theorem tdiv_neg {a : Int} (h : a ≤ 0) (b : Int) : Int.tdiv a b = -((-a) / b) := by
  have := Int.neg_tdiv (-a) b
  rw [Int.neg_neg] at this
  rw [this, tdiv_pos (by omega)]
theorem tmod_neg {a : Int} (h : a ≤ 0) (b : Int) : Int.tmod a b = -((-a) % b) := by
  have := Int.neg_tmod (-a) b
  rw [Int.neg_neg] at this
  rw [this, tmod_pos (by omega)]
theorem div_unique {x b q r : Int} (hb : 0 < b) (h : r + b * q = x) (h0 : 0 ≤ r) (h1 : r < b) : x / b = q :=
  ((Int.ediv_emod_unique hb).2 ⟨h, h0, h1⟩).1
theorem div_parts (x b : Int) : b * (x / b) + x % b = x := Int.mul_ediv_add_emod x b
theorem neg_div {a b : Int} (hb : 0 < b) : (-a) / b = if a % b = 0 then -(a / b) else -(a / b) - 1 := by
  have h := div_parts a b
  have h0 := Int.emod_nonneg a (Int.ne_of_gt hb)
  have h1 := Int.emod_lt_of_pos a hb
  split
  · exact div_unique (r := 0) hb (by rw [Int.mul_neg]; omega) (by omega) (by omega)
  · exact div_unique (r := b - a % b) hb (by rw [Int.mul_sub, Int.mul_neg]; omega) (by omega) (by omega)
theorem ceil_div {a b : Int} (hb : 0 < b) : (a + b - 1) / b = -((-a) / b) := by
  have h := div_parts (-a) b
  have h0 := Int.emod_nonneg (-a) (Int.ne_of_gt hb)
  have h1 := Int.emod_lt_of_pos (-a) hb
  exact div_unique (r := b - 1 - (-a) % b) hb (by rw [Int.mul_neg]; omega) (by omega) (by omega)
theorem div_bd {a b : Int} (ha : 0 ≤ a) (hb : 0 < b) : 0 ≤ a / b ∧ a / b ≤ a :=
  ⟨Int.ediv_nonneg ha (by omega), Int.ediv_le_self b ha⟩
theorem floor_tdiv {x b : Int} (hb : 0 < b) : (if Int.tmod x b < 0 then Int.tdiv x b - 1 else Int.tdiv x b) = x / b := by
  by_cases h : 0 ≤ x
  · have h0 := Int.emod_nonneg x (Int.ne_of_gt hb)
    rw [tmod_pos h, tdiv_pos h, if_neg (by omega)]
  · rw [tmod_neg (by omega), tdiv_neg (by omega)]
    have h0 := Int.emod_nonneg (-x) (Int.ne_of_gt hb)
    have e := neg_div (a := -x) hb
    rw [Int.neg_neg] at e
    rw [e]
    by_cases hz : (-x) % b = 0
    · rw [if_pos hz, if_neg (by omega)]
    · rw [if_neg hz, if_pos (by omega)]
theorem floor_bd {x b : Int} (hb : 0 < b) : (0 ≤ x → 0 ≤ x / b ∧ x / b ≤ x) ∧ (x < 0 → x ≤ x / b ∧ x / b < 0) := by
  refine ⟨fun h => div_bd h hb, fun h => ?_⟩
  have e := neg_div (a := -x) hb
  rw [Int.neg_neg] at e
  have d := div_bd (a := -x) (by omega) hb
  have p := div_parts (-x) b
  have h0 := Int.emod_nonneg (-x) (Int.ne_of_gt hb)
  rw [e]
  split
  · next hz =>
    rw [hz] at p
    have : (-x) / b ≠ 0 := fun e0 => by rw [e0, Int.mul_zero] at p; omega
    omega
  · next hz =>
    have : (-x) / b < -x := by
      rcases Int.lt_or_eq_of_le d.2 with h2 | h2
      · exact h2
      · exfalso
        rw [h2] at p
        have hb1 : b ≠ 1 := fun e1 => by subst e1; omega
        have : 2 * (-x) ≤ b * (-x) := Int.mul_le_mul_of_nonneg_right (by omega) (by omega)
        omega
    omega

theorem rd_nat (xs : List Int) (i : Nat) : rd xs (i : Int) = xs.getD i 0 := by unfold rd; rw [Int.toNat_natCast]
theorem rd_get (xs : List Int) (i : Nat) (h : i < xs.length) : rd xs (i : Int) = xs[i] := by
  rw [rd_nat, List.getD_eq_getElem?_getD, List.getElem?_eq_getElem h]; rfl
theorem w64_succ (i : Nat) (h : i ≤ 4000000000000000000) : wrap64 ((i : Int) + 1) = ((i + 1 : Nat) : Int) := by
  rw [w64 (by omega) (by omega)]; omega
theorem nat_nonneg (i : Nat) : 0 ≤ (i : Int) := Int.natCast_nonneg i
theorem set_get_take {xs ys : List Int} {i : Nat} (hl : ys.length = xs.length) (ht : ys.take i = xs.take i) (hi : i < xs.length) :
    (ys.set i (rd xs (i : Int))).take (i + 1) = xs.take (i + 1) := by
  rw [rd_get xs i hi]
  apply List.ext_getElem?
  intro n
  by_cases hn : n < i + 1
  · rw [List.getElem?_take_of_lt hn, List.getElem?_take_of_lt hn]
    by_cases e : n = i
    · subst e
      rw [List.getElem?_set_self (by omega), List.getElem?_eq_getElem hi]
    · rw [List.getElem?_set_ne (by omega)]
      have := congrArg (fun l => l[n]?) ht
      simp only [List.getElem?_take_of_lt (show n < i by omega)] at this
      exact this
  · rw [List.getElem?_take_eq_none (by omega), List.getElem?_take_eq_none (by omega)]

theorem toByteS_l0 (xs : List Int) (hn : xs.length ≤ 1000000000000000000) : ∀ (d i : Nat) (ys : List Int) (k : Nat), i + d = xs.length → d < k → ys.length = xs.length → ys.take i = xs.take i →
    laws_toByteS.l0 k xs ys (i : Int) = some xs := by
  intro d
  induction d with
  | zero =>
    intro i ys k hi hk hl ht
    obtain ⟨k, rfl⟩ : ∃ m, k = m + 1 := ⟨k - 1, by omega⟩
    simp only [laws_toByteS.l0]
    rw [if_neg (by omega)]
    rw [List.take_of_length_le (by omega), List.take_of_length_le (by omega)] at ht
    rw [ht]
  | succ d ih =>
    intro i ys k hi hk hl ht
    obtain ⟨k, rfl⟩ : ∃ m, k = m + 1 := ⟨k - 1, by omega⟩
    simp only [laws_toByteS.l0]
    rw [if_pos (by omega), if_pos (by omega), if_pos (by omega), w64_succ _ (by omega), Int.toNat_natCast]
    exact ih (i + 1) _ k (by omega) (by omega) (by rw [List.length_set, hl]) (set_get_take hl ht (by omega))
theorem toByteS_eq (xs : List Int) (hn : xs.length ≤ 1048576) (k : Nat) (hk : xs.length < k) : laws_toByteS.f k xs = some xs := by
  unfold laws_toByteS.f
  rw [if_pos (by omega), if_pos (by omega), Int.toNat_natCast]
  exact toByteS_l0 xs (by omega) xs.length 0 _ k (by omega) hk (by simp) (by simp)

theorem eqByteS_l0 (xs : List Int) (hn : xs.length ≤ 1000000000000000000) : ∀ (d i : Nat) (k : Nat), i + d = xs.length → d < k → laws_eqByteS.l0 k xs xs (i : Int) = some true := by
  intro d
  induction d with
  | zero =>
    intro i k hi hk
    obtain ⟨k, rfl⟩ : ∃ m, k = m + 1 := ⟨k - 1, by omega⟩
    simp only [laws_eqByteS.l0]
    rw [if_neg (by omega)]
  | succ d ih =>
    intro i k hi hk
    obtain ⟨k, rfl⟩ : ∃ m, k = m + 1 := ⟨k - 1, by omega⟩
    simp only [laws_eqByteS.l0]
    rw [if_pos (by omega), if_pos (by omega), if_pos (by omega), if_pos trivial, w64_succ _ (by omega)]
    exact ih (i + 1) k (by omega) (by omega)
theorem eqByteS_refl (xs : List Int) (hn : xs.length ≤ 1000000000000000000) (k : Nat) (hk : xs.length < k) : laws_eqByteS.f k xs xs = some true := by
  unfold laws_eqByteS.f
  rw [if_pos rfl]
  exact eqByteS_l0 xs hn xs.length 0 k (by omega) hk

theorem markByteS_l0 : ∀ (d i : Nat) (xs : List Int) (m k : Nat), i + d = xs.length → d < k → xs.length ≤ 1000000000000000000 → m + d ≤ 1000000000000000000 →
    ∃ ys, laws_markByteS.l0 k xs (m : Int) (i : Int) = some (((m + d : Nat) : Int), ys) ∧ ys.length = xs.length ∧ (∀ j, j < i → ys.getD j 0 = xs.getD j 0) ∧ ∀ j, i ≤ j → j < xs.length → ys.getD j 0 = ((m + (j - i) : Nat) : Int) % 256 := by
  intro d
  induction d with
  | zero =>
    intro i xs m k hi hk hn hm
    obtain ⟨k, rfl⟩ : ∃ q, k = q + 1 := ⟨k - 1, by omega⟩
    refine ⟨xs, ?_, rfl, fun j _ => rfl, fun j h1 h2 => by omega⟩
    simp only [laws_markByteS.l0]
    rw [if_neg (by omega)]; rfl
  | succ d ih =>
    intro i xs m k hi hk hn hm
    obtain ⟨k, rfl⟩ : ∃ q, k = q + 1 := ⟨k - 1, by omega⟩
    obtain ⟨ys, h1, h2, h3, h4⟩ := ih (i + 1) (xs.set i (((m : Nat) : Int) % 256)) (m + 1) k (by rw [List.length_set]; omega) (by omega) (by rw [List.length_set]; omega) (by omega)
    rw [List.length_set] at h2 h4
    refine ⟨ys, ?_, h2, fun j hj => ?_, fun j hj1 hj2 => ?_⟩
    · simp only [laws_markByteS.l0]
      rw [if_pos (by omega), if_pos (by omega), w64_succ _ (by omega), w64_succ _ (by omega), Int.toNat_natCast, h1]
      rw [show m + 1 + d = m + (d + 1) by omega]
    · rw [h3 j (by omega), List.getD_eq_getElem?_getD, List.getElem?_set_ne (by omega), ← List.getD_eq_getElem?_getD]
    · by_cases e : j = i
      · subst e
        rw [h3 j (by omega), List.getD_eq_getElem?_getD, List.getElem?_set_self (by omega)]
        simp
      · rw [h4 j (by omega) hj2]
        rw [show m + 1 + (j - (i + 1)) = m + (j - i) by omega]

theorem heldByteS_l0 (ys : List Int) (m0 : Nat) (hn : ys.length ≤ 1000000000000000000) (hm : m0 ≤ 1000000000000000000) (hy : ∀ j, j < ys.length → ys.getD j 0 = ((m0 + j : Nat) : Int) % 256) : ∀ (d i k : Nat), i + d = ys.length → d < k →
    laws_heldByteS.l0 k ys ((m0 + i : Nat) : Int) (i : Int) = some ((m0 + ys.length : Nat) : Int) := by
  intro d
  induction d with
  | zero =>
    intro i k hi hk
    obtain ⟨k, rfl⟩ : ∃ q, k = q + 1 := ⟨k - 1, by omega⟩
    simp only [laws_heldByteS.l0]
    rw [if_neg (by omega)]
    rw [show i = ys.length by omega]
  | succ d ih =>
    intro i k hi hk
    obtain ⟨k, rfl⟩ : ∃ q, k = q + 1 := ⟨k - 1, by omega⟩
    simp only [laws_heldByteS.l0]
    rw [if_pos (by omega), if_pos (by omega), rd_nat, if_pos (hy i (by omega)), w64_succ _ (by omega), w64_succ _ (by omega)]
    exact ih (i + 1) k (by omega) (by omega)
theorem mark_held_bytes (xs : List Int) (m k : Nat) (hn : xs.length ≤ 100000000000000000) (hm : m ≤ 100000000000000000) (hk : xs.length < k) :
    ∃ ys, laws_markByteS.f k xs (m : Int) = some (((m + xs.length : Nat) : Int), ys) ∧ ys.length = xs.length ∧ laws_heldByteS.f k ys (m : Int) = some ((m + xs.length : Nat) : Int) := by
  obtain ⟨ys, h1, h2, h3, h4⟩ := markByteS_l0 xs.length 0 xs m k (by omega) hk (by omega) (by omega)
  refine ⟨ys, h1, h2, ?_⟩
  have := heldByteS_l0 ys m (by omega) (by omega) (fun j hj => by have := h4 j (by omega) (by omega); simpa using this) ys.length 0 k (by omega) (by omega)
  rw [h2] at this
  exact this

theorem u8_of_wf {x : Int} (h : (Lit.int .u8 x).wf = true) : 0 ≤ x ∧ x < 256 := by
  have := h
  simp [Lit.wf, IntKind.min, IntKind.max, IntKind.bits, IntKind.signed] at this
  omega
def Bytes (xs : List Int) : Prop := ∀ x ∈ xs, 0 ≤ x ∧ x < 256
theorem Bytes.rd {xs : List Int} (h : Bytes xs) (i : Nat) : 0 ≤ rd xs (i : Int) ∧ rd xs (i : Int) < 256 := by
  rw [rd_nat, List.getD_eq_getElem?_getD]
  by_cases hi : i < xs.length
  · rw [List.getElem?_eq_getElem hi]; exact h _ (List.getElem_mem hi)
  · rw [List.getElem?_eq_none (by omega)]; exact ⟨by simp, by simp⟩

theorem neg_cast (n : Nat) : ¬ ((n : Int) < 0) := by omega

theorem l1Copy_eq (xs : List Int) (h : xs.length < 140737488355328) : spec_l1Copy.f xs = some xs := by
  unfold spec_l1Copy.f
  simp only [Option.bind_some]
  rw [if_pos (by simp; omega)]
  rfl

-- PLUS: lists bytes marks
def bA (l : List Int) (i : Nat) : Int := if i < l.length then rd l (i : Int) else 0
theorem bA_bd (l : List Int) (hl : Bytes l) (i : Nat) : 0 ≤ bA l i ∧ bA l i ≤ 255 := by
  unfold bA
  by_cases h : i < l.length
  · rw [if_pos h, rd_get l i h]
    have := hl _ (List.getElem_mem h)
    omega
  · rw [if_neg h]; omega
theorem next_eq (l : List Int) (hl : Bytes l) (i : Nat) (hi : i ≤ 2) (r g : Int) : impl_Decoder_next.f l (i : Int) r g = some (bA l i, ((i + 1 : Nat) : Int), r, g) := by
  have hb := bA_bd l hl i
  have e1 : wrap64 ((i : Int) + 1) = ((i + 1 : Nat) : Int) := w64_succ i (by omega)
  have e2 : wrap64 (((i + 1 : Nat) : Int) - 1) = (i : Int) := by rw [w64 (by omega) (by omega)]; omega
  unfold impl_Decoder_next.f
  rw [e1, e2]
  by_cases h : i < l.length
  · rw [if_neg (by omega), if_pos (by omega), if_pos (by omega)]
    have e3 : bA l i = rd l (i : Int) := by unfold bA; rw [if_pos h]
    rw [← e3, w64 (by omega) (by omega)]
  · rw [if_pos (by omega)]
    have e3 : bA l i = 0 := by unfold bA; rw [if_neg h]
    rw [e3]
theorem l3Byte_eq (l : List Int) (hl : Bytes l) (i : Nat) : spec_l3Byte.f l (i : Int) = some (bA l i) := by
  have hb := bA_bd l hl i
  unfold spec_l3Byte.f
  by_cases h : i < l.length
  · rw [if_pos (by omega), if_pos (by omega)]
    have e3 : bA l i = rd l (i : Int) := by unfold bA; rw [if_pos h]
    rw [← e3, w64 (by omega) (by omega)]
  · rw [if_neg (by omega)]
    have e3 : bA l i = 0 := by unfold bA; rw [if_neg h]
    rw [e3]
theorem start_l0 (l : List Int) (hl : Bytes l) (k : Nat) : impl_start.l0 (k + 4) 0 l 0 0 16777216 = some (l, 3, bA l 0 * 65536 + bA l 1 * 256 + bA l 2, 16777216) := by
  have h0 := bA_bd l hl 0
  have h1 := bA_bd l hl 1
  have h2 := bA_bd l hl 2
  have n0 := next_eq l hl 0 (by omega) 0 16777216
  have n1 := next_eq l hl 1 (by omega) (bA l 0) 16777216
  have n2 := next_eq l hl 2 (by omega) (bA l 0 * 256 + bA l 1) 16777216
  have n0' : impl_Decoder_next.f l 0 0 16777216 = some (bA l 0, 1, 0, 16777216) := n0
  have n1' : impl_Decoder_next.f l 1 (bA l 0) 16777216 = some (bA l 1, 2, bA l 0, 16777216) := n1
  have n2' : impl_Decoder_next.f l 2 (bA l 0 * 256 + bA l 1) 16777216 = some (bA l 2, 3, bA l 0 * 256 + bA l 1, 16777216) := n2
  simp only [impl_start.l0]
  rw [if_pos (by decide), n0']
  simp only [Option.bind_some]
  rw [show wrap64 (0 + 1) = 1 by unfold wrap64; decide, show wrap64 (wrap64 (0 * 256) + bA l 0) = bA l 0 by rw [w64 (x := 0 * 256) (by omega) (by omega), w64 (by omega) (by omega)]; omega, if_pos (by decide), n1']
  simp only [Option.bind_some]
  rw [show wrap64 (1 + 1) = 2 by unfold wrap64; decide, show wrap64 (wrap64 (bA l 0 * 256) + bA l 1) = bA l 0 * 256 + bA l 1 by rw [w64 (x := bA l 0 * 256) (by omega) (by omega), w64 (by omega) (by omega)], if_pos (by decide), n2']
  simp only [Option.bind_some]
  rw [show wrap64 (2 + 1) = 3 by unfold wrap64; decide, if_neg (by decide)]
  rw [w64 (x := (bA l 0 * 256 + bA l 1) * 256) (by omega) (by omega), w64 (by omega) (by omega)]
  rw [show (bA l 0 * 256 + bA l 1) * 256 + bA l 2 = bA l 0 * 65536 + bA l 1 * 256 + bA l 2 by omega]
def stF (l : List Int) : Int × List Int × Int × Int × Int := if (l.length : Int) > 600 then (2, [], 0, 0, 0) else (0, l, 3, bA l 0 * 65536 + bA l 1 * 256 + bA l 2, 16777216)
theorem stF_len (l : List Int) : (stF l).2.1.length ≤ 600 := by
  unfold stF
  by_cases h : (l.length : Int) > 600
  · rw [if_pos h]; simp
  · rw [if_neg h]; simp only; omega
theorem impl_Start_eq (l : List Int) (hl : Bytes l) (k : Nat) (hk : 4 ≤ k) : impl_StartDecode.f k l = some (stF l) := by
  obtain ⟨k, rfl⟩ : ∃ m, k = m + 4 := ⟨k - 4, by omega⟩
  unfold impl_StartDecode.f stF
  by_cases h : (l.length : Int) > 600
  · rw [if_pos h, if_pos h]
  · rw [if_neg h, if_neg h]
    unfold impl_start.f slices_Clone_byte_byte.f
    rw [if_pos (by omega)]
    simp only [Option.bind_some, start_l0 l hl k]
theorem spec_Start_eq (l : List Int) (hl : Bytes l) : spec_StartDecode.f l = some (stF l) := by
  have h0 := bA_bd l hl 0
  have h1 := bA_bd l hl 1
  have h2 := bA_bd l hl 2
  have b0 : spec_l3Byte.f l 0 = some (bA l 0) := l3Byte_eq l hl 0
  have b1 : spec_l3Byte.f l 1 = some (bA l 1) := l3Byte_eq l hl 1
  have b2 : spec_l3Byte.f l 2 = some (bA l 2) := l3Byte_eq l hl 2
  unfold spec_StartDecode.f stF
  by_cases h : (l.length : Int) > 600
  · rw [if_pos h, if_pos h]
  · rw [if_neg h, if_neg h]
    unfold spec_l3Start.f spec_l1Copy.f
    simp only [b0, b1, b2, Option.bind_some, List.length_nil, List.nil_append]
    rw [if_pos (by omega)]
    simp only [Option.bind_some]
    rw [w64 (x := bA l 0 * 65536) (by omega) (by omega), w64 (x := bA l 1 * 256) (by omega) (by omega), w64 (x := bA l 0 * 65536 + bA l 1 * 256) (by omega) (by omega), w64 (by omega) (by omega)]
theorem start_j0 (l0 ys : List Int) (c a b d : Int) (K : Nat) (hi : impl_StartDecode.f K l0 = some (c, ys, a, b, d)) (hn : l0.length ≤ 1048576) (hK : l0.length < K) (hy : ys.length ≤ 1000000000) (hyK : ys.length < K) :
    laws_FnExactStartDecode.j0 (K + 1) l0 false c ys a b d c ys a b d = some true := by
  obtain ⟨zs, m1, m2, m3⟩ := mark_held_bytes ys 1 K (by omega) (by omega) hyK
  have hm : laws_markDecoderResult.f K c ys a b d 1 = some (((1 + ys.length : Nat) : Int), zs) := by
    unfold laws_markDecoderResult.f laws_markDecoder.f
    rw [show (1 : Int) = ((1 : Nat) : Int) from rfl, m1]; rfl
  have hh : laws_heldDecoderResult.f K c zs a b d 1 = some ((1 + ys.length : Nat) : Int) := by
    unfold laws_heldDecoderResult.f laws_heldDecoder.f
    rw [show (1 : Int) = ((1 : Nat) : Int) from rfl, m3]
    simp only [Option.bind_some]
    rw [if_neg (neg_cast _)]
    simp only [Option.bind_some]
    rw [if_neg (neg_cast _)]
  have ht := toByteS_eq l0 (by omega) K hK
  have he : laws_eqDecoderResult.f K c ys a b d c ys a b d = some true := by
    unfold laws_eqDecoderResult.f laws_eqDecoder.f
    rw [if_pos rfl, eqByteS_refl ys (by omega) K hyK]; simp
  simp only [laws_FnExactStartDecode.j0]
  rw [if_neg (by decide)]
  simp only [hm, hh, ht, hi, he, Option.bind_some, if_true, if_neg (neg_cast _)]
theorem FnExactStartDecode : laws_FnExactStartDecode.Pure := by
  intro l0 h1 h2 h3
  have hx : Bytes l0 := fun x hx => u8_of_wf (h3 x hx)
  obtain ⟨K, hK⟩ : ∃ K, K = l0.length + 2000 := ⟨_, rfl⟩
  refine ⟨K + 1, ?_⟩
  unfold laws_FnExactStartDecode.f
  by_cases hb : (l0.length : Int) > 1048576
  · rw [if_pos hb]
  rw [if_neg hb]
  obtain ⟨c, ys, a, b, d, e, hl⟩ : ∃ c ys a b d, stF l0 = (c, ys, a, b, d) ∧ ys.length ≤ 600 := ⟨_, _, _, _, _, rfl, stF_len l0⟩
  have hi := impl_Start_eq l0 hx K (by omega)
  have hi' := impl_Start_eq l0 hx (K + 1) (by omega)
  have hs := spec_Start_eq l0 hx
  rw [e] at hi hi' hs
  have ht := toByteS_eq l0 (by omega) (K + 1) (by omega)
  have hq := eqByteS_refl l0 (by omega) (K + 1) (by omega)
  have he : laws_eqDecoderResult.f (K + 1) c ys a b d c ys a b d = some true := by
    unfold laws_eqDecoderResult.f laws_eqDecoder.f
    rw [if_pos rfl, eqByteS_refl ys (by omega) (K + 1) (by omega)]; simp
  obtain ⟨zs, m1, m2, m3⟩ := mark_held_bytes l0 1 (K + 1) (by omega) (by omega) (by omega)
  have hm : laws_markByteS.f (K + 1) l0 1 = some (((1 + l0.length : Nat) : Int), zs) := m1
  have hj := start_j0 l0 ys c a b d K hi (by omega) (by omega) (by omega) (by omega)
  simp only [ht, hs, hi', he, hq, hm, Option.bind_some, if_true, if_neg (neg_cast _), Bool.not_true]
  exact hj

end Go.Proofs.Ytfolhiijdckfhaa.Pure
