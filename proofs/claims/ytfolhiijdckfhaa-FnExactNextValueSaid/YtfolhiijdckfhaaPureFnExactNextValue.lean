/-
  NextValue answers as the reference does, for every decoder and every total, and leaves the decoder as it was.
-/
import Derived.Test.YtfolhiijdckfhaaPFnExactNextValuex
namespace Go.Proofs.Ytfolhiijdckfhaa.Pure
open Go.RowKit Go.Proofs.Ytfolhiijdckfhaa.PFnExactNextValue Go.Proofs.YtfolhiijdckfhaaW.PrintWords Go.Proofs.YtfolhiijdckfhaaW.PrintLast Go.Proofs.YtfolhiijdckfhaaW.PrintMore
set_option linter.unusedVariables false
set_option linter.unusedSimpArgs false

theorem w64 {x : Int} (h1 : -9223372036854775808 ≤ x) (h2 : x ≤ 9223372036854775807) : wrap64 x = x := by
  unfold wrap64; omega
theorem tdiv_pos {a : Int} (h : 0 ≤ a) (b : Int) : Int.tdiv a b = a / b := Int.tdiv_eq_ediv_of_nonneg h
theorem tmod_pos {a : Int} (h : 0 ≤ a) (b : Int) : Int.tmod a b = a % b := Int.tmod_eq_emod_of_nonneg h
theorem tdiv_neg {a : Int} (h : a ≤ 0) (b : Int) : Int.tdiv a b = -((-a) / b) := by
  have := Int.neg_tdiv (-a) b
  rw [Int.neg_neg] at this
  rw [this, tdiv_pos (by omega)]
theorem tmod_neg {a : Int} (h : a ≤ 0) (b : Int) : Int.tmod a b = -((-a) % b) := by
  have := Int.neg_tmod (-a) b
  rw [Int.neg_neg] at this
  rw [this, tmod_pos (by omega)]
theorem div_unique {x b q r : Int} (hb : 0 < b) (h : r + b * q = x) (h0 : 0 ≤ r) (h1 : r < b) : x / b = q :=
  ((Int.ediv_emod_unique hb).2 ⟨h, h0, h1⟩).1
theorem div_parts (x b : Int) : b * (x / b) + x % b = x := Int.mul_ediv_add_emod x b
theorem neg_div {a b : Int} (hb : 0 < b) : (-a) / b = if a % b = 0 then -(a / b) else -(a / b) - 1 := by
  have h := div_parts a b
  have h0 := Int.emod_nonneg a (Int.ne_of_gt hb)
  have h1 := Int.emod_lt_of_pos a hb
  split
  · exact div_unique (r := 0) hb (by rw [Int.mul_neg]; omega) (by omega) (by omega)
  · exact div_unique (r := b - a % b) hb (by rw [Int.mul_sub, Int.mul_neg]; omega) (by omega) (by omega)
theorem ceil_div {a b : Int} (hb : 0 < b) : (a + b - 1) / b = -((-a) / b) := by
  have h := div_parts (-a) b
  have h0 := Int.emod_nonneg (-a) (Int.ne_of_gt hb)
  have h1 := Int.emod_lt_of_pos (-a) hb
  exact div_unique (r := b - 1 - (-a) % b) hb (by rw [Int.mul_neg]; omega) (by omega) (by omega)
theorem div_bd {a b : Int} (ha : 0 ≤ a) (hb : 0 < b) : 0 ≤ a / b ∧ a / b ≤ a :=
  ⟨Int.ediv_nonneg ha (by omega), Int.ediv_le_self b ha⟩
theorem floor_tdiv {x b : Int} (hb : 0 < b) : (if Int.tmod x b < 0 then Int.tdiv x b - 1 else Int.tdiv x b) = x / b := by
  by_cases h : 0 ≤ x
  · have h0 := Int.emod_nonneg x (Int.ne_of_gt hb)
    rw [tmod_pos h, tdiv_pos h, if_neg (by omega)]
  · rw [tmod_neg (by omega), tdiv_neg (by omega)]
    have h0 := Int.emod_nonneg (-x) (Int.ne_of_gt hb)
    have e := neg_div (a := -x) hb
    rw [Int.neg_neg] at e
    rw [e]
    by_cases hz : (-x) % b = 0
    · rw [if_pos hz, if_neg (by omega)]
    · rw [if_neg hz, if_pos (by omega)]
theorem floor_bd {x b : Int} (hb : 0 < b) : (0 ≤ x → 0 ≤ x / b ∧ x / b ≤ x) ∧ (x < 0 → x ≤ x / b ∧ x / b < 0) := by
  refine ⟨fun h => div_bd h hb, fun h => ?_⟩
  have e := neg_div (a := -x) hb
  rw [Int.neg_neg] at e
  have d := div_bd (a := -x) (by omega) hb
  have p := div_parts (-x) b
  have h0 := Int.emod_nonneg (-x) (Int.ne_of_gt hb)
  rw [e]
  split
  · next hz =>
    rw [hz] at p
    have : (-x) / b ≠ 0 := fun e0 => by rw [e0, Int.mul_zero] at p; omega
    omega
  · next hz =>
    have : (-x) / b < -x := by
      rcases Int.lt_or_eq_of_le d.2 with h2 | h2
      · exact h2
      · exfalso
        rw [h2] at p
        have hb1 : b ≠ 1 := fun e1 => by subst e1; omega
        have : 2 * (-x) ≤ b * (-x) := Int.mul_le_mul_of_nonneg_right (by omega) (by omega)
        omega
    omega

theorem inRange_eq (a b c : Int) : impl_inRange.f a b c = some (decide (b ≤ a ∧ a ≤ c)) := by
  unfold impl_inRange.f; by_cases h : b ≤ a <;> simp [h]

theorem l1In_eq (a b c : Int) : spec_l1In.f a b c = some (decide (b ≤ a ∧ a ≤ c)) := by
  unfold spec_l1In.f; by_cases h : b ≤ a <;> simp [h]

theorem codeIf_eq (b : Bool) (c : Int) : impl_codeIf.f b c = some (if b = true then c else 0) := by
  unfold impl_codeIf.f; cases b <;> rfl

theorem eqInt_refl (a b : Int) : laws_eqIntResult.f a b a b = some true := by unfold laws_eqIntResult.f; rw [if_pos rfl, if_pos rfl]

theorem rd_nat (xs : List Int) (i : Nat) : rd xs (i : Int) = xs.getD i 0 := by unfold rd; rw [Int.toNat_natCast]
theorem rd_get (xs : List Int) (i : Nat) (h : i < xs.length) : rd xs (i : Int) = xs[i] := by
  rw [rd_nat, List.getD_eq_getElem?_getD, List.getElem?_eq_getElem h]; rfl
theorem w64_succ (i : Nat) (h : i ≤ 4000000000000000000) : wrap64 ((i : Int) + 1) = ((i + 1 : Nat) : Int) := by
  rw [w64 (by omega) (by omega)]; omega
theorem nat_nonneg (i : Nat) : 0 ≤ (i : Int) := Int.natCast_nonneg i
theorem set_get_take {xs ys : List Int} {i : Nat} (hl : ys.length = xs.length) (ht : ys.take i = xs.take i) (hi : i < xs.length) :
    (ys.set i (rd xs (i : Int))).take (i + 1) = xs.take (i + 1) := by
  rw [rd_get xs i hi]
  apply List.ext_getElem?
  intro n
  by_cases hn : n < i + 1
  · rw [List.getElem?_take_of_lt hn, List.getElem?_take_of_lt hn]
    by_cases e : n = i
    · subst e
      rw [List.getElem?_set_self (by omega), List.getElem?_eq_getElem hi]
    · rw [List.getElem?_set_ne (by omega)]
      have := congrArg (fun l => l[n]?) ht
      simp only [List.getElem?_take_of_lt (show n < i by omega)] at this
      exact this
  · rw [List.getElem?_take_eq_none (by omega), List.getElem?_take_eq_none (by omega)]

theorem toByteS_l0 (xs : List Int) (hn : xs.length ≤ 1000000000000000000) : ∀ (d i : Nat) (ys : List Int) (k : Nat), i + d = xs.length → d < k → ys.length = xs.length → ys.take i = xs.take i →
    laws_toByteS.l0 k xs ys (i : Int) = some xs := by
  intro d
  induction d with
  | zero =>
    intro i ys k hi hk hl ht
    obtain ⟨k, rfl⟩ : ∃ m, k = m + 1 := ⟨k - 1, by omega⟩
    simp only [laws_toByteS.l0]
    rw [if_neg (by omega)]
    rw [List.take_of_length_le (by omega), List.take_of_length_le (by omega)] at ht
    rw [ht]
  | succ d ih =>
    intro i ys k hi hk hl ht
    obtain ⟨k, rfl⟩ : ∃ m, k = m + 1 := ⟨k - 1, by omega⟩
    simp only [laws_toByteS.l0]
    rw [if_pos (by omega), if_pos (by omega), if_pos (by omega), w64_succ _ (by omega), Int.toNat_natCast]
    exact ih (i + 1) _ k (by omega) (by omega) (by rw [List.length_set, hl]) (set_get_take hl ht (by omega))
theorem toByteS_eq (xs : List Int) (hn : xs.length ≤ 1048576) (k : Nat) (hk : xs.length < k) : laws_toByteS.f k xs = some xs := by
  unfold laws_toByteS.f
  rw [if_pos (by omega), if_pos (by omega), Int.toNat_natCast]
  exact toByteS_l0 xs (by omega) xs.length 0 _ k (by omega) hk (by simp) (by simp)

theorem eqByteS_l0 (xs : List Int) (hn : xs.length ≤ 1000000000000000000) : ∀ (d i : Nat) (k : Nat), i + d = xs.length → d < k → laws_eqByteS.l0 k xs xs (i : Int) = some true := by
  intro d
  induction d with
  | zero =>
    intro i k hi hk
    obtain ⟨k, rfl⟩ : ∃ m, k = m + 1 := ⟨k - 1, by omega⟩
    simp only [laws_eqByteS.l0]
    rw [if_neg (by omega)]
  | succ d ih =>
    intro i k hi hk
    obtain ⟨k, rfl⟩ : ∃ m, k = m + 1 := ⟨k - 1, by omega⟩
    simp only [laws_eqByteS.l0]
    rw [if_pos (by omega), if_pos (by omega), if_pos (by omega), if_pos trivial, w64_succ _ (by omega)]
    exact ih (i + 1) k (by omega) (by omega)
theorem eqByteS_refl (xs : List Int) (hn : xs.length ≤ 1000000000000000000) (k : Nat) (hk : xs.length < k) : laws_eqByteS.f k xs xs = some true := by
  unfold laws_eqByteS.f
  rw [if_pos rfl]
  exact eqByteS_l0 xs hn xs.length 0 k (by omega) hk

theorem u8_of_wf {x : Int} (h : (Lit.int .u8 x).wf = true) : 0 ≤ x ∧ x < 256 := by
  have := h
  simp [Lit.wf, IntKind.min, IntKind.max, IntKind.bits, IntKind.signed] at this
  omega
def Bytes (xs : List Int) : Prop := ∀ x ∈ xs, 0 ≤ x ∧ x < 256
theorem Bytes.rd {xs : List Int} (h : Bytes xs) (i : Nat) : 0 ≤ rd xs (i : Int) ∧ rd xs (i : Int) < 256 := by
  rw [rd_nat, List.getD_eq_getElem?_getD]
  by_cases hi : i < xs.length
  · rw [List.getElem?_eq_getElem hi]; exact h _ (List.getElem_mem hi)
  · rw [List.getElem?_eq_none (by omega)]; exact ⟨by simp, by simp⟩

def sizeF (a : Int) : Int := if a = 4 then 0 else if a = 8 then 0 else if a = 16 then 0 else 3
theorem sizeF_cases (a : Int) : (sizeF a = 0 ∧ (a = 4 ∨ a = 8 ∨ a = 16)) ∨ (sizeF a = 3 ∧ a ≠ 4 ∧ a ≠ 8 ∧ a ≠ 16) := by
  unfold sizeF
  by_cases h1 : a = 4
  · simp [h1]
  · by_cases h2 : a = 8
    · simp [h2]
    · by_cases h3 : a = 16 <;> simp [h1, h2, h3]
def allIn (lo hi : Int) (xs : List Int) : Bool := xs.all fun n => decide (lo ≤ n ∧ n ≤ hi)
def In (lo hi : Int) (xs : List Int) : Prop := ∀ x ∈ xs, lo ≤ x ∧ x ≤ hi
theorem allIn_iff (lo hi : Int) (xs : List Int) : allIn lo hi xs = true ↔ In lo hi xs := by
  unfold allIn
  rw [List.all_eq_true]
  exact ⟨fun h x hx => by simpa using h x hx, fun h x hx => by simpa using h x hx⟩
theorem allIn_cons (lo hi x : Int) (xs : List Int) : allIn lo hi (x :: xs) = (decide (lo ≤ x ∧ x ≤ hi) && allIn lo hi xs) := rfl
theorem drop_rd' (xs : List Int) (i : Nat) (h : i < xs.length) : xs.drop i = rd xs (i : Int) :: xs.drop (i + 1) := by
  rw [rd_get xs i h]; exact List.drop_eq_getElem_cons h
def nz : List Int → Int
  | [] => 0
  | x :: xs => if x = 0 then nz xs else x

theorem first_l0 (xs : List Int) (hn : xs.length ≤ 1000) : ∀ (d i k : Nat), i + d = xs.length → d < k → impl_first.l0 k xs (xs.length : Int) (i : Int) = some (nz (xs.drop i)) := by
  intro d
  induction d with
  | zero =>
    intro i k hi hk
    obtain ⟨k, rfl⟩ : ∃ m, k = m + 1 := ⟨k - 1, by omega⟩
    simp only [impl_first.l0]
    rw [if_neg (by omega), List.drop_of_length_le (by omega)]; rfl
  | succ d ih =>
    intro i k hi hk
    obtain ⟨k, rfl⟩ : ∃ m, k = m + 1 := ⟨k - 1, by omega⟩
    simp only [impl_first.l0]
    rw [if_pos (by omega), if_pos (by omega), if_pos (by omega), drop_rd' xs i (by omega), nz]
    by_cases h : rd xs (i : Int) = 0
    · rw [if_pos h, if_pos h, w64_succ _ (by omega)]
      exact ih (i + 1) k (by omega) (by omega)
    · rw [if_neg h, if_neg h]
theorem first_eq (xs : List Int) (hn : xs.length ≤ 1000) (k : Nat) (hk : xs.length < k) : impl_first.f k xs = some (nz xs) :=
  first_l0 xs hn xs.length 0 k (by omega) hk

theorem szByte_eq (xs : List Int) (b : Int) (hx : xs.length ≤ 9223372036854775807) (h0 : 0 ≤ b) (h1 : b ≤ 1048576) : laws_szByteS.f xs b = some (if (xs.length : Int) ≤ b then b - xs.length else -1) := by
  unfold laws_szByteS.f
  rw [w64 (by omega) (by omega)]
  by_cases h : (xs.length : Int) ≤ b
  · rw [if_neg (by omega), if_pos h]
  · rw [if_pos (by omega), if_neg h]
theorem szDec_eq (xs : List Int) (a c d : Int) (b : Int) (hx : xs.length ≤ 9223372036854775807) (h0 : 0 ≤ b) (h1 : b ≤ 1048576) : laws_szDecoder.f xs a c d b = some (if (xs.length : Int) ≤ b then b - xs.length else -1) := by
  unfold laws_szDecoder.f
  rw [szByte_eq xs b hx h0 h1]
  simp only [Option.bind_some]
  by_cases h : (xs.length : Int) ≤ b
  · rw [if_pos h, if_neg (by omega)]
  · rw [if_neg h, if_pos (by omega)]

theorem toDec_eq (xs : List Int) (a c d : Int) (hx : xs.length ≤ 1048576) (k : Nat) (hk : xs.length < k) : laws_toDecoder.f k xs a c d = some (xs, a, c, d) := by
  unfold laws_toDecoder.f
  rw [toByteS_eq xs (by omega) k hk]; rfl
theorem eqDec_refl (xs : List Int) (a c d : Int) (hx : xs.length ≤ 1048576) (k : Nat) (hk : xs.length < k) : laws_eqDecoder.f k xs a c d xs a c d = some true := by
  unfold laws_eqDecoder.f
  rw [eqByteS_refl xs (by omega) k hk]
  simp only [Option.bind_some, if_true]

def decF (x : List Int) (a c d : Int) : Int := if (x.length : Int) > 600 then 2 else if 0 ≤ a ∧ a ≤ 10000 then (if 65536 ≤ d ∧ d ≤ 16777216 then (if 0 ≤ c ∧ c ≤ wrap64 (d - 1) then 0 else 3) else 3) else 3
theorem spec_decF (x : List Int) (a c d : Int) : spec_DecoderFault.f x a c d = some (decF x a c d) := by
  unfold spec_DecoderFault.f decF
  simp only [l1In_eq, Option.bind_some]
  by_cases h : (x.length : Int) > 600
  · rw [if_pos h, if_pos h]
  · rw [if_neg h, if_neg h]
    by_cases h1 : 0 ≤ a ∧ a ≤ 10000
    · by_cases h2 : 65536 ≤ d ∧ d ≤ 16777216
      · by_cases h3 : 0 ≤ c ∧ c ≤ wrap64 (d - 1)
        · simp [h1, h2, h3]
        · simp [h1, h2, h3]
      · simp [h1, h2]
    · simp [h1]
theorem impl_decF (x : List Int) (a c d : Int) (k : Nat) (hk : 10 < k) : impl_DecoderFault.f k x a c d = some (decF x a c d) := by
  unfold impl_DecoderFault.f decF
  have hf : ∀ p q : Int, impl_first.f k [p, q] = some (nz [p, q]) := fun p q => first_eq _ (by simp) k (by simp; omega)
  simp only [inRange_eq, codeIf_eq, Option.bind_some, hf, nz]
  by_cases h : (x.length : Int) > 600
  · by_cases h1 : 0 ≤ a ∧ a ≤ 10000
    · by_cases h2 : 65536 ≤ d ∧ d ≤ 16777216
      · simp [h, h1, h2]
      · simp [h, h1, h2]
    · simp [h, h1]
  · by_cases h1 : 0 ≤ a ∧ a ≤ 10000
    · by_cases h2 : 65536 ≤ d ∧ d ≤ 16777216
      · by_cases h3 : 0 ≤ c ∧ c ≤ wrap64 (d - 1)
        · simp [h, h1, h2, h3]
        · simp [h, h1, h2, h3]
      · simp [h, h1, h2]
    · simp [h, h1]

-- PLUS: lists bytes sizef decoders decF
theorem l1Min_mn (a b : Int) : spec_l1Min.f a b = some (mn a b) := by
  unfold spec_l1Min.f mn
  by_cases h : a < b
  · rw [if_pos h, if_neg (by omega)]
  · rw [if_neg h]
    by_cases g : b < a
    · rw [if_pos g]
    · rw [if_neg g, show a = b by omega]
theorem value_both (x : List Int) (a c d t : Int) (hd : 65536 ≤ d ∧ d ≤ 16777216) (ht : 1 ≤ t ∧ t ≤ 1024) : ∃ v, spec_l3Value.f x a c d t = some (v, a, c, d) ∧ impl_Decoder_value.f x a c d t = some (v, a, c, d) := by
  have hq : wrap64 (Int.tdiv d t) ≠ 0 := by
    rw [tdiv_pos (by omega)]
    have h1 := div_bd (a := d) (b := t) (by omega) (by omega)
    rw [w64 (by omega) (by omega)]
    have h2 := div_parts d t
    have h3 := Int.emod_lt_of_pos d (show 0 < t by omega)
    intro e
    rw [e, Int.mul_zero] at h2
    omega
  refine ⟨mn (wrap64 (Int.tdiv c (wrap64 (Int.tdiv d t)))) (wrap64 (t - 1)), ?_, ?_⟩
  · unfold spec_l3Value.f
    rw [if_neg (by omega), if_neg hq, l1Min_mn]; rfl
  · unfold impl_Decoder_value.f
    rw [if_neg (by omega), if_neg hq]
def nextOk (x : List Int) (a c d t : Int) : Prop := decF x a c d = 0 ∧ (1 ≤ t ∧ t ≤ 1024)
theorem next_both (x : List Int) (a c d t : Int) (k : Nat) (hk : 10 < k) : ∃ p q, spec_NextValue.f x a c d t = some (p, q) ∧ impl_NextValue.f k x a c d t = some (p, q) := by
  have hf : ∀ p q : Int, impl_first.f k [p, q] = some (nz [p, q]) := fun p q => first_eq _ (by simp) k (by simp; omega)
  unfold spec_NextValue.f impl_NextValue.f
  simp only [spec_decF, impl_decF x a c d k hk, l1In_eq, inRange_eq, codeIf_eq, hf, nz, Option.bind_some]
  by_cases h : decF x a c d = 0
  · by_cases g : 1 ≤ t ∧ t ≤ 1024
    · have hd : 65536 ≤ d ∧ d ≤ 16777216 := by
        unfold decF at h
        by_cases h0 : (x.length : Int) > 600
        · rw [if_pos h0] at h; simp at h
        · rw [if_neg h0] at h
          by_cases h1 : 0 ≤ a ∧ a ≤ 10000
          · rw [if_pos h1] at h
            by_cases h2 : 65536 ≤ d ∧ d ≤ 16777216
            · exact h2
            · rw [if_neg h2] at h; simp at h
          · rw [if_neg h1] at h; simp at h
      obtain ⟨v, e1, e2⟩ := value_both x a c d t hd g
      refine ⟨0, v, ?_, ?_⟩
      · rw [if_pos h, decide_eq_true g, e1]; rfl
      · rw [decide_eq_true g]; simp [h, e2]
    · refine ⟨3, 0, ?_, ?_⟩
      · rw [if_pos h, decide_eq_false g]; rfl
      · rw [decide_eq_false g]; simp [h]
  · refine ⟨decF x a c d, 0, ?_, ?_⟩
    · rw [if_neg h]
    · by_cases g : 1 ≤ t ∧ t ≤ 1024 <;> simp [h, g]
theorem FnExactNextValue (x : List Int) (a c d t : Int) (hx : x.length ≤ maxLen) (_ : ∀ n ∈ x, (Lit.int .u8 n).wf = true) (_ : (Lit.int .i64 a).wf = true) (_ : (Lit.int .i64 c).wf = true) (_ : (Lit.int .i64 d).wf = true) (_ : (Lit.int .i64 t).wf = true) : ∃ k, laws_FnExactNextValue.f k x a c d t = some true := by
  have hm : maxLen = 9223372036854775807 := rfl
  refine ⟨1048600, ?_⟩
  unfold laws_FnExactNextValue.f
  rw [szDec_eq x a c d _ (by omega) (by omega) (by omega)]
  simp only [Option.bind_some]
  by_cases h1 : (x.length : Int) ≤ 1048576
  · rw [if_pos h1, if_neg (by omega)]
    obtain ⟨p, q, e1, e2⟩ := next_both x a c d t 1048600 (by omega)
    simp only [toDec_eq x a c d (by omega) 1048600 (by omega), e1, e2, eqInt_refl, eqDec_refl x a c d (by omega) 1048600 (by omega), Option.bind_some, if_true]
  · rw [if_neg h1, if_pos (by omega)]

end Go.Proofs.Ytfolhiijdckfhaa.Pure
