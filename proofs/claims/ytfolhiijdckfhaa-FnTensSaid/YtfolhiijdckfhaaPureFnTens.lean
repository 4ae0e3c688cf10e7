/-
  Tens: a tenth is the nearest one, the norm of a list is the sum of its parts' norms, for every code.
-/
import Derived.Test.YtfolhiijdckfhaaPFnTensx
namespace Go.Proofs.Ytfolhiijdckfhaa.Pure
open Go.RowKit Go.Proofs.Ytfolhiijdckfhaa.PFnTens Go.Proofs.YtfolhiijdckfhaaW.PrintWords Go.Proofs.YtfolhiijdckfhaaW.PrintLast Go.Proofs.YtfolhiijdckfhaaW.PrintMore
set_option linter.unusedVariables false
set_option linter.unusedSimpArgs false

theorem w64 {x : Int} (h1 : -9223372036854775808 ≤ x) (h2 : x ≤ 9223372036854775807) : wrap64 x = x := by
  unfold wrap64; omega
theorem tdiv_pos {a : Int} (h : 0 ≤ a) (b : Int) : Int.tdiv a b = a / b := Int.tdiv_eq_ediv_of_nonneg h
theorem tmod_pos {a : Int} (h : 0 ≤ a) (b : Int) : Int.tmod a b = a % b := Int.tmod_eq_emod_of_nonneg h
theorem tdiv_neg {a : Int} (h : a ≤ 0) (b : Int) : Int.tdiv a b = -((-a) / b) := by
  have := Int.neg_tdiv (-a) b
  rw [Int.neg_neg] at this
  rw [this, tdiv_pos (by omega)]
theorem tmod_neg {a : Int} (h : a ≤ 0) (b : Int) : Int.tmod a b = -((-a) % b) := by
  have := Int.neg_tmod (-a) b
  rw [Int.neg_neg] at this
  rw [this, tmod_pos (by omega)]
theorem div_unique {x b q r : Int} (hb : 0 < b) (h : r + b * q = x) (h0 : 0 ≤ r) (h1 : r < b) : x / b = q :=
  ((Int.ediv_emod_unique hb).2 ⟨h, h0, h1⟩).1
theorem div_parts (x b : Int) : b * (x / b) + x % b = x := Int.mul_ediv_add_emod x b
theorem neg_div {a b : Int} (hb : 0 < b) : (-a) / b = if a % b = 0 then -(a / b) else -(a / b) - 1 := by
  have h := div_parts a b
  have h0 := Int.emod_nonneg a (Int.ne_of_gt hb)
  have h1 := Int.emod_lt_of_pos a hb
  split
  · exact div_unique (r := 0) hb (by rw [Int.mul_neg]; omega) (by omega) (by omega)
  · exact div_unique (r := b - a % b) hb (by rw [Int.mul_sub, Int.mul_neg]; omega) (by omega) (by omega)
theorem ceil_div {a b : Int} (hb : 0 < b) : (a + b - 1) / b = -((-a) / b) := by
  have h := div_parts (-a) b
  have h0 := Int.emod_nonneg (-a) (Int.ne_of_gt hb)
  have h1 := Int.emod_lt_of_pos (-a) hb
  exact div_unique (r := b - 1 - (-a) % b) hb (by rw [Int.mul_neg]; omega) (by omega) (by omega)
theorem div_bd {a b : Int} (ha : 0 ≤ a) (hb : 0 < b) : 0 ≤ a / b ∧ a / b ≤ a :=
  ⟨Int.ediv_nonneg ha (by omega), Int.ediv_le_self b ha⟩
theorem floor_tdiv {x b : Int} (hb : 0 < b) : (if Int.tmod x b < 0 then Int.tdiv x b - 1 else Int.tdiv x b) = x / b := by
  by_cases h : 0 ≤ x
  · have h0 := Int.emod_nonneg x (Int.ne_of_gt hb)
    rw [tmod_pos h, tdiv_pos h, if_neg (by omega)]
  · rw [tmod_neg (by omega), tdiv_neg (by omega)]
    have h0 := Int.emod_nonneg (-x) (Int.ne_of_gt hb)
    have e := neg_div (a := -x) hb
    rw [Int.neg_neg] at e
    rw [e]
    by_cases hz : (-x) % b = 0
    · rw [if_pos hz, if_neg (by omega)]
    · rw [if_neg hz, if_pos (by omega)]
theorem floor_bd {x b : Int} (hb : 0 < b) : (0 ≤ x → 0 ≤ x / b ∧ x / b ≤ x) ∧ (x < 0 → x ≤ x / b ∧ x / b < 0) := by
  refine ⟨fun h => div_bd h hb, fun h => ?_⟩
  have e := neg_div (a := -x) hb
  rw [Int.neg_neg] at e
  have d := div_bd (a := -x) (by omega) hb
  have p := div_parts (-x) b
  have h0 := Int.emod_nonneg (-x) (Int.ne_of_gt hb)
  rw [e]
  split
  · next hz =>
    rw [hz] at p
    have : (-x) / b ≠ 0 := fun e0 => by rw [e0, Int.mul_zero] at p; omega
    omega
  · next hz =>
    have : (-x) / b < -x := by
      rcases Int.lt_or_eq_of_le d.2 with h2 | h2
      · exact h2
      · exfalso
        rw [h2] at p
        have hb1 : b ≠ 1 := fun e1 => by subst e1; omega
        have : 2 * (-x) ≤ b * (-x) := Int.mul_le_mul_of_nonneg_right (by omega) (by omega)
        omega
    omega

theorem inRange_eq (a b c : Int) : impl_inRange.f a b c = some (decide (b ≤ a ∧ a ≤ c)) := by
  unfold impl_inRange.f; by_cases h : b ≤ a <;> simp [h]

theorem l1In_eq (a b c : Int) : spec_l1In.f a b c = some (decide (b ≤ a ∧ a ≤ c)) := by
  unfold spec_l1In.f; by_cases h : b ≤ a <;> simp [h]

theorem within_eq (a b : Int) (h0 : 0 ≤ b) (h1 : b ≤ 9000000000000000000) : impl_within.f a b = some (decide (-b ≤ a ∧ a ≤ b)) := by
  unfold impl_within.f; rw [inRange_eq, w64 (by omega) (by omega)]; rfl

theorem codeIf_eq (b : Bool) (c : Int) : impl_codeIf.f b c = some (if b = true then c else 0) := by
  unfold impl_codeIf.f; cases b <;> rfl

theorem l1Ceil_eq (x b : Int) (hb : 0 < b) (h0 : 0 ≤ x) (h1 : x + b ≤ 9000000000000000000) : spec_l1Ceil.f x b = some (-((-x) / b)) := by
  have e := ceil_div (a := x) hb
  have d := div_bd (a := x + b - 1) (by omega) hb
  unfold spec_l1Ceil.f
  rw [if_neg (by omega), w64 (x := x + b) (by omega) (by omega), w64 (x := x + b - 1) (by omega) (by omega), tdiv_pos (by omega), w64 (by omega) (by omega), e]

theorem l1Floor_eq (x b : Int) (hb : 0 < b) (hb2 : b ≤ 1000000000000000000) (h0 : -8000000000000000000 ≤ x) (h1 : x ≤ 9000000000000000000) : spec_l1Floor.f x b = some (x / b) := by
  have d := floor_bd (x := x) hb
  unfold spec_l1Floor.f
  by_cases h : x < 0
  · rw [if_pos h, w64 (by omega) (by omega), l1Ceil_eq _ _ hb (by omega) (by omega)]
    simp only [Option.bind_some, Int.neg_neg]
    rw [w64 (by omega) (by omega)]
  · rw [if_neg h, if_neg (by omega), tdiv_pos (by omega), w64 (by omega) (by omega)]

theorem l1Ten_eq (x : Int) (h0 : -7000000000000000000 ≤ x) (h1 : x ≤ 8000000000000000000) : spec_l1Ten.f x = some ((x + 512) / 1024) := by
  unfold spec_l1Ten.f
  rw [w64 (by omega) (by omega), l1Floor_eq _ _ (by omega) (by omega) (by omega) (by omega)]; rfl

theorem tenOf_eq (x : Int) (h0 : -7000000000000000000 ≤ x) (h1 : x ≤ 8000000000000000000) : impl_tenOf.f x = some ((x + 512) / 1024) := by
  unfold impl_tenOf.f
  rw [w64 (by omega) (by omega)]

theorem l1Top_eq (x : Int) : spec_l1Top.f x = some (decide (-1099511627776 ≤ x ∧ x ≤ 1099511627776)) := by
  unfold spec_l1Top.f; rw [l1In_eq]; rfl

theorem rd_nat (xs : List Int) (i : Nat) : rd xs (i : Int) = xs.getD i 0 := by unfold rd; rw [Int.toNat_natCast]
theorem rd_get (xs : List Int) (i : Nat) (h : i < xs.length) : rd xs (i : Int) = xs[i] := by
  rw [rd_nat, List.getD_eq_getElem?_getD, List.getElem?_eq_getElem h]; rfl
theorem w64_succ (i : Nat) (h : i ≤ 4000000000000000000) : wrap64 ((i : Int) + 1) = ((i + 1 : Nat) : Int) := by
  rw [w64 (by omega) (by omega)]; omega
theorem nat_nonneg (i : Nat) : 0 ≤ (i : Int) := Int.natCast_nonneg i
theorem set_get_take {xs ys : List Int} {i : Nat} (hl : ys.length = xs.length) (ht : ys.take i = xs.take i) (hi : i < xs.length) :
    (ys.set i (rd xs (i : Int))).take (i + 1) = xs.take (i + 1) := by
  rw [rd_get xs i hi]
  apply List.ext_getElem?
  intro n
  by_cases hn : n < i + 1
  · rw [List.getElem?_take_of_lt hn, List.getElem?_take_of_lt hn]
    by_cases e : n = i
    · subst e
      rw [List.getElem?_set_self (by omega), List.getElem?_eq_getElem hi]
    · rw [List.getElem?_set_ne (by omega)]
      have := congrArg (fun l => l[n]?) ht
      simp only [List.getElem?_take_of_lt (show n < i by omega)] at this
      exact this
  · rw [List.getElem?_take_eq_none (by omega), List.getElem?_take_eq_none (by omega)]

theorem u8_of_wf {x : Int} (h : (Lit.int .u8 x).wf = true) : 0 ≤ x ∧ x < 256 := by
  have := h
  simp [Lit.wf, IntKind.min, IntKind.max, IntKind.bits, IntKind.signed] at this
  omega
def Bytes (xs : List Int) : Prop := ∀ x ∈ xs, 0 ≤ x ∧ x < 256
theorem Bytes.rd {xs : List Int} (h : Bytes xs) (i : Nat) : 0 ≤ rd xs (i : Int) ∧ rd xs (i : Int) < 256 := by
  rw [rd_nat, List.getD_eq_getElem?_getD]
  by_cases hi : i < xs.length
  · rw [List.getElem?_eq_getElem hi]; exact h _ (List.getElem_mem hi)
  · rw [List.getElem?_eq_none (by omega)]; exact ⟨by simp, by simp⟩

theorem rd_bd {c : List Int} (hc : Bytes c) (i : Int) : 0 ≤ rd c i ∧ rd c i ≤ 255 := by
  unfold rd
  rw [List.getD_eq_getElem?_getD]
  by_cases h : i.toNat < c.length
  · rw [List.getElem?_eq_getElem h]
    have := hc _ (List.getElem_mem h)
    simp only [Option.getD_some]
    omega
  · rw [List.getElem?_eq_none (by omega)]
    simp
theorem tmod_bd {a : Int} (h : 0 ≤ a) {b : Int} (hb : 0 < b) : 0 ≤ Int.tmod a b ∧ Int.tmod a b < b := by
  rw [tmod_pos h]
  exact ⟨Int.emod_nonneg _ (by omega), Int.emod_lt_of_pos _ hb⟩
theorem l1Next_ok {c : List Int} (hc : Bytes c) (at' n : Int) (h0 : 0 ≤ at') (h1 : at' ≤ 1073741824) :
    ∃ v, spec_l1Next.f c at' n = some (v, at' + 1) ∧ (1 ≤ n → 0 ≤ v ∧ v < n) ∧ (n < 1 → v = 0) := by
  have e1 : wrap64 (at' + 1) = at' + 1 := w64 (by omega) (by omega)
  have e2 : at' + 1 - 1 = at' := by omega
  have e3 : wrap64 at' = at' := w64 (by omega) (by omega)
  have e4 : wrap64 (at' + 2) = at' + 2 := w64 (by omega) (by omega)
  unfold spec_l1Next.f
  simp only [e1, e2, e3, e4]
  by_cases hn1 : n < 1
  · rw [if_pos hn1]
    exact ⟨0, rfl, fun h => by omega, fun _ => rfl⟩
  · rw [if_neg hn1]
    by_cases hl : (c.length : Int) = 0
    · rw [if_pos hl, if_neg (by omega), w64 (x := at' * 7) (by omega) (by omega)]
      exact ⟨_, rfl, fun _ => tmod_bd (by omega) (by omega), fun h => absurd h hn1⟩
    · rw [if_neg hl]
      have hL : 0 < (c.length : Int) := by omega
      have q0 := tmod_bd h0 hL
      have q1 := tmod_bd (show 0 ≤ at' + 1 by omega) hL
      have q2 := tmod_bd (show 0 ≤ at' + 2 by omega) hL
      have hd := div_bd h0 hL
      rw [← tdiv_pos h0] at hd
      have r0 := rd_bd hc (Int.tmod at' c.length)
      have r1 := rd_bd hc (Int.tmod (at' + 1) c.length)
      have r2 := rd_bd hc (Int.tmod (at' + 2) c.length)
      rw [if_pos q0.1, if_pos q0.2, if_pos q1.1, if_pos q1.2, if_pos q2.1, if_pos q2.2]
      generalize rd c (Int.tmod at' c.length) = R0 at r0 ⊢
      generalize rd c (Int.tmod (at' + 1) c.length) = R1 at r1 ⊢
      generalize rd c (Int.tmod (at' + 2) c.length) = R2 at r2 ⊢
      generalize Int.tdiv at' c.length = D at hd ⊢
      simp (disch := omega) only [w64]
      simp only [if_neg (show ¬ n = 0 by omega)]
      by_cases g1 : n > 200
      · by_cases g2 : n > 60000
        · simp only [if_pos g1, if_pos g2]
          exact ⟨_, rfl, fun _ => tmod_bd (by omega) (by omega), fun h => absurd h hn1⟩
        · simp only [if_pos g1, if_neg g2]
          exact ⟨_, rfl, fun _ => tmod_bd (by omega) (by omega), fun h => absurd h hn1⟩
      · by_cases g2 : n > 60000
        · omega
        · simp only [if_neg g1, if_neg g2]
          exact ⟨_, rfl, fun _ => tmod_bd (by omega) (by omega), fun h => absurd h hn1⟩

theorem l1Pick_ok {c : List Int} (hc : Bytes c) (at' : Int) (xs : List Int) (h0 : 0 ≤ at') (h1 : at' ≤ 1073741824) (hx : 1 ≤ xs.length) :
    ∃ v, spec_l1Pick.f c at' xs = some (v, at' + 1) ∧ v ∈ xs := by
  obtain ⟨v, e, hv, _⟩ := l1Next_ok hc at' (xs.length : Int) h0 h1
  have hv := hv (by omega)
  refine ⟨rd xs v, ?_, ?_⟩
  · unfold spec_l1Pick.f
    rw [e]
    simp only [Option.bind_some]
    rw [if_pos hv.1, if_pos hv.2]
  · unfold rd
    rw [List.getD_eq_getElem?_getD, List.getElem?_eq_getElem (show v.toNat < xs.length by omega)]
    exact List.getElem_mem _

theorem l1Signed_ok {c : List Int} (hc : Bytes c) (at' n : Int) (h0 : 0 ≤ at') (h1 : at' ≤ 1073741824) (hn : 0 ≤ n) (hn2 : n ≤ 1152921504606846976) :
    ∃ v, spec_l1Signed.f c at' n = some (v, at' + 1) ∧ -n ≤ v ∧ v ≤ n := by
  obtain ⟨v, e, hv, _⟩ := l1Next_ok hc at' (2 * n + 1) h0 h1
  have hv := hv (by omega)
  refine ⟨v - n, ?_, by omega, by omega⟩
  unfold spec_l1Signed.f
  rw [w64 (x := 2 * n) (by omega) (by omega), w64 (x := 2 * n + 1) (by omega) (by omega), e]
  simp only [Option.bind_some]
  rw [w64 (by omega) (by omega)]

def nabs (x : Int) : Int := if x < 0 then -x else x
def norm : List Int → Int
  | [] => 0
  | x :: xs => nabs x + norm xs
def Within (m : Int) (xs : List Int) : Prop := ∀ x ∈ xs, -m ≤ x ∧ x ≤ m
theorem Within.rd {m : Int} (h0 : 0 ≤ m) {xs : List Int} (h : Within m xs) (i : Nat) : -m ≤ rd xs (i : Int) ∧ rd xs (i : Int) ≤ m := by
  rw [rd_nat, List.getD_eq_getElem?_getD]
  by_cases hi : i < xs.length
  · rw [List.getElem?_eq_getElem hi]; exact h _ (List.getElem_mem hi)
  · rw [List.getElem?_eq_none (by omega)]; exact ⟨by simp; omega, by simp; omega⟩
theorem all_within (m : Int) (xs : List Int) : (xs.all fun n => decide (-m ≤ n ∧ n ≤ m)) = true ↔ Within m xs := by
  rw [List.all_eq_true]
  exact ⟨fun h x hx => by simpa using h x hx, fun h x hx => by simpa using h x hx⟩
theorem norm_bd (m : Int) (h0 : 0 ≤ m) : ∀ xs : List Int, Within m xs → 0 ≤ norm xs ∧ norm xs ≤ m * xs.length := by
  intro xs
  induction xs with
  | nil => intro _; simp [norm]
  | cons x xs ih =>
    intro h
    have hx := h x List.mem_cons_self
    have := ih (fun y hy => h y (List.mem_cons_of_mem _ hy))
    rw [norm, List.length_cons]
    unfold nabs
    have e : m * ((xs.length + 1 : Nat) : Int) = m * xs.length + m := by rw [Int.natCast_add, Int.mul_add]; simp
    rw [e]
    split <;> omega
theorem drop_rd (xs : List Int) (i : Nat) (h : i < xs.length) : xs.drop i = rd xs (i : Int) :: xs.drop (i + 1) := by
  rw [rd_get xs i h]; exact List.drop_eq_getElem_cons h
theorem Within.drop {m : Int} {xs : List Int} (h : Within m xs) (i : Nat) : Within m (xs.drop i) := fun x hx => h x (List.mem_of_mem_drop hx)

theorem abs_eq (x : Int) (h0 : -9000000000000000000 ≤ x) (h1 : x ≤ 9000000000000000000) : impl_abs.f x = some (if x < 0 then -x else x) := by
  unfold impl_abs.f mx
  rw [w64 (by omega) (by omega)]
  split <;> split <;> first | rfl | (congr 1; omega)

theorem l1Abs_eq (x : Int) (h0 : -9000000000000000000 ≤ x) (h1 : x ≤ 9000000000000000000) : spec_l1Abs.f x = some (if x < 0 then -x else x) := by
  unfold spec_l1Abs.f
  by_cases h : x < 0
  · rw [if_pos h, if_pos h, w64 (by omega) (by omega)]
  · rw [if_neg h, if_neg h]

theorem any_not (p : Int → Bool) (xs : List Int) : (!xs.any fun n => !p n) = xs.all p := by
  induction xs with
  | nil => rfl
  | cons x xs ih => rw [List.any_cons, List.all_cons, ← ih]; cases p x <;> simp
theorem allWithin_eq (xs : List Int) (m : Int) (h0 : 0 ≤ m) (h1 : m ≤ 9000000000000000000) : impl_allWithin.f xs m = some (xs.all fun n => decide (-m ≤ n ∧ n ≤ m)) := by
  unfold impl_allWithin.f
  rw [if_pos ⟨h0, h1⟩, any_not]

theorem impl_norm_l0 (xs : List Int) (hw : Within 1099511627776 xs) (hn : xs.length ≤ 64) : ∀ (d i k : Nat) (s : Int), i + d = xs.length → d < k → 0 ≤ s → s ≤ 1099511627776 * i →
    impl_normOf.l0 k s xs (xs.length : Int) (i : Int) = some (s + norm (xs.drop i)) := by
  intro d
  induction d with
  | zero =>
    intro i k s hi hk h0 h1
    obtain ⟨k, rfl⟩ : ∃ m, k = m + 1 := ⟨k - 1, by omega⟩
    simp only [impl_normOf.l0]
    rw [if_neg (by omega), List.drop_of_length_le (by omega)]
    simp [norm]
  | succ d ih =>
    intro i k s hi hk h0 h1
    obtain ⟨k, rfl⟩ : ∃ m, k = m + 1 := ⟨k - 1, by omega⟩
    have hb := hw.rd (by omega) i
    simp only [impl_normOf.l0]
    rw [if_pos (by omega), if_pos (by omega), if_pos (by omega), abs_eq _ (by omega) (by omega)]
    simp only [Option.bind_some]
    rw [drop_rd xs i (by omega), norm]
    have e : (if rd xs (i : Int) < 0 then -rd xs (i : Int) else rd xs (i : Int)) = nabs (rd xs (i : Int)) := rfl
    have hn1 : 0 ≤ nabs (rd xs (i : Int)) ∧ nabs (rd xs (i : Int)) ≤ 1099511627776 := by unfold nabs; split <;> omega
    rw [e]
    generalize nabs (rd xs (i : Int)) = a at hn1
    rw [w64_succ _ (by omega), w64 (by omega) (by omega), ih (i + 1) k (s + a) (by omega) (by omega) (by omega) (by omega)]
    rw [Int.add_assoc]
theorem impl_norm_eq (xs : List Int) (hw : Within 1099511627776 xs) (hn : xs.length ≤ 64) (k : Nat) (hk : xs.length < k) : impl_normOf.f k xs = some (norm xs) := by
  unfold impl_normOf.f
  have := impl_norm_l0 xs hw hn xs.length 0 k 0 (by omega) hk (by omega) (by omega)
  simpa using this

theorem spec_norm_l0 (xs : List Int) (hw : Within 1099511627776 xs) (hn : xs.length ≤ 64) : ∀ (d i k : Nat) (s : Int), i + d = xs.length → d < k → 0 ≤ s → s ≤ 1099511627776 * i →
    spec_l1Norm.l0 k xs s (i : Int) = some (s + norm (xs.drop i)) := by
  intro d
  induction d with
  | zero =>
    intro i k s hi hk h0 h1
    obtain ⟨k, rfl⟩ : ∃ m, k = m + 1 := ⟨k - 1, by omega⟩
    simp only [spec_l1Norm.l0]
    rw [if_neg (by omega), List.drop_of_length_le (by omega)]
    simp [norm]
  | succ d ih =>
    intro i k s hi hk h0 h1
    obtain ⟨k, rfl⟩ : ∃ m, k = m + 1 := ⟨k - 1, by omega⟩
    have hb := hw.rd (by omega) i
    simp only [spec_l1Norm.l0]
    rw [if_pos (by omega), if_pos (by omega), l1Abs_eq _ (by omega) (by omega)]
    simp only [Option.bind_some]
    rw [drop_rd xs i (by omega), norm]
    have e : (if rd xs (i : Int) < 0 then -rd xs (i : Int) else rd xs (i : Int)) = nabs (rd xs (i : Int)) := rfl
    have hn1 : 0 ≤ nabs (rd xs (i : Int)) ∧ nabs (rd xs (i : Int)) ≤ 1099511627776 := by unfold nabs; split <;> omega
    rw [e]
    generalize nabs (rd xs (i : Int)) = a at hn1
    rw [w64_succ _ (by omega), w64 (by omega) (by omega), ih (i + 1) k (s + a) (by omega) (by omega) (by omega) (by omega)]
    rw [Int.add_assoc]
theorem spec_norm_eq (xs : List Int) (hw : Within 1099511627776 xs) (hn : xs.length ≤ 64) (k : Nat) (hk : xs.length < k) : spec_l1Norm.f k xs = some (norm xs) := by
  unfold spec_l1Norm.f
  have := spec_norm_l0 xs hw hn xs.length 0 k 0 (by omega) hk (by omega) (by omega)
  simpa using this

theorem spec_NormOf_l0 (xs : List Int) (hn : xs.length ≤ 64) : ∀ (d i k : Nat), i + d = xs.length → d + 100 < k → Within 1099511627776 (xs.take i) →
    spec_NormOf.l0 k xs (i : Int) = some (if (xs.all fun n => decide (-1099511627776 ≤ n ∧ n ≤ 1099511627776)) = true then (0, norm xs) else (3, 0)) := by
  intro d
  induction d with
  | zero =>
    intro i k hi hk hw
    obtain ⟨k, rfl⟩ : ∃ m, k = m + 1 := ⟨k - 1, by omega⟩
    rw [List.take_of_length_le (by omega)] at hw
    simp only [spec_NormOf.l0]
    rw [if_neg (by omega), spec_norm_eq xs hw hn k (by omega), if_pos ((all_within _ _).2 hw)]; rfl
  | succ d ih =>
    intro i k hi hk hw
    obtain ⟨k, rfl⟩ : ∃ m, k = m + 1 := ⟨k - 1, by omega⟩
    simp only [spec_NormOf.l0]
    rw [if_pos (by omega), if_pos (by omega), l1Top_eq]
    simp only [Option.bind_some]
    by_cases hb : -1099511627776 ≤ rd xs (i : Int) ∧ rd xs (i : Int) ≤ 1099511627776
    · rw [if_pos (by simpa using hb), w64_succ _ (by omega)]
      refine ih (i + 1) k (by omega) (by omega) ?_
      intro x hx
      rw [List.take_succ_eq_append_getElem (by omega), List.mem_append] at hx
      rcases hx with hx | hx
      · exact hw x hx
      · rw [List.mem_singleton] at hx
        rw [hx, ← rd_get xs i (by omega)]; exact hb
    · rw [if_neg (by simpa using hb), if_neg]
      intro h
      have := (all_within _ _).1 h
      exact hb (this.rd (by omega) i)
theorem spec_NormOf_eq (xs : List Int) (k : Nat) (hk : xs.length + 200 < k) : spec_NormOf.f k xs = some (if (xs.length : Int) > 64 then (2, 0) else if (xs.all fun n => decide (-1099511627776 ≤ n ∧ n ≤ 1099511627776)) = true then (0, norm xs) else (3, 0)) := by
  unfold spec_NormOf.f
  by_cases h : (xs.length : Int) > 64
  · rw [if_pos h, if_pos h]
  · rw [if_neg h, if_neg h]
    exact spec_NormOf_l0 xs (by omega) xs.length 0 k (by omega) (by omega) (fun x hx => by simp at hx)

theorem impl_NormOf_eq (xs : List Int) (k : Nat) (hk : xs.length + 200 < k) : impl_NormOf.f k xs = some (if (xs.length : Int) > 64 then (2, 0) else if (xs.all fun n => decide (-1099511627776 ≤ n ∧ n ≤ 1099511627776)) = true then (0, norm xs) else (3, 0)) := by
  unfold impl_NormOf.f
  by_cases h : (xs.length : Int) > 64
  · rw [if_pos h, if_pos h]
  · rw [if_neg h, if_neg h, allWithin_eq _ _ (by omega) (by omega)]
    simp only [Option.bind_some]
    by_cases ha : (xs.all fun n => decide (-1099511627776 ≤ n ∧ n ≤ 1099511627776)) = true
    · rw [if_pos ha, if_pos ha, impl_norm_eq xs ((all_within _ _).1 ha) (by omega) k (by omega)]; rfl
    · rw [if_neg ha, if_neg ha]

def sizeF (a : Int) : Int := if a = 4 then 0 else if a = 8 then 0 else if a = 16 then 0 else 3
theorem sizeF_cases (a : Int) : (sizeF a = 0 ∧ (a = 4 ∨ a = 8 ∨ a = 16)) ∨ (sizeF a = 3 ∧ a ≠ 4 ∧ a ≠ 8 ∧ a ≠ 16) := by
  unfold sizeF
  by_cases h1 : a = 4
  · simp [h1]
  · by_cases h2 : a = 8
    · simp [h2]
    · by_cases h3 : a = 16 <;> simp [h1, h2, h3]
def allIn (lo hi : Int) (xs : List Int) : Bool := xs.all fun n => decide (lo ≤ n ∧ n ≤ hi)
def In (lo hi : Int) (xs : List Int) : Prop := ∀ x ∈ xs, lo ≤ x ∧ x ≤ hi
theorem allIn_iff (lo hi : Int) (xs : List Int) : allIn lo hi xs = true ↔ In lo hi xs := by
  unfold allIn
  rw [List.all_eq_true]
  exact ⟨fun h x hx => by simpa using h x hx, fun h x hx => by simpa using h x hx⟩
theorem allIn_cons (lo hi x : Int) (xs : List Int) : allIn lo hi (x :: xs) = (decide (lo ≤ x ∧ x ≤ hi) && allIn lo hi xs) := rfl
theorem drop_rd' (xs : List Int) (i : Nat) (h : i < xs.length) : xs.drop i = rd xs (i : Int) :: xs.drop (i + 1) := by
  rw [rd_get xs i h]; exact List.drop_eq_getElem_cons h
def nz : List Int → Int
  | [] => 0
  | x :: xs => if x = 0 then nz xs else x

theorem spec_SizeFault_eq (a : Int) : spec_SizeFault.f a = some (sizeF a) := by
  unfold spec_SizeFault.f sizeF
  by_cases h1 : a = 4
  · simp [h1]
  · by_cases h2 : a = 8
    · simp [h2]
    · by_cases h3 : a = 16 <;> simp [h1, h2, h3]

theorem impl_SizeFault_eq (a : Int) : impl_SizeFault.f a = some (sizeF a) := by
  unfold impl_SizeFault.f sizeF
  by_cases h1 : a = 4
  · simp [h1]
  · by_cases h2 : a = 8
    · simp [h2]
    · by_cases h3 : a = 16 <;> simp [h1, h2, h3]

theorem first_l0 (xs : List Int) (hn : xs.length ≤ 1000) : ∀ (d i k : Nat), i + d = xs.length → d < k → impl_first.l0 k xs (xs.length : Int) (i : Int) = some (nz (xs.drop i)) := by
  intro d
  induction d with
  | zero =>
    intro i k hi hk
    obtain ⟨k, rfl⟩ : ∃ m, k = m + 1 := ⟨k - 1, by omega⟩
    simp only [impl_first.l0]
    rw [if_neg (by omega), List.drop_of_length_le (by omega)]; rfl
  | succ d ih =>
    intro i k hi hk
    obtain ⟨k, rfl⟩ : ∃ m, k = m + 1 := ⟨k - 1, by omega⟩
    simp only [impl_first.l0]
    rw [if_pos (by omega), if_pos (by omega), if_pos (by omega), drop_rd' xs i (by omega), nz]
    by_cases h : rd xs (i : Int) = 0
    · rw [if_pos h, if_pos h, w64_succ _ (by omega)]
      exact ih (i + 1) k (by omega) (by omega)
    · rw [if_neg h, if_neg h]
theorem first_eq (xs : List Int) (hn : xs.length ≤ 1000) (k : Nat) (hk : xs.length < k) : impl_first.f k xs = some (nz xs) :=
  first_l0 xs hn xs.length 0 k (by omega) hk

theorem any_not' (p : Int → Bool) (xs : List Int) : (!xs.any fun n => !p n) = xs.all p := by
  induction xs with
  | nil => rfl
  | cons x xs ih => rw [List.any_cons, List.all_cons, ← ih]; cases p x <;> simp
theorem areSamples_eq (xs : List Int) : impl_areSamples.f xs = some (allIn (-32768) 32767 xs) := by
  unfold impl_areSamples.f slices_ContainsFunc_int64_int64.f allIn
  rw [← any_not']; rfl

theorem spec_sf_l0 (xs : List Int) (hn : xs.length ≤ 1000000000000) : ∀ (d i k : Nat), i + d = xs.length → d < k → spec_SamplesFault.l0 k xs (i : Int) = some (if allIn (-32768) 32767 (xs.drop i) = true then 0 else 3) := by
  intro d
  induction d with
  | zero =>
    intro i k hi hk
    obtain ⟨k, rfl⟩ : ∃ m, k = m + 1 := ⟨k - 1, by omega⟩
    simp only [spec_SamplesFault.l0]
    rw [if_neg (by omega), List.drop_of_length_le (by omega)]; rfl
  | succ d ih =>
    intro i k hi hk
    obtain ⟨k, rfl⟩ : ∃ m, k = m + 1 := ⟨k - 1, by omega⟩
    simp only [spec_SamplesFault.l0]
    rw [if_pos (by omega), if_pos (by omega), l1In_eq, drop_rd' xs i (by omega), allIn_cons]
    simp only [Option.bind_some]
    by_cases h : -32768 ≤ rd xs (i : Int) ∧ rd xs (i : Int) ≤ 32767
    · rw [if_pos (by simpa using h), w64_succ _ (by omega), ih (i + 1) k (by omega) (by omega), decide_eq_true h, Bool.true_and]
    · rw [if_neg (by simpa using h), decide_eq_false h, Bool.false_and]; rfl
def sampF (a : Int) (xs : List Int) : Int := if sizeF a = 0 then (if (xs.length : Int) = a then (if allIn (-32768) 32767 xs = true then 0 else 3) else 2) else sizeF a
theorem spec_SamplesFault_eq (a : Int) (xs : List Int) (hn : xs.length ≤ 1000000000000) (k : Nat) (hk : xs.length < k) : spec_SamplesFault.f k a xs = some (sampF a xs) := by
  unfold spec_SamplesFault.f sampF
  rw [spec_SizeFault_eq]
  simp only [Option.bind_some]
  by_cases h : sizeF a = 0
  · rw [if_pos h, if_pos h]
    by_cases hl : (xs.length : Int) = a
    · rw [if_pos hl, if_pos hl]
      exact spec_sf_l0 xs hn xs.length 0 k (by omega) hk
    · rw [if_neg hl, if_neg hl]
  · rw [if_neg h, if_neg h]

theorem impl_SamplesFault_eq (a : Int) (xs : List Int) (k : Nat) (hk : 10 < k) : impl_SamplesFault.f k a xs = some (sampF a xs) := by
  unfold impl_SamplesFault.f
  rw [impl_SizeFault_eq, areSamples_eq]
  simp only [Option.bind_some, codeIf_eq]
  rw [first_eq _ (by simp) k (by simp; omega)]
  simp only [Option.bind_some]
  congr 1
  unfold sampF
  rcases sizeF_cases a with ⟨h, _⟩ | ⟨h, _⟩
  · by_cases hl : (xs.length : Int) = a
    · cases hs : allIn (-32768) 32767 xs <;> simp [nz, h, hl]
    · cases hs : allIn (-32768) 32767 xs <;> simp [nz, h, hl]
  · simp [nz, h]

theorem lwAt_ok (c : List Int) (n : Int) (a : Int) (h0 : 0 ≤ a) (h1 : a ≤ 1000000) : ∃ v, laws_lwAt.f c a n = some v := by
  unfold laws_lwAt.f
  by_cases hn : n ≤ 1
  · rw [if_pos hn]; exact ⟨_, rfl⟩
  · rw [if_neg hn]
    by_cases hl : (c.length : Int) = 0
    · rw [if_pos hl, if_neg (by omega)]; exact ⟨_, rfl⟩
    · have q0 := tmod_bd h0 (show 0 < (c.length : Int) by omega)
      have q1 := tmod_bd (show 0 ≤ a + 1 by omega) (show 0 < (c.length : Int) by omega)
      rw [if_neg hl, w64 (x := a + 1) (by omega) (by omega), if_pos q0.1, if_pos q0.2]
      by_cases g : n > 200
      · rw [if_pos g, if_pos q1.1, if_pos q1.2, if_neg (by omega)]; exact ⟨_, rfl⟩
      · rw [if_neg g, if_neg (by omega)]; exact ⟨_, rfl⟩

-- PLUS: lists bytes sizef norm
-- SKIP: spec_l1Some
theorem lwAt_bd {c : List Int} (hc : Bytes c) (n : Int) : ∃ v, laws_lwAt.f c 1 n = some v ∧ 0 ≤ v ∧ (v < n ∨ v = 0) := by
  unfold laws_lwAt.f
  by_cases hn : n ≤ 1
  · rw [if_pos hn]; exact ⟨_, rfl, by omega, .inr rfl⟩
  · rw [if_neg hn]
    by_cases hl : (c.length : Int) = 0
    · rw [if_pos hl, if_neg (by omega), w64 (x := 1 * 7) (by omega) (by omega)]
      have q := tmod_bd (show (0 : Int) ≤ 1 * 7 by omega) (show 0 < n by omega)
      exact ⟨_, rfl, q.1, .inl q.2⟩
    · have hL : 0 < (c.length : Int) := by omega
      have q0 := tmod_bd (show (0 : Int) ≤ 1 by omega) hL
      have q1 := tmod_bd (show (0 : Int) ≤ 1 + 1 by omega) hL
      have hd := div_bd (show (0 : Int) ≤ 1 by omega) hL
      rw [← tdiv_pos (show (0 : Int) ≤ 1 by omega)] at hd
      have r0 := rd_bd hc (Int.tmod 1 c.length)
      have r1 := rd_bd hc (Int.tmod (1 + 1) c.length)
      rw [if_neg hl, w64 (x := 1 + 1) (by omega) (by omega), if_pos q0.1, if_pos q0.2]
      generalize rd c (Int.tmod 1 c.length) = R0 at r0 ⊢
      generalize rd c (Int.tmod (1 + 1) c.length) = R1 at r1 ⊢
      generalize Int.tdiv 1 c.length = D at hd ⊢
      have e1 : wrap64 R0 = R0 := w64 (by omega) (by omega)
      have e2 : wrap64 D = D := w64 (by omega) (by omega)
      have e3 : wrap64 (D * 3) = D * 3 := w64 (by omega) (by omega)
      have e4 : wrap64 (R0 + D * 3) = R0 + D * 3 := w64 (by omega) (by omega)
      have e5 : wrap64 ((R0 + D * 3) * 251) = (R0 + D * 3) * 251 := w64 (by omega) (by omega)
      have e6 : wrap64 R1 = R1 := w64 (by omega) (by omega)
      have e7 : wrap64 ((R0 + D * 3) * 251 + R1) = (R0 + D * 3) * 251 + R1 := w64 (by omega) (by omega)
      simp only [e1, e2, e3, e4, e5, e6, e7]
      by_cases g : n > 200
      · rw [if_pos g, if_pos q1.1, if_pos q1.2, if_neg (by omega)]
        have q := tmod_bd (show 0 ≤ (R0 + D * 3) * 251 + R1 by omega) (show 0 < n by omega)
        exact ⟨_, rfl, q.1, .inl q.2⟩
      · rw [if_neg g, if_neg (by omega)]
        have q := tmod_bd (show 0 ≤ R0 + D * 3 by omega) (show 0 < n by omega)
        exact ⟨_, rfl, q.1, .inl q.2⟩
theorem drawList_l0 {c : List Int} (hc : Bytes c) (b : Int) (hb0 : 0 ≤ b) (hb1 : b ≤ 1000000) : ∀ (d : Nat) (at' : Int) (xs : List Int) (k : Nat), d < k → 0 ≤ at' → at' + d ≤ 1073741824 → xs.length + d ≤ 1000000 →
    ∃ ys, spec_l1DrawList.l0 k (d : Int) b xs c at' = some (ys, at' + d) ∧ ys.length = xs.length + d := by
  intro d
  induction d with
  | zero =>
    intro at' xs k hk h0 h1 hl
    obtain ⟨k, rfl⟩ : ∃ q, k = q + 1 := ⟨k - 1, by omega⟩
    refine ⟨xs, ?_, rfl⟩
    simp only [spec_l1DrawList.l0]
    rw [if_neg (by omega)]; simp
  | succ d ih =>
    intro at' xs k hk h0 h1 hl
    obtain ⟨k, rfl⟩ : ∃ q, k = q + 1 := ⟨k - 1, by omega⟩
    obtain ⟨v, e, _⟩ := l1Signed_ok hc at' b h0 (by omega) hb0 (by omega)
    obtain ⟨ys, h2, h4⟩ := ih (at' + 1) (xs ++ [v]) k (by omega) (by omega) (by omega) (by simp; omega)
    refine ⟨ys, ?_, by rw [h4]; simp; omega⟩
    simp only [spec_l1DrawList.l0]
    rw [if_pos (by omega), e]
    simp only [Option.bind_some]
    rw [if_pos (by omega), w64 (by omega) (by omega), show ((d + 1 : Nat) : Int) - 1 = (d : Int) by omega, h2]
    rw [show at' + 1 + (d : Int) = at' + ((d + 1 : Nat) : Int) by omega]
theorem drawTen_ok {c : List Int} (hc : Bytes c) : ∃ v, spec_DrawTenOf.f c = some v := by
  unfold spec_DrawTenOf.f spec_l1Source.f
  simp only [Option.bind_some]
  obtain ⟨v1, e1, _⟩ := l1Signed_ok hc 0 50000 (by omega) (by omega) (by omega) (by omega)
  obtain ⟨v2, e2, _⟩ := l1Signed_ok hc (0 + 1) 50000 (by omega) (by omega) (by omega) (by omega)
  rw [e1]; simp only [Option.bind_some]
  rw [e2]; simp only [Option.bind_some]
  obtain ⟨v3, e3, _⟩ := l1Pick_ok hc (0 + 1 + 1) [0, 511, 512, -512, -513, 1535, 1536, 1099511627776, -1099511627776, 1099511627777, v1, v2] (by omega) (by omega) (by simp)
  rw [e3]; exact ⟨_, rfl⟩
theorem drawNorm_ok {c : List Int} (hc : Bytes c) (k : Nat) (hk : 100 ≤ k) : ∃ xs, spec_DrawNormOf.f k c = some xs ∧ xs.length ≤ 65 := by
  unfold spec_DrawNormOf.f spec_l1Source.f
  simp only [Option.bind_some]
  obtain ⟨n, e1, hm⟩ := l1Pick_ok hc 0 [0, 1, 3, 5, 16, 64, 65] (by omega) (by omega) (by simp)
  rw [e1]; simp only [Option.bind_some]
  have hn : 0 ≤ n ∧ n ≤ 65 := by
    simp only [List.mem_cons, List.not_mem_nil, or_false] at hm
    omega
  clear hm
  obtain ⟨m, rfl⟩ := Int.eq_ofNat_of_zero_le hn.1
  obtain ⟨xs, e2, hl⟩ := drawList_l0 hc 40000 (by omega) (by omega) m (0 + 1) [] k (by omega) (by omega) (by omega) (by simp; omega)
  have e2' : spec_l1DrawList.f k c (0 + 1) (m : Int) 40000 = some (xs, 0 + 1 + (m : Int)) := e2
  rw [List.length_nil, Nat.zero_add] at hl
  rw [e2']; simp only [Option.bind_some]
  by_cases h : (xs.length : Int) > 0
  · rw [if_pos h]
    unfold spec_l1Chance.f
    obtain ⟨v3, e3, _⟩ := l1Next_ok hc (0 + 1 + (m : Int)) 5 (by omega) (by omega)
    rw [e3]; simp only [Option.bind_some]
    by_cases g : (v3 == 0) = true
    · rw [if_pos g]
      obtain ⟨v4, e4, _⟩ := l1Pick_ok hc (0 + 1 + (m : Int) + 1) [1099511627776, -1099511627776, 1099511627777, -1099511627777] (by omega) (by omega) (by simp)
      rw [e4]; simp only [Option.bind_some]
      rw [if_pos (by omega)]
      exact ⟨_, rfl, by rw [List.length_set]; omega⟩
    · rw [if_neg g]
      exact ⟨_, rfl, by omega⟩
  · rw [if_neg h]
    exact ⟨_, rfl, by omega⟩
theorem clamp_some (v : Int) : ∃ t, spec_Clamp16.f v = some t := by
  unfold spec_Clamp16.f
  split
  · exact ⟨_, rfl⟩
  · split <;> exact ⟨_, rfl⟩
theorem samples_l0 {c : List Int} (hc : Bytes c) (n a b m : Int) (hn : 0 ≤ n) (hn2 : n ≤ 20) : ∀ (d : Nat) (i at' : Int) (xs : List Int) (k : Nat), i + d = n → 0 ≤ i → d < k → 0 ≤ at' → at' + d ≤ 1073741824 → xs.length + d ≤ 1000000 →
    ∃ ys q, spec_l1Samples.l0 k n xs a b m i c at' = some (ys, q) ∧ ys.length = xs.length + d ∧ 0 ≤ q ∧ q ≤ at' + d := by
  intro d
  induction d with
  | zero =>
    intro i at' xs k hi hi0 hk h0 h1 hl
    obtain ⟨k, rfl⟩ : ∃ q, k = q + 1 := ⟨k - 1, by omega⟩
    refine ⟨xs, at', ?_, rfl, h0, by omega⟩
    simp only [spec_l1Samples.l0]
    rw [if_neg (by omega)]
  | succ d ih =>
    intro i at' xs k hi hi0 hk h0 h1 hl
    obtain ⟨k, rfl⟩ : ∃ q, k = q + 1 := ⟨k - 1, by omega⟩
    have step : ∀ (v at2 : Int), at' ≤ at2 → at2 ≤ at' + 1 → ∃ ys q, spec_l1Samples.l0 k n (xs ++ [v]) a b m (wrap64 (i + 1)) c at2 = some (ys, q) ∧ ys.length = xs.length + (d + 1) ∧ 0 ≤ q ∧ q ≤ at' + ((d + 1 : Nat) : Int) := by
      intro v at2 g1 g2
      rw [w64 (by omega) (by omega)]
      obtain ⟨ys, q, h2, h3, h4, h5⟩ := ih (i + 1) at2 (xs ++ [v]) k (by omega) (by omega) (by omega) (by omega) (by omega) (by simp; omega)
      exact ⟨ys, q, h2, by rw [h3]; simp; omega, h4, by omega⟩
    have hx : xs.length < 17592186044416 := by omega
    simp only [spec_l1Samples.l0]
    rw [if_pos (by omega)]
    by_cases m0 : m = 0
    · rw [if_pos m0]
      obtain ⟨t, et⟩ := clamp_some 0
      rw [et]; simp only [Option.bind_some]
      rw [if_pos hx]
      exact step _ _ (by omega) (by omega)
    rw [if_neg m0]
    by_cases m1 : m = 1
    · rw [if_pos m1]
      obtain ⟨v, ev, _⟩ := l1Signed_ok hc at' 32767 h0 (by omega) (by omega) (by omega)
      obtain ⟨t, et⟩ := clamp_some v
      rw [ev]; simp only [Option.bind_some]
      rw [et]; simp only [Option.bind_some]
      rw [if_pos hx]
      exact step _ _ (by omega) (by omega)
    rw [if_neg m1]
    by_cases m2 : m = 2
    · rw [if_pos m2]
      obtain ⟨v, ev, _⟩ := l1Pick_ok hc at' [32767, -32768, 0] h0 (by omega) (by simp)
      obtain ⟨t, et⟩ := clamp_some v
      rw [ev]; simp only [Option.bind_some]
      rw [et]; simp only [Option.bind_some]
      rw [if_pos hx]
      exact step _ _ (by omega) (by omega)
    rw [if_neg m2]
    by_cases m3 : m = 3
    · rw [if_pos m3]
      obtain ⟨v, ev, _⟩ := l1Signed_ok hc at' 20 h0 (by omega) (by omega) (by omega)
      rw [ev]; simp only [Option.bind_some]
      obtain ⟨t, et⟩ := clamp_some (wrap64 (wrap64 (a + wrap64 (b * i)) + v))
      rw [et]; simp only [Option.bind_some]
      rw [if_pos hx]
      exact step _ _ (by omega) (by omega)
    rw [if_neg m3]
    obtain ⟨t, et⟩ := clamp_some (wrap64 (a + wrap64 (b * i)))
    rw [et]; simp only [Option.bind_some]
    rw [if_pos hx]
    exact step _ _ (by omega) (by omega)
theorem samples_ok {c : List Int} (hc : Bytes c) (n at' : Int) (hn : 0 ≤ n) (hn2 : n ≤ 20) (h0 : 0 ≤ at') (h1 : at' ≤ 1000) (k : Nat) (hk : 50 ≤ k) : ∃ ys q, spec_l1Samples.f k c at' n = some (ys, q) ∧ ys.length ≤ 20 ∧ 0 ≤ q ∧ q ≤ at' + 23 := by
  unfold spec_l1Samples.f
  obtain ⟨v1, e1, _⟩ := l1Signed_ok hc at' 20000 h0 (by omega) (by omega) (by omega)
  rw [e1]; simp only [Option.bind_some]
  obtain ⟨v2, e2, _⟩ := l1Pick_ok hc (at' + 1) [0, 1, 50, 700, -300] (by omega) (by omega) (by simp)
  rw [e2]; simp only [Option.bind_some]
  obtain ⟨v3, e3, _⟩ := l1Next_ok hc (at' + 1 + 1) 5 (by omega) (by omega)
  rw [e3]; simp only [Option.bind_some]
  obtain ⟨m, rfl⟩ := Int.eq_ofNat_of_zero_le hn
  obtain ⟨ys, q, h2, h3, h4, h5⟩ := samples_l0 hc (m : Int) v1 v2 v3 hn hn2 m 0 (at' + 1 + 1 + 1) [] k (by omega) (by omega) (by omega) (by omega) (by omega) (by simp; omega)
  rw [List.length_nil] at h3
  exact ⟨ys, q, h2, by omega, h4, by omega⟩
theorem bent_ok {c : List Int} (hc : Bytes c) (n at' : Int) (h0 : 0 ≤ at') (h1 : at' ≤ 1000) (k : Nat) (hk : 50 ≤ k) : ∃ ys q, spec_l1BentSamples.f k c at' n = some (ys, q) ∧ ys.length ≤ 21 := by
  have hm : ∃ m, spec_l1Max.f n 0 = some m ∧ 0 ≤ m := by
    unfold spec_l1Max.f
    by_cases h : n > 0
    · exact ⟨n, by rw [if_pos h], by omega⟩
    · exact ⟨0, by rw [if_neg h], by omega⟩
  obtain ⟨m, em, hm⟩ := hm
  have hs : ∃ s, spec_l1Min.f m 20 = some s ∧ 0 ≤ s ∧ s ≤ 20 := by
    unfold spec_l1Min.f
    by_cases h : m < 20
    · exact ⟨m, by rw [if_pos h], by omega, by omega⟩
    · exact ⟨20, by rw [if_neg h], by omega, by omega⟩
  obtain ⟨s, es, hs0, hs1⟩ := hs
  unfold spec_l1BentSamples.f
  rw [em]; simp only [Option.bind_some]
  rw [es]; simp only [Option.bind_some]
  obtain ⟨ys, q, e1, hl, q0, q1⟩ := samples_ok hc s at' hs0 hs1 h0 h1 k hk
  rw [e1]; simp only [Option.bind_some]
  obtain ⟨v, e2, _⟩ := l1Next_ok hc q 12 q0 (by omega)
  rw [e2]; simp only [Option.bind_some]
  by_cases g0 : v = 0
  · rw [if_pos g0, if_pos (by omega)]
    exact ⟨_, _, rfl, by simp; omega⟩
  · rw [if_neg g0]
    by_cases g1 : v = 1
    · rw [if_pos g1]
      by_cases g2 : (ys.length : Int) > 0
      · rw [if_pos g2]
        obtain ⟨p, e3, hp, _⟩ := l1Next_ok hc (q + 1) (ys.length : Int) (by omega) (by omega)
        have hp := hp (by omega)
        rw [e3]; simp only [Option.bind_some]
        obtain ⟨r, e4, _⟩ := l1Pick_ok hc (q + 1 + 1) [32768, -32769] (by omega) (by omega) (by simp)
        rw [e4]; simp only [Option.bind_some]
        rw [if_pos hp.1, if_pos hp.2]
        exact ⟨_, _, rfl, by rw [List.length_set]; omega⟩
      · rw [if_neg g2]
        exact ⟨_, _, rfl, by omega⟩
    · rw [if_neg g1]
      exact ⟨_, _, rfl, by omega⟩
theorem drawSamples_ok {c : List Int} (hc : Bytes c) (k : Nat) (hk : 50 ≤ k) : ∃ s xs, spec_DrawSamplesFault.f k c = some (s, xs) ∧ xs.length ≤ 21 := by
  unfold spec_DrawSamplesFault.f spec_l1Source.f spec_l1BentSize.f
  simp only [Option.bind_some]
  obtain ⟨s, e1, _⟩ := l1Pick_ok hc 0 [4, 8, 16, 8, 4, 8, 16, 8, 4, 8, 16, 8, 0, 5, 32] (by omega) (by omega) (by simp)
  rw [e1]; simp only [Option.bind_some]
  obtain ⟨ys, q, e2, hl⟩ := bent_ok hc s (0 + 1) (by omega) (by omega) k hk
  rw [e2]; simp only [Option.bind_some]
  exact ⟨_, _, rfl, hl⟩
def tenR (a : Int) : Int × Int := if -1099511627776 ≤ a ∧ a ≤ 1099511627776 then (0, (a + 512) / 1024) else (3, 0)
theorem spec_TenOf_eq (a : Int) : spec_TenOf.f a = some (tenR a) := by
  unfold spec_TenOf.f tenR
  rw [l1Top_eq]
  simp only [Option.bind_some]
  by_cases h : -1099511627776 ≤ a ∧ a ≤ 1099511627776
  · rw [l1Ten_eq _ (by omega) (by omega)]; simp [h]
  · simp [h]
theorem impl_TenOf_eq (a : Int) : impl_TenOf.f a = some (tenR a) := by
  unfold impl_TenOf.f tenR
  rw [within_eq _ _ (by omega) (by omega)]
  simp only [Option.bind_some]
  by_cases h : -1099511627776 ≤ a ∧ a ≤ 1099511627776
  · rw [tenOf_eq _ (by omega) (by omega)]; simp [h]
  · simp [h]
def normR (xs : List Int) : Int × Int := if (xs.length : Int) > 64 then (2, 0) else if (xs.all fun n => decide (-1099511627776 ≤ n ∧ n ≤ 1099511627776)) = true then (0, norm xs) else (3, 0)
theorem norm_append (xs ys : List Int) : norm (xs ++ ys) = norm xs + norm ys := by
  induction xs with
  | nil => simp [norm]
  | cons x xs ih => rw [List.cons_append, norm, norm, ih]; omega
theorem normR_in {xs : List Int} (hl : xs.length ≤ 64) (hw : Within 1099511627776 xs) : normR xs = (0, norm xs) := by
  unfold normR
  rw [if_neg (by omega), if_pos ((all_within _ _).2 hw)]
theorem tens_j1 (c xs : List Int) (hc : Bytes c) (hl : xs.length ≤ 65) (k : Nat) (hk : 300 ≤ k) : laws_FnTens.j1 (k + 1) c xs false (normR xs).1 (normR xs).2 = some true := by
  simp only [laws_FnTens.j1]
  rw [if_neg (by decide)]
  by_cases h0 : (normR xs).1 = 0
  · rw [if_pos h0]
    have hv : xs.length ≤ 64 ∧ Within 1099511627776 xs := by
      unfold normR at h0
      by_cases g : (xs.length : Int) > 64
      · rw [if_pos g] at h0; simp at h0
      · rw [if_neg g] at h0
        by_cases e : (xs.all fun n => decide (-1099511627776 ≤ n ∧ n ≤ 1099511627776)) = true
        · exact ⟨by omega, (all_within _ _).1 e⟩
        · rw [if_neg e] at h0; simp at h0
    rw [w64 (by omega) (by omega)]
    obtain ⟨v, e, v0, v1⟩ := lwAt_bd hc ((xs.length : Int) + 1)
    rw [e]; simp only [Option.bind_some]
    rw [if_pos v0, if_pos (by omega)]
    have ht : Within 1099511627776 (xs.take v.toNat) := fun x hx => hv.2 x (List.mem_of_mem_take hx)
    have hd : Within 1099511627776 (xs.drop v.toNat) := fun x hx => hv.2 x (List.mem_of_mem_drop hx)
    have lt : (xs.take v.toNat).length ≤ 64 := by rw [List.length_take]; omega
    have ld : (xs.drop v.toNat).length ≤ 64 := by rw [List.length_drop]; omega
    have i1 : impl_NormOf.f k (xs.take v.toNat) = some (normR (xs.take v.toNat)) := impl_NormOf_eq _ k (by omega)
    have i2 : impl_NormOf.f k (xs.drop v.toNat) = some (normR (xs.drop v.toNat)) := impl_NormOf_eq _ k (by omega)
    have i3 : spec_NormOf.f k xs = some (normR xs) := spec_NormOf_eq _ k (by omega)
    rw [i1, i2, i3, normR_in lt ht, normR_in ld hd, normR_in hv.1 hv.2]
    simp only [Option.bind_some]
    have b1 := norm_bd _ (by omega) _ ht
    have b2 := norm_bd _ (by omega) _ hd
    have ea : norm (xs.take v.toNat) + norm (xs.drop v.toNat) = norm xs := by rw [← norm_append, List.take_append_drop]
    rw [w64 (by omega) (by omega), if_pos ea, if_pos (by omega)]
    simp
  · rw [if_neg h0]
theorem tens_j0 (c xs : List Int) (v : Int) (hc : Bytes c) (hl : xs.length ≤ 65) (k : Nat) (hk : 300 ≤ k) : laws_FnTens.j0 (k + 1 + 1) c v xs false (tenR v).1 (tenR v).2 (normR xs).1 (normR xs).2 = some true := by
  rw [laws_FnTens.j0]
  rw [if_neg (by decide)]
  have hj := tens_j1 c xs hc hl k hk
  by_cases h : -1099511627776 ≤ v ∧ v ≤ 1099511627776
  · have e : tenR v = (0, (v + 512) / 1024) := by unfold tenR; rw [if_pos h]
    rw [e]
    simp only [if_true]
    have e1 : wrap64 (1024 * ((v + 512) / 1024)) = 1024 * ((v + 512) / 1024) := w64 (by omega) (by omega)
    have e2 : wrap64 (v + 512) = v + 512 := w64 (by omega) (by omega)
    have e3 : wrap64 (1024 * ((v + 512) / 1024) + 1024) = 1024 * ((v + 512) / 1024) + 1024 := w64 (by omega) (by omega)
    rw [e1, e2, e3, if_neg (by omega), decide_eq_false (by omega)]
    exact hj
  · have e : tenR v = (3, 0) := by unfold tenR; rw [if_neg h]
    rw [e]
    exact hj
theorem FnTens : laws_FnTens.Pure := by
  intro l0 h1 h2 h3
  have hc : Bytes l0 := fun x hx => u8_of_wf (h3 x hx)
  obtain ⟨K, hK⟩ : ∃ K, K = 500 := ⟨_, rfl⟩
  obtain ⟨v, hv⟩ := drawTen_ok hc
  obtain ⟨xs, hxs, hl⟩ := drawNorm_ok hc (K + 1 + 1) (by omega)
  obtain ⟨s, ys, hys, hl2⟩ := drawSamples_ok hc (K + 1 + 1) (by omega)
  have hj := tens_j0 l0 xs v hc hl K (by omega)
  have i1 : impl_NormOf.f (K + 1 + 1) xs = some (normR xs) := impl_NormOf_eq _ _ (by omega)
  have i2 : spec_NormOf.f (K + 1 + 1) xs = some (normR xs) := spec_NormOf_eq _ _ (by omega)
  refine ⟨K + 1 + 1, ?_⟩
  unfold laws_FnTens.f laws_lwBig.f
  simp only [Option.bind_some]
  split
  · rfl
  simp only [hv, hxs, hys, impl_TenOf_eq, spec_TenOf_eq, i1, i2, impl_SamplesFault_eq s ys (K + 1 + 1) (by omega), spec_SamplesFault_eq s ys (by omega) (K + 1 + 1) (by omega), impl_SizeFault_eq, spec_SizeFault_eq, Option.bind_some, if_true, bne_self_eq_false]
  exact hj

end Go.Proofs.Ytfolhiijdckfhaa.Pure
