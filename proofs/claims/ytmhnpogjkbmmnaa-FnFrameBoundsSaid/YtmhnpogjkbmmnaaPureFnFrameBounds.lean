/-
  FrameBounds: a frame that is played from three blocks, each off by no more than its bounds, is off by no more than is told; for every code.
-/
import Derived.Test.YtmhnpogjkbmmnaaPFnFrameBoundsx
namespace Go.Proofs.Ytmhnpogjkbmmnaa.Pure
open Go.RowKit Go.Proofs.Ytmhnpogjkbmmnaa.PFnFrameBounds Go.Proofs.YtmhnpogjkbmmnaaW.PrintWords Go.Proofs.YtmhnpogjkbmmnaaW.PrintLast Go.Proofs.YtmhnpogjkbmmnaaW.PrintMore
set_option linter.unusedVariables false
set_option linter.unusedSimpArgs false
theorem w64 {x : Int} (h1 : -9223372036854775808 ≤ x) (h2 : x ≤ 9223372036854775807) : wrap64 x = x := by
  unfold wrap64; omega
theorem tdiv_pos {a : Int} (h : 0 ≤ a) (b : Int) : Int.tdiv a b = a / b := Int.tdiv_eq_ediv_of_nonneg h
theorem tmod_pos {a : Int} (h : 0 ≤ a) (b : Int) : Int.tmod a b = a % b := Int.tmod_eq_emod_of_nonneg h
theorem tdiv_neg {a : Int} (h : a ≤ 0) (b : Int) : Int.tdiv a b = -((-a) / b) := by
  have := Int.neg_tdiv (-a) b
  rw [Int.neg_neg] at this
  rw [this, tdiv_pos (by omega)]
theorem tmod_neg {a : Int} (h : a ≤ 0) (b : Int) : Int.tmod a b = -((-a) % b) := by
  have := Int.neg_tmod (-a) b
  rw [Int.neg_neg] at this
  rw [this, tmod_pos (by omega)]
theorem div_unique {x b q r : Int} (hb : 0 < b) (h : r + b * q = x) (h0 : 0 ≤ r) (h1 : r < b) : x / b = q :=
  ((Int.ediv_emod_unique hb).2 ⟨h, h0, h1⟩).1
theorem div_parts (x b : Int) : b * (x / b) + x % b = x := Int.mul_ediv_add_emod x b
theorem neg_div {a b : Int} (hb : 0 < b) : (-a) / b = if a % b = 0 then -(a / b) else -(a / b) - 1 := by
  have h := div_parts a b
  have h0 := Int.emod_nonneg a (Int.ne_of_gt hb)
  have h1 := Int.emod_lt_of_pos a hb
  split
  · exact div_unique (r := 0) hb (by rw [Int.mul_neg]; omega) (by omega) (by omega)
  · exact div_unique (r := b - a % b) hb (by rw [Int.mul_sub, Int.mul_neg]; omega) (by omega) (by omega)
theorem ceil_div {a b : Int} (hb : 0 < b) : (a + b - 1) / b = -((-a) / b) := by
  have h := div_parts (-a) b
  have h0 := Int.emod_nonneg (-a) (Int.ne_of_gt hb)
  have h1 := Int.emod_lt_of_pos (-a) hb
  exact div_unique (r := b - 1 - (-a) % b) hb (by rw [Int.mul_neg]; omega) (by omega) (by omega)
theorem div_bd {a b : Int} (ha : 0 ≤ a) (hb : 0 < b) : 0 ≤ a / b ∧ a / b ≤ a :=
  ⟨Int.ediv_nonneg ha (by omega), Int.ediv_le_self b ha⟩
theorem floor_tdiv {x b : Int} (hb : 0 < b) : (if Int.tmod x b < 0 then Int.tdiv x b - 1 else Int.tdiv x b) = x / b := by
  by_cases h : 0 ≤ x
  · have h0 := Int.emod_nonneg x (Int.ne_of_gt hb)
    rw [tmod_pos h, tdiv_pos h, if_neg (by omega)]
  · rw [tmod_neg (by omega), tdiv_neg (by omega)]
    have h0 := Int.emod_nonneg (-x) (Int.ne_of_gt hb)
    have e := neg_div (a := -x) hb
    rw [Int.neg_neg] at e
    rw [e]
    by_cases hz : (-x) % b = 0
    · rw [if_pos hz, if_neg (by omega)]
    · rw [if_neg hz, if_pos (by omega)]
theorem floor_bd {x b : Int} (hb : 0 < b) : (0 ≤ x → 0 ≤ x / b ∧ x / b ≤ x) ∧ (x < 0 → x ≤ x / b ∧ x / b < 0) := by
  refine ⟨fun h => div_bd h hb, fun h => ?_⟩
  have e := neg_div (a := -x) hb
  rw [Int.neg_neg] at e
  have d := div_bd (a := -x) (by omega) hb
  have p := div_parts (-x) b
  have h0 := Int.emod_nonneg (-x) (Int.ne_of_gt hb)
  rw [e]
  split
  · next hz =>
    rw [hz] at p
    have : (-x) / b ≠ 0 := fun e0 => by rw [e0, Int.mul_zero] at p; omega
    omega
  · next hz =>
    have : (-x) / b < -x := by
      rcases Int.lt_or_eq_of_le d.2 with h2 | h2
      · exact h2
      · exfalso
        rw [h2] at p
        have hb1 : b ≠ 1 := fun e1 => by subst e1; omega
        have : 2 * (-x) ≤ b * (-x) := Int.mul_le_mul_of_nonneg_right (by omega) (by omega)
        omega
    omega

theorem l1In_eq (a b c : Int) : spec_l1In.f a b c = some (decide (b ≤ a ∧ a ≤ c)) := by
  unfold spec_l1In.f; by_cases h : b ≤ a <;> simp [h]

theorem codeIf_eq (b : Bool) (c : Int) : impl_codeIf.f b c = some (if b = true then c else 0) := by
  unfold impl_codeIf.f; cases b <;> rfl

theorem floorDiv_eq (x b : Int) (hb : 0 < b) (h0 : -9000000000000000000 ≤ x) (h1 : x ≤ 9000000000000000000) : impl_floorDiv.f x b = some (x / b) := by
  have e := floor_tdiv (x := x) hb
  have d := floor_bd (x := x) hb
  unfold impl_floorDiv.f
  rw [if_neg (by omega)]
  by_cases h : Int.tmod x b < 0
  · rw [if_pos h] at e ⊢
    rw [w64 (x := Int.tdiv x b) (by omega) (by omega), w64 (by omega) (by omega), e]
  · rw [if_neg h] at e ⊢
    rw [w64 (by omega) (by omega), e]

theorem ceilDiv_eq (x b : Int) (hb : 0 < b) (h0 : -9000000000000000000 ≤ x) (h1 : x ≤ 9000000000000000000) : impl_ceilDiv.f x b = some (-((-x) / b)) := by
  have d := floor_bd (x := -x) hb
  unfold impl_ceilDiv.f
  rw [w64 (by omega) (by omega), floorDiv_eq _ _ hb (by omega) (by omega)]
  simp only [Option.bind_some]
  rw [w64 (by omega) (by omega)]

theorem l1Ceil_eq (x b : Int) (hb : 0 < b) (h0 : 0 ≤ x) (h1 : x + b ≤ 9000000000000000000) : spec_l1Ceil.f x b = some (-((-x) / b)) := by
  have e := ceil_div (a := x) hb
  have d := div_bd (a := x + b - 1) (by omega) hb
  unfold spec_l1Ceil.f
  rw [if_neg (by omega), w64 (x := x + b) (by omega) (by omega), w64 (x := x + b - 1) (by omega) (by omega), tdiv_pos (by omega), w64 (by omega) (by omega), e]

theorem tenOf_eq (x : Int) (h0 : -7000000000000000000 ≤ x) (h1 : x ≤ 8000000000000000000) : impl_tenOf.f x = some ((x + 512) / 1024) := by
  unfold impl_tenOf.f
  rw [w64 (by omega) (by omega)]

theorem part_eq (s d : Int) (hs : -1000000000000000000 ≤ s ∧ s ≤ 1000000000000000000) (hd : -1000000000000000000 ≤ d ∧ d ≤ 1000000000000000000) : impl_part.f s d = some (s - d / 2 + d, s - d / 2) := by
  unfold impl_part.f
  rw [floorDiv_eq _ _ (by omega) (by omega) (by omega)]
  simp only [Option.bind_some]
  rw [w64 (x := s - d / 2) (by omega) (by omega), w64 (by omega) (by omega)]

theorem rd_nat (xs : List Int) (i : Nat) : rd xs (i : Int) = xs.getD i 0 := by unfold rd; rw [Int.toNat_natCast]
theorem rd_get (xs : List Int) (i : Nat) (h : i < xs.length) : rd xs (i : Int) = xs[i] := by
  rw [rd_nat, List.getD_eq_getElem?_getD, List.getElem?_eq_getElem h]; rfl
theorem w64_succ (i : Nat) (h : i ≤ 4000000000000000000) : wrap64 ((i : Int) + 1) = ((i + 1 : Nat) : Int) := by
  rw [w64 (by omega) (by omega)]; omega
theorem u8_of_wf {x : Int} (h : (Lit.int .u8 x).wf = true) : 0 ≤ x ∧ x < 256 := by
  have := h
  simp [Lit.wf, IntKind.min, IntKind.max, IntKind.bits, IntKind.signed] at this
  omega
def Bytes (xs : List Int) : Prop := ∀ x ∈ xs, 0 ≤ x ∧ x < 256
theorem Bytes.rd {xs : List Int} (h : Bytes xs) (i : Nat) : 0 ≤ rd xs (i : Int) ∧ rd xs (i : Int) < 256 := by
  rw [rd_nat, List.getD_eq_getElem?_getD]
  by_cases hi : i < xs.length
  · rw [List.getElem?_eq_getElem hi]; exact h _ (List.getElem_mem hi)
  · rw [List.getElem?_eq_none (by omega)]; exact ⟨by simp, by simp⟩

theorem rd_bd {c : List Int} (hc : Bytes c) (i : Int) : 0 ≤ rd c i ∧ rd c i ≤ 255 := by
  unfold rd
  rw [List.getD_eq_getElem?_getD]
  by_cases h : i.toNat < c.length
  · rw [List.getElem?_eq_getElem h]
    have := hc _ (List.getElem_mem h)
    simp only [Option.getD_some]
    omega
  · rw [List.getElem?_eq_none (by omega)]
    simp
theorem tmod_bd {a : Int} (h : 0 ≤ a) {b : Int} (hb : 0 < b) : 0 ≤ Int.tmod a b ∧ Int.tmod a b < b := by
  rw [tmod_pos h]
  exact ⟨Int.emod_nonneg _ (by omega), Int.emod_lt_of_pos _ hb⟩
theorem l1Next_ok {c : List Int} (hc : Bytes c) (at' n : Int) (h0 : 0 ≤ at') (h1 : at' ≤ 1073741824) :
    ∃ v, spec_l1Next.f c at' n = some (v, at' + 1) ∧ (1 ≤ n → 0 ≤ v ∧ v < n) ∧ (n < 1 → v = 0) := by
  have e1 : wrap64 (at' + 1) = at' + 1 := w64 (by omega) (by omega)
  have e2 : at' + 1 - 1 = at' := by omega
  have e3 : wrap64 at' = at' := w64 (by omega) (by omega)
  have e4 : wrap64 (at' + 2) = at' + 2 := w64 (by omega) (by omega)
  unfold spec_l1Next.f
  simp only [e1, e2, e3, e4]
  by_cases hn1 : n < 1
  · rw [if_pos hn1]
    exact ⟨0, rfl, fun h => by omega, fun _ => rfl⟩
  · rw [if_neg hn1]
    by_cases hl : (c.length : Int) = 0
    · rw [if_pos hl, if_neg (by omega), w64 (x := at' * 7) (by omega) (by omega)]
      exact ⟨_, rfl, fun _ => tmod_bd (by omega) (by omega), fun h => absurd h hn1⟩
    · rw [if_neg hl]
      have hL : 0 < (c.length : Int) := by omega
      have q0 := tmod_bd h0 hL
      have q1 := tmod_bd (show 0 ≤ at' + 1 by omega) hL
      have q2 := tmod_bd (show 0 ≤ at' + 2 by omega) hL
      have hd := div_bd h0 hL
      rw [← tdiv_pos h0] at hd
      have r0 := rd_bd hc (Int.tmod at' c.length)
      have r1 := rd_bd hc (Int.tmod (at' + 1) c.length)
      have r2 := rd_bd hc (Int.tmod (at' + 2) c.length)
      rw [if_pos q0.1, if_pos q0.2, if_pos q1.1, if_pos q1.2, if_pos q2.1, if_pos q2.2]
      generalize rd c (Int.tmod at' c.length) = R0 at r0 ⊢
      generalize rd c (Int.tmod (at' + 1) c.length) = R1 at r1 ⊢
      generalize rd c (Int.tmod (at' + 2) c.length) = R2 at r2 ⊢
      generalize Int.tdiv at' c.length = D at hd ⊢
      simp (disch := omega) only [w64]
      simp only [if_neg (show ¬ n = 0 by omega)]
      by_cases g1 : n > 200
      · by_cases g2 : n > 60000
        · simp only [if_pos g1, if_pos g2]
          exact ⟨_, rfl, fun _ => tmod_bd (by omega) (by omega), fun h => absurd h hn1⟩
        · simp only [if_pos g1, if_neg g2]
          exact ⟨_, rfl, fun _ => tmod_bd (by omega) (by omega), fun h => absurd h hn1⟩
      · by_cases g2 : n > 60000
        · omega
        · simp only [if_neg g1, if_neg g2]
          exact ⟨_, rfl, fun _ => tmod_bd (by omega) (by omega), fun h => absurd h hn1⟩

theorem l1Pick_ok {c : List Int} (hc : Bytes c) (at' : Int) (xs : List Int) (h0 : 0 ≤ at') (h1 : at' ≤ 1073741824) (hx : 1 ≤ xs.length) :
    ∃ v, spec_l1Pick.f c at' xs = some (v, at' + 1) ∧ v ∈ xs := by
  obtain ⟨v, e, hv, _⟩ := l1Next_ok hc at' (xs.length : Int) h0 h1
  have hv := hv (by omega)
  refine ⟨rd xs v, ?_, ?_⟩
  · unfold spec_l1Pick.f
    rw [e]
    simp only [Option.bind_some]
    rw [if_pos hv.1, if_pos hv.2]
  · unfold rd
    rw [List.getD_eq_getElem?_getD, List.getElem?_eq_getElem (show v.toNat < xs.length by omega)]
    exact List.getElem_mem _

def Within (m : Int) (xs : List Int) : Prop := ∀ x ∈ xs, -m ≤ x ∧ x ≤ m
theorem Within.rd {m : Int} (h0 : 0 ≤ m) {xs : List Int} (h : Within m xs) (i : Nat) : -m ≤ rd xs (i : Int) ∧ rd xs (i : Int) ≤ m := by
  rw [rd_nat, List.getD_eq_getElem?_getD]
  by_cases hi : i < xs.length
  · rw [List.getElem?_eq_getElem hi]; exact h _ (List.getElem_mem hi)
  · rw [List.getElem?_eq_none (by omega)]; exact ⟨by simp; omega, by simp; omega⟩
theorem all_within (m : Int) (xs : List Int) : (xs.all fun n => decide (-m ≤ n ∧ n ≤ m)) = true ↔ Within m xs := by
  rw [List.all_eq_true]
  exact ⟨fun h x hx => by simpa using h x hx, fun h x hx => by simpa using h x hx⟩
theorem Within.drop {m : Int} {xs : List Int} (h : Within m xs) (i : Nat) : Within m (xs.drop i) := fun x hx => h x (List.mem_of_mem_drop hx)

theorem abs_eq (x : Int) (h0 : -9000000000000000000 ≤ x) (h1 : x ≤ 9000000000000000000) : impl_abs.f x = some (if x < 0 then -x else x) := by
  unfold impl_abs.f mx
  rw [w64 (by omega) (by omega)]
  split <;> split <;> first | rfl | (congr 1; omega)

theorem any_not (p : Int → Bool) (xs : List Int) : (!xs.any fun n => !p n) = xs.all p := by
  induction xs with
  | nil => rfl
  | cons x xs ih => rw [List.any_cons, List.all_cons, ← ih]; cases p x <;> simp
theorem allWithin_eq (xs : List Int) (m : Int) (h0 : 0 ≤ m) (h1 : m ≤ 9000000000000000000) : impl_allWithin.f xs m = some (xs.all fun n => decide (-m ≤ n ∧ n ≤ m)) := by
  unfold impl_allWithin.f
  rw [if_pos ⟨h0, h1⟩, any_not]

def sizeF (a : Int) : Int := if a = 4 then 0 else if a = 8 then 0 else if a = 16 then 0 else 3
theorem sizeF_cases (a : Int) : (sizeF a = 0 ∧ (a = 4 ∨ a = 8 ∨ a = 16)) ∨ (sizeF a = 3 ∧ a ≠ 4 ∧ a ≠ 8 ∧ a ≠ 16) := by
  unfold sizeF
  by_cases h1 : a = 4
  · simp [h1]
  · by_cases h2 : a = 8
    · simp [h2]
    · by_cases h3 : a = 16 <;> simp [h1, h2, h3]
def allIn (lo hi : Int) (xs : List Int) : Bool := xs.all fun n => decide (lo ≤ n ∧ n ≤ hi)
def In (lo hi : Int) (xs : List Int) : Prop := ∀ x ∈ xs, lo ≤ x ∧ x ≤ hi
theorem allIn_iff (lo hi : Int) (xs : List Int) : allIn lo hi xs = true ↔ In lo hi xs := by
  unfold allIn
  rw [List.all_eq_true]
  exact ⟨fun h x hx => by simpa using h x hx, fun h x hx => by simpa using h x hx⟩
theorem allIn_cons (lo hi x : Int) (xs : List Int) : allIn lo hi (x :: xs) = (decide (lo ≤ x ∧ x ≤ hi) && allIn lo hi xs) := rfl
theorem drop_rd' (xs : List Int) (i : Nat) (h : i < xs.length) : xs.drop i = rd xs (i : Int) :: xs.drop (i + 1) := by
  rw [rd_get xs i h]; exact List.drop_eq_getElem_cons h
def nz : List Int → Int
  | [] => 0
  | x :: xs => if x = 0 then nz xs else x

theorem spec_SizeFault_eq (a : Int) : spec_SizeFault.f a = some (sizeF a) := by
  unfold spec_SizeFault.f sizeF
  by_cases h1 : a = 4
  · simp [h1]
  · by_cases h2 : a = 8
    · simp [h2]
    · by_cases h3 : a = 16 <;> simp [h1, h2, h3]

theorem impl_SizeFault_eq (a : Int) : impl_SizeFault.f a = some (sizeF a) := by
  unfold impl_SizeFault.f sizeF
  by_cases h1 : a = 4
  · simp [h1]
  · by_cases h2 : a = 8
    · simp [h2]
    · by_cases h3 : a = 16 <;> simp [h1, h2, h3]

theorem first_l0 (xs : List Int) (hn : xs.length ≤ 1000) : ∀ (d i k : Nat), i + d = xs.length → d < k → impl_first.l0 k xs (xs.length : Int) (i : Int) = some (nz (xs.drop i)) := by
  intro d
  induction d with
  | zero =>
    intro i k hi hk
    obtain ⟨k, rfl⟩ : ∃ m, k = m + 1 := ⟨k - 1, by omega⟩
    simp only [impl_first.l0]
    rw [if_neg (by omega), List.drop_of_length_le (by omega)]; rfl
  | succ d ih =>
    intro i k hi hk
    obtain ⟨k, rfl⟩ : ∃ m, k = m + 1 := ⟨k - 1, by omega⟩
    simp only [impl_first.l0]
    rw [if_pos (by omega), if_pos (by omega), if_pos (by omega), drop_rd' xs i (by omega), nz]
    by_cases h : rd xs (i : Int) = 0
    · rw [if_pos h, if_pos h, w64_succ _ (by omega)]
      exact ih (i + 1) k (by omega) (by omega)
    · rw [if_neg h, if_neg h]
theorem first_eq (xs : List Int) (hn : xs.length ≤ 1000) (k : Nat) (hk : xs.length < k) : impl_first.f k xs = some (nz xs) :=
  first_l0 xs hn xs.length 0 k (by omega) hk

def tn (x : Int) : Int := (x + 512) / 1024
theorem mul_bd {p b M : Int} (hp : 0 ≤ p) (hp2 : p ≤ 1024) (hb : -M ≤ b) (hb2 : b ≤ M) : -(1024 * M) ≤ p * b ∧ p * b ≤ 1024 * M := by
  have h1 := Int.mul_le_mul_of_nonneg_left hb2 hp
  have h2 := Int.mul_le_mul_of_nonneg_left hb hp
  have h3 := Int.mul_le_mul_of_nonneg_right hp2 (show 0 ≤ M by omega)
  rw [Int.mul_neg] at h2
  omega
theorem tn_bd {x M : Int} (h0 : -(1024 * M) ≤ x) (h1 : x ≤ 1024 * M) : -M ≤ tn x ∧ tn x ≤ M := by unfold tn; omega
def forth (p u a b : Int) : Int × Int :=
  (a - tn (p * b) - tn (p * (b + tn (u * (a - tn (p * b))))), b + tn (u * (a - tn (p * b))))
def back (p u a b : Int) : Int × Int :=
  (a + tn (p * b) + tn (p * (b - tn (u * (a + tn (p * b))))), b - tn (u * (a + tn (p * b))))
def Valid (s n : Int) : Prop := (s = 4 ∧ (n = 0 ∨ n = 1)) ∨ (s = 8 ∧ (n = 0 ∨ n = 1 ∨ n = 2 ∨ n = 3)) ∨ (s = 16 ∧ (n = 0 ∨ n = 1 ∨ n = 2 ∨ n = 3 ∨ n = 4 ∨ n = 5 ∨ n = 6 ∨ n = 7))
def pu (s n : Int) : Int × Int := (impl_turnOf.f s n).getD (0, 0)
theorem turnOf_eq {s n : Int} (h : Valid s n) : impl_turnOf.f s n = some (pu s n) ∧ (0 ≤ (pu s n).1 ∧ (pu s n).1 ≤ 1024) ∧ (0 ≤ (pu s n).2 ∧ (pu s n).2 ≤ 1024) := by
  unfold Valid at h
  rcases h with ⟨rfl, rfl | rfl⟩ | ⟨rfl, rfl | rfl | rfl | rfl⟩ | ⟨rfl, rfl | rfl | rfl | rfl | rfl | rfl | rfl | rfl⟩ <;> exact ⟨rfl, by decide, by decide⟩

theorem l5P_eq {s n : Int} (h : Valid s n) : spec_l5P.f s n = some (pu s n).1 := by
  unfold Valid at h
  rcases h with ⟨rfl, rfl | rfl⟩ | ⟨rfl, rfl | rfl | rfl | rfl⟩ | ⟨rfl, rfl | rfl | rfl | rfl | rfl | rfl | rfl | rfl⟩ <;> (unfold spec_l5P.f wrap64; decide)

theorem l5U_eq {s n : Int} (h : Valid s n) : spec_l5U.f s n = some (pu s n).2 := by
  unfold Valid at h
  rcases h with ⟨rfl, rfl | rfl⟩ | ⟨rfl, rfl | rfl | rfl | rfl⟩ | ⟨rfl, rfl | rfl | rfl | rfl | rfl | rfl | rfl | rfl⟩ <;> (unfold spec_l5U.f wrap64; decide)

theorem turn_back_eq (p u a b : Int) (hp : 0 ≤ p ∧ p ≤ 1024) (hu : 0 ≤ u ∧ u ≤ 1024) (ha : -1125899906842624 ≤ a ∧ a ≤ 1125899906842624) (hb : -1125899906842624 ≤ b ∧ b ≤ 1125899906842624) : impl_turn_back.f p u a b = some (back p u a b) := by
  have m1 := mul_bd hp.1 hp.2 hb.1 hb.2
  have t1 := tn_bd m1.1 m1.2
  have m2 := mul_bd (b := a + tn (p * b)) (M := 2251799813685248) hu.1 hu.2 (by omega) (by omega)
  have t2 := tn_bd m2.1 m2.2
  have m3 := mul_bd (b := b - tn (u * (a + tn (p * b)))) (M := 4503599627370496) hp.1 hp.2 (by omega) (by omega)
  have t3 := tn_bd m3.1 m3.2
  unfold impl_turn_back.f
  rw [w64 (x := p * b) (by omega) (by omega), tenOf_eq _ (by omega) (by omega)]
  simp only [Option.bind_some]
  rw [show (p * b + 512) / 1024 = tn (p * b) from rfl, w64 (x := a + tn (p * b)) (by omega) (by omega), w64 (x := u * (a + tn (p * b))) (by omega) (by omega), tenOf_eq _ (by omega) (by omega)]
  simp only [Option.bind_some]
  rw [show (u * (a + tn (p * b)) + 512) / 1024 = tn (u * (a + tn (p * b))) from rfl, w64 (x := b - tn (u * (a + tn (p * b)))) (by omega) (by omega), w64 (x := p * (b - tn (u * (a + tn (p * b))))) (by omega) (by omega), tenOf_eq _ (by omega) (by omega)]
  simp only [Option.bind_some]
  rw [show (p * (b - tn (u * (a + tn (p * b)))) + 512) / 1024 = tn (p * (b - tn (u * (a + tn (p * b))))) from rfl, w64 (by omega) (by omega)]
  rfl

def sh (f b : Int) : Int := -((-(f * b)) / 1024)
theorem sh_bd {f b : Int} (hf : 0 ≤ f) (hf2 : f ≤ 1024) (hb : 0 ≤ b) : 0 ≤ sh f b ∧ sh f b ≤ b ∧ 0 ≤ f * b ∧ f * b ≤ 1024 * b := by
  have h1 := Int.mul_le_mul_of_nonneg_right hf2 hb
  have h2 := Int.mul_nonneg hf hb
  unfold sh
  omega
def tb (p u a b : Int) : Int × Int := (a + sh p b + sh p (b + sh u (a + sh p b)), b + sh u (a + sh p b))

theorem l8Share_eq (f b : Int) (hf : 0 ≤ f ∧ f ≤ 1024) (hb : 0 ≤ b ∧ b ≤ 1125899906842624) : spec_l8Share.f f b = some (sh f b) := by
  have h := sh_bd hf.1 hf.2 hb.1
  unfold spec_l8Share.f
  rw [w64 (x := f * b) (by omega) (by omega), l1Ceil_eq _ _ (by omega) (by omega) (by omega)]
  rfl

theorem share_eq (f b : Int) (hf : 0 ≤ f ∧ f ≤ 1024) (hb : 0 ≤ b ∧ b ≤ 1125899906842624) : impl_share.f f b = some (sh f b) := by
  have h := sh_bd hf.1 hf.2 hb.1
  unfold impl_share.f
  rw [w64 (x := f * b) (by omega) (by omega), ceilDiv_eq _ _ (by omega) (by omega) (by omega)]
  rfl

theorem turn_bounds_eq (p u a b : Int) (hp : 0 ≤ p ∧ p ≤ 1024) (hu : 0 ≤ u ∧ u ≤ 1024) (ha : 0 ≤ a ∧ a ≤ 140737488355328) (hb : 0 ≤ b ∧ b ≤ 140737488355328) : impl_turn_bounds.f p u a b = some (tb p u a b) := by
  have h1 := sh_bd hp.1 hp.2 hb.1
  have h2 := sh_bd (b := a + sh p b) hu.1 hu.2 (by omega)
  have h3 := sh_bd (b := b + sh u (a + sh p b)) hp.1 hp.2 (by omega)
  unfold impl_turn_bounds.f
  rw [share_eq p b hp (by omega)]
  simp only [Option.bind_some]
  rw [w64 (x := a + sh p b) (by omega) (by omega), share_eq u _ hu (by omega)]
  simp only [Option.bind_some]
  rw [w64 (x := b + sh u (a + sh p b)) (by omega) (by omega), share_eq p _ hp (by omega)]
  simp only [Option.bind_some]
  rw [w64 (by omega) (by omega)]
  rfl

theorem l8Turn_eq {s n : Int} (hv : Valid s n) (a b : Int) (ha : 0 ≤ a ∧ a ≤ 140737488355328) (hb : 0 ≤ b ∧ b ≤ 140737488355328) : spec_l8Turn.f s n a b = some (tb (pu s n).1 (pu s n).2 a b) := by
  obtain ⟨_, hp, hu⟩ := turnOf_eq hv
  have eP := l5P_eq hv
  have eU := l5U_eq hv
  generalize (pu s n).1 = p at hp eP ⊢
  generalize (pu s n).2 = u at hu eU ⊢
  have h1 := sh_bd hp.1 hp.2 hb.1
  have h2 := sh_bd (b := a + sh p b) hu.1 hu.2 (by omega)
  have h3 := sh_bd (b := b + sh u (a + sh p b)) hp.1 hp.2 (by omega)
  unfold spec_l8Turn.f
  rw [eP, eU]
  simp only [Option.bind_some]
  rw [l8Share_eq p b hp (by omega)]
  simp only [Option.bind_some]
  rw [w64 (x := a + sh p b) (by omega) (by omega), l8Share_eq u _ hu (by omega)]
  simp only [Option.bind_some]
  rw [w64 (x := b + sh u (a + sh p b)) (by omega) (by omega), l8Share_eq p _ hp (by omega)]
  simp only [Option.bind_some]
  rw [w64 (by omega) (by omega)]
  rfl

theorem l1All_l0 (xs : List Int) (lo hi : Int) (hn : xs.length ≤ 1000000000000) : ∀ (d i k : Nat), i + d = xs.length → d < k → spec_l1All.l0 k xs lo hi (i : Int) = some (allIn lo hi (xs.drop i)) := by
  intro d
  induction d with
  | zero =>
    intro i k hi' hk
    obtain ⟨k, rfl⟩ : ∃ m, k = m + 1 := ⟨k - 1, by omega⟩
    simp only [spec_l1All.l0]
    rw [if_neg (by omega), List.drop_of_length_le (by omega)]; rfl
  | succ d ih =>
    intro i k hi' hk
    obtain ⟨k, rfl⟩ : ∃ m, k = m + 1 := ⟨k - 1, by omega⟩
    simp only [spec_l1All.l0]
    rw [if_pos (by omega), if_pos (by omega), l1In_eq, drop_rd' xs i (by omega), allIn_cons]
    simp only [Option.bind_some]
    by_cases h : lo ≤ rd xs (i : Int) ∧ rd xs (i : Int) ≤ hi
    · rw [decide_eq_true h, if_pos rfl, w64_succ _ (by omega), ih (i + 1) k (by omega) (by omega)]; rfl
    · rw [decide_eq_false h]; rfl
theorem l1All_eq (xs : List Int) (lo hi : Int) (hn : xs.length ≤ 1000000000000) (k : Nat) (hk : xs.length < k) : spec_l1All.f k xs lo hi = some (allIn lo hi xs) :=
  l1All_l0 xs lo hi hn xs.length 0 k (by omega) hk

def faultS (a : Int) (x y : List Int) : Int := if sizeF a = 0 then (if (x.length : Int) = wrap64 (Int.tdiv a 2) then (if (y.length : Int) = wrap64 (Int.tdiv a 2) then (if allIn (-1073741824) 1073741824 x = true then (if allIn (-268435456) 268435456 y = true then 0 else 3) else 3) else 2) else 2) else sizeF a
theorem impl_faultS_eq (a : Int) (x y : List Int) (k : Nat) (hk : 10 < k) : impl_SynthFault.f k a x y = some (faultS a x y) := by
  have w1 : impl_allWithin.f x 1073741824 = some (allIn (-1073741824) 1073741824 x) := allWithin_eq x 1073741824 (by omega) (by omega)
  have w2 : impl_allWithin.f y 268435456 = some (allIn (-268435456) 268435456 y) := allWithin_eq y 268435456 (by omega) (by omega)
  unfold impl_SynthFault.f faultS impl_halfOf.f
  rw [impl_SizeFault_eq]
  simp only [Option.bind_some, w1, w2, codeIf_eq]
  have hf : ∀ p q r : Int, impl_first.f k [p, q, r] = some (nz [p, q, r]) := fun p q r => first_eq _ (by simp) k (by simp; omega)
  simp only [hf, nz]
  by_cases h : sizeF a = 0
  · by_cases g : (x.length : Int) = wrap64 (Int.tdiv a 2)
    · by_cases e : (y.length : Int) = wrap64 (Int.tdiv a 2)
      · by_cases p : allIn (-1073741824) 1073741824 x = true
        · by_cases q : allIn (-268435456) 268435456 y = true
          · simp [h, g, e, p, q]
          · simp [h, g, e, p, q]
        · simp [h, g, e, p]
      · by_cases p : allIn (-1073741824) 1073741824 x = true <;> simp [h, g, e, p]
    · by_cases p : allIn (-1073741824) 1073741824 x = true <;> simp [h, g, p]
  · by_cases g : (x.length : Int) = wrap64 (Int.tdiv a 2)
    · by_cases p : allIn (-1073741824) 1073741824 x = true <;> simp [h, g, p]
    · by_cases p : allIn (-1073741824) 1073741824 x = true <;> simp [h, g, p]

theorem bindS {α β : Type} (a : α) (f : α → Option β) : (some a).bind f = f a := by cases h : (some a).bind f <;> (rw [← h]; rfl)
def gen (n : Nat) (f : Nat → Int) : List Int := (List.range n).map f
theorem gen_length (n : Nat) (f : Nat → Int) : (gen n f).length = n := by simp [gen]
theorem rd_gen (n : Nat) (f : Nat → Int) {j : Nat} (h : j < n) : rd (gen n f) (j : Int) = f j := by
  rw [rd_get _ j (by rw [gen_length]; exact h)]; simp [gen]
theorem rd_out (xs : List Int) {j : Nat} (h : xs.length ≤ j) : rd xs (j : Int) = 0 := by
  rw [rd_nat, List.getD_eq_getElem?_getD, List.getElem?_eq_none h]; rfl
theorem rd_set (xs : List Int) {i : Nat} (v : Int) (h : i < xs.length) (j : Nat) : rd (xs.set i v) (j : Int) = if j = i then v else rd xs (j : Int) := by
  rw [rd_nat, rd_nat, List.getD_eq_getElem?_getD, List.getD_eq_getElem?_getD]
  by_cases e : j = i
  · subst e; rw [if_pos rfl, List.getElem?_set_self h]; rfl
  · rw [if_neg e, List.getElem?_set_ne (fun q => e q.symm)]
theorem ext_rd {xs ys : List Int} (hl : xs.length = ys.length) (h : ∀ j : Nat, j < xs.length → rd xs (j : Int) = rd ys (j : Int)) : xs = ys := by
  apply List.ext_getElem hl
  intro j h1 h2
  have := h j h1
  rwa [rd_get xs j h1, rd_get ys j h2] at this
theorem gen_succ (n : Nat) (f : Nat → Int) : gen (n + 1) f = gen n f ++ [f n] := by simp [gen, List.range_succ]
theorem gen_rd (xs : List Int) {n : Nat} (h : xs.length = n) : gen n (fun j => rd xs (j : Int)) = xs :=
  ext_rd (by rw [gen_length, h]) (fun j hj => by rw [gen_length] at hj; rw [rd_gen _ _ hj])
theorem gen_congr {n : Nat} {f g : Nat → Int} (h : ∀ j, j < n → f j = g j) : gen n f = gen n g :=
  ext_rd (by rw [gen_length, gen_length]) (fun j hj => by rw [gen_length] at hj; rw [rd_gen _ _ hj, rd_gen _ _ hj, h j hj])
theorem zeros_gen (n : Nat) : List.replicate n (0 : Int) = gen n (fun _ => 0) := List.ext_getElem (by simp [gen]) (fun i h1 h2 => by simp [gen])
/-- the last half of a list, written from both ends -/
def U (m : Nat) (f g : Nat → Int) (i : Nat) : List Int := gen (2 * m) fun j => if j < m then (if j < i then f j else 0) else (if 2 * m - 1 - j < i then g (2 * m - 1 - j) else 0)
theorem U_zero (m : Nat) (f g : Nat → Int) : U m f g 0 = List.replicate (2 * m) 0 := by
  rw [zeros_gen]; unfold U
  exact gen_congr (fun j _ => by by_cases h : j < m <;> simp [h])
theorem U_length (m : Nat) (f g : Nat → Int) (i : Nat) : (U m f g i).length = 2 * m := gen_length _ _
theorem U_step (m : Nat) (f g : Nat → Int) {i : Nat} (hi : i < m) : ((U m f g i).set i (f i)).set (2 * m - 1 - i) (g i) = U m f g (i + 1) := by
  refine ext_rd (by rw [List.length_set, List.length_set, U_length, U_length]) ?_
  intro j hj
  rw [List.length_set, List.length_set, U_length] at hj
  rw [rd_set _ _ (by rw [List.length_set, U_length]; omega), rd_set _ _ (by rw [U_length]; omega)]
  unfold U
  rw [rd_gen _ _ hj, rd_gen _ _ hj]
  by_cases h1 : j = 2 * m - 1 - i
  · rw [if_pos h1, if_neg (show ¬ j < m by omega), if_pos (show 2 * m - 1 - j < i + 1 by omega), show 2 * m - 1 - j = i by omega]
  · rw [if_neg h1]
    by_cases h2 : j = i
    · rw [if_pos h2, if_pos (show j < m by omega), if_pos (show j < i + 1 by omega), h2]
    · rw [if_neg h2]
      by_cases h3 : j < m
      · rw [if_pos h3, if_pos h3]
        by_cases h4 : j < i
        · rw [if_pos h4, if_pos (by omega)]
        · rw [if_neg h4, if_neg (by omega)]
      · rw [if_neg h3, if_neg h3]
        by_cases h4 : 2 * m - 1 - j < i
        · rw [if_pos h4, if_pos (by omega)]
        · rw [if_neg h4, if_neg (by omega)]
theorem U_end (m : Nat) (f g : Nat → Int) : U m f g m = gen (2 * m) fun j => if j < m then f j else g (2 * m - 1 - j) := by
  unfold U
  refine gen_congr (fun j hj => ?_)
  by_cases h : j < m
  · rw [if_pos h, if_pos h, if_pos h]
  · rw [if_neg h, if_neg h, if_pos (by omega)]
/-- a list turned from both ends -/
def W (m : Nat) (d : List Int) (f g : Nat → Int) (i : Nat) : List Int := gen m fun j => if j < i then f j else if m - 1 - j < i then g (m - 1 - j) else rd d (j : Int)
theorem W_zero (m : Nat) (d : List Int) (f g : Nat → Int) (h : d.length = m) : W m d f g 0 = d := by
  unfold W
  refine (gen_congr (fun j _ => ?_)).trans (gen_rd d h)
  rw [if_neg (by omega), if_neg (by omega)]
theorem W_length (m : Nat) (d : List Int) (f g : Nat → Int) (i : Nat) : (W m d f g i).length = m := gen_length _ _
theorem W_lo (m : Nat) (d : List Int) (f g : Nat → Int) {i : Nat} (h : 2 * (i + 1) ≤ m) : rd (W m d f g i) (i : Int) = rd d (i : Int) := by
  unfold W; rw [rd_gen _ _ (by omega), if_neg (by omega), if_neg (by omega)]
theorem W_hi (m : Nat) (d : List Int) (f g : Nat → Int) {i : Nat} (h : 2 * (i + 1) ≤ m) : rd (W m d f g i) ((m - 1 - i : Nat) : Int) = rd d ((m - 1 - i : Nat) : Int) := by
  unfold W; rw [rd_gen _ _ (by omega), if_neg (by omega), if_neg (by omega)]
theorem W_step (m : Nat) (d : List Int) (f g : Nat → Int) {i : Nat} (h : 2 * (i + 1) ≤ m) : ((W m d f g i).set i (f i)).set (m - 1 - i) (g i) = W m d f g (i + 1) := by
  refine ext_rd (by rw [List.length_set, List.length_set, W_length, W_length]) ?_
  intro j hj
  rw [List.length_set, List.length_set, W_length] at hj
  rw [rd_set _ _ (by rw [List.length_set, W_length]; omega), rd_set _ _ (by rw [W_length]; omega)]
  unfold W
  rw [rd_gen _ _ hj, rd_gen _ _ hj]
  by_cases h1 : j = m - 1 - i
  · rw [if_pos h1, if_neg (by omega), if_pos (by omega), show m - 1 - j = i by omega]
  · rw [if_neg h1]
    by_cases h2 : j = i
    · rw [if_pos h2, if_pos (by omega), h2]
    · rw [if_neg h2]
      by_cases h3 : j < i
      · rw [if_pos h3, if_pos (by omega)]
      · rw [if_neg h3, if_neg (show ¬ j < i + 1 by omega)]
        by_cases h4 : m - 1 - j < i
        · rw [if_pos h4, if_pos (by omega)]
        · rw [if_neg h4, if_neg (by omega)]
def twist (st : Nat → Int → Int → Int × Int) (q : Nat) (d : List Int) : List Int :=
  W d.length d (fun j => (st j (rd d (j : Int)) (rd d ((d.length - 1 - j : Nat) : Int))).1) (fun j => (st j (rd d (j : Int)) (rd d ((d.length - 1 - j : Nat) : Int))).2) q
theorem twist_length (st : Nat → Int → Int → Int × Int) (q : Nat) (d : List Int) : (twist st q d).length = d.length := W_length _ _ _ _ _
theorem twist_zero (st : Nat → Int → Int → Int × Int) (d : List Int) : twist st 0 d = d := W_zero _ _ _ _ rfl
theorem twist_lo (st : Nat → Int → Int → Int × Int) (d : List Int) {i : Nat} (h : 2 * (i + 1) ≤ d.length) : rd (twist st i d) (i : Int) = rd d (i : Int) := W_lo _ _ _ _ h
theorem twist_hi (st : Nat → Int → Int → Int × Int) (d : List Int) {i : Nat} (h : 2 * (i + 1) ≤ d.length) : rd (twist st i d) ((d.length - 1 - i : Nat) : Int) = rd d ((d.length - 1 - i : Nat) : Int) := W_hi _ _ _ _ h
theorem twist_step (st : Nat → Int → Int → Int × Int) (d : List Int) {i : Nat} (h : 2 * (i + 1) ≤ d.length) :
    ((twist st i d).set i (st i (rd d (i : Int)) (rd d ((d.length - 1 - i : Nat) : Int))).1).set (d.length - 1 - i) (st i (rd d (i : Int)) (rd d ((d.length - 1 - i : Nat) : Int))).2 = twist st (i + 1) d := W_step _ _ _ _ h
def Bd (M : Int) (xs : List Int) : Prop := ∀ j : Nat, -M ≤ rd xs (j : Int) ∧ rd xs (j : Int) ≤ M
theorem Bd.mono {M N : Int} {xs : List Int} (h : Bd M xs) (hm : M ≤ N) : Bd N xs := fun j => by have := h j; omega
theorem Bd_gen {n : Nat} {f : Nat → Int} {M : Int} (h0 : 0 ≤ M) (h : ∀ j, j < n → -M ≤ f j ∧ f j ≤ M) : Bd M (gen n f) := fun j => by
  by_cases hj : j < n
  · rw [rd_gen _ _ hj]; exact h j hj
  · rw [rd_out _ (by rw [gen_length]; omega)]; omega
theorem Bd_twist {st : Nat → Int → Int → Int × Int} {q : Nat} {d : List Int} {N M : Int} (h0 : 0 ≤ N) (hNM : N ≤ M) (hq : 2 * q ≤ d.length) (hd : Bd N d)
    (hs : ∀ i a b, i < q → (-N ≤ a ∧ a ≤ N) → (-N ≤ b ∧ b ≤ N) → (-M ≤ (st i a b).1 ∧ (st i a b).1 ≤ M) ∧ (-M ≤ (st i a b).2 ∧ (st i a b).2 ≤ M)) : Bd M (twist st q d) := by
  unfold twist W
  refine Bd_gen (by omega) (fun j hj => ?_)
  by_cases h1 : j < q
  · rw [if_pos h1]; exact (hs j _ _ h1 (hd _) (hd _)).1
  · rw [if_neg h1]
    by_cases h2 : d.length - 1 - j < q
    · rw [if_pos h2]; exact (hs _ _ _ h2 (hd _) (hd _)).2
    · rw [if_neg h2]; have := hd j; omega
def outs (pf : Int → Int → Int × Int) (s e : List Int) : List Int := gen (2 * s.length) fun j => if j < s.length then (pf (rd s (j : Int)) (rd e (j : Int))).1 else (pf (rd s ((2 * s.length - 1 - j : Nat) : Int)) (rd e ((2 * s.length - 1 - j : Nat) : Int))).2
def uniteM (st : Nat → Nat → Int → Int → Int × Int) (pf : Int → Int → Int × Int) (s d : List Int) : List Int := outs pf s (twist (st (2 * s.length)) (s.length / 2) d)
theorem uniteM_length (st : Nat → Nat → Int → Int → Int × Int) (pf : Int → Int → Int × Int) (s d : List Int) : (uniteM st pf s d).length = 2 * s.length := gen_length _ _
def evens (c : List Int) : List Int := gen (c.length / 2) fun j => rd c ((2 * j : Nat) : Int)
def odds (c : List Int) : List Int := gen (c.length / 2) fun j => rd c ((2 * j + 1 : Nat) : Int)
def gatherM (st : Nat → Nat → Int → Int → Int × Int) (pf : Int → Int → Int × Int) : Nat → List Int → List Int
  | 0, c => c
  | L + 1, c => uniteM st pf (gatherM st pf L (evens c)) (gatherM st pf L (odds c))
theorem gatherM_length (st : Nat → Nat → Int → Int → Int × Int) (pf : Int → Int → Int × Int) : ∀ (L : Nat) (c : List Int), c.length = 2 ^ L → (gatherM st pf L c).length = 2 ^ L := by
  intro L
  induction L with
  | zero => intro c h; exact h
  | succ L ih =>
    intro c h
    rw [Nat.pow_succ] at h
    rw [gatherM, uniteM_length, ih _ (by unfold evens; rw [gen_length]; omega), Nat.pow_succ]; omega
theorem Bd_evens {M : Int} {c : List Int} (h0 : 0 ≤ M) (h : Bd M c) : Bd M (evens c) := Bd_gen h0 (fun j _ => h _)
theorem Bd_odds {M : Int} {c : List Int} (h0 : 0 ≤ M) (h : Bd M c) : Bd M (odds c) := Bd_gen h0 (fun j _ => h _)
def Sz (m : Nat) : Prop := m = 1 ∨ m = 2 ∨ m = 4 ∨ m = 8
theorem idx1 {m i : Nat} (hm : m ≤ 8) (hi : i < m) : wrap64 (wrap64 (wrap64 (Int.tdiv ((2 * m : Nat) : Int) 2) - 1) - (i : Int)) = ((m - 1 - i : Nat) : Int) := by
  rw [tdiv_pos (by omega), w64 (x := ((2 * m : Nat) : Int) / 2) (by omega) (by omega), w64 (x := ((2 * m : Nat) : Int) / 2 - 1) (by omega) (by omega), w64 (by omega) (by omega)]
  omega
theorem idx2 {m i : Nat} (hm : m ≤ 8) (hi : i < 2 * m) : wrap64 (wrap64 (((2 * m : Nat) : Int) - 1) - (i : Int)) = ((2 * m - 1 - i : Nat) : Int) := by
  rw [w64 (x := ((2 * m : Nat) : Int) - 1) (by omega) (by omega), w64 (by omega) (by omega)]
  omega
theorem quart {m : Nat} (hm : m ≤ 8) : wrap64 (Int.tdiv ((2 * m : Nat) : Int) 4) = ((m / 2 : Nat) : Int) := by
  rw [tdiv_pos (by omega), w64 (by omega) (by omega)]; omega
theorem halfI {m : Nat} (hm : m ≤ 8) : wrap64 (Int.tdiv ((2 * m : Nat) : Int) 2) = (m : Int) := by
  rw [tdiv_pos (by omega), w64 (by omega) (by omega)]; omega

theorem cloneI_eq (xs : List Int) (h : xs.length ≤ 1000000) : slices_Clone_int64_int64.f xs = some xs := by
  unfold slices_Clone_int64_int64.f; rw [if_pos (by omega)]

theorem concatI_eq (xs ys : List Int) (h : xs.length + ys.length < 100000000) (K : Nat) : slices_Concat_int64_int64.f (K + 1 + 1 + 1 + 1 + 1 + 1) [xs, ys] = some (xs ++ ys) := by
  have s0 : wrap64 (0 + 1) = 1 := by unfold wrap64; decide
  have s1 : wrap64 (1 + 1) = 2 := by unfold wrap64; decide
  have r0 : rd_L1 [xs, ys] 0 = xs := rfl
  have r1 : rd_L1 [xs, ys] 1 = ys := rfl
  have l2 : (([xs, ys] : List (List Int)).length : Int) = 2 := rfl
  unfold slices_Concat_int64_int64.f
  rw [slices_Concat_int64_int64.l0, l2, if_pos (by omega), if_pos (by omega), if_pos (by omega), r0, w64 (x := 0 + (xs.length : Int)) (by omega) (by omega), if_neg (by omega), s0]
  rw [slices_Concat_int64_int64.l0, l2, if_pos (by omega), if_pos (by omega), if_pos (by omega), r1, w64 (x := 0 + (xs.length : Int) + (ys.length : Int)) (by omega) (by omega), if_neg (by omega), s1]
  rw [slices_Concat_int64_int64.l0, if_neg (by omega)]
  unfold slices_Grow_int64_int64.f
  rw [if_pos (by omega)]
  simp only [Option.bind_some]
  rw [slices_Concat_int64_int64.l1, l2, if_pos (by omega), if_pos (by omega), if_pos (by omega), r0, if_pos (by simp; omega), s0]
  rw [slices_Concat_int64_int64.l1, l2, if_pos (by omega), if_pos (by omega), if_pos (by omega), r1, if_pos (by simp; omega), s1]
  rw [slices_Concat_int64_int64.l1, if_neg (by omega)]
  rfl

theorem Bd_all {N : Int} {xs : List Int} (h0 : 0 ≤ N) (h : allIn (-N) N xs = true) : Bd N xs := fun j => by
  by_cases hj : j < xs.length
  · rw [rd_get xs j hj]; exact (allIn_iff _ _ _).1 h _ (List.getElem_mem hj)
  · rw [rd_out _ (by omega)]; omega
def lvl (n : Nat) : Nat := if n = 4 then 2 else if n = 8 then 3 else 4
theorem iUnite_l0 (S0 : Int → Int → Int → Int → Option (Int × Int)) (S1 : Int → Int → Option (Int × Int)) (s d o : List Int) (st : Nat → Int → Int → Int × Int) (m : Nat) (hm : m ≤ 8) (hd : d.length = m)
    (hst : ∀ i, i < m / 2 → S0 ((2 * m : Nat) : Int) (i : Int) (rd d (i : Int)) (rd d ((m - 1 - i : Nat) : Int)) = some (st i (rd d (i : Int)) (rd d ((m - 1 - i : Nat) : Int)))) :
    ∀ (dd i k K : Nat), i + dd = m / 2 → K = k + dd + 1 → impl_undo_unite.l0 K s (twist st i d) ((2 * m : Nat) : Int) o ((m / 2 : Nat) : Int) (i : Int) S0 S1 = impl_undo_unite.l1 k s (twist st (m / 2) d) ((2 * m : Nat) : Int) o (s.length : Int) 0 S0 S1 := by
  intro dd
  induction dd with
  | zero =>
    intro i k K hi hK
    obtain rfl : K = k + 1 := by omega
    simp only [impl_undo_unite.l0]
    rw [if_neg (by omega), show i = m / 2 by omega]
  | succ dd ih =>
    intro i k K hi hK
    have hl : (twist st i d).length = m := by rw [twist_length, hd]
    have h2 : 2 * (i + 1) ≤ d.length := by omega
    have e1 := twist_lo st d h2
    have e2 := twist_hi st d h2
    have e3 := twist_step st d h2
    rw [hd] at e2 e3
    obtain ⟨K, rfl⟩ : ∃ q, K = q + 1 := ⟨K - 1, by omega⟩
    simp only [impl_undo_unite.l0, idx1 hm (show i < m by omega), hl, e1, e2]
    rw [if_pos (by omega), if_pos (by omega), if_pos (by omega), if_pos (by omega), if_pos (by omega), hst i (by omega)]
    simp only [Option.bind_some]
    rw [w64_succ _ (by omega), Int.toNat_natCast, Int.toNat_natCast, e3]
    exact ih (i + 1) k K (by omega) (by omega)
theorem iUnite_l1 (S0 : Int → Int → Int → Int → Option (Int × Int)) (S1 : Int → Int → Option (Int × Int)) (s e : List Int) (pf : Int → Int → Int × Int) (m : Nat) (hm : m ≤ 8) (hs : s.length = m) (he : e.length = m)
    (hpf : ∀ i : Nat, i < m → S1 (rd s (i : Int)) (rd e (i : Int)) = some (pf (rd s (i : Int)) (rd e (i : Int)))) :
    ∀ (dd i k : Nat), i + dd = m → dd < k → impl_undo_unite.l1 k s e ((2 * m : Nat) : Int) (U m (fun j => (pf (rd s (j : Int)) (rd e (j : Int))).1) (fun j => (pf (rd s (j : Int)) (rd e (j : Int))).2) i) (m : Int) (i : Int) S0 S1 = some (outs pf s e, e) := by
  intro dd
  induction dd with
  | zero =>
    intro i k hi hk
    obtain ⟨k, rfl⟩ : ∃ q, k = q + 1 := ⟨k - 1, by omega⟩
    simp only [impl_undo_unite.l1]
    rw [if_neg (by omega), show i = m by omega, U_end]
    unfold outs; rw [hs]
  | succ dd ih =>
    intro i k hi hk
    obtain ⟨k, rfl⟩ : ∃ q, k = q + 1 := ⟨k - 1, by omega⟩
    have e3 := U_step m (fun j => (pf (rd s (j : Int)) (rd e (j : Int))).1) (fun j => (pf (rd s (j : Int)) (rd e (j : Int))).2) (show i < m by omega)
    simp only [impl_undo_unite.l1, idx2 hm (show i < 2 * m by omega), U_length]
    rw [if_pos (by omega), if_pos (by omega), if_pos (by omega), if_pos (by omega), hpf i (by omega)]
    simp only [Option.bind_some]
    rw [if_pos (by omega), if_pos (by omega), if_pos (by omega), w64_succ _ (by omega), Int.toNat_natCast, Int.toNat_natCast, e3]
    exact ih (i + 1) k (by omega) (by omega)
theorem impl_unite_eq (S0 : Int → Int → Int → Int → Option (Int × Int)) (S1 : Int → Int → Option (Int × Int)) (st : Nat → Nat → Int → Int → Int × Int) (pf : Int → Int → Int × Int) (s d : List Int) (m : Nat) (hm : m ≤ 8) (hs : s.length = m) (hd : d.length = m)
    (hst : ∀ i, i < m / 2 → S0 ((2 * m : Nat) : Int) (i : Int) (rd d (i : Int)) (rd d ((m - 1 - i : Nat) : Int)) = some (st (2 * m) i (rd d (i : Int)) (rd d ((m - 1 - i : Nat) : Int))))
    (hpf : ∀ i : Nat, i < m → S1 (rd s (i : Int)) (rd (twist (st (2 * m)) (m / 2) d) (i : Int)) = some (pf (rd s (i : Int)) (rd (twist (st (2 * m)) (m / 2) d) (i : Int)))) (k : Nat) (hk : 40 ≤ k) :
    impl_undo_unite.f k S0 S1 s d = some (uniteM st pf s d, twist (st (2 * m)) (m / 2) d) := by
  unfold impl_undo_unite.f
  have e0 : wrap64 (2 * (s.length : Int)) = ((2 * m : Nat) : Int) := by rw [w64 (by omega) (by omega)]; omega
  rw [e0, if_pos (by omega), if_pos (by omega), quart hm, Int.toNat_natCast]
  have h1 := iUnite_l0 S0 S1 s d (List.replicate (2 * m) 0) (st (2 * m)) m hm hd hst (m / 2) 0 (k - m / 2 - 1) k (by omega) (by omega)
  rw [twist_zero] at h1
  refine h1.trans ?_
  have h2 := iUnite_l1 S0 S1 s (twist (st (2 * m)) (m / 2) d) pf m hm hs (by rw [twist_length, hd]) hpf m 0 (k - m / 2 - 1) (by omega) (by omega)
  rw [U_zero] at h2
  unfold uniteM
  rw [hs]
  exact h2

theorem rot_crude {p u a b N : Int} (hp : 0 ≤ p ∧ p ≤ 1024) (hu : 0 ≤ u ∧ u ≤ 1024) (h0 : 0 ≤ N) (ha : -N ≤ a ∧ a ≤ N) (hb : -N ≤ b ∧ b ≤ N) :
    ((-(5 * N) ≤ (forth p u a b).1 ∧ (forth p u a b).1 ≤ 5 * N) ∧ (-(5 * N) ≤ (forth p u a b).2 ∧ (forth p u a b).2 ≤ 5 * N)) ∧ ((-(5 * N) ≤ (back p u a b).1 ∧ (back p u a b).1 ≤ 5 * N) ∧ (-(5 * N) ≤ (back p u a b).2 ∧ (back p u a b).2 ≤ 5 * N)) := by
  have m1 := mul_bd hp.1 hp.2 hb.1 hb.2
  have t1 := tn_bd m1.1 m1.2
  have m2 := mul_bd (b := a - tn (p * b)) (M := 2 * N) hu.1 hu.2 (by omega) (by omega)
  have t2 := tn_bd m2.1 m2.2
  have m3 := mul_bd (b := b + tn (u * (a - tn (p * b)))) (M := 3 * N) hp.1 hp.2 (by omega) (by omega)
  have t3 := tn_bd m3.1 m3.2
  have n2 := mul_bd (b := a + tn (p * b)) (M := 2 * N) hu.1 hu.2 (by omega) (by omega)
  have s2 := tn_bd n2.1 n2.2
  have n3 := mul_bd (b := b - tn (u * (a + tn (p * b)))) (M := 3 * N) hp.1 hp.2 (by omega) (by omega)
  have s3 := tn_bd n3.1 n3.2
  unfold forth back
  simp only
  clear m1 m2 m3 n2 n3
  generalize tn (p * (b + tn (u * (a - tn (p * b))))) = x3 at t3 ⊢
  generalize tn (p * (b - tn (u * (a + tn (p * b))))) = y3 at s3 ⊢
  generalize tn (u * (a - tn (p * b))) = x2 at t2 ⊢
  generalize tn (u * (a + tn (p * b))) = y2 at s2 ⊢
  generalize tn (p * b) = x1 at t1 ⊢
  omega
def backS (n i : Nat) (a b : Int) : Int × Int := back (pu (n : Int) (i : Int)).1 (pu (n : Int) (i : Int)).2 a b
def pf (s d : Int) : Int × Int := (s - d / 2 + d, s - d / 2)
def mx (a b : Int) : Int × Int := (b + (a - b) / 2, a - b)
theorem valid_of {m i : Nat} (hm : Sz m) (hi : i < m / 2) : Valid ((2 * m : Nat) : Int) (i : Int) := by
  unfold Sz at hm
  unfold Valid
  rcases hm with rfl | rfl | rfl | rfl
  · omega
  · exact .inl ⟨rfl, by omega⟩
  · exact .inr (.inl ⟨rfl, by omega⟩)
  · exact .inr (.inr ⟨rfl, by omega⟩)
theorem Sz.le {m : Nat} (h : Sz m) : 1 ≤ m ∧ m ≤ 8 := by unfold Sz at h; omega
theorem Bd_back {m : Nat} (hm : Sz m) {d : List Int} (hd : d.length = m) {N M : Int} (hN : 0 ≤ N) (hM : 5 * N ≤ M) (h : Bd N d) : Bd M (twist (backS (2 * m)) (m / 2) d) := by
  refine Bd_twist (N := N) (by omega) (by omega) (by omega) h ?_
  intro i a b hi ha hb
  obtain ⟨_, hp, hu⟩ := turnOf_eq (valid_of hm hi)
  have := (rot_crude hp hu hN ha hb).2
  unfold backS
  omega
theorem Bd_outs {s e : List Int} {A N M : Int} (hA : 0 ≤ A) (hN : 0 ≤ N) (hM : 2 * A + N + 1 ≤ 2 * M) (hs : Bd A s) (he : Bd N e) : Bd M (outs pf s e) := by
  unfold outs pf
  refine Bd_gen (by omega) (fun j hj => ?_)
  by_cases h : j < s.length
  · rw [if_pos h]
    have h1 := hs j
    have h2 := he j
    simp only
    omega
  · rw [if_neg h]
    have h1 := hs (2 * s.length - 1 - j)
    have h2 := he (2 * s.length - 1 - j)
    simp only
    omega
theorem Bd_unite {m : Nat} (hm : Sz m) {s d : List Int} (hs : s.length = m) (hd : d.length = m) {N : Int} (hN : 1 ≤ N) (h1 : Bd N s) (h2 : Bd N d) : Bd (4 * N) (uniteM backS pf s d) := by
  unfold uniteM
  rw [hs]
  have := Bd_back hm hd (M := 5 * N) (by omega) (by omega) h2
  exact Bd_outs (A := N) (N := 5 * N) (by omega) (by omega) (by omega) h1 this

theorem rot_both {s n : Int} (hv : Valid s n) {a b N : Int} (hN : 24 ≤ N) (ha : -N ≤ a ∧ a ≤ N) (hb : -N ≤ b ∧ b ≤ N) :
    ((-(3 * N) ≤ 2 * (forth (pu s n).1 (pu s n).2 a b).1 ∧ 2 * (forth (pu s n).1 (pu s n).2 a b).1 ≤ 3 * N) ∧ (-(3 * N) ≤ 2 * (forth (pu s n).1 (pu s n).2 a b).2 ∧ 2 * (forth (pu s n).1 (pu s n).2 a b).2 ≤ 3 * N)) ∧
    ((-(3 * N) ≤ 2 * (back (pu s n).1 (pu s n).2 a b).1 ∧ 2 * (back (pu s n).1 (pu s n).2 a b).1 ≤ 3 * N) ∧ (-(3 * N) ≤ 2 * (back (pu s n).1 (pu s n).2 a b).2 ∧ 2 * (back (pu s n).1 (pu s n).2 a b).2 ≤ 3 * N)) := by
  unfold Valid at hv
  have e1 : pu 4 0 = (101, 200) := rfl
  have e2 : pu 4 1 = (311, 569) := rfl
  have f1 : pu 8 0 = (50, 100) := rfl
  have f2 : pu 8 1 = (152, 297) := rfl
  have f3 : pu 8 2 = (257, 483) := rfl
  have f4 : pu 8 3 = (366, 650) := rfl
  have g1 : pu 16 0 = (25, 50) := rfl
  have g2 : pu 16 1 = (76, 150) := rfl
  have g3 : pu 16 2 = (126, 249) := rfl
  have g4 : pu 16 3 = (178, 345) := rfl
  have g5 : pu 16 4 = (230, 438) := rfl
  have g6 : pu 16 5 = (283, 526) := rfl
  have g7 : pu 16 6 = (338, 610) := rfl
  have g8 : pu 16 7 = (395, 688) := rfl
  rcases hv with ⟨rfl, rfl | rfl⟩ | ⟨rfl, rfl | rfl | rfl | rfl⟩ | ⟨rfl, rfl | rfl | rfl | rfl | rfl | rfl | rfl | rfl⟩ <;>
    (simp only [e1, e2, f1, f2, f3, f4, g1, g2, g3, g4, g5, g6, g7, g8, forth, back, tn]; clear e1 e2 f1 f2 f3 f4 g1 g2 g3 g4 g5 g6 g7 g8; refine ⟨⟨⟨?_, ?_⟩, ?_, ?_⟩, ⟨?_, ?_⟩, ?_, ?_⟩ <;> omega)
theorem Bf_back {m : Nat} (hm : Sz m) {d : List Int} (hd : d.length = m) {N M : Int} (hN : 24 ≤ N) (hM : 3 * N ≤ 2 * M) (h : Bd N d) : Bd M (twist (backS (2 * m)) (m / 2) d) := by
  refine Bd_twist (N := N) (by omega) (by omega) (by omega) h ?_
  intro i a b hi ha hb
  have := (rot_both (valid_of hm hi) hN ha hb).2
  exact ⟨⟨by have := this.1.1; unfold backS; omega, by have := this.1.2; unfold backS; omega⟩, ⟨by have := this.2.1; unfold backS; omega, by have := this.2.2; unfold backS; omega⟩⟩
theorem Bf_unite {m : Nat} (hm : Sz m) {s d : List Int} (hs : s.length = m) (hd : d.length = m) {N : Int} (hN : 24 ≤ N) (h1 : Bd N s) (h2 : Bd N d) : Bd (2 * N) (uniteM backS pf s d) := by
  unfold uniteM
  rw [hs]
  have := Bf_back hm hd (M := (3 * N + 1) / 2) hN (by omega) h2
  exact Bd_outs (A := N) (N := (3 * N + 1) / 2) (by omega) (by omega) (by omega) h1 this

theorem size_m {a : Int} (h : sizeF a = 0) : ∃ m : Nat, (m = 2 ∨ m = 4 ∨ m = 8) ∧ a = ((2 * m : Nat) : Int) := by
  rcases sizeF_cases a with ⟨_, h4 | h8 | h16⟩ | ⟨h3, _⟩
  · exact ⟨2, .inl rfl, h4⟩
  · exact ⟨4, .inr (.inl rfl), h8⟩
  · exact ⟨8, .inr (.inr rfl), h16⟩
  · omega
theorem lvl_m {m : Nat} (h : m = 2 ∨ m = 4 ∨ m = 8) : 2 * m = 2 ^ lvl (2 * m) ∧ lvl (2 * m) ≤ 4 := by
  rcases h with rfl | rfl | rfl <;> decide

def SA (m : Nat) (f z : Nat → Int) (i : Nat) : List Int := gen m fun j => if m - 1 - j < i then f (m - 1 - j) else z j
def SB (m : Nat) (g z : Nat → Int) (i : Nat) : List Int := gen m fun j => if j < i then g j else z j
theorem SA_length (m : Nat) (f z : Nat → Int) (i : Nat) : (SA m f z i).length = m := gen_length _ _
theorem SB_length (m : Nat) (g z : Nat → Int) (i : Nat) : (SB m g z i).length = m := gen_length _ _
theorem SA_zero (m : Nat) (f z : Nat → Int) : SA m f z 0 = gen m z := gen_congr fun j _ => if_neg (by omega)
theorem SB_zero (m : Nat) (f z : Nat → Int) : SB m f z 0 = gen m z := gen_congr fun j _ => if_neg (by omega)
theorem SA_end (m : Nat) (f z : Nat → Int) : SA m f z m = gen m fun j => f (m - 1 - j) := gen_congr fun j _ => if_pos (by omega)
theorem SB_end (m : Nat) (f z : Nat → Int) : SB m f z m = gen m f := gen_congr fun j hj => if_pos hj
theorem SA_at (m : Nat) (f z : Nat → Int) {i : Nat} (h : i < m) : rd (SA m f z i) ((m - 1 - i : Nat) : Int) = z (m - 1 - i) := by
  unfold SA; rw [rd_gen _ _ (by omega), if_neg (by omega)]
theorem SB_at (m : Nat) (f z : Nat → Int) {i : Nat} (h : i < m) : rd (SB m f z i) (i : Int) = z i := by
  unfold SB; rw [rd_gen _ _ (by omega), if_neg (by omega)]
theorem SA_step (m : Nat) (f z : Nat → Int) {i : Nat} (h : i < m) : (SA m f z i).set (m - 1 - i) (f i) = SA m f z (i + 1) := by
  refine ext_rd (by rw [List.length_set, SA_length, SA_length]) ?_
  intro j hj
  rw [List.length_set, SA_length] at hj
  rw [rd_set _ _ (by rw [SA_length]; omega)]
  unfold SA
  rw [rd_gen _ _ hj, rd_gen _ _ hj]
  by_cases e : j = m - 1 - i
  · rw [if_pos e, if_pos (by omega), show m - 1 - j = i by omega]
  · rw [if_neg e]
    by_cases g : m - 1 - j < i
    · rw [if_pos g, if_pos (by omega)]
    · rw [if_neg g, if_neg (by omega)]
theorem SB_step (m : Nat) (f z : Nat → Int) {i : Nat} (h : i < m) : (SB m f z i).set i (f i) = SB m f z (i + 1) := by
  refine ext_rd (by rw [List.length_set, SB_length, SB_length]) ?_
  intro j hj
  rw [List.length_set, SB_length] at hj
  rw [rd_set _ _ (by rw [SB_length]; omega)]
  unfold SB
  rw [rd_gen _ _ hj, rd_gen _ _ hj]
  by_cases e : j = i
  · rw [if_pos e, if_pos (by omega), e]
  · rw [if_neg e]
    by_cases g : j < i
    · rw [if_pos g, if_pos (by omega)]
    · rw [if_neg g, if_neg (by omega)]
/-- What a seam tells, by what each step tells. -/
def seamA (m : Nat) (F : Nat → Int × Int) : List Int := gen m fun j => (F (m - 1 - j)).1
def seamB (m : Nat) (F : Nat → Int × Int) : List Int := gen m fun j => (F j).2
theorem seamA_length (m : Nat) (F : Nat → Int × Int) : (seamA m F).length = m := gen_length _ _
theorem seamB_length (m : Nat) (F : Nat → Int × Int) : (seamB m F).length = m := gen_length _ _
theorem idxS {m i : Nat} (hm : m ≤ 8) (hi : i < m) : wrap64 (wrap64 ((m : Int) - 1) - (i : Int)) = ((m - 1 - i : Nat) : Int) := by
  rw [w64 (x := (m : Int) - 1) (by omega) (by omega), w64 (by omega) (by omega)]; omega
def stB (m : Nat) (a b : List Int) (i : Nat) : Int × Int := backS (2 * m) i (rd a ((m - 1 - i : Nat) : Int)) (rd b (i : Int))
theorem validS {m i : Nat} (hm : m = 2 ∨ m = 4 ∨ m = 8) (hi : i < m) : Valid ((2 * m : Nat) : Int) (i : Int) := by
  unfold Valid; omega
theorem Bd_seam {m : Nat} {F : Nat → Int × Int} {M : Int} (h0 : 0 ≤ M) (h : ∀ i, i < m → (-M ≤ (F i).1 ∧ (F i).1 ≤ M) ∧ (-M ≤ (F i).2 ∧ (F i).2 ≤ M)) : Bd M (seamA m F) ∧ Bd M (seamB m F) :=
  ⟨Bd_gen h0 fun j hj => (h (m - 1 - j) (by omega)).1, Bd_gen h0 fun j hj => (h j hj).2⟩
theorem Bd_append {N : Int} (h0 : 0 ≤ N) {xs ys : List Int} (hx : Bd N xs) (hy : Bd N ys) : Bd N (xs ++ ys) := by
  intro j
  by_cases h : j < xs.length
  · have := hx j
    rw [rd_nat] at this ⊢
    rw [List.getD_eq_getElem?_getD] at this ⊢
    rwa [List.getElem?_append_left h]
  · have := hy (j - xs.length)
    rw [rd_nat] at this ⊢
    rw [List.getD_eq_getElem?_getD] at this ⊢
    rwa [List.getElem?_append_right (by omega)]
theorem Bd_take {N : Int} (h0 : 0 ≤ N) {xs : List Int} (n : Nat) (hx : Bd N xs) : Bd N (xs.take n) := by
  intro j
  have := hx j
  rw [rd_nat, List.getD_eq_getElem?_getD] at this ⊢
  rw [List.getElem?_take]
  split
  · exact this
  · exact ⟨by show -N ≤ (0 : Int); omega, h0⟩
theorem Bd_drop {N : Int} {xs : List Int} (n : Nat) (hx : Bd N xs) : Bd N (xs.drop n) := by
  intro j
  have := hx (n + j)
  rw [rd_nat, List.getD_eq_getElem?_getD] at this ⊢
  rwa [List.getElem?_drop]

theorem iSeam_l0 {m : Nat} (hm : m ≤ 8) (S : Int → Int → Int → Option (Int × Int)) (F : Nat → Int × Int) (za zb : Nat → Int) (h : ∀ i, i < m → S (i : Int) (za (m - 1 - i)) (zb i) = some (F i)) : ∀ (d i K : Nat), i + d = m → d < K →
    impl_seam.l0 K S (SA m (fun i => (F i).1) za i) (SB m (fun i => (F i).2) zb i) (m : Int) (i : Int) = some (seamA m F, seamB m F) := by
  intro d
  induction d with
  | zero =>
    intro i K hi hK
    obtain ⟨K, rfl⟩ : ∃ q, K = q + 1 := ⟨K - 1, by omega⟩
    obtain rfl : i = m := by omega
    rw [impl_seam.l0, if_neg (by omega), SA_end, SB_end]; rfl
  | succ d ih =>
    intro i K hi hK
    obtain ⟨K, rfl⟩ : ∃ q, K = q + 1 := ⟨K - 1, by omega⟩
    have ix := idxS hm (show i < m by omega)
    rw [impl_seam.l0, SA_length, SB_length, ix, SA_at _ _ _ (by omega), SB_at _ _ _ (by omega), h i (by omega)]
    rw [if_pos (by omega), if_pos (by omega), if_pos (by omega), if_pos (by omega), if_pos (by omega), bindS, Int.toNat_natCast, Int.toNat_natCast, w64_succ i (by omega)]
    have e1 := SA_step m (fun i => (F i).1) za (i := i) (by omega)
    have e2 := SB_step m (fun i => (F i).2) zb (i := i) (by omega)
    rw [e1, e2]
    exact ih (i + 1) K (by omega) (by omega)
theorem iSeam {m : Nat} (hm : m ≤ 8) (S : Int → Int → Int → Option (Int × Int)) (F : Nat → Int × Int) (a b : List Int) (ha : a.length = m) (hb : b.length = m) (h : ∀ i : Nat, i < m → S (i : Int) (rd a ((m - 1 - i : Nat) : Int)) (rd b (i : Int)) = some (F i)) (K : Nat) (hK : 20 ≤ K) :
    impl_seam.f K a b S = some (seamA m F, seamB m F) := by
  unfold impl_seam.f
  rw [cloneI_eq a (by omega), bindS, cloneI_eq b (by omega), bindS, hb]
  have := iSeam_l0 hm S F (fun j => rd a (j : Int)) (fun j => rd b (j : Int)) h m 0 K (by omega) (by omega)
  rw [SA_zero, SB_zero, gen_rd a ha, gen_rd b hb] at this
  exact this

theorem zerosB_eq {m : Nat} (hm : m ≤ 1000) : spec_l1Zeros.f (m : Int) = some (gen m fun _ => 0) := by
  unfold spec_l1Zeros.f
  rw [if_pos (by omega), Int.toNat_natCast, if_pos (by omega), zeros_gen]
theorem bSeam_l0 {m : Nat} (hm : m ≤ 8) (s : Int) (F : Nat → Int × Int) (a b : List Int) (ha : a.length = m) (hb : b.length = m)
    (h : ∀ i : Nat, i < m → spec_l8Turn.f s (i : Int) (rd a ((m - 1 - i : Nat) : Int)) (rd b (i : Int)) = some (F i)) : ∀ (d i K : Nat), i + d = m → d < K →
    spec_l8Seam.l0 K s a b (m : Int) (SA m (fun i => (F i).1) (fun _ => 0) i) (SB m (fun i => (F i).2) (fun _ => 0) i) (i : Int) = some (seamA m F, seamB m F) := by
  intro d
  induction d with
  | zero =>
    intro i K hi hK
    obtain ⟨K, rfl⟩ : ∃ q, K = q + 1 := ⟨K - 1, by omega⟩
    obtain rfl : i = m := by omega
    rw [spec_l8Seam.l0, if_neg (by omega), SA_end, SB_end]; rfl
  | succ d ih =>
    intro i K hi hK
    obtain ⟨K, rfl⟩ : ∃ q, K = q + 1 := ⟨K - 1, by omega⟩
    have ix := idxS hm (show i < m by omega)
    have e1 := SA_step m (fun i => (F i).1) (fun _ => 0) (i := i) (by omega)
    have e2 := SB_step m (fun i => (F i).2) (fun _ => 0) (i := i) (by omega)
    have hh := h i (by omega)
    have ih' := ih (i + 1) K (by omega) (by omega)
    rw [spec_l8Seam.l0, SA_length, SB_length, ix, hh]
    rw [if_pos (by omega), if_pos (by omega), if_pos (by omega), if_pos (by omega), if_pos (by omega), bindS, if_pos (by omega), if_pos (by omega), Int.toNat_natCast, Int.toNat_natCast, w64_succ i (by omega), e1, e2]
    exact ih'
theorem bSeam {m : Nat} (hm : m ≤ 8) (F : Nat → Int × Int) (a b : List Int) (ha : a.length = m) (hb : b.length = m)
    (h : ∀ i : Nat, i < m → spec_l8Turn.f ((2 * m : Nat) : Int) (i : Int) (rd a ((m - 1 - i : Nat) : Int)) (rd b (i : Int)) = some (F i)) (K : Nat) (hK : 20 ≤ K) :
    spec_l8Seam.f K ((2 * m : Nat) : Int) a b = some (seamA m F, seamB m F) := by
  unfold spec_l8Seam.f
  rw [halfI hm, zerosB_eq (by omega), bindS, bindS]
  have := bSeam_l0 hm _ F a b ha hb h m 0 K (by omega) (by omega)
  rw [SA_zero, SB_zero] at this
  exact this

theorem samples1_eq {s n : Int} (hv : Valid s n) (a b : Int) (ha : -1125899906842624 ≤ a ∧ a ≤ 1125899906842624) (hb : -1125899906842624 ≤ b ∧ b ≤ 1125899906842624) : impl_samples_1.f s n a b = some (back (pu s n).1 (pu s n).2 a b) := by
  unfold impl_samples_1.f
  obtain ⟨e, hp, hu⟩ := turnOf_eq hv
  rw [e]
  simp only [Option.bind_some]
  rw [turn_back_eq _ _ _ _ hp hu ha hb]; rfl
theorem iUnite {m : Nat} (hm : Sz m) {s d : List Int} (hs : s.length = m) (hd : d.length = m) {N : Int} (hN : 0 ≤ N) (hN2 : N ≤ 200000000000000) (h1 : Bd N s) (h2 : Bd N d) (k : Nat) (hk : 40 ≤ k) : ∃ e, impl_undo_unite.f k impl_samples_1.f impl_part.f s d = some (uniteM backS pf s d, e) := by
  have hb := Bd_back hm hd (M := 5 * N) hN (by omega) h2
  refine ⟨_, impl_unite_eq impl_samples_1.f impl_part.f backS pf s d m hm.le.2 hs hd ?_ ?_ k hk⟩
  · intro i hi
    have b1 := h2 i
    have b2 := h2 (m - 1 - i)
    exact samples1_eq (valid_of hm hi) _ _ (by omega) (by omega)
  · intro i hi
    have b1 := h1 i
    have b2 := hb i
    exact part_eq _ _ (by omega) (by omega)

theorem iGather_l0 (S0 : Int → Int → Int → Int → Option (Int × Int)) (S1 : Int → Int → Option (Int × Int)) (c : List Int) (m : Nat) (hc : c.length = 2 * m) (hm : m ≤ 8) : ∀ (dd i k K : Nat), i + dd = m → K = k + 2 * dd + 1 →
    impl_undo_gather.l0 K (gen i fun j => rd c ((2 * j : Nat) : Int)) (gen i fun j => rd c ((2 * j + 1 : Nat) : Int)) c (c.length : Int) ((2 * i : Nat) : Int) S0 S1 = (impl_undo_gather.f k S0 S1 (evens c)).bind fun a => (impl_undo_gather.f k S0 S1 (odds c)).bind fun b => (impl_undo_unite.f k S0 S1 a b).bind fun t => some t.1 := by
  intro dd
  induction dd with
  | zero =>
    intro i k K hi hK
    obtain rfl : K = k + 1 := by omega
    simp only [impl_undo_gather.l0]
    rw [if_neg (by omega)]
    unfold evens odds
    rw [hc, show 2 * m / 2 = i by omega]
  | succ dd ih =>
    intro i k K hi hK
    obtain ⟨K, rfl⟩ : ∃ q, K = q + 1 := ⟨K - 1, by omega⟩
    have t0 : Int.tmod ((2 * i : Nat) : Int) 2 = 0 := by rw [tmod_pos (by omega)]; omega
    have t1 : ¬ Int.tmod ((2 * i + 1 : Nat) : Int) 2 = 0 := by rw [tmod_pos (by omega)]; omega
    rw [impl_undo_gather.l0]
    rw [if_pos (by omega), if_pos (by omega), if_pos (by omega), if_pos t0, gen_length, if_pos (by omega), w64_succ _ (by omega)]
    obtain ⟨K, rfl⟩ : ∃ q, K = q + 1 := ⟨K - 1, by omega⟩
    rw [impl_undo_gather.l0]
    rw [if_pos (by omega), if_pos (by omega), if_pos (by omega), if_neg t1, gen_length, if_pos (by omega), w64_succ _ (by omega)]
    have := ih (i + 1) k K (by omega) (by omega)
    rw [gen_succ, gen_succ] at this
    exact this

theorem pow4 (L : Nat) (hL : L ≤ 4) : 1 ≤ 2 ^ L ∧ 2 ^ L ≤ 16 := ⟨Nat.two_pow_pos L, Nat.pow_le_pow_right (by omega) hL⟩
theorem Sz_pow (L : Nat) (hL : L ≤ 3) : Sz (2 ^ L) := by
  unfold Sz
  match L, hL with
  | 0, _ => exact .inl rfl
  | 1, _ => exact .inr (.inl rfl)
  | 2, _ => exact .inr (.inr (.inl rfl))
  | 3, _ => exact .inr (.inr (.inr rfl))
theorem evens_length (c : List Int) : (evens c).length = c.length / 2 := gen_length _ _
theorem odds_length (c : List Int) : (odds c).length = c.length / 2 := gen_length _ _
theorem Bd_gather : ∀ (L : Nat) (c : List Int) (N : Int), L ≤ 4 → c.length = 2 ^ L → 1 ≤ N → Bd N c → Bd (4 ^ L * N) (gatherM backS pf L c) := by
  intro L
  induction L with
  | zero => intro c N _ _ _ h; rw [gatherM]; simpa using h
  | succ L ih =>
    intro c N hL hc hN h
    rw [Nat.pow_succ] at hc
    have e1 : (evens c).length = 2 ^ L := by rw [evens_length]; omega
    have e2 : (odds c).length = 2 ^ L := by rw [odds_length]; omega
    have b1 := ih (evens c) N (by omega) e1 hN (Bd_evens (by omega) h)
    have b2 := ih (odds c) N (by omega) e2 hN (Bd_odds (by omega) h)
    have hp : (1 : Int) ≤ 4 ^ L := Int.pow_pos (show (0 : Int) < 4 by decide)
    have hpN : 1 ≤ (4 : Int) ^ L * N := by have := Int.mul_le_mul_of_nonneg_right hp (show 0 ≤ N by omega); omega
    have := Bd_unite (Sz_pow L (by omega)) (gatherM_length backS pf L _ e1) (gatherM_length backS pf L _ e2) hpN b1 b2
    rw [gatherM]
    rwa [← Int.mul_assoc, Int.mul_comm 4 ((4 : Int) ^ L), ← Int.pow_succ] at this

theorem iGather : ∀ (L : Nat) (c : List Int) (N : Int) (k : Nat), L ≤ 4 → c.length = 2 ^ L → 1 ≤ N → Bd N c → 4 ^ L * N ≤ 200000000000000 → 60 + 30 * L ≤ k → impl_undo_gather.f k impl_samples_1.f impl_part.f c = some (gatherM backS pf L c) := by
  intro L
  induction L with
  | zero =>
    intro c N k _ hc _ _ _ hk
    obtain ⟨k, rfl⟩ : ∃ q, k = q + 1 := ⟨k - 1, by omega⟩
    have hc1 : c.length = 1 := hc
    simp only [impl_undo_gather.f]
    rw [if_pos (by omega), if_pos (by omega), gatherM]
    match c, hc1 with
    | [x], _ => rfl
  | succ L ih =>
    intro c N k hL hc hN h hb hk
    obtain ⟨k, rfl⟩ : ∃ q, k = q + 1 := ⟨k - 1, by omega⟩
    have hp2 := pow4 L (by omega)
    have hpw : (2 : Nat) ^ (L + 1) = 2 * 2 ^ L := by rw [Nat.pow_succ]; omega
    have hp8 : 2 ^ L ≤ 8 := by
      have := Nat.pow_le_pow_right (n := 2) (by omega) (show L ≤ 3 by omega)
      exact this
    rw [hpw] at hc
    have e1 : (evens c).length = 2 ^ L := by rw [evens_length]; omega
    have e2 : (odds c).length = 2 ^ L := by rw [odds_length]; omega
    have hp : (1 : Int) ≤ 4 ^ L := Int.pow_pos (show (0 : Int) < 4 by decide)
    have hpN : 1 ≤ (4 : Int) ^ L * N := by have := Int.mul_le_mul_of_nonneg_right hp (show 0 ≤ N by omega); omega
    have hb' : 4 * ((4 : Int) ^ L * N) ≤ 200000000000000 := by rw [← Int.mul_assoc, Int.mul_comm 4 ((4 : Int) ^ L), ← Int.pow_succ]; exact hb
    have b1 := Bd_gather L (evens c) N (by omega) e1 hN (Bd_evens (by omega) h)
    have b2 := Bd_gather L (odds c) N (by omega) e2 hN (Bd_odds (by omega) h)
    have l1 := gatherM_length backS pf L _ e1
    have l2 := gatherM_length backS pf L _ e2
    have g1 := ih (evens c) N (k - 2 * 2 ^ L - 1) (by omega) e1 hN (Bd_evens (by omega) h) (by omega) (by omega)
    have g2 := ih (odds c) N (k - 2 * 2 ^ L - 1) (by omega) e2 hN (Bd_odds (by omega) h) (by omega) (by omega)
    obtain ⟨e, g3⟩ := iUnite (Sz_pow L (by omega)) l1 l2 (by omega) (by omega) b1 b2 (k - 2 * 2 ^ L - 1) (by omega)
    have g0 := iGather_l0 impl_samples_1.f impl_part.f c (2 ^ L) hc hp8 (2 ^ L) 0 (k - 2 * 2 ^ L - 1) k (by omega) (by omega)
    simp only [impl_undo_gather.f]
    rw [if_neg (by omega)]
    refine Eq.trans g0 ?_
    simp only [g1, g2, g3, bindS]
    rw [gatherM]

theorem pow_top (L : Nat) (hL : L ≤ 4) : (4 : Int) ^ L * 16777216 ≤ 200000000000000 := by
  match L, hL with
  | 0, _ => decide
  | 1, _ => decide
  | 2, _ => decide
  | 3, _ => decide
  | 4, _ => decide
theorem gatherFault_eq (xs : List Int) (k : Nat) (hk : 100 ≤ k) : impl_gatherFault.f k xs = some (if sizeF (xs.length : Int) = 0 then (if allIn (-16777216) 16777216 xs = true then 0 else 3) else 2) := by
  have w1 : impl_allWithin.f xs 16777216 = some (allIn (-16777216) 16777216 xs) := allWithin_eq xs 16777216 (by omega) (by omega)
  have hf : ∀ p q : Int, impl_first.f k [p, q] = some (nz [p, q]) := fun p q => first_eq _ (by simp) k (by simp; omega)
  unfold impl_gatherFault.f impl_isBlock.f
  simp only [impl_SizeFault_eq, bindS, w1, codeIf_eq, hf, nz]
  by_cases h : sizeF (xs.length : Int) = 0
  · by_cases h1 : allIn (-16777216) 16777216 xs = true <;> simp [h, h1]
  · by_cases h1 : allIn (-16777216) 16777216 xs = true <;> simp [h, h1]

/-- A synth and a block that are right. -/
structure RightS (m : Nat) (x y c : List Int) : Prop where
  m3 : m = 2 ∨ m = 4 ∨ m = 8
  lx : x.length = m
  ly : y.length = m
  lc : c.length = 2 * m
  bx : Bd 1073741824 x
  by' : Bd 268435456 y
  bc : Bd 16777216 c
def gatherC (c : List Int) : Int := if sizeF (c.length : Int) = 0 then (if allIn (-16777216) 16777216 c = true then 0 else 3) else 2
def playB (m : Nat) (c : List Int) : List Int := gatherM backS pf (lvl (2 * m)) c
def playF (m : Nat) (y c : List Int) : Nat → Int × Int := stB m y ((playB m c).take m)
theorem playB_length {m : Nat} {x y c : List Int} (h : RightS m x y c) : (playB m c).length = 2 * m := by
  unfold playB
  rw [gatherM_length _ _ _ _ (by rw [h.lc]; exact (lvl_m h.m3).1)]; exact (lvl_m h.m3).1.symm
theorem playB_bd {m : Nat} {x y c : List Int} (h : RightS m x y c) : Bd 200000000000000 (playB m c) :=
  (Bd_gather (lvl (2 * m)) c 16777216 (lvl_m h.m3).2 (by rw [h.lc]; exact (lvl_m h.m3).1) (by omega) h.bc).mono (pow_top _ (lvl_m h.m3).2)
theorem impl_play_ok {m : Nat} {x y c : List Int} (h : RightS m x y c) (h1 : faultS ((2 * m : Nat) : Int) x y = 0) (h3 : gatherC c = 0) (k : Nat) (hk : 1000 ≤ k) :
    impl_PlayBlock.f k ((2 * m : Nat) : Int) x y c = some (0, ((2 * m : Nat) : Int), seamB m (playF m y c), (playB m c).drop m, x ++ seamA m (playF m y c)) := by
  have hm8 : m ≤ 8 := by have := h.m3; omega
  have lB := playB_length h
  have lt : ((playB m c).take m).length = m := by rw [List.length_take, lB]; omega
  have ld : ((playB m c).drop m).length = m := by rw [List.length_drop, lB]; omega
  have hst : ∀ i : Nat, i < m → impl_samples_1.f ((2 * m : Nat) : Int) (i : Int) (rd y ((m - 1 - i : Nat) : Int)) (rd ((playB m c).take m) (i : Int)) = some (playF m y c i) := by
    intro i hi
    have a1 := h.by' (m - 1 - i)
    have a2 := Bd_take (by omega) m (playB_bd h) i
    exact samples1_eq (validS h.m3 hi) _ _ (by omega) (by omega)
  have e1 := iSeam hm8 (impl_samples_1.f ((2 * m : Nat) : Int)) (playF m y c) y ((playB m c).take m) h.ly lt hst k (by omega)
  have e2 : impl_undo_gather.f k impl_samples_1.f impl_part.f c = some (playB m c) := iGather (lvl (2 * m)) c 16777216 k (lvl_m h.m3).2 (by rw [h.lc]; exact (lvl_m h.m3).1) (by omega) h.bc (pow_top _ (lvl_m h.m3).2) (by have := (lvl_m h.m3).2; omega)
  obtain ⟨q, hq⟩ : ∃ q, k = q + 1 + 1 + 1 + 1 + 1 + 1 := ⟨k - 6, by omega⟩
  have e3 := concatI_eq x (seamA m (playF m y c)) (by rw [seamA_length]; have := h.lx; omega) q
  rw [← hq] at e3
  have hf : impl_first.f k [0, 0, 0] = some 0 := first_eq [0, 0, 0] (by simp) k (by simp; omega)
  have hg : impl_gatherFault.f k c = some 0 := (gatherFault_eq c k (by omega)).trans (congrArg some h3)
  have hc : ((c.length : Int) != ((2 * m : Nat) : Int)) = false := by rw [h.lc]; simp
  unfold impl_PlayBlock.f
  rw [impl_faultS_eq _ x y k (by omega), h1, bindS, hc, codeIf_eq, bindS, hg, bindS]
  rw [show (if false = true then (2 : Int) else 0) = 0 from rfl, hf, bindS, if_pos rfl, impl_samples.f, bindS, e2, bindS, halfI hm8, if_pos (by omega), if_pos (by omega), Int.toNat_natCast, e1, bindS, cloneI_eq _ (by omega), bindS]
  simp only
  rw [e3, bindS]
theorem all_Bd {N M : Int} {xs : List Int} (h : Bd N xs) (hM : N ≤ M) : allIn (-M) M xs = true := by
  rw [allIn_iff]
  intro x hx
  obtain ⟨i, hi, rfl⟩ := List.mem_iff_getElem.1 hx
  have := h i
  rw [rd_get xs i hi] at this
  omega

theorem lwAt_any {c : List Int} (hc : Bytes c) (a n : Int) (ha0 : 0 ≤ a) (ha1 : a ≤ 100000) : ∃ v, laws_lwAt.f c a n = some v ∧ 0 ≤ v ∧ (v < n ∨ v = 0) := by
  unfold laws_lwAt.f
  by_cases hn : n ≤ 1
  · rw [if_pos hn]; exact ⟨_, rfl, by omega, .inr rfl⟩
  · rw [if_neg hn]
    by_cases hl : (c.length : Int) = 0
    · rw [if_pos hl, if_neg (by omega), w64 (x := a * 7) (by omega) (by omega)]
      have q := tmod_bd (show (0 : Int) ≤ a * 7 by omega) (show 0 < n by omega)
      exact ⟨_, rfl, q.1, .inl q.2⟩
    · have hL : 0 < (c.length : Int) := by omega
      have q0 := tmod_bd ha0 hL
      have q1 := tmod_bd (show (0 : Int) ≤ a + 1 by omega) hL
      have hd := div_bd ha0 hL
      rw [← tdiv_pos ha0] at hd
      have r0 := rd_bd hc (Int.tmod a c.length)
      have r1 := rd_bd hc (Int.tmod (a + 1) c.length)
      rw [if_neg hl, w64 (x := a + 1) (by omega) (by omega), if_pos q0.1, if_pos q0.2]
      generalize rd c (Int.tmod a c.length) = R0 at r0 ⊢
      generalize rd c (Int.tmod (a + 1) c.length) = R1 at r1 ⊢
      generalize Int.tdiv a c.length = D at hd ⊢
      have e1 : wrap64 R0 = R0 := w64 (by omega) (by omega)
      have e2 : wrap64 D = D := w64 (by omega) (by omega)
      have e3 : wrap64 (D * 3) = D * 3 := w64 (by omega) (by omega)
      have e4 : wrap64 (R0 + D * 3) = R0 + D * 3 := w64 (by omega) (by omega)
      have e5 : wrap64 ((R0 + D * 3) * 251) = (R0 + D * 3) * 251 := w64 (by omega) (by omega)
      have e6 : wrap64 R1 = R1 := w64 (by omega) (by omega)
      have e7 : wrap64 ((R0 + D * 3) * 251 + R1) = (R0 + D * 3) * 251 + R1 := w64 (by omega) (by omega)
      simp only [e1, e2, e3, e4, e5, e6, e7]
      by_cases g : n > 200
      · rw [if_pos g, if_pos q1.1, if_pos q1.2, if_neg (by omega)]
        have q := tmod_bd (show 0 ≤ (R0 + D * 3) * 251 + R1 by omega) (show 0 < n by omega)
        exact ⟨_, rfl, q.1, .inl q.2⟩
      · rw [if_neg g, if_neg (by omega)]
        have q := tmod_bd (show 0 ≤ R0 + D * 3 by omega) (show 0 < n by omega)
        exact ⟨_, rfl, q.1, .inl q.2⟩
def Near (x b y : Int) : Prop := 0 ≤ b → b ≤ 1099511627776 → -1099511627776 ≤ x → x ≤ 1099511627776 → -b ≤ y - x ∧ y - x ≤ b
theorem bent_j1 {c : List Int} (hc : Bytes c) (xs bs : List Int) (fr : Int) (hf : 0 ≤ fr) (hf2 : fr ≤ 1000) (i : Nat) (ys : List Int) (k : Nat) (hi : i < xs.length) (hb : i < bs.length) (hx : xs.length ≤ 1000) (hy : ys.length ≤ 1000) :
    ∃ y, Near (rd xs (i : Int)) (rd bs (i : Int)) y ∧ laws_lwBent.j1 (k + 1) xs bs c fr ys (i : Int) true = laws_lwBent.l0 k xs bs c fr (ys ++ [y]) ((i + 1 : Nat) : Int) := by
  generalize hX : rd xs (i : Int) = x
  generalize hB : rd bs (i : Int) = b
  obtain ⟨v, ev, v0, v1⟩ := lwAt_any hc (fr + (i : Int)) (wrap64 (wrap64 (2 * b) + 1)) (by omega) (by omega)
  obtain ⟨v2, ev2, _⟩ := lwAt_any hc (fr + (i : Int) + 1) 3 (by omega) (by omega)
  obtain ⟨v3, ev3, _⟩ := lwAt_any hc (fr + (i : Int) + 2) 5 (by omega) (by omega)
  have e1 : wrap64 (fr + (i : Int)) = fr + (i : Int) := w64 (by omega) (by omega)
  have e2 : wrap64 (fr + (i : Int) + 1) = fr + (i : Int) + 1 := w64 (by omega) (by omega)
  have e3 : wrap64 (fr + (i : Int) + 2) = fr + (i : Int) + 2 := w64 (by omega) (by omega)
  have hn : Near x b (wrap64 (x + wrap64 (-b))) := fun b0 b1 x0 x1 => by
    rw [w64 (x := -b) (by omega) (by omega), w64 (by omega) (by omega)]; omega
  have hp : Near x b (wrap64 (x + b)) := fun b0 b1 x0 x1 => by
    rw [w64 (by omega) (by omega)]; omega
  have hm : Near x b (wrap64 (x + wrap64 (v - b))) := fun b0 b1 x0 x1 => by
    rw [w64 (x := 2 * b) (by omega) (by omega), w64 (x := 2 * b + 1) (by omega) (by omega)] at v1
    rw [w64 (x := v - b) (by omega) (by omega), w64 (by omega) (by omega)]; omega
  simp only [laws_lwBent.j1, hX, hB, e1, e2, e3, ev, ev2, ev3, Option.bind_some, w64_succ i (show i ≤ 4000000000000000000 by omega)]
  rw [if_pos trivial, if_pos (show (0 : Int) ≤ (i : Int) by omega), if_pos (show (i : Int) < (bs.length : Int) by omega)]
  by_cases g2 : v2 = 0
  · rw [if_pos g2]
    by_cases g3 : v3 = 0
    · rw [if_pos g3, if_pos (show (i : Int) < (xs.length : Int) by omega), if_pos (show ys.length < 17592186044416 by omega)]
      exact ⟨_, hn, rfl⟩
    · rw [if_neg g3, if_pos (show (i : Int) < (xs.length : Int) by omega), if_pos (show ys.length < 17592186044416 by omega)]
      exact ⟨_, hp, rfl⟩
  · rw [if_neg g2]
    by_cases g3 : v3 = 0
    · rw [if_pos g3, if_pos (show (i : Int) < (xs.length : Int) by omega), if_pos (show ys.length < 17592186044416 by omega)]
      exact ⟨_, hn, rfl⟩
    · rw [if_neg g3, if_pos (show (i : Int) < (xs.length : Int) by omega), if_pos (show ys.length < 17592186044416 by omega)]
      exact ⟨_, hm, rfl⟩
theorem bent_l0 {c : List Int} (hc : Bytes c) (xs bs : List Int) (fr : Int) (hf : 0 ≤ fr) (hf2 : fr ≤ 1000) (hl : bs.length = xs.length) (hx : xs.length ≤ 1000) : ∀ (d i : Nat) (ys : List Int) (k : Nat), i + d = xs.length → 2 * d + 2 < k → ys.length = i → (∀ j : Nat, j < i → Near (rd xs (j : Int)) (rd bs (j : Int)) (rd ys (j : Int))) →
    ∃ zs, laws_lwBent.l0 k xs bs c fr ys (i : Int) = some zs ∧ zs.length = xs.length ∧ ∀ j : Nat, j < xs.length → Near (rd xs (j : Int)) (rd bs (j : Int)) (rd zs (j : Int)) := by
  intro d
  induction d with
  | zero =>
    intro i ys k hi hk hy hn
    obtain ⟨k, rfl⟩ : ∃ q, k = q + 1 + 1 := ⟨k - 2, by omega⟩
    refine ⟨ys, ?_, by omega, fun j hj => hn j (by omega)⟩
    rw [laws_lwBent.l0, if_neg (by omega)]
    simp only [laws_lwBent.j1]
    rw [if_neg (by decide)]
  | succ d ih =>
    intro i ys k hi hk hy hn
    obtain ⟨k, rfl⟩ : ∃ q, k = q + 1 + 1 := ⟨k - 2, by omega⟩
    obtain ⟨y, hN, e⟩ := bent_j1 hc xs bs fr hf hf2 i ys k (by omega) (by omega) hx (by omega)
    rw [laws_lwBent.l0, if_pos (by omega), decide_eq_true (show (i : Int) < (bs.length : Int) by omega), e]
    refine ih (i + 1) (ys ++ [y]) k (by omega) (by omega) (by simp [hy]) (fun j hj => ?_)
    by_cases q : j < i
    · have : rd (ys ++ [y]) (j : Int) = rd ys (j : Int) := by
        rw [rd_nat, rd_nat, List.getD_eq_getElem?_getD, List.getD_eq_getElem?_getD, List.getElem?_append_left (by omega)]
      rw [this]; exact hn j q
    · have ej : j = i := by omega
      have : rd (ys ++ [y]) (j : Int) = y := by
        rw [rd_nat, List.getD_eq_getElem?_getD, List.getElem?_append_right (by omega), ej, hy]; simp
      rw [this, ej]; exact hN
theorem bent_ok {c : List Int} (hc : Bytes c) (xs bs : List Int) (fr : Int) (hf : 0 ≤ fr) (hf2 : fr ≤ 1000) (hl : bs.length = xs.length) (hx : xs.length ≤ 1000) (k : Nat) (hk : 2 * xs.length + 2 < k) :
    ∃ zs, laws_lwBent.f k xs bs c fr = some zs ∧ zs.length = xs.length ∧ ∀ j : Nat, j < xs.length → Near (rd xs (j : Int)) (rd bs (j : Int)) (rd zs (j : Int)) :=
  bent_l0 hc xs bs fr hf hf2 hl hx xs.length 0 [] k (by omega) hk rfl (fun j hj => by omega)

def Nd (N : Int) (xs : List Int) : Prop := ∀ j : Nat, 0 ≤ rd xs (j : Int) ∧ rd xs (j : Int) ≤ N
theorem Nd_gen {n : Nat} {f : Nat → Int} {M : Int} (h0 : 0 ≤ M) (h : ∀ j, j < n → 0 ≤ f j ∧ f j ≤ M) : Nd M (gen n f) := fun j => by
  by_cases hj : j < n
  · rw [rd_gen _ _ hj]; exact h j hj
  · rw [rd_out _ (by rw [gen_length]; omega)]; omega
theorem Nd_twist {st : Nat → Int → Int → Int × Int} {q : Nat} {d : List Int} {N M : Int} (h0 : 0 ≤ N) (hNM : N ≤ M) (hd : Nd N d)
    (hs : ∀ i a b, i < q → (0 ≤ a ∧ a ≤ N) → (0 ≤ b ∧ b ≤ N) → (0 ≤ (st i a b).1 ∧ (st i a b).1 ≤ M) ∧ (0 ≤ (st i a b).2 ∧ (st i a b).2 ≤ M)) : Nd M (twist st q d) := by
  unfold twist W
  refine Nd_gen (by omega) (fun j hj => ?_)
  by_cases h1 : j < q
  · rw [if_pos h1]; exact (hs j _ _ h1 (hd _) (hd _)).1
  · rw [if_neg h1]
    by_cases h2 : d.length - 1 - j < q
    · rw [if_pos h2]; exact (hs _ _ _ h2 (hd _) (hd _)).2
    · rw [if_neg h2]; have := hd j; omega
def boundS (n i : Nat) (a b : Int) : Int × Int := tb (pu (n : Int) (i : Int)).1 (pu (n : Int) (i : Int)).2 a b
def pg (s d : Int) : Int × Int := (s + -((-d) / 2), s + -((-d) / 2))
theorem tb_crude {p u a b N : Int} (hp : 0 ≤ p ∧ p ≤ 1024) (hu : 0 ≤ u ∧ u ≤ 1024) (ha : 0 ≤ a ∧ a ≤ N) (hb : 0 ≤ b ∧ b ≤ N) : (0 ≤ (tb p u a b).1 ∧ (tb p u a b).1 ≤ 5 * N) ∧ (0 ≤ (tb p u a b).2 ∧ (tb p u a b).2 ≤ 5 * N) := by
  have h1 := sh_bd hp.1 hp.2 hb.1
  have h2 := sh_bd (b := a + sh p b) hu.1 hu.2 (by omega)
  have h3 := sh_bd (b := b + sh u (a + sh p b)) hp.1 hp.2 (by omega)
  unfold tb
  simp only
  omega
theorem Nd_bound {m : Nat} (hm : Sz m) {d : List Int} {N : Int} (hN : 0 ≤ N) (h : Nd N d) : Nd (5 * N) (twist (boundS (2 * m)) (m / 2) d) := by
  refine Nd_twist (N := N) hN (by omega) h ?_
  intro i a b hi ha hb
  obtain ⟨_, hp, hu⟩ := turnOf_eq (valid_of hm hi)
  exact tb_crude hp hu ha hb
theorem Nd_outs {s e : List Int} {N : Int} (hN : 1 ≤ N) (hs : Nd N s) (he : Nd (5 * N) e) : Nd (4 * N) (outs pg s e) := by
  unfold outs pg
  refine Nd_gen (by omega) (fun j hj => ?_)
  by_cases h : j < s.length
  · rw [if_pos h]
    have h1 := hs j
    have h2 := he j
    simp only
    omega
  · rw [if_neg h]
    have h1 := hs (2 * s.length - 1 - j)
    have h2 := he (2 * s.length - 1 - j)
    simp only
    omega
theorem Nd_unite {m : Nat} (hm : Sz m) {s d : List Int} (hs : s.length = m) {N : Int} (hN : 1 ≤ N) (h1 : Nd N s) (h2 : Nd N d) : Nd (4 * N) (uniteM boundS pg s d) := by
  unfold uniteM
  rw [hs]
  exact Nd_outs hN h1 (Nd_bound hm (by omega) h2)
theorem Nd_evens {M : Int} {c : List Int} (h0 : 0 ≤ M) (h : Nd M c) : Nd M (evens c) := Nd_gen h0 (fun j _ => h _)
theorem Nd_odds {M : Int} {c : List Int} (h0 : 0 ≤ M) (h : Nd M c) : Nd M (odds c) := Nd_gen h0 (fun j _ => h _)
theorem pw4 (L : Nat) (hL : L ≤ 4) : 1 ≤ 2 ^ L ∧ 2 ^ L ≤ 16 := ⟨Nat.two_pow_pos L, Nat.pow_le_pow_right (by omega) hL⟩
theorem SzP (L : Nat) (hL : L ≤ 3) : Sz (2 ^ L) := by
  unfold Sz
  match L, hL with
  | 0, _ => exact .inl rfl
  | 1, _ => exact .inr (.inl rfl)
  | 2, _ => exact .inr (.inr (.inl rfl))
  | 3, _ => exact .inr (.inr (.inr rfl))
theorem evensL (c : List Int) : (evens c).length = c.length / 2 := gen_length _ _
theorem oddsL (c : List Int) : (odds c).length = c.length / 2 := gen_length _ _
theorem Nd_gather : ∀ (L : Nat) (c : List Int) (N : Int), L ≤ 4 → c.length = 2 ^ L → 1 ≤ N → Nd N c → Nd (4 ^ L * N) (gatherM boundS pg L c) := by
  intro L
  induction L with
  | zero => intro c N _ _ _ h; rw [gatherM]; simpa using h
  | succ L ih =>
    intro c N hL hc hN h
    rw [Nat.pow_succ] at hc
    have e1 : (evens c).length = 2 ^ L := by rw [evensL]; omega
    have e2 : (odds c).length = 2 ^ L := by rw [oddsL]; omega
    have b1 := ih (evens c) N (by omega) e1 hN (Nd_evens (by omega) h)
    have b2 := ih (odds c) N (by omega) e2 hN (Nd_odds (by omega) h)
    have hp : (1 : Int) ≤ 4 ^ L := Int.pow_pos (show (0 : Int) < 4 by decide)
    have hpN : 1 ≤ (4 : Int) ^ L * N := by have := Int.mul_le_mul_of_nonneg_right hp (show 0 ≤ N by omega); omega
    have := Nd_unite (SzP L (by omega)) (gatherM_length boundS pg L _ e1) hpN b1 b2
    rw [gatherM]
    rwa [← Int.mul_assoc, Int.mul_comm 4 ((4 : Int) ^ L), ← Int.pow_succ] at this

theorem bGather_l0 (c : List Int) (m : Nat) (hc : c.length = 2 * m) (hm : m ≤ 8) : ∀ (dd i k K : Nat), i + dd = m → K = k + dd + 1 →
    spec_l8Gather.l0 K c ((2 * m : Nat) : Int) (gen i fun j => rd c ((2 * j : Nat) : Int)) (gen i fun j => rd c ((2 * j + 1 : Nat) : Int)) ((2 * i : Nat) : Int) = (spec_l8Gather.f k (evens c)).bind fun a => (spec_l8Gather.f k (odds c)).bind fun b => if ((2 * m : Nat) : Int) > 2 then spec_l8Gather.l1 k ((2 * m : Nat) : Int) a b 0 else spec_l8Gather.j2 k ((2 * m : Nat) : Int) a b := by
  intro dd
  induction dd with
  | zero =>
    intro i k K hi hK
    obtain rfl : K = k + 1 := by omega
    simp only [spec_l8Gather.l0]
    rw [w64_succ _ (by omega), if_neg (by omega)]
    unfold evens odds
    rw [hc, show 2 * m / 2 = i by omega]
  | succ dd ih =>
    intro i k K hi hK
    obtain ⟨K, rfl⟩ : ∃ q, K = q + 1 := ⟨K - 1, by omega⟩
    simp only [spec_l8Gather.l0, gen_length]
    have e2 : wrap64 (((2 * i : Nat) : Int) + 2) = ((2 * (i + 1) : Nat) : Int) := by rw [w64 (by omega) (by omega)]; omega
    rw [w64_succ _ (by omega), e2, if_pos (by omega), if_pos (by omega), if_pos (by omega), if_pos (by omega), if_pos (by omega), if_pos (by omega), if_pos (by omega)]
    have := ih (i + 1) k K (by omega) (by omega)
    rw [gen_succ, gen_succ] at this
    exact this
theorem bGather_l1 (s d : List Int) (st : Nat → Int → Int → Int × Int) (m : Nat) (hm : m ≤ 8) (hd : d.length = m)
    (hst : ∀ i, i < m / 2 → spec_l8Turn.f ((2 * m : Nat) : Int) (i : Int) (rd d (i : Int)) (rd d ((m - 1 - i : Nat) : Int)) = some (st i (rd d (i : Int)) (rd d ((m - 1 - i : Nat) : Int)))) :
    ∀ (dd i k K : Nat), i + dd = m / 2 → K = k + dd + 1 → spec_l8Gather.l1 K ((2 * m : Nat) : Int) s (twist st i d) (i : Int) = spec_l8Gather.j2 k ((2 * m : Nat) : Int) s (twist st (m / 2) d) := by
  intro dd
  induction dd with
  | zero =>
    intro i k K hi hK
    obtain rfl : K = k + 1 := by omega
    simp only [spec_l8Gather.l1, quart hm]
    rw [if_neg (by omega), show i = m / 2 by omega]
  | succ dd ih =>
    intro i k K hi hK
    have hl : (twist st i d).length = m := by rw [twist_length, hd]
    have h2 : 2 * (i + 1) ≤ d.length := by omega
    have e1 := twist_lo st d h2
    have e2 := twist_hi st d h2
    have e3 := twist_step st d h2
    rw [hd] at e2 e3
    obtain ⟨K, rfl⟩ : ∃ q, K = q + 1 := ⟨K - 1, by omega⟩
    simp only [spec_l8Gather.l1, quart hm, idx1 hm (show i < m by omega), hl, e1, e2]
    rw [if_pos (by omega), if_pos (by omega), if_pos (by omega), if_pos (by omega), if_pos (by omega), hst i (by omega)]
    simp only [Option.bind_some]
    rw [w64_succ _ (by omega), Int.toNat_natCast, Int.toNat_natCast, e3]
    exact ih (i + 1) k K (by omega) (by omega)
theorem bGather_l2 (s e : List Int) (m : Nat) (hm : m ≤ 8) (hs : s.length = m) (he : e.length = m) {N : Int} (hN : 0 ≤ N) (hN2 : N ≤ 100000000000) (h1 : Nd N s) (h2 : Nd (5 * N) e) :
    ∀ (dd i k : Nat), i + dd = m → dd < k → spec_l8Gather.l2 k ((2 * m : Nat) : Int) s e (U m (fun j => (pg (rd s (j : Int)) (rd e (j : Int))).1) (fun j => (pg (rd s (j : Int)) (rd e (j : Int))).2) i) (i : Int) = some (outs pg s e) := by
  intro dd
  induction dd with
  | zero =>
    intro i k hi hk
    obtain ⟨k, rfl⟩ : ∃ q, k = q + 1 := ⟨k - 1, by omega⟩
    simp only [spec_l8Gather.l2, halfI hm]
    rw [if_neg (by omega), show i = m by omega, U_end]
    unfold outs; rw [hs]
  | succ dd ih =>
    intro i k hi hk
    obtain ⟨k, rfl⟩ : ∃ q, k = q + 1 := ⟨k - 1, by omega⟩
    have b1 := h1 i
    have b2 := h2 i
    have e3 := U_step m (fun j => (pg (rd s (j : Int)) (rd e (j : Int))).1) (fun j => (pg (rd s (j : Int)) (rd e (j : Int))).2) (show i < m by omega)
    have ec := l1Ceil_eq (rd e (i : Int)) 2 (by omega) (by omega) (by omega)
    have ew : wrap64 (rd s (i : Int) + -((-(rd e (i : Int))) / 2)) = rd s (i : Int) + -((-(rd e (i : Int))) / 2) := w64 (by omega) (by omega)
    simp only [spec_l8Gather.l2, halfI hm, idx2 hm (show i < 2 * m by omega), U_length]
    rw [if_pos (by omega), if_pos (by omega), if_pos (by omega), if_pos (by omega), ec]
    simp only [Option.bind_some]
    rw [if_pos (by omega), if_pos (by omega), if_pos (by omega), w64_succ _ (by omega), Int.toNat_natCast, Int.toNat_natCast, ew]
    have hx := ih (i + 1) k (by omega) (by omega)
    rw [← e3] at hx
    exact hx
theorem bGather : ∀ (L : Nat) (c : List Int) (N : Int) (k : Nat), L ≤ 4 → c.length = 2 ^ L → 1 ≤ N → Nd N c → 4 ^ L * N ≤ 100000000000 → 60 + 30 * L ≤ k → spec_l8Gather.f k c = some (gatherM boundS pg L c) := by
  intro L
  induction L with
  | zero =>
    intro c N k _ hc _ _ _ hk
    obtain ⟨k, rfl⟩ : ∃ q, k = q + 1 := ⟨k - 1, by omega⟩
    simp only [spec_l8Gather.f]
    unfold spec_l1Ints.f
    simp only [bindS, List.length_nil, List.nil_append]
    rw [if_pos (by rw [hc]; rfl), if_pos (by rw [hc]; decide)]
    rfl
  | succ L ih =>
    intro c N k hL hc hN h hb hk
    obtain ⟨k, rfl⟩ : ∃ q, k = q + 1 := ⟨k - 1, by omega⟩
    have hp2 := pw4 L (by omega)
    have hpw : (2 : Nat) ^ (L + 1) = 2 * 2 ^ L := by rw [Nat.pow_succ]; omega
    have hp8 : 2 ^ L ≤ 8 := Nat.pow_le_pow_right (n := 2) (by omega) (show L ≤ 3 by omega)
    rw [hpw] at hc
    have e1 : (evens c).length = 2 ^ L := by rw [evensL]; omega
    have e2 : (odds c).length = 2 ^ L := by rw [oddsL]; omega
    have hp : (1 : Int) ≤ 4 ^ L := Int.pow_pos (show (0 : Int) < 4 by decide)
    have hpN : 1 ≤ (4 : Int) ^ L * N := by have := Int.mul_le_mul_of_nonneg_right hp (show 0 ≤ N by omega); omega
    have hb' : 4 * ((4 : Int) ^ L * N) ≤ 100000000000 := by rw [← Int.mul_assoc, Int.mul_comm 4 ((4 : Int) ^ L), ← Int.pow_succ]; exact hb
    have b1 := Nd_gather L (evens c) N (by omega) e1 hN (Nd_evens (by omega) h)
    have b2 := Nd_gather L (odds c) N (by omega) e2 hN (Nd_odds (by omega) h)
    have l1 := gatherM_length boundS pg L _ e1
    have l2 := gatherM_length boundS pg L _ e2
    have g1 := ih (evens c) N (k - 2 ^ L - 1) (by omega) e1 hN (Nd_evens (by omega) h) (by omega) (by omega)
    have g2 := ih (odds c) N (k - 2 ^ L - 1) (by omega) e2 hN (Nd_odds (by omega) h) (by omega) (by omega)
    have g0 := bGather_l0 c (2 ^ L) hc hp8 (2 ^ L) 0 (k - 2 ^ L - 1) k (by omega) (by omega)
    have hSz := SzP L (by omega)
    generalize hS : gatherM boundS pg L (evens c) = S at b1 l1 g1
    generalize hD : gatherM boundS pg L (odds c) = D at b2 l2 g2
    have hr : gatherM boundS pg (L + 1) c = uniteM boundS pg (gatherM boundS pg L (evens c)) D := by rw [gatherM, hD]
    generalize hm : 2 ^ L = m at *
    generalize hM : (4 : Int) ^ L * N = M at *
    have tl : ∀ q, 20 ≤ q → spec_l8Gather.j2 q ((2 * m : Nat) : Int) S (twist (boundS (2 * m)) (m / 2) D) = some (uniteM boundS pg S D) := by
      intro q hq
      obtain ⟨q, rfl⟩ : ∃ r, q = r + 1 := ⟨q - 1, by omega⟩
      simp only [spec_l8Gather.j2]
      unfold spec_l1Zeros.f
      rw [if_pos (by omega), if_pos (by omega), Int.toNat_natCast]
      simp only [bindS]
      have := bGather_l2 S (twist (boundS (2 * m)) (m / 2) D) m hp8 l1 (by rw [twist_length, l2]) (N := M) (by omega) (by omega) b1 (Nd_bound hSz (by omega) b2) m 0 q (by omega) (by omega)
      rw [U_zero] at this
      unfold uniteM
      rw [l1]
      exact this
    simp only [spec_l8Gather.f]
    rw [if_neg (by omega), hc]
    refine Eq.trans g0 ?_
    simp only [g1, g2, bindS]
    have hfin : (if ((2 * m : Nat) : Int) > 2 then spec_l8Gather.l1 (k - m - 1) ((2 * m : Nat) : Int) S D 0 else spec_l8Gather.j2 (k - m - 1) ((2 * m : Nat) : Int) S D) = some (uniteM boundS pg S D) := by
      by_cases hgt : ((2 * m : Nat) : Int) > 2
      · rw [if_pos hgt]
        have := bGather_l1 S D (boundS (2 * m)) m hp8 l2 (fun i hi => by
          have c1 := b2 i
          have c2 := b2 (m - 1 - i)
          exact l8Turn_eq (valid_of hSz hi) _ _ (by omega) (by omega)) (m / 2) 0 (k - m - 1 - m / 2 - 1) (k - m - 1) (by omega) (by omega)
        rw [twist_zero] at this
        exact this.trans (tl _ (by omega))
      · rw [if_neg hgt]
        have := tl (k - m - 1) (by omega)
        rw [show m / 2 = 0 by omega, twist_zero] at this
        exact this
    exact hfin.trans (by rw [hr, hS])

theorem ofBounds1_eq {s n : Int} (hv : Valid s n) (a b : Int) (ha : 0 ≤ a ∧ a ≤ 140737488355328) (hb : 0 ≤ b ∧ b ≤ 140737488355328) : impl_ofBounds_1.f s n a b = some (tb (pu s n).1 (pu s n).2 a b) := by
  unfold impl_ofBounds_1.f
  obtain ⟨e, hp, hu⟩ := turnOf_eq hv
  rw [e]
  simp only [Option.bind_some]
  rw [turn_bounds_eq _ _ _ _ hp hu ha hb]; rfl
theorem partBounds_eq (s d : Int) (hs : 0 ≤ s ∧ s ≤ 1099511627776) (hd : 0 ≤ d ∧ d ≤ 1099511627776) : impl_partBounds.f s d = some (pg s d) := by
  unfold impl_partBounds.f pg
  rw [ceilDiv_eq _ _ (by omega) (by omega) (by omega)]
  simp only [Option.bind_some]
  rw [w64 (by omega) (by omega)]
theorem iUniteB {m : Nat} (hm : Sz m) {s d : List Int} (hs : s.length = m) (hd : d.length = m) {N : Int} (hN : 0 ≤ N) (hN2 : N ≤ 100000000000) (h1 : Nd N s) (h2 : Nd N d) (k : Nat) (hk : 40 ≤ k) : ∃ e, impl_undo_unite.f k impl_ofBounds_1.f impl_partBounds.f s d = some (uniteM boundS pg s d, e) := by
  have hb := Nd_bound hm hN h2
  refine ⟨_, impl_unite_eq impl_ofBounds_1.f impl_partBounds.f boundS pg s d m hm.le.2 hs hd ?_ ?_ k hk⟩
  · intro i hi
    have b1 := h2 i
    have b2 := h2 (m - 1 - i)
    exact ofBounds1_eq (valid_of hm hi) _ _ (by omega) (by omega)
  · intro i hi
    have b1 := h1 i
    have b2 := hb i
    exact partBounds_eq _ _ (by omega) (by omega)

theorem iGatherB : ∀ (L : Nat) (c : List Int) (N : Int) (k : Nat), L ≤ 4 → c.length = 2 ^ L → 1 ≤ N → Nd N c → 4 ^ L * N ≤ 100000000000 → 60 + 30 * L ≤ k → impl_undo_gather.f k impl_ofBounds_1.f impl_partBounds.f c = some (gatherM boundS pg L c) := by
  intro L
  induction L with
  | zero =>
    intro c N k _ hc _ _ _ hk
    obtain ⟨k, rfl⟩ : ∃ q, k = q + 1 := ⟨k - 1, by omega⟩
    have hc1 : c.length = 1 := hc
    simp only [impl_undo_gather.f]
    rw [if_pos (by omega), if_pos (by omega), gatherM]
    match c, hc1 with
    | [x], _ => rfl
  | succ L ih =>
    intro c N k hL hc hN h hb hk
    obtain ⟨k, rfl⟩ : ∃ q, k = q + 1 := ⟨k - 1, by omega⟩
    have hp2 := pw4 L (by omega)
    have hpw : (2 : Nat) ^ (L + 1) = 2 * 2 ^ L := by rw [Nat.pow_succ]; omega
    have hp8 : 2 ^ L ≤ 8 := by
      have := Nat.pow_le_pow_right (n := 2) (by omega) (show L ≤ 3 by omega)
      exact this
    rw [hpw] at hc
    have e1 : (evens c).length = 2 ^ L := by rw [evensL]; omega
    have e2 : (odds c).length = 2 ^ L := by rw [oddsL]; omega
    have hp : (1 : Int) ≤ 4 ^ L := Int.pow_pos (show (0 : Int) < 4 by decide)
    have hpN : 1 ≤ (4 : Int) ^ L * N := by have := Int.mul_le_mul_of_nonneg_right hp (show 0 ≤ N by omega); omega
    have hb' : 4 * ((4 : Int) ^ L * N) ≤ 100000000000 := by rw [← Int.mul_assoc, Int.mul_comm 4 ((4 : Int) ^ L), ← Int.pow_succ]; exact hb
    have b1 := Nd_gather L (evens c) N (by omega) e1 hN (Nd_evens (by omega) h)
    have b2 := Nd_gather L (odds c) N (by omega) e2 hN (Nd_odds (by omega) h)
    have l1 := gatherM_length boundS pg L _ e1
    have l2 := gatherM_length boundS pg L _ e2
    have g1 := ih (evens c) N (k - 2 * 2 ^ L - 1) (by omega) e1 hN (Nd_evens (by omega) h) (by omega) (by omega)
    have g2 := ih (odds c) N (k - 2 * 2 ^ L - 1) (by omega) e2 hN (Nd_odds (by omega) h) (by omega) (by omega)
    obtain ⟨e, g3⟩ := iUniteB (SzP L (by omega)) l1 l2 (by omega) (by omega) b1 b2 (k - 2 * 2 ^ L - 1) (by omega)
    have g0 := iGather_l0 impl_ofBounds_1.f impl_partBounds.f c (2 ^ L) hc hp8 (2 ^ L) 0 (k - 2 * 2 ^ L - 1) k (by omega) (by omega)
    simp only [impl_undo_gather.f]
    rw [if_neg (by omega)]
    refine Eq.trans g0 ?_
    simp only [g1, g2, g3, bindS]
    rw [gatherM]

theorem Nd_all {N : Int} {xs : List Int} (h0 : 0 ≤ N) (h : allIn 0 N xs = true) : Nd N xs := fun j => by
  by_cases hj : j < xs.length
  · rw [rd_get xs j hj]; exact (allIn_iff _ _ _).1 h _ (List.getElem_mem hj)
  · rw [rd_out _ (by omega)]; omega
theorem pow_topB (L : Nat) (hL : L ≤ 4) : (4 : Int) ^ L * 67108864 ≤ 100000000000 := by
  match L, hL with
  | 0, _ => decide
  | 1, _ => decide
  | 2, _ => decide
  | 3, _ => decide
  | 4, _ => decide
theorem any_allIn (lo hi : Int) (xs : List Int) : (xs.any fun x => !decide (lo ≤ x ∧ x ≤ hi)) = !allIn lo hi xs := by
  unfold allIn
  induction xs with
  | nil => rfl
  | cons x xs ih => rw [List.any_cons, List.all_cons, ih]; cases decide (lo ≤ x ∧ x ≤ hi) <;> simp
theorem boundsFault_eq (xs : List Int) (k : Nat) (hk : 100 ≤ k) : impl_boundsFault.f k xs = some (if sizeF (xs.length : Int) = 0 then (if allIn 0 67108864 xs = true then 0 else 3) else 2) := by
  have w1 : slices_ContainsFunc_int64_int64.f xs (fun x => !decide (0 ≤ x ∧ x ≤ 67108864)) = some (!allIn 0 67108864 xs) := by
    unfold slices_ContainsFunc_int64_int64.f; rw [any_allIn]
  have hf : ∀ p q : Int, impl_first.f k [p, q] = some (nz [p, q]) := fun p q => first_eq _ (by simp) k (by simp; omega)
  unfold impl_boundsFault.f impl_isBlock.f
  simp only [impl_SizeFault_eq, bindS, w1, codeIf_eq, hf, nz]
  by_cases h : sizeF (xs.length : Int) = 0
  · by_cases h1 : allIn 0 67108864 xs = true <;> simp [h, h1]
  · by_cases h1 : allIn 0 67108864 xs = true <;> simp [h, h1]

theorem Nd_take {N : Int} (h0 : 0 ≤ N) {xs : List Int} (n : Nat) (hx : Nd N xs) : Nd N (xs.take n) := by
  intro j
  have := hx j
  rw [rd_nat, List.getD_eq_getElem?_getD] at this ⊢
  rw [List.getElem?_take]
  split
  · exact this
  · exact ⟨Int.le_refl _, h0⟩
theorem Nd_drop {N : Int} {xs : List Int} (n : Nat) (hx : Nd N xs) : Nd N (xs.drop n) := by
  intro j
  have := hx (n + j)
  rw [rd_nat, List.getD_eq_getElem?_getD] at this ⊢
  rwa [List.getElem?_drop]
def bc (xs : List Int) : Int := if sizeF (xs.length : Int) = 0 then (if allIn 0 67108864 xs = true then 0 else 3) else 2
theorem l8Ask_eq (xs : List Int) (hn : xs.length ≤ 1000000000) (k : Nat) (hk : xs.length < k) : spec_l8Ask.f k xs = some (bc xs) := by
  unfold spec_l8Ask.f bc
  rw [spec_SizeFault_eq, bindS]
  by_cases h : sizeF (xs.length : Int) = 0
  · rw [if_pos h, if_pos h, l1All_eq xs _ _ (by omega) k hk, bindS]
    by_cases g : allIn 0 67108864 xs = true
    · rw [if_pos g, if_pos g]
    · rw [if_neg g, if_neg g]
  · rw [if_neg h, if_neg h]
def stQ (m : Nat) (a b : List Int) (i : Nat) : Int × Int := boundS (2 * m) i (rd a ((m - 1 - i : Nat) : Int)) (rd b (i : Int))
def gB (m : Nat) (c : List Int) : List Int := gatherM boundS pg (lvl (2 * m)) c
theorem gB_length {m : Nat} (m3 : m = 2 ∨ m = 4 ∨ m = 8) {c : List Int} (h : c.length = 2 * m) : (gB m c).length = 2 * m := by
  unfold gB
  rw [gatherM_length _ _ _ _ (by rw [h]; exact (lvl_m m3).1)]; exact (lvl_m m3).1.symm
theorem gB_nd {m : Nat} (m3 : m = 2 ∨ m = 4 ∨ m = 8) {c : List Int} (h : c.length = 2 * m) (hb : Nd 67108864 c) : Nd 100000000000 (gB m c) := by
  have g := Nd_gather (lvl (2 * m)) c 67108864 (lvl_m m3).2 (by rw [h]; exact (lvl_m m3).1) (by omega) hb
  have p := pow_topB (lvl (2 * m)) (lvl_m m3).2
  intro j
  have := g j
  unfold gB
  omega
theorem gB_spec {m : Nat} (m3 : m = 2 ∨ m = 4 ∨ m = 8) {c : List Int} (h : c.length = 2 * m) (hb : Nd 67108864 c) (k : Nat) (hk : 1000 ≤ k) : spec_l8Gather.f k c = some (gB m c) :=
  bGather (lvl (2 * m)) c 67108864 k (lvl_m m3).2 (by rw [h]; exact (lvl_m m3).1) (by omega) hb (pow_topB _ (lvl_m m3).2) (by have := (lvl_m m3).2; omega)
theorem gB_impl {m : Nat} (m3 : m = 2 ∨ m = 4 ∨ m = 8) {c : List Int} (h : c.length = 2 * m) (hb : Nd 67108864 c) (k : Nat) (hk : 1000 ≤ k) : impl_undo_gather.f k impl_ofBounds_1.f impl_partBounds.f c = some (gB m c) :=
  iGatherB (lvl (2 * m)) c 67108864 k (lvl_m m3).2 (by rw [h]; exact (lvl_m m3).1) (by omega) hb (pow_topB _ (lvl_m m3).2) (by have := (lvl_m m3).2; omega)
theorem stQ_spec {m : Nat} (m3 : m = 2 ∨ m = 4 ∨ m = 8) {a b : List Int} (ha : Nd 100000000000 a) (hb : Nd 100000000000 b) : ∀ i : Nat, i < m → spec_l8Turn.f ((2 * m : Nat) : Int) (i : Int) (rd a ((m - 1 - i : Nat) : Int)) (rd b (i : Int)) = some (stQ m a b i) := by
  intro i hi
  have a1 := ha (m - 1 - i)
  have a2 := hb i
  exact l8Turn_eq (validS m3 hi) _ _ (by omega) (by omega)
theorem stQ_impl {m : Nat} (m3 : m = 2 ∨ m = 4 ∨ m = 8) {a b : List Int} (ha : Nd 100000000000 a) (hb : Nd 100000000000 b) : ∀ i : Nat, i < m → impl_ofBounds_1.f ((2 * m : Nat) : Int) (i : Int) (rd a ((m - 1 - i : Nat) : Int)) (rd b (i : Int)) = some (stQ m a b i) := by
  intro i hi
  have a1 := ha (m - 1 - i)
  have a2 := hb i
  exact ofBounds1_eq (validS m3 hi) _ _ (by omega) (by omega)
structure RightB (m : Nat) (x y z : List Int) : Prop where
  m3 : m = 2 ∨ m = 4 ∨ m = 8
  lx : x.length = 2 * m
  ly : y.length = 2 * m
  lz : z.length = 2 * m
  bx : Nd 67108864 x
  by' : Nd 67108864 y
  bz : Nd 67108864 z
def frameB (m : Nat) (x y z : List Int) : List Int :=
  seamB m (stQ m ((gB m x).drop m) ((gB m y).take m)) ++ seamA m (stQ m ((gB m y).drop m) ((gB m z).take m))
theorem frameB_length (m : Nat) (x y z : List Int) : (frameB m x y z).length = 2 * m := by
  unfold frameB; rw [List.length_append, seamB_length, seamA_length]; omega
theorem spec_frame_ok {m : Nat} {x y z : List Int} (h : RightB m x y z) (k : Nat) (hk : 1000 ≤ k) : spec_l8Frame.f k ((2 * m : Nat) : Int) x y z = some (frameB m x y z) := by
  have hm8 : m ≤ 8 := by have := h.m3; omega
  have lx := gB_length h.m3 h.lx
  have ly := gB_length h.m3 h.ly
  have lz := gB_length h.m3 h.lz
  have nx := gB_nd h.m3 h.lx h.bx
  have ny := gB_nd h.m3 h.ly h.by'
  have nz := gB_nd h.m3 h.lz h.bz
  have e1 := bSeam hm8 (stQ m ((gB m x).drop m) ((gB m y).take m)) ((gB m x).drop m) ((gB m y).take m) (by rw [List.length_drop]; omega) (by rw [List.length_take]; omega) (stQ_spec h.m3 (Nd_drop m nx) (Nd_take (by omega) m ny)) k (by omega)
  have e2 := bSeam hm8 (stQ m ((gB m y).drop m) ((gB m z).take m)) ((gB m y).drop m) ((gB m z).take m) (by rw [List.length_drop]; omega) (by rw [List.length_take]; omega) (stQ_spec h.m3 (Nd_drop m ny) (Nd_take (by omega) m nz)) k (by omega)
  unfold spec_l8Frame.f
  rw [gB_spec h.m3 h.lx h.bx k hk, bindS, gB_spec h.m3 h.ly h.by' k hk, bindS, gB_spec h.m3 h.lz h.bz k hk, bindS, halfI hm8, if_pos (by omega), if_pos (by omega), if_pos (by omega), Int.toNat_natCast, e1, bindS, if_pos (by omega), e2, bindS]
  simp only [seamA_length, seamB_length]
  rw [if_pos (by omega)]
  rfl
theorem impl_frame_ok {m : Nat} {x y z : List Int} (h : RightB m x y z) (k : Nat) (hk : 1000 ≤ k) : impl_FrameBounds.j0 (k + 1) x y z 0 ((2 * m : Nat) : Int) = some (0, frameB m x y z) := by
  have hm8 : m ≤ 8 := by have := h.m3; omega
  have lx := gB_length h.m3 h.lx
  have ly := gB_length h.m3 h.ly
  have lz := gB_length h.m3 h.lz
  have nx := gB_nd h.m3 h.lx h.bx
  have ny := gB_nd h.m3 h.ly h.by'
  have nz := gB_nd h.m3 h.lz h.bz
  have e1 := iSeam hm8 (impl_ofBounds_1.f ((2 * m : Nat) : Int)) (stQ m ((gB m x).drop m) ((gB m y).take m)) ((gB m x).drop m) ((gB m y).take m) (by rw [List.length_drop]; omega) (by rw [List.length_take]; omega) (stQ_impl h.m3 (Nd_drop m nx) (Nd_take (by omega) m ny)) k (by omega)
  have e2 := iSeam hm8 (impl_ofBounds_1.f ((2 * m : Nat) : Int)) (stQ m ((gB m y).drop m) ((gB m z).take m)) ((gB m y).drop m) ((gB m z).take m) (by rw [List.length_drop]; omega) (by rw [List.length_take]; omega) (stQ_impl h.m3 (Nd_drop m ny) (Nd_take (by omega) m nz)) k (by omega)
  obtain ⟨q, hq⟩ : ∃ q, k = q + 1 + 1 + 1 + 1 + 1 + 1 := ⟨k - 6, by omega⟩
  have e3 := concatI_eq (seamB m (stQ m ((gB m x).drop m) ((gB m y).take m))) (seamA m (stQ m ((gB m y).drop m) ((gB m z).take m))) (by rw [seamA_length, seamB_length]; omega) q
  rw [← hq] at e3
  rw [impl_FrameBounds.j0, if_pos rfl, impl_ofBounds.f, bindS, gB_impl h.m3 h.ly h.by' k hk, bindS, gB_impl h.m3 h.lx h.bx k hk, bindS, halfI hm8, if_pos (by omega), if_pos (by omega), if_pos (by omega), Int.toNat_natCast, e1, bindS, gB_impl h.m3 h.lz h.bz k hk, bindS, if_pos (by omega), e2, bindS]
  simp only
  rw [e3, bindS]
  rfl
theorem bc_nd {m : Nat} (m3 : m = 2 ∨ m = 4 ∨ m = 8) {x : List Int} (h : (x.length : Int) = ((2 * m : Nat) : Int)) (hs : sizeF ((2 * m : Nat) : Int) = 0) (hb : bc x = 0) : x.length = 2 * m ∧ Nd 67108864 x := by
  unfold bc at hb
  rw [h, if_pos hs] at hb
  by_cases g : allIn 0 67108864 x = true
  · exact ⟨by omega, Nd_all (by omega) g⟩
  · rw [if_neg g] at hb; omega
theorem frame_both (a : Int) (x y z : List Int) (hx : x.length ≤ 1048576) (hy : y.length ≤ 1048576) (hz : z.length ≤ 1048576) :
    ∃ c r, r.length ≤ 16 ∧ ∀ k : Nat, 2000 ≤ k → x.length < k → y.length < k → z.length < k → spec_FrameBounds.f (k + 1) a x y z = some (c, r) ∧ impl_FrameBounds.f (k + 1) a x y z = some (c, r) := by
  have hA : ∀ (k : Nat) (xs : List Int), xs.length ≤ 1048576 → xs.length < k → spec_l8Ask.f k xs = some (bc xs) := fun k xs h hk => l8Ask_eq xs (by omega) k hk
  have hG : ∀ (k : Nat) (xs : List Int), 2000 ≤ k → impl_boundsFault.f k xs = some (bc xs) := fun k xs hk => boundsFault_eq xs k (by omega)
  have hF : ∀ (k : Nat) (p q r s t : Int), 2000 ≤ k → impl_first.f k [p, q, r, s, t] = some (nz [p, q, r, s, t]) := fun k p q r s t hk => first_eq [p, q, r, s, t] (by simp) k (by simp; omega)
  have c1 : (if true = true then (2 : Int) else 0) = 2 := rfl
  have c0 : (if false = true then (2 : Int) else 0) = 0 := rfl
  have j0n : ∀ (k : Nat) (c : Int), ¬ c = 0 → impl_FrameBounds.j0 (k + 1) x y z c a = some (c, []) := fun k c hc => by rw [impl_FrameBounds.j0, if_neg hc]
  have bad : ∀ (k : Nat), 2000 ≤ k → (∀ c, ¬ c = 0 → nz [sizeF a, 2, bc x, bc y, bc z] = c → impl_FrameBounds.j0 k x y z c a = some (c, [])) := fun k hk c hc _ => by
    obtain ⟨q, rfl⟩ : ∃ q, k = q + 1 := ⟨k - 1, by omega⟩
    exact j0n q c hc
  by_cases hs : sizeF a = 0
  · obtain ⟨m, m3, rfl⟩ := size_m hs
    by_cases gx : (x.length : Int) = ((2 * m : Nat) : Int)
    · have nx : ((x.length : Int) != ((2 * m : Nat) : Int)) = false := by rw [gx]; simp
      by_cases gy : (y.length : Int) = ((2 * m : Nat) : Int)
      · have ny : ((y.length : Int) != ((2 * m : Nat) : Int)) = false := by rw [gy]; simp
        by_cases gz : (z.length : Int) = ((2 * m : Nat) : Int)
        · have nzz : ((z.length : Int) != ((2 * m : Nat) : Int)) = false := by rw [gz]; simp
          by_cases b1 : bc x = 0
          · by_cases b2 : bc y = 0
            · by_cases b3 : bc z = 0
              · obtain ⟨lx, bx⟩ := bc_nd m3 gx hs b1
                obtain ⟨ly, by'⟩ := bc_nd m3 gy hs b2
                obtain ⟨lz, bz⟩ := bc_nd m3 gz hs b3
                have R : RightB m x y z := ⟨m3, lx, ly, lz, bx, by', bz⟩
                refine ⟨0, frameB m x y z, by rw [frameB_length]; omega, fun k k1 k2 k3 k4 => ⟨?_, ?_⟩⟩
                · unfold spec_FrameBounds.f
                  obtain ⟨q, rfl⟩ : ∃ q, k = q + 1 := ⟨k - 1, by omega⟩
                  rw [spec_SizeFault_eq, hs, bindS, if_pos rfl, if_pos gx, if_pos gy, nzz, spec_FrameBounds.j0, if_neg (by decide), hA _ x hx (by omega), b1, bindS, if_pos rfl, hA _ y hy (by omega), b2, bindS, if_pos rfl, hA _ z hz (by omega), b3, bindS, if_pos rfl, spec_frame_ok R _ (by omega), bindS]
                · unfold impl_FrameBounds.f impl_FrameBounds_1.f
                  rw [impl_SizeFault_eq, hs, bindS, nx, bindS, if_neg (by decide), ny, bindS, if_neg (by decide), nzz, bindS, codeIf_eq, bindS, hG _ x (by omega), bindS, hG _ y (by omega), bindS, hG _ z (by omega), bindS, c0, b1, b2, b3, hF _ _ _ _ _ _ (by omega), bindS]
                  simp only [nz, if_true]
                  exact impl_frame_ok R k (by omega)
              · refine ⟨bc z, [], by simp, fun k k1 k2 k3 k4 => ⟨?_, ?_⟩⟩
                · unfold spec_FrameBounds.f
                  obtain ⟨q, rfl⟩ : ∃ q, k = q + 1 := ⟨k - 1, by omega⟩
                  rw [spec_SizeFault_eq, hs, bindS, if_pos rfl, if_pos gx, if_pos gy, nzz, spec_FrameBounds.j0, if_neg (by decide), hA _ x hx (by omega), b1, bindS, if_pos rfl, hA _ y hy (by omega), b2, bindS, if_pos rfl, hA _ z hz (by omega), bindS, if_neg b3]
                · unfold impl_FrameBounds.f impl_FrameBounds_1.f
                  rw [impl_SizeFault_eq, hs, bindS, nx, bindS, if_neg (by decide), ny, bindS, if_neg (by decide), nzz, bindS, codeIf_eq, bindS, hG _ x (by omega), bindS, hG _ y (by omega), bindS, hG _ z (by omega), bindS, c0, b1, b2, hF _ _ _ _ _ _ (by omega), bindS]
                  simp only [nz, if_true, if_neg b3]
                  exact j0n k _ b3
            · refine ⟨bc y, [], by simp, fun k k1 k2 k3 k4 => ⟨?_, ?_⟩⟩
              · unfold spec_FrameBounds.f
                obtain ⟨q, rfl⟩ : ∃ q, k = q + 1 := ⟨k - 1, by omega⟩
                rw [spec_SizeFault_eq, hs, bindS, if_pos rfl, if_pos gx, if_pos gy, nzz, spec_FrameBounds.j0, if_neg (by decide), hA _ x hx (by omega), b1, bindS, if_pos rfl, hA _ y hy (by omega), bindS, if_neg b2]
              · unfold impl_FrameBounds.f impl_FrameBounds_1.f
                rw [impl_SizeFault_eq, hs, bindS, nx, bindS, if_neg (by decide), ny, bindS, if_neg (by decide), nzz, bindS, codeIf_eq, bindS, hG _ x (by omega), bindS, hG _ y (by omega), bindS, hG _ z (by omega), bindS, c0, b1, hF _ _ _ _ _ _ (by omega), bindS]
                simp only [nz, if_true, if_neg b2]
                exact j0n k _ b2
          · refine ⟨bc x, [], by simp, fun k k1 k2 k3 k4 => ⟨?_, ?_⟩⟩
            · unfold spec_FrameBounds.f
              obtain ⟨q, rfl⟩ : ∃ q, k = q + 1 := ⟨k - 1, by omega⟩
              rw [spec_SizeFault_eq, hs, bindS, if_pos rfl, if_pos gx, if_pos gy, nzz, spec_FrameBounds.j0, if_neg (by decide), hA _ x hx (by omega), bindS, if_neg b1]
            · unfold impl_FrameBounds.f impl_FrameBounds_1.f
              rw [impl_SizeFault_eq, hs, bindS, nx, bindS, if_neg (by decide), ny, bindS, if_neg (by decide), nzz, bindS, codeIf_eq, bindS, hG _ x (by omega), bindS, hG _ y (by omega), bindS, hG _ z (by omega), bindS, c0, hF _ _ _ _ _ _ (by omega), bindS]
              simp only [nz, if_true, if_neg b1]
              exact j0n k _ b1
        · have nzz : ((z.length : Int) != ((2 * m : Nat) : Int)) = true := by simp only [bne_iff_ne, ne_eq]; exact gz
          refine ⟨2, [], by simp, fun k k1 k2 k3 k4 => ⟨?_, ?_⟩⟩
          · unfold spec_FrameBounds.f
            obtain ⟨q, rfl⟩ : ∃ q, k = q + 1 := ⟨k - 1, by omega⟩
            rw [spec_SizeFault_eq, hs, bindS, if_pos rfl, if_pos gx, if_pos gy, nzz, spec_FrameBounds.j0, if_pos rfl]
          · unfold impl_FrameBounds.f impl_FrameBounds_1.f
            rw [impl_SizeFault_eq, hs, bindS, nx, bindS, if_neg (by decide), ny, bindS, if_neg (by decide), nzz, bindS, codeIf_eq, bindS, hG _ x (by omega), bindS, hG _ y (by omega), bindS, hG _ z (by omega), bindS, c1, hF _ _ _ _ _ _ (by omega), bindS]
            simp only [nz, if_true, if_neg (show ¬ (2 : Int) = 0 by decide)]
            exact j0n k _ (by decide)
      · have ny : ((y.length : Int) != ((2 * m : Nat) : Int)) = true := by simp only [bne_iff_ne, ne_eq]; exact gy
        refine ⟨2, [], by simp, fun k k1 k2 k3 k4 => ⟨?_, ?_⟩⟩
        · unfold spec_FrameBounds.f
          obtain ⟨q, rfl⟩ : ∃ q, k = q + 1 := ⟨k - 1, by omega⟩
          rw [spec_SizeFault_eq, hs, bindS, if_pos rfl, if_pos gx, if_neg gy, spec_FrameBounds.j0, if_pos rfl]
        · unfold impl_FrameBounds.f impl_FrameBounds_1.f
          rw [impl_SizeFault_eq, hs, bindS, nx, bindS, if_neg (by decide), ny, bindS, if_pos rfl, codeIf_eq, bindS, hG _ x (by omega), bindS, hG _ y (by omega), bindS, hG _ z (by omega), bindS, c1, hF _ _ _ _ _ _ (by omega), bindS]
          simp only [nz, if_true, if_neg (show ¬ (2 : Int) = 0 by decide)]
          exact j0n k _ (by decide)
    · have nx : ((x.length : Int) != ((2 * m : Nat) : Int)) = true := by simp only [bne_iff_ne, ne_eq]; exact gx
      refine ⟨2, [], by simp, fun k k1 k2 k3 k4 => ⟨?_, ?_⟩⟩
      · unfold spec_FrameBounds.f
        obtain ⟨q, rfl⟩ : ∃ q, k = q + 1 := ⟨k - 1, by omega⟩
        rw [spec_SizeFault_eq, hs, bindS, if_pos rfl, if_neg gx, spec_FrameBounds.j0, if_pos rfl]
      · unfold impl_FrameBounds.f impl_FrameBounds_1.f
        rw [impl_SizeFault_eq, hs, bindS, nx, bindS, if_pos rfl, codeIf_eq, bindS, hG _ x (by omega), bindS, hG _ y (by omega), bindS, hG _ z (by omega), bindS, c1, hF _ _ _ _ _ _ (by omega), bindS]
        simp only [nz, if_true, if_neg (show ¬ (2 : Int) = 0 by decide)]
        exact j0n k _ (by decide)
  · refine ⟨sizeF a, [], by simp, fun k k1 k2 k3 k4 => ⟨?_, ?_⟩⟩
    · unfold spec_FrameBounds.f
      rw [spec_SizeFault_eq, bindS, if_neg hs]
    · have hn : ∀ p q r s : Int, nz [sizeF a, p, q, r, s] = sizeF a := fun p q r s => by simp only [nz, if_neg hs]
      unfold impl_FrameBounds.f impl_FrameBounds_1.f
      rw [impl_SizeFault_eq, bindS, bindS]
      cases e1 : ((x.length : Int) != a)
      · rw [if_neg (by decide), bindS]
        cases e2 : ((y.length : Int) != a)
        · rw [if_neg (by decide), bindS, codeIf_eq, bindS, hG _ x (by omega), bindS, hG _ y (by omega), bindS, hG _ z (by omega), bindS, hF _ _ _ _ _ _ (by omega), bindS, hn]
          exact j0n k _ hs
        · rw [if_pos rfl, codeIf_eq, bindS, hG _ x (by omega), bindS, hG _ y (by omega), bindS, hG _ z (by omega), bindS, hF _ _ _ _ _ _ (by omega), bindS, hn]
          exact j0n k _ hs
      · rw [if_pos rfl, codeIf_eq, bindS, hG _ x (by omega), bindS, hG _ y (by omega), bindS, hG _ z (by omega), bindS, hF _ _ _ _ _ _ (by omega), bindS, hn]
        exact j0n k _ hs

theorem tn_diff {x y M : Int} (h1 : -M ≤ x - y) (h2 : x - y ≤ M) : tn x - tn y ≤ -((-M) / 1024) ∧ -(-((-M) / 1024)) ≤ tn x - tn y := by
  unfold tn; omega
theorem mul_diff {f x y e : Int} (hf : 0 ≤ f) (h1 : -e ≤ x - y) (h2 : x - y ≤ e) : -(f * e) ≤ f * x - f * y ∧ f * x - f * y ≤ f * e := by
  have a1 := Int.mul_le_mul_of_nonneg_left h1 hf
  have a2 := Int.mul_le_mul_of_nonneg_left h2 hf
  rw [Int.mul_sub] at a1 a2
  rw [Int.mul_neg] at a1
  exact ⟨a1, a2⟩
theorem tn_sh {f x y e : Int} (hf : 0 ≤ f) (h1 : -e ≤ x - y) (h2 : x - y ≤ e) : -(sh f e) ≤ tn (f * x) - tn (f * y) ∧ tn (f * x) - tn (f * y) ≤ sh f e := by
  have m := mul_diff hf h1 h2
  have t := tn_diff m.1 m.2
  exact ⟨t.2, t.1⟩
theorem back_near {p u a b c d e f : Int} (hp : 0 ≤ p) (hu : 0 ≤ u) (h1 : -e ≤ a - c) (h2 : a - c ≤ e) (h3 : -f ≤ b - d) (h4 : b - d ≤ f) :
    (-(tb p u e f).1 ≤ (back p u a b).1 - (back p u c d).1 ∧ (back p u a b).1 - (back p u c d).1 ≤ (tb p u e f).1) ∧ (-(tb p u e f).2 ≤ (back p u a b).2 - (back p u c d).2 ∧ (back p u a b).2 - (back p u c d).2 ≤ (tb p u e f).2) := by
  have s1 := tn_sh hp h3 h4
  have k1 : -(e + sh p f) ≤ (a + tn (p * b)) - (c + tn (p * d)) := by omega
  have k2 : (a + tn (p * b)) - (c + tn (p * d)) ≤ e + sh p f := by omega
  have s2 := tn_sh hu k1 k2
  have k3 : -(f + sh u (e + sh p f)) ≤ (b - tn (u * (a + tn (p * b)))) - (d - tn (u * (c + tn (p * d)))) := by omega
  have k4 : (b - tn (u * (a + tn (p * b)))) - (d - tn (u * (c + tn (p * d)))) ≤ f + sh u (e + sh p f) := by omega
  have s3 := tn_sh hp k3 k4
  unfold back tb
  simp only
  omega
theorem step_near {n i : Nat} (hv : Valid (n : Int) (i : Int)) {a b c d e f : Int} (h1 : -e ≤ a - c ∧ a - c ≤ e) (h2 : -f ≤ b - d ∧ b - d ≤ f) :
    (-(boundS n i e f).1 ≤ (backS n i a b).1 - (backS n i c d).1 ∧ (backS n i a b).1 - (backS n i c d).1 ≤ (boundS n i e f).1) ∧ (-(boundS n i e f).2 ≤ (backS n i a b).2 - (backS n i c d).2 ∧ (backS n i a b).2 - (backS n i c d).2 ≤ (boundS n i e f).2) := by
  obtain ⟨_, hp, hu⟩ := turnOf_eq hv
  unfold boundS backS
  exact back_near hp.1 hu.1 h1.1 h1.2 h2.1 h2.2
def NearL (xs ys es : List Int) : Prop := ∀ j : Nat, -(rd es (j : Int)) ≤ rd xs (j : Int) - rd ys (j : Int) ∧ rd xs (j : Int) - rd ys (j : Int) ≤ rd es (j : Int)
theorem NL_gen {n : Nat} {f g e : Nat → Int} (h : ∀ j, j < n → -(e j) ≤ f j - g j ∧ f j - g j ≤ e j) : NearL (gen n f) (gen n g) (gen n e) := fun j => by
  by_cases hj : j < n
  · rw [rd_gen _ _ hj, rd_gen _ _ hj, rd_gen _ _ hj]; exact h j hj
  · rw [rd_out _ (by rw [gen_length]; omega), rd_out _ (by rw [gen_length]; omega), rd_out _ (by rw [gen_length]; omega)]; omega
theorem NL_evens {a b e : List Int} (h : NearL a b e) (l1 : b.length = a.length) (l2 : e.length = a.length) : NearL (evens a) (evens b) (evens e) := by
  unfold evens; rw [l1, l2]; exact NL_gen fun j _ => h _
theorem NL_odds {a b e : List Int} (h : NearL a b e) (l1 : b.length = a.length) (l2 : e.length = a.length) : NearL (odds a) (odds b) (odds e) := by
  unfold odds; rw [l1, l2]; exact NL_gen fun j _ => h _
theorem NL_twist {n q : Nat} {a b e : List Int} (h : NearL a b e) (l1 : b.length = a.length) (l2 : e.length = a.length) (hv : ∀ i, i < q → Valid (n : Int) (i : Int)) : NearL (twist (backS n) q a) (twist (backS n) q b) (twist (boundS n) q e) := by
  unfold twist W
  rw [l1, l2]
  refine NL_gen fun j hj => ?_
  by_cases h1 : j < q
  · simp only [if_pos h1]
    exact (step_near (hv j h1) (h j) (h (a.length - 1 - j))).1
  · simp only [if_neg h1]
    by_cases h2 : a.length - 1 - j < q
    · simp only [if_pos h2]
      exact (step_near (hv _ h2) (h (a.length - 1 - j)) (h (a.length - 1 - (a.length - 1 - j)))).2
    · simp only [if_neg h2]; exact h j
theorem NL_outs {s s' es d d' ed : List Int} (l1 : s'.length = s.length) (l2 : es.length = s.length) (h1 : NearL s s' es) (h2 : NearL d d' ed) : NearL (outs pf s d) (outs pf s' d') (outs pg es ed) := by
  unfold outs
  rw [l1, l2]
  refine NL_gen fun j hj => ?_
  by_cases h : j < s.length
  · simp only [if_pos h]
    have a1 := h1 j
    have a2 := h2 j
    unfold pf pg
    simp only
    omega
  · simp only [if_neg h]
    have a1 := h1 (2 * s.length - 1 - j)
    have a2 := h2 (2 * s.length - 1 - j)
    unfold pf pg
    simp only
    omega
theorem NL_unite {m : Nat} (hm : Sz m) {s s' es d d' ed : List Int} (ls : s.length = m) (ls' : s'.length = m) (le : es.length = m) (ld : d.length = m) (ld' : d'.length = m) (ldd : ed.length = m) (h1 : NearL s s' es) (h2 : NearL d d' ed) :
    NearL (uniteM backS pf s d) (uniteM backS pf s' d') (uniteM boundS pg es ed) := by
  unfold uniteM
  rw [ls, ls', le]
  exact NL_outs (by omega) (by omega) h1 (NL_twist h2 (by omega) (by omega) (fun i hi => valid_of hm hi))
theorem NL_gather : ∀ (L : Nat) (a b e : List Int), L ≤ 4 → a.length = 2 ^ L → b.length = 2 ^ L → e.length = 2 ^ L → NearL a b e → NearL (gatherM backS pf L a) (gatherM backS pf L b) (gatherM boundS pg L e) := by
  intro L
  induction L with
  | zero => intro a b e _ _ _ _ h; exact h
  | succ L ih =>
    intro a b e hL ha hb he h
    rw [Nat.pow_succ] at ha hb he
    have a1 : (evens a).length = 2 ^ L := by rw [evensL]; omega
    have a2 : (odds a).length = 2 ^ L := by rw [oddsL]; omega
    have b1 : (evens b).length = 2 ^ L := by rw [evensL]; omega
    have b2 : (odds b).length = 2 ^ L := by rw [oddsL]; omega
    have e1 : (evens e).length = 2 ^ L := by rw [evensL]; omega
    have e2 : (odds e).length = 2 ^ L := by rw [oddsL]; omega
    rw [gatherM, gatherM, gatherM]
    exact NL_unite (SzP L (by omega)) (gatherM_length _ _ _ _ a1) (gatherM_length _ _ _ _ b1) (gatherM_length _ _ _ _ e1) (gatherM_length _ _ _ _ a2) (gatherM_length _ _ _ _ b2) (gatherM_length _ _ _ _ e2)
      (ih _ _ _ (by omega) a1 b1 e1 (NL_evens h (by omega) (by omega))) (ih _ _ _ (by omega) a2 b2 e2 (NL_odds h (by omega) (by omega)))
theorem rd_take (xs : List Int) (n j : Nat) : rd (xs.take n) (j : Int) = if j < n then rd xs (j : Int) else 0 := by
  rw [rd_nat, rd_nat, List.getD_eq_getElem?_getD, List.getD_eq_getElem?_getD, List.getElem?_take]; split <;> rfl
theorem rd_drop (xs : List Int) (n j : Nat) : rd (xs.drop n) (j : Int) = rd xs ((n + j : Nat) : Int) := by
  rw [rd_nat, rd_nat, List.getD_eq_getElem?_getD, List.getD_eq_getElem?_getD, List.getElem?_drop]
theorem rd_append (xs ys : List Int) (j : Nat) : rd (xs ++ ys) (j : Int) = if j < xs.length then rd xs (j : Int) else rd ys ((j - xs.length : Nat) : Int) := by
  by_cases h : j < xs.length
  · rw [if_pos h, rd_nat, rd_nat, List.getD_eq_getElem?_getD, List.getD_eq_getElem?_getD, List.getElem?_append_left h]
  · rw [if_neg h, rd_nat, rd_nat, List.getD_eq_getElem?_getD, List.getD_eq_getElem?_getD, List.getElem?_append_right (by omega)]
theorem NL_take {a b e : List Int} (n : Nat) (h : NearL a b e) : NearL (a.take n) (b.take n) (e.take n) := fun j => by
  rw [rd_take, rd_take, rd_take]
  by_cases hj : j < n
  · rw [if_pos hj, if_pos hj, if_pos hj]; exact h j
  · rw [if_neg hj, if_neg hj, if_neg hj]; omega
theorem NL_drop {a b e : List Int} (n : Nat) (h : NearL a b e) : NearL (a.drop n) (b.drop n) (e.drop n) := fun j => by
  rw [rd_drop, rd_drop, rd_drop]; exact h _
theorem NL_append {a b e a' b' e' : List Int} (l1 : b.length = a.length) (l2 : e.length = a.length) (h : NearL a b e) (h' : NearL a' b' e') : NearL (a ++ a') (b ++ b') (e ++ e') := fun j => by
  rw [rd_append, rd_append, rd_append, l1, l2]
  by_cases hj : j < a.length
  · rw [if_pos hj, if_pos hj, if_pos hj]; exact h j
  · rw [if_neg hj, if_neg hj, if_neg hj]; exact h' _
theorem NL_seam {m : Nat} (m3 : m = 2 ∨ m = 4 ∨ m = 8) {a a' ea b b' eb : List Int} (h1 : NearL a a' ea) (h2 : NearL b b' eb) :
    NearL (seamA m (stB m a b)) (seamA m (stB m a' b')) (seamA m (stQ m ea eb)) ∧ NearL (seamB m (stB m a b)) (seamB m (stB m a' b')) (seamB m (stQ m ea eb)) := by
  have hs : ∀ i, i < m → _ := fun i hi => step_near (validS m3 hi) (h1 (m - 1 - i)) (h2 i)
  exact ⟨NL_gen fun j hj => (hs (m - 1 - j) (by omega)).1, NL_gen fun j hj => (hs j hj).2⟩
structure OkS (m : Nat) (x y : List Int) : Prop where
  lx : x.length = m
  ly : y.length = m
  bx : Bd 1073741824 x
  by' : Bd 268435456 y
theorem sizeM {m : Nat} (m3 : m = 2 ∨ m = 4 ∨ m = 8) : sizeF ((2 * m : Nat) : Int) = 0 := by rcases m3 with rfl | rfl | rfl <;> rfl
theorem okS_fault {m : Nat} (m3 : m = 2 ∨ m = 4 ∨ m = 8) {x y : List Int} (h : OkS m x y) : faultS ((2 * m : Nat) : Int) x y = 0 := by
  unfold faultS
  rw [if_pos (sizeM m3), halfI (by omega), if_pos (by rw [h.lx]), if_pos (by rw [h.ly]), if_pos (all_Bd h.bx (Int.le_refl _)), if_pos (all_Bd h.by' (Int.le_refl _))]
theorem gatherC_bd {m : Nat} (m3 : m = 2 ∨ m = 4 ∨ m = 8) {c : List Int} (lc : c.length = 2 * m) (h : gatherC c = 0) : Bd 16777216 c := by
  unfold gatherC at h
  rw [lc, if_pos (sizeM m3)] at h
  by_cases g : allIn (-16777216) 16777216 c = true
  · exact Bd_all (by omega) g
  · rw [if_neg g] at h; omega
theorem gatherC_of {m : Nat} (m3 : m = 2 ∨ m = 4 ∨ m = 8) {c : List Int} (lc : c.length = 2 * m) (h : Bd 16777216 c) : gatherC c = 0 := by
  unfold gatherC
  rw [lc, if_pos (sizeM m3), if_pos (all_Bd h (Int.le_refl _))]
theorem gatherC_no {m : Nat} (m3 : m = 2 ∨ m = 4 ∨ m = 8) {c : List Int} (lc : c.length = 2 * m) (h : ¬ gatherC c = 0) : gatherC c = 3 := by
  unfold gatherC at h ⊢
  rw [lc, if_pos (sizeM m3)] at h ⊢
  by_cases g : allIn (-16777216) 16777216 c = true
  · rw [if_pos g] at h; exact absurd rfl h
  · rw [if_neg g]
theorem okS_right {m : Nat} (m3 : m = 2 ∨ m = 4 ∨ m = 8) {x y c : List Int} (h : OkS m x y) (lc : c.length = 2 * m) (hb : Bd 16777216 c) : RightS m x y c := ⟨m3, h.lx, h.ly, lc, h.bx, h.by', hb⟩
theorem play_yes {m : Nat} (m3 : m = 2 ∨ m = 4 ∨ m = 8) {x y c : List Int} (h : OkS m x y) (lc : c.length = 2 * m) (hb : Bd 16777216 c) (k : Nat) (hk : 1000 ≤ k) :
    impl_PlayBlock.f k ((2 * m : Nat) : Int) x y c = some (0, ((2 * m : Nat) : Int), seamB m (playF m y c), (playB m c).drop m, x ++ seamA m (playF m y c)) :=
  impl_play_ok (okS_right m3 h lc hb) (okS_fault m3 h) (gatherC_of m3 lc hb) k hk
theorem play_no {m : Nat} (m3 : m = 2 ∨ m = 4 ∨ m = 8) {x y c : List Int} (h : OkS m x y) (lc : c.length = 2 * m) (hn : ¬ gatherC c = 0) (k : Nat) (hk : 1000 ≤ k) :
    impl_PlayBlock.f k ((2 * m : Nat) : Int) x y c = some (3, 0, [], [], []) := by
  have hne : ((c.length : Int) != ((2 * m : Nat) : Int)) = false := by rw [lc]; simp
  have hG : impl_gatherFault.f k c = some (gatherC c) := gatherFault_eq c k (by omega)
  have hF : impl_first.f k [0, 0, 3] = some (nz [0, 0, 3]) := first_eq [0, 0, 3] (by simp) k (by simp; omega)
  unfold impl_PlayBlock.f
  rw [impl_faultS_eq _ x y k (by omega), okS_fault m3 h, bindS, hne, codeIf_eq, bindS, hG, bindS, gatherC_no m3 lc hn, show (if false = true then (2 : Int) else 0) = 0 from rfl, hF, bindS]
  simp only [nz, if_true, if_neg (show ¬ (3 : Int) = 0 by decide)]
theorem Bf_gather : ∀ (L : Nat) (c : List Int) (N : Int), L ≤ 4 → c.length = 2 ^ L → 24 ≤ N → Bd N c → Bd (2 ^ L * N) (gatherM backS pf L c) := by
  intro L
  induction L with
  | zero => intro c N _ _ _ h; rw [gatherM]; simpa using h
  | succ L ih =>
    intro c N hL hc hN h
    rw [Nat.pow_succ] at hc
    have e1 : (evens c).length = 2 ^ L := by rw [evensL]; omega
    have e2 : (odds c).length = 2 ^ L := by rw [oddsL]; omega
    have b1 := ih (evens c) N (by omega) e1 hN (Bd_evens (by omega) h)
    have b2 := ih (odds c) N (by omega) e2 hN (Bd_odds (by omega) h)
    have hp : (1 : Int) ≤ 2 ^ L := Int.pow_pos (show (0 : Int) < 2 by decide)
    have hpN : 24 ≤ (2 : Int) ^ L * N := by have := Int.mul_le_mul_of_nonneg_right hp (show 0 ≤ N by omega); omega
    have := Bf_unite (SzP L (by omega)) (gatherM_length backS pf L _ e1) (gatherM_length backS pf L _ e2) hpN b1 b2
    rw [gatherM]
    rwa [← Int.mul_assoc, Int.mul_comm 2 ((2 : Int) ^ L), ← Int.pow_succ] at this
theorem pow_fine (L : Nat) (hL : L ≤ 4) : (2 : Int) ^ L * 16777216 ≤ 268435456 := by
  match L, hL with
  | 0, _ => decide
  | 1, _ => decide
  | 2, _ => decide
  | 3, _ => decide
  | 4, _ => decide
theorem playB_fine {m : Nat} (m3 : m = 2 ∨ m = 4 ∨ m = 8) {c : List Int} (lc : c.length = 2 * m) (hb : Bd 16777216 c) : Bd 268435456 (playB m c) :=
  (Bf_gather (lvl (2 * m)) c 16777216 (lvl_m m3).2 (by rw [lc]; exact (lvl_m m3).1) (by omega) hb).mono (pow_fine _ (lvl_m m3).2)
theorem playB_len {m : Nat} (m3 : m = 2 ∨ m = 4 ∨ m = 8) {c : List Int} (lc : c.length = 2 * m) : (playB m c).length = 2 * m := by
  unfold playB
  rw [gatherM_length _ _ _ _ (by rw [lc]; exact (lvl_m m3).1)]; exact (lvl_m m3).1.symm
theorem okS_next {m : Nat} (m3 : m = 2 ∨ m = 4 ∨ m = 8) {x y c : List Int} (h : OkS m x y) (lc : c.length = 2 * m) (hb : Bd 16777216 c) : OkS m (seamB m (playF m y c)) ((playB m c).drop m) := by
  have hB := playB_fine m3 lc hb
  refine ⟨seamB_length _ _, by rw [List.length_drop, playB_len m3 lc]; omega, ?_, Bd_drop m hB⟩
  refine (Bd_seam (by omega) fun i hi => ?_).2
  have := (rot_both (validS m3 hi) (N := 268435456) (by omega) (h.by' (m - 1 - i)) (Bd_take (by omega) m hB i)).2
  unfold playF stB backS
  omega
theorem l8Some_ok {c : List Int} (hc : Bytes c) (at' : Int) (h0 : 0 ≤ at') (h1 : at' ≤ 1073741000) : ∃ v, spec_l8Some.f c at' = some (v, at' + 4) := by
  unfold spec_l8Some.f
  obtain ⟨v1, e1, _⟩ := l1Next_ok hc at' 9 h0 (by omega)
  obtain ⟨v2, e2, _⟩ := l1Next_ok hc (at' + 1) 500 (by omega) (by omega)
  obtain ⟨v3, e3, _⟩ := l1Next_ok hc (at' + 1 + 1) 40000 (by omega) (by omega)
  rw [e1]; simp only [Option.bind_some]
  rw [e2]; simp only [Option.bind_some]
  rw [e3]; simp only [Option.bind_some]
  obtain ⟨v4, e4, _⟩ := l1Pick_ok hc (at' + 1 + 1 + 1) [0, 0, 1, 2, v1, v2, v3] (by omega) (by omega) (by simp)
  rw [e4]; simp only [Option.bind_some]
  exact ⟨v4, by rw [show at' + 1 + 1 + 1 + 1 = at' + 4 by omega]⟩
theorem l8List_l0 {c : List Int} (hc : Bytes c) : ∀ (d : Nat) (at' : Int) (xs : List Int) (k : Nat), d < k → 0 ≤ at' → at' + 4 * d ≤ 1073000000 → xs.length + d ≤ 1000 →
    ∃ ys q, spec_l8List.l0 k (d : Int) xs c at' = some (ys, q) ∧ ys.length = xs.length + d ∧ 0 ≤ q ∧ q ≤ at' + 4 * d + 2 := by
  intro d
  induction d with
  | zero =>
    intro at' xs k hk h0 h1 hl
    obtain ⟨k, rfl⟩ : ∃ q, k = q + 1 := ⟨k - 1, by omega⟩
    simp only [spec_l8List.l0]
    rw [if_neg (by omega)]
    by_cases h : (xs.length : Int) > 0
    · rw [if_pos h]
      unfold spec_l1Chance.f
      obtain ⟨v, e4, _⟩ := l1Next_ok hc at' 15 (by omega) (by omega)
      simp only [e4, Option.bind_some]
      by_cases g : (v == 0) = true
      · rw [if_pos g]
        obtain ⟨w, e6, _⟩ := l1Pick_ok hc (at' + 1) [(-1), 67108864, 67108865] (by omega) (by omega) (by simp)
        simp only [e6, Option.bind_some]
        rw [if_pos (by omega)]
        exact ⟨_, _, rfl, by rw [List.length_set]; omega, by omega, by omega⟩
      · rw [if_neg g]
        exact ⟨_, _, rfl, by omega, by omega, by omega⟩
    · rw [if_neg h]
      exact ⟨_, _, rfl, by omega, by omega, by omega⟩
  | succ d ih =>
    intro at' xs k hk h0 h1 hl
    obtain ⟨k, rfl⟩ : ∃ q, k = q + 1 := ⟨k - 1, by omega⟩
    obtain ⟨v, e⟩ := l8Some_ok hc at' h0 (by omega)
    obtain ⟨ys, q, h2, h4, h5, h6⟩ := ih (at' + 4) (xs ++ [v]) k (by omega) (by omega) (by omega) (by simp; omega)
    refine ⟨ys, q, ?_, by rw [h4]; simp; omega, h5, by omega⟩
    simp only [spec_l8List.l0]
    rw [if_pos (by omega), e]
    simp only [Option.bind_some]
    rw [if_pos (by omega), w64 (by omega) (by omega), show ((d + 1 : Nat) : Int) - 1 = (d : Int) by omega, h2]
theorem l8List_ok {c : List Int} (hc : Bytes c) (d : Nat) (hd : d ≤ 20) (at' : Int) (k : Nat) (hk : 100 ≤ k) (h0 : 0 ≤ at') (h1 : at' ≤ 1000) :
    ∃ ys q, spec_l8List.f k c at' (d : Int) = some (ys, q) ∧ ys.length = d ∧ 0 ≤ q ∧ q ≤ at' + 100 := by
  obtain ⟨ys, q, e, hl, h5, h6⟩ := l8List_l0 hc d at' [] k (by omega) h0 (by omega) (by simp; omega)
  exact ⟨ys, q, e, by rw [hl]; simp, h5, by omega⟩
theorem drawFB_ok {c : List Int} (hc : Bytes c) (k : Nat) (hk : 100 ≤ k) : ∃ s x y z, spec_DrawFrameBounds.f k c = some (s, x, y, z) ∧ x.length ≤ 20 ∧ y.length ≤ 20 ∧ z.length ≤ 20 := by
  unfold spec_DrawFrameBounds.f spec_l1Source.f spec_l1BentSize.f
  simp only [Option.bind_some]
  obtain ⟨s, e1, m1⟩ := l1Pick_ok hc 0 [4, 8, 16, 8, 4, 8, 16, 8, 4, 8, 16, 8, 0, 5, 32] (by omega) (by omega) (by simp)
  rw [e1]; simp only [Option.bind_some]
  simp only [List.mem_cons, List.not_mem_nil, or_false] at m1
  obtain ⟨n, hn, e2⟩ : ∃ n : Nat, n ≤ 20 ∧ spec_l1Min.f s 20 = some (n : Int) := by
    unfold spec_l1Min.f
    by_cases h : s < 20
    · rw [if_pos h]; exact ⟨s.toNat, by omega, by rw [Int.toNat_of_nonneg (by omega)]⟩
    · rw [if_neg h]; exact ⟨20, by omega, rfl⟩
  rw [e2]; simp only [Option.bind_some]
  obtain ⟨x, q1, e3, l3, p3, r3⟩ := l8List_ok hc n hn (0 + 1) k hk (by omega) (by omega)
  rw [e3]; simp only [Option.bind_some]
  obtain ⟨y, q2, e4, l4, p4, r4⟩ := l8List_ok hc n hn q1 k hk (by omega) (by omega)
  rw [e4]; simp only [Option.bind_some]
  obtain ⟨v, e5, m5⟩ := l1Pick_ok hc q2 [(n : Int), (n : Int), (n : Int), (n : Int), (n : Int), (n : Int), 4] (by omega) (by omega) (by simp)
  rw [e5]; simp only [Option.bind_some]
  simp only [List.mem_cons, List.not_mem_nil, or_false] at m5
  obtain ⟨z, q3, e6, l6, _, _⟩ := l8List_ok hc v.toNat (by omega) (q2 + 1) k hk (by omega) (by omega)
  rw [Int.toNat_of_nonneg (by omega)] at e6
  rw [e6]; simp only [Option.bind_some]
  exact ⟨_, _, _, _, rfl, by omega, by omega, by omega⟩
theorem spec_FB_valid (a : Int) (x y z r : List Int) (hx : x.length ≤ 1048576) (hy : y.length ≤ 1048576) (hz : z.length ≤ 1048576) (k : Nat) (k1 : 2000 ≤ k) (k2 : x.length + 1 < k) (k3 : y.length + 1 < k) (k4 : z.length + 1 < k)
    (h : spec_FrameBounds.f (k + 1) a x y z = some (0, r)) : ∃ m : Nat, a = ((2 * m : Nat) : Int) ∧ RightB m x y z ∧ r = frameB m x y z := by
  have hA : ∀ (xs : List Int), xs.length ≤ 1048576 → xs.length < k → spec_l8Ask.f k xs = some (bc xs) := fun xs h hk => l8Ask_eq xs (by omega) k hk
  have no : ∀ (c : Int), ¬ c = 0 → some (c, ([] : List Int)) = some (0, r) → False := fun c hc h => by injection h with h; injection h with h _; exact hc h
  have jt : spec_FrameBounds.j0 (k + 1) a x y z true = some (0, r) → False := fun h => by
    rw [spec_FrameBounds.j0, if_pos rfl] at h; exact no 2 (by decide) h
  unfold spec_FrameBounds.f at h
  rw [spec_SizeFault_eq, bindS] at h
  by_cases hs : sizeF a = 0
  · obtain ⟨m, m3, rfl⟩ := size_m hs
    rw [if_pos hs] at h
    by_cases gx : (x.length : Int) = ((2 * m : Nat) : Int)
    · rw [if_pos gx] at h
      by_cases gy : (y.length : Int) = ((2 * m : Nat) : Int)
      · rw [if_pos gy] at h
        by_cases gz : (z.length : Int) = ((2 * m : Nat) : Int)
        · have nzz : ((z.length : Int) != ((2 * m : Nat) : Int)) = false := by rw [gz]; simp
          rw [nzz, spec_FrameBounds.j0, if_neg (by decide), hA x hx (by omega), bindS] at h
          by_cases b1 : bc x = 0
          · rw [if_pos b1, hA y hy (by omega), bindS] at h
            by_cases b2 : bc y = 0
            · rw [if_pos b2, hA z hz (by omega), bindS] at h
              by_cases b3 : bc z = 0
              · rw [if_pos b3] at h
                obtain ⟨lx, bx⟩ := bc_nd m3 gx hs b1
                obtain ⟨ly, by'⟩ := bc_nd m3 gy hs b2
                obtain ⟨lz, bz⟩ := bc_nd m3 gz hs b3
                have R : RightB m x y z := ⟨m3, lx, ly, lz, bx, by', bz⟩
                rw [spec_frame_ok R k (by omega), bindS] at h
                injection h with h
                injection h with _ h
                exact ⟨m, rfl, R, h.symm⟩
              · rw [if_neg b3] at h; exact (no _ b3 h).elim
            · rw [if_neg b2] at h; exact (no _ b2 h).elim
          · rw [if_neg b1] at h; exact (no _ b1 h).elim
        · have nzz : ((z.length : Int) != ((2 * m : Nat) : Int)) = true := by simp only [bne_iff_ne, ne_eq]; exact gz
          rw [nzz] at h; exact (jt h).elim
      · rw [if_neg gy] at h; exact (jt h).elim
    · rw [if_neg gx] at h; exact (jt h).elim
  · rw [if_neg hs] at h; exact (no _ hs h).elim
theorem coefs_l1 {c : List Int} (hc : Bytes c) (s : Nat) (hs : s ≤ 16) (bss : List (List Int)) (n : Nat) (hn : n ≤ 2) (fc : Int) (fl : List Int) (a : Int) (x y : List Int) (b : Int) (x' y' : List Int) : ∀ (d i : Nat) (ys : List Int) (K : Nat), i + d = s → ys.length = i → (∀ v ∈ ys, -2000 ≤ v ∧ v ≤ 2000) →
    ∃ zs, zs.length = s ∧ (∀ v ∈ zs, -2000 ≤ v ∧ v ≤ 2000) ∧ laws_FnFrameBounds.l1 (K + d) c (s : Int) bss (n : Int) ys (i : Int) fc fl a x y b x' y' = laws_FnFrameBounds.l1 K c (s : Int) bss (n : Int) zs (s : Int) fc fl a x y b x' y' := by
  intro d
  induction d with
  | zero => intro i ys K hi hl hv; exact ⟨ys, by omega, hv, by rw [show i = s by omega]; rfl⟩
  | succ d ih =>
    intro i ys K hi hl hv
    obtain ⟨v, ev, v0, v1⟩ := lwAt_any hc ((i : Int) + (n : Int) * 5) 4001 (by omega) (by omega)
    have e1 : wrap64 ((n : Int) * 5) = (n : Int) * 5 := w64 (by omega) (by omega)
    have e2 : wrap64 ((i : Int) + (n : Int) * 5) = (i : Int) + (n : Int) * 5 := w64 (by omega) (by omega)
    have e3 : wrap64 (v - 2000) = v - 2000 := w64 (by omega) (by omega)
    obtain ⟨zs, z1, z2, z3⟩ := ih (i + 1) (ys ++ [v - 2000]) K (by omega) (by simp; omega) (fun w hw => by
      rcases List.mem_append.1 hw with hw | hw
      · exact hv w hw
      · rw [List.mem_singleton] at hw; omega)
    refine ⟨zs, z1, z2, ?_⟩
    rw [show K + (d + 1) = (K + d) + 1 by omega, laws_FnFrameBounds.l1, if_pos (by omega), e1, e2, ev, bindS, if_pos (by omega), e3, w64_succ _ (by omega)]
    exact z3
theorem bd_of {N : Int} (h0 : 0 ≤ N) {xs : List Int} (h : ∀ v ∈ xs, -N ≤ v ∧ v ≤ N) : Bd N xs := fun j => by
  by_cases hj : j < xs.length
  · rw [rd_get xs j hj]; exact h _ (List.getElem_mem hj)
  · rw [rd_out _ (by omega)]; omega
theorem fb_round {c : List Int} (hc : Bytes c) {m : Nat} (m3 : m = 2 ∨ m = 4 ∨ m = 8) (bss : List (List Int)) (hb3 : bss.length = 3) (n : Nat) (hn : n < 3) (bs : List Int) (hbs : rd_L1 bss (n : Int) = bs) (lb : bs.length = 2 * m) (nb : Nd 67108864 bs) (fc : Int) (fl : List Int) {x y x' y' : List Int} (h : OkS m x y) (h' : OkS m x' y')
    (o0 o1 : Int) (o2 o3 o4 : List Int) (p0 p1 : Int) (p2 p3 p4 : List Int) (Q : Nat) (hQ : 2000 ≤ Q) :
    ∃ zs zs', zs.length = 2 * m ∧ zs'.length = 2 * m ∧ NearL zs zs' bs ∧ Bd 16777216 zs ∧
      (laws_FnFrameBounds.l0 Q c ((2 * m : Nat) : Int) bss (n : Int) fc fl ((2 * m : Nat) : Int) x y ((2 * m : Nat) : Int) x' y' o0 o1 o2 o3 o4 p0 p1 p2 p3 p4 = some true ∨
       (Bd 16777216 zs' ∧ ∃ R, Q ≤ R + 20 ∧ laws_FnFrameBounds.l0 Q c ((2 * m : Nat) : Int) bss (n : Int) fc fl ((2 * m : Nat) : Int) x y ((2 * m : Nat) : Int) x' y' o0 o1 o2 o3 o4 p0 p1 p2 p3 p4 =
         laws_FnFrameBounds.l0 R c ((2 * m : Nat) : Int) bss ((n + 1 : Nat) : Int) fc fl ((2 * m : Nat) : Int) (seamB m (playF m y zs)) ((playB m zs).drop m) ((2 * m : Nat) : Int) (seamB m (playF m y' zs')) ((playB m zs').drop m)
           0 ((2 * m : Nat) : Int) (seamB m (playF m y zs)) ((playB m zs).drop m) (x ++ seamA m (playF m y zs)) 0 ((2 * m : Nat) : Int) (seamB m (playF m y' zs')) ((playB m zs').drop m) (x' ++ seamA m (playF m y' zs')))) := by
  have hm8 : m ≤ 8 := by omega
  obtain ⟨K, rfl⟩ : ∃ K, Q = (K + 1 + 2 * m) + 1 := ⟨Q - 2 * m - 2, by omega⟩
  obtain ⟨zs, lz, vz, ez⟩ := coefs_l1 hc (2 * m) (by omega) bss n (by omega) fc fl ((2 * m : Nat) : Int) x y ((2 * m : Nat) : Int) x' y' (2 * m) 0 [] (K + 1) (by omega) rfl (fun v hv => by cases hv)
  have bz : Bd 16777216 zs := (bd_of (N := 2000) (by omega) vz).mono (by omega)
  obtain ⟨zs', ez', lz', hn'⟩ := bent_ok hc zs bs (n : Int) (by omega) (by omega) (by omega) (by omega) K (by omega)
  have near : NearL zs zs' bs := fun j => by
    by_cases hj : j < zs.length
    · have a1 := hn' j hj
      have a2 := nb j
      have a3 := bz j
      have := a1 (by omega) (by omega) (by omega) (by omega)
      omega
    · rw [rd_out zs (by omega), rd_out zs' (by omega), rd_out bs (by omega)]; omega
  refine ⟨zs, zs', lz, by omega, near, bz, ?_⟩
  rw [laws_FnFrameBounds.l0, if_pos (by omega)]
  rw [show ((0 : Nat) : Int) = 0 from rfl] at ez
  rw [ez, laws_FnFrameBounds.l1, if_neg (by omega), play_yes m3 h lz bz K (by omega), bindS, if_pos (by omega), if_pos (by omega), hbs, ez', bindS]
  by_cases g : gatherC zs' = 0
  · have bz' := gatherC_bd m3 (by omega) g
    refine .inr ⟨bz', K, by omega, ?_⟩
    rw [play_yes m3 h' (by omega) bz' K (by omega), bindS]
    simp only
    rw [if_pos trivial, if_pos trivial, w64_succ _ (by omega)]
  · refine .inl ?_
    rw [play_no m3 h' (by omega) g K (by omega), bindS]
    simp only
    rw [if_neg (by decide), if_pos trivial]
    rfl
theorem iw_l0 (a b e : List Int) (ha : Bd 1099511627776 a) (hbw : Bd 1099511627776 b) (hb : b.length = a.length) (he : e.length = a.length) (hn : a.length ≤ 1048576) (hN : NearL a b e) : ∀ (d i k : Nat), i + d = a.length → d < k → impl_IsWithin.l0 k a b e (a.length : Int) (i : Int) = some true := by
  intro d
  induction d with
  | zero =>
    intro i k hi hk
    obtain ⟨k, rfl⟩ : ∃ m, k = m + 1 := ⟨k - 1, by omega⟩
    simp only [impl_IsWithin.l0]
    rw [if_neg (by omega)]
  | succ d ih =>
    intro i k hi hk
    obtain ⟨k, rfl⟩ : ∃ m, k = m + 1 := ⟨k - 1, by omega⟩
    have h1 := ha i
    have h2 := hbw i
    have h3 := hN i
    simp only [impl_IsWithin.l0]
    rw [if_pos (by omega), if_pos (by omega), if_pos (by omega), if_pos (by omega), w64 (x := rd a (i : Int) - rd b (i : Int)) (by omega) (by omega), abs_eq _ (by omega) (by omega)]
    simp only [Option.bind_some]
    rw [if_pos (by omega)]
    have h4 : ¬ (if rd a (i : Int) - rd b (i : Int) < 0 then -(rd a (i : Int) - rd b (i : Int)) else rd a (i : Int) - rd b (i : Int)) > rd e (i : Int) := by split <;> omega
    rw [if_neg h4, w64_succ _ (by omega)]
    exact ih (i + 1) k (by omega) (by omega)
theorem iw_true (a b e : List Int) (ha : Bd 1099511627776 a) (hbw : Bd 1099511627776 b) (hb : b.length = a.length) (he : e.length = a.length) (hn : a.length ≤ 1048576) (hN : NearL a b e) (k : Nat) (hk : a.length + 100 < k) : impl_IsWithin.f k a b e = some true := by
  obtain ⟨k, rfl⟩ : ∃ m, k = m + 1 := ⟨k - 1, by omega⟩
  have wa : (a.all fun n => decide (-1099511627776 ≤ n ∧ n ≤ 1099511627776)) = true := by rw [all_within]; intro v hv; obtain ⟨i, hi, rfl⟩ := List.mem_iff_getElem.1 hv; have := ha i; rwa [rd_get a i hi] at this
  have wb : (b.all fun n => decide (-1099511627776 ≤ n ∧ n ≤ 1099511627776)) = true := by rw [all_within]; intro v hv; obtain ⟨i, hi, rfl⟩ := List.mem_iff_getElem.1 hv; have := hbw i; rwa [rd_get b i hi] at this
  unfold impl_IsWithin.f
  rw [if_pos (by omega), if_pos (by omega), allWithin_eq _ _ (by omega) (by omega), allWithin_eq _ _ (by omega) (by omega), wa, wb]
  simp only [impl_IsWithin.j0, Option.bind_some, Bool.not_true, if_true]
  rw [if_neg (by simp)]
  exact iw_l0 a b e ha hbw hb he hn hN a.length 0 k (by omega) (by omega)
theorem new_ok {m : Nat} (m3 : m = 2 ∨ m = 4 ∨ m = 8) : impl_NewSynth.f ((2 * m : Nat) : Int) = some (0, ((2 * m : Nat) : Int), List.replicate m 0, List.replicate m 0) := by
  unfold impl_NewSynth.f
  rw [impl_SizeFault_eq, sizeM m3, bindS, if_pos rfl, halfI (by omega), if_pos (by omega), Int.toNat_natCast, if_pos (by omega)]
theorem okS_new (m : Nat) : OkS m (List.replicate m 0) (List.replicate m 0) := by
  have h : ∀ N : Int, 0 ≤ N → Bd N (List.replicate m 0) := fun N hN => bd_of hN fun v hv => by rw [List.eq_of_mem_replicate hv]; omega
  exact ⟨List.length_replicate, List.length_replicate, h _ (by omega), h _ (by omega)⟩
theorem seam_bd {m : Nat} (m3 : m = 2 ∨ m = 4 ∨ m = 8) {y c : List Int} (hy : Bd 268435456 y) (lc : c.length = 2 * m) (hb : Bd 16777216 c) : Bd 1073741824 (seamA m (playF m y c)) := by
  have hB := playB_fine m3 lc hb
  refine (Bd_seam (by omega) fun i hi => ?_).1
  have := (rot_both (validS m3 hi) (N := 268435456) (by omega) (hy (m - 1 - i)) (Bd_take (by omega) m hB i)).2
  unfold playF stB backS
  omega
theorem near_play {m : Nat} (m3 : m = 2 ∨ m = 4 ∨ m = 8) {z z' b : List Int} (l : z.length = 2 * m) (l' : z'.length = 2 * m) (lb : b.length = 2 * m) (h : NearL z z' b) : NearL (playB m z) (playB m z') (gB m b) :=
  NL_gather (lvl (2 * m)) z z' b (lvl_m m3).2 (by rw [l]; exact (lvl_m m3).1) (by rw [l']; exact (lvl_m m3).1) (by rw [lb]; exact (lvl_m m3).1) h
theorem FnFrameBounds : laws_FnFrameBounds.Pure := by
  intro l0 h1 h2 h3
  have hc : Bytes l0 := fun x hx => u8_of_wf (h3 x hx)
  obtain ⟨K, hK⟩ : ∃ K, K = 3000 := ⟨_, rfl⟩
  obtain ⟨s, x, y, z, hd, lx, ly, lz⟩ := drawFB_ok hc (K + 1) (by omega)
  obtain ⟨co, r, hr, hh⟩ := frame_both s x y z (by omega) (by omega) (by omega)
  obtain ⟨es, ei⟩ := hh K (by omega) (by omega) (by omega) (by omega)
  refine ⟨K + 1, ?_⟩
  unfold laws_FnFrameBounds.f laws_lwBig.f
  rw [bindS]
  split
  · rfl
  rw [hd, bindS]
  simp only
  rw [ei, bindS, es, bindS, if_pos rfl]
  by_cases h0 : co = 0
  · rw [if_pos h0]
    rw [h0] at es
    obtain ⟨m, rfl, R, rfl⟩ := spec_FB_valid s x y z r (by omega) (by omega) (by omega) K (by omega) (by omega) (by omega) (by omega) es
    have m3 := R.m3
    have hm8 : m ≤ 8 := by omega
    rw [new_ok m3, bindS, bindS]
    simp only
    obtain ⟨z1, w1, a1, b1, n1, c1, d1⟩ := fb_round hc m3 [x, y, z] rfl 0 (by omega) x rfl R.lx R.bx co (frameB m x y z) (okS_new m) (okS_new m) 0 0 [] [] [] 0 0 [] [] [] (K + 1) (by omega)
    rcases d1 with d1 | ⟨e1, Q1, q1, d1⟩
    · exact d1
    rw [show ((0 : Nat) : Int) = 0 from rfl] at d1
    rw [d1]
    have s1 := okS_next m3 (okS_new m) a1 c1
    have t1 := okS_next m3 (okS_new m) b1 e1
    obtain ⟨z2, w2, a2, b2, n2, c2, d2⟩ := fb_round hc m3 [x, y, z] rfl (0 + 1) (by omega) y rfl R.ly R.by' co (frameB m x y z) s1 t1 0 ((2 * m : Nat) : Int) (seamB m (playF m (List.replicate m 0) z1)) ((playB m z1).drop m) (List.replicate m 0 ++ seamA m (playF m (List.replicate m 0) z1)) 0 ((2 * m : Nat) : Int) (seamB m (playF m (List.replicate m 0) w1)) ((playB m w1).drop m) (List.replicate m 0 ++ seamA m (playF m (List.replicate m 0) w1)) Q1 (by omega)
    rcases d2 with d2 | ⟨e2, Q2, q2, d2⟩
    · exact d2
    rw [d2]
    have s2 := okS_next m3 s1 a2 c2
    have t2 := okS_next m3 t1 b2 e2
    obtain ⟨z3, w3, a3, b3, n3, c3, d3⟩ := fb_round hc m3 [x, y, z] rfl (0 + 1 + 1) (by omega) z rfl R.lz R.bz co (frameB m x y z) s2 t2 _ _ _ _ _ _ _ _ _ _ Q2 (by omega)
    rcases d3 with d3 | ⟨e3, Q3, q3, d3⟩
    · exact d3
    rw [d3]
    have p1 := near_play m3 a1 b1 R.lx n1
    have p2 := near_play m3 a2 b2 R.ly n2
    have p3 := near_play m3 a3 b3 R.lz n3
    have u1 := (NL_seam m3 (NL_drop m p1) (NL_take m p2)).2
    have u2 := (NL_seam m3 (NL_drop m p2) (NL_take m p3)).1
    have hN := NL_append (by rw [seamB_length, seamB_length]) (by rw [seamB_length, seamB_length]) u1 u2
    obtain ⟨Q, rfl⟩ : ∃ Q, Q3 = Q + 1 := ⟨Q3 - 1, by omega⟩
    have ll : ∀ y1 c1 y2 c2 : List Int, (seamB m (playF m y1 c1) ++ seamA m (playF m y2 c2)).length = 2 * m := fun _ _ _ _ => by rw [List.length_append, seamB_length, seamA_length]; omega
    have hw := iw_true (seamB m (playF m ((playB m z1).drop m) z2) ++ seamA m (playF m ((playB m z2).drop m) z3)) (seamB m (playF m ((playB m w1).drop m) w2) ++ seamA m (playF m ((playB m w2).drop m) w3)) (frameB m x y z)
      (Bd_append (by omega) (s2.bx.mono (by omega)) ((seam_bd m3 s2.by' a3 c3).mono (by omega))) (Bd_append (by omega) (t2.bx.mono (by omega)) ((seam_bd m3 t2.by' b3 e3).mono (by omega)))
      (by rw [ll, ll]) (by rw [ll, frameB_length]) (by rw [ll]; omega) hN Q (by rw [ll]; omega)
    rw [laws_FnFrameBounds.l0, if_neg (by omega), hw, bindS, if_pos rfl, ll]
    simp
  · rw [if_neg h0]

end Go.Proofs.Ytmhnpogjkbmmnaa.Pure
