/-
 Laps: what is taken apart frame by frame comes back two frames later, to the last bit, for every code.
-/
import Derived.Test.YtmhnpogjkbmmnaaPFnLapsx
namespace Go.Proofs.Ytmhnpogjkbmmnaa.Pure
open Go.RowKit Go.Proofs.Ytmhnpogjkbmmnaa.PFnLaps Go.Proofs.YtmhnpogjkbmmnaaW.PrintWords Go.Proofs.YtmhnpogjkbmmnaaW.PrintLast Go.Proofs.YtmhnpogjkbmmnaaW.PrintMore
set_option linter.unusedVariables false
set_option linter.unusedSimpArgs false
theorem w64 {x : Int} (h1 : -9223372036854775808 ≤ x) (h2 : x ≤ 9223372036854775807) : wrap64 x = x := by
 unfold wrap64; omega
theorem tdiv_pos {a : Int} (h : 0 ≤ a) (b : Int) : Int.tdiv a b = a / b := Int.tdiv_eq_ediv_of_nonneg h
theorem tmod_pos {a : Int} (h : 0 ≤ a) (b : Int) : Int.tmod a b = a % b := Int.tmod_eq_emod_of_nonneg h
theorem tdiv_neg {a : Int} (h : a ≤ 0) (b : Int) : Int.tdiv a b = -((-a) / b) := by
 have := Int.neg_tdiv (-a) b
 rw [Int.neg_neg] at this
 rw [this, tdiv_pos (by omega)]
theorem tmod_neg {a : Int} (h : a ≤ 0) (b : Int) : Int.tmod a b = -((-a) % b) := by
 have := Int.neg_tmod (-a) b
 rw [Int.neg_neg] at this
 rw [this, tmod_pos (by omega)]
theorem div_unique {x b q r : Int} (hb : 0 < b) (h : r + b * q = x) (h0 : 0 ≤ r) (h1 : r < b) : x / b = q :=
 ((Int.ediv_emod_unique hb).2 ⟨h, h0, h1⟩).1
theorem div_parts (x b : Int) : b * (x / b) + x % b = x := Int.mul_ediv_add_emod x b
theorem neg_div {a b : Int} (hb : 0 < b) : (-a) / b = if a % b = 0 then -(a / b) else -(a / b) - 1 := by
 have h := div_parts a b
 have h0 := Int.emod_nonneg a (Int.ne_of_gt hb)
 have h1 := Int.emod_lt_of_pos a hb
 split
 ·exact div_unique (r := 0) hb (by rw [Int.mul_neg]; omega) (by omega) (by omega)
 ·exact div_unique (r := b - a % b) hb (by rw [Int.mul_sub, Int.mul_neg]; omega) (by omega) (by omega)
theorem div_bd {a b : Int} (ha : 0 ≤ a) (hb : 0 < b) : 0 ≤ a / b ∧ a / b ≤ a :=
 ⟨Int.ediv_nonneg ha (by omega), Int.ediv_le_self b ha⟩
theorem floor_tdiv {x b : Int} (hb : 0 < b) : (if Int.tmod x b < 0 then Int.tdiv x b - 1 else Int.tdiv x b) = x / b := by
 by_cases h : 0 ≤ x
 ·have h0 := Int.emod_nonneg x (Int.ne_of_gt hb)
  rw [tmod_pos h, tdiv_pos h, if_neg (by omega)]
 ·rw [tmod_neg (by omega), tdiv_neg (by omega)]
  have h0 := Int.emod_nonneg (-x) (Int.ne_of_gt hb)
  have e := neg_div (a := -x) hb
  rw [Int.neg_neg] at e
  rw [e]
  by_cases hz : (-x) % b = 0
  ·rw [if_pos hz, if_neg (by omega)]
  ·rw [if_neg hz, if_pos (by omega)]
theorem floor_bd {x b : Int} (hb : 0 < b) : (0 ≤ x → 0 ≤ x / b ∧ x / b ≤ x) ∧ (x < 0 → x ≤ x / b ∧ x / b < 0) := by
 refine ⟨fun h => div_bd h hb, fun h => ?_⟩
 have e := neg_div (a := -x) hb
 rw [Int.neg_neg] at e
 have d := div_bd (a := -x) (by omega) hb
 have p := div_parts (-x) b
 have h0 := Int.emod_nonneg (-x) (Int.ne_of_gt hb)
 rw [e]
 split
 ·next hz =>
  rw [hz] at p
  have : (-x) / b ≠ 0 := fun e0 => by rw [e0, Int.mul_zero] at p; omega
  omega
 ·next hz =>
  have : (-x) / b < -x := by
   rcases Int.lt_or_eq_of_le d.2 with h2 | h2
   ·exact h2
   ·exfalso
    rw [h2] at p
    have hb1 : b ≠ 1 := fun e1 => by subst e1; omega
    have : 2 * (-x) ≤ b * (-x) := Int.mul_le_mul_of_nonneg_right (by omega) (by omega)
    omega
  omega

theorem codeIf_eq (b : Bool) (c : Int) : impl_codeIf.f b c = some (if b = true then c else 0) := by
 unfold impl_codeIf.f; cases b <;> rfl

theorem floorDiv_eq (x b : Int) (hb : 0 < b) (h0 : -9000000000000000000 ≤ x) (h1 : x ≤ 9000000000000000000) : impl_floorDiv.f x b = some (x / b) := by
 have e := floor_tdiv (x := x) hb
 have d := floor_bd (x := x) hb
 unfold impl_floorDiv.f
 rw [if_neg (by omega)]
 by_cases h : Int.tmod x b < 0
 ·rw [if_pos h] at e ⊢
  rw [w64 (x := Int.tdiv x b) (by omega) (by omega), w64 (by omega) (by omega), e]
 ·rw [if_neg h] at e ⊢
  rw [w64 (by omega) (by omega), e]

theorem tenOf_eq (x : Int) (h0 : -7000000000000000000 ≤ x) (h1 : x ≤ 8000000000000000000) : impl_tenOf.f x = some ((x + 512) / 1024) := by
 unfold impl_tenOf.f
 rw [w64 (by omega) (by omega)]

theorem mix_eq (a b : Int) (ha : -1000000000000000000 ≤ a ∧ a ≤ 1000000000000000000) (hb : -1000000000000000000 ≤ b ∧ b ≤ 1000000000000000000) : impl_mix.f a b = some (b + (a - b) / 2, a - b) := by
 unfold impl_mix.f
 rw [w64 (x := a - b) (by omega) (by omega), floorDiv_eq _ _ (by omega) (by omega) (by omega)]
 simp only [Option.bind_some]
 rw [w64 (by omega) (by omega)]

theorem part_eq (s d : Int) (hs : -1000000000000000000 ≤ s ∧ s ≤ 1000000000000000000) (hd : -1000000000000000000 ≤ d ∧ d ≤ 1000000000000000000) : impl_part.f s d = some (s - d / 2 + d, s - d / 2) := by
 unfold impl_part.f
 rw [floorDiv_eq _ _ (by omega) (by omega) (by omega)]
 simp only [Option.bind_some]
 rw [w64 (x := s - d / 2) (by omega) (by omega), w64 (by omega) (by omega)]

theorem rd_nat (xs : List Int) (i : Nat) : rd xs (i : Int) = xs.getD i 0 := by unfold rd; rw [Int.toNat_natCast]
theorem rd_get (xs : List Int) (i : Nat) (h : i < xs.length) : rd xs (i : Int) = xs[i] := by
 rw [rd_nat, List.getD_eq_getElem?_getD, List.getElem?_eq_getElem h]; rfl
theorem w64_succ (i : Nat) (h : i ≤ 4000000000000000000) : wrap64 ((i : Int) + 1) = ((i + 1 : Nat) : Int) := by
 rw [w64 (by omega) (by omega)]; omega
theorem u8_of_wf {x : Int} (h : (Lit.int .u8 x).wf = true) : 0 ≤ x ∧ x < 256 := by
 have := h
 simp [Lit.wf, IntKind.min, IntKind.max, IntKind.bits, IntKind.signed] at this
 omega
def Bytes (xs : List Int) : Prop := ∀ x ∈ xs, 0 ≤ x ∧ x < 256
theorem Bytes.rd {xs : List Int} (h : Bytes xs) (i : Nat) : 0 ≤ rd xs (i : Int) ∧ rd xs (i : Int) < 256 := by
 rw [rd_nat, List.getD_eq_getElem?_getD]
 by_cases hi : i < xs.length
 ·rw [List.getElem?_eq_getElem hi]; exact h _ (List.getElem_mem hi)
 ·rw [List.getElem?_eq_none (by omega)]; exact ⟨by simp, by simp⟩

theorem rd_bd {c : List Int} (hc : Bytes c) (i : Int) : 0 ≤ rd c i ∧ rd c i ≤ 255 := by
 unfold rd
 rw [List.getD_eq_getElem?_getD]
 by_cases h : i.toNat < c.length
 ·rw [List.getElem?_eq_getElem h]
  have := hc _ (List.getElem_mem h)
  simp only [Option.getD_some]
  omega
 ·rw [List.getElem?_eq_none (by omega)]
  simp
theorem tmod_bd {a : Int} (h : 0 ≤ a) {b : Int} (hb : 0 < b) : 0 ≤ Int.tmod a b ∧ Int.tmod a b < b := by
 rw [tmod_pos h]
 exact ⟨Int.emod_nonneg _ (by omega), Int.emod_lt_of_pos _ hb⟩
theorem l1Next_ok {c : List Int} (hc : Bytes c) (at' n : Int) (h0 : 0 ≤ at') (h1 : at' ≤ 1073741824) :
  ∃ v, spec_l1Next.f c at' n = some (v, at' + 1) ∧ (1 ≤ n → 0 ≤ v ∧ v < n) ∧ (n < 1 → v = 0) := by
 have e1 : wrap64 (at' + 1) = at' + 1 := w64 (by omega) (by omega)
 have e2 : at' + 1 - 1 = at' := by omega
 have e3 : wrap64 at' = at' := w64 (by omega) (by omega)
 have e4 : wrap64 (at' + 2) = at' + 2 := w64 (by omega) (by omega)
 unfold spec_l1Next.f
 simp only [e1, e2, e3, e4]
 by_cases hn1 : n < 1
 ·rw [if_pos hn1]
  exact ⟨0, rfl, fun h => by omega, fun _ => rfl⟩
 ·rw [if_neg hn1]
  by_cases hl : (c.length : Int) = 0
  ·rw [if_pos hl, if_neg (by omega), w64 (x := at' * 7) (by omega) (by omega)]
   exact ⟨_, rfl, fun _ => tmod_bd (by omega) (by omega), fun h => absurd h hn1⟩
  ·rw [if_neg hl]
   have hL : 0 < (c.length : Int) := by omega
   have q0 := tmod_bd h0 hL
   have q1 := tmod_bd (show 0 ≤ at' + 1 by omega) hL
   have q2 := tmod_bd (show 0 ≤ at' + 2 by omega) hL
   have hd := div_bd h0 hL
   rw [← tdiv_pos h0] at hd
   have r0 := rd_bd hc (Int.tmod at' c.length)
   have r1 := rd_bd hc (Int.tmod (at' + 1) c.length)
   have r2 := rd_bd hc (Int.tmod (at' + 2) c.length)
   rw [if_pos q0.1, if_pos q0.2, if_pos q1.1, if_pos q1.2, if_pos q2.1, if_pos q2.2]
   generalize rd c (Int.tmod at' c.length) = R0 at r0 ⊢
   generalize rd c (Int.tmod (at' + 1) c.length) = R1 at r1 ⊢
   generalize rd c (Int.tmod (at' + 2) c.length) = R2 at r2 ⊢
   generalize Int.tdiv at' c.length = D at hd ⊢
   simp (disch := omega) only [w64]
   simp only [if_neg (show ¬ n = 0 by omega)]
   by_cases g1 : n > 200
   ·by_cases g2 : n > 60000
    ·simp only [if_pos g1, if_pos g2]
     exact ⟨_, rfl, fun _ => tmod_bd (by omega) (by omega), fun h => absurd h hn1⟩
    ·simp only [if_pos g1, if_neg g2]
     exact ⟨_, rfl, fun _ => tmod_bd (by omega) (by omega), fun h => absurd h hn1⟩
   ·by_cases g2 : n > 60000
    ·omega
    ·simp only [if_neg g1, if_neg g2]
     exact ⟨_, rfl, fun _ => tmod_bd (by omega) (by omega), fun h => absurd h hn1⟩

theorem l1Pick_ok {c : List Int} (hc : Bytes c) (at' : Int) (xs : List Int) (h0 : 0 ≤ at') (h1 : at' ≤ 1073741824) (hx : 1 ≤ xs.length) :
  ∃ v, spec_l1Pick.f c at' xs = some (v, at' + 1) ∧ v ∈ xs := by
 obtain ⟨v, e, hv, _⟩ := l1Next_ok hc at' (xs.length : Int) h0 h1
 have hv := hv (by omega)
 refine ⟨rd xs v, ?_, ?_⟩
 ·unfold spec_l1Pick.f
  rw [e]
  simp only [Option.bind_some]
  rw [if_pos hv.1, if_pos hv.2]
 ·unfold rd
  rw [List.getD_eq_getElem?_getD, List.getElem?_eq_getElem (show v.toNat < xs.length by omega)]
  exact List.getElem_mem _

theorem l1Signed_ok {c : List Int} (hc : Bytes c) (at' n : Int) (h0 : 0 ≤ at') (h1 : at' ≤ 1073741824) (hn : 0 ≤ n) (hn2 : n ≤ 1152921504606846976) :
  ∃ v, spec_l1Signed.f c at' n = some (v, at' + 1) ∧ -n ≤ v ∧ v ≤ n := by
 obtain ⟨v, e, hv, _⟩ := l1Next_ok hc at' (2 * n + 1) h0 h1
 have hv := hv (by omega)
 refine ⟨v - n, ?_, by omega, by omega⟩
 unfold spec_l1Signed.f
 rw [w64 (x := 2 * n) (by omega) (by omega), w64 (x := 2 * n + 1) (by omega) (by omega), e]
 simp only [Option.bind_some]
 rw [w64 (by omega) (by omega)]

theorem any_not (p : Int → Bool) (xs : List Int) : (!xs.any fun n => !p n) = xs.all p := by
 induction xs with
 | nil => rfl
 | cons x xs ih => rw [List.any_cons, List.all_cons, ← ih]; cases p x <;> simp
theorem allWithin_eq (xs : List Int) (m : Int) (h0 : 0 ≤ m) (h1 : m ≤ 9000000000000000000) : impl_allWithin.f xs m = some (xs.all fun n => decide (-m ≤ n ∧ n ≤ m)) := by
 unfold impl_allWithin.f
 rw [if_pos ⟨h0, h1⟩, any_not]

def sizeF (a : Int) : Int := if a = 4 then 0 else if a = 8 then 0 else if a = 16 then 0 else 3
theorem sizeF_cases (a : Int) : (sizeF a = 0 ∧ (a = 4 ∨ a = 8 ∨ a = 16)) ∨ (sizeF a = 3 ∧ a ≠ 4 ∧ a ≠ 8 ∧ a ≠ 16) := by
 unfold sizeF
 by_cases h1 : a = 4
 ·simp [h1]
 ·by_cases h2 : a = 8
  ·simp [h2]
  ·by_cases h3 : a = 16 <;> simp [h1, h2, h3]
def allIn (lo hi : Int) (xs : List Int) : Bool := xs.all fun n => decide (lo ≤ n ∧ n ≤ hi)
def In (lo hi : Int) (xs : List Int) : Prop := ∀ x ∈ xs, lo ≤ x ∧ x ≤ hi
theorem allIn_iff (lo hi : Int) (xs : List Int) : allIn lo hi xs = true ↔ In lo hi xs := by
 unfold allIn
 rw [List.all_eq_true]
 exact ⟨fun h x hx => by simpa using h x hx, fun h x hx => by simpa using h x hx⟩
theorem drop_rd' (xs : List Int) (i : Nat) (h : i < xs.length) : xs.drop i = rd xs (i : Int) :: xs.drop (i + 1) := by
 rw [rd_get xs i h]; exact List.drop_eq_getElem_cons h
def nz : List Int → Int
 | [] => 0
 | x :: xs => if x = 0 then nz xs else x

theorem impl_SizeFault_eq (a : Int) : impl_SizeFault.f a = some (sizeF a) := by
 unfold impl_SizeFault.f sizeF
 by_cases h1 : a = 4
 ·simp [h1]
 ·by_cases h2 : a = 8
  ·simp [h2]
  ·by_cases h3 : a = 16 <;> simp [h1, h2, h3]

theorem first_l0 (xs : List Int) (hn : xs.length ≤ 1000) : ∀ (d i k : Nat), i + d = xs.length → d < k → impl_first.l0 k xs (xs.length : Int) (i : Int) = some (nz (xs.drop i)) := by
 intro d
 induction d with
 | zero =>
  intro i k hi hk
  obtain ⟨k, rfl⟩ : ∃ m, k = m + 1 := ⟨k - 1, by omega⟩
  simp only [impl_first.l0]
  rw [if_neg (by omega), List.drop_of_length_le (by omega)]; rfl
 | succ d ih =>
  intro i k hi hk
  obtain ⟨k, rfl⟩ : ∃ m, k = m + 1 := ⟨k - 1, by omega⟩
  simp only [impl_first.l0]
  rw [if_pos (by omega), if_pos (by omega), if_pos (by omega), drop_rd' xs i (by omega), nz]
  by_cases h : rd xs (i : Int) = 0
  ·rw [if_pos h, if_pos h, w64_succ _ (by omega)]
   exact ih (i + 1) k (by omega) (by omega)
  ·rw [if_neg h, if_neg h]
theorem first_eq (xs : List Int) (hn : xs.length ≤ 1000) (k : Nat) (hk : xs.length < k) : impl_first.f k xs = some (nz xs) :=
 first_l0 xs hn xs.length 0 k (by omega) hk

theorem any_not' (p : Int → Bool) (xs : List Int) : (!xs.any fun n => !p n) = xs.all p := by
 induction xs with
 | nil => rfl
 | cons x xs ih => rw [List.any_cons, List.all_cons, ← ih]; cases p x <;> simp
theorem areSamples_eq (xs : List Int) : impl_areSamples.f xs = some (allIn (-32768) 32767 xs) := by
 unfold impl_areSamples.f slices_ContainsFunc_int64_int64.f allIn
 rw [← any_not']; rfl

def sampF (a : Int) (xs : List Int) : Int := if sizeF a = 0 then (if (xs.length : Int) = a then (if allIn (-32768) 32767 xs = true then 0 else 3) else 2) else sizeF a
theorem impl_SamplesFault_eq (a : Int) (xs : List Int) (k : Nat) (hk : 10 < k) : impl_SamplesFault.f k a xs = some (sampF a xs) := by
 unfold impl_SamplesFault.f
 rw [impl_SizeFault_eq, areSamples_eq]
 simp only [Option.bind_some, codeIf_eq]
 rw [first_eq _ (by simp) k (by simp; omega)]
 simp only [Option.bind_some]
 congr 1
 unfold sampF
 rcases sizeF_cases a with ⟨h, _⟩ | ⟨h, _⟩
 ·by_cases hl : (xs.length : Int) = a
  ·cases hs : allIn (-32768) 32767 xs <;> simp [nz, h, hl]
  ·cases hs : allIn (-32768) 32767 xs <;> simp [nz, h, hl]
 ·simp [nz, h]

def tn (x : Int) : Int := (x + 512) / 1024
theorem mul_bd {p b M : Int} (hp : 0 ≤ p) (hp2 : p ≤ 1024) (hb : -M ≤ b) (hb2 : b ≤ M) : -(1024 * M) ≤ p * b ∧ p * b ≤ 1024 * M := by
 have h1 := Int.mul_le_mul_of_nonneg_left hb2 hp
 have h2 := Int.mul_le_mul_of_nonneg_left hb hp
 have h3 := Int.mul_le_mul_of_nonneg_right hp2 (show 0 ≤ M by omega)
 rw [Int.mul_neg] at h2
 omega
theorem tn_bd {x M : Int} (h0 : -(1024 * M) ≤ x) (h1 : x ≤ 1024 * M) : -M ≤ tn x ∧ tn x ≤ M := by unfold tn; omega
def forth (p u a b : Int) : Int × Int :=
 (a - tn (p * b) - tn (p * (b + tn (u * (a - tn (p * b))))), b + tn (u * (a - tn (p * b))))
def back (p u a b : Int) : Int × Int :=
 (a + tn (p * b) + tn (p * (b - tn (u * (a + tn (p * b))))), b - tn (u * (a + tn (p * b))))
theorem back_forth (p u a b : Int) : back p u (forth p u a b).1 (forth p u a b).2 = (a, b) := by
 unfold back forth
 simp only
 have e1 : a - tn (p * b) - tn (p * (b + tn (u * (a - tn (p * b))))) + tn (p * (b + tn (u * (a - tn (p * b))))) = a - tn (p * b) := by omega
 rw [e1]
 have e2 : b + tn (u * (a - tn (p * b))) - tn (u * (a - tn (p * b))) = b := by omega
 rw [e2]
 have e3 : a - tn (p * b) + tn (p * b) = a := by omega
 rw [e3]
def Valid (s n : Int) : Prop := (s = 4 ∧ (n = 0 ∨ n = 1)) ∨ (s = 8 ∧ (n = 0 ∨ n = 1 ∨ n = 2 ∨ n = 3)) ∨ (s = 16 ∧ (n = 0 ∨ n = 1 ∨ n = 2 ∨ n = 3 ∨ n = 4 ∨ n = 5 ∨ n = 6 ∨ n = 7))
def pu (s n : Int) : Int × Int := (impl_turnOf.f s n).getD (0, 0)
theorem turnOf_eq {s n : Int} (h : Valid s n) : impl_turnOf.f s n = some (pu s n) ∧ (0 ≤ (pu s n).1 ∧ (pu s n).1 ≤ 1024) ∧ (0 ≤ (pu s n).2 ∧ (pu s n).2 ≤ 1024) := by
 unfold Valid at h
 rcases h with ⟨rfl, rfl | rfl⟩ | ⟨rfl, rfl | rfl | rfl | rfl⟩ | ⟨rfl, rfl | rfl | rfl | rfl | rfl | rfl | rfl | rfl⟩ <;> exact ⟨rfl, by decide, by decide⟩

theorem turn_forth_eq (p u a b : Int) (hp : 0 ≤ p ∧ p ≤ 1024) (hu : 0 ≤ u ∧ u ≤ 1024) (ha : -1125899906842624 ≤ a ∧ a ≤ 1125899906842624) (hb : -1125899906842624 ≤ b ∧ b ≤ 1125899906842624) : impl_turn_forth.f p u a b = some (forth p u a b) := by
 have m1 := mul_bd hp.1 hp.2 hb.1 hb.2
 have t1 := tn_bd m1.1 m1.2
 have m2 := mul_bd (b := a - tn (p * b)) (M := 2251799813685248) hu.1 hu.2 (by omega) (by omega)
 have t2 := tn_bd m2.1 m2.2
 have m3 := mul_bd (b := b + tn (u * (a - tn (p * b)))) (M := 4503599627370496) hp.1 hp.2 (by omega) (by omega)
 have t3 := tn_bd m3.1 m3.2
 unfold impl_turn_forth.f
 rw [w64 (x := p * b) (by omega) (by omega), tenOf_eq _ (by omega) (by omega)]
 simp only [Option.bind_some]
 rw [show (p * b + 512) / 1024 = tn (p * b) from rfl, w64 (x := a - tn (p * b)) (by omega) (by omega), w64 (x := u * (a - tn (p * b))) (by omega) (by omega), tenOf_eq _ (by omega) (by omega)]
 simp only [Option.bind_some]
 rw [show (u * (a - tn (p * b)) + 512) / 1024 = tn (u * (a - tn (p * b))) from rfl, w64 (x := b + tn (u * (a - tn (p * b)))) (by omega) (by omega), w64 (x := p * (b + tn (u * (a - tn (p * b))))) (by omega) (by omega), tenOf_eq _ (by omega) (by omega)]
 simp only [Option.bind_some]
 rw [show (p * (b + tn (u * (a - tn (p * b)))) + 512) / 1024 = tn (p * (b + tn (u * (a - tn (p * b))))) from rfl, w64 (by omega) (by omega)]
 rfl

theorem turn_back_eq (p u a b : Int) (hp : 0 ≤ p ∧ p ≤ 1024) (hu : 0 ≤ u ∧ u ≤ 1024) (ha : -1125899906842624 ≤ a ∧ a ≤ 1125899906842624) (hb : -1125899906842624 ≤ b ∧ b ≤ 1125899906842624) : impl_turn_back.f p u a b = some (back p u a b) := by
 have m1 := mul_bd hp.1 hp.2 hb.1 hb.2
 have t1 := tn_bd m1.1 m1.2
 have m2 := mul_bd (b := a + tn (p * b)) (M := 2251799813685248) hu.1 hu.2 (by omega) (by omega)
 have t2 := tn_bd m2.1 m2.2
 have m3 := mul_bd (b := b - tn (u * (a + tn (p * b)))) (M := 4503599627370496) hp.1 hp.2 (by omega) (by omega)
 have t3 := tn_bd m3.1 m3.2
 unfold impl_turn_back.f
 rw [w64 (x := p * b) (by omega) (by omega), tenOf_eq _ (by omega) (by omega)]
 simp only [Option.bind_some]
 rw [show (p * b + 512) / 1024 = tn (p * b) from rfl, w64 (x := a + tn (p * b)) (by omega) (by omega), w64 (x := u * (a + tn (p * b))) (by omega) (by omega), tenOf_eq _ (by omega) (by omega)]
 simp only [Option.bind_some]
 rw [show (u * (a + tn (p * b)) + 512) / 1024 = tn (u * (a + tn (p * b))) from rfl, w64 (x := b - tn (u * (a + tn (p * b)))) (by omega) (by omega), w64 (x := p * (b - tn (u * (a + tn (p * b))))) (by omega) (by omega), tenOf_eq _ (by omega) (by omega)]
 simp only [Option.bind_some]
 rw [show (p * (b - tn (u * (a + tn (p * b)))) + 512) / 1024 = tn (p * (b - tn (u * (a + tn (p * b))))) from rfl, w64 (by omega) (by omega)]
 rfl

def faultF (a : Int) (x y : List Int) : Int := if sizeF a = 0 then (if (x.length : Int) = wrap64 (Int.tdiv a 2) then (if (y.length : Int) = wrap64 (Int.tdiv a 2) then (if allIn (-65536) 65536 x = true then (if allIn (-32768) 32767 y = true then 0 else 3) else 3) else 2) else 2) else sizeF a
theorem impl_fault_eq (a : Int) (x y : List Int) (k : Nat) (hk : 10 < k) : impl_LapFault.f k a x y = some (faultF a x y) := by
 have w1 : impl_allWithin.f x 65536 = some (allIn (-65536) 65536 x) := allWithin_eq x 65536 (by omega) (by omega)
 have w2 : impl_areSamples.f y = some (allIn (-32768) 32767 y) := areSamples_eq y
 unfold impl_LapFault.f faultF impl_halfOf.f
 rw [impl_SizeFault_eq]
 simp only [Option.bind_some, w1, w2, codeIf_eq]
 have hf : ∀ p q r : Int, impl_first.f k [p, q, r] = some (nz [p, q, r]) := fun p q r => first_eq _ (by simp) k (by simp; omega)
 simp only [hf, nz]
 by_cases h : sizeF a = 0
 ·by_cases g : (x.length : Int) = wrap64 (Int.tdiv a 2)
  ·by_cases e : (y.length : Int) = wrap64 (Int.tdiv a 2)
   ·by_cases p : allIn (-65536) 65536 x = true
    ·by_cases q : allIn (-32768) 32767 y = true
     ·simp [h, g, e, p, q]
     ·simp [h, g, e, p, q]
    ·simp [h, g, e, p]
   ·by_cases p : allIn (-65536) 65536 x = true <;> simp [h, g, e, p]
  ·by_cases p : allIn (-65536) 65536 x = true <;> simp [h, g, p]
 ·by_cases g : (x.length : Int) = wrap64 (Int.tdiv a 2)
  ·by_cases p : allIn (-65536) 65536 x = true <;> simp [h, g, p]
  ·by_cases p : allIn (-65536) 65536 x = true <;> simp [h, g, p]

def faultS (a : Int) (x y : List Int) : Int := if sizeF a = 0 then (if (x.length : Int) = wrap64 (Int.tdiv a 2) then (if (y.length : Int) = wrap64 (Int.tdiv a 2) then (if allIn (-1073741824) 1073741824 x = true then (if allIn (-268435456) 268435456 y = true then 0 else 3) else 3) else 2) else 2) else sizeF a
theorem impl_faultS_eq (a : Int) (x y : List Int) (k : Nat) (hk : 10 < k) : impl_SynthFault.f k a x y = some (faultS a x y) := by
 have w1 : impl_allWithin.f x 1073741824 = some (allIn (-1073741824) 1073741824 x) := allWithin_eq x 1073741824 (by omega) (by omega)
 have w2 : impl_allWithin.f y 268435456 = some (allIn (-268435456) 268435456 y) := allWithin_eq y 268435456 (by omega) (by omega)
 unfold impl_SynthFault.f faultS impl_halfOf.f
 rw [impl_SizeFault_eq]
 simp only [Option.bind_some, w1, w2, codeIf_eq]
 have hf : ∀ p q r : Int, impl_first.f k [p, q, r] = some (nz [p, q, r]) := fun p q r => first_eq _ (by simp) k (by simp; omega)
 simp only [hf, nz]
 by_cases h : sizeF a = 0
 ·by_cases g : (x.length : Int) = wrap64 (Int.tdiv a 2)
  ·by_cases e : (y.length : Int) = wrap64 (Int.tdiv a 2)
   ·by_cases p : allIn (-1073741824) 1073741824 x = true
    ·by_cases q : allIn (-268435456) 268435456 y = true
     ·simp [h, g, e, p, q]
     ·simp [h, g, e, p, q]
    ·simp [h, g, e, p]
   ·by_cases p : allIn (-1073741824) 1073741824 x = true <;> simp [h, g, e, p]
  ·by_cases p : allIn (-1073741824) 1073741824 x = true <;> simp [h, g, p]
 ·by_cases g : (x.length : Int) = wrap64 (Int.tdiv a 2)
  ·by_cases p : allIn (-1073741824) 1073741824 x = true <;> simp [h, g, p]
  ·by_cases p : allIn (-1073741824) 1073741824 x = true <;> simp [h, g, p]

theorem bindS {α β : Type} (a : α) (f : α → Option β) : (some a).bind f = f a := by cases h : (some a).bind f <;> (rw [← h]; rfl)
def gen (n : Nat) (f : Nat → Int) : List Int := (List.range n).map f
theorem gen_length (n : Nat) (f : Nat → Int) : (gen n f).length = n := by simp [gen]
theorem rd_gen (n : Nat) (f : Nat → Int) {j : Nat} (h : j < n) : rd (gen n f) (j : Int) = f j := by
 rw [rd_get _ j (by rw [gen_length]; exact h)]; simp [gen]
theorem rd_out (xs : List Int) {j : Nat} (h : xs.length ≤ j) : rd xs (j : Int) = 0 := by
 rw [rd_nat, List.getD_eq_getElem?_getD, List.getElem?_eq_none h]; rfl
theorem rd_set (xs : List Int) {i : Nat} (v : Int) (h : i < xs.length) (j : Nat) : rd (xs.set i v) (j : Int) = if j = i then v else rd xs (j : Int) := by
 rw [rd_nat, rd_nat, List.getD_eq_getElem?_getD, List.getD_eq_getElem?_getD]
 by_cases e : j = i
 ·subst e; rw [if_pos rfl, List.getElem?_set_self h]; rfl
 ·rw [if_neg e, List.getElem?_set_ne (fun q => e q.symm)]
theorem ext_rd {xs ys : List Int} (hl : xs.length = ys.length) (h : ∀ j : Nat, j < xs.length → rd xs (j : Int) = rd ys (j : Int)) : xs = ys := by
 apply List.ext_getElem hl
 intro j h1 h2
 have := h j h1
 rwa [rd_get xs j h1, rd_get ys j h2] at this
theorem gen_succ (n : Nat) (f : Nat → Int) : gen (n + 1) f = gen n f ++ [f n] := by simp [gen, List.range_succ]
theorem gen_rd (xs : List Int) {n : Nat} (h : xs.length = n) : gen n (fun j => rd xs (j : Int)) = xs :=
 ext_rd (by rw [gen_length, h]) (fun j hj => by rw [gen_length] at hj; rw [rd_gen _ _ hj])
theorem gen_congr {n : Nat} {f g : Nat → Int} (h : ∀ j, j < n → f j = g j) : gen n f = gen n g :=
 ext_rd (by rw [gen_length, gen_length]) (fun j hj => by rw [gen_length] at hj; rw [rd_gen _ _ hj, rd_gen _ _ hj, h j hj])
theorem zeros_gen (n : Nat) : List.replicate n (0 : Int) = gen n (fun _ => 0) := List.ext_getElem (by simp [gen]) (fun i h1 h2 => by simp [gen])
/-- the last half of a list, written from both ends -/
def U (m : Nat) (f g : Nat → Int) (i : Nat) : List Int := gen (2 * m) fun j => if j < m then (if j < i then f j else 0) else (if 2 * m - 1 - j < i then g (2 * m - 1 - j) else 0)
theorem U_zero (m : Nat) (f g : Nat → Int) : U m f g 0 = List.replicate (2 * m) 0 := by
 rw [zeros_gen]; unfold U
 exact gen_congr (fun j _ => by by_cases h : j < m <;> simp [h])
theorem U_length (m : Nat) (f g : Nat → Int) (i : Nat) : (U m f g i).length = 2 * m := gen_length _ _
theorem U_step (m : Nat) (f g : Nat → Int) {i : Nat} (hi : i < m) : ((U m f g i).set i (f i)).set (2 * m - 1 - i) (g i) = U m f g (i + 1) := by
 refine ext_rd (by rw [List.length_set, List.length_set, U_length, U_length]) ?_
 intro j hj
 rw [List.length_set, List.length_set, U_length] at hj
 rw [rd_set _ _ (by rw [List.length_set, U_length]; omega), rd_set _ _ (by rw [U_length]; omega)]
 unfold U
 rw [rd_gen _ _ hj, rd_gen _ _ hj]
 by_cases h1 : j = 2 * m - 1 - i
 ·rw [if_pos h1, if_neg (show ¬ j < m by omega), if_pos (show 2 * m - 1 - j < i + 1 by omega), show 2 * m - 1 - j = i by omega]
 ·rw [if_neg h1]
  by_cases h2 : j = i
  ·rw [if_pos h2, if_pos (show j < m by omega), if_pos (show j < i + 1 by omega), h2]
  ·rw [if_neg h2]
   by_cases h3 : j < m
   ·rw [if_pos h3, if_pos h3]
    by_cases h4 : j < i
    ·rw [if_pos h4, if_pos (by omega)]
    ·rw [if_neg h4, if_neg (by omega)]
   ·rw [if_neg h3, if_neg h3]
    by_cases h4 : 2 * m - 1 - j < i
    ·rw [if_pos h4, if_pos (by omega)]
    ·rw [if_neg h4, if_neg (by omega)]
theorem U_end (m : Nat) (f g : Nat → Int) : U m f g m = gen (2 * m) fun j => if j < m then f j else g (2 * m - 1 - j) := by
 unfold U
 refine gen_congr (fun j hj => ?_)
 by_cases h : j < m
 ·rw [if_pos h, if_pos h, if_pos h]
 ·rw [if_neg h, if_neg h, if_pos (by omega)]
/-- a list turned from both ends -/
def W (m : Nat) (d : List Int) (f g : Nat → Int) (i : Nat) : List Int := gen m fun j => if j < i then f j else if m - 1 - j < i then g (m - 1 - j) else rd d (j : Int)
theorem W_zero (m : Nat) (d : List Int) (f g : Nat → Int) (h : d.length = m) : W m d f g 0 = d := by
 unfold W
 refine (gen_congr (fun j _ => ?_)).trans (gen_rd d h)
 rw [if_neg (by omega), if_neg (by omega)]
theorem W_length (m : Nat) (d : List Int) (f g : Nat → Int) (i : Nat) : (W m d f g i).length = m := gen_length _ _
theorem W_lo (m : Nat) (d : List Int) (f g : Nat → Int) {i : Nat} (h : 2 * (i + 1) ≤ m) : rd (W m d f g i) (i : Int) = rd d (i : Int) := by
 unfold W; rw [rd_gen _ _ (by omega), if_neg (by omega), if_neg (by omega)]
theorem W_hi (m : Nat) (d : List Int) (f g : Nat → Int) {i : Nat} (h : 2 * (i + 1) ≤ m) : rd (W m d f g i) ((m - 1 - i : Nat) : Int) = rd d ((m - 1 - i : Nat) : Int) := by
 unfold W; rw [rd_gen _ _ (by omega), if_neg (by omega), if_neg (by omega)]
theorem W_step (m : Nat) (d : List Int) (f g : Nat → Int) {i : Nat} (h : 2 * (i + 1) ≤ m) : ((W m d f g i).set i (f i)).set (m - 1 - i) (g i) = W m d f g (i + 1) := by
 refine ext_rd (by rw [List.length_set, List.length_set, W_length, W_length]) ?_
 intro j hj
 rw [List.length_set, List.length_set, W_length] at hj
 rw [rd_set _ _ (by rw [List.length_set, W_length]; omega), rd_set _ _ (by rw [W_length]; omega)]
 unfold W
 rw [rd_gen _ _ hj, rd_gen _ _ hj]
 by_cases h1 : j = m - 1 - i
 ·rw [if_pos h1, if_neg (by omega), if_pos (by omega), show m - 1 - j = i by omega]
 ·rw [if_neg h1]
  by_cases h2 : j = i
  ·rw [if_pos h2, if_pos (by omega), h2]
  ·rw [if_neg h2]
   by_cases h3 : j < i
   ·rw [if_pos h3, if_pos (by omega)]
   ·rw [if_neg h3, if_neg (show ¬ j < i + 1 by omega)]
    by_cases h4 : m - 1 - j < i
    ·rw [if_pos h4, if_pos (by omega)]
    ·rw [if_neg h4, if_neg (by omega)]
def twist (st : Nat → Int → Int → Int × Int) (q : Nat) (d : List Int) : List Int :=
 W d.length d (fun j => (st j (rd d (j : Int)) (rd d ((d.length - 1 - j : Nat) : Int))).1) (fun j => (st j (rd d (j : Int)) (rd d ((d.length - 1 - j : Nat) : Int))).2) q
theorem twist_length (st : Nat → Int → Int → Int × Int) (q : Nat) (d : List Int) : (twist st q d).length = d.length := W_length _ _ _ _ _
theorem twist_zero (st : Nat → Int → Int → Int × Int) (d : List Int) : twist st 0 d = d := W_zero _ _ _ _ rfl
theorem twist_lo (st : Nat → Int → Int → Int × Int) (d : List Int) {i : Nat} (h : 2 * (i + 1) ≤ d.length) : rd (twist st i d) (i : Int) = rd d (i : Int) := W_lo _ _ _ _ h
theorem twist_hi (st : Nat → Int → Int → Int × Int) (d : List Int) {i : Nat} (h : 2 * (i + 1) ≤ d.length) : rd (twist st i d) ((d.length - 1 - i : Nat) : Int) = rd d ((d.length - 1 - i : Nat) : Int) := W_hi _ _ _ _ h
theorem twist_step (st : Nat → Int → Int → Int × Int) (d : List Int) {i : Nat} (h : 2 * (i + 1) ≤ d.length) :
  ((twist st i d).set i (st i (rd d (i : Int)) (rd d ((d.length - 1 - i : Nat) : Int))).1).set (d.length - 1 - i) (st i (rd d (i : Int)) (rd d ((d.length - 1 - i : Nat) : Int))).2 = twist st (i + 1) d := W_step _ _ _ _ h
def Bd (M : Int) (xs : List Int) : Prop := ∀ j : Nat, -M ≤ rd xs (j : Int) ∧ rd xs (j : Int) ≤ M
theorem Bd.mono {M N : Int} {xs : List Int} (h : Bd M xs) (hm : M ≤ N) : Bd N xs := fun j => by have := h j; omega
theorem Bd_gen {n : Nat} {f : Nat → Int} {M : Int} (h0 : 0 ≤ M) (h : ∀ j, j < n → -M ≤ f j ∧ f j ≤ M) : Bd M (gen n f) := fun j => by
 by_cases hj : j < n
 ·rw [rd_gen _ _ hj]; exact h j hj
 ·rw [rd_out _ (by rw [gen_length]; omega)]; omega
theorem Bd_twist {st : Nat → Int → Int → Int × Int} {q : Nat} {d : List Int} {N M : Int} (h0 : 0 ≤ N) (hNM : N ≤ M) (hq : 2 * q ≤ d.length) (hd : Bd N d)
  (hs : ∀ i a b, i < q → (-N ≤ a ∧ a ≤ N) → (-N ≤ b ∧ b ≤ N) → (-M ≤ (st i a b).1 ∧ (st i a b).1 ≤ M) ∧ (-M ≤ (st i a b).2 ∧ (st i a b).2 ≤ M)) : Bd M (twist st q d) := by
 unfold twist W
 refine Bd_gen (by omega) (fun j hj => ?_)
 by_cases h1 : j < q
 ·rw [if_pos h1]; exact (hs j _ _ h1 (hd _) (hd _)).1
 ·rw [if_neg h1]
  by_cases h2 : d.length - 1 - j < q
  ·rw [if_pos h2]; exact (hs _ _ _ h2 (hd _) (hd _)).2
  ·rw [if_neg h2]; have := hd j; omega
theorem twist_inv {f g : Nat → Int → Int → Int × Int} {q : Nat} {d : List Int} (hq : 2 * q ≤ d.length) (h : ∀ i a b, i < q → g i (f i a b).1 (f i a b).2 = (a, b)) : twist g q (twist f q d) = d := by
 have hl := twist_length f q d
 have rlo : ∀ j, j < q → rd (twist f q d) (j : Int) = (f j (rd d (j : Int)) (rd d ((d.length - 1 - j : Nat) : Int))).1 := fun j hj => by
  unfold twist W; rw [rd_gen _ _ (by omega), if_pos hj]
 have rhi : ∀ j, j < q → rd (twist f q d) ((d.length - 1 - j : Nat) : Int) = (f j (rd d (j : Int)) (rd d ((d.length - 1 - j : Nat) : Int))).2 := fun j hj => by
  unfold twist W; rw [rd_gen _ _ (by omega), if_neg (by omega), if_pos (by omega), show d.length - 1 - (d.length - 1 - j) = j by omega]
 refine ext_rd (by rw [twist_length, hl]) (fun j hj => ?_)
 rw [twist_length, hl] at hj
 rw [show twist g q (twist f q d) = W (twist f q d).length (twist f q d) (fun j => (g j (rd (twist f q d) (j : Int)) (rd (twist f q d) (((twist f q d).length - 1 - j : Nat) : Int))).1) (fun j => (g j (rd (twist f q d) (j : Int)) (rd (twist f q d) (((twist f q d).length - 1 - j : Nat) : Int))).2) q from rfl, hl]
 unfold W
 rw [rd_gen _ _ hj]
 by_cases h1 : j < q
 ·rw [if_pos h1]
  simp only [rlo j h1, rhi j h1, h j _ _ h1]
 ·rw [if_neg h1]
  by_cases h2 : d.length - 1 - j < q
  ·rw [if_pos h2]
   simp only [rlo _ h2, rhi _ h2, h _ _ _ h2]
   rw [show d.length - 1 - (d.length - 1 - j) = j by omega]
  ·rw [if_neg h2]
   unfold twist W
   rw [rd_gen _ _ hj, if_neg h1, if_neg h2]
def outs (pf : Int → Int → Int × Int) (s e : List Int) : List Int := gen (2 * s.length) fun j => if j < s.length then (pf (rd s (j : Int)) (rd e (j : Int))).1 else (pf (rd s ((2 * s.length - 1 - j : Nat) : Int)) (rd e ((2 * s.length - 1 - j : Nat) : Int))).2
theorem outs_length (pf : Int → Int → Int × Int) (s e : List Int) : (outs pf s e).length = 2 * s.length := gen_length _ _
def uniteM (st : Nat → Nat → Int → Int → Int × Int) (pf : Int → Int → Int × Int) (s d : List Int) : List Int := outs pf s (twist (st (2 * s.length)) (s.length / 2) d)
theorem uniteM_length (st : Nat → Nat → Int → Int → Int × Int) (pf : Int → Int → Int × Int) (s d : List Int) : (uniteM st pf s d).length = 2 * s.length := gen_length _ _
def evens (c : List Int) : List Int := gen (c.length / 2) fun j => rd c ((2 * j : Nat) : Int)
def odds (c : List Int) : List Int := gen (c.length / 2) fun j => rd c ((2 * j + 1 : Nat) : Int)
def gatherM (st : Nat → Nat → Int → Int → Int × Int) (pf : Int → Int → Int × Int) : Nat → List Int → List Int
 | 0, c => c
 | L + 1, c => uniteM st pf (gatherM st pf L (evens c)) (gatherM st pf L (odds c))
theorem gatherM_length (st : Nat → Nat → Int → Int → Int × Int) (pf : Int → Int → Int × Int) : ∀ (L : Nat) (c : List Int), c.length = 2 ^ L → (gatherM st pf L c).length = 2 ^ L := by
 intro L
 induction L with
 | zero => intro c h; exact h
 | succ L ih =>
  intro c h
  rw [Nat.pow_succ] at h
  rw [gatherM, uniteM_length, ih _ (by unfold evens; rw [gen_length]; omega), Nat.pow_succ]; omega
theorem Bd_evens {M : Int} {c : List Int} (h0 : 0 ≤ M) (h : Bd M c) : Bd M (evens c) := Bd_gen h0 (fun j _ => h _)
theorem Bd_odds {M : Int} {c : List Int} (h0 : 0 ≤ M) (h : Bd M c) : Bd M (odds c) := Bd_gen h0 (fun j _ => h _)
def Sz (m : Nat) : Prop := m = 1 ∨ m = 2 ∨ m = 4 ∨ m = 8
theorem idx1 {m i : Nat} (hm : m ≤ 8) (hi : i < m) : wrap64 (wrap64 (wrap64 (Int.tdiv ((2 * m : Nat) : Int) 2) - 1) - (i : Int)) = ((m - 1 - i : Nat) : Int) := by
 rw [tdiv_pos (by omega), w64 (x := ((2 * m : Nat) : Int) / 2) (by omega) (by omega), w64 (x := ((2 * m : Nat) : Int) / 2 - 1) (by omega) (by omega), w64 (by omega) (by omega)]
 omega
theorem idx2 {m i : Nat} (hm : m ≤ 8) (hi : i < 2 * m) : wrap64 (wrap64 (((2 * m : Nat) : Int) - 1) - (i : Int)) = ((2 * m - 1 - i : Nat) : Int) := by
 rw [w64 (x := ((2 * m : Nat) : Int) - 1) (by omega) (by omega), w64 (by omega) (by omega)]
 omega
theorem quart {m : Nat} (hm : m ≤ 8) : wrap64 (Int.tdiv ((2 * m : Nat) : Int) 4) = ((m / 2 : Nat) : Int) := by
 rw [tdiv_pos (by omega), w64 (by omega) (by omega)]; omega
theorem halfI {m : Nat} (hm : m ≤ 8) : wrap64 (Int.tdiv ((2 * m : Nat) : Int) 2) = (m : Int) := by
 rw [tdiv_pos (by omega), w64 (by omega) (by omega)]; omega

theorem cloneI_eq (xs : List Int) (h : xs.length ≤ 1000000) : slices_Clone_int64_int64.f xs = some xs := by
 unfold slices_Clone_int64_int64.f; rw [if_pos (by omega)]

theorem concatI_eq (xs ys : List Int) (h : xs.length + ys.length < 100000000) (K : Nat) : slices_Concat_int64_int64.f (K + 1 + 1 + 1 + 1 + 1 + 1) [xs, ys] = some (xs ++ ys) := by
 have s0 : wrap64 (0 + 1) = 1 := by unfold wrap64; decide
 have s1 : wrap64 (1 + 1) = 2 := by unfold wrap64; decide
 have r0 : rd_L1 [xs, ys] 0 = xs := rfl
 have r1 : rd_L1 [xs, ys] 1 = ys := rfl
 have l2 : (([xs, ys] : List (List Int)).length : Int) = 2 := rfl
 unfold slices_Concat_int64_int64.f
 rw [slices_Concat_int64_int64.l0, l2, if_pos (by omega), if_pos (by omega), if_pos (by omega), r0, w64 (x := 0 + (xs.length : Int)) (by omega) (by omega), if_neg (by omega), s0]
 rw [slices_Concat_int64_int64.l0, l2, if_pos (by omega), if_pos (by omega), if_pos (by omega), r1, w64 (x := 0 + (xs.length : Int) + (ys.length : Int)) (by omega) (by omega), if_neg (by omega), s1]
 rw [slices_Concat_int64_int64.l0, if_neg (by omega)]
 unfold slices_Grow_int64_int64.f
 rw [if_pos (by omega)]
 simp only [Option.bind_some]
 rw [slices_Concat_int64_int64.l1, l2, if_pos (by omega), if_pos (by omega), if_pos (by omega), r0, if_pos (by simp; omega), s0]
 rw [slices_Concat_int64_int64.l1, l2, if_pos (by omega), if_pos (by omega), if_pos (by omega), r1, if_pos (by simp; omega), s1]
 rw [slices_Concat_int64_int64.l1, if_neg (by omega)]
 rfl

theorem Bd_all {N : Int} {xs : List Int} (h0 : 0 ≤ N) (h : allIn (-N) N xs = true) : Bd N xs := fun j => by
 by_cases hj : j < xs.length
 ·rw [rd_get xs j hj]; exact (allIn_iff _ _ _).1 h _ (List.getElem_mem hj)
 ·rw [rd_out _ (by omega)]; omega
def lvl (n : Nat) : Nat := if n = 4 then 2 else if n = 8 then 3 else 4
theorem iUnite_l0 (S0 : Int → Int → Int → Int → Option (Int × Int)) (S1 : Int → Int → Option (Int × Int)) (s d o : List Int) (st : Nat → Int → Int → Int × Int) (m : Nat) (hm : m ≤ 8) (hd : d.length = m)
  (hst : ∀ i, i < m / 2 → S0 ((2 * m : Nat) : Int) (i : Int) (rd d (i : Int)) (rd d ((m - 1 - i : Nat) : Int)) = some (st i (rd d (i : Int)) (rd d ((m - 1 - i : Nat) : Int)))) :
  ∀ (dd i k K : Nat), i + dd = m / 2 → K = k + dd + 1 → impl_undo_unite.l0 K s (twist st i d) ((2 * m : Nat) : Int) o ((m / 2 : Nat) : Int) (i : Int) S0 S1 = impl_undo_unite.l1 k s (twist st (m / 2) d) ((2 * m : Nat) : Int) o (s.length : Int) 0 S0 S1 := by
 intro dd
 induction dd with
 | zero =>
  intro i k K hi hK
  obtain rfl : K = k + 1 := by omega
  simp only [impl_undo_unite.l0]
  rw [if_neg (by omega), show i = m / 2 by omega]
 | succ dd ih =>
  intro i k K hi hK
  have hl : (twist st i d).length = m := by rw [twist_length, hd]
  have h2 : 2 * (i + 1) ≤ d.length := by omega
  have e1 := twist_lo st d h2
  have e2 := twist_hi st d h2
  have e3 := twist_step st d h2
  rw [hd] at e2 e3
  obtain ⟨K, rfl⟩ : ∃ q, K = q + 1 := ⟨K - 1, by omega⟩
  simp only [impl_undo_unite.l0, idx1 hm (show i < m by omega), hl, e1, e2]
  rw [if_pos (by omega), if_pos (by omega), if_pos (by omega), if_pos (by omega), if_pos (by omega), hst i (by omega)]
  simp only [Option.bind_some]
  rw [w64_succ _ (by omega), Int.toNat_natCast, Int.toNat_natCast, e3]
  exact ih (i + 1) k K (by omega) (by omega)
theorem iUnite_l1 (S0 : Int → Int → Int → Int → Option (Int × Int)) (S1 : Int → Int → Option (Int × Int)) (s e : List Int) (pf : Int → Int → Int × Int) (m : Nat) (hm : m ≤ 8) (hs : s.length = m) (he : e.length = m)
  (hpf : ∀ i : Nat, i < m → S1 (rd s (i : Int)) (rd e (i : Int)) = some (pf (rd s (i : Int)) (rd e (i : Int)))) :
  ∀ (dd i k : Nat), i + dd = m → dd < k → impl_undo_unite.l1 k s e ((2 * m : Nat) : Int) (U m (fun j => (pf (rd s (j : Int)) (rd e (j : Int))).1) (fun j => (pf (rd s (j : Int)) (rd e (j : Int))).2) i) (m : Int) (i : Int) S0 S1 = some (outs pf s e, e) := by
 intro dd
 induction dd with
 | zero =>
  intro i k hi hk
  obtain ⟨k, rfl⟩ : ∃ q, k = q + 1 := ⟨k - 1, by omega⟩
  simp only [impl_undo_unite.l1]
  rw [if_neg (by omega), show i = m by omega, U_end]
  unfold outs; rw [hs]
 | succ dd ih =>
  intro i k hi hk
  obtain ⟨k, rfl⟩ : ∃ q, k = q + 1 := ⟨k - 1, by omega⟩
  have e3 := U_step m (fun j => (pf (rd s (j : Int)) (rd e (j : Int))).1) (fun j => (pf (rd s (j : Int)) (rd e (j : Int))).2) (show i < m by omega)
  simp only [impl_undo_unite.l1, idx2 hm (show i < 2 * m by omega), U_length]
  rw [if_pos (by omega), if_pos (by omega), if_pos (by omega), if_pos (by omega), hpf i (by omega)]
  simp only [Option.bind_some]
  rw [if_pos (by omega), if_pos (by omega), if_pos (by omega), w64_succ _ (by omega), Int.toNat_natCast, Int.toNat_natCast, e3]
  exact ih (i + 1) k (by omega) (by omega)
theorem impl_unite_eq (S0 : Int → Int → Int → Int → Option (Int × Int)) (S1 : Int → Int → Option (Int × Int)) (st : Nat → Nat → Int → Int → Int × Int) (pf : Int → Int → Int × Int) (s d : List Int) (m : Nat) (hm : m ≤ 8) (hs : s.length = m) (hd : d.length = m)
  (hst : ∀ i, i < m / 2 → S0 ((2 * m : Nat) : Int) (i : Int) (rd d (i : Int)) (rd d ((m - 1 - i : Nat) : Int)) = some (st (2 * m) i (rd d (i : Int)) (rd d ((m - 1 - i : Nat) : Int))))
  (hpf : ∀ i : Nat, i < m → S1 (rd s (i : Int)) (rd (twist (st (2 * m)) (m / 2) d) (i : Int)) = some (pf (rd s (i : Int)) (rd (twist (st (2 * m)) (m / 2) d) (i : Int)))) (k : Nat) (hk : 40 ≤ k) :
  impl_undo_unite.f k S0 S1 s d = some (uniteM st pf s d, twist (st (2 * m)) (m / 2) d) := by
 unfold impl_undo_unite.f
 have e0 : wrap64 (2 * (s.length : Int)) = ((2 * m : Nat) : Int) := by rw [w64 (by omega) (by omega)]; omega
 rw [e0, if_pos (by omega), if_pos (by omega), quart hm, Int.toNat_natCast]
 have h1 := iUnite_l0 S0 S1 s d (List.replicate (2 * m) 0) (st (2 * m)) m hm hd hst (m / 2) 0 (k - m / 2 - 1) k (by omega) (by omega)
 rw [twist_zero] at h1
 refine h1.trans ?_
 have h2 := iUnite_l1 S0 S1 s (twist (st (2 * m)) (m / 2) d) pf m hm hs (by rw [twist_length, hd]) hpf m 0 (k - m / 2 - 1) (by omega) (by omega)
 rw [U_zero] at h2
 unfold uniteM
 rw [hs]
 exact h2

theorem rot_crude {p u a b N : Int} (hp : 0 ≤ p ∧ p ≤ 1024) (hu : 0 ≤ u ∧ u ≤ 1024) (h0 : 0 ≤ N) (ha : -N ≤ a ∧ a ≤ N) (hb : -N ≤ b ∧ b ≤ N) :
  ((-(5 * N) ≤ (forth p u a b).1 ∧ (forth p u a b).1 ≤ 5 * N) ∧ (-(5 * N) ≤ (forth p u a b).2 ∧ (forth p u a b).2 ≤ 5 * N)) ∧ ((-(5 * N) ≤ (back p u a b).1 ∧ (back p u a b).1 ≤ 5 * N) ∧ (-(5 * N) ≤ (back p u a b).2 ∧ (back p u a b).2 ≤ 5 * N)) := by
 have m1 := mul_bd hp.1 hp.2 hb.1 hb.2
 have t1 := tn_bd m1.1 m1.2
 have m2 := mul_bd (b := a - tn (p * b)) (M := 2 * N) hu.1 hu.2 (by omega) (by omega)
 have t2 := tn_bd m2.1 m2.2
 have m3 := mul_bd (b := b + tn (u * (a - tn (p * b)))) (M := 3 * N) hp.1 hp.2 (by omega) (by omega)
 have t3 := tn_bd m3.1 m3.2
 have n2 := mul_bd (b := a + tn (p * b)) (M := 2 * N) hu.1 hu.2 (by omega) (by omega)
 have s2 := tn_bd n2.1 n2.2
 have n3 := mul_bd (b := b - tn (u * (a + tn (p * b)))) (M := 3 * N) hp.1 hp.2 (by omega) (by omega)
 have s3 := tn_bd n3.1 n3.2
 unfold forth back
 simp only
 clear m1 m2 m3 n2 n3
 generalize tn (p * (b + tn (u * (a - tn (p * b))))) = x3 at t3 ⊢
 generalize tn (p * (b - tn (u * (a + tn (p * b))))) = y3 at s3 ⊢
 generalize tn (u * (a - tn (p * b))) = x2 at t2 ⊢
 generalize tn (u * (a + tn (p * b))) = y2 at s2 ⊢
 generalize tn (p * b) = x1 at t1 ⊢
 omega
def backS (n i : Nat) (a b : Int) : Int × Int := back (pu (n : Int) (i : Int)).1 (pu (n : Int) (i : Int)).2 a b
def forthS (n i : Nat) (a b : Int) : Int × Int := forth (pu (n : Int) (i : Int)).1 (pu (n : Int) (i : Int)).2 a b
def pf (s d : Int) : Int × Int := (s - d / 2 + d, s - d / 2)
def mx (a b : Int) : Int × Int := (b + (a - b) / 2, a - b)
theorem valid_of {m i : Nat} (hm : Sz m) (hi : i < m / 2) : Valid ((2 * m : Nat) : Int) (i : Int) := by
 unfold Sz at hm
 unfold Valid
 rcases hm with rfl | rfl | rfl | rfl
 ·omega
 ·exact .inl ⟨rfl, by omega⟩
 ·exact .inr (.inl ⟨rfl, by omega⟩)
 ·exact .inr (.inr ⟨rfl, by omega⟩)
theorem Sz.le {m : Nat} (h : Sz m) : 1 ≤ m ∧ m ≤ 8 := by unfold Sz at h; omega
theorem Bd_back {m : Nat} (hm : Sz m) {d : List Int} (hd : d.length = m) {N M : Int} (hN : 0 ≤ N) (hM : 5 * N ≤ M) (h : Bd N d) : Bd M (twist (backS (2 * m)) (m / 2) d) := by
 refine Bd_twist (N := N) (by omega) (by omega) (by omega) h ?_
 intro i a b hi ha hb
 obtain ⟨_, hp, hu⟩ := turnOf_eq (valid_of hm hi)
 have := (rot_crude hp hu hN ha hb).2
 unfold backS
 omega
theorem Bd_forth {m : Nat} (hm : Sz m) {d : List Int} (hd : d.length = m) {N M : Int} (hN : 0 ≤ N) (hM : 5 * N ≤ M) (h : Bd N d) : Bd M (twist (forthS (2 * m)) (m / 2) d) := by
 refine Bd_twist (N := N) (by omega) (by omega) (by omega) h ?_
 intro i a b hi ha hb
 obtain ⟨_, hp, hu⟩ := turnOf_eq (valid_of hm hi)
 have := (rot_crude hp hu hN ha hb).1
 unfold forthS
 omega
theorem Bd_outs {s e : List Int} {A N M : Int} (hA : 0 ≤ A) (hN : 0 ≤ N) (hM : 2 * A + N + 1 ≤ 2 * M) (hs : Bd A s) (he : Bd N e) : Bd M (outs pf s e) := by
 unfold outs pf
 refine Bd_gen (by omega) (fun j hj => ?_)
 by_cases h : j < s.length
 ·rw [if_pos h]
  have h1 := hs j
  have h2 := he j
  simp only
  omega
 ·rw [if_neg h]
  have h1 := hs (2 * s.length - 1 - j)
  have h2 := he (2 * s.length - 1 - j)
  simp only
  omega
theorem Bd_unite {m : Nat} (hm : Sz m) {s d : List Int} (hs : s.length = m) (hd : d.length = m) {N : Int} (hN : 1 ≤ N) (h1 : Bd N s) (h2 : Bd N d) : Bd (4 * N) (uniteM backS pf s d) := by
 unfold uniteM
 rw [hs]
 have := Bd_back hm hd (M := 5 * N) (by omega) (by omega) h2
 exact Bd_outs (A := N) (N := 5 * N) (by omega) (by omega) (by omega) h1 this

theorem rot_both {s n : Int} (hv : Valid s n) {a b N : Int} (hN : 24 ≤ N) (ha : -N ≤ a ∧ a ≤ N) (hb : -N ≤ b ∧ b ≤ N) :
  ((-(3 * N) ≤ 2 * (forth (pu s n).1 (pu s n).2 a b).1 ∧ 2 * (forth (pu s n).1 (pu s n).2 a b).1 ≤ 3 * N) ∧ (-(3 * N) ≤ 2 * (forth (pu s n).1 (pu s n).2 a b).2 ∧ 2 * (forth (pu s n).1 (pu s n).2 a b).2 ≤ 3 * N)) ∧
  ((-(3 * N) ≤ 2 * (back (pu s n).1 (pu s n).2 a b).1 ∧ 2 * (back (pu s n).1 (pu s n).2 a b).1 ≤ 3 * N) ∧ (-(3 * N) ≤ 2 * (back (pu s n).1 (pu s n).2 a b).2 ∧ 2 * (back (pu s n).1 (pu s n).2 a b).2 ≤ 3 * N)) := by
 unfold Valid at hv
 have e1 : pu 4 0 = (101, 200) := rfl
 have e2 : pu 4 1 = (311, 569) := rfl
 have f1 : pu 8 0 = (50, 100) := rfl
 have f2 : pu 8 1 = (152, 297) := rfl
 have f3 : pu 8 2 = (257, 483) := rfl
 have f4 : pu 8 3 = (366, 650) := rfl
 have g1 : pu 16 0 = (25, 50) := rfl
 have g2 : pu 16 1 = (76, 150) := rfl
 have g3 : pu 16 2 = (126, 249) := rfl
 have g4 : pu 16 3 = (178, 345) := rfl
 have g5 : pu 16 4 = (230, 438) := rfl
 have g6 : pu 16 5 = (283, 526) := rfl
 have g7 : pu 16 6 = (338, 610) := rfl
 have g8 : pu 16 7 = (395, 688) := rfl
 rcases hv with ⟨rfl, rfl | rfl⟩ | ⟨rfl, rfl | rfl | rfl | rfl⟩ | ⟨rfl, rfl | rfl | rfl | rfl | rfl | rfl | rfl | rfl⟩ <;>
  (simp only [e1, e2, f1, f2, f3, f4, g1, g2, g3, g4, g5, g6, g7, g8, forth, back, tn]; clear e1 e2 f1 f2 f3 f4 g1 g2 g3 g4 g5 g6 g7 g8; refine ⟨⟨⟨?_, ?_⟩, ?_, ?_⟩, ⟨?_, ?_⟩, ?_, ?_⟩ <;> omega)
theorem Bf_forth {m : Nat} (hm : Sz m) {d : List Int} (hd : d.length = m) {N M : Int} (hN : 24 ≤ N) (hM : 3 * N ≤ 2 * M) (h : Bd N d) : Bd M (twist (forthS (2 * m)) (m / 2) d) := by
 refine Bd_twist (N := N) (by omega) (by omega) (by omega) h ?_
 intro i a b hi ha hb
 have := (rot_both (valid_of hm hi) hN ha hb).1
 exact ⟨⟨by have := this.1.1; unfold forthS; omega, by have := this.1.2; unfold forthS; omega⟩, ⟨by have := this.2.1; unfold forthS; omega, by have := this.2.2; unfold forthS; omega⟩⟩
def hs (m : Nat) (xs : List Int) (j : Nat) : Int := (mx (rd xs (j : Int)) (rd xs ((2 * m - 1 - j : Nat) : Int))).1
def hd (m : Nat) (xs : List Int) (j : Nat) : Int := (mx (rd xs (j : Int)) (rd xs ((2 * m - 1 - j : Nat) : Int))).2
def halveS (xs : List Int) : List Int := gen (xs.length / 2) (hs (xs.length / 2) xs)
def halveD0 (xs : List Int) : List Int := gen (xs.length / 2) (hd (xs.length / 2) xs)
def halveD (xs : List Int) : List Int := twist (forthS xs.length) (xs.length / 2 / 2) (halveD0 xs)
theorem halveS_length (xs : List Int) : (halveS xs).length = xs.length / 2 := gen_length _ _
theorem halveD0_length (xs : List Int) : (halveD0 xs).length = xs.length / 2 := gen_length _ _
theorem halveD_length (xs : List Int) : (halveD xs).length = xs.length / 2 := by unfold halveD; rw [twist_length, halveD0_length]
def V (m : Nat) (f : Nat → Int) (i : Nat) : List Int := gen m fun j => if j < i then f j else 0
theorem V_zero (m : Nat) (f : Nat → Int) : V m f 0 = List.replicate m 0 := by
 rw [zeros_gen]; unfold V
 exact gen_congr (fun j _ => by simp)
theorem V_end (m : Nat) (f : Nat → Int) : V m f m = gen m f := by
 unfold V
 exact gen_congr (fun j h => by rw [if_pos h])
theorem V_step (m : Nat) (f : Nat → Int) {i : Nat} (hi : i < m) : (V m f i).set i (f i) = V m f (i + 1) := by
 refine ext_rd (by rw [List.length_set]; unfold V; rw [gen_length, gen_length]) ?_
 intro j hj
 have hl : (V m f i).length = m := gen_length _ _
 rw [List.length_set, hl] at hj
 rw [rd_set _ _ (by omega)]
 unfold V
 rw [rd_gen _ _ hj, rd_gen _ _ hj]
 by_cases e : j = i
 ·rw [if_pos e, if_pos (by omega), e]
 ·rw [if_neg e]
  by_cases h : j < i
  ·rw [if_pos h, if_pos (by omega)]
  ·rw [if_neg h, if_neg (by omega)]
theorem Bd_halveS {xs : List Int} {N : Int} (h0 : 0 ≤ N) (h : Bd N xs) : Bd N (halveS xs) := by
 unfold halveS hs mx
 refine Bd_gen h0 (fun j _ => ?_)
 have h1 := h j
 have h2 := h (2 * (xs.length / 2) - 1 - j)
 simp only
 omega
theorem Bd_halveD0 {xs : List Int} {N : Int} (h0 : 0 ≤ N) (h : Bd N xs) : Bd (2 * N) (halveD0 xs) := by
 unfold halveD0 hd mx
 refine Bd_gen (by omega) (fun j _ => ?_)
 have h1 := h j
 have h2 := h (2 * (xs.length / 2) - 1 - j)
 simp only
 omega
theorem Bd_halveD {m : Nat} (hm : Sz m) {xs : List Int} (hx : xs.length = 2 * m) {N : Int} (h0 : 0 ≤ N) (h : Bd N xs) : Bd (10 * N) (halveD xs) := by
 unfold halveD
 rw [show xs.length / 2 / 2 = m / 2 by omega, hx]
 exact Bd_forth hm (by rw [halveD0_length]; omega) (N := 2 * N) (by omega) (by omega) (Bd_halveD0 h0 h)

theorem iHalve_l1 (s d : List Int) (m : Nat) (hm : Sz m) (hd : d.length = m) {N : Int} (hN2 : N ≤ 200000000000000) (hB : Bd N d) :
  ∀ (dd i K : Nat), i + dd = m / 2 → dd < K → impl_halve.l1 K ((2 * m : Nat) : Int) s (twist (forthS (2 * m)) i d) ((m / 2 : Nat) : Int) (i : Int) = some (s, twist (forthS (2 * m)) (m / 2) d) := by
 intro dd
 induction dd with
 | zero =>
  intro i K hi hK
  obtain ⟨K, rfl⟩ : ∃ q, K = q + 1 := ⟨K - 1, by omega⟩
  simp only [impl_halve.l1]
  rw [if_neg (by omega), show i = m / 2 by omega]
 | succ dd ih =>
  intro i K hi hK
  have hm8 := hm.le
  have hl : (twist (forthS (2 * m)) i d).length = m := by rw [twist_length, hd]
  have h2 : 2 * (i + 1) ≤ d.length := by omega
  have e1 := twist_lo (forthS (2 * m)) d h2
  have e2 := twist_hi (forthS (2 * m)) d h2
  have e3 := twist_step (forthS (2 * m)) d h2
  rw [hd] at e2 e3
  have b1 := hB i
  have b2 := hB (m - 1 - i)
  obtain ⟨ht, hp, hu⟩ := turnOf_eq (valid_of hm (show i < m / 2 by omega))
  obtain ⟨K, rfl⟩ : ∃ q, K = q + 1 := ⟨K - 1, by omega⟩
  have hf := turn_forth_eq _ _ (rd d (i : Int)) (rd d ((m - 1 - i : Nat) : Int)) hp hu (by omega) (by omega)
  rw [impl_halve.l1]
  rw [if_pos (by omega), ht]
  simp only [Option.bind_some, idx1 hm8.2 (show i < m by omega), hl, e1, e2]
  rw [if_pos (by omega), if_pos (by omega), if_pos (by omega), if_pos (by omega), hf]
  simp only [Option.bind_some]
  rw [w64_succ _ (by omega), Int.toNat_natCast, Int.toNat_natCast]
  have e4 := ih (i + 1) K (by omega) (by omega)
  rw [← e3] at e4
  exact e4
theorem iHalve_l0 (xs : List Int) (m : Nat) (hm : m ≤ 8) (hx : xs.length = 2 * m) {N : Int} (hN : 0 ≤ N) (hN2 : N ≤ 200000000000000) (hB : Bd N xs) :
  ∀ (dd i k K : Nat), i + dd = m → K = k + dd + 1 → impl_halve.l0 K xs ((2 * m : Nat) : Int) (V m (hs m xs) i) (V m (hd m xs) i) (m : Int) (i : Int) = impl_halve.l1 k ((2 * m : Nat) : Int) (gen m (hs m xs)) (gen m (hd m xs)) ((m / 2 : Nat) : Int) 0 := by
 intro dd
 induction dd with
 | zero =>
  intro i k K hi hK
  obtain rfl : K = k + 1 := by omega
  simp only [impl_halve.l0, quart hm]
  rw [if_neg (by omega), show i = m by omega, V_end, V_end]
 | succ dd ih =>
  intro i k K hi hK
  obtain ⟨K, rfl⟩ : ∃ q, K = q + 1 := ⟨K - 1, by omega⟩
  have b1 := hB i
  have b2 := hB (2 * m - 1 - i)
  have hv : ∀ f : Nat → Int, (V m f i).length = m := fun f => gen_length _ _
  have s1 := V_step m (hs m xs) (show i < m by omega)
  have s2 := V_step m (hd m xs) (show i < m by omega)
  simp only [impl_halve.l0, idx2 hm (show i < 2 * m by omega), hv]
  rw [if_pos (by omega), if_pos (by omega), if_pos (by omega), if_pos (by omega), if_pos (by omega), mix_eq _ _ (by omega) (by omega)]
  simp only [Option.bind_some]
  rw [if_pos (by omega), if_pos (by omega), w64_succ _ (by omega), Int.toNat_natCast]
  have := ih (i + 1) k K (by omega) (by omega)
  rw [← s1, ← s2] at this
  exact this
theorem iHalve {m : Nat} (hm : Sz m) {xs : List Int} (hx : xs.length = 2 * m) {N : Int} (hN : 0 ≤ N) (hN2 : N ≤ 20000000000000) (hB : Bd N xs) (k : Nat) (hk : 40 ≤ k) : impl_halve.f k xs = some (halveS xs, halveD xs) := by
 have hm8 := hm.le
 have h0 := iHalve_l0 xs m hm8.2 hx hN (by omega) hB m 0 (k - m - 1) k (by omega) (by omega)
 have hxm : xs.length / 2 = m := by omega
 have h1 := iHalve_l1 (gen m (hs m xs)) (halveD0 xs) m hm (by rw [halveD0_length, hxm]) (N := 2 * N) (by omega) (Bd_halveD0 hN hB) (m / 2) 0 (k - m - 1) (by omega) (by omega)
 rw [twist_zero] at h1
 have e1 : gen m (hd m xs) = halveD0 xs := by unfold halveD0; rw [hxm]
 have e2 : gen m (hs m xs) = halveS xs := by unfold halveS; rw [hxm]
 have e3 : twist (forthS (2 * m)) (m / 2) (halveD0 xs) = halveD xs := by unfold halveD; rw [hxm, hx]
 rw [e3, e2] at h1
 rw [e1, e2, V_zero, V_zero] at h0
 have ew : wrap64 ((xs.length : Int) / 2) = (m : Int) := by rw [w64 (by omega) (by omega)]; omega
 unfold impl_halve.f
 rw [ew, if_pos (by omega), Int.toNat_natCast, if_pos (by omega)]
 simp only [bindS, List.length_replicate]
 rw [hx]
 exact Eq.trans h0 h1

def zipM (a b : List Int) : List Int := gen (2 * a.length) fun j => if j % 2 = 0 then rd a ((j / 2 : Nat) : Int) else rd b ((j / 2 : Nat) : Int)
def zf (a b : List Int) (j : Nat) : Int := if j % 2 = 0 then rd a ((j / 2 : Nat) : Int) else rd b ((j / 2 : Nat) : Int)
theorem zipM_length (a b : List Int) : (zipM a b).length = 2 * a.length := gen_length _ _
theorem zf_step (a b : List Int) (i : Nat) : gen (2 * (i + 1)) (zf a b) = gen (2 * i) (zf a b) ++ [rd a (i : Int), rd b (i : Int)] := by
 rw [show 2 * (i + 1) = 2 * i + 1 + 1 by omega, gen_succ, gen_succ, List.append_assoc]
 have e1 : zf a b (2 * i) = rd a (i : Int) := by unfold zf; rw [if_pos (by omega), show 2 * i / 2 = i by omega]
 have e2 : zf a b (2 * i + 1) = rd b (i : Int) := by unfold zf; rw [if_neg (by omega), show (2 * i + 1) / 2 = i by omega]
 rw [e1, e2]; rfl
def spreadM : Nat → List Int → List Int
 | 0, c => c
 | L + 1, c => zipM (spreadM L (halveS c)) (spreadM L (halveD c))
theorem spreadM_length : ∀ (L : Nat) (c : List Int), c.length = 2 ^ L → (spreadM L c).length = 2 ^ L := by
 intro L
 induction L with
 | zero => intro c h; exact h
 | succ L ih =>
  intro c h
  rw [Nat.pow_succ] at h
  rw [spreadM, zipM_length, ih _ (by rw [halveS_length]; omega), Nat.pow_succ]; omega
theorem pow4' (L : Nat) (hL : L ≤ 4) : 1 ≤ 2 ^ L ∧ 2 ^ L ≤ 16 := ⟨Nat.two_pow_pos L, Nat.pow_le_pow_right (by omega) hL⟩
theorem Sz_pow' (L : Nat) (hL : L ≤ 3) : Sz (2 ^ L) := by
 unfold Sz
 match L, hL with
 | 0, _ => exact .inl rfl
 | 1, _ => exact .inr (.inl rfl)
 | 2, _ => exact .inr (.inr (.inl rfl))
 | 3, _ => exact .inr (.inr (.inr rfl))

theorem iSpread_l0 (a b : List Int) (hab : b.length = a.length) (ha : a.length ≤ 8) : ∀ (dd i K : Nat), i + dd = a.length → dd < K → impl_spread.l0 K a b (gen (2 * i) (zf a b)) (a.length : Int) (i : Int) = some (zipM a b) := by
 intro dd
 induction dd with
 | zero =>
  intro i K hi hK
  obtain ⟨K, rfl⟩ : ∃ q, K = q + 1 := ⟨K - 1, by omega⟩
  simp only [impl_spread.l0]
  rw [if_neg (by omega), show i = a.length by omega]; rfl
 | succ dd ih =>
  intro i K hi hK
  obtain ⟨K, rfl⟩ : ∃ q, K = q + 1 := ⟨K - 1, by omega⟩
  simp only [impl_spread.l0, bindS, gen_length, List.length_cons, List.length_nil]
  rw [if_pos (by omega), if_pos (by omega), if_pos (by omega), if_pos (by omega), if_pos (by omega), w64_succ _ (by omega), ← zf_step]
  exact ih (i + 1) K (by omega) (by omega)
theorem iSpread : ∀ (L : Nat) (c : List Int) (N : Int) (k : Nat), L ≤ 4 → c.length = 2 ^ L → 0 ≤ N → Bd N c → N * 10 ^ L ≤ 20000000000000 → 60 + 20 * L ≤ k → impl_spread.f k c = some (spreadM L c) := by
 intro L
 induction L with
 | zero =>
  intro c N k _ hc _ _ _ hk
  obtain ⟨k, rfl⟩ : ∃ q, k = q + 1 := ⟨k - 1, by omega⟩
  have hc1 : c.length = 1 := hc
  simp only [impl_spread.f]
  rw [if_pos (by omega), if_pos (by omega), spreadM]
  match c, hc1 with
  | [x], _ => rfl
 | succ L ih =>
  intro c N k hL hc hN h hb hk
  obtain ⟨k, rfl⟩ : ∃ q, k = q + 1 := ⟨k - 1, by omega⟩
  have hp2 := pow4' L (by omega)
  have hpw : (2 : Nat) ^ (L + 1) = 2 * 2 ^ L := by rw [Nat.pow_succ]; omega
  have hp8 : 2 ^ L ≤ 8 := Nat.pow_le_pow_right (n := 2) (by omega) (show L ≤ 3 by omega)
  rw [hpw] at hc
  have hb' : 10 * N * 10 ^ L ≤ 20000000000000 := by
   rw [Int.pow_succ] at hb
   rw [Int.mul_comm 10 N, Int.mul_assoc, Int.mul_comm 10]; exact hb
  have hp : (1 : Int) ≤ 10 ^ L := Int.pow_pos (show (0 : Int) < 10 by decide)
  have hN10 : 10 * N ≤ 20000000000000 := by
   have := Int.mul_le_mul_of_nonneg_left hp (show 0 ≤ 10 * N by omega)
   omega
  have b1 : Bd (10 * N) (halveS c) := (Bd_halveS hN h).mono (by omega)
  have b2 : Bd (10 * N) (halveD c) := Bd_halveD (Sz_pow' L (by omega)) hc hN h
  have l1 : (halveS c).length = 2 ^ L := by rw [halveS_length]; omega
  have l2 : (halveD c).length = 2 ^ L := by rw [halveD_length]; omega
  have g0 := iHalve (Sz_pow' L (by omega)) hc hN (by omega) h k (by omega)
  have g1 := ih (halveS c) (10 * N) k (by omega) l1 (by omega) b1 hb' (by omega)
  have g2 := ih (halveD c) (10 * N) k (by omega) l2 (by omega) b2 hb' (by omega)
  have m1 := spreadM_length L _ l1
  have m2 := spreadM_length L _ l2
  have g3 := iSpread_l0 (spreadM L (halveS c)) (spreadM L (halveD c)) (by omega) (by omega) (2 ^ L) 0 k (by omega) (by omega)
  simp only [impl_spread.f]
  rw [if_neg (by omega)]
  simp only [g0, g1, g2, bindS]
  exact g3

theorem lvl_m {m : Nat} (h : m = 2 ∨ m = 4 ∨ m = 8) : 2 * m = 2 ^ lvl (2 * m) ∧ lvl (2 * m) ≤ 4 := by
 rcases h with rfl | rfl | rfl <;> decide

def SA (m : Nat) (f z : Nat → Int) (i : Nat) : List Int := gen m fun j => if m - 1 - j < i then f (m - 1 - j) else z j
def SB (m : Nat) (g z : Nat → Int) (i : Nat) : List Int := gen m fun j => if j < i then g j else z j
theorem SA_length (m : Nat) (f z : Nat → Int) (i : Nat) : (SA m f z i).length = m := gen_length _ _
theorem SB_length (m : Nat) (g z : Nat → Int) (i : Nat) : (SB m g z i).length = m := gen_length _ _
theorem SA_zero (m : Nat) (f z : Nat → Int) : SA m f z 0 = gen m z := gen_congr fun j _ => if_neg (by omega)
theorem SB_zero (m : Nat) (f z : Nat → Int) : SB m f z 0 = gen m z := gen_congr fun j _ => if_neg (by omega)
theorem SA_end (m : Nat) (f z : Nat → Int) : SA m f z m = gen m fun j => f (m - 1 - j) := gen_congr fun j _ => if_pos (by omega)
theorem SB_end (m : Nat) (f z : Nat → Int) : SB m f z m = gen m f := gen_congr fun j hj => if_pos hj
theorem SA_at (m : Nat) (f z : Nat → Int) {i : Nat} (h : i < m) : rd (SA m f z i) ((m - 1 - i : Nat) : Int) = z (m - 1 - i) := by
 unfold SA; rw [rd_gen _ _ (by omega), if_neg (by omega)]
theorem SB_at (m : Nat) (f z : Nat → Int) {i : Nat} (h : i < m) : rd (SB m f z i) (i : Int) = z i := by
 unfold SB; rw [rd_gen _ _ (by omega), if_neg (by omega)]
theorem SA_step (m : Nat) (f z : Nat → Int) {i : Nat} (h : i < m) : (SA m f z i).set (m - 1 - i) (f i) = SA m f z (i + 1) := by
 refine ext_rd (by rw [List.length_set, SA_length, SA_length]) ?_
 intro j hj
 rw [List.length_set, SA_length] at hj
 rw [rd_set _ _ (by rw [SA_length]; omega)]
 unfold SA
 rw [rd_gen _ _ hj, rd_gen _ _ hj]
 by_cases e : j = m - 1 - i
 ·rw [if_pos e, if_pos (by omega), show m - 1 - j = i by omega]
 ·rw [if_neg e]
  by_cases g : m - 1 - j < i
  ·rw [if_pos g, if_pos (by omega)]
  ·rw [if_neg g, if_neg (by omega)]
theorem SB_step (m : Nat) (f z : Nat → Int) {i : Nat} (h : i < m) : (SB m f z i).set i (f i) = SB m f z (i + 1) := by
 refine ext_rd (by rw [List.length_set, SB_length, SB_length]) ?_
 intro j hj
 rw [List.length_set, SB_length] at hj
 rw [rd_set _ _ (by rw [SB_length]; omega)]
 unfold SB
 rw [rd_gen _ _ hj, rd_gen _ _ hj]
 by_cases e : j = i
 ·rw [if_pos e, if_pos (by omega), e]
 ·rw [if_neg e]
  by_cases g : j < i
  ·rw [if_pos g, if_pos (by omega)]
  ·rw [if_neg g, if_neg (by omega)]
/-- What a seam tells, by what each step tells. -/
def seamA (m : Nat) (F : Nat → Int × Int) : List Int := gen m fun j => (F (m - 1 - j)).1
def seamB (m : Nat) (F : Nat → Int × Int) : List Int := gen m fun j => (F j).2
theorem seamA_length (m : Nat) (F : Nat → Int × Int) : (seamA m F).length = m := gen_length _ _
theorem seamB_length (m : Nat) (F : Nat → Int × Int) : (seamB m F).length = m := gen_length _ _
theorem idxS {m i : Nat} (hm : m ≤ 8) (hi : i < m) : wrap64 (wrap64 ((m : Int) - 1) - (i : Int)) = ((m - 1 - i : Nat) : Int) := by
 rw [w64 (x := (m : Int) - 1) (by omega) (by omega), w64 (by omega) (by omega)]; omega
def stB (m : Nat) (a b : List Int) (i : Nat) : Int × Int := backS (2 * m) i (rd a ((m - 1 - i : Nat) : Int)) (rd b (i : Int))
def stF (m : Nat) (a b : List Int) (i : Nat) : Int × Int := forthS (2 * m) i (rd a ((m - 1 - i : Nat) : Int)) (rd b (i : Int))
theorem validS {m i : Nat} (hm : m = 2 ∨ m = 4 ∨ m = 8) (hi : i < m) : Valid ((2 * m : Nat) : Int) (i : Int) := by
 unfold Valid; omega
theorem Bd_seam {m : Nat} {F : Nat → Int × Int} {M : Int} (h0 : 0 ≤ M) (h : ∀ i, i < m → (-M ≤ (F i).1 ∧ (F i).1 ≤ M) ∧ (-M ≤ (F i).2 ∧ (F i).2 ≤ M)) : Bd M (seamA m F) ∧ Bd M (seamB m F) :=
 ⟨Bd_gen h0 fun j hj => (h (m - 1 - j) (by omega)).1, Bd_gen h0 fun j hj => (h j hj).2⟩
theorem Bd_append {N : Int} (h0 : 0 ≤ N) {xs ys : List Int} (hx : Bd N xs) (hy : Bd N ys) : Bd N (xs ++ ys) := by
 intro j
 by_cases h : j < xs.length
 ·have := hx j
  rw [rd_nat] at this ⊢
  rw [List.getD_eq_getElem?_getD] at this ⊢
  rwa [List.getElem?_append_left h]
 ·have := hy (j - xs.length)
  rw [rd_nat] at this ⊢
  rw [List.getD_eq_getElem?_getD] at this ⊢
  rwa [List.getElem?_append_right (by omega)]
theorem Bd_take {N : Int} (h0 : 0 ≤ N) {xs : List Int} (n : Nat) (hx : Bd N xs) : Bd N (xs.take n) := by
 intro j
 have := hx j
 rw [rd_nat, List.getD_eq_getElem?_getD] at this ⊢
 rw [List.getElem?_take]
 split
 ·exact this
 ·exact ⟨by show -N ≤ (0 : Int); omega, h0⟩
theorem iSeam_l0 {m : Nat} (hm : m ≤ 8) (S : Int → Int → Int → Option (Int × Int)) (F : Nat → Int × Int) (za zb : Nat → Int) (h : ∀ i, i < m → S (i : Int) (za (m - 1 - i)) (zb i) = some (F i)) : ∀ (d i K : Nat), i + d = m → d < K →
  impl_seam.l0 K S (SA m (fun i => (F i).1) za i) (SB m (fun i => (F i).2) zb i) (m : Int) (i : Int) = some (seamA m F, seamB m F) := by
 intro d
 induction d with
 | zero =>
  intro i K hi hK
  obtain ⟨K, rfl⟩ : ∃ q, K = q + 1 := ⟨K - 1, by omega⟩
  obtain rfl : i = m := by omega
  rw [impl_seam.l0, if_neg (by omega), SA_end, SB_end]; rfl
 | succ d ih =>
  intro i K hi hK
  obtain ⟨K, rfl⟩ : ∃ q, K = q + 1 := ⟨K - 1, by omega⟩
  have ix := idxS hm (show i < m by omega)
  rw [impl_seam.l0, SA_length, SB_length, ix, SA_at _ _ _ (by omega), SB_at _ _ _ (by omega), h i (by omega)]
  rw [if_pos (by omega), if_pos (by omega), if_pos (by omega), if_pos (by omega), if_pos (by omega), bindS, Int.toNat_natCast, Int.toNat_natCast, w64_succ i (by omega)]
  have e1 := SA_step m (fun i => (F i).1) za (i := i) (by omega)
  have e2 := SB_step m (fun i => (F i).2) zb (i := i) (by omega)
  rw [e1, e2]
  exact ih (i + 1) K (by omega) (by omega)
theorem iSeam {m : Nat} (hm : m ≤ 8) (S : Int → Int → Int → Option (Int × Int)) (F : Nat → Int × Int) (a b : List Int) (ha : a.length = m) (hb : b.length = m) (h : ∀ i : Nat, i < m → S (i : Int) (rd a ((m - 1 - i : Nat) : Int)) (rd b (i : Int)) = some (F i)) (K : Nat) (hK : 20 ≤ K) :
  impl_seam.f K a b S = some (seamA m F, seamB m F) := by
 unfold impl_seam.f
 rw [cloneI_eq a (by omega), bindS, cloneI_eq b (by omega), bindS, hb]
 have := iSeam_l0 hm S F (fun j => rd a (j : Int)) (fun j => rd b (j : Int)) h m 0 K (by omega) (by omega)
 rw [SA_zero, SB_zero, gen_rd a ha, gen_rd b hb] at this
 exact this

theorem sample_Bd {xs : List Int} (h : allIn (-32768) 32767 xs = true) : Bd 32768 xs := by
 refine Bd_all (by omega) ?_
 rw [allIn_iff] at h ⊢
 intro x hx
 have := h x hx
 omega
theorem feed1_eq {s n : Int} (hv : Valid s n) (a b : Int) (ha : -1125899906842624 ≤ a ∧ a ≤ 1125899906842624) (hb : -1125899906842624 ≤ b ∧ b ≤ 1125899906842624) : impl_FeedFrame_1.f s n a b = some (forth (pu s n).1 (pu s n).2 a b) := by
 obtain ⟨e, hp, hu⟩ := turnOf_eq hv
 unfold impl_FeedFrame_1.f
 rw [e, bindS, turn_forth_eq _ _ _ _ hp hu ha hb, bindS]
/-- A lap and a frame that are right: half the size, and what the lap's lists and the frame hold. -/
structure Right (m : Nat) (x y fr : List Int) : Prop where
 m3 : m = 2 ∨ m = 4 ∨ m = 8
 lx : x.length = m
 ly : y.length = m
 lf : fr.length = 2 * m
 bx : Bd 65536 x
 by' : Bd 32768 y
 bf : Bd 32768 fr
/-- The step's pairs, and what a feed tells. -/
def feedF (m : Nat) (y fr : List Int) : Nat → Int × Int := stF m y (fr.take m)
theorem feedF_bd {m : Nat} {x y fr : List Int} (h : Right m x y fr) : ∀ i, i < m → (-163840 ≤ (feedF m y fr i).1 ∧ (feedF m y fr i).1 ≤ 163840) ∧ (-163840 ≤ (feedF m y fr i).2 ∧ (feedF m y fr i).2 ≤ 163840) := by
 intro i hi
 obtain ⟨_, hp, hu⟩ := turnOf_eq (validS h.m3 hi)
 exact (rot_crude (N := 32768) hp hu (by omega) (h.by' _) (Bd_take (by omega) m h.bf i)).1
def feedL (m : Nat) (x y fr : List Int) : List Int := x ++ seamA m (feedF m y fr)
theorem feedL_length {m : Nat} {x y fr : List Int} (h : Right m x y fr) : (feedL m x y fr).length = 2 * m := by
 unfold feedL; rw [List.length_append, seamA_length, h.lx]; omega
theorem feedL_bd {m : Nat} {x y fr : List Int} (h : Right m x y fr) : Bd 163840 (feedL m x y fr) :=
 Bd_append (by omega) (h.bx.mono (by omega)) (Bd_seam (by omega) (feedF_bd h)).1
theorem pow_feed (L : Nat) (hL : L ≤ 4) : (163840 : Int) * 10 ^ L ≤ 20000000000000 := by
 match L, hL with
 | 0, _ => decide
 | 1, _ => decide
 | 2, _ => decide
 | 3, _ => decide
 | 4, _ => decide
theorem impl_feed_ok {m : Nat} {x y fr : List Int} (h : Right m x y fr) (h1 : faultF ((2 * m : Nat) : Int) x y = 0) (h2 : sampF ((2 * m : Nat) : Int) fr = 0) (k : Nat) (hk : 1000 ≤ k) :
  impl_FeedFrame.f k ((2 * m : Nat) : Int) x y fr = some (0, ((2 * m : Nat) : Int), seamB m (feedF m y fr), fr.drop m, spreadM (lvl (2 * m)) (feedL m x y fr)) := by
 have hm8 : m ≤ 8 := by have := h.m3; omega
 have lt : (fr.take m).length = m := by rw [List.length_take, h.lf]; omega
 have ld : (fr.drop m).length = m := by rw [List.length_drop, h.lf]; omega
 have hst : ∀ i : Nat, i < m → impl_FeedFrame_1.f ((2 * m : Nat) : Int) (i : Int) (rd y ((m - 1 - i : Nat) : Int)) (rd (fr.take m) (i : Int)) = some (feedF m y fr i) := by
  intro i hi
  have a1 := h.by' (m - 1 - i)
  have a2 := Bd_take (by omega) m h.bf i
  exact feed1_eq (validS h.m3 hi) _ _ (by omega) (by omega)
 have e1 := iSeam hm8 (impl_FeedFrame_1.f ((2 * m : Nat) : Int)) (feedF m y fr) y (fr.take m) h.ly lt hst k (by omega)
 have e2 := iSpread (lvl (2 * m)) (feedL m x y fr) 163840 k (lvl_m h.m3).2 (by rw [feedL_length h]; exact (lvl_m h.m3).1) (by omega) (feedL_bd h) (pow_feed _ (lvl_m h.m3).2) (by have := (lvl_m h.m3).2; omega)
 obtain ⟨q, hq⟩ : ∃ q, k = q + 1 + 1 + 1 + 1 + 1 + 1 := ⟨k - 6, by omega⟩
 have e3 := concatI_eq x (seamA m (feedF m y fr)) (by rw [seamA_length]; have := h.lx; omega) q
 rw [← hq] at e3
 have hf : impl_first.f k [0, 0] = some 0 := first_eq [0, 0] (by simp) k (by simp; omega)
 unfold impl_FeedFrame.f
 rw [impl_fault_eq _ x y k (by omega), h1, bindS, impl_SamplesFault_eq _ fr k (by omega), h2, bindS, hf, bindS, if_pos rfl, halfI hm8, if_pos (by omega), if_pos (by have := h.lf; omega), Int.toNat_natCast, e1, bindS]
 simp only
 rw [e3, bindS]
 show (impl_spread.f k (feedL m x y fr)).bind _ = _
 rw [e2, bindS, cloneI_eq _ (by omega), bindS]
theorem samples1_eq {s n : Int} (hv : Valid s n) (a b : Int) (ha : -1125899906842624 ≤ a ∧ a ≤ 1125899906842624) (hb : -1125899906842624 ≤ b ∧ b ≤ 1125899906842624) : impl_samples_1.f s n a b = some (back (pu s n).1 (pu s n).2 a b) := by
 unfold impl_samples_1.f
 obtain ⟨e, hp, hu⟩ := turnOf_eq hv
 rw [e]
 simp only [Option.bind_some]
 rw [turn_back_eq _ _ _ _ hp hu ha hb]; rfl
theorem iUnite {m : Nat} (hm : Sz m) {s d : List Int} (hs : s.length = m) (hd : d.length = m) {N : Int} (hN : 0 ≤ N) (hN2 : N ≤ 200000000000000) (h1 : Bd N s) (h2 : Bd N d) (k : Nat) (hk : 40 ≤ k) : ∃ e, impl_undo_unite.f k impl_samples_1.f impl_part.f s d = some (uniteM backS pf s d, e) := by
 have hb := Bd_back hm hd (M := 5 * N) hN (by omega) h2
 refine ⟨_, impl_unite_eq impl_samples_1.f impl_part.f backS pf s d m hm.le.2 hs hd ?_ ?_ k hk⟩
 ·intro i hi
  have b1 := h2 i
  have b2 := h2 (m - 1 - i)
  exact samples1_eq (valid_of hm hi) _ _ (by omega) (by omega)
 ·intro i hi
  have b1 := h1 i
  have b2 := hb i
  exact part_eq _ _ (by omega) (by omega)

theorem iGather_l0 (S0 : Int → Int → Int → Int → Option (Int × Int)) (S1 : Int → Int → Option (Int × Int)) (c : List Int) (m : Nat) (hc : c.length = 2 * m) (hm : m ≤ 8) : ∀ (dd i k K : Nat), i + dd = m → K = k + 2 * dd + 1 →
  impl_undo_gather.l0 K (gen i fun j => rd c ((2 * j : Nat) : Int)) (gen i fun j => rd c ((2 * j + 1 : Nat) : Int)) c (c.length : Int) ((2 * i : Nat) : Int) S0 S1 = (impl_undo_gather.f k S0 S1 (evens c)).bind fun a => (impl_undo_gather.f k S0 S1 (odds c)).bind fun b => (impl_undo_unite.f k S0 S1 a b).bind fun t => some t.1 := by
 intro dd
 induction dd with
 | zero =>
  intro i k K hi hK
  obtain rfl : K = k + 1 := by omega
  simp only [impl_undo_gather.l0]
  rw [if_neg (by omega)]
  unfold evens odds
  rw [hc, show 2 * m / 2 = i by omega]
 | succ dd ih =>
  intro i k K hi hK
  obtain ⟨K, rfl⟩ : ∃ q, K = q + 1 := ⟨K - 1, by omega⟩
  have t0 : Int.tmod ((2 * i : Nat) : Int) 2 = 0 := by rw [tmod_pos (by omega)]; omega
  have t1 : ¬ Int.tmod ((2 * i + 1 : Nat) : Int) 2 = 0 := by rw [tmod_pos (by omega)]; omega
  rw [impl_undo_gather.l0]
  rw [if_pos (by omega), if_pos (by omega), if_pos (by omega), if_pos t0, gen_length, if_pos (by omega), w64_succ _ (by omega)]
  obtain ⟨K, rfl⟩ : ∃ q, K = q + 1 := ⟨K - 1, by omega⟩
  rw [impl_undo_gather.l0]
  rw [if_pos (by omega), if_pos (by omega), if_pos (by omega), if_neg t1, gen_length, if_pos (by omega), w64_succ _ (by omega)]
  have := ih (i + 1) k K (by omega) (by omega)
  rw [gen_succ, gen_succ] at this
  exact this

theorem pow4 (L : Nat) (hL : L ≤ 4) : 1 ≤ 2 ^ L ∧ 2 ^ L ≤ 16 := ⟨Nat.two_pow_pos L, Nat.pow_le_pow_right (by omega) hL⟩
theorem Sz_pow (L : Nat) (hL : L ≤ 3) : Sz (2 ^ L) := by
 unfold Sz
 match L, hL with
 | 0, _ => exact .inl rfl
 | 1, _ => exact .inr (.inl rfl)
 | 2, _ => exact .inr (.inr (.inl rfl))
 | 3, _ => exact .inr (.inr (.inr rfl))
theorem evens_length (c : List Int) : (evens c).length = c.length / 2 := gen_length _ _
theorem odds_length (c : List Int) : (odds c).length = c.length / 2 := gen_length _ _
theorem Bd_gather : ∀ (L : Nat) (c : List Int) (N : Int), L ≤ 4 → c.length = 2 ^ L → 1 ≤ N → Bd N c → Bd (4 ^ L * N) (gatherM backS pf L c) := by
 intro L
 induction L with
 | zero => intro c N _ _ _ h; rw [gatherM]; simpa using h
 | succ L ih =>
  intro c N hL hc hN h
  rw [Nat.pow_succ] at hc
  have e1 : (evens c).length = 2 ^ L := by rw [evens_length]; omega
  have e2 : (odds c).length = 2 ^ L := by rw [odds_length]; omega
  have b1 := ih (evens c) N (by omega) e1 hN (Bd_evens (by omega) h)
  have b2 := ih (odds c) N (by omega) e2 hN (Bd_odds (by omega) h)
  have hp : (1 : Int) ≤ 4 ^ L := Int.pow_pos (show (0 : Int) < 4 by decide)
  have hpN : 1 ≤ (4 : Int) ^ L * N := by have := Int.mul_le_mul_of_nonneg_right hp (show 0 ≤ N by omega); omega
  have := Bd_unite (Sz_pow L (by omega)) (gatherM_length backS pf L _ e1) (gatherM_length backS pf L _ e2) hpN b1 b2
  rw [gatherM]
  rwa [← Int.mul_assoc, Int.mul_comm 4 ((4 : Int) ^ L), ← Int.pow_succ] at this

theorem iGather : ∀ (L : Nat) (c : List Int) (N : Int) (k : Nat), L ≤ 4 → c.length = 2 ^ L → 1 ≤ N → Bd N c → 4 ^ L * N ≤ 200000000000000 → 60 + 30 * L ≤ k → impl_undo_gather.f k impl_samples_1.f impl_part.f c = some (gatherM backS pf L c) := by
 intro L
 induction L with
 | zero =>
  intro c N k _ hc _ _ _ hk
  obtain ⟨k, rfl⟩ : ∃ q, k = q + 1 := ⟨k - 1, by omega⟩
  have hc1 : c.length = 1 := hc
  simp only [impl_undo_gather.f]
  rw [if_pos (by omega), if_pos (by omega), gatherM]
  match c, hc1 with
  | [x], _ => rfl
 | succ L ih =>
  intro c N k hL hc hN h hb hk
  obtain ⟨k, rfl⟩ : ∃ q, k = q + 1 := ⟨k - 1, by omega⟩
  have hp2 := pow4 L (by omega)
  have hpw : (2 : Nat) ^ (L + 1) = 2 * 2 ^ L := by rw [Nat.pow_succ]; omega
  have hp8 : 2 ^ L ≤ 8 := by
   have := Nat.pow_le_pow_right (n := 2) (by omega) (show L ≤ 3 by omega)
   exact this
  rw [hpw] at hc
  have e1 : (evens c).length = 2 ^ L := by rw [evens_length]; omega
  have e2 : (odds c).length = 2 ^ L := by rw [odds_length]; omega
  have hp : (1 : Int) ≤ 4 ^ L := Int.pow_pos (show (0 : Int) < 4 by decide)
  have hpN : 1 ≤ (4 : Int) ^ L * N := by have := Int.mul_le_mul_of_nonneg_right hp (show 0 ≤ N by omega); omega
  have hb' : 4 * ((4 : Int) ^ L * N) ≤ 200000000000000 := by rw [← Int.mul_assoc, Int.mul_comm 4 ((4 : Int) ^ L), ← Int.pow_succ]; exact hb
  have b1 := Bd_gather L (evens c) N (by omega) e1 hN (Bd_evens (by omega) h)
  have b2 := Bd_gather L (odds c) N (by omega) e2 hN (Bd_odds (by omega) h)
  have l1 := gatherM_length backS pf L _ e1
  have l2 := gatherM_length backS pf L _ e2
  have g1 := ih (evens c) N (k - 2 * 2 ^ L - 1) (by omega) e1 hN (Bd_evens (by omega) h) (by omega) (by omega)
  have g2 := ih (odds c) N (k - 2 * 2 ^ L - 1) (by omega) e2 hN (Bd_odds (by omega) h) (by omega) (by omega)
  obtain ⟨e, g3⟩ := iUnite (Sz_pow L (by omega)) l1 l2 (by omega) (by omega) b1 b2 (k - 2 * 2 ^ L - 1) (by omega)
  have g0 := iGather_l0 impl_samples_1.f impl_part.f c (2 ^ L) hc hp8 (2 ^ L) 0 (k - 2 * 2 ^ L - 1) k (by omega) (by omega)
  simp only [impl_undo_gather.f]
  rw [if_neg (by omega)]
  refine Eq.trans g0 ?_
  simp only [g1, g2, g3, bindS]
  rw [gatherM]

theorem pow_top (L : Nat) (hL : L ≤ 4) : (4 : Int) ^ L * 16777216 ≤ 200000000000000 := by
 match L, hL with
 | 0, _ => decide
 | 1, _ => decide
 | 2, _ => decide
 | 3, _ => decide
 | 4, _ => decide
theorem gatherFault_eq (xs : List Int) (k : Nat) (hk : 100 ≤ k) : impl_gatherFault.f k xs = some (if sizeF (xs.length : Int) = 0 then (if allIn (-16777216) 16777216 xs = true then 0 else 3) else 2) := by
 have w1 : impl_allWithin.f xs 16777216 = some (allIn (-16777216) 16777216 xs) := allWithin_eq xs 16777216 (by omega) (by omega)
 have hf : ∀ p q : Int, impl_first.f k [p, q] = some (nz [p, q]) := fun p q => first_eq _ (by simp) k (by simp; omega)
 unfold impl_gatherFault.f impl_isBlock.f
 simp only [impl_SizeFault_eq, bindS, w1, codeIf_eq, hf, nz]
 by_cases h : sizeF (xs.length : Int) = 0
 ·by_cases h1 : allIn (-16777216) 16777216 xs = true <;> simp [h, h1]
 ·by_cases h1 : allIn (-16777216) 16777216 xs = true <;> simp [h, h1]

/-- A synth and a block that are right. -/
structure RightS (m : Nat) (x y c : List Int) : Prop where
 m3 : m = 2 ∨ m = 4 ∨ m = 8
 lx : x.length = m
 ly : y.length = m
 lc : c.length = 2 * m
 bx : Bd 1073741824 x
 by' : Bd 268435456 y
 bc : Bd 16777216 c
def gatherC (c : List Int) : Int := if sizeF (c.length : Int) = 0 then (if allIn (-16777216) 16777216 c = true then 0 else 3) else 2
def playB (m : Nat) (c : List Int) : List Int := gatherM backS pf (lvl (2 * m)) c
def playF (m : Nat) (y c : List Int) : Nat → Int × Int := stB m y ((playB m c).take m)
theorem playB_length {m : Nat} {x y c : List Int} (h : RightS m x y c) : (playB m c).length = 2 * m := by
 unfold playB
 rw [gatherM_length _ _ _ _ (by rw [h.lc]; exact (lvl_m h.m3).1)]; exact (lvl_m h.m3).1.symm
theorem playB_bd {m : Nat} {x y c : List Int} (h : RightS m x y c) : Bd 200000000000000 (playB m c) :=
 (Bd_gather (lvl (2 * m)) c 16777216 (lvl_m h.m3).2 (by rw [h.lc]; exact (lvl_m h.m3).1) (by omega) h.bc).mono (pow_top _ (lvl_m h.m3).2)
theorem impl_play_ok {m : Nat} {x y c : List Int} (h : RightS m x y c) (h1 : faultS ((2 * m : Nat) : Int) x y = 0) (h3 : gatherC c = 0) (k : Nat) (hk : 1000 ≤ k) :
  impl_PlayBlock.f k ((2 * m : Nat) : Int) x y c = some (0, ((2 * m : Nat) : Int), seamB m (playF m y c), (playB m c).drop m, x ++ seamA m (playF m y c)) := by
 have hm8 : m ≤ 8 := by have := h.m3; omega
 have lB := playB_length h
 have lt : ((playB m c).take m).length = m := by rw [List.length_take, lB]; omega
 have ld : ((playB m c).drop m).length = m := by rw [List.length_drop, lB]; omega
 have hst : ∀ i : Nat, i < m → impl_samples_1.f ((2 * m : Nat) : Int) (i : Int) (rd y ((m - 1 - i : Nat) : Int)) (rd ((playB m c).take m) (i : Int)) = some (playF m y c i) := by
  intro i hi
  have a1 := h.by' (m - 1 - i)
  have a2 := Bd_take (by omega) m (playB_bd h) i
  exact samples1_eq (validS h.m3 hi) _ _ (by omega) (by omega)
 have e1 := iSeam hm8 (impl_samples_1.f ((2 * m : Nat) : Int)) (playF m y c) y ((playB m c).take m) h.ly lt hst k (by omega)
 have e2 : impl_undo_gather.f k impl_samples_1.f impl_part.f c = some (playB m c) := iGather (lvl (2 * m)) c 16777216 k (lvl_m h.m3).2 (by rw [h.lc]; exact (lvl_m h.m3).1) (by omega) h.bc (pow_top _ (lvl_m h.m3).2) (by have := (lvl_m h.m3).2; omega)
 obtain ⟨q, hq⟩ : ∃ q, k = q + 1 + 1 + 1 + 1 + 1 + 1 := ⟨k - 6, by omega⟩
 have e3 := concatI_eq x (seamA m (playF m y c)) (by rw [seamA_length]; have := h.lx; omega) q
 rw [← hq] at e3
 have hf : impl_first.f k [0, 0, 0] = some 0 := first_eq [0, 0, 0] (by simp) k (by simp; omega)
 have hg : impl_gatherFault.f k c = some 0 := (gatherFault_eq c k (by omega)).trans (congrArg some h3)
 have hc : ((c.length : Int) != ((2 * m : Nat) : Int)) = false := by rw [h.lc]; simp
 unfold impl_PlayBlock.f
 rw [impl_faultS_eq _ x y k (by omega), h1, bindS, hc, codeIf_eq, bindS, hg, bindS]
 rw [show (if false = true then (2 : Int) else 0) = 0 from rfl, hf, bindS, if_pos rfl, impl_samples.f, bindS, e2, bindS, halfI hm8, if_pos (by omega), if_pos (by omega), Int.toNat_natCast, e1, bindS, cloneI_eq _ (by omega), bindS]
 simp only
 rw [e3, bindS]
theorem pf_mx (a b : Int) : pf (mx a b).1 (mx a b).2 = (a, b) := by
 unfold pf mx
 simp only [Prod.mk.injEq]
 omega
theorem back_forthS (n i : Nat) (a b : Int) : backS n i (forthS n i a b).1 (forthS n i a b).2 = (a, b) := back_forth _ _ _ _
theorem unite_halve {m : Nat} {xs : List Int} (hx : xs.length = 2 * m) : uniteM backS pf (halveS xs) (halveD xs) = xs := by
 have hS : (halveS xs).length = m := by rw [halveS_length]; omega
 have hD0 : (halveD0 xs).length = m := by rw [halveD0_length]; omega
 have et : twist (backS (2 * m)) (m / 2) (halveD xs) = halveD0 xs := by
  unfold halveD
  rw [hx, show 2 * m / 2 / 2 = m / 2 by omega]
  exact twist_inv (by omega) (fun i a b _ => back_forthS _ _ _ _)
 unfold uniteM
 rw [hS, et]
 have r1 : ∀ j, j < m → rd (halveS xs) (j : Int) = (mx (rd xs (j : Int)) (rd xs ((2 * m - 1 - j : Nat) : Int))).1 := fun j hj => by
  unfold halveS; rw [show xs.length / 2 = m by omega, rd_gen _ _ hj]; rfl
 have r2 : ∀ j, j < m → rd (halveD0 xs) (j : Int) = (mx (rd xs (j : Int)) (rd xs ((2 * m - 1 - j : Nat) : Int))).2 := fun j hj => by
  unfold halveD0; rw [show xs.length / 2 = m by omega, rd_gen _ _ hj]; rfl
 refine ext_rd (by rw [outs_length, hS, hx]) (fun j hj => ?_)
 rw [outs_length, hS] at hj
 unfold outs
 rw [hS, rd_gen _ _ hj]
 by_cases h : j < m
 ·rw [if_pos h, r1 j h, r2 j h, pf_mx]
 ·rw [if_neg h, r1 _ (by omega), r2 _ (by omega), pf_mx]
  simp only
  rw [show 2 * m - 1 - (2 * m - 1 - j) = j by omega]
theorem evens_zip (a b : List Int) : evens (zipM a b) = a := by
 refine ext_rd (by rw [evens_length, zipM_length]; omega) (fun j hj => ?_)
 rw [evens_length, zipM_length] at hj
 unfold evens zipM
 rw [gen_length, rd_gen _ _ hj, rd_gen _ _ (by omega), if_pos (by omega), show 2 * j / 2 = j by omega]
theorem odds_zip {a b : List Int} (h : b.length = a.length) : odds (zipM a b) = b := by
 refine ext_rd (by rw [odds_length, zipM_length]; omega) (fun j hj => ?_)
 rw [odds_length, zipM_length] at hj
 unfold odds zipM
 rw [gen_length, rd_gen _ _ hj, rd_gen _ _ (by omega), if_neg (by omega), show (2 * j + 1) / 2 = j by omega]
theorem gather_spread : ∀ (L : Nat) (xs : List Int), xs.length = 2 ^ L → gatherM backS pf L (spreadM L xs) = xs := by
 intro L
 induction L with
 | zero => intro xs _; rfl
 | succ L ih =>
  intro xs h
  rw [Nat.pow_succ] at h
  have l1 : (halveS xs).length = 2 ^ L := by rw [halveS_length]; omega
  have l2 : (halveD xs).length = 2 ^ L := by rw [halveD_length]; omega
  rw [spreadM, gatherM, evens_zip, odds_zip (by rw [spreadM_length L _ l1, spreadM_length L _ l2]), ih _ l1, ih _ l2]
  exact unite_halve (m := 2 ^ L) (by omega)
theorem Bf_halveD {m : Nat} (hm : Sz m) {xs : List Int} (hx : xs.length = 2 * m) {N : Int} (h0 : 12 ≤ N) (h : Bd N xs) : Bd (3 * N) (halveD xs) := by
 unfold halveD
 rw [show xs.length / 2 / 2 = m / 2 by omega, hx]
 exact Bf_forth hm (by rw [halveD0_length]; omega) (N := 2 * N) (by omega) (by omega) (Bd_halveD0 (by omega) h)
theorem Bf_spread : ∀ (L : Nat) (c : List Int) (N : Int), L ≤ 4 → c.length = 2 ^ L → 12 ≤ N → Bd N c → Bd (3 ^ L * N) (spreadM L c) := by
 intro L
 induction L with
 | zero => intro c N _ _ _ h; rw [spreadM]; simpa using h
 | succ L ih =>
  intro c N hL hc hN h
  rw [Nat.pow_succ] at hc
  have l1 : (halveS c).length = 2 ^ L := by rw [halveS_length]; omega
  have l2 : (halveD c).length = 2 ^ L := by rw [halveD_length]; omega
  have b1 : Bd (3 * N) (halveS c) := (Bd_halveS (by omega) h).mono (by omega)
  have b2 : Bd (3 * N) (halveD c) := Bf_halveD (Sz_pow' L (by omega)) (by omega) hN h
  have g1 := ih (halveS c) (3 * N) (by omega) l1 (by omega) b1
  have g2 := ih (halveD c) (3 * N) (by omega) l2 (by omega) b2
  have hp : (1 : Int) ≤ 3 ^ L := Int.pow_pos (show (0 : Int) < 3 by decide)
  have e : (3 : Int) ^ (L + 1) * N = 3 ^ L * (3 * N) := by rw [Int.pow_succ, Int.mul_assoc]
  have hn : (0 : Int) ≤ 3 ^ L * (3 * N) := Int.mul_nonneg (by omega) (by omega)
  rw [spreadM, e]
  unfold zipM
  refine Bd_gen hn (fun j _ => ?_)
  by_cases q : j % 2 = 0
  ·rw [if_pos q]; exact g1 _
  ·rw [if_neg q]; exact g2 _
theorem all_Bd {N M : Int} {xs : List Int} (h : Bd N xs) (hM : N ≤ M) : allIn (-M) M xs = true := by
 rw [allIn_iff]
 intro x hx
 obtain ⟨i, hi, rfl⟩ := List.mem_iff_getElem.1 hx
 have := h i
 rw [rd_get xs i hi] at this
 omega

theorem lwNums_l0 (xs : List Int) (hn : xs.length ≤ 1000000) : ∀ (d i k : Nat), i + d = xs.length → d < k → laws_lwNums.l0 k xs xs (i : Int) = some true := by
 intro d
 induction d with
 | zero =>
  intro i k hi hk
  obtain ⟨k, rfl⟩ : ∃ m, k = m + 1 := ⟨k - 1, by omega⟩
  simp only [laws_lwNums.l0]
  rw [if_neg (by omega)]
 | succ d ih =>
  intro i k hi hk
  obtain ⟨k, rfl⟩ : ∃ m, k = m + 1 := ⟨k - 1, by omega⟩
  simp only [laws_lwNums.l0]
  rw [if_pos (by omega), if_pos (by omega), if_pos (by omega), if_pos trivial, w64_succ _ (by omega)]
  exact ih (i + 1) k (by omega) (by omega)
theorem lwNums_refl (xs : List Int) (hn : xs.length ≤ 1000000) (k : Nat) (hk : xs.length < k) : laws_lwNums.f k xs xs = some true := by
 unfold laws_lwNums.f
 rw [if_pos rfl]
 exact lwNums_l0 xs hn xs.length 0 k (by omega) hk

theorem seam_inv {m : Nat} (y f : List Int) (hy : y.length = m) (hf : f.length = m) :
  seamA m (stB m (seamA m (stF m y f)) (seamB m (stF m y f))) = y ∧ seamB m (stB m (seamA m (stF m y f)) (seamB m (stF m y f))) = f := by
 have hst : ∀ i, i < m → stB m (seamA m (stF m y f)) (seamB m (stF m y f)) i = (rd y ((m - 1 - i : Nat) : Int), rd f (i : Int)) := fun i hi => by
  unfold stB seamA seamB
  rw [rd_gen _ _ (by omega), rd_gen _ _ hi, show m - 1 - (m - 1 - i) = i by omega]
  unfold stF
  exact back_forthS _ _ _ _
 constructor
 ·refine Eq.trans (gen_congr fun j hj => ?_) (gen_rd y hy)
  rw [hst _ (by omega), show m - 1 - (m - 1 - j) = j by omega]
 ·refine Eq.trans (gen_congr fun j hj => ?_) (gen_rd f hf)
  rw [hst j hj]
theorem rot_fine {m i : Nat} (m3 : m = 2 ∨ m = 4 ∨ m = 8) (hi : i < m) {a b : Int} (ha : -32768 ≤ a ∧ a ≤ 32768) (hb : -32768 ≤ b ∧ b ≤ 32768) :
  (-49152 ≤ (forthS (2 * m) i a b).1 ∧ (forthS (2 * m) i a b).1 ≤ 49152) ∧ (-49152 ≤ (forthS (2 * m) i a b).2 ∧ (forthS (2 * m) i a b).2 ≤ 49152) := by
 have := (rot_both (validS m3 hi) (N := 32768) (by omega) ha hb).1
 unfold forthS
 omega
theorem seam_fine {m : Nat} (m3 : m = 2 ∨ m = 4 ∨ m = 8) {y f : List Int} (hy : Bd 32768 y) (hf : Bd 32768 f) : Bd 49152 (seamA m (stF m y f)) ∧ Bd 49152 (seamB m (stF m y f)) :=
 Bd_seam (by omega) fun i hi => rot_fine m3 hi (hy _) (hf _)
def Smp (n : Nat) (xs : List Int) : Prop := xs.length = n ∧ ∀ v ∈ xs, -32768 ≤ v ∧ v ≤ 32767
theorem Smp.all {n : Nat} {xs : List Int} (h : Smp n xs) : allIn (-32768) 32767 xs = true := (allIn_iff _ _ _).2 h.2
theorem Smp.bd {n : Nat} {xs : List Int} (h : Smp n xs) : Bd 32768 xs := sample_Bd h.all
theorem Smp.take {m : Nat} {xs : List Int} (h : Smp (2 * m) xs) : Smp m (xs.take m) := ⟨by rw [List.length_take, h.1]; omega, fun v hv => h.2 v (List.mem_of_mem_take hv)⟩
theorem Smp.drop {m : Nat} {xs : List Int} (h : Smp (2 * m) xs) : Smp m (xs.drop m) := ⟨by rw [List.length_drop, h.1]; omega, fun v hv => h.2 v (List.mem_of_mem_drop hv)⟩
theorem Smp.zero (m : Nat) : Smp m (List.replicate m 0) := ⟨List.length_replicate, fun v hv => by rw [List.eq_of_mem_replicate hv]; omega⟩
theorem sizeM {m : Nat} (m3 : m = 2 ∨ m = 4 ∨ m = 8) : sizeF ((2 * m : Nat) : Int) = 0 := by rcases m3 with rfl | rfl | rfl <;> rfl
theorem faultF_ok {m : Nat} (m3 : m = 2 ∨ m = 4 ∨ m = 8) {x y : List Int} (lx : x.length = m) (bx : Bd 65536 x) (hy : Smp m y) : faultF ((2 * m : Nat) : Int) x y = 0 := by
 unfold faultF
 rw [if_pos (sizeM m3), halfI (by omega), if_pos (by rw [lx]), if_pos (by rw [hy.1]), if_pos (all_Bd bx (Int.le_refl _)), if_pos hy.all]
theorem faultS_ok {m : Nat} (m3 : m = 2 ∨ m = 4 ∨ m = 8) {x y : List Int} (lx : x.length = m) (ly : y.length = m) (bx : Bd 1073741824 x) (by' : Bd 268435456 y) : faultS ((2 * m : Nat) : Int) x y = 0 := by
 unfold faultS
 rw [if_pos (sizeM m3), halfI (by omega), if_pos (by rw [lx]), if_pos (by rw [ly]), if_pos (all_Bd bx (Int.le_refl _)), if_pos (all_Bd by' (Int.le_refl _))]
theorem pow_spread (L : Nat) (hL : L ≤ 4) : (3 : Int) ^ L * 49152 ≤ 16777216 := by
 match L, hL with
 | 0, _ => decide
 | 1, _ => decide
 | 2, _ => decide
 | 3, _ => decide
 | 4, _ => decide
/-- What a lap and a synth that go together hold: 'y' and 'f' are the two halves of which the last seam was made. -/
theorem round {m : Nat} (m3 : m = 2 ∨ m = 4 ∨ m = 8) {y' f' y p F : List Int} (hy' : Smp m y') (hf' : Smp m f') (hy : Smp m y) (hp : Smp m p) (hF : Smp (2 * m) F) (k : Nat) (hk : 1000 ≤ k) :
  ∃ cf, impl_FeedFrame.f k ((2 * m : Nat) : Int) (seamB m (stF m y' f')) y F = some (0, ((2 * m : Nat) : Int), seamB m (stF m y (F.take m)), F.drop m, cf) ∧
   impl_PlayBlock.f k ((2 * m : Nat) : Int) p (seamA m (stF m y' f')) cf = some (0, ((2 * m : Nat) : Int), f', seamA m (stF m y (F.take m)), p ++ y') := by
 have b1 := seam_fine m3 hy'.bd hf'.bd
 have b2 := seam_fine m3 hy.bd hF.take.bd
 have R : Right m (seamB m (stF m y' f')) y F := ⟨m3, seamB_length _ _, hy.1, hF.1, b1.2.mono (by omega), hy.bd, hF.bd⟩
 have hs : sampF ((2 * m : Nat) : Int) F = 0 := by
  unfold sampF
  rw [if_pos (sizeM m3), if_pos (by rw [hF.1]), if_pos hF.all]
 have e1 := impl_feed_ok R (faultF_ok m3 (seamB_length _ _) (b1.2.mono (by omega)) hy) hs k hk
 refine ⟨_, e1, ?_⟩
 have lL := feedL_length R
 have hL := lvl_m m3
 have bL : Bd 49152 (feedL m (seamB m (stF m y' f')) y F) := Bd_append (by omega) b1.2 b2.1
 have lC : (spreadM (lvl (2 * m)) (feedL m (seamB m (stF m y' f')) y F)).length = 2 * m := by
  rw [spreadM_length _ _ (by rw [lL]; exact hL.1)]; exact hL.1.symm
 have bC : Bd 16777216 (spreadM (lvl (2 * m)) (feedL m (seamB m (stF m y' f')) y F)) := (Bf_spread _ _ 49152 hL.2 (by rw [lL]; exact hL.1) (by omega) bL).mono (pow_spread _ hL.2)
 have hB : playB m (spreadM (lvl (2 * m)) (feedL m (seamB m (stF m y' f')) y F)) = feedL m (seamB m (stF m y' f')) y F := gather_spread _ _ (by rw [lL]; exact hL.1)
 have hg : gatherC (spreadM (lvl (2 * m)) (feedL m (seamB m (stF m y' f')) y F)) = 0 := by
  unfold gatherC
  rw [lC, if_pos (sizeM m3), if_pos (all_Bd bC (Int.le_refl _))]
 have S : RightS m p (seamA m (stF m y' f')) (spreadM (lvl (2 * m)) (feedL m (seamB m (stF m y' f')) y F)) := ⟨m3, hp.1, seamA_length _ _, lC, hp.bd.mono (by omega), b1.1.mono (by omega), bC⟩
 have e2 := impl_play_ok S (faultS_ok m3 hp.1 (seamA_length _ _) (hp.bd.mono (by omega)) (b1.1.mono (by omega))) hg k hk
 rw [e2]
 unfold playF
 rw [hB]
 unfold feedL
 rw [show (seamB m (stF m y' f') ++ seamA m (feedF m y F)).take m = seamB m (stF m y' f') from List.take_left' (seamB_length _ _), show (seamB m (stF m y' f') ++ seamA m (feedF m y F)).drop m = seamA m (feedF m y F) from List.drop_left' (seamB_length _ _)]
 obtain ⟨i1, i2⟩ := seam_inv y' f' hy'.1 hf'.1
 rw [i1, i2]
 rfl
theorem laps_l0 {m : Nat} (m3 : m = 2 ∨ m = 4 ∨ m = 8) (st : List S84) (hst : ∀ s ∈ st, Smp (2 * m) s.f0) (hl : st.length ≤ 1000) : ∀ (d i : Nat) (K : Nat) (y' f' y p : List Int) (c1 c2 : Int), i + d = st.length → 1100 + 2 * d ≤ K → Smp m y' → Smp m f' → Smp m y → Smp m p →
  (1 ≤ i → f' = (rd_T84 st ((i - 1 : Nat) : Int)).f0.take m ∧ y = (rd_T84 st ((i - 1 : Nat) : Int)).f0.drop m) → (2 ≤ i → p = (rd_T84 st ((i - 2 : Nat) : Int)).f0.take m ∧ y' = (rd_T84 st ((i - 2 : Nat) : Int)).f0.drop m) →
  laws_FnLaps.l0 K ((2 * m : Nat) : Int) st (i : Int) c1 ((2 * m : Nat) : Int) (seamB m (stF m y' f')) y c2 ((2 * m : Nat) : Int) p (seamA m (stF m y' f')) = some true := by
 intro d
 induction d with
 | zero =>
  intro i K y' f' y p c1 c2 hi hK _ _ _ _ _ _
  obtain ⟨K, rfl⟩ : ∃ q, K = q + 1 := ⟨K - 1, by omega⟩
  rw [laws_FnLaps.l0, if_neg (by omega)]
 | succ d ih =>
  intro i K y' f' y p c1 c2 hi hK hy' hf' hy hp h1 h2
  obtain ⟨K, rfl⟩ : ∃ q, K = q + 1 + 1 := ⟨K - 2, by omega⟩
  have hat : ∀ j : Nat, j < st.length → Smp (2 * m) (rd_T84 st (j : Int)).f0 := fun j hj => by
   unfold rd_T84
   rw [Int.toNat_natCast, List.getD_eq_getElem?_getD, List.getElem?_eq_getElem hj]
   exact hst _ (List.getElem_mem hj)
  have hF := hat i (by omega)
  obtain ⟨cf, e1, e2⟩ := round m3 hy' hf' hy hp hF (K + 1) (by omega)
  have b2 := seam_fine m3 hy.bd hF.take.bd
  have l1 : impl_LapFault.f (K + 1) ((2 * m : Nat) : Int) (seamB m (stF m y ((rd_T84 st (i : Int)).f0.take m))) ((rd_T84 st (i : Int)).f0.drop m) = some 0 := by
   rw [impl_fault_eq _ _ _ _ (by omega), faultF_ok m3 (seamB_length _ _) (b2.2.mono (by omega)) hF.drop]
  have l2 : impl_SynthFault.f (K + 1) ((2 * m : Nat) : Int) f' (seamA m (stF m y ((rd_T84 st (i : Int)).f0.take m))) = some 0 := by
   rw [impl_faultS_eq _ _ _ _ (by omega), faultS_ok m3 hf'.1 (seamA_length _ _) (hf'.bd.mono (by omega)) (b2.1.mono (by omega))]
  have lp : (p ++ y').length = 2 * m := by rw [List.length_append, hp.1, hy'.1]; omega
  have hne : (((p ++ y').length : Int) != ((2 * m : Nat) : Int)) = false := by rw [lp]; simp
  have nx := ih (i + 1) K y ((rd_T84 st (i : Int)).f0.take m) ((rd_T84 st (i : Int)).f0.drop m) f' c1 c2 (by omega) (by omega) hy hF.take hF.drop hf' (fun _ => by rw [show i + 1 - 1 = i by omega]; exact ⟨rfl, rfl⟩) (fun h => by rw [show i + 1 - 2 = i - 1 by omega]; exact h1 (by omega))
  rw [laws_FnLaps.l0, if_pos (by omega), if_pos (by omega), e1, bindS]
  simp only
  rw [e2, bindS]
  simp only
  rw [if_pos trivial, if_pos trivial, l1, bindS, if_pos rfl, l2, bindS, if_pos rfl, hne, laws_FnLaps.j2, if_neg (by decide)]
  by_cases g : 2 ≤ i
  ·obtain ⟨g1, g2⟩ := h2 g
   have ew : wrap64 ((i : Int) - 2) = ((i - 2 : Nat) : Int) := by rw [w64 (by omega) (by omega)]; omega
   have eq : p ++ y' = (rd_T84 st ((i - 2 : Nat) : Int)).f0 := by rw [g1, g2]; exact List.take_append_drop _ _
   rw [if_pos (by omega), ew, if_pos (by omega), if_pos (by omega), eq, lwNums_refl _ (by rw [(hat (i - 2) (by omega)).1]; omega) K (by rw [(hat (i - 2) (by omega)).1]; omega), bindS, if_pos rfl, w64_succ _ (by omega)]
   exact nx
  ·rw [if_neg (by omega), w64_succ _ (by omega)]
   exact nx
theorem clamp_ok (a : Int) : ∃ v, spec_Clamp16.f a = some v ∧ -32768 ≤ v ∧ v ≤ 32767 := by
 unfold spec_Clamp16.f
 by_cases h : a < -32768
 ·rw [if_pos h]; exact ⟨_, rfl, by omega⟩
 ·rw [if_neg h]
  by_cases g : a > 32767
  ·rw [if_pos g]; exact ⟨_, rfl, by omega⟩
  ·rw [if_neg g]; exact ⟨_, rfl, by omega⟩
theorem samples_l0 {c : List Int} (hc : Bytes c) (n : Nat) (hn : n ≤ 100) (x6 x7 x8 : Int) : ∀ (d i : Nat) (ys : List Int) (q : Int) (K : Nat), i + d = n → d < K → Smp i ys → 0 ≤ q → q + d ≤ 1073741000 →
  ∃ zs q', spec_l1Samples.l0 K (n : Int) ys x6 x7 x8 (i : Int) c q = some (zs, q') ∧ Smp n zs ∧ 0 ≤ q' ∧ q' ≤ q + d := by
 intro d
 induction d with
 | zero =>
  intro i ys q K hi hK hs h0 h1
  obtain ⟨K, rfl⟩ : ∃ k, K = k + 1 := ⟨K - 1, by omega⟩
  rw [spec_l1Samples.l0, if_neg (by omega)]
  obtain rfl : i = n := by omega
  exact ⟨_, _, rfl, hs, h0, by omega⟩
 | succ d ih =>
  intro i ys q K hi hK hs h0 h1
  obtain ⟨K, rfl⟩ : ∃ k, K = k + 1 := ⟨K - 1, by omega⟩
  have push : ∀ (v q2 : Int), (-32768 ≤ v ∧ v ≤ 32767) → 0 ≤ q2 → q2 ≤ q + 1 → ∃ zs q', spec_l1Samples.l0 K (n : Int) (ys ++ [v]) x6 x7 x8 (wrap64 ((i : Int) + 1)) c q2 = some (zs, q') ∧ Smp n zs ∧ 0 ≤ q' ∧ q' ≤ q + (d + 1 : Nat) := fun v q2 hv a1 a2 => by
   rw [w64_succ _ (by omega)]
   obtain ⟨zs, q', e, s, b1, b2⟩ := ih (i + 1) (ys ++ [v]) q2 K (by omega) (by omega) ⟨by rw [List.length_append, hs.1]; rfl, fun w hw => by
    rcases List.mem_append.1 hw with hw | hw
    ·exact hs.2 w hw
    ·rw [List.mem_singleton] at hw; rw [hw]; exact hv⟩ a1 (by omega)
   exact ⟨zs, q', e, s, b1, by omega⟩
  have hly : ys.length < 17592186044416 := by rw [hs.1]; omega
  rw [spec_l1Samples.l0, if_pos (by omega)]
  by_cases g0 : x8 = 0
  ·obtain ⟨v, ev, hv⟩ := clamp_ok 0
   rw [if_pos g0, ev, bindS, if_pos hly]
   exact push v q hv h0 (by omega)
  ·rw [if_neg g0]
   by_cases g1 : x8 = 1
   ·obtain ⟨a, ea, _⟩ := l1Signed_ok hc q 32767 h0 (by omega) (by omega) (by omega)
    obtain ⟨v, ev, hv⟩ := clamp_ok a
    rw [if_pos g1, ea, bindS]
    simp only
    rw [ev, bindS, if_pos hly]
    exact push v (q + 1) hv (by omega) (by omega)
   ·rw [if_neg g1]
    by_cases g2 : x8 = 2
    ·obtain ⟨a, ea, _⟩ := l1Pick_ok hc q [32767, (-32768), 0] h0 (by omega) (by simp)
     obtain ⟨v, ev, hv⟩ := clamp_ok a
     rw [if_pos g2, ea, bindS]
     simp only
     rw [ev, bindS, if_pos hly]
     exact push v (q + 1) hv (by omega) (by omega)
    ·rw [if_neg g2]
     by_cases g3 : x8 = 3
     ·obtain ⟨a, ea, _⟩ := l1Signed_ok hc q 20 h0 (by omega) (by omega) (by omega)
      obtain ⟨v, ev, hv⟩ := clamp_ok (wrap64 ((wrap64 (x6 + (wrap64 (x7 * (i : Int))))) + a))
      rw [if_pos g3, ea, bindS]
      simp only
      rw [ev, bindS, if_pos hly]
      exact push v (q + 1) hv (by omega) (by omega)
     ·obtain ⟨v, ev, hv⟩ := clamp_ok (wrap64 (x6 + (wrap64 (x7 * (i : Int)))))
      rw [if_neg g3, ev, bindS, if_pos hly]
      exact push v q hv h0 (by omega)
theorem samples_ok {c : List Int} (hc : Bytes c) (n : Nat) (hn : n ≤ 100) (q : Int) (h0 : 0 ≤ q) (h1 : q ≤ 1073000000) (K : Nat) (hK : 200 ≤ K) :
  ∃ zs q', spec_l1Samples.f K c q (n : Int) = some (zs, q') ∧ Smp n zs ∧ 0 ≤ q' ∧ q' ≤ q + 200 := by
 unfold spec_l1Samples.f
 obtain ⟨v1, e1, _⟩ := l1Signed_ok hc q 20000 h0 (by omega) (by omega) (by omega)
 obtain ⟨v2, e2, _⟩ := l1Pick_ok hc (q + 1) [0, 1, 50, 700, (-300)] (by omega) (by omega) (by simp)
 obtain ⟨v3, e3, _⟩ := l1Next_ok hc (q + 1 + 1) 5 (by omega) (by omega)
 simp only [e1, e2, e3, bindS]
 obtain ⟨zs, q', e, s, b1, b2⟩ := samples_l0 hc n hn v1 v2 v3 n 0 [] (q + 1 + 1 + 1) K (by omega) (by omega) ⟨rfl, fun v hv => by cases hv⟩ (by omega) (by omega)
 exact ⟨zs, q', e, s, b1, by omega⟩
theorem fate_j0 {c : List Int} (hc : Bytes c) (x : Int) (t : Bool) (q : Int) (h0 : 0 ≤ q) (h1 : q ≤ 1073000000) (K : Nat) : ∃ a b d e q', spec_l20Fate.j0 (K + 1) x t c q = some (a, b, d, e, q') ∧ 0 ≤ q' ∧ q' ≤ q + 10 := by
 rw [spec_l20Fate.j0]
 by_cases g : t = true
 ·rw [if_pos g]; exact ⟨_, _, _, _, _, rfl, h0, by omega⟩
 ·rw [if_neg g]
  by_cases g2 : x = 2
  ·obtain ⟨v1, e1, _⟩ := l1Next_ok hc q 7 h0 (by omega)
   rw [if_pos g2, e1, bindS]; exact ⟨_, _, _, _, _, rfl, by simp only; omega, by simp only; omega⟩
  ·rw [if_neg g2]
   by_cases g3 : x = 3
   ·obtain ⟨v1, e1, _⟩ := l1Next_ok hc q 3 h0 (by omega)
    obtain ⟨v2, e2, _⟩ := l1Next_ok hc (q + 1) 90 (by omega) (by omega)
    obtain ⟨v3, e3, _⟩ := l1Next_ok hc (q + 1 + 1) 300 (by omega) (by omega)
    obtain ⟨v4, e4, _⟩ := l1Pick_ok hc (q + 1 + 1 + 1) [v2, v3, 0] (by omega) (by omega) (by simp)
    obtain ⟨v5, e5, _⟩ := l1Next_ok hc (q + 1 + 1 + 1 + 1) 65535 (by omega) (by omega)
    obtain ⟨v6, e6, _⟩ := l1Pick_ok hc (q + 1 + 1 + 1 + 1 + 1) [1, 3, 65535, wrap64 (1 + v5)] (by omega) (by omega) (by simp)
    rw [if_pos g3]
    simp only [e1, e2, e3, e4, e5, e6, bindS]
    exact ⟨_, _, _, _, _, rfl, by omega, by omega⟩
   ·obtain ⟨v1, e1, _⟩ := l1Next_ok hc q 7 h0 (by omega)
    rw [if_neg g3, e1, bindS]; exact ⟨_, _, _, _, _, rfl, by simp only; omega, by simp only; omega⟩
theorem fate_ok {c : List Int} (hc : Bytes c) (n : Int) (q : Int) (h0 : 0 ≤ q) (h1 : q ≤ 1072000000) (K : Nat) : ∃ a b d e q', spec_l20Fate.f (K + 1) c q n = some (a, b, d, e, q') ∧ 0 ≤ q' ∧ q' ≤ q + 20 := by
 unfold spec_l20Fate.f
 obtain ⟨v1, e1, _⟩ := l1Next_ok hc q 10 h0 (by omega)
 rw [e1, bindS]
 simp only
 by_cases g : v1 < n
 ·obtain ⟨v2, e2, _⟩ := l1Pick_ok hc (q + 1) [0, 0, 0, 1] (by omega) (by omega) (by simp)
  rw [if_pos g, e2, bindS]; exact ⟨_, _, _, _, _, rfl, by simp only; omega, by simp only; omega⟩
 ·obtain ⟨v2, e2, _⟩ := l1Next_ok hc (q + 1) 5 (by omega) (by omega)
  rw [if_neg g, e2, bindS]
  simp only
  by_cases g2 : v2 = 0
  ·rw [if_pos g2]
   obtain ⟨a, b, d, e, q', h, b1, b2⟩ := fate_j0 hc v2 (v2 == 0) (q + 1 + 1) (by omega) (by omega) K
   exact ⟨a, b, d, e, q', h, b1, by omega⟩
  ·rw [if_neg g2]
   obtain ⟨a, b, d, e, q', h, b1, b2⟩ := fate_j0 hc v2 (v2 == 1) (q + 1 + 1) (by omega) (by omega) K
   exact ⟨a, b, d, e, q', h, b1, by omega⟩
theorem back_ok {c : List Int} (hc : Bytes c) (q : Int) (h0 : 0 ≤ q) (h1 : q ≤ 1072000000) : ∃ a b d e q', spec_l20Back.f c q = some (a, b, d, e, q') ∧ 0 ≤ q' ∧ q' ≤ q + 20 := by
 unfold spec_l20Back.f spec_l1Chance.f
 obtain ⟨v1, e1, _⟩ := l1Next_ok hc q 4 h0 (by omega)
 simp only [e1, bindS]
 by_cases g : (v1 == 0) = true
 ·rw [if_pos g]; exact ⟨_, _, _, _, _, rfl, by omega, by omega⟩
 ·obtain ⟨v2, e2, _⟩ := l1Pick_ok hc (q + 1) [0, 0, 1, 3] (by omega) (by omega) (by simp)
  rw [if_neg g]
  simp only [e2, bindS]
  exact ⟨_, _, _, _, _, rfl, by omega, by omega⟩
theorem steps_l0 {c : List Int} (hc : Bytes c) (n : Nat) (hn : n ≤ 100) (x3 : Int) : ∀ (d : Nat) (st : List S84) (q : Int) (K : Nat), d + 300 < K → st.length + d ≤ 1000 → (∀ s ∈ st, Smp n s.f0) → 0 ≤ q → q + 300 * d ≤ 1000000000 →
  ∃ zs q', spec_l20Steps.l0 K (n : Int) (d : Int) x3 st c q = some (zs, q') ∧ zs.length = st.length + d ∧ (∀ s ∈ zs, Smp n s.f0) := by
 intro d
 induction d with
 | zero =>
  intro st q K hK hl hs h0 h1
  obtain ⟨K, rfl⟩ : ∃ k, K = k + 1 := ⟨K - 1, by omega⟩
  rw [spec_l20Steps.l0, if_neg (by omega)]
  exact ⟨_, _, rfl, rfl, hs⟩
 | succ d ih =>
  intro st q K hK hl hs h0 h1
  obtain ⟨K, rfl⟩ : ∃ k, K = k + 1 + 1 := ⟨K - 2, by omega⟩
  obtain ⟨zs, q1, e1, s1, b1, b2⟩ := samples_ok hc n hn q h0 (by omega) (K + 1) (by omega)
  obtain ⟨a1, a2, a3, a4, q2, e2, b3, b4⟩ := fate_ok hc x3 q1 b1 (by omega) K
  obtain ⟨c1, c2, c3, c4, q3, e3, b5, b6⟩ := fate_ok hc x3 q2 b3 (by omega) K
  obtain ⟨d1, d2, d3, d4, q4, e4, b7, b8⟩ := back_ok hc q3 b5 (by omega)
  have es : spec_l20Step.f (K + 1) c q (n : Int) x3 = some (zs, a1, a2, a3, a4, c1, c2, c3, c4, d1, d2, d3, d4, q4) := by
   unfold spec_l20Step.f
   simp only [e1, e2, e3, e4, bindS]
  obtain ⟨ws, q', e, l, s⟩ := ih (st ++ [(⟨zs, (⟨a1, a2, a3, a4⟩ : S82), (⟨c1, c2, c3, c4⟩ : S82), (⟨d1, d2, d3, d4⟩ : S82)⟩ : S84)]) q4 (K + 1) (by omega) (by rw [List.length_append, List.length_singleton]; omega) (fun w hw => by
   rcases List.mem_append.1 hw with hw | hw
   ·exact hs w hw
   ·rw [List.mem_singleton] at hw; rw [hw]; exact s1) b7 (by omega)
  refine ⟨ws, q', ?_, by rw [l, List.length_append, List.length_singleton]; omega, s⟩
  rw [spec_l20Steps.l0, if_pos (by omega), es, bindS]
  simp only
  rw [if_pos (by omega), w64 (by omega) (by omega), show ((d + 1 : Nat) : Int) - 1 = (d : Int) by omega]
  exact e
theorem zeros_ok (n : Nat) (hn : n ≤ 1000) : spec_l1Zeros.f (n : Int) = some (List.replicate n 0) := by
 unfold spec_l1Zeros.f
 rw [if_pos (by omega), Int.toNat_natCast, if_pos (by omega)]
theorem story_l0 (st : List S84) (c : List Int) (q : Int) (hl : st.length ≤ 100000) (y0 y1 y2 y3 y4 : Int) (y5 y6 : List Int) (y7 : Bool) (y8 y9 : Int) (y10 : List Int) (y11 : Bool) (y12 y13 : Int) (y14 : List Int) (y15 y16 y17 y18 : Int) (y19 : List S183) (y20 : Bool) (y21 y22 : Int) (y23 : List Int) (y24 : Bool) (y25 y26 : Int) (y27 : List Int) (y28 : Int) (y29 y30 y31 : List Int) (y32 y33 : Int) (y34 : List Int) (y35 y36 : Int) (y37 : List S186) (y38 : List S190) :
  ∀ (d i K : Nat), i + d = st.length → d < K → spec_DrawStory.l0 K 0 st (st.length : Int) (i : Int) c q y0 y1 y2 y3 y4 y5 y6 y7 y8 y9 y10 y11 y12 y13 y14 y15 y16 y17 y18 y19 y20 y21 y22 y23 y24 y25 y26 y27 y28 y29 y30 y31 y32 y33 y34 y35 y36 y37 y38 = some (y0, y1, y2, y36, st) := by
 intro d
 induction d with
 | zero =>
  intro i K hi hK
  obtain ⟨K, rfl⟩ : ∃ k, K = k + 1 := ⟨K - 1, by omega⟩
  rw [spec_DrawStory.l0, if_neg (by omega)]
 | succ d ih =>
  intro i K hi hK
  obtain ⟨K, rfl⟩ : ∃ k, K = k + 1 := ⟨K - 1, by omega⟩
  rw [spec_DrawStory.l0, if_pos (by omega), if_neg (by decide), w64_succ _ (by omega)]
  exact ih (i + 1) K (by omega) (by omega)
theorem story_ok {c : List Int} (hc : Bytes c) (K : Nat) (hK : 1000 ≤ K) : ∃ (m : Nat) (a b d : Int) (st : List S84), (m = 2 ∨ m = 4 ∨ m = 8) ∧ spec_DrawStory.f K c 0 = some (((2 * m : Nat) : Int), a, b, d, st) ∧ st.length ≤ 100 ∧ ∀ s ∈ st, Smp (2 * m) s.f0 := by
 unfold spec_DrawStory.f spec_l1Source.f
 rw [bindS]
 obtain ⟨s, e1, m1⟩ : ∃ s, spec_l1Size.f c 0 = some (s, 1) ∧ (s = 4 ∨ s = 8 ∨ s = 16) := by
  unfold spec_l1Size.f
  obtain ⟨s, e1, m1⟩ := l1Pick_ok hc 0 [4, 8, 16, 8] (by omega) (by omega) (by simp)
  rw [e1, bindS]
  simp only [List.mem_cons, List.not_mem_nil, or_false] at m1
  exact ⟨s, rfl, by omega⟩
 obtain ⟨m, m3, rfl⟩ : ∃ m : Nat, (m = 2 ∨ m = 4 ∨ m = 8) ∧ s = ((2 * m : Nat) : Int) := by
  rcases m1 with rfl | rfl | rfl
  ·exact ⟨2, by omega, rfl⟩
  ·exact ⟨4, by omega, rfl⟩
  ·exact ⟨8, by omega, rfl⟩
 obtain ⟨v2, e2, _⟩ := l1Pick_ok hc 1 [24, 30, 40, 160] (by omega) (by omega) (by simp)
 obtain ⟨v3, e3, _⟩ := l1Pick_ok hc (1 + 1) [1, 2, 3, 5, 50] (by omega) (by omega) (by simp)
 obtain ⟨v4, e4, _⟩ := l1Pick_ok hc (1 + 1 + 1) [0, 1, 1, 2, 6] (by omega) (by omega) (by simp)
 obtain ⟨v5, e5, m5⟩ := l1Pick_ok hc (1 + 1 + 1 + 1) [3, 6, 9, 12, 16] (by omega) (by omega) (by simp)
 obtain ⟨v6, e6, m6⟩ := l1Pick_ok hc (1 + 1 + 1 + 1 + 1) [4, 7, 9, 10] (by omega) (by omega) (by simp)
 simp only [List.mem_cons, List.not_mem_nil, or_false] at m5
 have z1 := zeros_ok m (by omega)
 have z2 := zeros_ok (2 * m) (by omega)
 have hh : wrap64 (Int.tdiv ((2 * m : Nat) : Int) 2) = (m : Int) := halfI (by omega)
 obtain ⟨st, q', es, ls, hs⟩ := steps_l0 hc (2 * m) (by omega) v6 v5.toNat [] (1 + 1 + 1 + 1 + 1 + 1) K (by omega) (by simp; omega) (fun s hs => by cases hs) (by omega) (by omega)
 rw [Int.toNat_of_nonneg (by omega)] at es
 refine ⟨m, ?_⟩
 unfold spec_l20Start.f spec_l20New.f spec_l17New.f spec_l18New.f spec_l7New.f spec_l7NewSynth.f spec_l20Steps.f
 simp only [e1, e2, e3, e4, e5, e6, hh, z1, z2, es, bindS]
 rw [show (0 : Int) = ((0 : Nat) : Int) from rfl]
 exact ⟨_, _, _, st, m3, story_l0 st c q' (by rw [ls]; simp; omega) _ _ _ _ _ _ _ _ _ _ _ _ _ _ _ _ _ _ _ _ _ _ _ _ _ _ _ _ _ _ _ _ _ _ _ _ _ _ _ st.length 0 K (by omega) (by rw [ls]; simp; omega), by rw [ls]; simp; omega, hs⟩
theorem newL_ok {m : Nat} (m3 : m = 2 ∨ m = 4 ∨ m = 8) : impl_NewLap.f ((2 * m : Nat) : Int) = some (0, ((2 * m : Nat) : Int), List.replicate m 0, List.replicate m 0) := by
 unfold impl_NewLap.f
 rw [impl_SizeFault_eq, sizeM m3, bindS, if_pos rfl, halfI (by omega), if_pos (by omega), Int.toNat_natCast, if_pos (by omega)]
theorem newS_ok {m : Nat} (m3 : m = 2 ∨ m = 4 ∨ m = 8) : impl_NewSynth.f ((2 * m : Nat) : Int) = some (0, ((2 * m : Nat) : Int), List.replicate m 0, List.replicate m 0) := by
 unfold impl_NewSynth.f
 rw [impl_SizeFault_eq, sizeM m3, bindS, if_pos rfl, halfI (by omega), if_pos (by omega), Int.toNat_natCast, if_pos (by omega)]
theorem seam_zero {m : Nat} : seamA m (stF m (List.replicate m 0) (List.replicate m 0)) = List.replicate m 0 ∧ seamB m (stF m (List.replicate m 0) (List.replicate m 0)) = List.replicate m 0 := by
 have hr : ∀ j : Nat, rd (List.replicate m 0) (j : Int) = 0 := fun j => by
  by_cases h : j < m
  ·rw [rd_get _ j (by rw [List.length_replicate]; exact h), List.getElem_replicate]
  ·rw [rd_out _ (by rw [List.length_replicate]; omega)]
 have hz : ∀ i, stF m (List.replicate m 0) (List.replicate m 0) i = (0, 0) := fun i => by
  unfold stF
  rw [hr, hr]
  unfold forthS forth tn
  simp
 constructor
 ·unfold seamA
  rw [zeros_gen]
  exact gen_congr fun j _ => by rw [← zeros_gen, hz]
 ·unfold seamB
  rw [zeros_gen]
  exact gen_congr fun j _ => by rw [← zeros_gen, hz]
theorem FnLaps : laws_FnLaps.Pure := by
 intro l0 h1 h2 h3
 have hc : Bytes l0 := fun x hx => u8_of_wf (h3 x hx)
 obtain ⟨K, hK⟩ : ∃ K, K = 5000 := ⟨_, rfl⟩
 obtain ⟨m, a, b, d, st, m3, hd, ls, hs⟩ := story_ok hc (K + 1) (by omega)
 refine ⟨K + 1, ?_⟩
 unfold laws_FnLaps.f laws_lwBig.f
 rw [bindS]
 split
 ·rfl
 have z := Smp.zero m
 have f1 : impl_LapFault.f (K + 1) ((2 * m : Nat) : Int) (List.replicate m 0) (List.replicate m 0) = some 0 := by
  rw [impl_fault_eq _ _ _ _ (by omega), faultF_ok m3 z.1 (z.bd.mono (by omega)) z]
 have f2 : impl_SynthFault.f (K + 1) ((2 * m : Nat) : Int) (List.replicate m 0) (List.replicate m 0) = some 0 := by
  rw [impl_faultS_eq _ _ _ _ (by omega), faultS_ok m3 z.1 z.1 (z.bd.mono (by omega)) (z.bd.mono (by omega))]
 have hl := laps_l0 m3 st hs (by omega) st.length 0 K (List.replicate m 0) (List.replicate m 0) (List.replicate m 0) (List.replicate m 0) 0 0 (by omega) (by omega) z z z z (fun h => by omega) (fun h => by omega)
 rw [seam_zero.1, seam_zero.2] at hl
 rw [hd, bindS]
 simp only
 rw [newL_ok m3, bindS, newS_ok m3, bindS]
 simp only
 rw [if_pos trivial, if_pos trivial, f1, bindS, if_pos rfl, f2, bindS, show ((0 : Int) != 0) = false from rfl, laws_FnLaps.j0, if_neg (by decide)]
 exact hl

end Go.Proofs.Ytmhnpogjkbmmnaa.Pure
