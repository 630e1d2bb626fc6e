/- What the waves' small functions compute on lists: up and down, rows of different numbers. -/
import Derived.Test.YtmigibamdeodpaaPrintx9
import Derived.Test.YtmigibamdeodpaaPrintx10
import Derived.Test.YtmigibamdeodpaaAlive
import Derived.Test.YtmigibamdeodpaaMask
namespace Go.Proofs.Ytmigibamdeodpaa.Pure
open Go.RowKit Go.Proofs.Ytmigibamdeodpaa.Print Go.Proofs.YtmigibamdeodpaaW.PrintWords Go.Proofs.YtmigibamdeodpaaW.PrintLast Go.Proofs.YtmigibamdeodpaaW.PrintMore
theorem w64 {z : Int} (h1 : -9223372036854775808 ≤ z) (h2 : z ≤ 9223372036854775807) : wrap64 z = z := by
  unfold wrap64
  omega
theorem rdn (l : List Int) (i : Nat) : rd l (i : Int) = l.getD i 0 := by
  unfold rd
  rw [Int.toNat_natCast]
theorem succK {n k : Nat} (h : n < k) : ∃ k', k = k' + 1 ∧ n ≤ k' := ⟨k - 1, by omega, by omega⟩
def allFrom (p : Nat → Bool) (i : Nat) : Nat → Bool
  | 0 => true
  | n + 1 => p i && allFrom p (i + 1) n
theorem allFrom_iff (p : Nat → Bool) : ∀ n i, allFrom p i n = true ↔ ∀ j, i ≤ j → j < i + n → p j = true
  | 0, i => by
    refine ⟨fun _ j h1 h2 => by omega, fun _ => rfl⟩
  | n + 1, i => by
    simp only [allFrom, Bool.and_eq_true, allFrom_iff p n (i + 1)]
    constructor
    · rintro ⟨h0, h⟩ j h1 h2
      rcases Nat.eq_or_lt_of_le h1 with rfl | h3
      · exact h0
      · exact h j h3 (by omega)
    · intro h
      exact ⟨h i (Nat.le_refl _) (by omega), fun j h1 h2 => h j (by omega) (by omega)⟩
theorem tmod2 (i : Nat) : ((Int.tmod (i : Int) 2) == 1) = (i % 2 == 1) := by
  have h : Int.tmod (i : Int) 2 = ((i % 2 : Nat) : Int) := by rw [Int.tmod_eq_emod_of_nonneg (by omega)]; omega
  rw [h]
  rcases Nat.mod_two_eq_zero_or_one i with e | e <;> rw [e] <;> rfl
/-! ### up -/
def stepUp (l : List Int) (j : Nat) : Bool := decide (l.getD (j - 1) 0 < l.getD j 0) == (j % 2 == 1)
def upB (l : List Int) : Bool := allFrom (stepUp l) 1 (l.length - 1)
theorem up_l0 (l : List Int) (hl : l.length ≤ 60) : ∀ n k (i : Nat), 1 ≤ i → (n = 0 → l.length ≤ i) → (0 < n → i + n = l.length) → n < k → i ≤ 61 → waves_up.l0 k l i = some (allFrom (stepUp l) i n)
  | 0, k, i, h1, h0, _, hk, hi => by
    obtain ⟨k, rfl, _⟩ := succK hk
    simp only [waves_up.l0]
    rw [if_neg (by have := h0 rfl; omega)]
    rfl
  | n + 1, k, i, h1, _, h2, hk, hi => by
    obtain ⟨k, rfl, hk'⟩ := succK hk
    have h2 := h2 (by omega)
    have e1 : wrap64 ((i : Int) - 1) = ((i - 1 : Nat) : Int) := by rw [w64 (by omega) (by omega)]; omega
    have e2 : wrap64 ((i : Int) + 1) = ((i + 1 : Nat) : Int) := by rw [w64 (by omega) (by omega)]; omega
    simp only [waves_up.l0]
    rw [if_pos (by omega), e1, e2, if_pos (by omega), if_pos (by omega), if_pos (by omega), rdn, rdn, tmod2]
    have ih := up_l0 l hl n k (i + 1) (by omega) (by omega) (by omega) (by omega) (by omega)
    rw [ih]
    simp only [allFrom, stepUp]
    cases h : (decide (l.getD (i - 1) 0 < l.getD i 0) == (i % 2 == 1))
    · rw [if_pos (by simp only [bne, h, Bool.not_false])]
      rfl
    · rw [if_neg (by simp only [bne, h]; decide)]
      rfl
theorem up_f (l : List Int) (hl : l.length ≤ 60) (k : Nat) (hk : l.length < k) : waves_up.f k l = some (upB l) := by
  unfold waves_up.f upB
  exact up_l0 l hl (l.length - 1) k 1 (by omega) (by omega) (by omega) (by omega) (by omega)
theorem upB_iff (l : List Int) : upB l = true ↔ ∀ j, 1 ≤ j → j < l.length → (l.getD (j - 1) 0 < l.getD j 0 ↔ j % 2 = 1) := by
  unfold upB
  rw [allFrom_iff]
  constructor
  · intro h j h1 h2
    have := h j h1 (by omega)
    unfold stepUp at this
    rw [beq_iff_eq] at this
    have h3 := congrArg (· = true) this
    simpa using h3
  · intro h j h1 h2
    have := h j h1 (by omega)
    unfold stepUp
    rw [beq_iff_eq]
    cases hb : (j % 2 == 1)
    · have : ¬ j % 2 = 1 := by simpa using hb
      simp_all
    · have : j % 2 = 1 := by simpa using hb
      simp_all
/-! ### a row: its numbers are different and in range -/
def Masks (l : List Int) (i m : Nat) : Prop := m < 2048 ∧ ∀ y, y < 11 → (Nat.testBit m y = true ↔ (y : Int) ∈ l.take i)
theorem Masks.step {l : List Int} {i m x : Nat} (h : Masks l i m) (hx : x < 11) (hi : i < l.length) (e : l.getD i 0 = (x : Int)) : Masks l (i + 1) (m ||| 2 ^ x) := by
  refine ⟨(mask m x h.1 hx).2.2.2.2, fun y hy => ?_⟩
  have e2 : l.take (i + 1) = l.take i ++ [(x : Int)] := by
    rw [List.take_add_one, List.getElem?_eq_getElem hi]
    have : l[i] = (x : Int) := by rw [← e]; simp [List.getD_eq_getElem?_getD, List.getElem?_eq_getElem hi]
    rw [this]
    rfl
  rw [e2, List.mem_append, List.mem_singleton, Nat.testBit_or, Bool.or_eq_true, h.2 y hy, Nat.testBit_two_pow, decide_eq_true_eq]
  constructor
  · rintro (h | h)
    · exact .inl h
    · exact .inr (by omega)
  · rintro (h | h)
    · exact .inl h
    · exact .inr (by omega)
def rowFrom (l : List Int) (i : Nat) : Nat → Int
  | 0 => 0
  | n + 1 => if l.getD i 0 < 1 then 2 else if l.getD i 0 > (l.length : Int) then 2 else if l.getD i 0 ∈ l.take i then 2 else rowFrom l (i + 1) n
def rowS (l : List Int) : Int := if (l.length : Int) > 10 then 3 else rowFrom l 0 l.length
theorem read_l0 (l : List Int) (hl : l.length ≤ 10) : ∀ n k (i m : Nat), i + n = l.length → n < k → Masks l i m → waves_read.l0 k l m l l.length i = some (rowFrom l i n)
  | 0, k, i, m, h, hk, _ => by
    obtain ⟨k, rfl, _⟩ := succK hk
    simp only [waves_read.l0]
    rw [if_neg (by omega)]
    rfl
  | n + 1, k, i, m, h, hk, hm => by
    obtain ⟨k, rfl, hk'⟩ := succK hk
    have e2 : wrap64 ((i : Int) + 1) = ((i + 1 : Nat) : Int) := by rw [w64 (by omega) (by omega)]; omega
    simp only [waves_read.l0, rowFrom]
    rw [if_pos (by omega), if_pos (by omega), if_pos (by omega), rdn, e2]
    by_cases h1 : l.getD i 0 < 1
    · rw [if_pos h1, if_pos h1]
    rw [if_neg h1, if_neg h1]
    by_cases h2 : l.getD i 0 > (l.length : Int)
    · rw [if_pos h2, if_pos h2]
    rw [if_neg h2, if_neg h2, if_pos (by omega)]
    obtain ⟨x, hx⟩ := Int.eq_ofNat_of_zero_le (show 0 ≤ l.getD i 0 by omega)
    have hx11 : x < 11 := by omega
    have hh := mask m x hm.1 hx11
    rw [hx]
    by_cases h3 : (x : Int) ∈ l.take i
    · rw [if_pos (hh.1.2 ((hm.2 x hx11).2 h3)), if_pos h3]
    · rw [if_neg (fun c => h3 ((hm.2 x hx11).1 (hh.1.1 c))), if_neg h3, hh.2.1]
      exact read_l0 l hl n k (i + 1) _ (by omega) (by omega) (hm.step hx11 (by omega) hx)
theorem masks0 (l : List Int) : Masks l 0 0 := ⟨by decide, fun y _ => by simp⟩
theorem read_f (l : List Int) (k : Nat) (hk : 11 ≤ k) : waves_read.f k l = some (rowS l) := by
  unfold waves_read.f rowS
  by_cases h : (l.length : Int) > 10
  · rw [if_pos h, if_pos h]
  · rw [if_neg h, if_neg h]
    exact read_l0 l (by omega) l.length k 0 0 (by omega) (by omega) (masks0 l)
theorem Row_l0 (l : List Int) (hl : l.length ≤ 10) : ∀ n k (i m : Nat), i + n = l.length → n < k → Masks l i m → clocheref05_Row.l0 k l m i = some (rowFrom l i n)
  | 0, k, i, m, h, hk, _ => by
    obtain ⟨k, rfl, _⟩ := succK hk
    simp only [clocheref05_Row.l0]
    rw [if_neg (by omega)]
    rfl
  | n + 1, k, i, m, h, hk, hm => by
    obtain ⟨k, rfl, hk'⟩ := succK hk
    have e2 : wrap64 ((i : Int) + 1) = ((i + 1 : Nat) : Int) := by rw [w64 (by omega) (by omega)]; omega
    simp only [clocheref05_Row.l0, rowFrom]
    rw [if_pos (by omega), if_pos (by omega), rdn, e2]
    by_cases h1 : l.getD i 0 < 1
    · rw [if_pos h1, if_pos h1]
    rw [if_neg h1, if_neg h1]
    by_cases h2 : l.getD i 0 > (l.length : Int)
    · rw [if_pos h2, if_pos h2]
    rw [if_neg h2, if_neg h2, if_pos (by omega)]
    obtain ⟨x, hx⟩ := Int.eq_ofNat_of_zero_le (show 0 ≤ l.getD i 0 by omega)
    have hx11 : x < 11 := by omega
    have hh := mask m x hm.1 hx11
    rw [hx]
    by_cases h3 : (x : Int) ∈ l.take i
    · rw [if_pos (hh.2.2.1.2 ((hm.2 x hx11).2 h3)), if_pos h3]
    · have hb : Nat.testBit m x = false := by
        cases hb : Nat.testBit m x
        · rfl
        · exact absurd ((hm.2 x hx11).1 hb) h3
      rw [if_neg (fun c => h3 ((hm.2 x hx11).1 (hh.2.2.1.1 c))), if_neg h3, hh.2.2.2.1 hb]
      exact Row_l0 l hl n k (i + 1) _ (by omega) (by omega) (hm.step hx11 (by omega) hx)
theorem Row_f (l : List Int) (k : Nat) (hk : 11 ≤ k) : clocheref05_Row.f k l = some (rowS l) := by
  unfold clocheref05_Row.f rowS
  by_cases h : (l.length : Int) > 10
  · rw [if_pos h, if_pos h]
  · rw [if_neg h, if_neg h]
    exact Row_l0 l (by omega) l.length k 0 0 (by omega) (by omega) (masks0 l)
def IsRow (l : List Int) : Prop := l.length ≤ 10 ∧ (∀ x ∈ l, 1 ≤ x ∧ x ≤ l.length) ∧ l.Nodup
theorem getD_mem {l : List Int} {i : Nat} (h : i < l.length) : l.getD i 0 ∈ l := by
  rw [List.getD_eq_getElem?_getD, List.getElem?_eq_getElem h]
  exact List.getElem_mem h
theorem getD_at {l : List Int} {i : Nat} (h : i < l.length) : l.getD i 0 = l[i] := by
  rw [List.getD_eq_getElem?_getD, List.getElem?_eq_getElem h]
  rfl
theorem rowFrom_zero (l : List Int) : ∀ n i, i + n = l.length → (rowFrom l i n = 0 ↔ ∀ j, i ≤ j → j < l.length → 1 ≤ l.getD j 0 ∧ l.getD j 0 ≤ l.length ∧ ¬ l.getD j 0 ∈ l.take j)
  | 0, i, h => ⟨fun _ j h1 h2 => by omega, fun _ => rfl⟩
  | n + 1, i, h => by
    have ih := rowFrom_zero l n (i + 1) (by omega)
    simp only [rowFrom]
    by_cases h1 : l.getD i 0 < 1
    · rw [if_pos h1]
      refine ⟨fun h => absurd h (by decide), fun h => ?_⟩
      have := (h i (Nat.le_refl _) (by omega)).1
      omega
    rw [if_neg h1]
    by_cases h2 : l.getD i 0 > (l.length : Int)
    · rw [if_pos h2]
      refine ⟨fun h => absurd h (by decide), fun h => ?_⟩
      have := (h i (Nat.le_refl _) (by omega)).2.1
      omega
    rw [if_neg h2]
    by_cases h3 : l.getD i 0 ∈ l.take i
    · rw [if_pos h3]
      exact ⟨fun h => absurd h (by decide), fun h => absurd h3 (h i (Nat.le_refl _) (by omega)).2.2⟩
    rw [if_neg h3, ih]
    constructor
    · intro hh j hj1 hj2
      rcases Nat.eq_or_lt_of_le hj1 with rfl | h4
      · exact ⟨by omega, by omega, h3⟩
      · exact hh j h4 hj2
    · exact fun hh j hj1 hj2 => hh j (by omega) hj2
theorem rowS_zero (l : List Int) : rowS l = 0 ↔ IsRow l := by
  unfold rowS IsRow
  by_cases h : (l.length : Int) > 10
  · rw [if_pos h]
    exact ⟨fun h => absurd h (by decide), fun h2 => by omega⟩
  rw [if_neg h, rowFrom_zero l l.length 0 (by omega)]
  constructor
  · intro hh
    refine ⟨by omega, fun x hx => ?_, ?_⟩
    · obtain ⟨j, hj, rfl⟩ := List.mem_iff_getElem.1 hx
      have := hh j (by omega) hj
      rw [getD_at hj] at this
      exact ⟨this.1, this.2.1⟩
    · rw [List.nodup_iff_pairwise_ne, List.pairwise_iff_getElem]
      intro i j hi hj hij e
      have := (hh j (by omega) hj).2.2
      rw [getD_at hj, ← e] at this
      exact this (List.mem_take_iff_getElem.2 ⟨i, by omega, rfl⟩)
  · rintro ⟨_, h2, h3⟩ j _ hj
    have := h2 _ (getD_mem hj)
    refine ⟨this.1, this.2, fun hm => ?_⟩
    obtain ⟨i, hi, e⟩ := List.mem_take_iff_getElem.1 hm
    rw [getD_at hj] at e
    rw [List.nodup_iff_pairwise_ne, List.pairwise_iff_getElem] at h3
    exact h3 i j (by omega) hj (by omega) e
theorem alive (k : Nat) (hk : 40 ≤ k) : clochelaw05_alive.f k = some true := by
  obtain ⟨d, rfl⟩ := Nat.exists_eq_add_of_le hk
  clear hk
  induction d with
  | zero => exact alive40
  | succ d ih => exact clochelaw05_alive.mono (40 + d) _ ih
theorem IsWave_f (l : List Int) (k : Nat) (hk : 11 ≤ k) : waves_IsWave.f k l = some (if rowS l = 0 then (upB l, 0) else (false, rowS l)) := by
  unfold waves_IsWave.f
  rw [read_f l k hk, Option.bind_some]
  by_cases h : rowS l = 0
  · rw [if_pos h, if_pos h, up_f l (by have := ((rowS_zero l).1 h).1; omega) k (by have := ((rowS_zero l).1 h).1; omega)]
    rfl
  · rw [if_neg h, if_neg h]
theorem same_l0 (a b : List Int) (hl : a.length = b.length) (hs : a.length ≤ 1000) : ∀ n k (i : Nat), i + n = a.length → n < k → clochelaw05_same.l0 k a b i = some (allFrom (fun j => decide (a.getD j 0 = b.getD j 0)) i n)
  | 0, k, i, h, hk => by
    obtain ⟨k, rfl, _⟩ := succK hk
    simp only [clochelaw05_same.l0]
    rw [if_neg (by omega)]
    rfl
  | n + 1, k, i, h, hk => by
    obtain ⟨k, rfl, hk'⟩ := succK hk
    have e2 : wrap64 ((i : Int) + 1) = ((i + 1 : Nat) : Int) := by rw [w64 (by omega) (by omega)]; omega
    simp only [clochelaw05_same.l0]
    rw [if_pos (by omega), if_pos (by omega), if_pos (by omega), rdn, rdn, e2]
    simp only [allFrom]
    by_cases he : a.getD i 0 = b.getD i 0
    · rw [if_pos he, same_l0 a b hl hs n k (i + 1) (by omega) (by omega), decide_eq_true he]
      rfl
    · rw [if_neg he, decide_eq_false he]
      rfl
theorem same_f (a b : List Int) (k : Nat) (hk : a.length < k) (hs : a.length ≤ 1000) : clochelaw05_same.f k a b = some (decide (a = b)) := by
  unfold clochelaw05_same.f
  by_cases h : a.length = b.length
  · rw [if_pos (by omega), show (0 : Int) = ((0 : Nat) : Int) from rfl, same_l0 a b h hs a.length k 0 (by omega) hk]
    congr 1
    rw [Bool.eq_iff_iff, allFrom_iff, decide_eq_true_eq]
    constructor
    · intro hh
      apply List.ext_getElem h
      intro i h1 h2
      have := hh i (by omega) (by omega)
      rw [decide_eq_true_eq, getD_at h1, getD_at h2] at this
      exact this
    · rintro rfl j _ _
      simp
  · rw [if_neg (by omega), decide_eq_false (fun e => h (by rw [e]))]
end Go.Proofs.Ytmigibamdeodpaa.Pure
