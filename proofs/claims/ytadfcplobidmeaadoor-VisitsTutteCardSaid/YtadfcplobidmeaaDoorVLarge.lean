/- The visits' plain laws: the first largest matching, pair by pair. -/
import Derived.Test.YtadfcplobidmeaaDoorVGameNu
import Derived.Test.YtadfcplobidmeaaDoorVMatch
namespace Go.Proofs.YtadfcplobidmeaaDoor.Pure
open Go.RowKit Go.Proofs.YtadfcplobidmeaaDoor.Print Go.Proofs.YtadfcplobidmeaaDoorW.PrintWords Go.Proofs.YtadfcplobidmeaaDoorW.PrintLast Go.Proofs.YtadfcplobidmeaaDoorW.PrintMore
/-- what is left behind the pair (a, b). -/
def rest (L a b : Nat) : Nat := sd (sd L (2 ^ (a + 1) - 1)) (2 ^ b)
theorem rest_bit (L a b i : Nat) : (rest L a b).testBit i = (L.testBit i && !decide (i < a + 1) && !decide (b = i)) := by
  unfold rest
  rw [sd_bit, sd_bit, Nat.testBit_two_pow_sub_one, pow_bit]
theorem rest_le (L a b : Nat) : rest L a b ≤ L := Nat.le_trans (sd_le _ _) (sd_le _ _)
/-- may (a, b) be the next pair? -/
def okP (l : List Int) (L a b : Nat) : Bool := L.testBit a && (adj l a b && L.testBit b) && decide (nu l (rest L a b) + 1 = nu l L)
theorem ok_exists {l : List Int} (hS : Shop l) : ∀ L, L < 2 ^ l.length → 0 < nu l L → ∃ a b, a < b ∧ okP l L a b = true := by
  intro L
  induction L using Nat.strongRecOn with
  | ind L ih =>
    intro hL hn
    have hp := pow10 hS.le
    have h0 : L ≠ 0 := fun e => by rw [e, nu_zero] at hn; omega
    obtain ⟨h1, h2, h3⟩ := low_spec (show L < 1024 by omega) h0
    have hu := bit_lt hL h1
    have a1 := sd_lt h1 (show (2 ^ low L).testBit (low L) = true by rw [pow_bit]; simp)
    have hb : ∀ i, (sd L (2 ^ low L)).testBit i = (L.testBit i && !decide (low L = i)) := fun i => by rw [sd_bit, pow_bit]
    by_cases hc : nu l L ≤ nu l (sd L (2 ^ low L))
    · have he : nu l (sd L (2 ^ low L)) = nu l L := Nat.le_antisymm (nu_mono hS (by omega) hL fun i hi => by
        rw [hb, Bool.and_eq_true] at hi
        exact hi.1) hc
      obtain ⟨a, b, hab, hok⟩ := ih _ a1 (by omega) (by omega)
      unfold okP at hok
      simp only [Bool.and_eq_true, decide_eq_true_eq, hb] at hok
      obtain ⟨⟨⟨q1, q2⟩, q3, q4, q5⟩, q6⟩ := hok
      have hal : low L < a := by
        rcases Nat.lt_trichotomy (low L) a with h | h | h
        · exact h
        · rw [decide_eq_true h] at q2; exact absurd q2 (by decide)
        · rw [h3 a h] at q1; exact absurd q1 (by decide)
      have er : rest (sd L (2 ^ low L)) a b = rest L a b := bits_eq fun i => by
        rw [rest_bit, rest_bit, hb]
        by_cases h : low L = i
        · rw [decide_eq_true (show i < a + 1 by omega)]; simp
        · rw [decide_eq_false h]; simp
      refine ⟨a, b, hab, ?_⟩
      unfold okP
      rw [er, he] at q6
      rw [q1, q3, q4, decide_eq_true q6]
      rfl
    · rcases nu_any hS hL h1 with h | ⟨k, hk, hak, h⟩
      · exact absurd h hc
      · have hkl : low L < k := by
          rcases Nat.lt_trichotomy (low L) k with h | h | h
          · exact h
          · rw [← h, hS.irr hu] at hak; exact absurd hak (by decide)
          · rw [h3 k h] at hk; exact absurd hk (by decide)
        have er : rest L (low L) k = sd L (2 ^ low L ||| 2 ^ k) := bits_eq fun i => by
          rw [rest_bit, sd_bit, two_bit]
          rcases Nat.lt_trichotomy i (low L) with h | h | h
          · rw [h3 i h]; simp
          · subst h; rw [decide_eq_true (show low L < low L + 1 by omega)]; simp
          · rw [decide_eq_false (show ¬ i < low L + 1 by omega), decide_eq_false (show ¬ low L = i by omega)]; simp
        have hpair := nu_pair hS hL h1 hk hak
        refine ⟨low L, k, hkl, ?_⟩
        unfold okP
        rw [h1, hak, hk, er, decide_eq_true (show nu l (sd L (2 ^ low L ||| 2 ^ k)) + 1 = nu l L by omega)]
        rfl
/-- the first b from j on that goes with a. -/
def rowF (l : List Int) (L a j : Nat) : Nat → Option Nat
  | 0 => none
  | m + 1 => if okP l L a j = true then some j else rowF l L a (j + 1) m
/-- the pairs of the rows from a on. -/
def scan (l : List Int) (L a : Nat) : Nat → List S43
  | 0 => []
  | m + 1 => match rowF l L a (a + 1) m with
    | some b => (⟨(a : Int), (b : Int)⟩ : S43) :: scan l (rest L a b) (a + 1) m
    | none => scan l L (a + 1) m
theorem rowF_some (l : List Int) (L a : Nat) : ∀ m j b, rowF l L a j m = some b → j ≤ b ∧ b < j + m ∧ okP l L a b = true
  | 0, _, _, h => by cases h
  | m + 1, j, b, h => by
    simp only [rowF] at h
    by_cases c : okP l L a j = true
    · rw [if_pos c] at h
      obtain rfl := Option.some.inj h
      exact ⟨Nat.le_refl _, by omega, c⟩
    · rw [if_neg c] at h
      obtain ⟨h1, h2, h3⟩ := rowF_some l L a m (j + 1) b h
      exact ⟨by omega, by omega, h3⟩
theorem rowF_none (l : List Int) (L a : Nat) : ∀ m j, rowF l L a j m = none → ∀ b, j ≤ b → b < j + m → okP l L a b = false
  | 0, _, _, b, h1, h2 => by omega
  | m + 1, j, h, b, h1, h2 => by
    simp only [rowF] at h
    by_cases c : okP l L a j = true
    · rw [if_pos c] at h; cases h
    · rw [if_neg c] at h
      by_cases e : b = j
      · subst e; exact Bool.eq_false_iff.2 c
      · exact rowF_none l L a m (j + 1) h b (by omega) (by omega)
end Go.Proofs.YtadfcplobidmeaaDoor.Pure
