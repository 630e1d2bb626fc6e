/- The visits' plain laws: how many pairs a largest matching has. -/
import Derived.Test.YtadfcplobidmeaaDoorVGame
namespace Go.Proofs.YtadfcplobidmeaaDoor.Pure
open Go.RowKit Go.Proofs.YtadfcplobidmeaaDoor.Print Go.Proofs.YtadfcplobidmeaaDoorW.PrintWords Go.Proofs.YtadfcplobidmeaaDoorW.PrintLast Go.Proofs.YtadfcplobidmeaaDoorW.PrintMore
def low (S : Nat) : Nat := ((List.range 10).find? (fun i => S.testBit i)).getD 64
theorem lowAll : ((List.range 1024).all fun S => S == 0 || (S.testBit (low S) && decide (low S < 10) && (List.range (low S)).all fun j => !S.testBit j)) = true := by decide +kernel
theorem low_spec {S : Nat} (h : S < 1024) (h0 : S ≠ 0) : S.testBit (low S) = true ∧ low S < 10 ∧ ∀ j, j < low S → S.testBit j = false := by
  have := List.all_eq_true.1 lowAll S (List.mem_range.2 h)
  simp only [Bool.or_eq_true, Bool.and_eq_true, decide_eq_true_eq, beq_iff_eq, List.all_eq_true, List.mem_range] at this
  rcases this with h1 | ⟨⟨h1, h2⟩, h3⟩
  · exact absurd h1 h0
  · exact ⟨h1, h2, fun j hj => by simpa using h3 j hj⟩
theorem subAll : ((List.range 1024).all fun S => (List.range 10).all fun i => !S.testBit i || sd S (2 ^ i) + 2 ^ i == S) = true := by decide +kernel
theorem sub_bit {S i : Nat} (h : S < 1024) (hb : S.testBit i = true) : sd S (2 ^ i) + 2 ^ i = S := by
  have hi : i < 10 := by
    refine Nat.lt_of_not_le fun hi => ?_
    rw [Nat.testBit_lt_two_pow (Nat.lt_of_lt_of_le h (Nat.le_trans (by decide : 1024 ≤ 2 ^ 10) (Nat.pow_le_pow_right (by decide) hi)))] at hb
    exact absurd hb (by decide)
  have := List.all_eq_true.1 (List.all_eq_true.1 subAll S (List.mem_range.2 h)) i (List.mem_range.2 hi)
  rw [hb] at this
  simpa using this
theorem bit_lt {S n i : Nat} (h : S < 2 ^ n) (hb : S.testBit i = true) : i < n := by
  refine Nat.lt_of_not_le fun hi => ?_
  rw [Nat.testBit_lt_two_pow (Nat.lt_of_lt_of_le h (Nat.pow_le_pow_right (by decide) hi))] at hb
  exact absurd hb (by decide)
theorem sd_lt {S X i : Nat} (h1 : S.testBit i = true) (h2 : X.testBit i = true) : sd S X < S := by
  rcases Nat.lt_or_eq_of_le (sd_le S X) with h | h
  · exact h
  · have := congrArg (fun z => z.testBit i) h
    simp only [sd_bit, h1, h2] at this
    exact absurd this (by decide)
theorem sd_sd (S X Y : Nat) : sd (sd S X) Y = sd S (X ||| Y) := by
  apply Nat.eq_of_testBit_eq
  intro i
  simp only [sd_bit, Nat.testBit_or]
  cases S.testBit i <;> cases X.testBit i <;> cases Y.testBit i <;> rfl
theorem pow_bit (i j : Nat) : (2 ^ i).testBit j = decide (i = j) := Nat.testBit_two_pow
def bestF (p : Nat → Bool) (v : Nat → Nat) (j : Nat) : Nat → Nat → Nat
  | 0, b => b
  | m + 1, b => bestF p v (j + 1) m (if p j = true then max b (1 + v j) else b)
theorem bestF_congr {p : Nat → Bool} {v v' : Nat → Nat} : ∀ m j b, (∀ k, k < j + m → p k = true → v k = v' k) → bestF p v j m b = bestF p v' j m b
  | 0, _, _, _ => rfl
  | m + 1, j, b, h => by
    simp only [bestF]
    rw [bestF_congr m (j + 1) _ (fun k hk hp => h k (by omega) hp)]
    by_cases hp : p j = true
    · rw [if_pos hp, if_pos hp, h j (by omega) hp]
    · rw [if_neg hp, if_neg hp]
theorem bestF_le {p : Nat → Bool} {v : Nat → Nat} {B : Nat} : ∀ m j b, b ≤ B → (∀ k, k < j + m → p k = true → 1 + v k ≤ B) → bestF p v j m b ≤ B
  | 0, _, _, hb, _ => hb
  | m + 1, j, b, hb, h => by
    simp only [bestF]
    refine bestF_le m (j + 1) _ ?_ (fun k hk hp => h k (by omega) hp)
    by_cases hp : p j = true
    · rw [if_pos hp]
      have := h j (by omega) hp
      omega
    · rw [if_neg hp]; exact hb
/-- what the least hat of a set goes with. -/
def pk (l : List Int) (S : Nat) : Nat → Bool := fun k => adj l (low S) k && S.testBit k
def mu (l : List Int) : Nat → Nat → Nat
  | 0, _ => 0
  | d + 1, S => if S = 0 then 0 else bestF (pk l S) (fun k => mu l d (sd S (2 ^ low S ||| 2 ^ k))) 0 l.length (mu l d (sd S (2 ^ low S)))
theorem mu_succ (l : List Int) (d S : Nat) : mu l (d + 1) S = if S = 0 then 0 else bestF (pk l S) (fun k => mu l d (sd S (2 ^ low S ||| 2 ^ k))) 0 l.length (mu l d (sd S (2 ^ low S))) := rfl
/-- how many pairs a largest matching of the set has. -/
def nu (l : List Int) (S : Nat) : Nat := mu l 1024 S
theorem or_low (i k : Nat) : (2 ^ i ||| 2 ^ k).testBit i = true := by
  rw [Nat.testBit_or, pow_bit]
  simp
theorem mu_ind (l : List Int) : ∀ d d' S, S < 1024 → S < d → S < d' → mu l d S = mu l d' S
  | 0, _, _, _, h, _ => absurd h (Nat.not_lt_zero _)
  | _ + 1, 0, _, _, _, h => absurd h (Nat.not_lt_zero _)
  | d + 1, d' + 1, S, hS, hd, hd' => by
    simp only [mu]
    by_cases h0 : S = 0
    · rw [if_pos h0, if_pos h0]
    · rw [if_neg h0, if_neg h0]
      obtain ⟨h1, h2, h3⟩ := low_spec hS h0
      have a1 := sd_lt h1 (show (2 ^ low S).testBit (low S) = true by rw [pow_bit]; simp)
      rw [mu_ind l d d' _ (by omega) (by omega) (by omega)]
      refine bestF_congr _ _ _ fun k _ _ => ?_
      have a2 := sd_lt h1 (or_low (low S) k)
      exact mu_ind l d d' _ (by omega) (by omega) (by omega)
theorem nu_zero (l : List Int) : nu l 0 = 0 := rfl
theorem nu_eq (l : List Int) {S : Nat} (hS : S < 1024) (h0 : S ≠ 0) : nu l S = bestF (pk l S) (fun k => nu l (sd S (2 ^ low S ||| 2 ^ k))) 0 l.length (nu l (sd S (2 ^ low S))) := by
  have e : nu l S = mu l (1023 + 1) S := rfl
  rw [e, mu_succ, if_neg h0]
  obtain ⟨h1, h2, h3⟩ := low_spec hS h0
  have a1 := sd_lt h1 (show (2 ^ low S).testBit (low S) = true by rw [pow_bit]; simp)
  rw [mu_ind l 1023 1024 _ (by omega) (by omega) (by omega)]
  refine bestF_congr _ _ _ fun k _ _ => ?_
  have a2 := sd_lt h1 (or_low (low S) k)
  exact mu_ind l 1023 1024 _ (by omega) (by omega) (by omega)
theorem nu_le (l : List Int) : ∀ S, S < 1024 → nu l S ≤ S := by
  intro S
  induction S using Nat.strongRecOn with
  | ind S ih =>
    intro hS
    by_cases h0 : S = 0
    · subst h0; exact Nat.le_refl _
    · rw [nu_eq l hS h0]
      obtain ⟨h1, h2, h3⟩ := low_spec hS h0
      have a1 := sd_lt h1 (show (2 ^ low S).testBit (low S) = true by rw [pow_bit]; simp)
      refine bestF_le _ _ _ ?_ fun k _ _ => ?_
      · have := ih _ a1 (by omega)
        omega
      · have a2 := sd_lt h1 (or_low (low S) k)
        have := ih _ a2 (by omega)
        omega
theorem mxN (a b : Nat) : mx (a : Int) (b : Int) = ((max a b : Nat) : Int) := by
  unfold mx
  split <;> omega
theorem first_f {S : Nat} (hS : S < 1024) (h0 : S ≠ 0) : visits_first.f (S : Int) = some ((low S : Nat) : Int) := by
  unfold visits_first.f
  rw [tz_low S hS (by omega)]
  rfl
theorem testS {l : List Int} (hS : Shop l) (S i k : Nat) (hi : i < l.length) (hk : k < l.length) :
    Go.bits .and .i64 (shr .i64 (Go.bits .and .i64 (rd l (i : Int)) (S : Int)) (k : Int)) 1 = ((adj l i k && S.testBit k).toNat : Int) ∨ 4611686018427387904 ≤ S := by
  have hp := pow10 hS.le
  have hr := hS.row_lt hi
  have hl := hS.le
  by_cases hz : 4611686018427387904 ≤ S
  · exact Or.inr hz
  · left
    have hs : row l i &&& S ≤ row l i := Nat.and_le_left
    rw [rdn, hS.row hi, bAnd _ _ (by omega) (by omega), bitA _ _ (by omega) (by omega), Nat.testBit_and]
    rfl
theorem testM {l : List Int} (hS : Shop l) (S i k : Nat) (hs : S < 1024) (hi : i < l.length) (hk : k < l.length) :
    Int.tmod (shr .i64 (Go.bits .and .i64 (rd l (i : Int)) (S : Int)) (k : Int)) 2 = ((adj l i k && S.testBit k).toNat : Int) := by
  have hp := pow10 hS.le
  have hr := hS.row_lt hi
  have hl := hS.le
  rw [rdn, hS.row hi, bAnd _ _ (by omega) (by omega), bitT _ _ (by omega), Nat.testBit_and]
  rfl
theorem pairs_l0 {l : List Int} (hS : Shop l) (S : Nat) (hs : S < 1024) (h0 : S ≠ 0) (hi : low S < l.length) (F : Nat)
    (ih : ∀ T, T < S → ∀ k, F ≤ k → visits_shop_pairs.f k l (T : Int) = some ((nu l T : Nat) : Int)) :
    ∀ (m j k b : Nat), j + m = l.length → F + m + 1 ≤ k → visits_shop_pairs.l0 k l (S : Int) ((low S : Nat) : Int) (b : Int) (l.length : Int) (j : Int) =
      some ((bestF (pk l S) (fun k => nu l (sd S (2 ^ low S ||| 2 ^ k))) j m b : Nat) : Int)
  | 0, j, k, b, hj, hk => by
    obtain ⟨k, rfl, _⟩ := succK (show 0 < k by omega)
    simp only [visits_shop_pairs.l0]
    rw [if_neg (by omega)]
    rfl
  | m + 1, j, k, b, hj, hk => by
    obtain ⟨k, rfl, _⟩ := succK (show 0 < k by omega)
    have hl := hS.le
    obtain ⟨h1, h2, h3⟩ := low_spec hs h0
    have ht := (testS hS S (low S) j hi (by omega)).resolve_right (by omega)
    have a2 := sd_lt h1 (or_low (low S) j)
    have e1 : Go.bits .andNot .i64 (S : Int) (Go.bits .or .i64 (shl .i64 1 ((low S : Nat) : Int)) (shl .i64 1 (j : Int))) = ((sd S (2 ^ low S ||| 2 ^ j) : Nat) : Int) := by
      have p1 : 2 ^ low S < 2 ^ 10 := Nat.pow_lt_pow_right (by decide) h2
      have p2 : 2 ^ j < 2 ^ 10 := Nat.pow_lt_pow_right (by decide) (by omega)
      have p3 := Nat.or_lt_two_pow p1 p2
      rw [bShl _ (by omega), bShl _ (by omega), bOr _ _ (by omega) (by omega), bDiff _ _ (by omega) (by omega)]
    have hn := nu_le l _ (show sd S (2 ^ low S ||| 2 ^ j) < 1024 by omega)
    have e2 : mx (b : Int) (wrap64 (1 + ((nu l (sd S (2 ^ low S ||| 2 ^ j)) : Nat) : Int))) = ((max b (1 + nu l (sd S (2 ^ low S ||| 2 ^ j))) : Nat) : Int) := by
      rw [w64 (by omega) (by omega), ← mxN, Int.natCast_add]
      rfl
    simp only [visits_shop_pairs.l0]
    rw [if_pos (by omega), if_pos (by omega), if_pos (by omega), if_pos (by omega), ht, e1, ih _ a2 k (by omega), Option.bind_some, e2, inc64 j (by omega),
      pairs_l0 hS S hs h0 hi F ih m (j + 1) k _ (by omega) (by omega), pairs_l0 hS S hs h0 hi F ih m (j + 1) k _ (by omega) (by omega)]
    simp only [bestF]
    have ep : pk l S j = (adj l (low S) j && S.testBit j) := rfl
    rw [ep]
    cases (adj l (low S) j && S.testBit j)
    · rw [if_neg (by decide), if_neg (by decide)]
    · rw [if_pos (by decide), if_pos rfl]
theorem pairs_N {l : List Int} (hS : Shop l) : ∀ S : Nat, S < 2 ^ l.length → ∀ k, 20 * S + 20 ≤ k → visits_shop_pairs.f k l (S : Int) = some ((nu l S : Nat) : Int) := by
  intro S
  induction S using Nat.strongRecOn with
  | ind S ih =>
    intro hs k hk
    have hl := hS.le
    have hp := pow10 hl
    obtain ⟨k, rfl, _⟩ := succK (show 0 < k by omega)
    simp only [visits_shop_pairs.f]
    by_cases h0 : S = 0
    · rw [if_pos (by omega), h0]
      rfl
    · obtain ⟨h1, h2, h3⟩ := low_spec (show S < 1024 by omega) h0
      have a1 := sd_lt h1 (show (2 ^ low S).testBit (low S) = true by rw [pow_bit]; simp)
      have p1 : 2 ^ low S < 2 ^ 10 := Nat.pow_lt_pow_right (by decide) h2
      have e1 : Go.bits .andNot .i64 (S : Int) (shl .i64 1 ((low S : Nat) : Int)) = ((sd S (2 ^ low S) : Nat) : Int) := by
        rw [bShl _ (by omega), bDiff _ _ (by omega) (by omega)]
      have := pairs_l0 hS S (by omega) h0 (bit_lt hs h1) (20 * S) (fun T hT k hk => ih T hT (by omega) k (by omega)) l.length 0 k (nu l (sd S (2 ^ low S))) (by omega) (by omega)
      rw [show ((0 : Nat) : Int) = 0 from rfl] at this
      rw [if_neg (by omega), first_f (by omega) h0, Option.bind_some, if_pos (Int.natCast_nonneg _), e1, ih _ a1 (by omega) k (by omega), Option.bind_some, this, nu_eq l (by omega) h0]
theorem pairs_f {l : List Int} (hS : Shop l) (S : Nat) (hs : S < 2 ^ l.length) (k : Nat) (hk : 25000 ≤ k) : visits_shop_pairs.f k l (S : Int) = some ((nu l S : Nat) : Int) :=
  pairs_N hS S hs k (by have := pow10 hS.le; omega)
end Go.Proofs.YtadfcplobidmeaaDoor.Pure
