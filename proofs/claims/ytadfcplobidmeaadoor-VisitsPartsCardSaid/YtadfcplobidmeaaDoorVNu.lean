/- The visits' plain laws: nu is the greatest number of pairs of a matching, and it may be found out by any hat of the set. -/
import Derived.Test.YtadfcplobidmeaaDoorVPairs
namespace Go.Proofs.YtadfcplobidmeaaDoor.Pure
open Go.RowKit Go.Proofs.YtadfcplobidmeaaDoor.Print Go.Proofs.YtadfcplobidmeaaDoorW.PrintWords Go.Proofs.YtadfcplobidmeaaDoorW.PrintLast Go.Proofs.YtadfcplobidmeaaDoorW.PrintMore
/-- the set has a matching of so many pairs. -/
inductive Mt (l : List Int) : Nat → Nat → Prop
  | nil (S : Nat) : Mt l S 0
  | cons (S a b m : Nat) : S.testBit a = true → S.testBit b = true → adj l a b = true → Mt l (sd S (2 ^ a ||| 2 ^ b)) m → Mt l S (m + 1)
theorem two_bit (a b i : Nat) : (2 ^ a ||| 2 ^ b).testBit i = (decide (a = i) || decide (b = i)) := by
  rw [Nat.testBit_or, pow_bit, pow_bit]
theorem sd_comm (S X Y : Nat) : sd (sd S X) Y = sd (sd S Y) X := by
  rw [sd_sd, sd_sd, Nat.or_comm]
theorem Mt.split {l : List Int} (hS : Shop l) {S m : Nat} (h : Mt l S m) : ∀ {u : Nat}, S < 2 ^ l.length → S.testBit u = true →
    Mt l (sd S (2 ^ u)) m ∨ ∃ k m', m = m' + 1 ∧ S.testBit k = true ∧ adj l u k = true ∧ Mt l (sd S (2 ^ u ||| 2 ^ k)) m' := by
  induction h with
  | nil S => exact fun _ _ => Or.inl (Mt.nil _)
  | cons S a b m ha hb hab h ih =>
    intro u hlt hu
    by_cases e1 : u = a
    · subst e1
      exact Or.inr ⟨b, m, rfl, hb, hab, h⟩
    by_cases e2 : u = b
    · subst e2
      refine Or.inr ⟨a, m, rfl, ha, ?_, by rw [Nat.or_comm]; exact h⟩
      rw [hS.sym _ _ (bit_lt hlt hu) (bit_lt hlt ha)]
      exact hab
    have hu2 : (sd S (2 ^ a ||| 2 ^ b)).testBit u = true := by
      rw [sd_bit, hu, two_bit, decide_eq_false (fun e => e1 e.symm), decide_eq_false (fun e => e2 e.symm)]
      rfl
    rcases ih (Nat.lt_of_le_of_lt (sd_le _ _) hlt) hu2 with h1 | ⟨k, m', rfl, hk, huk, h1⟩
    · refine Or.inl (Mt.cons _ a b m ?_ ?_ hab (by rw [sd_comm]; exact h1))
      · rw [sd_bit, ha, pow_bit, decide_eq_false e1]; rfl
      · rw [sd_bit, hb, pow_bit, decide_eq_false e2]; rfl
    · rw [sd_bit, two_bit] at hk
      simp only [Bool.and_eq_true, Bool.not_eq_true', Bool.or_eq_false_iff, decide_eq_false_iff_not] at hk
      obtain ⟨hk1, hk2, hk3⟩ := hk
      refine Or.inr ⟨k, m' + 1, rfl, hk1, huk, Mt.cons _ a b m' ?_ ?_ hab (by rw [sd_comm]; exact h1)⟩
      · rw [sd_bit, ha, two_bit, decide_eq_false e1, decide_eq_false (fun e => hk2 e.symm)]; rfl
      · rw [sd_bit, hb, two_bit, decide_eq_false e2, decide_eq_false (fun e => hk3 e.symm)]; rfl
/-- a set with more hats has the matching, too. -/
theorem Mt.mono {l : List Int} {S m : Nat} (h : Mt l S m) : ∀ {T : Nat}, (∀ i, S.testBit i = true → T.testBit i = true) → Mt l T m := by
  induction h with
  | nil S => exact fun _ => Mt.nil _
  | cons S a b m ha hb hab h ih =>
    intro T hT
    refine Mt.cons T a b m (hT a ha) (hT b hb) hab (ih fun i hi => ?_)
    rw [sd_bit, Bool.and_eq_true] at hi ⊢
    exact ⟨hT i hi.1, hi.2⟩
theorem Mt.weaken {l : List Int} {S X m : Nat} (h : Mt l (sd S X) m) : Mt l S m := h.mono fun i hi => by
  rw [sd_bit, Bool.and_eq_true] at hi
  exact hi.1
theorem bestF_ge {p : Nat → Bool} {v : Nat → Nat} : ∀ m j b, b ≤ bestF p v j m b
  | 0, _, _ => Nat.le_refl _
  | m + 1, j, b => by
    simp only [bestF]
    refine Nat.le_trans ?_ (bestF_ge m (j + 1) _)
    split
    · exact Nat.le_max_left _ _
    · exact Nat.le_refl _
theorem bestF_ge' {p : Nat → Bool} {v : Nat → Nat} : ∀ m j b k, j ≤ k → k < j + m → p k = true → 1 + v k ≤ bestF p v j m b
  | 0, j, b, k, h1, h2, _ => by omega
  | m + 1, j, b, k, h1, h2, h3 => by
    simp only [bestF]
    by_cases e : k = j
    · subst e
      rw [if_pos h3]
      exact Nat.le_trans (Nat.le_max_right _ _) (bestF_ge m (k + 1) _)
    · exact bestF_ge' m (j + 1) _ k (by omega) (by omega) h3
theorem bestF_or {p : Nat → Bool} {v : Nat → Nat} : ∀ m j b, bestF p v j m b = b ∨ ∃ k, j ≤ k ∧ k < j + m ∧ p k = true ∧ bestF p v j m b = 1 + v k
  | 0, _, _ => Or.inl rfl
  | m + 1, j, b => by
    simp only [bestF]
    rcases bestF_or (p := p) (v := v) m (j + 1) (if p j = true then max b (1 + v j) else b) with h | ⟨k, h1, h2, h3, h4⟩
    · rw [h]
      by_cases hp : p j = true
      · rw [if_pos hp]
        rcases Nat.le_total b (1 + v j) with hb | hb
        · exact Or.inr ⟨j, Nat.le_refl _, by omega, hp, by omega⟩
        · exact Or.inl (by omega)
      · rw [if_neg hp]; exact Or.inl rfl
    · exact Or.inr ⟨k, by omega, by omega, h3, h4⟩
theorem nu_mt {l : List Int} (hS : Shop l) : ∀ S, S < 2 ^ l.length → Mt l S (nu l S) ∧ ∀ m, Mt l S m → m ≤ nu l S := by
  intro S
  induction S using Nat.strongRecOn with
  | ind S ih =>
    intro hlt
    have hp := pow10 hS.le
    by_cases h0 : S = 0
    · subst h0
      refine ⟨Mt.nil _, fun m h => ?_⟩
      cases h with
      | nil => exact Nat.le_refl _
      | cons _ a b m ha _ _ _ => rw [Nat.zero_testBit] at ha; exact absurd ha (by decide)
    · obtain ⟨h1, h2, h3⟩ := low_spec (show S < 1024 by omega) h0
      have a1 := sd_lt h1 (show (2 ^ low S).testBit (low S) = true by rw [pow_bit]; simp)
      have hn := nu_eq l (show S < 1024 by omega) h0
      have i1 := ih _ a1 (by omega)
      constructor
      · rcases bestF_or (p := pk l S) (v := fun k => nu l (sd S (2 ^ low S ||| 2 ^ k))) l.length 0 (nu l (sd S (2 ^ low S))) with h | ⟨k, k1, k2, k3, k4⟩
        · rw [hn, h]
          exact Mt.weaken i1.1
        · have a2 := sd_lt h1 (or_low (low S) k)
          unfold pk at k3
          rw [Bool.and_eq_true] at k3
          rw [hn, k4, Nat.add_comm]
          exact Mt.cons S (low S) k _ h1 k3.2 k3.1 (ih _ a2 (by omega)).1
      · intro m hm
        rcases hm.split hS hlt h1 with h | ⟨k, m', rfl, hk, hak, h⟩
        · have := i1.2 m h
          have g := bestF_ge (p := pk l S) (v := fun k => nu l (sd S (2 ^ low S ||| 2 ^ k))) l.length 0 (nu l (sd S (2 ^ low S)))
          omega
        · have a2 := sd_lt h1 (or_low (low S) k)
          have := (ih _ a2 (by omega)).2 m' h
          have g := bestF_ge' (p := pk l S) (v := fun k => nu l (sd S (2 ^ low S ||| 2 ^ k))) l.length 0 (nu l (sd S (2 ^ low S))) k (Nat.zero_le _) (by have := bit_lt hlt hk; omega) (by unfold pk; rw [hak, hk]; rfl)
          omega
end Go.Proofs.YtadfcplobidmeaaDoor.Pure
