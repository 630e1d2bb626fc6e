/- The visits' plain laws: the one who moves next wins exactly if the hat last visited is needed among those that are left and it. -/
import Derived.Test.YtadfcplobidmeaaDoorVNu
import Derived.Test.YtadfcplobidmeaaDoorVNeed
namespace Go.Proofs.YtadfcplobidmeaaDoor.Pure
open Go.RowKit Go.Proofs.YtadfcplobidmeaaDoor.Print Go.Proofs.YtadfcplobidmeaaDoorW.PrintWords Go.Proofs.YtadfcplobidmeaaDoorW.PrintLast Go.Proofs.YtadfcplobidmeaaDoorW.PrintMore
theorem nu_mono {l : List Int} (hS : Shop l) {S T : Nat} (hs : S < 2 ^ l.length) (ht : T < 2 ^ l.length) (h : ∀ i, S.testBit i = true → T.testBit i = true) : nu l S ≤ nu l T :=
  (nu_mt hS T ht).2 _ ((nu_mt hS S hs).1.mono h)
theorem nu_pair {l : List Int} (hS : Shop l) {S a b : Nat} (hs : S < 2 ^ l.length) (ha : S.testBit a = true) (hb : S.testBit b = true) (hab : adj l a b = true) : nu l (sd S (2 ^ a ||| 2 ^ b)) + 1 ≤ nu l S :=
  (nu_mt hS S hs).2 _ (Mt.cons S a b _ ha hb hab (nu_mt hS _ (Nat.lt_of_le_of_lt (sd_le _ _) hs)).1)
theorem nu_any {l : List Int} (hS : Shop l) {S v : Nat} (hs : S < 2 ^ l.length) (hv : S.testBit v = true) :
    nu l S ≤ nu l (sd S (2 ^ v)) ∨ ∃ k, S.testBit k = true ∧ adj l v k = true ∧ nu l S ≤ nu l (sd S (2 ^ v ||| 2 ^ k)) + 1 := by
  rcases (nu_mt hS S hs).1.split hS hs hv with h | ⟨k, m', e, hk, hvk, h⟩
  · exact Or.inl ((nu_mt hS _ (Nat.lt_of_le_of_lt (sd_le _ _) hs)).2 _ h)
  · refine Or.inr ⟨k, hk, hvk, ?_⟩
    have := (nu_mt hS _ (Nat.lt_of_le_of_lt (sd_le S (2 ^ v ||| 2 ^ k)) hs)).2 _ h
    omega
theorem bits_eq {S T : Nat} (h : ∀ i, S.testBit i = T.testBit i) : S = T := Nat.eq_of_testBit_eq h
/-- what is left is more with v exactly if v goes with a hat that is not needed there. -/
theorem need_step {l : List Int} (hS : Shop l) {R v : Nat} (hR : R < 2 ^ l.length) (hv : v < l.length) (hvR : R.testBit v = false) :
    nu l R < nu l (R ||| 2 ^ v) ↔ ∃ k, R.testBit k = true ∧ adj l v k = true ∧ nu l R ≤ nu l (sd R (2 ^ k)) := by
  have hU := or_lt hR hv
  have hvU : (R ||| 2 ^ v).testBit v = true := by rw [or_bit]; simp
  have e1 : sd (R ||| 2 ^ v) (2 ^ v) = R := bits_eq fun i => by
    rw [sd_bit, or_bit, pow_bit]
    by_cases h : v = i
    · subst h; rw [hvR]; simp
    · rw [decide_eq_false h]; simp
  have e2 : ∀ k, sd (R ||| 2 ^ v) (2 ^ v ||| 2 ^ k) = sd R (2 ^ k) := fun k => by rw [← sd_sd, e1]
  constructor
  · intro h
    rcases nu_any hS hU hvU with h1 | ⟨k, hk, hvk, h1⟩
    · rw [e1] at h1
      omega
    · rw [e2] at h1
      refine ⟨k, ?_, hvk, by omega⟩
      rw [or_bit] at hk
      by_cases e : v = k
      · subst e
        rw [hS.irr hv] at hvk
        exact absurd hvk (by decide)
      · rw [decide_eq_false e, Bool.or_false] at hk
        exact hk
  · rintro ⟨k, hk, hvk, h⟩
    have := nu_pair hS hU hvU (show (R ||| 2 ^ v).testBit k = true by rw [or_bit, hk]; rfl) hvk
    rw [e2] at this
    omega
theorem gw_need {l : List Int} (hS : Shop l) : ∀ (N V v : Nat), 2 ^ l.length ≤ V + N → V < 2 ^ l.length → v < l.length → V.testBit v = true → (gw l V v = true ↔ nu l (sd (full l) V) < nu l (sd (full l) V ||| 2 ^ v))
  | 0, V, v, hN, hV, _, _ => by omega
  | N + 1, V, v, hN, hV, hv, hb => by
    have hR : sd (full l) V < 2 ^ l.length := Nat.lt_of_le_of_lt (sd_le _ _) (full_lt l)
    have hRb : ∀ i, (sd (full l) V).testBit i = (decide (i < l.length) && !V.testBit i) := fun i => by rw [sd_bit, full_bit]
    rw [gw_iff l V v hV, need_step hS hR hv (by rw [hRb, hb]; simp)]
    have key : ∀ k, k < l.length → V.testBit k = false → (gw l (V ||| 2 ^ k) k = true ↔ nu l (sd (sd (full l) V) (2 ^ k)) < nu l (sd (full l) V)) := fun k hk hkb => by
      have hg := or_gt hkb
      rw [gw_need hS N (V ||| 2 ^ k) k (by omega) (or_lt hV hk) hk (by rw [or_bit]; simp), ← sd_sd]
      have e : sd (sd (full l) V) (2 ^ k) ||| 2 ^ k = sd (full l) V := bits_eq fun i => by
        rw [or_bit, sd_bit, pow_bit, hRb]
        by_cases h : k = i
        · subst h; rw [hkb, decide_eq_true hk]; simp
        · rw [decide_eq_false h]; simp
      rw [e]
    constructor
    · rintro ⟨k, hk, hc⟩
      unfold cw at hc
      simp only [Bool.and_eq_true, Bool.not_eq_true'] at hc
      obtain ⟨⟨h1, h2⟩, h3⟩ := hc
      refine ⟨k, by rw [hRb, h2, decide_eq_true hk]; rfl, h1, ?_⟩
      refine Nat.not_lt.1 fun h => ?_
      rw [(key k hk h2).2 h] at h3
      exact absurd h3 (by decide)
    · rintro ⟨k, hkR, h1, h⟩
      rw [hRb, Bool.and_eq_true, decide_eq_true_eq] at hkR
      have h2 : V.testBit k = false := by simpa using hkR.2
      refine ⟨k, hkR.1, ?_⟩
      unfold cw
      rw [h1, h2]
      cases h3 : gw l (V ||| 2 ^ k) k
      · rfl
      · have := (key k hkR.1 h2).1 h3
        omega
end Go.Proofs.YtadfcplobidmeaaDoor.Pure
