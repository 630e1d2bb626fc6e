/- VisitsBounds: a matching has at most as many pairs as a set that has one of every two that go with each other; one that can't be made longer has half as many as a largest one. -/
import Derived.Test.YtadfcplobidmeaaDoorVQm
import Derived.Test.YtadfcplobidmeaaDoorVSize
import Derived.Test.YtadfcplobidmeaaDoorVHat
import Derived.Test.YtadfcplobidmeaaDoorVMatV
import Derived.Test.YtadfcplobidmeaaDoorPrintx23
namespace Go.Proofs.YtadfcplobidmeaaDoor.Pure
open Go.RowKit Go.Proofs.YtadfcplobidmeaaDoor.Print Go.Proofs.YtadfcplobidmeaaDoorW.PrintWords Go.Proofs.YtadfcplobidmeaaDoorW.PrintLast Go.Proofs.YtadfcplobidmeaaDoorW.PrintMore
/-- has the set one of every two hats that go with each other? -/
def covP (l : List Int) (s : Nat) : Nat → Bool := fun i => s.testBit i || decide (sd (row l i) s = 0)
theorem cover_mt {l : List Int} {s : Nat} (hl : l.length ≤ 10) (hc : ∀ i, i < l.length → covP l s i = true) {S m : Nat} (h : Mt l S m) : S < 2 ^ l.length → m ≤ sz (S &&& s) := by
  induction h with
  | nil S => exact fun _ => Nat.zero_le _
  | cons S a b m ha hb hab h ih =>
    intro hlt
    have h1 := ih (Nat.lt_of_le_of_lt (sd_le _ _) hlt)
    have key : ∀ c, c < l.length → (c = a ∨ c = b) → S.testBit c = true → s.testBit c = true → m + 1 ≤ sz (S &&& s) := fun c hcl hcab hcS hcs => by
      have e0 : (sd S (2 ^ a ||| 2 ^ b) &&& s).testBit c = false := by
        rw [Nat.testBit_and, sd_two_bit]
        rcases hcab with rfl | rfl <;> simp
      have h2 := sz_or (a := c) (by omega) e0
      have h3 := sz_mono (X := (sd S (2 ^ a ||| 2 ^ b) &&& s) ||| 2 ^ c) (Y := S &&& s) (fun i hi => by
        rw [or_bit, Nat.testBit_and, sd_two_bit] at hi
        rw [Nat.testBit_and]
        by_cases e : c = i
        · subst e; rw [hcS, hcs]; rfl
        · rw [decide_eq_false e, Bool.or_false, Bool.and_eq_true, Bool.and_eq_true] at hi
          rw [hi.1.1, hi.2]; rfl)
      omega
    have hal := bit_lt hlt ha
    have hbl := bit_lt hlt hb
    have hca := hc a hal
    unfold covP at hca
    rw [Bool.or_eq_true, decide_eq_true_eq] at hca
    rcases hca with h2 | h2
    · exact key a hal (Or.inl rfl) ha h2
    · refine key b hbl (Or.inr rfl) hb ?_
      have h3 : (sd (row l a) s).testBit b = false := by rw [h2, Nat.zero_testBit]
      rw [sd_bit] at h3
      have h4 : (row l a).testBit b = true := hab
      rw [h4] at h3
      simpa using h3
theorem cover_nu {l : List Int} (hS : Shop l) {s : Nat} (hc : ∀ i, i < l.length → covP l s i = true) : nu l (full l) ≤ sz s :=
  Nat.le_trans (cover_mt hS.le hc (nu_mt hS _ (full_lt l)).1 (full_lt l)) (sz_mono fun i hi => by
    rw [Nat.testBit_and, Bool.and_eq_true] at hi
    exact hi.2)
theorem covI {l : List Int} (hS : Shop l) {s i : Nat} (hs : s < 1024) (hi : i < l.length) : (Go.bits .andNot .i64 (rd l (i : Int)) (s : Int) == 0) = decide (sd (row l i) s = 0) := by
  have hp := pow10 hS.le
  have hr := hS.row_lt hi
  rw [rdn, hS.row hi, bDiff _ _ (by omega) (by omega)]
  by_cases c : sd (row l i) s = 0
  · rw [c, decide_eq_true rfl]; rfl
  · rw [decide_eq_false c]
    exact beq_eq_false_iff_ne.2 (by omega)
theorem bound_l0 {l : List Int} (hS : Shop l) (p x : List S43) (is : Bool) (s F : Nat) (hs : s < 1024) (r : Bool)
    (hv : ∀ c : Bool, c = allFrom (covP l s) 0 l.length → ∀ k, F ≤ k → clochelaw03_VisitsBounds.l0 k l p (l.length : Int) x is (s : Int) c (l.length : Int) = some r) :
    ∀ (m i k : Nat) (c : Bool), i + m = l.length → F + m ≤ k → (c && allFrom (covP l s) i m) = allFrom (covP l s) 0 l.length → clochelaw03_VisitsBounds.l0 k l p (l.length : Int) x is (s : Int) c (i : Int) = some r
  | 0, i, k, c, hi, hk, hc => by
    obtain rfl : i = l.length := by omega
    refine hv c ?_ k (by omega)
    rw [← hc]
    simp only [allFrom, Bool.and_true]
  | m + 1, i, k, c, hi, hk, hc => by
    obtain ⟨k, rfl, _⟩ := succK (show 0 < k by omega)
    have hl := hS.le
    simp only [allFrom] at hc
    have hrec := fun c hc => bound_l0 hS p x is s F hs r hv m (i + 1) k c (by omega) (by omega) hc
    rw [clochelaw03_VisitsBounds.l0, if_pos (by omega), inc64 i (by omega)]
    cases c
    · rw [if_neg (by decide)]
      exact hrec false (by rw [← hc]; rfl)
    · rw [if_pos rfl, if_pos (by omega), bitT s i (by omega), if_pos (show (i : Int) < l.length by omega), covI hS hs (by omega)]
      have e : covP l s i = (s.testBit i || decide (sd (row l i) s = 0)) := rfl
      rw [e] at hc
      cases c2 : s.testBit i
      · rw [if_neg (by decide)]
        rw [c2, Bool.false_or, Bool.true_and] at hc
        exact hrec _ hc
      · rw [if_pos (by decide)]
        rw [c2, Bool.true_or, Bool.true_and] at hc
        exact hrec true hc
def usedL (used : Nat) : List S43 → Nat
  | [] => used
  | x :: t => usedL (usedOf used x) t
theorem bound_l1 {l : List Int} (hS : Shop l) (p x : List S43) (hp : p.length ≤ 1000) (F : Nat) (r : Bool)
    (hv : ∀ u, u < 2 ^ l.length → u = usedL 0 p → ∀ k, F ≤ k → clochelaw03_VisitsBounds.l2 k l p (l.length : Int) x (u : Int) true 0 = some r) :
    ∀ (m i k used : Nat) (prev : Option Int), i + m = p.length → F + m + 1 ≤ k → used < 2 ^ l.length → mtB l (p.drop i) used prev = true → usedL used (p.drop i) = usedL 0 p → clochelaw03_VisitsBounds.l1 k l p (l.length : Int) x (used : Int) (i : Int) = some r
  | 0, i, k, used, prev, hi, hk, hu, hm, he => by
    obtain ⟨k, rfl, _⟩ := succK (show 0 < k by omega)
    rw [List.drop_eq_nil_of_le (by omega)] at he
    rw [clochelaw03_VisitsBounds.l1, if_neg (by omega), hv used hu he k (by omega)]
  | m + 1, i, k, used, prev, hi, hk, hu, hm, he => by
    obtain ⟨k, rfl, _⟩ := succK (show 0 < k by omega)
    have hl := hS.le
    have hp2 := pow10 hl
    rw [drop_getT (show i < p.length by omega)] at hm he
    simp only [mtB, Bool.and_eq_true] at hm
    simp only [usedL] at he
    have hul := used_lt hu hm.1.1
    have hrec := bound_l1 hS p x hp F r hv m (i + 1) k _ _ (by omega) (by omega) hul hm.2 he
    obtain ⟨a, b, e1, e2, hab, hb, _, _, _⟩ := pairOk_at hm.1.1
    have q1 : 2 ^ a < 2 ^ 10 := Nat.pow_lt_pow_right (by decide) (by omega)
    have q2 : 2 ^ b < 2 ^ 10 := Nat.pow_lt_pow_right (by decide) (by omega)
    have q3 : used ||| 2 ^ a < 2 ^ l.length := or_lt hu (by omega)
    rw [clochelaw03_VisitsBounds.l1, if_pos (by omega), if_pos (by omega), rdT, if_neg (by omega), if_neg (by omega), if_neg (by omega), if_neg (by omega), if_pos (by omega), if_pos (by omega), e1, e2,
      bShl a (by omega), bShl b (by omega), bOr _ _ (by omega) (by omega), bOr _ _ (by omega) (by omega), inc64 i (by omega)]
    unfold usedOf at hrec
    rw [e1, e2, Int.toNat_natCast, Int.toNat_natCast] at hrec
    exact hrec
theorem sz_or_le {X a : Nat} (ha : a < 10) : sz (X ||| 2 ^ a) ≤ sz X + 1 := by
  cases c : X.testBit a
  · rw [sz_or ha c]; exact Nat.le_refl _
  · have : X ||| 2 ^ a = X := bits_eq fun i => by
      rw [or_bit]
      by_cases e : a = i
      · subst e; rw [c]; rfl
      · rw [decide_eq_false e, Bool.or_false]
    rw [this]; omega
theorem usedL_sz {l : List Int} (hl : l.length ≤ 10) : ∀ (p : List S43) (used : Nat) (prev : Option Int), mtB l p used prev = true → sz (usedL used p) ≤ sz used + 2 * p.length
  | [], _, _, _ => Nat.le_refl _
  | x :: t, used, prev, h => by
    simp only [mtB, Bool.and_eq_true] at h
    have h1 := usedL_sz hl t _ _ h.2
    obtain ⟨a, b, e1, e2, hab, hb, _, _, _⟩ := pairOk_at h.1.1
    have h2 : sz (usedOf used x) ≤ sz used + 2 := by
      unfold usedOf
      rw [e1, e2, Int.toNat_natCast, Int.toNat_natCast]
      have := sz_or_le (X := used) (a := a) (by omega)
      have := sz_or_le (X := used ||| 2 ^ a) (a := b) (by omega)
      omega
    simp only [usedL, List.length_cons]
    omega
theorem bound_l2 {l : List Int} (hS : Shop l) (p x : List S43) (s : Nat) (hs : s < 1024) (hp : p.length ≤ 1000) (hx : x.length ≤ 1000) (h1 : p.length ≤ x.length) (h2 : allFrom (covP l s) 0 l.length = true → x.length ≤ 2 * p.length) :
    ∀ (m i k : Nat) (c : Bool), i + m = l.length → 60 + m + 1 ≤ k → (c && allFrom (covP l s) i m) = allFrom (covP l s) 0 l.length → clochelaw03_VisitsBounds.l2 k l p (l.length : Int) x (s : Int) c (i : Int) = some true
  | 0, i, k, c, hi, hk, hc => by
    obtain ⟨k, rfl, _⟩ := succK (show 0 < k by omega)
    simp only [allFrom, Bool.and_true] at hc
    rw [clochelaw03_VisitsBounds.l2, if_neg (by omega), alive_f k (by omega), Option.bind_some]
    cases c
    · rw [if_neg (by decide), if_pos (by omega)]
    · have := h2 hc.symm
      rw [if_pos rfl, w64 (by omega) (by omega), if_pos (by omega), if_pos (by omega)]
  | m + 1, i, k, c, hi, hk, hc => by
    obtain ⟨k, rfl, _⟩ := succK (show 0 < k by omega)
    have hl := hS.le
    simp only [allFrom] at hc
    have hrec := fun c hc => bound_l2 hS p x s hs hp hx h1 h2 m (i + 1) k c (by omega) (by omega) hc
    rw [clochelaw03_VisitsBounds.l2, if_pos (by omega), inc64 i (by omega)]
    cases c
    · rw [if_neg (by decide)]
      exact hrec false (by rw [← hc]; rfl)
    · rw [if_pos rfl, if_pos (by omega), bitT s i (by omega), if_pos (show (i : Int) < l.length by omega), covI hS hs (by omega)]
      have e : covP l s i = (s.testBit i || decide (sd (row l i) s = 0)) := rfl
      rw [e] at hc
      cases c2 : s.testBit i
      · rw [if_neg (by decide)]
        rw [c2, Bool.false_or, Bool.true_and] at hc
        exact hrec _ hc
      · rw [if_pos (by decide)]
        rw [c2, Bool.true_or, Bool.true_and] at hc
        exact hrec true hc
theorem covers {l : List Int} {s : Nat} (h : allFrom (covP l s) 0 l.length = true) : ∀ i, i < l.length → covP l s i = true := fun i hi => (allFrom0 _ _).1 h i hi
theorem bounds_at {l : List Int} (hS : Shop l) (p : List S43) (hp : p.length ≤ 40) (s : Nat) (hsl : s < 1024) (K : Nat) (hK : 50000 ≤ K) :
    clochelaw03_VisitsBounds.l0 K l p (l.length : Int) (first1 l) (isMat l p) (s : Int) true 0 = some true := by
  have hl := hS.le
  have hp2 := pow10 hl
  have h0 := Nat.two_pow_pos l.length
  have hx := first_length hS
  have hx2 := nu_small hS
  refine bound_l0 hS p (first1 l) (isMat l p) s 1000 (by omega) true (fun c hc k hk => ?_) l.length 0 K true (by omega) (by omega) (by rw [Bool.true_and])
  obtain ⟨k, rfl, _⟩ := succK (show 0 < k by omega)
  have h3 : ∀ k, 900 ≤ k → clochelaw03_VisitsBounds.j3 k l p (l.length : Int) (first1 l) (isMat l p) false = some true := fun k hk => by
    obtain ⟨k, rfl, _⟩ := succK (show 0 < k by omega)
    rw [clochelaw03_VisitsBounds.j3, if_neg (by decide), alive_f k (by omega), Option.bind_some]
    by_cases c : isMat l p = true
    · rw [if_pos c]
      refine bound_l1 hS p (first1 l) (by omega) 200 true (fun u hu he k hk => ?_) p.length 0 k 0 none (by omega) (by omega) h0 c rfl
      refine bound_l2 hS p (first1 l) u (by omega) (by omega) (by omega) (by rw [hx]; exact mat_le hS c) (fun hcov => ?_) l.length 0 k true (by omega) (by omega) (by rw [Bool.true_and])
      have h4 := cover_nu hS (covers hcov)
      have h5 := usedL_sz hl p 0 none c
      rw [← he] at h5
      have : sz 0 = 0 := szN_zero 10
      omega
    · rw [if_neg c]
  rw [clochelaw03_VisitsBounds.l0, if_neg (by omega)]
  cases c
  · rw [if_neg (by decide)]
    exact h3 k (by omega)
  · have h4 := cover_nu hS (covers hc.symm)
    rw [if_pos rfl, Size_f (by omega) k (by omega), Option.bind_some, decide_eq_false (by omega)]
    exact h3 k (by omega)
theorem VisitsBounds (l : List Int) (a : Int) (p : List S43) (ha : (Lit.int .u16 a).wf = true) : ∃ k, clochelaw03_VisitsBounds.f k l a p = some true := by
  have hab := u16_range ha
  refine ⟨60001, ?_⟩
  have hj : clochelaw03_VisitsBounds.j0 60001 l a p true = some true := by
    rw [clochelaw03_VisitsBounds.j0, if_pos rfl, alive_f 60000 (by decide), Option.bind_some]
  unfold clochelaw03_VisitsBounds.f
  rw [few_f, Option.bind_some]
  by_cases h : (decide (l.length ≤ 40) && decide (p.length ≤ 40)) = true
  · have hp : l.length ≤ 40 ∧ p.length ≤ 40 := by
      rw [Bool.and_eq_true] at h
      exact ⟨of_decide_eq_true h.1, of_decide_eq_true h.2⟩
    rw [if_pos h, IsShop_f l 60001 (by decide), Option.bind_some]
    cases hs : isShop l
    · exact hj
    · have hS := (isShop_iff l).1 hs
      have hl := hS.le
      have hp2 := pow10 hl
      obtain ⟨s, hsl, hse⟩ := tmod_set hab.1 hab.2 hl
      rw [clochelaw03_VisitsBounds.j0, if_neg (by decide), vLargest_f l 60000 (by decide), Option.bind_some, vIsMatching_f l p (by omega) 60000 (by decide), Option.bind_some]
      unfold firstV matV
      rw [if_pos hs, if_pos hs, if_pos rfl, clochelaw03_VisitsBounds.j1, if_neg (show ¬ ((0 : Int) != 0) = true by decide), if_pos (by omega), if_neg (by rw [bShl l.length (by omega)]; omega), hse]
      exact bounds_at hS p hp.2 s (by omega) 59999 (by decide)
  · rw [if_neg h]
    exact hj
end Go.Proofs.YtadfcplobidmeaaDoor.Pure
