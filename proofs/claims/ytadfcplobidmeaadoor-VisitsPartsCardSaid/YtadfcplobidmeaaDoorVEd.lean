/- The visits' plain laws: the theorem of Gallai, and that a hat of the barrier may be taken away. -/
import Derived.Test.YtadfcplobidmeaaDoorVEx
namespace Go.Proofs.YtadfcplobidmeaaDoor.Pure
open Go.RowKit Go.Proofs.YtadfcplobidmeaaDoor.Print Go.Proofs.YtadfcplobidmeaaDoorW.PrintWords Go.Proofs.YtadfcplobidmeaaDoorW.PrintLast Go.Proofs.YtadfcplobidmeaaDoorW.PrintMore
/-- every hat of the one lies in the other. -/
def Sub (X S : Nat) : Prop := ∀ i, X.testBit i = true → S.testBit i = true
theorem sd_Sub (S X : Nat) : Sub (sd S X) S := fun i hi => by
  rw [sd_bit, Bool.and_eq_true] at hi
  exact hi.1
theorem sd_lt2 {S n : Nat} (X : Nat) (h : S < 2 ^ n) : sd S X < 2 ^ n := Nat.lt_of_le_of_lt (sd_le _ _) h
theorem bases {l : List Int} (hS : Shop l) {S : Nat} (h : S < 2 ^ l.length) : ∃ X, PM l X ∧ sz X = 2 * nu l S ∧ Sub X S := (nu_mt hS S h).1.pm hS h
theorem PM.max {l : List Int} (hS : Shop l) {S X : Nat} (h : S < 2 ^ l.length) (hX : PM l X) (hs : Sub X S) : sz X ≤ 2 * nu l S := by
  obtain ⟨m, e, hm⟩ := hX.size hS
  have := (nu_mt hS S h).2 m (hm S hs)
  omega
theorem nu_size {l : List Int} (hS : Shop l) {S : Nat} (h : S < 2 ^ l.length) : 2 * nu l S ≤ sz S := by
  obtain ⟨X, hX, e, hs⟩ := bases hS h
  have := sz_mono hs
  omega
theorem nu_drop {l : List Int} (hS : Shop l) {S : Nat} (h : S < 2 ^ l.length) (v : Nat) : nu l S ≤ nu l (sd S (2 ^ v)) + 1 := by
  cases hv : S.testBit v
  · have : sd S (2 ^ v) = S := bits_eq fun i => by
      rw [sd_bit, pow_bit]
      by_cases e : v = i
      · subst e; rw [hv]; rfl
      · rw [decide_eq_false e]; simp
    rw [this]; omega
  · rcases nu_any hS h hv with h1 | ⟨k, _, _, h1⟩
    · omega
    · have := nu_mono hS (sd_lt2 (2 ^ v ||| 2 ^ k) h) (sd_lt2 (2 ^ v) h) (fun i hi => by
        rw [sd_two_bit] at hi
        rw [sd_bit, pow_bit]
        simp only [Bool.and_eq_true, Bool.not_eq_true', Bool.or_eq_false_iff] at hi
        simp [hi.1, hi.2.1])
      omega
theorem nu_le1 {l : List Int} (hS : Shop l) {S : Nat} (h : S < 2 ^ l.length) (X : Nat) : nu l (sd S X) ≤ nu l S := nu_mono hS (sd_lt2 _ h) h (sd_Sub _ _)
theorem sz_swap {X u b : Nat} (hu10 : u < 10) (hb10 : b < 10) (hu : X.testBit u = true) (hb : X.testBit b = false) : sz (sd X (2 ^ u) ||| 2 ^ b) = sz X := by
  have e : sd X (2 ^ u) ||| 2 ^ u = X := bits_eq fun i => by
    rw [or_bit, sd_bit, pow_bit]
    by_cases c : u = i
    · subst c; simp [hu]
    · simp [c]
  have h1 := sz_or (X := sd X (2 ^ u)) hu10 (by rw [sd_bit, pow_bit]; simp)
  rw [e] at h1
  rw [sz_or hb10 (by rw [sd_bit, hb]; rfl), h1]
theorem testBit_lt10 {X i : Nat} {l : List Int} (hS : Shop l) (h : X < 2 ^ l.length) (hi : X.testBit i = true) : i < 10 := by
  have := bit_lt h hi
  have := hS.le
  omega
/-- is v left alone by some largest matching of S? -/
theorem nu_exch {l : List Int} (hS : Shop l) {S u v w : Nat} (h : S < 2 ^ l.length) (huv : u ≠ v) (h1 : nu l S ≤ nu l (sd S (2 ^ u ||| 2 ^ v))) (h2 : nu l S ≤ nu l (sd S (2 ^ w))) :
    nu l S ≤ nu l (sd S (2 ^ u ||| 2 ^ w)) ∨ nu l S ≤ nu l (sd S (2 ^ v ||| 2 ^ w)) := by
  obtain ⟨X, hX, eX, sX⟩ := bases hS (sd_lt2 (2 ^ u ||| 2 ^ v) h)
  obtain ⟨Y, hY, eY, sY⟩ := bases hS (sd_lt2 (2 ^ w) h)
  have hw : Y.testBit w = false := by
    cases c : Y.testBit w
    · rfl
    · have := sY w c; rw [sd_bit, pow_bit] at this; simp at this
  have nX : ∀ i, X.testBit i = true → S.testBit i = true ∧ u ≠ i ∧ v ≠ i := fun i hi => by
    have := sX i hi
    rw [sd_two_bit] at this
    simpa using this
  have nY : ∀ i, Y.testBit i = true → S.testBit i = true ∧ w ≠ i := fun i hi => by
    have := sY i hi
    rw [sd_bit, pow_bit] at this
    simpa using this
  have fin : ∀ Z a b, PM l Z → sz Z = sz X → (∀ i, Z.testBit i = true → S.testBit i = true ∧ a ≠ i ∧ b ≠ i) → nu l S ≤ nu l (sd S (2 ^ a ||| 2 ^ b)) := fun Z a b hZ e hs => by
    have := hZ.max hS (sd_lt2 (2 ^ a ||| 2 ^ b) h) (fun i hi => by
      obtain ⟨q1, q2, q3⟩ := hs i hi
      rw [sd_two_bit, q1]
      simp [q2, q3])
    omega
  cases xw : X.testBit w
  · refine Or.inl (fin X u w hX rfl fun i hi => ?_)
    obtain ⟨q1, q2, q3⟩ := nX i hi
    exact ⟨q1, q2, fun e => by rw [e, hi] at xw; exact absurd xw (by decide)⟩
  · have hw10 := testBit_lt10 hS hX.lt xw
    rcases hX.change hS (X + 1) X Y w (Nat.lt_succ_self _) hY xw hw with ⟨b, b1, b2, hp⟩ | ⟨b, b1, b2, b3, hp, _⟩
    · have hb10 := testBit_lt10 hS hY.lt b1
      have hwb : w ≠ b := fun e => by rw [← e, hw] at b1; exact absurd b1 (by decide)
      have hz := sz_swap hw10 hb10 xw b2
      have mem : ∀ i, (sd X (2 ^ w) ||| 2 ^ b).testBit i = true → (X.testBit i = true ∧ w ≠ i) ∨ b = i := fun i hi => by
        rw [or_bit, sd_bit, pow_bit] at hi
        simpa using hi
      by_cases hub : u = b
      · refine Or.inr (fin _ v w hp hz fun i hi => ?_)
        rcases mem i hi with ⟨q1, q2⟩ | rfl
        · exact ⟨(nX i q1).1, (nX i q1).2.2, q2⟩
        · exact ⟨(nY _ b1).1, fun e => huv (hub.trans e.symm), hwb⟩
      · refine Or.inl (fin _ u w hp hz fun i hi => ?_)
        rcases mem i hi with ⟨q1, q2⟩ | rfl
        · exact ⟨(nX i q1).1, (nX i q1).2.1, q2⟩
        · exact ⟨(nY _ b1).1, hub, hwb⟩
    · exfalso
      have hb10 := testBit_lt10 hS hX.lt b1
      have hz := sz_two hw10 hb10 (Ne.symm b3) hw b2
      have := hp.max hS h (fun i hi => by
        rw [or_two_bit] at hi
        by_cases c1 : w = i
        · subst c1; exact (nX _ xw).1
        · by_cases c2 : b = i
          · subst c2; exact (nX _ b1).1
          · rw [decide_eq_false c1, decide_eq_false c2, Bool.or_false, Bool.or_false] at hi
            exact (nY _ hi).1)
      omega
/-- one hat that is needed and goes with one that is not may be taken away: no more hats become free. -/
theorem nu_stab {l : List Int} (hS : Shop l) {S a d u : Nat} (h : S < 2 ^ l.length) (sa : S.testBit a = true) (sd1 : S.testBit d = true) (had : adj l a d = true) (hua : a ≠ u)
    (hd : nu l S ≤ nu l (sd S (2 ^ d))) (hu : nu l (sd S (2 ^ u)) < nu l S) (ha : nu l (sd S (2 ^ a)) < nu l S) :
    nu l (sd (sd S (2 ^ a)) (2 ^ u)) < nu l (sd S (2 ^ a)) := by
  refine Nat.not_le.1 fun hc => ?_
  have hal := bit_lt h sa
  have hdl := bit_lt h sd1
  have hl := hS.le
  have hda := nu_drop hS h a
  obtain ⟨X, hX, eX, sX⟩ := bases hS (sd_lt2 (2 ^ d) h)
  obtain ⟨Y, hY, eY, sY⟩ := bases hS (sd_lt2 (2 ^ u) (sd_lt2 (2 ^ a) h))
  have hcle := nu_le1 hS (sd_lt2 (2 ^ a) h) (2 ^ u)
  have nX : ∀ i, X.testBit i = true → S.testBit i = true ∧ d ≠ i := fun i hi => by
    have := sX i hi
    rw [sd_bit, pow_bit] at this
    simpa using this
  have nY : ∀ i, Y.testBit i = true → S.testBit i = true ∧ a ≠ i ∧ u ≠ i := fun i hi => by
    have := sY i hi
    rw [sd_bit, sd_bit, pow_bit, pow_bit] at this
    simp only [Bool.and_eq_true, Bool.not_eq_true', decide_eq_false_iff_not] at this
    exact ⟨this.1.1, this.1.2, this.2⟩
  have miss : ∀ Z w, PM l Z → 2 * nu l S ≤ sz Z → (∀ i, Z.testBit i = true → S.testBit i = true ∧ w ≠ i) → nu l S ≤ nu l (sd S (2 ^ w)) := fun Z w hZ e hs => by
    have := hZ.max hS (sd_lt2 (2 ^ w) h) (fun i hi => by
      obtain ⟨q1, q2⟩ := hs i hi
      rw [sd_bit, pow_bit, q1]
      simp [q2])
    omega
  have xu : X.testBit u = true := by
    cases c : X.testBit u
    · have := miss X u hX (by omega) fun i hi => ⟨(nX i hi).1, fun e => by rw [e, hi] at c; exact absurd c (by decide)⟩
      omega
    · rfl
  have yu : Y.testBit u = false := by
    cases c : Y.testBit u
    · rfl
    · exact absurd rfl (nY u c).2.2
  have hu10 := testBit_lt10 hS hX.lt xu
  have hud : u ≠ d := fun e => by rw [e] at hu; omega
  rcases hX.change hS (X + 1) X Y u (Nat.lt_succ_self _) hY xu yu with ⟨b, b1, b2, hp⟩ | ⟨b, b1, b2, b3, hp, hq⟩
  · have hb10 := testBit_lt10 hS hY.lt b1
    have hz := sz_swap hu10 hb10 xu b2
    have hub : u ≠ b := fun e => by rw [← e, yu] at b1; exact absurd b1 (by decide)
    have := miss _ u hp (by omega) fun i hi => by
      rw [or_bit, sd_bit, pow_bit] at hi
      by_cases c2 : b = i
      · subst c2; exact ⟨(nY _ b1).1, hub⟩
      · have : X.testBit i = true ∧ u ≠ i := by simpa [c2] using hi
        exact ⟨(nX i this.1).1, this.2⟩
    omega
  · have hb10 := testBit_lt10 hS hX.lt b1
    by_cases hba : b = a
    · subst hba
      have xd : X.testBit d = false := by
        cases c : X.testBit d
        · rfl
        · exact absurd rfl (nX d c).2
      have hbd := adj_ne hS hal had
      have m1 : (sd X (2 ^ u ||| 2 ^ b)).testBit b = false := by rw [sd_two_bit]; simp
      have m2 : (sd X (2 ^ u ||| 2 ^ b)).testBit d = false := by rw [sd_two_bit, xd]; rfl
      have hz := sz_two hb10 (show d < 10 by omega) hbd m1 m2
      have hz2 := sz_two hu10 hb10 (Ne.symm b3) (show (sd X (2 ^ u ||| 2 ^ b)).testBit u = false by rw [sd_two_bit]; simp) m1
      have e2 : sd X (2 ^ u ||| 2 ^ b) ||| (2 ^ u ||| 2 ^ b) = X := bits_eq fun i => by
        rw [or_two_bit, sd_two_bit]
        by_cases c : u = i
        · subst c; simp [xu]
        · by_cases c2 : b = i
          · subst c2; simp [b1]
          · simp [c, c2]
      rw [e2] at hz2
      have := miss _ u (PM.cons _ b d hal hdl m1 m2 had hq) (by omega) fun i hi => by
        rw [or_two_bit, sd_two_bit] at hi
        by_cases c1 : b = i
        · subst c1; exact ⟨sa, Ne.symm b3⟩
        · by_cases c2 : d = i
          · subst c2; exact ⟨sd1, hud⟩
          · have : X.testBit i = true ∧ u ≠ i := by
              simpa [c1, c2] using hi
            exact ⟨(nX i this.1).1, this.2⟩
      omega
    · have hz := sz_two hu10 hb10 (Ne.symm b3) yu b2
      have := miss _ a hp (by omega) fun i hi => by
        rw [or_two_bit] at hi
        by_cases c1 : u = i
        · subst c1
          exact ⟨(nX _ xu).1, hua⟩
        · by_cases c2 : b = i
          · subst c2; exact ⟨(nX _ b1).1, Ne.symm hba⟩
          · rw [decide_eq_false c1, decide_eq_false c2, Bool.or_false, Bool.or_false] at hi
            exact ⟨(nY _ hi).1, (nY _ hi).2.1⟩
      omega
end Go.Proofs.YtadfcplobidmeaaDoor.Pure
