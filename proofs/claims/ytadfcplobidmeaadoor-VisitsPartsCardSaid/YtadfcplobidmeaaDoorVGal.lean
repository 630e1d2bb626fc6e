/- The visits' plain laws: parts of a set of hats, and how many of them are odd. -/
import Derived.Test.YtadfcplobidmeaaDoorVEd
namespace Go.Proofs.YtadfcplobidmeaaDoor.Pure
open Go.RowKit Go.Proofs.YtadfcplobidmeaaDoor.Print Go.Proofs.YtadfcplobidmeaaDoorW.PrintWords Go.Proofs.YtadfcplobidmeaaDoorW.PrintLast Go.Proofs.YtadfcplobidmeaaDoorW.PrintMore
/-- no hat of the one goes with a hat of the rest. -/
def Sep (l : List Int) (C H : Nat) : Prop := ∀ i k, C.testBit i = true → H.testBit k = true → C.testBit k = false → adj l i k = false ∧ adj l k i = false
theorem Mt.part {l : List Int} {H m : Nat} (h : Mt l H m) : ∀ C, Sep l C H → ∃ m1 m2, m = m1 + m2 ∧ Mt l C m1 ∧ Mt l (sd H C) m2 := by
  induction h with
  | nil S => exact fun C _ => ⟨0, 0, rfl, Mt.nil _, Mt.nil _⟩
  | cons S a b m ha hb hab h ih =>
    intro C hs
    obtain ⟨m1, m2, e, h1, h2⟩ := ih (sd C (2 ^ a ||| 2 ^ b)) (fun i k hi hk hc => by
      rw [sd_two_bit, Bool.and_eq_true] at hi hk
      refine hs i k hi.1 hk.1 ?_
      rw [sd_two_bit, hk.2, Bool.and_true] at hc
      exact hc)
    by_cases ca : C.testBit a = true
    · have cb : C.testBit b = true := by
        cases c : C.testBit b
        · have := (hs a b ca hb c).1; rw [hab] at this; exact absurd this (by decide)
        · rfl
      refine ⟨m1 + 1, m2, by omega, Mt.cons C a b m1 ca cb hab h1, h2.mono fun i hi => ?_⟩
      rw [sd_bit, sd_two_bit, sd_two_bit] at hi
      rw [sd_bit]
      generalize (decide (a = i) || decide (b = i)) = z at hi
      revert hi
      cases S.testBit i <;> cases C.testBit i <;> cases z <;> decide
    · have cb : C.testBit b = false := by
        cases c : C.testBit b
        · rfl
        · have := (hs b a c ha (Bool.eq_false_iff.2 ca)).2; rw [hab] at this; exact absurd this (by decide)
      refine ⟨m1, m2 + 1, by omega, h1.mono (sd_Sub _ _), Mt.cons _ a b m2 (by rw [sd_bit, ha, Bool.eq_false_iff.2 ca]; rfl) (by rw [sd_bit, hb, cb]; rfl) hab (h2.mono fun i hi => ?_)⟩
      rw [sd_bit, sd_two_bit, sd_two_bit] at hi
      rw [sd_two_bit, sd_bit]
      generalize (decide (a = i) || decide (b = i)) = z at hi ⊢
      revert hi
      cases S.testBit i <;> cases C.testBit i <;> cases z <;> decide
theorem Mt.join {l : List Int} {C m1 : Nat} (h : Mt l C m1) : ∀ H m2, Sub C H → Mt l (sd H C) m2 → Mt l H (m1 + m2) := by
  induction h with
  | nil S => exact fun H m2 _ h => by rw [Nat.zero_add]; exact h.mono (sd_Sub _ _)
  | cons S a b m ha hb hab h ih =>
    intro H m2 hs h2
    rw [show m + 1 + m2 = (m + m2) + 1 by omega]
    refine Mt.cons H a b _ (hs a ha) (hs b hb) hab (ih _ m2 (fun i hi => ?_) (h2.mono fun i hi => ?_))
    · rw [sd_two_bit, Bool.and_eq_true] at hi ⊢
      exact ⟨hs i hi.1, hi.2⟩
    · rw [sd_bit, Bool.and_eq_true, Bool.not_eq_true'] at hi
      have f1 : a ≠ i := fun e => by rw [← e, ha] at hi; exact absurd hi.2 (by decide)
      have f2 : b ≠ i := fun e => by rw [← e, hb] at hi; exact absurd hi.2 (by decide)
      rw [sd_bit, sd_two_bit, sd_two_bit, hi.1, hi.2]
      simp [f1, f2]
theorem Sub.lt {X S n : Nat} (h : Sub X S) (hs : S < 2 ^ n) : X < 2 ^ n := by
  have : X = S &&& X := bits_eq fun i => by
    rw [Nat.testBit_and]
    cases c : X.testBit i
    · simp
    · rw [h i c]; rfl
  rw [this]
  exact Nat.lt_of_le_of_lt (and_le' _ _) hs
theorem nu_sep {l : List Int} (hS : Shop l) {C H : Nat} (h : H < 2 ^ l.length) (hs : Sub C H) (hp : Sep l C H) : nu l H = nu l C + nu l (sd H C) := by
  have hc := hs.lt h
  obtain ⟨m1, m2, e, h1, h2⟩ := (nu_mt hS H h).1.part C hp
  have a1 := (nu_mt hS C hc).2 _ h1
  have a2 := (nu_mt hS _ (sd_lt2 C h)).2 _ h2
  have a3 := (nu_mt hS H h).2 _ ((nu_mt hS C hc).1.join H _ hs (nu_mt hS _ (sd_lt2 C h)).1)
  omega
/-- the hats of the set reach each other. -/
def Conn (l : List Int) (C : Nat) : Prop := ∀ T : Nat, (∃ i, C.testBit i = true ∧ T.testBit i = true) → (∀ i k, T.testBit i = true → C.testBit i = true → C.testBit k = true → adj l i k = true → T.testBit k = true) → Sub C T
inductive IsParts (l : List Int) : Nat → List Nat → Prop
  | nil : IsParts l 0 []
  | cons (H C : Nat) (P : List Nat) : (∃ i, C.testBit i = true) → Sub C H → Sep l C H → Conn l C → IsParts l (sd H C) P → IsParts l H (C :: P)
def oddS : List Nat → Nat
  | [] => 0
  | C :: P => sz C % 2 + oddS P
theorem oddS_perm {P Q : List Nat} (h : P.Perm Q) : oddS P = oddS Q := by
  induction h with
  | nil => rfl
  | cons x _ ih => simp only [oddS, ih]
  | swap x y l => simp only [oddS]; omega
  | trans _ _ h1 h2 => exact h1.trans h2
theorem sz_sub {C H : Nat} (hs : Sub C H) : sz H = sz C + sz (sd H C) := sz_split fun i => by
  rw [sd_bit]
  cases c : C.testBit i
  · simp
  · rw [hs i c]; rfl
theorem parts_le {l : List Int} (hS : Shop l) {H : Nat} {P : List Nat} (h : IsParts l H P) : H < 2 ^ l.length → 2 * nu l H + oddS P ≤ sz H := by
  induction h with
  | nil => exact fun _ => Nat.zero_le _
  | cons H C P hne hs hp hc h ih =>
    intro hlt
    have h1 := nu_sep hS hlt hs hp
    have h2 := sz_sub hs
    have h3 := nu_size hS (hs.lt hlt)
    have h4 := ih (sd_lt2 C hlt)
    simp only [oddS]
    omega
/-- a set with a bit for every number below n of which p holds. -/
def setB (n : Nat) (p : Nat → Bool) : Nat := setF p 0 n 0
theorem setB_bit (n : Nat) (p : Nat → Bool) (i : Nat) : (setB n p).testBit i = (decide (i < n) && p i) := by
  unfold setB
  rw [setF_bit, Nat.zero_testBit, Nat.zero_add]
  simp
theorem two_same (u : Nat) : 2 ^ u ||| 2 ^ u = 2 ^ u := Nat.or_self _
/-- the theorem of Gallai: a set that holds together and of which every hat may be left has one hat more than its matching. -/
theorem gallai {l : List Int} (hS : Shop l) {C : Nat} (h : C < 2 ^ l.length) (hne : ∃ i, C.testBit i = true) (hc : Conn l C) (hv : ∀ v, C.testBit v = true → nu l C ≤ nu l (sd C (2 ^ v))) : sz C = 2 * nu l C + 1 := by
  obtain ⟨u0, hu0⟩ := hne
  have all : ∀ u, C.testBit u = true → ∀ v, C.testBit v = true → u = v ∨ nu l (sd C (2 ^ u ||| 2 ^ v)) < nu l C := by
    intro u hu
    have hT := hc (setB l.length fun v => decide (u = v) || decide (nu l (sd C (2 ^ u ||| 2 ^ v)) < nu l C))
      ⟨u, hu, by rw [setB_bit, decide_eq_true (bit_lt h hu), decide_eq_true rfl]; rfl⟩
      (fun i k hi hci hck hik => by
        rw [setB_bit, Bool.and_eq_true, Bool.or_eq_true, decide_eq_true_eq, decide_eq_true_eq, decide_eq_true_eq] at hi
        rw [setB_bit, decide_eq_true (bit_lt h hck), Bool.true_and, Bool.or_eq_true, decide_eq_true_eq, decide_eq_true_eq]
        refine (Classical.em (u = k)).imp id fun huk => ?_
        rcases hi.2 with rfl | h1
        · have := nu_pair hS h hu hck hik
          omega
        · refine Nat.not_le.1 fun h2 => ?_
          rcases nu_exch hS h huk h2 (hv i hci) with h3 | h3
          · omega
          · have := nu_pair hS h hci hck hik
            rw [Nat.or_comm] at h3
            omega)
    intro v hcv
    have := hT v hcv
    rw [setB_bit, Bool.and_eq_true, Bool.or_eq_true, decide_eq_true_eq, decide_eq_true_eq, decide_eq_true_eq] at this
    exact this.2
  obtain ⟨X, hX, eX, sX⟩ := bases hS (sd_lt2 (2 ^ u0) h)
  have he : nu l (sd C (2 ^ u0)) = nu l C := Nat.le_antisymm (nu_le1 hS h _) (hv u0 hu0)
  have e : sz C = sz X + 1 := by
    have hl := hS.le
    have xu : X.testBit u0 = false := by
      cases c : X.testBit u0
      · rfl
      · have := sX u0 c; rw [sd_bit, pow_bit] at this; simp at this
    have eC : C = X ||| 2 ^ u0 := bits_eq fun i => by
      rw [or_bit]
      by_cases c1 : u0 = i
      · subst c1; rw [hu0]; simp
      · rw [decide_eq_false c1, Bool.or_false]
        cases c2 : C.testBit i
        · cases c3 : X.testBit i
          · rfl
          · have := sX i c3; rw [sd_bit, c2] at this; exact absurd this (by simp)
        · cases c3 : X.testBit i
          · exfalso
            rcases all u0 hu0 i c2 with h1 | h1
            · exact c1 h1
            · have := hX.max hS (sd_lt2 (2 ^ u0 ||| 2 ^ i) h) (fun k hk => by
                have h2 := sX k hk
                rw [sd_bit, pow_bit] at h2
                rw [sd_two_bit]
                have : i ≠ k := fun e => by rw [← e, c3] at hk; exact absurd hk (by decide)
                simp_all)
              omega
          · rfl
    have := sz_or (X := X) (a := u0) (by have := bit_lt h hu0; omega) xu
    rw [← eC] at this
    exact this
  omega
theorem even_part {l : List Int} (hS : Shop l) {C : Nat} (h : C < 2 ^ l.length) (hv : ∀ v, C.testBit v = true → nu l (sd C (2 ^ v)) < nu l C) : sz C = 2 * nu l C := by
  obtain ⟨X, hX, eX, sX⟩ := bases hS h
  have h2 : sz C ≤ sz X := sz_mono fun i hi => by
    cases c : X.testBit i
    · have h1 := hv i hi
      have := hX.max hS (sd_lt2 (2 ^ i) h) (fun k hk => by
        have h2 := sX k hk
        rw [sd_bit, pow_bit, h2]
        have : i ≠ k := fun e => by rw [← e, c] at hk; exact absurd hk (by decide)
        simp [this])
      omega
    · rfl
  have h3 := sz_mono sX
  omega
theorem sd_of_not {S v : Nat} (h : S.testBit v = false) : sd S (2 ^ v) = S := bits_eq fun i => by
  rw [sd_bit, pow_bit]
  by_cases e : v = i
  · subst e; rw [h]; rfl
  · rw [decide_eq_false e]; simp
theorem Sep.mono {l : List Int} {C H C' H' : Nat} (h : Sep l C H) (h1 : Sub C' C) (h2 : Sub H' H) (h3 : ∀ k, H'.testBit k = true → C'.testBit k = false → C.testBit k = false) : Sep l C' H' := fun i k hi hk hc => h i k (h1 i hi) (h2 k hk) (h3 k hk hc)
/-- parts of which each has only hats that may be left, or none of them. -/
theorem parts_eq {l : List Int} (hS : Shop l) {H : Nat} {P : List Nat} (h : IsParts l H P) : ∀ D : Nat, H < 2 ^ l.length → (∀ v, H.testBit v = true → (D.testBit v = true ↔ nu l H ≤ nu l (sd H (2 ^ v)))) →
    (∀ i k, D.testBit i = true → H.testBit i = true → H.testBit k = true → adj l i k = true → D.testBit k = true) →
    2 * nu l H + oddS P = sz H ∧ ∀ C ∈ P, ((∃ i, C.testBit i = true ∧ D.testBit i = true) → Sub C D ∧ sz C % 2 = 1) ∧ ((¬ ∃ i, C.testBit i = true ∧ D.testBit i = true) → sz C % 2 = 0) := by
  induction h with
  | nil => exact fun D _ _ _ => ⟨rfl, fun C h => by cases h⟩
  | cons H C P hne hs hp hc h ih =>
    intro D hlt hD hE
    have hcl := hs.lt hlt
    have h1 := nu_sep hS hlt hs hp
    have h2 := sz_sub hs
    have inC : ∀ v, C.testBit v = true → (D.testBit v = true ↔ nu l C ≤ nu l (sd C (2 ^ v))) := fun v hv => by
      rw [hD v (hs v hv)]
      have h3 := nu_sep hS (sd_lt2 (2 ^ v) hlt) (C := sd C (2 ^ v)) (fun i hi => by
        rw [sd_bit, Bool.and_eq_true] at hi ⊢
        exact ⟨hs i hi.1, hi.2⟩) (hp.mono (sd_Sub _ _) (sd_Sub _ _) fun k hk hc => by
          rw [sd_bit, Bool.and_eq_true] at hk
          rw [sd_bit, hk.2, Bool.and_true] at hc
          exact hc)
      have e : sd (sd H (2 ^ v)) (sd C (2 ^ v)) = sd H C := bits_eq fun i => by
        rw [sd_bit, sd_bit, sd_bit, sd_bit, pow_bit]
        by_cases c : v = i
        · subst c; rw [hv]; simp
        · simp [c]
      rw [e] at h3
      omega
    have inR : ∀ v, (sd H C).testBit v = true → (D.testBit v = true ↔ nu l (sd H C) ≤ nu l (sd (sd H C) (2 ^ v))) := fun v hv => by
      have hv' := hv
      rw [sd_bit, Bool.and_eq_true, Bool.not_eq_true'] at hv'
      rw [hD v hv'.1]
      have h3 := nu_sep hS (sd_lt2 (2 ^ v) hlt) (C := C) (fun i hi => by
        rw [sd_bit, hs i hi, pow_bit]
        have : v ≠ i := fun e => by rw [← e, hv'.2] at hi; exact absurd hi (by decide)
        simp [this]) (hp.mono (fun _ h => h) (sd_Sub _ _) fun k hk hc => hc)
      rw [sd_comm] at h3
      omega
    obtain ⟨r1, r2⟩ := ih D (sd_lt2 C hlt) inR (fun i k hi hHi hHk hik => hE i k hi (sd_Sub _ _ i hHi) (sd_Sub _ _ k hHk) hik)
    have key : ((∃ i, C.testBit i = true ∧ D.testBit i = true) → Sub C D ∧ sz C = 2 * nu l C + 1) ∧ ((¬ ∃ i, C.testBit i = true ∧ D.testBit i = true) → sz C = 2 * nu l C) := by
      refine ⟨fun hx => ?_, fun hx => even_part hS hcl fun v hv => ?_⟩
      · have hCD := hc D hx (fun i k hi hci hck hik => hE i k hi (hs i hci) (hs k hck) hik)
        exact ⟨hCD, gallai hS hcl hne hc fun v hv => (inC v hv).1 (hCD v hv)⟩
      · exact Nat.not_le.1 fun h => hx ⟨v, hv, (inC v hv).2 h⟩
    refine ⟨?_, fun X hX => ?_⟩
    · simp only [oddS]
      by_cases hx : ∃ i, C.testBit i = true ∧ D.testBit i = true
      · have := (key.1 hx).2; omega
      · have := key.2 hx; omega
    · rcases List.mem_cons.1 hX with rfl | hX
      · exact ⟨fun hx => ⟨(key.1 hx).1, by have := (key.1 hx).2; omega⟩, fun hx => by have := key.2 hx; omega⟩
      · exact r2 X hX
/-- the hats that go with one that may be left are taken away, one by one. -/
theorem strip {l : List Int} (hS : Shop l) {A D : Nat} (hD : ∀ v, v < l.length → (D.testBit v = true ↔ nu l (full l) ≤ nu l (sd (full l) (2 ^ v))))
    (hA : ∀ v, A.testBit v = true → v < l.length ∧ D.testBit v = false ∧ ∃ d, d < l.length ∧ D.testBit d = true ∧ adj l v d = true) :
    ∀ j, nu l (sd (full l) (A % 2 ^ j)) + sz (A % 2 ^ j) = nu l (full l) ∧ ∀ v, (sd (full l) (A % 2 ^ j)).testBit v = true → (D.testBit v = true ↔ nu l (sd (full l) (A % 2 ^ j)) ≤ nu l (sd (sd (full l) (A % 2 ^ j)) (2 ^ v)))
  | 0 => by
    have e : sd (full l) (A % 2 ^ 0) = full l := bits_eq fun i => by
      rw [sd_bit, Nat.testBit_mod_two_pow]; simp
    have e2 : sz (A % 2 ^ 0) = 0 := by rw [Nat.pow_zero, Nat.mod_one]; exact szN_zero 10
    rw [e, e2]
    refine ⟨rfl, fun v hv => hD v ?_⟩
    rw [full_bit] at hv
    exact of_decide_eq_true hv
  | j + 1 => by
    obtain ⟨h1, h2⟩ := strip hS hD hA j
    cases ha : A.testBit j
    · have e : A % 2 ^ (j + 1) = A % 2 ^ j := bits_eq fun i => by
        rw [Nat.testBit_mod_two_pow, Nat.testBit_mod_two_pow]
        by_cases c : i = j
        · subst c; rw [ha]; simp
        · by_cases c2 : i < j
          · rw [decide_eq_true c2, decide_eq_true (show i < j + 1 by omega)]
          · rw [decide_eq_false c2, decide_eq_false (show ¬ i < j + 1 by omega)]
      rw [e]
      exact ⟨h1, h2⟩
    · obtain ⟨hj, hjD, d, hd, hdD, had⟩ := hA j ha
      have e : A % 2 ^ (j + 1) = A % 2 ^ j ||| 2 ^ j := bits_eq fun i => by
        rw [or_bit, Nat.testBit_mod_two_pow, Nat.testBit_mod_two_pow]
        by_cases c : j = i
        · subst c; rw [ha]; simp
        · by_cases c2 : i < j
          · rw [decide_eq_true c2, decide_eq_true (show i < j + 1 by omega)]; simp [c]
          · rw [decide_eq_false c2, decide_eq_false (show ¬ i < j + 1 by omega)]; simp [c]
      have e2 : sd (full l) (A % 2 ^ (j + 1)) = sd (sd (full l) (A % 2 ^ j)) (2 ^ j) := by rw [e, ← sd_sd]
      have hl := hS.le
      have hlt := sd_lt2 (A % 2 ^ j) (full_lt l)
      have sj : (sd (full l) (A % 2 ^ j)).testBit j = true := by
        rw [sd_bit, full_bit, Nat.testBit_mod_two_pow, decide_eq_true hj]; simp
      have sdd : (sd (full l) (A % 2 ^ j)).testBit d = true := by
        rw [sd_bit, full_bit, Nat.testBit_mod_two_pow, decide_eq_true hd]
        cases c : A.testBit d
        · simp
        · have := (hA d c).2.1; rw [hdD] at this; exact absurd this (by decide)
      have nj : nu l (sd (sd (full l) (A % 2 ^ j)) (2 ^ j)) < nu l (sd (full l) (A % 2 ^ j)) := Nat.not_le.1 fun h => by
        rw [(h2 j sj).2 h] at hjD
        exact absurd hjD (by decide)
      have nd := (h2 d sdd).1 hdD
      have ndrop := nu_drop hS hlt j
      rw [e2, e, sz_or (by omega) (by rw [Nat.testBit_mod_two_pow]; simp)]
      refine ⟨by omega, fun v hv => ?_⟩
      rw [sd_bit, pow_bit, Bool.and_eq_true, Bool.not_eq_true', decide_eq_false_iff_not] at hv
      rw [h2 v hv.1]
      constructor
      · intro h
        have := nu_drop hS (sd_lt2 (2 ^ v) hlt) j
        rw [sd_comm (sd (full l) (A % 2 ^ j)) (2 ^ v) (2 ^ j)] at this
        omega
      · intro h
        refine Nat.not_lt.1 fun hc => ?_
        have := nu_stab hS hlt sj sdd had hv.2 nd hc nj
        omega
/-- what VisitsGallai says: the barrier's odd parts. -/
theorem edmonds {l : List Int} (hS : Shop l) {A D : Nat} {P : List Nat} (hAl : A < 2 ^ l.length) (hD : ∀ v, v < l.length → (D.testBit v = true ↔ nu l (full l) ≤ nu l (sd (full l) (2 ^ v))))
    (hA : ∀ v, v < l.length → (A.testBit v = true ↔ D.testBit v = false ∧ ∃ d, d < l.length ∧ D.testBit d = true ∧ adj l v d = true)) (hP : IsParts l (sd (full l) A) P) :
    2 * nu l (full l) + oddS P = l.length + sz A ∧ ∀ C ∈ P, ((∃ i, C.testBit i = true ∧ D.testBit i = true) → Sub C D ∧ sz C % 2 = 1) ∧ ((¬ ∃ i, C.testBit i = true ∧ D.testBit i = true) → sz C % 2 = 0) := by
  have hs := strip hS hD (fun v hv => ⟨bit_lt hAl hv, (hA v (bit_lt hAl hv)).1 hv⟩) l.length
  rw [Nat.mod_eq_of_lt hAl] at hs
  obtain ⟨h1, h2⟩ := parts_eq hS hP D (sd_lt2 A (full_lt l)) hs.2 (fun i k hi hHi hHk hik => by
    have hkl := bit_lt (sd_lt2 A (full_lt l)) hHk
    have hil := bit_lt (sd_lt2 A (full_lt l)) hHi
    cases c : D.testBit k
    · have := (hA k hkl).2 ⟨c, i, hil, hi, by rw [hS.sym k i hkl hil]; exact hik⟩
      rw [sd_bit, this] at hHk
      simp at hHk
    · rfl)
  refine ⟨?_, h2⟩
  have h3 := sz_sub (C := A) (H := full l) (fun i hi => by rw [full_bit]; exact decide_eq_true (bit_lt hAl hi))
  rw [sz_full hS.le] at h3
  omega
/-- no set has a greater difference. -/
theorem berge {l : List Int} (hS : Shop l) {T : Nat} {P : List Nat} (hT : T < 2 ^ l.length) (hP : IsParts l (sd (full l) T) P) : 2 * nu l (full l) + oddS P ≤ l.length + sz T := by
  have h1 := parts_le hS hP (sd_lt2 T (full_lt l))
  have h3 := sz_sub (C := T) (H := full l) (fun i hi => by rw [full_bit]; exact decide_eq_true (bit_lt hT hi))
  rw [sz_full hS.le] at h3
  have : ∀ j, nu l (full l) ≤ nu l (sd (full l) (T % 2 ^ j)) + sz (T % 2 ^ j) := by
    intro j
    induction j with
    | zero =>
      have e : sd (full l) (T % 2 ^ 0) = full l := bits_eq fun i => by
        rw [sd_bit, Nat.testBit_mod_two_pow]; simp
      rw [e]; omega
    | succ j ih =>
      cases ha : T.testBit j
      · have e : T % 2 ^ (j + 1) = T % 2 ^ j := bits_eq fun i => by
          rw [Nat.testBit_mod_two_pow, Nat.testBit_mod_two_pow]
          by_cases c : i = j
          · subst c; rw [ha]; simp
          · by_cases c2 : i < j
            · rw [decide_eq_true c2, decide_eq_true (show i < j + 1 by omega)]
            · rw [decide_eq_false c2, decide_eq_false (show ¬ i < j + 1 by omega)]
        rw [e]; exact ih
      · have e : T % 2 ^ (j + 1) = T % 2 ^ j ||| 2 ^ j := bits_eq fun i => by
          rw [or_bit, Nat.testBit_mod_two_pow, Nat.testBit_mod_two_pow]
          by_cases c : j = i
          · subst c; rw [ha]; simp
          · by_cases c2 : i < j
            · rw [decide_eq_true c2, decide_eq_true (show i < j + 1 by omega)]; simp [c]
            · rw [decide_eq_false c2, decide_eq_false (show ¬ i < j + 1 by omega)]; simp [c]
        have hj := bit_lt hT ha
        have hl := hS.le
        have := nu_drop hS (sd_lt2 (T % 2 ^ j) (full_lt l)) j
        rw [sd_sd, ← e] at this
        rw [e, sz_or (by omega) (by rw [Nat.testBit_mod_two_pow]; simp), ← e]
        omega
  have := this l.length
  rw [Nat.mod_eq_of_lt hT] at this
  omega
end Go.Proofs.YtadfcplobidmeaaDoor.Pure
