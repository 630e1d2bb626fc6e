/- The visits' plain laws: the one who takes the answers of a largest matching is never at a loss. -/
import Derived.Test.YtadfcplobidmeaaDoorVQm
import Derived.Test.YtadfcplobidmeaaDoorVAns
namespace Go.Proofs.YtadfcplobidmeaaDoor.Pure
open Go.RowKit Go.Proofs.YtadfcplobidmeaaDoor.Print Go.Proofs.YtadfcplobidmeaaDoorW.PrintWords Go.Proofs.YtadfcplobidmeaaDoorW.PrintLast Go.Proofs.YtadfcplobidmeaaDoorW.PrintMore
/-- how many pairs begin in the set. -/
def cntU (U : Nat) : List S43 → Nat
  | [] => 0
  | x :: t => (U.testBit x.f0.toNat).toNat + cntU U t
theorem cnt_congr {U U' : Nat} : ∀ (p : List S43), (∀ x ∈ p, U.testBit x.f0.toNat = U'.testBit x.f0.toNat) → cntU U p = cntU U' p
  | [], _ => rfl
  | x :: t, h => by
    simp only [cntU]
    rw [h x List.mem_cons_self, cnt_congr t (fun y hy => h y (List.mem_cons_of_mem _ hy))]
theorem qm_in {l : List Int} : ∀ (p : List S43) (L : Nat), Qm l L p → ∀ x ∈ p, ∃ a b : Nat, x.f0 = a ∧ x.f1 = b ∧ a < b ∧ L.testBit a = true ∧ L.testBit b = true ∧ adj l a b = true
  | [], _, _, x, hx => by cases hx
  | y :: t, L, h, x, hx => by
    obtain ⟨a, b, e1, e2, hab, ha, hb, hadj, hr⟩ := h
    rcases List.mem_cons.1 hx with rfl | hx
    · exact ⟨a, b, e1, e2, hab, ha, hb, hadj⟩
    · obtain ⟨a', b', f1, f2, f3, f4, f5, f6⟩ := qm_in t _ hr x hx
      rw [rest_bit, Bool.and_eq_true, Bool.and_eq_true] at f4 f5
      exact ⟨a', b', f1, f2, f3, f4.1.1, f5.1.1, f6⟩
theorem qm_dj {l : List Int} : ∀ (p : List S43) (L : Nat), Qm l L p → ∀ y ∈ p, ∀ x ∈ p, y ≠ x → y.f0 ≠ x.f0 ∧ y.f0 ≠ x.f1 ∧ y.f1 ≠ x.f0 ∧ y.f1 ≠ x.f1
  | [], _, _, y, hy, _, _, _ => by cases hy
  | z :: t, L, h, y, hy, x, hx, hne => by
    obtain ⟨a, b, e1, e2, hab, ha, hb, hadj, hr⟩ := h
    have tl : ∀ w ∈ t, ∃ c d : Nat, w.f0 = c ∧ w.f1 = d ∧ a < c ∧ a < d ∧ b ≠ c ∧ b ≠ d := fun w hw => by
      obtain ⟨c, d, f1, f2, f3, f4, f5, f6⟩ := qm_in t _ hr w hw
      rw [rest_bit] at f4 f5
      simp only [Bool.and_eq_true, Bool.not_eq_true', decide_eq_false_iff_not] at f4 f5
      exact ⟨c, d, f1, f2, by omega, by omega, f4.2, f5.2⟩
    rcases List.mem_cons.1 hy with hyz | hyt
    · rcases List.mem_cons.1 hx with hxz | hxt
      · exact absurd (hyz.trans hxz.symm) hne
      · obtain ⟨c, d, f1, f2, f3, f4, f5, f6⟩ := tl x hxt
        subst hyz
        omega
    · rcases List.mem_cons.1 hx with hxz | hxt
      · obtain ⟨c, d, f1, f2, f3, f4, f5, f6⟩ := tl y hyt
        subst hxz
        omega
      · exact qm_dj t _ hr y hyt x hxt hne
theorem qm_cnt {l : List Int} (U S : Nat) : ∀ (p : List S43) (L : Nat), Qm l L p → (∀ x ∈ p, U.testBit x.f0.toNat = true → S.testBit x.f0.toNat = true ∧ S.testBit x.f1.toNat = true) → Mt l (L &&& S) (cntU U p)
  | [], L, _, _ => Mt.nil _
  | x :: t, L, h, hs => by
    obtain ⟨a, b, e1, e2, hab, ha, hb, hadj, hr⟩ := h
    have hrec := qm_cnt U S t _ hr (fun y hy => hs y (List.mem_cons_of_mem _ hy))
    have hx := hs x List.mem_cons_self
    rw [e1, e2, Int.toNat_natCast, Int.toNat_natCast] at hx
    have sub : ∀ i, (rest L a b &&& S).testBit i = true → (L.testBit i = true ∧ S.testBit i = true) ∧ a ≠ i ∧ b ≠ i := fun i hi => by
      rw [Nat.testBit_and, rest_bit] at hi
      simp only [Bool.and_eq_true, Bool.not_eq_true', decide_eq_false_iff_not] at hi
      exact ⟨⟨hi.1.1.1, hi.2⟩, by omega, hi.1.2⟩
    simp only [cntU]
    rw [e1, Int.toNat_natCast]
    cases c : U.testBit a
    · rw [Bool.toNat_false, Nat.zero_add]
      exact hrec.mono fun i hi => by rw [Nat.testBit_and, (sub i hi).1.1, (sub i hi).1.2]; rfl
    · rw [Bool.toNat_true, Nat.add_comm]
      refine Mt.cons _ a b _ (by rw [Nat.testBit_and, ha, (hx c).1]; rfl) (by rw [Nat.testBit_and, hb, (hx c).2]; rfl) hadj (hrec.mono fun i hi => ?_)
      obtain ⟨⟨q1, q2⟩, q3, q4⟩ := sub i hi
      rw [sd_bit, two_bit, Nat.testBit_and, q1, q2, decide_eq_false q3, decide_eq_false q4]
      rfl
theorem cnt_drop {l : List Int} {U U' A B : Nat} (hU : ∀ i, U'.testBit i = (U.testBit i && !(decide (A = i) || decide (B = i)))) (hA : U.testBit A = true) : ∀ (p : List S43) (L : Nat), Qm l L p → ∀ x ∈ p, x.f0 = (A : Int) → x.f1 = (B : Int) → cntU U p = cntU U' p + 1
  | [], _, _, x, hx, _, _ => by cases hx
  | y :: t, L, h, x, hx, ea, eb => by
    obtain ⟨a, b, e1, e2, hab, ha, hb, hadj, hr⟩ := h
    have tl := qm_in t _ hr
    rcases List.mem_cons.1 hx with rfl | hx
    · obtain rfl : a = A := by omega
      obtain rfl : b = B := by omega
      simp only [cntU]
      rw [e1, Int.toNat_natCast, hU, hA, cnt_congr (U := U) (U' := U') t (fun z hz => by
        obtain ⟨c, d, f1, f2, f3, f4, f5, f6⟩ := tl z hz
        rw [rest_bit] at f4
        simp only [Bool.and_eq_true, Bool.not_eq_true', decide_eq_false_iff_not] at f4
        rw [f1, Int.toNat_natCast, hU, decide_eq_false (show ¬ a = c by omega), decide_eq_false (show ¬ b = c by omega)]
        simp)]
      rw [decide_eq_true rfl]
      simp only [Bool.true_or, Bool.not_true, Bool.and_false, Bool.toNat_true, Bool.toNat_false]
      omega
    · obtain ⟨c, d, f1, f2, f3, f4, f5, f6⟩ := tl x hx
      rw [rest_bit] at f4 f5
      simp only [Bool.and_eq_true, Bool.not_eq_true', decide_eq_false_iff_not] at f4 f5
      have := cnt_drop hU hA t _ hr x hx ea eb
      simp only [cntU]
      rw [e1, Int.toNat_natCast, hU, decide_eq_false (show ¬ A = a by omega), decide_eq_false (show ¬ B = a by omega), this]
      simp only [Bool.or_self, Bool.not_false, Bool.and_true]
      omega
theorem ansL_or (a : Int) : ∀ p : List S43, (ansL a p = (-1, 0) ∧ ∀ x ∈ p, x.f0 ≠ a ∧ x.f1 ≠ a) ∨ ∃ x ∈ p, (x.f0 = a ∧ ansL a p = (x.f1, 0)) ∨ (x.f1 = a ∧ ansL a p = (x.f0, 0))
  | [] => Or.inl ⟨rfl, fun x hx => by cases hx⟩
  | y :: t => by
    simp only [ansL]
    by_cases h1 : a = y.f0
    · rw [if_pos h1]
      exact Or.inr ⟨y, List.mem_cons_self, Or.inl ⟨h1.symm, rfl⟩⟩
    · rw [if_neg h1]
      by_cases h2 : a = y.f1
      · rw [if_pos h2]
        exact Or.inr ⟨y, List.mem_cons_self, Or.inr ⟨h2.symm, rfl⟩⟩
      · rw [if_neg h2]
        rcases ansL_or a t with ⟨e, h⟩ | ⟨x, hx, h⟩
        · refine Or.inl ⟨e, fun x hx => ?_⟩
          rcases List.mem_cons.1 hx with rfl | hx
          · exact ⟨fun e => h1 e.symm, fun e => h2 e.symm⟩
          · exact h x hx
        · exact Or.inr ⟨x, List.mem_cons_of_mem _ hx, h⟩
/-- the one who is next is not at a loss: the last hat is needed among those that are left, of which the matching is a largest one. -/
structure Inv (l : List Int) (p : List S43) (V last : Nat) : Prop where
  lt : V < 2 ^ l.length
  ll : last < l.length
  mem : V.testBit last = true
  need : nu l (sd (full l) V) < nu l (sd (full l) V ||| 2 ^ last)
  clo : ∀ x ∈ p, (sd (full l) V ||| 2 ^ last).testBit x.f0.toNat = (sd (full l) V ||| 2 ^ last).testBit x.f1.toNat
  cnt : cntU (sd (full l) V ||| 2 ^ last) p = nu l (sd (full l) V ||| 2 ^ last)
theorem full_and {l : List Int} {S : Nat} (h : S < 2 ^ l.length) : full l &&& S = S := bits_eq fun i => by
  rw [Nat.testBit_and, full_bit]
  cases c : S.testBit i
  · simp
  · rw [decide_eq_true (bit_lt h c)]; rfl
theorem Inv.step {l : List Int} (hS : Shop l) {p : List S43} (hp : isMat l p = true) {V last : Nat} (h : Inv l p V last) :
    ∃ a : Nat, ansL (last : Int) p = ((a : Int), 0) ∧ a < l.length ∧ V.testBit a = false ∧ adj l last a = true ∧ ∀ k, k < l.length → adj l a k = true → (V ||| 2 ^ a).testBit k = false → Inv l p (V ||| 2 ^ a ||| 2 ^ k) k := by
  obtain ⟨hV, hl, hb, hneed, hclo, hcnt⟩ := h
  have hq := mat_qm hp
  have uR : sd (full l) V < 2 ^ l.length := Nat.lt_of_le_of_lt (sd_le _ _) (full_lt l)
  have hUl : sd (full l) V ||| 2 ^ last < 2 ^ l.length := or_lt uR hl
  have Rb : ∀ i, (sd (full l) V).testBit i = (decide (i < l.length) && !V.testBit i) := fun i => by rw [sd_bit, full_bit]
  have Ub : ∀ i, (sd (full l) V ||| 2 ^ last).testBit i = ((decide (i < l.length) && !V.testBit i) || decide (last = i)) := fun i => by rw [or_bit, Rb]
  have R_of : sd (sd (full l) V ||| 2 ^ last) (2 ^ last) = sd (full l) V := bits_eq fun i => by
    rw [sd_bit, Ub, Rb, pow_bit]
    by_cases c : last = i
    · subst c; rw [hb]; simp
    · simp [c]
  generalize hU : sd (full l) V ||| 2 ^ last = U at hneed hclo hcnt hUl Ub R_of ⊢
  have main : ∀ x ∈ p, ∀ a : Nat, ((x.f0 = (last : Int) ∧ x.f1 = (a : Int)) ∨ (x.f1 = (last : Int) ∧ x.f0 = (a : Int))) → a < l.length ∧ V.testBit a = false ∧ adj l last a = true ∧ ∀ k, k < l.length → adj l a k = true → (V ||| 2 ^ a).testBit k = false → Inv l p (V ||| 2 ^ a ||| 2 ^ k) k := by
    intro x hx a hxa
    obtain ⟨A, B, e1, e2, hAB, hA, hB, hadj⟩ := qm_in p _ hq x hx
    rw [full_bit, decide_eq_true_eq] at hA hB
    have hAB' : (A = last ∧ B = a) ∨ (B = last ∧ A = a) := by omega
    have hal : a < l.length := by omega
    have hla : adj l last a = true := by
      rcases hAB' with ⟨rfl, rfl⟩ | ⟨rfl, rfl⟩
      · exact hadj
      · rw [hS.sym _ _ hl hal]; exact hadj
    have hne : last ≠ a := by omega
    have hUlast : U.testBit last = true := by rw [Ub]; simp
    have hUa : U.testBit a = true := by
      have := hclo x hx
      rw [e1, e2, Int.toNat_natCast, Int.toNat_natCast] at this
      rcases hAB' with ⟨rfl, rfl⟩ | ⟨rfl, rfl⟩
      · rw [← this]; exact hUlast
      · rw [this]; exact hUlast
    have hVa : V.testBit a = false := by
      rw [Ub, decide_eq_false hne, Bool.or_false, Bool.and_eq_true] at hUa
      simpa using hUa.2
    refine ⟨hal, hVa, hla, fun k hk hak hVk => ?_⟩
    rw [or_bit] at hVk
    simp only [Bool.or_eq_false_iff, decide_eq_false_iff_not] at hVk
    obtain ⟨hVk1, hak'⟩ := hVk
    have hlk : last ≠ k := fun e => by rw [e, hVk1] at hb; exact absurd hb (by decide)
    have R'b : ∀ i, (sd (full l) (V ||| 2 ^ a ||| 2 ^ k)).testBit i = (decide (i < l.length) && !(V.testBit i || decide (a = i) || decide (k = i))) := fun i => by rw [sd_bit, full_bit, or_bit, or_bit]
    have U'e : sd (full l) (V ||| 2 ^ a ||| 2 ^ k) ||| 2 ^ k = sd U (2 ^ last ||| 2 ^ a) := bits_eq fun i => by
      rw [or_bit, R'b, sd_bit, two_bit, Ub]
      by_cases c1 : k = i
      · subst c1; rw [decide_eq_true hk, hVk1]; simp [hlk, hak']
      · by_cases c2 : last = i
        · subst c2; rw [hb]; simp [c1]
        · simp [c1, c2, Bool.and_assoc]
    have R'e : sd (sd (full l) V) (2 ^ a ||| 2 ^ k) = sd (full l) (V ||| 2 ^ a ||| 2 ^ k) := bits_eq fun i => by
      rw [R'b, sd_bit, two_bit, Rb]
      cases V.testBit i <;> cases decide (a = i) <;> cases decide (k = i) <;> simp
    have hU' : ∀ i, (sd U (2 ^ last ||| 2 ^ a)).testBit i = (U.testBit i && !(decide (last = i) || decide (a = i))) := fun i => by rw [sd_bit, two_bit]
    have hclo' : ∀ y ∈ p, (sd U (2 ^ last ||| 2 ^ a)).testBit y.f0.toNat = (sd U (2 ^ last ||| 2 ^ a)).testBit y.f1.toNat := fun y hy => by
      by_cases hyx : y = x
      · subst hyx
        rw [hU', hU', e1, e2, Int.toNat_natCast, Int.toNat_natCast]
        rcases hAB' with ⟨rfl, rfl⟩ | ⟨rfl, rfl⟩ <;> simp
      · have hd := qm_dj p _ hq y hy x hx hyx
        rw [hU', hU', hclo y hy]
        obtain ⟨A', B', g1, g2, _⟩ := qm_in p _ hq y hy
        rw [e1, e2, g1, g2] at hd
        rw [g1, g2, Int.toNat_natCast, Int.toNat_natCast]
        obtain ⟨d1, d2, d3, d4⟩ := hd
        rw [decide_eq_false (show ¬ last = A' by omega), decide_eq_false (show ¬ last = B' by omega), decide_eq_false (show ¬ a = A' by omega), decide_eq_false (show ¬ a = B' by omega)]
    have hcnt' : cntU U p = cntU (sd U (2 ^ last ||| 2 ^ a)) p + 1 := by
      rcases hAB' with ⟨r1, r2⟩ | ⟨r1, r2⟩
      · exact cnt_drop hU' hUlast p _ hq x hx (by rw [e1, r1]) (by rw [e2, r2])
      · refine cnt_drop (A := a) (B := last) (fun i => ?_) hUa p _ hq x hx (by rw [e1, r2]) (by rw [e2, r1])
        rw [hU', Bool.or_comm (decide (last = i))]
    have u2 : sd U (2 ^ last ||| 2 ^ a) < 2 ^ l.length := Nat.lt_of_le_of_lt (sd_le _ _) hUl
    have m1 := qm_cnt (sd U (2 ^ last ||| 2 ^ a)) (sd U (2 ^ last ||| 2 ^ a)) p _ hq (fun y hy hy0 => ⟨hy0, by rw [← hclo' y hy]; exact hy0⟩)
    rw [full_and u2] at m1
    have m2 := (nu_mt hS _ u2).2 _ m1
    have m3 := nu_pair hS hUl hUlast hUa hla
    have m4 := nu_pair hS uR (a := a) (b := k) (by rw [Rb, hVa, decide_eq_true hal]; rfl) (by rw [Rb, hVk1, decide_eq_true hk]; rfl) hak
    rw [R'e] at m4
    refine ⟨or_lt (or_lt hV hal) hk, hk, by rw [or_bit]; simp, ?_, ?_, ?_⟩
    · rw [U'e]; omega
    · rw [U'e]; exact hclo'
    · rw [U'e]; omega
  rcases ansL_or (last : Int) p with ⟨_, hno⟩ | ⟨x, hx, hxa⟩
  · exfalso
    have m1 := qm_cnt U (sd U (2 ^ last)) p _ hq (fun y hy hy0 => by
      obtain ⟨A', B', g1, g2, _⟩ := qm_in p _ hq y hy
      have hn := hno y hy
      have hc := hclo y hy
      rw [g1, g2, Int.toNat_natCast, Int.toNat_natCast] at hc
      rw [g1, Int.toNat_natCast] at hy0
      rw [g1, g2] at hn
      rw [g1, g2, Int.toNat_natCast, Int.toNat_natCast, sd_bit, sd_bit, pow_bit, pow_bit, ← hc, hy0, decide_eq_false (show ¬ last = A' by omega), decide_eq_false (show ¬ last = B' by omega)]
      exact ⟨rfl, rfl⟩)
    rw [R_of, full_and uR] at m1
    have := (nu_mt hS _ uR).2 _ m1
    omega
  · obtain ⟨A, B, e1, e2, _⟩ := qm_in p _ hq x hx
    rcases hxa with ⟨h1, h2⟩ | ⟨h1, h2⟩
    · obtain ⟨q1, q2, q3, q4⟩ := main x hx B (Or.inl ⟨h1, e2⟩)
      exact ⟨B, by rw [h2, e2], q1, q2, q3, q4⟩
    · obtain ⟨q1, q2, q3, q4⟩ := main x hx A (Or.inr ⟨h1, e1⟩)
      exact ⟨A, by rw [h2, e1], q1, q2, q3, q4⟩
end Go.Proofs.YtadfcplobidmeaaDoor.Pure
