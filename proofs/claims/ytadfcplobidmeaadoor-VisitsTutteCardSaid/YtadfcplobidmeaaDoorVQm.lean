/- The visits' plain laws: a matching, pair by pair, in what is left; the first largest one is the least. -/
import Derived.Test.YtadfcplobidmeaaDoorVLargeF
namespace Go.Proofs.YtadfcplobidmeaaDoor.Pure
open Go.RowKit Go.Proofs.YtadfcplobidmeaaDoor.Print Go.Proofs.YtadfcplobidmeaaDoorW.PrintWords Go.Proofs.YtadfcplobidmeaaDoorW.PrintLast Go.Proofs.YtadfcplobidmeaaDoorW.PrintMore
/-- pairs of hats that are left, each behind the one before. -/
def Qm (l : List Int) : Nat → List S43 → Prop
  | _, [] => True
  | L, x :: t => ∃ a b : Nat, x.f0 = a ∧ x.f1 = b ∧ a < b ∧ L.testBit a = true ∧ L.testBit b = true ∧ adj l a b = true ∧ Qm l (rest L a b) t
theorem qm_of {l : List Int} : ∀ (p : List S43) (used : Nat) (prev : Option Int) (L : Nat), mtB l p used prev = true →
    (∀ i, i < l.length → used.testBit i = false → (∀ a, prev = some a → a < (i : Int)) → L.testBit i = true) → Qm l L p
  | [], _, _, _, _, _ => trivial
  | x :: t, used, prev, L, h, hL => by
    simp only [mtB, Bool.and_eq_true] at h
    obtain ⟨⟨h1, h2⟩, h3⟩ := h
    obtain ⟨a, b, e1, e2, hab, hb, hadj, ua, ub⟩ := pairOk_at h1
    have pa : ∀ q, prev = some q → q < (a : Int) := fun q hq => by
      subst hq
      have := of_decide_eq_true h2
      omega
    refine ⟨a, b, e1, e2, hab, hL a (by omega) ua pa, hL b hb ub (fun q hq => by have := pa q hq; omega), hadj, qm_of t _ _ _ h3 fun i hi hu hp => ?_⟩
    have ha := hp _ rfl
    rw [e1] at ha
    unfold usedOf at hu
    rw [e1, e2, Int.toNat_natCast, Int.toNat_natCast, or_bit, or_bit] at hu
    simp only [Bool.or_eq_false_iff, decide_eq_false_iff_not] at hu
    rw [rest_bit, hL i hi hu.1.1 (fun q hq => by have := pa q hq; omega), decide_eq_false (show ¬ i < a + 1 by omega), decide_eq_false hu.2]
    rfl
theorem mat_qm {l : List Int} {p : List S43} (h : isMat l p = true) : Qm l (full l) p :=
  qm_of p 0 none (full l) h fun i hi _ _ => by rw [full_bit]; exact decide_eq_true hi
theorem Qm.mt {l : List Int} : ∀ (p : List S43) (L : Nat), Qm l L p → Mt l L p.length
  | [], L, _ => Mt.nil L
  | x :: t, L, h => by
    obtain ⟨a, b, e1, e2, hab, ha, hb, hadj, hr⟩ := h
    refine Mt.cons L a b t.length ha hb hadj ((Qm.mt t _ hr).mono fun i hi => ?_)
    rw [rest_bit] at hi
    simp only [Bool.and_eq_true, Bool.not_eq_true', decide_eq_false_iff_not] at hi
    rw [sd_bit, two_bit, hi.1.1, decide_eq_false hi.2, decide_eq_false (show ¬ a = i by omega)]
    rfl
theorem mat_le {l : List Int} (hS : Shop l) {p : List S43} (h : isMat l p = true) : p.length ≤ nu l (full l) := (nu_mt hS _ (full_lt l)).2 _ ((mat_qm h).mt p _)
theorem rowF_first (l : List Int) (L a : Nat) : ∀ m j b, rowF l L a j m = some b → ∀ b', j ≤ b' → b' < b → okP l L a b' = false
  | 0, _, _, h => by cases h
  | m + 1, j, b, h => by
    simp only [rowF] at h
    by_cases c : okP l L a j = true
    · rw [if_pos c] at h
      obtain rfl := Option.some.inj h
      intro b' h1 h2; omega
    · rw [if_neg c] at h
      intro b' h1 h2
      by_cases e : b' = j
      · subst e; exact Bool.eq_false_iff.2 c
      · exact rowF_first l L a m (j + 1) b h b' (by omega) h2
/-- the second list is the first, or less where they part. -/
def lexB : List S43 → List S43 → Bool
  | [], _ => true
  | _ :: _, [] => false
  | y :: p, z :: x => if (y.f0 == z.f0 && y.f1 == z.f1) = true then lexB p x else decide (z.f0 < y.f0 ∨ (z.f0 = y.f0 ∧ z.f1 < y.f1))
theorem okP_mk {l : List Int} {L a b : Nat} (h1 : L.testBit a = true) (h2 : adj l a b = true) (h3 : L.testBit b = true) (h4 : nu l (rest L a b) + 1 = nu l L) : okP l L a b = true := by
  unfold okP
  rw [h1, h2, h3, decide_eq_true h4]
  rfl
theorem scan_lex {l : List Int} (hS : Shop l) : ∀ m L a q, L < 2 ^ l.length → a + m = l.length → NoOk l L a → Qm l L q → q.length = nu l L → lexB q (scan l L a m) = true
  | 0, L, a, q, hL, ha, hN, hq, hlen => by
    have := scan_length hS 0 L a hL ha hN
    simp only [scan, List.length_nil] at this
    obtain rfl : q = [] := List.eq_nil_of_length_eq_zero (by omega)
    rfl
  | m + 1, L, a, q, hL, ha, hN, hq, hlen => by
    simp only [scan]
    cases hr : rowF l L a (a + 1) m with
    | none => exact scan_lex hS m L (a + 1) q hL (by omega) (noOk_next hL ha hN hr) hq hlen
    | some b =>
      obtain ⟨h1, h2, h3⟩ := rowF_some l L a m (a + 1) b hr
      obtain ⟨k1, k2, k3, k4⟩ := okP_at h3
      match q, hq, hlen with
      | [], _, hlen => simp only [List.length_nil] at hlen; omega
      | x :: t, hq, hlen =>
        obtain ⟨a', b', e1, e2, hab, ha', hb', hadj, ht⟩ := hq
        have hrl := rest_le L a' b'
        have t1 := (nu_mt hS (rest L a' b') (by omega)).2 _ (ht.mt t _)
        have t2 := nu_pair hS hL ha' hb' hadj
        have t3 := nu_mono hS (show rest L a' b' < 2 ^ l.length by omega) (Nat.lt_of_le_of_lt (sd_le L (2 ^ a' ||| 2 ^ b')) hL) (fun i hi => by
          rw [rest_bit] at hi
          simp only [Bool.and_eq_true, Bool.not_eq_true', decide_eq_false_iff_not] at hi
          rw [sd_bit, two_bit, hi.1.1, decide_eq_false hi.2, decide_eq_false (show ¬ a' = i by omega)]
          rfl)
        simp only [List.length_cons] at hlen
        have hok := okP_mk ha' hadj hb' (show nu l (rest L a' b') + 1 = nu l L by omega)
        have g1 : a ≤ a' := Nat.not_lt.1 fun h => by
          rw [hN a' b' h hab] at hok
          exact absurd hok (by decide)
        simp only [lexB]
        by_cases c1 : a = a'
        · subst c1
          have g2 : b ≤ b' := Nat.not_lt.1 fun h => by
            rw [rowF_first l L a m (a + 1) b hr b' (by omega) h] at hok
            exact absurd hok (by decide)
          by_cases c2 : b = b'
          · subst c2
            rw [if_pos (by rw [e1, e2]; simp)]
            exact scan_lex hS m (rest L a b) (a + 1) t (by omega) (by omega) (noOk_rest l L a b) ht (by omega)
          · rw [if_neg (by rw [e1, e2]; simp; omega)]
            exact decide_eq_true (Or.inr ⟨e1.symm, by rw [e2]; show (b : Int) < b'; omega⟩)
        · rw [if_neg (by rw [e1, e2]; simp; omega)]
          exact decide_eq_true (Or.inl (by rw [e1]; show (a : Int) < a'; omega))
theorem first_lex {l : List Int} (hS : Shop l) {p : List S43} (h : isMat l p = true) (hl : p.length = (first1 l).length) : lexB p (first1 l) = true :=
  scan_lex hS _ _ 0 p (full_lt l) (by omega) (fun a' b' h _ => by omega) (mat_qm h) (by rw [hl, first_length hS])
end Go.Proofs.YtadfcplobidmeaaDoor.Pure
