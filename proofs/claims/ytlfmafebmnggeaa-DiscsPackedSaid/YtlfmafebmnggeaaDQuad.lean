/- A quad: the equation of Descartes, by the program's test and by the specification's. -/
import Derived.Test.YtlfmafebmnggeaaDBig
import Derived.Test.YtlfmafebmnggeaaPrintx3
namespace Go.Proofs.Ytlfmafebmnggeaa.Pure
open Go.RowKit Go.Proofs.Ytlfmafebmnggeaa.Print Go.Proofs.YtlfmafebmnggeaaW.PrintWords Go.Proofs.YtlfmafebmnggeaaW.PrintLast
set_option linter.unusedVariables false
set_option linter.unusedSimpArgs false
def InR (x : Int) : Prop := -1099511627776 ≤ x ∧ x ≤ 1099511627776
instance (x : Int) : Decidable (InR x) := inferInstanceAs (Decidable (_ ∧ _))
/-- Four bends in range that make a quad. -/
def IsQ (a b c d : Int) : Prop := (InR a ∧ InR b ∧ InR c ∧ InR d) ∧ 0 < a + b + c + d ∧ (a + b + c + d) * (a + b + c + d) = 2 * (a * a + b * b + c * c + d * d)
instance (a b c d : Int) : Decidable (IsQ a b c d) := inferInstanceAs (Decidable (_ ∧ _))
theorem dec_iff {p q : Prop} [Decidable p] [Decidable q] (h : p ↔ q) : some (decide p) = some (decide q) := congrArg some (decide_eq_decide.2 h)
theorem soddy (a b c d : Int) : (a + b + c + d) * (a + b + c + d) = 2 * (a * a + b * b + c * c + d * d) ↔ (d - a - b - c) * (d - a - b - c) = 4 * (a * b + (a + b) * c) := by
  constructor
  · intro h; grind
  · intro h; grind
theorem sq_even (x y : Int) (h : x * x = 4 * y) : x % 2 = 0 := by
  rcases Int.emod_two_eq x with h0 | h0
  · exact h0
  · obtain ⟨m, rfl⟩ : ∃ m, x = 2 * m + 1 := ⟨x / 2, by omega⟩
    have : (2 * m + 1) * (2 * m + 1) = 4 * (m * m + m) + 1 := by grind
    omega
theorem far_in (x : Int) : farB x = true ↔ ¬ InR x := by
  unfold farB InR
  rw [Bool.or_eq_true, decide_eq_true_iff, decide_eq_true_iff]
  omega
theorem is_f (a b c d : Int) : discs_quad_is.f a b c d = some (decide (IsQ a b c d)) := by
  unfold discs_quad_is.f quad_is.f
  simp only
  by_cases ha : InR a
  rotate_left
  · rw [if_pos ((far_in a).2 ha), decide_eq_false (fun h => ha h.1.1)]
  by_cases hb : InR b
  rotate_left
  · rw [if_neg (fun h => (far_in a).1 h ha), if_pos ((far_in b).2 hb), decide_eq_false (fun h => hb h.1.2.1)]
  by_cases hc : InR c
  rotate_left
  · rw [if_neg (fun h => (far_in a).1 h ha), if_neg (fun h => (far_in b).1 h hb), if_pos ((far_in c).2 hc), decide_eq_false (fun h => hc h.1.2.2.1)]
  by_cases hd : InR d
  rotate_left
  · rw [if_neg (fun h => (far_in a).1 h ha), if_neg (fun h => (far_in b).1 h hb), if_neg (fun h => (far_in c).1 h hc), if_pos ((far_in d).2 hd), decide_eq_false (fun h => hd h.1.2.2.2)]
  rw [if_neg (fun h => (far_in a).1 h ha), if_neg (fun h => (far_in b).1 h hb), if_neg (fun h => (far_in c).1 h hc), if_neg (fun h => (far_in d).1 h hd)]
  unfold InR at ha hb hc hd
  have eh : halfF ⟨a, b, c, d⟩ = d - a - b - c := by
    unfold halfF
    simp only
    rw [w64 (n := d - a) (by omega) (by omega), w64 (n := d - a - b) (by omega) (by omega), w64 (by omega) (by omega)]
  have es : sumF ⟨a, b, c, d⟩ = a + b + c + d := by
    unfold sumF
    simp only
    rw [w64 (n := a + b) (by omega) (by omega), w64 (n := a + b + c) (by omega) (by omega), w64 (by omega) (by omega)]
  rw [eh, es]
  by_cases h2 : (d - a - b - c) % 2 = 0
  rotate_left
  · have ht : ¬ Int.tmod (d - a - b - c) 2 = 0 := by
      intro h
      have := Int.dvd_of_tmod_eq_zero h
      omega
    rw [if_pos ht, decide_eq_false]
    intro h
    exact h2 (sq_even _ _ ((soddy a b c d).1 h.2.2))
  have ht : Int.tmod (d - a - b - c) 2 = 0 := Int.tmod_eq_zero_of_dvd (by omega)
  rw [if_neg (by rw [ht]; simp)]
  by_cases h0 : a + b + c + d ≤ 0
  · rw [if_pos h0, decide_eq_false]
    intro h
    have := h.2.1
    omega
  rw [if_neg h0]
  obtain ⟨x, hx⟩ : ∃ x, d - a - b - c = 2 * x := ⟨(d - a - b - c) / 2, by omega⟩
  have htd : Int.tdiv (d - a - b - c) 2 = x := by rw [hx]; exact Int.mul_tdiv_cancel_left x (by omega)
  rw [htd, w64 (n := x) (by omega) (by omega), square_f x a b c (by omega) (by omega) (by omega) (by omega) (by omega) (by omega) (by omega) (by omega)]
  have hs := soddy a b c d
  rw [hx] at hs
  have hq : (2 * x) * (2 * x) = 4 * (x * x) := by grind
  rw [hq] at hs
  refine dec_iff ?_
  unfold IsQ InR
  constructor
  · intro h
    exact ⟨⟨ha, hb, hc, hd⟩, by omega, hs.2 (by omega)⟩
  · intro h
    have := hs.1 h.2.2
    omega
theorem IsQuad_f (a b c d : Int) : discs_IsQuad.f a b c d = some (decide (IsQ a b c d)) := by
  unfold discs_IsQuad.f; rw [is_f]; rfl
/-! ### the specification's -/
theorem inr_f (x : Int) : clocheref01_InRange.f x = some (decide (InR x)) := by
  unfold clocheref01_InRange.f InR
  by_cases h : x ≥ -1099511627776
  · rw [if_pos h]; exact dec_iff (by omega)
  · rw [if_neg h]; exact (congrArg some (decide_eq_false (by omega))).symm
theorem Rep.mono {b : Bool} {l : List Int} {v : Int} {n m : Nat} (h : Rep b l v n) (g : n ≤ m) : Rep b l v m := ⟨h.dg, h.nz, Nat.le_trans h.len g, h.eq, h.neg⟩
theorem quad_round {a b c d : Int} {S Q : Bool × List Int} {s q : Int} {n m : Nat} (hS : Rep S.1 S.2 s n) (hQ : Rep Q.1 Q.2 q m) (hn : 5 ≤ n) (hm : 10 ≤ m) (hn2 : n ≤ 40) (hm2 : m ≤ 40) (i : Int) (i0 : 0 ≤ i) (i4 : i < 4) (hin : InR (at4 a b c d i)) (k : Nat) (hk : 4000 ≤ k) :
    ∃ S' Q' : Bool × List Int, clocheref01_IsQuad.l0 (k + 1) i a b c d S.1 S.2 Q.1 Q.2 = clocheref01_IsQuad.l0 k (i + 1) a b c d S'.1 S'.2 Q'.1 Q'.2 ∧ Rep S'.1 S'.2 (s + at4 a b c d i) (n + 1) ∧ Rep Q'.1 Q'.2 (q + at4 a b c d i * at4 a b c d i) (m + 1) := by
  have hin' := hin
  unfold InR at hin'
  rw [clocheref01_IsQuad.l0, if_pos i4, if_pos i0, inr_f, decide_eq_true hin, Option.bind_some, if_pos rfl]
  obtain ⟨x, e1, r1⟩ := Of_f (at4 a b c d i) (by omega) (by omega) k (by omega)
  obtain ⟨S', e2, r2⟩ := Plus_f hS (r1.mono hn) (by omega) k hk
  obtain ⟨y, e3, r3⟩ := Times_f r1 r1 (by omega) k hk
  obtain ⟨Q', e4, r4⟩ := Plus_f hQ (r3.mono hm) (by omega) k hk
  rw [e1, Option.bind_some, e2, Option.bind_some, Option.bind_some, Option.bind_some, e3, Option.bind_some, e4, Option.bind_some, w64 (by omega) (by omega)]
  exact ⟨S', Q', rfl, r2, r4⟩
theorem quad_out {a b c d : Int} {S Q : Bool × List Int} (i : Int) (i0 : 0 ≤ i) (i4 : i < 4) (hin : ¬ InR (at4 a b c d i)) (k : Nat) : clocheref01_IsQuad.l0 (k + 1) i a b c d S.1 S.2 Q.1 Q.2 = some false := by
  rw [clocheref01_IsQuad.l0, if_pos i4, if_pos i0, inr_f, decide_eq_false hin, Option.bind_some, if_neg (by simp)]
theorem RefIsQuad_f (a b c d : Int) (k : Nat) (hk : 4010 ≤ k) : clocheref01_IsQuad.f k a b c d = some (decide (IsQ a b c d)) := by
  unfold clocheref01_IsQuad.f
  obtain ⟨z, e0, r0⟩ := Of_f 0 (by omega) (by omega) k (by omega)
  rw [e0, Option.bind_some, Option.bind_some]
  obtain ⟨k, rfl⟩ : ∃ j, k = j + 5 := ⟨k - 5, by omega⟩
  by_cases ha : InR a
  rotate_left
  · rw [decide_eq_false (fun h => ha h.1.1)]
    exact quad_out 0 (by omega) (by omega) (by rw [at4_0]; exact ha) _
  obtain ⟨S1, Q1, e1, s1, q1⟩ := quad_round (a := a) (b := b) (c := c) (d := d) r0 (r0.mono (show 5 ≤ 10 by omega)) (by omega) (by omega) (by omega) (by omega) 0 (by omega) (by omega) (by rw [at4_0]; exact ha) (k + 4) (by omega)
  rw [e1]
  rw [at4_0] at s1 q1
  by_cases hb : InR b
  rotate_left
  · rw [decide_eq_false (fun h => hb h.1.2.1)]
    exact quad_out _ (by omega) (by omega) (by rw [show (0 : Int) + 1 = 1 from rfl, at4_1]; exact hb) _
  obtain ⟨S2, Q2, e2, s2, q2⟩ := quad_round (a := a) (b := b) (c := c) (d := d) s1 q1 (by omega) (by omega) (by omega) (by omega) (0 + 1) (by omega) (by omega) (by rw [show (0 : Int) + 1 = 1 from rfl, at4_1]; exact hb) (k + 3) (by omega)
  rw [e2]
  rw [show (0 : Int) + 1 = 1 from rfl, at4_1] at s2 q2
  by_cases hc : InR c
  rotate_left
  · rw [decide_eq_false (fun h => hc h.1.2.2.1)]
    exact quad_out _ (by omega) (by omega) (by rw [show (0 : Int) + 1 + 1 = 2 from rfl, at4_2]; exact hc) _
  obtain ⟨S3, Q3, e3, s3, q3⟩ := quad_round (a := a) (b := b) (c := c) (d := d) s2 q2 (by omega) (by omega) (by omega) (by omega) (0 + 1 + 1) (by omega) (by omega) (by rw [show (0 : Int) + 1 + 1 = 2 from rfl, at4_2]; exact hc) (k + 2) (by omega)
  rw [e3]
  rw [show (0 : Int) + 1 + 1 = 2 from rfl, at4_2] at s3 q3
  by_cases hd : InR d
  rotate_left
  · rw [decide_eq_false (fun h => hd h.1.2.2.2)]
    exact quad_out _ (by omega) (by omega) (by rw [show (0 : Int) + 1 + 1 + 1 = 3 from rfl, at4_3]; exact hd) _
  obtain ⟨S4, Q4, e4, s4, q4⟩ := quad_round (a := a) (b := b) (c := c) (d := d) s3 q3 (by omega) (by omega) (by omega) (by omega) (0 + 1 + 1 + 1) (by omega) (by omega) (by rw [show (0 : Int) + 1 + 1 + 1 = 3 from rfl, at4_3]; exact hd) (k + 1) (by omega)
  rw [e4]
  rw [show (0 : Int) + 1 + 1 + 1 = 3 from rfl, at4_3] at s4 q4
  obtain ⟨z', e0', r0'⟩ := Of_f 0 (by omega) (by omega) k (by omega)
  obtain ⟨t', et, rt⟩ := Of_f 2 (by omega) (by omega) k (by omega)
  rw [clocheref01_IsQuad.l0, if_neg (by omega), e0', Option.bind_some, Compare_f s4 r0' (by omega) k (by omega), Option.bind_some]
  obtain ⟨u, eu, ru⟩ := Times_f s4 s4 (by omega) k (by omega)
  obtain ⟨v, ev, rv⟩ := Times_f rt q4 (by omega) k (by omega)
  rw [eu, Option.bind_some, et, Option.bind_some, ev, Option.bind_some, Compare_f ru rv (by omega) k (by omega), Option.bind_some]
  simp only [Int.zero_add]
  unfold cmpV
  by_cases h0 : a + b + c + d > 0
  · rw [if_neg (show ¬ (a + b + c + d < 0) by omega), if_pos h0, if_pos (by omega)]
    by_cases h1 : (a + b + c + d) * (a + b + c + d) = 2 * (a * a + b * b + c * c + d * d)
    · rw [decide_eq_true (show IsQ a b c d from ⟨⟨ha, hb, hc, hd⟩, h0, h1⟩), if_neg (by omega), if_neg (by omega)]; rfl
    · rw [decide_eq_false (show ¬ IsQ a b c d from fun h => h1 h.2.2)]
      by_cases h2 : (a + b + c + d) * (a + b + c + d) < 2 * (a * a + b * b + c * c + d * d)
      · rw [if_pos h2]; rfl
      · rw [if_neg h2, if_pos (by omega)]; rfl
  · rw [decide_eq_false (show ¬ IsQ a b c d from fun h => h0 h.2.1)]
    rw [if_neg]
    by_cases h3 : a + b + c + d < 0
    · rw [if_pos h3]; omega
    · rw [if_neg h3, if_neg h0]; omega
end Go.Proofs.Ytlfmafebmnggeaa.Pure
