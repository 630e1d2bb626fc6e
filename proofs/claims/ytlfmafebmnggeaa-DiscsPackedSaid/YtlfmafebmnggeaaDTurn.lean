/- Turns: the new bend, by the program and by the specification; a turned quad is a quad. -/
import Derived.Test.YtlfmafebmnggeaaDQuad
import Derived.Test.YtlfmafebmnggeaaPrintx4
import Derived.Test.YtlfmafebmnggeaaPrintx14
namespace Go.Proofs.Ytlfmafebmnggeaa.Pure
open Go.RowKit Go.Proofs.Ytlfmafebmnggeaa.Print Go.Proofs.YtlfmafebmnggeaaW.PrintWords Go.Proofs.YtlfmafebmnggeaaW.PrintLast
set_option linter.unusedVariables false
set_option linter.unusedSimpArgs false
/-- The new bend. -/
def tn (q : Q4) (i : Int) : Int := 2 * (q.a + q.b + q.c + q.d - q.at i) - q.at i
def tq (q : Q4) (i : Int) : Q4 := q.put i (tn q i)
def QQ (q : Q4) : Prop := IsQ q.a q.b q.c q.d
instance (q : Q4) : Decidable (QQ q) := inferInstanceAs (Decidable (IsQ ..))
def InA (q : Q4) : Prop := InR q.a ∧ InR q.b ∧ InR q.c ∧ InR q.d
theorem four (i : Int) (h : 0 ≤ i ∧ i < 4) : i = 0 ∨ i = 1 ∨ i = 2 ∨ i = 3 := by omega
theorem at4_at (q : Q4) (i : Int) : at4 q.a q.b q.c q.d i = q.at i := by unfold at4 Q4.at; rfl
theorem sq_nn (x : Int) : 0 ≤ x * x := by
  by_cases h : 0 ≤ x
  · exact Int.mul_nonneg h h
  · have := Int.mul_nonneg (show 0 ≤ -x by omega) (show 0 ≤ -x by omega)
    rwa [Int.neg_mul_neg] at this
theorem sq_zero {x : Int} (h : x * x ≤ 0) : x = 0 := by
  have h1 := sq_nn x
  rcases Int.mul_eq_zero.1 (show x * x = 0 by omega) with h2 | h2 <;> exact h2
/-- The sum of a turned quad is above 0. -/
theorem pos_turn (a b c x : Int) (h0 : 0 < a + b + c + x) (h : (a + b + c + x) * (a + b + c + x) = 2 * (a * a + b * b + c * c + x * x)) : 0 < 3 * (a + b + c) - x := by
  refine Int.lt_of_not_ge fun hn => ?_
  have e : (a + b + c + x) * (3 * (a + b + c) - x) = 2 * ((a + b) * (a + b) + (b + c) * (b + c) + (c + a) * (c + a)) := by grind
  have h1 : (a + b + c + x) * (3 * (a + b + c) - x) ≤ 0 := Int.mul_nonpos_of_nonneg_of_nonpos (by omega) hn
  have s1 := sq_nn (a + b)
  have s2 := sq_nn (b + c)
  have s3 := sq_nn (c + a)
  have z1 := sq_zero (x := a + b) (by omega)
  have z2 := sq_zero (x := b + c) (by omega)
  have z3 := sq_zero (x := c + a) (by omega)
  obtain rfl : a = 0 := by omega
  obtain rfl : b = 0 := by omega
  obtain rfl : c = 0 := by omega
  have : x * x ≤ 0 := by simp only [Int.zero_add, Int.zero_mul] at h; omega
  have := sq_zero this
  omega
theorem eq_turn (a b c x : Int) (h : (a + b + c + x) * (a + b + c + x) = 2 * (a * a + b * b + c * c + x * x)) (y : Int) (hy : y = 2 * (a + b + c) - x) : (a + b + c + y) * (a + b + c + y) = 2 * (a * a + b * b + c * c + y * y) := by
  subst hy; grind
theorem IsQ.turn {a b c x : Int} (h : IsQ a b c x) (y : Int) (hy : y = 2 * (a + b + c) - x) (hr : InR y) : IsQ a b c y :=
  ⟨⟨h.1.1, h.1.2.1, h.1.2.2.1, hr⟩, by have := pos_turn a b c x h.2.1 h.2.2; omega, eq_turn a b c x h.2.2 y hy⟩
theorem IsQ.rot {a b c d : Int} (h : IsQ a b c d) : IsQ b c d a := ⟨⟨h.1.2.1, h.1.2.2.1, h.1.2.2.2, h.1.1⟩, by have := h.2.1; omega, by have := h.2.2; grind⟩
theorem turn_quad (q : Q4) (i : Int) (h : 0 ≤ i ∧ i < 4) (hq : QQ q) (hr : InR (tn q i)) : QQ (tq q i) := by
  obtain ⟨a, b, c, d⟩ := q
  unfold QQ at hq ⊢
  simp only at hq
  unfold tq tn Q4.put Q4.at at *
  rcases four i h with rfl | rfl | rfl | rfl
  · exact (hq.rot.turn _ (by simp; omega) hr).rot.rot.rot
  · exact (hq.rot.rot.turn _ (by simp; omega) hr).rot.rot
  · exact (hq.rot.rot.rot.turn _ (by simp; omega) hr).rot
  · exact hq.turn _ (by simp) hr
theorem tq_at (q : Q4) (i : Int) (h : 0 ≤ i ∧ i < 4) : (tq q i).at i = tn q i := by
  unfold tq Q4.put Q4.at
  rcases four i h with rfl | rfl | rfl | rfl <;> rfl
theorem tn_back (q : Q4) (i : Int) (h : 0 ≤ i ∧ i < 4) : tn (tq q i) i = q.at i := by
  unfold tn
  rw [tq_at q i h]
  unfold tq tn Q4.put Q4.at
  rcases four i h with rfl | rfl | rfl | rfl <;> simp <;> omega
theorem tq_back (q : Q4) (i : Int) (h : 0 ≤ i ∧ i < 4) : tq (tq q i) i = q := by
  have e := tn_back q i h
  unfold tq at e ⊢
  rw [e]
  unfold Q4.put Q4.at
  rcases four i h with rfl | rfl | rfl | rfl <;> rfl
theorem QQ.inA {q : Q4} (h : QQ q) : InA q := h.1
theorem QQ.at {q : Q4} (h : QQ q) (i : Int) : InR (q.at i) := by
  unfold Q4.at
  have := h.1
  repeat' split
  · exact this.1
  · exact this.2.1
  · exact this.2.2.1
  · exact this.2.2.2
theorem turnedF_eq (q : Q4) (i : Int) (ha : InA q) (hi : InR (q.at i)) : turnedF q i = tn q i := by
  unfold turnedF tn
  unfold InA InR at *
  rw [w64 (n := q.a + q.b) (by omega) (by omega), w64 (n := q.a + q.b + q.c) (by omega) (by omega), w64 (n := q.a + q.b + q.c + q.d) (by omega) (by omega), w64 (n := q.a + q.b + q.c + q.d - q.at i) (by omega) (by omega),
    w64 (n := 2 * (q.a + q.b + q.c + q.d - q.at i)) (by omega) (by omega), w64 (by omega) (by omega)]
theorem turnF_eq (q : Q4) (i : Int) (ha : InA q) (hi : InR (q.at i)) : turnF q i = tq q i := by
  unfold turnF tq; rw [turnedF_eq q i ha hi]
theorem Turn_f (q : Q4) (i : Int) (k : Nat) (hk : 1 ≤ k) : discs_Turn.f k q.a q.b q.c q.d i =
    some (if QQ q ∧ 0 ≤ i ∧ i < 4 then (if InR (tn q i) then ((tq q i).a, (tq q i).b, (tq q i).c, (tq q i).d, 0) else (0, 0, 0, 0, 4)) else (0, 0, 0, 0, 2)) := by
  obtain ⟨k, rfl⟩ : ∃ j, k = j + 1 := ⟨k - 1, by omega⟩
  unfold discs_Turn.f
  rw [is_f, Option.bind_some]
  by_cases hq : QQ q
  · rw [if_pos (decide_eq_true (show IsQ q.a q.b q.c q.d from hq))]
    by_cases h0 : i < 0
    · rw [if_pos h0, discs_Turn.j0, if_pos rfl, if_neg (by omega)]
    · rw [if_neg h0]
      by_cases h3 : i > 3
      · rw [decide_eq_true h3, discs_Turn.j0, if_pos rfl, if_neg (by omega)]
      · rw [decide_eq_false h3, discs_Turn.j0, if_neg (by simp), if_pos ⟨hq, by omega, by omega⟩]
        unfold discs_quad_turned.f discs_quad_turn.f
        rw [if_pos (by omega), if_pos (by omega), if_pos (by omega), if_pos (by omega)]
        rw [show (⟨q.a, q.b, q.c, q.d⟩ : Q4) = q from rfl, turnedF_eq q i hq.inA (hq.at i), turnF_eq q i hq.inA (hq.at i), Option.bind_some, far_f, Option.bind_some, Option.bind_some]
        by_cases hr : InR (tn q i)
        · rw [if_neg (fun h => (far_in _).1 h hr), if_pos hr]
        · rw [if_pos ((far_in _).2 hr), if_neg hr]
  · rw [if_neg (by rw [decide_eq_false (show ¬ IsQ q.a q.b q.c q.d from hq)]; simp), discs_Turn.j0, if_pos rfl, if_neg (fun h => hq h.1)]
theorem ref_round (q : Q4) (i s j : Int) (k : Nat) (hj : 0 ≤ j) (hj4 : j < 4) : clocheref01_Turned.l0 (k + 1) i s j q.a q.b q.c q.d = clocheref01_Turned.l0 k i (if j = i then s else wrap64 (s + q.at j)) (j + 1) q.a q.b q.c q.d := by
  rw [clocheref01_Turned.l0, if_pos hj4]
  by_cases h : j = i
  · rw [if_pos h, if_pos h, w64 (by omega) (by omega)]
  · rw [if_neg h, if_pos hj, if_neg h, at4_at, w64 (n := j + 1) (by omega) (by omega)]
theorem RefTurned_f (q : Q4) (i : Int) (h : 0 ≤ i ∧ i < 4) (ha : InA q) (k : Nat) (hk : 5 ≤ k) : clocheref01_Turned.f k q.a q.b q.c q.d i = some (tn q i) := by
  obtain ⟨k, rfl⟩ : ∃ j, k = j + 5 := ⟨k - 5, by omega⟩
  unfold clocheref01_Turned.f
  rw [ref_round q i _ _ (k + 4) (by omega) (by omega), ref_round q i _ _ (k + 3) (by omega) (by omega), ref_round q i _ _ (k + 2) (by omega) (by omega), ref_round q i _ _ (k + 1) (by omega) (by omega)]
  rw [clocheref01_Turned.l0, if_neg (by omega), if_pos h.1, if_pos h.2, at4_at]
  unfold InA InR at ha
  unfold tn Q4.at
  obtain ⟨a, b, c, d⟩ := q
  simp only at ha
  rcases four i h with rfl | rfl | rfl | rfl
  · simp
    rw [w64 (n := b) (by omega) (by omega), w64 (n := b + c) (by omega) (by omega), w64 (n := b + c + d) (by omega) (by omega), w64 (n := 2 * (b + c + d)) (by omega) (by omega), w64 (by omega) (by omega)]
    omega
  · simp
    rw [w64 (n := a) (by omega) (by omega), w64 (n := a + c) (by omega) (by omega), w64 (n := a + c + d) (by omega) (by omega), w64 (n := 2 * (a + c + d)) (by omega) (by omega), w64 (by omega) (by omega)]
    omega
  · simp
    rw [w64 (n := a) (by omega) (by omega), w64 (n := a + b) (by omega) (by omega), w64 (n := a + b + d) (by omega) (by omega), w64 (n := 2 * (a + b + d)) (by omega) (by omega), w64 (by omega) (by omega)]
    omega
  · simp
    rw [w64 (n := a) (by omega) (by omega), w64 (n := a + b) (by omega) (by omega), w64 (n := a + b + c) (by omega) (by omega), w64 (n := 2 * (a + b + c)) (by omega) (by omega), w64 (by omega) (by omega)]
theorem pt4_tq (q : Q4) (i : Int) (h : 0 ≤ i ∧ i < 4) (v : Int) : pt4 0 q.a i v = (q.put i v).a ∧ pt4 1 q.b i v = (q.put i v).b ∧ pt4 2 q.c i v = (q.put i v).c ∧ pt4 3 q.d i v = (q.put i v).d := by
  unfold pt4 Q4.put
  rcases four i h with rfl | rfl | rfl | rfl <;> simp
end Go.Proofs.Ytlfmafebmnggeaa.Pure
