/- The root of a quad: the greatest bend is turned as long as that makes it less; the root of all quads that are reached is the same. -/
import Derived.Test.YtlfmafebmnggeaaDSort
import Derived.Test.YtlfmafebmnggeaaPrintx3
namespace Go.Proofs.Ytlfmafebmnggeaa.Pure
open Go.RowKit Go.Proofs.Ytlfmafebmnggeaa.Print Go.Proofs.YtlfmafebmnggeaaW.PrintWords Go.Proofs.YtlfmafebmnggeaaW.PrintLast
set_option linter.unusedVariables false
set_option linter.unusedSimpArgs false
/-! ### the greatest bend -/
theorem maxUp_ge (q : Q4) : ∀ k : Nat, ∀ j : Nat, j < k → q.at j ≤ q.at (maxUp q k) := by
  intro k
  induction k with
  | zero => intro j hj; omega
  | succ k ih =>
    intro j hj
    rw [maxUp]
    by_cases h : q.at k ≥ q.at (maxUp q k)
    · rw [if_pos h]
      by_cases e : j = k
      · rw [e]; omega
      · have := ih j (by omega); omega
    · rw [if_neg h]
      by_cases e : j = k
      · rw [e]; omega
      · exact ih j (by omega)
theorem maxAt_in (q : Q4) : 0 ≤ maxAt q ∧ maxAt q < 4 := maxUp_in q 4 (Nat.le_refl _)
theorem maxAt_ge (q : Q4) (i : Int) (h : 0 ≤ i ∧ i < 4) : q.at i ≤ q.at (maxAt q) := by
  have := maxUp_ge q 4 i.toNat (by omega)
  rwa [show ((i.toNat : Nat) : Int) = i by omega] at this
def sm (q : Q4) : Int := q.a + q.b + q.c + q.d
theorem sm_tq (q : Q4) (i : Int) (h : 0 ≤ i ∧ i < 4) : sm (tq q i) = sm q - q.at i + tn q i := by
  unfold sm tq Q4.put Q4.at
  rcases four i h with rfl | rfl | rfl | rfl <;> simp <;> omega
theorem tn_sm (q : Q4) (i : Int) : tn q i = 2 * (sm q - q.at i) - q.at i := rfl
/-! ### two bends are together not below 0 -/
theorem pair_nn {a b c d : Int} (h : IsQ a b c d) : 0 ≤ a + b := by
  refine Int.le_of_not_gt fun hn => ?_
  have h1 : 2 * ((a + b) * (c + d)) = (a - b) * (a - b) + (c - d) * (c - d) := by have := h.2.2; grind
  have s1 := sq_nn (a - b)
  have s2 := sq_nn (c - d)
  have hs := h.2.1
  have hcd : 0 < c + d := by omega
  have h2 : 0 < (-(a + b)) * (c + d) := Int.mul_pos (by omega) hcd
  rw [Int.neg_mul] at h2
  omega
theorem IsQ.pairs {a b c d : Int} (h : IsQ a b c d) : 0 ≤ a + b ∧ 0 ≤ b + c ∧ 0 ≤ c + d ∧ 0 ≤ a + d ∧ 0 ≤ a + c ∧ 0 ≤ b + d := by
  have h' : IsQ a c b d := ⟨⟨h.1.1, h.1.2.2.1, h.1.2.1, h.1.2.2.2⟩, by have := h.2.1; omega, by have := h.2.2; grind⟩
  have p1 := pair_nn h
  have p2 := pair_nn h.rot
  have p3 := pair_nn h.rot.rot
  have p4 := pair_nn h.rot.rot.rot
  have p5 := pair_nn h'
  have p6 := pair_nn h'.rot.rot
  exact ⟨p1, p2, p3, by omega, p5, by omega⟩
theorem QQ.pair {q : Q4} (h : QQ q) (i j : Int) (hi : 0 ≤ i ∧ i < 4) (hj : 0 ≤ j ∧ j < 4) (hij : i ≠ j) : 0 ≤ q.at i + q.at j := by
  have p := IsQ.pairs (show IsQ q.a q.b q.c q.d from h)
  unfold Q4.at
  rcases four i hi with rfl | rfl | rfl | rfl <;> rcases four j hj with rfl | rfl | rfl | rfl <;> first | exact absurd rfl hij | (simp; omega)
theorem QQ.sum_pos {q : Q4} (h : QQ q) : 0 < sm q := h.2.1
/-- A quad with a lesser greatest bend stays in range. -/
theorem down_in {q : Q4} (hq : QQ q) (h : tn q (maxAt q) ≤ q.at (maxAt q)) : InR (tn q (maxAt q)) := by
  have hm := maxAt_in q
  obtain ⟨j, hj, hne⟩ : ∃ j : Int, (0 ≤ j ∧ j < 4) ∧ j ≠ maxAt q := by
    by_cases e : maxAt q = 0
    · exact ⟨1, by omega, by omega⟩
    · exact ⟨0, by omega, by omega⟩
  have r1 := hq.at (maxAt q)
  have r2 := hq.at j
  have hs := sm_tq q (maxAt q) hm
  have h0 : 0 < sm (tq q (maxAt q)) := by
    have hp : ∀ a b c x : Int, IsQ a b c x → 0 < 3 * (a + b + c) - x := fun a b c x h => pos_turn a b c x h.2.1 h.2.2
    have hq' : IsQ q.a q.b q.c q.d := hq
    rw [hs, tn_sm]
    unfold sm Q4.at
    rcases four _ hm with e | e | e | e <;> rw [e]
    · have := hp _ _ _ _ hq'.rot; simp; omega
    · have := hp _ _ _ _ hq'.rot.rot; simp; omega
    · have := hp _ _ _ _ hq'.rot.rot.rot; simp; omega
    · have := hp _ _ _ _ hq'; simp; omega
  have hg : ∀ i, 0 ≤ i ∧ i < 4 → i ≠ maxAt q → 0 ≤ q.at i + q.at j ∨ i = j := by
    intro i hi hn
    by_cases e : i = j
    · exact .inr e
    · exact .inl (hq.pair i j hi hj e)
  unfold InR at r1 r2 ⊢
  refine ⟨?_, by omega⟩
  -- new bend + the others = sm > 0; twice the others = new + old
  rw [hs] at h0
  rw [tn_sm] at h0 ⊢
  omega
/-! ### the root -/
def rt : Nat → Q4 → Q4 × Int
  | 0, q => (q, 0)
  | n + 1, q => if tn q (maxAt q) < q.at (maxAt q) then ((rt n (tq q (maxAt q))).1, (rt n (tq q (maxAt q))).2 + 1) else (sort4 q, 0)
theorem rt_sum {q : Q4} (h : tn q (maxAt q) < q.at (maxAt q)) : sm (tq q (maxAt q)) < sm q := by
  rw [sm_tq q _ (maxAt_in q)]; omega
theorem down_quad {q : Q4} (hq : QQ q) (h : tn q (maxAt q) < q.at (maxAt q)) : QQ (tq q (maxAt q)) := turn_quad q _ (maxAt_in q) hq (down_in hq (by omega))
theorem rt_any : ∀ (n m : Nat) (q : Q4), QQ q → sm q < n → sm q < m → rt n q = rt m q := by
  intro n
  induction n with
  | zero => intro m q hq h1; have := hq.sum_pos; omega
  | succ n ih =>
    intro m q hq h1 h2
    obtain ⟨m, rfl⟩ : ∃ j, m = j + 1 := ⟨m - 1, by have := hq.sum_pos; omega⟩
    rw [rt, rt]
    by_cases h : tn q (maxAt q) < q.at (maxAt q)
    · have hs := rt_sum h
      rw [if_pos h, if_pos h, ih m _ (down_quad hq h) (by omega) (by omega)]
    · rw [if_neg h, if_neg h]
def Rt (q : Q4) : Q4 := (rt ((sm q).toNat + 1) q).1
def Nt (q : Q4) : Int := (rt ((sm q).toNat + 1) q).2
theorem Rt_eq {q : Q4} (hq : QQ q) : (Rt q = if tn q (maxAt q) < q.at (maxAt q) then Rt (tq q (maxAt q)) else sort4 q) ∧ (Nt q = if tn q (maxAt q) < q.at (maxAt q) then Nt (tq q (maxAt q)) + 1 else 0) := by
  unfold Rt Nt
  rw [rt]
  by_cases h : tn q (maxAt q) < q.at (maxAt q)
  · have hs := rt_sum h
    have hq2 := down_quad hq h
    have := hq2.sum_pos
    simp only [if_pos h]
    rw [rt_any ((sm q).toNat) ((sm (tq q (maxAt q))).toNat + 1) _ hq2 (by omega) (by omega)]
    exact ⟨rfl, rfl⟩
  · simp only [if_neg h]
    exact ⟨trivial, trivial⟩
/-- Induction along the turns that lead to the root. -/
theorem root_ind {P : Q4 → Prop} (h0 : ∀ q, QQ q → ¬ tn q (maxAt q) < q.at (maxAt q) → P q) (h1 : ∀ q, QQ q → tn q (maxAt q) < q.at (maxAt q) → QQ (tq q (maxAt q)) → P (tq q (maxAt q)) → P q) : ∀ q, QQ q → P q := by
  have : ∀ (n : Nat) (q : Q4), sm q < n → QQ q → P q := by
    intro n
    induction n with
    | zero => intro q h hq; have := hq.sum_pos; omega
    | succ n ih =>
      intro q h hq
      by_cases hd : tn q (maxAt q) < q.at (maxAt q)
      · have hq2 := down_quad hq hd
        have := rt_sum hd
        exact h1 q hq hd hq2 (ih _ (by omega) hq2)
      · exact h0 q hq hd
  intro q hq
  have := hq.sum_pos
  exact this |> fun _ => (‹∀ (n : Nat) (q : Q4), sm q < n → QQ q → P q›) ((sm q).toNat + 1) q (by omega) hq
theorem Nt_range {q : Q4} (hq : QQ q) : 0 ≤ Nt q ∧ Nt q < sm q := by
  refine root_ind (P := fun q => 0 ≤ Nt q ∧ Nt q < sm q) ?_ ?_ q hq
  · intro q hq h
    have := hq.sum_pos
    rw [(Rt_eq hq).2, if_neg h]; omega
  · intro q hq h hq2 ih
    have := rt_sum h
    rw [(Rt_eq hq).2, if_pos h]; omega
/-! ### the program's root -/
theorem sm_le {q : Q4} (hq : QQ q) : sm q ≤ 4398046511104 := by
  have := hq.inA; unfold InA InR at this; unfold sm; omega
theorem rootL_f : ∀ q, QQ q → ∀ (k : Nat) (s : Int), sm q < k → 0 ≤ s → s + sm q ≤ 4398046511104 → rootL k q s = some (Rt q, s + Nt q) := by
  refine root_ind ?_ ?_
  · intro q hq h k s hk _ _
    obtain ⟨k, rfl⟩ : ∃ j, k = j + 1 := ⟨k - 1, by have := hq.sum_pos; omega⟩
    rw [rootL, turnedF_eq q _ hq.inA (hq.at _), if_neg h, (Rt_eq hq).1, (Rt_eq hq).2, if_neg h, if_neg h, Int.add_zero]
  · intro q hq h hq2 ih k s hk h0 hs
    obtain ⟨k, rfl⟩ : ∃ j, k = j + 1 := ⟨k - 1, by have := hq.sum_pos; omega⟩
    have := rt_sum h
    have := hq.sum_pos
    have := hq2.sum_pos
    rw [rootL, turnedF_eq q _ hq.inA (hq.at _), if_pos h, turnF_eq q _ hq.inA (hq.at _), w64 (by omega) (by omega), ih k (s + 1) (by omega) (by omega) (by omega), (Rt_eq hq).1, (Rt_eq hq).2, if_pos h, if_pos h]
    congr 2
    omega
theorem root_f {q : Q4} (hq : QQ q) (k : Nat) (hk : 4398046511105 ≤ k) : discs_quad_root.f k q.a q.b q.c q.d = some ((Rt q).a, (Rt q).b, (Rt q).c, (Rt q).d, Nt q) := by
  have h := sm_le hq
  unfold discs_quad_root.f
  rw [rootL_f q hq k 0 (by omega) (by omega) (by omega), Option.bind_some, Int.zero_add]
def T6 (q : Q4) (n e : Int) : Int × Int × Int × Int × Int × Int := (q.a, q.b, q.c, q.d, n, e)
def RootP (q : Q4) : Int × Int × Int × Int × Int × Int := if QQ q then ((Rt q).a, (Rt q).b, (Rt q).c, (Rt q).d, Nt q, 0) else (0, 0, 0, 0, 0, 2)
theorem Root_f (q : Q4) (k : Nat) (hk : 4398046511105 ≤ k) : discs_Root.f k q.a q.b q.c q.d = some (RootP q) := by
  unfold discs_Root.f RootP
  rw [IsQuad_f, Option.bind_some]
  by_cases hq : QQ q
  · rw [if_pos (decide_eq_true (show IsQ q.a q.b q.c q.d from hq)), root_f hq k hk, if_pos hq]; rfl
  · rw [if_neg (by rw [decide_eq_false (show ¬ IsQ q.a q.b q.c q.d from hq)]; simp), if_neg hq]
theorem RootP_q {q : Q4} (h : QQ q) : RootP q = ((Rt q).a, (Rt q).b, (Rt q).c, (Rt q).d, Nt q, 0) := if_pos h
theorem RootP_n {q : Q4} (h : ¬ QQ q) : RootP q = (0, 0, 0, 0, 0, 2) := if_neg h
end Go.Proofs.Ytlfmafebmnggeaa.Pure
