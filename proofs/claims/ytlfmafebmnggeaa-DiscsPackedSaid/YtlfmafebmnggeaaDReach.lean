/- The root of every quad that is reached is the same; it is a root; a root is its own. -/
import Derived.Test.YtlfmafebmnggeaaDRoot
namespace Go.Proofs.Ytlfmafebmnggeaa.Pure
open Go.RowKit Go.Proofs.Ytlfmafebmnggeaa.Print Go.Proofs.YtlfmafebmnggeaaW.PrintWords Go.Proofs.YtlfmafebmnggeaaW.PrintLast
set_option linter.unusedVariables false
set_option linter.unusedSimpArgs false
theorem tq_other (q : Q4) (i j : Int) (hi : 0 ≤ i ∧ i < 4) (hj : 0 ≤ j ∧ j < 4) (hij : j ≠ i) : (tq q i).at j = q.at j := by
  unfold tq Q4.put Q4.at
  rcases four i hi with rfl | rfl | rfl | rfl <;> rcases four j hj with rfl | rfl | rfl | rfl <;> first | exact absurd rfl hij | rfl
theorem put_self (q : Q4) (i : Int) (hi : 0 ≤ i ∧ i < 4) : q.put i (q.at i) = q := by
  unfold Q4.put Q4.at
  rcases four i hi with rfl | rfl | rfl | rfl <;> rfl
theorem others_le {q : Q4} (hq : QQ q) (i j : Int) (hi : 0 ≤ i ∧ i < 4) (hj : 0 ≤ j ∧ j < 4) (hij : j ≠ i) : q.at j ≤ sm q - q.at i := by
  have p := IsQ.pairs (show IsQ q.a q.b q.c q.d from hq)
  unfold sm Q4.at
  rcases four i hi with rfl | rfl | rfl | rfl <;> rcases four j hj with rfl | rfl | rfl | rfl <;> first | exact absurd rfl hij | (simp; omega)
theorem up_max {q : Q4} (hq : QQ q) (i : Int) (hi : 0 ≤ i ∧ i < 4) (h : q.at i < tn q i) : maxAt (tq q i) = i := by
  refine Classical.byContradiction fun hne => ?_
  have hm := maxAt_in (tq q i)
  have h1 := maxAt_ge (tq q i) i hi
  rw [tq_at q i hi, tq_other q i _ hi hm hne] at h1
  have h2 := others_le hq i _ hi hm hne
  rw [tn_sm] at h h1
  omega
theorem Rt_up {q : Q4} (hq : QQ q) (i : Int) (hi : 0 ≤ i ∧ i < 4) (hr : InR (tn q i)) (h : q.at i < tn q i) : Rt (tq q i) = Rt q := by
  have hm := up_max hq i hi h
  rw [(Rt_eq (turn_quad q i hi hq hr)).1, hm, tn_back q i hi, tq_at q i hi, if_pos h, tq_back q i hi]
theorem Rt_turn {q : Q4} (hq : QQ q) (i : Int) (hi : 0 ≤ i ∧ i < 4) (hr : InR (tn q i)) : Rt (tq q i) = Rt q := by
  rcases Int.lt_trichotomy (q.at i) (tn q i) with h | h | h
  · exact Rt_up hq i hi hr h
  · have : tq q i = q := by unfold tq; rw [← h]; exact put_self q i hi
    rw [this]
  · have hq2 := turn_quad q i hi hq hr
    have e := Rt_up hq2 i hi (by rw [tn_back q i hi]; exact hq.at i) (by rw [tn_back q i hi, tq_at q i hi]; exact h)
    rw [tq_back q i hi] at e
    exact e.symm
/-! ### sorted, a quad is a quad -/
theorem perm_sum {l m : List Int} (h : l.Perm m) : l.sum = m.sum := by
  induction h with
  | nil => rfl
  | cons x _ ih => simp [ih]
  | swap x y l => simp; omega
  | trans _ _ h1 h2 => exact h1.trans h2
theorem QQ_list (q : Q4) : QQ q ↔ (∀ x ∈ ls q, InR x) ∧ 0 < (ls q).sum ∧ (ls q).sum * (ls q).sum = 2 * ((ls q).map fun x => x * x).sum := by
  unfold QQ IsQ ls
  have e1 : ([q.a, q.b, q.c, q.d] : List Int).sum = q.a + q.b + q.c + q.d := by simp; omega
  have e2 : (([q.a, q.b, q.c, q.d] : List Int).map fun x => x * x).sum = q.a * q.a + q.b * q.b + q.c * q.c + q.d * q.d := by simp; omega
  rw [e1, e2]
  simp
theorem QQ.perm {q r : Q4} (hq : QQ q) (h : (ls r).Perm (ls q)) : QQ r := by
  rw [QQ_list] at hq ⊢
  rw [perm_sum h, perm_sum (h.map fun x => x * x)]
  exact ⟨fun x hx => hq.1 x (h.mem_iff.1 hx), hq.2⟩
theorem sm_list (q : Q4) : sm q = (ls q).sum := by unfold sm ls; simp; omega
theorem sm_sort (q : Q4) : sm (sort4 q) = sm q := by rw [sm_list, sm_list]; exact perm_sum (sort4_perm q)
theorem at_mem (q : Q4) (i : Int) : q.at i ∈ ls q := by
  unfold Q4.at ls
  split
  · simp
  · split
    · simp
    · split <;> simp
theorem mem_at (q : Q4) (x : Int) (h : x ∈ ls q) : ∃ i, (0 ≤ i ∧ i < 4) ∧ q.at i = x := by
  unfold ls at h
  simp only [List.mem_cons, List.not_mem_nil, or_false] at h
  rcases h with rfl | rfl | rfl | rfl
  · exact ⟨0, by omega, rfl⟩
  · exact ⟨1, by omega, rfl⟩
  · exact ⟨2, by omega, rfl⟩
  · exact ⟨3, by omega, rfl⟩
theorem max_sort (q : Q4) : q.at (maxAt q) = (sort4 q).d := by
  have hs := sort4_srt q
  unfold Srt at hs
  have h1 : (sort4 q).d ∈ ls q := (sort4_perm q).mem_iff.1 (by unfold ls; simp)
  obtain ⟨i, hi, e⟩ := mem_at q _ h1
  have h2 := maxAt_ge q i hi
  have h3 : q.at (maxAt q) ∈ ls (sort4 q) := (sort4_perm q).mem_iff.2 (at_mem q _)
  unfold ls at h3
  simp only [List.mem_cons, List.not_mem_nil, or_false] at h3
  omega
theorem root_neg {a b c d : Int} (h : IsQ a b c d) (h1 : a ≤ b) (h2 : b ≤ c) (h3 : c ≤ d) (h4 : d ≤ a + b + c) : a ≤ 0 := by
  refine Int.le_of_not_gt fun hn => ?_
  have e := (soddy a b c d).1 h.2.2
  have e' : (a + b + c - d) * (a + b + c - d) = 4 * (a * b + (a + b) * c) := by rw [← e]; grind
  have m1 : (a + b + c - d) * (a + b + c - d) ≤ (a + b) * (a + b) := Int.mul_le_mul (by omega) (by omega) (by omega) (by omega)
  have m2 : (a + b) * (a + b) ≤ (a + b) * (2 * c) := Int.mul_le_mul_of_nonneg_left (by omega) (by omega)
  have m3 : (a + b) * (2 * c) = 2 * ((a + b) * c) := by grind
  have m4 : 0 < a * b := Int.mul_pos (by omega) (by omega)
  have m5 : 0 < (a + b) * c := Int.mul_pos (by omega) (by omega)
  omega
theorem Rt_root {q : Q4} (hq : QQ q) : IsRt (Rt q) := by
  refine root_ind (P := fun q => IsRt (Rt q)) ?_ ?_ q hq
  · intro q hq h
    rw [(Rt_eq hq).1, if_neg h]
    have hs := sort4_srt q
    have hQ := hq.perm (sort4_perm q)
    have hd : (sort4 q).d ≤ (sort4 q).a + (sort4 q).b + (sort4 q).c := by
      rw [tn_sm, max_sort, ← sm_sort] at h
      unfold sm at h
      omega
    exact ⟨hQ, hs, root_neg hQ hs.1 hs.2.1 hs.2.2 hd, hd⟩
  · intro q hq h hq2 ih
    rw [(Rt_eq hq).1, if_pos h]
    exact ih
theorem root_self {r : Q4} (h : IsRt r) : Rt r = r ∧ Nt r = 0 := by
  have hn : ¬ tn r (maxAt r) < r.at (maxAt r) := by
    rw [tn_sm, max_sort, sort4_self h.2.1]
    have := h.2.2.2
    unfold sm
    omega
  rw [(Rt_eq h.1).1, (Rt_eq h.1).2, if_neg hn, if_neg hn]
  exact ⟨sort4_self h.2.1, rfl⟩
theorem Nt_zero {q : Q4} (hq : QQ q) (h : Nt q = 0) : Rt q = sort4 q := by
  rw [(Rt_eq hq).1]
  by_cases hd : tn q (maxAt q) < q.at (maxAt q)
  · have := (Rt_eq hq).2
    rw [if_pos hd] at this
    have := Nt_range (down_quad hq hd)
    omega
  · rw [if_neg hd]
end Go.Proofs.Ytlfmafebmnggeaa.Pure
