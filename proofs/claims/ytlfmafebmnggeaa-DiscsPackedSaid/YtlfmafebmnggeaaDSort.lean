/- Sorting four bends: the specification's sorting by exchanges is the program's; is it sorted? -/
import Derived.Test.YtlfmafebmnggeaaDTurn
import Derived.Test.YtlfmafebmnggeaaHandIsRoot
import Derived.Test.YtlfmafebmnggeaaPrintx20
namespace Go.Proofs.Ytlfmafebmnggeaa.Pure
open Go.RowKit Go.Proofs.Ytlfmafebmnggeaa.Print Go.Proofs.YtlfmafebmnggeaaW.PrintWords Go.Proofs.YtlfmafebmnggeaaW.PrintLast
set_option linter.unusedVariables false
set_option linter.unusedSimpArgs false
theorem some_false {p : Prop} [Decidable p] (h : ¬ p) : some false = some (decide p) := congrArg some (decide_eq_false h).symm
theorem some_true {p : Prop} [Decidable p] (h : p) : some true = some (decide p) := congrArg some (decide_eq_true h).symm
def ls (q : Q4) : List Int := [q.a, q.b, q.c, q.d]
def Srt (q : Q4) : Prop := q.a ≤ q.b ∧ q.b ≤ q.c ∧ q.c ≤ q.d
instance (q : Q4) : Decidable (Srt q) := inferInstanceAs (Decidable (_ ∧ _))
theorem ls_inj {q r : Q4} (h : ls q = ls r) : q = r := by
  obtain ⟨a, b, c, d⟩ := q
  obtain ⟨a', b', c', d'⟩ := r
  simp only [ls, List.cons.injEq, and_true] at h
  obtain ⟨rfl, rfl, rfl, rfl⟩ := h
  rfl
theorem srt_iff (q : Q4) : (ls q).Pairwise (· ≤ ·) ↔ Srt q := by
  unfold ls Srt
  simp only [List.pairwise_cons, List.mem_cons, List.not_mem_nil, or_false, forall_eq_or_imp, forall_eq, List.Pairwise.nil, false_implies, implies_true, and_true]
  omega
theorem sort4_perm (q : Q4) : (ls (sort4 q)).Perm (ls q) := by
  unfold ls; rw [← sort4_isort]; exact isort_perm _
theorem sort4_srt (q : Q4) : Srt (sort4 q) := by
  rw [← srt_iff]; unfold ls; rw [← sort4_isort]; exact isort_sorted _
theorem srt_unique {q r : Q4} (hq : Srt q) (hr : Srt r) (h : (ls q).Perm (ls r)) : q = r :=
  ls_inj (h.eq_of_pairwise (fun a b _ _ h1 h2 => Int.le_antisymm h1 h2) ((srt_iff q).2 hq) ((srt_iff r).2 hr))
theorem sort4_self {q : Q4} (h : Srt q) : sort4 q = q := srt_unique (sort4_srt q) h (sort4_perm q)
theorem sort4_self_iff (q : Q4) : sort4 q = q ↔ Srt q := ⟨fun h => h ▸ sort4_srt q, sort4_self⟩
/-! ### the specification's exchanges -/
def ps (q : Q4) : Q4 := ⟨min q.a q.b, min (max q.a q.b) q.c, min (max (max q.a q.b) q.c) q.d, max (max (max q.a q.b) q.c) q.d⟩
theorem ps_perm (q : Q4) : (ls (ps q)).Perm (ls q) := by
  have sw : ∀ x y : Int, ∀ l : List Int, (min x y :: max x y :: l).Perm (x :: y :: l) := by
    intro x y l
    by_cases h : x ≤ y
    · rw [Int.min_eq_left h, Int.max_eq_right h]
    · rw [Int.min_eq_right (by omega), Int.max_eq_left (by omega)]; exact List.Perm.swap ..
  unfold ls ps
  simp only
  exact ((sw (max (max q.a q.b) q.c) q.d []).cons _ |>.cons _).trans (((sw (max q.a q.b) q.c [q.d]).cons _).trans (sw q.a q.b _))
theorem ps1 (q : Q4) : (ps q).a ≤ (ps q).d ∧ (ps q).b ≤ (ps q).d ∧ (ps q).c ≤ (ps q).d := by unfold ps; simp only; omega
theorem ps2 (q : Q4) (h : q.a ≤ q.d ∧ q.b ≤ q.d ∧ q.c ≤ q.d) : (ps q).c ≤ (ps q).d ∧ (ps q).a ≤ (ps q).c ∧ (ps q).b ≤ (ps q).c := by
  obtain ⟨a, b, c, d⟩ := q
  unfold ps; simp only at h ⊢; omega
theorem ps3 (q : Q4) (h : q.c ≤ q.d ∧ q.a ≤ q.c ∧ q.b ≤ q.c) : Srt (ps q) := by
  obtain ⟨a, b, c, d⟩ := q
  unfold ps Srt; simp only at h ⊢; omega
theorem ps4 (q : Q4) (h : Srt q) : ps q = q := by
  obtain ⟨a, b, c, d⟩ := q
  unfold ps
  unfold Srt at h
  simp only at h ⊢
  congr 1 <;> omega
theorem ps_sort (q : Q4) : ps (ps (ps (ps q))) = sort4 q := by
  have h := ps3 _ (ps2 _ (ps1 q))
  rw [ps4 _ h]
  exact srt_unique h (sort4_srt q) ((ps_perm _).trans ((ps_perm _).trans ((ps_perm _).trans (sort4_perm q).symm)))
theorem sw_pt (x y : Int) : (if x > y then y else x) = min x y ∧ (if x > y then x else y) = max x y := by
  constructor
  · split <;> omega
  · split <;> omega
theorem Sorted_l1 (k : Nat) (i : Int) (q : Q4) : clocheref01_Sorted.l1 (k + 4) i 0 q.a q.b q.c q.d = clocheref01_Sorted.l0 k (wrap64 (i + 1)) (ps q).a (ps q).b (ps q).c (ps q).d := by
  have e0 : wrap64 ((0 : Int) + 1) = 1 := w64 (by omega) (by omega)
  have e1 : wrap64 ((1 : Int) + 1) = 2 := w64 (by omega) (by omega)
  have e2 : wrap64 ((2 : Int) + 1) = 3 := w64 (by omega) (by omega)
  have e3 : wrap64 ((3 : Int) + 1) = 4 := w64 (by omega) (by omega)
  obtain ⟨a, b, c, d⟩ := q
  simp only
  have r0 : ∀ k a b c d, clocheref01_Sorted.l1 (k + 1) i 0 a b c d = clocheref01_Sorted.l1 k i 1 (min a b) (max a b) c d := by
    intro k a b c d
    rw [clocheref01_Sorted.l1, e0, if_pos (by omega), if_pos (by omega), if_pos (by omega), if_pos (by omega), at4_0, at4_1]
    by_cases h : a > b
    · rw [if_pos h]; simp only [pt4]; rw [Int.min_eq_right (by omega), Int.max_eq_left (by omega)]; rfl
    · rw [if_neg h, Int.min_eq_left (by omega), Int.max_eq_right (by omega)]
  have r1 : ∀ k a b c d, clocheref01_Sorted.l1 (k + 1) i 1 a b c d = clocheref01_Sorted.l1 k i 2 a (min b c) (max b c) d := by
    intro k a b c d
    rw [clocheref01_Sorted.l1, e1, if_pos (by omega), if_pos (by omega), if_pos (by omega), if_pos (by omega), at4_1, at4_2]
    by_cases h : b > c
    · rw [if_pos h]; simp only [pt4]; rw [Int.min_eq_right (by omega), Int.max_eq_left (by omega)]; rfl
    · rw [if_neg h, Int.min_eq_left (by omega), Int.max_eq_right (by omega)]
  have r2 : ∀ k a b c d, clocheref01_Sorted.l1 (k + 1) i 2 a b c d = clocheref01_Sorted.l1 k i 3 a b (min c d) (max c d) := by
    intro k a b c d
    rw [clocheref01_Sorted.l1, e2, if_pos (by omega), if_pos (by omega), if_pos (by omega), if_pos (by omega), at4_2, at4_3]
    by_cases h : c > d
    · rw [if_pos h]; simp only [pt4]; rw [Int.min_eq_right (by omega), Int.max_eq_left (by omega)]; rfl
    · rw [if_neg h, Int.min_eq_left (by omega), Int.max_eq_right (by omega)]
  rw [r0, r1, r2, clocheref01_Sorted.l1, e3, if_neg (by omega)]
  rfl
theorem Sorted_f (q : Q4) (k : Nat) (hk : 30 ≤ k) : clocheref01_Sorted.f k q.a q.b q.c q.d = some ((sort4 q).a, (sort4 q).b, (sort4 q).c, (sort4 q).d) := by
  obtain ⟨k, rfl⟩ : ∃ j, k = j + 21 := ⟨k - 21, by omega⟩
  unfold clocheref01_Sorted.f
  have r : ∀ (j : Nat) (q : Q4) (i : Int), 0 ≤ i → i < 4 → clocheref01_Sorted.l0 (j + 5) i q.a q.b q.c q.d = clocheref01_Sorted.l0 j (i + 1) (ps q).a (ps q).b (ps q).c (ps q).d := by
    intro j q i h0 h4
    rw [clocheref01_Sorted.l0, if_pos h4, Sorted_l1, w64 (by omega) (by omega)]
  rw [r (k + 16) q 0 (by omega) (by omega), r (k + 11) _ _ (by omega) (by omega), r (k + 6) _ _ (by omega) (by omega), r (k + 1) _ _ (by omega) (by omega), clocheref01_Sorted.l0, if_neg (by omega), ps_sort]
theorem less_int (x y : Int) : cmp_Less_int.f x y = some (decide (x < y)) := by
  unfold cmp_Less_int.f cmp_isNaN_int.f
  simp
theorem IsSorted_f (q : Q4) (k : Nat) (hk : 10 ≤ k) : slices_IsSorted_int_int.f k [q.a, q.b, q.c, q.d] = some (decide (Srt q)) := by
  obtain ⟨k, rfl⟩ : ∃ j, k = j + 4 := ⟨k - 4, by omega⟩
  obtain ⟨a, b, c, d⟩ := q
  have e1 : wrap64 ((1 : Int) - 1) = 0 := w64 (by omega) (by omega)
  have e2 : wrap64 ((2 : Int) - 1) = 1 := w64 (by omega) (by omega)
  have e3 : wrap64 ((3 : Int) - 1) = 2 := w64 (by omega) (by omega)
  have e4 : wrap64 ((([a, b, c, d] : List Int).length : Int) - 1) = 3 := w64 (by simp) (by simp)
  have el : (([a, b, c, d] : List Int).length : Int) = 4 := rfl
  unfold slices_IsSorted_int_int.f
  rw [e4]
  simp only
  have q0 : rd [a, b, c, d] 0 = a := rfl
  have q1 : rd [a, b, c, d] 1 = b := rfl
  have q2 : rd [a, b, c, d] 2 = c := rfl
  have q3 : rd [a, b, c, d] 3 = d := rfl
  rw [slices_IsSorted_int_int.l0, if_pos (by omega), if_pos (by omega), el, if_pos (by omega), e3, if_pos (by omega), if_pos (by omega), q3, q2, less_int, Option.bind_some]
  by_cases h3 : d < c
  · rw [if_pos (decide_eq_true h3)]; exact some_false (fun hs => by have := hs.2.2; simp only at this; omega)
  rw [if_neg (by rw [decide_eq_false h3]; simp), slices_IsSorted_int_int.l0, if_pos (by omega), if_pos (by omega), el, if_pos (by omega), e2, if_pos (by omega), if_pos (by omega), q2, q1, less_int, Option.bind_some]
  by_cases h2 : c < b
  · rw [if_pos (decide_eq_true h2)]; exact some_false (fun hs => by have := hs.2.1; simp only at this; omega)
  rw [if_neg (by rw [decide_eq_false h2]; simp), slices_IsSorted_int_int.l0, if_pos (by omega), if_pos (by omega), el, if_pos (by omega), e1, if_pos (by omega), if_pos (by omega), q1, q0, less_int, Option.bind_some]
  by_cases h1 : b < a
  · rw [if_pos (decide_eq_true h1)]; exact some_false (fun hs => by have := hs.1; simp only at this; omega)
  rw [if_neg (by rw [decide_eq_false h1]; simp), slices_IsSorted_int_int.l0, if_neg (by omega)]
  clear e1 e2 e3 e4
  exact some_true (show a ≤ b ∧ b ≤ c ∧ c ≤ d by omega)
/-! ### a root -/
def IsRt (q : Q4) : Prop := QQ q ∧ Srt q ∧ q.a ≤ 0 ∧ q.d ≤ q.a + q.b + q.c
instance (q : Q4) : Decidable (IsRt q) := inferInstanceAs (Decidable (_ ∧ _))
theorem sum3 {q : Q4} (h : QQ q) : wrap64 (wrap64 (q.a + q.b) + q.c) = q.a + q.b + q.c := by
  have := h.inA
  unfold InA InR at this
  rw [w64 (n := q.a + q.b) (by omega) (by omega), w64 (by omega) (by omega)]
theorem IsRoot_f (q : Q4) (k : Nat) (hk : 10 ≤ k) : discs_IsRoot.f k q.a q.b q.c q.d = some (decide (IsRt q)) := by
  unfold discs_IsRoot.f
  have h := is_f q.a q.b q.c q.d
  unfold discs_quad_is.f at h
  rw [h, Option.bind_some]
  by_cases hq : QQ q
  · rw [if_pos (decide_eq_true (show IsQ q.a q.b q.c q.d from hq)), IsSorted_f q k hk, Option.bind_some]
    by_cases hs : Srt q
    · rw [if_pos (decide_eq_true hs), sum3 hq]
      by_cases h0 : q.a ≤ 0
      · rw [if_pos h0]
        exact dec_iff ⟨fun h => ⟨hq, hs, h0, h⟩, fun h => h.2.2.2⟩
      · rw [if_neg h0, decide_eq_false (show ¬ IsRt q from fun h => h0 h.2.2.1)]
    · rw [if_neg (by rw [decide_eq_false hs]; simp), decide_eq_false (show ¬ IsRt q from fun h => hs h.2.1)]
  · rw [if_neg (by rw [decide_eq_false (show ¬ IsQ q.a q.b q.c q.d from hq)]; simp), decide_eq_false (show ¬ IsRt q from fun h => hq h.1)]
theorem beq4 (q r : Q4) : (q.a == r.a && (q.b == r.b && (q.c == r.c && (q.d == r.d)))) = true ↔ q = r := by
  obtain ⟨a, b, c, d⟩ := q
  obtain ⟨a', b', c', d'⟩ := r
  simp [and_assoc]
end Go.Proofs.Ytlfmafebmnggeaa.Pure
