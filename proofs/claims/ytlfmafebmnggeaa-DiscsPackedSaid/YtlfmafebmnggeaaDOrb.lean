/- The quads modulo 24 that are reached: which numbers they have is the same for a quad and its root. -/
import Derived.Test.YtlfmafebmnggeaaDReach
namespace Go.Proofs.Ytlfmafebmnggeaa.Pure
open Go.RowKit Go.Proofs.Ytlfmafebmnggeaa.Print Go.Proofs.YtlfmafebmnggeaaW.PrintWords Go.Proofs.YtlfmafebmnggeaaW.PrintLast
set_option linter.unusedVariables false
set_option linter.unusedSimpArgs false
/-- The bends modulo 24. -/
def rq (q : Q4) : Q4 := ⟨q.a % 24, q.b % 24, q.c % 24, q.d % 24⟩
/-- A turn modulo 24. -/
def tR (q : Q4) (i : Int) : Q4 := q.put i (tn q i % 24)
inductive Rch (x : Q4) : Q4 → Prop
  | refl : Rch x x
  | turn {p : Q4} (i : Int) : Rch x p → 0 ≤ i ∧ i < 4 → Rch x (tR p i)
def B24 (q : Q4) : Prop := (0 ≤ q.a ∧ q.a < 24) ∧ (0 ≤ q.b ∧ q.b < 24) ∧ (0 ≤ q.c ∧ q.c < 24) ∧ (0 ≤ q.d ∧ q.d < 24)
theorem rq_b (q : Q4) : B24 (rq q) := by unfold B24 rq; simp only; omega
theorem B24.turn {q : Q4} (h : B24 q) (i : Int) (hi : 0 ≤ i ∧ i < 4) : B24 (tR q i) := by
  have h1 := Int.emod_nonneg (tn q i) (show (24 : Int) ≠ 0 by decide)
  have h2 := Int.emod_lt_of_pos (tn q i) (show (0 : Int) < 24 by decide)
  unfold B24 at *
  unfold tR
  generalize tn q i % 24 = t at *
  rcases four i hi with rfl | rfl | rfl | rfl <;> simp [Q4.put] <;> omega
theorem Rch.b24 {x p : Q4} (h : Rch x p) (hx : B24 x) : B24 p := by
  induction h with
  | refl => exact hx
  | turn i _ hi ih => exact ih.turn i hi
theorem Rch.trans {x y z : Q4} (h : Rch x y) (g : Rch y z) : Rch x z := by
  induction g with
  | refl => exact h
  | turn i _ hi ih => exact ih.turn i hi
theorem tR_back {q : Q4} (h : B24 q) (i : Int) (hi : 0 ≤ i ∧ i < 4) : tR (tR q i) i = q := by
  obtain ⟨a, b, c, d⟩ := q
  unfold B24 at h
  unfold tR tn
  rcases four i hi with rfl | rfl | rfl | rfl <;> simp [Q4.put, Q4.at] at h ⊢ <;> omega
theorem Rch.symm {x p : Q4} (h : Rch x p) (hx : B24 x) : Rch p x := by
  induction h with
  | refl => exact .refl
  | @turn p i hp hi ih =>
    have hb := hp.b24 hx
    have : Rch (tR p i) (tR (tR p i) i) := Rch.refl.turn i hi
    rw [tR_back hb i hi] at this
    exact this.trans ih
/-- The numbers of the quads that are reached. -/
def Cv (x : Q4) (v : Int) : Prop := ∃ p, Rch x p ∧ v ∈ ls p
theorem Cv.of_reach {x y : Q4} (h : Rch x y) (hx : B24 x) (v : Int) : Cv y v ↔ Cv x v :=
  ⟨fun ⟨p, hp, hv⟩ => ⟨p, h.trans hp, hv⟩, fun ⟨p, hp, hv⟩ => ⟨p, (h.symm hx).trans hp, hv⟩⟩
theorem rq_turn (q : Q4) (i : Int) (hi : 0 ≤ i ∧ i < 4) : rq (tq q i) = tR (rq q) i := by
  obtain ⟨a, b, c, d⟩ := q
  unfold rq tq tR tn
  rcases four i hi with rfl | rfl | rfl | rfl <;> simp [Q4.put, Q4.at] <;> omega
/-! ### the order of the bends does not matter -/
theorem put_erase (q : Q4) (i w : Int) (hi : 0 ≤ i ∧ i < 4) : (ls (q.put i w)).Perm (w :: (ls q).erase (q.at i)) := by
  have key : ∀ (x : Int) (l r : List Int), (ls q).Perm (x :: r) → (ls (q.put i w)).Perm (w :: r) → x = q.at i → (ls (q.put i w)).Perm (w :: (ls q).erase (q.at i)) := by
    intro x l r h1 h2 hx
    refine h2.trans (List.Perm.cons _ ?_)
    have := h1.erase (q.at i)
    rw [hx, List.erase_cons_head] at this
    exact this.symm
  obtain ⟨a, b, c, d⟩ := q
  rcases four i hi with rfl | rfl | rfl | rfl
  · exact key a [] [b, c, d] (List.Perm.refl _) (List.Perm.refl _) rfl
  · exact key b [] [a, c, d] (List.Perm.swap _ _ _) (List.Perm.swap _ _ _) rfl
  · exact key c [] [a, b, d] (List.perm_middle (l₁ := [a, b]) (l₂ := [d])) (List.perm_middle (l₁ := [a, b]) (l₂ := [d])) rfl
  · exact key d [] [a, b, c] (List.perm_middle (l₁ := [a, b, c]) (l₂ := [])) (List.perm_middle (l₁ := [a, b, c]) (l₂ := [])) rfl
theorem turn_perm {p p' : Q4} (h : (ls p).Perm (ls p')) (i : Int) (hi : 0 ≤ i ∧ i < 4) : ∃ j, (0 ≤ j ∧ j < 4) ∧ (ls (tR p i)).Perm (ls (tR p' j)) := by
  obtain ⟨j, hj, e⟩ := mem_at p' (p.at i) (h.mem_iff.1 (at_mem p i))
  refine ⟨j, hj, ?_⟩
  have es : sm p = sm p' := by rw [sm_list, sm_list]; exact perm_sum h
  have et : tn p i = tn p' j := by rw [tn_sm, tn_sm, es, e]
  unfold tR
  rw [et]
  refine (put_erase p i _ hi).trans ((List.Perm.cons _ ?_).trans (put_erase p' j _ hj).symm)
  rw [e]
  exact h.erase _
theorem rch_perm {x x' : Q4} (h : (ls x).Perm (ls x')) {p : Q4} (hp : Rch x p) : ∃ p', Rch x' p' ∧ (ls p).Perm (ls p') := by
  induction hp with
  | refl => exact ⟨x', .refl, h⟩
  | turn i _ hi ih =>
    obtain ⟨p', h1, h2⟩ := ih
    obtain ⟨j, hj, h3⟩ := turn_perm h2 i hi
    exact ⟨_, h1.turn j hj, h3⟩
theorem Cv.perm {x x' : Q4} (h : (ls x).Perm (ls x')) (v : Int) : Cv x v ↔ Cv x' v := by
  constructor
  · rintro ⟨p, h1, h2⟩
    obtain ⟨p', h3, h4⟩ := rch_perm h h1
    exact ⟨p', h3, h4.mem_iff.1 h2⟩
  · rintro ⟨p, h1, h2⟩
    obtain ⟨p', h3, h4⟩ := rch_perm h.symm h1
    exact ⟨p', h3, h4.mem_iff.1 h2⟩
theorem rq_perm {x x' : Q4} (h : (ls x).Perm (ls x')) : (ls (rq x)).Perm (ls (rq x')) := by
  have e : ∀ q : Q4, ls (rq q) = (ls q).map (· % 24) := fun q => rfl
  rw [e, e]
  exact h.map _
/-- The numbers are the root's. -/
theorem Cv_root : ∀ q, QQ q → ∀ v, Cv (rq (Rt q)) v ↔ Cv (rq q) v := by
  refine root_ind ?_ ?_
  · intro q hq h v
    rw [(Rt_eq hq).1, if_neg h]
    exact Cv.perm (rq_perm (sort4_perm q)) v
  · intro q hq h hq' ih v
    rw [(Rt_eq hq).1, if_pos h, ih v, rq_turn q _ (maxAt_in q)]
    exact Cv.of_reach (Rch.refl.turn _ (maxAt_in q)) (rq_b q) v
theorem Cv_bend {q : Q4} (hq : QQ q) (i : Int) (hi : 0 ≤ i ∧ i < 4) : Cv (rq (Rt q)) (q.at i % 24) := by
  rw [Cv_root q hq]
  refine ⟨_, .refl, ?_⟩
  have : (rq q).at i = q.at i % 24 := by
    unfold rq Q4.at
    rcases four i hi with rfl | rfl | rfl | rfl <;> rfl
  rw [← this]
  exact at_mem _ _
theorem Cv_range {x : Q4} (hx : B24 x) {v : Int} (h : Cv x v) : 0 ≤ v ∧ v < 24 := by
  obtain ⟨p, hp, hv⟩ := h
  have := hp.b24 hx
  unfold B24 at this
  simp [ls] at hv
  rcases hv with rfl | rfl | rfl | rfl
  · exact this.1
  · exact this.2.1
  · exact this.2.2.1
  · exact this.2.2.2
end Go.Proofs.Ytlfmafebmnggeaa.Pure
