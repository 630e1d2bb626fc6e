/- BlocksShapes: IsShape, Hooks, Beads and Turned are the specification's. -/
import Derived.Test.YtcmphfcpiciehaaBBeads
import Derived.Test.YtcmphfcpiciehaaPrintx29
namespace Go.Proofs.Ytcmphfcpiciehaa.Pure
open Go.RowKit Go.Proofs.Ytcmphfcpiciehaa.Print Go.Proofs.YtcmphfcpiciehaaW.PrintWords Go.Proofs.YtcmphfcpiciehaaW.PrintLast Go.Proofs.YtcmphfcpiciehaaW.PrintMore
theorem shHooks (l : List Int) (k : Nat) (hk1 : 1000 ≤ k) : ∃ r, blocks_Hooks.f k l = some r ∧ clocheref04_Hooks.f k l = some r ∧ r.1.length ≤ 12 ∧ ∀ x ∈ r.1, x.length ≤ 40 := by
  unfold blocks_Hooks.f clocheref04_Hooks.f
  rw [bIs_f l k (by omega), rIs_f l k (by omega), Option.bind_some, Option.bind_some]
  cases h : isShp l
  · exact ⟨([], 2), by rw [if_neg (by decide)], by rw [if_neg (by decide)], by simp, by simp⟩
  · have hs := (isShp_iff l).1 h
    refine ⟨(hk l, 0), ?_, ?_, (hk_small hs).1, (hk_small hs).2⟩
    · rw [if_pos rfl, hooks_f l hs k (by omega), Option.bind_some]
    · rw [if_pos rfl, Len_f l hs k (by omega), Option.bind_some]
theorem shBeads (l : List Int) (k : Nat) (hk1 : 1000 ≤ k) : ∃ r, blocks_Beads.f k l = some r ∧ clocheref04_Beads.f k l = some r ∧ r.1.length ≤ 12 := by
  unfold blocks_Beads.f clocheref04_Beads.f
  rw [bIs_f l k (by omega), rIs_f l k (by omega), Option.bind_some, Option.bind_some]
  cases h : isShp l
  · exact ⟨([], 2), by rw [if_neg (by decide)], by rw [if_neg (by decide)], by simp⟩
  · have hs := (isShp_iff l).1 h
    have hl := hs.len
    have hb : ∀ x ∈ l, 0 ≤ x ∧ x ≤ 1000 := fun x hx => by have := hs.bound x hx; omega
    refine ⟨(bd l, 0), ?_, ?_, by rw [bd_length]; exact hl⟩
    · rw [if_pos rfl, beads_f l (by omega) hb k (by omega), Option.bind_some]
    · rw [if_pos rfl, rbeads_f l (by omega) hb k (by omega), Option.bind_some]
theorem shTurned (l : List Int) (k : Nat) (hk1 : 1000 ≤ k) : ∃ r, blocks_Turned.f k l = some r ∧ clocheref04_Turned.f k l = some r ∧ r.1.length ≤ 40 := by
  unfold blocks_Turned.f clocheref04_Turned.f
  rw [bIs_f l k (by omega), rIs_f l k (by omega), Option.bind_some, Option.bind_some]
  cases h : isShp l
  · exact ⟨([], 2), by rw [if_neg (by decide)], by rw [if_neg (by decide)], by simp⟩
  · have hs := (isShp_iff l).1 h
    have hh := hs.head
    have hT := turned_f l hs k (by omega)
    have hC := Col_f l hs k (by omega)
    have hlen := cols_length l
    have hr : rd l 0 = l.getD 0 0 := rdn l 0
    rw [if_pos rfl, if_pos rfl, hT, hC, Option.bind_some, Option.bind_some, hr]
    generalize hz : cols l = z at hlen ⊢
    clear hz hT hC
    rcases Nat.eq_zero_or_pos l.length with e | e
    · have hl0 : l = [] := List.eq_nil_of_length_eq_zero e
      subst hl0
      have hz : z.length = 0 := by simpa using hlen
      refine ⟨(z, 0), ?_, ?_, by show z.length ≤ 40; omega⟩
      · rw [if_neg (by simp)]
      · rw [if_neg (by omega)]
    · by_cases h12 : l.getD 0 0 > 12
      · refine ⟨([], 8), ?_, ?_, by simp⟩
        · rw [if_pos (by omega), if_pos (by omega), if_pos h12]
        · rw [if_pos (by omega)]
      · refine ⟨(z, 0), ?_, ?_, by show z.length ≤ 40; omega⟩
        · rw [if_pos (by omega), if_pos (by omega), if_neg h12]
        · rw [if_neg (by omega)]
theorem BlocksShapes : clochelaw04_BlocksShapes.Pure := by
  intro l _ _ _
  by_cases hL : l.length ≤ 60
  · obtain ⟨k, hk1⟩ : ∃ k, k = 3000 := ⟨_, rfl⟩
    refine ⟨k + 2, ?_⟩
    obtain ⟨r1, a1, a2, a3, a4⟩ := shHooks l (k + 2) (by omega)
    obtain ⟨r2, b1, b2, b3⟩ := shBeads l (k + 1) (by omega)
    obtain ⟨r3, c1, c2, c3⟩ := shTurned l k (by omega)
    have e2 : ∀ x, clochelaw04_BlocksShapes.j0 (k + 2) l l x = clochelaw04_BlocksShapes.j0 (k + 1 + 1) l l x := fun _ => rfl
    unfold clochelaw04_BlocksShapes.f
    rw [few_f l _ (by omega), Option.bind_some, decide_eq_true hL, if_pos rfl, Option.bind_some, if_pos (by simp; omega), Option.bind_some]
    simp only [List.nil_append]
    rw [bIs_f l _ (by omega), rIs_f l _ (by omega), Option.bind_some, Option.bind_some, bne_self_eq_false, if_neg (by decide), a1, a2, Option.bind_some, Option.bind_some, shapes_self r1.1 (by omega) (fun x hx => by have := a4 x hx; omega) _ (by omega), Option.bind_some, if_pos rfl, bne_self_eq_false, e2]
    generalize hF : k + 1 = F at b1 b2 ⊢
    simp only [clochelaw04_BlocksShapes.j0]
    rw [if_neg (by decide), b1, b2, Option.bind_some, Option.bind_some, same_self r2.1 (by omega) _ (by omega), Option.bind_some, if_pos rfl, bne_self_eq_false, ← hF]
    simp only [clochelaw04_BlocksShapes.j1]
    rw [if_neg (by decide), c1, c2, Option.bind_some, Option.bind_some, same_self r3.1 (by omega) _ (by omega), Option.bind_some, if_pos rfl, if_pos rfl, same_self l (by omega) _ (by omega), Option.bind_some, if_pos rfl, alive _ (by omega)]
    rfl
  · refine ⟨300, ?_⟩
    unfold clochelaw04_BlocksShapes.f
    rw [few_f l _ (by omega), Option.bind_some, decide_eq_false hL, if_neg (by decide), alive _ (by omega)]
    rfl
end Go.Proofs.Ytcmphfcpiciehaa.Pure
