/- BlocksThere: the shape that Of puts together has the core and the quotient. -/
import Derived.Test.YtcmphfcpiciehaaBFew
import Derived.Test.YtcmphfcpiciehaaPrintx26
namespace Go.Proofs.Ytcmphfcpiciehaa.Pure
open Go.RowKit Go.Proofs.Ytcmphfcpiciehaa.Print Go.Proofs.YtcmphfcpiciehaaW.PrintWords Go.Proofs.YtcmphfcpiciehaaW.PrintLast Go.Proofs.YtcmphfcpiciehaaW.PrintMore
set_option linter.unusedVariables false
theorem list_ext_getD {a b : List (List Int)} (hl : a.length = b.length) (h : ∀ i, i < a.length → a.getD i [] = b.getD i []) : a = b := by
  refine List.ext_getElem hl fun i h1 h2 => ?_
  have := h i h1
  rw [List.getD_eq_getElem?_getD, List.getD_eq_getElem?_getD, List.getElem?_eq_getElem h1, List.getElem?_eq_getElem h2] at this
  exact this
theorem T_l0 (c : List Int) (hc : Shp c) (Q : List (List Int)) (hQ : Q.length ≤ 6) (hq : ∀ k, k < Q.length → Shp (Q.getD k [])) (m : Int) : ∀ n k (i : Nat) (s : Int), i + n = Q.length → n + 5000 ≤ k → 0 ≤ s → s ≤ 40 * i → s + ((List.range' i n).map fun j => (Q.getD j []).sum).sum = m → clochelaw04_BlocksThere.l0 k c Q 0 c m Q 0 s i = some true
  | 0, k, i, s, h, hk, h0, h1, e => by
    obtain ⟨k, rfl, _⟩ := succK (show 0 < k by omega)
    have e : s = m := by simpa using e
    simp only [clochelaw04_BlocksThere.l0]
    rw [if_neg (by omega), if_pos trivial, if_pos trivial, same_self c (by have := hc.len; omega) k (by have := hc.len; omega), Option.bind_some, if_pos rfl, shapes_self Q (by omega) (fun x hx => by
      obtain ⟨j, hj, rfl⟩ := List.mem_iff_getElem.1 hx
      have h3 := (hq j hj).len
      rw [List.getD_eq_getElem?_getD, List.getElem?_eq_getElem hj] at h3
      have h3 : Q[j].length ≤ 12 := h3
      omega) k (by omega), Option.bind_some, if_pos rfl, if_pos e.symm, alive k (by omega)]
    rfl
  | n + 1, k, i, s, h, hk, h0, h1, e => by
    obtain ⟨k, rfl, _⟩ := succK (show 0 < k by omega)
    have hqi := hq i (by omega)
    have q0 := shp_sum0 hqi
    have q1 := hqi.sum
    rw [range'_succ', List.map_cons, List.sum_cons] at e
    have ih := T_l0 c hc Q hQ hq m n k (i + 1) (s + (Q.getD i []).sum) (by omega) (by omega) (by omega) (by omega) (by rw [Int.add_assoc]; exact e)
    simp only [clochelaw04_BlocksThere.l0]
    rw [if_pos (by omega), if_pos (by omega), rdLd, rSum_f _ hqi k (by omega), Option.bind_some, w64 (by omega) (by omega), inc64 i (by omega)]
    exact ih
theorem BlocksThere (c : List Int) (Q : List (List Int)) : ∃ k, clochelaw04_BlocksThere.f k c Q = some true := by
  obtain ⟨k, hk⟩ : ∃ k, k = 20000 := ⟨_, rfl⟩
  refine ⟨k + 2, ?_⟩
  unfold clochelaw04_BlocksThere.f
  obtain ⟨b, hb, hfew⟩ := few_q c Q (k + 2) (by omega)
  rw [hb, Option.bind_some]
  cases b
  · rw [if_neg (by decide), alive _ (by omega)]
    rfl
  · obtain ⟨hQ, _⟩ := hfew rfl
    rw [if_pos rfl, bOf_f c Q (by omega) _ (by omega)]
    by_cases ho : okO c Q = true
    · have oo := okO_iff ho
      have hs := oo.of.core
      have hl := hs.len
      rw [if_pos ho]
      unfold ofEnd
      by_cases hz : isShp (shB (dsort (ofB Q.length (24 * Q.length) c fun k => Q.getD k []))) = true
      · have hN : c.length ≤ 24 * Q.length := by have := oo.h2; omega
        have hmod : (24 * Q.length) % Q.length = 0 := Nat.mul_mod_left _ _
        have hm : ∀ j, j < Q.length → (Q.getD j []).length ≤ many Q.length (24 * Q.length) c j := fun j hj => Nat.le_trans (oo.of.quo j hj).len (many_ge oo.h2 oo.h6 hs.dr 12 hN hmod (by have := oo.h2; omega) hj)
        have hB := ofB_of (show 0 < Q.length by have := oo.h2; omega) (24 * Q.length) c (q := fun k => Q.getD k []) (fun k hk => (oo.of.quo k hk).dr)
        obtain ⟨t1, t2, t3⟩ := there_of oo.h2 oo.h6 oo.of hN hmod hm hB ((isShp_iff _).1 hz)
        have hw1 := okW_of (t := (Q.length : Int)) ((isShp_iff _).1 hz) (by have := oo.h2; omega) (by have := oo.h6; omega)
        rw [if_pos hz, Option.bind_some]
        generalize hL : shB (dsort (ofB Q.length (24 * Q.length) c fun k => Q.getD k [])) = L at hz hw1 t1 t2 t3 ⊢
        have hquo : quo Q.length L = Q := list_ext_getD (quo_length _ _) fun i hi => t2 i (by rw [quo_length] at hi; exact hi)
        have hl0 := T_l0 c hs Q oo.h6 oo.of.quo (core Q.length L).2 Q.length (k + 1) 0 0 (by omega) (by omega) (Int.le_refl _) (by omega) (by rw [Int.zero_add]; exact t3.symm)
        dsimp only
        rw [if_pos rfl, rIs_f L _ (by omega), Option.bind_some, hz, if_pos rfl, rIs_f c _ (by omega), Option.bind_some, (isShp_iff c).2 hs, if_pos rfl, Wires_f, Option.bind_some, decide_eq_true (show 2 ≤ (Q.length : Int) by have := oo.h2; omega), decide_eq_true (show (Q.length : Int) ≤ 6 by have := oo.h6; omega)]
        show clochelaw04_BlocksThere.j0 (k + 1 + 1) c Q L false = some true
        generalize hF : k + 1 = F at hl0
        simp only [clochelaw04_BlocksThere.j0]
        rw [if_neg (by decide), bCore_f L Q.length F (by omega), if_pos hw1, Option.bind_some, bQuotient_f L Q.length F (by omega), if_pos hw1, Option.bind_some]
        dsimp only
        rw [t1, hquo]
        exact hl0
      · rw [if_neg hz, Option.bind_some]
        dsimp only
        rw [if_neg (by decide), if_pos (by rfl), if_neg (by decide), if_pos rfl, alive _ (by omega)]
        rfl
    · rw [if_neg ho, Option.bind_some]
      dsimp only
      rw [if_neg (by decide), if_pos (by rfl), if_pos rfl, alive _ (by omega)]
      rfl
end Go.Proofs.Ytcmphfcpiciehaa.Pure
