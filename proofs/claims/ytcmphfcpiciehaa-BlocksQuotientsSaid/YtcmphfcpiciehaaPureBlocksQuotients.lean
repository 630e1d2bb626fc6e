/- BlocksQuotients: Quotient and Of of both packages answer alike. -/
import Derived.Test.YtcmphfcpiciehaaBFew
import Derived.Test.YtcmphfcpiciehaaBOfR
namespace Go.Proofs.Ytcmphfcpiciehaa.Pure
open Go.RowKit Go.Proofs.Ytcmphfcpiciehaa.Print Go.Proofs.YtcmphfcpiciehaaW.PrintWords Go.Proofs.YtcmphfcpiciehaaW.PrintLast Go.Proofs.YtcmphfcpiciehaaW.PrintMore
set_option linter.unusedVariables false
theorem bQuo_int (l : List Int) (t : Int) (k : Nat) (hk : 1200 ≤ k) : blocks_Quotient.f k l t = if okW l t = true then some (quo t.toNat l, 0) else some ([], 2) := by
  by_cases h : okW l t = true
  · obtain ⟨_, h2, h6⟩ := okW_iff h
    obtain ⟨T, rfl⟩ : ∃ T : Nat, t = T := ⟨t.toNat, by omega⟩
    rw [bQuotient_f l T k hk, Int.toNat_natCast]
  · unfold blocks_Quotient.f
    rw [ownW l t k (by omega), if_neg h, if_neg h]
theorem rQuo_int (l : List Int) (t : Int) (k : Nat) (hk : 12000 ≤ k) : clocheref04_Quotient.f k l t = if okW l t = true then some (quo t.toNat l, 0) else some ([], 2) := by
  by_cases h : okW l t = true
  · obtain ⟨_, h2, h6⟩ := okW_iff h
    obtain ⟨T, rfl⟩ : ∃ T : Nat, t = T := ⟨t.toNat, by omega⟩
    rw [rQuotient_f l T k hk, Int.toNat_natCast]
  · obtain ⟨k, rfl⟩ : ∃ K, k = K + 1 := ⟨k - 1, by omega⟩
    have hbad : clocheref04_Quotient.j0 (k + 1) l t true = some ([], 2) := by
      simp only [clocheref04_Quotient.j0]
      rw [if_pos trivial]
    unfold clocheref04_Quotient.f
    rw [rIs_f l _ (by omega), Option.bind_some, Wires_f, Option.bind_some, if_neg h]
    unfold okW at h
    cases h1 : isShp l
    · exact hbad
    · rw [if_pos rfl]
      rw [h1, Bool.true_and] at h
      rw [eq_false_of_ne_true h]
      exact hbad
theorem ofEnd_some (X : List Int) : ∃ r, ofEnd X = some r ∧ r.1.length ≤ 12 := by
  unfold ofEnd
  by_cases h : isShp (shB (dsort X)) = true
  · rw [if_pos h]
    exact ⟨_, rfl, ((isShp_iff _).1 h).len⟩
  · rw [if_neg h]
    exact ⟨_, rfl, Nat.zero_le _⟩
theorem Qu_l0 (c : List Int) (Q : List (List Int)) (hQ : Q.length ≤ 20) (hq : ∀ x ∈ Q, x.length ≤ 60) : ∀ n k (i : Nat), i + n = Q.length → n + 100010 ≤ k → clochelaw04_BlocksQuotients.l0 k c Q (Q.take i) i = some true
  | 0, k, i, h, hk => by
    obtain ⟨k, rfl, _⟩ := succK (show 0 < k by omega)
    obtain ⟨r, h1, h2⟩ : ∃ r, (if okO c Q = true then ofEnd (ofB Q.length (24 * Q.length) c (fun k => Q.getD k [])) else some ([], 2)) = some r ∧ r.1.length ≤ 12 := by
      by_cases ho : okO c Q = true
      · rw [if_pos ho]
        exact ofEnd_some _
      · rw [if_neg ho]
        exact ⟨_, rfl, Nat.zero_le _⟩
    simp only [clochelaw04_BlocksQuotients.l0]
    rw [if_neg (by omega), List.take_of_length_le (by omega), bOf_f c Q (by omega) k (by omega), h1, Option.bind_some, rOf_f c Q (by omega) k (by omega), h1, Option.bind_some, same_self r.1 (by omega) k (by omega), Option.bind_some, if_pos rfl, if_pos rfl, shapes_self Q (by omega) (fun x hx => by have := hq x hx; omega) k (by omega), Option.bind_some, if_pos rfl, alive k (by omega)]
    rfl
  | n + 1, k, i, h, hk => by
    obtain ⟨k, rfl, _⟩ := succK (show 0 < k by omega)
    have hi : i < Q.length := by omega
    have ih := Qu_l0 c Q hQ hq n k (i + 1) (by omega) (by omega)
    have hx := hq _ (List.getElem_mem hi)
    have hlen : (Q.take i).length = i := by rw [List.length_take]; omega
    simp only [clochelaw04_BlocksQuotients.l0]
    rw [if_pos (by omega), Option.bind_some, if_pos (by omega), rdLk Q i hi, if_pos (by rw [List.length_nil]; omega), if_pos (by omega), List.nil_append, inc64 i (by omega)]
    rw [List.take_succ_eq_append_getElem hi] at ih
    exact ih
theorem BlocksQuotients (l : List Int) (t : Int) (c : List Int) (Q : List (List Int)) : ∃ k, clochelaw04_BlocksQuotients.f k l t c Q = some true := by
  obtain ⟨k, hk⟩ : ∃ k, k = 120000 := ⟨_, rfl⟩
  refine ⟨k + 2, ?_⟩
  have hbad : clochelaw04_BlocksQuotients.j0 (k + 2) l t c Q true = some true := by
    simp only [clochelaw04_BlocksQuotients.j0]
    rw [if_pos trivial, alive _ (by omega)]
    rfl
  unfold clochelaw04_BlocksQuotients.f
  rw [few_f l _ (by omega), Option.bind_some]
  by_cases hL : l.length ≤ 60
  · obtain ⟨b, hb, hfew⟩ := few_q c Q (k + 2) (by omega)
    rw [decide_eq_true hL, if_pos rfl, hb, Option.bind_some]
    cases b
    · exact hbad
    · obtain ⟨hQ, hq⟩ := hfew rfl
      show clochelaw04_BlocksQuotients.j0 (k + 1 + 1) l t c Q false = some true
      have hj1 : clochelaw04_BlocksQuotients.j1 (k + 1) c Q false = some true := by
        simp only [clochelaw04_BlocksQuotients.j1]
        rw [if_neg (by decide)]
        exact Qu_l0 c Q hQ hq Q.length k 0 (by omega) (by omega)
      generalize hF : k + 1 = F at hj1
      simp only [clochelaw04_BlocksQuotients.j0]
      rw [if_neg (by decide), bQuo_int l t F (by omega), rQuo_int l t F (by omega)]
      by_cases h : okW l t = true
      · obtain ⟨hs, h2, h6⟩ := okW_iff h
        rw [if_pos h, Option.bind_some, Option.bind_some, shapes_self (quo t.toNat l) (by rw [quo_length]; omega) (fun x hx => by
          obtain ⟨j, hj, rfl⟩ := List.mem_iff_getElem.1 hx
          rw [quo_length] at hj
          have h3 := (quo_shp (T := t.toNat) (by omega) (by omega) hs j hj).len
          rw [List.getD_eq_getElem?_getD, List.getElem?_eq_getElem (by rw [quo_length]; exact hj)] at h3
          exact Nat.le_trans h3 (by decide)) F (by omega), Option.bind_some, if_pos rfl, bne_self_eq_false]
        exact hj1
      · rw [if_neg h, Option.bind_some, Option.bind_some, shapes_self [] (by simp) (by simp) F (by omega), Option.bind_some, if_pos rfl, bne_self_eq_false]
        exact hj1
  · rw [decide_eq_false hL, if_neg (by decide)]
    exact hbad
end Go.Proofs.Ytcmphfcpiciehaa.Pure
