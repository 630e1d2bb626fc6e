/- The specification's search, whole: Count, From and At. -/
import Derived.Test.YtmigibamdeodpaaSearchT
namespace Go.Proofs.Ytmigibamdeodpaa.Pure
open Go.RowKit Go.Proofs.Ytmigibamdeodpaa.Print Go.Proofs.YtmigibamdeodpaaW.PrintWords Go.Proofs.YtmigibamdeodpaaW.PrintLast Go.Proofs.YtmigibamdeodpaaW.PrintMore
theorem fnd_zero (many rank : Int) (found tail : List Int) : fnd many rank 0 found tail = found := by
  unfold fnd
  rw [if_neg (by omega)]
theorem on_f : ∀ (m n : Nat) (now left : List Int) (u : Nat) (q : Adm) (many rank : Int) (found : List Int) (k : Nat), Sit n now left u q → left.length = m → 0 ≤ many → many + total m q (now.length % 2 == 0) ≤ 100000000 → 15 * m + 40 ≤ k →
      clocheref05_search_on.f k n many rank found now u = some ((n : Int), many + total m q (now.length % 2 == 0), rank, fnd many rank (total m q (now.length % 2 == 0)) found (now ++ dec left (atI m q (now.length % 2 == 0) (rank - many)))) := by
  intro m
  induction m with
  | zero =>
    intro n now left u q many rank found k hs hl h0 hb hK
    obtain ⟨k, rfl, _⟩ := succK (show 0 < k by omega)
    have hlen := hs.length
    have hn := hs.hn
    have ht : total 0 q (now.length % 2 == 0) = 1 := rfl
    rw [ht] at hb ⊢
    have e1 : wrap64 (many + 1) = many + 1 := w64 (by omega) (by omega)
    simp only [clocheref05_search_on.f]
    rw [if_pos (by omega), if_pos (by omega), e1]
    unfold fnd
    obtain rfl : left = [] := List.eq_nil_of_length_eq_zero hl
    by_cases c : many = rank
    · rw [if_pos c, if_pos (by omega)]
      simp only [atI, dec, List.append_nil]
    · rw [if_neg c, if_neg (by omega)]
  | succ m ih =>
    intro n now left u q many rank found k hs hl h0 hb hK
    obtain ⟨k, rfl, _⟩ := succK (show 0 < k by omega)
    have hlen := hs.length
    have hn := hs.hn
    simp only [clocheref05_search_on.f]
    rw [if_neg (by omega)]
    have hin : ∀ j, j < left.length → 1 ≤ left.getD j 0 := fun j hj => (mem_ups.1 (hs.perm.subset (List.mem_append_right _ (getD_mem hj)))).1
    have h := on_loop m n now left u q many rank found hs hl h0 hb (fun now left u q many rank found k => ih n now left u q many rank found k) n k 1 0 (by omega) (by omega) (by omega) (fun j hj => by omega) (fun j _ hj => by have := hin j hj; omega) (by omega)
    simp only [sumA, Int.add_zero] at h
    rw [fnd_zero] at h
    exact h
theorem sit0 {n : Nat} (hn : n ≤ 10) : Sit n [] (ups n) 0 none := by
  refine ⟨hn, by simp, ups_asc n, .inl ⟨rfl, rfl⟩, rfl, by decide, fun y _ => by simp⟩
theorem total0_le {n : Nat} (hn : n ≤ 10) : 0 < total n none true ∧ total n none true ≤ 100000 := by
  have ht : total n none true = (if n = 0 then 1 else allB n true 0 n) := by
    unfold total
    rw [sumA_none]
  rw [ht]
  exact (count_f hn).2
theorem on_all {n : Nat} (hn : n ≤ 10) (rank : Int) (k : Nat) (hk : 200 ≤ k) : clocheref05_search_on.f k n 0 rank [] [] 0 = some ((n : Int), total n none true, rank, if 0 ≤ rank ∧ rank < total n none true then dec (ups n) (atI n none true rank) else []) := by
  have ht := total0_le hn
  have h := on_f n n [] (ups n) 0 none 0 rank [] k (sit0 hn) (ups_length n) (by omega) (by show 0 + total n none true ≤ _; omega) (by omega)
  have h : clocheref05_search_on.f k n 0 rank [] [] 0 = some ((n : Int), 0 + total n none true, rank, fnd 0 rank (total n none true) [] ([] ++ dec (ups n) (atI n none true (rank - 0)))) := h
  rw [h]
  unfold fnd
  simp only [Int.zero_add, Int.sub_zero, List.nil_append]
theorem rCount_f {n : Nat} (hn : n ≤ 10) (k : Nat) (hk : 200 ≤ k) : clocheref05_Count.f k n = some (total n none true, 0) := by
  unfold clocheref05_Count.f
  rw [if_neg (by omega), if_neg (by omega), on_all hn _ k hk, Option.bind_some]
theorem rAt_f {n : Nat} (hn : n ≤ 10) (rank : Int) (k : Nat) (hk : 200 ≤ k) : clocheref05_At.f k n rank = some (if 0 ≤ rank ∧ rank < total n none true then (dec (ups n) (atI n none true rank), 0) else ([], 4)) := by
  unfold clocheref05_At.f
  rw [if_neg (by omega), if_neg (by omega), on_all hn _ k hk, Option.bind_some]
  by_cases h1 : rank < 0
  · rw [if_pos h1, if_neg (by omega)]
  · rw [if_neg h1]
    by_cases h2 : total n none true ≤ rank
    · simp only
      rw [if_pos h2, if_neg (by omega)]
    · simp only
      have hc : 0 ≤ rank ∧ rank < total n none true := by omega
      rw [if_neg h2, if_pos hc, if_pos hc]
end Go.Proofs.Ytmigibamdeodpaa.Pure
