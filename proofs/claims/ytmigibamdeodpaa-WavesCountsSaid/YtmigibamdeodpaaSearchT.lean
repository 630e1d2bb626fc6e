/- The specification's search: it counts the waves behind a beginning, and finds the one with a rank. -/
import Derived.Test.YtmigibamdeodpaaSearchL
namespace Go.Proofs.Ytmigibamdeodpaa.Pure
open Go.RowKit Go.Proofs.Ytmigibamdeodpaa.Print Go.Proofs.YtmigibamdeodpaaW.PrintWords Go.Proofs.YtmigibamdeodpaaW.PrintLast Go.Proofs.YtmigibamdeodpaaW.PrintMore
def fnd (many rank T : Int) (found tail : List Int) : List Int := if many ≤ rank ∧ rank < many + T then found ++ tail else found
theorem sumA_le_total {m : Nat} (hm : m ≤ 10) (h0 : 0 < m) (q : Adm) (up : Bool) {kk : Nat} (hk : kk ≤ m) : sumA m q up 0 kk ≤ total m q up := by
  have h1 := sumA_split m q up kk (m - kk) 0
  have h2 := sumA_nonneg hm q up (m - kk) (0 + kk) (by omega)
  rw [show kk + (m - kk) = m by omega] at h1
  unfold total
  rw [if_neg (by omega)]
  omega
theorem sumA_succ (m : Nat) (q : Adm) (up : Bool) (kk : Nat) : sumA m q up 0 (kk + 1) = sumA m q up 0 kk + if admI q kk then B m kk up else 0 := by
  have h1 := sumA_split m q up kk 1 0
  rw [h1, Nat.zero_add]
  simp only [sumA, Int.add_zero]
structure Hid (p : Prop) : Prop where
  out : p
theorem on_loop (m n : Nat) (now left : List Int) (u : Nat) (q : Adm) (many rank : Int) (found : List Int) (hs : Sit n now left u q) (hl : left.length = m + 1) (h0 : 0 ≤ many) (hb : many + total (m + 1) q (now.length % 2 == 0) ≤ 100000000)
    (ih : ∀ (now left : List Int) (u : Nat) (q : Adm) (many rank : Int) (found : List Int) (k : Nat), Sit n now left u q → left.length = m → 0 ≤ many → many + total m q (now.length % 2 == 0) ≤ 100000000 → 15 * m + 40 ≤ k →
      clocheref05_search_on.f k n many rank found now u = some ((n : Int), many + total m q (now.length % 2 == 0), rank, fnd many rank (total m q (now.length % 2 == 0)) found (now ++ dec left (atI m q (now.length % 2 == 0) (rank - many))))) :
    ∀ d k (y kk : Nat), y + d = n + 1 → 1 ≤ y → kk ≤ m + 1 → (∀ j, j < kk → left.getD j 0 < (y : Int)) → (∀ j, kk ≤ j → j < left.length → (y : Int) ≤ left.getD j 0) → 15 * m + 41 + d ≤ k →
      clocheref05_search_on.l0 k now u y n (many + sumA (m + 1) q (now.length % 2 == 0) 0 kk) rank (fnd many rank (sumA (m + 1) q (now.length % 2 == 0) 0 kk) found (now ++ dec left (atI (m + 1) q (now.length % 2 == 0) (rank - many)))) = some ((n : Int), many + total (m + 1) q (now.length % 2 == 0), rank, fnd many rank (total (m + 1) q (now.length % 2 == 0)) found (now ++ dec left (atI (m + 1) q (now.length % 2 == 0) (rank - many)))) := by
  have hn := hs.hn
  have hlen := hs.length
  have HB := Hid.mk hb
  clear hb
  intro d
  induction d with
  | zero =>
    intro k y kk hy h1 hk lo hi hK
    obtain ⟨k, rfl, _⟩ := succK (show 0 < k by omega)
    have hkk : kk = m + 1 := by
      rcases Nat.lt_or_eq_of_le hk with c | c
      · have a := hi kk (Nat.le_refl _) (by omega)
        have b := mem_ups.1 (hs.perm.subset (List.mem_append_right _ (getD_mem (show kk < left.length by omega))))
        omega
      · exact c
    subst hkk
    simp only [clocheref05_search_on.l0]
    rw [if_neg (by omega)]
    unfold total
    rw [if_neg (by omega)]
  | succ d ihd =>
    intro k y kk hy h1 hk lo hi hK
    obtain ⟨k, rfl, _⟩ := succK (show 0 < k by omega)
    have hy11 : y < 11 := by omega
    have e2 := w64s y hy11
    have hbit := (mask u y hs.mu hy11).2.2.1
    have hbor := (mask u y hs.mu hy11).2.1
    have htm : Int.tmod (shr .i64 (u : Int) (y : Int)) 2 = 0 ↔ Nat.testBit u y = false := by
      have hr : Int.tmod (shr .i64 (u : Int) (y : Int)) 2 = 0 ∨ Int.tmod (shr .i64 (u : Int) (y : Int)) 2 = 1 := by
        have hp : 0 ≤ shr .i64 (u : Int) (y : Int) := by
          unfold shr
          exact Int.ediv_nonneg (by omega) (by exact Int.le_of_lt (Int.pow_pos (by decide)))
        rw [Int.tmod_eq_emod_of_nonneg hp]
        omega
      cases hc : Nat.testBit u y
      · have : ¬ Int.tmod (shr .i64 (u : Int) (y : Int)) 2 = 1 := fun c => by rw [hbit.1 c] at hc; cases hc
        simp only [iff_true]
        rcases hr with c | c
        · exact c
        · exact absurd c this
      · have := hbit.2 hc
        rw [this]
        simp
    simp only [clocheref05_search_on.l0]
    unfold snoc_int.f
    rw [if_pos (by omega), if_pos (by omega), Option.bind_some, if_pos (by omega), e2]
    rcases hs.next h1 (by omega) lo hi with ⟨hu, hi2⟩ | ⟨hu, hkl, hx⟩
    · have hb1 := (hs.bit y hy11).2 hu
      rw [if_neg (fun c => by rw [htm.1 c] at hb1; cases hb1)]
      exact ihd k (y + 1) kk (by omega) (by omega) hk (fun j hj => by have := lo j hj; omega) (fun j hj hj2 => by have := hi2 j hj hj2; omega) (by omega)
    · have hb0 : Nat.testBit u y = false := by
        cases hc : Nat.testBit u y
        · rfl
        · exact absurd ((hs.bit y hy11).1 hc) hu
      have hnd : (now ++ [(y : Int)]).Nodup := by
        have hnd := hs.perm.nodup_iff.2 (ups_nodup n)
        have h2 := ((er_perm hkl).append_left now).nodup_iff.2 hnd
        rw [hx] at h2
        have h3 : now ++ (y : Int) :: left.eraseIdx kk = (now ++ [(y : Int)]) ++ left.eraseIdx kk := by simp
        rw [h3] at h2
        exact (List.nodup_append.1 h2).1
      have hwv := wave_f (now ++ [(y : Int)]) hnd (by simp; omega) k (by simp; omega)
      rw [← hx, upB_snoc hs.ql hs.up hkl, hx] at hwv
      rw [if_pos (htm.2 hb0), hwv, Option.bind_some]
      have lo' : ∀ j, j < kk + 1 → left.getD j 0 < ((y + 1 : Nat) : Int) := fun j hj => by
        rcases Nat.lt_or_eq_of_le (Nat.le_of_lt_succ hj) with c | c
        · have := lo j c; omega
        · subst c; omega
      have hi' : ∀ j, kk + 1 ≤ j → j < left.length → ((y + 1 : Nat) : Int) ≤ left.getD j 0 := fun j hj hj2 => by
        have := hs.asc kk j (by omega) hj2
        omega
      have hnext := ihd k (y + 1) (kk + 1) (by omega) (by omega) (by omega) lo' hi' (by omega)
      rw [sumA_succ] at hnext
      cases ha : admI q kk
      · rw [if_neg (by decide)]
        rw [ha, if_neg (by decide), Int.add_zero] at hnext
        exact hnext
      · rw [if_pos rfl, hbor]
        rw [ha, if_pos rfl] at hnext
        have hst := hs.step hkl ha hx
        rw [hx] at hst
        have hsl := sumA_le_total (m := m + 1) (by omega) (by omega) q (now.length % 2 == 0) hk
        have hsl2 := sumA_le_total (m := m + 1) (by omega) (by omega) q (now.length % 2 == 0) (kk := kk + 1) (by omega)
        rw [sumA_succ, ha, if_pos rfl] at hsl2
        have hs0 := sumA_nonneg (m := m + 1) (by omega) q (now.length % 2 == 0) kk 0 (by omega)
        have htn := total_next (m := m) (k := kk) (by omega) (by omega) (now.length % 2 == 0)
        have hB := begins_f (m := m + 1) (k := kk) (by omega) (by omega) (now.length % 2 == 0)
        have hpar : ((now ++ [(y : Int)]).length % 2 == 0) = !(now.length % 2 == 0) := by
          rw [List.length_append, List.length_singleton, par']
        have hb := HB.out
        have hr := ih (now ++ [(y : Int)]) (left.eraseIdx kk) (u ||| 2 ^ y) (some (kk, now.length % 2 == 0)) (many + sumA (m + 1) q (now.length % 2 == 0) 0 kk) rank (fnd many rank (sumA (m + 1) q (now.length % 2 == 0) 0 kk) found (now ++ dec left (atI (m + 1) q (now.length % 2 == 0) (rank - many)))) k hst (by rw [er_length hkl]; omega) (by omega) (by rw [hpar, ← htn]; omega) (by omega)
        rw [hpar, ← htn] at hr
        rw [hr, Option.bind_some]
        have hf : fnd (many + sumA (m + 1) q (now.length % 2 == 0) 0 kk) rank (B (m + 1) kk (now.length % 2 == 0)) (fnd many rank (sumA (m + 1) q (now.length % 2 == 0) 0 kk) found (now ++ dec left (atI (m + 1) q (now.length % 2 == 0) (rank - many)))) (now ++ [(y : Int)] ++ dec (left.eraseIdx kk) (atI m (some (kk, now.length % 2 == 0)) (!(now.length % 2 == 0)) (rank - (many + sumA (m + 1) q (now.length % 2 == 0) 0 kk)))) = fnd many rank (sumA (m + 1) q (now.length % 2 == 0) 0 kk + B (m + 1) kk (now.length % 2 == 0)) found (now ++ dec left (atI (m + 1) q (now.length % 2 == 0) (rank - many))) := by
          unfold fnd
          by_cases c1 : many + sumA (m + 1) q (now.length % 2 == 0) 0 kk ≤ rank ∧ rank < many + sumA (m + 1) q (now.length % 2 == 0) 0 kk + B (m + 1) kk (now.length % 2 == 0)
          · rw [if_pos c1, if_neg (by omega), if_pos (by omega)]
            have hc := find_conv (m := m + 1) (by omega) q (now.length % 2 == 0) (m + 1) 0 kk (rank - (many + sumA (m + 1) q (now.length % 2 == 0) 0 kk)) (rank - many) (by omega) (by omega) (by rw [Nat.zero_add]; exact ha) (by omega) (by rw [Nat.zero_add]; omega) (by omega)
            rw [Nat.zero_add] at hc
            have : atI (m + 1) q (now.length % 2 == 0) (rank - many) = kk :: atI m (some (kk, now.length % 2 == 0)) (!(now.length % 2 == 0)) (rank - (many + sumA (m + 1) q (now.length % 2 == 0) 0 kk)) := by
              simp only [atI]
              rw [hc]
            rw [this]
            simp only [dec]
            rw [hx, List.append_assoc, List.singleton_append]
          · rw [if_neg c1]
            by_cases c2 : many ≤ rank ∧ rank < many + sumA (m + 1) q (now.length % 2 == 0) 0 kk
            · rw [if_pos c2, if_pos (by omega)]
            · rw [if_neg c2, if_neg (by omega)]
        simp only
        rw [hf, Int.add_assoc]
        exact hnext
end Go.Proofs.Ytmigibamdeodpaa.Pure
