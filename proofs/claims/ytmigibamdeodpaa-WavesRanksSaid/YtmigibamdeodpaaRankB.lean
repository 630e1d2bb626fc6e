/- The specification's rank of a wave is the number of the waves before it. -/
import Derived.Test.YtmigibamdeodpaaRankS
namespace Go.Proofs.Ytmigibamdeodpaa.Pure
open Go.RowKit Go.Proofs.Ytmigibamdeodpaa.Print Go.Proofs.YtmigibamdeodpaaW.PrintWords Go.Proofs.YtmigibamdeodpaaW.PrintLast Go.Proofs.YtmigibamdeodpaaW.PrintMore
theorem bef_loop (m n : Nat) (w now left : List Int) (u : Nat) (q : Adm) (c : Cm) (hw : w.length = n) (hs : Sit n now left u q) (hl : left.length = m + 1) (ho : okC (m + 1) q (now.length % 2 == 0) c) (hr : RelC w now left c)
    (ih : ∀ (now left : List Int) (u : Nat) (q : Adm) (c : Cm) (k : Nat), Sit n now left u q → left.length = m → okC m q (now.length % 2 == 0) c → RelC w now left c → 15 * m + 40 ≤ k →
      clocheref05_before.f k w now u = some (valC m q (now.length % 2 == 0) c)) :
    ∀ d k (y kk : Nat), y + d = n + 1 → 1 ≤ y → kk ≤ m + 1 → (∀ j, j < kk → left.getD j 0 < (y : Int)) → (∀ j, kk ≤ j → j < left.length → (y : Int) ≤ left.getD j 0) → 15 * m + 41 + d ≤ k →
      clocheref05_before.l0 k w now u (prefC (m + 1) q (now.length % 2 == 0) kk c) y = some (valC (m + 1) q (now.length % 2 == 0) c) := by
  have hn := hs.hn
  have hlen := hs.length
  intro d
  induction d with
  | zero =>
    intro k y kk hy h1 hk lo hi hK
    obtain ⟨k, rfl, _⟩ := succK (show 0 < k by omega)
    have hkk : kk = m + 1 := by
      rcases Nat.lt_or_eq_of_le hk with c | c
      · have a := hi kk (Nat.le_refl _) (by omega)
        have b := mem_ups.1 (hs.perm.subset (List.mem_append_right _ (getD_mem (show kk < left.length by omega))))
        omega
      · exact c
    subst hkk
    simp only [clocheref05_before.l0]
    rw [if_neg (by omega), prefC_full _ _ _ _ ho]
  | succ d ihd =>
    intro k y kk hy h1 hk lo hi hK
    obtain ⟨k, rfl, _⟩ := succK (show 0 < k by omega)
    have hy11 : y < 11 := by omega
    have e2 := w64s y hy11
    have hbit := (mask u y hs.mu hy11).2.2.1
    have hbor := (mask u y hs.mu hy11).2.1
    have htm : Int.tmod (shr .i64 (u : Int) (y : Int)) 2 = 0 ↔ Nat.testBit u y = false := by
      have hr : Int.tmod (shr .i64 (u : Int) (y : Int)) 2 = 0 ∨ Int.tmod (shr .i64 (u : Int) (y : Int)) 2 = 1 := by
        have hp : 0 ≤ shr .i64 (u : Int) (y : Int) := by
          unfold shr
          exact Int.ediv_nonneg (by omega) (by exact Int.le_of_lt (Int.pow_pos (by decide)))
        rw [Int.tmod_eq_emod_of_nonneg hp]
        omega
      cases hc : Nat.testBit u y
      · have : ¬ Int.tmod (shr .i64 (u : Int) (y : Int)) 2 = 1 := fun c => by rw [hbit.1 c] at hc; cases hc
        simp only [iff_true]
        rcases hr with c | c
        · exact c
        · exact absurd c this
      · have := hbit.2 hc
        rw [this]
        simp
    simp only [clocheref05_before.l0]
    unfold snoc_int.f
    rw [if_pos (by omega), if_pos (by omega), Option.bind_some, if_pos (by omega), e2]
    rcases hs.next h1 (by omega) lo hi with ⟨hu, hi2⟩ | ⟨hu, hkl, hx⟩
    · have hb1 := (hs.bit y hy11).2 hu
      rw [if_neg (fun c => by rw [htm.1 c] at hb1; cases hb1)]
      exact ihd k (y + 1) kk (by omega) (by omega) hk (fun j hj => by have := lo j hj; omega) (fun j hj hj2 => by have := hi2 j hj hj2; omega) (by omega)
    · have hb0 : Nat.testBit u y = false := by
        cases hc : Nat.testBit u y
        · rfl
        · exact absurd ((hs.bit y hy11).1 hc) hu
      have hnd : (now ++ [(y : Int)]).Nodup := by
        have hnd := hs.perm.nodup_iff.2 (ups_nodup n)
        have h2 := ((er_perm hkl).append_left now).nodup_iff.2 hnd
        rw [hx] at h2
        have h3 : now ++ (y : Int) :: left.eraseIdx kk = (now ++ [(y : Int)]) ++ left.eraseIdx kk := by simp
        rw [h3] at h2
        exact (List.nodup_append.1 h2).1
      have hwv := wave_f (now ++ [(y : Int)]) hnd (by simp; omega) k (by simp; omega)
      rw [← hx, upB_snoc hs.ql hs.up hkl, hx] at hwv
      rw [if_pos (htm.2 hb0), hwv, Option.bind_some]
      have lo' : ∀ j, j < kk + 1 → left.getD j 0 < ((y + 1 : Nat) : Int) := fun j hj => by
        rcases Nat.lt_or_eq_of_le (Nat.le_of_lt_succ hj) with c | c
        · have := lo j c; omega
        · subst c; omega
      have hi' : ∀ j, kk + 1 ≤ j → j < left.length → ((y + 1 : Nat) : Int) ≤ left.getD j 0 := fun j hj hj2 => by
        have := hs.asc kk j (by omega) hj2
        omega
      have hnext := ihd k (y + 1) (kk + 1) (by omega) (by omega) (by omega) lo' hi' (by omega)
      rw [prefC_succ (by omega) q _ c ho (by omega)] at hnext
      cases ha : admI q kk
      · rw [if_neg (by decide)]
        rw [ha, if_neg (by decide), Int.add_zero] at hnext
        exact hnext
      · rw [if_pos rfl, hbor]
        rw [ha, if_pos rfl] at hnext
        have hst := hs.step hkl ha hx
        have hrel := hr.step ho hs.asc hl hkl
        rw [hx] at hst hrel
        have hp := prefC_le (m := m) (by omega) q (now.length % 2 == 0) c ho kk (by omega)
        have hv := valC_le (m := m) (by omega) (some (kk, now.length % 2 == 0)) (!(now.length % 2 == 0)) (stC c kk) (okC_step ho kk)
        have hpar : ((now ++ [(y : Int)]).length % 2 == 0) = !(now.length % 2 == 0) := by
          rw [List.length_append, List.length_singleton, par']
        have hr := ih (now ++ [(y : Int)]) (left.eraseIdx kk) (u ||| 2 ^ y) (some (kk, now.length % 2 == 0)) (stC c kk) k hst (by rw [er_length hkl]; omega) (by rw [hpar]; exact okC_step ho kk) hrel (by omega)
        rw [hpar] at hr
        rw [hr, Option.bind_some, w64 (by omega) (by omega)]
        exact hnext
theorem bef_f (n : Nat) (w : List Int) (hw : w.length = n) : ∀ (m : Nat) (now left : List Int) (u : Nat) (q : Adm) (c : Cm) (k : Nat), Sit n now left u q → left.length = m → okC m q (now.length % 2 == 0) c → RelC w now left c → 15 * m + 40 ≤ k →
      clocheref05_before.f k w now u = some (valC m q (now.length % 2 == 0) c) := by
  intro m
  induction m with
  | zero =>
    intro now left u q c k hs hl ho hr hK
    obtain ⟨k, rfl, _⟩ := succK (show 0 < k by omega)
    have hlen := hs.length
    have hn := hs.hn
    simp only [clocheref05_before.f]
    rw [if_pos (by omega), less_f left (by omega) (by omega) hr k (by omega), Option.bind_some]
    cases c with
    | lt => rfl
    | gt => rfl
    | eq ks => rfl
  | succ m ih =>
    intro now left u q c k hs hl ho hr hK
    obtain ⟨k, rfl, _⟩ := succK (show 0 < k by omega)
    have hlen := hs.length
    have hn := hs.hn
    simp only [clocheref05_before.f]
    rw [if_neg (by omega)]
    have hin : ∀ j, j < left.length → 1 ≤ left.getD j 0 := fun j hj => (mem_ups.1 (hs.perm.subset (List.mem_append_right _ (getD_mem hj)))).1
    have h := bef_loop m n w now left u q c hw hs hl ho hr (fun now left u q c k => ih now left u q c k) n k 1 0 (by omega) (by omega) (by omega) (fun j hj => by omega) (fun j _ hj => by have := hin j hj; omega) (by omega)
    rw [prefC_zero] at h
    exact h
theorem rIsWave_g (l : List Int) (k : Nat) (hk : 11 ≤ k) : clocheref05_IsWave.f k l = some (if rowS l = 0 then (upB l, 0) else (false, rowS l)) := by
  unfold clocheref05_IsWave.f
  rw [Row_f l k hk, Option.bind_some]
  by_cases h : rowS l = 0
  · have hr := (rowS_zero l).1 h
    have := hr.1
    rw [if_pos h, if_pos h, wave_f l hr.2.2 (by omega) k (by omega), h]
    rfl
  · rw [if_neg h, if_neg h]
end Go.Proofs.Ytmigibamdeodpaa.Pure
