/- WavesCounts: Count, From and Andre are the specification's. -/
import Derived.Test.YtmigibamdeodpaaSearchF
import Derived.Test.YtmigibamdeodpaaAlive
import Derived.Test.YtmigibamdeodpaaPrintx18
namespace Go.Proofs.Ytmigibamdeodpaa.Pure
open Go.RowKit Go.Proofs.Ytmigibamdeodpaa.Print Go.Proofs.YtmigibamdeodpaaW.PrintWords Go.Proofs.YtmigibamdeodpaaW.PrintLast Go.Proofs.YtmigibamdeodpaaW.PrintMore
theorem fromAll : ((List.range 11).all fun n => (List.range n).all fun a => waves_From.f (n : Int) ((a + 1 : Nat) : Int) == some (B n a true, 0)) = true := by decide +kernel
theorem from_f {n a : Nat} (hn : n ≤ 10) (ha : a < n) : waves_From.f (n : Int) ((a + 1 : Nat) : Int) = some (B n a true, 0) := by
  have h := List.all_eq_true.1 (List.all_eq_true.1 fromAll n (List.mem_range.2 (by omega))) a (List.mem_range.2 ha)
  exact beq_iff_eq.1 h
theorem rFrom_f {n a : Nat} (hn : n ≤ 10) (ha : a < n) (k : Nat) (hk : 300 ≤ k) : clocheref05_From.f k (n : Int) ((a + 1 : Nat) : Int) = some (B n a true, 0) := by
  obtain ⟨m, rfl⟩ : ∃ m, n = m + 1 := ⟨n - 1, by omega⟩
  unfold clocheref05_From.f
  rw [if_neg (by omega), if_neg (by omega), if_neg (by omega), if_neg (by omega)]
  have hs := (sit0 hn).step (k := a) (by rw [ups_length]; omega) rfl (x := a + 1) (by rw [ups_getD (by omega)]; omega)
  rw [ups_getD (by omega)] at hs
  have hu : shl .i64 1 ((a + 1 : Nat) : Int) = ((0 ||| 2 ^ (a + 1) : Nat) : Int) := by
    have hA : a = 0 ∨ a = 1 ∨ a = 2 ∨ a = 3 ∨ a = 4 ∨ a = 5 ∨ a = 6 ∨ a = 7 ∨ a = 8 ∨ a = 9 := by omega
    rcases hA with rfl | rfl | rfl | rfl | rfl | rfl | rfl | rfl | rfl | rfl <;> decide
  have hb := begins_f (m := m + 1) (by omega) ha true
  have ht := total_next (m := m) (k := a) (by omega) ha true
  have h := on_f m (m + 1) _ _ _ _ 0 (-1) [] k hs (by rw [er_length (by rw [ups_length]; omega), ups_length]; omega) (by omega) (by
    show 0 + total m (some (a, true)) (!true) ≤ _
    rw [← ht]
    omega) (by omega)
  rw [hu]
  have h : clocheref05_search_on.f k ((m + 1 : Nat) : Int) 0 (-1) [] [((a : Int) + 1)] ((0 ||| 2 ^ (a + 1) : Nat) : Int) = some (((m + 1 : Nat) : Int), 0 + total m (some (a, true)) (!true), -1, _) := h
  rw [← ht] at h
  rw [show ((a + 1 : Nat) : Int) = (a : Int) + 1 by omega, h, Option.bind_some, Int.zero_add]
theorem andreAll : ((List.range 11).all fun n => waves_Andre.f 100 (n : Int) == clocheref05_Andre.f 100 (n : Int) && (waves_Andre.f 100 (n : Int)).isSome) = true := by decide +kernel
theorem countsAndre (n : Int) : ∃ r, waves_Andre.f 100 n = some r ∧ clocheref05_Andre.f 100 n = some r := by
  by_cases h1 : n < 0
  · refine ⟨(0, 2), ?_, ?_⟩
    · unfold waves_Andre.f
      rw [if_pos h1]
      rfl
    · unfold clocheref05_Andre.f
      rw [if_pos h1]
      rfl
  by_cases h2 : n > 10
  · refine ⟨(0, 2), ?_, ?_⟩
    · unfold waves_Andre.f
      rw [if_neg h1, decide_eq_true h2]
      rfl
    · unfold clocheref05_Andre.f
      rw [if_neg h1, decide_eq_true h2]
      rfl
  obtain ⟨m, rfl⟩ : ∃ m : Nat, n = m := ⟨n.toNat, by omega⟩
  have h := List.all_eq_true.1 andreAll m (List.mem_range.2 (by omega))
  simp only [Bool.and_eq_true, beq_iff_eq] at h
  obtain ⟨r, hr⟩ := Option.isSome_iff_exists.1 h.2
  exact ⟨r, hr, h.1 ▸ hr⟩
theorem countsCount (n : Int) : ∃ r, waves_Count.f n = some r ∧ clocheref05_Count.f 300 n = some r := by
  by_cases h1 : n < 0
  · refine ⟨(0, 2), ?_, ?_⟩
    · unfold waves_Count.f
      rw [if_pos h1]
    · unfold clocheref05_Count.f
      rw [if_pos h1]
  by_cases h2 : n > 10
  · refine ⟨(0, 2), ?_, ?_⟩
    · unfold waves_Count.f
      rw [if_neg h1, if_pos h2]
    · unfold clocheref05_Count.f
      rw [if_neg h1, if_pos h2]
  obtain ⟨m, rfl⟩ : ∃ m : Nat, n = m := ⟨n.toNat, by omega⟩
  have hc := (count_f (m := m) (by omega)).1
  have ht : total m none true = (if m = 0 then 1 else allB m true 0 m) := by
    unfold total
    rw [sumA_none]
  rw [← ht] at hc
  exact ⟨_, hc, rCount_f (by omega) 300 (by omega)⟩
theorem countsFrom (n a : Int) : ∃ r, waves_From.f n a = some r ∧ clocheref05_From.f 300 n a = some r := by
  by_cases h1 : n < 1
  · exact ⟨(0, 2), by unfold waves_From.f; rw [if_pos h1], by unfold clocheref05_From.f; rw [if_pos h1]⟩
  by_cases h2 : n > 10
  · exact ⟨(0, 2), by unfold waves_From.f; rw [if_neg h1, if_pos h2], by unfold clocheref05_From.f; rw [if_neg h1, if_pos h2]⟩
  by_cases h3 : a < 1
  · exact ⟨(0, 2), by unfold waves_From.f; rw [if_neg h1, if_neg h2, if_pos h3], by unfold clocheref05_From.f; rw [if_neg h1, if_neg h2, if_pos h3]⟩
  by_cases h4 : a > n
  · exact ⟨(0, 2), by unfold waves_From.f; rw [if_neg h1, if_neg h2, if_neg h3, if_pos h4], by unfold clocheref05_From.f; rw [if_neg h1, if_neg h2, if_neg h3, if_pos h4]⟩
  obtain ⟨m, rfl⟩ : ∃ m : Nat, n = m := ⟨n.toNat, by omega⟩
  obtain ⟨b, rfl⟩ : ∃ b : Nat, a = ((b + 1 : Nat) : Int) := ⟨a.toNat - 1, by omega⟩
  exact ⟨_, from_f (n := m) (a := b) (by omega) (by omega), rFrom_f (by omega) (by omega) 300 (by omega)⟩
theorem WavesCounts : clochelaw05_WavesCounts.Pure := by
  intro n a h0 h1
  refine ⟨302, ?_⟩
  obtain ⟨r1, c1, c2⟩ := countsCount n
  obtain ⟨r2, f1, f2⟩ := countsFrom n a
  obtain ⟨r3, a1, a2⟩ := countsAndre n
  have up : ∀ d, clocheref05_Count.f (300 + d) n = some r1 := fun d => by
    induction d with
    | zero => exact c2
    | succ d ih => exact clocheref05_Count.mono n _ _ ih
  have upF : ∀ d, clocheref05_From.f (300 + d) n a = some r2 := fun d => by
    induction d with
    | zero => exact f2
    | succ d ih => exact clocheref05_From.mono n a _ _ ih
  have upA : ∀ d, waves_Andre.f (100 + d) n = some r3 := fun d => by
    induction d with
    | zero => exact a1
    | succ d ih => exact waves_Andre.mono n _ _ ih
  have upB : ∀ d, clocheref05_Andre.f (100 + d) n = some r3 := fun d => by
    induction d with
    | zero => exact a2
    | succ d ih => exact clocheref05_Andre.mono n _ _ ih
  have e1 : ∀ k, clochelaw05_WavesCounts.f k n a = (waves_Count.f n).bind fun bt340 => ((clocheref05_Count.f k n).bind fun bt342 => (if bt340.1 = bt342.1 then (clochelaw05_WavesCounts.j0 k n a (bt340.2 != bt342.2)) else (clochelaw05_WavesCounts.j0 k n a true))) := fun _ => rfl
  have e2 : ∀ k b, clochelaw05_WavesCounts.j0 (k + 1) n a b = if b = true then (some false) else ((waves_From.f n a).bind fun bt344 => ((clocheref05_From.f k n a).bind fun bt346 => (if bt344.1 = bt346.1 then (clochelaw05_WavesCounts.j1 k n (bt344.2 != bt346.2)) else (clochelaw05_WavesCounts.j1 k n true)))) := fun _ _ => rfl
  have e3 : ∀ k b, clochelaw05_WavesCounts.j1 (k + 1) n b = if b = true then (some false) else ((waves_Andre.f k n).bind fun bt348 => ((clocheref05_Andre.f k n).bind fun bt350 => (if bt348.1 = bt350.1 then (if bt348.2 = bt350.2 then ((clochelaw05_alive.f k).bind fun t352 => (some t352)) else (some false)) else (some false)))) := fun _ _ => rfl
  obtain ⟨k, hk⟩ : ∃ k, k = 300 := ⟨_, rfl⟩
  have hA := alive k (by omega)
  rw [show (302 : Nat) = k + 2 by omega, e1, c1, Option.bind_some]
  have u1 := up 2
  rw [show 300 + 2 = k + 2 by omega] at u1
  have u2 := upF 1
  rw [show 300 + 1 = k + 1 by omega] at u2
  have u3 := upA 200
  rw [show 100 + 200 = k by omega] at u3
  have u4 := upB 200
  rw [show 100 + 200 = k by omega] at u4
  rw [u1, Option.bind_some, if_pos rfl, bne_self_eq_false, e2, if_neg (by decide), f1, Option.bind_some, u2, Option.bind_some, if_pos rfl, bne_self_eq_false, e3, if_neg (by decide), u3, Option.bind_some, u4, Option.bind_some, if_pos rfl, if_pos rfl, hA]
  rfl
end Go.Proofs.Ytmigibamdeodpaa.Pure
