/- The specification's Count, From and At, by hand. -/
import Derived.Test.YtmigibamdeodpaaHandSearch
namespace Go.Proofs.Ytmigibamdeodpaa.Print
open Go.RowKit Go.Proofs.YtmigibamdeodpaaW.PrintWords Go.Proofs.YtmigibamdeodpaaW.PrintLast Go.Proofs.YtmigibamdeodpaaW.PrintMore
attribute [local go_sem] max2_int min2_int max_two min_two max_three min_three max_four min_four   -- for this text's walks alone
set_option linter.unusedVariables false
set_option linter.unusedSimpArgs false
/-! ### the specification's Count, From and At: functions 25, 27, 21 -/
theorem newS60 (w W : World) (hB : Below w.heap.size w W) (n rank : Int) : IsS60 w (W.alloc (.cells #[.int .i64 n, .int .i64 0, .int .i64 rank, .slice none 0 0] 60)) W.heap.size n 0 rank [] :=
  ⟨_, by simpa using heap_alloc_new W _, hB.size, Kd.R_nil _ _ _ _ _, fun _ => rfl⟩
def clocheref05_Count.f (k : Nat) (a0 : Int) : Option (Int × Int) := if a0 < 0 then some (0, 2) else (if a0 > 10 then some (0, 2) else ((clocheref05_search_on.f k a0 0 (-1) [] [] 0).bind fun t => (some (t.2.1, 0))))
theorem clocheref05_Count.mono (a0 : Int) (k : Nat) : LeO (clocheref05_Count.f k a0) (clocheref05_Count.f (k + 1) a0) := by
  unfold clocheref05_Count.f
  refine LeO.ite (LeO.refl _) (LeO.ite (LeO.refl _) (LeO.bind (clocheref05_search_on.mono _ _ _ _ _ _ _) (fun _ => LeO.refl _)))
set_option maxHeartbeats 8000000 in
set_option maxRecDepth 100000 in
theorem clocheref05_Count.calls (k : Nat) (a0 : Int) (r1 : Int) (r2 : Int) (w : World) (h : clocheref05_Count.f k a0 = some (r1, r2)) :
    Calls Try.prog 25 #[.int .i64 a0] w fun e w' => e = .returned (.tuple #[.int .i64 r1, .int .i64 r2]) ∧ Below w.heap.size w w' := by
  unfold clocheref05_Count.f at h
  by_cases c1 : a0 < 0
  · rw [if_pos c1] at h
    simp only [Option.some.injEq, Prod.mk.injEq] at h
    obtain ⟨rfl, rfl⟩ := h
    have c1b : decide (a0 < 0) = true := decide_eq_true c1
    clear c1
    go_enter Try.func25, Try.ntmps25
    go_wp2
    go_ret2
    exact ⟨rfl, by repeat (first | (with_reducible first | exact Below.refl _ _ | apply below_alloc | apply pw_below_drewN | apply below_drew1) | exact Below.refl _ _)⟩
  rw [if_neg c1] at h
  have c1b : decide (a0 < 0) = false := decide_eq_false c1
  by_cases c2 : a0 > 10
  · rw [if_pos c2] at h
    simp only [Option.some.injEq, Prod.mk.injEq] at h
    obtain ⟨rfl, rfl⟩ := h
    have c2b : decide (10 < a0) = true := decide_eq_true c2
    clear c1 c2
    go_enter Try.func25, Try.ntmps25
    go_wp2
    go_ret2
    exact ⟨rfl, by repeat (first | (with_reducible first | exact Below.refl _ _ | apply below_alloc | apply pw_below_drewN | apply below_drew1) | exact Below.refl _ _)⟩
  rw [if_neg c2] at h
  have c2b : decide (10 < a0) = false := decide_eq_false c2
  obtain ⟨⟨t1, t2, t3, t4⟩, hs, h⟩ := Option.bind_eq_some_iff.mp h
  simp only [Option.some.injEq, Prod.mk.injEq] at h
  obtain ⟨rfl, rfl⟩ := h
  have HS := Aside0.mk hs
  clear hs c1 c2
  go_enter Try.func25, Try.ntmps25
  go_wp2_with fail
  refine (clocheref05_search_on.calls k w.heap.size a0 0 (-1) [] none 0 [] 0 t1 t2 t3 t4 w _ (newS60 w w (Below.refl _ _) _ _) (below_alloc (Below.refl _ _) _) (Kd.C_nil _ _) (Nat.le_refl _) (fun ad e => by cases e) HS.out).mono ?_
  rintro e w' ⟨rfl, hI, hB, hK⟩
  obtain ⟨vf, hG, hg, hR, hE⟩ := hI
  have hc1 := cellS60_1 hG
  have HB := Aside0.mk hB
  clear hG hg hR hE hB hK
  go_wp2
  go_ret2
  exact ⟨rfl, HB.out⟩
def clocheref05_At.f (k : Nat) (a0 : Int) (a1 : Int) : Option (List Int × Int) := if a0 < 0 then some ([], 2) else (if a0 > 10 then some ([], 2) else ((clocheref05_search_on.f k a0 0 a1 [] [] 0).bind fun t => (if a1 < 0 then some ([], 4) else (if t.2.1 ≤ a1 then some ([], 4) else some (t.2.2.2, 0)))))
theorem clocheref05_At.mono (a0 : Int) (a1 : Int) (k : Nat) : LeO (clocheref05_At.f k a0 a1) (clocheref05_At.f (k + 1) a0 a1) := by
  unfold clocheref05_At.f
  refine LeO.ite (LeO.refl _) (LeO.ite (LeO.refl _) (LeO.bind (clocheref05_search_on.mono _ _ _ _ _ _ _) (fun _ => LeO.refl _)))
set_option maxHeartbeats 8000000 in
set_option maxRecDepth 100000 in
theorem clocheref05_At.calls (k : Nat) (a0 : Int) (a1 : Int) (r1 : List Int) (r2 : Int) (w : World) (h : clocheref05_At.f k a0 a1 = some (r1, r2)) :
    Calls Try.prog 21 #[.int .i64 a0, .int .i64 a1] w fun e w' => ∃ v0_ : Value, e = .returned (.tuple #[v0_, .int .i64 r2]) ∧ Kd.R (Kd.int .i64) 3 w' w.heap.size (fun _ => True) v0_ r1 ∧ Below w.heap.size w w' := by
  unfold clocheref05_At.f at h
  by_cases c1 : a0 < 0
  · rw [if_pos c1] at h
    simp only [Option.some.injEq, Prod.mk.injEq] at h
    obtain ⟨rfl, rfl⟩ := h
    have c1b : decide (a0 < 0) = true := decide_eq_true c1
    clear c1
    go_enter Try.func21, Try.ntmps21
    go_wp2
    go_ret2
    exact ⟨_, rfl, Kd.R_nil _ _ _ _ _, by repeat (first | (with_reducible first | exact Below.refl _ _ | apply below_alloc | apply pw_below_drewN | apply below_drew1) | exact Below.refl _ _)⟩
  rw [if_neg c1] at h
  have c1b : decide (a0 < 0) = false := decide_eq_false c1
  by_cases c2 : a0 > 10
  · rw [if_pos c2] at h
    simp only [Option.some.injEq, Prod.mk.injEq] at h
    obtain ⟨rfl, rfl⟩ := h
    have c2b : decide (10 < a0) = true := decide_eq_true c2
    clear c1 c2
    go_enter Try.func21, Try.ntmps21
    go_wp2
    go_ret2
    exact ⟨_, rfl, Kd.R_nil _ _ _ _ _, by repeat (first | (with_reducible first | exact Below.refl _ _ | apply below_alloc | apply pw_below_drewN | apply below_drew1) | exact Below.refl _ _)⟩
  rw [if_neg c2] at h
  have c2b : decide (10 < a0) = false := decide_eq_false c2
  obtain ⟨⟨t1, t2, t3, t4⟩, hs, h⟩ := Option.bind_eq_some_iff.mp h
  have HS := Aside0.mk hs
  clear hs c1 c2
  have enter : ∀ R : Ending → World → Prop, (∀ vf w', w'.heap[w.heap.size]? = some (.cells #[.int .i64 t1, .int .i64 t2, .int .i64 t3, vf] 60 (0, 0)) → Kd.R (Kd.int .i64) 3 w' w.heap.size (fun _ => True) vf t4 → Below w.heap.size w w' → R (.returned (.tuple #[])) w') →
      Calls Try.prog 52 #[.pointer (some ⟨w.heap.size, 0, none⟩), .slice none 0 0, .int .i64 0] (w.alloc (.cells #[.int .i64 a0, .int .i64 0, .int .i64 a1, .slice none 0 0] 60)) R := by
    intro R hR
    refine (clocheref05_search_on.calls k w.heap.size a0 0 a1 [] none 0 [] 0 t1 t2 t3 t4 w _ (newS60 w w (Below.refl _ _) _ _) (below_alloc (Below.refl _ _) _) (Kd.C_nil _ _) (Nat.le_refl _) (fun ad e => by cases e) HS.out).mono ?_
    rintro e w' ⟨rfl, hI, hB, hK⟩
    obtain ⟨vf, hG, hg, hr, hE⟩ := hI
    exact hR vf w' hG (Kd.R_mono hr (fun _ _ => trivial)) hB
  have ENT := Aside0.mk enter
  clear enter
  by_cases c3 : a1 < 0
  · have h : (some (([] : List Int), (4 : Int))) = some (r1, r2) := by simpa only [if_pos c3] using h
    simp only [Option.some.injEq, Prod.mk.injEq] at h
    obtain ⟨rfl, rfl⟩ := h
    have c3b : decide (a1 < 0) = true := decide_eq_true c3
    clear c3
    go_enter Try.func21, Try.ntmps21
    go_wp2_with fail
    refine ENT.out _ ?_
    intro vf w' hG hR hB
    have hc1 := cellS60_1 hG
    have hc3 := cellS60_3 hG
    obtain ⟨A_, c_, rfl⟩ := Kd.R_slice hR
    have HR := Aside0.mk hR
    have HB := Aside0.mk hB
    clear hG hR hB
    go_wp2
    repeat (go_quiet (fail); try go_wp2)
    go_ret2
    exact ⟨_, rfl, Kd.R_nil _ _ _ _ _, by repeat (first | (with_reducible first | exact HB.out | apply below_alloc | apply pw_below_drewN | apply below_drew1) | exact HB.out)⟩
  · have h : (if t2 ≤ a1 then some (([] : List Int), (4 : Int)) else some (t4, 0)) = some (r1, r2) := by simpa only [if_neg c3] using h
    have c3b : decide (a1 < 0) = false := decide_eq_false c3
    clear c3
    by_cases c4 : t2 ≤ a1
    · rw [if_pos c4] at h
      simp only [Option.some.injEq, Prod.mk.injEq] at h
      obtain ⟨rfl, rfl⟩ := h
      have c4b : decide (t2 ≤ a1) = true := decide_eq_true c4
      clear c4
      go_enter Try.func21, Try.ntmps21
      go_wp2_with fail
      refine ENT.out _ ?_
      intro vf w' hG hR hB
      have hc1 := cellS60_1 hG
      have hc3 := cellS60_3 hG
      obtain ⟨A_, c_, rfl⟩ := Kd.R_slice hR
      have HR := Aside0.mk hR
      have HB := Aside0.mk hB
      clear hG hR hB
      go_wp2
      repeat (go_quiet (fail); try go_wp2)
      go_ret2
      exact ⟨_, rfl, Kd.R_nil _ _ _ _ _, by repeat (first | (with_reducible first | exact HB.out | apply below_alloc | apply pw_below_drewN | apply below_drew1) | exact HB.out)⟩
    · rw [if_neg c4] at h
      simp only [Option.some.injEq, Prod.mk.injEq] at h
      obtain ⟨rfl, rfl⟩ := h
      have c4b : decide (t2 ≤ a1) = false := decide_eq_false c4
      clear c4
      go_enter Try.func21, Try.ntmps21
      go_wp2_with fail
      refine ENT.out _ ?_
      intro vf w' hG hR hB
      have hc1 := cellS60_1 hG
      have hc3 := cellS60_3 hG
      obtain ⟨A_, c_, rfl⟩ := Kd.R_slice hR
      have HR := Aside0.mk hR
      have HB := Aside0.mk hB
      clear hG hR hB
      go_wp2
      repeat (go_quiet (fail); try go_wp2)
      go_ret2
      exact ⟨_, rfl, by (with_reducible repeat (first | apply Kd.R_alloc | apply Kd.R_drewN | apply Kd.R_drew)); exact HR.out, by repeat (first | (with_reducible first | exact HB.out | apply below_alloc | apply pw_below_drewN | apply below_drew1) | exact HB.out)⟩
theorem oneC (W : World) (z : Int) : Kd.C (Kd.int .i64) (W.alloc (.cells #[.int .i64 z] 3)) (some ⟨W.heap.size, 0, none⟩) [z].length [z] := by
  refine ⟨rfl, by simp, fun _ => ⟨_, rfl, fun j p hj => ?_⟩⟩
  have h0 : j = 0 ∧ p = z := by
    cases j with
    | zero => simpa using hj.symm
    | succ j => simp at hj
  obtain ⟨rfl, rfl⟩ := h0
  refine ⟨[.int .i64 p], rfl, rfl, fun i u hu => ?_⟩
  rw [Nat.zero_mul, Nat.zero_add]
  exact cell_one_new _ _ _ i u hu
def clocheref05_From.f (k : Nat) (a0 : Int) (a1 : Int) : Option (Int × Int) := if a0 < 1 then some (0, 2) else (if a0 > 10 then some (0, 2) else (if a1 < 1 then some (0, 2) else (if a1 > a0 then some (0, 2) else ((clocheref05_search_on.f k a0 0 (-1) [] [a1] (shl .i64 1 a1)).bind fun t => (some (t.2.1, 0))))))
theorem clocheref05_From.mono (a0 : Int) (a1 : Int) (k : Nat) : LeO (clocheref05_From.f k a0 a1) (clocheref05_From.f (k + 1) a0 a1) := by
  unfold clocheref05_From.f
  refine LeO.ite (LeO.refl _) (LeO.ite (LeO.refl _) (LeO.ite (LeO.refl _) (LeO.ite (LeO.refl _) (LeO.bind (clocheref05_search_on.mono _ _ _ _ _ _ _) (fun _ => LeO.refl _)))))
set_option maxHeartbeats 8000000 in
set_option maxRecDepth 100000 in
theorem clocheref05_From.calls (k : Nat) (a0 : Int) (a1 : Int) (r1 : Int) (r2 : Int) (w : World) (h : clocheref05_From.f k a0 a1 = some (r1, r2)) :
    Calls Try.prog 27 #[.int .i64 a0, .int .i64 a1] w fun e w' => e = .returned (.tuple #[.int .i64 r1, .int .i64 r2]) ∧ Below w.heap.size w w' := by
  unfold clocheref05_From.f at h
  by_cases c0 : a0 < 1
  · rw [if_pos c0] at h
    simp only [Option.some.injEq, Prod.mk.injEq] at h
    obtain ⟨rfl, rfl⟩ := h
    have c0b : decide (a0 < 1) = true := decide_eq_true c0
    clear c0
    go_enter Try.func27, Try.ntmps27
    go_wp2
    go_ret2
    exact ⟨rfl, by repeat (first | (with_reducible first | exact Below.refl _ _ | apply below_alloc | apply pw_below_drewN | apply below_drew1) | exact Below.refl _ _)⟩
  rw [if_neg c0] at h
  have c0b : decide (a0 < 1) = false := decide_eq_false c0
  by_cases c1 : a0 > 10
  · rw [if_pos c1] at h
    simp only [Option.some.injEq, Prod.mk.injEq] at h
    obtain ⟨rfl, rfl⟩ := h
    have c1b : decide (10 < a0) = true := decide_eq_true c1
    clear c1
    go_enter Try.func27, Try.ntmps27
    go_wp2
    go_ret2
    exact ⟨rfl, by repeat (first | (with_reducible first | exact Below.refl _ _ | apply below_alloc | apply pw_below_drewN | apply below_drew1) | exact Below.refl _ _)⟩
  rw [if_neg c1] at h
  have c1b : decide (10 < a0) = false := decide_eq_false c1
  by_cases c2 : a1 < 1
  · rw [if_pos c2] at h
    simp only [Option.some.injEq, Prod.mk.injEq] at h
    obtain ⟨rfl, rfl⟩ := h
    have c2b : decide (a1 < 1) = true := decide_eq_true c2
    clear c2
    go_enter Try.func27, Try.ntmps27
    go_wp2
    go_ret2
    exact ⟨rfl, by repeat (first | (with_reducible first | exact Below.refl _ _ | apply below_alloc | apply pw_below_drewN | apply below_drew1) | exact Below.refl _ _)⟩
  rw [if_neg c2] at h
  have c2b : decide (a1 < 1) = false := decide_eq_false c2
  by_cases c3 : a1 > a0
  · rw [if_pos c3] at h
    simp only [Option.some.injEq, Prod.mk.injEq] at h
    obtain ⟨rfl, rfl⟩ := h
    have c3b : decide (a0 < a1) = true := decide_eq_true c3
    clear c3
    go_enter Try.func27, Try.ntmps27
    go_wp2
    go_ret2
    exact ⟨rfl, by repeat (first | (with_reducible first | exact Below.refl _ _ | apply below_alloc | apply pw_below_drewN | apply below_drew1) | exact Below.refl _ _)⟩
  rw [if_neg c3] at h
  have c3b : decide (a0 < a1) = false := decide_eq_false c3
  have hp : (0 : Int) ≤ a1 := by omega
  have hpb : decide (a1 < 0) = false := decide_eq_false (by omega)
  have hpc : decide (0 ≤ a1) = true := decide_eq_true hp
  have hpd := eq_true hp
  obtain ⟨⟨t1, t2, t3, t4⟩, hs, h⟩ := Option.bind_eq_some_iff.mp h
  simp only [Option.some.injEq, Prod.mk.injEq] at h
  obtain ⟨rfl, rfl⟩ := h
  obtain ⟨ji, hji⟩ : ∃ j_ : Int, (shl .i64 1 a1) = j_ := ⟨_, rfl⟩
  rw [hji] at hs
  have hji_ : (IntKind.i64.wrap (1 * 2 ^ min a1.toNat 64)) = ji := hji
  have hjiz : a1 ≤ 64 → (IntKind.i64.wrap (1 * 2 ^ a1.toNat)) = ji := shl_small hji
  have hjiu : (IntKind.i64.wrap (2 ^ min a1.toNat 64)) = ji := by have h_ := hji_; rw [Int.one_mul] at h_; exact h_
  have hjiv : a1 ≤ 64 → (IntKind.i64.wrap (2 ^ a1.toNat)) = ji := fun hle_ => by have h_ := hjiz hle_; rw [Int.one_mul] at h_; exact h_
  have hjiy : (wrap64 (1 * 2 ^ min a1.toNat 64)) = ji := (i64_w _).symm.trans hji_
  have hjix : a1 ≤ 64 → (wrap64 (1 * 2 ^ a1.toNat)) = ji := fun h_ => (i64_w _).symm.trans (hjiz h_)
  have HS := Aside0.mk hs
  clear hs c0 c1 c2 c3 hp
  go_enter Try.func27, Try.ntmps27
  go_wp2_with fail
  have hsz : (w.alloc (.cells #[.int .i64 a0, .int .i64 0, .int .i64 (-1), .slice none 0 0] 60)).heap.size = w.heap.size + 1 := by simp
  have hC := oneC (w.alloc (.cells #[.int .i64 a0, .int .i64 0, .int .i64 (-1), .slice none 0 0] 60)) a1
  rw [hsz] at hC
  have hI0 := IsS60.alloc (newS60 w w (Below.refl _ _) a0 (-1)) (.cells #[.int .i64 a1] 3)
  have hB0 := below_alloc (below_alloc (Below.refl w.heap.size w) (.cells #[.int .i64 a0, .int .i64 0, .int .i64 (-1), .slice none 0 0] 60)) (.cells #[.int .i64 a1] 3)
  have hne : ∀ ad : Addr, some (⟨w.heap.size + 1, 0, none⟩ : Addr) = some ad → 0 < [a1].length → ad.block ≠ w.heap.size := by
    intro ad e _
    cases e
    exact Nat.succ_ne_self _
  refine (clocheref05_search_on.calls k w.heap.size a0 0 (-1) [] (some ⟨w.heap.size + 1, 0, none⟩) 1 [a1] ji t1 t2 t3 t4 w _ hI0 hB0 hC (Nat.le_refl _) hne HS.out).mono ?_
  rintro e w' ⟨rfl, hI, hB, hK⟩
  obtain ⟨vf, hG, hg, hR, hE⟩ := hI
  have hc1 := cellS60_1 hG
  have HB := Aside0.mk hB
  clear hG hg hR hE hB hK
  go_wp2
  go_ret2
  exact ⟨rfl, HB.out⟩
end Go.Proofs.Ytmigibamdeodpaa.Print
