/- What the functions of the waves compute, printed by this repo's hand printer. -/
import Derived.Test.YtmigibamdeodpaaPrintx0
import Derived.Test.YtmigibamdeodpaaPrintx5
import Derived.Test.YtmigibamdeodpaaPrintx8
import Derived.Test.YtmigibamdeodpaaPrintx9
import Derived.Test.YtmigibamdeodpaaPrintx26
import Derived.Test.YtmigibamdeodpaaPrintx28
namespace Go.Proofs.Ytmigibamdeodpaa.Print
open Go.RowKit Go.Proofs.YtmigibamdeodpaaW.PrintWords Go.Proofs.YtmigibamdeodpaaW.PrintLast Go.Proofs.YtmigibamdeodpaaW.PrintMore
attribute [local go_sem] max2_int min2_int max_two min_two max_three min_three max_four min_four   -- for this text's walks alone
set_option linter.unusedVariables false
set_option linter.unusedSimpArgs false

/-! ### clochelaw05_WavesFoata: function 12 -/
mutual
def clochelaw05_WavesFoata.j0 : Nat → Int → Int → Bool → Option (Bool)
  | 0, _, _, _ => none
  | k + 1, x3, x4, x39 => if x39 = true then (some false) else (if x3 > 6 then ((clochelaw05_alive.f k).bind fun t488 => (some t488)) else ((clochelaw05_rows.f k x3 ([] : List Int) 0).bind fun t489 => (clochelaw05_WavesFoata.l0 k x4 t489 0 0 0)))
def clochelaw05_WavesFoata.l0 : Nat → Int → List (List Int) → Int → Int → Int → Option (Bool)
  | 0, _, _, _, _, _ => none
  | k + 1, x4, x8, x9, x10, x11 => if x11 < (x8.length : Int) then (if 0 ≤ x11 then ((waves_IsWave.f k (rd_L1 x8 x11)).bind fun bt494 => ((waves_IsAndre.f k (rd_L1 x8 x11)).bind fun bt497 => (if bt494.2 = 0 then (clochelaw05_WavesFoata.j2 k x4 x8 x9 x10 x11 bt494.1 bt497.1 (bt497.2 != 0)) else (clochelaw05_WavesFoata.j2 k x4 x8 x9 x10 x11 bt494.1 bt497.1 true)))) else (none)) else (if x9 = x4 then (if x10 = x4 then ((clochelaw05_alive.f k).bind fun t492 => (some t492)) else (some false)) else (some false))
def clochelaw05_WavesFoata.j2 : Nat → Int → List (List Int) → Int → Int → Int → Bool → Bool → Bool → Option (Bool)
  | 0, _, _, _, _, _, _, _, _ => none
  | k + 1, x4, x8, x9, x10, x11, x12, x14, x72 => if x72 = true then (some false) else (if x12 = true then (if x14 = true then (clochelaw05_WavesFoata.l0 k x4 x8 (wrap64 (x9 + 1)) (wrap64 (x10 + 1)) (wrap64 (x11 + 1))) else (clochelaw05_WavesFoata.l0 k x4 x8 (wrap64 (x9 + 1)) x10 (wrap64 (x11 + 1)))) else (if x14 = true then (clochelaw05_WavesFoata.l0 k x4 x8 x9 (wrap64 (x10 + 1)) (wrap64 (x11 + 1))) else (clochelaw05_WavesFoata.l0 k x4 x8 x9 x10 (wrap64 (x11 + 1)))))
end
def clochelaw05_WavesFoata.f (k : Nat) (a0 : Int) : Option (Bool) := (waves_Count.f (wrap64 (Int.tmod a0 11))).bind fun bt484 => ((waves_Andre.f k (wrap64 (Int.tmod a0 11))).bind fun bt486 => (if bt484.2 = 0 then (if bt486.2 = 0 then (clochelaw05_WavesFoata.j0 k (wrap64 (Int.tmod a0 11)) bt484.1 (bt486.1 != bt484.1)) else (clochelaw05_WavesFoata.j0 k (wrap64 (Int.tmod a0 11)) bt484.1 true)) else (clochelaw05_WavesFoata.j0 k (wrap64 (Int.tmod a0 11)) bt484.1 true)))
theorem clochelaw05_WavesFoata.mono_l : ∀ k, (∀ y0 y1 y2, LeO (clochelaw05_WavesFoata.j0 k y0 y1 y2) (clochelaw05_WavesFoata.j0 (k + 1) y0 y1 y2)) ∧ (∀ y0 y1 y2 y3 y4, LeO (clochelaw05_WavesFoata.l0 k y0 y1 y2 y3 y4) (clochelaw05_WavesFoata.l0 (k + 1) y0 y1 y2 y3 y4)) ∧ (∀ y0 y1 y2 y3 y4 y5 y6 y7, LeO (clochelaw05_WavesFoata.j2 k y0 y1 y2 y3 y4 y5 y6 y7) (clochelaw05_WavesFoata.j2 (k + 1) y0 y1 y2 y3 y4 y5 y6 y7))
  | 0 => ⟨fun _ _ _ r h => by simp [clochelaw05_WavesFoata.j0] at h, fun _ _ _ _ _ r h => by simp [clochelaw05_WavesFoata.l0] at h, fun _ _ _ _ _ _ _ _ r h => by simp [clochelaw05_WavesFoata.j2] at h⟩
  | k + 1 => by
    obtain ⟨ih0, ih1, ih2⟩ := clochelaw05_WavesFoata.mono_l k
    refine ⟨?_, ?_, ?_⟩
    · intro y0 y1 y2
      unfold clochelaw05_WavesFoata.j0
      repeat' first
      | (with_reducible exact ih0 _ _ _)
      | (with_reducible exact ih1 _ _ _ _ _)
      | (with_reducible exact ih2 _ _ _ _ _ _ _ _)
      | (with_reducible exact clochelaw05_alive.mono _)
      | (with_reducible exact clochelaw05_rows.mono _ _ _ _)
      | (with_reducible exact waves_Andre.mono _ _)
      | (with_reducible exact waves_IsAndre.mono _ _)
      | (with_reducible exact waves_IsWave.mono _ _)
      | (with_reducible exact LeO.refl _)
      | (with_reducible exact LeO.none _)
      | (with_reducible refine LeO.ite ?_ ?_)
      | (with_reducible refine LeO.bind ?_ (fun _ => ?_))
      | exact ih0 _ _ _
      | exact ih1 _ _ _ _ _
      | exact ih2 _ _ _ _ _ _ _ _
      | exact clochelaw05_alive.mono _
      | exact clochelaw05_rows.mono _ _ _ _
      | exact waves_Andre.mono _ _
      | exact waves_IsAndre.mono _ _
      | exact waves_IsWave.mono _ _
      | exact LeO.none _
      | refine LeO.ite ?_ ?_
      | refine LeO.bind ?_ (fun _ => ?_)
    · intro y0 y1 y2 y3 y4
      unfold clochelaw05_WavesFoata.l0
      repeat' first
      | (with_reducible exact ih0 _ _ _)
      | (with_reducible exact ih1 _ _ _ _ _)
      | (with_reducible exact ih2 _ _ _ _ _ _ _ _)
      | (with_reducible exact clochelaw05_alive.mono _)
      | (with_reducible exact clochelaw05_rows.mono _ _ _ _)
      | (with_reducible exact waves_Andre.mono _ _)
      | (with_reducible exact waves_IsAndre.mono _ _)
      | (with_reducible exact waves_IsWave.mono _ _)
      | (with_reducible exact LeO.refl _)
      | (with_reducible exact LeO.none _)
      | (with_reducible refine LeO.ite ?_ ?_)
      | (with_reducible refine LeO.bind ?_ (fun _ => ?_))
      | exact ih0 _ _ _
      | exact ih1 _ _ _ _ _
      | exact ih2 _ _ _ _ _ _ _ _
      | exact clochelaw05_alive.mono _
      | exact clochelaw05_rows.mono _ _ _ _
      | exact waves_Andre.mono _ _
      | exact waves_IsAndre.mono _ _
      | exact waves_IsWave.mono _ _
      | exact LeO.none _
      | refine LeO.ite ?_ ?_
      | refine LeO.bind ?_ (fun _ => ?_)
    · intro y0 y1 y2 y3 y4 y5 y6 y7
      unfold clochelaw05_WavesFoata.j2
      repeat' first
      | (with_reducible exact ih0 _ _ _)
      | (with_reducible exact ih1 _ _ _ _ _)
      | (with_reducible exact ih2 _ _ _ _ _ _ _ _)
      | (with_reducible exact clochelaw05_alive.mono _)
      | (with_reducible exact clochelaw05_rows.mono _ _ _ _)
      | (with_reducible exact waves_Andre.mono _ _)
      | (with_reducible exact waves_IsAndre.mono _ _)
      | (with_reducible exact waves_IsWave.mono _ _)
      | (with_reducible exact LeO.refl _)
      | (with_reducible exact LeO.none _)
      | (with_reducible refine LeO.ite ?_ ?_)
      | (with_reducible refine LeO.bind ?_ (fun _ => ?_))
      | exact ih0 _ _ _
      | exact ih1 _ _ _ _ _
      | exact ih2 _ _ _ _ _ _ _ _
      | exact clochelaw05_alive.mono _
      | exact clochelaw05_rows.mono _ _ _ _
      | exact waves_Andre.mono _ _
      | exact waves_IsAndre.mono _ _
      | exact waves_IsWave.mono _ _
      | exact LeO.none _
      | refine LeO.ite ?_ ?_
      | refine LeO.bind ?_ (fun _ => ?_)
theorem clochelaw05_WavesFoata.mono : ∀ a0 k, LeO (clochelaw05_WavesFoata.f k a0) (clochelaw05_WavesFoata.f (k + 1) a0) := by
  intro a0 k
  obtain ⟨ih0, ih1, ih2⟩ := clochelaw05_WavesFoata.mono_l k
  unfold clochelaw05_WavesFoata.f
  repeat' first
      | (with_reducible exact ih0 _ _ _)
      | (with_reducible exact ih1 _ _ _ _ _)
      | (with_reducible exact ih2 _ _ _ _ _ _ _ _)
      | (with_reducible exact clochelaw05_alive.mono _)
      | (with_reducible exact clochelaw05_rows.mono _ _ _ _)
      | (with_reducible exact waves_Andre.mono _ _)
      | (with_reducible exact waves_IsAndre.mono _ _)
      | (with_reducible exact waves_IsWave.mono _ _)
      | (with_reducible exact LeO.refl _)
      | (with_reducible exact LeO.none _)
      | (with_reducible refine LeO.ite ?_ ?_)
      | (with_reducible refine LeO.bind ?_ (fun _ => ?_))
      | exact ih0 _ _ _
      | exact ih1 _ _ _ _ _
      | exact ih2 _ _ _ _ _ _ _ _
      | exact clochelaw05_alive.mono _
      | exact clochelaw05_rows.mono _ _ _ _
      | exact waves_Andre.mono _ _
      | exact waves_IsAndre.mono _ _
      | exact waves_IsWave.mono _ _
      | exact LeO.none _
      | refine LeO.ite ?_ ?_
      | refine LeO.bind ?_ (fun _ => ?_)
set_option maxHeartbeats 8000000 in
set_option maxRecDepth 100000 in
theorem clochelaw05_WavesFoata.calls (k : Nat) (a0 : Int) (r : Bool) (w : World) (h : clochelaw05_WavesFoata.f k a0 = some r) :
    Calls Try.prog 12 #[.int .u8 a0] w fun e w' => e = .returned (.bool r) ∧ Below w.heap.size w w' := by
  have HB := Aside0.mk (Below.refl w.heap.size w)
  have H : ((waves_Count.f (wrap64 (Int.tmod a0 11))).bind fun bt484 => ((waves_Andre.f k (wrap64 (Int.tmod a0 11))).bind fun bt486 => (if bt484.2 = 0 then (if bt486.2 = 0 then (clochelaw05_WavesFoata.j0 k (wrap64 (Int.tmod a0 11)) bt484.1 (bt486.1 != bt484.1)) else (clochelaw05_WavesFoata.j0 k (wrap64 (Int.tmod a0 11)) bt484.1 true)) else (clochelaw05_WavesFoata.j0 k (wrap64 (Int.tmod a0 11)) bt484.1 true)))) = some r := h
  clear h
  replace H := Option.bind_eq_some_iff.mp H
  obtain ⟨⟨t484, t485⟩, A20, H⟩ := H
  replace H : ((waves_Andre.f k (wrap64 (Int.tmod a0 11))).bind fun bt486 => (if t485 = 0 then (if bt486.2 = 0 then (clochelaw05_WavesFoata.j0 k (wrap64 (Int.tmod a0 11)) t484 (bt486.1 != t484)) else (clochelaw05_WavesFoata.j0 k (wrap64 (Int.tmod a0 11)) t484 true)) else (clochelaw05_WavesFoata.j0 k (wrap64 (Int.tmod a0 11)) t484 true))) = some r := H
  have A2 := Aside0.mk A20
  clear A20
  replace H := Option.bind_eq_some_iff.mp H
  obtain ⟨⟨t486, t487⟩, A30, H⟩ := H
  replace H : (if t485 = 0 then (if t487 = 0 then (clochelaw05_WavesFoata.j0 k (wrap64 (Int.tmod a0 11)) t484 (t486 != t484)) else (clochelaw05_WavesFoata.j0 k (wrap64 (Int.tmod a0 11)) t484 true)) else (clochelaw05_WavesFoata.j0 k (wrap64 (Int.tmod a0 11)) t484 true)) = some r := H
  have A3 := Aside0.mk A30
  clear A30
  have HC4 := Aside0.mk H
  clear H
  go_enter Try.func12, Try.ntmps12
  go_upto_region 4 with (first | ((with_reducible refine gate_callee (f := 22) rfl ?_); refine goesL_ (some 21) rfl rfl Try.func22 (by kernel_rfl) rfl #[.int .i64 (wrap64 (Int.tmod a0 11))] rfl (by (try simp only [List.map_toArray, List.map_cons, List.map_nil]); first | done | rfl | (simp only [List.length_drop, List.length_take]; rfl)) ?_; (with_reducible refine (waves_Count.calls (wrap64 (Int.tmod a0 11)) t484 t485 _ A2.out).mono ?_); rintro e w5 ⟨rfl, hb⟩; refine ⟨_, rfl, ?_⟩; have n0_ := Aside0.mk (below_step (by repeat (first | (with_reducible first | exact HB.out | apply below_alloc | apply pw_below_drewN | apply below_drew1) | exact HB.out)) hb); clear HB; have HB := n0_; clear n0_; (try clear hb); (try clear hb2); (try clear hk); (try clear hi)) | ((with_reducible refine gate_callee (f := 28) rfl ?_); refine goesL_ (some 26) rfl rfl Try.func28 (by kernel_rfl) rfl #[.int .i64 (wrap64 (Int.tmod a0 11))] rfl (by (try simp only [List.map_toArray, List.map_cons, List.map_nil]); first | done | rfl | (simp only [List.length_drop, List.length_take]; rfl)) ?_; (with_reducible refine (waves_Andre.calls k (wrap64 (Int.tmod a0 11)) t486 t487 _ A3.out).mono ?_); rintro e w6 ⟨rfl, hb⟩; refine ⟨_, rfl, ?_⟩; have n0_ := Aside0.mk (below_step (by repeat (first | (with_reducible first | exact HB.out | apply below_alloc | apply pw_below_drewN | apply below_drew1) | exact HB.out)) hb); clear HB; have HB := n0_; clear n0_; (try clear hb); (try clear hb2); (try clear hk); (try clear hi)))
  (try simp only [Act.put, List.setIfInBounds_toArray, List.set_cons_zero, List.set_cons_succ])
  go_cut [39] (fun v39 wc => ∃ (kq : Nat) (x39_3 : Bool), v39 = .bool x39_3 ∧ Aside0 (clochelaw05_WavesFoata.j0 kq (wrap64 (Int.tmod a0 11)) t484 x39_3 = some r) ∧ Aside0 (kq ≤ k) ∧ Aside0 (Below w.heap.size w wc))
  case first =>
    have H := HC4.out
    clear HC4
    by_cases c7 : t485 = 0
    · rw [if_pos c7] at H
      have c7b0 : (t485 == 0) = true := beq_iff_eq.mpr c7
      have c7b1 : (t485 != 0) = false := bne_eq_false_iff_eq.mpr c7
      clear c7
      (first | rw [c7b0] | (simp only [i64_w, i32_w]; rw [c7b0]) | skip)
      by_cases c8 : t487 = 0
      · rw [if_pos c8] at H
        have c8b0 : (t487 == 0) = true := beq_iff_eq.mpr c8
        have c8b1 : (t487 != 0) = false := bne_eq_false_iff_eq.mpr c8
        clear c8
        have H' := Aside0.mk H
        clear H
        go_wp2
        go_meet
        case rel => exact ⟨_, ((t486 != t484)), (by first | rfl | (simp; done) | (simp [*]; done)), H', ⟨by first | omega | exact Nat.le_refl _⟩, ⟨by repeat (first | (with_reducible first | exact HB.out | apply below_alloc | apply pw_below_drewN | apply below_drew1) | exact HB.out)⟩⟩
      · rw [if_neg c8] at H
        have c8b0 : (t487 == 0) = false := beq_eq_false_iff_ne.mpr c8
        have c8b1 : (t487 != 0) = true := bne_iff_ne.mpr c8
        have H' := Aside0.mk H
        clear H
        go_wp2
        go_meet
        case rel => exact ⟨_, (true), (by first | rfl | (simp; done) | (simp [*]; done)), H', ⟨by first | omega | exact Nat.le_refl _⟩, ⟨by repeat (first | (with_reducible first | exact HB.out | apply below_alloc | apply pw_below_drewN | apply below_drew1) | exact HB.out)⟩⟩
    · rw [if_neg c7] at H
      have c7b0 : (t485 == 0) = false := beq_eq_false_iff_ne.mpr c7
      have c7b1 : (t485 != 0) = true := bne_iff_ne.mpr c7
      (first | rw [c7b0] | (simp only [i64_w, i32_w]; rw [c7b0]) | skip)
      have H' := Aside0.mk H
      clear H
      go_wp2
      go_meet
      case rel => exact ⟨_, (true), (by first | rfl | (simp; done) | (simp [*]; done)), H', ⟨by first | omega | exact Nat.le_refl _⟩, ⟨by repeat (first | (with_reducible first | exact HB.out | apply below_alloc | apply pw_below_drewN | apply below_drew1) | exact HB.out)⟩⟩
  case rest =>
    clear HC4
    try clear c1
    try clear c2
    try clear p2
    try clear p6
    try clear c7
    try clear c7b0
    try clear c7b1
    try clear c8
    try clear c8b0
    try clear c8b1
    obtain ⟨kq, x39_3, rfl, HA, HJ3, HB⟩ := hcut
    cases kq with
    | zero => exact absurd HA.out (by simp [clochelaw05_WavesFoata.j0])
    | succ kj3 =>
      have H := HA.out
      clear HA
      simp only [clochelaw05_WavesFoata.j0] at H
      by_cases c9 : x39_3 = true
      · subst c9
        have H1 : (some false) = some r := by rw [if_pos rfl] at H; exact H
        clear H
        have H := H1
        clear H1
        obtain rfl := Option.some.inj H
        go_wp2
        go_ret
        exact ⟨by first | rfl | (simp [errW_none, errW_some] <;> rfl) | (simp [*, errW_none, errW_some] <;> rfl), by repeat (first | (with_reducible first | exact HB.out | apply below_alloc | apply pw_below_drewN | apply below_drew1) | exact HB.out)⟩
      · replace c9 := Bool.eq_false_iff.mpr c9
        subst c9
        have H1 : (if (wrap64 (Int.tmod a0 11)) > 6 then ((clochelaw05_alive.f kj3).bind fun t488 => (some t488)) else ((clochelaw05_rows.f kj3 (wrap64 (Int.tmod a0 11)) ([] : List Int) 0).bind fun t489 => (clochelaw05_WavesFoata.l0 kj3 t484 t489 0 0 0))) = some r := by rw [if_neg (show ¬ (false = true) by decide)] at H; exact H
        clear H
        have H := H1
        clear H1
        by_cases c10 : (wrap64 (Int.tmod a0 11)) > 6
        · rw [if_pos c10] at H
          have c10b0 : decide (6 < (wrap64 (Int.tmod a0 11))) = true := decide_eq_true c10
          clear c10
          replace H := Option.bind_eq_some_iff.mp H
          obtain ⟨t488, A110, H⟩ := H
          replace H : (some t488) = some r := H
          have A11 := Aside0.mk A110
          clear A110
          obtain rfl := Option.some.inj H
          go_wp2_with (first | ((with_reducible refine gate_callee (f := 17) rfl ?_); refine goesL_ (some 42) rfl rfl Try.func17 (by kernel_rfl) rfl #[] rfl (by (try simp only [List.map_toArray, List.map_cons, List.map_nil]); first | done | rfl | (simp only [List.length_drop, List.length_take]; rfl)) ?_; (with_reducible refine (clochelaw05_alive.calls kj3  t488 _ A11.out).mono ?_); rintro e w12 ⟨rfl, hb⟩; refine ⟨_, rfl, ?_⟩; have n0_ := Aside0.mk (below_step (by repeat (first | (with_reducible first | exact HB.out | apply below_alloc | apply pw_below_drewN | apply below_drew1) | exact HB.out)) hb); clear HB; have HB := n0_; clear n0_; (try clear hb); (try clear hb2); (try clear hk); (try clear hi)))
          go_ret
          exact ⟨by first | rfl | (simp [errW_none, errW_some] <;> rfl) | (simp [*, errW_none, errW_some] <;> rfl), by repeat (first | (with_reducible first | exact HB.out | apply below_alloc | apply pw_below_drewN | apply below_drew1) | exact HB.out)⟩
        · rw [if_neg c10] at H
          have c10b0 : decide (6 < (wrap64 (Int.tmod a0 11))) = false := decide_eq_false c10
          clear c10
          replace H := Option.bind_eq_some_iff.mp H
          obtain ⟨t489, A130, H⟩ := H
          replace H : (clochelaw05_WavesFoata.l0 kj3 t484 t489 0 0 0) = some r := H
          have A13 := Aside0.mk A130
          clear A130
          have H' := Aside0.mk H
          clear H
          go_wp2_with (first | ((with_reducible refine gate_callee (f := 37) rfl ?_); refine goesL_ (some 44) rfl rfl Try.func37 (by kernel_rfl) rfl #[.int .i64 (wrap64 (Int.tmod a0 11)), .slice none 0 0, .int .i64 0] rfl (by (try simp only [List.map_toArray, List.map_cons, List.map_nil]); first | done | rfl | (simp only [List.length_drop, List.length_take]; rfl)) ?_; (refine (clochelaw05_rows.calls kj3 (wrap64 (Int.tmod a0 11)) (fun k_ => False) _ _ ([] : List Int) 0 t489 _ ?side1 A13.out).mono ?_); (case side1 => exact Kd.V_nil _ _ _ _ _); rintro e w14 ⟨v490, rfl, ho0, hb⟩; refine ⟨_, rfl, ?_⟩; have n0_ := Aside0.mk (Kd.N_lower (Kd.N_mono (ok' := fun k_ => True) ho0 (fun k_ hk_ => trivial)) (below_size (by repeat (first | (with_reducible first | exact HB.out | apply below_alloc | apply pw_below_drewN | apply below_drew1) | exact HB.out)))); have n1_ := Aside0.mk (below_step (by repeat (first | (with_reducible first | exact HB.out | apply below_alloc | apply pw_below_drewN | apply below_drew1) | exact HB.out)) hb); clear HB; have HO491 := n0_; have HB := n1_; clear n0_ n1_; (try clear hb); (try clear hb2); (try clear hk); (try clear hi); (try clear ho0)))
          go_loopg [9, 10, 11] kj3 (fun kq v9 v10 v11 w' => ∃ (x9_2 : Int) (x10_2 : Int) (x11_2 : Int), v9 = .int .i64 x9_2 ∧ v10 = .int .i64 x10_2 ∧ v11 = .int .i64 x11_2 ∧ Aside0 (clochelaw05_WavesFoata.l0 kq t484 t489 x9_2 x10_2 x11_2 = some r) ∧ Aside0 (kq ≤ kj3) ∧ Aside0 (Kd.N (Kd.slice 3 (Kd.int .i64)) 27 w' w.heap.size (fun _ => True) v490 t489) ∧ Aside0 (Below w.heap.size w w'))
          case atStart => exact ⟨(0), (0), (0), (by first | rfl | (simp; done) | (simp [*]; done)), (by first | rfl | (simp; done) | (simp [*]; done)), (by first | rfl | (simp; done) | (simp [*]; done)), H', ⟨Nat.le_refl _⟩, ⟨by (with_reducible repeat (first | apply Kd.N_alloc | apply Kd.N_drewN | apply Kd.N_drew)); exact HO491.out⟩, ⟨by repeat (first | (with_reducible first | exact HB.out | apply below_alloc | apply pw_below_drewN | apply below_drew1) | exact HB.out)⟩⟩
          case round =>
            clear H'
            try clear c1
            try clear c2
            try clear p2
            try clear c3
            try clear p6
            try clear c7
            try clear c7b0
            try clear c7b1
            try clear c8
            try clear c8b0
            try clear c8b1
            try clear c9
            try clear c10
            try clear c10b0
            try clear c12
            try clear p2
            try clear p6
            obtain ⟨x9_2, x10_2, x11_2, rfl, rfl, rfl, HA, HK2, HO_8, HB⟩ := hrel
            cases gk with
            | zero => exact absurd HA.out (by simp [clochelaw05_WavesFoata.l0])
            | succ k2 =>
              have H := HA.out
              clear HA
              simp only [clochelaw05_WavesFoata.l0] at H
              by_cases c15 : x11_2 < (t489.length : Int)
              · rw [if_pos c15] at H
                have c15b0 : decide (x11_2 < (t489.length : Int)) = true := decide_eq_true c15
                clear c15
                by_cases c16 : 0 ≤ x11_2
                · rw [if_pos c16] at H
                  have c16b0 : decide (0 ≤ x11_2) = true := decide_eq_true c16
                  clear c16
                  replace H := Option.bind_eq_some_iff.mp H
                  obtain ⟨⟨t494, t495⟩, A170, H⟩ := H
                  replace H : ((waves_IsAndre.f k2 (rd_L1 t489 x11_2)).bind fun bt497 => (if t495 = 0 then (clochelaw05_WavesFoata.j2 k2 t484 t489 x9_2 x10_2 x11_2 t494 bt497.1 (bt497.2 != 0)) else (clochelaw05_WavesFoata.j2 k2 t484 t489 x9_2 x10_2 x11_2 t494 bt497.1 true))) = some r := H
                  have A17 := Aside0.mk A170
                  clear A170
                  replace H := Option.bind_eq_some_iff.mp H
                  obtain ⟨⟨t497, t498⟩, A180, H⟩ := H
                  replace H : (if t495 = 0 then (clochelaw05_WavesFoata.j2 k2 t484 t489 x9_2 x10_2 x11_2 t494 t497 (t498 != 0)) else (clochelaw05_WavesFoata.j2 k2 t484 t489 x9_2 x10_2 x11_2 t494 t497 true)) = some r := H
                  have A18 := Aside0.mk A180
                  clear A180
                  have HC19 := Aside0.mk H
                  clear H
                  obtain ⟨Ao20, co20, eo20⟩ := Kd.N_slice HO_8.out
                  subst eo20
                  have p493 : 0 ≤ (x11_2 : Int) := of_decide_eq_true (by first | (with_reducible assumption) | assumption)
                  have q493 : x11_2 < (t489.length : Int) := of_decide_eq_true (by first | (with_reducible assumption) | assumption)
                  obtain ⟨ad493, A493_0, c493_0, e493, hx493_0, hl493_0, hi493_0⟩ := at_L1 (Kd.N_reads' HO_8.out).2.2 x11_2 p493 q493
                  cases e493
                  obtain ⟨ce493, hce493, hMe493, hcc493⟩ := Kd.N_get HO_8.out [] x11_2 p493 (by first | exact q493 | exact of_decide_eq_true (by first | (with_reducible assumption) | assumption) | (have e_ := (Kd.N_reads' HO_8.out).1; omega))
                  obtain ⟨ua493_0, uc493_0, rfl, ul493_0, ge493_0⟩ := Kd.FK_slice_open hMe493
                  have hv493_0 := hcc493 0 _ rfl
                  rw [Nat.add_zero, show ((Kd.slice 3 (Kd.int .i64))).sz = 1 from rfl, Nat.mul_one] at hv493_0
                  replace hv493_0 := Option.some.inj (hv493_0.symm.trans hx493_0)
                  injection hv493_0 with hva_ hvn_ hvc_
                  rw [hva_] at ge493_0
                  rw [hvc_] at ul493_0
                  have HL493_0 := Aside0.mk (show Kd.V (Kd.int .i64) 3 _ w.heap.size _ _ (rd_L1 t489 x11_2) from Kd.V_mk ul493_0 ge493_0)
                  clear hva_ hvn_ hvc_ ge493_0 ul493_0
                  clear hcc493 hce493
                  have HR493_0 := Aside0.mk hi493_0
                  have HC493_0 := Aside0.mk hl493_0
                  clear hi493_0 hl493_0
                  replace p493 := eq_true p493
                  replace q493 := eq_true q493
                  go_upto_region 15 with (first | ((with_reducible refine gate_callee (f := 34) rfl ?_); refine goesL_ (some 56) rfl rfl Try.func34 (by kernel_rfl) rfl #[.slice A493_0 (rd_L1 t489 x11_2).length c493_0] rfl (by (try simp only [List.map_toArray, List.map_cons, List.map_nil]); first | done | rfl | (simp only [List.length_drop, List.length_take]; rfl)) ?_; (with_reducible refine (waves_IsWave.calls k2 _ _ (rd_L1 t489 x11_2) t494 t495 _ ?side1 ?side2 A17.out).mono ?_); (case side1 => repeat (first | exact (by repeat (first | (with_reducible exact HR493_0.out) | (with_reducible refine Kd.C_alloc ?_ _) | (with_reducible refine Kd.C_drewN ?_ _) | (with_reducible refine Kd.C_drew ?_) | exact HR493_0.out)) | (with_reducible refine Kd.C_alloc ?_ _) | (with_reducible refine Kd.C_drewN ?_ _) | (with_reducible refine Kd.C_drew ?_))); (case side2 => exact HC493_0.out); rintro e w' ⟨rfl, ⟨nd, rfl⟩⟩; refine ⟨_, rfl, ?_⟩; have p496 : 0 ≤ (x11_2 : Int) := of_decide_eq_true (by first | (with_reducible assumption) | assumption); have q496 : x11_2 < (t489.length : Int) := of_decide_eq_true (by first | (with_reducible assumption) | assumption); obtain ⟨ad496, A496_0, c496_0, e496, hx496_0, hl496_0, hi496_0⟩ := at_L1 (Kd.N_reads' HO_8.out).2.2 x11_2 p496 q496; obtain rfl : ad493 = ad496 := (by injection e496); obtain ⟨ce496, hce496, hMe496, hcc496⟩ := Kd.N_get HO_8.out [] x11_2 p496 (by first | exact q496 | exact of_decide_eq_true (by first | (with_reducible assumption) | assumption) | (have e_ := (Kd.N_reads' HO_8.out).1; omega)); obtain ⟨ua496_0, uc496_0, rfl, ul496_0, ge496_0⟩ := Kd.FK_slice_open hMe496; have hv496_0 := hcc496 0 _ rfl; rw [Nat.add_zero, show ((Kd.slice 3 (Kd.int .i64))).sz = 1 from rfl, Nat.mul_one] at hv496_0; replace hv496_0 := Option.some.inj (hv496_0.symm.trans hx496_0); injection hv496_0 with hva_ hvn_ hvc_; rw [hva_] at ge496_0; rw [hvc_] at ul496_0; have HL496_0 := Aside0.mk (show Kd.V (Kd.int .i64) 3 _ w.heap.size _ _ (rd_L1 t489 x11_2) from Kd.V_mk ul496_0 ge496_0); clear hva_ hvn_ hvc_ ge496_0 ul496_0; clear hcc496 hce496; have HR496_0 := Aside0.mk hi496_0; have HC496_0 := Aside0.mk hl496_0; clear hi496_0 hl496_0; replace p496 := eq_true p496; replace q496 := eq_true q496; have ea_ := Option.some.inj (hx493_0.symm.trans hx496_0); injection ea_ with ea_ en_ ec_; subst ea_; subst ec_; clear en_) | ((with_reducible refine gate_callee (f := 38) rfl ?_); refine goesL_ (some 64) rfl rfl Try.func38 (by kernel_rfl) rfl #[.slice A493_0 (rd_L1 t489 x11_2).length c493_0] rfl (by (try simp only [List.map_toArray, List.map_cons, List.map_nil]); first | done | rfl | (simp only [List.length_drop, List.length_take]; rfl)) ?_; (with_reducible refine (waves_IsAndre.calls k2 _ _ (rd_L1 t489 x11_2) t497 t498 _ ?side1 ?side2 A18.out).mono ?_); (case side1 => repeat (first | exact (by repeat (first | (with_reducible exact HR496_0.out) | (with_reducible refine Kd.C_alloc ?_ _) | (with_reducible refine Kd.C_drewN ?_ _) | (with_reducible refine Kd.C_drew ?_) | exact HR496_0.out)) | (with_reducible refine Kd.C_alloc ?_ _) | (with_reducible refine Kd.C_drewN ?_ _) | (with_reducible refine Kd.C_drew ?_))); (case side2 => exact HC496_0.out); rintro e w21 ⟨rfl, hb⟩; refine ⟨_, rfl, ?_⟩; have n0_ := Aside0.mk (Kd.N_below (by (with_reducible repeat (first | apply Kd.N_alloc | apply Kd.N_drewN | apply Kd.N_drew)); exact HO_8.out) hb); have n1_ := Aside0.mk (Kd.V_below (by (with_reducible repeat (first | apply Kd.V_alloc | apply Kd.V_drewN | apply Kd.V_drew)); exact HL493_0.out) hb); have n2_ := Aside0.mk (Kd.V_below (by (with_reducible repeat (first | apply Kd.V_alloc | apply Kd.V_drewN | apply Kd.V_drew)); exact HL496_0.out) hb); have n3_ := Aside0.mk (Kd.C_below (by repeat (first | (with_reducible exact HR493_0.out) | (with_reducible refine Kd.C_alloc ?_ _) | (with_reducible refine Kd.C_drewN ?_ _) | (with_reducible refine Kd.C_drew ?_) | exact HR493_0.out)) hb); have n4_ := Aside0.mk (Kd.C_below (by repeat (first | (with_reducible exact HR496_0.out) | (with_reducible refine Kd.C_alloc ?_ _) | (with_reducible refine Kd.C_drewN ?_ _) | (with_reducible refine Kd.C_drew ?_) | exact HR496_0.out)) hb); have n5_ := Aside0.mk (below_step (by repeat (first | (with_reducible first | exact HB.out | apply below_alloc | apply pw_below_drewN | apply below_drew1) | exact HB.out)) hb); clear HO_8; clear HL493_0; clear HL496_0; clear HR493_0; clear HR496_0; clear HB; have HO_8 := n0_; have HL493_0 := n1_; have HL496_0 := n2_; have HR493_0 := n3_; have HR496_0 := n4_; have HB := n5_; clear n0_ n1_ n2_ n3_ n4_ n5_; (try clear hb); (try clear hb2); (try clear hk); (try clear hi)))
                  (try simp only [Act.put, List.setIfInBounds_toArray, List.set_cons_zero, List.set_cons_succ])
                  go_cut [72] (fun v72 wc => ∃ (kq : Nat) (x72_18 : Bool), v72 = .bool x72_18 ∧ Aside0 (clochelaw05_WavesFoata.j2 kq t484 t489 x9_2 x10_2 x11_2 t494 t497 x72_18 = some r) ∧ Aside0 (kq ≤ k2) ∧ Aside0 (Kd.N (Kd.slice 3 (Kd.int .i64)) 27 wc w.heap.size (fun _ => True) (.slice (some ad493) t489.length co20) t489) ∧ Aside0 (Kd.C (Kd.int .i64) wc A493_0 (rd_L1 t489 x11_2).length (rd_L1 t489 x11_2)) ∧ Aside0 (Kd.C (Kd.int .i64) wc A493_0 (rd_L1 t489 x11_2).length (rd_L1 t489 x11_2)) ∧ Aside0 (Below w.heap.size w wc))
                  case first =>
                    have H := HC19.out
                    clear HC19
                    by_cases c22 : t495 = 0
                    · rw [if_pos c22] at H
                      have c22b0 : (t495 == 0) = true := beq_iff_eq.mpr c22
                      have c22b1 : (t495 != 0) = false := bne_eq_false_iff_eq.mpr c22
                      clear c22
                      (first | rw [c22b0] | (simp only [i64_w, i32_w]; rw [c22b0]) | skip)
                      have H' := Aside0.mk H
                      clear H
                      go_wp2
                      go_meet
                      case rel => exact ⟨_, ((t498 != 0)), (by first | rfl | (simp; done) | (simp [*]; done)), H', ⟨by have := HJ3.out; have := HK2.out; first | omega | exact Nat.le_refl _⟩, ⟨by (with_reducible repeat (first | apply Kd.N_alloc | apply Kd.N_drewN | apply Kd.N_drew)); exact HO_8.out⟩, ⟨by repeat (first | (with_reducible exact HR493_0.out) | (with_reducible refine Kd.C_alloc ?_ _) | (with_reducible refine Kd.C_drewN ?_ _) | (with_reducible refine Kd.C_drew ?_) | exact HR493_0.out)⟩, ⟨by repeat (first | (with_reducible exact HR496_0.out) | (with_reducible refine Kd.C_alloc ?_ _) | (with_reducible refine Kd.C_drewN ?_ _) | (with_reducible refine Kd.C_drew ?_) | exact HR496_0.out)⟩, ⟨by repeat (first | (with_reducible first | exact HB.out | apply below_alloc | apply pw_below_drewN | apply below_drew1) | exact HB.out)⟩⟩
                    · rw [if_neg c22] at H
                      have c22b0 : (t495 == 0) = false := beq_eq_false_iff_ne.mpr c22
                      have c22b1 : (t495 != 0) = true := bne_iff_ne.mpr c22
                      (first | rw [c22b0] | (simp only [i64_w, i32_w]; rw [c22b0]) | skip)
                      have H' := Aside0.mk H
                      clear H
                      go_wp2
                      go_meet
                      case rel => exact ⟨_, (true), (by first | rfl | (simp; done) | (simp [*]; done)), H', ⟨by have := HJ3.out; have := HK2.out; first | omega | exact Nat.le_refl _⟩, ⟨by (with_reducible repeat (first | apply Kd.N_alloc | apply Kd.N_drewN | apply Kd.N_drew)); exact HO_8.out⟩, ⟨by repeat (first | (with_reducible exact HR493_0.out) | (with_reducible refine Kd.C_alloc ?_ _) | (with_reducible refine Kd.C_drewN ?_ _) | (with_reducible refine Kd.C_drew ?_) | exact HR493_0.out)⟩, ⟨by repeat (first | (with_reducible exact HR496_0.out) | (with_reducible refine Kd.C_alloc ?_ _) | (with_reducible refine Kd.C_drewN ?_ _) | (with_reducible refine Kd.C_drew ?_) | exact HR496_0.out)⟩, ⟨by repeat (first | (with_reducible first | exact HB.out | apply below_alloc | apply pw_below_drewN | apply below_drew1) | exact HB.out)⟩⟩
                  case rest =>
                    clear HC19
                    try clear c1
                    try clear c2
                    try clear p2
                    try clear c3
                    try clear c4
                    try clear p4
                    try clear q4
                    try clear hx4
                    try clear p6
                    try clear c7
                    try clear c7b0
                    try clear c7b1
                    try clear c8
                    try clear c8b0
                    try clear c8b1
                    try clear c9
                    try clear c10
                    try clear c10b0
                    try clear c12
                    try clear c15
                    try clear c15b0
                    try clear c16
                    try clear c16b0
                    try clear c17
                    try clear c22
                    try clear c22b0
                    try clear c22b1
                    try clear hx493_0
                    try clear hx496_0
                    try clear p2
                    try clear p493
                    try clear p496
                    try clear p6
                    try clear q493
                    try clear q496
                    obtain ⟨kq, x72_18, rfl, HA, HJ18, HO_8, HR493_0, HR496_0, HB⟩ := hcut
                    cases kq with
                    | zero => exact absurd HA.out (by simp [clochelaw05_WavesFoata.j2])
                    | succ kj18 =>
                      have H := HA.out
                      clear HA
                      simp only [clochelaw05_WavesFoata.j2] at H
                      by_cases c23 : x72_18 = true
                      · subst c23
                        have H1 : (some false) = some r := by rw [if_pos rfl] at H; exact H
                        clear H
                        have H := H1
                        clear H1
                        obtain rfl := Option.some.inj H
                        go_wp2
                        go_ret
                        exact ⟨by first | rfl | (simp [errW_none, errW_some] <;> rfl) | (simp [*, errW_none, errW_some] <;> rfl), by repeat (first | (with_reducible first | exact HB.out | apply below_alloc | apply pw_below_drewN | apply below_drew1) | exact HB.out)⟩
                      · replace c23 := Bool.eq_false_iff.mpr c23
                        subst c23
                        have H1 : (if t494 = true then (if t497 = true then (clochelaw05_WavesFoata.l0 kj18 t484 t489 (wrap64 (x9_2 + 1)) (wrap64 (x10_2 + 1)) (wrap64 (x11_2 + 1))) else (clochelaw05_WavesFoata.l0 kj18 t484 t489 (wrap64 (x9_2 + 1)) x10_2 (wrap64 (x11_2 + 1)))) else (if t497 = true then (clochelaw05_WavesFoata.l0 kj18 t484 t489 x9_2 (wrap64 (x10_2 + 1)) (wrap64 (x11_2 + 1))) else (clochelaw05_WavesFoata.l0 kj18 t484 t489 x9_2 x10_2 (wrap64 (x11_2 + 1))))) = some r := by rw [if_neg (show ¬ (false = true) by decide)] at H; exact H
                        clear H
                        have H := H1
                        clear H1
                        by_cases c24 : t494 = true
                        · subst c24
                          have H1 : (if t497 = true then (clochelaw05_WavesFoata.l0 kj18 t484 t489 (wrap64 (x9_2 + 1)) (wrap64 (x10_2 + 1)) (wrap64 (x11_2 + 1))) else (clochelaw05_WavesFoata.l0 kj18 t484 t489 (wrap64 (x9_2 + 1)) x10_2 (wrap64 (x11_2 + 1)))) = some r := by rw [if_pos rfl] at H; exact H
                          clear H
                          have H := H1
                          clear H1
                          by_cases c25 : t497 = true
                          · subst c25
                            have H1 : (clochelaw05_WavesFoata.l0 kj18 t484 t489 (wrap64 (x9_2 + 1)) (wrap64 (x10_2 + 1)) (wrap64 (x11_2 + 1))) = some r := by rw [if_pos rfl] at H; exact H
                            clear H
                            have H := H1
                            clear H1
                            have H' := Aside0.mk H
                            clear H
                            go_wp2
                            go_roundg kj18
                            case measure => have := HJ3.out; have := HK2.out; have := HJ18.out; omega
                            case rel => exact ⟨(wrap64 (x9_2 + 1)), (wrap64 (x10_2 + 1)), (wrap64 (x11_2 + 1)), (by first | rfl | (simp; done) | (simp [*]; done)), (by first | rfl | (simp; done) | (simp [*]; done)), (by first | rfl | (simp; done) | (simp [*]; done)), H', ⟨by have := HJ3.out; have := HK2.out; have := HJ18.out; omega⟩, ⟨by (with_reducible repeat (first | apply Kd.N_alloc | apply Kd.N_drewN | apply Kd.N_drew)); exact HO_8.out⟩, ⟨by repeat (first | (with_reducible first | exact HB.out | apply below_alloc | apply pw_below_drewN | apply below_drew1) | exact HB.out)⟩⟩
                          · replace c25 := Bool.eq_false_iff.mpr c25
                            subst c25
                            have H1 : (clochelaw05_WavesFoata.l0 kj18 t484 t489 (wrap64 (x9_2 + 1)) x10_2 (wrap64 (x11_2 + 1))) = some r := by rw [if_neg (show ¬ (false = true) by decide)] at H; exact H
                            clear H
                            have H := H1
                            clear H1
                            have H' := Aside0.mk H
                            clear H
                            go_wp2
                            go_roundg kj18
                            case measure => have := HJ3.out; have := HK2.out; have := HJ18.out; omega
                            case rel => exact ⟨(wrap64 (x9_2 + 1)), (x10_2), (wrap64 (x11_2 + 1)), (by first | rfl | (simp; done) | (simp [*]; done)), (by first | rfl | (simp; done) | (simp [*]; done)), (by first | rfl | (simp; done) | (simp [*]; done)), H', ⟨by have := HJ3.out; have := HK2.out; have := HJ18.out; omega⟩, ⟨by (with_reducible repeat (first | apply Kd.N_alloc | apply Kd.N_drewN | apply Kd.N_drew)); exact HO_8.out⟩, ⟨by repeat (first | (with_reducible first | exact HB.out | apply below_alloc | apply pw_below_drewN | apply below_drew1) | exact HB.out)⟩⟩
                        · replace c24 := Bool.eq_false_iff.mpr c24
                          subst c24
                          have H1 : (if t497 = true then (clochelaw05_WavesFoata.l0 kj18 t484 t489 x9_2 (wrap64 (x10_2 + 1)) (wrap64 (x11_2 + 1))) else (clochelaw05_WavesFoata.l0 kj18 t484 t489 x9_2 x10_2 (wrap64 (x11_2 + 1)))) = some r := by rw [if_neg (show ¬ (false = true) by decide)] at H; exact H
                          clear H
                          have H := H1
                          clear H1
                          by_cases c26 : t497 = true
                          · subst c26
                            have H1 : (clochelaw05_WavesFoata.l0 kj18 t484 t489 x9_2 (wrap64 (x10_2 + 1)) (wrap64 (x11_2 + 1))) = some r := by rw [if_pos rfl] at H; exact H
                            clear H
                            have H := H1
                            clear H1
                            have H' := Aside0.mk H
                            clear H
                            go_wp2
                            go_roundg kj18
                            case measure => have := HJ3.out; have := HK2.out; have := HJ18.out; omega
                            case rel => exact ⟨(x9_2), (wrap64 (x10_2 + 1)), (wrap64 (x11_2 + 1)), (by first | rfl | (simp; done) | (simp [*]; done)), (by first | rfl | (simp; done) | (simp [*]; done)), (by first | rfl | (simp; done) | (simp [*]; done)), H', ⟨by have := HJ3.out; have := HK2.out; have := HJ18.out; omega⟩, ⟨by (with_reducible repeat (first | apply Kd.N_alloc | apply Kd.N_drewN | apply Kd.N_drew)); exact HO_8.out⟩, ⟨by repeat (first | (with_reducible first | exact HB.out | apply below_alloc | apply pw_below_drewN | apply below_drew1) | exact HB.out)⟩⟩
                          · replace c26 := Bool.eq_false_iff.mpr c26
                            subst c26
                            have H1 : (clochelaw05_WavesFoata.l0 kj18 t484 t489 x9_2 x10_2 (wrap64 (x11_2 + 1))) = some r := by rw [if_neg (show ¬ (false = true) by decide)] at H; exact H
                            clear H
                            have H := H1
                            clear H1
                            have H' := Aside0.mk H
                            clear H
                            go_wp2
                            go_roundg kj18
                            case measure => have := HJ3.out; have := HK2.out; have := HJ18.out; omega
                            case rel => exact ⟨(x9_2), (x10_2), (wrap64 (x11_2 + 1)), (by first | rfl | (simp; done) | (simp [*]; done)), (by first | rfl | (simp; done) | (simp [*]; done)), (by first | rfl | (simp; done) | (simp [*]; done)), H', ⟨by have := HJ3.out; have := HK2.out; have := HJ18.out; omega⟩, ⟨by (with_reducible repeat (first | apply Kd.N_alloc | apply Kd.N_drewN | apply Kd.N_drew)); exact HO_8.out⟩, ⟨by repeat (first | (with_reducible first | exact HB.out | apply below_alloc | apply pw_below_drewN | apply below_drew1) | exact HB.out)⟩⟩
                · rw [if_neg c16] at H
                  exact absurd H (by simp)
              · rw [if_neg c15] at H
                have c15b0 : decide (x11_2 < (t489.length : Int)) = false := decide_eq_false c15
                clear c15
                by_cases c27 : x9_2 = t484
                · rw [if_pos c27] at H
                  have c27b0 : (x9_2 == t484) = true := beq_iff_eq.mpr c27
                  have c27b1 : (x9_2 != t484) = false := bne_eq_false_iff_eq.mpr c27
                  clear c27
                  by_cases c28 : x10_2 = t484
                  · rw [if_pos c28] at H
                    have c28b0 : (x10_2 == t484) = true := beq_iff_eq.mpr c28
                    have c28b1 : (x10_2 != t484) = false := bne_eq_false_iff_eq.mpr c28
                    clear c28
                    replace H := Option.bind_eq_some_iff.mp H
                    obtain ⟨t492, A290, H⟩ := H
                    replace H : (some t492) = some r := H
                    have A29 := Aside0.mk A290
                    clear A290
                    obtain rfl := Option.some.inj H
                    obtain ⟨Ao30, co30, eo30⟩ := Kd.N_slice HO_8.out
                    subst eo30
                    go_wp2_with (first | (go_at_call 17; (with_reducible refine (clochelaw05_alive.calls k2  t492 _ A29.out).mono ?_); rintro e w31 ⟨rfl, hb⟩; have n0_ := Aside0.mk (Kd.N_below (by (with_reducible repeat (first | apply Kd.N_alloc | apply Kd.N_drewN | apply Kd.N_drew)); exact HO_8.out) hb); have n1_ := Aside0.mk (below_step (by repeat (first | (with_reducible first | exact HB.out | apply below_alloc | apply pw_below_drewN | apply below_drew1) | exact HB.out)) hb); clear HO_8; clear HB; have HO_8 := n0_; have HB := n1_; clear n0_ n1_; (try clear hb); (try clear hb2); (try clear hk); (try clear hi)))
                    go_ret
                    exact ⟨by first | rfl | (simp [errW_none, errW_some] <;> rfl) | (simp [*, errW_none, errW_some] <;> rfl), by repeat (first | (with_reducible first | exact HB.out | apply below_alloc | apply pw_below_drewN | apply below_drew1) | exact HB.out)⟩
                  · rw [if_neg c28] at H
                    have c28b0 : (x10_2 == t484) = false := beq_eq_false_iff_ne.mpr c28
                    have c28b1 : (x10_2 != t484) = true := bne_iff_ne.mpr c28
                    obtain rfl := Option.some.inj H
                    obtain ⟨Ao32, co32, eo32⟩ := Kd.N_slice HO_8.out
                    subst eo32
                    go_wp2
                    go_ret
                    exact ⟨by first | rfl | (simp [errW_none, errW_some] <;> rfl) | (simp [*, errW_none, errW_some] <;> rfl), by repeat (first | (with_reducible first | exact HB.out | apply below_alloc | apply pw_below_drewN | apply below_drew1) | exact HB.out)⟩
                · rw [if_neg c27] at H
                  have c27b0 : (x9_2 == t484) = false := beq_eq_false_iff_ne.mpr c27
                  have c27b1 : (x9_2 != t484) = true := bne_iff_ne.mpr c27
                  obtain rfl := Option.some.inj H
                  obtain ⟨Ao33, co33, eo33⟩ := Kd.N_slice HO_8.out
                  subst eo33
                  go_wp2
                  go_ret
                  exact ⟨by first | rfl | (simp [errW_none, errW_some] <;> rfl) | (simp [*, errW_none, errW_some] <;> rfl), by repeat (first | (with_reducible first | exact HB.out | apply below_alloc | apply pw_below_drewN | apply below_drew1) | exact HB.out)⟩

/-- THE ONE PURE STATEMENT of clochelaw05_WavesFoata: yours. -/
def clochelaw05_WavesFoata.Pure : Prop := ∀ (a0 : Int), (Lit.int .u8 a0).wf = true → ∃ k, clochelaw05_WavesFoata.f k a0 = some true
theorem clochelaw05_WavesFoata.walk (P : clochelaw05_WavesFoata.Pure) (a0 : Int) (w : World) (w0 : (Lit.int .u8 a0).wf = true) :
    Calls Try.prog 12 #[.int .u8 a0] w fun e w' => e = .returned (.bool true) ∧ Below w.heap.size w w' := by
  obtain ⟨k, h⟩ := P a0 w0
  refine (clochelaw05_WavesFoata.calls k a0 true w h).mono ?_
  rintro e w' ⟨rfl, hd⟩
  exact ⟨rfl, hd⟩

end Go.Proofs.Ytmigibamdeodpaa.Print
