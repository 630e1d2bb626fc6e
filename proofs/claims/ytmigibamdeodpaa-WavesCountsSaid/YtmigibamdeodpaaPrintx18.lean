/- What the functions of the waves compute, printed by this repo's hand printer. -/
import Derived.Test.YtmigibamdeodpaaPrintx0
import Derived.Test.YtmigibamdeodpaaHandSearch2
import Derived.Test.YtmigibamdeodpaaPrintx5
import Derived.Test.YtmigibamdeodpaaPrintx8
import Derived.Test.YtmigibamdeodpaaPrintx9
import Derived.Test.YtmigibamdeodpaaPrintx16
import Derived.Test.YtmigibamdeodpaaPrintx17
namespace Go.Proofs.Ytmigibamdeodpaa.Print
open Go.RowKit Go.Proofs.YtmigibamdeodpaaW.PrintWords Go.Proofs.YtmigibamdeodpaaW.PrintLast Go.Proofs.YtmigibamdeodpaaW.PrintMore
attribute [local go_sem] max2_int min2_int max_two min_two max_three min_three max_four min_four   -- for this text's walks alone
set_option linter.unusedVariables false
set_option linter.unusedSimpArgs false

/-! ### clochelaw05_WavesCounts: function 7 -/
mutual
def clochelaw05_WavesCounts.j0 : Nat → Int → Int → Bool → Option (Bool)
  | 0, _, _, _ => none
  | k + 1, x0, x1, x26 => if x26 = true then (some false) else ((waves_From.f x0 x1).bind fun bt344 => ((clocheref05_From.f k x0 x1).bind fun bt346 => (if bt344.1 = bt346.1 then (clochelaw05_WavesCounts.j1 k x0 (bt344.2 != bt346.2)) else (clochelaw05_WavesCounts.j1 k x0 true))))
def clochelaw05_WavesCounts.j1 : Nat → Int → Bool → Option (Bool)
  | 0, _, _ => none
  | k + 1, x0, x46 => if x46 = true then (some false) else ((waves_Andre.f k x0).bind fun bt348 => ((clocheref05_Andre.f k x0).bind fun bt350 => (if bt348.1 = bt350.1 then (if bt348.2 = bt350.2 then ((clochelaw05_alive.f k).bind fun t352 => (some t352)) else (some false)) else (some false))))
end
def clochelaw05_WavesCounts.f (k : Nat) (a0 : Int) (a1 : Int) : Option (Bool) := (waves_Count.f a0).bind fun bt340 => ((clocheref05_Count.f k a0).bind fun bt342 => (if bt340.1 = bt342.1 then (clochelaw05_WavesCounts.j0 k a0 a1 (bt340.2 != bt342.2)) else (clochelaw05_WavesCounts.j0 k a0 a1 true)))
theorem clochelaw05_WavesCounts.mono_l : ∀ k, (∀ y0 y1 y2, LeO (clochelaw05_WavesCounts.j0 k y0 y1 y2) (clochelaw05_WavesCounts.j0 (k + 1) y0 y1 y2)) ∧ (∀ y0 y1, LeO (clochelaw05_WavesCounts.j1 k y0 y1) (clochelaw05_WavesCounts.j1 (k + 1) y0 y1))
  | 0 => ⟨fun _ _ _ r h => by simp [clochelaw05_WavesCounts.j0] at h, fun _ _ r h => by simp [clochelaw05_WavesCounts.j1] at h⟩
  | k + 1 => by
    obtain ⟨ih0, ih1⟩ := clochelaw05_WavesCounts.mono_l k
    refine ⟨?_, ?_⟩
    · intro y0 y1 y2
      unfold clochelaw05_WavesCounts.j0
      repeat' first
      | (with_reducible exact ih0 _ _ _)
      | (with_reducible exact ih1 _ _)
      | (with_reducible exact clochelaw05_alive.mono _)
      | (with_reducible exact clocheref05_Andre.mono _ _)
      | (with_reducible exact clocheref05_Count.mono _ _)
      | (with_reducible exact clocheref05_From.mono _ _ _)
      | (with_reducible exact waves_Andre.mono _ _)
      | (with_reducible exact LeO.refl _)
      | (with_reducible exact LeO.none _)
      | (with_reducible refine LeO.ite ?_ ?_)
      | (with_reducible refine LeO.bind ?_ (fun _ => ?_))
      | exact ih0 _ _ _
      | exact ih1 _ _
      | exact clochelaw05_alive.mono _
      | exact clocheref05_Andre.mono _ _
      | exact clocheref05_Count.mono _ _
      | exact clocheref05_From.mono _ _ _
      | exact waves_Andre.mono _ _
      | exact LeO.none _
      | refine LeO.ite ?_ ?_
      | refine LeO.bind ?_ (fun _ => ?_)
    · intro y0 y1
      unfold clochelaw05_WavesCounts.j1
      repeat' first
      | (with_reducible exact ih0 _ _ _)
      | (with_reducible exact ih1 _ _)
      | (with_reducible exact clochelaw05_alive.mono _)
      | (with_reducible exact clocheref05_Andre.mono _ _)
      | (with_reducible exact clocheref05_Count.mono _ _)
      | (with_reducible exact clocheref05_From.mono _ _ _)
      | (with_reducible exact waves_Andre.mono _ _)
      | (with_reducible exact LeO.refl _)
      | (with_reducible exact LeO.none _)
      | (with_reducible refine LeO.ite ?_ ?_)
      | (with_reducible refine LeO.bind ?_ (fun _ => ?_))
      | exact ih0 _ _ _
      | exact ih1 _ _
      | exact clochelaw05_alive.mono _
      | exact clocheref05_Andre.mono _ _
      | exact clocheref05_Count.mono _ _
      | exact clocheref05_From.mono _ _ _
      | exact waves_Andre.mono _ _
      | exact LeO.none _
      | refine LeO.ite ?_ ?_
      | refine LeO.bind ?_ (fun _ => ?_)
theorem clochelaw05_WavesCounts.mono : ∀ a0 a1 k, LeO (clochelaw05_WavesCounts.f k a0 a1) (clochelaw05_WavesCounts.f (k + 1) a0 a1) := by
  intro a0 a1 k
  obtain ⟨ih0, ih1⟩ := clochelaw05_WavesCounts.mono_l k
  unfold clochelaw05_WavesCounts.f
  repeat' first
      | (with_reducible exact ih0 _ _ _)
      | (with_reducible exact ih1 _ _)
      | (with_reducible exact clochelaw05_alive.mono _)
      | (with_reducible exact clocheref05_Andre.mono _ _)
      | (with_reducible exact clocheref05_Count.mono _ _)
      | (with_reducible exact clocheref05_From.mono _ _ _)
      | (with_reducible exact waves_Andre.mono _ _)
      | (with_reducible exact LeO.refl _)
      | (with_reducible exact LeO.none _)
      | (with_reducible refine LeO.ite ?_ ?_)
      | (with_reducible refine LeO.bind ?_ (fun _ => ?_))
      | exact ih0 _ _ _
      | exact ih1 _ _
      | exact clochelaw05_alive.mono _
      | exact clocheref05_Andre.mono _ _
      | exact clocheref05_Count.mono _ _
      | exact clocheref05_From.mono _ _ _
      | exact waves_Andre.mono _ _
      | exact LeO.none _
      | refine LeO.ite ?_ ?_
      | refine LeO.bind ?_ (fun _ => ?_)
set_option maxHeartbeats 8000000 in
set_option maxRecDepth 100000 in
theorem clochelaw05_WavesCounts.calls (k : Nat) (a0 : Int) (a1 : Int) (r : Bool) (w : World) (h : clochelaw05_WavesCounts.f k a0 a1 = some r) :
    Calls Try.prog 7 #[.int .i64 a0, .int .i64 a1] w fun e w' => e = .returned (.bool r) ∧ Below w.heap.size w w' := by
  have HB := Aside0.mk (Below.refl w.heap.size w)
  have H : ((waves_Count.f a0).bind fun bt340 => ((clocheref05_Count.f k a0).bind fun bt342 => (if bt340.1 = bt342.1 then (clochelaw05_WavesCounts.j0 k a0 a1 (bt340.2 != bt342.2)) else (clochelaw05_WavesCounts.j0 k a0 a1 true)))) = some r := h
  clear h
  replace H := Option.bind_eq_some_iff.mp H
  obtain ⟨⟨t340, t341⟩, A30, H⟩ := H
  replace H : ((clocheref05_Count.f k a0).bind fun bt342 => (if t340 = bt342.1 then (clochelaw05_WavesCounts.j0 k a0 a1 (t341 != bt342.2)) else (clochelaw05_WavesCounts.j0 k a0 a1 true))) = some r := H
  have A3 := Aside0.mk A30
  clear A30
  replace H := Option.bind_eq_some_iff.mp H
  obtain ⟨⟨t342, t343⟩, A40, H⟩ := H
  replace H : (if t340 = t342 then (clochelaw05_WavesCounts.j0 k a0 a1 (t341 != t343)) else (clochelaw05_WavesCounts.j0 k a0 a1 true)) = some r := H
  have A4 := Aside0.mk A40
  clear A40
  have HC5 := Aside0.mk H
  clear H
  go_enter Try.func7, Try.ntmps7
  go_upto_region 3 with (first | ((with_reducible refine gate_callee (f := 22) rfl ?_); refine goesL_ (some 11) rfl rfl Try.func22 (by kernel_rfl) rfl #[.int .i64 a0] rfl (by (try simp only [List.map_toArray, List.map_cons, List.map_nil]); first | done | rfl | (simp only [List.length_drop, List.length_take]; rfl)) ?_; (with_reducible refine (waves_Count.calls a0 t340 t341 _ A3.out).mono ?_); rintro e w6 ⟨rfl, hb⟩; refine ⟨_, rfl, ?_⟩; have n0_ := Aside0.mk (below_step (by repeat (first | (with_reducible first | exact HB.out | apply below_alloc | apply pw_below_drewN | apply below_drew1) | exact HB.out)) hb); clear HB; have HB := n0_; clear n0_; (try clear hb); (try clear hb2); (try clear hk); (try clear hi)) | ((with_reducible refine gate_callee (f := 25) rfl ?_); refine goesL_ (some 16) rfl rfl Try.func25 (by kernel_rfl) rfl #[.int .i64 a0] rfl (by (try simp only [List.map_toArray, List.map_cons, List.map_nil]); first | done | rfl | (simp only [List.length_drop, List.length_take]; rfl)) ?_; (with_reducible refine (clocheref05_Count.calls k a0 t342 t343 _ A4.out).mono ?_); rintro e w7 ⟨rfl, hb⟩; refine ⟨_, rfl, ?_⟩; have n0_ := Aside0.mk (below_step (by repeat (first | (with_reducible first | exact HB.out | apply below_alloc | apply pw_below_drewN | apply below_drew1) | exact HB.out)) hb); clear HB; have HB := n0_; clear n0_; (try clear hb); (try clear hb2); (try clear hk); (try clear hi)))
  (try simp only [Act.put, List.setIfInBounds_toArray, List.set_cons_zero, List.set_cons_succ])
  go_cut [26] (fun v26 wc => ∃ (kq : Nat) (x26_4 : Bool), v26 = .bool x26_4 ∧ Aside0 (clochelaw05_WavesCounts.j0 kq a0 a1 x26_4 = some r) ∧ Aside0 (kq ≤ k) ∧ Aside0 (Below w.heap.size w wc))
  case first =>
    have H := HC5.out
    clear HC5
    by_cases c8 : t340 = t342
    · rw [if_pos c8] at H
      have c8b0 : (t340 == t342) = true := beq_iff_eq.mpr c8
      have c8b1 : (t340 != t342) = false := bne_eq_false_iff_eq.mpr c8
      clear c8
      (first | rw [c8b0] | (simp only [i64_w, i32_w]; rw [c8b0]) | skip)
      have H' := Aside0.mk H
      clear H
      go_wp2
      go_meet
      case rel => exact ⟨_, ((t341 != t343)), (by first | rfl | (simp; done) | (simp [*]; done)), H', ⟨by first | omega | exact Nat.le_refl _⟩, ⟨by repeat (first | (with_reducible first | exact HB.out | apply below_alloc | apply pw_below_drewN | apply below_drew1) | exact HB.out)⟩⟩
    · rw [if_neg c8] at H
      have c8b0 : (t340 == t342) = false := beq_eq_false_iff_ne.mpr c8
      have c8b1 : (t340 != t342) = true := bne_iff_ne.mpr c8
      (first | rw [c8b0] | (simp only [i64_w, i32_w]; rw [c8b0]) | skip)
      have H' := Aside0.mk H
      clear H
      go_wp2
      go_meet
      case rel => exact ⟨_, (true), (by first | rfl | (simp; done) | (simp [*]; done)), H', ⟨by first | omega | exact Nat.le_refl _⟩, ⟨by repeat (first | (with_reducible first | exact HB.out | apply below_alloc | apply pw_below_drewN | apply below_drew1) | exact HB.out)⟩⟩
  case rest =>
    clear HC5
    try clear c2
    try clear p2
    try clear c7
    try clear c8
    try clear c8b0
    try clear c8b1
    obtain ⟨kq, x26_4, rfl, HA, HJ4, HB⟩ := hcut
    cases kq with
    | zero => exact absurd HA.out (by simp [clochelaw05_WavesCounts.j0])
    | succ kj4 =>
      have H := HA.out
      clear HA
      simp only [clochelaw05_WavesCounts.j0] at H
      by_cases c9 : x26_4 = true
      · subst c9
        have H1 : (some false) = some r := by rw [if_pos rfl] at H; exact H
        clear H
        have H := H1
        clear H1
        obtain rfl := Option.some.inj H
        go_wp2
        go_ret
        exact ⟨by first | rfl | (simp [errW_none, errW_some] <;> rfl) | (simp [*, errW_none, errW_some] <;> rfl), by repeat (first | (with_reducible first | exact HB.out | apply below_alloc | apply pw_below_drewN | apply below_drew1) | exact HB.out)⟩
      · replace c9 := Bool.eq_false_iff.mpr c9
        subst c9
        have H1 : ((waves_From.f a0 a1).bind fun bt344 => ((clocheref05_From.f kj4 a0 a1).bind fun bt346 => (if bt344.1 = bt346.1 then (clochelaw05_WavesCounts.j1 kj4 a0 (bt344.2 != bt346.2)) else (clochelaw05_WavesCounts.j1 kj4 a0 true)))) = some r := by rw [if_neg (show ¬ (false = true) by decide)] at H; exact H
        clear H
        have H := H1
        clear H1
        replace H := Option.bind_eq_some_iff.mp H
        obtain ⟨⟨t344, t345⟩, A100, H⟩ := H
        replace H : ((clocheref05_From.f kj4 a0 a1).bind fun bt346 => (if t344 = bt346.1 then (clochelaw05_WavesCounts.j1 kj4 a0 (t345 != bt346.2)) else (clochelaw05_WavesCounts.j1 kj4 a0 true))) = some r := H
        have A10 := Aside0.mk A100
        clear A100
        replace H := Option.bind_eq_some_iff.mp H
        obtain ⟨⟨t346, t347⟩, A110, H⟩ := H
        replace H : (if t344 = t346 then (clochelaw05_WavesCounts.j1 kj4 a0 (t345 != t347)) else (clochelaw05_WavesCounts.j1 kj4 a0 true)) = some r := H
        have A11 := Aside0.mk A110
        clear A110
        have HC12 := Aside0.mk H
        clear H
        go_upto_region 7 with (first | ((with_reducible refine gate_callee (f := 26) rfl ?_); refine goesL_ (some 30) rfl rfl Try.func26 (by kernel_rfl) rfl #[.int .i64 a0, .int .i64 a1] rfl (by (try simp only [List.map_toArray, List.map_cons, List.map_nil]); first | done | rfl | (simp only [List.length_drop, List.length_take]; rfl)) ?_; (with_reducible refine (waves_From.calls a0 a1 t344 t345 _ A10.out).mono ?_); rintro e w13 ⟨rfl, hb⟩; refine ⟨_, rfl, ?_⟩; have n0_ := Aside0.mk (below_step (by repeat (first | (with_reducible first | exact HB.out | apply below_alloc | apply pw_below_drewN | apply below_drew1) | exact HB.out)) hb); clear HB; have HB := n0_; clear n0_; (try clear hb); (try clear hb2); (try clear hk); (try clear hi)) | ((with_reducible refine gate_callee (f := 27) rfl ?_); refine goesL_ (some 36) rfl rfl Try.func27 (by kernel_rfl) rfl #[.int .i64 a0, .int .i64 a1] rfl (by (try simp only [List.map_toArray, List.map_cons, List.map_nil]); first | done | rfl | (simp only [List.length_drop, List.length_take]; rfl)) ?_; (with_reducible refine (clocheref05_From.calls kj4 a0 a1 t346 t347 _ A11.out).mono ?_); rintro e w14 ⟨rfl, hb⟩; refine ⟨_, rfl, ?_⟩; have n0_ := Aside0.mk (below_step (by repeat (first | (with_reducible first | exact HB.out | apply below_alloc | apply pw_below_drewN | apply below_drew1) | exact HB.out)) hb); clear HB; have HB := n0_; clear n0_; (try clear hb); (try clear hb2); (try clear hk); (try clear hi)))
        (try simp only [Act.put, List.setIfInBounds_toArray, List.set_cons_zero, List.set_cons_succ])
        go_cut [46] (fun v46 wc => ∃ (kq : Nat) (x46_11 : Bool), v46 = .bool x46_11 ∧ Aside0 (clochelaw05_WavesCounts.j1 kq a0 x46_11 = some r) ∧ Aside0 (kq ≤ kj4) ∧ Aside0 (Below w.heap.size w wc))
        case first =>
          have H := HC12.out
          clear HC12
          by_cases c15 : t344 = t346
          · rw [if_pos c15] at H
            have c15b0 : (t344 == t346) = true := beq_iff_eq.mpr c15
            have c15b1 : (t344 != t346) = false := bne_eq_false_iff_eq.mpr c15
            clear c15
            (first | rw [c15b0] | (simp only [i64_w, i32_w]; rw [c15b0]) | skip)
            have H' := Aside0.mk H
            clear H
            go_wp2
            go_meet
            case rel => exact ⟨_, ((t345 != t347)), (by first | rfl | (simp; done) | (simp [*]; done)), H', ⟨by have := HJ4.out; first | omega | exact Nat.le_refl _⟩, ⟨by repeat (first | (with_reducible first | exact HB.out | apply below_alloc | apply pw_below_drewN | apply below_drew1) | exact HB.out)⟩⟩
          · rw [if_neg c15] at H
            have c15b0 : (t344 == t346) = false := beq_eq_false_iff_ne.mpr c15
            have c15b1 : (t344 != t346) = true := bne_iff_ne.mpr c15
            (first | rw [c15b0] | (simp only [i64_w, i32_w]; rw [c15b0]) | skip)
            have H' := Aside0.mk H
            clear H
            go_wp2
            go_meet
            case rel => exact ⟨_, (true), (by first | rfl | (simp; done) | (simp [*]; done)), H', ⟨by have := HJ4.out; first | omega | exact Nat.le_refl _⟩, ⟨by repeat (first | (with_reducible first | exact HB.out | apply below_alloc | apply pw_below_drewN | apply below_drew1) | exact HB.out)⟩⟩
        case rest =>
          clear HC12
          try clear c1
          try clear c2
          try clear p2
          try clear c7
          try clear c8
          try clear c8b0
          try clear c8b1
          try clear c9
          try clear c15
          try clear c15b0
          try clear c15b1
          try clear p2
          obtain ⟨kq, x46_11, rfl, HA, HJ11, HB⟩ := hcut
          cases kq with
          | zero => exact absurd HA.out (by simp [clochelaw05_WavesCounts.j1])
          | succ kj11 =>
            have H := HA.out
            clear HA
            simp only [clochelaw05_WavesCounts.j1] at H
            by_cases c16 : x46_11 = true
            · subst c16
              have H1 : (some false) = some r := by rw [if_pos rfl] at H; exact H
              clear H
              have H := H1
              clear H1
              obtain rfl := Option.some.inj H
              go_wp2
              go_ret
              exact ⟨by first | rfl | (simp [errW_none, errW_some] <;> rfl) | (simp [*, errW_none, errW_some] <;> rfl), by repeat (first | (with_reducible first | exact HB.out | apply below_alloc | apply pw_below_drewN | apply below_drew1) | exact HB.out)⟩
            · replace c16 := Bool.eq_false_iff.mpr c16
              subst c16
              have H1 : ((waves_Andre.f kj11 a0).bind fun bt348 => ((clocheref05_Andre.f kj11 a0).bind fun bt350 => (if bt348.1 = bt350.1 then (if bt348.2 = bt350.2 then ((clochelaw05_alive.f kj11).bind fun t352 => (some t352)) else (some false)) else (some false)))) = some r := by rw [if_neg (show ¬ (false = true) by decide)] at H; exact H
              clear H
              have H := H1
              clear H1
              replace H := Option.bind_eq_some_iff.mp H
              obtain ⟨⟨t348, t349⟩, A170, H⟩ := H
              replace H : ((clocheref05_Andre.f kj11 a0).bind fun bt350 => (if t348 = bt350.1 then (if t349 = bt350.2 then ((clochelaw05_alive.f kj11).bind fun t352 => (some t352)) else (some false)) else (some false))) = some r := H
              have A17 := Aside0.mk A170
              clear A170
              replace H := Option.bind_eq_some_iff.mp H
              obtain ⟨⟨t350, t351⟩, A180, H⟩ := H
              replace H : (if t348 = t350 then (if t349 = t351 then ((clochelaw05_alive.f kj11).bind fun t352 => (some t352)) else (some false)) else (some false)) = some r := H
              have A18 := Aside0.mk A180
              clear A180
              by_cases c19 : t348 = t350
              · rw [if_pos c19] at H
                have c19b0 : (t348 == t350) = true := beq_iff_eq.mpr c19
                have c19b1 : (t348 != t350) = false := bne_eq_false_iff_eq.mpr c19
                clear c19
                by_cases c20 : t349 = t351
                · rw [if_pos c20] at H
                  have c20b0 : (t349 == t351) = true := beq_iff_eq.mpr c20
                  have c20b1 : (t349 != t351) = false := bne_eq_false_iff_eq.mpr c20
                  clear c20
                  replace H := Option.bind_eq_some_iff.mp H
                  obtain ⟨t352, A210, H⟩ := H
                  replace H : (some t352) = some r := H
                  have A21 := Aside0.mk A210
                  clear A210
                  obtain rfl := Option.some.inj H
                  go_wp2_with (first | ((with_reducible refine gate_callee (f := 28) rfl ?_); refine goesL_ (some 49) rfl rfl Try.func28 (by kernel_rfl) rfl #[.int .i64 a0] rfl (by (try simp only [List.map_toArray, List.map_cons, List.map_nil]); first | done | rfl | (simp only [List.length_drop, List.length_take]; rfl)) ?_; (with_reducible refine (waves_Andre.calls kj11 a0 t348 t349 _ A17.out).mono ?_); rintro e w22 ⟨rfl, hb⟩; refine ⟨_, rfl, ?_⟩; have n0_ := Aside0.mk (below_step (by repeat (first | (with_reducible first | exact HB.out | apply below_alloc | apply pw_below_drewN | apply below_drew1) | exact HB.out)) hb); clear HB; have HB := n0_; clear n0_; (try clear hb); (try clear hb2); (try clear hk); (try clear hi)) | ((with_reducible refine gate_callee (f := 29) rfl ?_); refine goesL_ (some 54) rfl rfl Try.func29 (by kernel_rfl) rfl #[.int .i64 a0] rfl (by (try simp only [List.map_toArray, List.map_cons, List.map_nil]); first | done | rfl | (simp only [List.length_drop, List.length_take]; rfl)) ?_; (with_reducible refine (clocheref05_Andre.calls kj11 a0 t350 t351 _ A18.out).mono ?_); rintro e w23 ⟨rfl, hb⟩; refine ⟨_, rfl, ?_⟩; have n0_ := Aside0.mk (below_step (by repeat (first | (with_reducible first | exact HB.out | apply below_alloc | apply pw_below_drewN | apply below_drew1) | exact HB.out)) hb); clear HB; have HB := n0_; clear n0_; (try clear hb); (try clear hb2); (try clear hk); (try clear hi)) | (go_at_call 17; (with_reducible refine (clochelaw05_alive.calls kj11  t352 _ A21.out).mono ?_); rintro e w24 ⟨rfl, hb⟩; have n0_ := Aside0.mk (below_step (by repeat (first | (with_reducible first | exact HB.out | apply below_alloc | apply pw_below_drewN | apply below_drew1) | exact HB.out)) hb); clear HB; have HB := n0_; clear n0_; (try clear hb); (try clear hb2); (try clear hk); (try clear hi)))
                  go_ret
                  exact ⟨by first | rfl | (simp [errW_none, errW_some] <;> rfl) | (simp [*, errW_none, errW_some] <;> rfl), by repeat (first | (with_reducible first | exact HB.out | apply below_alloc | apply pw_below_drewN | apply below_drew1) | exact HB.out)⟩
                · rw [if_neg c20] at H
                  have c20b0 : (t349 == t351) = false := beq_eq_false_iff_ne.mpr c20
                  have c20b1 : (t349 != t351) = true := bne_iff_ne.mpr c20
                  obtain rfl := Option.some.inj H
                  go_wp2_with (first | ((with_reducible refine gate_callee (f := 28) rfl ?_); refine goesL_ (some 49) rfl rfl Try.func28 (by kernel_rfl) rfl #[.int .i64 a0] rfl (by (try simp only [List.map_toArray, List.map_cons, List.map_nil]); first | done | rfl | (simp only [List.length_drop, List.length_take]; rfl)) ?_; (with_reducible refine (waves_Andre.calls kj11 a0 t348 t349 _ A17.out).mono ?_); rintro e w25 ⟨rfl, hb⟩; refine ⟨_, rfl, ?_⟩; have n0_ := Aside0.mk (below_step (by repeat (first | (with_reducible first | exact HB.out | apply below_alloc | apply pw_below_drewN | apply below_drew1) | exact HB.out)) hb); clear HB; have HB := n0_; clear n0_; (try clear hb); (try clear hb2); (try clear hk); (try clear hi)) | ((with_reducible refine gate_callee (f := 29) rfl ?_); refine goesL_ (some 54) rfl rfl Try.func29 (by kernel_rfl) rfl #[.int .i64 a0] rfl (by (try simp only [List.map_toArray, List.map_cons, List.map_nil]); first | done | rfl | (simp only [List.length_drop, List.length_take]; rfl)) ?_; (with_reducible refine (clocheref05_Andre.calls kj11 a0 t350 t351 _ A18.out).mono ?_); rintro e w26 ⟨rfl, hb⟩; refine ⟨_, rfl, ?_⟩; have n0_ := Aside0.mk (below_step (by repeat (first | (with_reducible first | exact HB.out | apply below_alloc | apply pw_below_drewN | apply below_drew1) | exact HB.out)) hb); clear HB; have HB := n0_; clear n0_; (try clear hb); (try clear hb2); (try clear hk); (try clear hi)))
                  go_ret
                  exact ⟨by first | rfl | (simp [errW_none, errW_some] <;> rfl) | (simp [*, errW_none, errW_some] <;> rfl), by repeat (first | (with_reducible first | exact HB.out | apply below_alloc | apply pw_below_drewN | apply below_drew1) | exact HB.out)⟩
              · rw [if_neg c19] at H
                have c19b0 : (t348 == t350) = false := beq_eq_false_iff_ne.mpr c19
                have c19b1 : (t348 != t350) = true := bne_iff_ne.mpr c19
                obtain rfl := Option.some.inj H
                go_wp2_with (first | ((with_reducible refine gate_callee (f := 28) rfl ?_); refine goesL_ (some 49) rfl rfl Try.func28 (by kernel_rfl) rfl #[.int .i64 a0] rfl (by (try simp only [List.map_toArray, List.map_cons, List.map_nil]); first | done | rfl | (simp only [List.length_drop, List.length_take]; rfl)) ?_; (with_reducible refine (waves_Andre.calls kj11 a0 t348 t349 _ A17.out).mono ?_); rintro e w27 ⟨rfl, hb⟩; refine ⟨_, rfl, ?_⟩; have n0_ := Aside0.mk (below_step (by repeat (first | (with_reducible first | exact HB.out | apply below_alloc | apply pw_below_drewN | apply below_drew1) | exact HB.out)) hb); clear HB; have HB := n0_; clear n0_; (try clear hb); (try clear hb2); (try clear hk); (try clear hi)) | ((with_reducible refine gate_callee (f := 29) rfl ?_); refine goesL_ (some 54) rfl rfl Try.func29 (by kernel_rfl) rfl #[.int .i64 a0] rfl (by (try simp only [List.map_toArray, List.map_cons, List.map_nil]); first | done | rfl | (simp only [List.length_drop, List.length_take]; rfl)) ?_; (with_reducible refine (clocheref05_Andre.calls kj11 a0 t350 t351 _ A18.out).mono ?_); rintro e w28 ⟨rfl, hb⟩; refine ⟨_, rfl, ?_⟩; have n0_ := Aside0.mk (below_step (by repeat (first | (with_reducible first | exact HB.out | apply below_alloc | apply pw_below_drewN | apply below_drew1) | exact HB.out)) hb); clear HB; have HB := n0_; clear n0_; (try clear hb); (try clear hb2); (try clear hk); (try clear hi)))
                go_ret
                exact ⟨by first | rfl | (simp [errW_none, errW_some] <;> rfl) | (simp [*, errW_none, errW_some] <;> rfl), by repeat (first | (with_reducible first | exact HB.out | apply below_alloc | apply pw_below_drewN | apply below_drew1) | exact HB.out)⟩

/-- THE ONE PURE STATEMENT of clochelaw05_WavesCounts: yours. -/
def clochelaw05_WavesCounts.Pure : Prop := ∀ (a0 : Int) (a1 : Int), (Lit.int .i64 a0).wf = true → (Lit.int .i64 a1).wf = true → ∃ k, clochelaw05_WavesCounts.f k a0 a1 = some true
theorem clochelaw05_WavesCounts.walk (P : clochelaw05_WavesCounts.Pure) (a0 : Int) (a1 : Int) (w : World) (w0 : (Lit.int .i64 a0).wf = true) (w1 : (Lit.int .i64 a1).wf = true) :
    Calls Try.prog 7 #[.int .i64 a0, .int .i64 a1] w fun e w' => e = .returned (.bool true) ∧ Below w.heap.size w w' := by
  obtain ⟨k, h⟩ := P a0 a1 w0 w1
  refine (clochelaw05_WavesCounts.calls k a0 a1 true w h).mono ?_
  rintro e w' ⟨rfl, hd⟩
  exact ⟨rfl, hd⟩

end Go.Proofs.Ytmigibamdeodpaa.Print
