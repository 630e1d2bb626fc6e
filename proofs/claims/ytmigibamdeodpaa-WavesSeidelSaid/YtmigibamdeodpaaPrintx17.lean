/- What the functions of the waves compute, printed by this repo's hand printer. -/
import Derived.Test.YtmigibamdeodpaaPrintx0
import Derived.Test.YtmigibamdeodpaaPrintx2
import Derived.Test.YtmigibamdeodpaaPrintx5
import Derived.Test.YtmigibamdeodpaaPrintx9
import Derived.Test.YtmigibamdeodpaaPrintx15
namespace Go.Proofs.Ytmigibamdeodpaa.Print
open Go.RowKit Go.Proofs.YtmigibamdeodpaaW.PrintWords Go.Proofs.YtmigibamdeodpaaW.PrintLast Go.Proofs.YtmigibamdeodpaaW.PrintMore
attribute [local go_sem] max2_int min2_int max_two min_two max_three min_three max_four min_four   -- for this text's walks alone
set_option linter.unusedVariables false
set_option linter.unusedSimpArgs false

/-! ### clochelaw05_WavesSeidel: function 8 -/
mutual
def clochelaw05_WavesSeidel.j0 : Nat → Int → Int → List (List Int) → Bool → Option (Bool)
  | 0, _, _, _, _ => none
  | k + 1, x3, x4, x6, x60 => if x60 = true then (some false) else (clochelaw05_WavesSeidel.l0 k x3 x4 x6 0 1)
def clochelaw05_WavesSeidel.l0 : Nat → Int → Int → List (List Int) → Int → Int → Option (Bool)
  | 0, _, _, _, _, _ => none
  | k + 1, x3, x4, x6, x8, x9 => if x9 ≤ x3 then ((waves_From.f x3 x9).bind fun bt351 => (if bt351.2 = 0 then (if 0 ≤ x3 then (if x3 < (x6.length : Int) then (if 0 ≤ x9 then (if x9 < ((rd_L1 x6 x3).length : Int) then (if 0 ≤ (wrap64 (x9 - 1)) then (if (wrap64 (x9 - 1)) < ((rd_L1 x6 x3).length : Int) then (if bt351.1 = (wrap64 ((rd (rd_L1 x6 x3) x9) - (rd (rd_L1 x6 x3) (wrap64 (x9 - 1))))) then (clochelaw05_WavesSeidel.l0 k x3 x4 x6 (wrap64 (x8 + bt351.1)) (wrap64 (x9 + 1))) else (some false)) else (none)) else (none)) else (none)) else (none)) else (none)) else (none)) else (some false))) else ((waves_Count.f 0).bind fun bt357 => (if bt357.2 = 0 then (if bt357.1 = 1 then (if x8 = x4 then ((clochelaw05_alive.f k).bind fun t359 => (some t359)) else (some false)) else (some false)) else (some false)))
end
def clochelaw05_WavesSeidel.f (k : Nat) (a0 : Int) : Option (Bool) := (waves_Count.f (wrap64 (1 + (wrap64 (Int.tmod a0 10))))).bind fun bt342 => ((waves_Triangle.f (wrap64 (1 + (wrap64 (Int.tmod a0 10))))).bind fun bt344 => (if bt342.2 = 0 then (if bt344.2 = 0 then (if (bt344.1.length : Int) = (wrap64 ((wrap64 (1 + (wrap64 (Int.tmod a0 10)))) + 1)) then (if 0 ≤ (wrap64 (1 + (wrap64 (Int.tmod a0 10)))) then (if (wrap64 (1 + (wrap64 (Int.tmod a0 10)))) < (bt344.1.length : Int) then (if ((rd_L1 bt344.1 (wrap64 (1 + (wrap64 (Int.tmod a0 10))))).length : Int) = (wrap64 ((wrap64 (1 + (wrap64 (Int.tmod a0 10)))) + 1)) then (if (wrap64 (1 + (wrap64 (Int.tmod a0 10)))) < ((rd_L1 bt344.1 (wrap64 (1 + (wrap64 (Int.tmod a0 10))))).length : Int) then (clochelaw05_WavesSeidel.j0 k (wrap64 (1 + (wrap64 (Int.tmod a0 10)))) bt342.1 bt344.1 ((rd (rd_L1 bt344.1 (wrap64 (1 + (wrap64 (Int.tmod a0 10))))) (wrap64 (1 + (wrap64 (Int.tmod a0 10))))) != bt342.1)) else (none)) else (clochelaw05_WavesSeidel.j0 k (wrap64 (1 + (wrap64 (Int.tmod a0 10)))) bt342.1 bt344.1 true)) else (none)) else (none)) else (clochelaw05_WavesSeidel.j0 k (wrap64 (1 + (wrap64 (Int.tmod a0 10)))) bt342.1 bt344.1 true)) else (clochelaw05_WavesSeidel.j0 k (wrap64 (1 + (wrap64 (Int.tmod a0 10)))) bt342.1 bt344.1 true)) else (clochelaw05_WavesSeidel.j0 k (wrap64 (1 + (wrap64 (Int.tmod a0 10)))) bt342.1 bt344.1 true)))
theorem clochelaw05_WavesSeidel.mono_l : ∀ k, (∀ y0 y1 y2 y3, LeO (clochelaw05_WavesSeidel.j0 k y0 y1 y2 y3) (clochelaw05_WavesSeidel.j0 (k + 1) y0 y1 y2 y3)) ∧ (∀ y0 y1 y2 y3 y4, LeO (clochelaw05_WavesSeidel.l0 k y0 y1 y2 y3 y4) (clochelaw05_WavesSeidel.l0 (k + 1) y0 y1 y2 y3 y4))
  | 0 => ⟨fun _ _ _ _ r h => by simp [clochelaw05_WavesSeidel.j0] at h, fun _ _ _ _ _ r h => by simp [clochelaw05_WavesSeidel.l0] at h⟩
  | k + 1 => by
    obtain ⟨ih0, ih1⟩ := clochelaw05_WavesSeidel.mono_l k
    refine ⟨?_, ?_⟩
    · intro y0 y1 y2 y3
      unfold clochelaw05_WavesSeidel.j0
      repeat' first
      | (with_reducible exact ih0 _ _ _ _)
      | (with_reducible exact ih1 _ _ _ _ _)
      | (with_reducible exact clochelaw05_alive.mono _)
      | (with_reducible exact LeO.refl _)
      | (with_reducible exact LeO.none _)
      | (with_reducible refine LeO.ite ?_ ?_)
      | (with_reducible refine LeO.bind ?_ (fun _ => ?_))
      | exact ih0 _ _ _ _
      | exact ih1 _ _ _ _ _
      | exact clochelaw05_alive.mono _
      | exact LeO.none _
      | refine LeO.ite ?_ ?_
      | refine LeO.bind ?_ (fun _ => ?_)
    · intro y0 y1 y2 y3 y4
      unfold clochelaw05_WavesSeidel.l0
      repeat' first
      | (with_reducible exact ih0 _ _ _ _)
      | (with_reducible exact ih1 _ _ _ _ _)
      | (with_reducible exact clochelaw05_alive.mono _)
      | (with_reducible exact LeO.refl _)
      | (with_reducible exact LeO.none _)
      | (with_reducible refine LeO.ite ?_ ?_)
      | (with_reducible refine LeO.bind ?_ (fun _ => ?_))
      | exact ih0 _ _ _ _
      | exact ih1 _ _ _ _ _
      | exact clochelaw05_alive.mono _
      | exact LeO.none _
      | refine LeO.ite ?_ ?_
      | refine LeO.bind ?_ (fun _ => ?_)
theorem clochelaw05_WavesSeidel.mono : ∀ a0 k, LeO (clochelaw05_WavesSeidel.f k a0) (clochelaw05_WavesSeidel.f (k + 1) a0) := by
  intro a0 k
  obtain ⟨ih0, ih1⟩ := clochelaw05_WavesSeidel.mono_l k
  unfold clochelaw05_WavesSeidel.f
  repeat' first
      | (with_reducible exact ih0 _ _ _ _)
      | (with_reducible exact ih1 _ _ _ _ _)
      | (with_reducible exact clochelaw05_alive.mono _)
      | (with_reducible exact LeO.refl _)
      | (with_reducible exact LeO.none _)
      | (with_reducible refine LeO.ite ?_ ?_)
      | (with_reducible refine LeO.bind ?_ (fun _ => ?_))
      | exact ih0 _ _ _ _
      | exact ih1 _ _ _ _ _
      | exact clochelaw05_alive.mono _
      | exact LeO.none _
      | refine LeO.ite ?_ ?_
      | refine LeO.bind ?_ (fun _ => ?_)
set_option maxHeartbeats 8000000 in
set_option maxRecDepth 100000 in
theorem clochelaw05_WavesSeidel.calls (k : Nat) (a0 : Int) (r : Bool) (w : World) (h : clochelaw05_WavesSeidel.f k a0 = some r) :
    Calls Try.prog 8 #[.int .u8 a0] w fun e w' => e = .returned (.bool r) ∧ Below w.heap.size w w' := by
  have HB := Aside0.mk (Below.refl w.heap.size w)
  have H : ((waves_Count.f (wrap64 (1 + (wrap64 (Int.tmod a0 10))))).bind fun bt342 => ((waves_Triangle.f (wrap64 (1 + (wrap64 (Int.tmod a0 10))))).bind fun bt344 => (if bt342.2 = 0 then (if bt344.2 = 0 then (if (bt344.1.length : Int) = (wrap64 ((wrap64 (1 + (wrap64 (Int.tmod a0 10)))) + 1)) then (if 0 ≤ (wrap64 (1 + (wrap64 (Int.tmod a0 10)))) then (if (wrap64 (1 + (wrap64 (Int.tmod a0 10)))) < (bt344.1.length : Int) then (if ((rd_L1 bt344.1 (wrap64 (1 + (wrap64 (Int.tmod a0 10))))).length : Int) = (wrap64 ((wrap64 (1 + (wrap64 (Int.tmod a0 10)))) + 1)) then (if (wrap64 (1 + (wrap64 (Int.tmod a0 10)))) < ((rd_L1 bt344.1 (wrap64 (1 + (wrap64 (Int.tmod a0 10))))).length : Int) then (clochelaw05_WavesSeidel.j0 k (wrap64 (1 + (wrap64 (Int.tmod a0 10)))) bt342.1 bt344.1 ((rd (rd_L1 bt344.1 (wrap64 (1 + (wrap64 (Int.tmod a0 10))))) (wrap64 (1 + (wrap64 (Int.tmod a0 10))))) != bt342.1)) else (none)) else (clochelaw05_WavesSeidel.j0 k (wrap64 (1 + (wrap64 (Int.tmod a0 10)))) bt342.1 bt344.1 true)) else (none)) else (none)) else (clochelaw05_WavesSeidel.j0 k (wrap64 (1 + (wrap64 (Int.tmod a0 10)))) bt342.1 bt344.1 true)) else (clochelaw05_WavesSeidel.j0 k (wrap64 (1 + (wrap64 (Int.tmod a0 10)))) bt342.1 bt344.1 true)) else (clochelaw05_WavesSeidel.j0 k (wrap64 (1 + (wrap64 (Int.tmod a0 10)))) bt342.1 bt344.1 true)))) = some r := h
  clear h
  replace H := Option.bind_eq_some_iff.mp H
  obtain ⟨⟨t342, t343⟩, A20, H⟩ := H
  replace H : ((waves_Triangle.f (wrap64 (1 + (wrap64 (Int.tmod a0 10))))).bind fun bt344 => (if t343 = 0 then (if bt344.2 = 0 then (if (bt344.1.length : Int) = (wrap64 ((wrap64 (1 + (wrap64 (Int.tmod a0 10)))) + 1)) then (if 0 ≤ (wrap64 (1 + (wrap64 (Int.tmod a0 10)))) then (if (wrap64 (1 + (wrap64 (Int.tmod a0 10)))) < (bt344.1.length : Int) then (if ((rd_L1 bt344.1 (wrap64 (1 + (wrap64 (Int.tmod a0 10))))).length : Int) = (wrap64 ((wrap64 (1 + (wrap64 (Int.tmod a0 10)))) + 1)) then (if (wrap64 (1 + (wrap64 (Int.tmod a0 10)))) < ((rd_L1 bt344.1 (wrap64 (1 + (wrap64 (Int.tmod a0 10))))).length : Int) then (clochelaw05_WavesSeidel.j0 k (wrap64 (1 + (wrap64 (Int.tmod a0 10)))) t342 bt344.1 ((rd (rd_L1 bt344.1 (wrap64 (1 + (wrap64 (Int.tmod a0 10))))) (wrap64 (1 + (wrap64 (Int.tmod a0 10))))) != t342)) else (none)) else (clochelaw05_WavesSeidel.j0 k (wrap64 (1 + (wrap64 (Int.tmod a0 10)))) t342 bt344.1 true)) else (none)) else (none)) else (clochelaw05_WavesSeidel.j0 k (wrap64 (1 + (wrap64 (Int.tmod a0 10)))) t342 bt344.1 true)) else (clochelaw05_WavesSeidel.j0 k (wrap64 (1 + (wrap64 (Int.tmod a0 10)))) t342 bt344.1 true)) else (clochelaw05_WavesSeidel.j0 k (wrap64 (1 + (wrap64 (Int.tmod a0 10)))) t342 bt344.1 true))) = some r := H
  have A2 := Aside0.mk A20
  clear A20
  replace H := Option.bind_eq_some_iff.mp H
  obtain ⟨⟨t344, t345⟩, A30, H⟩ := H
  replace H : (if t343 = 0 then (if t345 = 0 then (if (t344.length : Int) = (wrap64 ((wrap64 (1 + (wrap64 (Int.tmod a0 10)))) + 1)) then (if 0 ≤ (wrap64 (1 + (wrap64 (Int.tmod a0 10)))) then (if (wrap64 (1 + (wrap64 (Int.tmod a0 10)))) < (t344.length : Int) then (if ((rd_L1 t344 (wrap64 (1 + (wrap64 (Int.tmod a0 10))))).length : Int) = (wrap64 ((wrap64 (1 + (wrap64 (Int.tmod a0 10)))) + 1)) then (if (wrap64 (1 + (wrap64 (Int.tmod a0 10)))) < ((rd_L1 t344 (wrap64 (1 + (wrap64 (Int.tmod a0 10))))).length : Int) then (clochelaw05_WavesSeidel.j0 k (wrap64 (1 + (wrap64 (Int.tmod a0 10)))) t342 t344 ((rd (rd_L1 t344 (wrap64 (1 + (wrap64 (Int.tmod a0 10))))) (wrap64 (1 + (wrap64 (Int.tmod a0 10))))) != t342)) else (none)) else (clochelaw05_WavesSeidel.j0 k (wrap64 (1 + (wrap64 (Int.tmod a0 10)))) t342 t344 true)) else (none)) else (none)) else (clochelaw05_WavesSeidel.j0 k (wrap64 (1 + (wrap64 (Int.tmod a0 10)))) t342 t344 true)) else (clochelaw05_WavesSeidel.j0 k (wrap64 (1 + (wrap64 (Int.tmod a0 10)))) t342 t344 true)) else (clochelaw05_WavesSeidel.j0 k (wrap64 (1 + (wrap64 (Int.tmod a0 10)))) t342 t344 true)) = some r := H
  have A3 := Aside0.mk A30
  clear A30
  have HC4 := Aside0.mk H
  clear H
  go_enter Try.func8, Try.ntmps8
  go_upto_region 4 with (first | (go_at_call 22; (with_reducible refine (waves_Count.calls (wrap64 (1 + (wrap64 (Int.tmod a0 10)))) t342 t343 _ A2.out).mono ?_); rintro e w5 ⟨rfl, hb⟩; have n0_ := Aside0.mk (below_step (by repeat (first | (with_reducible first | exact HB.out | apply below_alloc | apply pw_below_drewN | apply below_drew1) | exact HB.out)) hb); clear HB; have HB := n0_; clear n0_; (try clear hb); (try clear hb2); (try clear hk); (try clear hi)) | (go_at_call 15; (with_reducible refine (waves_Triangle.calls (wrap64 (1 + (wrap64 (Int.tmod a0 10)))) t344 t345 _ A3.out).mono ?_); rintro e w6 ⟨v346, rfl, ho0, hb⟩; have n0_ := Aside0.mk (Kd.S_lower ho0 (below_size (by repeat (first | (with_reducible first | exact HB.out | apply below_alloc | apply pw_below_drewN | apply below_drew1) | exact HB.out)))); have n1_ := Aside0.mk (below_step (by repeat (first | (with_reducible first | exact HB.out | apply below_alloc | apply pw_below_drewN | apply below_drew1) | exact HB.out)) hb); clear HB; have HO347 := n0_; have HB := n1_; clear n0_ n1_; (try clear hb); (try clear hb2); (try clear hk); (try clear hi); (try clear ho0)))
  repeat (go_quiet (first | (go_at_call 22; (with_reducible refine (waves_Count.calls (wrap64 (1 + (wrap64 (Int.tmod a0 10)))) t342 t343 _ A2.out).mono ?_); rintro e w5 ⟨rfl, hb⟩; have n0_ := Aside0.mk (below_step (by repeat (first | (with_reducible first | exact HB.out | apply below_alloc | apply pw_below_drewN | apply below_drew1) | exact HB.out)) hb); clear HB; have HB := n0_; clear n0_; (try clear hb); (try clear hb2); (try clear hk); (try clear hi)) | (go_at_call 15; (with_reducible refine (waves_Triangle.calls (wrap64 (1 + (wrap64 (Int.tmod a0 10)))) t344 t345 _ A3.out).mono ?_); rintro e w6 ⟨v346, rfl, ho0, hb⟩; have n0_ := Aside0.mk (Kd.S_lower ho0 (below_size (by repeat (first | (with_reducible first | exact HB.out | apply below_alloc | apply pw_below_drewN | apply below_drew1) | exact HB.out)))); have n1_ := Aside0.mk (below_step (by repeat (first | (with_reducible first | exact HB.out | apply below_alloc | apply pw_below_drewN | apply below_drew1) | exact HB.out)) hb); clear HB; have HO347 := n0_; have HB := n1_; clear n0_ n1_; (try clear hb); (try clear hb2); (try clear hk); (try clear hi); (try clear ho0))); go_upto_region 4 with (first | (go_at_call 22; (with_reducible refine (waves_Count.calls (wrap64 (1 + (wrap64 (Int.tmod a0 10)))) t342 t343 _ A2.out).mono ?_); rintro e w5 ⟨rfl, hb⟩; have n0_ := Aside0.mk (below_step (by repeat (first | (with_reducible first | exact HB.out | apply below_alloc | apply pw_below_drewN | apply below_drew1) | exact HB.out)) hb); clear HB; have HB := n0_; clear n0_; (try clear hb); (try clear hb2); (try clear hk); (try clear hi)) | (go_at_call 15; (with_reducible refine (waves_Triangle.calls (wrap64 (1 + (wrap64 (Int.tmod a0 10)))) t344 t345 _ A3.out).mono ?_); rintro e w6 ⟨v346, rfl, ho0, hb⟩; have n0_ := Aside0.mk (Kd.S_lower ho0 (below_size (by repeat (first | (with_reducible first | exact HB.out | apply below_alloc | apply pw_below_drewN | apply below_drew1) | exact HB.out)))); have n1_ := Aside0.mk (below_step (by repeat (first | (with_reducible first | exact HB.out | apply below_alloc | apply pw_below_drewN | apply below_drew1) | exact HB.out)) hb); clear HB; have HO347 := n0_; have HB := n1_; clear n0_ n1_; (try clear hb); (try clear hb2); (try clear hk); (try clear hi); (try clear ho0))))
  (try simp only [Act.put, List.setIfInBounds_toArray, List.set_cons_zero, List.set_cons_succ])
  go_cut [60] (fun v60 wc => ∃ (kq : Nat) (x60_3 : Bool), v60 = .bool x60_3 ∧ Aside0 (clochelaw05_WavesSeidel.j0 kq (wrap64 (1 + (wrap64 (Int.tmod a0 10)))) t342 t344 x60_3 = some r) ∧ Aside0 (kq ≤ k) ∧ Aside0 (Kd.S (Kd.slice 3 (Kd.int .i64)) 27 wc w.heap.size (fun _ => True) v346 t344) ∧ Aside0 (Below w.heap.size w wc))
  case first =>
    have H := HC4.out
    clear HC4
    by_cases c7 : t343 = 0
    · rw [if_pos c7] at H
      have c7b0 : (t343 == 0) = true := beq_iff_eq.mpr c7
      have c7b1 : (t343 != 0) = false := bne_eq_false_iff_eq.mpr c7
      clear c7
      (first | rw [c7b0] | (simp only [i64_w, i32_w]; rw [c7b0]) | skip)
      by_cases c8 : t345 = 0
      · rw [if_pos c8] at H
        have c8b0 : (t345 == 0) = true := beq_iff_eq.mpr c8
        have c8b1 : (t345 != 0) = false := bne_eq_false_iff_eq.mpr c8
        clear c8
        by_cases c9 : (t344.length : Int) = (wrap64 ((wrap64 (1 + (wrap64 (Int.tmod a0 10)))) + 1))
        · rw [if_pos c9] at H
          have c9b0 : ((t344.length : Int) == (wrap64 ((wrap64 (1 + (wrap64 (Int.tmod a0 10)))) + 1))) = true := beq_iff_eq.mpr c9
          have c9b1 : ((t344.length : Int) != (wrap64 ((wrap64 (1 + (wrap64 (Int.tmod a0 10)))) + 1))) = false := bne_eq_false_iff_eq.mpr c9
          clear c9
          obtain ⟨ji10, hji10⟩ : ∃ j_ : Int, (wrap64 (1 + (wrap64 (Int.tmod a0 10)))) = j_ := ⟨_, rfl⟩
          replace H : (if 0 ≤ (ji10) then (if (ji10) < (t344.length : Int) then (if ((rd_L1 t344 (ji10)).length : Int) = (wrap64 ((ji10) + 1)) then (if (ji10) < ((rd_L1 t344 (ji10)).length : Int) then (clochelaw05_WavesSeidel.j0 k ji10 t342 t344 ((rd (rd_L1 t344 (ji10)) (ji10)) != t342)) else (none)) else (clochelaw05_WavesSeidel.j0 k ji10 t342 t344 true)) else (none)) else (none)) = some r := by first | (rw [hji10] at H; exact H) | (simp only [hji10] at H ⊢; exact H)
          (try rw [hji10] at c9b0)
          (try rw [hji10] at c9b1)
          have hji10w : (IntKind.i64.wrap (1 + (wrap64 (Int.tmod a0 10)))) = ji10 := (i64_w _).trans hji10
          by_cases c11 : 0 ≤ (ji10)
          · rw [if_pos c11] at H
            have c11b0 : decide (0 ≤ (ji10)) = true := decide_eq_true c11
            clear c11
            by_cases c12 : (ji10) < (t344.length : Int)
            · rw [if_pos c12] at H
              have c12b0 : decide ((ji10) < (t344.length : Int)) = true := decide_eq_true c12
              clear c12
              by_cases c13 : ((rd_L1 t344 (ji10)).length : Int) = (wrap64 ((ji10) + 1))
              · rw [if_pos c13] at H
                have c13b0 : (((rd_L1 t344 (ji10)).length : Int) == (wrap64 ((ji10) + 1))) = true := beq_iff_eq.mpr c13
                have c13b1 : (((rd_L1 t344 (ji10)).length : Int) != (wrap64 ((ji10) + 1))) = false := bne_eq_false_iff_eq.mpr c13
                clear c13
                by_cases c14 : (ji10) < ((rd_L1 t344 (ji10)).length : Int)
                · rw [if_pos c14] at H
                  have c14b0 : decide ((ji10) < ((rd_L1 t344 (ji10)).length : Int)) = true := decide_eq_true c14
                  clear c14
                  have H' := Aside0.mk H
                  clear H
                  obtain ⟨Ao15, co15, eo15⟩ := Kd.S_slice HO347.out
                  subst eo15
                  have p348 : 0 ≤ ((ji10) : Int) := of_decide_eq_true (by first | (with_reducible assumption) | assumption)
                  have q348 : (ji10) < (t344.length : Int) := of_decide_eq_true (by first | (with_reducible assumption) | assumption)
                  obtain ⟨ad348, A348_0, c348_0, e348, hx348_0, hl348_0, hi348_0⟩ := at_L1 (Kd.S_reads' HO347.out).2.2 (ji10) p348 q348
                  cases e348
                  obtain ⟨ce348, hce348, hMe348, hcc348⟩ := Kd.S_get HO347.out [] (ji10) p348 (by first | exact q348 | exact of_decide_eq_true (by first | (with_reducible assumption) | assumption) | (have e_ := (Kd.S_reads' HO347.out).1; omega))
                  obtain ⟨ve348_0, rfl, ge348_0⟩ := hMe348
                  have hv348_0 := hcc348 0 _ rfl
                  rw [Nat.add_zero, show ((Kd.slice 3 (Kd.int .i64))).sz = 1 from rfl, Nat.mul_one] at hv348_0
                  replace hv348_0 := Option.some.inj (hv348_0.symm.trans hx348_0)
                  rw [hv348_0] at ge348_0
                  have HL348_0 := Aside0.mk (show Kd.R (Kd.int .i64) 3 _ _ _ _ (rd_L1 t344 (ji10)) from ge348_0)
                  clear hv348_0 ge348_0
                  clear hcc348 hce348
                  have HR348_0 := Aside0.mk hi348_0
                  have HC348_0 := Aside0.mk hl348_0
                  clear hi348_0 hl348_0
                  replace p348 := eq_true p348
                  replace q348 := eq_true q348
                  have p349 : 0 ≤ ((ji10) : Int) := of_decide_eq_true (by first | (with_reducible assumption) | assumption)
                  have q349 : (ji10) < (t344.length : Int) := of_decide_eq_true (by first | (with_reducible assumption) | assumption)
                  obtain ⟨ad349, A349_0, c349_0, e349, hx349_0, hl349_0, hi349_0⟩ := at_L1 (Kd.S_reads' HO347.out).2.2 (ji10) p349 q349
                  obtain rfl : ad348 = ad349 := (by injection e349)
                  obtain ⟨ce349, hce349, hMe349, hcc349⟩ := Kd.S_get HO347.out [] (ji10) p349 (by first | exact q349 | exact of_decide_eq_true (by first | (with_reducible assumption) | assumption) | (have e_ := (Kd.S_reads' HO347.out).1; omega))
                  obtain ⟨ve349_0, rfl, ge349_0⟩ := hMe349
                  have hv349_0 := hcc349 0 _ rfl
                  rw [Nat.add_zero, show ((Kd.slice 3 (Kd.int .i64))).sz = 1 from rfl, Nat.mul_one] at hv349_0
                  replace hv349_0 := Option.some.inj (hv349_0.symm.trans hx349_0)
                  rw [hv349_0] at ge349_0
                  have HL349_0 := Aside0.mk (show Kd.R (Kd.int .i64) 3 _ _ _ _ (rd_L1 t344 (ji10)) from ge349_0)
                  clear hv349_0 ge349_0
                  clear hcc349 hce349
                  have HR349_0 := Aside0.mk hi349_0
                  have HC349_0 := Aside0.mk hl349_0
                  clear hi349_0 hl349_0
                  replace p349 := eq_true p349
                  replace q349 := eq_true q349
                  have ea_ := Option.some.inj (hx348_0.symm.trans hx349_0)
                  injection ea_ with ea_ en_ ec_
                  subst ea_
                  subst ec_
                  clear en_
                  have p350 : 0 ≤ ((ji10) : Int) := of_decide_eq_true (by first | (with_reducible assumption) | assumption)
                  have q350 : (ji10) < ((rd_L1 t344 (ji10)).length : Int) := of_decide_eq_true (by first | (with_reducible assumption) | assumption)
                  obtain ⟨ad350, e350, hx350_0⟩ := Kd.at_int (by repeat (first | (with_reducible exact HR349_0.out) | (with_reducible refine Kd.C_alloc ?_ _) | (with_reducible refine Kd.C_drewN ?_ _) | (with_reducible refine Kd.C_drew ?_) | exact HR349_0.out)) (ji10) p350 q350
                  cases e350
                  replace p350 := eq_true p350
                  replace q350 := eq_true q350
                  go_wp2
                  repeat (go_quiet (fail); try go_wp2)
                  (try simp only [← hji10])
                  go_meet
                  case rel => exact ⟨_, (((rd (rd_L1 t344 (ji10)) (ji10)) != t342)), (by first | rfl | (simp; done) | (simp only [← hji10] <;> (first | rfl | simp)) | (simp [*]; done)), (by first | exact H' | (have h_ := H'; simp only [← hji10] at h_ ⊢; exact h_)), ⟨by first | omega | exact Nat.le_refl _⟩, ⟨by (with_reducible repeat (first | apply Kd.S_alloc | apply Kd.S_drewN | apply Kd.S_drew)); exact HO347.out⟩, ⟨by repeat (first | (with_reducible first | exact HB.out | apply below_alloc | apply pw_below_drewN | apply below_drew1) | exact HB.out)⟩⟩
                · rw [if_neg c14] at H
                  exact absurd H (by simp)
              · rw [if_neg c13] at H
                have c13b0 : (((rd_L1 t344 (ji10)).length : Int) == (wrap64 ((ji10) + 1))) = false := beq_eq_false_iff_ne.mpr c13
                have c13b1 : (((rd_L1 t344 (ji10)).length : Int) != (wrap64 ((ji10) + 1))) = true := bne_iff_ne.mpr c13
                have H' := Aside0.mk H
                clear H
                obtain ⟨Ao16, co16, eo16⟩ := Kd.S_slice HO347.out
                subst eo16
                have p348 : 0 ≤ ((ji10) : Int) := of_decide_eq_true (by first | (with_reducible assumption) | assumption)
                have q348 : (ji10) < (t344.length : Int) := of_decide_eq_true (by first | (with_reducible assumption) | assumption)
                obtain ⟨ad348, A348_0, c348_0, e348, hx348_0, hl348_0, hi348_0⟩ := at_L1 (Kd.S_reads' HO347.out).2.2 (ji10) p348 q348
                cases e348
                obtain ⟨ce348, hce348, hMe348, hcc348⟩ := Kd.S_get HO347.out [] (ji10) p348 (by first | exact q348 | exact of_decide_eq_true (by first | (with_reducible assumption) | assumption) | (have e_ := (Kd.S_reads' HO347.out).1; omega))
                obtain ⟨ve348_0, rfl, ge348_0⟩ := hMe348
                have hv348_0 := hcc348 0 _ rfl
                rw [Nat.add_zero, show ((Kd.slice 3 (Kd.int .i64))).sz = 1 from rfl, Nat.mul_one] at hv348_0
                replace hv348_0 := Option.some.inj (hv348_0.symm.trans hx348_0)
                rw [hv348_0] at ge348_0
                have HL348_0 := Aside0.mk (show Kd.R (Kd.int .i64) 3 _ _ _ _ (rd_L1 t344 (ji10)) from ge348_0)
                clear hv348_0 ge348_0
                clear hcc348 hce348
                have HR348_0 := Aside0.mk hi348_0
                have HC348_0 := Aside0.mk hl348_0
                clear hi348_0 hl348_0
                replace p348 := eq_true p348
                replace q348 := eq_true q348
                go_wp2
                repeat (go_quiet (fail); try go_wp2)
                (try simp only [← hji10])
                go_meet
                case rel => exact ⟨_, (true), (by first | rfl | (simp; done) | (simp [*]; done)), (by first | exact H' | (have h_ := H'; simp only [← hji10] at h_ ⊢; exact h_)), ⟨by first | omega | exact Nat.le_refl _⟩, ⟨by (with_reducible repeat (first | apply Kd.S_alloc | apply Kd.S_drewN | apply Kd.S_drew)); exact HO347.out⟩, ⟨by repeat (first | (with_reducible first | exact HB.out | apply below_alloc | apply pw_below_drewN | apply below_drew1) | exact HB.out)⟩⟩
            · rw [if_neg c12] at H
              exact absurd H (by simp)
          · rw [if_neg c11] at H
            exact absurd H (by simp)
        · rw [if_neg c9] at H
          have c9b0 : ((t344.length : Int) == (wrap64 ((wrap64 (1 + (wrap64 (Int.tmod a0 10)))) + 1))) = false := beq_eq_false_iff_ne.mpr c9
          have c9b1 : ((t344.length : Int) != (wrap64 ((wrap64 (1 + (wrap64 (Int.tmod a0 10)))) + 1))) = true := bne_iff_ne.mpr c9
          have H' := Aside0.mk H
          clear H
          obtain ⟨Ao17, co17, eo17⟩ := Kd.S_slice HO347.out
          subst eo17
          go_wp2
          repeat (go_quiet (fail); try go_wp2)
          go_meet
          case rel => exact ⟨_, (true), (by first | rfl | (simp; done) | (simp [*]; done)), H', ⟨by first | omega | exact Nat.le_refl _⟩, ⟨by (with_reducible repeat (first | apply Kd.S_alloc | apply Kd.S_drewN | apply Kd.S_drew)); exact HO347.out⟩, ⟨by repeat (first | (with_reducible first | exact HB.out | apply below_alloc | apply pw_below_drewN | apply below_drew1) | exact HB.out)⟩⟩
      · rw [if_neg c8] at H
        have c8b0 : (t345 == 0) = false := beq_eq_false_iff_ne.mpr c8
        have c8b1 : (t345 != 0) = true := bne_iff_ne.mpr c8
        have H' := Aside0.mk H
        clear H
        go_wp2
        repeat (go_quiet (fail); try go_wp2)
        go_meet
        case rel => exact ⟨_, (true), (by first | rfl | (simp; done) | (simp [*]; done)), H', ⟨by first | omega | exact Nat.le_refl _⟩, ⟨by (with_reducible repeat (first | apply Kd.S_alloc | apply Kd.S_drewN | apply Kd.S_drew)); exact HO347.out⟩, ⟨by repeat (first | (with_reducible first | exact HB.out | apply below_alloc | apply pw_below_drewN | apply below_drew1) | exact HB.out)⟩⟩
    · rw [if_neg c7] at H
      have c7b0 : (t343 == 0) = false := beq_eq_false_iff_ne.mpr c7
      have c7b1 : (t343 != 0) = true := bne_iff_ne.mpr c7
      (first | rw [c7b0] | (simp only [i64_w, i32_w]; rw [c7b0]) | skip)
      have H' := Aside0.mk H
      clear H
      go_wp2
      repeat (go_quiet (fail); try go_wp2)
      go_meet
      case rel => exact ⟨_, (true), (by first | rfl | (simp; done) | (simp [*]; done)), H', ⟨by first | omega | exact Nat.le_refl _⟩, ⟨by (with_reducible repeat (first | apply Kd.S_alloc | apply Kd.S_drewN | apply Kd.S_drew)); exact HO347.out⟩, ⟨by repeat (first | (with_reducible first | exact HB.out | apply below_alloc | apply pw_below_drewN | apply below_drew1) | exact HB.out)⟩⟩
  case rest =>
    clear HC4
    try clear c1
    try clear p2
    try clear c3
    try clear p3
    try clear q3
    try clear hx3
    try clear p6
    try clear c7
    try clear c7b0
    try clear c7b1
    try clear c8
    try clear c8b0
    try clear c8b1
    try clear c9
    try clear c9b0
    try clear c9b1
    try clear c11
    try clear c11b0
    try clear c12
    try clear c12b0
    try clear c13
    try clear c13b0
    try clear c13b1
    try clear c14
    try clear c14b0
    try clear hx348_0
    try clear hx349_0
    try clear hx350_0
    try clear p348
    try clear p349
    try clear p350
    try clear q348
    try clear q349
    try clear q350
    obtain ⟨kq, x60_3, rfl, HA, HJ3, HO_6, HB⟩ := hcut
    cases kq with
    | zero => exact absurd HA.out (by simp [clochelaw05_WavesSeidel.j0])
    | succ kj3 =>
      have H := HA.out
      clear HA
      simp only [clochelaw05_WavesSeidel.j0] at H
      by_cases c18 : x60_3 = true
      · subst c18
        have H1 : (some false) = some r := by rw [if_pos rfl] at H; exact H
        clear H
        have H := H1
        clear H1
        obtain rfl := Option.some.inj H
        go_wp2
        repeat (go_quiet (fail); try go_wp2)
        go_ret
        exact ⟨by first | rfl | (simp [errW_none, errW_some] <;> rfl) | (simp [*, errW_none, errW_some] <;> rfl), by repeat (first | (with_reducible first | exact HB.out | apply below_alloc | apply pw_below_drewN | apply below_drew1) | exact HB.out)⟩
      · replace c18 := Bool.eq_false_iff.mpr c18
        subst c18
        have H1 : (clochelaw05_WavesSeidel.l0 kj3 (wrap64 (1 + (wrap64 (Int.tmod a0 10)))) t342 t344 0 1) = some r := by rw [if_neg (show ¬ (false = true) by decide)] at H; exact H
        clear H
        have H := H1
        clear H1
        have H' := Aside0.mk H
        clear H
        go_wp2
        repeat (go_quiet (fail); try go_wp2)
        go_loopg [8, 9] kj3 (fun kq v8 v9 w' => ∃ (x8_2 : Int) (x9_2 : Int), v8 = .int .i64 x8_2 ∧ v9 = .int .i64 x9_2 ∧ Aside0 (clochelaw05_WavesSeidel.l0 kq (wrap64 (1 + (wrap64 (Int.tmod a0 10)))) t342 t344 x8_2 x9_2 = some r) ∧ Aside0 (kq ≤ kj3) ∧ Aside0 (Kd.S (Kd.slice 3 (Kd.int .i64)) 27 w' w.heap.size (fun _ => True) v346 t344) ∧ Aside0 (Below w.heap.size w w'))
        case atStart => exact ⟨(0), (1), (by first | rfl | (simp; done) | (simp [*]; done)), (by first | rfl | (simp; done) | (simp [*]; done)), H', ⟨Nat.le_refl _⟩, ⟨by (with_reducible repeat (first | apply Kd.S_alloc | apply Kd.S_drewN | apply Kd.S_drew)); exact HO_6.out⟩, ⟨by repeat (first | (with_reducible first | exact HB.out | apply below_alloc | apply pw_below_drewN | apply below_drew1) | exact HB.out)⟩⟩
        case round =>
          clear H'
          try clear c1
          try clear p2
          try clear c3
          try clear p3
          try clear q3
          try clear hx3
          try clear p6
          try clear c7
          try clear c7b0
          try clear c7b1
          try clear c8
          try clear c8b0
          try clear c8b1
          try clear c9
          try clear c9b0
          try clear c9b1
          try clear c11
          try clear c11b0
          try clear c12
          try clear c12b0
          try clear c13
          try clear c13b0
          try clear c13b1
          try clear c14
          try clear c14b0
          try clear c18
          try clear hx348_0
          try clear hx349_0
          try clear hx350_0
          try clear p2
          try clear p3
          try clear p348
          try clear p349
          try clear p350
          try clear p6
          try clear q3
          try clear q348
          try clear q349
          try clear q350
          obtain ⟨x8_2, x9_2, rfl, rfl, HA, HK2, HO_6, HB⟩ := hrel
          cases gk with
          | zero => exact absurd HA.out (by simp [clochelaw05_WavesSeidel.l0])
          | succ k2 =>
            have H := HA.out
            clear HA
            simp only [clochelaw05_WavesSeidel.l0] at H
            by_cases c19 : x9_2 ≤ (wrap64 (1 + (wrap64 (Int.tmod a0 10))))
            · rw [if_pos c19] at H
              have c19b0 : decide (x9_2 ≤ (wrap64 (1 + (wrap64 (Int.tmod a0 10))))) = true := decide_eq_true c19
              clear c19
              replace H := Option.bind_eq_some_iff.mp H
              obtain ⟨⟨t351, t352⟩, A200, H⟩ := H
              replace H : (if t352 = 0 then (if 0 ≤ (wrap64 (1 + (wrap64 (Int.tmod a0 10)))) then (if (wrap64 (1 + (wrap64 (Int.tmod a0 10)))) < (t344.length : Int) then (if 0 ≤ x9_2 then (if x9_2 < ((rd_L1 t344 (wrap64 (1 + (wrap64 (Int.tmod a0 10))))).length : Int) then (if 0 ≤ (wrap64 (x9_2 - 1)) then (if (wrap64 (x9_2 - 1)) < ((rd_L1 t344 (wrap64 (1 + (wrap64 (Int.tmod a0 10))))).length : Int) then (if t351 = (wrap64 ((rd (rd_L1 t344 (wrap64 (1 + (wrap64 (Int.tmod a0 10))))) x9_2) - (rd (rd_L1 t344 (wrap64 (1 + (wrap64 (Int.tmod a0 10))))) (wrap64 (x9_2 - 1))))) then (clochelaw05_WavesSeidel.l0 k2 (wrap64 (1 + (wrap64 (Int.tmod a0 10)))) t342 t344 (wrap64 (x8_2 + t351)) (wrap64 (x9_2 + 1))) else (some false)) else (none)) else (none)) else (none)) else (none)) else (none)) else (none)) else (some false)) = some r := H
              have A20 := Aside0.mk A200
              clear A200
              by_cases c21 : t352 = 0
              · rw [if_pos c21] at H
                have c21b0 : (t352 == 0) = true := beq_iff_eq.mpr c21
                have c21b1 : (t352 != 0) = false := bne_eq_false_iff_eq.mpr c21
                clear c21
                obtain ⟨ji22, hji22⟩ : ∃ j_ : Int, (wrap64 (1 + (wrap64 (Int.tmod a0 10)))) = j_ := ⟨_, rfl⟩
                replace H : (if 0 ≤ (ji22) then (if (ji22) < (t344.length : Int) then (if 0 ≤ x9_2 then (if x9_2 < ((rd_L1 t344 (ji22)).length : Int) then (if 0 ≤ (wrap64 (x9_2 - 1)) then (if (wrap64 (x9_2 - 1)) < ((rd_L1 t344 (ji22)).length : Int) then (if t351 = (wrap64 ((rd (rd_L1 t344 (ji22)) x9_2) - (rd (rd_L1 t344 (ji22)) (wrap64 (x9_2 - 1))))) then (clochelaw05_WavesSeidel.l0 k2 (ji22) t342 t344 (wrap64 (x8_2 + t351)) (wrap64 (x9_2 + 1))) else (some false)) else (none)) else (none)) else (none)) else (none)) else (none)) else (none)) = some r := by first | (rw [hji22] at H; exact H) | (simp only [hji22] at H ⊢; exact H)
                (try rw [hji22] at c19b0)
                (try rw [hji22] at A20)
                have hji22w : (IntKind.i64.wrap (1 + (wrap64 (Int.tmod a0 10)))) = ji22 := (i64_w _).trans hji22
                by_cases c23 : 0 ≤ (ji22)
                · rw [if_pos c23] at H
                  have c23b0 : decide (0 ≤ (ji22)) = true := decide_eq_true c23
                  clear c23
                  by_cases c24 : (ji22) < (t344.length : Int)
                  · rw [if_pos c24] at H
                    have c24b0 : decide ((ji22) < (t344.length : Int)) = true := decide_eq_true c24
                    clear c24
                    by_cases c25 : 0 ≤ x9_2
                    · rw [if_pos c25] at H
                      have c25b0 : decide (0 ≤ x9_2) = true := decide_eq_true c25
                      clear c25
                      by_cases c26 : x9_2 < ((rd_L1 t344 (ji22)).length : Int)
                      · rw [if_pos c26] at H
                        have c26b0 : decide (x9_2 < ((rd_L1 t344 (ji22)).length : Int)) = true := decide_eq_true c26
                        clear c26
                        obtain ⟨ji27, hji27⟩ : ∃ j_ : Int, (wrap64 (x9_2 - 1)) = j_ := ⟨_, rfl⟩
                        replace H : (if 0 ≤ (ji27) then (if (ji27) < ((rd_L1 t344 (ji22)).length : Int) then (if t351 = (wrap64 ((rd (rd_L1 t344 (ji22)) x9_2) - (rd (rd_L1 t344 (ji22)) (ji27)))) then (clochelaw05_WavesSeidel.l0 k2 (ji22) t342 t344 (wrap64 (x8_2 + t351)) (wrap64 (x9_2 + 1))) else (some false)) else (none)) else (none)) = some r := by first | (rw [hji27] at H; exact H) | (simp only [hji27] at H ⊢; exact H)
                        (try rw [hji27] at A20)
                        have hji27w : (IntKind.i64.wrap (x9_2 - 1)) = ji27 := (i64_w _).trans hji27
                        by_cases c28 : 0 ≤ (ji27)
                        · rw [if_pos c28] at H
                          have c28b0 : decide (0 ≤ (ji27)) = true := decide_eq_true c28
                          clear c28
                          by_cases c29 : (ji27) < ((rd_L1 t344 (ji22)).length : Int)
                          · rw [if_pos c29] at H
                            have c29b0 : decide ((ji27) < ((rd_L1 t344 (ji22)).length : Int)) = true := decide_eq_true c29
                            clear c29
                            by_cases c30 : t351 = (wrap64 ((rd (rd_L1 t344 (ji22)) x9_2) - (rd (rd_L1 t344 (ji22)) (ji27))))
                            · rw [if_pos c30] at H
                              have c30b0 : (t351 == (wrap64 ((rd (rd_L1 t344 (ji22)) x9_2) - (rd (rd_L1 t344 (ji22)) (ji27))))) = true := beq_iff_eq.mpr c30
                              have c30b1 : (t351 != (wrap64 ((rd (rd_L1 t344 (ji22)) x9_2) - (rd (rd_L1 t344 (ji22)) (ji27))))) = false := bne_eq_false_iff_eq.mpr c30
                              clear c30
                              have H' := Aside0.mk H
                              clear H
                              go_wp2_with (first | (go_at_call 26; (with_reducible refine (waves_From.calls (ji22) x9_2 t351 t352 _ A20.out).mono ?_); rintro e w31 ⟨rfl, hb⟩; have n0_ := Aside0.mk (Kd.S_below (by (with_reducible repeat (first | apply Kd.S_alloc | apply Kd.S_drewN | apply Kd.S_drew)); exact HO_6.out) hb); have n1_ := Aside0.mk (below_step (by repeat (first | (with_reducible first | exact HB.out | apply below_alloc | apply pw_below_drewN | apply below_drew1) | exact HB.out)) hb); clear HO_6; clear HB; have HO_6 := n0_; have HB := n1_; clear n0_ n1_; (try clear hb); (try clear hb2); (try clear hk); (try clear hi); obtain ⟨Ao32, co32, eo32⟩ := Kd.S_slice HO_6.out; subst eo32; have p353 : 0 ≤ ((ji22) : Int) := of_decide_eq_true (by first | (with_reducible assumption) | assumption); have q353 : (ji22) < (t344.length : Int) := of_decide_eq_true (by first | (with_reducible assumption) | assumption); obtain ⟨ad353, A353_0, c353_0, e353, hx353_0, hl353_0, hi353_0⟩ := at_L1 (Kd.S_reads' HO_6.out).2.2 (ji22) p353 q353; cases e353; obtain ⟨ce353, hce353, hMe353, hcc353⟩ := Kd.S_get HO_6.out [] (ji22) p353 (by first | exact q353 | exact of_decide_eq_true (by first | (with_reducible assumption) | assumption) | (have e_ := (Kd.S_reads' HO_6.out).1; omega)); obtain ⟨ve353_0, rfl, ge353_0⟩ := hMe353; have hv353_0 := hcc353 0 _ rfl; rw [Nat.add_zero, show ((Kd.slice 3 (Kd.int .i64))).sz = 1 from rfl, Nat.mul_one] at hv353_0; replace hv353_0 := Option.some.inj (hv353_0.symm.trans hx353_0); rw [hv353_0] at ge353_0; have HL353_0 := Aside0.mk (show Kd.R (Kd.int .i64) 3 _ _ _ _ (rd_L1 t344 (ji22)) from ge353_0); clear hv353_0 ge353_0; clear hcc353 hce353; have HR353_0 := Aside0.mk hi353_0; have HC353_0 := Aside0.mk hl353_0; clear hi353_0 hl353_0; replace p353 := eq_true p353; replace q353 := eq_true q353; have p354 : 0 ≤ (x9_2 : Int) := of_decide_eq_true (by first | (with_reducible assumption) | assumption); have q354 : x9_2 < ((rd_L1 t344 (ji22)).length : Int) := of_decide_eq_true (by first | (with_reducible assumption) | assumption); obtain ⟨ad354, e354, hx354_0⟩ := Kd.at_int (by repeat (first | (with_reducible exact HR353_0.out) | (with_reducible refine Kd.C_alloc ?_ _) | (with_reducible refine Kd.C_drewN ?_ _) | (with_reducible refine Kd.C_drew ?_) | exact HR353_0.out)) x9_2 p354 q354; cases e354; replace p354 := eq_true p354; replace q354 := eq_true q354; have p355 : 0 ≤ ((ji22) : Int) := of_decide_eq_true (by first | (with_reducible assumption) | assumption); have q355 : (ji22) < (t344.length : Int) := of_decide_eq_true (by first | (with_reducible assumption) | assumption); obtain ⟨ad355, A355_0, c355_0, e355, hx355_0, hl355_0, hi355_0⟩ := at_L1 (Kd.S_reads' HO_6.out).2.2 (ji22) p355 q355; obtain rfl : ad353 = ad355 := (by injection e355); obtain ⟨ce355, hce355, hMe355, hcc355⟩ := Kd.S_get HO_6.out [] (ji22) p355 (by first | exact q355 | exact of_decide_eq_true (by first | (with_reducible assumption) | assumption) | (have e_ := (Kd.S_reads' HO_6.out).1; omega)); obtain ⟨ve355_0, rfl, ge355_0⟩ := hMe355; have hv355_0 := hcc355 0 _ rfl; rw [Nat.add_zero, show ((Kd.slice 3 (Kd.int .i64))).sz = 1 from rfl, Nat.mul_one] at hv355_0; replace hv355_0 := Option.some.inj (hv355_0.symm.trans hx355_0); rw [hv355_0] at ge355_0; have HL355_0 := Aside0.mk (show Kd.R (Kd.int .i64) 3 _ _ _ _ (rd_L1 t344 (ji22)) from ge355_0); clear hv355_0 ge355_0; clear hcc355 hce355; have HR355_0 := Aside0.mk hi355_0; have HC355_0 := Aside0.mk hl355_0; clear hi355_0 hl355_0; replace p355 := eq_true p355; replace q355 := eq_true q355; have ea_ := Option.some.inj (hx353_0.symm.trans hx355_0); injection ea_ with ea_ en_ ec_; subst ea_; subst ec_; clear en_; have p356 : 0 ≤ ((ji27) : Int) := of_decide_eq_true (by first | (with_reducible assumption) | assumption); have q356 : (ji27) < ((rd_L1 t344 (ji22)).length : Int) := of_decide_eq_true (by first | (with_reducible assumption) | assumption); obtain ⟨ad356, e356, hx356_0⟩ := Kd.at_int (by repeat (first | (with_reducible exact HR355_0.out) | (with_reducible refine Kd.C_alloc ?_ _) | (with_reducible refine Kd.C_drewN ?_ _) | (with_reducible refine Kd.C_drew ?_) | exact HR355_0.out)) (ji27) p356 q356; cases e356; replace p356 := eq_true p356; replace q356 := eq_true q356))
                              repeat (go_quiet (first | (go_at_call 26; (with_reducible refine (waves_From.calls (ji22) x9_2 t351 t352 _ A20.out).mono ?_); rintro e w31 ⟨rfl, hb⟩; have n0_ := Aside0.mk (Kd.S_below (by (with_reducible repeat (first | apply Kd.S_alloc | apply Kd.S_drewN | apply Kd.S_drew)); exact HO_6.out) hb); have n1_ := Aside0.mk (below_step (by repeat (first | (with_reducible first | exact HB.out | apply below_alloc | apply pw_below_drewN | apply below_drew1) | exact HB.out)) hb); clear HO_6; clear HB; have HO_6 := n0_; have HB := n1_; clear n0_ n1_; (try clear hb); (try clear hb2); (try clear hk); (try clear hi); obtain ⟨Ao32, co32, eo32⟩ := Kd.S_slice HO_6.out; subst eo32; have p353 : 0 ≤ ((ji22) : Int) := of_decide_eq_true (by first | (with_reducible assumption) | assumption); have q353 : (ji22) < (t344.length : Int) := of_decide_eq_true (by first | (with_reducible assumption) | assumption); obtain ⟨ad353, A353_0, c353_0, e353, hx353_0, hl353_0, hi353_0⟩ := at_L1 (Kd.S_reads' HO_6.out).2.2 (ji22) p353 q353; cases e353; obtain ⟨ce353, hce353, hMe353, hcc353⟩ := Kd.S_get HO_6.out [] (ji22) p353 (by first | exact q353 | exact of_decide_eq_true (by first | (with_reducible assumption) | assumption) | (have e_ := (Kd.S_reads' HO_6.out).1; omega)); obtain ⟨ve353_0, rfl, ge353_0⟩ := hMe353; have hv353_0 := hcc353 0 _ rfl; rw [Nat.add_zero, show ((Kd.slice 3 (Kd.int .i64))).sz = 1 from rfl, Nat.mul_one] at hv353_0; replace hv353_0 := Option.some.inj (hv353_0.symm.trans hx353_0); rw [hv353_0] at ge353_0; have HL353_0 := Aside0.mk (show Kd.R (Kd.int .i64) 3 _ _ _ _ (rd_L1 t344 (ji22)) from ge353_0); clear hv353_0 ge353_0; clear hcc353 hce353; have HR353_0 := Aside0.mk hi353_0; have HC353_0 := Aside0.mk hl353_0; clear hi353_0 hl353_0; replace p353 := eq_true p353; replace q353 := eq_true q353; have p354 : 0 ≤ (x9_2 : Int) := of_decide_eq_true (by first | (with_reducible assumption) | assumption); have q354 : x9_2 < ((rd_L1 t344 (ji22)).length : Int) := of_decide_eq_true (by first | (with_reducible assumption) | assumption); obtain ⟨ad354, e354, hx354_0⟩ := Kd.at_int (by repeat (first | (with_reducible exact HR353_0.out) | (with_reducible refine Kd.C_alloc ?_ _) | (with_reducible refine Kd.C_drewN ?_ _) | (with_reducible refine Kd.C_drew ?_) | exact HR353_0.out)) x9_2 p354 q354; cases e354; replace p354 := eq_true p354; replace q354 := eq_true q354; have p355 : 0 ≤ ((ji22) : Int) := of_decide_eq_true (by first | (with_reducible assumption) | assumption); have q355 : (ji22) < (t344.length : Int) := of_decide_eq_true (by first | (with_reducible assumption) | assumption); obtain ⟨ad355, A355_0, c355_0, e355, hx355_0, hl355_0, hi355_0⟩ := at_L1 (Kd.S_reads' HO_6.out).2.2 (ji22) p355 q355; obtain rfl : ad353 = ad355 := (by injection e355); obtain ⟨ce355, hce355, hMe355, hcc355⟩ := Kd.S_get HO_6.out [] (ji22) p355 (by first | exact q355 | exact of_decide_eq_true (by first | (with_reducible assumption) | assumption) | (have e_ := (Kd.S_reads' HO_6.out).1; omega)); obtain ⟨ve355_0, rfl, ge355_0⟩ := hMe355; have hv355_0 := hcc355 0 _ rfl; rw [Nat.add_zero, show ((Kd.slice 3 (Kd.int .i64))).sz = 1 from rfl, Nat.mul_one] at hv355_0; replace hv355_0 := Option.some.inj (hv355_0.symm.trans hx355_0); rw [hv355_0] at ge355_0; have HL355_0 := Aside0.mk (show Kd.R (Kd.int .i64) 3 _ _ _ _ (rd_L1 t344 (ji22)) from ge355_0); clear hv355_0 ge355_0; clear hcc355 hce355; have HR355_0 := Aside0.mk hi355_0; have HC355_0 := Aside0.mk hl355_0; clear hi355_0 hl355_0; replace p355 := eq_true p355; replace q355 := eq_true q355; have ea_ := Option.some.inj (hx353_0.symm.trans hx355_0); injection ea_ with ea_ en_ ec_; subst ea_; subst ec_; clear en_; have p356 : 0 ≤ ((ji27) : Int) := of_decide_eq_true (by first | (with_reducible assumption) | assumption); have q356 : (ji27) < ((rd_L1 t344 (ji22)).length : Int) := of_decide_eq_true (by first | (with_reducible assumption) | assumption); obtain ⟨ad356, e356, hx356_0⟩ := Kd.at_int (by repeat (first | (with_reducible exact HR355_0.out) | (with_reducible refine Kd.C_alloc ?_ _) | (with_reducible refine Kd.C_drewN ?_ _) | (with_reducible refine Kd.C_drew ?_) | exact HR355_0.out)) (ji27) p356 q356; cases e356; replace p356 := eq_true p356; replace q356 := eq_true q356)); try go_wp2_with (first | (go_at_call 26; (with_reducible refine (waves_From.calls (ji22) x9_2 t351 t352 _ A20.out).mono ?_); rintro e w31 ⟨rfl, hb⟩; have n0_ := Aside0.mk (Kd.S_below (by (with_reducible repeat (first | apply Kd.S_alloc | apply Kd.S_drewN | apply Kd.S_drew)); exact HO_6.out) hb); have n1_ := Aside0.mk (below_step (by repeat (first | (with_reducible first | exact HB.out | apply below_alloc | apply pw_below_drewN | apply below_drew1) | exact HB.out)) hb); clear HO_6; clear HB; have HO_6 := n0_; have HB := n1_; clear n0_ n1_; (try clear hb); (try clear hb2); (try clear hk); (try clear hi); obtain ⟨Ao32, co32, eo32⟩ := Kd.S_slice HO_6.out; subst eo32; have p353 : 0 ≤ ((ji22) : Int) := of_decide_eq_true (by first | (with_reducible assumption) | assumption); have q353 : (ji22) < (t344.length : Int) := of_decide_eq_true (by first | (with_reducible assumption) | assumption); obtain ⟨ad353, A353_0, c353_0, e353, hx353_0, hl353_0, hi353_0⟩ := at_L1 (Kd.S_reads' HO_6.out).2.2 (ji22) p353 q353; cases e353; obtain ⟨ce353, hce353, hMe353, hcc353⟩ := Kd.S_get HO_6.out [] (ji22) p353 (by first | exact q353 | exact of_decide_eq_true (by first | (with_reducible assumption) | assumption) | (have e_ := (Kd.S_reads' HO_6.out).1; omega)); obtain ⟨ve353_0, rfl, ge353_0⟩ := hMe353; have hv353_0 := hcc353 0 _ rfl; rw [Nat.add_zero, show ((Kd.slice 3 (Kd.int .i64))).sz = 1 from rfl, Nat.mul_one] at hv353_0; replace hv353_0 := Option.some.inj (hv353_0.symm.trans hx353_0); rw [hv353_0] at ge353_0; have HL353_0 := Aside0.mk (show Kd.R (Kd.int .i64) 3 _ _ _ _ (rd_L1 t344 (ji22)) from ge353_0); clear hv353_0 ge353_0; clear hcc353 hce353; have HR353_0 := Aside0.mk hi353_0; have HC353_0 := Aside0.mk hl353_0; clear hi353_0 hl353_0; replace p353 := eq_true p353; replace q353 := eq_true q353; have p354 : 0 ≤ (x9_2 : Int) := of_decide_eq_true (by first | (with_reducible assumption) | assumption); have q354 : x9_2 < ((rd_L1 t344 (ji22)).length : Int) := of_decide_eq_true (by first | (with_reducible assumption) | assumption); obtain ⟨ad354, e354, hx354_0⟩ := Kd.at_int (by repeat (first | (with_reducible exact HR353_0.out) | (with_reducible refine Kd.C_alloc ?_ _) | (with_reducible refine Kd.C_drewN ?_ _) | (with_reducible refine Kd.C_drew ?_) | exact HR353_0.out)) x9_2 p354 q354; cases e354; replace p354 := eq_true p354; replace q354 := eq_true q354; have p355 : 0 ≤ ((ji22) : Int) := of_decide_eq_true (by first | (with_reducible assumption) | assumption); have q355 : (ji22) < (t344.length : Int) := of_decide_eq_true (by first | (with_reducible assumption) | assumption); obtain ⟨ad355, A355_0, c355_0, e355, hx355_0, hl355_0, hi355_0⟩ := at_L1 (Kd.S_reads' HO_6.out).2.2 (ji22) p355 q355; obtain rfl : ad353 = ad355 := (by injection e355); obtain ⟨ce355, hce355, hMe355, hcc355⟩ := Kd.S_get HO_6.out [] (ji22) p355 (by first | exact q355 | exact of_decide_eq_true (by first | (with_reducible assumption) | assumption) | (have e_ := (Kd.S_reads' HO_6.out).1; omega)); obtain ⟨ve355_0, rfl, ge355_0⟩ := hMe355; have hv355_0 := hcc355 0 _ rfl; rw [Nat.add_zero, show ((Kd.slice 3 (Kd.int .i64))).sz = 1 from rfl, Nat.mul_one] at hv355_0; replace hv355_0 := Option.some.inj (hv355_0.symm.trans hx355_0); rw [hv355_0] at ge355_0; have HL355_0 := Aside0.mk (show Kd.R (Kd.int .i64) 3 _ _ _ _ (rd_L1 t344 (ji22)) from ge355_0); clear hv355_0 ge355_0; clear hcc355 hce355; have HR355_0 := Aside0.mk hi355_0; have HC355_0 := Aside0.mk hl355_0; clear hi355_0 hl355_0; replace p355 := eq_true p355; replace q355 := eq_true q355; have ea_ := Option.some.inj (hx353_0.symm.trans hx355_0); injection ea_ with ea_ en_ ec_; subst ea_; subst ec_; clear en_; have p356 : 0 ≤ ((ji27) : Int) := of_decide_eq_true (by first | (with_reducible assumption) | assumption); have q356 : (ji27) < ((rd_L1 t344 (ji22)).length : Int) := of_decide_eq_true (by first | (with_reducible assumption) | assumption); obtain ⟨ad356, e356, hx356_0⟩ := Kd.at_int (by repeat (first | (with_reducible exact HR355_0.out) | (with_reducible refine Kd.C_alloc ?_ _) | (with_reducible refine Kd.C_drewN ?_ _) | (with_reducible refine Kd.C_drew ?_) | exact HR355_0.out)) (ji27) p356 q356; cases e356; replace p356 := eq_true p356; replace q356 := eq_true q356)))
                              (try simp only [← hji22, ← hji27])
                              go_roundg k2
                              case measure => have := HJ3.out; have := HK2.out; omega
                              case rel => exact ⟨(wrap64 (x8_2 + t351)), (wrap64 (x9_2 + 1)), (by first | rfl | (simp; done) | (simp [*]; done)), (by first | rfl | (simp; done) | (simp [*]; done)), (by first | exact H' | (have h_ := H'; simp only [← hji22, ← hji27] at h_ ⊢; exact h_)), ⟨by have := HJ3.out; have := HK2.out; omega⟩, ⟨by (with_reducible repeat (first | apply Kd.S_alloc | apply Kd.S_drewN | apply Kd.S_drew)); exact HO_6.out⟩, ⟨by repeat (first | (with_reducible first | exact HB.out | apply below_alloc | apply pw_below_drewN | apply below_drew1) | exact HB.out)⟩⟩
                            · rw [if_neg c30] at H
                              have c30b0 : (t351 == (wrap64 ((rd (rd_L1 t344 (ji22)) x9_2) - (rd (rd_L1 t344 (ji22)) (ji27))))) = false := beq_eq_false_iff_ne.mpr c30
                              have c30b1 : (t351 != (wrap64 ((rd (rd_L1 t344 (ji22)) x9_2) - (rd (rd_L1 t344 (ji22)) (ji27))))) = true := bne_iff_ne.mpr c30
                              obtain rfl := Option.some.inj H
                              go_wp2_with (first | (go_at_call 26; (with_reducible refine (waves_From.calls (ji22) x9_2 t351 t352 _ A20.out).mono ?_); rintro e w33 ⟨rfl, hb⟩; have n0_ := Aside0.mk (Kd.S_below (by (with_reducible repeat (first | apply Kd.S_alloc | apply Kd.S_drewN | apply Kd.S_drew)); exact HO_6.out) hb); have n1_ := Aside0.mk (below_step (by repeat (first | (with_reducible first | exact HB.out | apply below_alloc | apply pw_below_drewN | apply below_drew1) | exact HB.out)) hb); clear HO_6; clear HB; have HO_6 := n0_; have HB := n1_; clear n0_ n1_; (try clear hb); (try clear hb2); (try clear hk); (try clear hi); obtain ⟨Ao34, co34, eo34⟩ := Kd.S_slice HO_6.out; subst eo34; have p353 : 0 ≤ ((ji22) : Int) := of_decide_eq_true (by first | (with_reducible assumption) | assumption); have q353 : (ji22) < (t344.length : Int) := of_decide_eq_true (by first | (with_reducible assumption) | assumption); obtain ⟨ad353, A353_0, c353_0, e353, hx353_0, hl353_0, hi353_0⟩ := at_L1 (Kd.S_reads' HO_6.out).2.2 (ji22) p353 q353; cases e353; obtain ⟨ce353, hce353, hMe353, hcc353⟩ := Kd.S_get HO_6.out [] (ji22) p353 (by first | exact q353 | exact of_decide_eq_true (by first | (with_reducible assumption) | assumption) | (have e_ := (Kd.S_reads' HO_6.out).1; omega)); obtain ⟨ve353_0, rfl, ge353_0⟩ := hMe353; have hv353_0 := hcc353 0 _ rfl; rw [Nat.add_zero, show ((Kd.slice 3 (Kd.int .i64))).sz = 1 from rfl, Nat.mul_one] at hv353_0; replace hv353_0 := Option.some.inj (hv353_0.symm.trans hx353_0); rw [hv353_0] at ge353_0; have HL353_0 := Aside0.mk (show Kd.R (Kd.int .i64) 3 _ _ _ _ (rd_L1 t344 (ji22)) from ge353_0); clear hv353_0 ge353_0; clear hcc353 hce353; have HR353_0 := Aside0.mk hi353_0; have HC353_0 := Aside0.mk hl353_0; clear hi353_0 hl353_0; replace p353 := eq_true p353; replace q353 := eq_true q353; have p354 : 0 ≤ (x9_2 : Int) := of_decide_eq_true (by first | (with_reducible assumption) | assumption); have q354 : x9_2 < ((rd_L1 t344 (ji22)).length : Int) := of_decide_eq_true (by first | (with_reducible assumption) | assumption); obtain ⟨ad354, e354, hx354_0⟩ := Kd.at_int (by repeat (first | (with_reducible exact HR353_0.out) | (with_reducible refine Kd.C_alloc ?_ _) | (with_reducible refine Kd.C_drewN ?_ _) | (with_reducible refine Kd.C_drew ?_) | exact HR353_0.out)) x9_2 p354 q354; cases e354; replace p354 := eq_true p354; replace q354 := eq_true q354; have p355 : 0 ≤ ((ji22) : Int) := of_decide_eq_true (by first | (with_reducible assumption) | assumption); have q355 : (ji22) < (t344.length : Int) := of_decide_eq_true (by first | (with_reducible assumption) | assumption); obtain ⟨ad355, A355_0, c355_0, e355, hx355_0, hl355_0, hi355_0⟩ := at_L1 (Kd.S_reads' HO_6.out).2.2 (ji22) p355 q355; obtain rfl : ad353 = ad355 := (by injection e355); obtain ⟨ce355, hce355, hMe355, hcc355⟩ := Kd.S_get HO_6.out [] (ji22) p355 (by first | exact q355 | exact of_decide_eq_true (by first | (with_reducible assumption) | assumption) | (have e_ := (Kd.S_reads' HO_6.out).1; omega)); obtain ⟨ve355_0, rfl, ge355_0⟩ := hMe355; have hv355_0 := hcc355 0 _ rfl; rw [Nat.add_zero, show ((Kd.slice 3 (Kd.int .i64))).sz = 1 from rfl, Nat.mul_one] at hv355_0; replace hv355_0 := Option.some.inj (hv355_0.symm.trans hx355_0); rw [hv355_0] at ge355_0; have HL355_0 := Aside0.mk (show Kd.R (Kd.int .i64) 3 _ _ _ _ (rd_L1 t344 (ji22)) from ge355_0); clear hv355_0 ge355_0; clear hcc355 hce355; have HR355_0 := Aside0.mk hi355_0; have HC355_0 := Aside0.mk hl355_0; clear hi355_0 hl355_0; replace p355 := eq_true p355; replace q355 := eq_true q355; have ea_ := Option.some.inj (hx353_0.symm.trans hx355_0); injection ea_ with ea_ en_ ec_; subst ea_; subst ec_; clear en_; have p356 : 0 ≤ ((ji27) : Int) := of_decide_eq_true (by first | (with_reducible assumption) | assumption); have q356 : (ji27) < ((rd_L1 t344 (ji22)).length : Int) := of_decide_eq_true (by first | (with_reducible assumption) | assumption); obtain ⟨ad356, e356, hx356_0⟩ := Kd.at_int (by repeat (first | (with_reducible exact HR355_0.out) | (with_reducible refine Kd.C_alloc ?_ _) | (with_reducible refine Kd.C_drewN ?_ _) | (with_reducible refine Kd.C_drew ?_) | exact HR355_0.out)) (ji27) p356 q356; cases e356; replace p356 := eq_true p356; replace q356 := eq_true q356))
                              repeat (go_quiet (first | (go_at_call 26; (with_reducible refine (waves_From.calls (ji22) x9_2 t351 t352 _ A20.out).mono ?_); rintro e w33 ⟨rfl, hb⟩; have n0_ := Aside0.mk (Kd.S_below (by (with_reducible repeat (first | apply Kd.S_alloc | apply Kd.S_drewN | apply Kd.S_drew)); exact HO_6.out) hb); have n1_ := Aside0.mk (below_step (by repeat (first | (with_reducible first | exact HB.out | apply below_alloc | apply pw_below_drewN | apply below_drew1) | exact HB.out)) hb); clear HO_6; clear HB; have HO_6 := n0_; have HB := n1_; clear n0_ n1_; (try clear hb); (try clear hb2); (try clear hk); (try clear hi); obtain ⟨Ao34, co34, eo34⟩ := Kd.S_slice HO_6.out; subst eo34; have p353 : 0 ≤ ((ji22) : Int) := of_decide_eq_true (by first | (with_reducible assumption) | assumption); have q353 : (ji22) < (t344.length : Int) := of_decide_eq_true (by first | (with_reducible assumption) | assumption); obtain ⟨ad353, A353_0, c353_0, e353, hx353_0, hl353_0, hi353_0⟩ := at_L1 (Kd.S_reads' HO_6.out).2.2 (ji22) p353 q353; cases e353; obtain ⟨ce353, hce353, hMe353, hcc353⟩ := Kd.S_get HO_6.out [] (ji22) p353 (by first | exact q353 | exact of_decide_eq_true (by first | (with_reducible assumption) | assumption) | (have e_ := (Kd.S_reads' HO_6.out).1; omega)); obtain ⟨ve353_0, rfl, ge353_0⟩ := hMe353; have hv353_0 := hcc353 0 _ rfl; rw [Nat.add_zero, show ((Kd.slice 3 (Kd.int .i64))).sz = 1 from rfl, Nat.mul_one] at hv353_0; replace hv353_0 := Option.some.inj (hv353_0.symm.trans hx353_0); rw [hv353_0] at ge353_0; have HL353_0 := Aside0.mk (show Kd.R (Kd.int .i64) 3 _ _ _ _ (rd_L1 t344 (ji22)) from ge353_0); clear hv353_0 ge353_0; clear hcc353 hce353; have HR353_0 := Aside0.mk hi353_0; have HC353_0 := Aside0.mk hl353_0; clear hi353_0 hl353_0; replace p353 := eq_true p353; replace q353 := eq_true q353; have p354 : 0 ≤ (x9_2 : Int) := of_decide_eq_true (by first | (with_reducible assumption) | assumption); have q354 : x9_2 < ((rd_L1 t344 (ji22)).length : Int) := of_decide_eq_true (by first | (with_reducible assumption) | assumption); obtain ⟨ad354, e354, hx354_0⟩ := Kd.at_int (by repeat (first | (with_reducible exact HR353_0.out) | (with_reducible refine Kd.C_alloc ?_ _) | (with_reducible refine Kd.C_drewN ?_ _) | (with_reducible refine Kd.C_drew ?_) | exact HR353_0.out)) x9_2 p354 q354; cases e354; replace p354 := eq_true p354; replace q354 := eq_true q354; have p355 : 0 ≤ ((ji22) : Int) := of_decide_eq_true (by first | (with_reducible assumption) | assumption); have q355 : (ji22) < (t344.length : Int) := of_decide_eq_true (by first | (with_reducible assumption) | assumption); obtain ⟨ad355, A355_0, c355_0, e355, hx355_0, hl355_0, hi355_0⟩ := at_L1 (Kd.S_reads' HO_6.out).2.2 (ji22) p355 q355; obtain rfl : ad353 = ad355 := (by injection e355); obtain ⟨ce355, hce355, hMe355, hcc355⟩ := Kd.S_get HO_6.out [] (ji22) p355 (by first | exact q355 | exact of_decide_eq_true (by first | (with_reducible assumption) | assumption) | (have e_ := (Kd.S_reads' HO_6.out).1; omega)); obtain ⟨ve355_0, rfl, ge355_0⟩ := hMe355; have hv355_0 := hcc355 0 _ rfl; rw [Nat.add_zero, show ((Kd.slice 3 (Kd.int .i64))).sz = 1 from rfl, Nat.mul_one] at hv355_0; replace hv355_0 := Option.some.inj (hv355_0.symm.trans hx355_0); rw [hv355_0] at ge355_0; have HL355_0 := Aside0.mk (show Kd.R (Kd.int .i64) 3 _ _ _ _ (rd_L1 t344 (ji22)) from ge355_0); clear hv355_0 ge355_0; clear hcc355 hce355; have HR355_0 := Aside0.mk hi355_0; have HC355_0 := Aside0.mk hl355_0; clear hi355_0 hl355_0; replace p355 := eq_true p355; replace q355 := eq_true q355; have ea_ := Option.some.inj (hx353_0.symm.trans hx355_0); injection ea_ with ea_ en_ ec_; subst ea_; subst ec_; clear en_; have p356 : 0 ≤ ((ji27) : Int) := of_decide_eq_true (by first | (with_reducible assumption) | assumption); have q356 : (ji27) < ((rd_L1 t344 (ji22)).length : Int) := of_decide_eq_true (by first | (with_reducible assumption) | assumption); obtain ⟨ad356, e356, hx356_0⟩ := Kd.at_int (by repeat (first | (with_reducible exact HR355_0.out) | (with_reducible refine Kd.C_alloc ?_ _) | (with_reducible refine Kd.C_drewN ?_ _) | (with_reducible refine Kd.C_drew ?_) | exact HR355_0.out)) (ji27) p356 q356; cases e356; replace p356 := eq_true p356; replace q356 := eq_true q356)); try go_wp2_with (first | (go_at_call 26; (with_reducible refine (waves_From.calls (ji22) x9_2 t351 t352 _ A20.out).mono ?_); rintro e w33 ⟨rfl, hb⟩; have n0_ := Aside0.mk (Kd.S_below (by (with_reducible repeat (first | apply Kd.S_alloc | apply Kd.S_drewN | apply Kd.S_drew)); exact HO_6.out) hb); have n1_ := Aside0.mk (below_step (by repeat (first | (with_reducible first | exact HB.out | apply below_alloc | apply pw_below_drewN | apply below_drew1) | exact HB.out)) hb); clear HO_6; clear HB; have HO_6 := n0_; have HB := n1_; clear n0_ n1_; (try clear hb); (try clear hb2); (try clear hk); (try clear hi); obtain ⟨Ao34, co34, eo34⟩ := Kd.S_slice HO_6.out; subst eo34; have p353 : 0 ≤ ((ji22) : Int) := of_decide_eq_true (by first | (with_reducible assumption) | assumption); have q353 : (ji22) < (t344.length : Int) := of_decide_eq_true (by first | (with_reducible assumption) | assumption); obtain ⟨ad353, A353_0, c353_0, e353, hx353_0, hl353_0, hi353_0⟩ := at_L1 (Kd.S_reads' HO_6.out).2.2 (ji22) p353 q353; cases e353; obtain ⟨ce353, hce353, hMe353, hcc353⟩ := Kd.S_get HO_6.out [] (ji22) p353 (by first | exact q353 | exact of_decide_eq_true (by first | (with_reducible assumption) | assumption) | (have e_ := (Kd.S_reads' HO_6.out).1; omega)); obtain ⟨ve353_0, rfl, ge353_0⟩ := hMe353; have hv353_0 := hcc353 0 _ rfl; rw [Nat.add_zero, show ((Kd.slice 3 (Kd.int .i64))).sz = 1 from rfl, Nat.mul_one] at hv353_0; replace hv353_0 := Option.some.inj (hv353_0.symm.trans hx353_0); rw [hv353_0] at ge353_0; have HL353_0 := Aside0.mk (show Kd.R (Kd.int .i64) 3 _ _ _ _ (rd_L1 t344 (ji22)) from ge353_0); clear hv353_0 ge353_0; clear hcc353 hce353; have HR353_0 := Aside0.mk hi353_0; have HC353_0 := Aside0.mk hl353_0; clear hi353_0 hl353_0; replace p353 := eq_true p353; replace q353 := eq_true q353; have p354 : 0 ≤ (x9_2 : Int) := of_decide_eq_true (by first | (with_reducible assumption) | assumption); have q354 : x9_2 < ((rd_L1 t344 (ji22)).length : Int) := of_decide_eq_true (by first | (with_reducible assumption) | assumption); obtain ⟨ad354, e354, hx354_0⟩ := Kd.at_int (by repeat (first | (with_reducible exact HR353_0.out) | (with_reducible refine Kd.C_alloc ?_ _) | (with_reducible refine Kd.C_drewN ?_ _) | (with_reducible refine Kd.C_drew ?_) | exact HR353_0.out)) x9_2 p354 q354; cases e354; replace p354 := eq_true p354; replace q354 := eq_true q354; have p355 : 0 ≤ ((ji22) : Int) := of_decide_eq_true (by first | (with_reducible assumption) | assumption); have q355 : (ji22) < (t344.length : Int) := of_decide_eq_true (by first | (with_reducible assumption) | assumption); obtain ⟨ad355, A355_0, c355_0, e355, hx355_0, hl355_0, hi355_0⟩ := at_L1 (Kd.S_reads' HO_6.out).2.2 (ji22) p355 q355; obtain rfl : ad353 = ad355 := (by injection e355); obtain ⟨ce355, hce355, hMe355, hcc355⟩ := Kd.S_get HO_6.out [] (ji22) p355 (by first | exact q355 | exact of_decide_eq_true (by first | (with_reducible assumption) | assumption) | (have e_ := (Kd.S_reads' HO_6.out).1; omega)); obtain ⟨ve355_0, rfl, ge355_0⟩ := hMe355; have hv355_0 := hcc355 0 _ rfl; rw [Nat.add_zero, show ((Kd.slice 3 (Kd.int .i64))).sz = 1 from rfl, Nat.mul_one] at hv355_0; replace hv355_0 := Option.some.inj (hv355_0.symm.trans hx355_0); rw [hv355_0] at ge355_0; have HL355_0 := Aside0.mk (show Kd.R (Kd.int .i64) 3 _ _ _ _ (rd_L1 t344 (ji22)) from ge355_0); clear hv355_0 ge355_0; clear hcc355 hce355; have HR355_0 := Aside0.mk hi355_0; have HC355_0 := Aside0.mk hl355_0; clear hi355_0 hl355_0; replace p355 := eq_true p355; replace q355 := eq_true q355; have ea_ := Option.some.inj (hx353_0.symm.trans hx355_0); injection ea_ with ea_ en_ ec_; subst ea_; subst ec_; clear en_; have p356 : 0 ≤ ((ji27) : Int) := of_decide_eq_true (by first | (with_reducible assumption) | assumption); have q356 : (ji27) < ((rd_L1 t344 (ji22)).length : Int) := of_decide_eq_true (by first | (with_reducible assumption) | assumption); obtain ⟨ad356, e356, hx356_0⟩ := Kd.at_int (by repeat (first | (with_reducible exact HR355_0.out) | (with_reducible refine Kd.C_alloc ?_ _) | (with_reducible refine Kd.C_drewN ?_ _) | (with_reducible refine Kd.C_drew ?_) | exact HR355_0.out)) (ji27) p356 q356; cases e356; replace p356 := eq_true p356; replace q356 := eq_true q356)))
                              go_ret
                              exact ⟨by first | rfl | (simp [errW_none, errW_some] <;> rfl) | (simp only [← hji22, ← hji27]; first | rfl | (simp [errW_none, errW_some] <;> rfl)) | (simp [*, errW_none, errW_some] <;> rfl), by repeat (first | (with_reducible first | exact HB.out | apply below_alloc | apply pw_below_drewN | apply below_drew1) | exact HB.out)⟩
                          · rw [if_neg c29] at H
                            exact absurd H (by simp)
                        · rw [if_neg c28] at H
                          exact absurd H (by simp)
                      · rw [if_neg c26] at H
                        exact absurd H (by simp)
                    · rw [if_neg c25] at H
                      exact absurd H (by simp)
                  · rw [if_neg c24] at H
                    exact absurd H (by simp)
                · rw [if_neg c23] at H
                  exact absurd H (by simp)
              · rw [if_neg c21] at H
                have c21b0 : (t352 == 0) = false := beq_eq_false_iff_ne.mpr c21
                have c21b1 : (t352 != 0) = true := bne_iff_ne.mpr c21
                obtain rfl := Option.some.inj H
                go_wp2_with (first | (go_at_call 26; (with_reducible refine (waves_From.calls (wrap64 (1 + (wrap64 (Int.tmod a0 10)))) x9_2 t351 t352 _ A20.out).mono ?_); rintro e w35 ⟨rfl, hb⟩; have n0_ := Aside0.mk (Kd.S_below (by (with_reducible repeat (first | apply Kd.S_alloc | apply Kd.S_drewN | apply Kd.S_drew)); exact HO_6.out) hb); have n1_ := Aside0.mk (below_step (by repeat (first | (with_reducible first | exact HB.out | apply below_alloc | apply pw_below_drewN | apply below_drew1) | exact HB.out)) hb); clear HO_6; clear HB; have HO_6 := n0_; have HB := n1_; clear n0_ n1_; (try clear hb); (try clear hb2); (try clear hk); (try clear hi)))
                repeat (go_quiet (first | (go_at_call 26; (with_reducible refine (waves_From.calls (wrap64 (1 + (wrap64 (Int.tmod a0 10)))) x9_2 t351 t352 _ A20.out).mono ?_); rintro e w35 ⟨rfl, hb⟩; have n0_ := Aside0.mk (Kd.S_below (by (with_reducible repeat (first | apply Kd.S_alloc | apply Kd.S_drewN | apply Kd.S_drew)); exact HO_6.out) hb); have n1_ := Aside0.mk (below_step (by repeat (first | (with_reducible first | exact HB.out | apply below_alloc | apply pw_below_drewN | apply below_drew1) | exact HB.out)) hb); clear HO_6; clear HB; have HO_6 := n0_; have HB := n1_; clear n0_ n1_; (try clear hb); (try clear hb2); (try clear hk); (try clear hi))); try go_wp2_with (first | (go_at_call 26; (with_reducible refine (waves_From.calls (wrap64 (1 + (wrap64 (Int.tmod a0 10)))) x9_2 t351 t352 _ A20.out).mono ?_); rintro e w35 ⟨rfl, hb⟩; have n0_ := Aside0.mk (Kd.S_below (by (with_reducible repeat (first | apply Kd.S_alloc | apply Kd.S_drewN | apply Kd.S_drew)); exact HO_6.out) hb); have n1_ := Aside0.mk (below_step (by repeat (first | (with_reducible first | exact HB.out | apply below_alloc | apply pw_below_drewN | apply below_drew1) | exact HB.out)) hb); clear HO_6; clear HB; have HO_6 := n0_; have HB := n1_; clear n0_ n1_; (try clear hb); (try clear hb2); (try clear hk); (try clear hi))))
                go_ret
                exact ⟨by first | rfl | (simp [errW_none, errW_some] <;> rfl) | (simp [*, errW_none, errW_some] <;> rfl), by repeat (first | (with_reducible first | exact HB.out | apply below_alloc | apply pw_below_drewN | apply below_drew1) | exact HB.out)⟩
            · rw [if_neg c19] at H
              have c19b0 : decide (x9_2 ≤ (wrap64 (1 + (wrap64 (Int.tmod a0 10))))) = false := decide_eq_false c19
              clear c19
              replace H := Option.bind_eq_some_iff.mp H
              obtain ⟨⟨t357, t358⟩, A360, H⟩ := H
              replace H : (if t358 = 0 then (if t357 = 1 then (if x8_2 = t342 then ((clochelaw05_alive.f k2).bind fun t359 => (some t359)) else (some false)) else (some false)) else (some false)) = some r := H
              have A36 := Aside0.mk A360
              clear A360
              by_cases c37 : t358 = 0
              · rw [if_pos c37] at H
                have c37b0 : (t358 == 0) = true := beq_iff_eq.mpr c37
                have c37b1 : (t358 != 0) = false := bne_eq_false_iff_eq.mpr c37
                clear c37
                by_cases c38 : t357 = 1
                · rw [if_pos c38] at H
                  have c38b0 : (t357 == 1) = true := beq_iff_eq.mpr c38
                  have c38b1 : (t357 != 1) = false := bne_eq_false_iff_eq.mpr c38
                  clear c38
                  by_cases c39 : x8_2 = t342
                  · rw [if_pos c39] at H
                    have c39b0 : (x8_2 == t342) = true := beq_iff_eq.mpr c39
                    have c39b1 : (x8_2 != t342) = false := bne_eq_false_iff_eq.mpr c39
                    clear c39
                    replace H := Option.bind_eq_some_iff.mp H
                    obtain ⟨t359, A400, H⟩ := H
                    replace H : (some t359) = some r := H
                    have A40 := Aside0.mk A400
                    clear A400
                    obtain rfl := Option.some.inj H
                    go_wp2_with (first | (go_at_call 22; (with_reducible refine (waves_Count.calls 0 t357 t358 _ A36.out).mono ?_); rintro e w41 ⟨rfl, hb⟩; have n0_ := Aside0.mk (Kd.S_below (by (with_reducible repeat (first | apply Kd.S_alloc | apply Kd.S_drewN | apply Kd.S_drew)); exact HO_6.out) hb); have n1_ := Aside0.mk (below_step (by repeat (first | (with_reducible first | exact HB.out | apply below_alloc | apply pw_below_drewN | apply below_drew1) | exact HB.out)) hb); clear HO_6; clear HB; have HO_6 := n0_; have HB := n1_; clear n0_ n1_; (try clear hb); (try clear hb2); (try clear hk); (try clear hi)) | (go_at_call 17; (with_reducible refine (clochelaw05_alive.calls k2  t359 _ A40.out).mono ?_); rintro e w42 ⟨rfl, hb⟩; have n0_ := Aside0.mk (Kd.S_below (by (with_reducible repeat (first | apply Kd.S_alloc | apply Kd.S_drewN | apply Kd.S_drew)); exact HO_6.out) hb); have n1_ := Aside0.mk (below_step (by repeat (first | (with_reducible first | exact HB.out | apply below_alloc | apply pw_below_drewN | apply below_drew1) | exact HB.out)) hb); clear HO_6; clear HB; have HO_6 := n0_; have HB := n1_; clear n0_ n1_; (try clear hb); (try clear hb2); (try clear hk); (try clear hi)))
                    repeat (go_quiet (first | (go_at_call 22; (with_reducible refine (waves_Count.calls 0 t357 t358 _ A36.out).mono ?_); rintro e w41 ⟨rfl, hb⟩; have n0_ := Aside0.mk (Kd.S_below (by (with_reducible repeat (first | apply Kd.S_alloc | apply Kd.S_drewN | apply Kd.S_drew)); exact HO_6.out) hb); have n1_ := Aside0.mk (below_step (by repeat (first | (with_reducible first | exact HB.out | apply below_alloc | apply pw_below_drewN | apply below_drew1) | exact HB.out)) hb); clear HO_6; clear HB; have HO_6 := n0_; have HB := n1_; clear n0_ n1_; (try clear hb); (try clear hb2); (try clear hk); (try clear hi)) | (go_at_call 17; (with_reducible refine (clochelaw05_alive.calls k2  t359 _ A40.out).mono ?_); rintro e w42 ⟨rfl, hb⟩; have n0_ := Aside0.mk (Kd.S_below (by (with_reducible repeat (first | apply Kd.S_alloc | apply Kd.S_drewN | apply Kd.S_drew)); exact HO_6.out) hb); have n1_ := Aside0.mk (below_step (by repeat (first | (with_reducible first | exact HB.out | apply below_alloc | apply pw_below_drewN | apply below_drew1) | exact HB.out)) hb); clear HO_6; clear HB; have HO_6 := n0_; have HB := n1_; clear n0_ n1_; (try clear hb); (try clear hb2); (try clear hk); (try clear hi))); try go_wp2_with (first | (go_at_call 22; (with_reducible refine (waves_Count.calls 0 t357 t358 _ A36.out).mono ?_); rintro e w41 ⟨rfl, hb⟩; have n0_ := Aside0.mk (Kd.S_below (by (with_reducible repeat (first | apply Kd.S_alloc | apply Kd.S_drewN | apply Kd.S_drew)); exact HO_6.out) hb); have n1_ := Aside0.mk (below_step (by repeat (first | (with_reducible first | exact HB.out | apply below_alloc | apply pw_below_drewN | apply below_drew1) | exact HB.out)) hb); clear HO_6; clear HB; have HO_6 := n0_; have HB := n1_; clear n0_ n1_; (try clear hb); (try clear hb2); (try clear hk); (try clear hi)) | (go_at_call 17; (with_reducible refine (clochelaw05_alive.calls k2  t359 _ A40.out).mono ?_); rintro e w42 ⟨rfl, hb⟩; have n0_ := Aside0.mk (Kd.S_below (by (with_reducible repeat (first | apply Kd.S_alloc | apply Kd.S_drewN | apply Kd.S_drew)); exact HO_6.out) hb); have n1_ := Aside0.mk (below_step (by repeat (first | (with_reducible first | exact HB.out | apply below_alloc | apply pw_below_drewN | apply below_drew1) | exact HB.out)) hb); clear HO_6; clear HB; have HO_6 := n0_; have HB := n1_; clear n0_ n1_; (try clear hb); (try clear hb2); (try clear hk); (try clear hi))))
                    go_ret
                    exact ⟨by first | rfl | (simp [errW_none, errW_some] <;> rfl) | (simp [*, errW_none, errW_some] <;> rfl), by repeat (first | (with_reducible first | exact HB.out | apply below_alloc | apply pw_below_drewN | apply below_drew1) | exact HB.out)⟩
                  · rw [if_neg c39] at H
                    have c39b0 : (x8_2 == t342) = false := beq_eq_false_iff_ne.mpr c39
                    have c39b1 : (x8_2 != t342) = true := bne_iff_ne.mpr c39
                    obtain rfl := Option.some.inj H
                    go_wp2_with (first | (go_at_call 22; (with_reducible refine (waves_Count.calls 0 t357 t358 _ A36.out).mono ?_); rintro e w43 ⟨rfl, hb⟩; have n0_ := Aside0.mk (Kd.S_below (by (with_reducible repeat (first | apply Kd.S_alloc | apply Kd.S_drewN | apply Kd.S_drew)); exact HO_6.out) hb); have n1_ := Aside0.mk (below_step (by repeat (first | (with_reducible first | exact HB.out | apply below_alloc | apply pw_below_drewN | apply below_drew1) | exact HB.out)) hb); clear HO_6; clear HB; have HO_6 := n0_; have HB := n1_; clear n0_ n1_; (try clear hb); (try clear hb2); (try clear hk); (try clear hi)))
                    repeat (go_quiet (first | (go_at_call 22; (with_reducible refine (waves_Count.calls 0 t357 t358 _ A36.out).mono ?_); rintro e w43 ⟨rfl, hb⟩; have n0_ := Aside0.mk (Kd.S_below (by (with_reducible repeat (first | apply Kd.S_alloc | apply Kd.S_drewN | apply Kd.S_drew)); exact HO_6.out) hb); have n1_ := Aside0.mk (below_step (by repeat (first | (with_reducible first | exact HB.out | apply below_alloc | apply pw_below_drewN | apply below_drew1) | exact HB.out)) hb); clear HO_6; clear HB; have HO_6 := n0_; have HB := n1_; clear n0_ n1_; (try clear hb); (try clear hb2); (try clear hk); (try clear hi))); try go_wp2_with (first | (go_at_call 22; (with_reducible refine (waves_Count.calls 0 t357 t358 _ A36.out).mono ?_); rintro e w43 ⟨rfl, hb⟩; have n0_ := Aside0.mk (Kd.S_below (by (with_reducible repeat (first | apply Kd.S_alloc | apply Kd.S_drewN | apply Kd.S_drew)); exact HO_6.out) hb); have n1_ := Aside0.mk (below_step (by repeat (first | (with_reducible first | exact HB.out | apply below_alloc | apply pw_below_drewN | apply below_drew1) | exact HB.out)) hb); clear HO_6; clear HB; have HO_6 := n0_; have HB := n1_; clear n0_ n1_; (try clear hb); (try clear hb2); (try clear hk); (try clear hi))))
                    go_ret
                    exact ⟨by first | rfl | (simp [errW_none, errW_some] <;> rfl) | (simp [*, errW_none, errW_some] <;> rfl), by repeat (first | (with_reducible first | exact HB.out | apply below_alloc | apply pw_below_drewN | apply below_drew1) | exact HB.out)⟩
                · rw [if_neg c38] at H
                  have c38b0 : (t357 == 1) = false := beq_eq_false_iff_ne.mpr c38
                  have c38b1 : (t357 != 1) = true := bne_iff_ne.mpr c38
                  obtain rfl := Option.some.inj H
                  go_wp2_with (first | (go_at_call 22; (with_reducible refine (waves_Count.calls 0 t357 t358 _ A36.out).mono ?_); rintro e w44 ⟨rfl, hb⟩; have n0_ := Aside0.mk (Kd.S_below (by (with_reducible repeat (first | apply Kd.S_alloc | apply Kd.S_drewN | apply Kd.S_drew)); exact HO_6.out) hb); have n1_ := Aside0.mk (below_step (by repeat (first | (with_reducible first | exact HB.out | apply below_alloc | apply pw_below_drewN | apply below_drew1) | exact HB.out)) hb); clear HO_6; clear HB; have HO_6 := n0_; have HB := n1_; clear n0_ n1_; (try clear hb); (try clear hb2); (try clear hk); (try clear hi)))
                  repeat (go_quiet (first | (go_at_call 22; (with_reducible refine (waves_Count.calls 0 t357 t358 _ A36.out).mono ?_); rintro e w44 ⟨rfl, hb⟩; have n0_ := Aside0.mk (Kd.S_below (by (with_reducible repeat (first | apply Kd.S_alloc | apply Kd.S_drewN | apply Kd.S_drew)); exact HO_6.out) hb); have n1_ := Aside0.mk (below_step (by repeat (first | (with_reducible first | exact HB.out | apply below_alloc | apply pw_below_drewN | apply below_drew1) | exact HB.out)) hb); clear HO_6; clear HB; have HO_6 := n0_; have HB := n1_; clear n0_ n1_; (try clear hb); (try clear hb2); (try clear hk); (try clear hi))); try go_wp2_with (first | (go_at_call 22; (with_reducible refine (waves_Count.calls 0 t357 t358 _ A36.out).mono ?_); rintro e w44 ⟨rfl, hb⟩; have n0_ := Aside0.mk (Kd.S_below (by (with_reducible repeat (first | apply Kd.S_alloc | apply Kd.S_drewN | apply Kd.S_drew)); exact HO_6.out) hb); have n1_ := Aside0.mk (below_step (by repeat (first | (with_reducible first | exact HB.out | apply below_alloc | apply pw_below_drewN | apply below_drew1) | exact HB.out)) hb); clear HO_6; clear HB; have HO_6 := n0_; have HB := n1_; clear n0_ n1_; (try clear hb); (try clear hb2); (try clear hk); (try clear hi))))
                  go_ret
                  exact ⟨by first | rfl | (simp [errW_none, errW_some] <;> rfl) | (simp [*, errW_none, errW_some] <;> rfl), by repeat (first | (with_reducible first | exact HB.out | apply below_alloc | apply pw_below_drewN | apply below_drew1) | exact HB.out)⟩
              · rw [if_neg c37] at H
                have c37b0 : (t358 == 0) = false := beq_eq_false_iff_ne.mpr c37
                have c37b1 : (t358 != 0) = true := bne_iff_ne.mpr c37
                obtain rfl := Option.some.inj H
                go_wp2_with (first | (go_at_call 22; (with_reducible refine (waves_Count.calls 0 t357 t358 _ A36.out).mono ?_); rintro e w45 ⟨rfl, hb⟩; have n0_ := Aside0.mk (Kd.S_below (by (with_reducible repeat (first | apply Kd.S_alloc | apply Kd.S_drewN | apply Kd.S_drew)); exact HO_6.out) hb); have n1_ := Aside0.mk (below_step (by repeat (first | (with_reducible first | exact HB.out | apply below_alloc | apply pw_below_drewN | apply below_drew1) | exact HB.out)) hb); clear HO_6; clear HB; have HO_6 := n0_; have HB := n1_; clear n0_ n1_; (try clear hb); (try clear hb2); (try clear hk); (try clear hi)))
                repeat (go_quiet (first | (go_at_call 22; (with_reducible refine (waves_Count.calls 0 t357 t358 _ A36.out).mono ?_); rintro e w45 ⟨rfl, hb⟩; have n0_ := Aside0.mk (Kd.S_below (by (with_reducible repeat (first | apply Kd.S_alloc | apply Kd.S_drewN | apply Kd.S_drew)); exact HO_6.out) hb); have n1_ := Aside0.mk (below_step (by repeat (first | (with_reducible first | exact HB.out | apply below_alloc | apply pw_below_drewN | apply below_drew1) | exact HB.out)) hb); clear HO_6; clear HB; have HO_6 := n0_; have HB := n1_; clear n0_ n1_; (try clear hb); (try clear hb2); (try clear hk); (try clear hi))); try go_wp2_with (first | (go_at_call 22; (with_reducible refine (waves_Count.calls 0 t357 t358 _ A36.out).mono ?_); rintro e w45 ⟨rfl, hb⟩; have n0_ := Aside0.mk (Kd.S_below (by (with_reducible repeat (first | apply Kd.S_alloc | apply Kd.S_drewN | apply Kd.S_drew)); exact HO_6.out) hb); have n1_ := Aside0.mk (below_step (by repeat (first | (with_reducible first | exact HB.out | apply below_alloc | apply pw_below_drewN | apply below_drew1) | exact HB.out)) hb); clear HO_6; clear HB; have HO_6 := n0_; have HB := n1_; clear n0_ n1_; (try clear hb); (try clear hb2); (try clear hk); (try clear hi))))
                go_ret
                exact ⟨by first | rfl | (simp [errW_none, errW_some] <;> rfl) | (simp [*, errW_none, errW_some] <;> rfl), by repeat (first | (with_reducible first | exact HB.out | apply below_alloc | apply pw_below_drewN | apply below_drew1) | exact HB.out)⟩

/-- THE ONE PURE STATEMENT of clochelaw05_WavesSeidel: yours. -/
def clochelaw05_WavesSeidel.Pure : Prop := ∀ (a0 : Int), (Lit.int .u8 a0).wf = true → ∃ k, clochelaw05_WavesSeidel.f k a0 = some true
theorem clochelaw05_WavesSeidel.walk (P : clochelaw05_WavesSeidel.Pure) (a0 : Int) (w : World) (w0 : (Lit.int .u8 a0).wf = true) :
    Calls Try.prog 8 #[.int .u8 a0] w fun e w' => e = .returned (.bool true) ∧ Below w.heap.size w w' := by
  obtain ⟨k, h⟩ := P a0 w0
  refine (clochelaw05_WavesSeidel.calls k a0 true w h).mono ?_
  rintro e w' ⟨rfl, hd⟩
  exact ⟨rfl, hd⟩

end Go.Proofs.Ytmigibamdeodpaa.Print
