/- What the functions of the waves compute, printed by this repo's hand printer. -/
import Derived.Test.YtmigibamdeodpaaPrintx0
import Derived.Test.YtmigibamdeodpaaPrintx2
import Derived.Test.YtmigibamdeodpaaPrintx3
namespace Go.Proofs.Ytmigibamdeodpaa.Print
open Go.RowKit Go.Proofs.YtmigibamdeodpaaW.PrintWords Go.Proofs.YtmigibamdeodpaaW.PrintLast Go.Proofs.YtmigibamdeodpaaW.PrintMore
attribute [local go_sem] max2_int min2_int max_two min_two max_three min_three max_four min_four   -- for this text's walks alone
set_option linter.unusedVariables false
set_option linter.unusedSimpArgs false

/-! ### waves_Rank: function 18 -/
mutual
def waves_Rank.l0 : Nat → List Int → List Int → Int → List Int → Int → Int → Option (Int × Int)
  | 0, _, _, _, _, _, _ => none
  | k + 1, x0, x5, x6, x23, x24, x25 => if x25 < x24 then (if 0 ≤ x25 then (if x25 < (x23.length : Int) then (waves_Rank.l1 k x0 x5 x6 x25 (rd x23 x25) ((Int.tmod x25 2) == 0) x23 x24 x25 x5 (x5.length : Int) 0) else (none)) else (none)) else (some (x6, 0))
def waves_Rank.l1 : Nat → List Int → List Int → Int → Int → Int → Bool → List Int → Int → Int → List Int → Int → Int → Option (Int × Int)
  | 0, _, _, _, _, _, _, _, _, _, _, _, _ => none
  | k + 1, x0, x5, x6, x7, x8, x9, x23, x24, x25, x33, x34, x35 => if x35 < x34 then (if 0 ≤ x35 then (if x35 < (x33.length : Int) then (if (rd x33 x35) < x8 then (if x7 = 0 then ((waves_begins.f (x5.length : Int) (wrap64 (x35 + 1)) x9).bind fun t144 => (waves_Rank.l1 k x0 x5 (wrap64 (x6 + t144)) x7 x8 x9 x23 x24 x25 x33 x34 (wrap64 (x35 + 1)))) else (if 0 ≤ (wrap64 (x7 - 1)) then (if (wrap64 (x7 - 1)) < (x0.length : Int) then (if ((decide ((rd x0 (wrap64 (x7 - 1))) < (rd x33 x35))) == (!x9)) = true then ((waves_begins.f (x5.length : Int) (wrap64 (x35 + 1)) x9).bind fun t146 => (waves_Rank.l1 k x0 x5 (wrap64 (x6 + t146)) x7 x8 x9 x23 x24 x25 x33 x34 (wrap64 (x35 + 1)))) else (waves_Rank.l1 k x0 x5 x6 x7 x8 x9 x23 x24 x25 x33 x34 (wrap64 (x35 + 1)))) else (none)) else (none))) else (waves_Rank.l1 k x0 x5 x6 x7 x8 x9 x23 x24 x25 x33 x34 (wrap64 (x35 + 1)))) else (none)) else (none)) else ((waves_place.f k x5 x8).bind fun t147 => ((waves_place.f k x5 x8).bind fun t148 => (if 0 ≤ (wrap64 (t147 - 1)) then (if (wrap64 (t147 - 1)) ≤ (x5.length : Int) then (if 0 ≤ (wrap64 ((wrap64 (t147 - 1)) + 1)) then (if (wrap64 ((wrap64 (t147 - 1)) + 1)) ≤ (x5.length : Int) then (waves_Rank.l0 k x0 (x5.eraseIdx ((wrap64 (t147 - 1)) : Int).toNat) x6 x23 x24 (wrap64 (x25 + 1))) else (none)) else (none)) else (none)) else (none))))
end
def waves_Rank.f (k : Nat) (l0 : List Int) : Option (Int × Int) := (waves_read.f k l0).bind fun t137 => (if t137 = 0 then ((waves_up.f k l0).bind fun t138 => (if t138 = true then ((sortedValues.f l0).bind fun t139 => (waves_Rank.l0 k l0 t139 0 l0 (l0.length : Int) 0)) else (some (0, 9)))) else (some (0, t137)))
theorem waves_Rank.mono_l : ∀ k, (∀ y0 y1 y2 y3 y4 y5, LeO (waves_Rank.l0 k y0 y1 y2 y3 y4 y5) (waves_Rank.l0 (k + 1) y0 y1 y2 y3 y4 y5)) ∧ (∀ y0 y1 y2 y3 y4 y5 y6 y7 y8 y9 y10 y11, LeO (waves_Rank.l1 k y0 y1 y2 y3 y4 y5 y6 y7 y8 y9 y10 y11) (waves_Rank.l1 (k + 1) y0 y1 y2 y3 y4 y5 y6 y7 y8 y9 y10 y11))
  | 0 => ⟨fun _ _ _ _ _ _ r h => by simp [waves_Rank.l0] at h, fun _ _ _ _ _ _ _ _ _ _ _ _ r h => by simp [waves_Rank.l1] at h⟩
  | k + 1 => by
    obtain ⟨ih0, ih1⟩ := waves_Rank.mono_l k
    refine ⟨?_, ?_⟩
    · intro y0 y1 y2 y3 y4 y5
      unfold waves_Rank.l0
      repeat' first
      | (with_reducible exact ih0 _ _ _ _ _ _)
      | (with_reducible exact ih1 _ _ _ _ _ _ _ _ _ _ _ _)
      | (with_reducible exact waves_place.mono _ _ _)
      | (with_reducible exact waves_read.mono _ _)
      | (with_reducible exact waves_up.mono _ _)
      | (with_reducible exact LeO.refl _)
      | (with_reducible exact LeO.none _)
      | (with_reducible refine LeO.ite ?_ ?_)
      | (with_reducible refine LeO.bind ?_ (fun _ => ?_))
      | exact ih0 _ _ _ _ _ _
      | exact ih1 _ _ _ _ _ _ _ _ _ _ _ _
      | exact waves_place.mono _ _ _
      | exact waves_read.mono _ _
      | exact waves_up.mono _ _
      | exact LeO.none _
      | refine LeO.ite ?_ ?_
      | refine LeO.bind ?_ (fun _ => ?_)
    · intro y0 y1 y2 y3 y4 y5 y6 y7 y8 y9 y10 y11
      unfold waves_Rank.l1
      repeat' first
      | (with_reducible exact ih0 _ _ _ _ _ _)
      | (with_reducible exact ih1 _ _ _ _ _ _ _ _ _ _ _ _)
      | (with_reducible exact waves_place.mono _ _ _)
      | (with_reducible exact waves_read.mono _ _)
      | (with_reducible exact waves_up.mono _ _)
      | (with_reducible exact LeO.refl _)
      | (with_reducible exact LeO.none _)
      | (with_reducible refine LeO.ite ?_ ?_)
      | (with_reducible refine LeO.bind ?_ (fun _ => ?_))
      | exact ih0 _ _ _ _ _ _
      | exact ih1 _ _ _ _ _ _ _ _ _ _ _ _
      | exact waves_place.mono _ _ _
      | exact waves_read.mono _ _
      | exact waves_up.mono _ _
      | exact LeO.none _
      | refine LeO.ite ?_ ?_
      | refine LeO.bind ?_ (fun _ => ?_)
theorem waves_Rank.mono : ∀ a0 k, LeO (waves_Rank.f k a0) (waves_Rank.f (k + 1) a0) := by
  intro a0 k
  obtain ⟨ih0, ih1⟩ := waves_Rank.mono_l k
  unfold waves_Rank.f
  repeat' first
      | (with_reducible exact ih0 _ _ _ _ _ _)
      | (with_reducible exact ih1 _ _ _ _ _ _ _ _ _ _ _ _)
      | (with_reducible exact waves_place.mono _ _ _)
      | (with_reducible exact waves_read.mono _ _)
      | (with_reducible exact waves_up.mono _ _)
      | (with_reducible exact LeO.refl _)
      | (with_reducible exact LeO.none _)
      | (with_reducible refine LeO.ite ?_ ?_)
      | (with_reducible refine LeO.bind ?_ (fun _ => ?_))
      | exact ih0 _ _ _ _ _ _
      | exact ih1 _ _ _ _ _ _ _ _ _ _ _ _
      | exact waves_place.mono _ _ _
      | exact waves_read.mono _ _
      | exact waves_up.mono _ _
      | exact LeO.none _
      | refine LeO.ite ?_ ?_
      | refine LeO.bind ?_ (fun _ => ?_)
set_option maxHeartbeats 8000000 in
set_option maxRecDepth 100000 in
theorem waves_Rank.calls (k : Nat) (A0 : Option Addr) (c0 : Nat) (l0 : List Int) (r1 : Int) (r2 : Int) (w : World) (hr0 : Kd.C (Kd.int .i64) w A0 l0.length l0) (hc0 : l0.length ≤ c0) (h : waves_Rank.f k l0 = some (r1, r2)) :
    Calls Try.prog 18 #[.slice A0 l0.length c0] w fun e w' => e = .returned (.tuple #[.int .i64 r1, .int .i64 r2]) ∧ Below w.heap.size w w' := by
  have HR0 := Aside0.mk hr0
  have HC0 := Aside0.mk hc0
  clear hr0 hc0
  have HB := Aside0.mk (Below.refl w.heap.size w)
  have H : ((waves_read.f k l0).bind fun t137 => (if t137 = 0 then ((waves_up.f k l0).bind fun t138 => (if t138 = true then ((sortedValues.f l0).bind fun t139 => (waves_Rank.l0 k l0 t139 0 l0 (l0.length : Int) 0)) else (some (0, 9)))) else (some (0, t137)))) = some (r1, r2) := h
  clear h
  replace H := Option.bind_eq_some_iff.mp H
  obtain ⟨t137, A20, H⟩ := H
  replace H : (if t137 = 0 then ((waves_up.f k l0).bind fun t138 => (if t138 = true then ((sortedValues.f l0).bind fun t139 => (waves_Rank.l0 k l0 t139 0 l0 (l0.length : Int) 0)) else (some (0, 9)))) else (some (0, t137))) = some (r1, r2) := H
  have A2 := Aside0.mk A20
  clear A20
  by_cases c3 : t137 = 0
  · rw [if_pos c3] at H
    have c3b0 : (t137 == 0) = true := beq_iff_eq.mpr c3
    have c3b1 : (t137 != 0) = false := bne_eq_false_iff_eq.mpr c3
    clear c3
    replace H := Option.bind_eq_some_iff.mp H
    obtain ⟨t138, A40, H⟩ := H
    replace H : (if t138 = true then ((sortedValues.f l0).bind fun t139 => (waves_Rank.l0 k l0 t139 0 l0 (l0.length : Int) 0)) else (some (0, 9))) = some (r1, r2) := H
    have A4 := Aside0.mk A40
    clear A40
    by_cases c5 : t138 = true
    · subst c5
      have H1 : ((sortedValues.f l0).bind fun t139 => (waves_Rank.l0 k l0 t139 0 l0 (l0.length : Int) 0)) = some (r1, r2) := by rw [if_pos rfl] at H; exact H
      clear H
      have H := H1
      clear H1
      replace H := Option.bind_eq_some_iff.mp H
      obtain ⟨t139, A60, H⟩ := H
      replace H : (waves_Rank.l0 k l0 t139 0 l0 (l0.length : Int) 0) = some (r1, r2) := H
      have A6 := Aside0.mk A60
      clear A60
      have H' := Aside0.mk H
      clear H
      go_enter Try.func18, Try.ntmps18
      go_wp2_with (first | ((with_reducible refine gate_callee (f := 44) rfl ?_); refine goesL_ (some 13) rfl rfl Try.func44 (by kernel_rfl) rfl #[.slice A0 l0.length c0] rfl (by (try simp only [List.map_toArray, List.map_cons, List.map_nil]); first | done | rfl | (simp only [List.length_drop, List.length_take]; rfl)) ?_; (with_reducible refine (waves_read.calls k _ _ l0 t137 _ ?side1 ?side2 A2.out).mono ?_); (case side1 => repeat (first | exact HR0.out | (with_reducible refine Kd.C_alloc ?_ _) | (with_reducible refine Kd.C_drewN ?_ _) | (with_reducible refine Kd.C_drew ?_))); (case side2 => exact HC0.out); rintro e w' ⟨rfl, ⟨nd, rfl⟩⟩; refine ⟨_, rfl, ?_⟩) | ((with_reducible refine gate_callee (f := 45) rfl ?_); refine goesL_ (some 18) rfl rfl Try.func45 (by kernel_rfl) rfl #[.slice A0 l0.length c0] rfl (by (try simp only [List.map_toArray, List.map_cons, List.map_nil]); first | done | rfl | (simp only [List.length_drop, List.length_take]; rfl)) ?_; (with_reducible refine (waves_up.calls k _ _ l0 true _ ?side1 ?side2 A4.out).mono ?_); (case side1 => repeat (first | exact HR0.out | (with_reducible refine Kd.C_alloc ?_ _) | (with_reducible refine Kd.C_drewN ?_ _) | (with_reducible refine Kd.C_drew ?_))); (case side2 => exact HC0.out); rintro e w' ⟨rfl, ⟨nd, rfl⟩⟩; refine ⟨_, rfl, ?_⟩) | ((with_reducible refine gate_callee (f := 47) rfl ?_); refine svL_ rfl rfl rfl rfl rfl (Nat.le_of_ble_eq_true rfl) rfl ?_; (with_reducible refine (sortedValues.calls _ _ l0 t139 _ ?side1 ?side2 A6.out).mono ?_); (case side1 => repeat (first | exact HR0.out | (with_reducible refine Kd.C_alloc ?_ _) | (with_reducible refine Kd.C_drewN ?_ _) | (with_reducible refine Kd.C_drew ?_))); (case side2 => exact HC0.out); rintro e w7 ⟨v140, rfl, ho0, hb⟩; refine ⟨_, rfl, ?_⟩; have n0_ := Aside0.mk (Kd.R_lower ho0 (below_size (by repeat (first | (with_reducible first | exact HB.out | apply below_alloc | apply pw_below_drewN | apply below_drew1) | exact HB.out)))); have n1_ := Aside0.mk (below_step (by repeat (first | (with_reducible first | exact HB.out | apply below_alloc | apply pw_below_drewN | apply below_drew1) | exact HB.out)) hb); clear HB; have HO141 := n0_; have HB := n1_; clear n0_ n1_; (try clear hb); (try clear hb2); (try clear hk); (try clear hi); (try clear ho0)))
      go_loopg [5, 6, 25] k (fun kq v5 v6 v25 w' => ∃ (x5_1 : List Int) (x6_1 : Int) (x25_1 : Int), v6 = .int .i64 x6_1 ∧ v25 = .int .i64 x25_1 ∧ Aside0 (waves_Rank.l0 kq l0 x5_1 x6_1 l0 (l0.length : Int) x25_1 = some (r1, r2)) ∧ Aside0 (kq ≤ k) ∧ Aside0 (Kd.R (Kd.int .i64) 3 w' w.heap.size (fun _ => True) v5 x5_1) ∧ Aside0 (Below w.heap.size w w'))
      case atStart => exact ⟨(t139), (0), (0), (by first | rfl | (simp; done) | (simp [*]; done)), (by first | rfl | (simp; done) | (simp [*]; done)), H', ⟨Nat.le_refl _⟩, ⟨by (with_reducible repeat (first | apply Kd.R_alloc | apply Kd.R_drewN | apply Kd.R_drew)); exact HO141.out⟩, ⟨by repeat (first | (with_reducible first | exact HB.out | apply below_alloc | apply pw_below_drewN | apply below_drew1) | exact HB.out)⟩⟩
      case round =>
        clear H'
        try clear c1
        try clear p2
        try clear c3
        try clear c3b0
        try clear c3b1
        try clear c4
        try clear c5
        obtain ⟨x5_1, x6_1, x25_1, rfl, rfl, HA, HK1, HO_5, HB⟩ := hrel
        cases gk with
        | zero => exact absurd HA.out (by simp [waves_Rank.l0])
        | succ k1 =>
          have H := HA.out
          clear HA
          simp only [waves_Rank.l0] at H
          by_cases c8 : x25_1 < (l0.length : Int)
          · rw [if_pos c8] at H
            have c8b0 : decide (x25_1 < (l0.length : Int)) = true := decide_eq_true c8
            clear c8
            by_cases c9 : 0 ≤ x25_1
            · rw [if_pos c9] at H
              have c9b0 : decide (0 ≤ x25_1) = true := decide_eq_true c9
              clear c9
              by_cases c10 : x25_1 < (l0.length : Int)
              · rw [if_pos c10] at H
                have c10b0 : decide (x25_1 < (l0.length : Int)) = true := decide_eq_true c10
                clear c10
                have H' := Aside0.mk H
                clear H
                have p142 : 0 ≤ (x25_1 : Int) := of_decide_eq_true (by first | (with_reducible assumption) | assumption)
                have q142 : x25_1 < (l0.length : Int) := of_decide_eq_true (by first | (with_reducible assumption) | assumption)
                obtain ⟨ad142, e142, hx142_0⟩ := Kd.at_int HR0.out x25_1 p142 q142
                cases e142
                replace hx142_0 := (HB.out.cell (World.block_lt_of_cell? w _ hx142_0)).trans hx142_0
                replace p142 := eq_true p142
                replace q142 := eq_true q142
                obtain ⟨Ao11, co11, eo11⟩ := Kd.R_slice HO_5.out
                subst eo11
                go_wp2
                go_loopg [6, 35] k1 (fun kq v6 v35 w' => ∃ (x6_2 : Int) (x35_2 : Int), v6 = .int .i64 x6_2 ∧ v35 = .int .i64 x35_2 ∧ Aside0 (waves_Rank.l1 kq l0 x5_1 x6_2 x25_1 (rd l0 x25_1) ((Int.tmod x25_1 2) == 0) l0 (l0.length : Int) x25_1 x5_1 (x5_1.length : Int) x35_2 = some (r1, r2)) ∧ Aside0 (kq ≤ k1) ∧ Aside0 (Kd.R (Kd.int .i64) 3 w' w.heap.size (fun _ => True) (.slice Ao11 x5_1.length co11) x5_1) ∧ Aside0 (Kd.R (Kd.int .i64) 3 w' w.heap.size (fun _ => True) (.slice Ao11 x5_1.length co11) x5_1) ∧ Aside0 (Below w.heap.size w w'))
                case atStart => exact ⟨(x6_1), (0), (by first | rfl | (simp; done) | (simp [*]; done)), (by first | rfl | (simp; done) | (simp [*]; done)), H', ⟨Nat.le_refl _⟩, ⟨by (with_reducible repeat (first | apply Kd.R_alloc | apply Kd.R_drewN | apply Kd.R_drew)); exact HO_5.out⟩, ⟨by (with_reducible repeat (first | apply Kd.R_alloc | apply Kd.R_drewN | apply Kd.R_drew)); exact HO_5.out⟩, ⟨by repeat (first | (with_reducible first | exact HB.out | apply below_alloc | apply pw_below_drewN | apply below_drew1) | exact HB.out)⟩⟩
                case round =>
                  clear H'
                  try clear c1
                  try clear p1
                  try clear q1
                  try clear hx1
                  try clear p2
                  try clear c3
                  try clear c3b0
                  try clear c3b1
                  try clear c4
                  try clear c5
                  try clear c8
                  try clear c8b0
                  try clear c9
                  try clear c9b0
                  try clear c10
                  try clear c10b0
                  try clear c11
                  try clear hx142_0
                  try clear p142
                  try clear p2
                  try clear q142
                  obtain ⟨x6_2, x35_2, rfl, rfl, HA, HK2, HO_5, HO_33, HB⟩ := hrel
                  cases gk with
                  | zero => exact absurd HA.out (by simp [waves_Rank.l1])
                  | succ k2 =>
                    have H := HA.out
                    clear HA
                    simp only [waves_Rank.l1] at H
                    by_cases c12 : x35_2 < (x5_1.length : Int)
                    · rw [if_pos c12] at H
                      have c12b0 : decide (x35_2 < (x5_1.length : Int)) = true := decide_eq_true c12
                      clear c12
                      by_cases c13 : 0 ≤ x35_2
                      · rw [if_pos c13] at H
                        have c13b0 : decide (0 ≤ x35_2) = true := decide_eq_true c13
                        clear c13
                        by_cases c14 : x35_2 < (x5_1.length : Int)
                        · rw [if_pos c14] at H
                          have c14b0 : decide (x35_2 < (x5_1.length : Int)) = true := decide_eq_true c14
                          clear c14
                          by_cases c15 : (rd x5_1 x35_2) < (rd l0 x25_1)
                          · rw [if_pos c15] at H
                            have c15b0 : decide ((rd x5_1 x35_2) < (rd l0 x25_1)) = true := decide_eq_true c15
                            clear c15
                            by_cases c16 : x25_1 = 0
                            · rw [if_pos c16] at H
                              have c16b0 : (x25_1 == 0) = true := beq_iff_eq.mpr c16
                              have c16b1 : (x25_1 != 0) = false := bne_eq_false_iff_eq.mpr c16
                              clear c16
                              replace H := Option.bind_eq_some_iff.mp H
                              obtain ⟨t144, A170, H⟩ := H
                              replace H : (waves_Rank.l1 k2 l0 x5_1 (wrap64 (x6_2 + t144)) x25_1 (rd l0 x25_1) ((Int.tmod x25_1 2) == 0) l0 (l0.length : Int) x25_1 x5_1 (x5_1.length : Int) (wrap64 (x35_2 + 1))) = some (r1, r2) := H
                              have A17 := Aside0.mk A170
                              clear A170
                              have H' := Aside0.mk H
                              clear H
                              have p143 : 0 ≤ (x35_2 : Int) := of_decide_eq_true (by first | (with_reducible assumption) | assumption)
                              have q143 : x35_2 < (x5_1.length : Int) := of_decide_eq_true (by first | (with_reducible assumption) | assumption)
                              obtain ⟨ad143, e143, hx143_0⟩ := Kd.at_int (Kd.R_reads' HO_33.out).2.2 x35_2 p143 q143
                              cases e143
                              replace p143 := eq_true p143
                              replace q143 := eq_true q143
                              go_wp2_with (first | ((with_reducible refine gate_callee (f := 48) rfl ?_); refine goesL_ (some 65) rfl rfl Try.func48 (by kernel_rfl) rfl #[.int .i64 (x5_1.length : Int), .int .i64 (wrap64 (x35_2 + 1)), .bool ((Int.tmod x25_1 2) == 0)] rfl (by (try simp only [List.map_toArray, List.map_cons, List.map_nil]); first | done | rfl | (simp only [List.length_drop, List.length_take]; rfl)) ?_; (with_reducible refine (waves_begins.calls (x5_1.length : Int) (wrap64 (x35_2 + 1)) ((Int.tmod x25_1 2) == 0) t144 _ A17.out).mono ?_); rintro e w18 ⟨rfl, hb⟩; refine ⟨_, rfl, ?_⟩; have n0_ := Aside0.mk (Kd.R_below (by (with_reducible repeat (first | apply Kd.R_alloc | apply Kd.R_drewN | apply Kd.R_drew)); exact HO_5.out) hb); have n1_ := Aside0.mk (Kd.R_below (by (with_reducible repeat (first | apply Kd.R_alloc | apply Kd.R_drewN | apply Kd.R_drew)); exact HO_33.out) hb); have n2_ := Aside0.mk (below_step (by repeat (first | (with_reducible first | exact HB.out | apply below_alloc | apply pw_below_drewN | apply below_drew1) | exact HB.out)) hb); clear HO_5; clear HO_33; clear HB; have HO_5 := n0_; have HO_33 := n1_; have HB := n2_; clear n0_ n1_ n2_; (try clear hb); (try clear hb2); (try clear hk); (try clear hi)))
                              go_roundg k2
                              case measure => have := HK1.out; have := HK2.out; omega
                              case rel => exact ⟨(wrap64 (x6_2 + t144)), (wrap64 (x35_2 + 1)), (by first | rfl | (simp; done) | (simp [*]; done)), (by first | rfl | (simp; done) | (simp [*]; done)), H', ⟨by have := HK1.out; have := HK2.out; omega⟩, ⟨by (with_reducible repeat (first | apply Kd.R_alloc | apply Kd.R_drewN | apply Kd.R_drew)); exact HO_5.out⟩, ⟨by (with_reducible repeat (first | apply Kd.R_alloc | apply Kd.R_drewN | apply Kd.R_drew)); exact HO_33.out⟩, ⟨by repeat (first | (with_reducible first | exact HB.out | apply below_alloc | apply pw_below_drewN | apply below_drew1) | exact HB.out)⟩⟩
                            · rw [if_neg c16] at H
                              have c16b0 : (x25_1 == 0) = false := beq_eq_false_iff_ne.mpr c16
                              have c16b1 : (x25_1 != 0) = true := bne_iff_ne.mpr c16
                              obtain ⟨ji19, hji19⟩ : ∃ j_ : Int, (wrap64 (x25_1 - 1)) = j_ := ⟨_, rfl⟩
                              replace H : (if 0 ≤ (ji19) then (if (ji19) < (l0.length : Int) then (if ((decide ((rd l0 (ji19)) < (rd x5_1 x35_2))) == (!((Int.tmod x25_1 2) == 0))) = true then ((waves_begins.f (x5_1.length : Int) (wrap64 (x35_2 + 1)) ((Int.tmod x25_1 2) == 0)).bind fun t146 => (waves_Rank.l1 k2 l0 x5_1 (wrap64 (x6_2 + t146)) x25_1 (rd l0 x25_1) ((Int.tmod x25_1 2) == 0) l0 (l0.length : Int) x25_1 x5_1 (x5_1.length : Int) (wrap64 (x35_2 + 1)))) else (waves_Rank.l1 k2 l0 x5_1 x6_2 x25_1 (rd l0 x25_1) ((Int.tmod x25_1 2) == 0) l0 (l0.length : Int) x25_1 x5_1 (x5_1.length : Int) (wrap64 (x35_2 + 1)))) else (none)) else (none)) = some (r1, r2) := by first | (rw [hji19] at H; exact H) | (simp only [hji19] at H ⊢; exact H)
                              have hji19w : (IntKind.i64.wrap (x25_1 - 1)) = ji19 := (i64_w _).trans hji19
                              by_cases c20 : 0 ≤ (ji19)
                              · rw [if_pos c20] at H
                                have c20b0 : decide (0 ≤ (ji19)) = true := decide_eq_true c20
                                clear c20
                                by_cases c21 : (ji19) < (l0.length : Int)
                                · rw [if_pos c21] at H
                                  have c21b0 : decide ((ji19) < (l0.length : Int)) = true := decide_eq_true c21
                                  clear c21
                                  by_cases c22 : ((decide ((rd l0 (ji19)) < (rd x5_1 x35_2))) == (!((Int.tmod x25_1 2) == 0))) = true
                                  · rw [if_pos c22] at H
                                    have c22b0 : ((decide ((rd l0 (ji19)) < (rd x5_1 x35_2))) == (!((Int.tmod x25_1 2) == 0))) = true := c22
                                    (try (have c22b1 : decide ((decide ((rd l0 (ji19)) < (rd x5_1 x35_2))) = (!((Int.tmod x25_1 2) == 0))) = true := by simpa using c22))
                                    (try (have c22b2 : ((decide ((rd l0 (ji19)) < (rd x5_1 x35_2))) == (!((Int.tmod x25_1 2) == 0))) = true := by simpa using c22))
                                    clear c22
                                    replace H := Option.bind_eq_some_iff.mp H
                                    obtain ⟨t146, A230, H⟩ := H
                                    replace H : (waves_Rank.l1 k2 l0 x5_1 (wrap64 (x6_2 + t146)) x25_1 (rd l0 x25_1) ((Int.tmod x25_1 2) == 0) l0 (l0.length : Int) x25_1 x5_1 (x5_1.length : Int) (wrap64 (x35_2 + 1))) = some (r1, r2) := H
                                    have A23 := Aside0.mk A230
                                    clear A230
                                    have H' := Aside0.mk H
                                    clear H
                                    have p143 : 0 ≤ (x35_2 : Int) := of_decide_eq_true (by first | (with_reducible assumption) | assumption)
                                    have q143 : x35_2 < (x5_1.length : Int) := of_decide_eq_true (by first | (with_reducible assumption) | assumption)
                                    obtain ⟨ad143, e143, hx143_0⟩ := Kd.at_int (Kd.R_reads' HO_33.out).2.2 x35_2 p143 q143
                                    cases e143
                                    replace p143 := eq_true p143
                                    replace q143 := eq_true q143
                                    have p145 : 0 ≤ ((ji19) : Int) := of_decide_eq_true (by first | (with_reducible assumption) | assumption)
                                    have q145 : (ji19) < (l0.length : Int) := of_decide_eq_true (by first | (with_reducible assumption) | assumption)
                                    obtain ⟨ad145, e145, hx145_0⟩ := Kd.at_int HR0.out (ji19) p145 q145
                                    obtain rfl : ad142 = ad145 := (by injection e145)
                                    replace hx145_0 := (HB.out.cell (World.block_lt_of_cell? w _ hx145_0)).trans hx145_0
                                    replace p145 := eq_true p145
                                    replace q145 := eq_true q145
                                    go_wp2_with (first | ((with_reducible refine gate_callee (f := 48) rfl ?_); refine goesL_ (some 65) rfl rfl Try.func48 (by kernel_rfl) rfl #[.int .i64 (x5_1.length : Int), .int .i64 (wrap64 (x35_2 + 1)), .bool ((Int.tmod x25_1 2) == 0)] rfl (by (try simp only [List.map_toArray, List.map_cons, List.map_nil]); first | done | rfl | (simp only [List.length_drop, List.length_take]; rfl)) ?_; (with_reducible refine (waves_begins.calls (x5_1.length : Int) (wrap64 (x35_2 + 1)) ((Int.tmod x25_1 2) == 0) t146 _ A23.out).mono ?_); rintro e w24 ⟨rfl, hb⟩; refine ⟨_, rfl, ?_⟩; have n0_ := Aside0.mk (Kd.R_below (by (with_reducible repeat (first | apply Kd.R_alloc | apply Kd.R_drewN | apply Kd.R_drew)); exact HO_5.out) hb); have n1_ := Aside0.mk (Kd.R_below (by (with_reducible repeat (first | apply Kd.R_alloc | apply Kd.R_drewN | apply Kd.R_drew)); exact HO_33.out) hb); have n2_ := Aside0.mk (below_step (by repeat (first | (with_reducible first | exact HB.out | apply below_alloc | apply pw_below_drewN | apply below_drew1) | exact HB.out)) hb); clear HO_5; clear HO_33; clear HB; have HO_5 := n0_; have HO_33 := n1_; have HB := n2_; clear n0_ n1_ n2_; (try clear hb); (try clear hb2); (try clear hk); (try clear hi)))
                                    go_roundg k2
                                    case measure => have := HK1.out; have := HK2.out; omega
                                    case rel => exact ⟨(wrap64 (x6_2 + t146)), (wrap64 (x35_2 + 1)), (by first | rfl | (simp; done) | (simp [*]; done)), (by first | rfl | (simp; done) | (simp [*]; done)), H', ⟨by have := HK1.out; have := HK2.out; omega⟩, ⟨by (with_reducible repeat (first | apply Kd.R_alloc | apply Kd.R_drewN | apply Kd.R_drew)); exact HO_5.out⟩, ⟨by (with_reducible repeat (first | apply Kd.R_alloc | apply Kd.R_drewN | apply Kd.R_drew)); exact HO_33.out⟩, ⟨by repeat (first | (with_reducible first | exact HB.out | apply below_alloc | apply pw_below_drewN | apply below_drew1) | exact HB.out)⟩⟩
                                  · rw [if_neg c22] at H
                                    have c22b0 : ((decide ((rd l0 (ji19)) < (rd x5_1 x35_2))) == (!((Int.tmod x25_1 2) == 0))) = false := by simpa using c22
                                    (try (have c22b1 : decide ((decide ((rd l0 (ji19)) < (rd x5_1 x35_2))) = (!((Int.tmod x25_1 2) == 0))) = false := by simpa using c22))
                                    (try (have c22b2 : ((decide ((rd l0 (ji19)) < (rd x5_1 x35_2))) == (!((Int.tmod x25_1 2) == 0))) = false := by simpa using c22))
                                    (try (have c22b3 : ¬ ((decide ((rd l0 (ji19)) < (rd x5_1 x35_2))) = (!((Int.tmod x25_1 2) == 0))) := by simpa using c22))
                                    clear c22
                                    have H' := Aside0.mk H
                                    clear H
                                    have p143 : 0 ≤ (x35_2 : Int) := of_decide_eq_true (by first | (with_reducible assumption) | assumption)
                                    have q143 : x35_2 < (x5_1.length : Int) := of_decide_eq_true (by first | (with_reducible assumption) | assumption)
                                    obtain ⟨ad143, e143, hx143_0⟩ := Kd.at_int (Kd.R_reads' HO_33.out).2.2 x35_2 p143 q143
                                    cases e143
                                    replace p143 := eq_true p143
                                    replace q143 := eq_true q143
                                    have p145 : 0 ≤ ((ji19) : Int) := of_decide_eq_true (by first | (with_reducible assumption) | assumption)
                                    have q145 : (ji19) < (l0.length : Int) := of_decide_eq_true (by first | (with_reducible assumption) | assumption)
                                    obtain ⟨ad145, e145, hx145_0⟩ := Kd.at_int HR0.out (ji19) p145 q145
                                    obtain rfl : ad142 = ad145 := (by injection e145)
                                    replace hx145_0 := (HB.out.cell (World.block_lt_of_cell? w _ hx145_0)).trans hx145_0
                                    replace p145 := eq_true p145
                                    replace q145 := eq_true q145
                                    go_wp2
                                    go_roundg k2
                                    case measure => have := HK1.out; have := HK2.out; omega
                                    case rel => exact ⟨(x6_2), (wrap64 (x35_2 + 1)), (by first | rfl | (simp; done) | (simp [*]; done)), (by first | rfl | (simp; done) | (simp [*]; done)), H', ⟨by have := HK1.out; have := HK2.out; omega⟩, ⟨by (with_reducible repeat (first | apply Kd.R_alloc | apply Kd.R_drewN | apply Kd.R_drew)); exact HO_5.out⟩, ⟨by (with_reducible repeat (first | apply Kd.R_alloc | apply Kd.R_drewN | apply Kd.R_drew)); exact HO_33.out⟩, ⟨by repeat (first | (with_reducible first | exact HB.out | apply below_alloc | apply pw_below_drewN | apply below_drew1) | exact HB.out)⟩⟩
                                · rw [if_neg c21] at H
                                  exact absurd H (by simp)
                              · rw [if_neg c20] at H
                                exact absurd H (by simp)
                          · rw [if_neg c15] at H
                            have c15b0 : decide ((rd x5_1 x35_2) < (rd l0 x25_1)) = false := decide_eq_false c15
                            clear c15
                            have H' := Aside0.mk H
                            clear H
                            have p143 : 0 ≤ (x35_2 : Int) := of_decide_eq_true (by first | (with_reducible assumption) | assumption)
                            have q143 : x35_2 < (x5_1.length : Int) := of_decide_eq_true (by first | (with_reducible assumption) | assumption)
                            obtain ⟨ad143, e143, hx143_0⟩ := Kd.at_int (Kd.R_reads' HO_33.out).2.2 x35_2 p143 q143
                            cases e143
                            replace p143 := eq_true p143
                            replace q143 := eq_true q143
                            go_wp2
                            go_roundg k2
                            case measure => have := HK1.out; have := HK2.out; omega
                            case rel => exact ⟨(x6_2), (wrap64 (x35_2 + 1)), (by first | rfl | (simp; done) | (simp [*]; done)), (by first | rfl | (simp; done) | (simp [*]; done)), H', ⟨by have := HK1.out; have := HK2.out; omega⟩, ⟨by (with_reducible repeat (first | apply Kd.R_alloc | apply Kd.R_drewN | apply Kd.R_drew)); exact HO_5.out⟩, ⟨by (with_reducible repeat (first | apply Kd.R_alloc | apply Kd.R_drewN | apply Kd.R_drew)); exact HO_33.out⟩, ⟨by repeat (first | (with_reducible first | exact HB.out | apply below_alloc | apply pw_below_drewN | apply below_drew1) | exact HB.out)⟩⟩
                        · rw [if_neg c14] at H
                          exact absurd H (by simp)
                      · rw [if_neg c13] at H
                        exact absurd H (by simp)
                    · rw [if_neg c12] at H
                      have c12b0 : decide (x35_2 < (x5_1.length : Int)) = false := decide_eq_false c12
                      clear c12
                      replace H := Option.bind_eq_some_iff.mp H
                      obtain ⟨t147, A250, H⟩ := H
                      replace H : ((waves_place.f k2 x5_1 (rd l0 x25_1)).bind fun t148 => (if 0 ≤ (wrap64 (t147 - 1)) then (if (wrap64 (t147 - 1)) ≤ (x5_1.length : Int) then (if 0 ≤ (wrap64 ((wrap64 (t147 - 1)) + 1)) then (if (wrap64 ((wrap64 (t147 - 1)) + 1)) ≤ (x5_1.length : Int) then (waves_Rank.l0 k2 l0 (x5_1.eraseIdx ((wrap64 (t147 - 1)) : Int).toNat) x6_2 l0 (l0.length : Int) (wrap64 (x25_1 + 1))) else (none)) else (none)) else (none)) else (none))) = some (r1, r2) := H
                      have A25 := Aside0.mk A250
                      clear A250
                      replace H := Option.bind_eq_some_iff.mp H
                      obtain ⟨t148, A260, H⟩ := H
                      replace H : (if 0 ≤ (wrap64 (t147 - 1)) then (if (wrap64 (t147 - 1)) ≤ (x5_1.length : Int) then (if 0 ≤ (wrap64 ((wrap64 (t147 - 1)) + 1)) then (if (wrap64 ((wrap64 (t147 - 1)) + 1)) ≤ (x5_1.length : Int) then (waves_Rank.l0 k2 l0 (x5_1.eraseIdx ((wrap64 (t147 - 1)) : Int).toNat) x6_2 l0 (l0.length : Int) (wrap64 (x25_1 + 1))) else (none)) else (none)) else (none)) else (none)) = some (r1, r2) := H
                      have A26 := Aside0.mk A260
                      clear A260
                      obtain ⟨ji27, hji27⟩ : ∃ j_ : Int, (wrap64 (t147 - 1)) = j_ := ⟨_, rfl⟩
                      replace H : (if 0 ≤ (ji27) then (if (ji27) ≤ (x5_1.length : Int) then (if 0 ≤ (wrap64 ((ji27) + 1)) then (if (wrap64 ((ji27) + 1)) ≤ (x5_1.length : Int) then (waves_Rank.l0 k2 l0 (x5_1.eraseIdx ((ji27) : Int).toNat) x6_2 l0 (l0.length : Int) (wrap64 (x25_1 + 1))) else (none)) else (none)) else (none)) else (none)) = some (r1, r2) := by first | (rw [hji27] at H; exact H) | (simp only [hji27] at H ⊢; exact H)
                      (try rw [hji27] at A25)
                      (try rw [hji27] at A26)
                      have hji27w : (IntKind.i64.wrap (t147 - 1)) = ji27 := (i64_w _).trans hji27
                      by_cases c28 : 0 ≤ (ji27)
                      · rw [if_pos c28] at H
                        have c28b0 := eq_true c28
                        have c28b1 : decide (0 ≤ (ji27)) = true := decide_eq_true c28
                        clear c28
                        by_cases c29 : (ji27) ≤ (x5_1.length : Int)
                        · rw [if_pos c29] at H
                          have c29b0 := eq_true c29
                          have c29b1 : decide ((ji27) ≤ (x5_1.length : Int)) = true := decide_eq_true c29
                          clear c29
                          obtain ⟨y149, hy149⟩ : ∃ y_ : List Int, y_ = (x5_1.take ((ji27) : Int).toNat) := ⟨_, rfl⟩
                          replace H : (if 0 ≤ (wrap64 ((ji27) + 1)) then (if (wrap64 ((ji27) + 1)) ≤ (x5_1.length : Int) then (waves_Rank.l0 k2 l0 (x5_1.eraseIdx ((ji27) : Int).toNat) x6_2 l0 (l0.length : Int) (wrap64 (x25_1 + 1))) else (none)) else (none)) = some (r1, r2) := by first | (rw [hy149]; with_reducible exact H) | (have H2_ := (Option.bind_some _ _).symm.trans H; rw [hy149]; with_reducible exact H2_) | (have H2_ := (Option.bind_some _ _).symm.trans H; with_reducible exact H2_) | with_reducible exact H | (rw [hy149]; exact H) | exact H
                          have Ny149 := Aside0.mk hy149
                          clear hy149
                          obtain ⟨ji30, hji30⟩ : ∃ j_ : Int, (wrap64 ((ji27) + 1)) = j_ := ⟨_, rfl⟩
                          replace H : (if 0 ≤ (ji30) then (if (ji30) ≤ (x5_1.length : Int) then (waves_Rank.l0 k2 l0 (x5_1.eraseIdx ((ji27) : Int).toNat) x6_2 l0 (l0.length : Int) (wrap64 (x25_1 + 1))) else (none)) else (none)) = some (r1, r2) := by first | (rw [hji30] at H; exact H) | (simp only [hji30] at H ⊢; exact H)
                          (try rw [hji30] at A25)
                          (try rw [hji30] at A26)
                          have hji30w : (IntKind.i64.wrap ((ji27) + 1)) = ji30 := (i64_w _).trans hji30
                          by_cases c31 : 0 ≤ (ji30)
                          · rw [if_pos c31] at H
                            have c31b0 := eq_true c31
                            have c31b1 : decide (0 ≤ (ji30)) = true := decide_eq_true c31
                            clear c31
                            by_cases c32 : (ji30) ≤ (x5_1.length : Int)
                            · rw [if_pos c32] at H
                              have c32b0 := eq_true c32
                              have c32b1 : decide ((ji30) ≤ (x5_1.length : Int)) = true := decide_eq_true c32
                              clear c32
                              obtain ⟨y153, hy153⟩ : ∃ y_ : List Int, y_ = (x5_1.drop ((ji30) : Int).toNat) := ⟨_, rfl⟩
                              replace H : (waves_Rank.l0 k2 l0 (x5_1.eraseIdx ((ji27) : Int).toNat) x6_2 l0 (l0.length : Int) (wrap64 (x25_1 + 1))) = some (r1, r2) := by first | (rw [hy153]; with_reducible exact H) | (have H2_ := (Option.bind_some _ _).symm.trans H; rw [hy153]; with_reducible exact H2_) | (have H2_ := (Option.bind_some _ _).symm.trans H; with_reducible exact H2_) | with_reducible exact H | (rw [hy153]; exact H) | exact H
                              have Ny153 := Aside0.mk hy153
                              clear hy153
                              obtain ⟨y157, hy157⟩ : ∃ y_ : List Int, y_ = (x5_1.eraseIdx ((ji27) : Int).toNat) := ⟨_, rfl⟩
                              replace H : (waves_Rank.l0 k2 l0 y157 x6_2 l0 (l0.length : Int) (wrap64 (x25_1 + 1))) = some (r1, r2) := by first | (rw [hy157]; with_reducible exact H) | (have H2_ := (Option.bind_some _ _).symm.trans H; rw [hy157]; with_reducible exact H2_) | (have H2_ := (Option.bind_some _ _).symm.trans H; with_reducible exact H2_) | with_reducible exact H | (rw [hy157]; exact H) | exact H
                              have Ny157 := Aside0.mk hy157
                              clear hy157
                              have H' := Aside0.mk H
                              clear H
                              go_wp2_with (first | ((with_reducible refine gate_callee (f := 50) rfl ?_); refine goesL_ (some 71) rfl rfl Try.func50 (by kernel_rfl) rfl #[.slice Ao11 x5_1.length co11, .int .i64 (rd l0 x25_1)] rfl (by (try simp only [List.map_toArray, List.map_cons, List.map_nil]); first | done | rfl | (simp only [List.length_drop, List.length_take]; rfl)) ?_; (with_reducible refine (waves_place.calls k2 _ _ x5_1 (rd l0 x25_1) t147 _ ?side1 ?side2 A25.out).mono ?_); (case side1 => repeat (first | exact (Kd.R_reads' HO_5.out).2.2 | (with_reducible refine Kd.C_alloc ?_ _) | (with_reducible refine Kd.C_drewN ?_ _) | (with_reducible refine Kd.C_drew ?_))); (case side2 => exact (Kd.R_reads' HO_5.out).2.1); rintro e w' ⟨rfl, ⟨nd, rfl⟩⟩; refine ⟨_, rfl, ?_⟩) | ((with_reducible refine gate_callee (f := 50) rfl ?_); refine goesL_ (some 75) rfl rfl Try.func50 (by kernel_rfl) rfl #[.slice Ao11 x5_1.length co11, .int .i64 (rd l0 x25_1)] rfl (by (try simp only [List.map_toArray, List.map_cons, List.map_nil]); first | done | rfl | (simp only [List.length_drop, List.length_take]; rfl)) ?_; (with_reducible refine (waves_place.calls k2 _ _ x5_1 (rd l0 x25_1) t148 _ ?side1 ?side2 A26.out).mono ?_); (case side1 => repeat (first | exact (Kd.R_reads' HO_5.out).2.2 | (with_reducible refine Kd.C_alloc ?_ _) | (with_reducible refine Kd.C_drewN ?_ _) | (with_reducible refine Kd.C_drew ?_))); (case side2 => exact (Kd.R_reads' HO_5.out).2.1); rintro e w' ⟨rfl, ⟨nd, rfl⟩⟩; refine ⟨_, rfl, ?_⟩; have q33 : ((ji27) : Int) ≤ ((x5_1.length : Int) : Int) := of_decide_eq_true (by first | (with_reducible assumption) | assumption); obtain ⟨i033, hi033, _, hsz33, _⟩ := info_parts info3; have hroom33 : x5_1.length ≤ co11 := (Kd.R_reads' HO_5.out).2.1; have hC33 : Kd.C (Kd.int .i64) _ Ao11 x5_1.length x5_1 := (Kd.R_reads' HO_5.out).2.2; have hcut33 := cut_to (P := Try.prog) 27 3 .i64 Try.underlying27 hi033 Ao11 x5_1.length co11 (ji27) (of_decide_eq_true (by first | (with_reducible assumption) | assumption)) q33 hroom33; have hr33 := Kd.C_take (m := ((ji27) : Int).toNat) hC33 (by omega); have hy33 : y149.length = ((ji27) : Int).toNat := (by rw [Ny149.out, List.length_take]; omega); rw [← Ny149.out] at hr33; rw [← hy33] at hcut33; have HR152 := Aside0.mk hr33; have HC152 := Aside0.mk (show y149.length ≤ co11 from by omega); clear hr33 hC33 hroom33 hi033 hsz33; have KY33 := Aside0.mk hy33; clear hy33; have KL33 := Aside0.mk (show ((ji27) : Int).toNat ≤ x5_1.length from by omega); replace q33 := eq_true q33; have q34 : ((ji30) : Int) ≤ ((x5_1.length : Int) : Int) := of_decide_eq_true (by first | (with_reducible assumption) | assumption); obtain ⟨i034, hi034, _, hsz34, _⟩ := info_parts info3; have hroom34 : x5_1.length ≤ co11 := (Kd.R_reads' HO_5.out).2.1; have hC34 : Kd.C (Kd.int .i64) _ Ao11 x5_1.length x5_1 := (Kd.R_reads' HO_5.out).2.2; have q034 : (0 : Int) ≤ ((ji30) : Int) := of_decide_eq_true (by first | (with_reducible assumption) | assumption); have hcut34 := cut_from (P := Try.prog) 27 3 .i64 Try.underlying27 hi034 1 hsz34 Ao11 x5_1.length co11 (ji30) q034 q34; have hr34 := Kd.C_drop (m := ((ji30) : Int).toNat) (c := co11) hC34 (by omega) hroom34; obtain ⟨A34, hA34⟩ : ∃ A1, A1 = (if co11 = ((ji30) : Int).toNat then Ao11 else (Ao11 : Option Addr).map (·.add (((ji30) : Int).toNat * 1))) := ⟨_, rfl⟩; obtain ⟨c34, hc34⟩ : ∃ c1, c1 = co11 - ((ji30) : Int).toNat := ⟨_, rfl⟩; have hy34 : y153.length = x5_1.length - ((ji30) : Int).toNat := (by rw [Ny153.out, List.length_drop] <;> omega); rw [show (x5_1).drop ((ji30) : Int).toNat = y153 from Ny153.out.symm] at hr34; replace hr34 : Kd.C (Kd.int .i64) _ A34 y153.length y153 := (by rw [hA34]; exact hr34); rw [← hy34, ← hA34, ← hc34] at hcut34; have HR156 := Aside0.mk hr34; have HC156 := Aside0.mk (show y153.length ≤ c34 from by rw [hy34, hc34]; exact Nat.sub_le_sub_right hroom34 _); clear hr34 hC34 hroom34 hi034 hsz34 hc34; have KY34 := Aside0.mk hy34; have KA34 := Aside0.mk hA34; clear hy34 hA34; have KL34 := Aside0.mk (show ((ji30) : Int).toNat ≤ x5_1.length from by omega); replace q34 := eq_true q34) | ((with_reducible refine gate_callee (f := 49) rfl ?_); have hj_ : 0 ≤ ((ji27) : Int) := of_decide_eq_true (by first | (with_reducible assumption) | assumption); have hl_ : (ji30 : Int) ≤ (x5_1.length : Int) := of_decide_eq_true (by first | (with_reducible assumption) | assumption); have hh_ : ((ji27) : Int) ≤ (x5_1.length : Int) := of_decide_eq_true (by first | (with_reducible assumption) | assumption); have hb_ := (Kd.R_reads' HO_5.out).2.2.2.1; have h0_ : (0 : Int) ≤ (ji30 : Int) := of_decide_eq_true (by first | (with_reducible assumption) | assumption); have hy1_ := KY33.out; have hk_ : (ji30 : Int).toNat = y149.length + 1 := (by have hw_ : (ji30 : Int) = (ji27) + 1 := (by have h00_ := h0_; rw [← hji30] at h00_ ⊢; unfold wrap64 at h00_ ⊢; omega); rw [hw_]; omega); obtain ⟨gd36, cap_, ev_, _⟩ := Kd.R_form HO_5.out (by omega); injection ev_ with ea_ _ ec_; (first | subst ea_ | (injection ea_ with ea_; subst ea_)); subst ec_; have hp_ := placeWrap A26.out A25.out; have hq_ : (ji30 : Int) = t148 := (by rw [← hp_.1, ← hji30, ← hji27]; exact hp_.2); have hw2_ : (t148 : Int) = ji27 + 1 := (by omega); refine goesL_ (some 76) rfl rfl Try.func49 (by kernel_rfl) rfl #[.slice (some ⟨gd36, 0, none⟩) x5_1.length co11, .int .i64 ji27, .int .i64 t148] rfl (by (try simp only [List.map_toArray, List.map_cons, List.map_nil]); first | done | rfl) ?_; refine (delR (by (with_reducible repeat (first | apply Kd.R_alloc | apply Kd.R_drewN | apply Kd.R_drew)); exact HO_5.out) hj_ hw2_ (by omega) (by repeat (first | (with_reducible first | exact HB.out | apply below_alloc | apply pw_below_drewN | apply below_drew1) | exact HB.out)) (below_size (by repeat (first | (with_reducible first | exact HB.out | apply below_alloc | apply pw_below_drewN | apply below_drew1) | exact HB.out)))).mono ?_; rintro e w35 ⟨rfl, ho, hb, hg⟩; refine ⟨_, rfl, ?_⟩; clear hj_ hl_ hh_ hb_ hk_ h0_ hw2_; rw [← Ny157.out] at ho; clear hy1_; have hn_ : x5_1.length - 1 = y157.length := (by have := (Kd.R_reads' ho).1; omega); rw [hn_] at ho ⊢; clear hn_; have n0_ := Aside0.mk (ho); have n2_ := Aside0.mk (hb); clear HO_5; clear HO_33; clear HB; have HO_5 := n0_; have HB := n2_; clear n0_ n2_; clear ho hb hg; (try clear hp_ hq_)))
                              go_roundg k2
                              case measure => have := HK1.out; have := HK2.out; omega
                              case rel => exact ⟨(y157), (x6_2), (wrap64 (x25_1 + 1)), (by first | rfl | (simp; done) | (simp [*]; done)), (by first | rfl | (simp; done) | (simp [*]; done)), H', ⟨by have := HK1.out; have := HK2.out; omega⟩, ⟨by (with_reducible repeat (first | apply Kd.R_alloc | apply Kd.R_drewN | apply Kd.R_drew)); exact HO_5.out⟩, ⟨by repeat (first | (with_reducible first | exact HB.out | apply below_alloc | apply pw_below_drewN | apply below_drew1) | exact HB.out)⟩⟩
                            · rw [if_neg c32] at H
                              exact absurd H (by simp)
                          · rw [if_neg c31] at H
                            exact absurd H (by simp)
                        · rw [if_neg c29] at H
                          exact absurd H (by simp)
                      · rw [if_neg c28] at H
                        exact absurd H (by simp)
              · rw [if_neg c10] at H
                exact absurd H (by simp)
            · rw [if_neg c9] at H
              exact absurd H (by simp)
          · rw [if_neg c8] at H
            have c8b0 : decide (x25_1 < (l0.length : Int)) = false := decide_eq_false c8
            clear c8
            simp only [Option.some.injEq, Prod.mk.injEq] at H
            obtain ⟨rfl, rfl⟩ := H
            go_wp2
            go_ret2
            exact ⟨by first | rfl | (simp [errW_none, errW_some] <;> rfl) | (simp [*, errW_none, errW_some] <;> rfl), by repeat (first | (with_reducible first | exact HB.out | apply below_alloc | apply pw_below_drewN | apply below_drew1) | exact HB.out)⟩
    · replace c5 := Bool.eq_false_iff.mpr c5
      subst c5
      have H1 : (some (0, 9)) = some (r1, r2) := by rw [if_neg (show ¬ (false = true) by decide)] at H; exact H
      clear H
      have H := H1
      clear H1
      simp only [Option.some.injEq, Prod.mk.injEq] at H
      obtain ⟨rfl, rfl⟩ := H
      go_enter Try.func18, Try.ntmps18
      go_wp2_with (first | ((with_reducible refine gate_callee (f := 44) rfl ?_); refine goesL_ (some 13) rfl rfl Try.func44 (by kernel_rfl) rfl #[.slice A0 l0.length c0] rfl (by (try simp only [List.map_toArray, List.map_cons, List.map_nil]); first | done | rfl | (simp only [List.length_drop, List.length_take]; rfl)) ?_; (with_reducible refine (waves_read.calls k _ _ l0 t137 _ ?side1 ?side2 A2.out).mono ?_); (case side1 => repeat (first | exact HR0.out | (with_reducible refine Kd.C_alloc ?_ _) | (with_reducible refine Kd.C_drewN ?_ _) | (with_reducible refine Kd.C_drew ?_))); (case side2 => exact HC0.out); rintro e w' ⟨rfl, ⟨nd, rfl⟩⟩; refine ⟨_, rfl, ?_⟩) | ((with_reducible refine gate_callee (f := 45) rfl ?_); refine goesL_ (some 18) rfl rfl Try.func45 (by kernel_rfl) rfl #[.slice A0 l0.length c0] rfl (by (try simp only [List.map_toArray, List.map_cons, List.map_nil]); first | done | rfl | (simp only [List.length_drop, List.length_take]; rfl)) ?_; (with_reducible refine (waves_up.calls k _ _ l0 false _ ?side1 ?side2 A4.out).mono ?_); (case side1 => repeat (first | exact HR0.out | (with_reducible refine Kd.C_alloc ?_ _) | (with_reducible refine Kd.C_drewN ?_ _) | (with_reducible refine Kd.C_drew ?_))); (case side2 => exact HC0.out); rintro e w' ⟨rfl, ⟨nd, rfl⟩⟩; refine ⟨_, rfl, ?_⟩))
      go_ret2
      exact ⟨by first | rfl | (simp [errW_none, errW_some] <;> rfl) | (simp [*, errW_none, errW_some] <;> rfl), by repeat (first | (with_reducible first | exact HB.out | apply below_alloc | apply pw_below_drewN | apply below_drew1) | exact HB.out)⟩
  · rw [if_neg c3] at H
    have c3b0 : (t137 == 0) = false := beq_eq_false_iff_ne.mpr c3
    have c3b1 : (t137 != 0) = true := bne_iff_ne.mpr c3
    simp only [Option.some.injEq, Prod.mk.injEq] at H
    obtain ⟨rfl, rfl⟩ := H
    go_enter Try.func18, Try.ntmps18
    go_wp2_with (first | ((with_reducible refine gate_callee (f := 44) rfl ?_); refine goesL_ (some 13) rfl rfl Try.func44 (by kernel_rfl) rfl #[.slice A0 l0.length c0] rfl (by (try simp only [List.map_toArray, List.map_cons, List.map_nil]); first | done | rfl | (simp only [List.length_drop, List.length_take]; rfl)) ?_; (with_reducible refine (waves_read.calls k _ _ l0 t137 _ ?side1 ?side2 A2.out).mono ?_); (case side1 => repeat (first | exact HR0.out | (with_reducible refine Kd.C_alloc ?_ _) | (with_reducible refine Kd.C_drewN ?_ _) | (with_reducible refine Kd.C_drew ?_))); (case side2 => exact HC0.out); rintro e w' ⟨rfl, ⟨nd, rfl⟩⟩; refine ⟨_, rfl, ?_⟩))
    go_ret2
    exact ⟨by first | rfl | (simp [errW_none, errW_some] <;> rfl) | (simp [*, errW_none, errW_some] <;> rfl), by repeat (first | (with_reducible first | exact HB.out | apply below_alloc | apply pw_below_drewN | apply below_drew1) | exact HB.out)⟩

end Go.Proofs.Ytmigibamdeodpaa.Print
