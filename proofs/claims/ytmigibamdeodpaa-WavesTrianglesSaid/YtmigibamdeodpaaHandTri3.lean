/- WavesTriangles: the walk. -/
import Derived.Test.YtmigibamdeodpaaPrintx1
import Derived.Test.YtmigibamdeodpaaPrintx2
import Derived.Test.YtmigibamdeodpaaPrintx9
import Derived.Test.YtmigibamdeodpaaWAt
namespace Go.Proofs.Ytmigibamdeodpaa.Print
open Go.RowKit Go.Proofs.YtmigibamdeodpaaW.PrintWords Go.Proofs.YtmigibamdeodpaaW.PrintLast Go.Proofs.YtmigibamdeodpaaW.PrintMore
attribute [local go_sem] max2_int min2_int max_two min_two max_three min_three max_four min_four   -- for this text's walks alone
set_option linter.unusedVariables false
set_option linter.unusedSimpArgs false

/-! ### clochelaw05_WavesTriangles: function 3 -/
mutual
def clochelaw05_WavesTriangles.l0 : Nat → Int → List (List Int) → Int → Int → Option (Bool)
  | 0, _, _, _, _ => none
  | k + 1, x0, x1, x2, x5 => if x5 < 2 then ((waves_Triangle.f x0).bind fun bt238 => (if (bt238.1.length : Int) = (x1.length : Int) then (clochelaw05_WavesTriangles.j1 k x0 x1 x2 x5 bt238.1 (bt238.2 != x2)) else (clochelaw05_WavesTriangles.j1 k x0 x1 x2 x5 bt238.1 true))) else ((clochelaw05_alive.f k).bind fun t237 => (some t237))
def clochelaw05_WavesTriangles.j1 : Nat → Int → List (List Int) → Int → Int → List (List Int) → Bool → Option (Bool)
  | 0, _, _, _, _, _, _ => none
  | k + 1, x0, x1, x2, x5, x6, x32 => if x32 = true then (some false) else (clochelaw05_WavesTriangles.l1 k x0 x1 x2 x5 x6 0)
def clochelaw05_WavesTriangles.l1 : Nat → Int → List (List Int) → Int → Int → List (List Int) → Int → Option (Bool)
  | 0, _, _, _, _, _, _ => none
  | k + 1, x0, x1, x2, x5, x6, x8 => if x8 < (x6.length : Int) then (if 0 ≤ x8 then (if x8 < (x1.length : Int) then ((clochelaw05_same.f k (rd_L1 x6 x8) (rd_L1 x1 x8)).bind fun t244 => (if t244 = true then (if 0 < ((rd_L1 x6 x8).length : Int) then (clochelaw05_WavesTriangles.l1 k x0 x1 x2 x5 (x6.set (x8 : Int).toNat ((rd_L1 x6 x8).set (0 : Int).toNat (-3))) (wrap64 (x8 + 1))) else (none)) else (some false))) else (none)) else (none)) else (clochelaw05_WavesTriangles.l0 k x0 x1 x2 (wrap64 (x5 + 1)))
end
def clochelaw05_WavesTriangles.g (k : Nat) (a0 : Int) (l1 : List (List Int)) (a2 : Int) : Option (Bool) := clochelaw05_WavesTriangles.l0 k a0 l1 a2 0
theorem clochelaw05_WavesTriangles.mono_l : ∀ k, (∀ y0 y1 y2 y3, LeO (clochelaw05_WavesTriangles.l0 k y0 y1 y2 y3) (clochelaw05_WavesTriangles.l0 (k + 1) y0 y1 y2 y3)) ∧ (∀ y0 y1 y2 y3 y4 y5, LeO (clochelaw05_WavesTriangles.j1 k y0 y1 y2 y3 y4 y5) (clochelaw05_WavesTriangles.j1 (k + 1) y0 y1 y2 y3 y4 y5)) ∧ (∀ y0 y1 y2 y3 y4 y5, LeO (clochelaw05_WavesTriangles.l1 k y0 y1 y2 y3 y4 y5) (clochelaw05_WavesTriangles.l1 (k + 1) y0 y1 y2 y3 y4 y5))
  | 0 => ⟨fun _ _ _ _ r h => by simp [clochelaw05_WavesTriangles.l0] at h, fun _ _ _ _ _ _ r h => by simp [clochelaw05_WavesTriangles.j1] at h, fun _ _ _ _ _ _ r h => by simp [clochelaw05_WavesTriangles.l1] at h⟩
  | k + 1 => by
    obtain ⟨ih0, ih1, ih2⟩ := clochelaw05_WavesTriangles.mono_l k
    refine ⟨?_, ?_, ?_⟩
    · intro y0 y1 y2 y3
      unfold clochelaw05_WavesTriangles.l0
      repeat' first
      | (with_reducible exact ih0 _ _ _ _)
      | (with_reducible exact ih1 _ _ _ _ _ _)
      | (with_reducible exact ih2 _ _ _ _ _ _)
      | (with_reducible exact clochelaw05_alive.mono _)
      | (with_reducible exact clochelaw05_same.mono _ _ _)
      | (with_reducible exact LeO.refl _)
      | (with_reducible exact LeO.none _)
      | (with_reducible refine LeO.ite ?_ ?_)
      | (with_reducible refine LeO.bind ?_ (fun _ => ?_))
      | exact ih0 _ _ _ _
      | exact ih1 _ _ _ _ _ _
      | exact ih2 _ _ _ _ _ _
      | exact clochelaw05_alive.mono _
      | exact clochelaw05_same.mono _ _ _
      | exact LeO.none _
      | refine LeO.ite ?_ ?_
      | refine LeO.bind ?_ (fun _ => ?_)
    · intro y0 y1 y2 y3 y4 y5
      unfold clochelaw05_WavesTriangles.j1
      repeat' first
      | (with_reducible exact ih0 _ _ _ _)
      | (with_reducible exact ih1 _ _ _ _ _ _)
      | (with_reducible exact ih2 _ _ _ _ _ _)
      | (with_reducible exact clochelaw05_alive.mono _)
      | (with_reducible exact clochelaw05_same.mono _ _ _)
      | (with_reducible exact LeO.refl _)
      | (with_reducible exact LeO.none _)
      | (with_reducible refine LeO.ite ?_ ?_)
      | (with_reducible refine LeO.bind ?_ (fun _ => ?_))
      | exact ih0 _ _ _ _
      | exact ih1 _ _ _ _ _ _
      | exact ih2 _ _ _ _ _ _
      | exact clochelaw05_alive.mono _
      | exact clochelaw05_same.mono _ _ _
      | exact LeO.none _
      | refine LeO.ite ?_ ?_
      | refine LeO.bind ?_ (fun _ => ?_)
    · intro y0 y1 y2 y3 y4 y5
      unfold clochelaw05_WavesTriangles.l1
      repeat' first
      | (with_reducible exact ih0 _ _ _ _)
      | (with_reducible exact ih1 _ _ _ _ _ _)
      | (with_reducible exact ih2 _ _ _ _ _ _)
      | (with_reducible exact clochelaw05_alive.mono _)
      | (with_reducible exact clochelaw05_same.mono _ _ _)
      | (with_reducible exact LeO.refl _)
      | (with_reducible exact LeO.none _)
      | (with_reducible refine LeO.ite ?_ ?_)
      | (with_reducible refine LeO.bind ?_ (fun _ => ?_))
      | exact ih0 _ _ _ _
      | exact ih1 _ _ _ _ _ _
      | exact ih2 _ _ _ _ _ _
      | exact clochelaw05_alive.mono _
      | exact clochelaw05_same.mono _ _ _
      | exact LeO.none _
      | refine LeO.ite ?_ ?_
      | refine LeO.bind ?_ (fun _ => ?_)
theorem clochelaw05_WavesTriangles.mono_g : ∀ a0 a1 a2 k, LeO (clochelaw05_WavesTriangles.g k a0 a1 a2) (clochelaw05_WavesTriangles.g (k + 1) a0 a1 a2) := by
  intro a0 a1 a2 k
  obtain ⟨ih0, ih1, ih2⟩ := clochelaw05_WavesTriangles.mono_l k
  unfold clochelaw05_WavesTriangles.g
  repeat' first
      | (with_reducible exact ih0 _ _ _ _)
      | (with_reducible exact ih1 _ _ _ _ _ _)
      | (with_reducible exact ih2 _ _ _ _ _ _)
      | (with_reducible exact clochelaw05_alive.mono _)
      | (with_reducible exact clochelaw05_same.mono _ _ _)
      | (with_reducible exact LeO.refl _)
      | (with_reducible exact LeO.none _)
      | (with_reducible refine LeO.ite ?_ ?_)
      | (with_reducible refine LeO.bind ?_ (fun _ => ?_))
      | exact ih0 _ _ _ _
      | exact ih1 _ _ _ _ _ _
      | exact ih2 _ _ _ _ _ _
      | exact clochelaw05_alive.mono _
      | exact clochelaw05_same.mono _ _ _
      | exact LeO.none _
      | refine LeO.ite ?_ ?_
      | refine LeO.bind ?_ (fun _ => ?_)
def clochelaw05_WavesTriangles.f (k : Nat) (a0 : Int) : Option (Bool) := (clocheref05_Triangle.f k a0).bind fun bt => clochelaw05_WavesTriangles.g k a0 bt.1 bt.2
set_option maxHeartbeats 8000000 in
set_option maxRecDepth 100000 in
theorem clochelaw05_WavesTriangles.calls (k : Nat) (a0 : Int) (r : Bool) (w0 : World) (h : clochelaw05_WavesTriangles.f k a0 = some r) :
    Calls Try.prog 3 #[.int .i64 a0] w0 fun e w' => e = .returned (.bool r) ∧ Below w0.heap.size w0 w' := by
  unfold clochelaw05_WavesTriangles.f at h
  obtain ⟨⟨l1, a2⟩, hs, h⟩ := Option.bind_eq_some_iff.mp h
  have HS := Aside0.mk hs
  clear hs
  have H : (clochelaw05_WavesTriangles.l0 k a0 l1 a2 0) = some r := h
  clear h
  have H' := Aside0.mk H
  clear H
  have HB := Aside0.mk (Below.refl w0.heap.size w0)
  go_enter Try.func3, Try.ntmps3
  go_wp2_with (first | (go_at_call 14; (with_reducible refine (clocheref05_Triangle.calls k a0 l1 a2 _ HS.out).mono ?_); rintro e w ⟨v1, rfl, ho0, hb⟩; have HBW := Aside0.mk (below_step (by repeat (first | (with_reducible first | exact HB.out | apply below_alloc | apply pw_below_drewN | apply below_drew1) | exact HB.out)) hb); clear HB; obtain ⟨A1, c1, rfl, hc1, hr1⟩ := Kd.N_reads ho0; have HR1 := Aside0.mk hr1; have HC1 := Aside0.mk hc1; clear hr1 hc1 ho0 hb HS; have HB := Aside0.mk (Below.refl w.heap.size w)))
  repeat (go_quiet (first | (go_at_call 14; (with_reducible refine (clocheref05_Triangle.calls k a0 l1 a2 _ HS.out).mono ?_); rintro e w ⟨v1, rfl, ho0, hb⟩; have HBW := Aside0.mk (below_step (by repeat (first | (with_reducible first | exact HB.out | apply below_alloc | apply pw_below_drewN | apply below_drew1) | exact HB.out)) hb); clear HB; obtain ⟨A1, c1, rfl, hc1, hr1⟩ := Kd.N_reads ho0; have HR1 := Aside0.mk hr1; have HC1 := Aside0.mk hc1; clear hr1 hc1 ho0 hb HS; have HB := Aside0.mk (Below.refl w.heap.size w))); try go_wp2_with (first | (go_at_call 14; (with_reducible refine (clocheref05_Triangle.calls k a0 l1 a2 _ HS.out).mono ?_); rintro e w ⟨v1, rfl, ho0, hb⟩; have HBW := Aside0.mk (below_step (by repeat (first | (with_reducible first | exact HB.out | apply below_alloc | apply pw_below_drewN | apply below_drew1) | exact HB.out)) hb); clear HB; obtain ⟨A1, c1, rfl, hc1, hr1⟩ := Kd.N_reads ho0; have HR1 := Aside0.mk hr1; have HC1 := Aside0.mk hc1; clear hr1 hc1 ho0 hb HS; have HB := Aside0.mk (Below.refl w.heap.size w))))
  go_loopg [5] k (fun kq v5 w' => ∃ (x5_1 : Int), v5 = .int .i64 x5_1 ∧ Aside0 (clochelaw05_WavesTriangles.l0 kq a0 l1 a2 x5_1 = some r) ∧ Aside0 (kq ≤ k) ∧ Aside0 (Below w.heap.size w w'))
  case atStart => exact ⟨(0), (by first | rfl | (simp; done) | (simp [*]; done)), H', ⟨Nat.le_refl _⟩, ⟨by repeat (first | (with_reducible first | exact HB.out | apply below_alloc | apply pw_below_drewN | apply below_drew1) | exact HB.out)⟩⟩
  case round =>
    clear H'
    try clear c1
    try clear p2
    try clear c3
    obtain ⟨x5_1, rfl, HA, HK1, HB⟩ := hrel
    cases gk with
    | zero => exact absurd HA.out (by simp [clochelaw05_WavesTriangles.l0])
    | succ k1 =>
      have H := HA.out
      clear HA
      simp only [clochelaw05_WavesTriangles.l0] at H
      by_cases c4 : x5_1 < 2
      · rw [if_pos c4] at H
        have c4b0 : decide (x5_1 < 2) = true := decide_eq_true c4
        clear c4
        replace H := Option.bind_eq_some_iff.mp H
        obtain ⟨⟨t238, t239⟩, A50, H⟩ := H
        replace H : (if (t238.length : Int) = (l1.length : Int) then (clochelaw05_WavesTriangles.j1 k1 a0 l1 a2 x5_1 t238 (t239 != a2)) else (clochelaw05_WavesTriangles.j1 k1 a0 l1 a2 x5_1 t238 true)) = some r := H
        have A5 := Aside0.mk A50
        clear A50
        have HC6 := Aside0.mk H
        clear H
        go_upto_region 6 with (first | (go_at_call 15; (with_reducible refine (waves_Triangle.calls a0 t238 t239 _ A5.out).mono ?_); rintro e w7 ⟨v240, rfl, ho0, hb⟩; have n0_ := Aside0.mk (Kd.S_lower ho0 (below_size (by repeat (first | (with_reducible first | exact HB.out | apply below_alloc | apply pw_below_drewN | apply below_drew1) | exact HB.out)))); have n1_ := Aside0.mk (below_step (by repeat (first | (with_reducible first | exact HB.out | apply below_alloc | apply pw_below_drewN | apply below_drew1) | exact HB.out)) hb); clear HB; have HO241 := n0_; have HB := n1_; clear n0_ n1_; (try clear hb); (try clear hb2); (try clear hk); (try clear hi); (try clear ho0)))
        repeat (go_quiet (first | (go_at_call 15; (with_reducible refine (waves_Triangle.calls a0 t238 t239 _ A5.out).mono ?_); rintro e w7 ⟨v240, rfl, ho0, hb⟩; have n0_ := Aside0.mk (Kd.S_lower ho0 (below_size (by repeat (first | (with_reducible first | exact HB.out | apply below_alloc | apply pw_below_drewN | apply below_drew1) | exact HB.out)))); have n1_ := Aside0.mk (below_step (by repeat (first | (with_reducible first | exact HB.out | apply below_alloc | apply pw_below_drewN | apply below_drew1) | exact HB.out)) hb); clear HB; have HO241 := n0_; have HB := n1_; clear n0_ n1_; (try clear hb); (try clear hb2); (try clear hk); (try clear hi); (try clear ho0))); go_upto_region 6 with (first | (go_at_call 15; (with_reducible refine (waves_Triangle.calls a0 t238 t239 _ A5.out).mono ?_); rintro e w7 ⟨v240, rfl, ho0, hb⟩; have n0_ := Aside0.mk (Kd.S_lower ho0 (below_size (by repeat (first | (with_reducible first | exact HB.out | apply below_alloc | apply pw_below_drewN | apply below_drew1) | exact HB.out)))); have n1_ := Aside0.mk (below_step (by repeat (first | (with_reducible first | exact HB.out | apply below_alloc | apply pw_below_drewN | apply below_drew1) | exact HB.out)) hb); clear HB; have HO241 := n0_; have HB := n1_; clear n0_ n1_; (try clear hb); (try clear hb2); (try clear hk); (try clear hi); (try clear ho0))))
        (try simp only [Act.put, List.setIfInBounds_toArray, List.set_cons_zero, List.set_cons_succ])
        go_cut [32] (fun v32 wc => ∃ (kq : Nat) (x32_5 : Bool), v32 = .bool x32_5 ∧ Aside0 (clochelaw05_WavesTriangles.j1 kq a0 l1 a2 x5_1 t238 x32_5 = some r) ∧ Aside0 (kq ≤ k1) ∧ Aside0 (Kd.S (Kd.slice 3 (Kd.int .i64)) 27 wc w.heap.size (fun _ => True) v240 t238) ∧ Aside0 (Below w.heap.size w wc))
        case first =>
          have H := HC6.out
          clear HC6
          by_cases c8 : (t238.length : Int) = (l1.length : Int)
          · rw [if_pos c8] at H
            have c8b0 : ((t238.length : Int) == (l1.length : Int)) = true := beq_iff_eq.mpr c8
            have c8b1 : ((t238.length : Int) != (l1.length : Int)) = false := bne_eq_false_iff_eq.mpr c8
            have c8b2 : (t238.length == l1.length) = true := by first | simpa using c8 | (simp at c8 ⊢; omega)
            clear c8
            (first | rw [c8b0] | (simp only [i64_w, i32_w]; rw [c8b0]) | skip)
            have H' := Aside0.mk H
            clear H
            obtain ⟨Ao9, co9, eo9⟩ := Kd.S_slice HO241.out
            subst eo9
            go_wp2
            repeat (go_quiet (fail); try go_wp2)
            go_meet
            case rel => exact ⟨_, ((t239 != a2)), (by first | rfl | (simp; done) | (simp [*]; done)), H', ⟨by have := HK1.out; first | omega | exact Nat.le_refl _⟩, ⟨by (with_reducible repeat (first | apply Kd.S_alloc | apply Kd.S_drewN | apply Kd.S_drew)); exact HO241.out⟩, ⟨by repeat (first | (with_reducible first | exact HB.out | apply below_alloc | apply pw_below_drewN | apply below_drew1) | exact HB.out)⟩⟩
          · rw [if_neg c8] at H
            have c8b0 : ((t238.length : Int) == (l1.length : Int)) = false := beq_eq_false_iff_ne.mpr c8
            have c8b1 : ((t238.length : Int) != (l1.length : Int)) = true := bne_iff_ne.mpr c8
            have c8b2 : (t238.length == l1.length) = false := by first | simpa using c8 | (simp at c8 ⊢; omega)
            (first | rw [c8b0] | (simp only [i64_w, i32_w]; rw [c8b0]) | skip)
            have H' := Aside0.mk H
            clear H
            obtain ⟨Ao10, co10, eo10⟩ := Kd.S_slice HO241.out
            subst eo10
            go_wp2
            repeat (go_quiet (fail); try go_wp2)
            go_meet
            case rel => exact ⟨_, (true), (by first | rfl | (simp; done) | (simp [*]; done)), H', ⟨by have := HK1.out; first | omega | exact Nat.le_refl _⟩, ⟨by (with_reducible repeat (first | apply Kd.S_alloc | apply Kd.S_drewN | apply Kd.S_drew)); exact HO241.out⟩, ⟨by repeat (first | (with_reducible first | exact HB.out | apply below_alloc | apply pw_below_drewN | apply below_drew1) | exact HB.out)⟩⟩
        case rest =>
          clear HC6
          try clear c1
          try clear p2
          try clear c3
          try clear c4
          try clear c4b0
          try clear c8
          try clear c8b0
          try clear c8b1
          try clear c8b2
          try clear p2
          obtain ⟨kq, x32_5, rfl, HA, HJ5, HO_6, HB⟩ := hcut
          cases kq with
          | zero => exact absurd HA.out (by simp [clochelaw05_WavesTriangles.j1])
          | succ kj5 =>
            have H := HA.out
            clear HA
            simp only [clochelaw05_WavesTriangles.j1] at H
            by_cases c11 : x32_5 = true
            · subst c11
              have H1 : (some false) = some r := by rw [if_pos rfl] at H; exact H
              clear H
              have H := H1
              clear H1
              obtain rfl := Option.some.inj H
              go_wp2
              repeat (go_quiet (fail); try go_wp2)
              go_ret
              exact ⟨by first | rfl | (simp [errW_none, errW_some] <;> rfl) | (simp [*, errW_none, errW_some] <;> rfl), below_step HBW.out (by repeat (first | (with_reducible first | exact HB.out | apply below_alloc | apply pw_below_drewN | apply below_drew1) | exact HB.out))⟩
            · replace c11 := Bool.eq_false_iff.mpr c11
              subst c11
              have H1 : (clochelaw05_WavesTriangles.l1 kj5 a0 l1 a2 x5_1 t238 0) = some r := by rw [if_neg (show ¬ (false = true) by decide)] at H; exact H
              clear H
              have H := H1
              clear H1
              have H' := Aside0.mk H
              clear H
              go_wp2
              repeat (go_quiet (fail); try go_wp2)
              go_loopg [8] kj5 (fun kq v8 w' => ∃ (x6_3 : List (List Int)) (x8_3 : Int), v8 = .int .i64 x8_3 ∧ Aside0 (clochelaw05_WavesTriangles.l1 kq a0 l1 a2 x5_1 x6_3 x8_3 = some r) ∧ Aside0 (kq ≤ kj5) ∧ Aside0 (Kd.S (Kd.slice 3 (Kd.int .i64)) 27 w' w.heap.size (fun _ => True) v240 x6_3) ∧ Aside0 (Below w.heap.size w w'))
              case atStart => exact ⟨(t238), (0), (by first | rfl | (simp; done) | (simp [*]; done)), H', ⟨Nat.le_refl _⟩, ⟨by (with_reducible repeat (first | apply Kd.S_alloc | apply Kd.S_drewN | apply Kd.S_drew)); exact HO_6.out⟩, ⟨by repeat (first | (with_reducible first | exact HB.out | apply below_alloc | apply pw_below_drewN | apply below_drew1) | exact HB.out)⟩⟩
              case round =>
                clear H'
                try clear c1
                try clear p2
                try clear c3
                try clear c4
                try clear c4b0
                try clear c8
                try clear c8b0
                try clear c8b1
                try clear c8b2
                try clear c11
                try clear p2
                obtain ⟨x6_3, x8_3, rfl, HA, HK3, HO_6, HB⟩ := hrel
                cases gk with
                | zero => exact absurd HA.out (by simp [clochelaw05_WavesTriangles.l1])
                | succ k3 =>
                  have H := HA.out
                  clear HA
                  simp only [clochelaw05_WavesTriangles.l1] at H
                  by_cases c12 : x8_3 < (x6_3.length : Int)
                  · rw [if_pos c12] at H
                    have c12b0 : decide (x8_3 < (x6_3.length : Int)) = true := decide_eq_true c12
                    clear c12
                    by_cases c13 : 0 ≤ x8_3
                    · rw [if_pos c13] at H
                      have c13b0 : decide (0 ≤ x8_3) = true := decide_eq_true c13
                      clear c13
                      by_cases c14 : x8_3 < (l1.length : Int)
                      · rw [if_pos c14] at H
                        have c14b0 : decide (x8_3 < (l1.length : Int)) = true := decide_eq_true c14
                        clear c14
                        replace H := Option.bind_eq_some_iff.mp H
                        obtain ⟨t244, A150, H⟩ := H
                        replace H : (if t244 = true then (if 0 < ((rd_L1 x6_3 x8_3).length : Int) then (clochelaw05_WavesTriangles.l1 k3 a0 l1 a2 x5_1 (x6_3.set (x8_3 : Int).toNat ((rd_L1 x6_3 x8_3).set (0 : Int).toNat (-3))) (wrap64 (x8_3 + 1))) else (none)) else (some false)) = some r := H
                        have A15 := Aside0.mk A150
                        clear A150
                        by_cases c16 : t244 = true
                        · subst c16
                          have H1 : (if 0 < ((rd_L1 x6_3 x8_3).length : Int) then (clochelaw05_WavesTriangles.l1 k3 a0 l1 a2 x5_1 (x6_3.set (x8_3 : Int).toNat ((rd_L1 x6_3 x8_3).set (0 : Int).toNat (-3))) (wrap64 (x8_3 + 1))) else (none)) = some r := by rw [if_pos rfl] at H; exact H
                          clear H
                          have H := H1
                          clear H1
                          by_cases c17 : 0 < ((rd_L1 x6_3 x8_3).length : Int)
                          · rw [if_pos c17] at H
                            have c17b0 : decide (0 < ((rd_L1 x6_3 x8_3).length : Int)) = true := decide_eq_true c17
                            have c17b1 : decide (0 < (rd_L1 x6_3 x8_3).length) = true := decide_eq_true (by omega)
                            clear c17
                            obtain ⟨y246, hy246⟩ : ∃ y_ : List Int, y_ = ((rd_L1 x6_3 x8_3).set (0 : Int).toNat (-3)) := ⟨_, rfl⟩
                            replace H : (clochelaw05_WavesTriangles.l1 k3 a0 l1 a2 x5_1 (x6_3.set (x8_3 : Int).toNat y246) (wrap64 (x8_3 + 1))) = some r := by first | (rw [hy246]; with_reducible exact H) | (have H2_ := (Option.bind_some _ _).symm.trans H; rw [hy246]; with_reducible exact H2_) | (have H2_ := (Option.bind_some _ _).symm.trans H; with_reducible exact H2_) | with_reducible exact H | (rw [hy246]; exact H) | exact H
                            have Ny246 := Aside0.mk hy246
                            clear hy246
                            obtain ⟨y248, hy248⟩ : ∃ y_ : List (List Int), y_ = (x6_3.set (x8_3 : Int).toNat y246) := ⟨_, rfl⟩
                            replace H : (clochelaw05_WavesTriangles.l1 k3 a0 l1 a2 x5_1 y248 (wrap64 (x8_3 + 1))) = some r := by first | (rw [hy248]; with_reducible exact H) | (have H2_ := (Option.bind_some _ _).symm.trans H; rw [hy248]; with_reducible exact H2_) | (have H2_ := (Option.bind_some _ _).symm.trans H; with_reducible exact H2_) | with_reducible exact H | (rw [hy248]; exact H) | exact H
                            have Ny248 := Aside0.mk hy248
                            clear hy248
                            have H' := Aside0.mk H
                            clear H
                            obtain ⟨Ao19, co19, eo19⟩ := Kd.S_slice HO_6.out
                            subst eo19
                            have p242 : 0 ≤ (x8_3 : Int) := of_decide_eq_true (by first | (with_reducible assumption) | assumption)
                            have q242 : x8_3 < (x6_3.length : Int) := of_decide_eq_true (by first | (with_reducible assumption) | assumption)
                            obtain ⟨ad242, A242_0, c242_0, e242, hx242_0, hl242_0, hi242_0⟩ := at_L1 (Kd.S_reads' HO_6.out).2.2 x8_3 p242 q242
                            cases e242
                            obtain ⟨ce242, hce242, hMe242, hcc242⟩ := Kd.S_get HO_6.out [] x8_3 p242 (by first | exact q242 | exact of_decide_eq_true (by first | (with_reducible assumption) | assumption) | (have e_ := (Kd.S_reads' HO_6.out).1; omega))
                            obtain ⟨ve242_0, rfl, ge242_0⟩ := hMe242
                            have hv242_0 := hcc242 0 _ rfl
                            rw [Nat.add_zero, show ((Kd.slice 3 (Kd.int .i64))).sz = 1 from rfl, Nat.mul_one] at hv242_0
                            replace hv242_0 := Option.some.inj (hv242_0.symm.trans hx242_0)
                            rw [hv242_0] at ge242_0
                            have HL242_0 := Aside0.mk (show Kd.R (Kd.int .i64) 3 _ _ _ _ (rd_L1 x6_3 x8_3) from ge242_0)
                            clear hv242_0 ge242_0
                            have HX242_0 := Aside0.mk hx242_0
                            clear hcc242 hce242
                            have HR242_0 := Aside0.mk hi242_0
                            have HC242_0 := Aside0.mk hl242_0
                            clear hi242_0 hl242_0
                            replace p242 := eq_true p242
                            replace q242 := eq_true q242
                            have p243 : 0 ≤ (x8_3 : Int) := of_decide_eq_true (by first | (with_reducible assumption) | assumption)
                            have q243 : x8_3 < (l1.length : Int) := of_decide_eq_true (by first | (with_reducible assumption) | assumption)
                            obtain ⟨ad243, A243_0, c243_0, e243, hx243_0, hl243_0, hi243_0⟩ := at_L1 HR1.out x8_3 p243 q243
                            cases e243
                            replace hx243_0 := (HB.out.cell (World.block_lt_of_cell? w _ hx243_0)).trans hx243_0
                            have HR243_0 := Aside0.mk hi243_0
                            have HC243_0 := Aside0.mk hl243_0
                            clear hi243_0 hl243_0
                            replace p243 := eq_true p243
                            replace q243 := eq_true q243
                            go_wp2_with (first | (go_at_call 16; (with_reducible refine (clochelaw05_same.calls k3 _ _ (rd_L1 x6_3 x8_3) _ _ (rd_L1 l1 x8_3) true _ ?side1 ?side2 ?side3 ?side4 A15.out).mono ?_); (case side1 => repeat (first | exact (by repeat (first | (with_reducible exact HR242_0.out) | (with_reducible refine Kd.C_alloc ?_ _) | (with_reducible refine Kd.C_drewN ?_ _) | (with_reducible refine Kd.C_drew ?_) | exact HR242_0.out)) | (with_reducible refine Kd.C_alloc ?_ _) | (with_reducible refine Kd.C_drewN ?_ _) | (with_reducible refine Kd.C_drew ?_))); (case side2 => exact HC242_0.out); (case side3 => repeat (first | exact (Kd.C_below HR243_0.out HB.out) | (with_reducible refine Kd.C_alloc ?_ _) | (with_reducible refine Kd.C_drewN ?_ _) | (with_reducible refine Kd.C_drew ?_))); (case side4 => exact HC243_0.out); rintro e w' ⟨rfl, ⟨nd, rfl⟩⟩; (try first | exact ⟨rfl, _, World.drewN_drewN _ _ _⟩ | exact ⟨rfl, _, Eq.trans (World.drewN_drewN _ _ _) (congrArg (World.drewN _) (Nat.add_assoc _ _ _))⟩); have p245 : 0 ≤ (x8_3 : Int) := of_decide_eq_true (by first | (with_reducible assumption) | assumption); have q245 : x8_3 < (x6_3.length : Int) := of_decide_eq_true (by first | (with_reducible assumption) | assumption); obtain ⟨ad245, A245_0, c245_0, e245, hx245_0, hl245_0, hi245_0⟩ := at_L1 (Kd.S_reads' HO_6.out).2.2 x8_3 p245 q245; obtain rfl : ad242 = ad245 := (by injection e245); obtain ⟨ce245, hce245, hMe245, hcc245⟩ := Kd.S_get HO_6.out [] x8_3 p245 (by first | exact q245 | exact of_decide_eq_true (by first | (with_reducible assumption) | assumption) | (have e_ := (Kd.S_reads' HO_6.out).1; omega)); obtain ⟨ve245_0, rfl, ge245_0⟩ := hMe245; have hv245_0 := hcc245 0 _ rfl; rw [Nat.add_zero, show ((Kd.slice 3 (Kd.int .i64))).sz = 1 from rfl, Nat.mul_one] at hv245_0; replace hv245_0 := Option.some.inj (hv245_0.symm.trans hx245_0); rw [hv245_0] at ge245_0; have HL245_0 := Aside0.mk (show Kd.R (Kd.int .i64) 3 _ _ _ _ (rd_L1 x6_3 x8_3) from ge245_0); clear hv245_0 ge245_0; have HX245_0 := Aside0.mk hx245_0; clear hcc245 hce245; have HR245_0 := Aside0.mk hi245_0; have HC245_0 := Aside0.mk hl245_0; clear hi245_0 hl245_0; replace p245 := eq_true p245; replace q245 := eq_true q245; have ea_ := Option.some.inj (hx242_0.symm.trans hx245_0); injection ea_ with ea_ en_ ec_; subst ea_; subst ec_; clear en_; have p18 : 0 ≤ (0 : Int) := (by omega); have q18 : (0 : Int) < (((rd_L1 x6_3 x8_3).length : Int) : Int) := of_decide_eq_true (by first | (with_reducible assumption) | assumption); have qi18 : (0 < (rd_L1 x6_3 x8_3).length) = True := eq_true (by omega); obtain ⟨go18, co18, eo18, gb18, gl18, cl18, HG18⟩ := Kd.R_form HL245_0.out (by omega); (first | cases eo18 | (injection eo18 with ea_ en_ ec_; (first | subst ea_ | (injection ea_ with ea_; subst ea_)); subst ec_; clear en_)); have GB18 := Aside0.mk gb18; have GG18 := Aside0.mk HG18; clear gb18 gl18 HG18; obtain ⟨hx18_0, hf18_0⟩ := Kd.R_celln 0 HL245_0.out (0 : Int) p18 q18; (try rw [show ((0 : Int)).toNat = 0 from rfl] at hx18_0); (try simp only [Nat.reduceMul, Nat.zero_mul, Nat.zero_add, Nat.reduceAdd] at hx18_0); (try rw [show ((0 : Int)).toNat = 0 from rfl] at hf18_0); (try simp only [Nat.reduceMul, Nat.zero_mul, Nat.zero_add, Nat.reduceAdd] at hf18_0); replace p18 := eq_true p18; replace q18 := eq_true q18; have hq20 : (x8_3 : Int) < (x6_3.length : Int) := (by have h_ : (x8_3 : Int) < ((x6_3.length : Int) : Int) := of_decide_eq_true (by first | (with_reducible assumption) | assumption); first | exact h_ | (have e_ := (Kd.S_reads' HO_6.out).1; omega) | simpa only [List.length_set, List.length_set] using h_); obtain ⟨oki20, ce20, hcl20, hM20, hcc20, hok20, hbk20⟩ := Kd.S_borrow HO_6.out [] (x8_3 : Int) (of_decide_eq_true (by first | (with_reducible assumption) | assumption)) hq20; obtain ⟨ve20_0, rfl, ge20_0⟩ := hM20; have hv20 := hcc20 0 _ rfl; rw [Nat.add_zero, show ((Kd.slice 3 (Kd.int .i64))).sz = 1 from rfl, Nat.mul_one] at hv20; replace hv20 := Option.some.inj (hv20.symm.trans HX245_0.out); subst hv20; clear hcc20 hcl20; replace ge20_0 := (show Kd.R (Kd.int .i64) 3 _ _ _ _ (rd_L1 x6_3 x8_3) from ge20_0); have HP20 := Kd.R_putg ge20_0 (0 : Int) (-3)) | ((with_reducible refine gate_store (t := 3) (p := 53) rfl ?_); generalize hq_ : World.drewN wr _ = wq_; have hcq_ : ∀ a_, wq_.cell? a_ = wr.cell? a_ := (by intro a_; rw [← hq_]; rfl); have n0_ := Aside0.mk (by rw [← hq_]; exact Kd.S_drewN HO_6.out _ : Kd.S (Kd.slice 3 (Kd.int .i64)) 27 wq_ w.heap.size (fun _ => True) (.slice (some ad242) x6_3.length co19) x6_3); have n1_ := Aside0.mk (Kd.R_at hq_ HL245_0.out); have n2_ := Aside0.mk (below_at hq_ HB.out); have n3_ := Aside0.mk ((hcq_ _).trans HX245_0.out); have hfq_ : ∀ a_, wq_.frozen? a_ = wr.frozen? a_ := (by intro a_; rw [← hq_]; rfl); replace hx18_0 := (hcq_ _).trans hx18_0; replace hf18_0 := (hfq_ _).trans hf18_0; clear hcq_ hfq_ hq_ HO_6 HL245_0 HB; have HO_6 := n0_; have HL245_0 := n1_; have HB := n2_; clear n0_ n1_ n2_; obtain ⟨oki20, ce20, hcl20, hM20, hcc20, hok20, hbk20⟩ := Kd.S_borrow HO_6.out [] (x8_3 : Int) (of_decide_eq_true (by first | (with_reducible assumption) | assumption)) hq20; obtain ⟨ve20_0, rfl, ge20_0⟩ := hM20; have hv20 := hcc20 0 _ rfl; rw [Nat.add_zero, show ((Kd.slice 3 (Kd.int .i64))).sz = 1 from rfl, Nat.mul_one] at hv20; replace hv20 := Option.some.inj (hv20.symm.trans n3_.out); subst hv20; clear hcc20 hcl20 n3_; replace ge20_0 := (show Kd.R (Kd.int .i64) 3 _ _ _ _ (rd_L1 x6_3 x8_3) from ge20_0); have HP20 := Kd.R_putg ge20_0 (0 : Int) (-3); refine store_event (t := 3) (p := 53) (v := ?vo_w21) (w1 := (wq_.setCell ⟨go18, 0, none⟩ (.int .i64 (-3)))) ?hg ?ho ?hn ?hr ?_; (case ho => rfl); (case hg => rfl); (case hn => rfl); (case hr => first | (go_simp; done) | (go_simp; rfl)); intro w21 hw; have hg : wq_.grownBy w21 (some go18) := (by rw [hw]; exact HP20.2); have hz_ : Kd.R (Kd.int .i64) 3 w21 w.heap.size oki20 (.slice (some ⟨go18, 0, none⟩) (rd_L1 x6_3 x8_3).length c242_0) y246 := (by rw [hw, Ny246.out]; exact HP20.1); have hp_ : Kd.S (Kd.slice 3 (Kd.int .i64)) 27 w21 w.heap.size (fun _ => True) (.slice (some ad242) x6_3.length co19) y248 := (by rw [Ny248.out]; exact hbk20 hg (fun k_ e_ => by injection e_ with e_; subst e_; exact ge20_0.1 _ rfl) (Kd.M_row hz_)); have hm_ := Kd.R_mono hz_ hok20; clear HP20 hbk20; have n0_ := Aside0.mk (hp_); have n1_ := Aside0.mk ((by rw [hw]; exact below_set (HB.out) GB18.out : Below w.heap.size w w21)); have n2_ := Aside0.mk (hm_); have n3_ := Aside0.mk ((Kd.R_reads' hm_).2.1); clear HO_6; clear HB; clear HL242_0; clear HL245_0; have HO_6 := n0_; have HB := n1_; have HL249 := n2_; have HC247 := n3_; clear n0_ n1_ n2_ n3_; clear hg hw hp_ hz_ hm_ hok20))
                            repeat (go_quiet (first | (go_at_call 16; (with_reducible refine (clochelaw05_same.calls k3 _ _ (rd_L1 x6_3 x8_3) _ _ (rd_L1 l1 x8_3) true _ ?side1 ?side2 ?side3 ?side4 A15.out).mono ?_); (case side1 => repeat (first | exact (by repeat (first | (with_reducible exact HR242_0.out) | (with_reducible refine Kd.C_alloc ?_ _) | (with_reducible refine Kd.C_drewN ?_ _) | (with_reducible refine Kd.C_drew ?_) | exact HR242_0.out)) | (with_reducible refine Kd.C_alloc ?_ _) | (with_reducible refine Kd.C_drewN ?_ _) | (with_reducible refine Kd.C_drew ?_))); (case side2 => exact HC242_0.out); (case side3 => repeat (first | exact (Kd.C_below HR243_0.out HB.out) | (with_reducible refine Kd.C_alloc ?_ _) | (with_reducible refine Kd.C_drewN ?_ _) | (with_reducible refine Kd.C_drew ?_))); (case side4 => exact HC243_0.out); rintro e w' ⟨rfl, ⟨nd, rfl⟩⟩; (try first | exact ⟨rfl, _, World.drewN_drewN _ _ _⟩ | exact ⟨rfl, _, Eq.trans (World.drewN_drewN _ _ _) (congrArg (World.drewN _) (Nat.add_assoc _ _ _))⟩); have p245 : 0 ≤ (x8_3 : Int) := of_decide_eq_true (by first | (with_reducible assumption) | assumption); have q245 : x8_3 < (x6_3.length : Int) := of_decide_eq_true (by first | (with_reducible assumption) | assumption); obtain ⟨ad245, A245_0, c245_0, e245, hx245_0, hl245_0, hi245_0⟩ := at_L1 (Kd.S_reads' HO_6.out).2.2 x8_3 p245 q245; obtain rfl : ad242 = ad245 := (by injection e245); obtain ⟨ce245, hce245, hMe245, hcc245⟩ := Kd.S_get HO_6.out [] x8_3 p245 (by first | exact q245 | exact of_decide_eq_true (by first | (with_reducible assumption) | assumption) | (have e_ := (Kd.S_reads' HO_6.out).1; omega)); obtain ⟨ve245_0, rfl, ge245_0⟩ := hMe245; have hv245_0 := hcc245 0 _ rfl; rw [Nat.add_zero, show ((Kd.slice 3 (Kd.int .i64))).sz = 1 from rfl, Nat.mul_one] at hv245_0; replace hv245_0 := Option.some.inj (hv245_0.symm.trans hx245_0); rw [hv245_0] at ge245_0; have HL245_0 := Aside0.mk (show Kd.R (Kd.int .i64) 3 _ _ _ _ (rd_L1 x6_3 x8_3) from ge245_0); clear hv245_0 ge245_0; have HX245_0 := Aside0.mk hx245_0; clear hcc245 hce245; have HR245_0 := Aside0.mk hi245_0; have HC245_0 := Aside0.mk hl245_0; clear hi245_0 hl245_0; replace p245 := eq_true p245; replace q245 := eq_true q245; have ea_ := Option.some.inj (hx242_0.symm.trans hx245_0); injection ea_ with ea_ en_ ec_; subst ea_; subst ec_; clear en_; have p18 : 0 ≤ (0 : Int) := (by omega); have q18 : (0 : Int) < (((rd_L1 x6_3 x8_3).length : Int) : Int) := of_decide_eq_true (by first | (with_reducible assumption) | assumption); have qi18 : (0 < (rd_L1 x6_3 x8_3).length) = True := eq_true (by omega); obtain ⟨go18, co18, eo18, gb18, gl18, cl18, HG18⟩ := Kd.R_form HL245_0.out (by omega); (first | cases eo18 | (injection eo18 with ea_ en_ ec_; (first | subst ea_ | (injection ea_ with ea_; subst ea_)); subst ec_; clear en_)); have GB18 := Aside0.mk gb18; have GG18 := Aside0.mk HG18; clear gb18 gl18 HG18; obtain ⟨hx18_0, hf18_0⟩ := Kd.R_celln 0 HL245_0.out (0 : Int) p18 q18; (try rw [show ((0 : Int)).toNat = 0 from rfl] at hx18_0); (try simp only [Nat.reduceMul, Nat.zero_mul, Nat.zero_add, Nat.reduceAdd] at hx18_0); (try rw [show ((0 : Int)).toNat = 0 from rfl] at hf18_0); (try simp only [Nat.reduceMul, Nat.zero_mul, Nat.zero_add, Nat.reduceAdd] at hf18_0); replace p18 := eq_true p18; replace q18 := eq_true q18; have hq20 : (x8_3 : Int) < (x6_3.length : Int) := (by have h_ : (x8_3 : Int) < ((x6_3.length : Int) : Int) := of_decide_eq_true (by first | (with_reducible assumption) | assumption); first | exact h_ | (have e_ := (Kd.S_reads' HO_6.out).1; omega) | simpa only [List.length_set, List.length_set] using h_); obtain ⟨oki20, ce20, hcl20, hM20, hcc20, hok20, hbk20⟩ := Kd.S_borrow HO_6.out [] (x8_3 : Int) (of_decide_eq_true (by first | (with_reducible assumption) | assumption)) hq20; obtain ⟨ve20_0, rfl, ge20_0⟩ := hM20; have hv20 := hcc20 0 _ rfl; rw [Nat.add_zero, show ((Kd.slice 3 (Kd.int .i64))).sz = 1 from rfl, Nat.mul_one] at hv20; replace hv20 := Option.some.inj (hv20.symm.trans HX245_0.out); subst hv20; clear hcc20 hcl20; replace ge20_0 := (show Kd.R (Kd.int .i64) 3 _ _ _ _ (rd_L1 x6_3 x8_3) from ge20_0); have HP20 := Kd.R_putg ge20_0 (0 : Int) (-3)) | ((with_reducible refine gate_store (t := 3) (p := 53) rfl ?_); generalize hq_ : World.drewN wr _ = wq_; have hcq_ : ∀ a_, wq_.cell? a_ = wr.cell? a_ := (by intro a_; rw [← hq_]; rfl); have n0_ := Aside0.mk (by rw [← hq_]; exact Kd.S_drewN HO_6.out _ : Kd.S (Kd.slice 3 (Kd.int .i64)) 27 wq_ w.heap.size (fun _ => True) (.slice (some ad242) x6_3.length co19) x6_3); have n1_ := Aside0.mk (Kd.R_at hq_ HL245_0.out); have n2_ := Aside0.mk (below_at hq_ HB.out); have n3_ := Aside0.mk ((hcq_ _).trans HX245_0.out); have hfq_ : ∀ a_, wq_.frozen? a_ = wr.frozen? a_ := (by intro a_; rw [← hq_]; rfl); replace hx18_0 := (hcq_ _).trans hx18_0; replace hf18_0 := (hfq_ _).trans hf18_0; clear hcq_ hfq_ hq_ HO_6 HL245_0 HB; have HO_6 := n0_; have HL245_0 := n1_; have HB := n2_; clear n0_ n1_ n2_; obtain ⟨oki20, ce20, hcl20, hM20, hcc20, hok20, hbk20⟩ := Kd.S_borrow HO_6.out [] (x8_3 : Int) (of_decide_eq_true (by first | (with_reducible assumption) | assumption)) hq20; obtain ⟨ve20_0, rfl, ge20_0⟩ := hM20; have hv20 := hcc20 0 _ rfl; rw [Nat.add_zero, show ((Kd.slice 3 (Kd.int .i64))).sz = 1 from rfl, Nat.mul_one] at hv20; replace hv20 := Option.some.inj (hv20.symm.trans n3_.out); subst hv20; clear hcc20 hcl20 n3_; replace ge20_0 := (show Kd.R (Kd.int .i64) 3 _ _ _ _ (rd_L1 x6_3 x8_3) from ge20_0); have HP20 := Kd.R_putg ge20_0 (0 : Int) (-3); refine store_event (t := 3) (p := 53) (v := ?vo_w21) (w1 := (wq_.setCell ⟨go18, 0, none⟩ (.int .i64 (-3)))) ?hg ?ho ?hn ?hr ?_; (case ho => rfl); (case hg => rfl); (case hn => rfl); (case hr => first | (go_simp; done) | (go_simp; rfl)); intro w21 hw; have hg : wq_.grownBy w21 (some go18) := (by rw [hw]; exact HP20.2); have hz_ : Kd.R (Kd.int .i64) 3 w21 w.heap.size oki20 (.slice (some ⟨go18, 0, none⟩) (rd_L1 x6_3 x8_3).length c242_0) y246 := (by rw [hw, Ny246.out]; exact HP20.1); have hp_ : Kd.S (Kd.slice 3 (Kd.int .i64)) 27 w21 w.heap.size (fun _ => True) (.slice (some ad242) x6_3.length co19) y248 := (by rw [Ny248.out]; exact hbk20 hg (fun k_ e_ => by injection e_ with e_; subst e_; exact ge20_0.1 _ rfl) (Kd.M_row hz_)); have hm_ := Kd.R_mono hz_ hok20; clear HP20 hbk20; have n0_ := Aside0.mk (hp_); have n1_ := Aside0.mk ((by rw [hw]; exact below_set (HB.out) GB18.out : Below w.heap.size w w21)); have n2_ := Aside0.mk (hm_); have n3_ := Aside0.mk ((Kd.R_reads' hm_).2.1); clear HO_6; clear HB; clear HL242_0; clear HL245_0; have HO_6 := n0_; have HB := n1_; have HL249 := n2_; have HC247 := n3_; clear n0_ n1_ n2_ n3_; clear hg hw hp_ hz_ hm_ hok20)); try go_wp2_with (first | (go_at_call 16; (with_reducible refine (clochelaw05_same.calls k3 _ _ (rd_L1 x6_3 x8_3) _ _ (rd_L1 l1 x8_3) true _ ?side1 ?side2 ?side3 ?side4 A15.out).mono ?_); (case side1 => repeat (first | exact (by repeat (first | (with_reducible exact HR242_0.out) | (with_reducible refine Kd.C_alloc ?_ _) | (with_reducible refine Kd.C_drewN ?_ _) | (with_reducible refine Kd.C_drew ?_) | exact HR242_0.out)) | (with_reducible refine Kd.C_alloc ?_ _) | (with_reducible refine Kd.C_drewN ?_ _) | (with_reducible refine Kd.C_drew ?_))); (case side2 => exact HC242_0.out); (case side3 => repeat (first | exact (Kd.C_below HR243_0.out HB.out) | (with_reducible refine Kd.C_alloc ?_ _) | (with_reducible refine Kd.C_drewN ?_ _) | (with_reducible refine Kd.C_drew ?_))); (case side4 => exact HC243_0.out); rintro e w' ⟨rfl, ⟨nd, rfl⟩⟩; (try first | exact ⟨rfl, _, World.drewN_drewN _ _ _⟩ | exact ⟨rfl, _, Eq.trans (World.drewN_drewN _ _ _) (congrArg (World.drewN _) (Nat.add_assoc _ _ _))⟩); have p245 : 0 ≤ (x8_3 : Int) := of_decide_eq_true (by first | (with_reducible assumption) | assumption); have q245 : x8_3 < (x6_3.length : Int) := of_decide_eq_true (by first | (with_reducible assumption) | assumption); obtain ⟨ad245, A245_0, c245_0, e245, hx245_0, hl245_0, hi245_0⟩ := at_L1 (Kd.S_reads' HO_6.out).2.2 x8_3 p245 q245; obtain rfl : ad242 = ad245 := (by injection e245); obtain ⟨ce245, hce245, hMe245, hcc245⟩ := Kd.S_get HO_6.out [] x8_3 p245 (by first | exact q245 | exact of_decide_eq_true (by first | (with_reducible assumption) | assumption) | (have e_ := (Kd.S_reads' HO_6.out).1; omega)); obtain ⟨ve245_0, rfl, ge245_0⟩ := hMe245; have hv245_0 := hcc245 0 _ rfl; rw [Nat.add_zero, show ((Kd.slice 3 (Kd.int .i64))).sz = 1 from rfl, Nat.mul_one] at hv245_0; replace hv245_0 := Option.some.inj (hv245_0.symm.trans hx245_0); rw [hv245_0] at ge245_0; have HL245_0 := Aside0.mk (show Kd.R (Kd.int .i64) 3 _ _ _ _ (rd_L1 x6_3 x8_3) from ge245_0); clear hv245_0 ge245_0; have HX245_0 := Aside0.mk hx245_0; clear hcc245 hce245; have HR245_0 := Aside0.mk hi245_0; have HC245_0 := Aside0.mk hl245_0; clear hi245_0 hl245_0; replace p245 := eq_true p245; replace q245 := eq_true q245; have ea_ := Option.some.inj (hx242_0.symm.trans hx245_0); injection ea_ with ea_ en_ ec_; subst ea_; subst ec_; clear en_; have p18 : 0 ≤ (0 : Int) := (by omega); have q18 : (0 : Int) < (((rd_L1 x6_3 x8_3).length : Int) : Int) := of_decide_eq_true (by first | (with_reducible assumption) | assumption); have qi18 : (0 < (rd_L1 x6_3 x8_3).length) = True := eq_true (by omega); obtain ⟨go18, co18, eo18, gb18, gl18, cl18, HG18⟩ := Kd.R_form HL245_0.out (by omega); (first | cases eo18 | (injection eo18 with ea_ en_ ec_; (first | subst ea_ | (injection ea_ with ea_; subst ea_)); subst ec_; clear en_)); have GB18 := Aside0.mk gb18; have GG18 := Aside0.mk HG18; clear gb18 gl18 HG18; obtain ⟨hx18_0, hf18_0⟩ := Kd.R_celln 0 HL245_0.out (0 : Int) p18 q18; (try rw [show ((0 : Int)).toNat = 0 from rfl] at hx18_0); (try simp only [Nat.reduceMul, Nat.zero_mul, Nat.zero_add, Nat.reduceAdd] at hx18_0); (try rw [show ((0 : Int)).toNat = 0 from rfl] at hf18_0); (try simp only [Nat.reduceMul, Nat.zero_mul, Nat.zero_add, Nat.reduceAdd] at hf18_0); replace p18 := eq_true p18; replace q18 := eq_true q18; have hq20 : (x8_3 : Int) < (x6_3.length : Int) := (by have h_ : (x8_3 : Int) < ((x6_3.length : Int) : Int) := of_decide_eq_true (by first | (with_reducible assumption) | assumption); first | exact h_ | (have e_ := (Kd.S_reads' HO_6.out).1; omega) | simpa only [List.length_set, List.length_set] using h_); obtain ⟨oki20, ce20, hcl20, hM20, hcc20, hok20, hbk20⟩ := Kd.S_borrow HO_6.out [] (x8_3 : Int) (of_decide_eq_true (by first | (with_reducible assumption) | assumption)) hq20; obtain ⟨ve20_0, rfl, ge20_0⟩ := hM20; have hv20 := hcc20 0 _ rfl; rw [Nat.add_zero, show ((Kd.slice 3 (Kd.int .i64))).sz = 1 from rfl, Nat.mul_one] at hv20; replace hv20 := Option.some.inj (hv20.symm.trans HX245_0.out); subst hv20; clear hcc20 hcl20; replace ge20_0 := (show Kd.R (Kd.int .i64) 3 _ _ _ _ (rd_L1 x6_3 x8_3) from ge20_0); have HP20 := Kd.R_putg ge20_0 (0 : Int) (-3)) | ((with_reducible refine gate_store (t := 3) (p := 53) rfl ?_); generalize hq_ : World.drewN wr _ = wq_; have hcq_ : ∀ a_, wq_.cell? a_ = wr.cell? a_ := (by intro a_; rw [← hq_]; rfl); have n0_ := Aside0.mk (by rw [← hq_]; exact Kd.S_drewN HO_6.out _ : Kd.S (Kd.slice 3 (Kd.int .i64)) 27 wq_ w.heap.size (fun _ => True) (.slice (some ad242) x6_3.length co19) x6_3); have n1_ := Aside0.mk (Kd.R_at hq_ HL245_0.out); have n2_ := Aside0.mk (below_at hq_ HB.out); have n3_ := Aside0.mk ((hcq_ _).trans HX245_0.out); have hfq_ : ∀ a_, wq_.frozen? a_ = wr.frozen? a_ := (by intro a_; rw [← hq_]; rfl); replace hx18_0 := (hcq_ _).trans hx18_0; replace hf18_0 := (hfq_ _).trans hf18_0; clear hcq_ hfq_ hq_ HO_6 HL245_0 HB; have HO_6 := n0_; have HL245_0 := n1_; have HB := n2_; clear n0_ n1_ n2_; obtain ⟨oki20, ce20, hcl20, hM20, hcc20, hok20, hbk20⟩ := Kd.S_borrow HO_6.out [] (x8_3 : Int) (of_decide_eq_true (by first | (with_reducible assumption) | assumption)) hq20; obtain ⟨ve20_0, rfl, ge20_0⟩ := hM20; have hv20 := hcc20 0 _ rfl; rw [Nat.add_zero, show ((Kd.slice 3 (Kd.int .i64))).sz = 1 from rfl, Nat.mul_one] at hv20; replace hv20 := Option.some.inj (hv20.symm.trans n3_.out); subst hv20; clear hcc20 hcl20 n3_; replace ge20_0 := (show Kd.R (Kd.int .i64) 3 _ _ _ _ (rd_L1 x6_3 x8_3) from ge20_0); have HP20 := Kd.R_putg ge20_0 (0 : Int) (-3); refine store_event (t := 3) (p := 53) (v := ?vo_w21) (w1 := (wq_.setCell ⟨go18, 0, none⟩ (.int .i64 (-3)))) ?hg ?ho ?hn ?hr ?_; (case ho => rfl); (case hg => rfl); (case hn => rfl); (case hr => first | (go_simp; done) | (go_simp; rfl)); intro w21 hw; have hg : wq_.grownBy w21 (some go18) := (by rw [hw]; exact HP20.2); have hz_ : Kd.R (Kd.int .i64) 3 w21 w.heap.size oki20 (.slice (some ⟨go18, 0, none⟩) (rd_L1 x6_3 x8_3).length c242_0) y246 := (by rw [hw, Ny246.out]; exact HP20.1); have hp_ : Kd.S (Kd.slice 3 (Kd.int .i64)) 27 w21 w.heap.size (fun _ => True) (.slice (some ad242) x6_3.length co19) y248 := (by rw [Ny248.out]; exact hbk20 hg (fun k_ e_ => by injection e_ with e_; subst e_; exact ge20_0.1 _ rfl) (Kd.M_row hz_)); have hm_ := Kd.R_mono hz_ hok20; clear HP20 hbk20; have n0_ := Aside0.mk (hp_); have n1_ := Aside0.mk ((by rw [hw]; exact below_set (HB.out) GB18.out : Below w.heap.size w w21)); have n2_ := Aside0.mk (hm_); have n3_ := Aside0.mk ((Kd.R_reads' hm_).2.1); clear HO_6; clear HB; clear HL242_0; clear HL245_0; have HO_6 := n0_; have HB := n1_; have HL249 := n2_; have HC247 := n3_; clear n0_ n1_ n2_ n3_; clear hg hw hp_ hz_ hm_ hok20)))
                            go_roundg k3
                            case measure => have := HK1.out; have := HJ5.out; have := HK3.out; omega
                            case rel => exact ⟨(y248), (wrap64 (x8_3 + 1)), (by first | rfl | (simp; done) | (simp [*]; done)), H', ⟨by have := HK1.out; have := HJ5.out; have := HK3.out; omega⟩, ⟨by (with_reducible repeat (first | apply Kd.S_alloc | apply Kd.S_drewN | apply Kd.S_drew)); exact HO_6.out⟩, ⟨by repeat (first | (with_reducible first | exact HB.out | apply below_alloc | apply pw_below_drewN | apply below_drew1) | exact HB.out)⟩⟩
                          · rw [if_neg c17] at H
                            exact absurd H (by simp)
                        · replace c16 := Bool.eq_false_iff.mpr c16
                          subst c16
                          have H1 : (some false) = some r := by rw [if_neg (show ¬ (false = true) by decide)] at H; exact H
                          clear H
                          have H := H1
                          clear H1
                          obtain rfl := Option.some.inj H
                          obtain ⟨Ao22, co22, eo22⟩ := Kd.S_slice HO_6.out
                          subst eo22
                          have p242 : 0 ≤ (x8_3 : Int) := of_decide_eq_true (by first | (with_reducible assumption) | assumption)
                          have q242 : x8_3 < (x6_3.length : Int) := of_decide_eq_true (by first | (with_reducible assumption) | assumption)
                          obtain ⟨ad242, A242_0, c242_0, e242, hx242_0, hl242_0, hi242_0⟩ := at_L1 (Kd.S_reads' HO_6.out).2.2 x8_3 p242 q242
                          cases e242
                          obtain ⟨ce242, hce242, hMe242, hcc242⟩ := Kd.S_get HO_6.out [] x8_3 p242 (by first | exact q242 | exact of_decide_eq_true (by first | (with_reducible assumption) | assumption) | (have e_ := (Kd.S_reads' HO_6.out).1; omega))
                          obtain ⟨ve242_0, rfl, ge242_0⟩ := hMe242
                          have hv242_0 := hcc242 0 _ rfl
                          rw [Nat.add_zero, show ((Kd.slice 3 (Kd.int .i64))).sz = 1 from rfl, Nat.mul_one] at hv242_0
                          replace hv242_0 := Option.some.inj (hv242_0.symm.trans hx242_0)
                          rw [hv242_0] at ge242_0
                          have HL242_0 := Aside0.mk (show Kd.R (Kd.int .i64) 3 _ _ _ _ (rd_L1 x6_3 x8_3) from ge242_0)
                          clear hv242_0 ge242_0
                          have HX242_0 := Aside0.mk hx242_0
                          clear hcc242 hce242
                          have HR242_0 := Aside0.mk hi242_0
                          have HC242_0 := Aside0.mk hl242_0
                          clear hi242_0 hl242_0
                          replace p242 := eq_true p242
                          replace q242 := eq_true q242
                          have p243 : 0 ≤ (x8_3 : Int) := of_decide_eq_true (by first | (with_reducible assumption) | assumption)
                          have q243 : x8_3 < (l1.length : Int) := of_decide_eq_true (by first | (with_reducible assumption) | assumption)
                          obtain ⟨ad243, A243_0, c243_0, e243, hx243_0, hl243_0, hi243_0⟩ := at_L1 HR1.out x8_3 p243 q243
                          cases e243
                          replace hx243_0 := (HB.out.cell (World.block_lt_of_cell? w _ hx243_0)).trans hx243_0
                          have HR243_0 := Aside0.mk hi243_0
                          have HC243_0 := Aside0.mk hl243_0
                          clear hi243_0 hl243_0
                          replace p243 := eq_true p243
                          replace q243 := eq_true q243
                          go_wp2_with (first | (go_at_call 16; (with_reducible refine (clochelaw05_same.calls k3 _ _ (rd_L1 x6_3 x8_3) _ _ (rd_L1 l1 x8_3) false _ ?side1 ?side2 ?side3 ?side4 A15.out).mono ?_); (case side1 => repeat (first | exact (by repeat (first | (with_reducible exact HR242_0.out) | (with_reducible refine Kd.C_alloc ?_ _) | (with_reducible refine Kd.C_drewN ?_ _) | (with_reducible refine Kd.C_drew ?_) | exact HR242_0.out)) | (with_reducible refine Kd.C_alloc ?_ _) | (with_reducible refine Kd.C_drewN ?_ _) | (with_reducible refine Kd.C_drew ?_))); (case side2 => exact HC242_0.out); (case side3 => repeat (first | exact (Kd.C_below HR243_0.out HB.out) | (with_reducible refine Kd.C_alloc ?_ _) | (with_reducible refine Kd.C_drewN ?_ _) | (with_reducible refine Kd.C_drew ?_))); (case side4 => exact HC243_0.out); rintro e w' ⟨rfl, ⟨nd, rfl⟩⟩; (try first | exact ⟨rfl, _, World.drewN_drewN _ _ _⟩ | exact ⟨rfl, _, Eq.trans (World.drewN_drewN _ _ _) (congrArg (World.drewN _) (Nat.add_assoc _ _ _))⟩)))
                          repeat (go_quiet (first | (go_at_call 16; (with_reducible refine (clochelaw05_same.calls k3 _ _ (rd_L1 x6_3 x8_3) _ _ (rd_L1 l1 x8_3) false _ ?side1 ?side2 ?side3 ?side4 A15.out).mono ?_); (case side1 => repeat (first | exact (by repeat (first | (with_reducible exact HR242_0.out) | (with_reducible refine Kd.C_alloc ?_ _) | (with_reducible refine Kd.C_drewN ?_ _) | (with_reducible refine Kd.C_drew ?_) | exact HR242_0.out)) | (with_reducible refine Kd.C_alloc ?_ _) | (with_reducible refine Kd.C_drewN ?_ _) | (with_reducible refine Kd.C_drew ?_))); (case side2 => exact HC242_0.out); (case side3 => repeat (first | exact (Kd.C_below HR243_0.out HB.out) | (with_reducible refine Kd.C_alloc ?_ _) | (with_reducible refine Kd.C_drewN ?_ _) | (with_reducible refine Kd.C_drew ?_))); (case side4 => exact HC243_0.out); rintro e w' ⟨rfl, ⟨nd, rfl⟩⟩; (try first | exact ⟨rfl, _, World.drewN_drewN _ _ _⟩ | exact ⟨rfl, _, Eq.trans (World.drewN_drewN _ _ _) (congrArg (World.drewN _) (Nat.add_assoc _ _ _))⟩))); try go_wp2_with (first | (go_at_call 16; (with_reducible refine (clochelaw05_same.calls k3 _ _ (rd_L1 x6_3 x8_3) _ _ (rd_L1 l1 x8_3) false _ ?side1 ?side2 ?side3 ?side4 A15.out).mono ?_); (case side1 => repeat (first | exact (by repeat (first | (with_reducible exact HR242_0.out) | (with_reducible refine Kd.C_alloc ?_ _) | (with_reducible refine Kd.C_drewN ?_ _) | (with_reducible refine Kd.C_drew ?_) | exact HR242_0.out)) | (with_reducible refine Kd.C_alloc ?_ _) | (with_reducible refine Kd.C_drewN ?_ _) | (with_reducible refine Kd.C_drew ?_))); (case side2 => exact HC242_0.out); (case side3 => repeat (first | exact (Kd.C_below HR243_0.out HB.out) | (with_reducible refine Kd.C_alloc ?_ _) | (with_reducible refine Kd.C_drewN ?_ _) | (with_reducible refine Kd.C_drew ?_))); (case side4 => exact HC243_0.out); rintro e w' ⟨rfl, ⟨nd, rfl⟩⟩; (try first | exact ⟨rfl, _, World.drewN_drewN _ _ _⟩ | exact ⟨rfl, _, Eq.trans (World.drewN_drewN _ _ _) (congrArg (World.drewN _) (Nat.add_assoc _ _ _))⟩))))
                          go_ret
                          exact ⟨by first | rfl | (simp [errW_none, errW_some] <;> rfl) | (simp [*, errW_none, errW_some] <;> rfl), below_step HBW.out (by repeat (first | (with_reducible first | exact HB.out | apply below_alloc | apply pw_below_drewN | apply below_drew1) | exact HB.out))⟩
                      · rw [if_neg c14] at H
                        exact absurd H (by simp)
                    · rw [if_neg c13] at H
                      exact absurd H (by simp)
                  · rw [if_neg c12] at H
                    have c12b0 : decide (x8_3 < (x6_3.length : Int)) = false := decide_eq_false c12
                    clear c12
                    have H' := Aside0.mk H
                    clear H
                    obtain ⟨Ao23, co23, eo23⟩ := Kd.S_slice HO_6.out
                    subst eo23
                    go_wp2
                    repeat (go_quiet (fail); try go_wp2)
                    go_roundg k3
                    case measure => have := HK1.out; have := HJ5.out; have := HK3.out; omega
                    case rel => exact ⟨(wrap64 (x5_1 + 1)), (by first | rfl | (simp; done) | (simp [*]; done)), H', ⟨by have := HK1.out; have := HJ5.out; have := HK3.out; omega⟩, ⟨by repeat (first | (with_reducible first | exact HB.out | apply below_alloc | apply pw_below_drewN | apply below_drew1) | exact HB.out)⟩⟩
      · rw [if_neg c4] at H
        have c4b0 : decide (x5_1 < 2) = false := decide_eq_false c4
        clear c4
        replace H := Option.bind_eq_some_iff.mp H
        obtain ⟨t237, A240, H⟩ := H
        replace H : (some t237) = some r := H
        have A24 := Aside0.mk A240
        clear A240
        obtain rfl := Option.some.inj H
        go_wp2_with (first | (go_at_call 17; (with_reducible refine (clochelaw05_alive.calls k1  t237 _ A24.out).mono ?_); rintro e w25 ⟨rfl, hb⟩; have n0_ := Aside0.mk (below_step (by repeat (first | (with_reducible first | exact HB.out | apply below_alloc | apply pw_below_drewN | apply below_drew1) | exact HB.out)) hb); clear HB; have HB := n0_; clear n0_; (try clear hb); (try clear hb2); (try clear hk); (try clear hi)))
        repeat (go_quiet (first | (go_at_call 17; (with_reducible refine (clochelaw05_alive.calls k1  t237 _ A24.out).mono ?_); rintro e w25 ⟨rfl, hb⟩; have n0_ := Aside0.mk (below_step (by repeat (first | (with_reducible first | exact HB.out | apply below_alloc | apply pw_below_drewN | apply below_drew1) | exact HB.out)) hb); clear HB; have HB := n0_; clear n0_; (try clear hb); (try clear hb2); (try clear hk); (try clear hi))); try go_wp2_with (first | (go_at_call 17; (with_reducible refine (clochelaw05_alive.calls k1  t237 _ A24.out).mono ?_); rintro e w25 ⟨rfl, hb⟩; have n0_ := Aside0.mk (below_step (by repeat (first | (with_reducible first | exact HB.out | apply below_alloc | apply pw_below_drewN | apply below_drew1) | exact HB.out)) hb); clear HB; have HB := n0_; clear n0_; (try clear hb); (try clear hb2); (try clear hk); (try clear hi))))
        go_ret
        exact ⟨by first | rfl | (simp [errW_none, errW_some] <;> rfl) | (simp [*, errW_none, errW_some] <;> rfl), below_step HBW.out (by repeat (first | (with_reducible first | exact HB.out | apply below_alloc | apply pw_below_drewN | apply below_drew1) | exact HB.out))⟩

def clochelaw05_WavesTriangles.Pure : Prop := ∀ (a0 : Int), (Lit.int .i64 a0).wf = true → ∃ k, clochelaw05_WavesTriangles.f k a0 = some true
theorem clochelaw05_WavesTriangles.walk (P : clochelaw05_WavesTriangles.Pure) (a0 : Int) (w : World) (w0 : (Lit.int .i64 a0).wf = true) :
    Calls Try.prog 3 #[.int .i64 a0] w fun e w' => e = .returned (.bool true) ∧ Below w.heap.size w w' := by
  obtain ⟨k, h⟩ := P a0 w0
  refine (clochelaw05_WavesTriangles.calls k a0 true w h).mono ?_
  rintro e w' ⟨rfl, hd⟩
  exact ⟨rfl, hd⟩
end Go.Proofs.Ytmigibamdeodpaa.Print
