/- What the functions of the visits compute, printed by this repo's hand printer. -/
import Derived.Test.YtadfcplobidmeaaDoorPrintx0
import Derived.Test.YtadfcplobidmeaaDoorPrintx2
import Derived.Test.YtadfcplobidmeaaDoorPrintx9
import Derived.Test.YtadfcplobidmeaaDoorPrintx10
import Derived.Test.YtadfcplobidmeaaDoorPrintx25
import Derived.Test.YtadfcplobidmeaaDoorPrintx27
import Derived.Test.YtadfcplobidmeaaDoorPrintx27b
import Derived.Test.YtadfcplobidmeaaDoorPrintx28
namespace Go.Proofs.YtadfcplobidmeaaDoor.Print
open Go.RowKit Go.Proofs.YtadfcplobidmeaaDoorW.PrintWords Go.Proofs.YtadfcplobidmeaaDoorW.PrintLast Go.Proofs.YtadfcplobidmeaaDoorW.PrintMore
attribute [local go_sem] max2_int min2_int max_two min_two max_three min_three max_four min_four   -- for this text's walks alone
set_option linter.unusedVariables false
set_option linter.unusedSimpArgs false

/-! ### clochelaw03_VisitsParts: function 9 -/
mutual
def clochelaw03_VisitsParts.j0 : Nat → List Int → Int → Bool → Option (Bool)
  | 0, _, _, _ => none
  | k + 1, x0, x1, x37 => if x37 = true then (none) else ((visits_Odd.f k x0 x1).bind fun bt393 => ((clocheref03_Odd.f k x0 x1).bind fun bt395 => (if bt393.1 = bt395.1 then (clochelaw03_VisitsParts.j1 k x0 (bt393.2 != bt395.2)) else (none))))
def clochelaw03_VisitsParts.j1 : Nat → List Int → Bool → Option (Bool)
  | 0, _, _ => none
  | k + 1, x0, x57 => if x57 = true then (none) else ((visits_Barrier.f k x0).bind fun bt397 => ((clocheref03_Barrier.f k x0).bind fun bt400 => (if bt397.1 = bt400.1 then (if bt397.2.1 = bt400.2.1 then (if bt397.2.2 = bt400.2.2 then ((clochelaw03_alive.f k).bind fun t403 => (some t403)) else (none)) else (none)) else (none))))
end
def clochelaw03_VisitsParts.f (k : Nat) (l0 : List Int) (a1 : Int) : Option (Bool) := (clochelaw03_few.f l0 ([] : List (S43))).bind fun t382 => (if t382 = true then ((visits_Parts.f k l0 a1).bind fun bt384 => ((clocheref03_Parts.f k l0 a1).bind fun bt388 => ((clochelaw03_same.f k bt384.1 bt388.1).bind fun t392 => (if t392 = true then (clochelaw03_VisitsParts.j0 k l0 a1 (bt384.2 != bt388.2)) else (none))))) else ((clochelaw03_alive.f k).bind fun t383 => (some t383)))
theorem clochelaw03_VisitsParts.mono_l : ∀ k, (∀ y0 y1 y2, LeO (clochelaw03_VisitsParts.j0 k y0 y1 y2) (clochelaw03_VisitsParts.j0 (k + 1) y0 y1 y2)) ∧ (∀ y0 y1, LeO (clochelaw03_VisitsParts.j1 k y0 y1) (clochelaw03_VisitsParts.j1 (k + 1) y0 y1))
  | 0 => ⟨fun _ _ _ r h => by simp [clochelaw03_VisitsParts.j0] at h, fun _ _ r h => by simp [clochelaw03_VisitsParts.j1] at h⟩
  | k + 1 => by
    obtain ⟨ih0, ih1⟩ := clochelaw03_VisitsParts.mono_l k
    refine ⟨?_, ?_⟩
    · intro y0 y1 y2
      unfold clochelaw03_VisitsParts.j0
      repeat' first
      | (with_reducible exact ih0 _ _ _)
      | (with_reducible exact ih1 _ _)
      | (with_reducible exact clochelaw03_alive.mono _)
      | (with_reducible exact clochelaw03_same.mono _ _ _)
      | (with_reducible exact clocheref03_Barrier.mono _ _)
      | (with_reducible exact clocheref03_Odd.mono _ _ _)
      | (with_reducible exact clocheref03_Parts.mono _ _ _)
      | (with_reducible exact visits_Barrier.mono _ _)
      | (with_reducible exact visits_Odd.mono _ _ _)
      | (with_reducible exact visits_Parts.mono _ _ _)
      | (with_reducible exact LeO.refl _)
      | (with_reducible exact LeO.none _)
      | (with_reducible refine LeO.ite ?_ ?_)
      | (with_reducible refine LeO.bind ?_ (fun _ => ?_))
      | exact ih0 _ _ _
      | exact ih1 _ _
      | exact clochelaw03_alive.mono _
      | exact clochelaw03_same.mono _ _ _
      | exact clocheref03_Barrier.mono _ _
      | exact clocheref03_Odd.mono _ _ _
      | exact clocheref03_Parts.mono _ _ _
      | exact visits_Barrier.mono _ _
      | exact visits_Odd.mono _ _ _
      | exact visits_Parts.mono _ _ _
      | exact LeO.none _
      | refine LeO.ite ?_ ?_
      | refine LeO.bind ?_ (fun _ => ?_)
    · intro y0 y1
      unfold clochelaw03_VisitsParts.j1
      repeat' first
      | (with_reducible exact ih0 _ _ _)
      | (with_reducible exact ih1 _ _)
      | (with_reducible exact clochelaw03_alive.mono _)
      | (with_reducible exact clochelaw03_same.mono _ _ _)
      | (with_reducible exact clocheref03_Barrier.mono _ _)
      | (with_reducible exact clocheref03_Odd.mono _ _ _)
      | (with_reducible exact clocheref03_Parts.mono _ _ _)
      | (with_reducible exact visits_Barrier.mono _ _)
      | (with_reducible exact visits_Odd.mono _ _ _)
      | (with_reducible exact visits_Parts.mono _ _ _)
      | (with_reducible exact LeO.refl _)
      | (with_reducible exact LeO.none _)
      | (with_reducible refine LeO.ite ?_ ?_)
      | (with_reducible refine LeO.bind ?_ (fun _ => ?_))
      | exact ih0 _ _ _
      | exact ih1 _ _
      | exact clochelaw03_alive.mono _
      | exact clochelaw03_same.mono _ _ _
      | exact clocheref03_Barrier.mono _ _
      | exact clocheref03_Odd.mono _ _ _
      | exact clocheref03_Parts.mono _ _ _
      | exact visits_Barrier.mono _ _
      | exact visits_Odd.mono _ _ _
      | exact visits_Parts.mono _ _ _
      | exact LeO.none _
      | refine LeO.ite ?_ ?_
      | refine LeO.bind ?_ (fun _ => ?_)
theorem clochelaw03_VisitsParts.mono : ∀ a0 a1 k, LeO (clochelaw03_VisitsParts.f k a0 a1) (clochelaw03_VisitsParts.f (k + 1) a0 a1) := by
  intro a0 a1 k
  obtain ⟨ih0, ih1⟩ := clochelaw03_VisitsParts.mono_l k
  unfold clochelaw03_VisitsParts.f
  repeat' first
      | (with_reducible exact ih0 _ _ _)
      | (with_reducible exact ih1 _ _)
      | (with_reducible exact clochelaw03_alive.mono _)
      | (with_reducible exact clochelaw03_same.mono _ _ _)
      | (with_reducible exact clocheref03_Barrier.mono _ _)
      | (with_reducible exact clocheref03_Odd.mono _ _ _)
      | (with_reducible exact clocheref03_Parts.mono _ _ _)
      | (with_reducible exact visits_Barrier.mono _ _)
      | (with_reducible exact visits_Odd.mono _ _ _)
      | (with_reducible exact visits_Parts.mono _ _ _)
      | (with_reducible exact LeO.refl _)
      | (with_reducible exact LeO.none _)
      | (with_reducible refine LeO.ite ?_ ?_)
      | (with_reducible refine LeO.bind ?_ (fun _ => ?_))
      | exact ih0 _ _ _
      | exact ih1 _ _
      | exact clochelaw03_alive.mono _
      | exact clochelaw03_same.mono _ _ _
      | exact clocheref03_Barrier.mono _ _
      | exact clocheref03_Odd.mono _ _ _
      | exact clocheref03_Parts.mono _ _ _
      | exact visits_Barrier.mono _ _
      | exact visits_Odd.mono _ _ _
      | exact visits_Parts.mono _ _ _
      | exact LeO.none _
      | refine LeO.ite ?_ ?_
      | refine LeO.bind ?_ (fun _ => ?_)
set_option maxHeartbeats 8000000 in
set_option maxRecDepth 100000 in
theorem clochelaw03_VisitsParts.calls (k : Nat) (A0 : Option Addr) (c0 : Nat) (l0 : List Int) (a1 : Int) (r : Bool) (w : World) (hr0 : Kd.C (Kd.int .i64) w A0 l0.length l0) (hc0 : l0.length ≤ c0) (h : clochelaw03_VisitsParts.f k l0 a1 = some r) (hT : Tab w) :
    Calls Tryd.prog 9 #[.slice A0 l0.length c0, .int .i64 a1] w fun e w' => e = .returned (.bool r) ∧ Below w.heap.size w w' := by
  have HR0 := Aside0.mk hr0
  have HC0 := Aside0.mk hc0
  clear hr0 hc0
  have HT0 := Aside0.mk hT
  clear hT
  have HB := Aside0.mk (Below.refl w.heap.size w)
  have H : ((clochelaw03_few.f l0 ([] : List (S43))).bind fun t382 => (if t382 = true then ((visits_Parts.f k l0 a1).bind fun bt384 => ((clocheref03_Parts.f k l0 a1).bind fun bt388 => ((clochelaw03_same.f k bt384.1 bt388.1).bind fun t392 => (if t392 = true then (clochelaw03_VisitsParts.j0 k l0 a1 (bt384.2 != bt388.2)) else (none))))) else ((clochelaw03_alive.f k).bind fun t383 => (some t383)))) = some r := h
  clear h
  replace H := Option.bind_eq_some_iff.mp H
  obtain ⟨t382, A30, H⟩ := H
  replace H : (if t382 = true then ((visits_Parts.f k l0 a1).bind fun bt384 => ((clocheref03_Parts.f k l0 a1).bind fun bt388 => ((clochelaw03_same.f k bt384.1 bt388.1).bind fun t392 => (if t392 = true then (clochelaw03_VisitsParts.j0 k l0 a1 (bt384.2 != bt388.2)) else (none))))) else ((clochelaw03_alive.f k).bind fun t383 => (some t383))) = some r := H
  have A3 := Aside0.mk A30
  clear A30
  by_cases c4 : t382 = true
  · subst c4
    have H1 : ((visits_Parts.f k l0 a1).bind fun bt384 => ((clocheref03_Parts.f k l0 a1).bind fun bt388 => ((clochelaw03_same.f k bt384.1 bt388.1).bind fun t392 => (if t392 = true then (clochelaw03_VisitsParts.j0 k l0 a1 (bt384.2 != bt388.2)) else (none))))) = some r := by rw [if_pos rfl] at H; exact H
    clear H
    have H := H1
    clear H1
    replace H := Option.bind_eq_some_iff.mp H
    obtain ⟨⟨t384, t385⟩, A50, H⟩ := H
    replace H : ((clocheref03_Parts.f k l0 a1).bind fun bt388 => ((clochelaw03_same.f k t384 bt388.1).bind fun t392 => (if t392 = true then (clochelaw03_VisitsParts.j0 k l0 a1 (t385 != bt388.2)) else (none)))) = some r := H
    have A5 := Aside0.mk A50
    clear A50
    replace H := Option.bind_eq_some_iff.mp H
    obtain ⟨⟨t388, t389⟩, A60, H⟩ := H
    replace H : ((clochelaw03_same.f k t384 t388).bind fun t392 => (if t392 = true then (clochelaw03_VisitsParts.j0 k l0 a1 (t385 != t389)) else (none))) = some r := H
    have A6 := Aside0.mk A60
    clear A60
    have HC7 := Aside0.mk H
    clear H
    go_enter Tryd.func9, Tryd.ntmps9
    go_upto_region 5 with (first | ((with_reducible refine gate_callee (f := 15) rfl ?_); refine goesL_ (some 14) rfl rfl Tryd.func15 (by kernel_rfl) rfl #[.slice A0 l0.length c0, .slice none 0 0] rfl (by (try simp only [List.map_toArray, List.map_cons, List.map_nil]); first | done | rfl | (simp only [List.length_drop, List.length_take]; rfl)) ?_; (refine (clochelaw03_few.calls _ _ l0 _ _ ([] : List (S43)) true _ ?side1 ?side2 ?side3 ?side4 A3.out).mono ?_); (case side1 => repeat (first | exact HR0.out | (with_reducible refine Kd.C_alloc ?_ _) | (with_reducible refine Kd.C_drewN ?_ _) | (with_reducible refine Kd.C_drew ?_))); (case side2 => exact HC0.out); (case side3 => exact Kd.C_nil _ _); (case side4 => exact Nat.le_refl _); rintro e w' ⟨rfl, ⟨nd, rfl⟩⟩; refine ⟨_, rfl, ?_⟩) | ((with_reducible refine gate_callee (f := 30) rfl ?_); refine goesL_ (some 20) rfl rfl Tryd.func30 (by kernel_rfl) rfl #[.slice A0 l0.length c0, .int .i64 a1] rfl (by (try simp only [List.map_toArray, List.map_cons, List.map_nil]); first | done | rfl | (simp only [List.length_drop, List.length_take]; rfl)) ?_; (with_reducible refine (visits_Parts.calls k _ _ l0 a1 t384 t385 _ ?side1 ?side2 A5.out).mono ?_); (case side1 => repeat (first | exact HR0.out | (with_reducible refine Kd.C_alloc ?_ _) | (with_reducible refine Kd.C_drewN ?_ _) | (with_reducible refine Kd.C_drew ?_))); (case side2 => exact HC0.out); rintro e w8 ⟨v386, rfl, ho0, hb⟩; refine ⟨_, rfl, ?_⟩; have n0_ := Aside0.mk (Kd.R_lower ho0 (below_size (by repeat (first | (with_reducible first | exact HB.out | apply below_alloc | apply pw_below_drewN | apply below_drew1) | exact HB.out)))); have n1_ := Aside0.mk (below_step (by repeat (first | (with_reducible first | exact HB.out | apply below_alloc | apply pw_below_drewN | apply below_drew1) | exact HB.out)) hb); clear HB; have HO387 := n0_; have HB := n1_; clear n0_ n1_; (try clear hb); (try clear hb2); (try clear hk); (try clear hi); (try clear ho0)) | ((with_reducible refine gate_callee (f := 31) rfl ?_); refine goesL_ (some 26) rfl rfl Tryd.func31 (by kernel_rfl) rfl #[.slice A0 l0.length c0, .int .i64 a1] rfl (by (try simp only [List.map_toArray, List.map_cons, List.map_nil]); first | done | rfl | (simp only [List.length_drop, List.length_take]; rfl)) ?_; (with_reducible refine (clocheref03_Parts.calls k _ _ l0 a1 t388 t389 _ ?side1 ?side2 A6.out).mono ?_); (case side1 => repeat (first | exact (Kd.C_below HR0.out HB.out) | (with_reducible refine Kd.C_alloc ?_ _) | (with_reducible refine Kd.C_drewN ?_ _) | (with_reducible refine Kd.C_drew ?_))); (case side2 => exact HC0.out); rintro e w9 ⟨v390, rfl, ho0, hb⟩; refine ⟨_, rfl, ?_⟩; have n0_ := Aside0.mk (Kd.R_elder' (by (with_reducible repeat (first | apply Kd.R_alloc | apply Kd.R_drewN | apply Kd.R_drew)); exact HO387.out) (Kd.R_base ho0) hb); have n1_ := Aside0.mk (Kd.R_lower (Kd.R_new' ho0 (Kd.R_lt (by (with_reducible repeat (first | apply Kd.R_alloc | apply Kd.R_drewN | apply Kd.R_drew)); exact HO387.out))) (below_size (by repeat (first | (with_reducible first | exact HB.out | apply below_alloc | apply pw_below_drewN | apply below_drew1) | exact HB.out)))); have n2_ := Aside0.mk (below_step (by repeat (first | (with_reducible first | exact HB.out | apply below_alloc | apply pw_below_drewN | apply below_drew1) | exact HB.out)) hb); clear HO387; clear HB; have HO387 := n0_; have HO391 := n1_; have HB := n2_; clear n0_ n1_ n2_; (try clear hb); (try clear hb2); (try clear hk); (try clear hi); (try clear ho0)))
    (try simp only [Act.put, List.setIfInBounds_toArray, List.set_cons_zero, List.set_cons_succ])
    go_cut [37] (fun v37 wc => ∃ (kq : Nat) (x37_6 : Bool), v37 = .bool x37_6 ∧ Aside0 (clochelaw03_VisitsParts.j0 kq l0 a1 x37_6 = some r) ∧ Aside0 (kq ≤ k) ∧ Aside0 (Below w.heap.size w wc))
    case first =>
      have H := HC7.out
      clear HC7
      replace H := Option.bind_eq_some_iff.mp H
      obtain ⟨t392, A100, H⟩ := H
      replace H : (if t392 = true then (clochelaw03_VisitsParts.j0 k l0 a1 (t385 != t389)) else (none)) = some r := H
      have A10 := Aside0.mk A100
      clear A100
      by_cases c11 : t392 = true
      · subst c11
        have H1 : (clochelaw03_VisitsParts.j0 k l0 a1 (t385 != t389)) = some r := by rw [if_pos rfl] at H; exact H
        clear H
        have H := H1
        clear H1
        have H' := Aside0.mk H
        clear H
        obtain ⟨Ao12, co12, eo12⟩ := Kd.R_slice HO387.out
        subst eo12
        obtain ⟨Ao13, co13, eo13⟩ := Kd.R_slice HO391.out
        subst eo13
        go_wp2_with (first | ((with_reducible refine gate_callee (f := 32) rfl ?_); refine goesL_ (some 31) rfl rfl Tryd.func32 (by kernel_rfl) rfl #[.slice Ao12 t384.length co12, .slice Ao13 t388.length co13] rfl (by (try simp only [List.map_toArray, List.map_cons, List.map_nil]); first | done | rfl | (simp only [List.length_drop, List.length_take]; rfl)) ?_; (with_reducible refine (clochelaw03_same.calls k _ _ t384 _ _ t388 true _ ?side1 ?side2 ?side3 ?side4 A10.out).mono ?_); (case side1 => repeat (first | exact (Kd.R_reads' HO387.out).2.2 | (with_reducible refine Kd.C_alloc ?_ _) | (with_reducible refine Kd.C_drewN ?_ _) | (with_reducible refine Kd.C_drew ?_))); (case side2 => exact (Kd.R_reads' HO387.out).2.1); (case side3 => repeat (first | exact (Kd.R_reads' HO391.out).2.2 | (with_reducible refine Kd.C_alloc ?_ _) | (with_reducible refine Kd.C_drewN ?_ _) | (with_reducible refine Kd.C_drew ?_))); (case side4 => exact (Kd.R_reads' HO391.out).2.1); rintro e w' ⟨rfl, ⟨nd, rfl⟩⟩; refine ⟨_, rfl, ?_⟩))
        go_meet
        case rel => exact ⟨_, ((t385 != t389)), (by first | rfl | (simp; done) | (simp [*]; done)), H', ⟨by first | omega | exact Nat.le_refl _⟩, ⟨by repeat (first | (with_reducible first | exact HB.out | apply below_alloc | apply pw_below_drewN | apply below_drew1) | exact HB.out)⟩⟩
      · replace c11 := Bool.eq_false_iff.mpr c11
        subst c11
        have H1 : (none) = some r := by rw [if_neg (show ¬ (false = true) by decide)] at H; exact H
        clear H
        have H := H1
        clear H1
        exact absurd H (by simp)
    case rest =>
      clear HC7
      try clear c1
      try clear p2
      try clear c3
      try clear c4
      try clear c9
      try clear c11
      obtain ⟨kq, x37_6, rfl, HA, HJ6, HB⟩ := hcut
      cases kq with
      | zero => exact absurd HA.out (by simp [clochelaw03_VisitsParts.j0])
      | succ kj6 =>
        have H := HA.out
        clear HA
        simp only [clochelaw03_VisitsParts.j0] at H
        by_cases c14 : x37_6 = true
        · subst c14
          have H1 : (none) = some r := by rw [if_pos rfl] at H; exact H
          clear H
          have H := H1
          clear H1
          exact absurd H (by simp)
        · replace c14 := Bool.eq_false_iff.mpr c14
          subst c14
          have H1 : ((visits_Odd.f kj6 l0 a1).bind fun bt393 => ((clocheref03_Odd.f kj6 l0 a1).bind fun bt395 => (if bt393.1 = bt395.1 then (clochelaw03_VisitsParts.j1 kj6 l0 (bt393.2 != bt395.2)) else (none)))) = some r := by rw [if_neg (show ¬ (false = true) by decide)] at H; exact H
          clear H
          have H := H1
          clear H1
          replace H := Option.bind_eq_some_iff.mp H
          obtain ⟨⟨t393, t394⟩, A150, H⟩ := H
          replace H : ((clocheref03_Odd.f kj6 l0 a1).bind fun bt395 => (if t393 = bt395.1 then (clochelaw03_VisitsParts.j1 kj6 l0 (t394 != bt395.2)) else (none))) = some r := H
          have A15 := Aside0.mk A150
          clear A150
          replace H := Option.bind_eq_some_iff.mp H
          obtain ⟨⟨t395, t396⟩, A160, H⟩ := H
          replace H : (if t393 = t395 then (clochelaw03_VisitsParts.j1 kj6 l0 (t394 != t396)) else (none)) = some r := H
          have A16 := Aside0.mk A160
          clear A160
          have HC17 := Aside0.mk H
          clear H
          go_upto_region 9 with (first | ((with_reducible refine gate_callee (f := 33) rfl ?_); refine goesL_ (some 41) rfl rfl Tryd.func33 (by kernel_rfl) rfl #[.slice A0 l0.length c0, .int .i64 a1] rfl (by (try simp only [List.map_toArray, List.map_cons, List.map_nil]); first | done | rfl | (simp only [List.length_drop, List.length_take]; rfl)) ?_; (with_reducible refine (visits_Odd.calls kj6 _ _ l0 a1 t393 t394 _ ?side1 ?side2 A15.out).mono ?_); (case side1 => repeat (first | exact (Kd.C_below HR0.out HB.out) | (with_reducible refine Kd.C_alloc ?_ _) | (with_reducible refine Kd.C_drewN ?_ _) | (with_reducible refine Kd.C_drew ?_))); (case side2 => exact HC0.out); rintro e w18 ⟨rfl, hb⟩; refine ⟨_, rfl, ?_⟩; have n0_ := Aside0.mk (below_step (by repeat (first | (with_reducible first | exact HB.out | apply below_alloc | apply pw_below_drewN | apply below_drew1) | exact HB.out)) hb); clear HB; have HB := n0_; clear n0_; (try clear hb); (try clear hb2); (try clear hk); (try clear hi)) | ((with_reducible refine gate_callee (f := 34) rfl ?_); refine goesL_ (some 47) rfl rfl Tryd.func34 (by kernel_rfl) rfl #[.slice A0 l0.length c0, .int .i64 a1] rfl (by (try simp only [List.map_toArray, List.map_cons, List.map_nil]); first | done | rfl | (simp only [List.length_drop, List.length_take]; rfl)) ?_; (with_reducible refine (clocheref03_Odd.calls kj6 _ _ l0 a1 t395 t396 _ ?side1 ?side2 A16.out).mono ?_); (case side1 => repeat (first | exact (Kd.C_below HR0.out HB.out) | (with_reducible refine Kd.C_alloc ?_ _) | (with_reducible refine Kd.C_drewN ?_ _) | (with_reducible refine Kd.C_drew ?_))); (case side2 => exact HC0.out); rintro e w19 ⟨rfl, hb⟩; refine ⟨_, rfl, ?_⟩; have n0_ := Aside0.mk (below_step (by repeat (first | (with_reducible first | exact HB.out | apply below_alloc | apply pw_below_drewN | apply below_drew1) | exact HB.out)) hb); clear HB; have HB := n0_; clear n0_; (try clear hb); (try clear hb2); (try clear hk); (try clear hi)))
          (try simp only [Act.put, List.setIfInBounds_toArray, List.set_cons_zero, List.set_cons_succ])
          go_cut [57] (fun v57 wc => ∃ (kq : Nat) (x57_16 : Bool), v57 = .bool x57_16 ∧ Aside0 (clochelaw03_VisitsParts.j1 kq l0 x57_16 = some r) ∧ Aside0 (kq ≤ kj6) ∧ Aside0 (Below w.heap.size w wc))
          case first =>
            have H := HC17.out
            clear HC17
            by_cases c20 : t393 = t395
            · rw [if_pos c20] at H
              have c20b0 : (t393 == t395) = true := beq_iff_eq.mpr c20
              have c20b1 : (t393 != t395) = false := bne_eq_false_iff_eq.mpr c20
              clear c20
              (first | rw [c20b0] | (simp only [i64_w, i32_w]; rw [c20b0]) | skip)
              have H' := Aside0.mk H
              clear H
              go_wp2
              go_meet
              case rel => exact ⟨_, ((t394 != t396)), (by first | rfl | (simp; done) | (simp [*]; done)), H', ⟨by have := HJ6.out; first | omega | exact Nat.le_refl _⟩, ⟨by repeat (first | (with_reducible first | exact HB.out | apply below_alloc | apply pw_below_drewN | apply below_drew1) | exact HB.out)⟩⟩
            · rw [if_neg c20] at H
              exact absurd H (by simp)
          case rest =>
            clear HC17
            try clear c1
            try clear c2
            try clear p2
            try clear c3
            try clear c4
            try clear c9
            try clear c11
            try clear c14
            try clear c15
            try clear c20
            try clear c20b0
            try clear c20b1
            try clear p2
            obtain ⟨kq, x57_16, rfl, HA, HJ16, HB⟩ := hcut
            cases kq with
            | zero => exact absurd HA.out (by simp [clochelaw03_VisitsParts.j1])
            | succ kj16 =>
              have H := HA.out
              clear HA
              simp only [clochelaw03_VisitsParts.j1] at H
              by_cases c21 : x57_16 = true
              · subst c21
                have H1 : (none) = some r := by rw [if_pos rfl] at H; exact H
                clear H
                have H := H1
                clear H1
                exact absurd H (by simp)
              · replace c21 := Bool.eq_false_iff.mpr c21
                subst c21
                have H1 : ((visits_Barrier.f kj16 l0).bind fun bt397 => ((clocheref03_Barrier.f kj16 l0).bind fun bt400 => (if bt397.1 = bt400.1 then (if bt397.2.1 = bt400.2.1 then (if bt397.2.2 = bt400.2.2 then ((clochelaw03_alive.f kj16).bind fun t403 => (some t403)) else (none)) else (none)) else (none)))) = some r := by rw [if_neg (show ¬ (false = true) by decide)] at H; exact H
                clear H
                have H := H1
                clear H1
                replace H := Option.bind_eq_some_iff.mp H
                obtain ⟨⟨t397, t398, t399⟩, A220, H⟩ := H
                replace H : ((clocheref03_Barrier.f kj16 l0).bind fun bt400 => (if t397 = bt400.1 then (if t398 = bt400.2.1 then (if t399 = bt400.2.2 then ((clochelaw03_alive.f kj16).bind fun t403 => (some t403)) else (none)) else (none)) else (none))) = some r := H
                have A22 := Aside0.mk A220
                clear A220
                replace H := Option.bind_eq_some_iff.mp H
                obtain ⟨⟨t400, t401, t402⟩, A230, H⟩ := H
                replace H : (if t397 = t400 then (if t398 = t401 then (if t399 = t402 then ((clochelaw03_alive.f kj16).bind fun t403 => (some t403)) else (none)) else (none)) else (none)) = some r := H
                have A23 := Aside0.mk A230
                clear A230
                by_cases c24 : t397 = t400
                · rw [if_pos c24] at H
                  have c24b0 : (t397 == t400) = true := beq_iff_eq.mpr c24
                  have c24b1 : (t397 != t400) = false := bne_eq_false_iff_eq.mpr c24
                  clear c24
                  by_cases c25 : t398 = t401
                  · rw [if_pos c25] at H
                    have c25b0 : (t398 == t401) = true := beq_iff_eq.mpr c25
                    have c25b1 : (t398 != t401) = false := bne_eq_false_iff_eq.mpr c25
                    clear c25
                    by_cases c26 : t399 = t402
                    · rw [if_pos c26] at H
                      have c26b0 : (t399 == t402) = true := beq_iff_eq.mpr c26
                      have c26b1 : (t399 != t402) = false := bne_eq_false_iff_eq.mpr c26
                      clear c26
                      replace H := Option.bind_eq_some_iff.mp H
                      obtain ⟨t403, A270, H⟩ := H
                      replace H : (some t403) = some r := H
                      have A27 := Aside0.mk A270
                      clear A270
                      obtain rfl := Option.some.inj H
                      go_wp2_with (first | ((with_reducible refine gate_callee (f := 35) rfl ?_); refine goesL_ (some 60) rfl rfl Tryd.func35 (by kernel_rfl) rfl #[.slice A0 l0.length c0] rfl (by (try simp only [List.map_toArray, List.map_cons, List.map_nil]); first | done | rfl | (simp only [List.length_drop, List.length_take]; rfl)) ?_; (with_reducible refine (visits_Barrier.calls kj16 _ _ l0 t397 t398 t399 _ ?side1 ?side2 A22.out).mono ?_); (case side1 => repeat (first | exact (Kd.C_below HR0.out HB.out) | (with_reducible refine Kd.C_alloc ?_ _) | (with_reducible refine Kd.C_drewN ?_ _) | (with_reducible refine Kd.C_drew ?_))); (case side2 => exact HC0.out); rintro e w28 ⟨rfl, hb⟩; refine ⟨_, rfl, ?_⟩; have n0_ := Aside0.mk (below_step (by repeat (first | (with_reducible first | exact HB.out | apply below_alloc | apply pw_below_drewN | apply below_drew1) | exact HB.out)) hb); clear HB; have HB := n0_; clear n0_; (try clear hb); (try clear hb2); (try clear hk); (try clear hi)) | ((with_reducible refine gate_callee (f := 36) rfl ?_); refine goesL_ (some 66) rfl rfl Tryd.func36 (by kernel_rfl) rfl #[.slice A0 l0.length c0] rfl (by (try simp only [List.map_toArray, List.map_cons, List.map_nil]); first | done | rfl | (simp only [List.length_drop, List.length_take]; rfl)) ?_; (with_reducible refine (clocheref03_Barrier.calls kj16 _ _ l0 t400 t401 t402 _ ?side1 ?side2 A23.out).mono ?_); (case side1 => repeat (first | exact (Kd.C_below HR0.out HB.out) | (with_reducible refine Kd.C_alloc ?_ _) | (with_reducible refine Kd.C_drewN ?_ _) | (with_reducible refine Kd.C_drew ?_))); (case side2 => exact HC0.out); rintro e w29 ⟨rfl, hb⟩; refine ⟨_, rfl, ?_⟩; have n0_ := Aside0.mk (below_step (by repeat (first | (with_reducible first | exact HB.out | apply below_alloc | apply pw_below_drewN | apply below_drew1) | exact HB.out)) hb); clear HB; have HB := n0_; clear n0_; (try clear hb); (try clear hb2); (try clear hk); (try clear hi)) | (go_at_call 16; (with_reducible refine (clochelaw03_alive.calls kj16  t403 _ A27.out (by repeat (first | exact HT0.out | exact tabB HT0.out HB.out | (refine tab_alloc ?_ _) | (refine tab_drewN ?_ _) | (refine tab_drew ?_)))).mono ?_); rintro e w30 ⟨rfl, hb⟩; have n0_ := Aside0.mk (below_step (by repeat (first | (with_reducible first | exact HB.out | apply below_alloc | apply pw_below_drewN | apply below_drew1) | exact HB.out)) hb); clear HB; have HB := n0_; clear n0_; (try clear hb); (try clear hb2); (try clear hk); (try clear hi)))
                      go_ret
                      exact ⟨by first | rfl | (simp [errW_none, errW_some] <;> rfl) | (simp [*, errW_none, errW_some] <;> rfl), by repeat (first | (with_reducible first | exact HB.out | apply below_alloc | apply pw_below_drewN | apply below_drew1) | exact HB.out)⟩
                    · rw [if_neg c26] at H
                      exact absurd H (by simp)
                  · rw [if_neg c25] at H
                    exact absurd H (by simp)
                · rw [if_neg c24] at H
                  exact absurd H (by simp)
  · replace c4 := Bool.eq_false_iff.mpr c4
    subst c4
    have H1 : ((clochelaw03_alive.f k).bind fun t383 => (some t383)) = some r := by rw [if_neg (show ¬ (false = true) by decide)] at H; exact H
    clear H
    have H := H1
    clear H1
    replace H := Option.bind_eq_some_iff.mp H
    obtain ⟨t383, A310, H⟩ := H
    replace H : (some t383) = some r := H
    have A31 := Aside0.mk A310
    clear A310
    obtain rfl := Option.some.inj H
    go_enter Tryd.func9, Tryd.ntmps9
    go_wp2_with (first | ((with_reducible refine gate_callee (f := 15) rfl ?_); refine goesL_ (some 14) rfl rfl Tryd.func15 (by kernel_rfl) rfl #[.slice A0 l0.length c0, .slice none 0 0] rfl (by (try simp only [List.map_toArray, List.map_cons, List.map_nil]); first | done | rfl | (simp only [List.length_drop, List.length_take]; rfl)) ?_; (refine (clochelaw03_few.calls _ _ l0 _ _ ([] : List (S43)) false _ ?side1 ?side2 ?side3 ?side4 A3.out).mono ?_); (case side1 => repeat (first | exact HR0.out | (with_reducible refine Kd.C_alloc ?_ _) | (with_reducible refine Kd.C_drewN ?_ _) | (with_reducible refine Kd.C_drew ?_))); (case side2 => exact HC0.out); (case side3 => exact Kd.C_nil _ _); (case side4 => exact Nat.le_refl _); rintro e w' ⟨rfl, ⟨nd, rfl⟩⟩; refine ⟨_, rfl, ?_⟩) | ((with_reducible refine gate_callee (f := 16) rfl ?_); refine goesL_ (some 16) rfl rfl Tryd.func16 (by kernel_rfl) rfl #[] rfl (by (try simp only [List.map_toArray, List.map_cons, List.map_nil]); first | done | rfl | (simp only [List.length_drop, List.length_take]; rfl)) ?_; (with_reducible refine (clochelaw03_alive.calls k  t383 _ A31.out (by repeat (first | exact HT0.out | exact tabB HT0.out HB.out | (refine tab_alloc ?_ _) | (refine tab_drewN ?_ _) | (refine tab_drew ?_)))).mono ?_); rintro e w32 ⟨rfl, hb⟩; refine ⟨_, rfl, ?_⟩; have n0_ := Aside0.mk (below_step (by repeat (first | (with_reducible first | exact HB.out | apply below_alloc | apply pw_below_drewN | apply below_drew1) | exact HB.out)) hb); clear HB; have HB := n0_; clear n0_; (try clear hb); (try clear hb2); (try clear hk); (try clear hi)))
    go_ret
    exact ⟨by first | rfl | (simp [errW_none, errW_some] <;> rfl) | (simp [*, errW_none, errW_some] <;> rfl), by repeat (first | (with_reducible first | exact HB.out | apply below_alloc | apply pw_below_drewN | apply below_drew1) | exact HB.out)⟩

/-- THE ONE PURE STATEMENT of clochelaw03_VisitsParts: yours. -/
def clochelaw03_VisitsParts.Pure : Prop := ∀ (l0 : List Int) (a1 : Int), l0.length ≤ maxLen → l0.length * 8 ≤ 140737488351232 → (∀ x ∈ l0, (Lit.int .i64 x).wf = true) → (Lit.int .i64 a1).wf = true → ∃ k, clochelaw03_VisitsParts.f k l0 a1 = some true
theorem clochelaw03_VisitsParts.walk (P : clochelaw03_VisitsParts.Pure) (a0 : Option Addr) (len0 cap0 : Nat) (z0 : List Int) (a1 : Int) (w : World) (w0 : (a0 = none ∧ len0 = 0 ∧ cap0 = 0 ∧ z0 = []) ∨ ∃ x, a0 = some x ∧ len0 ≤ cap0 ∧ cap0 ≤ maxLen ∧ z0.length = cap0 ∧ (∀ i, i < z0.length → w.cell? (x.add i) = some (.int .i64 (z0.getD i 0))) ∧ ∀ n ∈ z0, (Lit.int .i64 n).wf = true) (y0 : len0 * 8 ≤ 140737488351232) (w1 : (Lit.int .i64 a1).wf = true) (hT : Tab w) :
    Calls Tryd.prog 9 #[.slice a0 len0 cap0, .int .i64 a1] w fun e w' => e = .returned (.bool true) ∧ Below w.heap.size w w' := by
  obtain ⟨l0, rfl, hr0, hm0, hw0, hc0⟩ := ReadsInt.ofRowC w0
  obtain ⟨k, h⟩ := P l0 a1 hm0 y0 hw0 w1
  refine (clochelaw03_VisitsParts.calls k _ _ l0 a1 true w (Kd.C_of_reads (d := (0 : Int)) (h1 := fun _ => rfl) hr0) hc0 h hT).mono ?_
  rintro e w' ⟨rfl, hd⟩
  exact ⟨rfl, hd⟩

end Go.Proofs.YtadfcplobidmeaaDoor.Print
