/- What the functions of the blocks compute, printed by this repo's hand printer. -/
import Derived.Test.YtcmphfcpiciehaaPrintx0
import Derived.Test.YtcmphfcpiciehaaHandCores
import Derived.Test.YtcmphfcpiciehaaPrintx6
import Derived.Test.YtcmphfcpiciehaaPrintx13
import Derived.Test.YtcmphfcpiciehaaPrintx35
namespace Go.Proofs.Ytcmphfcpiciehaa.Print
open Go.RowKit Go.Proofs.YtcmphfcpiciehaaW.PrintWords Go.Proofs.YtcmphfcpiciehaaW.PrintLast Go.Proofs.YtcmphfcpiciehaaW.PrintMore
attribute [local go_sem] max2_int min2_int max_two min_two max_three min_three max_four min_four   -- for this text's walks alone
set_option linter.unusedVariables false
set_option linter.unusedSimpArgs false

/-! ### clochelaw04_BlocksCores: function 13 -/
def clochelaw04_BlocksCores.f (k : Nat) (a0 : Int) (a1 : Int) : Option (Bool) := (blocks_Cores.f k a0 a1).bind fun bt860 => ((clocheref04_Cores.f k a0 a1).bind fun bt864 => ((clochelaw04_shapes.f k bt860.1 bt864.1).bind fun t868 => (if t868 = true then (if bt860.2 = bt864.2 then ((clochelaw04_alive.f k).bind fun t869 => (some t869)) else (none)) else (none))))
theorem clochelaw04_BlocksCores.mono : ∀ a0 a1 k, LeO (clochelaw04_BlocksCores.f k a0 a1) (clochelaw04_BlocksCores.f (k + 1) a0 a1) := by
  intro a0 a1 k
  unfold clochelaw04_BlocksCores.f
  repeat' first
      | (with_reducible exact blocks_Cores.mono _ _ _)
      | (with_reducible exact clochelaw04_alive.mono _)
      | (with_reducible exact clochelaw04_shapes.mono _ _ _)
      | (with_reducible exact clocheref04_Cores.mono _ _ _)
      | (with_reducible exact LeO.refl _)
      | (with_reducible exact LeO.none _)
      | (with_reducible refine LeO.ite ?_ ?_)
      | (with_reducible refine LeO.bind ?_ (fun _ => ?_))
      | exact blocks_Cores.mono _ _ _
      | exact clochelaw04_alive.mono _
      | exact clochelaw04_shapes.mono _ _ _
      | exact clocheref04_Cores.mono _ _ _
      | exact LeO.none _
      | refine LeO.ite ?_ ?_
      | refine LeO.bind ?_ (fun _ => ?_)
set_option maxHeartbeats 8000000 in
set_option maxRecDepth 100000 in
theorem clochelaw04_BlocksCores.calls (k : Nat) (a0 : Int) (a1 : Int) (r : Bool) (w : World) (h : clochelaw04_BlocksCores.f k a0 a1 = some r) :
    Calls Try.prog 13 #[.int .i64 a0, .int .i64 a1] w fun e w' => e = .returned (.bool r) ∧ Below w.heap.size w w' := by
  have HB := Aside0.mk (Below.refl w.heap.size w)
  have H : ((blocks_Cores.f k a0 a1).bind fun bt860 => ((clocheref04_Cores.f k a0 a1).bind fun bt864 => ((clochelaw04_shapes.f k bt860.1 bt864.1).bind fun t868 => (if t868 = true then (if bt860.2 = bt864.2 then ((clochelaw04_alive.f k).bind fun t869 => (some t869)) else (none)) else (none))))) = some r := h
  clear h
  replace H := Option.bind_eq_some_iff.mp H
  obtain ⟨⟨t860, t861⟩, A30, H⟩ := H
  replace H : ((clocheref04_Cores.f k a0 a1).bind fun bt864 => ((clochelaw04_shapes.f k t860 bt864.1).bind fun t868 => (if t868 = true then (if t861 = bt864.2 then ((clochelaw04_alive.f k).bind fun t869 => (some t869)) else (none)) else (none)))) = some r := H
  have A3 := Aside0.mk A30
  clear A30
  replace H := Option.bind_eq_some_iff.mp H
  obtain ⟨⟨t864, t867⟩, A40, H⟩ := H
  replace H : ((clochelaw04_shapes.f k t860 t864).bind fun t868 => (if t868 = true then (if t861 = t867 then ((clochelaw04_alive.f k).bind fun t869 => (some t869)) else (none)) else (none))) = some r := H
  have A4 := Aside0.mk A40
  clear A40
  replace H := Option.bind_eq_some_iff.mp H
  obtain ⟨t868, A50, H⟩ := H
  replace H : (if t868 = true then (if t861 = t867 then ((clochelaw04_alive.f k).bind fun t869 => (some t869)) else (none)) else (none)) = some r := H
  have A5 := Aside0.mk A50
  clear A50
  by_cases c6 : t868 = true
  · subst c6
    have H1 : (if t861 = t867 then ((clochelaw04_alive.f k).bind fun t869 => (some t869)) else (none)) = some r := by rw [if_pos rfl] at H; exact H
    clear H
    have H := H1
    clear H1
    by_cases c7 : t861 = t867
    · rw [if_pos c7] at H
      have c7b0 : (t861 == t867) = true := beq_iff_eq.mpr c7
      have c7b1 : (t861 != t867) = false := bne_eq_false_iff_eq.mpr c7
      clear c7
      replace H := Option.bind_eq_some_iff.mp H
      obtain ⟨t869, A80, H⟩ := H
      replace H : (some t869) = some r := H
      have A8 := Aside0.mk A80
      clear A80
      obtain rfl := Option.some.inj H
      go_enter Try.func13, Try.ntmps13
      go_wp2_with (first | ((with_reducible refine gate_callee (f := 43) rfl ?_); refine goesL_ (some 12) rfl rfl Try.func43 (by kernel_rfl) rfl #[.int .i64 a0, .int .i64 a1] rfl (by (try simp only [List.map_toArray, List.map_cons, List.map_nil]); first | done | rfl | (simp only [List.length_drop, List.length_take]; rfl)) ?_; (with_reducible refine (blocks_Cores.calls k a0 a1 t860 t861 _ A3.out).mono ?_); rintro e w9 ⟨v862, rfl, ho0, hb⟩; refine ⟨_, rfl, ?_⟩; have n0_ := Aside0.mk (Kd.N_lower (Kd.N_mono (ok' := fun k_ => True) (Kd.S_N (Kd.S_bound ho0)) (fun k_ hk_ => trivial)) (below_size (by repeat (first | (with_reducible first | exact HB.out | apply below_alloc | apply pw_below_drewN | apply below_drew1) | exact HB.out)))); have n1_ := Aside0.mk (below_step (by repeat (first | (with_reducible first | exact HB.out | apply below_alloc | apply pw_below_drewN | apply below_drew1) | exact HB.out)) hb); clear HB; have HO863 := n0_; have HB := n1_; clear n0_ n1_; (try clear hb); (try clear hb2); (try clear hk); (try clear hi); (try clear ho0)) | ((with_reducible refine gate_callee (f := 44) rfl ?_); refine goesL_ (some 18) rfl rfl Try.func44 (by kernel_rfl) rfl #[.int .i64 a0, .int .i64 a1] rfl (by (try simp only [List.map_toArray, List.map_cons, List.map_nil]); first | done | rfl | (simp only [List.length_drop, List.length_take]; rfl)) ?_; (with_reducible refine (clocheref04_Cores.calls k a0 a1 t864 t867 _ A4.out).mono ?_); rintro e w10 ⟨v865, rfl, ho0, hb⟩; refine ⟨_, rfl, ?_⟩; have n0_ := Aside0.mk (Kd.N_elder' (by (with_reducible repeat (first | apply Kd.N_alloc | apply Kd.N_drewN | apply Kd.N_drew)); exact HO863.out) (by first | exact Kd.N_base ho0 | exact Kd.S_base ho0) hb); have n1_ := Aside0.mk (Kd.N_lower (Kd.N_mono (ok' := fun k_ => some k_ ≠ (v862 : Value).ownBlock) ho0 (fun k_ hk_ => (Kd.fresh' (Kd.N_lt (by (with_reducible repeat (first | apply Kd.N_alloc | apply Kd.N_drewN | apply Kd.N_drew)); exact HO863.out)) k_ hk_))) (below_size (by repeat (first | (with_reducible first | exact HB.out | apply below_alloc | apply pw_below_drewN | apply below_drew1) | exact HB.out)))); have n2_ := Aside0.mk (below_step (by repeat (first | (with_reducible first | exact HB.out | apply below_alloc | apply pw_below_drewN | apply below_drew1) | exact HB.out)) hb); clear HO863; clear HB; have HO863 := n0_; have HO866 := n1_; have HB := n2_; clear n0_ n1_ n2_; (try clear hb); (try clear hb2); (try clear hk); (try clear hi); (try clear ho0); obtain ⟨Ao11, co11, eo11⟩ := Kd.N_slice HO863.out; subst eo11; obtain ⟨Ao12, co12, eo12⟩ := Kd.N_slice HO866.out; subst eo12) | ((with_reducible refine gate_callee (f := 19) rfl ?_); refine goesL_ (some 23) rfl rfl Try.func19 (by kernel_rfl) rfl #[.slice Ao11 t860.length co11, .slice Ao12 t864.length co12] rfl (by (try simp only [List.map_toArray, List.map_cons, List.map_nil]); first | done | rfl | (simp only [List.length_drop, List.length_take]; rfl)) ?_; (with_reducible refine (clochelaw04_shapes.calls k _ _ t860 _ _ t864 true _ ?side1 ?side2 ?side3 ?side4 A5.out).mono ?_); (case side1 => repeat (first | exact (Kd.N_reads' HO863.out).2.2 | (with_reducible refine Kd.C_alloc ?_ _) | (with_reducible refine Kd.C_drewN ?_ _) | (with_reducible refine Kd.C_drew ?_))); (case side2 => exact (Kd.N_reads' HO863.out).2.1); (case side3 => repeat (first | exact (Kd.N_reads' HO866.out).2.2 | (with_reducible refine Kd.C_alloc ?_ _) | (with_reducible refine Kd.C_drewN ?_ _) | (with_reducible refine Kd.C_drew ?_))); (case side4 => exact (Kd.N_reads' HO866.out).2.1); rintro e w' ⟨rfl, ⟨nd, rfl⟩⟩; refine ⟨_, rfl, ?_⟩) | (go_at_call 16; (with_reducible refine (clochelaw04_alive.calls k  t869 _ A8.out).mono ?_); rintro e w13 ⟨rfl, hb⟩; have n0_ := Aside0.mk (Kd.N_below (by (with_reducible repeat (first | apply Kd.N_alloc | apply Kd.N_drewN | apply Kd.N_drew)); exact HO863.out) hb); have n1_ := Aside0.mk (Kd.N_below (by (with_reducible repeat (first | apply Kd.N_alloc | apply Kd.N_drewN | apply Kd.N_drew)); exact HO866.out) hb); have n2_ := Aside0.mk (below_step (by repeat (first | (with_reducible first | exact HB.out | apply below_alloc | apply pw_below_drewN | apply below_drew1) | exact HB.out)) hb); clear HO863; clear HO866; clear HB; have HO863 := n0_; have HO866 := n1_; have HB := n2_; clear n0_ n1_ n2_; (try clear hb); (try clear hb2); (try clear hk); (try clear hi)))
      go_ret
      exact ⟨by first | rfl | (simp [errW_none, errW_some] <;> rfl) | (simp [*, errW_none, errW_some] <;> rfl), by repeat (first | (with_reducible first | exact HB.out | apply below_alloc | apply pw_below_drewN | apply below_drew1) | exact HB.out)⟩
    · rw [if_neg c7] at H
      exact absurd H (by simp)
  · replace c6 := Bool.eq_false_iff.mpr c6
    subst c6
    have H1 : (none) = some r := by rw [if_neg (show ¬ (false = true) by decide)] at H; exact H
    clear H
    have H := H1
    clear H1
    exact absurd H (by simp)

/-- THE ONE PURE STATEMENT of clochelaw04_BlocksCores: yours. -/
def clochelaw04_BlocksCores.Pure : Prop := ∀ (a0 : Int) (a1 : Int), (Lit.int .i64 a0).wf = true → (Lit.int .i64 a1).wf = true → ∃ k, clochelaw04_BlocksCores.f k a0 a1 = some true
theorem clochelaw04_BlocksCores.walk (P : clochelaw04_BlocksCores.Pure) (a0 : Int) (a1 : Int) (w : World) (w0 : (Lit.int .i64 a0).wf = true) (w1 : (Lit.int .i64 a1).wf = true) :
    Calls Try.prog 13 #[.int .i64 a0, .int .i64 a1] w fun e w' => e = .returned (.bool true) ∧ Below w.heap.size w w' := by
  obtain ⟨k, h⟩ := P a0 a1 w0 w1
  refine (clochelaw04_BlocksCores.calls k a0 a1 true w h).mono ?_
  rintro e w' ⟨rfl, hd⟩
  exact ⟨rfl, hd⟩

end Go.Proofs.Ytcmphfcpiciehaa.Print
