/- What the functions of the visits compute, printed by this repo's hand printer. -/
import Derived.Test.YtadfcplobidmeaaDoorPrintx0
namespace Go.Proofs.YtadfcplobidmeaaDoor.Print
open Go.RowKit Go.Proofs.YtadfcplobidmeaaDoorW.PrintWords Go.Proofs.YtadfcplobidmeaaDoorW.PrintLast Go.Proofs.YtadfcplobidmeaaDoorW.PrintMore
attribute [local go_sem] max2_int min2_int max_two min_two max_three min_three max_four min_four   -- for this text's walks alone
set_option linter.unusedVariables false
set_option linter.unusedSimpArgs false

/-! ### clocheref03_known: function 48 -/
mutual
def clocheref03_known.l0 : Nat → List Int → Int → Int → List Int → Int → Int → Option (Bool × List Int)
  | 0, _, _, _, _, _, _ => none
  | k + 1, x0, x1, x2, x3, x9, x10 => if x10 < (x0.length : Int) then (if 0 ≤ x2 then (if x2 < (x0.length : Int) then (if 0 ≤ x10 then (if (Int.tmod (shr .i64 (Go.bits .andNot .i64 (rd x0 x2) x1) x10) 2) = 1 then ((clocheref03_known.f k x0 (Go.bits .or .i64 x1 (shl .i64 1 x10)) x10 x3).bind fun bt201 => (if bt201.1 = true then (clocheref03_known.l0 k x0 x1 x2 bt201.2 x9 (wrap64 (x10 + 1))) else (if 0 ≤ x9 then (if x9 < (x3.length : Int) then (clocheref03_known.l0 k x0 x1 x2 (bt201.2.set (x9 : Int).toNat 1) x9 (wrap64 (x10 + 1))) else (none)) else (none)))) else (clocheref03_known.l0 k x0 x1 x2 x3 x9 (wrap64 (x10 + 1)))) else (none)) else (none)) else (none)) else (if 0 ≤ x9 then (if x9 < (x3.length : Int) then (some (decide ((rd x3 x9) > 0), x3)) else (none)) else (none))
def clocheref03_known.f : Nat → List Int → Int → Int → List Int → Option (Bool × List Int)
  | 0, _, _, _, _ => none
  | k + 1, l0, a1, a2, l3 => if 0 ≤ (wrap64 ((wrap64 (a1 * (l0.length : Int))) + a2)) then (if (wrap64 ((wrap64 (a1 * (l0.length : Int))) + a2)) < (l3.length : Int) then (if (rd l3 (wrap64 ((wrap64 (a1 * (l0.length : Int))) + a2))) = 0 then (clocheref03_known.l0 k l0 a1 a2 (l3.set ((wrap64 ((wrap64 (a1 * (l0.length : Int))) + a2)) : Int).toNat (-1)) (wrap64 ((wrap64 (a1 * (l0.length : Int))) + a2)) 0) else (some (decide ((rd l3 (wrap64 ((wrap64 (a1 * (l0.length : Int))) + a2))) > 0), l3))) else (none)) else (none)
end
theorem clocheref03_known.mono_l : ∀ k, (∀ y0 y1 y2 y3, LeO (clocheref03_known.f k y0 y1 y2 y3) (clocheref03_known.f (k + 1) y0 y1 y2 y3)) ∧ (∀ y0 y1 y2 y3 y4 y5, LeO (clocheref03_known.l0 k y0 y1 y2 y3 y4 y5) (clocheref03_known.l0 (k + 1) y0 y1 y2 y3 y4 y5))
  | 0 => ⟨fun _ _ _ _ r h => by simp [clocheref03_known.f] at h, fun _ _ _ _ _ _ r h => by simp [clocheref03_known.l0] at h⟩
  | k + 1 => by
    obtain ⟨ih0, ih1⟩ := clocheref03_known.mono_l k
    refine ⟨?_, ?_⟩
    · intro y0 y1 y2 y3
      unfold clocheref03_known.f
      repeat' first
      | (with_reducible exact ih0 _ _ _ _)
      | (with_reducible exact ih1 _ _ _ _ _ _)
      | (with_reducible exact LeO.refl _)
      | (with_reducible exact LeO.none _)
      | (with_reducible refine LeO.ite ?_ ?_)
      | (with_reducible refine LeO.bind ?_ (fun _ => ?_))
      | exact ih0 _ _ _ _
      | exact ih1 _ _ _ _ _ _
      | exact LeO.none _
      | refine LeO.ite ?_ ?_
      | refine LeO.bind ?_ (fun _ => ?_)
    · intro y0 y1 y2 y3 y4 y5
      unfold clocheref03_known.l0
      repeat' first
      | (with_reducible exact ih0 _ _ _ _)
      | (with_reducible exact ih1 _ _ _ _ _ _)
      | (with_reducible exact LeO.refl _)
      | (with_reducible exact LeO.none _)
      | (with_reducible refine LeO.ite ?_ ?_)
      | (with_reducible refine LeO.bind ?_ (fun _ => ?_))
      | exact ih0 _ _ _ _
      | exact ih1 _ _ _ _ _ _
      | exact LeO.none _
      | refine LeO.ite ?_ ?_
      | refine LeO.bind ?_ (fun _ => ?_)
theorem clocheref03_known.mono : ∀ a0 a1 a2 a3 k, LeO (clocheref03_known.f k a0 a1 a2 a3) (clocheref03_known.f (k + 1) a0 a1 a2 a3) := by
  intro a0 a1 a2 a3 k
  obtain ⟨ih0, ih1⟩ := clocheref03_known.mono_l k
  exact ih0 a0 a1 a2 a3
set_option maxHeartbeats 8000000 in
set_option maxRecDepth 100000 in
theorem clocheref03_known.calls (k : Nat) : ∀ (A0 : Option Addr) (c0 : Nat) (l0 : List Int) (a1 : Int) (a2 : Int) (P3_ : Nat → Prop) (u9000_ : Value) (l3 : List Int) (r1 : Bool) (r2 : List Int) (w0 w : World) (hB : Below w0.heap.size w0 w) (hr0 : ∀ W_, Kept w W_ (fun k_ => P3_ k_) → Kd.C (Kd.int .i64) W_ A0 l0.length l0) (hc0 : l0.length ≤ c0) (ho3 : Kd.R (Kd.int .i64) 3 w w0.heap.size P3_ u9000_ l3) (h : clocheref03_known.f k l0 a1 a2 l3 = some (r1, r2)),
    Calls Tryd.prog 48 #[.slice A0 l0.length c0, .int .i64 a1, .int .i64 a2, u9000_] w fun e w' => e = .returned (.bool r1) ∧ Kd.R (Kd.int .i64) 3 w' w0.heap.size (fun k_ => (P3_ k_ ∨ w.heap.size ≤ k_)) u9000_ r2 ∧ Below w0.heap.size w0 w' ∧ Kept w w' (fun k_ => P3_ k_) := by
  induction k using Nat.strongRecOn with
  | _ k ih =>
  intro A0 c0 l0 a1 a2 P3_ u9000_ l3 r1 r2 w0 w hB hr0 hc0 ho3 h
  cases k with
  | zero => exact absurd h (by simp [clocheref03_known.f])
  | succ k =>
  simp only [clocheref03_known.f] at h
  have HR0 := Aside0.mk hr0
  have HC0 := Aside0.mk hc0
  clear hr0 hc0
  have HO3 := Aside0.mk (show Kd.R (Kd.int .i64) 3 w w0.heap.size (fun k_ => (P3_ k_ ∨ w.heap.size ≤ k_)) u9000_ l3 from Kd.R_mono ho3 (fun k_ hk => (.inl hk)))
  have HK := Aside0.mk (Kept.refl w (fun k_ => P3_ k_))
  have HW0 := Aside0.mk hB.size
  have HB := Aside0.mk hB
  clear hB
  have H : (if 0 ≤ (wrap64 ((wrap64 (a1 * (l0.length : Int))) + a2)) then (if (wrap64 ((wrap64 (a1 * (l0.length : Int))) + a2)) < (l3.length : Int) then (if (rd l3 (wrap64 ((wrap64 (a1 * (l0.length : Int))) + a2))) = 0 then (clocheref03_known.l0 k l0 a1 a2 (l3.set ((wrap64 ((wrap64 (a1 * (l0.length : Int))) + a2)) : Int).toNat (-1)) (wrap64 ((wrap64 (a1 * (l0.length : Int))) + a2)) 0) else (some (decide ((rd l3 (wrap64 ((wrap64 (a1 * (l0.length : Int))) + a2))) > 0), l3))) else (none)) else (none)) = some (r1, r2) := h
  clear h
  obtain ⟨ji5, hji5⟩ : ∃ j_ : Int, (wrap64 ((wrap64 (a1 * (l0.length : Int))) + a2)) = j_ := ⟨_, rfl⟩
  replace H : (if 0 ≤ (ji5) then (if (ji5) < (l3.length : Int) then (if (rd l3 (ji5)) = 0 then (clocheref03_known.l0 k l0 a1 a2 (l3.set ((ji5) : Int).toNat (-1)) ji5 0) else (some (decide ((rd l3 (ji5)) > 0), l3))) else (none)) else (none)) = some (r1, r2) := by first | (rw [hji5] at H; exact H) | (simp only [hji5] at H ⊢; exact H)
  have hji5w : (IntKind.i64.wrap ((wrap64 (a1 * (l0.length : Int))) + a2)) = ji5 := (i64_w _).trans hji5
  by_cases c6 : 0 ≤ (ji5)
  · rw [if_pos c6] at H
    have c6b0 : decide (0 ≤ (ji5)) = true := decide_eq_true c6
    clear c6
    by_cases c7 : (ji5) < (l3.length : Int)
    · rw [if_pos c7] at H
      have c7b0 : decide ((ji5) < (l3.length : Int)) = true := decide_eq_true c7
      clear c7
      by_cases c8 : (rd l3 (ji5)) = 0
      · rw [if_pos c8] at H
        have c8b0 : ((rd l3 (ji5)) == 0) = true := beq_iff_eq.mpr c8
        have c8b1 : ((rd l3 (ji5)) != 0) = false := bne_eq_false_iff_eq.mpr c8
        clear c8
        obtain ⟨y199, hy199⟩ : ∃ y_ : List Int, y_ = (l3.set ((ji5) : Int).toNat (-1)) := ⟨_, rfl⟩
        replace H : (clocheref03_known.l0 k l0 a1 a2 y199 ji5 0) = some (r1, r2) := by first | (rw [hy199]; with_reducible exact H) | (have H2_ := (Option.bind_some _ _).symm.trans H; rw [hy199]; with_reducible exact H2_) | (have H2_ := (Option.bind_some _ _).symm.trans H; with_reducible exact H2_) | with_reducible exact H | (rw [hy199]; exact H) | exact H
        have Ny199 := Aside0.mk hy199
        clear hy199
        have H' := Aside0.mk H
        clear H
        obtain ⟨Ao10, co10, eo10⟩ := Kd.R_slice HO3.out
        subst eo10
        have p198 : 0 ≤ ((ji5) : Int) := of_decide_eq_true (by first | (with_reducible assumption) | assumption)
        have q198 : (ji5) < (l3.length : Int) := of_decide_eq_true (by first | (with_reducible assumption) | assumption)
        obtain ⟨ad198, e198, hx198_0⟩ := Kd.at_int (Kd.R_reads' HO3.out).2.2 (ji5) p198 q198
        cases e198
        replace p198 := eq_true p198
        replace q198 := eq_true q198
        have p9 : 0 ≤ ((ji5) : Int) := of_decide_eq_true (by first | (with_reducible assumption) | assumption)
        have q9 : ((ji5) : Int) < ((l3.length : Int) : Int) := of_decide_eq_true (by first | (with_reducible assumption) | assumption)
        obtain ⟨go9, co9, eo9, gb9, gl9, cl9, HG9⟩ := Kd.R_form HO3.out (by omega)
        (first | cases eo9 | (injection eo9 with ea_ en_ ec_; (first | subst ea_ | (injection ea_ with ea_; subst ea_)); subst ec_; clear en_))
        have GB9 := Aside0.mk gb9
        have GG9 := Aside0.mk HG9
        clear gb9 gl9 HG9
        have HMgo9 := Aside0.mk (show (P3_ go9 ∨ w.heap.size ≤ go9) from (HO3.out.1 _ rfl))
        (first | simp only [add_plain] at hx198_0 | skip)
        obtain ⟨hx9_0, hf9_0⟩ := Kd.R_celln 0 HO3.out ((ji5) : Int) p9 q9
        replace p9 := eq_true p9
        replace q9 := eq_true q9
        have HP11 := Kd.R_putg HO3.out ((ji5) : Int) (-1)
        go_enter Tryd.func48, Tryd.ntmps48
        go_wp2_with (first | ((with_reducible refine gate_store (t := 3) (p := 24) rfl ?_); refine store_event (t := 3) (p := 24) (v := ?vo_w12) (w1 := (w.setCell ⟨go9, ((ji5) : Int).toNat, none⟩ (.int .i64 (-1)))) ?hg ?ho ?hn ?hr ?_; (case ho => rfl); (case hg => rfl); (case hn => rfl); (case hr => first | (go_simp; done) | (go_simp; rfl)); intro w12 hw; have hg : w.grownBy w12 (some go9) := (by rw [hw]; exact HP11.2); have hp_ : Kd.R (Kd.int .i64) 3 w12 w0.heap.size (fun k_ => (P3_ k_ ∨ w.heap.size ≤ k_)) (.slice (some ⟨go9, 0, none⟩) l3.length co10) y199 := (by rw [hw, Ny199.out]; exact HP11.1); clear HP11; have n0_ := Aside0.mk (hp_); have n1_ := Aside0.mk ((by rw [hw]; exact below_set (HB.out) GB9.out : Below w0.heap.size w0 w12)); have n2_ := Aside0.mk (Kept.of_grown (S := (fun k_ => P3_ k_)) hg (by repeat (first | (with_reducible first | exact HK.out | apply Kept.alloc | apply Kept.drewN | apply Kept.drew) | exact HK.out)) (fun k_ e_ => (HO3.out.1 k_ e_))); clear HO3; clear HB; clear HK; have HO3 := n0_; have HB := n1_; have HK := n2_; clear n0_ n1_ n2_; clear hg hw hp_))
        go_loopg [10] k (fun kq v10 w' => ∃ (x3_1 : List Int) (x10_1 : Int), v10 = .int .i64 x10_1 ∧ Aside0 (clocheref03_known.l0 kq l0 a1 a2 x3_1 ji5 x10_1 = some (r1, r2)) ∧ Aside0 (kq ≤ k) ∧ Aside0 (Kd.R (Kd.int .i64) 3 w' w0.heap.size (fun k_ => (P3_ k_ ∨ w.heap.size ≤ k_)) (.slice (some ⟨go9, 0, none⟩) l3.length co10) x3_1) ∧ Aside0 (Kept w w' (fun k_ => P3_ k_)) ∧ Aside0 (Below w0.heap.size w0 w'))
        case atStart => exact ⟨(y199), (0), (by first | rfl | (simp; done) | (simp [*]; done)), H', ⟨Nat.le_refl _⟩, ⟨by (with_reducible repeat (first | apply Kd.R_alloc | apply Kd.R_drewN | apply Kd.R_drew)); exact HO3.out⟩, ⟨by repeat (first | (with_reducible first | exact HK.out | apply Kept.alloc | apply Kept.drewN | apply Kept.drew) | exact HK.out)⟩, ⟨by repeat (first | (with_reducible first | exact HB.out | apply below_alloc | apply pw_below_drewN | apply below_drew1) | exact HB.out)⟩⟩
        case round =>
          clear H'
          try clear p1
          try clear q1
          try clear hx1
          try clear p2
          try clear c4
          try clear c6
          try clear c6b0
          try clear p6
          try clear c7
          try clear c7b0
          try clear c8
          try clear c8b0
          try clear c8b1
          try clear p9
          try clear q9
          try clear hx9
          try clear hf9
          try clear hx198_0
          try clear hx9_0
          try clear p198
          try clear p9
          try clear q198
          try clear q9
          obtain ⟨x3_1, x10_1, rfl, HA, HK1, HO_3, HK, HB⟩ := hrel
          have hl3_1 := (Kd.R_reads' HO_3.out).1
          rw [hl3_1] at HO_3
          (try simp only [hl3_1])
          cases gk with
          | zero => exact absurd HA.out (by simp [clocheref03_known.l0])
          | succ k1 =>
            have H := HA.out
            clear HA
            simp only [clocheref03_known.l0] at H
            by_cases c13 : x10_1 < (l0.length : Int)
            · rw [if_pos c13] at H
              have c13b0 : decide (x10_1 < (l0.length : Int)) = true := decide_eq_true c13
              clear c13
              by_cases c14 : 0 ≤ a2
              · rw [if_pos c14] at H
                have c14b0 : decide (0 ≤ a2) = true := decide_eq_true c14
                clear c14
                by_cases c15 : a2 < (l0.length : Int)
                · rw [if_pos c15] at H
                  have c15b0 : decide (a2 < (l0.length : Int)) = true := decide_eq_true c15
                  clear c15
                  by_cases c16 : 0 ≤ x10_1
                  · rw [if_pos c16] at H
                    have c16b0 := eq_true c16
                    have c16b1 : decide (0 ≤ x10_1) = true := decide_eq_true c16
                    clear c16
                    obtain ⟨ji17, hji17⟩ : ∃ j_ : Int, (shr .i64 (Go.bits .andNot .i64 (rd l0 a2) a1) x10_1) = j_ := ⟨_, rfl⟩
                    replace H : (if (Int.tmod (ji17) 2) = 1 then ((clocheref03_known.f k1 l0 (Go.bits .or .i64 a1 (shl .i64 1 x10_1)) x10_1 x3_1).bind fun bt201 => (if bt201.1 = true then (clocheref03_known.l0 k1 l0 a1 a2 bt201.2 ji5 (wrap64 (x10_1 + 1))) else (if 0 ≤ ji5 then (if ji5 < (x3_1.length : Int) then (clocheref03_known.l0 k1 l0 a1 a2 (bt201.2.set (ji5 : Int).toNat 1) ji5 (wrap64 (x10_1 + 1))) else (none)) else (none)))) else (clocheref03_known.l0 k1 l0 a1 a2 x3_1 ji5 (wrap64 (x10_1 + 1)))) = some (r1, r2) := by first | (rw [hji17] at H; exact H) | (simp only [hji17] at H ⊢; exact H)
                    have hji17_ : ((Go.bits .andNot .i64 (rd l0 a2) a1) / 2 ^ min x10_1.toNat 64) = ji17 := hji17
                    have hji17z : x10_1 ≤ 64 → ((Go.bits .andNot .i64 (rd l0 a2) a1) / 2 ^ x10_1.toNat) = ji17 := shr_small hji17
                    by_cases c18 : (Int.tmod (ji17) 2) = 1
                    · rw [if_pos c18] at H
                      have c18b0 : ((Int.tmod (ji17) 2) == 1) = true := beq_iff_eq.mpr c18
                      have c18b1 : ((Int.tmod (ji17) 2) != 1) = false := bne_eq_false_iff_eq.mpr c18
                      clear c18
                      have c19b0 := eq_true (of_decide_eq_true (by first | (with_reducible assumption) | assumption) : 0 ≤ x10_1)
                      obtain ⟨ji20, hji20⟩ : ∃ j_ : Int, (shl .i64 1 x10_1) = j_ := ⟨_, rfl⟩
                      replace H : ((clocheref03_known.f k1 l0 (Go.bits .or .i64 a1 (ji20)) x10_1 x3_1).bind fun bt201 => (if bt201.1 = true then (clocheref03_known.l0 k1 l0 a1 a2 bt201.2 ji5 (wrap64 (x10_1 + 1))) else (if 0 ≤ ji5 then (if ji5 < (x3_1.length : Int) then (clocheref03_known.l0 k1 l0 a1 a2 (bt201.2.set (ji5 : Int).toNat 1) ji5 (wrap64 (x10_1 + 1))) else (none)) else (none)))) = some (r1, r2) := by first | (rw [hji20] at H; exact H) | (simp only [hji20] at H ⊢; exact H)
                      have hji20_ : (IntKind.i64.wrap (1 * 2 ^ min x10_1.toNat 64)) = ji20 := hji20
                      have hji20z : x10_1 ≤ 64 → (IntKind.i64.wrap (1 * 2 ^ x10_1.toNat)) = ji20 := shl_small hji20
                      have hji20u : (IntKind.i64.wrap (2 ^ min x10_1.toNat 64)) = ji20 := by have h_ := hji20_; rw [Int.one_mul] at h_; exact h_
                      have hji20v : x10_1 ≤ 64 → (IntKind.i64.wrap (2 ^ x10_1.toNat)) = ji20 := fun hle_ => by have h_ := hji20z hle_; rw [Int.one_mul] at h_; exact h_
                      have hji20y : (wrap64 (1 * 2 ^ min x10_1.toNat 64)) = ji20 := (i64_w _).symm.trans hji20_
                      have hji20x : x10_1 ≤ 64 → (wrap64 (1 * 2 ^ x10_1.toNat)) = ji20 := fun h_ => (i64_w _).symm.trans (hji20z h_)
                      replace H := Option.bind_eq_some_iff.mp H
                      obtain ⟨⟨t201, t202⟩, A210, H⟩ := H
                      replace H : (if t201 = true then (clocheref03_known.l0 k1 l0 a1 a2 t202 ji5 (wrap64 (x10_1 + 1))) else (if 0 ≤ ji5 then (if ji5 < (x3_1.length : Int) then (clocheref03_known.l0 k1 l0 a1 a2 (t202.set (ji5 : Int).toNat 1) ji5 (wrap64 (x10_1 + 1))) else (none)) else (none))) = some (r1, r2) := H
                      have A21 := Aside0.mk A210
                      clear A210
                      by_cases c22 : t201 = true
                      · subst c22
                        have H1 : (clocheref03_known.l0 k1 l0 a1 a2 t202 ji5 (wrap64 (x10_1 + 1))) = some (r1, r2) := by rw [if_pos rfl] at H; exact H
                        clear H
                        have H := H1
                        clear H1
                        have H' := Aside0.mk H
                        clear H
                        have p200 : 0 ≤ (a2 : Int) := of_decide_eq_true (by first | (with_reducible assumption) | assumption)
                        have q200 : a2 < (l0.length : Int) := of_decide_eq_true (by first | (with_reducible assumption) | assumption)
                        obtain ⟨ad200, e200, hx200_0⟩ := Kd.at_int (Kd.C_kept_now HR0.out HK.out) a2 p200 q200
                        cases e200
                        replace p200 := eq_true p200
                        replace q200 := eq_true q200
                        go_wp2_with (first | (go_at_call 48; (with_reducible refine (ih k1 (by have := HK1.out; omega) _ _ l0 (Go.bits .or .i64 a1 (ji20)) x10_1 (fun k_ => some k_ = (.slice (some ⟨go9, 0, none⟩) x3_1.length co10 : Value).ownBlock) (.slice (some ⟨go9, 0, none⟩) x3_1.length co10) x3_1 true t202 w0 _ ?side1 ?side2 ?side3 ?side4 A21.out).mono ?_); (case side1 => repeat (first | (with_reducible first | exact HB.out | apply below_alloc | apply pw_below_drewN | apply below_drew1) | exact HB.out)); (case side2 => exact Kd.C_kept_call HR0.out (by repeat (first | (with_reducible first | exact HK.out | apply Kept.alloc | apply Kept.drewN | apply Kept.drew) | exact HK.out)) (fun k_ hs_ => (fun e_ => (HO_3.out.1 k_ e_.symm)) hs_)); (case side3 => exact HC0.out); (case side4 => exact Kd.R_tight rfl HO_3.out); rintro e w23 ⟨rfl, hy0, hb, hkp⟩; have n0_ := Aside0.mk (Kd.R_reok rfl hy0 (fun k_ e_ => HO_3.out.1 k_ e_)); have n1_ := Aside0.mk (Kept.then_ (S := (fun k_ => P3_ k_)) (by repeat (first | (with_reducible first | exact HK.out | apply Kept.alloc | apply Kept.drewN | apply Kept.drew) | exact HK.out)) hkp (fun k_ hs_ => (fun e_ => (HO_3.out.1 k_ e_.symm)) hs_)); have n2_ := Aside0.mk (hb); clear HO_3; clear HK; clear HB; have HO_3 := n0_; have HK := n1_; have HB := n2_; clear n0_ n1_ n2_; (try clear hb); (try clear hkp); (try clear hy0)))
                        (try simp only [← hl3_1])
                        go_roundg k1
                        case measure => have := HK1.out; omega
                        case rel => exact ⟨(t202), (wrap64 (x10_1 + 1)), (by first | rfl | (simp; done) | (simp [*]; done)), H', ⟨by have := HK1.out; omega⟩, ⟨by (try simp only [hl3_1]); (with_reducible repeat (first | apply Kd.R_alloc | apply Kd.R_drewN | apply Kd.R_drew)); exact HO_3.out⟩, ⟨by repeat (first | (with_reducible first | exact HK.out | apply Kept.alloc | apply Kept.drewN | apply Kept.drew) | exact HK.out)⟩, ⟨by repeat (first | (with_reducible first | exact HB.out | apply below_alloc | apply pw_below_drewN | apply below_drew1) | exact HB.out)⟩⟩
                      · replace c22 := Bool.eq_false_iff.mpr c22
                        subst c22
                        have H1 : (if 0 ≤ ji5 then (if ji5 < (x3_1.length : Int) then (clocheref03_known.l0 k1 l0 a1 a2 (t202.set (ji5 : Int).toNat 1) ji5 (wrap64 (x10_1 + 1))) else (none)) else (none)) = some (r1, r2) := by rw [if_neg (show ¬ (false = true) by decide)] at H; exact H
                        clear H
                        have H := H1
                        clear H1
                        by_cases c24 : 0 ≤ ji5
                        · rw [if_pos c24] at H
                          have c24b0 : decide (0 ≤ ji5) = true := decide_eq_true c24
                          clear c24
                          by_cases c25 : ji5 < (x3_1.length : Int)
                          · rw [if_pos c25] at H
                            have c25b0 : decide (ji5 < (x3_1.length : Int)) = true := decide_eq_true c25
                            clear c25
                            obtain ⟨y203, hy203⟩ : ∃ y_ : List Int, y_ = (t202.set (ji5 : Int).toNat 1) := ⟨_, rfl⟩
                            replace H : (clocheref03_known.l0 k1 l0 a1 a2 y203 ji5 (wrap64 (x10_1 + 1))) = some (r1, r2) := by first | (rw [hy203]; with_reducible exact H) | (have H2_ := (Option.bind_some _ _).symm.trans H; rw [hy203]; with_reducible exact H2_) | (have H2_ := (Option.bind_some _ _).symm.trans H; with_reducible exact H2_) | with_reducible exact H | (rw [hy203]; exact H) | exact H
                            have Ny203 := Aside0.mk hy203
                            clear hy203
                            have H' := Aside0.mk H
                            clear H
                            have p200 : 0 ≤ (a2 : Int) := of_decide_eq_true (by first | (with_reducible assumption) | assumption)
                            have q200 : a2 < (l0.length : Int) := of_decide_eq_true (by first | (with_reducible assumption) | assumption)
                            obtain ⟨ad200, e200, hx200_0⟩ := Kd.at_int (Kd.C_kept_now HR0.out HK.out) a2 p200 q200
                            cases e200
                            replace p200 := eq_true p200
                            replace q200 := eq_true q200
                            go_wp2_with (first | (go_at_call 48; (with_reducible refine (ih k1 (by have := HK1.out; omega) _ _ l0 (Go.bits .or .i64 a1 (ji20)) x10_1 (fun k_ => some k_ = (.slice (some ⟨go9, 0, none⟩) x3_1.length co10 : Value).ownBlock) (.slice (some ⟨go9, 0, none⟩) x3_1.length co10) x3_1 false t202 w0 _ ?side1 ?side2 ?side3 ?side4 A21.out).mono ?_); (case side1 => repeat (first | (with_reducible first | exact HB.out | apply below_alloc | apply pw_below_drewN | apply below_drew1) | exact HB.out)); (case side2 => exact Kd.C_kept_call HR0.out (by repeat (first | (with_reducible first | exact HK.out | apply Kept.alloc | apply Kept.drewN | apply Kept.drew) | exact HK.out)) (fun k_ hs_ => (fun e_ => (HO_3.out.1 k_ e_.symm)) hs_)); (case side3 => exact HC0.out); (case side4 => exact Kd.R_tight rfl HO_3.out); rintro e w27 ⟨rfl, hy0, hb, hkp⟩; have n0_ := Aside0.mk (Kd.R_reok rfl hy0 (fun k_ e_ => HO_3.out.1 k_ e_)); have n1_ := Aside0.mk (Kept.then_ (S := (fun k_ => P3_ k_)) (by repeat (first | (with_reducible first | exact HK.out | apply Kept.alloc | apply Kept.drewN | apply Kept.drew) | exact HK.out)) hkp (fun k_ hs_ => (fun e_ => (HO_3.out.1 k_ e_.symm)) hs_)); have n2_ := Aside0.mk (hb); clear HO_3; clear HK; clear HB; have HO_3 := n0_; have HK := n1_; have HB := n2_; clear n0_ n1_ n2_; (try clear hb); (try clear hkp); (try clear hy0); have p26 : 0 ≤ (ji5 : Int) := of_decide_eq_true (by first | (with_reducible assumption) | assumption); have q26 : (ji5 : Int) < ((x3_1.length : Int) : Int) := of_decide_eq_true (by first | (with_reducible assumption) | assumption); obtain ⟨hx26_0, hf26_0⟩ := Kd.R_celln 0 HO_3.out (ji5 : Int) p26 q26; replace p26 := eq_true p26; replace q26 := eq_true q26; obtain ⟨hy28_, hz28_⟩ := Kd.R_celln 0 HO_3.out (ji5 : Int) (of_decide_eq_true (by first | (with_reducible assumption) | assumption)) (of_decide_eq_true (by first | (with_reducible assumption) | assumption)); have HP28 := Kd.R_putg HO_3.out (ji5 : Int) 1) | ((with_reducible refine gate_store (t := 3) (p := 54) rfl ?_); refine store_event (t := 3) (p := 54) (v := ?vo_w29) (w1 := (w27.setCell ⟨go9, (ji5 : Int).toNat, none⟩ (.int .i64 1))) ?hg ?ho ?hn ?hr ?_; (case ho => rfl); (case hg => rfl); (case hn => rfl); (case hr => first | (go_simp; done) | (go_simp; rfl)); intro w29 hw; have hg : w27.grownBy w29 (some go9) := (by rw [hw]; exact HP28.2); have hp_ : Kd.R (Kd.int .i64) 3 w29 w0.heap.size (fun k_ => (P3_ k_ ∨ w.heap.size ≤ k_)) (.slice (some ⟨go9, 0, none⟩) x3_1.length co10) y203 := (by rw [hw, Ny203.out]; exact HP28.1); clear HP28; have n0_ := Aside0.mk (hp_); have n1_ := Aside0.mk ((by rw [hw]; exact below_set (HB.out) GB9.out : Below w0.heap.size w0 w29)); have n2_ := Aside0.mk (Kept.of_grown (S := (fun k_ => P3_ k_)) hg (by repeat (first | (with_reducible first | exact HK.out | apply Kept.alloc | apply Kept.drewN | apply Kept.drew) | exact HK.out)) (fun k_ e_ => (HO_3.out.1 k_ e_))); clear HO_3; clear HB; clear HK; have HO_3 := n0_; have HB := n1_; have HK := n2_; clear n0_ n1_ n2_; clear hg hw hp_))
                            (try simp only [← hl3_1])
                            go_roundg k1
                            case measure => have := HK1.out; omega
                            case rel => exact ⟨(y203), (wrap64 (x10_1 + 1)), (by first | rfl | (simp; done) | (simp [*]; done)), H', ⟨by have := HK1.out; omega⟩, ⟨by (try simp only [hl3_1]); (with_reducible repeat (first | apply Kd.R_alloc | apply Kd.R_drewN | apply Kd.R_drew)); exact HO_3.out⟩, ⟨by repeat (first | (with_reducible first | exact HK.out | apply Kept.alloc | apply Kept.drewN | apply Kept.drew) | exact HK.out)⟩, ⟨by repeat (first | (with_reducible first | exact HB.out | apply below_alloc | apply pw_below_drewN | apply below_drew1) | exact HB.out)⟩⟩
                          · rw [if_neg c25] at H
                            exact absurd H (by simp)
                        · rw [if_neg c24] at H
                          exact absurd H (by simp)
                    · rw [if_neg c18] at H
                      have c18b0 : ((Int.tmod (ji17) 2) == 1) = false := beq_eq_false_iff_ne.mpr c18
                      have c18b1 : ((Int.tmod (ji17) 2) != 1) = true := bne_iff_ne.mpr c18
                      have H' := Aside0.mk H
                      clear H
                      have p200 : 0 ≤ (a2 : Int) := of_decide_eq_true (by first | (with_reducible assumption) | assumption)
                      have q200 : a2 < (l0.length : Int) := of_decide_eq_true (by first | (with_reducible assumption) | assumption)
                      obtain ⟨ad200, e200, hx200_0⟩ := Kd.at_int (Kd.C_kept_now HR0.out HK.out) a2 p200 q200
                      cases e200
                      replace p200 := eq_true p200
                      replace q200 := eq_true q200
                      go_wp2
                      (try simp only [← hl3_1])
                      go_roundg k1
                      case measure => have := HK1.out; omega
                      case rel => exact ⟨(x3_1), (wrap64 (x10_1 + 1)), (by first | rfl | (simp; done) | (simp [*]; done)), H', ⟨by have := HK1.out; omega⟩, ⟨by (try simp only [hl3_1]); (with_reducible repeat (first | apply Kd.R_alloc | apply Kd.R_drewN | apply Kd.R_drew)); exact HO_3.out⟩, ⟨by repeat (first | (with_reducible first | exact HK.out | apply Kept.alloc | apply Kept.drewN | apply Kept.drew) | exact HK.out)⟩, ⟨by repeat (first | (with_reducible first | exact HB.out | apply below_alloc | apply pw_below_drewN | apply below_drew1) | exact HB.out)⟩⟩
                  · rw [if_neg c16] at H
                    exact absurd H (by simp)
                · rw [if_neg c15] at H
                  exact absurd H (by simp)
              · rw [if_neg c14] at H
                exact absurd H (by simp)
            · rw [if_neg c13] at H
              have c13b0 : decide (x10_1 < (l0.length : Int)) = false := decide_eq_false c13
              clear c13
              by_cases c30 : 0 ≤ ji5
              · rw [if_pos c30] at H
                have c30b0 : decide (0 ≤ ji5) = true := decide_eq_true c30
                clear c30
                by_cases c31 : ji5 < (x3_1.length : Int)
                · rw [if_pos c31] at H
                  have c31b0 : decide (ji5 < (x3_1.length : Int)) = true := decide_eq_true c31
                  clear c31
                  simp only [Option.some.injEq, Prod.mk.injEq] at H
                  obtain ⟨rfl, rfl⟩ := H
                  have p204 : 0 ≤ (ji5 : Int) := of_decide_eq_true (by first | (with_reducible assumption) | assumption)
                  have q204 : ji5 < (x3_1.length : Int) := of_decide_eq_true (by first | (with_reducible assumption) | assumption)
                  obtain ⟨ad204, e204, hx204_0⟩ := Kd.at_int (Kd.R_reads' HO_3.out).2.2 ji5 p204 q204
                  obtain rfl : (⟨go9, 0, none⟩ : Addr) = ad204 := (by injection e204)
                  (first | simp only [add_plain] at hx204_0 | simp only [add_at] at hx204_0 | simp only [Addr.add, Nat.zero_add] at hx204_0 | skip)
                  replace p204 := eq_true p204
                  replace q204 := eq_true q204
                  go_wp2
                  go_ret
                  exact ⟨by first | rfl | (simp [errW_none, errW_some] <;> rfl) | (simp only [← hji5]; first | rfl | (simp [errW_none, errW_some] <;> rfl)) | (simp [*, errW_none, errW_some] <;> rfl), (by first | exact (by (with_reducible repeat (first | apply Kd.R_alloc | apply Kd.R_drewN | apply Kd.R_drew)); exact HO_3.out) | (simp only [hl3_1]; exact (by (with_reducible repeat (first | apply Kd.R_alloc | apply Kd.R_drewN | apply Kd.R_drew)); exact HO_3.out))), by repeat (first | (with_reducible first | exact HB.out | apply below_alloc | apply pw_below_drewN | apply below_drew1) | exact HB.out), by repeat (first | (with_reducible first | exact HK.out | apply Kept.alloc | apply Kept.drewN | apply Kept.drew) | exact HK.out)⟩
                · rw [if_neg c31] at H
                  exact absurd H (by simp)
              · rw [if_neg c30] at H
                exact absurd H (by simp)
      · rw [if_neg c8] at H
        have c8b0 : ((rd l3 (ji5)) == 0) = false := beq_eq_false_iff_ne.mpr c8
        have c8b1 : ((rd l3 (ji5)) != 0) = true := bne_iff_ne.mpr c8
        simp only [Option.some.injEq, Prod.mk.injEq] at H
        obtain ⟨rfl, rfl⟩ := H
        obtain ⟨Ao32, co32, eo32⟩ := Kd.R_slice HO3.out
        subst eo32
        have p198 : 0 ≤ ((ji5) : Int) := of_decide_eq_true (by first | (with_reducible assumption) | assumption)
        have q198 : (ji5) < (l3.length : Int) := of_decide_eq_true (by first | (with_reducible assumption) | assumption)
        obtain ⟨ad198, e198, hx198_0⟩ := Kd.at_int (Kd.R_reads' HO3.out).2.2 (ji5) p198 q198
        cases e198
        replace p198 := eq_true p198
        replace q198 := eq_true q198
        have p205 : 0 ≤ ((ji5) : Int) := of_decide_eq_true (by first | (with_reducible assumption) | assumption)
        have q205 : (ji5) < (l3.length : Int) := of_decide_eq_true (by first | (with_reducible assumption) | assumption)
        obtain ⟨ad205, e205, hx205_0⟩ := Kd.at_int (Kd.R_reads' HO3.out).2.2 (ji5) p205 q205
        obtain rfl : ad198 = ad205 := (by injection e205)
        replace p205 := eq_true p205
        replace q205 := eq_true q205
        go_enter Tryd.func48, Tryd.ntmps48
        go_wp2
        go_ret
        exact ⟨by first | rfl | (simp [errW_none, errW_some] <;> rfl) | (simp only [← hji5]; first | rfl | (simp [errW_none, errW_some] <;> rfl)) | (simp [*, errW_none, errW_some] <;> rfl), by (with_reducible repeat (first | apply Kd.R_alloc | apply Kd.R_drewN | apply Kd.R_drew)); exact HO3.out, by repeat (first | (with_reducible first | exact HB.out | apply below_alloc | apply pw_below_drewN | apply below_drew1) | exact HB.out), by repeat (first | (with_reducible first | exact HK.out | apply Kept.alloc | apply Kept.drewN | apply Kept.drew) | exact HK.out)⟩
    · rw [if_neg c7] at H
      exact absurd H (by simp)
  · rw [if_neg c6] at H
    exact absurd H (by simp)

end Go.Proofs.YtadfcplobidmeaaDoor.Print
