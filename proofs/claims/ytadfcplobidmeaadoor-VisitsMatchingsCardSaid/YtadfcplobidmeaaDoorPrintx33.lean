/- What the functions of the visits compute, printed by this repo's hand printer. -/
import Derived.Test.YtadfcplobidmeaaDoorPrintx0
import Derived.Test.YtadfcplobidmeaaDoorPrintx2
import Derived.Test.YtadfcplobidmeaaDoorPrintx6
import Derived.Test.YtadfcplobidmeaaDoorPrintx9
import Derived.Test.YtadfcplobidmeaaDoorPrintx10
import Derived.Test.YtadfcplobidmeaaDoorPrintx11
import Derived.Test.YtadfcplobidmeaaDoorPrintx21
import Derived.Test.YtadfcplobidmeaaDoorPrintx27b
import Derived.Test.YtadfcplobidmeaaDoorPrintx31
import Derived.Test.YtadfcplobidmeaaDoorPrintx32
namespace Go.Proofs.YtadfcplobidmeaaDoor.Print
open Go.RowKit Go.Proofs.YtadfcplobidmeaaDoorW.PrintWords Go.Proofs.YtadfcplobidmeaaDoorW.PrintLast Go.Proofs.YtadfcplobidmeaaDoorW.PrintMore
attribute [local go_sem] max2_int min2_int max_two min_two max_three min_three max_four min_four   -- for this text's walks alone
set_option linter.unusedVariables false
set_option linter.unusedSimpArgs false

/-! ### clochelaw03_VisitsMatchings: function 11 -/
def clochelaw03_VisitsMatchings.j0 : Nat → List Int → List (S43) → List Int → List (S43) → Bool → Option (Bool)
  | 0, _, _, _, _, _ => none
  | k + 1, x0, x1, x5, x6, x47 => if x47 = true then (none) else ((visits_IsMatching.f k x5 x6).bind fun bt464 => ((clocheref03_IsMatching.f k x0 x1).bind fun bt466 => (if (bt464.1 == bt466.1) = true then (if bt464.2 = bt466.2 then ((clochelaw03_same.f k x5 x0).bind fun t468 => (if t468 = true then ((clochelaw03_pairs.f k x6 x1).bind fun t469 => (if t469 = true then ((clochelaw03_alive.f k).bind fun t470 => (some t470)) else (none))) else (none))) else (none)) else (none))))
def clochelaw03_VisitsMatchings.f (k : Nat) (l0 : List Int) (l1 : List (S43)) : Option (Bool) := (clochelaw03_few.f l0 l1).bind fun t439 => (if t439 = true then ((some (([] : List Int) : List Int)).bind fun y441 => (if y441.length + l0.length < 17592186044416 then ((some (y441 ++ l0 : List Int)).bind fun y444 => ((some (([] : List (S43)) : List (S43))).bind fun y447 => (if y447.length + l1.length < 8796093022208 then ((visits_IsShop.f k y444).bind fun t453 => ((clocheref03_IsShop.f k l0).bind fun t454 => (if (t453 != t454) = true then (none) else ((visits_Largest.f k y444).bind fun bt455 => ((clocheref03_Largest.f k l0).bind fun bt459 => ((clochelaw03_pairs.f k bt455.1 bt459.1).bind fun t463 => (if t463 = true then (clochelaw03_VisitsMatchings.j0 k l0 l1 y444 (y447 ++ l1) (bt455.2 != bt459.2)) else (none)))))))) else (none)))) else (none))) else ((clochelaw03_alive.f k).bind fun t440 => (some t440)))
theorem clochelaw03_VisitsMatchings.mono_l : ∀ k, (∀ y0 y1 y2 y3 y4, LeO (clochelaw03_VisitsMatchings.j0 k y0 y1 y2 y3 y4) (clochelaw03_VisitsMatchings.j0 (k + 1) y0 y1 y2 y3 y4))
  | 0 => fun _ _ _ _ _ r h => by simp [clochelaw03_VisitsMatchings.j0] at h
  | k + 1 => by
    have ih0 := clochelaw03_VisitsMatchings.mono_l k
    · intro y0 y1 y2 y3 y4
      unfold clochelaw03_VisitsMatchings.j0
      repeat' first
      | (with_reducible exact ih0 _ _ _ _ _)
      | (with_reducible exact clochelaw03_alive.mono _)
      | (with_reducible exact clochelaw03_pairs.mono _ _ _)
      | (with_reducible exact clochelaw03_same.mono _ _ _)
      | (with_reducible exact clocheref03_IsMatching.mono _ _ _)
      | (with_reducible exact clocheref03_IsShop.mono _ _)
      | (with_reducible exact clocheref03_Largest.mono _ _)
      | (with_reducible exact visits_IsMatching.mono _ _ _)
      | (with_reducible exact visits_IsShop.mono _ _)
      | (with_reducible exact visits_Largest.mono _ _)
      | (with_reducible exact LeO.refl _)
      | (with_reducible exact LeO.none _)
      | (with_reducible refine LeO.ite ?_ ?_)
      | (with_reducible refine LeO.bind ?_ (fun _ => ?_))
      | exact ih0 _ _ _ _ _
      | exact clochelaw03_alive.mono _
      | exact clochelaw03_pairs.mono _ _ _
      | exact clochelaw03_same.mono _ _ _
      | exact clocheref03_IsMatching.mono _ _ _
      | exact clocheref03_IsShop.mono _ _
      | exact clocheref03_Largest.mono _ _
      | exact visits_IsMatching.mono _ _ _
      | exact visits_IsShop.mono _ _
      | exact visits_Largest.mono _ _
      | exact LeO.none _
      | refine LeO.ite ?_ ?_
      | refine LeO.bind ?_ (fun _ => ?_)
theorem clochelaw03_VisitsMatchings.mono : ∀ a0 a1 k, LeO (clochelaw03_VisitsMatchings.f k a0 a1) (clochelaw03_VisitsMatchings.f (k + 1) a0 a1) := by
  intro a0 a1 k
  have ih0 := clochelaw03_VisitsMatchings.mono_l k
  unfold clochelaw03_VisitsMatchings.f
  repeat' first
      | (with_reducible exact ih0 _ _ _ _ _)
      | (with_reducible exact clochelaw03_alive.mono _)
      | (with_reducible exact clochelaw03_pairs.mono _ _ _)
      | (with_reducible exact clochelaw03_same.mono _ _ _)
      | (with_reducible exact clocheref03_IsMatching.mono _ _ _)
      | (with_reducible exact clocheref03_IsShop.mono _ _)
      | (with_reducible exact clocheref03_Largest.mono _ _)
      | (with_reducible exact visits_IsMatching.mono _ _ _)
      | (with_reducible exact visits_IsShop.mono _ _)
      | (with_reducible exact visits_Largest.mono _ _)
      | (with_reducible exact LeO.refl _)
      | (with_reducible exact LeO.none _)
      | (with_reducible refine LeO.ite ?_ ?_)
      | (with_reducible refine LeO.bind ?_ (fun _ => ?_))
      | exact ih0 _ _ _ _ _
      | exact clochelaw03_alive.mono _
      | exact clochelaw03_pairs.mono _ _ _
      | exact clochelaw03_same.mono _ _ _
      | exact clocheref03_IsMatching.mono _ _ _
      | exact clocheref03_IsShop.mono _ _
      | exact clocheref03_Largest.mono _ _
      | exact visits_IsMatching.mono _ _ _
      | exact visits_IsShop.mono _ _
      | exact visits_Largest.mono _ _
      | exact LeO.none _
      | refine LeO.ite ?_ ?_
      | refine LeO.bind ?_ (fun _ => ?_)
set_option maxHeartbeats 8000000 in
set_option maxRecDepth 100000 in
theorem clochelaw03_VisitsMatchings.calls (k : Nat) (A0 : Option Addr) (c0 : Nat) (l0 : List Int) (A1 : Option Addr) (c1 : Nat) (l1 : List (S43)) (r : Bool) (w : World) (hr0 : Kd.C (Kd.int .i64) w A0 l0.length l0) (hc0 : l0.length ≤ c0) (hr1 : Kd.C k43 w A1 l1.length l1) (hc1 : l1.length ≤ c1) (h : clochelaw03_VisitsMatchings.f k l0 l1 = some r) (hT : Tab w) :
    Calls Tryd.prog 11 #[.slice A0 l0.length c0, .slice A1 l1.length c1] w fun e w' => e = .returned (.bool r) ∧ Below w.heap.size w w' := by
  have HR0 := Aside0.mk hr0
  have HC0 := Aside0.mk hc0
  clear hr0 hc0
  have HR1 := Aside0.mk hr1
  have HC1 := Aside0.mk hc1
  clear hr1 hc1
  have HT0 := Aside0.mk hT
  clear hT
  have HB := Aside0.mk (Below.refl w.heap.size w)
  have H : ((clochelaw03_few.f l0 l1).bind fun t439 => (if t439 = true then ((some (([] : List Int) : List Int)).bind fun y441 => (if y441.length + l0.length < 17592186044416 then ((some (y441 ++ l0 : List Int)).bind fun y444 => ((some (([] : List (S43)) : List (S43))).bind fun y447 => (if y447.length + l1.length < 8796093022208 then ((visits_IsShop.f k y444).bind fun t453 => ((clocheref03_IsShop.f k l0).bind fun t454 => (if (t453 != t454) = true then (none) else ((visits_Largest.f k y444).bind fun bt455 => ((clocheref03_Largest.f k l0).bind fun bt459 => ((clochelaw03_pairs.f k bt455.1 bt459.1).bind fun t463 => (if t463 = true then (clochelaw03_VisitsMatchings.j0 k l0 l1 y444 (y447 ++ l1) (bt455.2 != bt459.2)) else (none)))))))) else (none)))) else (none))) else ((clochelaw03_alive.f k).bind fun t440 => (some t440)))) = some r := h
  clear h
  replace H := Option.bind_eq_some_iff.mp H
  obtain ⟨t439, A30, H⟩ := H
  replace H : (if t439 = true then ((some (([] : List Int) : List Int)).bind fun y441 => (if y441.length + l0.length < 17592186044416 then ((some (y441 ++ l0 : List Int)).bind fun y444 => ((some (([] : List (S43)) : List (S43))).bind fun y447 => (if y447.length + l1.length < 8796093022208 then ((visits_IsShop.f k y444).bind fun t453 => ((clocheref03_IsShop.f k l0).bind fun t454 => (if (t453 != t454) = true then (none) else ((visits_Largest.f k y444).bind fun bt455 => ((clocheref03_Largest.f k l0).bind fun bt459 => ((clochelaw03_pairs.f k bt455.1 bt459.1).bind fun t463 => (if t463 = true then (clochelaw03_VisitsMatchings.j0 k l0 l1 y444 (y447 ++ l1) (bt455.2 != bt459.2)) else (none)))))))) else (none)))) else (none))) else ((clochelaw03_alive.f k).bind fun t440 => (some t440))) = some r := H
  have A3 := Aside0.mk A30
  clear A30
  by_cases c4 : t439 = true
  · subst c4
    have H1 : ((some (([] : List Int) : List Int)).bind fun y441 => (if y441.length + l0.length < 17592186044416 then ((some (y441 ++ l0 : List Int)).bind fun y444 => ((some (([] : List (S43)) : List (S43))).bind fun y447 => (if y447.length + l1.length < 8796093022208 then ((visits_IsShop.f k y444).bind fun t453 => ((clocheref03_IsShop.f k l0).bind fun t454 => (if (t453 != t454) = true then (none) else ((visits_Largest.f k y444).bind fun bt455 => ((clocheref03_Largest.f k l0).bind fun bt459 => ((clochelaw03_pairs.f k bt455.1 bt459.1).bind fun t463 => (if t463 = true then (clochelaw03_VisitsMatchings.j0 k l0 l1 y444 (y447 ++ l1) (bt455.2 != bt459.2)) else (none)))))))) else (none)))) else (none))) = some r := by rw [if_pos rfl] at H; exact H
    clear H
    have H := H1
    clear H1
    obtain ⟨y441, hy441⟩ : ∃ y_ : List Int, y_ = (([] : List Int)) := ⟨_, rfl⟩
    replace H : (if y441.length + l0.length < 17592186044416 then ((some (y441 ++ l0 : List Int)).bind fun y444 => ((some (([] : List (S43)) : List (S43))).bind fun y447 => (if y447.length + l1.length < 8796093022208 then ((visits_IsShop.f k y444).bind fun t453 => ((clocheref03_IsShop.f k l0).bind fun t454 => (if (t453 != t454) = true then (none) else ((visits_Largest.f k y444).bind fun bt455 => ((clocheref03_Largest.f k l0).bind fun bt459 => ((clochelaw03_pairs.f k bt455.1 bt459.1).bind fun t463 => (if t463 = true then (clochelaw03_VisitsMatchings.j0 k l0 l1 y444 (y447 ++ l1) (bt455.2 != bt459.2)) else (none)))))))) else (none)))) else (none)) = some r := by first | (rw [hy441]; with_reducible exact H) | (have H2_ := (Option.bind_some _ _).symm.trans H; rw [hy441]; with_reducible exact H2_) | (have H2_ := (Option.bind_some _ _).symm.trans H; with_reducible exact H2_) | with_reducible exact H | (rw [hy441]; exact H) | exact H
    have Ny441 := Aside0.mk hy441
    clear hy441
    by_cases c5 : y441.length + l0.length < 17592186044416
    · rw [if_pos c5] at H
      have LMc5 := Aside0.mk c5
      clear c5
      obtain ⟨y444, hy444⟩ : ∃ y_ : List Int, y_ = (y441 ++ l0) := ⟨_, rfl⟩
      replace H : ((some (([] : List (S43)) : List (S43))).bind fun y447 => (if y447.length + l1.length < 8796093022208 then ((visits_IsShop.f k y444).bind fun t453 => ((clocheref03_IsShop.f k l0).bind fun t454 => (if (t453 != t454) = true then (none) else ((visits_Largest.f k y444).bind fun bt455 => ((clocheref03_Largest.f k l0).bind fun bt459 => ((clochelaw03_pairs.f k bt455.1 bt459.1).bind fun t463 => (if t463 = true then (clochelaw03_VisitsMatchings.j0 k l0 l1 y444 (y447 ++ l1) (bt455.2 != bt459.2)) else (none)))))))) else (none))) = some r := by first | (rw [hy444]; with_reducible exact H) | (have H2_ := (Option.bind_some _ _).symm.trans H; rw [hy444]; with_reducible exact H2_) | (have H2_ := (Option.bind_some _ _).symm.trans H; with_reducible exact H2_) | with_reducible exact H | (rw [hy444]; exact H) | exact H
      have Ny444 := Aside0.mk hy444
      clear hy444
      obtain ⟨y447, hy447⟩ : ∃ y_ : List (S43), y_ = (([] : List (S43))) := ⟨_, rfl⟩
      replace H : (if y447.length + l1.length < 8796093022208 then ((visits_IsShop.f k y444).bind fun t453 => ((clocheref03_IsShop.f k l0).bind fun t454 => (if (t453 != t454) = true then (none) else ((visits_Largest.f k y444).bind fun bt455 => ((clocheref03_Largest.f k l0).bind fun bt459 => ((clochelaw03_pairs.f k bt455.1 bt459.1).bind fun t463 => (if t463 = true then (clochelaw03_VisitsMatchings.j0 k l0 l1 y444 (y447 ++ l1) (bt455.2 != bt459.2)) else (none)))))))) else (none)) = some r := by first | (rw [hy447]; with_reducible exact H) | (have H2_ := (Option.bind_some _ _).symm.trans H; rw [hy447]; with_reducible exact H2_) | (have H2_ := (Option.bind_some _ _).symm.trans H; with_reducible exact H2_) | with_reducible exact H | (rw [hy447]; exact H) | exact H
      have Ny447 := Aside0.mk hy447
      clear hy447
      by_cases c6 : y447.length + l1.length < 8796093022208
      · rw [if_pos c6] at H
        have LMc6 := Aside0.mk c6
        clear c6
        obtain ⟨y450, hy450⟩ : ∃ y_ : List (S43), y_ = (y447 ++ l1) := ⟨_, rfl⟩
        replace H : ((visits_IsShop.f k y444).bind fun t453 => ((clocheref03_IsShop.f k l0).bind fun t454 => (if (t453 != t454) = true then (none) else ((visits_Largest.f k y444).bind fun bt455 => ((clocheref03_Largest.f k l0).bind fun bt459 => ((clochelaw03_pairs.f k bt455.1 bt459.1).bind fun t463 => (if t463 = true then (clochelaw03_VisitsMatchings.j0 k l0 l1 y444 y450 (bt455.2 != bt459.2)) else (none)))))))) = some r := by first | (rw [hy450]; with_reducible exact H) | (have H2_ := (Option.bind_some _ _).symm.trans H; rw [hy450]; with_reducible exact H2_) | (have H2_ := (Option.bind_some _ _).symm.trans H; with_reducible exact H2_) | with_reducible exact H | (rw [hy450]; exact H) | exact H
        have Ny450 := Aside0.mk hy450
        clear hy450
        replace H := Option.bind_eq_some_iff.mp H
        obtain ⟨t453, A70, H⟩ := H
        replace H : ((clocheref03_IsShop.f k l0).bind fun t454 => (if (t453 != t454) = true then (none) else ((visits_Largest.f k y444).bind fun bt455 => ((clocheref03_Largest.f k l0).bind fun bt459 => ((clochelaw03_pairs.f k bt455.1 bt459.1).bind fun t463 => (if t463 = true then (clochelaw03_VisitsMatchings.j0 k l0 l1 y444 y450 (bt455.2 != bt459.2)) else (none))))))) = some r := H
        have A7 := Aside0.mk A70
        clear A70
        replace H := Option.bind_eq_some_iff.mp H
        obtain ⟨t454, A80, H⟩ := H
        replace H : (if (t453 != t454) = true then (none) else ((visits_Largest.f k y444).bind fun bt455 => ((clocheref03_Largest.f k l0).bind fun bt459 => ((clochelaw03_pairs.f k bt455.1 bt459.1).bind fun t463 => (if t463 = true then (clochelaw03_VisitsMatchings.j0 k l0 l1 y444 y450 (bt455.2 != bt459.2)) else (none)))))) = some r := H
        have A8 := Aside0.mk A80
        clear A80
        by_cases c9 : (t453 != t454) = true
        · rw [if_pos c9] at H
          exact absurd H (by simp)
        · rw [if_neg c9] at H
          have c9b0 : (t453 != t454) = false := by simpa using c9
          (try (have c9b1 : decide (t453 = t454) = true := by simpa using c9))
          (try (have c9b2 : (t453 == t454) = true := by simpa using c9))
          clear c9
          replace H := Option.bind_eq_some_iff.mp H
          obtain ⟨⟨t455, t456⟩, A100, H⟩ := H
          replace H : ((clocheref03_Largest.f k l0).bind fun bt459 => ((clochelaw03_pairs.f k t455 bt459.1).bind fun t463 => (if t463 = true then (clochelaw03_VisitsMatchings.j0 k l0 l1 y444 y450 (t456 != bt459.2)) else (none)))) = some r := H
          have A10 := Aside0.mk A100
          clear A100
          replace H := Option.bind_eq_some_iff.mp H
          obtain ⟨⟨t459, t460⟩, A110, H⟩ := H
          replace H : ((clochelaw03_pairs.f k t455 t459).bind fun t463 => (if t463 = true then (clochelaw03_VisitsMatchings.j0 k l0 l1 y444 y450 (t456 != t460)) else (none))) = some r := H
          have A11 := Aside0.mk A110
          clear A110
          have HC12 := Aside0.mk H
          clear H
          go_enter Tryd.func11, Tryd.ntmps11
          go_upto_region 8 with (first | ((with_reducible refine gate_callee (f := 15) rfl ?_); refine goesL_ (some 15) rfl rfl Tryd.func15 (by kernel_rfl) rfl #[.slice A0 l0.length c0, .slice A1 l1.length c1] rfl (by (try simp only [List.map_toArray, List.map_cons, List.map_nil]); first | done | rfl | (simp only [List.length_drop, List.length_take]; rfl)) ?_; (with_reducible refine (clochelaw03_few.calls _ _ l0 _ _ l1 true _ ?side1 ?side2 ?side3 ?side4 A3.out).mono ?_); (case side1 => repeat (first | exact HR0.out | (with_reducible refine Kd.C_alloc ?_ _) | (with_reducible refine Kd.C_drewN ?_ _) | (with_reducible refine Kd.C_drew ?_))); (case side2 => exact HC0.out); (case side3 => repeat (first | exact HR1.out | (with_reducible refine Kd.C_alloc ?_ _) | (with_reducible refine Kd.C_drewN ?_ _) | (with_reducible refine Kd.C_drew ?_))); (case side4 => exact HC1.out); rintro e w' ⟨rfl, ⟨nd, rfl⟩⟩; refine ⟨_, rfl, ?_⟩) | ((with_reducible refine gate_dst (N := 18) rfl ?_); refine Kd.R_lit (Kd.int .i64) _ 3 ?hg (N := 18) ?hd (xs := ([] : List Int)) (inner := []) (ok := fun _ => True) (okp := fun _ => True) ?hr ?hp (fun _ hk => hk) trivial (Below.refl _ _) (Nat.le_refl _) (by simp) ?_; (case hd => rfl); (case hg => rfl); (case hr => first | (go_simp; done) | (go_simp; rfl)); (case hp => exact (Reps.none _ _)); intro v442 w13 ho14 hb hg_ hnew_; clear hg_ hnew_; (first | rw [← Ny441.out] at ho14 | (simp only [Int.reduceToNat] at ho14; rw [← Ny441.out] at ho14)); have n0_ := Aside0.mk (Kd.R_lower ho14 (below_size (by repeat (first | (with_reducible first | exact HB.out | apply below_alloc | apply pw_below_drewN | apply below_drew1) | exact HB.out)))); have n1_ := Aside0.mk (below_step (by repeat (first | (with_reducible first | exact HB.out | apply below_alloc | apply pw_below_drewN | apply below_drew1) | exact HB.out)) hb); clear HB; have HO443 := n0_; have HB := n1_; clear n0_ n1_; clear hb ho14) | ((with_reducible refine gate_builtin (b := .append) (xs := #[.tmp 18, .tmp 19]) rfl ?_); at_builtin; refine Kd.R_append_rows (Kd.int .i64) (w0 := w) w.heap.size rfl (.tmp 18) (.tmp 19) 22 3 (.int .i64 0) 8 rfl Tryd.underlying22 info3 rfl (by decide) (by omega) v442 y441 l0 _ _ _ (fun _ => True) (fun _ => False) rfl rfl ?aO ?aR (fun _ _ h => h) (fun _ h => h.elim) ?aF ?aB ?aS ?aL ?_; (case aR => repeat (first | exact (Kd.C_below HR0.out HB.out) | (with_reducible refine Kd.C_alloc ?_ _) | (with_reducible refine Kd.C_drewN ?_ _) | (with_reducible refine Kd.C_drew ?_))); (case aB => exact (by repeat (first | (with_reducible first | exact HB.out | apply below_alloc | apply pw_below_drewN | apply below_drew1) | exact HB.out))); (case aF => exact (fun _ _ => trivial)); (case aO => exact (by (with_reducible repeat (first | apply Kd.R_alloc | apply Kd.R_drewN | apply Kd.R_drew)); exact HO443.out)); (case aS => exact (below_size (by repeat (first | (with_reducible first | exact HB.out | apply below_alloc | apply pw_below_drewN | apply below_drew1) | exact HB.out)))); (case aL => have := LMc5.out; omega); intro v445 w15 ho hb hg hat; rw [← Ny444.out] at ho; have n0_ := Aside0.mk (hb); have n1_ := Aside0.mk (ho); clear HB; clear HO443; have HB := n0_; have HO446 := n1_; clear n0_ n1_; clear ho hb hg hat) | ((with_reducible refine gate_dst (N := 21) rfl ?_); refine Kd.R_lit k43 _ 43 ?hg (N := 21) ?hd (xs := ([] : List (S43))) (inner := []) (ok := fun _ => True) (okp := fun _ => True) ?hr ?hp (fun _ hk => hk) trivial (Below.refl _ _) (Nat.le_refl _) (by simp) ?_; (case hd => rfl); (case hg => rfl); (case hr => first | (go_simp; done) | (go_simp; rfl)); (case hp => exact (Reps.none _ _)); intro v448 w16 ho17 hb hg_ hnew_; clear hg_ hnew_; (first | rw [← Ny447.out] at ho17 | (simp only [Int.reduceToNat] at ho17; rw [← Ny447.out] at ho17)); have n0_ := Aside0.mk (Kd.R_below (by (with_reducible repeat (first | apply Kd.R_alloc | apply Kd.R_drewN | apply Kd.R_drew)); exact HO446.out) hb); have n1_ := Aside0.mk (Kd.R_lower ho17 (below_size (by repeat (first | (with_reducible first | exact HB.out | apply below_alloc | apply pw_below_drewN | apply below_drew1) | exact HB.out)))); have n2_ := Aside0.mk (below_step (by repeat (first | (with_reducible first | exact HB.out | apply below_alloc | apply pw_below_drewN | apply below_drew1) | exact HB.out)) hb); clear HO446; clear HB; have HO446 := n0_; have HO449 := n1_; have HB := n2_; clear n0_ n1_ n2_; clear hb ho17) | ((with_reducible refine gate_builtin (b := .append) (xs := #[.tmp 21, .tmp 22]) rfl ?_); at_builtin; refine Kd.R_append_rows k43 (w0 := w) w.heap.size rfl (.tmp 21) (.tmp 22) 29 43 (.agg #[(.int .i64 0), (.int .i64 0)]) 16 rfl Tryd.underlying29 info43 rfl (by decide) (by omega) v448 y447 l1 _ _ _ (fun _ => True) (fun _ => False) rfl rfl ?aO ?aR (fun _ _ h => h) (fun _ h => h.elim) ?aF ?aB ?aS ?aL ?_; (case aR => repeat (first | exact (Kd.C_below HR1.out HB.out) | (with_reducible refine Kd.C_alloc ?_ _) | (with_reducible refine Kd.C_drewN ?_ _) | (with_reducible refine Kd.C_drew ?_))); (case aB => exact (by repeat (first | (with_reducible first | exact HB.out | apply below_alloc | apply pw_below_drewN | apply below_drew1) | exact HB.out))); (case aF => exact (fun _ _ => trivial)); (case aO => exact (by (with_reducible repeat (first | apply Kd.R_alloc | apply Kd.R_drewN | apply Kd.R_drew)); exact HO449.out)); (case aS => exact (below_size (by repeat (first | (with_reducible first | exact HB.out | apply below_alloc | apply pw_below_drewN | apply below_drew1) | exact HB.out)))); (case aL => have := LMc6.out; omega); intro v451 w18 ho hb hg hat; rw [← Ny450.out] at ho; have n0_ := Aside0.mk (Kd.R_over' (by (with_reducible repeat (first | apply Kd.R_alloc | apply Kd.R_drewN | apply Kd.R_drew)); exact HO446.out) (Kd.R_typed (by (with_reducible repeat (first | apply Kd.R_alloc | apply Kd.R_drewN | apply Kd.R_drew)); exact HO449.out)) (by decide) hg); have n1_ := Aside0.mk (hb); have n2_ := Aside0.mk (ho); clear HO446; clear HB; clear HO449; have HO446 := n0_; have HB := n1_; have HO452 := n2_; clear n0_ n1_ n2_; clear ho hb hg hat; obtain ⟨Ao19, co19, eo19⟩ := Kd.R_slice HO446.out; subst eo19) | ((with_reducible refine gate_callee (f := 37) rfl ?_); refine goesL_ (some 25) rfl rfl Tryd.func37 (by kernel_rfl) rfl #[.slice Ao19 y444.length co19] rfl (by (try simp only [List.map_toArray, List.map_cons, List.map_nil]); first | done | rfl | (simp only [List.length_drop, List.length_take]; rfl)) ?_; (with_reducible refine (visits_IsShop.calls k _ _ y444 t453 _ ?side1 ?side2 A7.out).mono ?_); (case side1 => repeat (first | exact (Kd.R_reads' HO446.out).2.2 | (with_reducible refine Kd.C_alloc ?_ _) | (with_reducible refine Kd.C_drewN ?_ _) | (with_reducible refine Kd.C_drew ?_))); (case side2 => exact (Kd.R_reads' HO446.out).2.1); rintro e w' ⟨rfl, ⟨nd, rfl⟩⟩; refine ⟨_, rfl, ?_⟩) | ((with_reducible refine gate_callee (f := 21) rfl ?_); refine goesL_ (some 27) rfl rfl Tryd.func21 (by kernel_rfl) rfl #[.slice A0 l0.length c0] rfl (by (try simp only [List.map_toArray, List.map_cons, List.map_nil]); first | done | rfl | (simp only [List.length_drop, List.length_take]; rfl)) ?_; (with_reducible refine (clocheref03_IsShop.calls k _ _ l0 t454 _ ?side1 ?side2 A8.out).mono ?_); (case side1 => repeat (first | exact (Kd.C_below HR0.out (by repeat (first | (with_reducible first | exact HB.out | apply below_alloc | apply pw_below_drewN | apply below_drew1) | exact HB.out))) | (with_reducible refine Kd.C_alloc ?_ _) | (with_reducible refine Kd.C_drewN ?_ _) | (with_reducible refine Kd.C_drew ?_))); (case side2 => exact HC0.out); rintro e w' ⟨rfl, ⟨nd, rfl⟩⟩; refine ⟨_, rfl, ?_⟩) | ((with_reducible refine gate_callee (f := 22) rfl ?_); refine goesL_ (some 31) rfl rfl Tryd.func22 (by kernel_rfl) rfl #[.slice Ao19 y444.length co19] rfl (by (try simp only [List.map_toArray, List.map_cons, List.map_nil]); first | done | rfl | (simp only [List.length_drop, List.length_take]; rfl)) ?_; (with_reducible refine (visits_Largest.calls k _ _ y444 t455 t456 _ ?side1 ?side2 A10.out (by repeat (first | exact HT0.out | exact tabB HT0.out HB.out | (refine tab_alloc ?_ _) | (refine tab_drewN ?_ _) | (refine tab_drew ?_)))).mono ?_); (case side1 => repeat (first | exact (Kd.R_reads' HO446.out).2.2 | (with_reducible refine Kd.C_alloc ?_ _) | (with_reducible refine Kd.C_drewN ?_ _) | (with_reducible refine Kd.C_drew ?_))); (case side2 => exact (Kd.R_reads' HO446.out).2.1); rintro e w20 ⟨v457, rfl, ho0, hb⟩; refine ⟨_, rfl, ?_⟩; have n0_ := Aside0.mk (Kd.R_below (by (with_reducible repeat (first | apply Kd.R_alloc | apply Kd.R_drewN | apply Kd.R_drew)); exact HO446.out) hb); have n1_ := Aside0.mk (Kd.R_elder' (by (with_reducible repeat (first | apply Kd.R_alloc | apply Kd.R_drewN | apply Kd.R_drew)); exact HO452.out) (Kd.R_base ho0) hb); have n2_ := Aside0.mk (Kd.R_lower (Kd.R_new' ho0 (Kd.R_lt (by (with_reducible repeat (first | apply Kd.R_alloc | apply Kd.R_drewN | apply Kd.R_drew)); exact HO452.out))) (below_size (by repeat (first | (with_reducible first | exact HB.out | apply below_alloc | apply pw_below_drewN | apply below_drew1) | exact HB.out)))); have n3_ := Aside0.mk (below_step (by repeat (first | (with_reducible first | exact HB.out | apply below_alloc | apply pw_below_drewN | apply below_drew1) | exact HB.out)) hb); clear HO446; clear HO452; clear HB; have HO446 := n0_; have HO452 := n1_; have HO458 := n2_; have HB := n3_; clear n0_ n1_ n2_ n3_; (try clear hb); (try clear hb2); (try clear hk); (try clear hi); (try clear ho0)) | ((with_reducible refine gate_callee (f := 38) rfl ?_); refine goesL_ (some 36) rfl rfl Tryd.func38 (by kernel_rfl) rfl #[.slice A0 l0.length c0] rfl (by (try simp only [List.map_toArray, List.map_cons, List.map_nil]); first | done | rfl | (simp only [List.length_drop, List.length_take]; rfl)) ?_; (with_reducible refine (clocheref03_Largest.calls k _ _ l0 t459 t460 _ ?side1 ?side2 A11.out).mono ?_); (case side1 => repeat (first | exact (Kd.C_below HR0.out HB.out) | (with_reducible refine Kd.C_alloc ?_ _) | (with_reducible refine Kd.C_drewN ?_ _) | (with_reducible refine Kd.C_drew ?_))); (case side2 => exact HC0.out); rintro e w21 ⟨v461, rfl, ho0, hb⟩; refine ⟨_, rfl, ?_⟩; have n0_ := Aside0.mk (Kd.R_below (by (with_reducible repeat (first | apply Kd.R_alloc | apply Kd.R_drewN | apply Kd.R_drew)); exact HO446.out) hb); have n1_ := Aside0.mk (Kd.R_elder' (by (with_reducible repeat (first | apply Kd.R_alloc | apply Kd.R_drewN | apply Kd.R_drew)); exact HO452.out) (Kd.R_base ho0) hb); have n2_ := Aside0.mk (Kd.R_elder' (by (with_reducible repeat (first | apply Kd.R_alloc | apply Kd.R_drewN | apply Kd.R_drew)); exact HO458.out) (Kd.R_base ho0) hb); have n3_ := Aside0.mk (Kd.R_lower (Kd.R_new' (Kd.R_new' ho0 (Kd.R_lt (by (with_reducible repeat (first | apply Kd.R_alloc | apply Kd.R_drewN | apply Kd.R_drew)); exact HO452.out))) (Kd.R_lt (by (with_reducible repeat (first | apply Kd.R_alloc | apply Kd.R_drewN | apply Kd.R_drew)); exact HO458.out))) (below_size (by repeat (first | (with_reducible first | exact HB.out | apply below_alloc | apply pw_below_drewN | apply below_drew1) | exact HB.out)))); have n4_ := Aside0.mk (below_step (by repeat (first | (with_reducible first | exact HB.out | apply below_alloc | apply pw_below_drewN | apply below_drew1) | exact HB.out)) hb); clear HO446; clear HO452; clear HO458; clear HB; have HO446 := n0_; have HO452 := n1_; have HO458 := n2_; have HO462 := n3_; have HB := n4_; clear n0_ n1_ n2_ n3_ n4_; (try clear hb); (try clear hb2); (try clear hk); (try clear hi); (try clear ho0)))
          (try simp only [Act.put, List.setIfInBounds_toArray, List.set_cons_zero, List.set_cons_succ])
          go_cut [47] (fun v47 wc => ∃ (kq : Nat) (x47_11 : Bool), v47 = .bool x47_11 ∧ Aside0 (clochelaw03_VisitsMatchings.j0 kq l0 l1 y444 y450 x47_11 = some r) ∧ Aside0 (kq ≤ k) ∧ Aside0 (Kd.R (Kd.int .i64) 3 wc w.heap.size (fun _ => True) (.slice Ao19 y444.length co19) y444) ∧ Aside0 (Kd.R k43 43 wc w.heap.size (fun _ => True) v451 y450) ∧ Aside0 (Below w.heap.size w wc))
          case first =>
            have H := HC12.out
            clear HC12
            replace H := Option.bind_eq_some_iff.mp H
            obtain ⟨t463, A220, H⟩ := H
            replace H : (if t463 = true then (clochelaw03_VisitsMatchings.j0 k l0 l1 y444 y450 (t456 != t460)) else (none)) = some r := H
            have A22 := Aside0.mk A220
            clear A220
            by_cases c23 : t463 = true
            · subst c23
              have H1 : (clochelaw03_VisitsMatchings.j0 k l0 l1 y444 y450 (t456 != t460)) = some r := by rw [if_pos rfl] at H; exact H
              clear H
              have H := H1
              clear H1
              have H' := Aside0.mk H
              clear H
              obtain ⟨Ao24, co24, eo24⟩ := Kd.R_slice HO458.out
              subst eo24
              obtain ⟨Ao25, co25, eo25⟩ := Kd.R_slice HO462.out
              subst eo25
              go_wp2_with (first | ((with_reducible refine gate_callee (f := 39) rfl ?_); refine goesL_ (some 41) rfl rfl Tryd.func39 (by kernel_rfl) rfl #[.slice Ao24 t455.length co24, .slice Ao25 t459.length co25] rfl (by (try simp only [List.map_toArray, List.map_cons, List.map_nil]); first | done | rfl | (simp only [List.length_drop, List.length_take]; rfl)) ?_; (with_reducible refine (clochelaw03_pairs.calls k _ _ t455 _ _ t459 true _ ?side1 ?side2 ?side3 ?side4 A22.out).mono ?_); (case side1 => repeat (first | exact (Kd.R_reads' HO458.out).2.2 | (with_reducible refine Kd.C_alloc ?_ _) | (with_reducible refine Kd.C_drewN ?_ _) | (with_reducible refine Kd.C_drew ?_))); (case side2 => exact (Kd.R_reads' HO458.out).2.1); (case side3 => repeat (first | exact (Kd.R_reads' HO462.out).2.2 | (with_reducible refine Kd.C_alloc ?_ _) | (with_reducible refine Kd.C_drewN ?_ _) | (with_reducible refine Kd.C_drew ?_))); (case side4 => exact (Kd.R_reads' HO462.out).2.1); rintro e w' ⟨rfl, ⟨nd, rfl⟩⟩; refine ⟨_, rfl, ?_⟩))
              go_meet
              case rel => exact ⟨_, ((t456 != t460)), (by first | rfl | (simp; done) | (simp [*]; done)), H', ⟨by first | omega | exact Nat.le_refl _⟩, ⟨by (with_reducible repeat (first | apply Kd.R_alloc | apply Kd.R_drewN | apply Kd.R_drew)); exact HO446.out⟩, ⟨by (with_reducible repeat (first | apply Kd.R_alloc | apply Kd.R_drewN | apply Kd.R_drew)); exact Kd.R_mono HO452.out (fun _ hk => trivial)⟩, ⟨by repeat (first | (with_reducible first | exact HB.out | apply below_alloc | apply pw_below_drewN | apply below_drew1) | exact HB.out)⟩⟩
            · replace c23 := Bool.eq_false_iff.mpr c23
              subst c23
              have H1 : (none) = some r := by rw [if_neg (show ¬ (false = true) by decide)] at H; exact H
              clear H
              have H := H1
              clear H1
              exact absurd H (by simp)
          case rest =>
            clear HC12
            try clear c1
            try clear c2
            try clear p2
            try clear c3
            try clear c4
            try clear c5
            try clear c6
            try clear c9
            try clear c9b0
            try clear c9b1
            try clear c9b2
            try clear c11
            try clear c15
            try clear c21
            try clear c22
            try clear c23
            obtain ⟨kq, x47_11, rfl, HA, HJ11, HO_5, HO_6, HB⟩ := hcut
            cases kq with
            | zero => exact absurd HA.out (by simp [clochelaw03_VisitsMatchings.j0])
            | succ kj11 =>
              have H := HA.out
              clear HA
              simp only [clochelaw03_VisitsMatchings.j0] at H
              by_cases c26 : x47_11 = true
              · subst c26
                have H1 : (none) = some r := by rw [if_pos rfl] at H; exact H
                clear H
                have H := H1
                clear H1
                exact absurd H (by simp)
              · replace c26 := Bool.eq_false_iff.mpr c26
                subst c26
                have H1 : ((visits_IsMatching.f kj11 y444 y450).bind fun bt464 => ((clocheref03_IsMatching.f kj11 l0 l1).bind fun bt466 => (if (bt464.1 == bt466.1) = true then (if bt464.2 = bt466.2 then ((clochelaw03_same.f kj11 y444 l0).bind fun t468 => (if t468 = true then ((clochelaw03_pairs.f kj11 y450 l1).bind fun t469 => (if t469 = true then ((clochelaw03_alive.f kj11).bind fun t470 => (some t470)) else (none))) else (none))) else (none)) else (none)))) = some r := by rw [if_neg (show ¬ (false = true) by decide)] at H; exact H
                clear H
                have H := H1
                clear H1
                replace H := Option.bind_eq_some_iff.mp H
                obtain ⟨⟨t464, t465⟩, A270, H⟩ := H
                replace H : ((clocheref03_IsMatching.f kj11 l0 l1).bind fun bt466 => (if (t464 == bt466.1) = true then (if t465 = bt466.2 then ((clochelaw03_same.f kj11 y444 l0).bind fun t468 => (if t468 = true then ((clochelaw03_pairs.f kj11 y450 l1).bind fun t469 => (if t469 = true then ((clochelaw03_alive.f kj11).bind fun t470 => (some t470)) else (none))) else (none))) else (none)) else (none))) = some r := H
                have A27 := Aside0.mk A270
                clear A270
                replace H := Option.bind_eq_some_iff.mp H
                obtain ⟨⟨t466, t467⟩, A280, H⟩ := H
                replace H : (if (t464 == t466) = true then (if t465 = t467 then ((clochelaw03_same.f kj11 y444 l0).bind fun t468 => (if t468 = true then ((clochelaw03_pairs.f kj11 y450 l1).bind fun t469 => (if t469 = true then ((clochelaw03_alive.f kj11).bind fun t470 => (some t470)) else (none))) else (none))) else (none)) else (none)) = some r := H
                have A28 := Aside0.mk A280
                clear A280
                by_cases c29 : (t464 == t466) = true
                · rw [if_pos c29] at H
                  have c29b0 : (t464 == t466) = true := c29
                  (try (have c29b1 : decide (t464 = t466) = true := by simpa using c29))
                  (try (have c29b2 : (t464 == t466) = true := by simpa using c29))
                  clear c29
                  by_cases c30 : t465 = t467
                  · rw [if_pos c30] at H
                    have c30b0 : (t465 == t467) = true := beq_iff_eq.mpr c30
                    have c30b1 : (t465 != t467) = false := bne_eq_false_iff_eq.mpr c30
                    clear c30
                    replace H := Option.bind_eq_some_iff.mp H
                    obtain ⟨t468, A310, H⟩ := H
                    replace H : (if t468 = true then ((clochelaw03_pairs.f kj11 y450 l1).bind fun t469 => (if t469 = true then ((clochelaw03_alive.f kj11).bind fun t470 => (some t470)) else (none))) else (none)) = some r := H
                    have A31 := Aside0.mk A310
                    clear A310
                    by_cases c32 : t468 = true
                    · subst c32
                      have H1 : ((clochelaw03_pairs.f kj11 y450 l1).bind fun t469 => (if t469 = true then ((clochelaw03_alive.f kj11).bind fun t470 => (some t470)) else (none))) = some r := by rw [if_pos rfl] at H; exact H
                      clear H
                      have H := H1
                      clear H1
                      replace H := Option.bind_eq_some_iff.mp H
                      obtain ⟨t469, A330, H⟩ := H
                      replace H : (if t469 = true then ((clochelaw03_alive.f kj11).bind fun t470 => (some t470)) else (none)) = some r := H
                      have A33 := Aside0.mk A330
                      clear A330
                      by_cases c34 : t469 = true
                      · subst c34
                        have H1 : ((clochelaw03_alive.f kj11).bind fun t470 => (some t470)) = some r := by rw [if_pos rfl] at H; exact H
                        clear H
                        have H := H1
                        clear H1
                        replace H := Option.bind_eq_some_iff.mp H
                        obtain ⟨t470, A350, H⟩ := H
                        replace H : (some t470) = some r := H
                        have A35 := Aside0.mk A350
                        clear A350
                        obtain rfl := Option.some.inj H
                        obtain ⟨Ao36, co36, eo36⟩ := Kd.R_slice HO_6.out
                        subst eo36
                        go_wp2_with (first | ((with_reducible refine gate_callee (f := 28) rfl ?_); refine goesL_ (some 51) rfl rfl Tryd.func28 (by kernel_rfl) rfl #[.slice Ao19 y444.length co19, .slice Ao36 y450.length co36] rfl (by (try simp only [List.map_toArray, List.map_cons, List.map_nil]); first | done | rfl | (simp only [List.length_drop, List.length_take]; rfl)) ?_; (with_reducible refine (visits_IsMatching.calls kj11 _ _ y444 _ _ y450 t464 t465 _ ?side1 ?side2 ?side3 ?side4 A27.out).mono ?_); (case side1 => repeat (first | exact (Kd.R_reads' HO_5.out).2.2 | (with_reducible refine Kd.C_alloc ?_ _) | (with_reducible refine Kd.C_drewN ?_ _) | (with_reducible refine Kd.C_drew ?_))); (case side2 => exact (Kd.R_reads' HO_5.out).2.1); (case side3 => repeat (first | exact (Kd.R_reads' HO_6.out).2.2 | (with_reducible refine Kd.C_alloc ?_ _) | (with_reducible refine Kd.C_drewN ?_ _) | (with_reducible refine Kd.C_drew ?_))); (case side4 => exact (Kd.R_reads' HO_6.out).2.1); rintro e w37 ⟨rfl, hb⟩; refine ⟨_, rfl, ?_⟩; have n0_ := Aside0.mk (Kd.R_below (by (with_reducible repeat (first | apply Kd.R_alloc | apply Kd.R_drewN | apply Kd.R_drew)); exact HO_5.out) hb); have n1_ := Aside0.mk (Kd.R_below (by (with_reducible repeat (first | apply Kd.R_alloc | apply Kd.R_drewN | apply Kd.R_drew)); exact HO_6.out) hb); have n2_ := Aside0.mk (below_step (by repeat (first | (with_reducible first | exact HB.out | apply below_alloc | apply pw_below_drewN | apply below_drew1) | exact HB.out)) hb); clear HO_5; clear HO_6; clear HB; have HO_5 := n0_; have HO_6 := n1_; have HB := n2_; clear n0_ n1_ n2_; (try clear hb); (try clear hb2); (try clear hk); (try clear hi)) | ((with_reducible refine gate_callee (f := 40) rfl ?_); refine goesL_ (some 57) rfl rfl Tryd.func40 (by kernel_rfl) rfl #[.slice A0 l0.length c0, .slice A1 l1.length c1] rfl (by (try simp only [List.map_toArray, List.map_cons, List.map_nil]); first | done | rfl | (simp only [List.length_drop, List.length_take]; rfl)) ?_; (with_reducible refine (clocheref03_IsMatching.calls kj11 _ _ l0 _ _ l1 t466 t467 _ ?side1 ?side2 ?side3 ?side4 A28.out).mono ?_); (case side1 => repeat (first | exact (Kd.C_below HR0.out HB.out) | (with_reducible refine Kd.C_alloc ?_ _) | (with_reducible refine Kd.C_drewN ?_ _) | (with_reducible refine Kd.C_drew ?_))); (case side2 => exact HC0.out); (case side3 => repeat (first | exact (Kd.C_below HR1.out HB.out) | (with_reducible refine Kd.C_alloc ?_ _) | (with_reducible refine Kd.C_drewN ?_ _) | (with_reducible refine Kd.C_drew ?_))); (case side4 => exact HC1.out); rintro e w38 ⟨rfl, hb⟩; refine ⟨_, rfl, ?_⟩; have n0_ := Aside0.mk (Kd.R_below (by (with_reducible repeat (first | apply Kd.R_alloc | apply Kd.R_drewN | apply Kd.R_drew)); exact HO_5.out) hb); have n1_ := Aside0.mk (Kd.R_below (by (with_reducible repeat (first | apply Kd.R_alloc | apply Kd.R_drewN | apply Kd.R_drew)); exact HO_6.out) hb); have n2_ := Aside0.mk (below_step (by repeat (first | (with_reducible first | exact HB.out | apply below_alloc | apply pw_below_drewN | apply below_drew1) | exact HB.out)) hb); clear HO_5; clear HO_6; clear HB; have HO_5 := n0_; have HO_6 := n1_; have HB := n2_; clear n0_ n1_ n2_; (try clear hb); (try clear hb2); (try clear hk); (try clear hi)) | (go_at_call 32; (with_reducible refine (clochelaw03_same.calls kj11 _ _ y444 _ _ l0 true _ ?side1 ?side2 ?side3 ?side4 A31.out).mono ?_); (case side1 => repeat (first | exact (Kd.R_reads' HO_5.out).2.2 | (with_reducible refine Kd.C_alloc ?_ _) | (with_reducible refine Kd.C_drewN ?_ _) | (with_reducible refine Kd.C_drew ?_))); (case side2 => exact (Kd.R_reads' HO_5.out).2.1); (case side3 => repeat (first | exact (Kd.C_below HR0.out HB.out) | (with_reducible refine Kd.C_alloc ?_ _) | (with_reducible refine Kd.C_drewN ?_ _) | (with_reducible refine Kd.C_drew ?_))); (case side4 => exact HC0.out); rintro e w' ⟨rfl, ⟨nd, rfl⟩⟩) | (go_at_call 39; (with_reducible refine (clochelaw03_pairs.calls kj11 _ _ y450 _ _ l1 true _ ?side1 ?side2 ?side3 ?side4 A33.out).mono ?_); (case side1 => repeat (first | exact (Kd.R_reads' HO_6.out).2.2 | (with_reducible refine Kd.C_alloc ?_ _) | (with_reducible refine Kd.C_drewN ?_ _) | (with_reducible refine Kd.C_drew ?_))); (case side2 => exact (Kd.R_reads' HO_6.out).2.1); (case side3 => repeat (first | exact (Kd.C_below HR1.out (by repeat (first | (with_reducible first | exact HB.out | apply below_alloc | apply pw_below_drewN | apply below_drew1) | exact HB.out))) | (with_reducible refine Kd.C_alloc ?_ _) | (with_reducible refine Kd.C_drewN ?_ _) | (with_reducible refine Kd.C_drew ?_))); (case side4 => exact HC1.out); rintro e w' ⟨rfl, ⟨nd, rfl⟩⟩) | (go_at_call 16; (with_reducible refine (clochelaw03_alive.calls kj11  t470 _ A35.out (by repeat (first | exact HT0.out | exact tabB HT0.out HB.out | (refine tab_alloc ?_ _) | (refine tab_drewN ?_ _) | (refine tab_drew ?_)))).mono ?_); rintro e w39 ⟨rfl, hb⟩; have n0_ := Aside0.mk (Kd.R_below (by (with_reducible repeat (first | apply Kd.R_alloc | apply Kd.R_drewN | apply Kd.R_drew)); exact HO_5.out) hb); have n1_ := Aside0.mk (Kd.R_below (by (with_reducible repeat (first | apply Kd.R_alloc | apply Kd.R_drewN | apply Kd.R_drew)); exact HO_6.out) hb); have n2_ := Aside0.mk (below_step (by repeat (first | (with_reducible first | exact HB.out | apply below_alloc | apply pw_below_drewN | apply below_drew1) | exact HB.out)) hb); clear HO_5; clear HO_6; clear HB; have HO_5 := n0_; have HO_6 := n1_; have HB := n2_; clear n0_ n1_ n2_; (try clear hb); (try clear hb2); (try clear hk); (try clear hi)))
                        go_ret
                        exact ⟨by first | rfl | (simp [errW_none, errW_some] <;> rfl) | (simp [*, errW_none, errW_some] <;> rfl), by repeat (first | (with_reducible first | exact HB.out | apply below_alloc | apply pw_below_drewN | apply below_drew1) | exact HB.out)⟩
                      · replace c34 := Bool.eq_false_iff.mpr c34
                        subst c34
                        have H1 : (none) = some r := by rw [if_neg (show ¬ (false = true) by decide)] at H; exact H
                        clear H
                        have H := H1
                        clear H1
                        exact absurd H (by simp)
                    · replace c32 := Bool.eq_false_iff.mpr c32
                      subst c32
                      have H1 : (none) = some r := by rw [if_neg (show ¬ (false = true) by decide)] at H; exact H
                      clear H
                      have H := H1
                      clear H1
                      exact absurd H (by simp)
                  · rw [if_neg c30] at H
                    exact absurd H (by simp)
                · rw [if_neg c29] at H
                  exact absurd H (by simp)
      · rw [if_neg c6] at H
        exact absurd H (by simp)
    · rw [if_neg c5] at H
      exact absurd H (by simp)
  · replace c4 := Bool.eq_false_iff.mpr c4
    subst c4
    have H1 : ((clochelaw03_alive.f k).bind fun t440 => (some t440)) = some r := by rw [if_neg (show ¬ (false = true) by decide)] at H; exact H
    clear H
    have H := H1
    clear H1
    replace H := Option.bind_eq_some_iff.mp H
    obtain ⟨t440, A400, H⟩ := H
    replace H : (some t440) = some r := H
    have A40 := Aside0.mk A400
    clear A400
    obtain rfl := Option.some.inj H
    go_enter Tryd.func11, Tryd.ntmps11
    go_wp2_with (first | ((with_reducible refine gate_callee (f := 15) rfl ?_); refine goesL_ (some 15) rfl rfl Tryd.func15 (by kernel_rfl) rfl #[.slice A0 l0.length c0, .slice A1 l1.length c1] rfl (by (try simp only [List.map_toArray, List.map_cons, List.map_nil]); first | done | rfl | (simp only [List.length_drop, List.length_take]; rfl)) ?_; (with_reducible refine (clochelaw03_few.calls _ _ l0 _ _ l1 false _ ?side1 ?side2 ?side3 ?side4 A3.out).mono ?_); (case side1 => repeat (first | exact HR0.out | (with_reducible refine Kd.C_alloc ?_ _) | (with_reducible refine Kd.C_drewN ?_ _) | (with_reducible refine Kd.C_drew ?_))); (case side2 => exact HC0.out); (case side3 => repeat (first | exact HR1.out | (with_reducible refine Kd.C_alloc ?_ _) | (with_reducible refine Kd.C_drewN ?_ _) | (with_reducible refine Kd.C_drew ?_))); (case side4 => exact HC1.out); rintro e w' ⟨rfl, ⟨nd, rfl⟩⟩; refine ⟨_, rfl, ?_⟩) | ((with_reducible refine gate_callee (f := 16) rfl ?_); refine goesL_ (some 17) rfl rfl Tryd.func16 (by kernel_rfl) rfl #[] rfl (by (try simp only [List.map_toArray, List.map_cons, List.map_nil]); first | done | rfl | (simp only [List.length_drop, List.length_take]; rfl)) ?_; (with_reducible refine (clochelaw03_alive.calls k  t440 _ A40.out (by repeat (first | exact HT0.out | exact tabB HT0.out HB.out | (refine tab_alloc ?_ _) | (refine tab_drewN ?_ _) | (refine tab_drew ?_)))).mono ?_); rintro e w41 ⟨rfl, hb⟩; refine ⟨_, rfl, ?_⟩; have n0_ := Aside0.mk (below_step (by repeat (first | (with_reducible first | exact HB.out | apply below_alloc | apply pw_below_drewN | apply below_drew1) | exact HB.out)) hb); clear HB; have HB := n0_; clear n0_; (try clear hb); (try clear hb2); (try clear hk); (try clear hi)))
    go_ret
    exact ⟨by first | rfl | (simp [errW_none, errW_some] <;> rfl) | (simp [*, errW_none, errW_some] <;> rfl), by repeat (first | (with_reducible first | exact HB.out | apply below_alloc | apply pw_below_drewN | apply below_drew1) | exact HB.out)⟩

end Go.Proofs.YtadfcplobidmeaaDoor.Print
