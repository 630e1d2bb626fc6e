/- What the functions of the visits compute, printed by this repo's hand printer. -/
import Derived.WalkMore
import Derived.Test.YtadfcplobidmeaaDoorPrintx0
import Derived.Test.YtadfcplobidmeaaDoorPrintx3
import Derived.Test.YtadfcplobidmeaaDoorPrintx4
namespace Go.Proofs.YtadfcplobidmeaaDoor.Print
open Go.RowKit Go.Proofs.YtadfcplobidmeaaDoorW.PrintWords Go.Proofs.YtadfcplobidmeaaDoorW.PrintLast Go.Proofs.YtadfcplobidmeaaDoorW.PrintMore
attribute [local go_sem] max2_int min2_int max_two min_two max_three min_three max_four min_four   -- for this text's walks alone
set_option linter.unusedVariables false
set_option linter.unusedSimpArgs false

/-! ### visits_Largest: function 22 -/
mutual
def visits_Largest.l0 : Nat → List Int → Int → Int → List (S43) → Option ((List (S43)) × Int)
  | 0, _, _, _, _ => none
  | k + 1, x4, x7, x8, x9 => if x8 > 0 then (visits_Largest.l1 k x4 x7 x8 x9 (x4.length : Int) 0) else (some (x9, 0))
def visits_Largest.l1 : Nat → List Int → Int → Int → List (S43) → Int → Int → Option ((List (S43)) × Int)
  | 0, _, _, _, _, _, _ => none
  | k + 1, x4, x7, x8, x9, x31, x32 => if x32 < x31 then (visits_Largest.l2 k x4 x7 x8 x9 x32 (wrap64 (x32 + 1)) x31 x32) else (visits_Largest.l0 k x4 x7 x8 x9)
def visits_Largest.l2 : Nat → List Int → Int → Int → List (S43) → Int → Int → Int → Int → Option ((List (S43)) × Int)
  | 0, _, _, _, _, _, _, _, _ => none
  | k + 1, x4, x7, x8, x9, x10, x11, x31, x32 => if x11 < (x4.length : Int) then (if 0 ≤ (wrap64 (x10 + 1)) then (if 0 ≤ x11 then (if 0 ≤ x10 then (if (Go.bits .and .i64 (shr .i64 x7 x10) 1) = 1 then (if x10 < (x4.length : Int) then (if (Go.bits .and .i64 (shr .i64 (Go.bits .and .i64 x7 (rd x4 x10)) x11) 1) = 1 then ((visits_shop_pairs.f k x4 (Go.bits .andNot .i64 (Go.bits .andNot .i64 x7 (wrap64 ((shl .i64 1 (wrap64 (x10 + 1))) - 1))) (shl .i64 1 x11))).bind fun t117 => (if t117 = (wrap64 (x8 - 1)) then (if x9.length < 8796093022208 then (visits_Largest.l0 k x4 (Go.bits .andNot .i64 (Go.bits .andNot .i64 x7 (wrap64 ((shl .i64 1 (wrap64 (x10 + 1))) - 1))) (shl .i64 1 x11)) (wrap64 (x8 - 1)) (x9 ++ [(⟨x10, x11⟩ : S43)])) else (none)) else (visits_Largest.l2 k x4 x7 x8 x9 x10 (wrap64 (x11 + 1)) x31 x32))) else (visits_Largest.l2 k x4 x7 x8 x9 x10 (wrap64 (x11 + 1)) x31 x32)) else (none)) else (visits_Largest.l2 k x4 x7 x8 x9 x10 (wrap64 (x11 + 1)) x31 x32)) else (none)) else (none)) else (none)) else (visits_Largest.l1 k x4 x7 x8 x9 x31 (wrap64 (x32 + 1)))
end
def visits_Largest.f (k : Nat) (l0 : List Int) : Option ((List (S43)) × Int) := (visits_read.f k l0).bind fun t112 => (if t112 = true then ((visits_shop_all.f l0).bind fun t113 => ((visits_shop_all.f l0).bind fun t114 => ((visits_shop_pairs.f k l0 t114).bind fun t115 => (visits_Largest.l0 k l0 t113 t115 ([] : List (S43)))))) else (some (([] : List (S43)), 2)))
theorem visits_Largest.mono_l : ∀ k, (∀ y0 y1 y2 y3, LeO (visits_Largest.l0 k y0 y1 y2 y3) (visits_Largest.l0 (k + 1) y0 y1 y2 y3)) ∧ (∀ y0 y1 y2 y3 y4 y5, LeO (visits_Largest.l1 k y0 y1 y2 y3 y4 y5) (visits_Largest.l1 (k + 1) y0 y1 y2 y3 y4 y5)) ∧ (∀ y0 y1 y2 y3 y4 y5 y6 y7, LeO (visits_Largest.l2 k y0 y1 y2 y3 y4 y5 y6 y7) (visits_Largest.l2 (k + 1) y0 y1 y2 y3 y4 y5 y6 y7))
  | 0 => ⟨fun _ _ _ _ r h => by simp [visits_Largest.l0] at h, fun _ _ _ _ _ _ r h => by simp [visits_Largest.l1] at h, fun _ _ _ _ _ _ _ _ r h => by simp [visits_Largest.l2] at h⟩
  | k + 1 => by
    obtain ⟨ih0, ih1, ih2⟩ := visits_Largest.mono_l k
    refine ⟨?_, ?_, ?_⟩
    · intro y0 y1 y2 y3
      unfold visits_Largest.l0
      repeat' first
      | (with_reducible exact ih0 _ _ _ _)
      | (with_reducible exact ih1 _ _ _ _ _ _)
      | (with_reducible exact ih2 _ _ _ _ _ _ _ _)
      | (with_reducible exact visits_read.mono _ _)
      | (with_reducible exact visits_shop_pairs.mono _ _ _)
      | (with_reducible exact LeO.refl _)
      | (with_reducible exact LeO.none _)
      | (with_reducible refine LeO.ite ?_ ?_)
      | (with_reducible refine LeO.bind ?_ (fun _ => ?_))
      | exact ih0 _ _ _ _
      | exact ih1 _ _ _ _ _ _
      | exact ih2 _ _ _ _ _ _ _ _
      | exact visits_read.mono _ _
      | exact visits_shop_pairs.mono _ _ _
      | exact LeO.none _
      | refine LeO.ite ?_ ?_
      | refine LeO.bind ?_ (fun _ => ?_)
    · intro y0 y1 y2 y3 y4 y5
      unfold visits_Largest.l1
      repeat' first
      | (with_reducible exact ih0 _ _ _ _)
      | (with_reducible exact ih1 _ _ _ _ _ _)
      | (with_reducible exact ih2 _ _ _ _ _ _ _ _)
      | (with_reducible exact visits_read.mono _ _)
      | (with_reducible exact visits_shop_pairs.mono _ _ _)
      | (with_reducible exact LeO.refl _)
      | (with_reducible exact LeO.none _)
      | (with_reducible refine LeO.ite ?_ ?_)
      | (with_reducible refine LeO.bind ?_ (fun _ => ?_))
      | exact ih0 _ _ _ _
      | exact ih1 _ _ _ _ _ _
      | exact ih2 _ _ _ _ _ _ _ _
      | exact visits_read.mono _ _
      | exact visits_shop_pairs.mono _ _ _
      | exact LeO.none _
      | refine LeO.ite ?_ ?_
      | refine LeO.bind ?_ (fun _ => ?_)
    · intro y0 y1 y2 y3 y4 y5 y6 y7
      unfold visits_Largest.l2
      repeat' first
      | (with_reducible exact ih0 _ _ _ _)
      | (with_reducible exact ih1 _ _ _ _ _ _)
      | (with_reducible exact ih2 _ _ _ _ _ _ _ _)
      | (with_reducible exact visits_read.mono _ _)
      | (with_reducible exact visits_shop_pairs.mono _ _ _)
      | (with_reducible exact LeO.refl _)
      | (with_reducible exact LeO.none _)
      | (with_reducible refine LeO.ite ?_ ?_)
      | (with_reducible refine LeO.bind ?_ (fun _ => ?_))
      | exact ih0 _ _ _ _
      | exact ih1 _ _ _ _ _ _
      | exact ih2 _ _ _ _ _ _ _ _
      | exact visits_read.mono _ _
      | exact visits_shop_pairs.mono _ _ _
      | exact LeO.none _
      | refine LeO.ite ?_ ?_
      | refine LeO.bind ?_ (fun _ => ?_)
theorem visits_Largest.mono : ∀ a0 k, LeO (visits_Largest.f k a0) (visits_Largest.f (k + 1) a0) := by
  intro a0 k
  obtain ⟨ih0, ih1, ih2⟩ := visits_Largest.mono_l k
  unfold visits_Largest.f
  repeat' first
      | (with_reducible exact ih0 _ _ _ _)
      | (with_reducible exact ih1 _ _ _ _ _ _)
      | (with_reducible exact ih2 _ _ _ _ _ _ _ _)
      | (with_reducible exact visits_read.mono _ _)
      | (with_reducible exact visits_shop_pairs.mono _ _ _)
      | (with_reducible exact LeO.refl _)
      | (with_reducible exact LeO.none _)
      | (with_reducible refine LeO.ite ?_ ?_)
      | (with_reducible refine LeO.bind ?_ (fun _ => ?_))
      | exact ih0 _ _ _ _
      | exact ih1 _ _ _ _ _ _
      | exact ih2 _ _ _ _ _ _ _ _
      | exact visits_read.mono _ _
      | exact visits_shop_pairs.mono _ _ _
      | exact LeO.none _
      | refine LeO.ite ?_ ?_
      | refine LeO.bind ?_ (fun _ => ?_)
set_option maxHeartbeats 8000000 in
set_option maxRecDepth 100000 in
theorem visits_Largest.calls (k : Nat) (A0 : Option Addr) (c0 : Nat) (l0 : List Int) (r1 : List (S43)) (r2 : Int) (w : World) (hr0 : Kd.C (Kd.int .i64) w A0 l0.length l0) (hc0 : l0.length ≤ c0) (h : visits_Largest.f k l0 = some (r1, r2)) (hT : Tab w) :
    Calls Tryd.prog 22 #[.slice A0 l0.length c0] w fun e w' => ∃ v0_ : Value, e = .returned (.tuple #[v0_, .int .i64 r2]) ∧ Kd.R k43 43 w' w.heap.size (fun _ => True) v0_ r1 ∧ Below w.heap.size w w' := by
  have hu43 := Tryd.underlying43
  have HR0 := Aside0.mk hr0
  have HC0 := Aside0.mk hc0
  clear hr0 hc0
  have HT0 := Aside0.mk hT
  clear hT
  have HB := Aside0.mk (Below.refl w.heap.size w)
  have H : ((visits_read.f k l0).bind fun t112 => (if t112 = true then ((visits_shop_all.f l0).bind fun t113 => ((visits_shop_all.f l0).bind fun t114 => ((visits_shop_pairs.f k l0 t114).bind fun t115 => (visits_Largest.l0 k l0 t113 t115 ([] : List (S43)))))) else (some (([] : List (S43)), 2)))) = some (r1, r2) := h
  clear h
  replace H := Option.bind_eq_some_iff.mp H
  obtain ⟨t112, A20, H⟩ := H
  replace H : (if t112 = true then ((visits_shop_all.f l0).bind fun t113 => ((visits_shop_all.f l0).bind fun t114 => ((visits_shop_pairs.f k l0 t114).bind fun t115 => (visits_Largest.l0 k l0 t113 t115 ([] : List (S43)))))) else (some (([] : List (S43)), 2))) = some (r1, r2) := H
  have A2 := Aside0.mk A20
  clear A20
  by_cases c3 : t112 = true
  · subst c3
    have H1 : ((visits_shop_all.f l0).bind fun t113 => ((visits_shop_all.f l0).bind fun t114 => ((visits_shop_pairs.f k l0 t114).bind fun t115 => (visits_Largest.l0 k l0 t113 t115 ([] : List (S43)))))) = some (r1, r2) := by rw [if_pos rfl] at H; exact H
    clear H
    have H := H1
    clear H1
    replace H := Option.bind_eq_some_iff.mp H
    obtain ⟨t113, A40, H⟩ := H
    replace H : ((visits_shop_all.f l0).bind fun t114 => ((visits_shop_pairs.f k l0 t114).bind fun t115 => (visits_Largest.l0 k l0 t113 t115 ([] : List (S43))))) = some (r1, r2) := H
    have A4 := Aside0.mk A40
    clear A40
    replace H := Option.bind_eq_some_iff.mp H
    obtain ⟨t114, A50, H⟩ := H
    replace H : ((visits_shop_pairs.f k l0 t114).bind fun t115 => (visits_Largest.l0 k l0 t113 t115 ([] : List (S43)))) = some (r1, r2) := H
    have A5 := Aside0.mk A50
    clear A50
    replace H := Option.bind_eq_some_iff.mp H
    obtain ⟨t115, A60, H⟩ := H
    replace H : (visits_Largest.l0 k l0 t113 t115 ([] : List (S43))) = some (r1, r2) := H
    have A6 := Aside0.mk A60
    clear A60
    have H' := Aside0.mk H
    clear H
    obtain rfl : t113 = t114 := Option.some.inj (A4.out.symm.trans A5.out)
    have hmm := @run_makeMap Tryd.prog
    go_enter Tryd.func22, Tryd.ntmps22
    try go_wp2
    go_step3
    go_wp2_with (first | (go_at_call 44; (with_reducible refine (visits_read.calls k _ _ l0 true _ ?side1 ?side2 A2.out).mono ?_); (case side1 => repeat (first | exact HR0.out | (with_reducible refine Kd.C_alloc ?_ _) | (with_reducible refine Kd.C_drewN ?_ _) | (with_reducible refine Kd.C_drew ?_))); (case side2 => exact HC0.out); rintro e w' ⟨⟨v_, rfl, hv_⟩, ⟨nd, rfl⟩⟩; (try (obtain rfl := hv_ rfl)); (try clear hv_); (try first | exact ⟨rfl, _, World.drewN_drewN _ _ _⟩ | exact ⟨rfl, _, Eq.trans (World.drewN_drewN _ _ _) (congrArg (World.drewN _) (Nat.add_assoc _ _ _))⟩)) | (go_at_call 49; (with_reducible refine (visits_shop_all.calls _ _ l0 t113 _ ?side1 ?side2 A4.out).mono ?_); (case side1 => repeat (first | exact HR0.out | (with_reducible refine Kd.C_alloc ?_ _) | (with_reducible refine Kd.C_drewN ?_ _) | (with_reducible refine Kd.C_drew ?_))); (case side2 => exact HC0.out); rintro e w' ⟨rfl, ⟨nd, rfl⟩⟩; (try first | exact ⟨rfl, _, World.drewN_drewN _ _ _⟩ | exact ⟨rfl, _, Eq.trans (World.drewN_drewN _ _ _) (congrArg (World.drewN _) (Nat.add_assoc _ _ _))⟩)) | (go_at_call 49; (with_reducible refine (visits_shop_all.calls _ _ l0 t113 _ ?side1 ?side2 A5.out).mono ?_); (case side1 => repeat (first | exact HR0.out | (with_reducible refine Kd.C_alloc ?_ _) | (with_reducible refine Kd.C_drewN ?_ _) | (with_reducible refine Kd.C_drew ?_))); (case side2 => exact HC0.out); rintro e w' ⟨rfl, ⟨nd, rfl⟩⟩; (try first | exact ⟨rfl, _, World.drewN_drewN _ _ _⟩ | exact ⟨rfl, _, Eq.trans (World.drewN_drewN _ _ _) (congrArg (World.drewN _) (Nat.add_assoc _ _ _))⟩)) | (go_at_call 50; (with_reducible refine (visits_shop_pairs.calls k _ _ l0 t113 t115 _ _ (by repeat (first | exact memoI_new' _ _ _ rfl | (refine MemoI.drewN ?_ _) | (refine MemoI.drew ?_))) (by repeat (first | exact HT0.out | exact tabB HT0.out HB.out | (refine tab_alloc ?_ _) | (refine tab_drewN ?_ _) | (refine tab_drew ?_))) ?side1 ?side2 A6.out).mono ?_); (case side1 => repeat (first | exact HR0.out | (with_reducible refine Kd.C_alloc ?_ _) | (with_reducible refine Kd.C_drewN ?_ _) | (with_reducible refine Kd.C_drew ?_))); (case side2 => exact HC0.out); rintro e w7 ⟨rfl, hb⟩; have n0_ := Aside0.mk (BM.start (w := w) (g := w.heap.size) (by repeat (first | (with_reducible first | exact HB.out | apply below_alloc | apply pw_below_drewN | apply below_drew1) | exact HB.out)) (Nat.le_refl _) hb); clear HB; have HB := n0_; clear n0_; (try clear hb); (try clear hb2); (try clear hk); (try clear hi)))
    repeat (go_quiet (first | (go_at_call 44; (with_reducible refine (visits_read.calls k _ _ l0 true _ ?side1 ?side2 A2.out).mono ?_); (case side1 => repeat (first | exact HR0.out | (with_reducible refine Kd.C_alloc ?_ _) | (with_reducible refine Kd.C_drewN ?_ _) | (with_reducible refine Kd.C_drew ?_))); (case side2 => exact HC0.out); rintro e w' ⟨⟨v_, rfl, hv_⟩, ⟨nd, rfl⟩⟩; (try (obtain rfl := hv_ rfl)); (try clear hv_); (try first | exact ⟨rfl, _, World.drewN_drewN _ _ _⟩ | exact ⟨rfl, _, Eq.trans (World.drewN_drewN _ _ _) (congrArg (World.drewN _) (Nat.add_assoc _ _ _))⟩)) | (go_at_call 49; (with_reducible refine (visits_shop_all.calls _ _ l0 t113 _ ?side1 ?side2 A4.out).mono ?_); (case side1 => repeat (first | exact HR0.out | (with_reducible refine Kd.C_alloc ?_ _) | (with_reducible refine Kd.C_drewN ?_ _) | (with_reducible refine Kd.C_drew ?_))); (case side2 => exact HC0.out); rintro e w' ⟨rfl, ⟨nd, rfl⟩⟩; (try first | exact ⟨rfl, _, World.drewN_drewN _ _ _⟩ | exact ⟨rfl, _, Eq.trans (World.drewN_drewN _ _ _) (congrArg (World.drewN _) (Nat.add_assoc _ _ _))⟩)) | (go_at_call 49; (with_reducible refine (visits_shop_all.calls _ _ l0 t113 _ ?side1 ?side2 A5.out).mono ?_); (case side1 => repeat (first | exact HR0.out | (with_reducible refine Kd.C_alloc ?_ _) | (with_reducible refine Kd.C_drewN ?_ _) | (with_reducible refine Kd.C_drew ?_))); (case side2 => exact HC0.out); rintro e w' ⟨rfl, ⟨nd, rfl⟩⟩; (try first | exact ⟨rfl, _, World.drewN_drewN _ _ _⟩ | exact ⟨rfl, _, Eq.trans (World.drewN_drewN _ _ _) (congrArg (World.drewN _) (Nat.add_assoc _ _ _))⟩)) | (go_at_call 50; (with_reducible refine (visits_shop_pairs.calls k _ _ l0 t113 t115 _ _ (by repeat (first | exact memoI_new' _ _ _ rfl | (refine MemoI.drewN ?_ _) | (refine MemoI.drew ?_))) (by repeat (first | exact HT0.out | exact tabB HT0.out HB.out | (refine tab_alloc ?_ _) | (refine tab_drewN ?_ _) | (refine tab_drew ?_))) ?side1 ?side2 A6.out).mono ?_); (case side1 => repeat (first | exact HR0.out | (with_reducible refine Kd.C_alloc ?_ _) | (with_reducible refine Kd.C_drewN ?_ _) | (with_reducible refine Kd.C_drew ?_))); (case side2 => exact HC0.out); rintro e w7 ⟨rfl, hb⟩; have n0_ := Aside0.mk (BM.start (w := w) (g := w.heap.size) (by repeat (first | (with_reducible first | exact HB.out | apply below_alloc | apply pw_below_drewN | apply below_drew1) | exact HB.out)) (Nat.le_refl _) hb); clear HB; have HB := n0_; clear n0_; (try clear hb); (try clear hb2); (try clear hk); (try clear hi))); try go_wp2_with (first | (go_at_call 44; (with_reducible refine (visits_read.calls k _ _ l0 true _ ?side1 ?side2 A2.out).mono ?_); (case side1 => repeat (first | exact HR0.out | (with_reducible refine Kd.C_alloc ?_ _) | (with_reducible refine Kd.C_drewN ?_ _) | (with_reducible refine Kd.C_drew ?_))); (case side2 => exact HC0.out); rintro e w' ⟨⟨v_, rfl, hv_⟩, ⟨nd, rfl⟩⟩; (try (obtain rfl := hv_ rfl)); (try clear hv_); (try first | exact ⟨rfl, _, World.drewN_drewN _ _ _⟩ | exact ⟨rfl, _, Eq.trans (World.drewN_drewN _ _ _) (congrArg (World.drewN _) (Nat.add_assoc _ _ _))⟩)) | (go_at_call 49; (with_reducible refine (visits_shop_all.calls _ _ l0 t113 _ ?side1 ?side2 A4.out).mono ?_); (case side1 => repeat (first | exact HR0.out | (with_reducible refine Kd.C_alloc ?_ _) | (with_reducible refine Kd.C_drewN ?_ _) | (with_reducible refine Kd.C_drew ?_))); (case side2 => exact HC0.out); rintro e w' ⟨rfl, ⟨nd, rfl⟩⟩; (try first | exact ⟨rfl, _, World.drewN_drewN _ _ _⟩ | exact ⟨rfl, _, Eq.trans (World.drewN_drewN _ _ _) (congrArg (World.drewN _) (Nat.add_assoc _ _ _))⟩)) | (go_at_call 49; (with_reducible refine (visits_shop_all.calls _ _ l0 t113 _ ?side1 ?side2 A5.out).mono ?_); (case side1 => repeat (first | exact HR0.out | (with_reducible refine Kd.C_alloc ?_ _) | (with_reducible refine Kd.C_drewN ?_ _) | (with_reducible refine Kd.C_drew ?_))); (case side2 => exact HC0.out); rintro e w' ⟨rfl, ⟨nd, rfl⟩⟩; (try first | exact ⟨rfl, _, World.drewN_drewN _ _ _⟩ | exact ⟨rfl, _, Eq.trans (World.drewN_drewN _ _ _) (congrArg (World.drewN _) (Nat.add_assoc _ _ _))⟩)) | (go_at_call 50; (with_reducible refine (visits_shop_pairs.calls k _ _ l0 t113 t115 _ _ (by repeat (first | exact memoI_new' _ _ _ rfl | (refine MemoI.drewN ?_ _) | (refine MemoI.drew ?_))) (by repeat (first | exact HT0.out | exact tabB HT0.out HB.out | (refine tab_alloc ?_ _) | (refine tab_drewN ?_ _) | (refine tab_drew ?_))) ?side1 ?side2 A6.out).mono ?_); (case side1 => repeat (first | exact HR0.out | (with_reducible refine Kd.C_alloc ?_ _) | (with_reducible refine Kd.C_drewN ?_ _) | (with_reducible refine Kd.C_drew ?_))); (case side2 => exact HC0.out); rintro e w7 ⟨rfl, hb⟩; have n0_ := Aside0.mk (BM.start (w := w) (g := w.heap.size) (by repeat (first | (with_reducible first | exact HB.out | apply below_alloc | apply pw_below_drewN | apply below_drew1) | exact HB.out)) (Nat.le_refl _) hb); clear HB; have HB := n0_; clear n0_; (try clear hb); (try clear hb2); (try clear hk); (try clear hi))))
    try go_wp2
    go_step3
    try go_wp2
    go_loopg [7, 8, 9] k (fun kq v7 v8 v9 w' => ∃ (x7_1 : Int) (x8_1 : Int) (x9_1 : List (S43)), v7 = .int .i64 x7_1 ∧ v8 = .int .i64 x8_1 ∧ Aside0 (visits_Largest.l0 kq l0 x7_1 x8_1 x9_1 = some (r1, r2)) ∧ Aside0 (kq ≤ k) ∧ Aside0 (Kd.R k43 43 w' w.heap.size (fun k_ => k_ ≠ w.heap.size) v9 x9_1) ∧ Aside0 (BM w w' w.heap.size (fun W => MemoI W w.heap.size (pairsGood l0))))
    case atStart => exact ⟨(t113), (t115), (([] : List (S43))), (by first | rfl | (simp; done) | (simp [*]; done)), (by first | rfl | (simp; done) | (simp [*]; done)), H', ⟨Nat.le_refl _⟩, ⟨by first | exact Kd.R_nil _ _ _ _ _ | exact Kd.N_nil _ _ _ _ _ | exact Kd.V_nil _ _ _ _ _ | exact Kd.Q_nil _ _ _ _ _ | exact Kd.S_nil _ _ _ _ _⟩, ⟨by repeat (first | exact HB.out | (refine BM.i_alloc ?_ _) | (refine BM.i_drewN ?_ _) | (refine BM.i_drew ?_))⟩⟩
    case round =>
      clear H'
      try clear c2
      try clear p2
      try clear c3
      obtain ⟨x7_1, x8_1, x9_1, rfl, rfl, HA, HK1, HO_9, HB⟩ := hrel
      cases gk with
      | zero => exact absurd HA.out (by simp [visits_Largest.l0])
      | succ k1 =>
        have H := HA.out
        clear HA
        simp only [visits_Largest.l0] at H
        by_cases c8 : x8_1 > 0
        · rw [if_pos c8] at H
          have c8b0 : decide (0 < x8_1) = true := decide_eq_true c8
          clear c8
          have H' := Aside0.mk H
          clear H
          go_wp2
          repeat (go_quiet (fail); try go_wp2)
          go_loopg [7, 8, 9, 32] k1 (fun kq v7 v8 v9 v32 w' => ∃ (x7_2 : Int) (x8_2 : Int) (x9_2 : List (S43)) (x32_2 : Int), v7 = .int .i64 x7_2 ∧ v8 = .int .i64 x8_2 ∧ v32 = .int .i64 x32_2 ∧ Aside0 (visits_Largest.l1 kq l0 x7_2 x8_2 x9_2 (l0.length : Int) x32_2 = some (r1, r2)) ∧ Aside0 (kq ≤ k1) ∧ Aside0 (Kd.R k43 43 w' w.heap.size (fun k_ => k_ ≠ w.heap.size) v9 x9_2) ∧ Aside0 (BM w w' w.heap.size (fun W => MemoI W w.heap.size (pairsGood l0))))
          case atStart => exact ⟨(x7_1), (x8_1), (x9_1), (0), (by first | rfl | (simp; done) | (simp [*]; done)), (by first | rfl | (simp; done) | (simp [*]; done)), (by first | rfl | (simp; done) | (simp [*]; done)), H', ⟨Nat.le_refl _⟩, ⟨by (with_reducible repeat (first | apply Kd.R_alloc | apply Kd.R_drewN | apply Kd.R_drew)); exact HO_9.out⟩, ⟨by repeat (first | exact HB.out | (refine BM.i_alloc ?_ _) | (refine BM.i_drewN ?_ _) | (refine BM.i_drew ?_))⟩⟩
          case round =>
            clear H'
            try clear c2
            try clear p2
            try clear c3
            try clear c8
            try clear c8b0
            try clear p2
            obtain ⟨x7_2, x8_2, x9_2, x32_2, rfl, rfl, rfl, HA, HK2, HO_9, HB⟩ := hrel
            cases gk with
            | zero => exact absurd HA.out (by simp [visits_Largest.l1])
            | succ k2 =>
              have H := HA.out
              clear HA
              simp only [visits_Largest.l1] at H
              by_cases c9 : x32_2 < (l0.length : Int)
              · rw [if_pos c9] at H
                have c9b0 : decide (x32_2 < (l0.length : Int)) = true := decide_eq_true c9
                clear c9
                have H' := Aside0.mk H
                clear H
                go_wp2
                repeat (go_quiet (fail); try go_wp2)
                go_loopg [7, 8, 9, 11] k2 (fun kq v7 v8 v9 v11 w' => ∃ (x7_3 : Int) (x8_3 : Int) (x9_3 : List (S43)) (x11_3 : Int), v7 = .int .i64 x7_3 ∧ v8 = .int .i64 x8_3 ∧ v11 = .int .i64 x11_3 ∧ Aside0 (visits_Largest.l2 kq l0 x7_3 x8_3 x9_3 x32_2 x11_3 (l0.length : Int) x32_2 = some (r1, r2)) ∧ Aside0 (kq ≤ k2) ∧ Aside0 (Kd.R k43 43 w' w.heap.size (fun k_ => k_ ≠ w.heap.size) v9 x9_3) ∧ Aside0 (BM w w' w.heap.size (fun W => MemoI W w.heap.size (pairsGood l0))))
                case atStart => exact ⟨(x7_2), (x8_2), (x9_2), (wrap64 (x32_2 + 1)), (by first | rfl | (simp; done) | (simp [*]; done)), (by first | rfl | (simp; done) | (simp [*]; done)), (by first | rfl | (simp; done) | (simp [*]; done)), H', ⟨Nat.le_refl _⟩, ⟨by (with_reducible repeat (first | apply Kd.R_alloc | apply Kd.R_drewN | apply Kd.R_drew)); exact HO_9.out⟩, ⟨by repeat (first | exact HB.out | (refine BM.i_alloc ?_ _) | (refine BM.i_drewN ?_ _) | (refine BM.i_drew ?_))⟩⟩
                case round =>
                  clear H'
                  try clear c2
                  try clear p2
                  try clear c3
                  try clear p6
                  try clear c8
                  try clear c8b0
                  try clear c9
                  try clear c9b0
                  try clear p2
                  obtain ⟨x7_3, x8_3, x9_3, x11_3, rfl, rfl, rfl, HA, HK3, HO_9, HB⟩ := hrel
                  cases gk with
                  | zero => exact absurd HA.out (by simp [visits_Largest.l2])
                  | succ k3 =>
                    have H := HA.out
                    clear HA
                    simp only [visits_Largest.l2] at H
                    by_cases c10 : x11_3 < (l0.length : Int)
                    · rw [if_pos c10] at H
                      have c10b0 : decide (x11_3 < (l0.length : Int)) = true := decide_eq_true c10
                      clear c10
                      obtain ⟨ji11, hji11⟩ : ∃ j_ : Int, (wrap64 (x32_2 + 1)) = j_ := ⟨_, rfl⟩
                      replace H : (if 0 ≤ (ji11) then (if 0 ≤ x11_3 then (if 0 ≤ x32_2 then (if (Go.bits .and .i64 (shr .i64 x7_3 x32_2) 1) = 1 then (if x32_2 < (l0.length : Int) then (if (Go.bits .and .i64 (shr .i64 (Go.bits .and .i64 x7_3 (rd l0 x32_2)) x11_3) 1) = 1 then ((visits_shop_pairs.f k3 l0 (Go.bits .andNot .i64 (Go.bits .andNot .i64 x7_3 (wrap64 ((shl .i64 1 (ji11)) - 1))) (shl .i64 1 x11_3))).bind fun t117 => (if t117 = (wrap64 (x8_3 - 1)) then (if x9_3.length < 8796093022208 then (visits_Largest.l0 k3 l0 (Go.bits .andNot .i64 (Go.bits .andNot .i64 x7_3 (wrap64 ((shl .i64 1 (ji11)) - 1))) (shl .i64 1 x11_3)) (wrap64 (x8_3 - 1)) (x9_3 ++ [(⟨x32_2, x11_3⟩ : S43)])) else (none)) else (visits_Largest.l2 k3 l0 x7_3 x8_3 x9_3 x32_2 (wrap64 (x11_3 + 1)) (l0.length : Int) x32_2))) else (visits_Largest.l2 k3 l0 x7_3 x8_3 x9_3 x32_2 (wrap64 (x11_3 + 1)) (l0.length : Int) x32_2)) else (none)) else (visits_Largest.l2 k3 l0 x7_3 x8_3 x9_3 x32_2 (wrap64 (x11_3 + 1)) (l0.length : Int) x32_2)) else (none)) else (none)) else (none)) = some (r1, r2) := by first | (rw [hji11] at H; exact H) | (simp only [hji11] at H ⊢; exact H)
                      have hji11w : (IntKind.i64.wrap (x32_2 + 1)) = ji11 := (i64_w _).trans hji11
                      by_cases c12 : 0 ≤ (ji11)
                      · rw [if_pos c12] at H
                        have c12b0 := eq_true c12
                        have c12b1 : decide (0 ≤ (ji11)) = true := decide_eq_true c12
                        clear c12
                        obtain ⟨ji13, hji13⟩ : ∃ j_ : Int, (shl .i64 1 (ji11)) = j_ := ⟨_, rfl⟩
                        replace H : (if 0 ≤ x11_3 then (if 0 ≤ x32_2 then (if (Go.bits .and .i64 (shr .i64 x7_3 x32_2) 1) = 1 then (if x32_2 < (l0.length : Int) then (if (Go.bits .and .i64 (shr .i64 (Go.bits .and .i64 x7_3 (rd l0 x32_2)) x11_3) 1) = 1 then ((visits_shop_pairs.f k3 l0 (Go.bits .andNot .i64 (Go.bits .andNot .i64 x7_3 (wrap64 ((ji13) - 1))) (shl .i64 1 x11_3))).bind fun t117 => (if t117 = (wrap64 (x8_3 - 1)) then (if x9_3.length < 8796093022208 then (visits_Largest.l0 k3 l0 (Go.bits .andNot .i64 (Go.bits .andNot .i64 x7_3 (wrap64 ((ji13) - 1))) (shl .i64 1 x11_3)) (wrap64 (x8_3 - 1)) (x9_3 ++ [(⟨x32_2, x11_3⟩ : S43)])) else (none)) else (visits_Largest.l2 k3 l0 x7_3 x8_3 x9_3 x32_2 (wrap64 (x11_3 + 1)) (l0.length : Int) x32_2))) else (visits_Largest.l2 k3 l0 x7_3 x8_3 x9_3 x32_2 (wrap64 (x11_3 + 1)) (l0.length : Int) x32_2)) else (none)) else (visits_Largest.l2 k3 l0 x7_3 x8_3 x9_3 x32_2 (wrap64 (x11_3 + 1)) (l0.length : Int) x32_2)) else (none)) else (none)) = some (r1, r2) := by first | (rw [hji13] at H; exact H) | (simp only [hji13] at H ⊢; exact H)
                        have hji13_ : (IntKind.i64.wrap (1 * 2 ^ min (ji11).toNat 64)) = ji13 := hji13
                        have hji13z : (ji11) ≤ 64 → (IntKind.i64.wrap (1 * 2 ^ (ji11).toNat)) = ji13 := shl_small hji13
                        have hji13u : (IntKind.i64.wrap (2 ^ min (ji11).toNat 64)) = ji13 := by have h_ := hji13_; rw [Int.one_mul] at h_; exact h_
                        have hji13v : (ji11) ≤ 64 → (IntKind.i64.wrap (2 ^ (ji11).toNat)) = ji13 := fun hle_ => by have h_ := hji13z hle_; rw [Int.one_mul] at h_; exact h_
                        have hji13y : (wrap64 (1 * 2 ^ min (ji11).toNat 64)) = ji13 := (i64_w _).symm.trans hji13_
                        have hji13x : (ji11) ≤ 64 → (wrap64 (1 * 2 ^ (ji11).toNat)) = ji13 := fun h_ => (i64_w _).symm.trans (hji13z h_)
                        by_cases c14 : 0 ≤ x11_3
                        · rw [if_pos c14] at H
                          have c14b0 := eq_true c14
                          have c14b1 : decide (0 ≤ x11_3) = true := decide_eq_true c14
                          clear c14
                          obtain ⟨ji15, hji15⟩ : ∃ j_ : Int, (shl .i64 1 x11_3) = j_ := ⟨_, rfl⟩
                          replace H : (if 0 ≤ x32_2 then (if (Go.bits .and .i64 (shr .i64 x7_3 x32_2) 1) = 1 then (if x32_2 < (l0.length : Int) then (if (Go.bits .and .i64 (shr .i64 (Go.bits .and .i64 x7_3 (rd l0 x32_2)) x11_3) 1) = 1 then ((visits_shop_pairs.f k3 l0 (Go.bits .andNot .i64 (Go.bits .andNot .i64 x7_3 (wrap64 ((ji13) - 1))) (ji15))).bind fun t117 => (if t117 = (wrap64 (x8_3 - 1)) then (if x9_3.length < 8796093022208 then (visits_Largest.l0 k3 l0 (Go.bits .andNot .i64 (Go.bits .andNot .i64 x7_3 (wrap64 ((ji13) - 1))) (ji15)) (wrap64 (x8_3 - 1)) (x9_3 ++ [(⟨x32_2, x11_3⟩ : S43)])) else (none)) else (visits_Largest.l2 k3 l0 x7_3 x8_3 x9_3 x32_2 (wrap64 (x11_3 + 1)) (l0.length : Int) x32_2))) else (visits_Largest.l2 k3 l0 x7_3 x8_3 x9_3 x32_2 (wrap64 (x11_3 + 1)) (l0.length : Int) x32_2)) else (none)) else (visits_Largest.l2 k3 l0 x7_3 x8_3 x9_3 x32_2 (wrap64 (x11_3 + 1)) (l0.length : Int) x32_2)) else (none)) = some (r1, r2) := by first | (rw [hji15] at H; exact H) | (simp only [hji15] at H ⊢; exact H)
                          have hji15_ : (IntKind.i64.wrap (1 * 2 ^ min x11_3.toNat 64)) = ji15 := hji15
                          have hji15z : x11_3 ≤ 64 → (IntKind.i64.wrap (1 * 2 ^ x11_3.toNat)) = ji15 := shl_small hji15
                          have hji15u : (IntKind.i64.wrap (2 ^ min x11_3.toNat 64)) = ji15 := by have h_ := hji15_; rw [Int.one_mul] at h_; exact h_
                          have hji15v : x11_3 ≤ 64 → (IntKind.i64.wrap (2 ^ x11_3.toNat)) = ji15 := fun hle_ => by have h_ := hji15z hle_; rw [Int.one_mul] at h_; exact h_
                          have hji15y : (wrap64 (1 * 2 ^ min x11_3.toNat 64)) = ji15 := (i64_w _).symm.trans hji15_
                          have hji15x : x11_3 ≤ 64 → (wrap64 (1 * 2 ^ x11_3.toNat)) = ji15 := fun h_ => (i64_w _).symm.trans (hji15z h_)
                          by_cases c16 : 0 ≤ x32_2
                          · rw [if_pos c16] at H
                            have c16b0 := eq_true c16
                            have c16b1 : decide (0 ≤ x32_2) = true := decide_eq_true c16
                            clear c16
                            obtain ⟨ji17, hji17⟩ : ∃ j_ : Int, (shr .i64 x7_3 x32_2) = j_ := ⟨_, rfl⟩
                            replace H : (if (Go.bits .and .i64 (ji17) 1) = 1 then (if x32_2 < (l0.length : Int) then (if (Go.bits .and .i64 (shr .i64 (Go.bits .and .i64 x7_3 (rd l0 x32_2)) x11_3) 1) = 1 then ((visits_shop_pairs.f k3 l0 (Go.bits .andNot .i64 (Go.bits .andNot .i64 x7_3 (wrap64 ((ji13) - 1))) (ji15))).bind fun t117 => (if t117 = (wrap64 (x8_3 - 1)) then (if x9_3.length < 8796093022208 then (visits_Largest.l0 k3 l0 (Go.bits .andNot .i64 (Go.bits .andNot .i64 x7_3 (wrap64 ((ji13) - 1))) (ji15)) (wrap64 (x8_3 - 1)) (x9_3 ++ [(⟨x32_2, x11_3⟩ : S43)])) else (none)) else (visits_Largest.l2 k3 l0 x7_3 x8_3 x9_3 x32_2 (wrap64 (x11_3 + 1)) (l0.length : Int) x32_2))) else (visits_Largest.l2 k3 l0 x7_3 x8_3 x9_3 x32_2 (wrap64 (x11_3 + 1)) (l0.length : Int) x32_2)) else (none)) else (visits_Largest.l2 k3 l0 x7_3 x8_3 x9_3 x32_2 (wrap64 (x11_3 + 1)) (l0.length : Int) x32_2)) = some (r1, r2) := by first | (rw [hji17] at H; exact H) | (simp only [hji17] at H ⊢; exact H)
                            have hji17_ : (x7_3 / 2 ^ min x32_2.toNat 64) = ji17 := hji17
                            have hji17z : x32_2 ≤ 64 → (x7_3 / 2 ^ x32_2.toNat) = ji17 := shr_small hji17
                            by_cases c18 : (Go.bits .and .i64 (ji17) 1) = 1
                            · rw [if_pos c18] at H
                              have c18b0 : ((Go.bits .and .i64 (ji17) 1) == 1) = true := beq_iff_eq.mpr c18
                              have c18b1 : ((Go.bits .and .i64 (ji17) 1) != 1) = false := bne_eq_false_iff_eq.mpr c18
                              clear c18
                              by_cases c19 : x32_2 < (l0.length : Int)
                              · rw [if_pos c19] at H
                                have c19b0 : decide (x32_2 < (l0.length : Int)) = true := decide_eq_true c19
                                clear c19
                                have c20b0 := eq_true (of_decide_eq_true (by first | (with_reducible assumption) | assumption) : 0 ≤ x11_3)
                                obtain ⟨ji21, hji21⟩ : ∃ j_ : Int, (shr .i64 (Go.bits .and .i64 x7_3 (rd l0 x32_2)) x11_3) = j_ := ⟨_, rfl⟩
                                replace H : (if (Go.bits .and .i64 (ji21) 1) = 1 then ((visits_shop_pairs.f k3 l0 (Go.bits .andNot .i64 (Go.bits .andNot .i64 x7_3 (wrap64 ((ji13) - 1))) (ji15))).bind fun t117 => (if t117 = (wrap64 (x8_3 - 1)) then (if x9_3.length < 8796093022208 then (visits_Largest.l0 k3 l0 (Go.bits .andNot .i64 (Go.bits .andNot .i64 x7_3 (wrap64 ((ji13) - 1))) (ji15)) (wrap64 (x8_3 - 1)) (x9_3 ++ [(⟨x32_2, x11_3⟩ : S43)])) else (none)) else (visits_Largest.l2 k3 l0 x7_3 x8_3 x9_3 x32_2 (wrap64 (x11_3 + 1)) (l0.length : Int) x32_2))) else (visits_Largest.l2 k3 l0 x7_3 x8_3 x9_3 x32_2 (wrap64 (x11_3 + 1)) (l0.length : Int) x32_2)) = some (r1, r2) := by first | (rw [hji21] at H; exact H) | (simp only [hji21] at H ⊢; exact H)
                                have hji21_ : ((Go.bits .and .i64 x7_3 (rd l0 x32_2)) / 2 ^ min x11_3.toNat 64) = ji21 := hji21
                                have hji21z : x11_3 ≤ 64 → ((Go.bits .and .i64 x7_3 (rd l0 x32_2)) / 2 ^ x11_3.toNat) = ji21 := shr_small hji21
                                by_cases c22 : (Go.bits .and .i64 (ji21) 1) = 1
                                · rw [if_pos c22] at H
                                  have c22b0 : ((Go.bits .and .i64 (ji21) 1) == 1) = true := beq_iff_eq.mpr c22
                                  have c22b1 : ((Go.bits .and .i64 (ji21) 1) != 1) = false := bne_eq_false_iff_eq.mpr c22
                                  clear c22
                                  replace H := Option.bind_eq_some_iff.mp H
                                  obtain ⟨t117, A230, H⟩ := H
                                  replace H : (if t117 = (wrap64 (x8_3 - 1)) then (if x9_3.length < 8796093022208 then (visits_Largest.l0 k3 l0 (Go.bits .andNot .i64 (Go.bits .andNot .i64 x7_3 (wrap64 ((ji13) - 1))) (ji15)) (wrap64 (x8_3 - 1)) (x9_3 ++ [(⟨x32_2, x11_3⟩ : S43)])) else (none)) else (visits_Largest.l2 k3 l0 x7_3 x8_3 x9_3 x32_2 (wrap64 (x11_3 + 1)) (l0.length : Int) x32_2)) = some (r1, r2) := H
                                  have A23 := Aside0.mk A230
                                  clear A230
                                  by_cases c24 : t117 = (wrap64 (x8_3 - 1))
                                  · rw [if_pos c24] at H
                                    have c24b0 : (t117 == (wrap64 (x8_3 - 1))) = true := beq_iff_eq.mpr c24
                                    have c24b1 : (t117 != (wrap64 (x8_3 - 1))) = false := bne_eq_false_iff_eq.mpr c24
                                    clear c24
                                    by_cases c25 : x9_3.length < 8796093022208
                                    · rw [if_pos c25] at H
                                      have LMc25 := Aside0.mk c25
                                      clear c25
                                      obtain ⟨y118, hy118⟩ : ∃ y_ : List (S43), y_ = (x9_3 ++ [(⟨x32_2, x11_3⟩ : S43)]) := ⟨_, rfl⟩
                                      replace H : (visits_Largest.l0 k3 l0 (Go.bits .andNot .i64 (Go.bits .andNot .i64 x7_3 (wrap64 ((ji13) - 1))) (ji15)) (wrap64 (x8_3 - 1)) y118) = some (r1, r2) := by first | (rw [hy118]; with_reducible exact H) | (have H2_ := (Option.bind_some _ _).symm.trans H; rw [hy118]; with_reducible exact H2_) | (have H2_ := (Option.bind_some _ _).symm.trans H; with_reducible exact H2_) | with_reducible exact H | (rw [hy118]; exact H) | exact H
                                      have Ny118 := Aside0.mk hy118
                                      clear hy118
                                      have H' := Aside0.mk H
                                      clear H
                                      have p116 : 0 ≤ (x32_2 : Int) := of_decide_eq_true (by first | (with_reducible assumption) | assumption)
                                      have q116 : x32_2 < (l0.length : Int) := of_decide_eq_true (by first | (with_reducible assumption) | assumption)
                                      obtain ⟨ad116, e116, hx116_0⟩ := Kd.at_int HR0.out x32_2 p116 q116
                                      cases e116
                                      replace hx116_0 := (HB.out.below.cell (World.block_lt_of_cell? w _ hx116_0)).trans hx116_0
                                      replace p116 := eq_true p116
                                      replace q116 := eq_true q116
                                      go_wp2_with (first | (go_at_call 50; (with_reducible refine (visits_shop_pairs.calls k3 _ _ l0 (Go.bits .andNot .i64 (Go.bits .andNot .i64 x7_3 (wrap64 ((ji13) - 1))) (ji15)) t117 _ w.heap.size (BM.memo (w := w) (g := w.heap.size) (M := (fun W => MemoI W w.heap.size (pairsGood l0))) (by repeat (first | exact HB.out | (refine BM.i_alloc ?_ _) | (refine BM.i_drewN ?_ _) | (refine BM.i_drew ?_)))) (tabB HT0.out (BM.below (w := w) (g := w.heap.size) (M := (fun W => MemoI W w.heap.size (pairsGood l0))) (by repeat (first | exact HB.out | (refine BM.i_alloc ?_ _) | (refine BM.i_drewN ?_ _) | (refine BM.i_drew ?_))))) ?side1 ?side2 A23.out).mono ?_); (case side1 => repeat (first | exact (Kd.C_below HR0.out HB.out.below) | (with_reducible refine Kd.C_alloc ?_ _) | (with_reducible refine Kd.C_drewN ?_ _) | (with_reducible refine Kd.C_drew ?_))); (case side2 => exact HC0.out); rintro e w26 ⟨rfl, hb⟩; have n0_ := Aside0.mk (Kd.R_keep (by (with_reducible repeat (first | apply Kd.R_alloc | apply Kd.R_drewN | apply Kd.R_drew)); exact HO_9.out) hb.upd.keep (fun k_ hk_ => hk_)); have n1_ := Aside0.mk (BM.step (w := w) (g := w.heap.size) (M := (fun W => MemoI W w.heap.size (pairsGood l0))) (by repeat (first | exact HB.out | (refine BM.i_alloc ?_ _) | (refine BM.i_drewN ?_ _) | (refine BM.i_drew ?_))) hb.upd hb.memo); clear HO_9; clear HB; have HO_9 := n0_; have HB := n1_; clear n0_ n1_; (try clear hb); (try clear hb2); (try clear hk); (try clear hi)) | ((with_reducible refine gate_builtin (b := .append) (xs := #[.tmp 78, .tmp 82]) rfl ?_); at_builtin; refine Kd.R_append k43 (w0 := w) w.heap.size rfl (.tmp 78) (.tmp 82) 29 43 (.agg #[(.int .i64 0), (.int .i64 0)]) 16 rfl Tryd.underlying29 info43 rfl (by decide) (by omega) u9 x9_3 (⟨x32_2, x11_3⟩ : S43) [.int .i64 x32_2, .int .i64 x11_3] (fun k_ => k_ ≠ w.heap.size) (fun _ => False) rfl rfl ?aP (fun _ hk => hk.elim) ?aF ?aO ?aB ?aS ?aL ?_; (case aP => exact k43_mkM _ _ _ (⟨x32_2, x11_3⟩ : S43)); (case aB => exact (BM.below (w := w) (g := w.heap.size) (M := (fun W => MemoI W w.heap.size (pairsGood l0))) (by repeat (first | exact HB.out | (refine BM.i_alloc ?_ _) | (refine BM.i_drewN ?_ _) | (refine BM.i_drew ?_))))); (case aF => exact (BM.fresh (w := w) (g := w.heap.size) (good := pairsGood l0) (by repeat (first | exact HB.out | (refine BM.i_alloc ?_ _) | (refine BM.i_drewN ?_ _) | (refine BM.i_drew ?_))))); (case aO => exact (by (with_reducible repeat (first | apply Kd.R_alloc | apply Kd.R_drewN | apply Kd.R_drew)); exact HO_9.out)); (case aS => exact (below_size (BM.below (w := w) (g := w.heap.size) (M := (fun W => MemoI W w.heap.size (pairsGood l0))) (by repeat (first | exact HB.out | (refine BM.i_alloc ?_ _) | (refine BM.i_drewN ?_ _) | (refine BM.i_drew ?_)))))); (case aL => have := LMc25.out; omega); intro v119 w27 ho hb hg hat; rw [← Ny118.out] at ho; have n0_ := Aside0.mk (BM.grown (w := w) (g := w.heap.size) (good := pairsGood l0) (by repeat (first | exact HB.out | (refine BM.i_alloc ?_ _) | (refine BM.i_drewN ?_ _) | (refine BM.i_drew ?_))) hb hg HO_9.out.1); have n1_ := Aside0.mk (ho); clear HB; clear HO_9; have HB := n0_; have HO120 := n1_; clear n0_ n1_; clear ho hb hg hat))
                                      repeat (go_quiet (first | (go_at_call 50; (with_reducible refine (visits_shop_pairs.calls k3 _ _ l0 (Go.bits .andNot .i64 (Go.bits .andNot .i64 x7_3 (wrap64 ((ji13) - 1))) (ji15)) t117 _ w.heap.size (BM.memo (w := w) (g := w.heap.size) (M := (fun W => MemoI W w.heap.size (pairsGood l0))) (by repeat (first | exact HB.out | (refine BM.i_alloc ?_ _) | (refine BM.i_drewN ?_ _) | (refine BM.i_drew ?_)))) (tabB HT0.out (BM.below (w := w) (g := w.heap.size) (M := (fun W => MemoI W w.heap.size (pairsGood l0))) (by repeat (first | exact HB.out | (refine BM.i_alloc ?_ _) | (refine BM.i_drewN ?_ _) | (refine BM.i_drew ?_))))) ?side1 ?side2 A23.out).mono ?_); (case side1 => repeat (first | exact (Kd.C_below HR0.out HB.out.below) | (with_reducible refine Kd.C_alloc ?_ _) | (with_reducible refine Kd.C_drewN ?_ _) | (with_reducible refine Kd.C_drew ?_))); (case side2 => exact HC0.out); rintro e w26 ⟨rfl, hb⟩; have n0_ := Aside0.mk (Kd.R_keep (by (with_reducible repeat (first | apply Kd.R_alloc | apply Kd.R_drewN | apply Kd.R_drew)); exact HO_9.out) hb.upd.keep (fun k_ hk_ => hk_)); have n1_ := Aside0.mk (BM.step (w := w) (g := w.heap.size) (M := (fun W => MemoI W w.heap.size (pairsGood l0))) (by repeat (first | exact HB.out | (refine BM.i_alloc ?_ _) | (refine BM.i_drewN ?_ _) | (refine BM.i_drew ?_))) hb.upd hb.memo); clear HO_9; clear HB; have HO_9 := n0_; have HB := n1_; clear n0_ n1_; (try clear hb); (try clear hb2); (try clear hk); (try clear hi)) | ((with_reducible refine gate_builtin (b := .append) (xs := #[.tmp 78, .tmp 82]) rfl ?_); at_builtin; refine Kd.R_append k43 (w0 := w) w.heap.size rfl (.tmp 78) (.tmp 82) 29 43 (.agg #[(.int .i64 0), (.int .i64 0)]) 16 rfl Tryd.underlying29 info43 rfl (by decide) (by omega) u9 x9_3 (⟨x32_2, x11_3⟩ : S43) [.int .i64 x32_2, .int .i64 x11_3] (fun k_ => k_ ≠ w.heap.size) (fun _ => False) rfl rfl ?aP (fun _ hk => hk.elim) ?aF ?aO ?aB ?aS ?aL ?_; (case aP => exact k43_mkM _ _ _ (⟨x32_2, x11_3⟩ : S43)); (case aB => exact (BM.below (w := w) (g := w.heap.size) (M := (fun W => MemoI W w.heap.size (pairsGood l0))) (by repeat (first | exact HB.out | (refine BM.i_alloc ?_ _) | (refine BM.i_drewN ?_ _) | (refine BM.i_drew ?_))))); (case aF => exact (BM.fresh (w := w) (g := w.heap.size) (good := pairsGood l0) (by repeat (first | exact HB.out | (refine BM.i_alloc ?_ _) | (refine BM.i_drewN ?_ _) | (refine BM.i_drew ?_))))); (case aO => exact (by (with_reducible repeat (first | apply Kd.R_alloc | apply Kd.R_drewN | apply Kd.R_drew)); exact HO_9.out)); (case aS => exact (below_size (BM.below (w := w) (g := w.heap.size) (M := (fun W => MemoI W w.heap.size (pairsGood l0))) (by repeat (first | exact HB.out | (refine BM.i_alloc ?_ _) | (refine BM.i_drewN ?_ _) | (refine BM.i_drew ?_)))))); (case aL => have := LMc25.out; omega); intro v119 w27 ho hb hg hat; rw [← Ny118.out] at ho; have n0_ := Aside0.mk (BM.grown (w := w) (g := w.heap.size) (good := pairsGood l0) (by repeat (first | exact HB.out | (refine BM.i_alloc ?_ _) | (refine BM.i_drewN ?_ _) | (refine BM.i_drew ?_))) hb hg HO_9.out.1); have n1_ := Aside0.mk (ho); clear HB; clear HO_9; have HB := n0_; have HO120 := n1_; clear n0_ n1_; clear ho hb hg hat)); try go_wp2_with (first | (go_at_call 50; (with_reducible refine (visits_shop_pairs.calls k3 _ _ l0 (Go.bits .andNot .i64 (Go.bits .andNot .i64 x7_3 (wrap64 ((ji13) - 1))) (ji15)) t117 _ w.heap.size (BM.memo (w := w) (g := w.heap.size) (M := (fun W => MemoI W w.heap.size (pairsGood l0))) (by repeat (first | exact HB.out | (refine BM.i_alloc ?_ _) | (refine BM.i_drewN ?_ _) | (refine BM.i_drew ?_)))) (tabB HT0.out (BM.below (w := w) (g := w.heap.size) (M := (fun W => MemoI W w.heap.size (pairsGood l0))) (by repeat (first | exact HB.out | (refine BM.i_alloc ?_ _) | (refine BM.i_drewN ?_ _) | (refine BM.i_drew ?_))))) ?side1 ?side2 A23.out).mono ?_); (case side1 => repeat (first | exact (Kd.C_below HR0.out HB.out.below) | (with_reducible refine Kd.C_alloc ?_ _) | (with_reducible refine Kd.C_drewN ?_ _) | (with_reducible refine Kd.C_drew ?_))); (case side2 => exact HC0.out); rintro e w26 ⟨rfl, hb⟩; have n0_ := Aside0.mk (Kd.R_keep (by (with_reducible repeat (first | apply Kd.R_alloc | apply Kd.R_drewN | apply Kd.R_drew)); exact HO_9.out) hb.upd.keep (fun k_ hk_ => hk_)); have n1_ := Aside0.mk (BM.step (w := w) (g := w.heap.size) (M := (fun W => MemoI W w.heap.size (pairsGood l0))) (by repeat (first | exact HB.out | (refine BM.i_alloc ?_ _) | (refine BM.i_drewN ?_ _) | (refine BM.i_drew ?_))) hb.upd hb.memo); clear HO_9; clear HB; have HO_9 := n0_; have HB := n1_; clear n0_ n1_; (try clear hb); (try clear hb2); (try clear hk); (try clear hi)) | ((with_reducible refine gate_builtin (b := .append) (xs := #[.tmp 78, .tmp 82]) rfl ?_); at_builtin; refine Kd.R_append k43 (w0 := w) w.heap.size rfl (.tmp 78) (.tmp 82) 29 43 (.agg #[(.int .i64 0), (.int .i64 0)]) 16 rfl Tryd.underlying29 info43 rfl (by decide) (by omega) u9 x9_3 (⟨x32_2, x11_3⟩ : S43) [.int .i64 x32_2, .int .i64 x11_3] (fun k_ => k_ ≠ w.heap.size) (fun _ => False) rfl rfl ?aP (fun _ hk => hk.elim) ?aF ?aO ?aB ?aS ?aL ?_; (case aP => exact k43_mkM _ _ _ (⟨x32_2, x11_3⟩ : S43)); (case aB => exact (BM.below (w := w) (g := w.heap.size) (M := (fun W => MemoI W w.heap.size (pairsGood l0))) (by repeat (first | exact HB.out | (refine BM.i_alloc ?_ _) | (refine BM.i_drewN ?_ _) | (refine BM.i_drew ?_))))); (case aF => exact (BM.fresh (w := w) (g := w.heap.size) (good := pairsGood l0) (by repeat (first | exact HB.out | (refine BM.i_alloc ?_ _) | (refine BM.i_drewN ?_ _) | (refine BM.i_drew ?_))))); (case aO => exact (by (with_reducible repeat (first | apply Kd.R_alloc | apply Kd.R_drewN | apply Kd.R_drew)); exact HO_9.out)); (case aS => exact (below_size (BM.below (w := w) (g := w.heap.size) (M := (fun W => MemoI W w.heap.size (pairsGood l0))) (by repeat (first | exact HB.out | (refine BM.i_alloc ?_ _) | (refine BM.i_drewN ?_ _) | (refine BM.i_drew ?_)))))); (case aL => have := LMc25.out; omega); intro v119 w27 ho hb hg hat; rw [← Ny118.out] at ho; have n0_ := Aside0.mk (BM.grown (w := w) (g := w.heap.size) (good := pairsGood l0) (by repeat (first | exact HB.out | (refine BM.i_alloc ?_ _) | (refine BM.i_drewN ?_ _) | (refine BM.i_drew ?_))) hb hg HO_9.out.1); have n1_ := Aside0.mk (ho); clear HB; clear HO_9; have HB := n0_; have HO120 := n1_; clear n0_ n1_; clear ho hb hg hat)))
                                      (try simp only [← hji11])
                                      go_roundg k3
                                      case measure => have := HK1.out; have := HK2.out; have := HK3.out; omega
                                      case rel => exact ⟨(Go.bits .andNot .i64 (Go.bits .andNot .i64 x7_3 (wrap64 ((ji13) - 1))) (ji15)), (wrap64 (x8_3 - 1)), (y118), (by first | rfl | (simp; done) | (simp only [← hji13, ← hji15] <;> (first | rfl | simp)) | (simp [*]; done)), (by first | rfl | (simp; done) | (simp [*]; done)), H', ⟨by have := HK1.out; have := HK2.out; have := HK3.out; omega⟩, ⟨by (with_reducible repeat (first | apply Kd.R_alloc | apply Kd.R_drewN | apply Kd.R_drew)); exact HO120.out⟩, ⟨by repeat (first | exact HB.out | (refine BM.i_alloc ?_ _) | (refine BM.i_drewN ?_ _) | (refine BM.i_drew ?_))⟩⟩
                                    · rw [if_neg c25] at H
                                      exact absurd H (by simp)
                                  · rw [if_neg c24] at H
                                    have c24b0 : (t117 == (wrap64 (x8_3 - 1))) = false := beq_eq_false_iff_ne.mpr c24
                                    have c24b1 : (t117 != (wrap64 (x8_3 - 1))) = true := bne_iff_ne.mpr c24
                                    have H' := Aside0.mk H
                                    clear H
                                    have p116 : 0 ≤ (x32_2 : Int) := of_decide_eq_true (by first | (with_reducible assumption) | assumption)
                                    have q116 : x32_2 < (l0.length : Int) := of_decide_eq_true (by first | (with_reducible assumption) | assumption)
                                    obtain ⟨ad116, e116, hx116_0⟩ := Kd.at_int HR0.out x32_2 p116 q116
                                    cases e116
                                    replace hx116_0 := (HB.out.below.cell (World.block_lt_of_cell? w _ hx116_0)).trans hx116_0
                                    replace p116 := eq_true p116
                                    replace q116 := eq_true q116
                                    go_wp2_with (first | (go_at_call 50; (with_reducible refine (visits_shop_pairs.calls k3 _ _ l0 (Go.bits .andNot .i64 (Go.bits .andNot .i64 x7_3 (wrap64 ((ji13) - 1))) (ji15)) t117 _ w.heap.size (BM.memo (w := w) (g := w.heap.size) (M := (fun W => MemoI W w.heap.size (pairsGood l0))) (by repeat (first | exact HB.out | (refine BM.i_alloc ?_ _) | (refine BM.i_drewN ?_ _) | (refine BM.i_drew ?_)))) (tabB HT0.out (BM.below (w := w) (g := w.heap.size) (M := (fun W => MemoI W w.heap.size (pairsGood l0))) (by repeat (first | exact HB.out | (refine BM.i_alloc ?_ _) | (refine BM.i_drewN ?_ _) | (refine BM.i_drew ?_))))) ?side1 ?side2 A23.out).mono ?_); (case side1 => repeat (first | exact (Kd.C_below HR0.out HB.out.below) | (with_reducible refine Kd.C_alloc ?_ _) | (with_reducible refine Kd.C_drewN ?_ _) | (with_reducible refine Kd.C_drew ?_))); (case side2 => exact HC0.out); rintro e w28 ⟨rfl, hb⟩; have n0_ := Aside0.mk (Kd.R_keep (by (with_reducible repeat (first | apply Kd.R_alloc | apply Kd.R_drewN | apply Kd.R_drew)); exact HO_9.out) hb.upd.keep (fun k_ hk_ => hk_)); have n1_ := Aside0.mk (BM.step (w := w) (g := w.heap.size) (M := (fun W => MemoI W w.heap.size (pairsGood l0))) (by repeat (first | exact HB.out | (refine BM.i_alloc ?_ _) | (refine BM.i_drewN ?_ _) | (refine BM.i_drew ?_))) hb.upd hb.memo); clear HO_9; clear HB; have HO_9 := n0_; have HB := n1_; clear n0_ n1_; (try clear hb); (try clear hb2); (try clear hk); (try clear hi)))
                                    repeat (go_quiet (first | (go_at_call 50; (with_reducible refine (visits_shop_pairs.calls k3 _ _ l0 (Go.bits .andNot .i64 (Go.bits .andNot .i64 x7_3 (wrap64 ((ji13) - 1))) (ji15)) t117 _ w.heap.size (BM.memo (w := w) (g := w.heap.size) (M := (fun W => MemoI W w.heap.size (pairsGood l0))) (by repeat (first | exact HB.out | (refine BM.i_alloc ?_ _) | (refine BM.i_drewN ?_ _) | (refine BM.i_drew ?_)))) (tabB HT0.out (BM.below (w := w) (g := w.heap.size) (M := (fun W => MemoI W w.heap.size (pairsGood l0))) (by repeat (first | exact HB.out | (refine BM.i_alloc ?_ _) | (refine BM.i_drewN ?_ _) | (refine BM.i_drew ?_))))) ?side1 ?side2 A23.out).mono ?_); (case side1 => repeat (first | exact (Kd.C_below HR0.out HB.out.below) | (with_reducible refine Kd.C_alloc ?_ _) | (with_reducible refine Kd.C_drewN ?_ _) | (with_reducible refine Kd.C_drew ?_))); (case side2 => exact HC0.out); rintro e w28 ⟨rfl, hb⟩; have n0_ := Aside0.mk (Kd.R_keep (by (with_reducible repeat (first | apply Kd.R_alloc | apply Kd.R_drewN | apply Kd.R_drew)); exact HO_9.out) hb.upd.keep (fun k_ hk_ => hk_)); have n1_ := Aside0.mk (BM.step (w := w) (g := w.heap.size) (M := (fun W => MemoI W w.heap.size (pairsGood l0))) (by repeat (first | exact HB.out | (refine BM.i_alloc ?_ _) | (refine BM.i_drewN ?_ _) | (refine BM.i_drew ?_))) hb.upd hb.memo); clear HO_9; clear HB; have HO_9 := n0_; have HB := n1_; clear n0_ n1_; (try clear hb); (try clear hb2); (try clear hk); (try clear hi))); try go_wp2_with (first | (go_at_call 50; (with_reducible refine (visits_shop_pairs.calls k3 _ _ l0 (Go.bits .andNot .i64 (Go.bits .andNot .i64 x7_3 (wrap64 ((ji13) - 1))) (ji15)) t117 _ w.heap.size (BM.memo (w := w) (g := w.heap.size) (M := (fun W => MemoI W w.heap.size (pairsGood l0))) (by repeat (first | exact HB.out | (refine BM.i_alloc ?_ _) | (refine BM.i_drewN ?_ _) | (refine BM.i_drew ?_)))) (tabB HT0.out (BM.below (w := w) (g := w.heap.size) (M := (fun W => MemoI W w.heap.size (pairsGood l0))) (by repeat (first | exact HB.out | (refine BM.i_alloc ?_ _) | (refine BM.i_drewN ?_ _) | (refine BM.i_drew ?_))))) ?side1 ?side2 A23.out).mono ?_); (case side1 => repeat (first | exact (Kd.C_below HR0.out HB.out.below) | (with_reducible refine Kd.C_alloc ?_ _) | (with_reducible refine Kd.C_drewN ?_ _) | (with_reducible refine Kd.C_drew ?_))); (case side2 => exact HC0.out); rintro e w28 ⟨rfl, hb⟩; have n0_ := Aside0.mk (Kd.R_keep (by (with_reducible repeat (first | apply Kd.R_alloc | apply Kd.R_drewN | apply Kd.R_drew)); exact HO_9.out) hb.upd.keep (fun k_ hk_ => hk_)); have n1_ := Aside0.mk (BM.step (w := w) (g := w.heap.size) (M := (fun W => MemoI W w.heap.size (pairsGood l0))) (by repeat (first | exact HB.out | (refine BM.i_alloc ?_ _) | (refine BM.i_drewN ?_ _) | (refine BM.i_drew ?_))) hb.upd hb.memo); clear HO_9; clear HB; have HO_9 := n0_; have HB := n1_; clear n0_ n1_; (try clear hb); (try clear hb2); (try clear hk); (try clear hi))))
                                    (try simp only [← hji11])
                                    go_roundg k3
                                    case measure => have := HK1.out; have := HK2.out; have := HK3.out; omega
                                    case rel => exact ⟨(x7_3), (x8_3), (x9_3), (wrap64 (x11_3 + 1)), (by first | rfl | (simp; done) | (simp [*]; done)), (by first | rfl | (simp; done) | (simp [*]; done)), (by first | rfl | (simp; done) | (simp [*]; done)), H', ⟨by have := HK1.out; have := HK2.out; have := HK3.out; omega⟩, ⟨by (with_reducible repeat (first | apply Kd.R_alloc | apply Kd.R_drewN | apply Kd.R_drew)); exact HO_9.out⟩, ⟨by repeat (first | exact HB.out | (refine BM.i_alloc ?_ _) | (refine BM.i_drewN ?_ _) | (refine BM.i_drew ?_))⟩⟩
                                · rw [if_neg c22] at H
                                  have c22b0 : ((Go.bits .and .i64 (ji21) 1) == 1) = false := beq_eq_false_iff_ne.mpr c22
                                  have c22b1 : ((Go.bits .and .i64 (ji21) 1) != 1) = true := bne_iff_ne.mpr c22
                                  have H' := Aside0.mk H
                                  clear H
                                  have p116 : 0 ≤ (x32_2 : Int) := of_decide_eq_true (by first | (with_reducible assumption) | assumption)
                                  have q116 : x32_2 < (l0.length : Int) := of_decide_eq_true (by first | (with_reducible assumption) | assumption)
                                  obtain ⟨ad116, e116, hx116_0⟩ := Kd.at_int HR0.out x32_2 p116 q116
                                  cases e116
                                  replace hx116_0 := (HB.out.below.cell (World.block_lt_of_cell? w _ hx116_0)).trans hx116_0
                                  replace p116 := eq_true p116
                                  replace q116 := eq_true q116
                                  go_wp2
                                  repeat (go_quiet (fail); try go_wp2)
                                  (try simp only [← hji11])
                                  go_roundg k3
                                  case measure => have := HK1.out; have := HK2.out; have := HK3.out; omega
                                  case rel => exact ⟨(x7_3), (x8_3), (x9_3), (wrap64 (x11_3 + 1)), (by first | rfl | (simp; done) | (simp [*]; done)), (by first | rfl | (simp; done) | (simp [*]; done)), (by first | rfl | (simp; done) | (simp [*]; done)), H', ⟨by have := HK1.out; have := HK2.out; have := HK3.out; omega⟩, ⟨by (with_reducible repeat (first | apply Kd.R_alloc | apply Kd.R_drewN | apply Kd.R_drew)); exact HO_9.out⟩, ⟨by repeat (first | exact HB.out | (refine BM.i_alloc ?_ _) | (refine BM.i_drewN ?_ _) | (refine BM.i_drew ?_))⟩⟩
                              · rw [if_neg c19] at H
                                exact absurd H (by simp)
                            · rw [if_neg c18] at H
                              have c18b0 : ((Go.bits .and .i64 (ji17) 1) == 1) = false := beq_eq_false_iff_ne.mpr c18
                              have c18b1 : ((Go.bits .and .i64 (ji17) 1) != 1) = true := bne_iff_ne.mpr c18
                              have H' := Aside0.mk H
                              clear H
                              go_wp2
                              repeat (go_quiet (fail); try go_wp2)
                              (try simp only [← hji11])
                              go_roundg k3
                              case measure => have := HK1.out; have := HK2.out; have := HK3.out; omega
                              case rel => exact ⟨(x7_3), (x8_3), (x9_3), (wrap64 (x11_3 + 1)), (by first | rfl | (simp; done) | (simp [*]; done)), (by first | rfl | (simp; done) | (simp [*]; done)), (by first | rfl | (simp; done) | (simp [*]; done)), H', ⟨by have := HK1.out; have := HK2.out; have := HK3.out; omega⟩, ⟨by (with_reducible repeat (first | apply Kd.R_alloc | apply Kd.R_drewN | apply Kd.R_drew)); exact HO_9.out⟩, ⟨by repeat (first | exact HB.out | (refine BM.i_alloc ?_ _) | (refine BM.i_drewN ?_ _) | (refine BM.i_drew ?_))⟩⟩
                          · rw [if_neg c16] at H
                            exact absurd H (by simp)
                        · rw [if_neg c14] at H
                          exact absurd H (by simp)
                      · rw [if_neg c12] at H
                        exact absurd H (by simp)
                    · rw [if_neg c10] at H
                      have c10b0 : decide (x11_3 < (l0.length : Int)) = false := decide_eq_false c10
                      clear c10
                      have H' := Aside0.mk H
                      clear H
                      go_wp2
                      repeat (go_quiet (fail); try go_wp2)
                      (try simp only [← hji11])
                      go_roundg k3
                      case measure => have := HK1.out; have := HK2.out; have := HK3.out; omega
                      case rel => exact ⟨(x7_3), (x8_3), (x9_3), (wrap64 (x32_2 + 1)), (by first | rfl | (simp; done) | (simp [*]; done)), (by first | rfl | (simp; done) | (simp [*]; done)), (by first | rfl | (simp; done) | (simp [*]; done)), H', ⟨by have := HK1.out; have := HK2.out; have := HK3.out; omega⟩, ⟨by (with_reducible repeat (first | apply Kd.R_alloc | apply Kd.R_drewN | apply Kd.R_drew)); exact HO_9.out⟩, ⟨by repeat (first | exact HB.out | (refine BM.i_alloc ?_ _) | (refine BM.i_drewN ?_ _) | (refine BM.i_drew ?_))⟩⟩
              · rw [if_neg c9] at H
                have c9b0 : decide (x32_2 < (l0.length : Int)) = false := decide_eq_false c9
                clear c9
                have H' := Aside0.mk H
                clear H
                go_wp2
                repeat (go_quiet (fail); try go_wp2)
                (try simp only [← hji11])
                go_roundg k2
                case measure => have := HK1.out; have := HK2.out; omega
                case rel => exact ⟨(x7_2), (x8_2), (x9_2), (by first | rfl | (simp; done) | (simp [*]; done)), (by first | rfl | (simp; done) | (simp [*]; done)), H', ⟨by have := HK1.out; have := HK2.out; omega⟩, ⟨by (with_reducible repeat (first | apply Kd.R_alloc | apply Kd.R_drewN | apply Kd.R_drew)); exact HO_9.out⟩, ⟨by repeat (first | exact HB.out | (refine BM.i_alloc ?_ _) | (refine BM.i_drewN ?_ _) | (refine BM.i_drew ?_))⟩⟩
        · rw [if_neg c8] at H
          have c8b0 : decide (0 < x8_1) = false := decide_eq_false c8
          clear c8
          simp only [Option.some.injEq, Prod.mk.injEq] at H
          obtain ⟨rfl, rfl⟩ := H
          go_wp2
          repeat (go_quiet (fail); try go_wp2)
          (try simp only [Exit.noGoto_ret])
          go_ret2
          exact ⟨_, by first | rfl | (simp [errW_none, errW_some] <;> rfl) | (simp [*, errW_none, errW_some] <;> rfl), by (with_reducible repeat (first | apply Kd.R_alloc | apply Kd.R_drewN | apply Kd.R_drew)); exact Kd.R_mono HO_9.out (fun _ _ => trivial), BM.below (w := w) (g := w.heap.size) (M := (fun W => MemoI W w.heap.size (pairsGood l0))) (by repeat (first | exact HB.out | (refine BM.i_alloc ?_ _) | (refine BM.i_drewN ?_ _) | (refine BM.i_drew ?_)))⟩
  · replace c3 := Bool.eq_false_iff.mpr c3
    subst c3
    have H1 : (some (([] : List (S43)), 2)) = some (r1, r2) := by rw [if_neg (show ¬ (false = true) by decide)] at H; exact H
    clear H
    have H := H1
    clear H1
    simp only [Option.some.injEq, Prod.mk.injEq] at H
    obtain ⟨rfl, rfl⟩ := H
    go_enter Tryd.func22, Tryd.ntmps22
    try go_wp2
    go_step3
    go_wp2_with (first | (go_at_call 44; (with_reducible refine (visits_read.calls k _ _ l0 false _ ?side1 ?side2 A2.out).mono ?_); (case side1 => repeat (first | exact HR0.out | (with_reducible refine Kd.C_alloc ?_ _) | (with_reducible refine Kd.C_drewN ?_ _) | (with_reducible refine Kd.C_drew ?_))); (case side2 => exact HC0.out); rintro e w' ⟨⟨v_, rfl, hv_⟩, ⟨nd, rfl⟩⟩; (try (obtain rfl := hv_ rfl)); (try clear hv_); (try first | exact ⟨rfl, _, World.drewN_drewN _ _ _⟩ | exact ⟨rfl, _, Eq.trans (World.drewN_drewN _ _ _) (congrArg (World.drewN _) (Nat.add_assoc _ _ _))⟩)))
    repeat (go_quiet (first | (go_at_call 44; (with_reducible refine (visits_read.calls k _ _ l0 false _ ?side1 ?side2 A2.out).mono ?_); (case side1 => repeat (first | exact HR0.out | (with_reducible refine Kd.C_alloc ?_ _) | (with_reducible refine Kd.C_drewN ?_ _) | (with_reducible refine Kd.C_drew ?_))); (case side2 => exact HC0.out); rintro e w' ⟨⟨v_, rfl, hv_⟩, ⟨nd, rfl⟩⟩; (try (obtain rfl := hv_ rfl)); (try clear hv_); (try first | exact ⟨rfl, _, World.drewN_drewN _ _ _⟩ | exact ⟨rfl, _, Eq.trans (World.drewN_drewN _ _ _) (congrArg (World.drewN _) (Nat.add_assoc _ _ _))⟩))); try go_wp2_with (first | (go_at_call 44; (with_reducible refine (visits_read.calls k _ _ l0 false _ ?side1 ?side2 A2.out).mono ?_); (case side1 => repeat (first | exact HR0.out | (with_reducible refine Kd.C_alloc ?_ _) | (with_reducible refine Kd.C_drewN ?_ _) | (with_reducible refine Kd.C_drew ?_))); (case side2 => exact HC0.out); rintro e w' ⟨⟨v_, rfl, hv_⟩, ⟨nd, rfl⟩⟩; (try (obtain rfl := hv_ rfl)); (try clear hv_); (try first | exact ⟨rfl, _, World.drewN_drewN _ _ _⟩ | exact ⟨rfl, _, Eq.trans (World.drewN_drewN _ _ _) (congrArg (World.drewN _) (Nat.add_assoc _ _ _))⟩))))
    (try simp only [Exit.noGoto_ret])
    go_ret2
    exact ⟨_, by first | rfl | (simp [errW_none, errW_some] <;> rfl) | (simp [*, errW_none, errW_some] <;> rfl), by first | exact Kd.R_nil _ _ _ _ _ | exact Kd.N_nil _ _ _ _ _ | exact Kd.V_nil _ _ _ _ _ | exact Kd.Q_nil _ _ _ _ _ | exact Kd.S_nil _ _ _ _ _, by repeat (first | (with_reducible first | exact HB.out | apply below_alloc | apply pw_below_drewN | apply below_drew1) | exact HB.out)⟩

end Go.Proofs.YtadfcplobidmeaaDoor.Print
