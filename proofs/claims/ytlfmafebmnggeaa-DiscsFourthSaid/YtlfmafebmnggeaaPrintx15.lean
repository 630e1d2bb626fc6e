/- What the functions of the discs compute, printed by this repo's hand printer. -/
import Derived.Test.YtlfmafebmnggeaaShort
import Derived.Test.YtlfmafebmnggeaaPrintx0
import Derived.Test.YtlfmafebmnggeaaPrintx3
import Derived.Test.YtlfmafebmnggeaaPrintx6
import Derived.Test.YtlfmafebmnggeaaPrintx7
import Derived.Test.YtlfmafebmnggeaaPrintx13
import Derived.Test.YtlfmafebmnggeaaPrintx14
namespace Go.Proofs.Ytlfmafebmnggeaa.Print
open Go.RowKit Go.Proofs.YtlfmafebmnggeaaW.PrintWords Go.Proofs.YtlfmafebmnggeaaW.PrintLast Go.Proofs.YtlfmafebmnggeaaW.PrintMore
attribute [local go_sem] max2_int min2_int max_two min_two max_three min_three max_four min_four
set_option maxHeartbeats 8000000 -- slim
set_option maxRecDepth 100000
set_option linter.unusedVariables false
set_option linter.unusedSimpArgs false

/-! ### clochelaw01_DiscsFourth: function 9 -/
def clochelaw01_DiscsFourth.j0 : Nat → Int → Int → Int → Int → Int → Int → Int → Bool → Int → Int → Int → Int → Option (Bool)
 | 0, _, _, _, _, _, _, _, _, _, _, _, _ => none
 | k + 1, x5, x6, x7, x8, x9, x10, x11, x54, x366000, x366001, x366002, x366003 => if x54 = true then (if x11 = 2 then (if x9 = 0 then (if x10 = 0 then ((clochelaw01_alive.f k).bind fun t371 => (some t371)) else (none)) else (none)) else (none)) else ((clocheref01_Turned.f k x366000 x366001 x366002 x366003 x5).bind fun t372 => ((clocheref01_InRange.f t372).bind fun t373 => (if t373 = true then (if x11 = 0 then (if 0 ≤ x5 then (if x5 < 4 then (if x9 = (mn t372 (at4 x366000 x366001 x366002 x366003 x5)) then (if x10 = (mx t372 (at4 x366000 x366001 x366002 x366003 x5)) then (if (wrap64 (x9 + x10)) = (wrap64 (2 * (wrap64 ((wrap64 (x6 + x7)) + x8)))) then ((clochelaw01_alive.f k).bind fun t374 => (some t374)) else (none)) else (none)) else (none)) else (none)) else (none)) else (none)) else (if x11 = 10 then ((clochelaw01_alive.f k).bind fun t375 => (some t375)) else (none)))))
def clochelaw01_DiscsFourth.f (k : Nat) (a0_0 : Int) (a0_1 : Int) (a0_2 : Int) (a0_3 : Int) (a1 : Int) : Option (Bool) := (clocheref01_IsQuad.f k a0_0 a0_1 a0_2 a0_3).bind fun t366 => (if t366 = true then (if 0 ≤ (Int.tmod (wrap64 ((wrap64 (Int.tmod a1 4)) + 1)) 4) then (if (Int.tmod (wrap64 ((wrap64 (Int.tmod a1 4)) + 1)) 4) < 4 then (if 0 ≤ (Int.tmod (wrap64 ((wrap64 (Int.tmod a1 4)) + 2)) 4) then (if (Int.tmod (wrap64 ((wrap64 (Int.tmod a1 4)) + 2)) 4) < 4 then (if 0 ≤ (Int.tmod (wrap64 ((wrap64 (Int.tmod a1 4)) + 3)) 4) then (if (Int.tmod (wrap64 ((wrap64 (Int.tmod a1 4)) + 3)) 4) < 4 then ((discs_Fourth.f k (at4 a0_0 a0_1 a0_2 a0_3 (Int.tmod (wrap64 ((wrap64 (Int.tmod a1 4)) + 1)) 4)) (at4 a0_0 a0_1 a0_2 a0_3 (Int.tmod (wrap64 ((wrap64 (Int.tmod a1 4)) + 2)) 4)) (at4 a0_0 a0_1 a0_2 a0_3 (Int.tmod (wrap64 ((wrap64 (Int.tmod a1 4)) + 3)) 4))).bind fun bt368 => (if (mx (mx (at4 a0_0 a0_1 a0_2 a0_3 (Int.tmod (wrap64 ((wrap64 (Int.tmod a1 4)) + 1)) 4)) (at4 a0_0 a0_1 a0_2 a0_3 (Int.tmod (wrap64 ((wrap64 (Int.tmod a1 4)) + 2)) 4))) (at4 a0_0 a0_1 a0_2 a0_3 (Int.tmod (wrap64 ((wrap64 (Int.tmod a1 4)) + 3)) 4))) > 1048576 then (clochelaw01_DiscsFourth.j0 k (wrap64 (Int.tmod a1 4)) (at4 a0_0 a0_1 a0_2 a0_3 (Int.tmod (wrap64 ((wrap64 (Int.tmod a1 4)) + 1)) 4)) (at4 a0_0 a0_1 a0_2 a0_3 (Int.tmod (wrap64 ((wrap64 (Int.tmod a1 4)) + 2)) 4)) (at4 a0_0 a0_1 a0_2 a0_3 (Int.tmod (wrap64 ((wrap64 (Int.tmod a1 4)) + 3)) 4)) bt368.1 bt368.2.1 bt368.2.2 true a0_0 a0_1 a0_2 a0_3) else (clochelaw01_DiscsFourth.j0 k (wrap64 (Int.tmod a1 4)) (at4 a0_0 a0_1 a0_2 a0_3 (Int.tmod (wrap64 ((wrap64 (Int.tmod a1 4)) + 1)) 4)) (at4 a0_0 a0_1 a0_2 a0_3 (Int.tmod (wrap64 ((wrap64 (Int.tmod a1 4)) + 2)) 4)) (at4 a0_0 a0_1 a0_2 a0_3 (Int.tmod (wrap64 ((wrap64 (Int.tmod a1 4)) + 3)) 4)) bt368.1 bt368.2.1 bt368.2.2 (decide ((mn (mn (at4 a0_0 a0_1 a0_2 a0_3 (Int.tmod (wrap64 ((wrap64 (Int.tmod a1 4)) + 1)) 4)) (at4 a0_0 a0_1 a0_2 a0_3 (Int.tmod (wrap64 ((wrap64 (Int.tmod a1 4)) + 2)) 4))) (at4 a0_0 a0_1 a0_2 a0_3 (Int.tmod (wrap64 ((wrap64 (Int.tmod a1 4)) + 3)) 4))) < (-1048576))) a0_0 a0_1 a0_2 a0_3))) else (none)) else (none)) else (none)) else (none)) else (none)) else (none)) else ((clochelaw01_alive.f k).bind fun t367 => (some t367)))
theorem clochelaw01_DiscsFourth.mono_l : ∀ k, (∀ y0 y1 y2 y3 y4 y5 y6 y7 y8 y9 y10 y11, LeO (clochelaw01_DiscsFourth.j0 k y0 y1 y2 y3 y4 y5 y6 y7 y8 y9 y10 y11) (clochelaw01_DiscsFourth.j0 (k + 1) y0 y1 y2 y3 y4 y5 y6 y7 y8 y9 y10 y11))
 | 0 => fun _ _ _ _ _ _ _ _ _ _ _ _ r h => by simp [clochelaw01_DiscsFourth.j0] at h
 | k + 1 => by
  have ih0 := clochelaw01_DiscsFourth.mono_l k
  ·intro y0 y1 y2 y3 y4 y5 y6 y7 y8 y9 y10 y11
   unfold clochelaw01_DiscsFourth.j0
   repeat' first
   | (with_reducible exact ih0 _ _ _ _ _ _ _ _ _ _ _ _)
   | (with_reducible exact clochelaw01_alive.mono _)
   | (with_reducible exact clocheref01_IsQuad.mono _ _ _ _ _)
   | (with_reducible exact clocheref01_Turned.mono _ _ _ _ _ _)
   | (with_reducible exact discs_Fourth.mono _ _ _ _)
   | (with_reducible exact LeO.refl _)
   | (with_reducible exact LeO.none _)
   | (with_reducible refine LeO.ite ?_ ?_)
   | (with_reducible refine LeO.bind ?_ (fun _ => ?_))
   | exact ih0 _ _ _ _ _ _ _ _ _ _ _ _
   | exact clochelaw01_alive.mono _
   | exact clocheref01_IsQuad.mono _ _ _ _ _
   | exact clocheref01_Turned.mono _ _ _ _ _ _
   | exact discs_Fourth.mono _ _ _ _
   | exact LeO.none _
   | refine LeO.ite ?_ ?_
   | refine LeO.bind ?_ (fun _ => ?_)
theorem clochelaw01_DiscsFourth.mono : ∀ a0 a1 a2 a3 a4 k, LeO (clochelaw01_DiscsFourth.f k a0 a1 a2 a3 a4) (clochelaw01_DiscsFourth.f (k + 1) a0 a1 a2 a3 a4) := by
 intro a0 a1 a2 a3 a4 k
 have ih0 := clochelaw01_DiscsFourth.mono_l k
 unfold clochelaw01_DiscsFourth.f
 repeat' first
   | (with_reducible exact ih0 _ _ _ _ _ _ _ _ _ _ _ _)
   | (with_reducible exact clochelaw01_alive.mono _)
   | (with_reducible exact clocheref01_IsQuad.mono _ _ _ _ _)
   | (with_reducible exact clocheref01_Turned.mono _ _ _ _ _ _)
   | (with_reducible exact discs_Fourth.mono _ _ _ _)
   | (with_reducible exact LeO.refl _)
   | (with_reducible exact LeO.none _)
   | (with_reducible refine LeO.ite ?_ ?_)
   | (with_reducible refine LeO.bind ?_ (fun _ => ?_))
   | exact ih0 _ _ _ _ _ _ _ _ _ _ _ _
   | exact clochelaw01_alive.mono _
   | exact clocheref01_IsQuad.mono _ _ _ _ _
   | exact clocheref01_Turned.mono _ _ _ _ _ _
   | exact discs_Fourth.mono _ _ _ _
   | exact LeO.none _
   | refine LeO.ite ?_ ?_
   | refine LeO.bind ?_ (fun _ => ?_)
theorem clochelaw01_DiscsFourth.calls (k : Nat) (a0_0 : Int) (a0_1 : Int) (a0_2 : Int) (a0_3 : Int) (a1 : Int) (r : Bool) (w : World) (h : clochelaw01_DiscsFourth.f k a0_0 a0_1 a0_2 a0_3 a1 = some r) :
  Calls Try.prog 9 #[.agg #[.int .i64 a0_0, .int .i64 a0_1, .int .i64 a0_2, .int .i64 a0_3], .int .u8 a1] w fun e w' => e = .returned (.bool r) ∧ Below w.heap.size w w' := by
 have hu23 := Try.underlying23
 have HB := Aside0.mk (Below.refl w.heap.size w)
 have H : ((clocheref01_IsQuad.f k a0_0 a0_1 a0_2 a0_3).bind fun t366 => (if t366 = true then (if 0 ≤ (Int.tmod (wrap64 ((wrap64 (Int.tmod a1 4)) + 1)) 4) then (if (Int.tmod (wrap64 ((wrap64 (Int.tmod a1 4)) + 1)) 4) < 4 then (if 0 ≤ (Int.tmod (wrap64 ((wrap64 (Int.tmod a1 4)) + 2)) 4) then (if (Int.tmod (wrap64 ((wrap64 (Int.tmod a1 4)) + 2)) 4) < 4 then (if 0 ≤ (Int.tmod (wrap64 ((wrap64 (Int.tmod a1 4)) + 3)) 4) then (if (Int.tmod (wrap64 ((wrap64 (Int.tmod a1 4)) + 3)) 4) < 4 then ((discs_Fourth.f k (at4 a0_0 a0_1 a0_2 a0_3 (Int.tmod (wrap64 ((wrap64 (Int.tmod a1 4)) + 1)) 4)) (at4 a0_0 a0_1 a0_2 a0_3 (Int.tmod (wrap64 ((wrap64 (Int.tmod a1 4)) + 2)) 4)) (at4 a0_0 a0_1 a0_2 a0_3 (Int.tmod (wrap64 ((wrap64 (Int.tmod a1 4)) + 3)) 4))).bind fun bt368 => (if (mx (mx (at4 a0_0 a0_1 a0_2 a0_3 (Int.tmod (wrap64 ((wrap64 (Int.tmod a1 4)) + 1)) 4)) (at4 a0_0 a0_1 a0_2 a0_3 (Int.tmod (wrap64 ((wrap64 (Int.tmod a1 4)) + 2)) 4))) (at4 a0_0 a0_1 a0_2 a0_3 (Int.tmod (wrap64 ((wrap64 (Int.tmod a1 4)) + 3)) 4))) > 1048576 then (clochelaw01_DiscsFourth.j0 k (wrap64 (Int.tmod a1 4)) (at4 a0_0 a0_1 a0_2 a0_3 (Int.tmod (wrap64 ((wrap64 (Int.tmod a1 4)) + 1)) 4)) (at4 a0_0 a0_1 a0_2 a0_3 (Int.tmod (wrap64 ((wrap64 (Int.tmod a1 4)) + 2)) 4)) (at4 a0_0 a0_1 a0_2 a0_3 (Int.tmod (wrap64 ((wrap64 (Int.tmod a1 4)) + 3)) 4)) bt368.1 bt368.2.1 bt368.2.2 true a0_0 a0_1 a0_2 a0_3) else (clochelaw01_DiscsFourth.j0 k (wrap64 (Int.tmod a1 4)) (at4 a0_0 a0_1 a0_2 a0_3 (Int.tmod (wrap64 ((wrap64 (Int.tmod a1 4)) + 1)) 4)) (at4 a0_0 a0_1 a0_2 a0_3 (Int.tmod (wrap64 ((wrap64 (Int.tmod a1 4)) + 2)) 4)) (at4 a0_0 a0_1 a0_2 a0_3 (Int.tmod (wrap64 ((wrap64 (Int.tmod a1 4)) + 3)) 4)) bt368.1 bt368.2.1 bt368.2.2 (decide ((mn (mn (at4 a0_0 a0_1 a0_2 a0_3 (Int.tmod (wrap64 ((wrap64 (Int.tmod a1 4)) + 1)) 4)) (at4 a0_0 a0_1 a0_2 a0_3 (Int.tmod (wrap64 ((wrap64 (Int.tmod a1 4)) + 2)) 4))) (at4 a0_0 a0_1 a0_2 a0_3 (Int.tmod (wrap64 ((wrap64 (Int.tmod a1 4)) + 3)) 4))) < (-1048576))) a0_0 a0_1 a0_2 a0_3))) else (none)) else (none)) else (none)) else (none)) else (none)) else (none)) else ((clochelaw01_alive.f k).bind fun t367 => (some t367)))) = some r := h
 clear h
 replace H := Option.bind_eq_some_iff.mp H
 obtain ⟨t366, A30, H⟩ := H
 replace H : (if t366 = true then (if 0 ≤ (Int.tmod (wrap64 ((wrap64 (Int.tmod a1 4)) + 1)) 4) then (if (Int.tmod (wrap64 ((wrap64 (Int.tmod a1 4)) + 1)) 4) < 4 then (if 0 ≤ (Int.tmod (wrap64 ((wrap64 (Int.tmod a1 4)) + 2)) 4) then (if (Int.tmod (wrap64 ((wrap64 (Int.tmod a1 4)) + 2)) 4) < 4 then (if 0 ≤ (Int.tmod (wrap64 ((wrap64 (Int.tmod a1 4)) + 3)) 4) then (if (Int.tmod (wrap64 ((wrap64 (Int.tmod a1 4)) + 3)) 4) < 4 then ((discs_Fourth.f k (at4 a0_0 a0_1 a0_2 a0_3 (Int.tmod (wrap64 ((wrap64 (Int.tmod a1 4)) + 1)) 4)) (at4 a0_0 a0_1 a0_2 a0_3 (Int.tmod (wrap64 ((wrap64 (Int.tmod a1 4)) + 2)) 4)) (at4 a0_0 a0_1 a0_2 a0_3 (Int.tmod (wrap64 ((wrap64 (Int.tmod a1 4)) + 3)) 4))).bind fun bt368 => (if (mx (mx (at4 a0_0 a0_1 a0_2 a0_3 (Int.tmod (wrap64 ((wrap64 (Int.tmod a1 4)) + 1)) 4)) (at4 a0_0 a0_1 a0_2 a0_3 (Int.tmod (wrap64 ((wrap64 (Int.tmod a1 4)) + 2)) 4))) (at4 a0_0 a0_1 a0_2 a0_3 (Int.tmod (wrap64 ((wrap64 (Int.tmod a1 4)) + 3)) 4))) > 1048576 then (clochelaw01_DiscsFourth.j0 k (wrap64 (Int.tmod a1 4)) (at4 a0_0 a0_1 a0_2 a0_3 (Int.tmod (wrap64 ((wrap64 (Int.tmod a1 4)) + 1)) 4)) (at4 a0_0 a0_1 a0_2 a0_3 (Int.tmod (wrap64 ((wrap64 (Int.tmod a1 4)) + 2)) 4)) (at4 a0_0 a0_1 a0_2 a0_3 (Int.tmod (wrap64 ((wrap64 (Int.tmod a1 4)) + 3)) 4)) bt368.1 bt368.2.1 bt368.2.2 true a0_0 a0_1 a0_2 a0_3) else (clochelaw01_DiscsFourth.j0 k (wrap64 (Int.tmod a1 4)) (at4 a0_0 a0_1 a0_2 a0_3 (Int.tmod (wrap64 ((wrap64 (Int.tmod a1 4)) + 1)) 4)) (at4 a0_0 a0_1 a0_2 a0_3 (Int.tmod (wrap64 ((wrap64 (Int.tmod a1 4)) + 2)) 4)) (at4 a0_0 a0_1 a0_2 a0_3 (Int.tmod (wrap64 ((wrap64 (Int.tmod a1 4)) + 3)) 4)) bt368.1 bt368.2.1 bt368.2.2 (decide ((mn (mn (at4 a0_0 a0_1 a0_2 a0_3 (Int.tmod (wrap64 ((wrap64 (Int.tmod a1 4)) + 1)) 4)) (at4 a0_0 a0_1 a0_2 a0_3 (Int.tmod (wrap64 ((wrap64 (Int.tmod a1 4)) + 2)) 4))) (at4 a0_0 a0_1 a0_2 a0_3 (Int.tmod (wrap64 ((wrap64 (Int.tmod a1 4)) + 3)) 4))) < (-1048576))) a0_0 a0_1 a0_2 a0_3))) else (none)) else (none)) else (none)) else (none)) else (none)) else (none)) else ((clochelaw01_alive.f k).bind fun t367 => (some t367))) = some r := H
 have A3 := Aside0.mk A30
 clear A30
 by_cases c4 : t366 = true
 ·subst c4
  have H1 : (if 0 ≤ (Int.tmod (wrap64 ((wrap64 (Int.tmod a1 4)) + 1)) 4) then (if (Int.tmod (wrap64 ((wrap64 (Int.tmod a1 4)) + 1)) 4) < 4 then (if 0 ≤ (Int.tmod (wrap64 ((wrap64 (Int.tmod a1 4)) + 2)) 4) then (if (Int.tmod (wrap64 ((wrap64 (Int.tmod a1 4)) + 2)) 4) < 4 then (if 0 ≤ (Int.tmod (wrap64 ((wrap64 (Int.tmod a1 4)) + 3)) 4) then (if (Int.tmod (wrap64 ((wrap64 (Int.tmod a1 4)) + 3)) 4) < 4 then ((discs_Fourth.f k (at4 a0_0 a0_1 a0_2 a0_3 (Int.tmod (wrap64 ((wrap64 (Int.tmod a1 4)) + 1)) 4)) (at4 a0_0 a0_1 a0_2 a0_3 (Int.tmod (wrap64 ((wrap64 (Int.tmod a1 4)) + 2)) 4)) (at4 a0_0 a0_1 a0_2 a0_3 (Int.tmod (wrap64 ((wrap64 (Int.tmod a1 4)) + 3)) 4))).bind fun bt368 => (if (mx (mx (at4 a0_0 a0_1 a0_2 a0_3 (Int.tmod (wrap64 ((wrap64 (Int.tmod a1 4)) + 1)) 4)) (at4 a0_0 a0_1 a0_2 a0_3 (Int.tmod (wrap64 ((wrap64 (Int.tmod a1 4)) + 2)) 4))) (at4 a0_0 a0_1 a0_2 a0_3 (Int.tmod (wrap64 ((wrap64 (Int.tmod a1 4)) + 3)) 4))) > 1048576 then (clochelaw01_DiscsFourth.j0 k (wrap64 (Int.tmod a1 4)) (at4 a0_0 a0_1 a0_2 a0_3 (Int.tmod (wrap64 ((wrap64 (Int.tmod a1 4)) + 1)) 4)) (at4 a0_0 a0_1 a0_2 a0_3 (Int.tmod (wrap64 ((wrap64 (Int.tmod a1 4)) + 2)) 4)) (at4 a0_0 a0_1 a0_2 a0_3 (Int.tmod (wrap64 ((wrap64 (Int.tmod a1 4)) + 3)) 4)) bt368.1 bt368.2.1 bt368.2.2 true a0_0 a0_1 a0_2 a0_3) else (clochelaw01_DiscsFourth.j0 k (wrap64 (Int.tmod a1 4)) (at4 a0_0 a0_1 a0_2 a0_3 (Int.tmod (wrap64 ((wrap64 (Int.tmod a1 4)) + 1)) 4)) (at4 a0_0 a0_1 a0_2 a0_3 (Int.tmod (wrap64 ((wrap64 (Int.tmod a1 4)) + 2)) 4)) (at4 a0_0 a0_1 a0_2 a0_3 (Int.tmod (wrap64 ((wrap64 (Int.tmod a1 4)) + 3)) 4)) bt368.1 bt368.2.1 bt368.2.2 (decide ((mn (mn (at4 a0_0 a0_1 a0_2 a0_3 (Int.tmod (wrap64 ((wrap64 (Int.tmod a1 4)) + 1)) 4)) (at4 a0_0 a0_1 a0_2 a0_3 (Int.tmod (wrap64 ((wrap64 (Int.tmod a1 4)) + 2)) 4))) (at4 a0_0 a0_1 a0_2 a0_3 (Int.tmod (wrap64 ((wrap64 (Int.tmod a1 4)) + 3)) 4))) < (-1048576))) a0_0 a0_1 a0_2 a0_3))) else (none)) else (none)) else (none)) else (none)) else (none)) else (none)) = some r := by rw [if_pos rfl] at H; exact H
  clear H
  have H := H1
  clear H1
  obtain ⟨ji5, hji5⟩ : ∃ j_ : Int, (Int.tmod (wrap64 ((wrap64 (Int.tmod a1 4)) + 1)) 4) = j_ := ⟨_, rfl⟩
  replace H : (if 0 ≤ (ji5) then (if (ji5) < 4 then (if 0 ≤ (Int.tmod (wrap64 ((wrap64 (Int.tmod a1 4)) + 2)) 4) then (if (Int.tmod (wrap64 ((wrap64 (Int.tmod a1 4)) + 2)) 4) < 4 then (if 0 ≤ (Int.tmod (wrap64 ((wrap64 (Int.tmod a1 4)) + 3)) 4) then (if (Int.tmod (wrap64 ((wrap64 (Int.tmod a1 4)) + 3)) 4) < 4 then ((discs_Fourth.f k (at4 a0_0 a0_1 a0_2 a0_3 (ji5)) (at4 a0_0 a0_1 a0_2 a0_3 (Int.tmod (wrap64 ((wrap64 (Int.tmod a1 4)) + 2)) 4)) (at4 a0_0 a0_1 a0_2 a0_3 (Int.tmod (wrap64 ((wrap64 (Int.tmod a1 4)) + 3)) 4))).bind fun bt368 => (if (mx (mx (at4 a0_0 a0_1 a0_2 a0_3 (ji5)) (at4 a0_0 a0_1 a0_2 a0_3 (Int.tmod (wrap64 ((wrap64 (Int.tmod a1 4)) + 2)) 4))) (at4 a0_0 a0_1 a0_2 a0_3 (Int.tmod (wrap64 ((wrap64 (Int.tmod a1 4)) + 3)) 4))) > 1048576 then (clochelaw01_DiscsFourth.j0 k (wrap64 (Int.tmod a1 4)) (at4 a0_0 a0_1 a0_2 a0_3 (ji5)) (at4 a0_0 a0_1 a0_2 a0_3 (Int.tmod (wrap64 ((wrap64 (Int.tmod a1 4)) + 2)) 4)) (at4 a0_0 a0_1 a0_2 a0_3 (Int.tmod (wrap64 ((wrap64 (Int.tmod a1 4)) + 3)) 4)) bt368.1 bt368.2.1 bt368.2.2 true a0_0 a0_1 a0_2 a0_3) else (clochelaw01_DiscsFourth.j0 k (wrap64 (Int.tmod a1 4)) (at4 a0_0 a0_1 a0_2 a0_3 (ji5)) (at4 a0_0 a0_1 a0_2 a0_3 (Int.tmod (wrap64 ((wrap64 (Int.tmod a1 4)) + 2)) 4)) (at4 a0_0 a0_1 a0_2 a0_3 (Int.tmod (wrap64 ((wrap64 (Int.tmod a1 4)) + 3)) 4)) bt368.1 bt368.2.1 bt368.2.2 (decide ((mn (mn (at4 a0_0 a0_1 a0_2 a0_3 (ji5)) (at4 a0_0 a0_1 a0_2 a0_3 (Int.tmod (wrap64 ((wrap64 (Int.tmod a1 4)) + 2)) 4))) (at4 a0_0 a0_1 a0_2 a0_3 (Int.tmod (wrap64 ((wrap64 (Int.tmod a1 4)) + 3)) 4))) < (-1048576))) a0_0 a0_1 a0_2 a0_3))) else (none)) else (none)) else (none)) else (none)) else (none)) else (none)) = some r := by first | (rw [hji5] at H; exact H) | (simp only [hji5] at H ⊢; exact H)
  (try rw [hji5] at A3)
  by_cases c6 : 0 ≤ (ji5)
  ·rw [if_pos c6] at H
   have c6b0 : decide (0 ≤ (ji5)) = true := decide_eq_true c6
   clear c6
   by_cases c7 : (ji5) < 4
   ·rw [if_pos c7] at H
    have c7b0 : decide ((ji5) < 4) = true := decide_eq_true c7
    clear c7
    obtain ⟨ji8, hji8⟩ : ∃ j_ : Int, (Int.tmod (wrap64 ((wrap64 (Int.tmod a1 4)) + 2)) 4) = j_ := ⟨_, rfl⟩
    replace H : (if 0 ≤ (ji8) then (if (ji8) < 4 then (if 0 ≤ (Int.tmod (wrap64 ((wrap64 (Int.tmod a1 4)) + 3)) 4) then (if (Int.tmod (wrap64 ((wrap64 (Int.tmod a1 4)) + 3)) 4) < 4 then ((discs_Fourth.f k (at4 a0_0 a0_1 a0_2 a0_3 (ji5)) (at4 a0_0 a0_1 a0_2 a0_3 (ji8)) (at4 a0_0 a0_1 a0_2 a0_3 (Int.tmod (wrap64 ((wrap64 (Int.tmod a1 4)) + 3)) 4))).bind fun bt368 => (if (mx (mx (at4 a0_0 a0_1 a0_2 a0_3 (ji5)) (at4 a0_0 a0_1 a0_2 a0_3 (ji8))) (at4 a0_0 a0_1 a0_2 a0_3 (Int.tmod (wrap64 ((wrap64 (Int.tmod a1 4)) + 3)) 4))) > 1048576 then (clochelaw01_DiscsFourth.j0 k (wrap64 (Int.tmod a1 4)) (at4 a0_0 a0_1 a0_2 a0_3 (ji5)) (at4 a0_0 a0_1 a0_2 a0_3 (ji8)) (at4 a0_0 a0_1 a0_2 a0_3 (Int.tmod (wrap64 ((wrap64 (Int.tmod a1 4)) + 3)) 4)) bt368.1 bt368.2.1 bt368.2.2 true a0_0 a0_1 a0_2 a0_3) else (clochelaw01_DiscsFourth.j0 k (wrap64 (Int.tmod a1 4)) (at4 a0_0 a0_1 a0_2 a0_3 (ji5)) (at4 a0_0 a0_1 a0_2 a0_3 (ji8)) (at4 a0_0 a0_1 a0_2 a0_3 (Int.tmod (wrap64 ((wrap64 (Int.tmod a1 4)) + 3)) 4)) bt368.1 bt368.2.1 bt368.2.2 (decide ((mn (mn (at4 a0_0 a0_1 a0_2 a0_3 (ji5)) (at4 a0_0 a0_1 a0_2 a0_3 (ji8))) (at4 a0_0 a0_1 a0_2 a0_3 (Int.tmod (wrap64 ((wrap64 (Int.tmod a1 4)) + 3)) 4))) < (-1048576))) a0_0 a0_1 a0_2 a0_3))) else (none)) else (none)) else (none)) else (none)) = some r := by first | (rw [hji8] at H; exact H) | (simp only [hji8] at H ⊢; exact H)
    (try rw [hji8] at A3)
    by_cases c9 : 0 ≤ (ji8)
    ·rw [if_pos c9] at H
     have c9b0 : decide (0 ≤ (ji8)) = true := decide_eq_true c9
     clear c9
     by_cases c10 : (ji8) < 4
     ·rw [if_pos c10] at H
      have c10b0 : decide ((ji8) < 4) = true := decide_eq_true c10
      clear c10
      obtain ⟨ji11, hji11⟩ : ∃ j_ : Int, (Int.tmod (wrap64 ((wrap64 (Int.tmod a1 4)) + 3)) 4) = j_ := ⟨_, rfl⟩
      replace H : (if 0 ≤ (ji11) then (if (ji11) < 4 then ((discs_Fourth.f k (at4 a0_0 a0_1 a0_2 a0_3 (ji5)) (at4 a0_0 a0_1 a0_2 a0_3 (ji8)) (at4 a0_0 a0_1 a0_2 a0_3 (ji11))).bind fun bt368 => (if (mx (mx (at4 a0_0 a0_1 a0_2 a0_3 (ji5)) (at4 a0_0 a0_1 a0_2 a0_3 (ji8))) (at4 a0_0 a0_1 a0_2 a0_3 (ji11))) > 1048576 then (clochelaw01_DiscsFourth.j0 k (wrap64 (Int.tmod a1 4)) (at4 a0_0 a0_1 a0_2 a0_3 (ji5)) (at4 a0_0 a0_1 a0_2 a0_3 (ji8)) (at4 a0_0 a0_1 a0_2 a0_3 (ji11)) bt368.1 bt368.2.1 bt368.2.2 true a0_0 a0_1 a0_2 a0_3) else (clochelaw01_DiscsFourth.j0 k (wrap64 (Int.tmod a1 4)) (at4 a0_0 a0_1 a0_2 a0_3 (ji5)) (at4 a0_0 a0_1 a0_2 a0_3 (ji8)) (at4 a0_0 a0_1 a0_2 a0_3 (ji11)) bt368.1 bt368.2.1 bt368.2.2 (decide ((mn (mn (at4 a0_0 a0_1 a0_2 a0_3 (ji5)) (at4 a0_0 a0_1 a0_2 a0_3 (ji8))) (at4 a0_0 a0_1 a0_2 a0_3 (ji11))) < (-1048576))) a0_0 a0_1 a0_2 a0_3))) else (none)) else (none)) = some r := by first | (rw [hji11] at H; exact H) | (simp only [hji11] at H ⊢; exact H)
      (try rw [hji11] at A3)
      by_cases c12 : 0 ≤ (ji11)
      ·rw [if_pos c12] at H
       have c12b0 : decide (0 ≤ (ji11)) = true := decide_eq_true c12
       clear c12
       by_cases c13 : (ji11) < 4
       ·rw [if_pos c13] at H
        have c13b0 : decide ((ji11) < 4) = true := decide_eq_true c13
        clear c13
        replace H := Option.bind_eq_some_iff.mp H
        obtain ⟨⟨t368, t369, t370⟩, A140, H⟩ := H
        replace H : (if (mx (mx (at4 a0_0 a0_1 a0_2 a0_3 (ji5)) (at4 a0_0 a0_1 a0_2 a0_3 (ji8))) (at4 a0_0 a0_1 a0_2 a0_3 (ji11))) > 1048576 then (clochelaw01_DiscsFourth.j0 k (wrap64 (Int.tmod a1 4)) (at4 a0_0 a0_1 a0_2 a0_3 (ji5)) (at4 a0_0 a0_1 a0_2 a0_3 (ji8)) (at4 a0_0 a0_1 a0_2 a0_3 (ji11)) t368 t369 t370 true a0_0 a0_1 a0_2 a0_3) else (clochelaw01_DiscsFourth.j0 k (wrap64 (Int.tmod a1 4)) (at4 a0_0 a0_1 a0_2 a0_3 (ji5)) (at4 a0_0 a0_1 a0_2 a0_3 (ji8)) (at4 a0_0 a0_1 a0_2 a0_3 (ji11)) t368 t369 t370 (decide ((mn (mn (at4 a0_0 a0_1 a0_2 a0_3 (ji5)) (at4 a0_0 a0_1 a0_2 a0_3 (ji8))) (at4 a0_0 a0_1 a0_2 a0_3 (ji11))) < (-1048576))) a0_0 a0_1 a0_2 a0_3)) = some r := H
        have A14 := Aside0.mk A140
        clear A140
        have HC15 := Aside0.mk H
        clear H
        go_enter Try.func9, Try.ntmps9
        go_upto_region 6 with (first | ((with_reducible refine gate_dst (N := 2) rfl ?_); (try (refine gate_guard (by rfl) ?_; dsimp only)); refine box_event ?hg (N := 2) ?hd (cs := #[.int .i64 a0_0, .int .i64 a0_1, .int .i64 a0_2, .int .i64 a0_3]) (t := 23) ?hr ?_; (case hd => rfl); (case hg => rfl); (case hr => exact gs_); intro gb365 hg w16 hbox hb; have n0_ := Aside0.mk (below_step (lw_ HB.out) hb); have n1_ := Aside0.mk (hbox); have n2_ := Aside0.mk ((by rw [hg]; exact (below_size (lw_ HB.out)) : w.heap.size ≤ gb365)); have n3_ := Aside0.mk ((by rw [hg]; exact (below_size (lw_ HB.out)) : w.heap.size ≤ gb365)); clear HB; have HB := n0_; have BK365 := n1_; have GW365 := n2_; have GE365 := n3_; clear n0_ n1_ n2_ n3_; clear hb hbox hg; have hcz17_0 : w16.cell? ⟨gb365, 0, none⟩ = some (.int .i64 a0_0) := (blk_cell BK365.out 0).trans rfl; have hcz17_1 : w16.cell? ⟨gb365, 1, none⟩ = some (.int .i64 a0_1) := (blk_cell BK365.out 1).trans rfl; have hcz17_2 : w16.cell? ⟨gb365, 2, none⟩ = some (.int .i64 a0_2) := (blk_cell BK365.out 2).trans rfl; have hcz17_3 : w16.cell? ⟨gb365, 3, none⟩ = some (.int .i64 a0_3) := (blk_cell BK365.out 3).trans rfl; have hfz17_0 := blk_frozen BK365.out 0; have hfz17_1 := blk_frozen BK365.out 1; have hfz17_2 := blk_frozen BK365.out 2; have hfz17_3 := blk_frozen BK365.out 3) | (go_at_call 27; (with_reducible refine (clocheref01_IsQuad.calls k a0_0 a0_1 a0_2 a0_3 true _ A3.out).mono ?_); rintro e w18 ⟨rfl, hb⟩; have n0_ := Aside0.mk (blk_below (g := gb365) (o := .cells #[.int .i64 a0_0, .int .i64 a0_1, .int .i64 a0_2, .int .i64 a0_3] 23 (0, 0)) (by refine bs_ ?_; exact BK365.out) hb); have n1_ := Aside0.mk (below_step (by repeat (first | (with_reducible first | exact HB.out | apply below_alloc | apply pw_below_drewN | apply below_drew1 | refine below_set ?_ GE365.out) | exact HB.out)) hb); clear BK365; clear HB; have BK365 := n0_; have HB := n1_; clear n0_ n1_; (try clear hb); (try clear hb2); (try clear hk); (try clear hi); have hcz20_0 : w18.cell? ⟨gb365, 0, none⟩ = some (.int .i64 a0_0) := (blk_cell BK365.out 0).trans rfl; have hcz20_1 : w18.cell? ⟨gb365, 1, none⟩ = some (.int .i64 a0_1) := (blk_cell BK365.out 1).trans rfl; have hcz20_2 : w18.cell? ⟨gb365, 2, none⟩ = some (.int .i64 a0_2) := (blk_cell BK365.out 2).trans rfl; have hcz20_3 : w18.cell? ⟨gb365, 3, none⟩ = some (.int .i64 a0_3) := (blk_cell BK365.out 3).trans rfl; have hfz20_0 := blk_frozen BK365.out 0; have hfz20_1 := blk_frozen BK365.out 1; have hfz20_2 := blk_frozen BK365.out 2; have hfz20_3 := blk_frozen BK365.out 3; have pdy19 : 0 ≤ ((ji5) : Int) := of_decide_eq_true as_; have qdy19 : ((ji5) : Int) < 4 := of_decide_eq_true as_; replace pdy19 := eq_true pdy19; replace qdy19 := eq_true qdy19; have hxdy19 : w18.cell? ⟨gb365, ((ji5) : Int).toNat, none⟩ = some (.int .i64 (at4 a0_0 a0_1 a0_2 a0_3 (ji5))) := blk_at4 BK365.out (of_eq_true pdy19) (of_eq_true qdy19); have hfdy19 := blk_frozen BK365.out ((ji5) : Int).toNat; have pdy21 : 0 ≤ ((ji8) : Int) := of_decide_eq_true as_; have qdy21 : ((ji8) : Int) < 4 := of_decide_eq_true as_; replace pdy21 := eq_true pdy21; replace qdy21 := eq_true qdy21; have hxdy21 : w18.cell? ⟨gb365, ((ji8) : Int).toNat, none⟩ = some (.int .i64 (at4 a0_0 a0_1 a0_2 a0_3 (ji8))) := blk_at4 BK365.out (of_eq_true pdy21) (of_eq_true qdy21); have hfdy21 := blk_frozen BK365.out ((ji8) : Int).toNat; have pdy22 : 0 ≤ ((ji11) : Int) := of_decide_eq_true as_; have qdy22 : ((ji11) : Int) < 4 := of_decide_eq_true as_; replace pdy22 := eq_true pdy22; replace qdy22 := eq_true qdy22; have hxdy22 : w18.cell? ⟨gb365, ((ji11) : Int).toNat, none⟩ = some (.int .i64 (at4 a0_0 a0_1 a0_2 a0_3 (ji11))) := blk_at4 BK365.out (of_eq_true pdy22) (of_eq_true qdy22); have hfdy22 := blk_frozen BK365.out ((ji11) : Int).toNat) | (go_at_call 17; (with_reducible refine (discs_Fourth.calls k (at4 a0_0 a0_1 a0_2 a0_3 (ji5)) (at4 a0_0 a0_1 a0_2 a0_3 (ji8)) (at4 a0_0 a0_1 a0_2 a0_3 (ji11)) t368 t369 t370 _ A14.out).mono ?_); rintro e w23 ⟨rfl, hb⟩; have n0_ := Aside0.mk (blk_below (g := gb365) (o := .cells #[.int .i64 a0_0, .int .i64 a0_1, .int .i64 a0_2, .int .i64 a0_3] 23 (0, 0)) (by refine bs_ ?_; exact BK365.out) hb); have n1_ := Aside0.mk (below_step (by repeat (first | (with_reducible first | exact HB.out | apply below_alloc | apply pw_below_drewN | apply below_drew1 | refine below_set ?_ GE365.out) | exact HB.out)) hb); clear BK365; clear HB; have BK365 := n0_; have HB := n1_; clear n0_ n1_; (try clear hb); (try clear hb2); (try clear hk); (try clear hi)))
        repeat (go_quiet (first | ((with_reducible refine gate_dst (N := 2) rfl ?_); (try (refine gate_guard (by rfl) ?_; dsimp only)); refine box_event ?hg (N := 2) ?hd (cs := #[.int .i64 a0_0, .int .i64 a0_1, .int .i64 a0_2, .int .i64 a0_3]) (t := 23) ?hr ?_; (case hd => rfl); (case hg => rfl); (case hr => exact gs_); intro gb365 hg w16 hbox hb; have n0_ := Aside0.mk (below_step (lw_ HB.out) hb); have n1_ := Aside0.mk (hbox); have n2_ := Aside0.mk ((by rw [hg]; exact (below_size (lw_ HB.out)) : w.heap.size ≤ gb365)); have n3_ := Aside0.mk ((by rw [hg]; exact (below_size (lw_ HB.out)) : w.heap.size ≤ gb365)); clear HB; have HB := n0_; have BK365 := n1_; have GW365 := n2_; have GE365 := n3_; clear n0_ n1_ n2_ n3_; clear hb hbox hg; have hcz17_0 : w16.cell? ⟨gb365, 0, none⟩ = some (.int .i64 a0_0) := (blk_cell BK365.out 0).trans rfl; have hcz17_1 : w16.cell? ⟨gb365, 1, none⟩ = some (.int .i64 a0_1) := (blk_cell BK365.out 1).trans rfl; have hcz17_2 : w16.cell? ⟨gb365, 2, none⟩ = some (.int .i64 a0_2) := (blk_cell BK365.out 2).trans rfl; have hcz17_3 : w16.cell? ⟨gb365, 3, none⟩ = some (.int .i64 a0_3) := (blk_cell BK365.out 3).trans rfl; have hfz17_0 := blk_frozen BK365.out 0; have hfz17_1 := blk_frozen BK365.out 1; have hfz17_2 := blk_frozen BK365.out 2; have hfz17_3 := blk_frozen BK365.out 3) | (go_at_call 27; (with_reducible refine (clocheref01_IsQuad.calls k a0_0 a0_1 a0_2 a0_3 true _ A3.out).mono ?_); rintro e w18 ⟨rfl, hb⟩; have n0_ := Aside0.mk (blk_below (g := gb365) (o := .cells #[.int .i64 a0_0, .int .i64 a0_1, .int .i64 a0_2, .int .i64 a0_3] 23 (0, 0)) (by refine bs_ ?_; exact BK365.out) hb); have n1_ := Aside0.mk (below_step (by repeat (first | (with_reducible first | exact HB.out | apply below_alloc | apply pw_below_drewN | apply below_drew1 | refine below_set ?_ GE365.out) | exact HB.out)) hb); clear BK365; clear HB; have BK365 := n0_; have HB := n1_; clear n0_ n1_; (try clear hb); (try clear hb2); (try clear hk); (try clear hi); have hcz20_0 : w18.cell? ⟨gb365, 0, none⟩ = some (.int .i64 a0_0) := (blk_cell BK365.out 0).trans rfl; have hcz20_1 : w18.cell? ⟨gb365, 1, none⟩ = some (.int .i64 a0_1) := (blk_cell BK365.out 1).trans rfl; have hcz20_2 : w18.cell? ⟨gb365, 2, none⟩ = some (.int .i64 a0_2) := (blk_cell BK365.out 2).trans rfl; have hcz20_3 : w18.cell? ⟨gb365, 3, none⟩ = some (.int .i64 a0_3) := (blk_cell BK365.out 3).trans rfl; have hfz20_0 := blk_frozen BK365.out 0; have hfz20_1 := blk_frozen BK365.out 1; have hfz20_2 := blk_frozen BK365.out 2; have hfz20_3 := blk_frozen BK365.out 3; have pdy19 : 0 ≤ ((ji5) : Int) := of_decide_eq_true as_; have qdy19 : ((ji5) : Int) < 4 := of_decide_eq_true as_; replace pdy19 := eq_true pdy19; replace qdy19 := eq_true qdy19; have hxdy19 : w18.cell? ⟨gb365, ((ji5) : Int).toNat, none⟩ = some (.int .i64 (at4 a0_0 a0_1 a0_2 a0_3 (ji5))) := blk_at4 BK365.out (of_eq_true pdy19) (of_eq_true qdy19); have hfdy19 := blk_frozen BK365.out ((ji5) : Int).toNat; have pdy21 : 0 ≤ ((ji8) : Int) := of_decide_eq_true as_; have qdy21 : ((ji8) : Int) < 4 := of_decide_eq_true as_; replace pdy21 := eq_true pdy21; replace qdy21 := eq_true qdy21; have hxdy21 : w18.cell? ⟨gb365, ((ji8) : Int).toNat, none⟩ = some (.int .i64 (at4 a0_0 a0_1 a0_2 a0_3 (ji8))) := blk_at4 BK365.out (of_eq_true pdy21) (of_eq_true qdy21); have hfdy21 := blk_frozen BK365.out ((ji8) : Int).toNat; have pdy22 : 0 ≤ ((ji11) : Int) := of_decide_eq_true as_; have qdy22 : ((ji11) : Int) < 4 := of_decide_eq_true as_; replace pdy22 := eq_true pdy22; replace qdy22 := eq_true qdy22; have hxdy22 : w18.cell? ⟨gb365, ((ji11) : Int).toNat, none⟩ = some (.int .i64 (at4 a0_0 a0_1 a0_2 a0_3 (ji11))) := blk_at4 BK365.out (of_eq_true pdy22) (of_eq_true qdy22); have hfdy22 := blk_frozen BK365.out ((ji11) : Int).toNat) | (go_at_call 17; (with_reducible refine (discs_Fourth.calls k (at4 a0_0 a0_1 a0_2 a0_3 (ji5)) (at4 a0_0 a0_1 a0_2 a0_3 (ji8)) (at4 a0_0 a0_1 a0_2 a0_3 (ji11)) t368 t369 t370 _ A14.out).mono ?_); rintro e w23 ⟨rfl, hb⟩; have n0_ := Aside0.mk (blk_below (g := gb365) (o := .cells #[.int .i64 a0_0, .int .i64 a0_1, .int .i64 a0_2, .int .i64 a0_3] 23 (0, 0)) (by refine bs_ ?_; exact BK365.out) hb); have n1_ := Aside0.mk (below_step (by repeat (first | (with_reducible first | exact HB.out | apply below_alloc | apply pw_below_drewN | apply below_drew1 | refine below_set ?_ GE365.out) | exact HB.out)) hb); clear BK365; clear HB; have BK365 := n0_; have HB := n1_; clear n0_ n1_; (try clear hb); (try clear hb2); (try clear hk); (try clear hi))); go_upto_region 6 with (first | ((with_reducible refine gate_dst (N := 2) rfl ?_); (try (refine gate_guard (by rfl) ?_; dsimp only)); refine box_event ?hg (N := 2) ?hd (cs := #[.int .i64 a0_0, .int .i64 a0_1, .int .i64 a0_2, .int .i64 a0_3]) (t := 23) ?hr ?_; (case hd => rfl); (case hg => rfl); (case hr => exact gs_); intro gb365 hg w16 hbox hb; have n0_ := Aside0.mk (below_step (lw_ HB.out) hb); have n1_ := Aside0.mk (hbox); have n2_ := Aside0.mk ((by rw [hg]; exact (below_size (lw_ HB.out)) : w.heap.size ≤ gb365)); have n3_ := Aside0.mk ((by rw [hg]; exact (below_size (lw_ HB.out)) : w.heap.size ≤ gb365)); clear HB; have HB := n0_; have BK365 := n1_; have GW365 := n2_; have GE365 := n3_; clear n0_ n1_ n2_ n3_; clear hb hbox hg; have hcz17_0 : w16.cell? ⟨gb365, 0, none⟩ = some (.int .i64 a0_0) := (blk_cell BK365.out 0).trans rfl; have hcz17_1 : w16.cell? ⟨gb365, 1, none⟩ = some (.int .i64 a0_1) := (blk_cell BK365.out 1).trans rfl; have hcz17_2 : w16.cell? ⟨gb365, 2, none⟩ = some (.int .i64 a0_2) := (blk_cell BK365.out 2).trans rfl; have hcz17_3 : w16.cell? ⟨gb365, 3, none⟩ = some (.int .i64 a0_3) := (blk_cell BK365.out 3).trans rfl; have hfz17_0 := blk_frozen BK365.out 0; have hfz17_1 := blk_frozen BK365.out 1; have hfz17_2 := blk_frozen BK365.out 2; have hfz17_3 := blk_frozen BK365.out 3) | (go_at_call 27; (with_reducible refine (clocheref01_IsQuad.calls k a0_0 a0_1 a0_2 a0_3 true _ A3.out).mono ?_); rintro e w18 ⟨rfl, hb⟩; have n0_ := Aside0.mk (blk_below (g := gb365) (o := .cells #[.int .i64 a0_0, .int .i64 a0_1, .int .i64 a0_2, .int .i64 a0_3] 23 (0, 0)) (by refine bs_ ?_; exact BK365.out) hb); have n1_ := Aside0.mk (below_step (by repeat (first | (with_reducible first | exact HB.out | apply below_alloc | apply pw_below_drewN | apply below_drew1 | refine below_set ?_ GE365.out) | exact HB.out)) hb); clear BK365; clear HB; have BK365 := n0_; have HB := n1_; clear n0_ n1_; (try clear hb); (try clear hb2); (try clear hk); (try clear hi); have hcz20_0 : w18.cell? ⟨gb365, 0, none⟩ = some (.int .i64 a0_0) := (blk_cell BK365.out 0).trans rfl; have hcz20_1 : w18.cell? ⟨gb365, 1, none⟩ = some (.int .i64 a0_1) := (blk_cell BK365.out 1).trans rfl; have hcz20_2 : w18.cell? ⟨gb365, 2, none⟩ = some (.int .i64 a0_2) := (blk_cell BK365.out 2).trans rfl; have hcz20_3 : w18.cell? ⟨gb365, 3, none⟩ = some (.int .i64 a0_3) := (blk_cell BK365.out 3).trans rfl; have hfz20_0 := blk_frozen BK365.out 0; have hfz20_1 := blk_frozen BK365.out 1; have hfz20_2 := blk_frozen BK365.out 2; have hfz20_3 := blk_frozen BK365.out 3; have pdy19 : 0 ≤ ((ji5) : Int) := of_decide_eq_true as_; have qdy19 : ((ji5) : Int) < 4 := of_decide_eq_true as_; replace pdy19 := eq_true pdy19; replace qdy19 := eq_true qdy19; have hxdy19 : w18.cell? ⟨gb365, ((ji5) : Int).toNat, none⟩ = some (.int .i64 (at4 a0_0 a0_1 a0_2 a0_3 (ji5))) := blk_at4 BK365.out (of_eq_true pdy19) (of_eq_true qdy19); have hfdy19 := blk_frozen BK365.out ((ji5) : Int).toNat; have pdy21 : 0 ≤ ((ji8) : Int) := of_decide_eq_true as_; have qdy21 : ((ji8) : Int) < 4 := of_decide_eq_true as_; replace pdy21 := eq_true pdy21; replace qdy21 := eq_true qdy21; have hxdy21 : w18.cell? ⟨gb365, ((ji8) : Int).toNat, none⟩ = some (.int .i64 (at4 a0_0 a0_1 a0_2 a0_3 (ji8))) := blk_at4 BK365.out (of_eq_true pdy21) (of_eq_true qdy21); have hfdy21 := blk_frozen BK365.out ((ji8) : Int).toNat; have pdy22 : 0 ≤ ((ji11) : Int) := of_decide_eq_true as_; have qdy22 : ((ji11) : Int) < 4 := of_decide_eq_true as_; replace pdy22 := eq_true pdy22; replace qdy22 := eq_true qdy22; have hxdy22 : w18.cell? ⟨gb365, ((ji11) : Int).toNat, none⟩ = some (.int .i64 (at4 a0_0 a0_1 a0_2 a0_3 (ji11))) := blk_at4 BK365.out (of_eq_true pdy22) (of_eq_true qdy22); have hfdy22 := blk_frozen BK365.out ((ji11) : Int).toNat) | (go_at_call 17; (with_reducible refine (discs_Fourth.calls k (at4 a0_0 a0_1 a0_2 a0_3 (ji5)) (at4 a0_0 a0_1 a0_2 a0_3 (ji8)) (at4 a0_0 a0_1 a0_2 a0_3 (ji11)) t368 t369 t370 _ A14.out).mono ?_); rintro e w23 ⟨rfl, hb⟩; have n0_ := Aside0.mk (blk_below (g := gb365) (o := .cells #[.int .i64 a0_0, .int .i64 a0_1, .int .i64 a0_2, .int .i64 a0_3] 23 (0, 0)) (by refine bs_ ?_; exact BK365.out) hb); have n1_ := Aside0.mk (below_step (by repeat (first | (with_reducible first | exact HB.out | apply below_alloc | apply pw_below_drewN | apply below_drew1 | refine below_set ?_ GE365.out) | exact HB.out)) hb); clear BK365; clear HB; have BK365 := n0_; have HB := n1_; clear n0_ n1_; (try clear hb); (try clear hb2); (try clear hk); (try clear hi))))
        (try simp only [Act.put, List.setIfInBounds_toArray, List.set_cons_zero, List.set_cons_succ])
        go_cut [54] (fun v54 wc => ∃ (kq : Nat) (x54_14 : Bool), v54 = .bool x54_14 ∧ Aside0 (clochelaw01_DiscsFourth.j0 kq (wrap64 (Int.tmod a1 4)) (at4 a0_0 a0_1 a0_2 a0_3 (ji5)) (at4 a0_0 a0_1 a0_2 a0_3 (ji8)) (at4 a0_0 a0_1 a0_2 a0_3 (ji11)) t368 t369 t370 x54_14 a0_0 a0_1 a0_2 a0_3 = some r) ∧ Aside0 (kq ≤ k) ∧ Aside0 (wc.heap[gb365]? = some (.cells #[.int .i64 a0_0, .int .i64 a0_1, .int .i64 a0_2, .int .i64 a0_3] 23 (0, 0))) ∧ Aside0 (Below w.heap.size w wc))
        case first =>
         have H := HC15.out
         clear HC15
         obtain ⟨ji24, hji24⟩ : ∃ j_ : Int, (mx (at4 a0_0 a0_1 a0_2 a0_3 (ji5)) (at4 a0_0 a0_1 a0_2 a0_3 (ji8))) = j_ := ⟨_, rfl⟩
         replace H : (if (mx (ji24) (at4 a0_0 a0_1 a0_2 a0_3 (ji11))) > 1048576 then (clochelaw01_DiscsFourth.j0 k (wrap64 (Int.tmod a1 4)) (at4 a0_0 a0_1 a0_2 a0_3 (ji5)) (at4 a0_0 a0_1 a0_2 a0_3 (ji8)) (at4 a0_0 a0_1 a0_2 a0_3 (ji11)) t368 t369 t370 true a0_0 a0_1 a0_2 a0_3) else (clochelaw01_DiscsFourth.j0 k (wrap64 (Int.tmod a1 4)) (at4 a0_0 a0_1 a0_2 a0_3 (ji5)) (at4 a0_0 a0_1 a0_2 a0_3 (ji8)) (at4 a0_0 a0_1 a0_2 a0_3 (ji11)) t368 t369 t370 (decide ((mn (mn (at4 a0_0 a0_1 a0_2 a0_3 (ji5)) (at4 a0_0 a0_1 a0_2 a0_3 (ji8))) (at4 a0_0 a0_1 a0_2 a0_3 (ji11))) < (-1048576))) a0_0 a0_1 a0_2 a0_3)) = some r := by first | (rw [hji24] at H; exact H) | (simp only [hji24] at H ⊢; exact H)
         have hji24_ : (if (at4 a0_0 a0_1 a0_2 a0_3 (ji5)) < (at4 a0_0 a0_1 a0_2 a0_3 (ji8)) then (at4 a0_0 a0_1 a0_2 a0_3 (ji8)) else (at4 a0_0 a0_1 a0_2 a0_3 (ji5))) = ji24 := hji24
         obtain ⟨ji25, hji25⟩ : ∃ j_ : Int, (mx (ji24) (at4 a0_0 a0_1 a0_2 a0_3 (ji11))) = j_ := ⟨_, rfl⟩
         replace H : (if (ji25) > 1048576 then (clochelaw01_DiscsFourth.j0 k (wrap64 (Int.tmod a1 4)) (at4 a0_0 a0_1 a0_2 a0_3 (ji5)) (at4 a0_0 a0_1 a0_2 a0_3 (ji8)) (at4 a0_0 a0_1 a0_2 a0_3 (ji11)) t368 t369 t370 true a0_0 a0_1 a0_2 a0_3) else (clochelaw01_DiscsFourth.j0 k (wrap64 (Int.tmod a1 4)) (at4 a0_0 a0_1 a0_2 a0_3 (ji5)) (at4 a0_0 a0_1 a0_2 a0_3 (ji8)) (at4 a0_0 a0_1 a0_2 a0_3 (ji11)) t368 t369 t370 (decide ((mn (mn (at4 a0_0 a0_1 a0_2 a0_3 (ji5)) (at4 a0_0 a0_1 a0_2 a0_3 (ji8))) (at4 a0_0 a0_1 a0_2 a0_3 (ji11))) < (-1048576))) a0_0 a0_1 a0_2 a0_3)) = some r := by first | (rw [hji25] at H; exact H) | (simp only [hji25] at H ⊢; exact H)
         have hji25_ : (if (ji24) < (at4 a0_0 a0_1 a0_2 a0_3 (ji11)) then (at4 a0_0 a0_1 a0_2 a0_3 (ji11)) else (ji24)) = ji25 := hji25
         by_cases c26 : (ji25) > 1048576
         ·rw [if_pos c26] at H
          have c26b0 : decide (1048576 < (ji25)) = true := decide_eq_true c26
          clear c26
          (first | rw [c26b0] | (simp only [i64_w, i32_w]; rw [c26b0]) | skip)
          have H' := Aside0.mk H
          clear H
          go_wp2
          repeat (go_quiet (fail); try go_wp2)
          go_meet
          case rel => exact ⟨_, (true), eq_, H', ⟨by first | omega | exact Nat.le_refl _⟩, ⟨by refine bs_ ?_; exact BK365.out⟩, ⟨by repeat (first | (with_reducible first | exact HB.out | apply below_alloc | apply pw_below_drewN | apply below_drew1 | refine below_set ?_ GE365.out) | exact HB.out)⟩⟩
         ·rw [if_neg c26] at H
          have c26b0 : decide (1048576 < (ji25)) = false := decide_eq_false c26
          clear c26
          (first | rw [c26b0] | (simp only [i64_w, i32_w]; rw [c26b0]) | skip)
          obtain ⟨ji27, hji27⟩ : ∃ j_ : Int, (mn (at4 a0_0 a0_1 a0_2 a0_3 (ji5)) (at4 a0_0 a0_1 a0_2 a0_3 (ji8))) = j_ := ⟨_, rfl⟩
          replace H : (clochelaw01_DiscsFourth.j0 k (wrap64 (Int.tmod a1 4)) (at4 a0_0 a0_1 a0_2 a0_3 (ji5)) (at4 a0_0 a0_1 a0_2 a0_3 (ji8)) (at4 a0_0 a0_1 a0_2 a0_3 (ji11)) t368 t369 t370 (decide ((mn (ji27) (at4 a0_0 a0_1 a0_2 a0_3 (ji11))) < (-1048576))) a0_0 a0_1 a0_2 a0_3) = some r := by first | (rw [hji27] at H; exact H) | (simp only [hji27] at H ⊢; exact H)
          have hji27_ : (if (at4 a0_0 a0_1 a0_2 a0_3 (ji8)) < (at4 a0_0 a0_1 a0_2 a0_3 (ji5)) then (at4 a0_0 a0_1 a0_2 a0_3 (ji8)) else (at4 a0_0 a0_1 a0_2 a0_3 (ji5))) = ji27 := hji27
          obtain ⟨ji28, hji28⟩ : ∃ j_ : Int, (mn (ji27) (at4 a0_0 a0_1 a0_2 a0_3 (ji11))) = j_ := ⟨_, rfl⟩
          replace H : (clochelaw01_DiscsFourth.j0 k (wrap64 (Int.tmod a1 4)) (at4 a0_0 a0_1 a0_2 a0_3 (ji5)) (at4 a0_0 a0_1 a0_2 a0_3 (ji8)) (at4 a0_0 a0_1 a0_2 a0_3 (ji11)) t368 t369 t370 (decide ((ji28) < (-1048576))) a0_0 a0_1 a0_2 a0_3) = some r := by first | (rw [hji28] at H; exact H) | (simp only [hji28] at H ⊢; exact H)
          have hji28_ : (if (at4 a0_0 a0_1 a0_2 a0_3 (ji11)) < (ji27) then (at4 a0_0 a0_1 a0_2 a0_3 (ji11)) else (ji27)) = ji28 := hji28
          have H' := Aside0.mk H
          clear H
          go_wp2
          repeat (go_quiet (fail); try go_wp2)
          go_meet
          case rel => exact ⟨_, (decide ((ji28) < (-1048576))), (by first | rfl | (simp; done) | (simp only [← hji28] <;> (first | rfl | simp)) | (simp [*]; done)), H', ⟨by first | omega | exact Nat.le_refl _⟩, ⟨by refine bs_ ?_; exact BK365.out⟩, ⟨by repeat (first | (with_reducible first | exact HB.out | apply below_alloc | apply pw_below_drewN | apply below_drew1 | refine below_set ?_ GE365.out) | exact HB.out)⟩⟩
        case rest =>
         clear HC15
         try clear c1
         try clear c2
         try clear p2
         try clear c4
         try clear c6
         try clear c6b0
         try clear p6
         try clear c7
         try clear c7b0
         try clear c9
         try clear c9b0
         try clear c10
         try clear c10b0
         try clear c12
         try clear c12b0
         try clear c13
         try clear c13b0
         try clear c26
         try clear c26b0
         try clear hcz17_0
         try clear hcz17_1
         try clear hcz17_2
         try clear hcz17_3
         try clear hcz20_0
         try clear hcz20_1
         try clear hcz20_2
         try clear hcz20_3
         try clear hfz17_0
         try clear hfz17_1
         try clear hfz17_2
         try clear hfz17_3
         try clear hfz20_0
         try clear hfz20_1
         try clear hfz20_2
         try clear hfz20_3
         obtain ⟨kq, x54_14, rfl, HA, HJ14, BK365, HB⟩ := hcut
         cases kq with
         | zero => exact absurd HA.out (by simp [clochelaw01_DiscsFourth.j0])
         | succ kj14 =>
          have H := HA.out
          clear HA
          simp only [clochelaw01_DiscsFourth.j0] at H
          by_cases c29 : x54_14 = true
          ·subst c29
           have H1 : (if t370 = 2 then (if t368 = 0 then (if t369 = 0 then ((clochelaw01_alive.f kj14).bind fun t371 => (some t371)) else (none)) else (none)) else (none)) = some r := by rw [if_pos rfl] at H; exact H
           clear H
           have H := H1
           clear H1
           by_cases c30 : t370 = 2
           ·rw [if_pos c30] at H
            have c30b0 : (t370 == 2) = true := beq_iff_eq.mpr c30
            have c30b1 : (t370 != 2) = false := bne_eq_false_iff_eq.mpr c30
            clear c30
            by_cases c31 : t368 = 0
            ·rw [if_pos c31] at H
             have c31b0 : (t368 == 0) = true := beq_iff_eq.mpr c31
             have c31b1 : (t368 != 0) = false := bne_eq_false_iff_eq.mpr c31
             clear c31
             by_cases c32 : t369 = 0
             ·rw [if_pos c32] at H
              have c32b0 : (t369 == 0) = true := beq_iff_eq.mpr c32
              have c32b1 : (t369 != 0) = false := bne_eq_false_iff_eq.mpr c32
              clear c32
              replace H := Option.bind_eq_some_iff.mp H
              obtain ⟨t371, A330, H⟩ := H
              replace H : (some t371) = some r := H
              have A33 := Aside0.mk A330
              clear A330
              obtain rfl := Option.some.inj H
              go_wp2_with (first | (go_at_call 19; (with_reducible refine (clochelaw01_alive.calls kj14  t371 _ A33.out).mono ?_); rintro e w34 ⟨rfl, hb⟩; have n0_ := Aside0.mk (blk_below (g := gb365) (o := .cells #[.int .i64 a0_0, .int .i64 a0_1, .int .i64 a0_2, .int .i64 a0_3] 23 (0, 0)) (by refine bs_ ?_; exact BK365.out) hb); have n1_ := Aside0.mk (below_step (by repeat (first | (with_reducible first | exact HB.out | apply below_alloc | apply pw_below_drewN | apply below_drew1 | refine below_set ?_ GE365.out) | exact HB.out)) hb); clear BK365; clear HB; have BK365 := n0_; have HB := n1_; clear n0_ n1_; (try clear hb); (try clear hb2); (try clear hk); (try clear hi)))
              repeat (go_quiet (first | (go_at_call 19; (with_reducible refine (clochelaw01_alive.calls kj14  t371 _ A33.out).mono ?_); rintro e w34 ⟨rfl, hb⟩; have n0_ := Aside0.mk (blk_below (g := gb365) (o := .cells #[.int .i64 a0_0, .int .i64 a0_1, .int .i64 a0_2, .int .i64 a0_3] 23 (0, 0)) (by refine bs_ ?_; exact BK365.out) hb); have n1_ := Aside0.mk (below_step (by repeat (first | (with_reducible first | exact HB.out | apply below_alloc | apply pw_below_drewN | apply below_drew1 | refine below_set ?_ GE365.out) | exact HB.out)) hb); clear BK365; clear HB; have BK365 := n0_; have HB := n1_; clear n0_ n1_; (try clear hb); (try clear hb2); (try clear hk); (try clear hi))); try go_wp2_with (first | (go_at_call 19; (with_reducible refine (clochelaw01_alive.calls kj14  t371 _ A33.out).mono ?_); rintro e w34 ⟨rfl, hb⟩; have n0_ := Aside0.mk (blk_below (g := gb365) (o := .cells #[.int .i64 a0_0, .int .i64 a0_1, .int .i64 a0_2, .int .i64 a0_3] 23 (0, 0)) (by refine bs_ ?_; exact BK365.out) hb); have n1_ := Aside0.mk (below_step (by repeat (first | (with_reducible first | exact HB.out | apply below_alloc | apply pw_below_drewN | apply below_drew1 | refine below_set ?_ GE365.out) | exact HB.out)) hb); clear BK365; clear HB; have BK365 := n0_; have HB := n1_; clear n0_ n1_; (try clear hb); (try clear hb2); (try clear hk); (try clear hi))))
              go_ret
              exact ⟨by first | rfl | (simp [errW_none, errW_some] <;> rfl) | (simp only [← hji5, ← hji8, ← hji11]; first | rfl | (simp [errW_none, errW_some] <;> rfl)) | (simp [*, errW_none, errW_some] <;> rfl), by repeat (first | (with_reducible first | exact HB.out | apply below_alloc | apply pw_below_drewN | apply below_drew1 | refine below_set ?_ GE365.out) | exact HB.out)⟩
             ·rw [if_neg c32] at H
              exact absurd H (by simp)
            ·rw [if_neg c31] at H
             exact absurd H (by simp)
           ·rw [if_neg c30] at H
            exact absurd H (by simp)
          ·replace c29 := Bool.eq_false_iff.mpr c29
           subst c29
           have H1 : ((clocheref01_Turned.f kj14 a0_0 a0_1 a0_2 a0_3 (wrap64 (Int.tmod a1 4))).bind fun t372 => ((clocheref01_InRange.f t372).bind fun t373 => (if t373 = true then (if t370 = 0 then (if 0 ≤ (wrap64 (Int.tmod a1 4)) then (if (wrap64 (Int.tmod a1 4)) < 4 then (if t368 = (mn t372 (at4 a0_0 a0_1 a0_2 a0_3 (wrap64 (Int.tmod a1 4)))) then (if t369 = (mx t372 (at4 a0_0 a0_1 a0_2 a0_3 (wrap64 (Int.tmod a1 4)))) then (if (wrap64 (t368 + t369)) = (wrap64 (2 * (wrap64 ((wrap64 ((at4 a0_0 a0_1 a0_2 a0_3 (ji5)) + (at4 a0_0 a0_1 a0_2 a0_3 (ji8)))) + (at4 a0_0 a0_1 a0_2 a0_3 (ji11)))))) then ((clochelaw01_alive.f kj14).bind fun t374 => (some t374)) else (none)) else (none)) else (none)) else (none)) else (none)) else (none)) else (if t370 = 10 then ((clochelaw01_alive.f kj14).bind fun t375 => (some t375)) else (none))))) = some r := by rw [if_neg (show ¬ (false = true) by decide)] at H; exact H
           clear H
           have H := H1
           clear H1
           replace H := Option.bind_eq_some_iff.mp H
           obtain ⟨t372, A350, H⟩ := H
           replace H : ((clocheref01_InRange.f t372).bind fun t373 => (if t373 = true then (if t370 = 0 then (if 0 ≤ (wrap64 (Int.tmod a1 4)) then (if (wrap64 (Int.tmod a1 4)) < 4 then (if t368 = (mn t372 (at4 a0_0 a0_1 a0_2 a0_3 (wrap64 (Int.tmod a1 4)))) then (if t369 = (mx t372 (at4 a0_0 a0_1 a0_2 a0_3 (wrap64 (Int.tmod a1 4)))) then (if (wrap64 (t368 + t369)) = (wrap64 (2 * (wrap64 ((wrap64 ((at4 a0_0 a0_1 a0_2 a0_3 (ji5)) + (at4 a0_0 a0_1 a0_2 a0_3 (ji8)))) + (at4 a0_0 a0_1 a0_2 a0_3 (ji11)))))) then ((clochelaw01_alive.f kj14).bind fun t374 => (some t374)) else (none)) else (none)) else (none)) else (none)) else (none)) else (none)) else (if t370 = 10 then ((clochelaw01_alive.f kj14).bind fun t375 => (some t375)) else (none)))) = some r := H
           have A35 := Aside0.mk A350
           clear A350
           replace H := Option.bind_eq_some_iff.mp H
           obtain ⟨t373, A360, H⟩ := H
           replace H : (if t373 = true then (if t370 = 0 then (if 0 ≤ (wrap64 (Int.tmod a1 4)) then (if (wrap64 (Int.tmod a1 4)) < 4 then (if t368 = (mn t372 (at4 a0_0 a0_1 a0_2 a0_3 (wrap64 (Int.tmod a1 4)))) then (if t369 = (mx t372 (at4 a0_0 a0_1 a0_2 a0_3 (wrap64 (Int.tmod a1 4)))) then (if (wrap64 (t368 + t369)) = (wrap64 (2 * (wrap64 ((wrap64 ((at4 a0_0 a0_1 a0_2 a0_3 (ji5)) + (at4 a0_0 a0_1 a0_2 a0_3 (ji8)))) + (at4 a0_0 a0_1 a0_2 a0_3 (ji11)))))) then ((clochelaw01_alive.f kj14).bind fun t374 => (some t374)) else (none)) else (none)) else (none)) else (none)) else (none)) else (none)) else (if t370 = 10 then ((clochelaw01_alive.f kj14).bind fun t375 => (some t375)) else (none))) = some r := H
           have A36 := Aside0.mk A360
           clear A360
           by_cases c37 : t373 = true
           ·subst c37
            have H1 : (if t370 = 0 then (if 0 ≤ (wrap64 (Int.tmod a1 4)) then (if (wrap64 (Int.tmod a1 4)) < 4 then (if t368 = (mn t372 (at4 a0_0 a0_1 a0_2 a0_3 (wrap64 (Int.tmod a1 4)))) then (if t369 = (mx t372 (at4 a0_0 a0_1 a0_2 a0_3 (wrap64 (Int.tmod a1 4)))) then (if (wrap64 (t368 + t369)) = (wrap64 (2 * (wrap64 ((wrap64 ((at4 a0_0 a0_1 a0_2 a0_3 (ji5)) + (at4 a0_0 a0_1 a0_2 a0_3 (ji8)))) + (at4 a0_0 a0_1 a0_2 a0_3 (ji11)))))) then ((clochelaw01_alive.f kj14).bind fun t374 => (some t374)) else (none)) else (none)) else (none)) else (none)) else (none)) else (none)) = some r := by rw [if_pos rfl] at H; exact H
            clear H
            have H := H1
            clear H1
            by_cases c38 : t370 = 0
            ·rw [if_pos c38] at H
             have c38b0 : (t370 == 0) = true := beq_iff_eq.mpr c38
             have c38b1 : (t370 != 0) = false := bne_eq_false_iff_eq.mpr c38
             clear c38
             obtain ⟨ji39, hji39⟩ : ∃ j_ : Int, (wrap64 (Int.tmod a1 4)) = j_ := ⟨_, rfl⟩
             replace H : (if 0 ≤ (ji39) then (if (ji39) < 4 then (if t368 = (mn t372 (at4 a0_0 a0_1 a0_2 a0_3 (ji39))) then (if t369 = (mx t372 (at4 a0_0 a0_1 a0_2 a0_3 (ji39))) then (if (wrap64 (t368 + t369)) = (wrap64 (2 * (wrap64 ((wrap64 ((at4 a0_0 a0_1 a0_2 a0_3 (ji5)) + (at4 a0_0 a0_1 a0_2 a0_3 (ji8)))) + (at4 a0_0 a0_1 a0_2 a0_3 (ji11)))))) then ((clochelaw01_alive.f kj14).bind fun t374 => (some t374)) else (none)) else (none)) else (none)) else (none)) else (none)) = some r := by first | (rw [hji39] at H; exact H) | (simp only [hji39] at H ⊢; exact H)
             (try rw [hji39] at A35)
             (try rw [hji39] at A36)
             have hji39w : (IntKind.i64.wrap (Int.tmod a1 4)) = ji39 := (i64_w _).trans hji39
             by_cases c40 : 0 ≤ (ji39)
             ·rw [if_pos c40] at H
              have c40b0 : decide (0 ≤ (ji39)) = true := decide_eq_true c40
              clear c40
              by_cases c41 : (ji39) < 4
              ·rw [if_pos c41] at H
               have c41b0 : decide ((ji39) < 4) = true := decide_eq_true c41
               clear c41
               obtain ⟨ji42, hji42⟩ : ∃ j_ : Int, (mn t372 (at4 a0_0 a0_1 a0_2 a0_3 (ji39))) = j_ := ⟨_, rfl⟩
               replace H : (if t368 = (ji42) then (if t369 = (mx t372 (at4 a0_0 a0_1 a0_2 a0_3 (ji39))) then (if (wrap64 (t368 + t369)) = (wrap64 (2 * (wrap64 ((wrap64 ((at4 a0_0 a0_1 a0_2 a0_3 (ji5)) + (at4 a0_0 a0_1 a0_2 a0_3 (ji8)))) + (at4 a0_0 a0_1 a0_2 a0_3 (ji11)))))) then ((clochelaw01_alive.f kj14).bind fun t374 => (some t374)) else (none)) else (none)) else (none)) = some r := by first | (rw [hji42] at H; exact H) | (simp only [hji42] at H ⊢; exact H)
               (try rw [hji42] at A35)
               (try rw [hji42] at A36)
               have hji42_ : (if (at4 a0_0 a0_1 a0_2 a0_3 (ji39)) < t372 then (at4 a0_0 a0_1 a0_2 a0_3 (ji39)) else t372) = ji42 := hji42
               by_cases c43 : t368 = (ji42)
               ·rw [if_pos c43] at H
                have c43b0 : (t368 == (ji42)) = true := beq_iff_eq.mpr c43
                have c43b1 : (t368 != (ji42)) = false := bne_eq_false_iff_eq.mpr c43
                clear c43
                obtain ⟨ji44, hji44⟩ : ∃ j_ : Int, (mx t372 (at4 a0_0 a0_1 a0_2 a0_3 (ji39))) = j_ := ⟨_, rfl⟩
                replace H : (if t369 = (ji44) then (if (wrap64 (t368 + t369)) = (wrap64 (2 * (wrap64 ((wrap64 ((at4 a0_0 a0_1 a0_2 a0_3 (ji5)) + (at4 a0_0 a0_1 a0_2 a0_3 (ji8)))) + (at4 a0_0 a0_1 a0_2 a0_3 (ji11)))))) then ((clochelaw01_alive.f kj14).bind fun t374 => (some t374)) else (none)) else (none)) = some r := by first | (rw [hji44] at H; exact H) | (simp only [hji44] at H ⊢; exact H)
                (try rw [hji44] at A35)
                (try rw [hji44] at A36)
                have hji44_ : (if t372 < (at4 a0_0 a0_1 a0_2 a0_3 (ji39)) then (at4 a0_0 a0_1 a0_2 a0_3 (ji39)) else t372) = ji44 := hji44
                by_cases c45 : t369 = (ji44)
                ·rw [if_pos c45] at H
                 have c45b0 : (t369 == (ji44)) = true := beq_iff_eq.mpr c45
                 have c45b1 : (t369 != (ji44)) = false := bne_eq_false_iff_eq.mpr c45
                 clear c45
                 by_cases c46 : (wrap64 (t368 + t369)) = (wrap64 (2 * (wrap64 ((wrap64 ((at4 a0_0 a0_1 a0_2 a0_3 (ji5)) + (at4 a0_0 a0_1 a0_2 a0_3 (ji8)))) + (at4 a0_0 a0_1 a0_2 a0_3 (ji11))))))
                 ·rw [if_pos c46] at H
                  have c46b0 : ((wrap64 (t368 + t369)) == (wrap64 (2 * (wrap64 ((wrap64 ((at4 a0_0 a0_1 a0_2 a0_3 (ji5)) + (at4 a0_0 a0_1 a0_2 a0_3 (ji8)))) + (at4 a0_0 a0_1 a0_2 a0_3 (ji11))))))) = true := beq_iff_eq.mpr c46
                  have c46b1 : ((wrap64 (t368 + t369)) != (wrap64 (2 * (wrap64 ((wrap64 ((at4 a0_0 a0_1 a0_2 a0_3 (ji5)) + (at4 a0_0 a0_1 a0_2 a0_3 (ji8)))) + (at4 a0_0 a0_1 a0_2 a0_3 (ji11))))))) = false := bne_eq_false_iff_eq.mpr c46
                  clear c46
                  replace H := Option.bind_eq_some_iff.mp H
                  obtain ⟨t374, A470, H⟩ := H
                  replace H : (some t374) = some r := H
                  have A47 := Aside0.mk A470
                  clear A470
                  obtain rfl := Option.some.inj H
                  have hcz48_0 : wc.cell? ⟨gb365, 0, none⟩ = some (.int .i64 a0_0) := (blk_cell BK365.out 0).trans rfl
                  have hcz48_1 : wc.cell? ⟨gb365, 1, none⟩ = some (.int .i64 a0_1) := (blk_cell BK365.out 1).trans rfl
                  have hcz48_2 : wc.cell? ⟨gb365, 2, none⟩ = some (.int .i64 a0_2) := (blk_cell BK365.out 2).trans rfl
                  have hcz48_3 : wc.cell? ⟨gb365, 3, none⟩ = some (.int .i64 a0_3) := (blk_cell BK365.out 3).trans rfl
                  have hfz48_0 := blk_frozen BK365.out 0
                  have hfz48_1 := blk_frozen BK365.out 1
                  have hfz48_2 := blk_frozen BK365.out 2
                  have hfz48_3 := blk_frozen BK365.out 3
                  go_wp2_with (first | (go_at_call 31; (with_reducible refine (clocheref01_Turned.calls kj14 a0_0 a0_1 a0_2 a0_3 (ji39) t372 _ A35.out).mono ?_); rintro e w49 ⟨rfl, hb⟩; have n0_ := Aside0.mk (blk_below (g := gb365) (o := .cells #[.int .i64 a0_0, .int .i64 a0_1, .int .i64 a0_2, .int .i64 a0_3] 23 (0, 0)) (by refine bs_ ?_; exact BK365.out) hb); have n1_ := Aside0.mk (below_step (by repeat (first | (with_reducible first | exact HB.out | apply below_alloc | apply pw_below_drewN | apply below_drew1 | refine below_set ?_ GE365.out) | exact HB.out)) hb); clear BK365; clear HB; have BK365 := n0_; have HB := n1_; clear n0_ n1_; (try clear hb); (try clear hb2); (try clear hk); (try clear hi)) | (go_at_call 30; (with_reducible refine (clocheref01_InRange.calls t372 true _ A36.out).mono ?_); rintro e w' ⟨rfl, ⟨nd, rfl⟩⟩; (try first | exact ⟨rfl, _, World.drewN_drewN _ _ _⟩ | exact ⟨rfl, _, Eq.trans (World.drewN_drewN _ _ _) (congrArg (World.drewN _) (Nat.add_assoc _ _ _))⟩); have hcz51_0 : w49.cell? ⟨gb365, 0, none⟩ = some (.int .i64 a0_0) := (blk_cell BK365.out 0).trans rfl; have hcz51_1 : w49.cell? ⟨gb365, 1, none⟩ = some (.int .i64 a0_1) := (blk_cell BK365.out 1).trans rfl; have hcz51_2 : w49.cell? ⟨gb365, 2, none⟩ = some (.int .i64 a0_2) := (blk_cell BK365.out 2).trans rfl; have hcz51_3 : w49.cell? ⟨gb365, 3, none⟩ = some (.int .i64 a0_3) := (blk_cell BK365.out 3).trans rfl; have hfz51_0 := blk_frozen BK365.out 0; have hfz51_1 := blk_frozen BK365.out 1; have hfz51_2 := blk_frozen BK365.out 2; have hfz51_3 := blk_frozen BK365.out 3; have pdy50 : 0 ≤ ((ji39) : Int) := of_decide_eq_true as_; have qdy50 : ((ji39) : Int) < 4 := of_decide_eq_true as_; replace pdy50 := eq_true pdy50; replace qdy50 := eq_true qdy50; have hxdy50 : w49.cell? ⟨gb365, ((ji39) : Int).toNat, none⟩ = some (.int .i64 (at4 a0_0 a0_1 a0_2 a0_3 (ji39))) := blk_at4 BK365.out (of_eq_true pdy50) (of_eq_true qdy50); have hfdy50 := blk_frozen BK365.out ((ji39) : Int).toNat; have pdy52 : 0 ≤ ((ji39) : Int) := of_decide_eq_true as_; have qdy52 : ((ji39) : Int) < 4 := of_decide_eq_true as_; replace pdy52 := eq_true pdy52; replace qdy52 := eq_true qdy52; have hxdy52 : w49.cell? ⟨gb365, ((ji39) : Int).toNat, none⟩ = some (.int .i64 (at4 a0_0 a0_1 a0_2 a0_3 (ji39))) := blk_at4 BK365.out (of_eq_true pdy52) (of_eq_true qdy52); have hfdy52 := blk_frozen BK365.out ((ji39) : Int).toNat) | (go_at_call 19; (with_reducible refine (clochelaw01_alive.calls kj14  t374 _ A47.out).mono ?_); rintro e w53 ⟨rfl, hb⟩; have n0_ := Aside0.mk (blk_below (g := gb365) (o := .cells #[.int .i64 a0_0, .int .i64 a0_1, .int .i64 a0_2, .int .i64 a0_3] 23 (0, 0)) (by refine bs_ ?_; exact BK365.out) hb); have n1_ := Aside0.mk (below_step (by repeat (first | (with_reducible first | exact HB.out | apply below_alloc | apply pw_below_drewN | apply below_drew1 | refine below_set ?_ GE365.out) | exact HB.out)) hb); clear BK365; clear HB; have BK365 := n0_; have HB := n1_; clear n0_ n1_; (try clear hb); (try clear hb2); (try clear hk); (try clear hi)))
                  repeat (go_quiet (first | (go_at_call 31; (with_reducible refine (clocheref01_Turned.calls kj14 a0_0 a0_1 a0_2 a0_3 (ji39) t372 _ A35.out).mono ?_); rintro e w49 ⟨rfl, hb⟩; have n0_ := Aside0.mk (blk_below (g := gb365) (o := .cells #[.int .i64 a0_0, .int .i64 a0_1, .int .i64 a0_2, .int .i64 a0_3] 23 (0, 0)) (by refine bs_ ?_; exact BK365.out) hb); have n1_ := Aside0.mk (below_step (by repeat (first | (with_reducible first | exact HB.out | apply below_alloc | apply pw_below_drewN | apply below_drew1 | refine below_set ?_ GE365.out) | exact HB.out)) hb); clear BK365; clear HB; have BK365 := n0_; have HB := n1_; clear n0_ n1_; (try clear hb); (try clear hb2); (try clear hk); (try clear hi)) | (go_at_call 30; (with_reducible refine (clocheref01_InRange.calls t372 true _ A36.out).mono ?_); rintro e w' ⟨rfl, ⟨nd, rfl⟩⟩; (try first | exact ⟨rfl, _, World.drewN_drewN _ _ _⟩ | exact ⟨rfl, _, Eq.trans (World.drewN_drewN _ _ _) (congrArg (World.drewN _) (Nat.add_assoc _ _ _))⟩); have hcz51_0 : w49.cell? ⟨gb365, 0, none⟩ = some (.int .i64 a0_0) := (blk_cell BK365.out 0).trans rfl; have hcz51_1 : w49.cell? ⟨gb365, 1, none⟩ = some (.int .i64 a0_1) := (blk_cell BK365.out 1).trans rfl; have hcz51_2 : w49.cell? ⟨gb365, 2, none⟩ = some (.int .i64 a0_2) := (blk_cell BK365.out 2).trans rfl; have hcz51_3 : w49.cell? ⟨gb365, 3, none⟩ = some (.int .i64 a0_3) := (blk_cell BK365.out 3).trans rfl; have hfz51_0 := blk_frozen BK365.out 0; have hfz51_1 := blk_frozen BK365.out 1; have hfz51_2 := blk_frozen BK365.out 2; have hfz51_3 := blk_frozen BK365.out 3; have pdy50 : 0 ≤ ((ji39) : Int) := of_decide_eq_true as_; have qdy50 : ((ji39) : Int) < 4 := of_decide_eq_true as_; replace pdy50 := eq_true pdy50; replace qdy50 := eq_true qdy50; have hxdy50 : w49.cell? ⟨gb365, ((ji39) : Int).toNat, none⟩ = some (.int .i64 (at4 a0_0 a0_1 a0_2 a0_3 (ji39))) := blk_at4 BK365.out (of_eq_true pdy50) (of_eq_true qdy50); have hfdy50 := blk_frozen BK365.out ((ji39) : Int).toNat; have pdy52 : 0 ≤ ((ji39) : Int) := of_decide_eq_true as_; have qdy52 : ((ji39) : Int) < 4 := of_decide_eq_true as_; replace pdy52 := eq_true pdy52; replace qdy52 := eq_true qdy52; have hxdy52 : w49.cell? ⟨gb365, ((ji39) : Int).toNat, none⟩ = some (.int .i64 (at4 a0_0 a0_1 a0_2 a0_3 (ji39))) := blk_at4 BK365.out (of_eq_true pdy52) (of_eq_true qdy52); have hfdy52 := blk_frozen BK365.out ((ji39) : Int).toNat) | (go_at_call 19; (with_reducible refine (clochelaw01_alive.calls kj14  t374 _ A47.out).mono ?_); rintro e w53 ⟨rfl, hb⟩; have n0_ := Aside0.mk (blk_below (g := gb365) (o := .cells #[.int .i64 a0_0, .int .i64 a0_1, .int .i64 a0_2, .int .i64 a0_3] 23 (0, 0)) (by refine bs_ ?_; exact BK365.out) hb); have n1_ := Aside0.mk (below_step (by repeat (first | (with_reducible first | exact HB.out | apply below_alloc | apply pw_below_drewN | apply below_drew1 | refine below_set ?_ GE365.out) | exact HB.out)) hb); clear BK365; clear HB; have BK365 := n0_; have HB := n1_; clear n0_ n1_; (try clear hb); (try clear hb2); (try clear hk); (try clear hi))); try go_wp2_with (first | (go_at_call 31; (with_reducible refine (clocheref01_Turned.calls kj14 a0_0 a0_1 a0_2 a0_3 (ji39) t372 _ A35.out).mono ?_); rintro e w49 ⟨rfl, hb⟩; have n0_ := Aside0.mk (blk_below (g := gb365) (o := .cells #[.int .i64 a0_0, .int .i64 a0_1, .int .i64 a0_2, .int .i64 a0_3] 23 (0, 0)) (by refine bs_ ?_; exact BK365.out) hb); have n1_ := Aside0.mk (below_step (by repeat (first | (with_reducible first | exact HB.out | apply below_alloc | apply pw_below_drewN | apply below_drew1 | refine below_set ?_ GE365.out) | exact HB.out)) hb); clear BK365; clear HB; have BK365 := n0_; have HB := n1_; clear n0_ n1_; (try clear hb); (try clear hb2); (try clear hk); (try clear hi)) | (go_at_call 30; (with_reducible refine (clocheref01_InRange.calls t372 true _ A36.out).mono ?_); rintro e w' ⟨rfl, ⟨nd, rfl⟩⟩; (try first | exact ⟨rfl, _, World.drewN_drewN _ _ _⟩ | exact ⟨rfl, _, Eq.trans (World.drewN_drewN _ _ _) (congrArg (World.drewN _) (Nat.add_assoc _ _ _))⟩); have hcz51_0 : w49.cell? ⟨gb365, 0, none⟩ = some (.int .i64 a0_0) := (blk_cell BK365.out 0).trans rfl; have hcz51_1 : w49.cell? ⟨gb365, 1, none⟩ = some (.int .i64 a0_1) := (blk_cell BK365.out 1).trans rfl; have hcz51_2 : w49.cell? ⟨gb365, 2, none⟩ = some (.int .i64 a0_2) := (blk_cell BK365.out 2).trans rfl; have hcz51_3 : w49.cell? ⟨gb365, 3, none⟩ = some (.int .i64 a0_3) := (blk_cell BK365.out 3).trans rfl; have hfz51_0 := blk_frozen BK365.out 0; have hfz51_1 := blk_frozen BK365.out 1; have hfz51_2 := blk_frozen BK365.out 2; have hfz51_3 := blk_frozen BK365.out 3; have pdy50 : 0 ≤ ((ji39) : Int) := of_decide_eq_true as_; have qdy50 : ((ji39) : Int) < 4 := of_decide_eq_true as_; replace pdy50 := eq_true pdy50; replace qdy50 := eq_true qdy50; have hxdy50 : w49.cell? ⟨gb365, ((ji39) : Int).toNat, none⟩ = some (.int .i64 (at4 a0_0 a0_1 a0_2 a0_3 (ji39))) := blk_at4 BK365.out (of_eq_true pdy50) (of_eq_true qdy50); have hfdy50 := blk_frozen BK365.out ((ji39) : Int).toNat; have pdy52 : 0 ≤ ((ji39) : Int) := of_decide_eq_true as_; have qdy52 : ((ji39) : Int) < 4 := of_decide_eq_true as_; replace pdy52 := eq_true pdy52; replace qdy52 := eq_true qdy52; have hxdy52 : w49.cell? ⟨gb365, ((ji39) : Int).toNat, none⟩ = some (.int .i64 (at4 a0_0 a0_1 a0_2 a0_3 (ji39))) := blk_at4 BK365.out (of_eq_true pdy52) (of_eq_true qdy52); have hfdy52 := blk_frozen BK365.out ((ji39) : Int).toNat) | (go_at_call 19; (with_reducible refine (clochelaw01_alive.calls kj14  t374 _ A47.out).mono ?_); rintro e w53 ⟨rfl, hb⟩; have n0_ := Aside0.mk (blk_below (g := gb365) (o := .cells #[.int .i64 a0_0, .int .i64 a0_1, .int .i64 a0_2, .int .i64 a0_3] 23 (0, 0)) (by refine bs_ ?_; exact BK365.out) hb); have n1_ := Aside0.mk (below_step (by repeat (first | (with_reducible first | exact HB.out | apply below_alloc | apply pw_below_drewN | apply below_drew1 | refine below_set ?_ GE365.out) | exact HB.out)) hb); clear BK365; clear HB; have BK365 := n0_; have HB := n1_; clear n0_ n1_; (try clear hb); (try clear hb2); (try clear hk); (try clear hi))))
                  go_ret
                  exact ⟨by first | rfl | (simp [errW_none, errW_some] <;> rfl) | (simp only [← hji5, ← hji8, ← hji11, ← hji39, ← hji42, ← hji44]; first | rfl | (simp [errW_none, errW_some] <;> rfl)) | (simp [*, errW_none, errW_some] <;> rfl), by repeat (first | (with_reducible first | exact HB.out | apply below_alloc | apply pw_below_drewN | apply below_drew1 | refine below_set ?_ GE365.out) | exact HB.out)⟩
                 ·rw [if_neg c46] at H
                  exact absurd H (by simp)
                ·rw [if_neg c45] at H
                 exact absurd H (by simp)
               ·rw [if_neg c43] at H
                exact absurd H (by simp)
              ·rw [if_neg c41] at H
               exact absurd H (by simp)
             ·rw [if_neg c40] at H
              exact absurd H (by simp)
            ·rw [if_neg c38] at H
             exact absurd H (by simp)
           ·replace c37 := Bool.eq_false_iff.mpr c37
            subst c37
            have H1 : (if t370 = 10 then ((clochelaw01_alive.f kj14).bind fun t375 => (some t375)) else (none)) = some r := by rw [if_neg (show ¬ (false = true) by decide)] at H; exact H
            clear H
            have H := H1
            clear H1
            by_cases c54 : t370 = 10
            ·rw [if_pos c54] at H
             have c54b0 : (t370 == 10) = true := beq_iff_eq.mpr c54
             have c54b1 : (t370 != 10) = false := bne_eq_false_iff_eq.mpr c54
             clear c54
             replace H := Option.bind_eq_some_iff.mp H
             obtain ⟨t375, A550, H⟩ := H
             replace H : (some t375) = some r := H
             have A55 := Aside0.mk A550
             clear A550
             obtain rfl := Option.some.inj H
             have hcz56_0 : wc.cell? ⟨gb365, 0, none⟩ = some (.int .i64 a0_0) := (blk_cell BK365.out 0).trans rfl
             have hcz56_1 : wc.cell? ⟨gb365, 1, none⟩ = some (.int .i64 a0_1) := (blk_cell BK365.out 1).trans rfl
             have hcz56_2 : wc.cell? ⟨gb365, 2, none⟩ = some (.int .i64 a0_2) := (blk_cell BK365.out 2).trans rfl
             have hcz56_3 : wc.cell? ⟨gb365, 3, none⟩ = some (.int .i64 a0_3) := (blk_cell BK365.out 3).trans rfl
             have hfz56_0 := blk_frozen BK365.out 0
             have hfz56_1 := blk_frozen BK365.out 1
             have hfz56_2 := blk_frozen BK365.out 2
             have hfz56_3 := blk_frozen BK365.out 3
             go_wp2_with (first | (go_at_call 31; (with_reducible refine (clocheref01_Turned.calls kj14 a0_0 a0_1 a0_2 a0_3 (wrap64 (Int.tmod a1 4)) t372 _ A35.out).mono ?_); rintro e w57 ⟨rfl, hb⟩; have n0_ := Aside0.mk (blk_below (g := gb365) (o := .cells #[.int .i64 a0_0, .int .i64 a0_1, .int .i64 a0_2, .int .i64 a0_3] 23 (0, 0)) (by refine bs_ ?_; exact BK365.out) hb); have n1_ := Aside0.mk (below_step (by repeat (first | (with_reducible first | exact HB.out | apply below_alloc | apply pw_below_drewN | apply below_drew1 | refine below_set ?_ GE365.out) | exact HB.out)) hb); clear BK365; clear HB; have BK365 := n0_; have HB := n1_; clear n0_ n1_; (try clear hb); (try clear hb2); (try clear hk); (try clear hi)) | (go_at_call 30; (with_reducible refine (clocheref01_InRange.calls t372 false _ A36.out).mono ?_); rintro e w' ⟨rfl, ⟨nd, rfl⟩⟩; (try first | exact ⟨rfl, _, World.drewN_drewN _ _ _⟩ | exact ⟨rfl, _, Eq.trans (World.drewN_drewN _ _ _) (congrArg (World.drewN _) (Nat.add_assoc _ _ _))⟩)) | (go_at_call 19; (with_reducible refine (clochelaw01_alive.calls kj14  t375 _ A55.out).mono ?_); rintro e w58 ⟨rfl, hb⟩; have n0_ := Aside0.mk (blk_below (g := gb365) (o := .cells #[.int .i64 a0_0, .int .i64 a0_1, .int .i64 a0_2, .int .i64 a0_3] 23 (0, 0)) (by refine bs_ ?_; exact BK365.out) hb); have n1_ := Aside0.mk (below_step (by repeat (first | (with_reducible first | exact HB.out | apply below_alloc | apply pw_below_drewN | apply below_drew1 | refine below_set ?_ GE365.out) | exact HB.out)) hb); clear BK365; clear HB; have BK365 := n0_; have HB := n1_; clear n0_ n1_; (try clear hb); (try clear hb2); (try clear hk); (try clear hi)))
             repeat (go_quiet (first | (go_at_call 31; (with_reducible refine (clocheref01_Turned.calls kj14 a0_0 a0_1 a0_2 a0_3 (wrap64 (Int.tmod a1 4)) t372 _ A35.out).mono ?_); rintro e w57 ⟨rfl, hb⟩; have n0_ := Aside0.mk (blk_below (g := gb365) (o := .cells #[.int .i64 a0_0, .int .i64 a0_1, .int .i64 a0_2, .int .i64 a0_3] 23 (0, 0)) (by refine bs_ ?_; exact BK365.out) hb); have n1_ := Aside0.mk (below_step (by repeat (first | (with_reducible first | exact HB.out | apply below_alloc | apply pw_below_drewN | apply below_drew1 | refine below_set ?_ GE365.out) | exact HB.out)) hb); clear BK365; clear HB; have BK365 := n0_; have HB := n1_; clear n0_ n1_; (try clear hb); (try clear hb2); (try clear hk); (try clear hi)) | (go_at_call 30; (with_reducible refine (clocheref01_InRange.calls t372 false _ A36.out).mono ?_); rintro e w' ⟨rfl, ⟨nd, rfl⟩⟩; (try first | exact ⟨rfl, _, World.drewN_drewN _ _ _⟩ | exact ⟨rfl, _, Eq.trans (World.drewN_drewN _ _ _) (congrArg (World.drewN _) (Nat.add_assoc _ _ _))⟩)) | (go_at_call 19; (with_reducible refine (clochelaw01_alive.calls kj14  t375 _ A55.out).mono ?_); rintro e w58 ⟨rfl, hb⟩; have n0_ := Aside0.mk (blk_below (g := gb365) (o := .cells #[.int .i64 a0_0, .int .i64 a0_1, .int .i64 a0_2, .int .i64 a0_3] 23 (0, 0)) (by refine bs_ ?_; exact BK365.out) hb); have n1_ := Aside0.mk (below_step (by repeat (first | (with_reducible first | exact HB.out | apply below_alloc | apply pw_below_drewN | apply below_drew1 | refine below_set ?_ GE365.out) | exact HB.out)) hb); clear BK365; clear HB; have BK365 := n0_; have HB := n1_; clear n0_ n1_; (try clear hb); (try clear hb2); (try clear hk); (try clear hi))); try go_wp2_with (first | (go_at_call 31; (with_reducible refine (clocheref01_Turned.calls kj14 a0_0 a0_1 a0_2 a0_3 (wrap64 (Int.tmod a1 4)) t372 _ A35.out).mono ?_); rintro e w57 ⟨rfl, hb⟩; have n0_ := Aside0.mk (blk_below (g := gb365) (o := .cells #[.int .i64 a0_0, .int .i64 a0_1, .int .i64 a0_2, .int .i64 a0_3] 23 (0, 0)) (by refine bs_ ?_; exact BK365.out) hb); have n1_ := Aside0.mk (below_step (by repeat (first | (with_reducible first | exact HB.out | apply below_alloc | apply pw_below_drewN | apply below_drew1 | refine below_set ?_ GE365.out) | exact HB.out)) hb); clear BK365; clear HB; have BK365 := n0_; have HB := n1_; clear n0_ n1_; (try clear hb); (try clear hb2); (try clear hk); (try clear hi)) | (go_at_call 30; (with_reducible refine (clocheref01_InRange.calls t372 false _ A36.out).mono ?_); rintro e w' ⟨rfl, ⟨nd, rfl⟩⟩; (try first | exact ⟨rfl, _, World.drewN_drewN _ _ _⟩ | exact ⟨rfl, _, Eq.trans (World.drewN_drewN _ _ _) (congrArg (World.drewN _) (Nat.add_assoc _ _ _))⟩)) | (go_at_call 19; (with_reducible refine (clochelaw01_alive.calls kj14  t375 _ A55.out).mono ?_); rintro e w58 ⟨rfl, hb⟩; have n0_ := Aside0.mk (blk_below (g := gb365) (o := .cells #[.int .i64 a0_0, .int .i64 a0_1, .int .i64 a0_2, .int .i64 a0_3] 23 (0, 0)) (by refine bs_ ?_; exact BK365.out) hb); have n1_ := Aside0.mk (below_step (by repeat (first | (with_reducible first | exact HB.out | apply below_alloc | apply pw_below_drewN | apply below_drew1 | refine below_set ?_ GE365.out) | exact HB.out)) hb); clear BK365; clear HB; have BK365 := n0_; have HB := n1_; clear n0_ n1_; (try clear hb); (try clear hb2); (try clear hk); (try clear hi))))
             go_ret
             exact ⟨by first | rfl | (simp [errW_none, errW_some] <;> rfl) | (simp only [← hji5, ← hji8, ← hji11]; first | rfl | (simp [errW_none, errW_some] <;> rfl)) | (simp [*, errW_none, errW_some] <;> rfl), by repeat (first | (with_reducible first | exact HB.out | apply below_alloc | apply pw_below_drewN | apply below_drew1 | refine below_set ?_ GE365.out) | exact HB.out)⟩
            ·rw [if_neg c54] at H
             exact absurd H (by simp)
       ·rw [if_neg c13] at H
        exact absurd H (by simp)
      ·rw [if_neg c12] at H
       exact absurd H (by simp)
     ·rw [if_neg c10] at H
      exact absurd H (by simp)
    ·rw [if_neg c9] at H
     exact absurd H (by simp)
   ·rw [if_neg c7] at H
    exact absurd H (by simp)
  ·rw [if_neg c6] at H
   exact absurd H (by simp)
 ·replace c4 := Bool.eq_false_iff.mpr c4
  subst c4
  have H1 : ((clochelaw01_alive.f k).bind fun t367 => (some t367)) = some r := by rw [if_neg (show ¬ (false = true) by decide)] at H; exact H
  clear H
  have H := H1
  clear H1
  replace H := Option.bind_eq_some_iff.mp H
  obtain ⟨t367, A590, H⟩ := H
  replace H : (some t367) = some r := H
  have A59 := Aside0.mk A590
  clear A590
  obtain rfl := Option.some.inj H
  go_enter Try.func9, Try.ntmps9
  go_wp2_with (first | ((with_reducible refine gate_dst (N := 2) rfl ?_); (try (refine gate_guard (by rfl) ?_; dsimp only)); refine box_event ?hg (N := 2) ?hd (cs := #[.int .i64 a0_0, .int .i64 a0_1, .int .i64 a0_2, .int .i64 a0_3]) (t := 23) ?hr ?_; (case hd => rfl); (case hg => rfl); (case hr => exact gs_); intro gb365 hg w60 hbox hb; have n0_ := Aside0.mk (below_step (lw_ HB.out) hb); have n1_ := Aside0.mk (hbox); have n2_ := Aside0.mk ((by rw [hg]; exact (below_size (lw_ HB.out)) : w.heap.size ≤ gb365)); have n3_ := Aside0.mk ((by rw [hg]; exact (below_size (lw_ HB.out)) : w.heap.size ≤ gb365)); clear HB; have HB := n0_; have BK365 := n1_; have GW365 := n2_; have GE365 := n3_; clear n0_ n1_ n2_ n3_; clear hb hbox hg; have hcz61_0 : w60.cell? ⟨gb365, 0, none⟩ = some (.int .i64 a0_0) := (blk_cell BK365.out 0).trans rfl; have hcz61_1 : w60.cell? ⟨gb365, 1, none⟩ = some (.int .i64 a0_1) := (blk_cell BK365.out 1).trans rfl; have hcz61_2 : w60.cell? ⟨gb365, 2, none⟩ = some (.int .i64 a0_2) := (blk_cell BK365.out 2).trans rfl; have hcz61_3 : w60.cell? ⟨gb365, 3, none⟩ = some (.int .i64 a0_3) := (blk_cell BK365.out 3).trans rfl; have hfz61_0 := blk_frozen BK365.out 0; have hfz61_1 := blk_frozen BK365.out 1; have hfz61_2 := blk_frozen BK365.out 2; have hfz61_3 := blk_frozen BK365.out 3) | (go_at_call 27; (with_reducible refine (clocheref01_IsQuad.calls k a0_0 a0_1 a0_2 a0_3 false _ A3.out).mono ?_); rintro e w62 ⟨rfl, hb⟩; have n0_ := Aside0.mk (blk_below (g := gb365) (o := .cells #[.int .i64 a0_0, .int .i64 a0_1, .int .i64 a0_2, .int .i64 a0_3] 23 (0, 0)) (by refine bs_ ?_; exact BK365.out) hb); have n1_ := Aside0.mk (below_step (by repeat (first | (with_reducible first | exact HB.out | apply below_alloc | apply pw_below_drewN | apply below_drew1 | refine below_set ?_ GE365.out) | exact HB.out)) hb); clear BK365; clear HB; have BK365 := n0_; have HB := n1_; clear n0_ n1_; (try clear hb); (try clear hb2); (try clear hk); (try clear hi)) | (go_at_call 19; (with_reducible refine (clochelaw01_alive.calls k  t367 _ A59.out).mono ?_); rintro e w63 ⟨rfl, hb⟩; have n0_ := Aside0.mk (blk_below (g := gb365) (o := .cells #[.int .i64 a0_0, .int .i64 a0_1, .int .i64 a0_2, .int .i64 a0_3] 23 (0, 0)) (by refine bs_ ?_; exact BK365.out) hb); have n1_ := Aside0.mk (below_step (by repeat (first | (with_reducible first | exact HB.out | apply below_alloc | apply pw_below_drewN | apply below_drew1 | refine below_set ?_ GE365.out) | exact HB.out)) hb); clear BK365; clear HB; have BK365 := n0_; have HB := n1_; clear n0_ n1_; (try clear hb); (try clear hb2); (try clear hk); (try clear hi)))
  repeat (go_quiet (first | ((with_reducible refine gate_dst (N := 2) rfl ?_); (try (refine gate_guard (by rfl) ?_; dsimp only)); refine box_event ?hg (N := 2) ?hd (cs := #[.int .i64 a0_0, .int .i64 a0_1, .int .i64 a0_2, .int .i64 a0_3]) (t := 23) ?hr ?_; (case hd => rfl); (case hg => rfl); (case hr => exact gs_); intro gb365 hg w60 hbox hb; have n0_ := Aside0.mk (below_step (lw_ HB.out) hb); have n1_ := Aside0.mk (hbox); have n2_ := Aside0.mk ((by rw [hg]; exact (below_size (lw_ HB.out)) : w.heap.size ≤ gb365)); have n3_ := Aside0.mk ((by rw [hg]; exact (below_size (lw_ HB.out)) : w.heap.size ≤ gb365)); clear HB; have HB := n0_; have BK365 := n1_; have GW365 := n2_; have GE365 := n3_; clear n0_ n1_ n2_ n3_; clear hb hbox hg; have hcz61_0 : w60.cell? ⟨gb365, 0, none⟩ = some (.int .i64 a0_0) := (blk_cell BK365.out 0).trans rfl; have hcz61_1 : w60.cell? ⟨gb365, 1, none⟩ = some (.int .i64 a0_1) := (blk_cell BK365.out 1).trans rfl; have hcz61_2 : w60.cell? ⟨gb365, 2, none⟩ = some (.int .i64 a0_2) := (blk_cell BK365.out 2).trans rfl; have hcz61_3 : w60.cell? ⟨gb365, 3, none⟩ = some (.int .i64 a0_3) := (blk_cell BK365.out 3).trans rfl; have hfz61_0 := blk_frozen BK365.out 0; have hfz61_1 := blk_frozen BK365.out 1; have hfz61_2 := blk_frozen BK365.out 2; have hfz61_3 := blk_frozen BK365.out 3) | (go_at_call 27; (with_reducible refine (clocheref01_IsQuad.calls k a0_0 a0_1 a0_2 a0_3 false _ A3.out).mono ?_); rintro e w62 ⟨rfl, hb⟩; have n0_ := Aside0.mk (blk_below (g := gb365) (o := .cells #[.int .i64 a0_0, .int .i64 a0_1, .int .i64 a0_2, .int .i64 a0_3] 23 (0, 0)) (by refine bs_ ?_; exact BK365.out) hb); have n1_ := Aside0.mk (below_step (by repeat (first | (with_reducible first | exact HB.out | apply below_alloc | apply pw_below_drewN | apply below_drew1 | refine below_set ?_ GE365.out) | exact HB.out)) hb); clear BK365; clear HB; have BK365 := n0_; have HB := n1_; clear n0_ n1_; (try clear hb); (try clear hb2); (try clear hk); (try clear hi)) | (go_at_call 19; (with_reducible refine (clochelaw01_alive.calls k  t367 _ A59.out).mono ?_); rintro e w63 ⟨rfl, hb⟩; have n0_ := Aside0.mk (blk_below (g := gb365) (o := .cells #[.int .i64 a0_0, .int .i64 a0_1, .int .i64 a0_2, .int .i64 a0_3] 23 (0, 0)) (by refine bs_ ?_; exact BK365.out) hb); have n1_ := Aside0.mk (below_step (by repeat (first | (with_reducible first | exact HB.out | apply below_alloc | apply pw_below_drewN | apply below_drew1 | refine below_set ?_ GE365.out) | exact HB.out)) hb); clear BK365; clear HB; have BK365 := n0_; have HB := n1_; clear n0_ n1_; (try clear hb); (try clear hb2); (try clear hk); (try clear hi))); try go_wp2_with (first | ((with_reducible refine gate_dst (N := 2) rfl ?_); (try (refine gate_guard (by rfl) ?_; dsimp only)); refine box_event ?hg (N := 2) ?hd (cs := #[.int .i64 a0_0, .int .i64 a0_1, .int .i64 a0_2, .int .i64 a0_3]) (t := 23) ?hr ?_; (case hd => rfl); (case hg => rfl); (case hr => exact gs_); intro gb365 hg w60 hbox hb; have n0_ := Aside0.mk (below_step (lw_ HB.out) hb); have n1_ := Aside0.mk (hbox); have n2_ := Aside0.mk ((by rw [hg]; exact (below_size (lw_ HB.out)) : w.heap.size ≤ gb365)); have n3_ := Aside0.mk ((by rw [hg]; exact (below_size (lw_ HB.out)) : w.heap.size ≤ gb365)); clear HB; have HB := n0_; have BK365 := n1_; have GW365 := n2_; have GE365 := n3_; clear n0_ n1_ n2_ n3_; clear hb hbox hg; have hcz61_0 : w60.cell? ⟨gb365, 0, none⟩ = some (.int .i64 a0_0) := (blk_cell BK365.out 0).trans rfl; have hcz61_1 : w60.cell? ⟨gb365, 1, none⟩ = some (.int .i64 a0_1) := (blk_cell BK365.out 1).trans rfl; have hcz61_2 : w60.cell? ⟨gb365, 2, none⟩ = some (.int .i64 a0_2) := (blk_cell BK365.out 2).trans rfl; have hcz61_3 : w60.cell? ⟨gb365, 3, none⟩ = some (.int .i64 a0_3) := (blk_cell BK365.out 3).trans rfl; have hfz61_0 := blk_frozen BK365.out 0; have hfz61_1 := blk_frozen BK365.out 1; have hfz61_2 := blk_frozen BK365.out 2; have hfz61_3 := blk_frozen BK365.out 3) | (go_at_call 27; (with_reducible refine (clocheref01_IsQuad.calls k a0_0 a0_1 a0_2 a0_3 false _ A3.out).mono ?_); rintro e w62 ⟨rfl, hb⟩; have n0_ := Aside0.mk (blk_below (g := gb365) (o := .cells #[.int .i64 a0_0, .int .i64 a0_1, .int .i64 a0_2, .int .i64 a0_3] 23 (0, 0)) (by refine bs_ ?_; exact BK365.out) hb); have n1_ := Aside0.mk (below_step (by repeat (first | (with_reducible first | exact HB.out | apply below_alloc | apply pw_below_drewN | apply below_drew1 | refine below_set ?_ GE365.out) | exact HB.out)) hb); clear BK365; clear HB; have BK365 := n0_; have HB := n1_; clear n0_ n1_; (try clear hb); (try clear hb2); (try clear hk); (try clear hi)) | (go_at_call 19; (with_reducible refine (clochelaw01_alive.calls k  t367 _ A59.out).mono ?_); rintro e w63 ⟨rfl, hb⟩; have n0_ := Aside0.mk (blk_below (g := gb365) (o := .cells #[.int .i64 a0_0, .int .i64 a0_1, .int .i64 a0_2, .int .i64 a0_3] 23 (0, 0)) (by refine bs_ ?_; exact BK365.out) hb); have n1_ := Aside0.mk (below_step (by repeat (first | (with_reducible first | exact HB.out | apply below_alloc | apply pw_below_drewN | apply below_drew1 | refine below_set ?_ GE365.out) | exact HB.out)) hb); clear BK365; clear HB; have BK365 := n0_; have HB := n1_; clear n0_ n1_; (try clear hb); (try clear hb2); (try clear hk); (try clear hi))))
  go_ret
  exact ⟨by first | rfl | (simp [errW_none, errW_some] <;> rfl) | (simp [*, errW_none, errW_some] <;> rfl), by repeat (first | (with_reducible first | exact HB.out | apply below_alloc | apply pw_below_drewN | apply below_drew1 | refine below_set ?_ GE365.out) | exact HB.out)⟩

end Go.Proofs.Ytlfmafebmnggeaa.Print
