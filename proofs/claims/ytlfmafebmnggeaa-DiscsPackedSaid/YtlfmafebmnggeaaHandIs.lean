/- quad.is, walked by hand. -/
import Derived.Test.YtlfmafebmnggeaaProg
import Derived.Laws.EntriesVeiled
import Derived.Outline
import Derived.Below
import Derived.Deep.Draws
import Derived.Deep.AppendLies
import Derived.Maps.AppendAt
import Derived.OwnWalk
import Derived.Laws.BytesArg
import Derived.Laws.MakeOwn
import Derived.Laws.OwnMore
import Derived.Deep.OwnRows
import Derived.Tactics
import Derived.Lib.ConvBytes
import Derived.Laws.Slices
import Derived.WalkKit
import Derived.KernelRfl
import Derived.RowKit3
import Derived.Deep.LoopGhost
import Derived.Deep.QuietTactic
import Derived.BigQuiet
import Derived.WideLaws
import Derived.Deep.DeepCutAuto
import Derived.Deep.CutBlock
import Derived.Deep.RegionHeld3
import Derived.Laws.Rows
import Derived.Lib.AppendStr
import Derived.ArgAppend
import Derived.Laws.IdiomCopy
import Derived.OrdersHeld
import Derived.Laws.BitsLemmas
import Derived.RowKit
import Derived.Test.YtlfmafebmnggeaaWMore
import Derived.Test.YtlfmafebmnggeaaHandQuad
import Derived.Test.YtlfmafebmnggeaaPrinty1
namespace Go.Proofs.Ytlfmafebmnggeaa.Print
open Go.RowKit Go.Proofs.YtlfmafebmnggeaaW.PrintWords Go.Proofs.YtlfmafebmnggeaaW.PrintLast Go.Proofs.YtlfmafebmnggeaaW.PrintMore
attribute [local go_sem] max2_int min2_int max_two min_two max_three min_three max_four min_four
set_option linter.unusedVariables false
set_option linter.unusedSimpArgs false
/-! ### (quad).is: function 60; IsQuad: function 29 -/
theorem qInfo3 : (Try.prog.info? 3).map (fun i => (i.zero, i.size, i.bytes)) = some (some (.int .i64 0), 1, 8) := by kernel_rfl
theorem idx0 (a b c d : Int) (W : World) : Sem.run Try.prog (Instr.index 58 (.agg #[.int .i64 a, .int .i64 b, .int .i64 c, .int .i64 d]) (.int .i64 0)) W = .ok (.int .i64 a) W := by
  have hu58 := Try.underlying58
  have hu3 := Try.underlying3
  obtain ⟨i0, hi0, hz0, hz1, hz2⟩ := info_parts qInfo3
  simp [Instr.index, go_sem, hu58, hu3, hi0, hz1]
theorem idx1 (a b c d : Int) (W : World) : Sem.run Try.prog (Instr.index 58 (.agg #[.int .i64 a, .int .i64 b, .int .i64 c, .int .i64 d]) (.int .i64 1)) W = .ok (.int .i64 b) W := by
  have hu58 := Try.underlying58
  have hu3 := Try.underlying3
  obtain ⟨i0, hi0, hz0, hz1, hz2⟩ := info_parts qInfo3
  simp [Instr.index, go_sem, hu58, hu3, hi0, hz1]
theorem idx2 (a b c d : Int) (W : World) : Sem.run Try.prog (Instr.index 58 (.agg #[.int .i64 a, .int .i64 b, .int .i64 c, .int .i64 d]) (.int .i64 2)) W = .ok (.int .i64 c) W := by
  have hu58 := Try.underlying58
  have hu3 := Try.underlying3
  obtain ⟨i0, hi0, hz0, hz1, hz2⟩ := info_parts qInfo3
  simp [Instr.index, go_sem, hu58, hu3, hi0, hz1]
theorem idx3 (a b c d : Int) (W : World) : Sem.run Try.prog (Instr.index 58 (.agg #[.int .i64 a, .int .i64 b, .int .i64 c, .int .i64 d]) (.int .i64 3)) W = .ok (.int .i64 d) W := by
  have hu58 := Try.underlying58
  have hu3 := Try.underlying3
  obtain ⟨i0, hi0, hz0, hz1, hz2⟩ := info_parts qInfo3
  simp [Instr.index, go_sem, hu58, hu3, hi0, hz1]
attribute [local go_sem] idx0 idx1 idx2 idx3
def farB (x : Int) : Bool := decide (x < -1099511627776) || decide (x > 1099511627776)
theorem far_f (x : Int) : discs_far.f x = some (farB x) := by
  unfold discs_far.f farB
  by_cases h : x < -1099511627776
  · rw [if_pos h, decide_eq_true h]; rfl
  · rw [if_neg h, decide_eq_false h]; rfl
def halfF (q : Q4) : Int := wrap64 (wrap64 (wrap64 (q.d - q.a) - q.b) - q.c)
def sumF (q : Q4) : Int := wrap64 (wrap64 (wrap64 (q.a + q.b) + q.c) + q.d)
def quad_is.f (q : Q4) : Option Bool :=
  if farB q.a = true then some false else if farB q.b = true then some false else if farB q.c = true then some false else if farB q.d = true then some false else
  if Int.tmod (halfF q) 2 ≠ 0 then some false else if sumF q ≤ 0 then some false else discs_square.f (wrap64 (Int.tdiv (halfF q) 2)) q.a q.b q.c
set_option maxHeartbeats 4000000 in
set_option maxRecDepth 100000 in
theorem is_calls (q : Q4) (r : Bool) (w : World) (h : quad_is.f q = some r) :
    Calls Try.prog 60 #[agg4 q] w fun e w' => e = .returned (.bool r) ∧ Below w.heap.size w w' := by
  obtain ⟨a, b, c, d⟩ := q
  unfold quad_is.f halfF sumF at h
  simp only at h
  have HB := Aside0.mk (below_alloc (Below.refl w.heap.size w) (.cells #[.int .i64 a, .int .i64 b, .int .i64 c, .int .i64 d] 58))
  obtain ⟨e0, e1, e2, e3⟩ := (Bk.new w 58 ⟨a, b, c, d⟩).cell
  simp only at e0 e1 e2 e3
  have F1 := Aside0.mk (fun w' => discs_far.calls a _ w' (far_f a))
  have F2 := Aside0.mk (fun w' => discs_far.calls b _ w' (far_f b))
  have F3 := Aside0.mk (fun w' => discs_far.calls c _ w' (far_f c))
  have F4 := Aside0.mk (fun w' => discs_far.calls d _ w' (far_f d))
  unfold agg4
  simp only
  by_cases c1 : farB a = true
  · rw [if_pos c1] at h
    obtain rfl := Option.some.inj h
    rw [c1] at F1
    clear h
    go_enter Try.func60, Try.ntmps60
    go_wp2
    refine wp_loop_rounds 5 ?_
    rw [rounds_succ]
    go_wp2_with (first | (go_at_call 61; refine (F1.out _).mono ?_; rintro e w1 ⟨rfl, ⟨n1, rfl⟩⟩))
    go_ret
    exact ⟨rfl, by repeat (first | (with_reducible first | exact HB.out | apply pw_below_drewN | apply below_drew1) | exact HB.out)⟩
  rw [if_neg c1] at h
  rw [Bool.eq_false_iff.2 c1] at F1
  clear c1
  by_cases c2 : farB b = true
  · rw [if_pos c2] at h
    obtain rfl := Option.some.inj h
    rw [c2] at F2
    clear h
    go_enter Try.func60, Try.ntmps60
    go_wp2
    refine wp_loop_rounds 5 ?_
    rw [rounds_succ]
    go_wp2_with (first | (go_at_call 61; refine (F1.out _).mono ?_; rintro e w1 ⟨rfl, ⟨n1, rfl⟩⟩))
    rw [rounds_succ]
    go_wp2_with (first | (go_at_call 61; refine (F2.out _).mono ?_; rintro e w1 ⟨rfl, ⟨n2, rfl⟩⟩))
    go_ret
    exact ⟨rfl, by repeat (first | (with_reducible first | exact HB.out | apply pw_below_drewN | apply below_drew1) | exact HB.out)⟩
  rw [if_neg c2] at h
  rw [Bool.eq_false_iff.2 c2] at F2
  clear c2
  by_cases c3 : farB c = true
  · rw [if_pos c3] at h
    obtain rfl := Option.some.inj h
    rw [c3] at F3
    clear h
    go_enter Try.func60, Try.ntmps60
    go_wp2
    refine wp_loop_rounds 5 ?_
    rw [rounds_succ]
    go_wp2_with (first | (go_at_call 61; refine (F1.out _).mono ?_; rintro e w1 ⟨rfl, ⟨n1, rfl⟩⟩))
    rw [rounds_succ]
    go_wp2_with (first | (go_at_call 61; refine (F2.out _).mono ?_; rintro e w1 ⟨rfl, ⟨n2, rfl⟩⟩))
    rw [rounds_succ]
    go_wp2_with (first | (go_at_call 61; refine (F3.out _).mono ?_; rintro e w1 ⟨rfl, ⟨n3, rfl⟩⟩))
    go_ret
    exact ⟨rfl, by repeat (first | (with_reducible first | exact HB.out | apply pw_below_drewN | apply below_drew1) | exact HB.out)⟩
  rw [if_neg c3] at h
  rw [Bool.eq_false_iff.2 c3] at F3
  clear c3
  by_cases c4 : farB d = true
  · rw [if_pos c4] at h
    obtain rfl := Option.some.inj h
    rw [c4] at F4
    clear h
    go_enter Try.func60, Try.ntmps60
    go_wp2
    refine wp_loop_rounds 5 ?_
    rw [rounds_succ]
    go_wp2_with (first | (go_at_call 61; refine (F1.out _).mono ?_; rintro e w1 ⟨rfl, ⟨n1, rfl⟩⟩))
    rw [rounds_succ]
    go_wp2_with (first | (go_at_call 61; refine (F2.out _).mono ?_; rintro e w1 ⟨rfl, ⟨n2, rfl⟩⟩))
    rw [rounds_succ]
    go_wp2_with (first | (go_at_call 61; refine (F3.out _).mono ?_; rintro e w1 ⟨rfl, ⟨n3, rfl⟩⟩))
    rw [rounds_succ]
    go_wp2_with (first | (go_at_call 61; refine (F4.out _).mono ?_; rintro e w1 ⟨rfl, ⟨n4, rfl⟩⟩))
    go_ret
    exact ⟨rfl, by repeat (first | (with_reducible first | exact HB.out | apply pw_below_drewN | apply below_drew1) | exact HB.out)⟩
  rw [if_neg c4] at h
  rw [Bool.eq_false_iff.2 c4] at F4
  clear c4
  have HS := Aside0.mk (fun r' w' (hr : discs_square.f (wrap64 (Int.tdiv (wrap64 (wrap64 (wrap64 (d - a) - b) - c)) 2)) a b c = some r') => discs_square.calls _ a b c r' w' hr)
  by_cases c5 : Int.tmod (wrap64 (wrap64 (wrap64 (d - a) - b) - c)) 2 = 0
  · rw [if_neg (by simpa using c5)] at h
    by_cases c6 : wrap64 (wrap64 (wrap64 (a + b) + c) + d) ≤ 0
    · rw [if_pos c6] at h
      obtain rfl := Option.some.inj h
      clear h
      go_enter Try.func60, Try.ntmps60
      go_wp2
      refine wp_loop_rounds 5 ?_
      rw [rounds_succ]
      go_wp2_with (first | (go_at_call 61; refine (F1.out _).mono ?_; rintro e w1 ⟨rfl, ⟨n1, rfl⟩⟩))
      rw [rounds_succ]
      go_wp2_with (first | (go_at_call 61; refine (F2.out _).mono ?_; rintro e w1 ⟨rfl, ⟨n2, rfl⟩⟩))
      rw [rounds_succ]
      go_wp2_with (first | (go_at_call 61; refine (F3.out _).mono ?_; rintro e w1 ⟨rfl, ⟨n3, rfl⟩⟩))
      rw [rounds_succ]
      go_wp2_with (first | (go_at_call 61; refine (F4.out _).mono ?_; rintro e w1 ⟨rfl, ⟨n4, rfl⟩⟩))
      rw [rounds_succ]
      go_wp2
      go_quiet (fail)
      go_wp2
      go_ret
      exact ⟨rfl, by repeat (first | (with_reducible first | exact HB.out | apply pw_below_drewN | apply below_drew1) | exact HB.out)⟩
    · rw [if_neg c6] at h
      go_enter Try.func60, Try.ntmps60
      go_wp2
      refine wp_loop_rounds 5 ?_
      rw [rounds_succ]
      go_wp2_with (first | (go_at_call 61; refine (F1.out _).mono ?_; rintro e w1 ⟨rfl, ⟨n1, rfl⟩⟩))
      rw [rounds_succ]
      go_wp2_with (first | (go_at_call 61; refine (F2.out _).mono ?_; rintro e w1 ⟨rfl, ⟨n2, rfl⟩⟩))
      rw [rounds_succ]
      go_wp2_with (first | (go_at_call 61; refine (F3.out _).mono ?_; rintro e w1 ⟨rfl, ⟨n3, rfl⟩⟩))
      rw [rounds_succ]
      go_wp2_with (first | (go_at_call 61; refine (F4.out _).mono ?_; rintro e w1 ⟨rfl, ⟨n4, rfl⟩⟩))
      rw [rounds_succ]
      go_wp2
      go_quiet (fail)
      go_wp2_with (first | (go_at_call 73; refine (HS.out r _ h).mono ?_; rintro e w1 ⟨rfl, ⟨n5, rfl⟩⟩))
      go_ret
      exact ⟨rfl, by repeat (first | (with_reducible first | exact HB.out | apply pw_below_drewN | apply below_drew1) | exact HB.out)⟩
  · rw [if_pos (by simpa using c5)] at h
    obtain rfl := Option.some.inj h
    clear h
    go_enter Try.func60, Try.ntmps60
    go_wp2
    refine wp_loop_rounds 5 ?_
    rw [rounds_succ]
    go_wp2_with (first | (go_at_call 61; refine (F1.out _).mono ?_; rintro e w1 ⟨rfl, ⟨n1, rfl⟩⟩))
    rw [rounds_succ]
    go_wp2_with (first | (go_at_call 61; refine (F2.out _).mono ?_; rintro e w1 ⟨rfl, ⟨n2, rfl⟩⟩))
    rw [rounds_succ]
    go_wp2_with (first | (go_at_call 61; refine (F3.out _).mono ?_; rintro e w1 ⟨rfl, ⟨n3, rfl⟩⟩))
    rw [rounds_succ]
    go_wp2_with (first | (go_at_call 61; refine (F4.out _).mono ?_; rintro e w1 ⟨rfl, ⟨n4, rfl⟩⟩))
    rw [rounds_succ]
    go_wp2
    go_quiet (fail)
    go_wp2
    go_ret
    exact ⟨rfl, by repeat (first | (with_reducible first | exact HB.out | apply pw_below_drewN | apply below_drew1) | exact HB.out)⟩

/-! ### the contract as the printed texts want it -/
def discs_quad_is.f (a0_0 : Int) (a0_1 : Int) (a0_2 : Int) (a0_3 : Int) : Option (Bool) := quad_is.f ⟨a0_0, a0_1, a0_2, a0_3⟩
theorem discs_quad_is.calls (a0_0 : Int) (a0_1 : Int) (a0_2 : Int) (a0_3 : Int) (r : Bool) (w : World) (h : discs_quad_is.f a0_0 a0_1 a0_2 a0_3 = some r) :
    Calls Try.prog 60 #[.agg #[.int .i64 a0_0, .int .i64 a0_1, .int .i64 a0_2, .int .i64 a0_3]] w fun e w' => e = .returned (.bool r) ∧ Below w.heap.size w w' :=
  is_calls ⟨a0_0, a0_1, a0_2, a0_3⟩ r w h

end Go.Proofs.Ytlfmafebmnggeaa.Print
