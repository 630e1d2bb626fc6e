/- IsRoot, walked by hand. -/
import Derived.Test.YtlfmafebmnggeaaProg
import Derived.Laws.EntriesVeiled
import Derived.Outline
import Derived.Below
import Derived.Deep.Draws
import Derived.Deep.AppendLies
import Derived.Maps.AppendAt
import Derived.OwnWalk
import Derived.Laws.BytesArg
import Derived.Laws.MakeOwn
import Derived.Laws.OwnMore
import Derived.Deep.OwnRows
import Derived.Tactics
import Derived.Lib.ConvBytes
import Derived.Laws.Slices
import Derived.WalkKit
import Derived.KernelRfl
import Derived.RowKit3
import Derived.Deep.LoopGhost
import Derived.Deep.QuietTactic
import Derived.BigQuiet
import Derived.WideLaws
import Derived.Deep.DeepCutAuto
import Derived.Deep.CutBlock
import Derived.Deep.RegionHeld3
import Derived.Laws.Rows
import Derived.Lib.AppendStr
import Derived.ArgAppend
import Derived.Laws.IdiomCopy
import Derived.OrdersHeld
import Derived.Laws.BitsLemmas
import Derived.RowKit
import Derived.Test.YtlfmafebmnggeaaWMore
import Derived.Test.YtlfmafebmnggeaaHandIs
import Derived.Test.YtlfmafebmnggeaaHandBx
import Derived.Test.YtlfmafebmnggeaaPrinty2
namespace Go.Proofs.Ytlfmafebmnggeaa.Print
open Go.RowKit Go.Proofs.YtlfmafebmnggeaaW.PrintWords Go.Proofs.YtlfmafebmnggeaaW.PrintLast Go.Proofs.YtlfmafebmnggeaaW.PrintMore
attribute [local go_sem] max2_int min2_int max_two min_two max_three min_three max_four min_four
set_option linter.unusedVariables false
set_option linter.unusedSimpArgs false
/-! ### IsRoot: function 33 -/
theorem Bk.reads {w : World} {b : Nat} {e : TypeId} {q : Q4} (h : Bk w b e q) : Kd.C (Kd.int .i64) w (some ⟨b, 0, none⟩) [q.a, q.b, q.c, q.d].length [q.a, q.b, q.c, q.d] := by
  refine Kd.C_of_reads (d := 0) ⟨rfl, by simp, fun _ => ⟨_, rfl, ?_⟩⟩
  obtain ⟨e0, e1, e2, e3⟩ := h.cell
  intro j hj
  match j, hj with
  | 0, _ => exact e0
  | 1, _ => exact e1
  | 2, _ => exact e2
  | 3, _ => exact e3
def discs_IsRoot.f (k : Nat) (a0_0 : Int) (a0_1 : Int) (a0_2 : Int) (a0_3 : Int) : Option (Bool) :=
  (quad_is.f ⟨a0_0, a0_1, a0_2, a0_3⟩).bind fun t => if t = true then ((slices_IsSorted_int_int.f k [a0_0, a0_1, a0_2, a0_3]).bind fun s => if s = true then (if a0_0 ≤ 0 then some (decide (wrap64 (wrap64 (a0_0 + a0_1) + a0_2) ≥ a0_3)) else some false) else some false) else some false
theorem discs_IsRoot.mono : ∀ a0 a1 a2 a3 k, LeO (discs_IsRoot.f k a0 a1 a2 a3) (discs_IsRoot.f (k + 1) a0 a1 a2 a3) := by
  intro a0 a1 a2 a3 k
  exact LeO.bind (LeO.refl _) (fun _ => LeO.ite (LeO.bind (slices_IsSorted_int_int.mono _ _) (fun _ => LeO.refl _)) (LeO.refl _))
set_option maxHeartbeats 4000000 in
set_option maxRecDepth 100000 in
theorem discs_IsRoot.calls (k : Nat) (a0_0 : Int) (a0_1 : Int) (a0_2 : Int) (a0_3 : Int) (r : Bool) (w : World) (h : discs_IsRoot.f k a0_0 a0_1 a0_2 a0_3 = some r) :
    Calls Try.prog 33 #[.agg #[.int .i64 a0_0, .int .i64 a0_1, .int .i64 a0_2, .int .i64 a0_3]] w fun e w' => e = .returned (.bool r) ∧ Below w.heap.size w w' := by
  unfold discs_IsRoot.f at h
  have hB := Bk.new w 23 ⟨a0_0, a0_1, a0_2, a0_3⟩
  have HB := Aside0.mk (below_alloc (Below.refl w.heap.size w) (.cells #[.int .i64 a0_0, .int .i64 a0_1, .int .i64 a0_2, .int .i64 a0_3] 23))
  obtain ⟨e0, e1, e2, e3⟩ := hB.cell
  have hB := Aside0.mk hB
  simp only at e0 e1 e2 e3
  obtain ⟨t, ht, h⟩ := Option.bind_eq_some_iff.mp h
  have HI := Aside0.mk (fun w' => is_calls ⟨a0_0, a0_1, a0_2, a0_3⟩ t w' ht)
  clear ht
  unfold agg4 at HI
  cases t with
  | false =>
    rw [if_neg (by decide)] at h
    obtain rfl := Option.some.inj h
    clear h
    go_enter Try.func33, Try.ntmps33
    go_wp2_with (first | (go_at_call 60; refine (HI.out _).mono ?_; rintro e w1 ⟨rfl, hb⟩; have HB1 := Aside0.mk (HB.out.trans (hb.mono HB.out.size)); clear hb))
    go_ret
    exact ⟨rfl, HB1.out⟩
  | true =>
    rw [if_pos rfl] at h
    obtain ⟨s, hs, h⟩ := Option.bind_eq_some_iff.mp h
    have HS := Aside0.mk (fun w' (hw : Bk w' w.heap.size 23 ⟨a0_0, a0_1, a0_2, a0_3⟩) => slices_IsSorted_int_int.calls k _ 4 _ s w' hw.reads (by simp) hs)
    clear hs
    cases s with
    | false =>
      rw [if_neg (by decide)] at h
      obtain rfl := Option.some.inj h
      clear h
      go_enter Try.func33, Try.ntmps33
      go_wp2_with (first | (go_at_call 60; refine (HI.out _).mono ?_; rintro e w1 ⟨rfl, hb⟩; have HB1 := Aside0.mk (HB.out.trans (hb.mono HB.out.size)); have hB1 := Bk.below hB.out hb; clear hb; obtain ⟨f0, f1, f2, f3⟩ := hB1.cell; have hB1 := Aside0.mk hB1) | (go_at_call 62; refine (HS.out _ hB1.out).mono ?_; rintro e w2 ⟨rfl, ⟨n, rfl⟩⟩))
      go_ret
      exact ⟨rfl, pw_below_drewN HB1.out _⟩
    | true =>
      rw [if_pos rfl] at h
      by_cases c : a0_0 ≤ 0
      · rw [if_pos c] at h
        have cb : decide (a0_0 ≤ 0) = true := decide_eq_true c
        clear c
        obtain rfl := Option.some.inj h
        clear h
        go_enter Try.func33, Try.ntmps33
        go_wp2_with (first | (go_at_call 60; refine (HI.out _).mono ?_; rintro e w1 ⟨rfl, hb⟩; have HB1 := Aside0.mk (HB.out.trans (hb.mono HB.out.size)); have hB1 := Bk.below hB.out hb; clear hb; obtain ⟨f0, f1, f2, f3⟩ := hB1.cell; have hB1 := Aside0.mk hB1) | (go_at_call 62; refine (HS.out _ hB1.out).mono ?_; rintro e w2 ⟨rfl, ⟨n, rfl⟩⟩))
        go_ret
        exact ⟨rfl, pw_below_drewN HB1.out _⟩
      · rw [if_neg c] at h
        have cb : decide (a0_0 ≤ 0) = false := decide_eq_false c
        clear c
        obtain rfl := Option.some.inj h
        clear h
        go_enter Try.func33, Try.ntmps33
        go_wp2_with (first | (go_at_call 60; refine (HI.out _).mono ?_; rintro e w1 ⟨rfl, hb⟩; have HB1 := Aside0.mk (HB.out.trans (hb.mono HB.out.size)); have hB1 := Bk.below hB.out hb; clear hb; obtain ⟨f0, f1, f2, f3⟩ := hB1.cell; have hB1 := Aside0.mk hB1) | (go_at_call 62; refine (HS.out _ hB1.out).mono ?_; rintro e w2 ⟨rfl, ⟨n, rfl⟩⟩))
        go_ret
        exact ⟨rfl, pw_below_drewN HB1.out _⟩

end Go.Proofs.Ytlfmafebmnggeaa.Print
