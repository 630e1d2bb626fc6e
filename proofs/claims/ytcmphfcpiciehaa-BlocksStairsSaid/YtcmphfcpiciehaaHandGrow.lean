/- slices.Grow of nil. -/
import Derived.Test.YtcmphfcpiciehaaProg
import Derived.Laws.EntriesVeiled
import Derived.Outline
import Derived.Below
import Derived.Deep.Draws
import Derived.Deep.AppendLies
import Derived.Maps.AppendAt
import Derived.OwnWalk
import Derived.Laws.BytesArg
import Derived.Laws.MakeOwn
import Derived.Laws.OwnMore
import Derived.Deep.OwnRows
import Derived.Tactics
import Derived.Lib.ConvBytes
import Derived.Laws.Slices
import Derived.WalkKit
import Derived.KernelRfl
import Derived.RowKit3
import Derived.Deep.LoopGhost
import Derived.Deep.QuietTactic
import Derived.BigQuiet
import Derived.WideLaws
import Derived.Deep.DeepCutAuto
import Derived.Deep.CutBlock
import Derived.Deep.RegionHeld3
import Derived.Laws.Rows
import Derived.Lib.AppendStr
import Derived.ArgAppend
import Derived.Laws.IdiomCopy
import Derived.OrdersHeld
import Derived.Laws.BitsLemmas
import Derived.RowKit
import Derived.Test.YtcmphfcpiciehaaWMore
import Derived.Test.YtcmphfcpiciehaaHandLib
namespace Go.Proofs.Ytcmphfcpiciehaa.Print
open Go.RowKit Go.Proofs.YtcmphfcpiciehaaW.PrintWords Go.Proofs.YtcmphfcpiciehaaW.PrintLast Go.Proofs.YtcmphfcpiciehaaW.PrintMore
attribute [local go_sem] max2_int min2_int max_two min_two max_three min_three max_four min_four
set_option linter.unusedVariables false
set_option linter.unusedSimpArgs false
/-! ### slices.Grow(nil, n): function 77 -/
theorem gInfo3 : (Try.prog.info? 3).map (fun i => (i.zero, i.size, i.bytes)) = some (some (.int .i64 0), 1, 8) := by kernel_rfl
def slices_Grow_int_int.f (l0 : List Int) (a1 : Int) : Option (List Int) := if l0 = [] ∧ 0 ≤ a1 ∧ a1 ≤ 1000000000 then some [] else none
theorem sub00 (a : Int) (h : 0 ≤ a) (h2 : a ≤ 1000000000) : wrap64 a = a := by
  unfold wrap64
  omega
set_option maxHeartbeats 2000000 in
theorem slices_Grow_int_int.calls (a1 : Int) (r : List Int) (w : World) (hr0 : Kd.C (Kd.int .i64) w none 0 []) (hc0 : (0 : Nat) ≤ 0) (h : slices_Grow_int_int.f [] a1 = some r) :
    Calls Try.prog 77 #[.slice none 0 0, .int .i64 a1] w fun e w' => ∃ v0_ : Value, e = .returned (v0_) ∧ Kd.R (Kd.int .i64) 3 w' w.heap.size (fun _ => True) v0_ r ∧ Below w.heap.size w w' := by
  unfold slices_Grow_int_int.f at h
  split at h
  case isFalse => cases h
  case isTrue hc =>
  obtain ⟨_, h0, h1⟩ := hc
  obtain rfl := Option.some.inj h
  have HB := Aside0.mk (Below.refl w.heap.size w)
  have c1 : decide (a1 < 0) = false := decide_eq_false (by omega)
  have e1 := sub00 a1 h0 h1
  have G0 := Aside0.mk (show 0 ≤ wrap64 a1 by rw [e1]; exact h0)
  have G1 := Aside0.mk (show wrap64 a1 ≤ 1000000000 by rw [e1]; exact h1)
  rw [← e1] at h0
  have hc2 : wrap64 a1 = a1 := e1
  clear h1 hr0 hc0 e1
  by_cases hp : 0 < wrap64 a1
  · have c2 : decide (0 < wrap64 a1) = true := decide_eq_true hp
    clear hp hc2 h0
    obtain ⟨i0, hi0, _, hsz, _⟩ := info_parts gInfo3
    go_enter Try.func77, Try.ntmps77
    go_wp2_with (first
      | ((with_reducible refine gate_builtin (b := .append) (xs := #[.tmp 20, .tmp 21]) rfl ?_); at_builtin; refine Kd.R_append_zeros (Kd.int .i64) (w0 := w) w.heap.size rfl (.tmp 20) (.tmp 21) 22 3 3 (.int .i64 0) 8 rfl Try.underlying22 Try.underlying3 gInfo3 rfl (by decide) (by omega) (.slice none 0 0) [] (0 : Int) (wrap64 a1) (fun _ => True) rfl rfl rfl ?aF ?aO ?aG ?aB ?aS ?aL ?_; (case aF => exact (fun _ _ => trivial)); (case aO => exact Kd.R_nil _ _ _ _ _); (case aG => exact G0.out); (case aB => exact HB.out); (case aS => exact Nat.le_refl _); (case aL => have := G1.out; simp; omega); intro v1 w1 ho hb hg hat; obtain ⟨A1, n1, rfl⟩ := Kd.R_slice ho; have HO := Aside0.mk ho; have HB1 := Aside0.mk hb; have hcut := cut_to (P := Try.prog) 22 3 .i64 Try.underlying22 hi0 A1 (([] : List Int) ++ List.replicate (wrap64 a1).toNat 0).length n1 (0 : Int) (by omega) (by omega) (Kd.R_reads' ho).2.1; clear ho hb hg hat))
    go_ret
    exact ⟨_, rfl, Kd.R_take (m := 0) HO.out (Nat.zero_le _), HB1.out⟩
  · have c2 : decide (0 < wrap64 a1) = false := decide_eq_false hp
    clear hp hc2 h0
    go_enter Try.func77, Try.ntmps77
    go_wp2
    go_ret
    exact ⟨_, rfl, Kd.R_nil _ _ _ _ _, by repeat (first | (with_reducible first | exact HB.out | apply below_alloc | apply pw_below_drewN | apply below_drew1) | exact HB.out)⟩

end Go.Proofs.Ytcmphfcpiciehaa.Print
