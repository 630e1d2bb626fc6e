/- blocks.turned and its closure, by hand. -/
import Derived.Test.YtcmphfcpiciehaaProg
import Derived.Laws.EntriesVeiled
import Derived.Outline
import Derived.Below
import Derived.Deep.Draws
import Derived.Deep.AppendLies
import Derived.Maps.AppendAt
import Derived.OwnWalk
import Derived.Laws.BytesArg
import Derived.Laws.MakeOwn
import Derived.Laws.OwnMore
import Derived.Deep.OwnRows
import Derived.Tactics
import Derived.Lib.ConvBytes
import Derived.Laws.Slices
import Derived.WalkKit
import Derived.KernelRfl
import Derived.RowKit3
import Derived.Deep.LoopGhost
import Derived.Deep.QuietTactic
import Derived.BigQuiet
import Derived.WideLaws
import Derived.Deep.DeepCutAuto
import Derived.Deep.CutBlock
import Derived.Deep.RegionHeld3
import Derived.Laws.Rows
import Derived.Lib.AppendStr
import Derived.ArgAppend
import Derived.Laws.IdiomCopy
import Derived.OrdersHeld
import Derived.Laws.BitsLemmas
import Derived.RowKit
import Derived.Test.YtcmphfcpiciehaaWMore
import Derived.Test.YtcmphfcpiciehaaHandTotal
namespace Go.Proofs.Ytcmphfcpiciehaa.Print
open Go.RowKit Go.Proofs.YtcmphfcpiciehaaW.PrintWords Go.Proofs.YtcmphfcpiciehaaW.PrintLast Go.Proofs.YtcmphfcpiciehaaW.PrintMore
attribute [local go_sem] max2_int min2_int max_two min_two max_three min_three max_four min_four
set_option linter.unusedVariables false
set_option linter.unusedSimpArgs false
/-! ### blocks.turned: function 65; its closure: function 78 -/
theorem tInfo3 : (Try.prog.info? 3).map (fun i => (i.zero, i.size, i.bytes)) = some (some (.int .i64 0), 1, 8) := by kernel_rfl
def gtI (c x : Int) : Int := if x > c then 1 else 0
theorem above_calls (c x : Int) (b : Nat) (w : World) (hN : w.heap[b]? = some (.cells #[.int .i64 c] 3 (0, 0))) :
    Calls Try.prog 78 #[.int .i64 x, .pointer (some ⟨b, 0, none⟩)] w fun e w' => e = .returned (.int .i64 (gtI c x)) ∧ Drawn0 w w' := by
  have cN := cell_of_one hN
  unfold gtI
  clear hN
  by_cases hx : x > c
  · have c1 : decide (c < x) = true := decide_eq_true hx
    rw [if_pos hx]
    clear hx
    go_enter Try.func78, Try.ntmps78
    go_wp2
    go_ret
    exact ⟨rfl, by repeat (first | exact Drawn0.refl _ | apply Drawn0.step)⟩
  · have c1 : decide (c < x) = false := decide_eq_false hx
    rw [if_neg hx]
    clear hx
    go_enter Try.func78, Try.ntmps78
    go_wp2
    go_ret
    exact ⟨rfl, by repeat (first | exact Drawn0.refl _ | apply Drawn0.step)⟩
def blocks_turned.l0 : Nat → List Int → List Int → Int → Option (List Int)
  | 0, _, _, _ => none
  | k + 1, x0, x3, x4 => if 0 < (x0.length : Int) then (if x4 < rd x0 0 then ((totalG.f (gtI x4) k x0).bind fun t => (if x3.length < 17592186044416 then (blocks_turned.l0 k x0 (x3 ++ [t]) (wrap64 (x4 + 1))) else none)) else (some x3)) else (some x3)
def blocks_turned.f (k : Nat) (l0 : List Int) : Option (List Int) := blocks_turned.l0 k l0 [] 0
theorem blocks_turned.mono_l : ∀ k, (∀ y0 y1 y2, LeO (blocks_turned.l0 k y0 y1 y2) (blocks_turned.l0 (k + 1) y0 y1 y2))
  | 0 => fun _ _ _ r h => by simp [blocks_turned.l0] at h
  | k + 1 => by
    have ih0 := blocks_turned.mono_l k
    intro y0 y1 y2
    unfold blocks_turned.l0
    repeat' first
      | (with_reducible exact ih0 _ _ _)
      | (with_reducible exact totalG.mono _ _ _)
      | (with_reducible exact LeO.refl _)
      | (with_reducible exact LeO.none _)
      | (with_reducible refine LeO.ite ?_ ?_)
      | (with_reducible refine LeO.bind ?_ (fun _ => ?_))
      | exact ih0 _ _ _
      | exact totalG.mono _ _ _
theorem blocks_turned.mono (a0 : List Int) (k : Nat) : LeO (blocks_turned.f k a0) (blocks_turned.f (k + 1) a0) := blocks_turned.mono_l k a0 [] 0
set_option maxHeartbeats 4000000 in
set_option maxRecDepth 100000 in
theorem blocks_turned.calls (k : Nat) (A0 : Option Addr) (c0 : Nat) (l0 : List Int) (r : List Int) (w : World) (hr0 : Kd.C (Kd.int .i64) w A0 l0.length l0) (hc0 : l0.length ≤ c0) (h : blocks_turned.f k l0 = some r) :
    Calls Try.prog 65 #[.slice A0 l0.length c0] w fun e w' => ∃ v0_ : Value, e = .returned (v0_) ∧ Kd.R (Kd.int .i64) 3 w' w.heap.size (fun _ => True) v0_ r ∧ Below w.heap.size w w' := by
  have HR0 := Aside0.mk hr0
  have HC0 := Aside0.mk hc0
  clear hr0 hc0
  have HB := Aside0.mk (Below.refl w.heap.size w)
  have H : (blocks_turned.l0 k l0 [] 0) = some r := h
  clear h
  have H' := Aside0.mk H
  clear H
  go_enter Try.func65, Try.ntmps65
  go_wp2
  go_loopg [3, 4] k (fun kq v3 v4 w' => ∃ (x3_1 : List Int) (x4_1 : Int) (b : Nat), v4 = .pointer (some ⟨b, 0, none⟩) ∧ Aside0 (blocks_turned.l0 kq l0 x3_1 x4_1 = some r) ∧ Aside0 (kq ≤ k) ∧ Aside0 (w'.heap[b]? = some (.cells #[.int .i64 x4_1] 3 (0, 0))) ∧ Aside0 (w.heap.size ≤ b) ∧ Aside0 (Kd.R (Kd.int .i64) 3 w' w.heap.size (fun k_ => k_ ≠ b) v3 x3_1) ∧ Aside0 (Below w.heap.size w w'))
  case atStart => exact ⟨[], 0, w.heap.size, rfl, H', ⟨Nat.le_refl _⟩, ⟨blk_new _ _⟩, ⟨Nat.le_refl _⟩, ⟨Kd.R_nil _ _ _ _ _⟩, ⟨by repeat (first | (with_reducible first | exact HB.out | apply below_alloc | apply pw_below_drewN | apply below_drew1) | exact HB.out)⟩⟩
  case round =>
    clear H' HB
    obtain ⟨x3_1, x4_1, b, rfl, HA, HK1, HN, HG, HO_3, HB⟩ := hrel
    have cN := cell_of_one HN.out
    cases gk with
    | zero => exact absurd HA.out (by simp [blocks_turned.l0])
    | succ k1 =>
      have H := HA.out
      clear HA
      simp only [blocks_turned.l0] at H
      by_cases c2 : 0 < (l0.length : Int)
      · rw [if_pos c2] at H
        have c2b0 : decide (0 < (l0.length : Int)) = true := decide_eq_true c2
        have c2b1 : decide (0 < l0.length) = true := decide_eq_true (by omega)
        have p1 : (0 : Int) ≤ (0 : Int) := Int.le_refl _
        obtain ⟨ad1, e1, hx1⟩ := Kd.at_int (Kd.C_below HR0.out HB.out) (0 : Int) p1 c2
        cases e1
        have qi1 : (0 < l0.length) = True := eq_true (by omega)
        (try rw [show ((0 : Int)).toNat = 0 from rfl] at hx1)
        (try rw [Addr.add_zero'] at hx1)
        replace p1 := eq_true p1
        have q1 := eq_true c2
        clear c2
        by_cases c3 : x4_1 < rd l0 0
        · rw [if_pos c3] at H
          have c3b0 : decide (x4_1 < rd l0 0) = true := decide_eq_true c3
          clear c3
          obtain ⟨t, ht, H⟩ := Option.bind_eq_some_iff.mp H
          have A1 := Aside0.mk ht
          clear ht
          split at H
          case isFalse => cases H
          case isTrue hlim =>
          have LM := Aside0.mk hlim
          clear hlim
          have H' := Aside0.mk H
          clear H
          have htot : ∀ m, Calls Try.prog 57 #[.slice (some ad1) l0.length c0, .func (.func 78) #[] #[.pointer (some ⟨b, 0, none⟩)]] (wr.drewN m) fun e w' => e = .returned (.int .i64 t) ∧ Drawn0 (wr.drewN m) w' := fun m =>
            totalG.calls (gtI x4_1) 78 _ Try.func78 (by kernel_rfl) rfl #[.pointer (some ⟨b, 0, none⟩)] k1 (some ad1) c0 l0 t (wr.drewN m) (fun x m2 => above_calls x4_1 x b _ (blk_drewN (blk_drewN HN.out m) m2)) (Kd.C_drewN (Kd.C_below HR0.out HB.out) m) HC0.out A1.out
          have HT := Aside0.mk htot
          clear htot
          go_wp2
          repeat (go_quiet (fail); try go_wp2_with (first
            | ((with_reducible refine gate_callee (f := 57) rfl ?_); refine goesL_ (some 20) rfl rfl Try.func57 (by kernel_rfl) rfl #[.slice (some ad1) l0.length c0, .func (.func 78) #[] #[.pointer (some ⟨b, 0, none⟩)]] rfl (by (try simp only [List.map_toArray, List.map_cons, List.map_nil]); first | done | rfl) ?_; refine (HT.out _).mono ?_; rintro e w' ⟨rfl, ⟨nd, rfl⟩⟩; refine ⟨_, rfl, ?_⟩)
            | ((with_reducible refine gate_builtin (b := .append) (xs := #[.tmp 17, .tmp 21]) rfl ?_); at_builtin; refine Kd.R_append (Kd.int .i64) (w0 := w) w.heap.size rfl (.tmp 17) (.tmp 21) 22 3 (.int .i64 0) 8 rfl Try.underlying22 tInfo3 rfl (by decide) (by omega) u3 x3_1 t [.int .i64 t] (fun k_ => k_ ≠ b) (fun _ => False) rfl rfl ?aP (fun _ hk => hk.elim) ?aF ?aO ?aB ?aS ?aL ?_; (case aP => exact rfl); (case aB => exact (by repeat (first | (with_reducible first | exact HB.out | apply below_alloc | apply pw_below_drewN | apply below_drew1) | exact HB.out))); (case aF => exact (fun k_ hk => by have := blk_lt HN.out; have hk2 : wr.heap.size ≤ k_ := hk; omega)); (case aO => exact (by (with_reducible repeat (first | apply Kd.R_alloc | apply Kd.R_drewN | apply Kd.R_drew)); exact HO_3.out)); (case aS => exact (below_size (by repeat (first | (with_reducible first | exact HB.out | apply below_alloc | apply pw_below_drewN | apply below_drew1) | exact HB.out)))); (case aL => have := LM.out; omega); intro v1 w1 ho hb hg hat; have N1 := Aside0.mk (blk_grown (blk_drewN HN.out _) hg (Kd.R_away HO_3.out (fun k_ hk => hk))); have n0_ := Aside0.mk hb; have n1_ := Aside0.mk ho; clear HB HO_3 HN cN hx1; have HB := n0_; have HO_3 := n1_; clear n0_ n1_ ho hb hg hat; have cN := cell_of_one N1.out)))
          go_roundg k1
          case measure => have := HK1.out; omega
          case rel => exact ⟨x3_1 ++ [t], wrap64 (x4_1 + 1), w1.heap.size, rfl, H', ⟨by have := HK1.out; omega⟩, ⟨blk_new _ _⟩, ⟨below_size HB.out⟩, ⟨Kd.R_mono (Kd.R_alloc (Kd.R_elderB HO_3.out w1.heap.size (Nat.le_refl _)) _) (fun _ hk => hk.2)⟩, ⟨by repeat (first | (with_reducible first | exact HB.out | apply below_alloc | apply pw_below_drewN | apply below_drew1) | exact HB.out)⟩⟩
        · rw [if_neg c3] at H
          have c3b0 : decide (x4_1 < rd l0 0) = false := decide_eq_false c3
          clear c3
          obtain rfl := Option.some.inj H
          go_wp2
          repeat (go_quiet (fail); try go_wp2)
          go_ret
          exact ⟨_, rfl, Kd.R_mono (by (with_reducible repeat (first | apply Kd.R_alloc | apply Kd.R_drewN | apply Kd.R_drew)); exact HO_3.out) (fun _ _ => trivial), by repeat (first | (with_reducible first | exact HB.out | apply below_alloc | apply pw_below_drewN | apply below_drew1) | exact HB.out)⟩
      · rw [if_neg c2] at H
        have c2b0 : decide (0 < (l0.length : Int)) = false := decide_eq_false c2
        have c2b1 : decide (0 < l0.length) = false := decide_eq_false (by omega)
        clear c2
        obtain rfl := Option.some.inj H
        go_wp2
        repeat (go_quiet (fail); try go_wp2)
        go_ret
        exact ⟨_, rfl, Kd.R_mono (by (with_reducible repeat (first | apply Kd.R_alloc | apply Kd.R_drewN | apply Kd.R_drew)); exact HO_3.out) (fun _ _ => trivial), by repeat (first | (with_reducible first | exact HB.out | apply below_alloc | apply pw_below_drewN | apply below_drew1) | exact HB.out)⟩

end Go.Proofs.Ytcmphfcpiciehaa.Print
