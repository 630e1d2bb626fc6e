/- A range over a function inside an unfenced walk; slices.Backward. -/
import Derived.Test.YtmigibamdeodpaaProg
import Derived.Laws.EntriesVeiled
import Derived.Outline
import Derived.Below
import Derived.Deep.Draws
import Derived.Deep.AppendLies
import Derived.Maps.AppendAt
import Derived.OwnWalk
import Derived.Laws.BytesArg
import Derived.Laws.MakeOwn
import Derived.Laws.OwnMore
import Derived.Deep.OwnRows
import Derived.Tactics
import Derived.Lib.ConvBytes
import Derived.Laws.Slices
import Derived.WalkKit
import Derived.KernelRfl
import Derived.RowKit3
import Derived.Deep.LoopGhost
import Derived.Deep.QuietTactic
import Derived.BigQuiet
import Derived.WideLaws
import Derived.Deep.DeepCutAuto
import Derived.Deep.CutBlock
import Derived.Deep.RegionHeld3
import Derived.Laws.Rows
import Derived.Lib.AppendStr
import Derived.ArgAppend
import Derived.Laws.IdiomCopy
import Derived.OrdersHeld
import Derived.Laws.BitsLemmas
import Derived.RowKit
import Derived.Test.YtmigibamdeodpaaWWords
import Derived.Test.YtmigibamdeodpaaWLast
import Derived.Test.YtmigibamdeodpaaWTab
import Derived.Test.YtmigibamdeodpaaWQPut
import Derived.Test.YtmigibamdeodpaaWApart
import Derived.Test.YtmigibamdeodpaaWArr
import Derived.Test.YtmigibamdeodpaaWZeros
import Derived.Test.YtmigibamdeodpaaWFoot
import Derived.Test.YtmigibamdeodpaaWKept
import Derived.Test.YtmigibamdeodpaaWShare
import Derived.Test.YtmigibamdeodpaaWN
import Derived.Test.YtmigibamdeodpaaWRepsOne
import Derived.Test.YtmigibamdeodpaaWGuard
import Derived.Test.YtmigibamdeodpaaWNEv
import Derived.Test.YtmigibamdeodpaaWMore
import Derived.RangeFuncBox
import Derived.RangeFuncLeaves
import Derived.RangeFuncNested
import Derived.RangeFuncBound
import Derived.RangeFuncCalls
import Derived.Shelf.Abstract
import Derived.OwnWalkIn
import Derived.TacticsInMore
import Derived.LoopNIn
import Derived.LoopIn
import Derived.OrdersIn
import Derived.Test.YtmigibamdeodpaaHand0
namespace Go.Proofs.Ytmigibamdeodpaa.Print
open Go.RowKit Go.Proofs.YtmigibamdeodpaaW.PrintWords Go.Proofs.YtmigibamdeodpaaW.PrintLast Go.Proofs.YtmigibamdeodpaaW.PrintMore
attribute [local go_sem] max2_int min2_int max_two min_two max_three min_three max_four min_four
set_option linter.unusedVariables false
set_option linter.unusedSimpArgs false
open Go.Shelf
section
variable {P : Program} {ops : Array Oper} {Q : Exit → Act → World → Prop}
/-- Without a way out of memory and without a defer statement what holds of a region anywhere holds of it in a round. -/
theorem lift_upon {o : Oper} {a : Act} {w : World} {l0 n : Nat} (hnd : ∀ c, o.op ≠ .defer c) (K : Act → World → Prop) (h : o.wp P a w K Q) : o.wpIn (Fence.wide.inRound l0) n P a w K Q := by
  refine ⟨fun _ _ => trivial, ?_⟩
  rw [Oper.semAt_eq _ _ _ hnd]
  unfold Oper.wp at h
  generalize (execOp a.eval o).run P w = r at h
  cases r with
  | ok x w' =>
    cases x <;> simp only [Oper.upon, Oper.uponIn] at h ⊢ <;> first
      | exact h
      | exact ⟨fun hh => by simp [Fence.wide] at hh, CallsIn.inRound l0 (callsIn_wide.2 h)⟩
      | (refine ⟨fun hh => by simp [Fence.wide] at hh, fun c cs _ => ?_⟩
         obtain ⟨v, w2, hr, hs⟩ := h c cs
         exact ⟨v, w2, hr, stepsIn_wide.2 hs⟩)
  | halt x w' => cases x <;> simp only [Oper.upon, Oper.uponIn] at h ⊢ <;> exact h
theorem lift_ops {l0 n : Nat} (hQ : ¬ LetsOut Q) (hnd : ∀ (i : Nat) (o : Oper), ops[i]? = some o → ∀ c, o.op ≠ .defer c) : ∀ (l : List Nat) (a : Act) (w : World), wpOps P ops Q l a w → wpOpsIn (Fence.wide.inRound l0) n P ops Q l a w
  | [], _, _, h => h
  | i :: rest, a, w, h => by
    rw [wpOps_cons] at h
    rw [wpOpsIn_cons]
    unfold wpOp at h
    unfold wpOpIn
    cases ho : ops[i]? with
    | none => simp only [ho] at h ⊢; exact lift_ops hQ hnd rest _ _ h
    | some o =>
      simp only [ho] at h ⊢
      by_cases hw : Region.wanted o (yielded ops a.tmps) = true
      · simp only [hw, if_true] at h ⊢
        rcases h with h | h
        · exact Oper.wpIn_mono (fun a w h => lift_ops hQ hnd rest a w h) (lift_upon (hnd i o ho) _ h)
        · exact absurd h.2 hQ
      · simp only [hw] at h ⊢
        exact ⟨fun _ _ => trivial, lift_ops hQ hnd rest _ _ h⟩
def noDefer (ops : Array Oper) : Bool := ops.all fun o => match o.op with | .defer _ => false | _ => true
theorem noDefer_spec (h : noDefer ops = true) (i : Nat) (o : Oper) (ho : ops[i]? = some o) : ∀ c, o.op ≠ .defer c := by
  intro c hc
  have := Array.all_eq_true.1 h i (Array.getElem?_eq_some_iff.1 ho).1
  rw [(Array.getElem?_eq_some_iff.1 ho).2, hc] at this
  cases this
/-- 'start_' in a round. -/
theorem startIn_ {S : World → Prop} {ds : List Nat} {id n l0 m : Nat} {a : Act} {w : World} (hQ : ¬ LetsOut Q) (hnd : noDefer ops = true) (l : Array Bool) (hm : P.follows .mixedOrders = true) (hn : ops.size = n) (hl : Array.replicate n false = l) (hS : S w.drew)
    (h : S w.drew → wpAnyLast P .any ops Q S ds n l a w.drew) : (Code.region id ops true).wpIn (Fence.wide.inRound l0) m P Q a w := by
  subst hn
  subst hl
  refine wpIn_region_draw fun t => lift_ops hQ (noDefer_spec hnd) _ _ _ ?_
  simp only [Region.schedule, hm, Bool.true_or, if_true]
  exact wpAny_sound ops.size t _ a _ (wpAny_of_last _ _ _ _ (h hS))
/-- A plain region in a round. -/
theorem plainIn_ {id l0 m : Nat} {a : Act} {w : World} (hQ : ¬ LetsOut Q) (hnd : noDefer ops = true) (h : wpOps P ops Q (List.range ops.size) a w) : (Code.region id ops false).wpIn (Fence.wide.inRound l0) m P Q a w :=
  wpIn_region (lift_ops hQ (noDefer_spec hnd) _ _ _ h)
end
theorem not_letsOut_G {α : Type} (B : Nat) (Kp : World → World → Prop) (I : List α → World → Prop) (Ix : Code → List α → World → Prop) (xs : List α) (W : World) : ¬ LetsOut (ownPostG B Kp I Ix xs W) := fun ⟨_, _, h⟩ => h
/-- What slices.Backward hands on: index and number, the last first. -/
def revP (xs : List Int) (k : Nat) : List (Int × Int) := (List.range k).map fun (j : Nat) => ((xs.length : Int) - 1 - (j : Int), rd xs ((xs.length : Int) - 1 - (j : Int)))
theorem revP_succ (xs : List Int) (k : Nat) : revP xs (k + 1) = revP xs k ++ [((xs.length : Int) - 1 - k, rd xs ((xs.length : Int) - 1 - k))] := by simp [revP, List.range_succ]
theorem revP_length (xs : List Int) (k : Nat) : (revP xs k).length = k := by simp [revP]
theorem revP_snd (xs : List Int) : (revP xs xs.length).map (·.2) = xs.reverse := by
  apply List.ext_getElem
  · simp [revP]
  · intro i h1 h2
    have hi : i < xs.length := by simpa [revP] using h1
    simp only [revP, List.map_map, List.getElem_map, List.getElem_range, Function.comp, rd, List.getElem_reverse]
    rw [show ((xs.length : Int) - 1 - i).toNat = xs.length - 1 - i from by omega]
    simp [List.getD_eq_getElem?_getD, List.getElem?_eq_getElem (show xs.length - 1 - i < xs.length by omega)]
theorem add_block (ad : Addr) (n : Nat) : (ad.add n).block = ad.block := by unfold Addr.add; split <;> rfl
/-- The blocks of T are as they were. -/
def KeepT (T : Nat → Prop) (W W' : World) : Prop := W.heap.size ≤ W'.heap.size ∧ ∀ k, T k → W'.heap[k]? = W.heap[k]?
theorem KeepT.refl (T : Nat → Prop) (W : World) : KeepT T W W := ⟨Nat.le_refl _, fun _ _ => rfl⟩
theorem KeepT.trans {T : Nat → Prop} {A B C : World} (h : KeepT T A B) (k : KeepT T B C) : KeepT T A C := ⟨Nat.le_trans h.1 k.1, fun i hi => (k.2 i hi).trans (h.2 i hi)⟩
theorem KeepT.put {T : Nat → Prop} {w : World} (hT : ∀ k, T k → k < w.heap.size) (W : World) (l : Nat) (o o' : Obj) (hl : w.heap.size ≤ l) (h : W.heap[l]? = some o) (_ : o.isCells = false) (_ : o.isWalk = false) : KeepT T W (W.putObj l o') := by
  have hg := grownBy_putObj' W l o'
  have hlt := (Array.getElem?_eq_some_iff.1 h).1
  refine ⟨hg.size, fun k hk => hg.block k (by have := hT k hk; omega) (fun e => ?_)⟩
  cases e
  have := hT _ hk
  omega
theorem KeepT.of_below {T : Nat → Prop} {n : Nat} {W W' : World} (hT : ∀ k, T k → k < n) (hb : Below n W W') : KeepT T W W' := ⟨hb.size, fun k hk => hb.block k (hT k hk)⟩
theorem KeepT.cell {T : Nat → Prop} {W W' : World} (h : KeepT T W W') {p : Addr} (hp : T p.block) : W'.cell? p = W.cell? p := World.cell?_of_block (w := W) (h.2 p.block hp)
/-- A slice of whole numbers, its cells in T. -/
def IntsT (T : Nat → Prop) (W : World) (A : Option Addr) (xs : List Int) : Prop := ∀ i : Int, 0 ≤ i → i < xs.length → ∃ ad, A = some ad ∧ T ad.block ∧ W.cell? (ad.add i.toNat) = some (.int .i64 (rd xs i))
theorem IntsT.keep {T : Nat → Prop} {W W' : World} {A : Option Addr} {xs : List Int} (h : IntsT T W A xs) (hb : KeepT T W W') : IntsT T W' A xs := fun i h0 h1 => by
  obtain ⟨ad, e, hlt, hc⟩ := h i h0 h1
  exact ⟨ad, e, hlt, (hb.cell (p := ad.add i.toNat) (by rw [add_block]; exact hlt)).trans hc⟩
theorem IntsT.of_C {T : Nat → Prop} {W : World} {A : Option Addr} {n : Nat} {xs : List Int} (h : (Kd.int .i64).C W A n xs) (hn : xs.length = n) (hT : ∀ k, k < W.heap.size → T k) : IntsT T W A xs := fun i h0 h1 => by
  obtain ⟨ad, c, e, hl, hK, hc⟩ := Kd.C_get h 0 i h0 (by omega)
  obtain rfl : c = [Value.int .i64 (xs.getD i.toNat 0)] := hK
  have hc0 : W.cell? (ad.add (i.toNat * 1 + 0)) = some (.int .i64 (xs.getD i.toNat 0)) := hc 0 _ rfl
  rw [Nat.mul_one, Nat.add_zero] at hc0
  exact ⟨ad, e, hT _ (by have := World.block_lt_of_cell? W _ hc0; rwa [add_block] at this), hc0⟩
theorem IntsT.mono {T T' : Nat → Prop} {W : World} {A : Option Addr} {xs : List Int} (h : IntsT T W A xs) (hT : ∀ k, T k → T' k) : IntsT T' W A xs := fun i h0 h1 => by
  obtain ⟨ad, e, hlt, hc⟩ := h i h0 h1
  exact ⟨ad, e, hT _ hlt, hc⟩

end Go.Proofs.Ytmigibamdeodpaa.Print
