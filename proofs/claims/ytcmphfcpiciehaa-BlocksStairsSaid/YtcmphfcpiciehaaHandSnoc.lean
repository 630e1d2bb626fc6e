/- append to a row that is cut to its length: a new row. -/
import Derived.Test.YtcmphfcpiciehaaProg
import Derived.Laws.EntriesVeiled
import Derived.Outline
import Derived.Below
import Derived.Deep.Draws
import Derived.Deep.AppendLies
import Derived.Maps.AppendAt
import Derived.OwnWalk
import Derived.Laws.BytesArg
import Derived.Laws.MakeOwn
import Derived.Laws.OwnMore
import Derived.Deep.OwnRows
import Derived.Tactics
import Derived.Lib.ConvBytes
import Derived.Laws.Slices
import Derived.WalkKit
import Derived.KernelRfl
import Derived.RowKit3
import Derived.Deep.LoopGhost
import Derived.Deep.QuietTactic
import Derived.BigQuiet
import Derived.WideLaws
import Derived.Deep.DeepCutAuto
import Derived.Deep.CutBlock
import Derived.Deep.RegionHeld3
import Derived.Laws.Rows
import Derived.Lib.AppendStr
import Derived.ArgAppend
import Derived.Laws.IdiomCopy
import Derived.OrdersHeld
import Derived.Laws.BitsLemmas
import Derived.RowKit
import Derived.Test.YtcmphfcpiciehaaHandTotal
import Derived.Test.YtcmphfcpiciehaaHandLib
import Derived.Test.YtcmphfcpiciehaaWMore
namespace Go.Proofs.Ytcmphfcpiciehaa.Print
open Go.RowKit Go.Proofs.YtcmphfcpiciehaaW.PrintWords Go.Proofs.YtcmphfcpiciehaaW.PrintLast Go.Proofs.YtcmphfcpiciehaaW.PrintMore
attribute [local go_sem] max2_int min2_int max_two min_two max_three min_three max_four min_four
set_option linter.unusedVariables false
set_option linter.unusedSimpArgs false
/-! ### append(l[:len(l):len(l)], x): a new row -/
theorem snInfo3 : (Try.prog.info? 3).map (fun i => (i.zero, i.size, i.bytes)) = some (some (.int .i64 0), 1, 8) := by kernel_rfl
/-- What the four operations need and leave. -/
def SnocC (w : World) (A : Option Addr) (c : Nat) (l : List Int) (x : Int) (R : Ending → World → Prop) : Prop :=
  ((Kd.int .i64).C w A l.length l ∧ l.length ≤ c ∧ l.length ≤ 1000000) ∧ ∀ v w', Kd.R (Kd.int .i64) 3 w' w.heap.size (fun _ => True) v (l ++ [x]) → Below w.heap.size w w' → R (.returned v) w'
theorem SnocC.mono {w : World} {A : Option Addr} {c : Nat} {l : List Int} {x : Int} {R R' : Ending → World → Prop} (h : SnocC w A c l x R) (hr : ∀ e w', R e w' → R' e w') : SnocC w A c l x R' :=
  ⟨h.1, fun v w' h1 h2 => hr _ _ (h.2 v w' h1 h2)⟩
def snoc_int.f (l0 : List Int) (a1 : Int) : Option (List Int) := if l0.length ≤ 1000000 then some (l0 ++ [a1]) else none
theorem snoc_int.calls (A0 : Option Addr) (c0 : Nat) (l0 : List Int) (a1 : Int) (r : List Int) (w : World) (hr0 : Kd.C (Kd.int .i64) w A0 l0.length l0) (hc0 : l0.length ≤ c0) (h : snoc_int.f l0 a1 = some r) :
    SnocC w A0 c0 l0 a1 fun e w' => ∃ v0_ : Value, e = .returned (v0_) ∧ Kd.R (Kd.int .i64) 3 w' w.heap.size (fun _ => True) v0_ r ∧ Below w.heap.size w w' := by
  unfold snoc_int.f at h
  split at h
  case isFalse => cases h
  case isTrue hl =>
  obtain rfl := Option.some.inj h
  exact ⟨⟨hr0, hc0, hl⟩, fun v w' h1 h2 => ⟨v, rfl, h1, h2⟩⟩
section
variable {ops : Array Oper} {Q : Exit → Act → World → Prop}
theorem gate_clip {P : Program} {rest : List Oper} {o : Oper} {a : Act} {W : World} {t : TypeId} {x h m : Operand} (_ho : o.op = .slice t x none (some h) (some m)) (hh : wpList P ops Q (o :: rest) a W) : wpList P ops Q (o :: rest) a W := hh
theorem stepV_ {P : Program} {rest : List Oper} {o : Oper} {a : Act} {w w1 : World} {v : Value} (hg : o.guard = none) (hrun : (execOp a.eval o).run P w = .ok (.value v) w1) (h : wpList P ops Q rest (a.put o.dst v) w1) : wpList P ops Q (o :: rest) a w :=
  wpList_plain hg fun K hK => by
    unfold Oper.wp
    rw [hrun]
    exact hK _ _ h
theorem snocL_ {rest : List Oper} {o1 o2 o3 o4 : Oper} {a : Act} {w : World} {N1 N2 N3 : Tmp} (hd1 : o1.dst = some N1) (hd2 : o2.dst = some N2) (hd3 : o3.dst = some N3) (hg1 : o1.guard = none) (hg2 : o2.guard = none) (hg3 : o3.guard = none) (hg4 : o4.guard = none)
    {x hi mx y : Operand} {A : Option Addr} {c : Nat} {l : List Int} {z : Int}
    (hop1 : o1.op = .slice 22 x none (some hi) (some mx)) (hop2 : o2.op = .move y) (hop3 : o3.op = .buildSlice 22 1 #[(0, .tmp N2)]) (hop4 : o4.op = .call { callee := .builtin .append, args := #[.tmp N1, .tmp N3], argTypes := #[22, 22] })
    (hN1 : N1 < a.tmps.size) (hN2 : N2 < a.tmps.size) (hN3 : N3 < a.tmps.size) (h12 : N1 ≠ N2) (h13 : N1 ≠ N3) (h23 : N2 ≠ N3) (hx : a.eval x = .slice A l.length c) (hhi : a.eval hi = .int .i64 l.length) (hmx : a.eval mx = .int .i64 l.length)
    (hy : (a.put (some N1) (.slice A l.length l.length)).eval y = .int .i64 z)
    (h : SnocC w A c l z fun e w' => ∃ v, e = .returned v ∧ wpList Try.prog ops Q rest ((((a.put (some N1) (.slice A l.length l.length)).put (some N2) (.int .i64 z)).put (some N3) (.slice (some ⟨w.heap.size, 0, none⟩) 1 1)).put o4.dst v) w') :
    wpList Try.prog ops Q (o1 :: o2 :: o3 :: o4 :: rest) a w := by
  obtain ⟨⟨hC, hc, hl⟩, h⟩ := h
  have hu22 := Try.underlying22
  have hu3 := Try.underlying3
  have r1 : (execOp a.eval o1).run Try.prog w = .ok (.value (.slice A l.length l.length)) w := by
    simp only [execOp, hop1, Option.map_some, Option.map_none, hx, hhi, hmx]
    have e1 : ∀ n : Nat, n = l.length → (n : Int) = l.length := fun n h => by rw [h]
    generalize l.length = n at hc hl ⊢
    clear h hx hhi hmx hC hy
    go_simp
  have e2 : (a.put (some N1) (.slice A l.length l.length)).put (some N2) (.int .i64 z) = (a.put (some N1) (.slice A l.length l.length)).put (some N2) (.int .i64 z) := rfl
  refine stepV_ hg1 r1 ?_
  rw [hd1]
  have r2 : (execOp (a.put (some N1) (.slice A l.length l.length)).eval o2).run Try.prog w = .ok (.value (.int .i64 z)) w := by
    simp only [execOp, hop2, hy]
    rfl
  refine stepV_ hg2 r2 ?_
  rw [hd2]
  have ev2 : ((a.put (some N1) (.slice A l.length l.length)).put (some N2) (.int .i64 z)).eval (.tmp N2) = .int .i64 z := by simp [Act.eval, Act.put, hN2]
  have r3 : (execOp ((a.put (some N1) (.slice A l.length l.length)).put (some N2) (.int .i64 z)).eval o3).run Try.prog w = .ok (.value (.slice (some ⟨w.heap.size, 0, none⟩) 1 1)) (w.alloc (.cells #[.int .i64 z] 3)) := by
    simp only [execOp, hop3]
    generalize ((a.put (some N1) (.slice A l.length l.length)).put (some N2) (.int .i64 z)).eval = ρ at ev2 ⊢
    have hm : Array.map (fun (x : Nat × Operand) => (x.1, ρ x.2)) #[(0, Operand.tmp N2)] = #[(0, .int .i64 z)] := by simp [ev2]
    rw [hm]
    clear h hC hy hx hhi hmx r1 r2
    go_simp
  refine stepV_ hg3 r3 ?_
  rw [hd3]
  have ev1 : (((a.put (some N1) (.slice A l.length l.length)).put (some N2) (.int .i64 z)).put (some N3) (.slice (some ⟨w.heap.size, 0, none⟩) 1 1)).eval (.tmp N1) = .slice A l.length l.length := by
    simp [Act.eval, Act.put, hN1, Array.getElem?_setIfInBounds, h12.symm, h13.symm]
  have ev3 : (((a.put (some N1) (.slice A l.length l.length)).put (some N2) (.int .i64 z)).put (some N3) (.slice (some ⟨w.heap.size, 0, none⟩) 1 1)).eval (.tmp N3) = .slice (some ⟨w.heap.size, 0, none⟩) 1 1 := by
    simp [Act.eval, Act.put, hN3]
  obtain ⟨i0, hi0, hz0, hz1, hz2⟩ := info_parts snInfo3
  have hnone : A = none → l.length = 0 ∧ l.length = 0 := by
    intro hA
    rcases Nat.eq_zero_or_pos l.length with h0 | h0
    · exact ⟨h0, h0⟩
    · obtain ⟨ad, c', e, _⟩ := Kd.C_get hC 0 0 (by omega) (by omega)
      rw [hA] at e
      cases e
  have holds : ∀ b, A = some b → ∀ j u, (l.map (Value.int .i64))[j]? = some u → (w.alloc (.cells #[.int .i64 z] 3)).cell? (b.add j) = some u := by
    intro b hb j u hu
    have hj : j < l.length := by have := (List.getElem?_eq_some_iff.1 hu).1; simpa using this
    obtain ⟨ad, e, hx⟩ := Kd.at_int hC (j : Int) (by omega) (by omega)
    rw [hb] at e
    cases e
    rw [Int.toNat_natCast] at hx
    have hu2 : u = .int .i64 (rd l j) := by
      rw [List.getElem?_map, List.getElem?_eq_getElem hj] at hu
      simp only [Option.map_some, Option.some.injEq] at hu
      rw [← hu]
      simp [rd, List.getD_eq_getElem?_getD, List.getElem?_eq_getElem hj]
    rw [hu2]
    exact pw_cell_below (below_alloc (Below.refl _ _) _) hx
  refine wpList_append_grows (w.alloc (.cells #[.int .i64 z] 3)) hg4 (.tmp N1) (.tmp N3) 22 hop4 3 i0 (.int .i64 0) 1 8 Try.underlying22 hi0 hz0 hz1 hz2 rfl (by decide) A l.length l.length (l.map (Value.int .i64)) ev1 hnone (by simp) holds
    ⟨w.heap.size, 0, none⟩ 1 1 [.int .i64 z] ev3 rfl (cell_one_new _ _ _) (by simp [Value.oneCell']) (by omega) (by simp only [maxLen]; omega) (by omega) ?_
  intro v' w' hown hg
  have hs : (w.alloc (.cells #[.int .i64 z] 3)).heap.size = w.heap.size + 1 := by simp
  refine (h v' w' ?_ ?_).elim fun v hv => ?_
  · refine Kd.R_lower (Kd.R_of_own (base := (w.alloc (.cells #[.int .i64 z] 3)).heap.size) ?_ (fun _ _ => trivial)) (by omega)
    have h1 : (l ++ [z]).length = l.length + 1 := by simp
    rw [h1]
    have h2 : encs (Value.int .i64) (l ++ [z]) = l.map (Value.int .i64) ++ [.int .i64 z] := by simp [encs]
    rw [h2]
    exact hown
  · exact below_then (below_alloc (Below.refl _ _) _) (by omega) ((Below.refl _ _).grown hg (Nat.le_refl _) (fun k e => by cases e))
  · obtain ⟨e, hv⟩ := hv
    cases e
    exact hv
end

end Go.Proofs.Ytcmphfcpiciehaa.Print
