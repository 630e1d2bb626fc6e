/- Blocks of four bends. -/
import Derived.Test.YtlfmafebmnggeaaProg
import Derived.Laws.EntriesVeiled
import Derived.Outline
import Derived.Below
import Derived.Deep.Draws
import Derived.Deep.AppendLies
import Derived.Maps.AppendAt
import Derived.OwnWalk
import Derived.Laws.BytesArg
import Derived.Laws.MakeOwn
import Derived.Laws.OwnMore
import Derived.Deep.OwnRows
import Derived.Tactics
import Derived.Lib.ConvBytes
import Derived.Laws.Slices
import Derived.WalkKit
import Derived.KernelRfl
import Derived.RowKit3
import Derived.Deep.LoopGhost
import Derived.Deep.QuietTactic
import Derived.BigQuiet
import Derived.WideLaws
import Derived.Deep.DeepCutAuto
import Derived.Deep.CutBlock
import Derived.Deep.RegionHeld3
import Derived.Laws.Rows
import Derived.Lib.AppendStr
import Derived.ArgAppend
import Derived.Laws.IdiomCopy
import Derived.OrdersHeld
import Derived.Laws.BitsLemmas
import Derived.RowKit
import Derived.Test.YtlfmafebmnggeaaWMore
import Derived.Test.YtlfmafebmnggeaaHandQuad
namespace Go.Proofs.Ytlfmafebmnggeaa.Print
open Go.RowKit Go.Proofs.YtlfmafebmnggeaaW.PrintWords Go.Proofs.YtlfmafebmnggeaaW.PrintLast Go.Proofs.YtlfmafebmnggeaaW.PrintMore
attribute [local go_sem] max2_int min2_int max_two min_two max_three min_three max_four min_four
set_option linter.unusedVariables false
set_option linter.unusedSimpArgs false
/-- An array and a number handed back. -/
theorem hres_ct {P : Program} {fn : Func} {p t1 : Tmp} {ty : TypeId} (h : fn.results = #[.cell p ty, .tmp t1]) (tmps : Array Value) (w : World) (g : Nat) (t : TypeId) (cs : Array Value) (fr : Nat × Nat) (d : TypeDesc)
    (hp : tmps.getD p undef = .pointer (some ⟨g, 0, none⟩)) (hg : w.heap[g]? = some (.cells cs t fr))
    (hu : P.underlying ty = some d) (hd : (match d with | .struct _ | .array _ _ => true | _ => false) = true) (hi : (P.info? ty).map (·.size) = some cs.size) :
    (results fn tmps).run P w = .ok (.tuple #[.agg cs, tmps.getD t1 undef]) w := by
  have hp' : tmps[p]?.getD undef = .pointer (some ⟨g, 0, none⟩) := by simpa using hp
  simp [results, h, hp', asAddr, run_loadVar_row w g t ty cs fr d hg hu hd hi]
theorem hres_ctt {P : Program} {fn : Func} {p t1 t2 : Tmp} {ty : TypeId} (h : fn.results = #[.cell p ty, .tmp t1, .tmp t2]) (tmps : Array Value) (w : World) (g : Nat) (t : TypeId) (cs : Array Value) (fr : Nat × Nat) (d : TypeDesc)
    (hp : tmps.getD p undef = .pointer (some ⟨g, 0, none⟩)) (hg : w.heap[g]? = some (.cells cs t fr))
    (hu : P.underlying ty = some d) (hd : (match d with | .struct _ | .array _ _ => true | _ => false) = true) (hi : (P.info? ty).map (·.size) = some cs.size) :
    (results fn tmps).run P w = .ok (.tuple #[.agg cs, tmps.getD t1 undef, tmps.getD t2 undef]) w := by
  have hp' : tmps[p]?.getD undef = .pointer (some ⟨g, 0, none⟩) := by simpa using hp
  simp [results, h, hp', asAddr, run_loadVar_row w g t ty cs fr d hg hu hd hi]
@[reducible] def q0 : Q4 := ⟨0, 0, 0, 0⟩
@[reducible] def bx (q : Q4) (e : TypeId) : Obj := .cells #[.int .i64 q.a, .int .i64 q.b, .int .i64 q.c, .int .i64 q.d] e
theorem bx1 (w : World) (q1 : Q4) (t1 : TypeId) : Bk (w.alloc (bx q1 t1)) w.heap.size t1 q1 ∧ Below w.heap.size w (w.alloc (bx q1 t1)) ∧ (w.alloc (bx q1 t1)).heap.size = w.heap.size + 1 :=
  ⟨Bk.new w t1 q1, below_alloc (Below.refl _ _) _, by rw [World.size_alloc]⟩
theorem bx2 (w : World) (q1 q2 : Q4) (t1 t2 : TypeId) : Bk ((w.alloc (bx q1 t1)).alloc (bx q2 t2)) w.heap.size t1 q1 ∧ Bk ((w.alloc (bx q1 t1)).alloc (bx q2 t2)) (w.heap.size + 1) t2 q2 ∧ Below w.heap.size w ((w.alloc (bx q1 t1)).alloc (bx q2 t2)) ∧ ((w.alloc (bx q1 t1)).alloc (bx q2 t2)).heap.size = w.heap.size + 2 := by
  refine ⟨(Bk.new w t1 q1).alloc _, ?_, below_alloc (below_alloc (Below.refl _ _) _) _, by rw [World.size_alloc, World.size_alloc]⟩
  have h := Bk.new (w.alloc (bx q1 t1)) t2 q2
  rwa [World.size_alloc] at h
theorem bx3 (w : World) (q1 q2 q3 : Q4) (t1 t2 t3 : TypeId) : Bk (((w.alloc (bx q1 t1)).alloc (bx q2 t2)).alloc (bx q3 t3)) w.heap.size t1 q1 ∧ Bk (((w.alloc (bx q1 t1)).alloc (bx q2 t2)).alloc (bx q3 t3)) (w.heap.size + 1) t2 q2 ∧ Bk (((w.alloc (bx q1 t1)).alloc (bx q2 t2)).alloc (bx q3 t3)) (w.heap.size + 2) t3 q3 ∧ Below w.heap.size w (((w.alloc (bx q1 t1)).alloc (bx q2 t2)).alloc (bx q3 t3)) ∧ (((w.alloc (bx q1 t1)).alloc (bx q2 t2)).alloc (bx q3 t3)).heap.size = w.heap.size + 3 := by
  obtain ⟨h1, h2, hb, hs⟩ := bx2 w q1 q2 t1 t2
  refine ⟨h1.alloc _, h2.alloc _, ?_, below_alloc hb _, by rw [World.size_alloc, hs]⟩
  have h := Bk.new ((w.alloc (bx q1 t1)).alloc (bx q2 t2)) t3 q3
  rwa [hs] at h
theorem Bk.drawn {w w1 : World} {b : Nat} {e : TypeId} {q : Q4} (h : Bk w b e q) (hd : Drawn0 w w1) : Bk w1 b e q := h.below hd.below
theorem below_drawn {n : Nat} {w0 w w1 : World} (h : Below n w0 w) (hd : Drawn0 w w1) : Below n w0 w1 := by
  obtain ⟨k, rfl⟩ := hd
  exact pw_below_drewN h k
/-- A block wholly laid anew. -/
theorem Bk.fill {w : World} {b : Nat} {e : TypeId} {q : Q4} (h : Bk w b e q) (r : Q4) : Bk ((((w.setCell ⟨b, 0, none⟩ (.int .i64 r.a)).setCell ⟨b, 1, none⟩ (.int .i64 r.b)).setCell ⟨b, 2, none⟩ (.int .i64 r.c)).setCell ⟨b, 3, none⟩ (.int .i64 r.d)) b e r :=
  (((h.set r.a 0 (by omega)).set r.b 1 (by omega)).set r.c 2 (by omega)).set r.d 3 (by omega)
theorem below_fill {n : Nat} {w0 w : World} (h : Below n w0 w) {b : Nat} (hb : n ≤ b) (r : Q4) : Below n w0 ((((w.setCell ⟨b, 0, none⟩ (.int .i64 r.a)).setCell ⟨b, 1, none⟩ (.int .i64 r.b)).setCell ⟨b, 2, none⟩ (.int .i64 r.c)).setCell ⟨b, 3, none⟩ (.int .i64 r.d)) :=
  (((h.setCell hb _).setCell hb _).setCell hb _).setCell hb _

end Go.Proofs.Ytlfmafebmnggeaa.Print
