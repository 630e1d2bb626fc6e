/- A set of arrays (map), an array of bools. -/
import Derived.Test.YtlfmafebmnggeaaProg
import Derived.Laws.EntriesVeiled
import Derived.Outline
import Derived.Below
import Derived.Deep.Draws
import Derived.Deep.AppendLies
import Derived.Maps.AppendAt
import Derived.OwnWalk
import Derived.Laws.BytesArg
import Derived.Laws.MakeOwn
import Derived.Laws.OwnMore
import Derived.Deep.OwnRows
import Derived.Tactics
import Derived.Lib.ConvBytes
import Derived.Laws.Slices
import Derived.WalkKit
import Derived.KernelRfl
import Derived.RowKit3
import Derived.Deep.LoopGhost
import Derived.Deep.QuietTactic
import Derived.BigQuiet
import Derived.WideLaws
import Derived.Deep.DeepCutAuto
import Derived.Deep.CutBlock
import Derived.Deep.RegionHeld3
import Derived.Laws.Rows
import Derived.Lib.AppendStr
import Derived.ArgAppend
import Derived.Laws.IdiomCopy
import Derived.OrdersHeld
import Derived.Laws.BitsLemmas
import Derived.RowKit
import Derived.Test.YtlfmafebmnggeaaWMore
import Derived.Test.YtlfmafebmnggeaaHandOn
namespace Go.Proofs.Ytlfmafebmnggeaa.Print
open Go.RowKit Go.Proofs.YtlfmafebmnggeaaW.PrintWords Go.Proofs.YtlfmafebmnggeaaW.PrintLast Go.Proofs.YtlfmafebmnggeaaW.PrintMore
attribute [local go_sem] max2_int min2_int max_two min_two max_three min_three max_four min_four
set_option linter.unusedVariables false
set_option linter.unusedSimpArgs false
/-! ### a set of arrays that the call keeps: a map from arrays to true -/
open Go.MapKept
def eqQ (p q : Q4) : Bool := p.a == q.a && (p.b == q.b && (p.c == q.c && (p.d == q.d)))
theorem eqQ_iff (p q : Q4) : eqQ p q = true ↔ p = q := by
  obtain ⟨a, b, c, d⟩ := p
  obtain ⟨a', b', c', d'⟩ := q
  simp [eqQ]
def inQ (q : Q4) (S : List Q4) : Bool := S.any (eqQ q)
theorem inQ_iff (q : Q4) (S : List Q4) : inQ q S = true ↔ q ∈ S := by
  unfold inQ
  rw [List.any_eq_true]
  constructor
  · rintro ⟨x, hx, he⟩
    rw [(eqQ_iff q x).1 he]
    exact hx
  · intro h
    exact ⟨q, h, (eqQ_iff q q).2 rfl⟩
theorem eq58 (w : World) (p q : Q4) : (Op.equal 58 (.agg #[.int .i64 p.a, .int .i64 p.b, .int .i64 p.c, .int .i64 p.d]) (.agg #[.int .i64 q.a, .int .i64 q.b, .int .i64 q.c, .int .i64 q.d])).run Try.prog w = .ok (eqQ p q) w := by
  obtain ⟨i, hi, _⟩ := info_parts aInfo3
  exact eqA4 Try.underlying58 Try.underlying3 Try.isAgg3 hi (by kernel_rfl) 9998 w _ _ _ _ _ _ _ _
theorem same58 (w : World) (q : Q4) : (Instr.keyThatStays (agg4 q) (agg4 q)).run Try.prog w = .ok (agg4 q) w := by
  simp [Instr.keyThatStays, Instr.sameBits, agg4]
theorem plain3 : Try.prog.plainKey 3 = true := by kernel_rfl
theorem cells3' : Try.prog.cellsOf 3 = 1 := by kernel_rfl
theorem chkcell (em : Bool) (n : Nat) (w : World) (i : Int) : (Instr.checkKey em (n + 1) 3 (.int .i64 i)).run Try.prog w = .ok () w := by
  simp [Instr.checkKey, run_underlying Try.underlying3]
theorem check58 (w : World) (q : Q4) (em : Bool) : (Instr.checkKey em 10000 58 (.agg #[.int .i64 q.a, .int .i64 q.b, .int .i64 q.c, .int .i64 q.d])).run Try.prog w = .ok () w := by
  obtain ⟨inf, hi, _⟩ := info_parts aInfo3
  have p0 : (part 3 #[.int .i64 q.a, .int .i64 q.b, .int .i64 q.c, .int .i64 q.d] 0).run Try.prog w = .ok (.int .i64 q.a) w := run_part_plain w plain3 rfl
  have p1 : (part 3 #[.int .i64 q.a, .int .i64 q.b, .int .i64 q.c, .int .i64 q.d] 1).run Try.prog w = .ok (.int .i64 q.b) w := run_part_plain w plain3 rfl
  have p2 : (part 3 #[.int .i64 q.a, .int .i64 q.b, .int .i64 q.c, .int .i64 q.d] 2).run Try.prog w = .ok (.int .i64 q.c) w := run_part_plain w plain3 rfl
  have p3 : (part 3 #[.int .i64 q.a, .int .i64 q.b, .int .i64 q.c, .int .i64 q.d] 3).run Try.prog w = .ok (.int .i64 q.d) w := run_part_plain w plain3 rfl
  show (Instr.checkKey em (9999 + 1) 58 _).run _ _ = _
  unfold Instr.checkKey
  simp only [Sem.run_bind, run_underlying Try.underlying58, Result.andThen_ok]
  simp only [Std.Legacy.Range.forIn_eq_forIn_range', Std.Legacy.Range.size, Nat.sub_zero, Nat.add_one_sub_one, Nat.div_one]
  have hr : List.range' 0 4 = [0, 1, 2, 3] := rfl
  simp [hr, run_sizeOf w hi, cells3', p0, p1, p2, p3, chkcell em 9998, Result.andThen]
/-- The map in block b holds just these arrays, in this order. -/
def SetQ (w : World) (b : Nat) (S : List Q4) : Prop := ∃ es clock, w.heap[b]? = some (.map es clock) ∧ es.toList.map (fun e => (e.key, e.val)) = S.map (fun q => (agg4 q, Value.bool true))
/-- Nothing but the map has changed below. -/
structure Upd (w w' : World) (b : Nat) : Prop where
  os : w'.os = w.os
  tape : w'.tape = w.tape
  output : w'.output = w.output
  size : w.heap.size ≤ w'.heap.size
  block : ∀ k, k < w.heap.size → k ≠ b → w'.heap[k]? = w.heap[k]?
/-- A map that is new changes nothing below. -/
theorem Upd.below {W w w1 : World} {B b : Nat} (hB : Below B W w) (hb : B ≤ b) (h : Upd w w1 b) (hs : B ≤ w.heap.size) : Below B W w1 :=
  ⟨h.os.trans hB.os, h.tape.trans hB.tape, h.output.trans hB.output, Nat.le_trans hB.size h.size, fun k hk => (h.block k (Nat.lt_of_lt_of_le hk hs) (by omega)).trans (hB.block k hk)⟩
theorem SetQ.lt {w : World} {b : Nat} {S : List Q4} (h : SetQ w b S) : b < w.heap.size := by
  obtain ⟨es, clock, hb, _⟩ := h
  exact lt_of_block hb
theorem SetQ.same {w w' : World} {b : Nat} {S : List Q4} (h : SetQ w b S) (hh : w'.heap[b]? = w.heap[b]?) : SetQ w' b S := by
  obtain ⟨es, clock, hb, he⟩ := h
  exact ⟨es, clock, hh.trans hb, he⟩
theorem SetQ.below {w w' : World} {b : Nat} {S : List Q4} (h : SetQ w b S) (hb : Below w.heap.size w w') : SetQ w' b S := h.same (hb.block b h.lt)
theorem setQ_new (w : World) : SetQ (w.alloc (Obj.map #[] 0)) w.heap.size [] := ⟨#[], 0, heap_alloc_new _ _, by simp⟩
theorem findAsk (w : World) (q : Q4) : ∀ (l : List MapEntry) (S : List Q4) (k : Nat), l.map (fun e => (e.key, e.val)) = S.map (fun q => (agg4 q, Value.bool true)) →
    (inQ q S = false ∧ (Instr.findAsking 58 (agg4 q) l k).run Try.prog w = .ok none w) ∨ (inQ q S = true ∧ ∃ p, (Instr.findAsking 58 (agg4 q) l k).run Try.prog w = .ok (some (p, .bool true)) w)
  | [], [], k, _ => .inl ⟨rfl, by simp [Instr.findAsking]⟩
  | [], _ :: _, _, h => by simp at h
  | _ :: _, [], _, h => by simp at h
  | e :: es, s :: S, k, h => by
    simp only [List.map_cons, List.cons.injEq, Prod.mk.injEq] at h
    obtain ⟨⟨hk, hv⟩, ht⟩ := h
    have he : (Op.equal 58 (agg4 q) (agg4 s)).run Try.prog w = .ok (eqQ q s) w := eq58 w q s
    cases hc : eqQ q s with
    | true =>
      refine .inr ⟨by simp [inQ, hc], k, ?_⟩
      simp [Instr.findAsking, hk, he, hc, hv, Result.andThen]
    | false =>
      have hf : (Instr.findAsking 58 (agg4 q) (e :: es) k).run Try.prog w = (Instr.findAsking 58 (agg4 q) es (k + 1)).run Try.prog w := by
        conv => lhs; unfold Instr.findAsking
        simp only [Sem.run_bind, hk, he, hc, Result.andThen_ok]
        rfl
      rw [hf]
      have hi : inQ q (s :: S) = inQ q S := by simp [inQ, hc]
      rw [hi]
      exact findAsk w q es S (k + 1) ht
theorem findKey58 (w : World) (x : Value) (es : List MapEntry) : (Instr.findKey 58 x es).run Try.prog w = (Instr.findAsking 58 x es).run Try.prog w := run_findKey_eq w (by rw [Try.underlying58]) x es
theorem zero4 (w : World) : (zeroValue 4).run Try.prog w = .ok (.bool false) w := by kernel_rfl
theorem lookQ {w : World} {b : Nat} {S : List Q4} (h : SetQ w b S) (q : Q4) : (Instr.lookup 71 (.map (some b)) (.agg #[.int .i64 q.a, .int .i64 q.b, .int .i64 q.c, .int .i64 q.d]) false).run Try.prog w = .ok (.bool (inQ q S)) w := by
  obtain ⟨es, clock, hb, he⟩ := h
  have hf := findAsk w q es.toList S 0 he
  unfold agg4 at hf
  rcases hf with ⟨h1, h2⟩ | ⟨h1, p, h2⟩
  · simp [Instr.lookup, run_underlying Try.underlying71, Go.MapKept.run_getObj_map hb, check58, findKey58, h2, zero4, h1, Result.andThen]
  · simp [Instr.lookup, run_underlying Try.underlying71, Go.MapKept.run_getObj_map hb, check58, findKey58, h2, h1, Result.andThen]
theorem insQ {w : World} {b : Nat} {S : List Q4} (h : SetQ w b S) (q : Q4) (hn : inQ q S = false) : ∃ w', (Instr.mapUpdate 71 (.map (some b)) (.agg #[.int .i64 q.a, .int .i64 q.b, .int .i64 q.c, .int .i64 q.d]) (.bool true)).run Try.prog w = .ok () w' ∧ SetQ w' b (S ++ [q]) ∧ Upd w w' b := by
  obtain ⟨es, clock, hb, he⟩ := h
  have hup : ∀ o, Upd w { w with heap := w.heap.setIfInBounds b o } b := fun o => ⟨rfl, rfl, rfl, by simp, fun k _ hkb => (heap_set (o' := o) hb).2 k hkb⟩
  have hf := findAsk w q es.toList S 0 he
  unfold agg4 at hf
  rcases hf with ⟨h1, h2⟩ | ⟨h1, p, h2⟩
  · refine ⟨_, by simp [Instr.mapUpdate, run_underlying Try.underlying71, Go.MapKept.run_getObj_map hb, check58, findKey58, h2, Go.MapKept.run_setObj_map _ hb, Result.andThen]; rfl, ⟨_, _, (heap_set hb).1, ?_⟩, hup _⟩
    rw [Array.toList_push, List.map_append, List.map_append, he]
    rfl
  · rw [hn] at h1
    cases h1
/-! ### an array of 24 bools in memory -/
def SeenB (w : World) (g : Nat) (bs : List Bool) : Prop := bs.length = 24 ∧ w.heap[g]? = some (.cells (bs.map Value.bool).toArray 47 (0, 0))
section
variable {w w1 : World} {g : Nat} {bs : List Bool}
theorem SeenB.lt (h : SeenB w g bs) : g < w.heap.size := lt_of_block h.2
theorem SeenB.same (h : SeenB w g bs) (hh : w1.heap[g]? = w.heap[g]?) : SeenB w1 g bs := ⟨h.1, hh.trans h.2⟩
theorem SeenB.below (h : SeenB w g bs) (hb : Below w.heap.size w w1) : SeenB w1 g bs := h.same (hb.block g h.lt)
theorem SeenB.far (h : SeenB w g bs) {a : Addr} (hne : g ≠ a.block) (u : Value) : SeenB (w.setCell a u) g bs := h.same (Below.heap_setCell w a u g hne)
theorem SeenB.cell (h : SeenB w g bs) {i : Int} (h0 : 0 ≤ i) (h4 : i < 24) : w.cell? ⟨g, i.toNat, none⟩ = some (.bool (bs.getD i.toNat false)) ∧ w.frozen? ⟨g, i.toNat, none⟩ = false := by
  have hi : i.toNat < bs.length := by rw [h.1]; omega
  refine ⟨?_, blk_frozen h.2 _⟩
  rw [blk_cell h.2]
  simp [hi]
theorem SeenB.set (h : SeenB w g bs) {i : Int} (h0 : 0 ≤ i) (h4 : i < 24) (b : Bool) : SeenB (w.setCell ⟨g, i.toNat, none⟩ (.bool b)) g (bs.set i.toNat b) := by
  refine ⟨by rw [List.length_set]; exact h.1, blk_put h.2 i.toNat (.bool b) ?_⟩
  simp [List.map_set]
theorem seenB_new (w : World) : SeenB (w.alloc (.cells (List.replicate 24 (Value.bool false)).toArray 47)) w.heap.size (List.replicate 24 false) := ⟨rfl, heap_alloc_new _ _⟩
end
theorem loadAt47 {w : World} {g : Nat} {bs : List Bool} (h : SeenB w g bs) : (Instr.loadAt 47 (.pointer (some ⟨g, 0, none⟩))).run Try.prog w = .ok (.agg (bs.map Value.bool).toArray) w := by
  have hl := run_loadVar_row (P := Try.prog) w g 47 47 (bs.map Value.bool).toArray (0, 0) _ h.2 Try.underlying47 rfl (by rw [show ((bs.map Value.bool).toArray).size = 24 by simp [h.1]]; kernel_rfl)
  simp only [Instr.loadAt, Instr.sureAddr, Sem.run_bind, Sem.run_pure, Result.andThen]
  exact hl
section
variable {P : Program} {ops : Array Oper} {o : Oper} {a : Act} {Q : Exit → Act → World → Prop} {rest : List Oper}
theorem load47_event {w : World} {g : Nat} {bs : List Bool} {p : Tmp} (h : SeenB w g bs) (hgd : o.guard = none) (ho : o.op = .load 47 (.tmp p)) (hp : a.eval (.tmp p) = .pointer (some ⟨g, 0, none⟩)) (hn : wpList Try.prog ops Q rest (a.put o.dst (.agg (bs.map Value.bool).toArray)) w) : wpList Try.prog ops Q (o :: rest) a w := by
  refine Kd.event_run hgd ?_ hn
  unfold execOp
  simp [ho, hp, loadAt47 h, Result.andThen]
end
theorem idx47 (bs : List Bool) (hb : bs.length = 24) (i : Nat) (hi : i < 24) (W : World) : Sem.run Try.prog (Instr.index 47 (.agg (bs.map Value.bool).toArray) (.int .i64 i)) W = .ok (.bool (bs.getD i false)) W := by
  have hu47 := Try.underlying47
  have hu4 := Try.underlying4
  have ha := Try.isAgg4
  have hz := Try.sizeOf4
  have h1 : decide (0 ≤ (i : Int)) = true := decide_eq_true (by omega)
  have h2 : decide ((i : Int) < 24) = true := decide_eq_true (by omega)
  simp [Instr.index, go_sem, hu47, hu4, ha, hz, hb, hi, h1, h2]

end Go.Proofs.Ytlfmafebmnggeaa.Print
