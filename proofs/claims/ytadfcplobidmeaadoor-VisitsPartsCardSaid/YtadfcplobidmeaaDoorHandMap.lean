/- Maps that a call keeps. -/
import Derived.Test.YtadfcplobidmeaaDoorProg
import Derived.Laws.EntriesVeiled
import Derived.Outline
import Derived.Below
import Derived.Deep.Draws
import Derived.Deep.AppendLies
import Derived.Maps.AppendAt
import Derived.OwnWalk
import Derived.Laws.BytesArg
import Derived.Laws.MakeOwn
import Derived.Laws.OwnMore
import Derived.Deep.OwnRows
import Derived.Tactics
import Derived.Lib.ConvBytes
import Derived.Laws.Slices
import Derived.WalkKit
import Derived.KernelRfl
import Derived.RowKit3
import Derived.Deep.LoopGhost
import Derived.Deep.QuietTactic
import Derived.BigQuiet
import Derived.WideLaws
import Derived.Deep.DeepCutAuto
import Derived.Deep.CutBlock
import Derived.Deep.RegionHeld3
import Derived.Laws.Rows
import Derived.Lib.AppendStr
import Derived.ArgAppend
import Derived.Laws.IdiomCopy
import Derived.OrdersHeld
import Derived.Laws.BitsLemmas
import Derived.RowKit
import Derived.Test.YtadfcplobidmeaaDoorWMore
import Derived.Test.YtadfcplobidmeaaDoorHandTz
namespace Go.Proofs.YtadfcplobidmeaaDoor.Print
open Go.RowKit Go.Proofs.YtadfcplobidmeaaDoorW.PrintWords Go.Proofs.YtadfcplobidmeaaDoorW.PrintLast Go.Proofs.YtadfcplobidmeaaDoorW.PrintMore
attribute [local go_sem] max2_int min2_int max_two min_two max_three min_three max_four min_four
set_option linter.unusedVariables false
set_option linter.unusedSimpArgs false
/-! ### a map from numbers to numbers that the call keeps: every entry is good -/
open Go.MapKept
def goodKV (good : Int → Int → Prop) (e : MapEntry) : Prop := ∃ i n, e.key = .int .i64 i ∧ e.val = .int .i64 n ∧ good i n
def MemoI (w : World) (b : Nat) (good : Int → Int → Prop) : Prop := ∃ es clock, w.heap[b]? = some (.map es clock) ∧ ∀ e ∈ es.toList, goodKV good e
/-- Nothing but the map has changed below. -/
structure Upd (w w' : World) (b : Nat) : Prop where
  os : w'.os = w.os
  tape : w'.tape = w.tape
  output : w'.output = w.output
  size : w.heap.size ≤ w'.heap.size
  block : ∀ k, k < w.heap.size → k ≠ b → w'.heap[k]? = w.heap[k]?
theorem Upd.refl (w : World) (b : Nat) : Upd w w b := ⟨rfl, rfl, rfl, Nat.le_refl _, fun _ _ _ => rfl⟩
theorem Upd.trans {w w1 w2 : World} {b : Nat} (h : Upd w w1 b) (k : Upd w1 w2 b) : Upd w w2 b :=
  ⟨k.os.trans h.os, k.tape.trans h.tape, k.output.trans h.output, Nat.le_trans h.size k.size, fun i hi hb => (k.block i (Nat.lt_of_lt_of_le hi h.size) hb).trans (h.block i hi hb)⟩
theorem Upd.of_below {w w1 : World} {b : Nat} (h : Below w.heap.size w w1) : Upd w w1 b := ⟨h.os, h.tape, h.output, h.size, fun i hi _ => h.block i hi⟩
/-- A map that is new changes nothing below. -/
theorem Upd.below {W w w1 : World} {B b : Nat} (hB : Below B W w) (hs : B ≤ w.heap.size) (hb : B ≤ b) (h : Upd w w1 b) : Below B W w1 :=
  ⟨h.os.trans hB.os, h.tape.trans hB.tape, h.output.trans hB.output, Nat.le_trans hB.size h.size, fun k hk => (h.block k (Nat.lt_of_lt_of_le hk hs) (by omega)).trans (hB.block k hk)⟩
theorem findNow_int {good : Int → Int → Prop} (i : Int) : ∀ (l : List MapEntry) (k : Nat), (∀ e ∈ l, goodKV good e) → Instr.findNow (.int .i64) (.int .i64 i) l k = some none ∨ ∃ j e v, Instr.findNow (.int .i64) (.int .i64 i) l k = some (some (k + j, .int .i64 v)) ∧ good i v ∧ l[j]? = some e ∧ e.key = .int .i64 i
  | [], k, _ => .inl rfl
  | e :: es, k, h => by
    obtain ⟨i', n, hk, hv, hg⟩ := h e List.mem_cons_self
    have hs : Instr.sameNow (.int .i64) (.int .i64 i) e.key = some (i == i') := by
      rw [hk]
      simp [Instr.sameNow]
    by_cases hc : i = i'
    · subst hc
      refine .inr ⟨0, e, n, ?_, hg, rfl, hk⟩
      simp only [Instr.findNow, hs, beq_self_eq_true, hv, Nat.add_zero]
    · have hb : (i == i') = false := by simpa using hc
      have hf : Instr.findNow (.int .i64) (.int .i64 i) (e :: es) k = Instr.findNow (.int .i64) (.int .i64 i) es (k + 1) := by
        simp only [Instr.findNow, hs, hb]
      rw [hf]
      rcases findNow_int i es (k + 1) (fun x hx => h x (List.mem_cons_of_mem _ hx)) with h1 | ⟨j, e', v, h1, h2, h3, h4⟩
      · exact .inl h1
      · exact .inr ⟨j + 1, e', v, by rw [h1]; congr 3; omega, h2, h3, h4⟩
theorem zero3 (w : World) : (zeroValue 3).run Tryd.prog w = .ok (.int .i64 0) w := by kernel_rfl
theorem lookI {w : World} {b : Nat} {good : Int → Int → Prop} (h : MemoI w b good) (i : Int) : ∃ v ok, (Instr.lookup 66 (.map (some b)) (.int .i64 i) true).run Tryd.prog w = .ok (.tuple #[.int .i64 v, .bool ok]) w ∧ (ok = true → good i v) := by
  obtain ⟨es, clock, hb, he⟩ := h
  have hk : IsKey (.int .i64) (.int .i64 i) := rfl
  rcases findNow_int i es.toList 0 he with h1 | ⟨j, e, v, h1, h2, _, _⟩
  · exact ⟨0, false, by simp [Instr.lookup, run_underlying Tryd.underlying66, Go.MapKept.run_getObj_map hb, run_checkKey Tryd.underlying3 hk, run_findKey Tryd.underlying3 h1, zero3, Result.andThen], fun h => by cases h⟩
  · exact ⟨v, true, by simp [Instr.lookup, run_underlying Tryd.underlying66, Go.MapKept.run_getObj_map hb, run_checkKey Tryd.underlying3 hk, run_findKey Tryd.underlying3 h1, Result.andThen], fun _ => h2⟩
theorem updI {w : World} {b : Nat} {good : Int → Int → Prop} (h : MemoI w b good) (i n : Int) (hg : good i n) : ∃ w', (Instr.mapUpdate 66 (.map (some b)) (.int .i64 i) (.int .i64 n)).run Tryd.prog w = .ok () w' ∧ MemoI w' b good ∧ Upd w w' b := by
  obtain ⟨es, clock, hb, he⟩ := h
  have hk : IsKey (.int .i64) (.int .i64 i) := rfl
  have hup : ∀ o, Upd w { w with heap := w.heap.setIfInBounds b o } b := fun o => ⟨rfl, rfl, rfl, by simp, fun k _ hkb => (heap_set (o' := o) hb).2 k hkb⟩
  rcases findNow_int i es.toList 0 he with h1 | ⟨j, e, v, h1, h2, h3, h4⟩
  · refine ⟨_, by simp [Instr.mapUpdate, run_underlying Tryd.underlying66, Go.MapKept.run_getObj_map hb, run_checkKey Tryd.underlying3 hk, run_findKey Tryd.underlying3 h1, Go.MapKept.run_setObj_map _ hb, Result.andThen]; rfl, ⟨_, _, (heap_set hb).1, fun x hx => ?_⟩, hup _⟩
    rw [Array.toList_push] at hx
    rcases List.mem_append.1 hx with hx | hx
    · exact he x hx
    · rw [List.mem_singleton.1 hx]
      exact ⟨i, n, rfl, rfl, hg⟩
  · have h3' : es[j]? = some e := by rw [← Array.getElem?_toList]; exact h3
    refine ⟨_, by simp [Instr.mapUpdate, run_underlying Tryd.underlying66, Go.MapKept.run_getObj_map hb, run_checkKey Tryd.underlying3 hk, run_findKey Tryd.underlying3 h1, h3', h4, run_keyThatStays hk, Go.MapKept.run_setObj_map _ hb, Result.andThen]; rfl, ⟨_, _, (heap_set hb).1, fun x hx => ?_⟩, hup _⟩
    rw [Array.toList_modify] at hx
    obtain ⟨q, hq, rfl⟩ := List.mem_iff_getElem.1 hx
    rw [List.getElem_modify]
    split
    · exact ⟨i, n, rfl, rfl, hg⟩
    · exact he _ (List.getElem_mem _)
/-- The world of a call that keeps a map: nothing else below changes, the map is good. -/
structure MSt (w w' : World) (b : Nat) (good : Int → Int → Prop) : Prop where
  upd : Upd w w' b
  memo : MemoI w' b good
theorem MemoI.lt {w : World} {b : Nat} {good : Int → Int → Prop} (h : MemoI w b good) : b < w.heap.size := by
  obtain ⟨es, clock, hb, _⟩ := h
  exact lt_of_block hb
theorem MemoI.same {w w' : World} {b : Nat} {good : Int → Int → Prop} (h : MemoI w b good) (hh : w'.heap[b]? = w.heap[b]?) : MemoI w' b good := by
  obtain ⟨es, clock, hb, he⟩ := h
  exact ⟨es, clock, hh.trans hb, he⟩
theorem MemoI.below {w w' : World} {b : Nat} {good : Int → Int → Prop} (h : MemoI w b good) (hb : Below w.heap.size w w') : MemoI w' b good := h.same (hb.block b h.lt)
theorem MSt.refl {w : World} {b : Nat} {good : Int → Int → Prop} (h : MemoI w b good) : MSt w w b good := ⟨Upd.refl w b, h⟩
theorem MSt.below {w W W' : World} {b : Nat} {good : Int → Int → Prop} (h : MSt w W b good) (hb : Below W.heap.size W W') : MSt w W' b good := ⟨h.upd.trans (Upd.of_below hb), h.memo.below hb⟩
theorem MSt.step {w W W' : World} {b : Nat} {good : Int → Int → Prop} (h : MSt w W b good) (hb : MSt W W' b good) : MSt w W' b good := ⟨h.upd.trans hb.upd, hb.memo⟩
theorem mst_alloc {w W : World} {b : Nat} {good : Int → Int → Prop} (h : MSt w W b good) (o : Obj) : MSt w (W.alloc o) b good := h.below (below_alloc (Below.refl _ _) o)
theorem mst_drew {w W : World} {b : Nat} {good : Int → Int → Prop} (h : MSt w W b good) : MSt w W.drew b good := h.below (below_drew (Below.refl _ _))
theorem mst_drewN {w W : World} {b : Nat} {good : Int → Int → Prop} (h : MSt w W b good) (m : Nat) : MSt w (W.drewN m) b good := h.below (pw_below_drewN (Below.refl _ _) m)
/-- A cell is no map. -/
theorem cell_ne {w : World} {b : Nat} {es : Array MapEntry} {clock : Nat} (hb : w.heap[b]? = some (.map es clock)) {a : Addr} {v : Value} (h : w.cell? a = some v) : a.block ≠ b := fun e => by
  unfold World.cell? at h
  rw [e, hb] at h
  simp at h
theorem mst_cell {w W : World} {b : Nat} {good good' : Int → Int → Prop} (h0 : MemoI w b good') (h : MSt w W b good) {a : Addr} {v : Value} (hc : w.cell? a = some v) : W.cell? a = some v := by
  obtain ⟨es, clock, hb, _⟩ := h0
  have hne := cell_ne hb hc
  have hlt := World.block_lt_of_cell? w _ hc
  unfold World.cell? at hc ⊢
  rw [h.upd.block _ hlt hne]
  exact hc
theorem mst_C {w W : World} {b : Nat} {good good' : Int → Int → Prop} (h0 : MemoI w b good') (h : MSt w W b good) {A : Option Addr} {n : Nat} {l : List Int} (hc : Kd.C (Kd.int .i64) w A n l) : Kd.C (Kd.int .i64) W A n l := by
  refine ⟨hc.1, hc.2.1, fun hn => ?_⟩
  obtain ⟨ad, e, hj⟩ := hc.2.2 hn
  refine ⟨ad, e, fun j p hp => ?_⟩
  obtain ⟨c, h1, h2, h3⟩ := hj j p hp
  exact ⟨c, h1, h2, fun i u hu => mst_cell h0 h (h3 i u hu)⟩
theorem mst_tab {w W : World} {b : Nat} {good good' : Int → Int → Prop} (h0 : MemoI w b good') (h : MSt w W b good) (hT : Tab w) : Tab W := fun i hi => mst_cell h0 h (hT i hi)

end Go.Proofs.YtadfcplobidmeaaDoor.Print
