/- Maps of pairs that a call keeps. -/
import Derived.Test.YtadfcplobidmeaaDoorProg
import Derived.Laws.EntriesVeiled
import Derived.Outline
import Derived.Below
import Derived.Deep.Draws
import Derived.Deep.AppendLies
import Derived.Maps.AppendAt
import Derived.OwnWalk
import Derived.Laws.BytesArg
import Derived.Laws.MakeOwn
import Derived.Laws.OwnMore
import Derived.Deep.OwnRows
import Derived.Tactics
import Derived.Lib.ConvBytes
import Derived.Laws.Slices
import Derived.WalkKit
import Derived.KernelRfl
import Derived.RowKit3
import Derived.Deep.LoopGhost
import Derived.Deep.QuietTactic
import Derived.BigQuiet
import Derived.WideLaws
import Derived.Deep.DeepCutAuto
import Derived.Deep.CutBlock
import Derived.Deep.RegionHeld3
import Derived.Laws.Rows
import Derived.Lib.AppendStr
import Derived.ArgAppend
import Derived.Laws.IdiomCopy
import Derived.OrdersHeld
import Derived.Laws.BitsLemmas
import Derived.RowKit
import Derived.Test.YtadfcplobidmeaaDoorWMore
import Derived.Test.YtadfcplobidmeaaDoorHandMap
namespace Go.Proofs.YtadfcplobidmeaaDoor.Print
open Go.RowKit Go.Proofs.YtadfcplobidmeaaDoorW.PrintWords Go.Proofs.YtadfcplobidmeaaDoorW.PrintLast Go.Proofs.YtadfcplobidmeaaDoorW.PrintMore
attribute [local go_sem] max2_int min2_int max_two min_two max_three min_three max_four min_four
set_option linter.unusedVariables false
set_option linter.unusedSimpArgs false
theorem plain3 : Tryd.prog.plainKey 3 = true := by kernel_rfl
theorem info3' : ∃ i, Tryd.prog.info? 3 = some i := info_of_underlying Tryd.underlying3
theorem eqcell (d : Nat) (w : World) (i j : Int) : (Op.equalIn (d + 1) 3 (.int .i64 i) (.int .i64 j)).run Tryd.prog w = .ok (decide (i = j)) w := by
  simp [Op.equalIn, run_underlying Tryd.underlying3, Result.andThen]
  rw [Bool.eq_iff_iff, beq_iff_eq, decide_eq_true_eq]
theorem cells3' : Tryd.prog.cellsOf 3 = 1 := by kernel_rfl
theorem eq74 (w : World) (i j i' j' : Int) : (Op.equal 74 (.agg #[.int .i64 i, .int .i64 j]) (.agg #[.int .i64 i', .int .i64 j'])).run Tryd.prog w = .ok (decide (i = i') && decide (j = j')) w := by
  obtain ⟨inf, hi⟩ := info3'
  show (Op.equalIn (9999 + 1) 74 _ _).run _ _ = _
  rw [run_equalIn_array w 9999 _ _ Tryd.underlying74 hi, cells3']
  have p0 : ∀ a b : Int, (part 3 #[.int .i64 a, .int .i64 b] 0).run Tryd.prog w = .ok (.int .i64 a) w := fun a b => run_part_plain w plain3 rfl
  have p1 : ∀ a b : Int, (part 3 #[.int .i64 a, .int .i64 b] 1).run Tryd.prog w = .ok (.int .i64 b) w := fun a b => run_part_plain w plain3 rfl
  have hr : List.range 2 = [0, 1] := rfl
  by_cases h1 : i = i'
  · by_cases h2 : j = j'
    · simp [hr, Op.eqItems, p0, p1, eqcell 9998, h1, h2, Result.andThen]
    · simp [hr, Op.eqItems, p0, p1, eqcell 9998, h1, h2, Result.andThen]
  · simp [hr, Op.eqItems, p0, p1, eqcell 9998, h1, Result.andThen]
theorem same74 (w : World) (i j : Int) : (Instr.keyThatStays (.agg #[.int .i64 i, .int .i64 j]) (.agg #[.int .i64 i, .int .i64 j])).run Tryd.prog w = .ok (.agg #[.int .i64 i, .int .i64 j]) w := by
  simp [Instr.keyThatStays, Instr.sameBits]
theorem chkcell (em : Bool) (n : Nat) (w : World) (i : Int) : (Instr.checkKey em (n + 1) 3 (.int .i64 i)).run Tryd.prog w = .ok () w := by
  simp [Instr.checkKey, run_underlying Tryd.underlying3]
theorem check74 (w : World) (i j : Int) (em : Bool) : (Instr.checkKey em 10000 74 (.agg #[.int .i64 i, .int .i64 j])).run Tryd.prog w = .ok () w := by
  obtain ⟨inf, hi⟩ := info3'
  have p0 : ∀ a b : Int, (part 3 #[.int .i64 a, .int .i64 b] 0).run Tryd.prog w = .ok (.int .i64 a) w := fun a b => run_part_plain w plain3 rfl
  have p1 : ∀ a b : Int, (part 3 #[.int .i64 a, .int .i64 b] 1).run Tryd.prog w = .ok (.int .i64 b) w := fun a b => run_part_plain w plain3 rfl
  show (Instr.checkKey em (9999 + 1) 74 _).run _ _ = _
  unfold Instr.checkKey
  simp only [Sem.run_bind, run_underlying Tryd.underlying74, Result.andThen_ok]
  simp only [Std.Legacy.Range.forIn_eq_forIn_range', Std.Legacy.Range.size, Nat.sub_zero, Nat.add_one_sub_one, Nat.div_one]
  have hr : List.range' 0 2 = [0, 1] := rfl
  simp [hr, run_sizeOf w hi, cells3', p0, p1, chkcell em 9998, Result.andThen]
/-! ### a map from pairs of numbers to bools that the call keeps: every entry is good -/
open Go.MapKept
def goodKB (good : Int → Int → Bool → Prop) (e : MapEntry) : Prop := ∃ i j x, e.key = .agg #[.int .i64 i, .int .i64 j] ∧ e.val = .bool x ∧ good i j x
def MemoB (w : World) (b : Nat) (good : Int → Int → Bool → Prop) : Prop := ∃ es clock, w.heap[b]? = some (.map es clock) ∧ ∀ e ∈ es.toList, goodKB good e
theorem findAsk {good : Int → Int → Bool → Prop} (w : World) (i j : Int) : ∀ (l : List MapEntry) (k : Nat), (∀ e ∈ l, goodKB good e) → (Instr.findAsking 74 (.agg #[.int .i64 i, .int .i64 j]) l k).run Tryd.prog w = .ok none w ∨ ∃ q e v, (Instr.findAsking 74 (.agg #[.int .i64 i, .int .i64 j]) l k).run Tryd.prog w = .ok (some (k + q, .bool v)) w ∧ good i j v ∧ l[q]? = some e ∧ e.key = .agg #[.int .i64 i, .int .i64 j]
  | [], k, _ => .inl (by simp [Instr.findAsking])
  | e :: es, k, h => by
    obtain ⟨i', j', x, hk, hv, hg⟩ := h e List.mem_cons_self
    by_cases hc : i = i' ∧ j = j'
    · obtain ⟨rfl, rfl⟩ := hc
      refine .inr ⟨0, e, x, ?_, hg, rfl, hk⟩
      simp [Instr.findAsking, hk, eq74, hv, Result.andThen]
    · have hd : (decide (i = i') && decide (j = j')) = false := by
        rw [Bool.and_eq_false_iff, decide_eq_false_iff_not, decide_eq_false_iff_not]
        by_cases h1 : i = i'
        · exact .inr fun h2 => hc ⟨h1, h2⟩
        · exact .inl h1
      have hf : (Instr.findAsking 74 (.agg #[.int .i64 i, .int .i64 j]) (e :: es) k).run Tryd.prog w = (Instr.findAsking 74 (.agg #[.int .i64 i, .int .i64 j]) es (k + 1)).run Tryd.prog w := by
        conv => lhs; unfold Instr.findAsking
        simp only [Sem.run_bind, hk, eq74, hd, Result.andThen_ok]
        rfl
      rw [hf]
      rcases findAsk w i j es (k + 1) (fun x hx => h x (List.mem_cons_of_mem _ hx)) with h1 | ⟨q, e', v, h1, h2, h3, h4⟩
      · exact .inl h1
      · exact .inr ⟨q + 1, e', v, by rw [h1, show k + 1 + q = k + (q + 1) by omega], h2, h3, h4⟩
theorem findKey74 (w : World) (x : Value) (es : List MapEntry) : (Instr.findKey 74 x es).run Tryd.prog w = (Instr.findAsking 74 x es).run Tryd.prog w := run_findKey_eq w (by rw [Tryd.underlying74]) x es
theorem zero4 (w : World) : (zeroValue 4).run Tryd.prog w = .ok (.bool false) w := by kernel_rfl
theorem lookB {w : World} {b : Nat} {good : Int → Int → Bool → Prop} (h : MemoB w b good) (i j : Int) : ∃ v ok, (Instr.lookup 63 (.map (some b)) (.agg #[.int .i64 i, .int .i64 j]) true).run Tryd.prog w = .ok (.tuple #[.bool v, .bool ok]) w ∧ (ok = true → good i j v) := by
  obtain ⟨es, clock, hb, he⟩ := h
  rcases findAsk w i j es.toList 0 he with h1 | ⟨q, e, v, h1, h2, _, _⟩
  · exact ⟨false, false, by simp [Instr.lookup, run_underlying Tryd.underlying63, Go.MapKept.run_getObj_map hb, check74, findKey74, h1, zero4, Result.andThen], fun h => by cases h⟩
  · exact ⟨v, true, by simp [Instr.lookup, run_underlying Tryd.underlying63, Go.MapKept.run_getObj_map hb, check74, findKey74, h1, Result.andThen], fun _ => h2⟩
/-- What has just been laid is found. -/
theorem updB {w : World} {b : Nat} {good : Int → Int → Bool → Prop} (h : MemoB w b good) (i j : Int) (x : Bool) (hg : good i j x) (hu : ∀ y, good i j y → y = x) : ∃ w', (Instr.mapUpdate 63 (.map (some b)) (.agg #[.int .i64 i, .int .i64 j]) (.bool x)).run Tryd.prog w = .ok () w' ∧ MemoB w' b good ∧ Upd w w' b ∧ (Instr.lookup 63 (.map (some b)) (.agg #[.int .i64 i, .int .i64 j]) false).run Tryd.prog w' = .ok (.bool x) w' := by
  obtain ⟨es, clock, hb, he⟩ := h
  have hup : ∀ o, Upd w { w with heap := w.heap.setIfInBounds b o } b := fun o => ⟨rfl, rfl, rfl, by simp, fun k _ hkb => (heap_set (o' := o) hb).2 k hkb⟩
  have look : ∀ (W : World) (es' : Array MapEntry) (c' : Nat), W.heap[b]? = some (.map es' c') → (∀ e ∈ es'.toList, goodKB good e) → (∃ e ∈ es'.toList, e.key = .agg #[.int .i64 i, .int .i64 j]) → (Instr.lookup 63 (.map (some b)) (.agg #[.int .i64 i, .int .i64 j]) false).run Tryd.prog W = .ok (.bool x) W := by
    intro W es' c' hW hgood hex
    rcases findAsk W i j es'.toList 0 hgood with h1 | ⟨q, e, v, h1, h2, _, _⟩
    · exfalso
      obtain ⟨e, hel, hek⟩ := hex
      have : ∀ (l : List MapEntry) (k : Nat), (∀ e ∈ l, goodKB good e) → e ∈ l → (Instr.findAsking 74 (.agg #[.int .i64 i, .int .i64 j]) l k).run Tryd.prog W ≠ .ok none W := by
        intro l
        induction l with
        | nil => intro k _ hm; cases hm
        | cons a l ih =>
          intro k hgl hm
          obtain ⟨i', j', y, hk, hv, _⟩ := hgl a List.mem_cons_self
          by_cases hc : i = i' ∧ j = j'
          · obtain ⟨rfl, rfl⟩ := hc
            simp [Instr.findAsking, hk, eq74, hv, Result.andThen]
          · have hd : (decide (i = i') && decide (j = j')) = false := by
              rw [Bool.and_eq_false_iff, decide_eq_false_iff_not, decide_eq_false_iff_not]
              by_cases h1 : i = i'
              · exact .inr fun h2 => hc ⟨h1, h2⟩
              · exact .inl h1
            have hf : (Instr.findAsking 74 (.agg #[.int .i64 i, .int .i64 j]) (a :: l) k).run Tryd.prog W = (Instr.findAsking 74 (.agg #[.int .i64 i, .int .i64 j]) l (k + 1)).run Tryd.prog W := by
              conv => lhs; unfold Instr.findAsking
              simp only [Sem.run_bind, hk, eq74, hd, Result.andThen_ok]
              rfl
            rw [hf]
            rcases List.mem_cons.1 hm with e1 | e1
            · subst e1
              rw [hk] at hek
              injection hek with hek
              injection hek with hek
              simp only [List.cons.injEq, Value.int.injEq, true_and, and_true] at hek
              exact absurd ⟨hek.1.symm, hek.2.symm⟩ hc
            · exact ih (k + 1) (fun x hx => hgl x (List.mem_cons_of_mem _ hx)) e1
      exact this es'.toList 0 hgood hel h1
    · rw [hu v h2] at h1
      simp [Instr.lookup, run_underlying Tryd.underlying63, Go.MapKept.run_getObj_map hW, check74, findKey74, h1, Result.andThen]
  rcases findAsk w i j es.toList 0 he with h1 | ⟨q, e, v, h1, h2, h3, h4⟩
  · have hgood : ∀ e ∈ (es.push { key := .agg #[.int .i64 i, .int .i64 j], val := .bool x, born := clock }).toList, goodKB good e := fun y hy => by
      rw [Array.toList_push] at hy
      rcases List.mem_append.1 hy with hy | hy
      · exact he y hy
      · rw [List.mem_singleton.1 hy]
        exact ⟨i, j, x, rfl, rfl, hg⟩
    refine ⟨_, by simp [Instr.mapUpdate, run_underlying Tryd.underlying63, Go.MapKept.run_getObj_map hb, check74, findKey74, h1, Go.MapKept.run_setObj_map _ hb, Result.andThen]; rfl, ⟨_, _, (heap_set hb).1, hgood⟩, hup _, look _ _ _ (heap_set hb).1 hgood ⟨_, by rw [Array.toList_push]; exact List.mem_append_right _ (List.mem_singleton.2 rfl), rfl⟩⟩
  · have h3' : es[q]? = some e := by rw [← Array.getElem?_toList]; exact h3
    have hgood : ∀ y ∈ (es.modify q fun e => { e with key := .agg #[.int .i64 i, .int .i64 j], val := .bool x }).toList, goodKB good y := fun y hy => by
      rw [Array.toList_modify] at hy
      obtain ⟨p, hp, rfl⟩ := List.mem_iff_getElem.1 hy
      rw [List.getElem_modify]
      split
      · exact ⟨i, j, x, rfl, rfl, hg⟩
      · exact he _ (List.getElem_mem _)
    refine ⟨_, by simp [Instr.mapUpdate, run_underlying Tryd.underlying63, Go.MapKept.run_getObj_map hb, check74, findKey74, h1, h3', h4, same74, Go.MapKept.run_setObj_map _ hb, Result.andThen]; rfl, ⟨_, _, (heap_set hb).1, hgood⟩, hup _, look _ _ _ (heap_set hb).1 hgood ?_⟩
    have hq : q < es.toList.length := (List.getElem?_eq_some_iff.1 h3).1
    refine ⟨(es.toList.modify q fun e => { e with key := .agg #[.int .i64 i, .int .i64 j], val := .bool x })[q]'(by simpa using hq), by rw [Array.toList_modify]; exact List.getElem_mem _, ?_⟩
    rw [List.getElem_modify, if_pos rfl]
/-- The world of a call that keeps a map: nothing else below changes, the map is good. -/
structure MSu (w w' : World) (b : Nat) (good : Int → Int → Bool → Prop) : Prop where
  upd : Upd w w' b
  memo : MemoB w' b good
theorem MemoB.lt {w : World} {b : Nat} {good : Int → Int → Bool → Prop} (h : MemoB w b good) : b < w.heap.size := by
  obtain ⟨es, clock, hb, _⟩ := h
  exact lt_of_block hb
theorem MemoB.same {w w' : World} {b : Nat} {good : Int → Int → Bool → Prop} (h : MemoB w b good) (hh : w'.heap[b]? = w.heap[b]?) : MemoB w' b good := by
  obtain ⟨es, clock, hb, he⟩ := h
  exact ⟨es, clock, hh.trans hb, he⟩
theorem MemoB.below {w w' : World} {b : Nat} {good : Int → Int → Bool → Prop} (h : MemoB w b good) (hb : Below w.heap.size w w') : MemoB w' b good := h.same (hb.block b h.lt)
theorem MSu.refl {w : World} {b : Nat} {good : Int → Int → Bool → Prop} (h : MemoB w b good) : MSu w w b good := ⟨Upd.refl w b, h⟩
theorem MSu.below {w W W' : World} {b : Nat} {good : Int → Int → Bool → Prop} (h : MSu w W b good) (hb : Below W.heap.size W W') : MSu w W' b good := ⟨h.upd.trans (Upd.of_below hb), h.memo.below hb⟩
theorem MSu.step {w W W' : World} {b : Nat} {good : Int → Int → Bool → Prop} (h : MSu w W b good) (hb : MSu W W' b good) : MSu w W' b good := ⟨h.upd.trans hb.upd, hb.memo⟩
theorem msu_alloc {w W : World} {b : Nat} {good : Int → Int → Bool → Prop} (h : MSu w W b good) (o : Obj) : MSu w (W.alloc o) b good := h.below (below_alloc (Below.refl _ _) o)
theorem msu_drew {w W : World} {b : Nat} {good : Int → Int → Bool → Prop} (h : MSu w W b good) : MSu w W.drew b good := h.below (below_drew (Below.refl _ _))
theorem msu_drewN {w W : World} {b : Nat} {good : Int → Int → Bool → Prop} (h : MSu w W b good) (m : Nat) : MSu w (W.drewN m) b good := h.below (pw_below_drewN (Below.refl _ _) m)
theorem msu_cell {w W : World} {b : Nat} {good good' : Int → Int → Bool → Prop} (h0 : MemoB w b good') (h : MSu w W b good) {a : Addr} {v : Value} (hc : w.cell? a = some v) : W.cell? a = some v := by
  obtain ⟨es, clock, hb, _⟩ := h0
  have hne := cell_ne hb hc
  have hlt := World.block_lt_of_cell? w _ hc
  unfold World.cell? at hc ⊢
  rw [h.upd.block _ hlt hne]
  exact hc
theorem msu_C {w W : World} {b : Nat} {good good' : Int → Int → Bool → Prop} (h0 : MemoB w b good') (h : MSu w W b good) {A : Option Addr} {n : Nat} {l : List Int} (hc : Kd.C (Kd.int .i64) w A n l) : Kd.C (Kd.int .i64) W A n l := by
  refine ⟨hc.1, hc.2.1, fun hn => ?_⟩
  obtain ⟨ad, e, hj⟩ := hc.2.2 hn
  refine ⟨ad, e, fun j p hp => ?_⟩
  obtain ⟨c, h1, h2, h3⟩ := hj j p hp
  exact ⟨c, h1, h2, fun i u hu => msu_cell h0 h (h3 i u hu)⟩
theorem msu_tab {w W : World} {b : Nat} {good good' : Int → Int → Bool → Prop} (h0 : MemoB w b good') (h : MSu w W b good) (hT : Tab w) : Tab W := fun i hi => msu_cell h0 h (hT i hi)
/-- A map that the call has made: nothing below has changed, what is said of the map holds. -/
structure BM (w w' : World) (g : Nat) (M : World → Prop) : Prop where
  below : Below w.heap.size w w'
  ge : w.heap.size ≤ g
  memo : M w'
theorem BM.step {w W W' : World} {g : Nat} {M : World → Prop} (h : BM w W g M) (hu : Upd W W' g) (hm : M W') : BM w W' g M := ⟨hu.below h.below h.below.size h.ge, h.ge, hm⟩
theorem BM.b_alloc {w W : World} {g : Nat} {good : Int → Int → Bool → Prop} (h : BM w W g (fun W => MemoB W g good)) (o : Obj) : BM w (W.alloc o) g (fun W => MemoB W g good) := ⟨below_alloc h.below o, h.ge, h.memo.below (below_alloc (Below.refl _ _) o)⟩
theorem BM.b_drew {w W : World} {g : Nat} {good : Int → Int → Bool → Prop} (h : BM w W g (fun W => MemoB W g good)) : BM w W.drew g (fun W => MemoB W g good) := ⟨below_drew h.below, h.ge, h.memo.below (below_drew (Below.refl _ _))⟩
theorem BM.b_drewN {w W : World} {g : Nat} {good : Int → Int → Bool → Prop} (h : BM w W g (fun W => MemoB W g good)) (m : Nat) : BM w (W.drewN m) g (fun W => MemoB W g good) := ⟨pw_below_drewN h.below m, h.ge, h.memo.below (pw_below_drewN (Below.refl _ _) m)⟩
theorem BM.i_alloc {w W : World} {g : Nat} {good : Int → Int → Prop} (h : BM w W g (fun W => MemoI W g good)) (o : Obj) : BM w (W.alloc o) g (fun W => MemoI W g good) := ⟨below_alloc h.below o, h.ge, h.memo.below (below_alloc (Below.refl _ _) o)⟩
theorem BM.i_drew {w W : World} {g : Nat} {good : Int → Int → Prop} (h : BM w W g (fun W => MemoI W g good)) : BM w W.drew g (fun W => MemoI W g good) := ⟨below_drew h.below, h.ge, h.memo.below (below_drew (Below.refl _ _))⟩
theorem BM.i_drewN {w W : World} {g : Nat} {good : Int → Int → Prop} (h : BM w W g (fun W => MemoI W g good)) (m : Nat) : BM w (W.drewN m) g (fun W => MemoI W g good) := ⟨pw_below_drewN h.below m, h.ge, h.memo.below (pw_below_drewN (Below.refl _ _) m)⟩
theorem BM.i_below {w W W' : World} {g : Nat} {good : Int → Int → Prop} (h : BM w W g (fun W => MemoI W g good)) (hb : Below W.heap.size W W') : BM w W' g (fun W => MemoI W g good) := ⟨below_step h.below hb, h.ge, h.memo.below hb⟩
/-- A shop is handed back: the very slice, where it is one. -/
def ShopRet (e : Ending) (v : Value) (r : Bool) : Prop := ∃ v_ : Value, e = .returned (.tuple #[v_, .bool r]) ∧ (r = true → v_ = v)
theorem memoB_new (w : World) (good : Int → Int → Bool → Prop) : MemoB (w.alloc (Obj.map #[] 0)) w.heap.size good := ⟨#[], 0, heap_alloc_new _ _, by simp⟩
theorem memoI_new (w : World) (good : Int → Int → Prop) : MemoI (w.alloc (Obj.map #[] 0)) w.heap.size good := ⟨#[], 0, heap_alloc_new _ _, by simp⟩
theorem MemoI.drewN {w : World} {b : Nat} {good : Int → Int → Prop} (h : MemoI w b good) (m : Nat) : MemoI (w.drewN m) b good := h.below (pw_below_drewN (Below.refl _ _) m)
theorem MemoI.drew {w : World} {b : Nat} {good : Int → Int → Prop} (h : MemoI w b good) : MemoI w.drew b good := h.below (below_drew (Below.refl _ _))
theorem BM.start {w W W' : World} {g : Nat} {good : Int → Int → Prop} (hB : Below w.heap.size w W) (hg : w.heap.size ≤ g) (h : MSt W W' g good) : BM w W' g (fun W => MemoI W g good) := ⟨h.upd.below hB hB.size hg, hg, h.memo⟩
theorem BM.grown {w W w1 : World} {g : Nat} {good : Int → Int → Prop} {v : Value} (h : BM w W g (fun W => MemoI W g good)) (hb : Below w.heap.size w w1) (hg : W.grownBy w1 v.ownBlock) (hv : ∀ k, v.ownBlock = some k → k ≠ g) : BM w w1 g (fun W => MemoI W g good) :=
  ⟨hb, h.ge, h.memo.same (hg.block g h.memo.lt (fun e => hv g e.symm rfl))⟩
theorem Upd.keep {w w1 : World} {g : Nat} (h : Upd w w1 g) : KeepBut w w1 g none := ⟨h.size, fun i hi hne _ => h.block i hi hne⟩
theorem BM.fresh {w W : World} {g : Nat} {good : Int → Int → Prop} (h : BM w W g (fun W => MemoI W g good)) (k : Nat) (hk : W.heap.size ≤ k) : k ≠ g := fun e => by
  have := h.memo.lt
  omega
theorem memoI_new' (w : World) (g : Nat) (good : Int → Int → Prop) (h : g = w.heap.size) : MemoI (w.alloc (Obj.map #[] 0)) g good := by
  subst h
  exact memoI_new w good

end Go.Proofs.YtadfcplobidmeaaDoor.Print
