/- blocks.Cores and its closures, by hand. -/
import Derived.Test.YtcmphfcpiciehaaProg
import Derived.Laws.EntriesVeiled
import Derived.Outline
import Derived.Below
import Derived.Deep.Draws
import Derived.Deep.AppendLies
import Derived.Maps.AppendAt
import Derived.OwnWalk
import Derived.Laws.BytesArg
import Derived.Laws.MakeOwn
import Derived.Laws.OwnMore
import Derived.Deep.OwnRows
import Derived.Tactics
import Derived.Lib.ConvBytes
import Derived.Laws.Slices
import Derived.WalkKit
import Derived.KernelRfl
import Derived.RowKit3
import Derived.Deep.LoopGhost
import Derived.Deep.QuietTactic
import Derived.BigQuiet
import Derived.WideLaws
import Derived.Deep.DeepCutAuto
import Derived.Deep.CutBlock
import Derived.Deep.RegionHeld3
import Derived.Laws.Rows
import Derived.Lib.AppendStr
import Derived.ArgAppend
import Derived.Laws.IdiomCopy
import Derived.OrdersHeld
import Derived.Laws.BitsLemmas
import Derived.RowKit
import Derived.Test.YtcmphfcpiciehaaPrintx7
import Derived.Test.YtcmphfcpiciehaaHandAll
import Derived.OneCell
import Derived.Deep.RegionLaw
import Derived.Deep.RegionWith
import Derived.Test.YtcmphfcpiciehaaWMore
namespace Go.Proofs.Ytcmphfcpiciehaa.Print
open Go.RowKit Go.Proofs.YtcmphfcpiciehaaW.PrintWords Go.Proofs.YtcmphfcpiciehaaW.PrintLast Go.Proofs.YtcmphfcpiciehaaW.PrintMore
attribute [local go_sem] max2_int min2_int max_two min_two max_three min_three max_four min_four
set_option linter.unusedVariables false
set_option linter.unusedSimpArgs false
/-! ### blocks.Cores, blocks.shapes and their closures: functions 43, 67, 79 (shapes$1), 68 (Cores$1) -/
/-- A box: one block of one cell. -/
def ptr0 (b : Nat) : Value := .pointer (some ⟨b, 0, none⟩)
/-- The boxes that the closures hold: t, out, found, l, on. -/
structure Bx (b : Nat) (w : World) (a1 : Int) (vo vl : Value) : Prop where
  t : w.heap[b]? = some (.cells #[.int .i64 a1] 3 (0, 0))
  o : w.heap[b + 1]? = some (.cells #[vo] 23 (0, 0))
  f : w.heap[b + 2]? = some (.cells #[.func (.func 68) #[] #[.pointer (some ⟨b, 0, none⟩), .pointer (some ⟨b + 1, 0, none⟩)]] 63 (0, 0))
  l : w.heap[b + 3]? = some (.cells #[vl] 22 (0, 0))
  n : w.heap[b + 4]? = some (.cells #[.func (.func 79) #[] #[.pointer (some ⟨b + 2, 0, none⟩), .pointer (some ⟨b + 3, 0, none⟩), .pointer (some ⟨b + 4, 0, none⟩)]] 68 (0, 0))
/-- .. and the rows that they hold: the shape that is built, and the shapes that were found. -/
structure In (b : Nat) (w : World) (a1 : Int) (vo vl : Value) (L : List Int) (out : List (List Int)) : Prop where
  bx : Bx b w a1 vo vl
  rl : Kd.R (Kd.int .i64) 3 w (b + 5) (fun _ => True) vl L
  ro : Kd.S (Kd.slice 3 (Kd.int .i64)) 22 w (b + 5) (fun k => some k ≠ vl.ownBlock) vo out
section
variable {b : Nat} {w w1 : World} {a1 : Int} {vo vl : Value} {L : List Int} {out : List (List Int)}
theorem Bx.step (h : Bx b w a1 vo vl) (hm : ∀ k, k < b + 5 → w1.heap[k]? = w.heap[k]?) : Bx b w1 a1 vo vl :=
  ⟨(hm _ (by omega)).trans h.t, (hm _ (by omega)).trans h.o, (hm _ (by omega)).trans h.f, (hm _ (by omega)).trans h.l, (hm _ (by omega)).trans h.n⟩
theorem Bx.lt (h : Bx b w a1 vo vl) : b + 4 < w.heap.size := lt_of_block h.n
theorem In.below (h : In b w a1 vo vl L out) (hb : Below w.heap.size w w1) : In b w1 a1 vo vl L out :=
  ⟨h.bx.step (fun k hk => hb.block k (by have := h.bx.lt; omega)), Kd.R_below h.rl hb, Kd.S_below h.ro hb⟩
/-- out has been written: the row, and its box. -/
theorem In.put {vo' : Value} {out' : List (List Int)} {W : World} (h : In b W a1 vo vl L out) (hg : W.grownBy w1 vo.ownBlock) (hs : Kd.S (Kd.slice 3 (Kd.int .i64)) 22 w1 (b + 5) (fun k => some k ≠ vl.ownBlock) vo' out') :
    In b (w1.setCell ⟨b + 1, 0, none⟩ vo') a1 vo' vl L out' := by
  have hlt := h.bx.lt
  have far : ∀ k, k < W.heap.size → some k ≠ vo.ownBlock → k ≠ b + 1 → (w1.setCell ⟨b + 1, 0, none⟩ vo').heap[k]? = W.heap[k]? := fun k h1 h2 h3 => (Below.heap_setCell w1 ⟨b + 1, 0, none⟩ vo' k h3).trans (hg.block k h1 h2)
  have bo : ∀ k, k < b + 5 → some k ≠ vo.ownBlock := fun k hk e => by
    have := Kd.S_base h.ro k e.symm
    omega
  have o1 : w1.heap[b + 1]? = some (.cells #[vo] 23 (0, 0)) := (hg.block _ (by omega) (bo _ (by omega))).trans h.bx.o
  refine ⟨⟨(far _ (by omega) (bo _ (by omega)) (by omega)).trans h.bx.t, one_setCell o1, (far _ (by omega) (bo _ (by omega)) (by omega)).trans h.bx.f, (far _ (by omega) (bo _ (by omega)) (by omega)).trans h.bx.l, (far _ (by omega) (bo _ (by omega)) (by omega)).trans h.bx.n⟩, ?_, ?_⟩
  · refine Kd.R_mono (Kd.R_move (Kd.R_bound h.rl) (fun k hk => far k hk.2.2.1 (fun e => ?_) (by have := hk.2.1; omega))) (fun _ _ => trivial)
    obtain ⟨q, hq, cells, hc⟩ := hk.2.2.2
    obtain ⟨cells2, hc2⟩ := Kd.S_typed h.ro k e.symm
    rw [hc] at hc2
    have : q = 3 := by simpa [Kd.int, Kd.scalar] using hq
    have h22 : q = 22 := by injection hc2 with e1; injection e1
    omega
  · exact Kd.S_mono (Kd.S_move (Kd.S_bound hs) (fun k hk => Below.heap_setCell w1 ⟨b + 1, 0, none⟩ vo' k (by have := hk.2.1; show k ≠ b + 1; omega))) (fun _ hk => hk.1)
end
section
variable {P : Program} {ops : Array Oper} {o : Oper} {a : Act} {Q : Exit → Act → World → Prop} {Kc : Act → World → Prop} {α : Type}
/-- append(v, x) as one step of a region that draws. -/
theorem S_step_append (d : Kd α) {w0 W : World} (base : Nat) (hw : Region.wanted o (yielded ops a.tmps) = true) (s x : Operand) (t e : TypeId) (z : Value) (bytes : Nat)
    (ho : o.op = .call { callee := .builtin .append, args := #[s, x], argTypes := #[t, t] })
    (ht : P.underlying t = some (.slice e)) (hinfo : (P.info? e).map (fun i => (i.zero, i.size, i.bytes)) = some (some z, d.sz, bytes)) (hz : z.cells.size = d.sz) (hs0 : 0 < d.sz) (hb0 : 0 < bytes)
    (v : Value) (xs : List α) (p : α) (cs : List Value) (ok okp : Nat → Prop) (hs : a.eval s = v) (hx : a.eval x = .slice (some ⟨W.heap.size, 0, none⟩) 1 1) (hp : d.M W base okp p cs) (hokp : ∀ k, okp k → ok k ∧ some k ≠ v.ownBlock) (hfresh : ∀ k, W.heap.size ≤ k → ok k)
    (HO : Kd.S d e W base (fun k => ok k ∧ ¬ okp k) v xs) (HB : Below base w0 W) (hbase : base ≤ W.heap.size) (hl : (xs.length + 1) * bytes ≤ 140737488355328)
    (h : ∀ v1 w1, Kd.S d e w1 base ok v1 (xs ++ [p]) → Below base w0 w1 → W.grownBy w1 v.ownBlock → Kc (a.put o.dst v1) w1) :
    if Region.wanted o (yielded ops a.tmps) = true then Oper.wp P o a (W.alloc (.cells cs.toArray e)) Kc Q else Kc (a.put o.dst undef) (W.alloc (.cells cs.toArray e)) := by
  obtain ⟨f, hf, hR⟩ := Kd.S_tag HO xs.length okp (fun _ hk h2 => h2.2 hk)
  refine Kd.R_append_step (Kd.tag f d) base hw s x t e z bytes ho ht hinfo hz hs0 hb0 v xs.zipIdx (p, xs.length) cs ok okp hs hx (d.M_mono (fun k hk => ⟨hk, hf k hk⟩) hp) hokp hfresh (Kd.R_mono hR (fun _ hk => hk.1)) HB hbase (by rw [List.length_zipIdx]; exact hl) ?_
  intro v1 w1 hr hb hg hat
  have e1 : xs.zipIdx ++ [(p, xs.length)] = (xs ++ [p]).zipIdx := by rw [List.zipIdx_append]; simp
  rw [e1] at hr
  exact h v1 w1 ⟨f, hr⟩ hb hg
end
section
variable {b : Nat} {w1 w2 : World} {a1 : Int} {vo vl v2 : Value} {L : List Int} {out : List (List Int)}
theorem M2_ (hlt : b + 4 < w1.heap.size) (h : Kd.R (Kd.int .i64) 3 w2 w1.heap.size (fun _ => True) v2 L) : (Kd.slice 3 (Kd.int .i64)).M w2 (b + 5) (fun k => some k = v2.ownBlock) L [v2] :=
  ⟨v2, rfl, Kd.R_lower (Kd.R_tight rfl h) (by omega)⟩
theorem K2_ (hI : In b w1 a1 vo vl L out) (h : Kd.R (Kd.int .i64) 3 w2 w1.heap.size (fun _ => True) v2 L) : ∀ k, some k = v2.ownBlock → some k ≠ vl.ownBlock ∧ some k ≠ vo.ownBlock := fun k hk => by
  have h1 := Kd.R_base h k hk.symm
  refine ⟨fun e => ?_, fun e => ?_⟩
  · have := Kd.R_lt hI.rl k e.symm; omega
  · have := Kd.S_lt hI.ro k e.symm; omega
theorem F2_ (hI : In b w1 a1 vo vl L out) (hb : Below w1.heap.size w1 w2) : ∀ k, w2.heap.size ≤ k → some k ≠ vl.ownBlock := fun k hk e => by
  have := Kd.R_lt hI.rl k e.symm
  have := hb.size
  omega
theorem O2_ (hI : In b w1 a1 vo vl L out) (h : Kd.R (Kd.int .i64) 3 w2 w1.heap.size (fun _ => True) v2 L) (hb : Below w1.heap.size w1 w2) : Kd.S (Kd.slice 3 (Kd.int .i64)) 22 w2 (b + 5) (fun k => some k ≠ vl.ownBlock ∧ ¬ some k = v2.ownBlock) vo out :=
  Kd.S_mono (Kd.S_below (Kd.S_bound hI.ro) hb) (fun k hk => ⟨hk.1, fun e => by
    have := Kd.R_base h k e.symm
    have := hk.2.2.1
    omega⟩)
theorem O1_ (hI : In b w1 a1 vo vl L out) : ∀ k, k < b + 5 → some k ≠ vo.ownBlock := fun k hk e => by
  have := Kd.S_base hI.ro k e.symm
  omega
end
set_option maxHeartbeats 4000000 in
set_option maxRecDepth 100000 in
/-- found: a shape without strips is laid to the others. -/
theorem found_calls (k : Nat) (a1 : Int) (L : List Int) (s out : List (List Int)) (b : Nat) (w : World) (vo vl : Value) (hI : In b w a1 vo vl L out) (hs : blocks_strips.f k L a1 = some s) (hlen : out.length ≤ 1000000000) (hL : L.length ≤ 1000) :
    Calls Try.prog 68 #[vl, .pointer (some ⟨b, 0, none⟩), .pointer (some ⟨b + 1, 0, none⟩)] w fun e w' => e = .returned (.tuple #[]) ∧ ∃ vo', In b w' a1 vo' vl L (if s.length = 0 then out ++ [L] else out) ∧ Below b w w' := by
  obtain ⟨A, c, rfl⟩ := Kd.R_slice hI.rl
  have hc := (Kd.R_reads' hI.rl).2.1
  have HI := Aside0.mk hI
  have HS := Aside0.mk hs
  have HC := Aside0.mk hc
  have HN := Aside0.mk hlen
  have cT := cell_of_one hI.bx.t
  have hcl : slices_Clone_int_int.f L = some L := by
    unfold slices_Clone_int_int.f
    rw [Option.bind_some, if_pos (by simp only [List.length_nil]; omega), List.nil_append]
  have HCL := Aside0.mk hcl
  clear hI hs hc hlen hL hcl
  by_cases hz : s.length = 0
  · rw [if_pos hz]
    have z1 : (((s.length : Nat) : Int) == 0) = true := by rw [hz]; rfl
    have z2 : decide (((s.length : Nat) : Int) = 0) = true := decide_eq_true (by omega)
    go_enter Try.func68, Try.ntmps68
    go_wp2_with (first | ((with_reducible refine gate_callee (f := 53) rfl ?_); refine goesL_ _ rfl rfl Try.func53 (by kernel_rfl) rfl #[.slice A L.length c, .int .i64 a1] rfl (by (try simp only [List.map_toArray, List.map_cons, List.map_nil]); first | done | rfl) ?_; refine (blocks_strips.calls k A c L a1 s w (Kd.R_reads' HI.out.rl).2.2 HC.out HS.out).mono ?_; rintro e w1 ⟨v1, rfl, ho, hb⟩; refine ⟨_, rfl, ?_⟩; obtain ⟨As, cs, rfl⟩ := Kd.S_slice ho; have HI1 := Aside0.mk (HI.out.below hb); have HB1 := Aside0.mk (hb.mono (show b ≤ w.heap.size by have := HI.out.bx.lt; omega)); clear ho hb))
    have cO := cell_of_one HI1.out.bx.o
    have fO := free_of_one HI1.out.bx.o
    have HC1 := Aside0.mk (Kd.R_reads' HI1.out.rl).2.2
    have HO1 := Aside0.mk (fun (_ : Unit) => O1_ HI1.out (b + 1) (by omega))
    go_region_law (first
      | (refine S_step_append (Kd.slice 3 (Kd.int .i64)) (w0 := w1) (b + 5) (by first | rfl | (simp; done) | (go_simp; done)) (.tmp 9) (.tmp 12) 23 22 (.slice none 0 0) 24 rfl Try.underlying23 info22 rfl (by decide) (by decide) vo out L [.slice A2 L.length c2] (fun k => some k ≠ (Value.slice A L.length c).ownBlock) (fun k => some k = (Value.slice A2 L.length c2).ownBlock) rfl rfl HP2.out HK2.out HF2.out HO2.out HB2.out HZ2.out (by have := HN.out; omega) ?_; intro v3 w3 hs3 hb3 hg3; obtain ⟨A3, c3, rfl⟩ := Kd.S_slice hs3; have HI3 := Aside0.mk (HI2.out.put hg3 hs3); have o3 := (hg3.block (b + 1) (by have := HI2.out.bx.lt; omega) (HO1.out ())).trans HI2.out.bx.o; have cO3 := cell_of_one o3; have fO3 := free_of_one o3; have HB3 := Aside0.mk (HB1.out.trans (hb3.mono (by omega))); clear hs3 hb3 hg3 o3)
      | (go_simp; go_at_call 54; refine (slices_Clone_int_int.calls A c L L _ (by repeat (first | exact HC1.out | refine Kd.C_drew ?_ | refine Kd.C_drewN ?_ _)) HC.out HCL.out).mono ?_; rintro e w2 ⟨v2, rfl, ho2, hb2⟩; obtain ⟨A2, c2, rfl⟩ := Kd.R_slice ho2; have hb12 : Below w1.heap.size w1 w2 := ((Below.refl w1.heap.size w1).drew).trans hb2; have HI2 := Aside0.mk (HI1.out.below hb12); have HP2 := Aside0.mk (M2_ HI1.out.bx.lt ho2); have HK2 := Aside0.mk (K2_ HI1.out ho2); have HF2 := Aside0.mk (F2_ HI1.out hb12); have HO2 := Aside0.mk (O2_ HI1.out ho2 hb12); have HB2 := Aside0.mk (hb12.mono (show b + 5 ≤ w1.heap.size by have := HI1.out.bx.lt; omega)); have HZ2 := Aside0.mk (show b + 5 ≤ w2.heap.size by have := HI2.out.bx.lt; omega); have cO2 := cell_of_one HI2.out.bx.o; have fO2 := free_of_one HI2.out.bx.o; have cO2a := ((below_alloc (Below.refl w2.heap.size w2) (.cells #[Value.slice A2 L.length c2] 22)).cell (World.block_lt_of_cell? _ _ cO2)).trans cO2; clear ho2 hb2 hb12))
    all_goals
      go_end0
      rw [show (out ++ [L]).length = out.length + 1 by simp] at HI3
      exact ⟨rfl, _, HI3.out, HB3.out.setCell (Nat.le_succ b) _⟩
  · rw [if_neg hz]
    have z1 : (((s.length : Nat) : Int) == 0) = false := beq_eq_false_iff_ne.mpr (by omega)
    have z2 : decide (((s.length : Nat) : Int) = 0) = false := decide_eq_false (by omega)
    go_enter Try.func68, Try.ntmps68
    go_wp2_with (first | ((with_reducible refine gate_callee (f := 53) rfl ?_); refine goesL_ _ rfl rfl Try.func53 (by kernel_rfl) rfl #[.slice A L.length c, .int .i64 a1] rfl (by (try simp only [List.map_toArray, List.map_cons, List.map_nil]); first | done | rfl) ?_; refine (blocks_strips.calls k A c L a1 s w (Kd.R_reads' HI.out.rl).2.2 HC.out HS.out).mono ?_; rintro e w1 ⟨v1, rfl, ho, hb⟩; refine ⟨_, rfl, ?_⟩; obtain ⟨As, cs, rfl⟩ := Kd.S_slice ho; have HI1 := Aside0.mk (HI.out.below hb); have HB1 := Aside0.mk (hb.mono (show b ≤ w.heap.size by have := HI.out.bx.lt; omega)); clear ho hb))
    go_end0
    exact ⟨rfl, _, HI1.out, HB1.out⟩
mutual
def blocks_shapes_on.on : Nat → Int → List Int → List (List Int) → Int → Int → Option (List (List Int))
  | 0, _, _, _, _, _ => none
  | k + 1, a1, L, out, left, most => if left = 0 then (if out.length ≤ 1000000000 then (if L.length ≤ 1000 then ((blocks_strips.f k L a1).bind fun s => (some (if s.length = 0 then out ++ [L] else out))) else none) else none) else (blocks_shapes_on.lp k a1 L out left most 1)
def blocks_shapes_on.lp : Nat → Int → List Int → List (List Int) → Int → Int → Int → Option (List (List Int))
  | 0, _, _, _, _, _, _ => none
  | k + 1, a1, L, out, left, most, x => if x ≤ mn left most then (if (L.length : Int) < 12 then ((blocks_shapes_on.on k a1 (L ++ [x]) out (wrap64 (left - x)) x).bind fun out' => (blocks_shapes_on.lp k a1 L out' left most (wrap64 (x + 1)))) else (some out)) else (some out)
end
theorem blocks_shapes_on.mono_l : ∀ k, (∀ y0 y1 y2 y3 y4, LeO (blocks_shapes_on.on k y0 y1 y2 y3 y4) (blocks_shapes_on.on (k + 1) y0 y1 y2 y3 y4)) ∧ (∀ y0 y1 y2 y3 y4 y5, LeO (blocks_shapes_on.lp k y0 y1 y2 y3 y4 y5) (blocks_shapes_on.lp (k + 1) y0 y1 y2 y3 y4 y5))
  | 0 => ⟨fun _ _ _ _ _ r h => by simp [blocks_shapes_on.on] at h, fun _ _ _ _ _ _ r h => by simp [blocks_shapes_on.lp] at h⟩
  | k + 1 => by
    obtain ⟨ih0, ih1⟩ := blocks_shapes_on.mono_l k
    refine ⟨?_, ?_⟩
    · intro y0 y1 y2 y3 y4
      unfold blocks_shapes_on.on
      repeat' first
      | (with_reducible exact ih1 _ _ _ _ _ _)
      | (with_reducible exact blocks_strips.mono _ _ _)
      | (with_reducible exact LeO.refl _)
      | (with_reducible exact LeO.none _)
      | (with_reducible refine LeO.ite ?_ ?_)
      | (with_reducible refine LeO.bind ?_ (fun _ => ?_))
    · intro y0 y1 y2 y3 y4 y5
      unfold blocks_shapes_on.lp
      repeat' first
      | (with_reducible exact ih0 _ _ _ _ _)
      | (with_reducible exact ih1 _ _ _ _ _ _)
      | (with_reducible exact LeO.refl _)
      | (with_reducible exact LeO.none _)
      | (with_reducible refine LeO.ite ?_ ?_)
      | (with_reducible refine LeO.bind ?_ (fun _ => ?_))
section
variable {b : Nat} {w w1 : World} {a1 : Int} {vo vl : Value} {L : List Int} {out : List (List Int)}
/-- l has been written: its row, and its box. -/
theorem In.push {vl' : Value} {L' : List Int} {W : World} (h : In b W a1 vo vl L out) (hg : W.grownBy w1 vl.ownBlock) (hat : vl'.ownBlock = vl.ownBlock ∨ ∃ g, vl'.ownBlock = some g ∧ W.heap.size ≤ g) (hr : Kd.R (Kd.int .i64) 3 w1 (b + 5) (fun _ => True) vl' L') :
    In b (w1.setCell ⟨b + 3, 0, none⟩ vl') a1 vo vl' L' out := by
  have hlt := h.bx.lt
  have far : ∀ k, k < W.heap.size → some k ≠ vl.ownBlock → k ≠ b + 3 → (w1.setCell ⟨b + 3, 0, none⟩ vl').heap[k]? = W.heap[k]? := fun k h1 h2 h3 => (Below.heap_setCell w1 ⟨b + 3, 0, none⟩ vl' k h3).trans (hg.block k h1 h2)
  have bo : ∀ k, k < b + 5 → some k ≠ vl.ownBlock := fun k hk e => by
    have := Kd.R_base h.rl k e.symm
    omega
  have o1 : w1.heap[b + 3]? = some (.cells #[vl] 22 (0, 0)) := (hg.block _ (by omega) (bo _ (by omega))).trans h.bx.l
  refine ⟨⟨(far _ (by omega) (bo _ (by omega)) (by omega)).trans h.bx.t, (far _ (by omega) (bo _ (by omega)) (by omega)).trans h.bx.o, (far _ (by omega) (bo _ (by omega)) (by omega)).trans h.bx.f, one_setCell o1, (far _ (by omega) (bo _ (by omega)) (by omega)).trans h.bx.n⟩, ?_, ?_⟩
  · exact Kd.R_mono (Kd.R_move (Kd.R_bound hr) (fun k hk => Below.heap_setCell w1 ⟨b + 3, 0, none⟩ vl' k (by have := hk.2.1; show k ≠ b + 3; omega))) (fun _ _ => trivial)
  · have hs := Kd.S_after (v := vl) (v1 := vl') (ok := fun _ => True) (Kd.S_mono h.ro (fun _ hk => ⟨trivial, hk⟩)) hg hat
    exact Kd.S_mono (Kd.S_move (Kd.S_bound hs) (fun k hk => Below.heap_setCell w1 ⟨b + 3, 0, none⟩ vl' k (by have := hk.2.1; show k ≠ b + 3; omega))) (fun _ hk => hk.1.2)
/-- l has been cut. -/
theorem In.pop {x : Int} {A : Option Addr} {n c : Nat} (h : In b w a1 vo (.slice A n c) (L ++ [x]) out) : In b (w.setCell ⟨b + 3, 0, none⟩ (.slice A L.length c)) a1 vo (.slice A L.length c) L out := by
  have hr := Kd.R_take h.rl (m := L.length) (by simp)
  have e : (L ++ [x]).take L.length = L := by simp
  rw [e] at hr
  have hlt := h.bx.lt
  have far : ∀ k, k ≠ b + 3 → (w.setCell ⟨b + 3, 0, none⟩ (.slice A L.length c)).heap[k]? = w.heap[k]? := fun k h3 => Below.heap_setCell w ⟨b + 3, 0, none⟩ _ k h3
  refine ⟨⟨(far _ (by omega)).trans h.bx.t, (far _ (by omega)).trans h.bx.o, (far _ (by omega)).trans h.bx.f, one_setCell h.bx.l, (far _ (by omega)).trans h.bx.n⟩, ?_, ?_⟩
  · exact Kd.R_mono (Kd.R_move (Kd.R_bound hr) (fun k hk => far k (by have := hk.2.1; omega))) (fun _ _ => trivial)
  · exact Kd.S_mono (Kd.S_move (Kd.S_bound h.ro) (fun k hk => far k (by have := hk.2.1; omega))) (fun _ hk => by cases A <;> exact hk.1)
end
/-- What on leaves. -/
def OnPost (b : Nat) (a1 : Int) (L : List Int) (r : List (List Int)) (w w' : World) : Prop := ∃ vo' vl', In b w' a1 vo' vl' L r ∧ Below b w w'
set_option maxHeartbeats 4000000 in
set_option maxRecDepth 100000 in
/-- on: all shapes that begin with the one that is built. -/
theorem on_calls (a1 : Int) (b : Nat) : ∀ (k : Nat) (L : List Int) (out r : List (List Int)) (left most : Int) (w : World) (vo vl : Value), In b w a1 vo vl L out → blocks_shapes_on.on k a1 L out left most = some r →
    Calls Try.prog 79 #[.int .i64 left, .int .i64 most, .pointer (some ⟨b + 2, 0, none⟩), .pointer (some ⟨b + 3, 0, none⟩), .pointer (some ⟨b + 4, 0, none⟩)] w fun e w' => e = .returned (.tuple #[]) ∧ OnPost b a1 L r w w' := by
  intro k
  induction k using Nat.strongRecOn with
  | ind k ih =>
  intro L out r left most w vo vl hI h
  have HIH := Aside0.mk ih
  clear ih
  have HI := Aside0.mk hI
  clear hI
  cases k with
  | zero => simp [blocks_shapes_on.on] at h
  | succ k0 =>
  simp only [blocks_shapes_on.on] at h
  have cF := cell_of_one HI.out.bx.f
  have cL := cell_of_one HI.out.bx.l
  obtain ⟨A, c, rfl⟩ := Kd.R_slice HI.out.rl
  by_cases h0 : left = 0
  · rw [if_pos h0] at h
    split at h
    case isFalse => cases h
    case isTrue h1 =>
    split at h
    case isFalse => cases h
    case isTrue h2 =>
    obtain ⟨s, hs, h⟩ := Option.bind_eq_some_iff.mp h
    obtain rfl := Option.some.inj h
    have HF := Aside0.mk (found_calls k0 a1 L s out b w vo _ HI.out hs h1 h2)
    clear h1 h2 hs
    generalize (if s.length = 0 then out ++ [L] else out) = r0 at HF ⊢
    have z1 : (left == 0) = true := by rw [h0]; rfl
    subst h0
    go_enter Try.func79, Try.ntmps79
    go_wp2_with (first | (go_at_call 68; refine HF.out.mono ?_; rintro e w1 ⟨rfl, vo1, hi1, hb1⟩; have HI1 := Aside0.mk hi1; have HB1 := Aside0.mk hb1; clear hi1 hb1))
    refine bodyPost_ret (results_none rfl _ _ _) rfl ?_
    exact ⟨rfl, _, _, HI1.out, HB1.out⟩
  · rw [if_neg h0] at h
    have z1 : (left == 0) = false := beq_eq_false_iff_ne.mpr h0
    have H' := Aside0.mk h
    clear h
    go_enter Try.func79, Try.ntmps79
    go_wp2
    go_loopg [7] k0 (fun kq v7 w' => ∃ (x : Int) (o1 : List (List Int)) (vo1 vl1 : Value), v7 = .int .i64 x ∧ Aside0 (blocks_shapes_on.lp kq a1 L o1 left most x = some r) ∧ Aside0 (kq ≤ k0) ∧ Aside0 (In b w' a1 vo1 vl1 L o1) ∧ Aside0 (Below b w w'))
    case atStart => exact ⟨1, out, vo, _, rfl, H', ⟨Nat.le_refl _⟩, HI, ⟨Below.refl _ _⟩⟩
    case round =>
      clear H' HI cF cL
      obtain ⟨x, o1, vo1, vl1, rfl, HA, HK1, HI, HB⟩ := hrel
      cases gk with
      | zero => exact absurd HA.out (by simp [blocks_shapes_on.lp])
      | succ k1 =>
        have H := HA.out
        clear HA
        simp only [blocks_shapes_on.lp] at H
        obtain ⟨A1, c1, rfl⟩ := Kd.R_slice HI.out.rl
        have cL := cell_of_one HI.out.bx.l
        obtain ⟨m0, hm0⟩ : ∃ m0 : Int, (if most < left then most else left) = m0 := ⟨_, rfl⟩
        rw [show mn left most = m0 from hm0] at H
        by_cases d1 : x ≤ m0
        · rw [if_pos d1] at H
          have b1 : decide (x ≤ m0) = true := decide_eq_true d1
          by_cases d2 : (L.length : Int) < 12
          · rw [if_pos d2] at H
            have b2 : decide ((L.length : Int) < 12) = true := decide_eq_true d2
            obtain ⟨o2, hon, H⟩ := Option.bind_eq_some_iff.mp H
            have A9 := Aside0.mk hon
            have H' := Aside0.mk H
            clear hon H
            have hbx := HI.out.bx.lt
            have hvl : ∀ k, k < b + 5 → some k ≠ (Value.slice A1 L.length c1).ownBlock := fun k hk e => by
              have := Kd.R_base HI.out.rl k e.symm
              omega
            have HV := Aside0.mk hvl
            have HS5 := Aside0.mk (show b + 5 ≤ wr.heap.size by omega)
            have HL12 := Aside0.mk d2
            have hwl : wrap64 (L.length : Int) = (L.length : Int) := by
              unfold wrap64
              omega
            clear hvl hbx d2
            go_wp2_with (first
              | ((with_reducible refine gate_builtin (b := .append) (xs := #[.tmp 25, .tmp 27]) rfl ?_); at_builtin; refine Kd.R_append (Kd.int .i64) (w0 := wr) (b + 5) rfl (.tmp 25) (.tmp 27) 22 3 (.int .i64 0) 8 rfl Try.underlying22 tInfo3 rfl (by decide) (by decide) (.slice A1 L.length c1) L x [.int .i64 x] (fun _ => True) (fun _ => False) rfl rfl rfl (fun _ hk => hk.elim) (fun _ _ => trivial) HI.out.rl (Below.refl _ _) HS5.out (by have := HL12.out; omega) ?_; intro v1 w1 hr hb hg hat; obtain ⟨A2, c2, rfl⟩ := Kd.R_slice hr; have o3 := (hg.block (b + 3) (by have := HI.out.bx.lt; omega) (HV.out _ (by omega))).trans HI.out.bx.l; have HI1 := Aside0.mk (HI.out.push hg hat hr); have HB1 := Aside0.mk (HB.out.trans ((hb.mono (show b ≤ b + 5 by omega)).setCell (p := ⟨b + 3, 0, none⟩) (Nat.le_add_right b 3) (.slice A2 (L ++ [x]).length c2))); rw [show (L ++ [x]).length = L.length + 1 by simp] at HI1 HB1; have cL1 := cell_of_one o3; have fL1 := free_of_one o3; have cN1 := cell_of_one HI1.out.bx.n; clear hr hb hg hat o3)
              | (go_at_call 79; refine (HIH.out k1 (by have := HK1.out; omega) (L ++ [x]) o1 o2 (wrap64 (left - x)) x _ _ _ HI1.out A9.out).mono ?_; rintro e w3 ⟨rfl, vo3, vl3, hi3, hb3⟩; obtain ⟨A3, c3, rfl⟩ := Kd.R_slice hi3.rl; rw [show (L ++ [x]).length = L.length + 1 by simp] at hi3; have HI3 := Aside0.mk hi3.pop; have HB3 := Aside0.mk ((HB1.out.trans hb3).setCell (p := ⟨b + 3, 0, none⟩) (Nat.le_add_right b 3) (.slice A3 L.length c3)); have cL3 := cell_of_one hi3.bx.l; have fL3 := free_of_one hi3.bx.l; have hc3 : L.length ≤ c3 := Nat.le_of_succ_le (Kd.R_reads' hi3.rl).2.1; have hc4 : (L.length : Int) ≤ (c3 : Int) := Int.ofNat_le.2 hc3; clear hi3 hb3))
            go_roundg k1
            case measure => have := HK1.out; omega
            case rel => exact ⟨wrap64 (x + 1), o2, vo3, _, rfl, H', ⟨by have := HK1.out; omega⟩, HI3, HB3⟩
          · rw [if_neg d2] at H
            have b2 : decide ((L.length : Int) < 12) = false := decide_eq_false d2
            obtain rfl := Option.some.inj H
            go_wp2
            go_end0
            exact ⟨rfl, _, _, HI.out, HB.out⟩
        · rw [if_neg d1] at H
          have b1 : decide (x ≤ m0) = false := decide_eq_false d1
          obtain rfl := Option.some.inj H
          go_wp2
          go_end0
          exact ⟨rfl, _, _, HI.out, HB.out⟩
def blocks_Cores.f (k : Nat) (a0 : Int) (a1 : Int) : Option (List (List Int) × Int) := if a0 < 0 then (some (([] : List (List Int)), 2)) else (if a0 > 20 then (some (([] : List (List Int)), 2)) else (if a1 < 2 then (some (([] : List (List Int)), 2)) else (if a1 > 6 then (some (([] : List (List Int)), 2)) else ((blocks_shapes_on.on k a1 [] [] a0 a0).bind fun r => (some (r, 0))))))
theorem blocks_Cores.mono (a0 a1 : Int) (k : Nat) : LeO (blocks_Cores.f k a0 a1) (blocks_Cores.f (k + 1) a0 a1) := by
  unfold blocks_Cores.f
  exact LeO.ite (LeO.refl _) (LeO.ite (LeO.refl _) (LeO.ite (LeO.refl _) (LeO.ite (LeO.refl _) (LeO.bind ((blocks_shapes_on.mono_l k).1 _ _ _ _ _) (fun _ => LeO.refl _)))))
theorem heap_push (w : World) (o : Obj) : (w.alloc o).heap[w.heap.size]? = some o := by
  show (w.heap.push o)[w.heap.size]? = _
  simp
theorem heap_old {w : World} {o : Obj} {k : Nat} {x : Obj} (h : w.heap[k]? = some x) : (w.alloc o).heap[k]? = some x := (Below.heap_alloc w o k (lt_of_block h)).trans h
theorem size_new (w : World) (o : Obj) : (w.alloc o).heap.size = w.heap.size + 1 := by
  show (w.heap.push o).size = _
  simp
theorem heap_new {w : World} {o : Obj} {k : Nat} (h : w.heap.size = k) : (w.alloc o).heap[k]? = some o := by
  subst h
  exact heap_push w o
theorem shapes_in {a1 : Int} {b : Nat} {w : World} (hb : w.heap.size = b + 2) (ht : w.heap[b]? = some (.cells #[.int .i64 a1] 3 (0, 0))) (ho : w.heap[b + 1]? = some (.cells #[.slice none 0 0] 23 (0, 0))) :
    In b (((w.alloc (.cells #[.func (.func 68) #[] #[.pointer (some ⟨b, 0, none⟩), .pointer (some ⟨b + 1, 0, none⟩)]] 63)).alloc (.cells #[.slice none 0 0] 22)).alloc (.cells #[.func (.func 79) #[] #[.pointer (some ⟨b + 2, 0, none⟩), .pointer (some ⟨b + 3, 0, none⟩), .pointer (some ⟨b + 4, 0, none⟩)]] 68)) a1 (.slice none 0 0) (.slice none 0 0) [] [] :=
  ⟨⟨heap_old (heap_old (heap_old ht)), heap_old (heap_old (heap_old ho)), heap_old (heap_old (heap_new hb)), heap_old (heap_new (by rw [size_new, hb])), heap_new (by rw [size_new, size_new, hb])⟩, Kd.R_nil _ _ _ _ _, Kd.S_nil _ _ _ _ _⟩
set_option maxHeartbeats 4000000 in
set_option maxRecDepth 100000 in
/-- shapes: with the closure found. -/
theorem shapes_calls (k : Nat) (a0 a1 : Int) (r : List (List Int)) (b : Nat) (w : World) (hb : w.heap.size = b + 2) (ht : w.heap[b]? = some (.cells #[.int .i64 a1] 3 (0, 0))) (ho : w.heap[b + 1]? = some (.cells #[.slice none 0 0] 23 (0, 0))) (h : blocks_shapes_on.on k a1 [] [] a0 a0 = some r) :
    Calls Try.prog 67 #[.int .i64 a0, .func (.func 68) #[] #[.pointer (some ⟨b, 0, none⟩), .pointer (some ⟨b + 1, 0, none⟩)]] w fun e w' => e = .returned (.tuple #[]) ∧ OnPost b a1 [] r w w' := by
  have H := Aside0.mk h
  have HI := Aside0.mk (shapes_in hb ht ho)
  have HB := Aside0.mk (show Below b w (((w.alloc (.cells #[.func (.func 68) #[] #[.pointer (some ⟨b, 0, none⟩), .pointer (some ⟨b + 1, 0, none⟩)]] 63)).alloc (.cells #[.slice none 0 0] 22)).alloc (.cells #[.func (.func 79) #[] #[.pointer (some ⟨b + 2, 0, none⟩), .pointer (some ⟨b + 3, 0, none⟩), .pointer (some ⟨b + 4, 0, none⟩)]] 68)) from (below_alloc (below_alloc (below_alloc (Below.refl w.heap.size w) _) _) _).mono (by omega))
  clear h ht ho
  go_enter Try.func67, Try.ntmps67
  go_wp2_with (first | (go_at_call 79; refine (on_calls a1 b k [] [] r a0 a0 _ _ _ HI.out H.out).mono ?_; rintro e w1 ⟨rfl, vo1, vl1, hi1, hb1⟩; have HI1 := Aside0.mk hi1; have HB1 := Aside0.mk (HB.out.trans hb1); clear hi1 hb1))
  go_end0
  exact ⟨rfl, _, _, HI1.out, HB1.out⟩
theorem cores_boxes (a1 : Int) (w : World) : ((w.alloc (.cells #[.int .i64 a1] 3)).alloc (.cells #[.slice none 0 0] 23)).heap.size = w.heap.size + 2 ∧
    ((w.alloc (.cells #[.int .i64 a1] 3)).alloc (.cells #[.slice none 0 0] 23)).heap[w.heap.size]? = some (.cells #[.int .i64 a1] 3 (0, 0)) ∧ ((w.alloc (.cells #[.int .i64 a1] 3)).alloc (.cells #[.slice none 0 0] 23)).heap[w.heap.size + 1]? = some (.cells #[.slice none 0 0] 23 (0, 0)) :=
  ⟨by rw [size_new, size_new], heap_old (heap_new rfl), heap_new (size_new _ _)⟩
set_option maxHeartbeats 4000000 in
set_option maxRecDepth 100000 in
theorem blocks_Cores.calls (k : Nat) (a0 : Int) (a1 : Int) (r1 : List (List Int)) (r2 : Int) (w : World) (h : blocks_Cores.f k a0 a1 = some (r1, r2)) :
    Calls Try.prog 43 #[.int .i64 a0, .int .i64 a1] w fun e w' => ∃ v0_ : Value, e = .returned (.tuple #[v0_, .int .i64 r2]) ∧ Kd.S (Kd.slice 3 (Kd.int .i64)) 22 w' w.heap.size (fun _ => True) v0_ r1 ∧ Below w.heap.size w w' := by
  have HB := Aside0.mk (below_alloc (Below.refl w.heap.size w) (.cells #[.int .i64 a1] 3))
  unfold blocks_Cores.f at h
  by_cases c1 : a0 < 0
  · rw [if_pos c1] at h
    injection h with h
    injection h with h1 h2
    subst h1 h2
    have b1 : decide (a0 < 0) = true := decide_eq_true c1
    clear c1
    go_enter Try.func43, Try.ntmps43
    go_wp2
    go_ret2
    exact ⟨_, rfl, Kd.S_nil _ _ _ _ _, HB.out⟩
  · rw [if_neg c1] at h
    have b1 : decide (a0 < 0) = false := decide_eq_false c1
    clear c1
    by_cases c2 : a0 > 20
    · rw [if_pos c2] at h
      injection h with h
      injection h with h1 h2
      subst h1 h2
      have b2 : decide (a0 > 20) = true := decide_eq_true c2
      clear c2
      go_enter Try.func43, Try.ntmps43
      go_wp2
      go_ret2
      exact ⟨_, rfl, Kd.S_nil _ _ _ _ _, HB.out⟩
    · rw [if_neg c2] at h
      have b2 : decide (a0 > 20) = false := decide_eq_false c2
      clear c2
      by_cases c3 : a1 < 2
      · rw [if_pos c3] at h
        injection h with h
        injection h with h1 h2
        subst h1 h2
        have b3 : decide (a1 < 2) = true := decide_eq_true c3
        clear c3
        go_enter Try.func43, Try.ntmps43
        go_wp2
        go_ret2
        exact ⟨_, rfl, Kd.S_nil _ _ _ _ _, HB.out⟩
      · rw [if_neg c3] at h
        have b3 : decide (a1 < 2) = false := decide_eq_false c3
        clear c3
        by_cases c4 : a1 > 6
        · rw [if_pos c4] at h
          injection h with h
          injection h with h1 h2
          subst h1 h2
          have b4 : decide (a1 > 6) = true := decide_eq_true c4
          clear c4
          go_enter Try.func43, Try.ntmps43
          go_wp2
          go_ret2
          exact ⟨_, rfl, Kd.S_nil _ _ _ _ _, HB.out⟩
        · rw [if_neg c4] at h
          have b4 : decide (a1 > 6) = false := decide_eq_false c4
          clear c4
          obtain ⟨r, hr, h⟩ := Option.bind_eq_some_iff.mp h
          injection h with h
          injection h with h1 h2
          subst h1 h2
          obtain ⟨q1, q2, q3⟩ := cores_boxes a1 w
          have HS := Aside0.mk (shapes_calls k a0 a1 r w.heap.size _ q1 q2 q3 hr)
          have HB2 := Aside0.mk (below_alloc HB.out (.cells #[.slice none 0 0] 23))
          clear q1 q2 q3 hr
          go_enter Try.func43, Try.ntmps43
          go_wp2_with (first | (go_at_call 67; refine HS.out.mono ?_; rintro e w1 ⟨rfl, vo1, vl1, hi1, hb1⟩; have HI1 := Aside0.mk hi1; have HB1 := Aside0.mk (HB2.out.trans hb1); have cO1 := cell_of_one hi1.bx.o; clear hi1 hb1))
          go_ret2
          exact ⟨_, rfl, Kd.S_mono (Kd.S_lower HI1.out.ro (by omega)) (fun _ _ => trivial), HB1.out⟩

end Go.Proofs.Ytcmphfcpiciehaa.Print
