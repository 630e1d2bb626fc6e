/- Four bends: turned and turn, walked by hand. -/
import Derived.Test.YtlfmafebmnggeaaProg
import Derived.Laws.EntriesVeiled
import Derived.Outline
import Derived.Below
import Derived.Deep.Draws
import Derived.Deep.AppendLies
import Derived.Maps.AppendAt
import Derived.OwnWalk
import Derived.Laws.BytesArg
import Derived.Laws.MakeOwn
import Derived.Laws.OwnMore
import Derived.Deep.OwnRows
import Derived.Tactics
import Derived.Lib.ConvBytes
import Derived.Laws.Slices
import Derived.WalkKit
import Derived.KernelRfl
import Derived.RowKit3
import Derived.Deep.LoopGhost
import Derived.Deep.QuietTactic
import Derived.BigQuiet
import Derived.WideLaws
import Derived.Deep.DeepCutAuto
import Derived.Deep.CutBlock
import Derived.Deep.RegionHeld3
import Derived.Laws.Rows
import Derived.Lib.AppendStr
import Derived.ArgAppend
import Derived.Laws.IdiomCopy
import Derived.OrdersHeld
import Derived.Laws.BitsLemmas
import Derived.RowKit
import Derived.Test.YtlfmafebmnggeaaWMore
namespace Go.Proofs.Ytlfmafebmnggeaa.Print
open Go.RowKit Go.Proofs.YtlfmafebmnggeaaW.PrintWords Go.Proofs.YtlfmafebmnggeaaW.PrintLast Go.Proofs.YtlfmafebmnggeaaW.PrintMore
attribute [local go_sem] max2_int min2_int max_two min_two max_three min_three max_four min_four
set_option linter.unusedVariables false
set_option linter.unusedSimpArgs false
/-! ### four bends: the array, and what is read out of it -/
/-- Four numbers. -/
structure Q4 where
  a : Int
  b : Int
  c : Int
  d : Int
def Q4.at (q : Q4) (i : Int) : Int := if i = 0 then q.a else if i = 1 then q.b else if i = 2 then q.c else q.d
/-- The array, as a value. -/
def agg4 (q : Q4) : Value := .agg #[.int .i64 q.a, .int .i64 q.b, .int .i64 q.c, .int .i64 q.d]
def turnedF (q : Q4) (i : Int) : Int := wrap64 (wrap64 (2 * wrap64 (wrap64 (wrap64 (wrap64 (q.a + q.b) + q.c) + q.d) - q.at i)) - q.at i)
def Q4.put (q : Q4) (i v : Int) : Q4 := if i = 0 then ⟨v, q.b, q.c, q.d⟩ else if i = 1 then ⟨q.a, v, q.c, q.d⟩ else if i = 2 then ⟨q.a, q.b, v, q.d⟩ else ⟨q.a, q.b, q.c, v⟩
/-- A block that holds four bends. -/
def Bk (w : World) (b : Nat) (e : TypeId) (q : Q4) : Prop := w.heap[b]? = some (.cells #[.int .i64 q.a, .int .i64 q.b, .int .i64 q.c, .int .i64 q.d] e (0, 0))
theorem Bk.cell {w : World} {b : Nat} {e : TypeId} {q : Q4} (h : Bk w b e q) : w.cell? ⟨b, 0, none⟩ = some (.int .i64 q.a) ∧ w.cell? ⟨b, 1, none⟩ = some (.int .i64 q.b) ∧ w.cell? ⟨b, 2, none⟩ = some (.int .i64 q.c) ∧ w.cell? ⟨b, 3, none⟩ = some (.int .i64 q.d) := by
  unfold Bk at h
  refine ⟨?_, ?_, ?_, ?_⟩ <;> simp [World.cell?, h]
theorem Bk.free {w : World} {b : Nat} {e : TypeId} {q : Q4} (h : Bk w b e q) (j : Nat) : w.frozen? ⟨b, j, none⟩ = false := by
  unfold Bk at h
  simp [World.frozen?, h]
theorem Bk.below {w w1 : World} {b : Nat} {e : TypeId} {q : Q4} (h : Bk w b e q) (hb : Below w.heap.size w w1) : Bk w1 b e q := (hb.block b (lt_of_block h)).trans h
theorem Bk.alloc {w : World} {b : Nat} {e : TypeId} {q : Q4} (h : Bk w b e q) (o : Obj) : Bk (w.alloc o) b e q := (Below.heap_alloc w o b (lt_of_block h)).trans h
theorem Bk.far {w : World} {b : Nat} {e : TypeId} {q : Q4} (h : Bk w b e q) {g j : Nat} (hg : b ≠ g) (u : Value) : Bk (w.setCell ⟨g, j, none⟩ u) b e q := (Below.heap_setCell w ⟨g, j, none⟩ u b hg).trans h
theorem Bk.set {w : World} {b : Nat} {e : TypeId} {q : Q4} (h : Bk w b e q) (v : Int) (j : Nat) (hj : j < 4) : Bk (w.setCell ⟨b, j, none⟩ (.int .i64 v)) b e (q.put j v) := by
  unfold Bk at h ⊢
  have hlt := lt_of_block h
  have h' : w.heap[b] = .cells #[.int .i64 q.a, .int .i64 q.b, .int .i64 q.c, .int .i64 q.d] e (0, 0) := by simpa [Array.getElem?_eq_getElem hlt] using h
  show (w.heap.modify b _)[b]? = _
  match j, hj with
  | 0, _ => simp [Array.getElem?_modify, Array.getElem?_eq_getElem hlt, h', Q4.put]
  | 1, _ => simp [Array.getElem?_modify, Array.getElem?_eq_getElem hlt, h', Q4.put]
  | 2, _ => simp [Array.getElem?_modify, Array.getElem?_eq_getElem hlt, h', Q4.put]
  | 3, _ => simp [Array.getElem?_modify, Array.getElem?_eq_getElem hlt, h', Q4.put]
/-- An array handed back out of its variable. -/
theorem hres_c {P : Program} {fn : Func} {p : Tmp} {ty : TypeId} (h : fn.results = #[.cell p ty]) (tmps : Array Value) (w : World) (g : Nat) (t : TypeId) (cs : Array Value) (fr : Nat × Nat) (d : TypeDesc)
    (hp : tmps.getD p undef = .pointer (some ⟨g, 0, none⟩)) (hg : w.heap[g]? = some (.cells cs t fr))
    (hu : P.underlying ty = some d) (hd : (match d with | .struct _ | .array _ _ => true | _ => false) = true) (hi : (P.info? ty).map (·.size) = some cs.size) :
    (results fn tmps).run P w = .ok (.agg cs) w := by
  have hp' : tmps[p]?.getD undef = .pointer (some ⟨g, 0, none⟩) := by simpa using hp
  simp [results, h, hp', asAddr, run_loadVar_row w g t ty cs fr d hg hu hd hi]
theorem Bk.new (w : World) (e : TypeId) (q : Q4) : Bk (w.alloc (.cells #[.int .i64 q.a, .int .i64 q.b, .int .i64 q.c, .int .i64 q.d] e)) w.heap.size e q := by
  show (w.heap.push _)[w.heap.size]? = _
  simp
set_option maxHeartbeats 4000000 in
set_option maxRecDepth 100000 in
theorem turned_calls (q : Q4) (i : Int) (h0 : 0 ≤ i) (h4 : i < 4) (w : World) :
    Calls Try.prog 51 #[agg4 q, .int .i64 i] w fun e w' => e = .returned (.int .i64 (turnedF q i)) ∧ Below w.heap.size w w' := by
  have hi : i = 0 ∨ i = 1 ∨ i = 2 ∨ i = 3 := by omega
  obtain ⟨e0, e1, e2, e3⟩ := (Bk.new w 58 q).cell
  unfold agg4 turnedF Q4.at
  rcases hi with rfl | rfl | rfl | rfl
  all_goals
    go_enter Try.func51, Try.ntmps51
    go_wp2
    go_quiet (fail)
    go_wp2
    go_ret
    exact ⟨rfl, pw_below_drewN (below_alloc (Below.refl _ _) _) _⟩
def turnF (q : Q4) (i : Int) : Q4 := q.put i (turnedF q i)
set_option maxHeartbeats 4000000 in
set_option maxRecDepth 100000 in
theorem turn_calls (q : Q4) (i : Int) (h0 : 0 ≤ i) (h4 : i < 4) (w : World) :
    Calls Try.prog 52 #[agg4 q, .int .i64 i] w fun e w' => e = .returned (agg4 (turnF q i)) ∧ Below w.heap.size w w' := by
  have hi : i = 0 ∨ i = 1 ∨ i = 2 ∨ i = 3 := by omega
  have HT := Aside0.mk (fun w' => turned_calls q i h0 h4 w')
  clear h0 h4
  obtain ⟨v, hv⟩ : ∃ v, v = turnedF q i := ⟨_, rfl⟩
  unfold turnF
  rw [← hv] at HT ⊢
  clear hv
  obtain ⟨e0, e1, e2, e3⟩ := (Bk.new w 58 q).cell
  unfold agg4 at HT ⊢
  rcases hi with rfl | rfl | rfl | rfl
  · go_enter Try.func52, Try.ntmps52
    go_wp2_with (first | (go_at_call 51; refine (HT.out _).mono ?_; rintro e w1 ⟨rfl, hb⟩; have B1 := ((Bk.new w 58 q).alloc (.cells #[.int .i64 0, .int .i64 0, .int .i64 0, .int .i64 0] 58)).below hb; obtain ⟨f0, f1, f2, f3⟩ := B1.cell; have g0 := B1.free 0; have B2 := (show Bk (((w.alloc (.cells #[.int .i64 q.a, .int .i64 q.b, .int .i64 q.c, .int .i64 q.d] 58)).alloc (.cells #[.int .i64 0, .int .i64 0, .int .i64 0, .int .i64 0] 58))) (w.heap.size + 1) 58 ⟨0, 0, 0, 0⟩ from by have h := Bk.new (w.alloc (.cells #[.int .i64 q.a, .int .i64 q.b, .int .i64 q.c, .int .i64 q.d] 58)) 58 ⟨0, 0, 0, 0⟩; rw [World.size_alloc] at h; exact h).below hb; obtain ⟨k0, k1, k2, k3⟩ := B2.cell; have l0 := B2.free 0; have l1 := B2.free 1; have l2 := B2.free 2; have l3 := B2.free 3; have HB := Aside0.mk (((below_alloc (below_alloc (Below.refl w.heap.size w) _) _).trans (hb.mono (show w.heap.size ≤ _ by rw [World.size_alloc, World.size_alloc]; omega)))); clear hb))
    have B3 := ((((B2.far (g := w.heap.size) (j := 0) (by omega) (.int .i64 v)).set v 0 (by omega)).set q.b 1 (by omega)).set q.c 2 (by omega)).set q.d 3 (by omega)
    refine bodyPost_ret (hres_c rfl _ _ (w.heap.size + 1) 58 _ (0, 0) _ rfl B3 Try.underlying58 rfl (by kernel_rfl)) rfl ?_
    exact ⟨rfl, ((((HB.out.setCell (Nat.le_refl _) _).setCell (Nat.le_succ _) _).setCell (Nat.le_succ _) _).setCell (Nat.le_succ _) _).setCell (Nat.le_succ _) _⟩
  · go_enter Try.func52, Try.ntmps52
    go_wp2_with (first | (go_at_call 51; refine (HT.out _).mono ?_; rintro e w1 ⟨rfl, hb⟩; have B1 := ((Bk.new w 58 q).alloc (.cells #[.int .i64 0, .int .i64 0, .int .i64 0, .int .i64 0] 58)).below hb; obtain ⟨f0, f1, f2, f3⟩ := B1.cell; have g0 := B1.free 1; have B2 := (show Bk (((w.alloc (.cells #[.int .i64 q.a, .int .i64 q.b, .int .i64 q.c, .int .i64 q.d] 58)).alloc (.cells #[.int .i64 0, .int .i64 0, .int .i64 0, .int .i64 0] 58))) (w.heap.size + 1) 58 ⟨0, 0, 0, 0⟩ from by have h := Bk.new (w.alloc (.cells #[.int .i64 q.a, .int .i64 q.b, .int .i64 q.c, .int .i64 q.d] 58)) 58 ⟨0, 0, 0, 0⟩; rw [World.size_alloc] at h; exact h).below hb; obtain ⟨k0, k1, k2, k3⟩ := B2.cell; have l0 := B2.free 0; have l1 := B2.free 1; have l2 := B2.free 2; have l3 := B2.free 3; have HB := Aside0.mk (((below_alloc (below_alloc (Below.refl w.heap.size w) _) _).trans (hb.mono (show w.heap.size ≤ _ by rw [World.size_alloc, World.size_alloc]; omega)))); clear hb))
    have B3 := ((((B2.far (g := w.heap.size) (j := 1) (by omega) (.int .i64 v)).set q.a 0 (by omega)).set v 1 (by omega)).set q.c 2 (by omega)).set q.d 3 (by omega)
    refine bodyPost_ret (hres_c rfl _ _ (w.heap.size + 1) 58 _ (0, 0) _ rfl B3 Try.underlying58 rfl (by kernel_rfl)) rfl ?_
    exact ⟨rfl, ((((HB.out.setCell (Nat.le_refl _) _).setCell (Nat.le_succ _) _).setCell (Nat.le_succ _) _).setCell (Nat.le_succ _) _).setCell (Nat.le_succ _) _⟩
  · go_enter Try.func52, Try.ntmps52
    go_wp2_with (first | (go_at_call 51; refine (HT.out _).mono ?_; rintro e w1 ⟨rfl, hb⟩; have B1 := ((Bk.new w 58 q).alloc (.cells #[.int .i64 0, .int .i64 0, .int .i64 0, .int .i64 0] 58)).below hb; obtain ⟨f0, f1, f2, f3⟩ := B1.cell; have g0 := B1.free 2; have B2 := (show Bk (((w.alloc (.cells #[.int .i64 q.a, .int .i64 q.b, .int .i64 q.c, .int .i64 q.d] 58)).alloc (.cells #[.int .i64 0, .int .i64 0, .int .i64 0, .int .i64 0] 58))) (w.heap.size + 1) 58 ⟨0, 0, 0, 0⟩ from by have h := Bk.new (w.alloc (.cells #[.int .i64 q.a, .int .i64 q.b, .int .i64 q.c, .int .i64 q.d] 58)) 58 ⟨0, 0, 0, 0⟩; rw [World.size_alloc] at h; exact h).below hb; obtain ⟨k0, k1, k2, k3⟩ := B2.cell; have l0 := B2.free 0; have l1 := B2.free 1; have l2 := B2.free 2; have l3 := B2.free 3; have HB := Aside0.mk (((below_alloc (below_alloc (Below.refl w.heap.size w) _) _).trans (hb.mono (show w.heap.size ≤ _ by rw [World.size_alloc, World.size_alloc]; omega)))); clear hb))
    have B3 := ((((B2.far (g := w.heap.size) (j := 2) (by omega) (.int .i64 v)).set q.a 0 (by omega)).set q.b 1 (by omega)).set v 2 (by omega)).set q.d 3 (by omega)
    refine bodyPost_ret (hres_c rfl _ _ (w.heap.size + 1) 58 _ (0, 0) _ rfl B3 Try.underlying58 rfl (by kernel_rfl)) rfl ?_
    exact ⟨rfl, ((((HB.out.setCell (Nat.le_refl _) _).setCell (Nat.le_succ _) _).setCell (Nat.le_succ _) _).setCell (Nat.le_succ _) _).setCell (Nat.le_succ _) _⟩
  · go_enter Try.func52, Try.ntmps52
    go_wp2_with (first | (go_at_call 51; refine (HT.out _).mono ?_; rintro e w1 ⟨rfl, hb⟩; have B1 := ((Bk.new w 58 q).alloc (.cells #[.int .i64 0, .int .i64 0, .int .i64 0, .int .i64 0] 58)).below hb; obtain ⟨f0, f1, f2, f3⟩ := B1.cell; have g0 := B1.free 3; have B2 := (show Bk (((w.alloc (.cells #[.int .i64 q.a, .int .i64 q.b, .int .i64 q.c, .int .i64 q.d] 58)).alloc (.cells #[.int .i64 0, .int .i64 0, .int .i64 0, .int .i64 0] 58))) (w.heap.size + 1) 58 ⟨0, 0, 0, 0⟩ from by have h := Bk.new (w.alloc (.cells #[.int .i64 q.a, .int .i64 q.b, .int .i64 q.c, .int .i64 q.d] 58)) 58 ⟨0, 0, 0, 0⟩; rw [World.size_alloc] at h; exact h).below hb; obtain ⟨k0, k1, k2, k3⟩ := B2.cell; have l0 := B2.free 0; have l1 := B2.free 1; have l2 := B2.free 2; have l3 := B2.free 3; have HB := Aside0.mk (((below_alloc (below_alloc (Below.refl w.heap.size w) _) _).trans (hb.mono (show w.heap.size ≤ _ by rw [World.size_alloc, World.size_alloc]; omega)))); clear hb))
    have B3 := ((((B2.far (g := w.heap.size) (j := 3) (by omega) (.int .i64 v)).set q.a 0 (by omega)).set q.b 1 (by omega)).set q.c 2 (by omega)).set v 3 (by omega)
    refine bodyPost_ret (hres_c rfl _ _ (w.heap.size + 1) 58 _ (0, 0) _ rfl B3 Try.underlying58 rfl (by kernel_rfl)) rfl ?_
    exact ⟨rfl, ((((HB.out.setCell (Nat.le_refl _) _).setCell (Nat.le_succ _) _).setCell (Nat.le_succ _) _).setCell (Nat.le_succ _) _).setCell (Nat.le_succ _) _⟩

/-! ### the contracts as the printed texts want them -/
def discs_quad_turned.f (a0_0 : Int) (a0_1 : Int) (a0_2 : Int) (a0_3 : Int) (a1 : Int) : Option (Int) := if 0 ≤ a1 then (if a1 < 4 then some (turnedF ⟨a0_0, a0_1, a0_2, a0_3⟩ a1) else none) else none
theorem discs_quad_turned.calls (a0_0 : Int) (a0_1 : Int) (a0_2 : Int) (a0_3 : Int) (a1 : Int) (r : Int) (w : World) (h : discs_quad_turned.f a0_0 a0_1 a0_2 a0_3 a1 = some r) :
    Calls Try.prog 51 #[.agg #[.int .i64 a0_0, .int .i64 a0_1, .int .i64 a0_2, .int .i64 a0_3], .int .i64 a1] w fun e w' => e = .returned (.int .i64 r) ∧ Below w.heap.size w w' := by
  unfold discs_quad_turned.f at h
  split at h
  · split at h
    · obtain rfl := Option.some.inj h
      exact turned_calls ⟨a0_0, a0_1, a0_2, a0_3⟩ a1 (by assumption) (by assumption) w
    · cases h
  · cases h
def discs_quad_turn.f (a0_0 : Int) (a0_1 : Int) (a0_2 : Int) (a0_3 : Int) (a1 : Int) : Option (Int × Int × Int × Int) := if 0 ≤ a1 then (if a1 < 4 then some ((turnF ⟨a0_0, a0_1, a0_2, a0_3⟩ a1).a, (turnF ⟨a0_0, a0_1, a0_2, a0_3⟩ a1).b, (turnF ⟨a0_0, a0_1, a0_2, a0_3⟩ a1).c, (turnF ⟨a0_0, a0_1, a0_2, a0_3⟩ a1).d) else none) else none
theorem discs_quad_turn.calls (a0_0 : Int) (a0_1 : Int) (a0_2 : Int) (a0_3 : Int) (a1 : Int) (r1 : Int) (r2 : Int) (r3 : Int) (r4 : Int) (w : World) (h : discs_quad_turn.f a0_0 a0_1 a0_2 a0_3 a1 = some (r1, r2, r3, r4)) :
    Calls Try.prog 52 #[.agg #[.int .i64 a0_0, .int .i64 a0_1, .int .i64 a0_2, .int .i64 a0_3], .int .i64 a1] w fun e w' => e = .returned (.agg #[.int .i64 r1, .int .i64 r2, .int .i64 r3, .int .i64 r4]) ∧ Below w.heap.size w w' := by
  unfold discs_quad_turn.f at h
  split at h
  · split at h
    · simp only [Option.some.injEq, Prod.mk.injEq] at h
      obtain ⟨rfl, rfl, rfl, rfl⟩ := h
      exact turn_calls ⟨a0_0, a0_1, a0_2, a0_3⟩ a1 (by assumption) (by assumption) w
    · cases h
  · cases h

end Go.Proofs.Ytlfmafebmnggeaa.Print
