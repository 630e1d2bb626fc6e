/- slices.Sort of an array in memory, slices.SortFunc of a row of arrays. -/
import Derived.Test.YtlfmafebmnggeaaProg
import Derived.Laws.EntriesVeiled
import Derived.Outline
import Derived.Below
import Derived.Deep.Draws
import Derived.Deep.AppendLies
import Derived.Maps.AppendAt
import Derived.OwnWalk
import Derived.Laws.BytesArg
import Derived.Laws.MakeOwn
import Derived.Laws.OwnMore
import Derived.Deep.OwnRows
import Derived.Tactics
import Derived.Lib.ConvBytes
import Derived.Laws.Slices
import Derived.WalkKit
import Derived.KernelRfl
import Derived.RowKit3
import Derived.Deep.LoopGhost
import Derived.Deep.QuietTactic
import Derived.BigQuiet
import Derived.WideLaws
import Derived.Deep.DeepCutAuto
import Derived.Deep.CutBlock
import Derived.Deep.RegionHeld3
import Derived.Laws.Rows
import Derived.Lib.AppendStr
import Derived.ArgAppend
import Derived.Laws.IdiomCopy
import Derived.OrdersHeld
import Derived.Laws.BitsLemmas
import Derived.RowKit
import Derived.Test.YtlfmafebmnggeaaWMore
import Derived.Test.YtlfmafebmnggeaaHandRoot
import Derived.Test.YtlfmafebmnggeaaPrintx0
import Derived.Shelf.SlSortCmp.WholeK
import Derived.Lib.SlKeysI
import Derived.Test.YtlfmafebmnggeaaPrinty2
namespace Go.Proofs.Ytlfmafebmnggeaa.Print
open Go.RowKit Go.Proofs.YtlfmafebmnggeaaW.PrintWords Go.Proofs.YtlfmafebmnggeaaW.PrintLast Go.Proofs.YtlfmafebmnggeaaW.PrintMore
attribute [local go_sem] max2_int min2_int max_two min_two max_three min_three max_four min_four
set_option linter.unusedVariables false
set_option linter.unusedSimpArgs false
open Go.Shelf Go.Sort
/-! ### slices.Sort(q[:]) of an array in memory -/
def sortq.f (a0_0 : Int) (a0_1 : Int) (a0_2 : Int) (a0_3 : Int) : Option (Int × Int × Int × Int) :=
  some ((sort4 ⟨a0_0, a0_1, a0_2, a0_3⟩).a, (sort4 ⟨a0_0, a0_1, a0_2, a0_3⟩).b, (sort4 ⟨a0_0, a0_1, a0_2, a0_3⟩).c, (sort4 ⟨a0_0, a0_1, a0_2, a0_3⟩).d)
theorem sortq_calls {W : World} (g : Nat) {a b c d r1 r2 r3 r4 : Int} (hb : W.heap[g]? = some (.cells #[.int .i64 a, .int .i64 b, .int .i64 c, .int .i64 d] 23 (0, 0))) (h : sortq.f a b c d = some (r1, r2, r3, r4)) :
    Calls Try.prog 46 #[.slice (some ⟨g, 0, none⟩) 4 4] W fun e w' => e = .returned (.tuple #[]) ∧ w'.heap[g]? = some (.cells #[.int .i64 r1, .int .i64 r2, .int .i64 r3, .int .i64 r4] 23 (0, 0)) ∧ W.grownBy w' (some g) := by
  have hB : Bk W g 23 ⟨a, b, c, d⟩ := hb
  unfold sortq.f at h
  simp only [Option.some.injEq, Prod.mk.injEq] at h
  obtain ⟨rfl, rfl, rfl, rfl⟩ := h
  refine (Try.slices_Sort_int g 0 4 [a, b, c, d] W hB.holds (lt_of_block hb) (by simp)).mono ?_
  rintro e w' ⟨rfl, n, os, rfl⟩
  exact ⟨rfl, hB.sorted n os, grownBy_sorted_i _⟩
/-! ### slices.SortFunc of a row of arrays -/
instance : Inhabited S23 := ⟨z23⟩
def enc4 (x : S23) : List Value := [.int .i64 x.f0, .int .i64 x.f1, .int .i64 x.f2, .int .i64 x.f3]
theorem enc4_len (x : S23) : (enc4 x).length = 4 := rfl
theorem flat_at (l : List S23) (t : Nat) (h : t < l.length * 4) : (flatK enc4 4 l.toArray).toList[t]? = (enc4 (l[t / 4]'(by omega)))[t % 4]? := by
  have h4 : t / 4 < l.length := by omega
  have hm : t % 4 < 4 := Nat.mod_lt _ (by decide)
  simp only [flatK, Array.getElem?_toList, List.size_toArray]
  rw [Array.getElem?_map, Array.getElem?_range, if_pos h]
  rw [List.getElem?_eq_getElem (show t % 4 < (enc4 (l[t / 4]'h4)).length from by rw [enc4_len]; exact hm)]
  simp [h4]
  rw [List.getElem?_eq_getElem (show t % 4 < (enc4 (l[t / 4]'h4)).length from by rw [enc4_len]; exact hm)]
  rfl
theorem reps_flat (l : List S23) : Reps (fun (x : S23) (cs : List Value) => cs = enc4 x) 4 l (flatK enc4 4 l.toArray).toList := by
  refine ⟨by simp, fun j p hp => ?_⟩
  have hj : j < l.length := (List.getElem?_eq_some_iff.1 hp).1
  have hpj : l[j] = p := (List.getElem?_eq_some_iff.1 hp).2
  apply List.ext_getElem?
  intro t
  by_cases ht : t < 4
  · rw [List.getElem?_take_of_lt ht, List.getElem?_drop, flat_at l (j * 4 + t) (by omega)]
    have e1 : (j * 4 + t) / 4 = j := by omega
    have e2 : (j * 4 + t) % 4 = t := by omega
    simp only [e1, e2, hpj]
  · rw [List.getElem?_take_eq_none (by omega), List.getElem?_eq_none (by rw [enc4_len]; omega)]
theorem flat_of_reps {l : List S23} {inner : List Value} (h : Reps (fun (x : S23) (cs : List Value) => cs = enc4 x) 4 l inner) : inner = (flatK enc4 4 l.toArray).toList := by
  apply List.ext_getElem?
  intro t
  by_cases ht : t < l.length * 4
  · rw [flat_at l t ht]
    have h2 := h.2 (t / 4) (l[t / 4]'(by omega)) (List.getElem?_eq_getElem _)
    rw [← h2, List.getElem?_take_of_lt (Nat.mod_lt _ (by decide)), List.getElem?_drop]
    congr 1
    omega
  · rw [List.getElem?_eq_none (by rw [h.1]; omega), List.getElem?_eq_none (by simp; omega)]
theorem heap_sortedK {w : World} {g n : Nat} {os : Array Obj} {cur : Array Value} {e : TypeId} {fr : Nat × Nat} (d : Array S23) (hb : w.heap[g]? = some (.cells cur e fr)) :
    (sortWorldK enc4 4 w g 0 n d os).heap[g]? = some (.cells (putCells id 0 (flatK enc4 4 d) cur) e fr) := by
  have hg : g < w.heap.size := (Array.getElem?_eq_some_iff.1 hb).1
  unfold sortWorldK
  rw [heap_grow_old _ _ (by simpa [putRowK] using hg)]
  simp [putRowK, putRow, mapBlock, Sort.ahead, Array.getElem?_modify, hb, onCells]
theorem grownBy_sortedK {w : World} {g n : Nat} {os : Array Obj} (d : Array S23) : w.grownBy (sortWorldK enc4 4 w g 0 n d os) (some g) := by
  refine ⟨rfl, rfl, rfl, by simp [sortWorldK, putRowK], fun k hk hne => ?_⟩
  unfold sortWorldK
  rw [heap_grow_old _ _ (by simpa [putRowK] using hk)]
  have : g ≠ k := fun e => hne (by rw [e])
  simp [putRowK, putRow, mapBlock, Sort.ahead, Array.getElem?_modify, this]
theorem take_putCells (cur F : Array Value) (h : F.size ≤ cur.size) : (putCells id 0 F cur).toList.take F.size = F.toList := by
  apply List.ext_getElem?
  intro j
  by_cases hj : j < F.size
  · rw [List.getElem?_take_of_lt hj, Array.getElem?_toList]
    simp [putCells, hj, show j < cur.size by omega]
  · rw [List.getElem?_take_eq_none (by omega), List.getElem?_eq_none (by simp; omega)]
theorem holds_flat {w : World} {g : Nat} {cur : Array Value} {e : TypeId} {l : List S23} (hb : w.heap[g]? = some (.cells cur e (0, 0))) (ht : cur.toList.take (l.length * 4) = (flatK enc4 4 l.toArray).toList) : HoldsK enc4 4 w g 0 l.toArray := by
  intro j hj
  have hj' : j < l.length * 4 := by simpa using hj
  refine ⟨?_, by simp [World.frozen?, hb]⟩
  have h1 : (cur.toList.take (l.length * 4))[j]? = (flatK enc4 4 l.toArray).toList[j]? := by rw [ht]
  rw [List.getElem?_take_of_lt hj'] at h1
  simp only [World.cell?, hb, Nat.zero_add]
  simp only [Option.isSome_none, Bool.false_eq_true, if_false]
  rw [← Array.getElem?_toList, h1]
  simp [hj']
/-! ### the comparing function: functions 49, 48 -/
def cmpI (a b : Int) : Int := if a < b then -1 else if a > b then 1 else 0
theorem cmpI_f (a b : Int) : cmp_Compare_int.f a b = some (cmpI a b) := by
  unfold cmpI
  simp only [cmp_Compare_int.f, cmp_isNaN_int.f]
  by_cases h1 : a < b
  · simp [h1]
  · by_cases h2 : a > b
    · simp [h1, h2]
    · simp [h1, h2]
def cmp4 (x y : S23) : Int := if cmpI x.f0 y.f0 = 0 then (if cmpI x.f1 y.f1 = 0 then (if cmpI x.f2 y.f2 = 0 then cmpI x.f3 y.f3 else cmpI x.f2 y.f2) else cmpI x.f1 y.f1) else cmpI x.f0 y.f0
theorem cmp4_f (x y : S23) : slices_Compare_int_int.f 5 [x.f0, x.f1, x.f2, x.f3] [y.f0, y.f1, y.f2, y.f3] = some (cmp4 x y) := by
  unfold slices_Compare_int_int.f cmp4
  simp only [slices_Compare_int_int.l0, cmpI_f, List.length_cons, List.length_nil]
  by_cases h0 : cmpI x.f0 y.f0 = 0
  · by_cases h1 : cmpI x.f1 y.f1 = 0
    · by_cases h2 : cmpI x.f2 y.f2 = 0
      · by_cases h3 : cmpI x.f3 y.f3 = 0
        · simp [h0, h1, h2, h3, Go.Proofs.YtlfmafebmnggeaaW.PrintWords.rd, wrap64]
        · simp [h0, h1, h2, h3, Go.Proofs.YtlfmafebmnggeaaW.PrintWords.rd, wrap64]
      · simp [h0, h1, h2, Go.Proofs.YtlfmafebmnggeaaW.PrintWords.rd, wrap64]
    · simp [h0, h1, Go.Proofs.YtlfmafebmnggeaaW.PrintWords.rd, wrap64]
  · simp [h0, Go.Proofs.YtlfmafebmnggeaaW.PrintWords.rd, wrap64]
theorem compare_calls (x y : S23) (A B : Option Addr) (w : World) (h1 : Kd.C (Kd.int .i64) w A [x.f0, x.f1, x.f2, x.f3].length [x.f0, x.f1, x.f2, x.f3]) (h2 : Kd.C (Kd.int .i64) w B [y.f0, y.f1, y.f2, y.f3].length [y.f0, y.f1, y.f2, y.f3]) :
    Calls Try.prog 49 #[.slice A 4 4, .slice B 4 4] w fun e w' => e = .returned (.int .i64 (cmp4 x y)) ∧ Drawn0 w w' := by
  have h := slices_Compare_int_int.calls 5 A 4 [x.f0, x.f1, x.f2, x.f3] B 4 [y.f0, y.f1, y.f2, y.f3] (cmp4 x y) w h1 (by simp) h2 (by simp) (cmp4_f x y)
  simp only [List.length_cons, List.length_nil, Nat.zero_add, Nat.reduceAdd] at h
  exact h
theorem alloc2_drew (w : World) (o1 o2 : Obj) (n : Nat) : ((w.alloc o1).alloc o2).drewN n = grow (w.drewN n) (#[o1] ++ #[o2]) := by
  rw [alloc_eq_grow, alloc_eq_grow, grow_grow]
  rfl
set_option maxHeartbeats 400000 in
set_option maxRecDepth 100000 in
theorem less_calls (x y : S23) (w : World) : Calls Try.prog 48 #[.agg (enc4 x).toArray, .agg (enc4 y).toArray] w fun e w' => e = .returned (.int .i64 (cmp4 x y)) ∧ ∃ q os', w' = grow (w.drewN q) os' := by
  have hB1 := (Bk.new w 23 ⟨x.f0, x.f1, x.f2, x.f3⟩).alloc (bx ⟨y.f0, y.f1, y.f2, y.f3⟩ 23)
  have hB2 := Bk.new (w.alloc (bx ⟨x.f0, x.f1, x.f2, x.f3⟩ 23)) 23 ⟨y.f0, y.f1, y.f2, y.f3⟩
  rw [World.size_alloc] at hB2
  have HR1 := Aside0.mk hB1.reads
  have HR2 := Aside0.mk hB2.reads
  have HC := Aside0.mk (fun n W (h1 : Kd.C (Kd.int .i64) W (some ⟨w.heap.size, 0, none⟩) [x.f0, x.f1, x.f2, x.f3].length [x.f0, x.f1, x.f2, x.f3]) (h2 : Kd.C (Kd.int .i64) W (some ⟨w.heap.size + 1, 0, none⟩) [y.f0, y.f1, y.f2, y.f3].length [y.f0, y.f1, y.f2, y.f3]) => compare_calls x y _ _ (W.drewN n) (Kd.C_drewN h1 n) (Kd.C_drewN h2 n))
  obtain ⟨r, hr⟩ : ∃ r, r = cmp4 x y := ⟨_, rfl⟩
  rw [← hr] at HC ⊢
  clear hr hB1 hB2
  simp only [enc4]
  go_enter Try.func48, Try.ntmps48
  go_wp2
  (go_quiet (first | (go_at_call 49; (with_reducible refine (HC.out _ _ HR1.out HR2.out).mono ?_); rintro e w' ⟨rfl, ⟨nd, rfl⟩⟩; (try first | exact ⟨rfl, _, World.drewN_drewN _ _ _⟩ | exact ⟨rfl, _, Eq.trans (World.drewN_drewN _ _ _) (congrArg (World.drewN _) (Nat.add_assoc _ _ _))⟩))); try go_wp2)
  go_ret
  with_reducible exact ⟨rfl, _, _, alloc2_drew _ _ _ _⟩
theorem less_lays (blk off size : Nat) (w : World) : CmpLays Try.prog 48 #[] enc4 4 cmp4 blk off size w :=
  fun _ _ _ _ x y => less_calls x y _
/-! ### the order -/
theorem cmpI_lt (a b : Int) : cmpI a b < 0 ↔ a < b := by
  unfold cmpI
  split
  · simp [*]
  · split <;> simp [*]
theorem cmpI_eq (a b : Int) : cmpI a b = 0 ↔ a = b := by
  unfold cmpI
  split
  · simp; omega
  · split
    · simp; omega
    · simp; omega
def lt4 (x y : S23) : Prop := x.f0 < y.f0 ∨ (x.f0 = y.f0 ∧ (x.f1 < y.f1 ∨ (x.f1 = y.f1 ∧ (x.f2 < y.f2 ∨ (x.f2 = y.f2 ∧ x.f3 < y.f3)))))
instance (x y : S23) : Decidable (lt4 x y) := by unfold lt4; infer_instance
theorem cmp4_lt (x y : S23) : cmp4 x y < 0 ↔ lt4 x y := by
  unfold cmp4 lt4
  have h0 := cmpI_lt x.f0 y.f0
  have h1 := cmpI_lt x.f1 y.f1
  have h2 := cmpI_lt x.f2 y.f2
  have h3 := cmpI_lt x.f3 y.f3
  have e0 := cmpI_eq x.f0 y.f0
  have e1 := cmpI_eq x.f1 y.f1
  have e2 := cmpI_eq x.f2 y.f2
  split
  · split
    · split <;> omega
    · omega
  · omega
theorem ltOf4 (x y : S23) : ltOf cmp4 x y = decide (lt4 x y) := by
  unfold ltOf
  rw [decide_eq_decide]
  exact cmp4_lt x y
theorem swo4 : SWO (ltOf cmp4) where
  irrefl x := by rw [ltOf4]; unfold lt4; simp
  trans x y z h1 h2 := by rw [ltOf4] at *; simp only [decide_eq_true_eq] at *; unfold lt4 at *; omega
  ntrans x y z h1 h2 := by rw [ltOf4] at *; simp only [decide_eq_false_iff_not] at *; unfold lt4 at *; omega
def le4 (x y : S23) : Bool := decide (¬ lt4 y x)
theorem le4_trans (x y z : S23) : le4 x y → le4 y z → le4 x z := by
  unfold le4 lt4
  simp only [decide_eq_true_eq]
  omega
theorem le4_total (x y : S23) : (le4 x y || le4 y x) = true := by
  unfold le4 lt4
  simp only [Bool.or_eq_true, decide_eq_true_eq]
  omega
theorem le4_anti (x y : S23) (h1 : le4 x y = true) (h2 : le4 y x = true) : x = y := by
  obtain ⟨a, b, c, d⟩ := x
  obtain ⟨a', b', c', d'⟩ := y
  unfold le4 lt4 at h1 h2
  simp only [decide_eq_true_eq] at h1 h2
  have : a = a' ∧ b = b' ∧ c = c' ∧ d = d' := by omega
  obtain ⟨rfl, rfl, rfl, rfl⟩ := this
  rfl
theorem sorted_unique : ∀ {l l' : List S23}, l.Pairwise (fun x y => le4 x y = true) → l'.Pairwise (fun x y => le4 x y = true) → l.Perm l' → l = l' := by
  intro l l' h1 h2 hp
  exact hp.eq_of_pairwise (fun a b _ _ ha hb => le4_anti a b ha hb) h1 h2
/-- Sorting by insertion. -/
def insQ4 (x : S23) : List S23 → List S23
  | [] => [x]
  | y :: ys => if le4 x y = true then x :: y :: ys else y :: insQ4 x ys
def isortQ : List S23 → List S23
  | [] => []
  | x :: xs => insQ4 x (isortQ xs)
theorem insQ4_perm (x : S23) (l : List S23) : (insQ4 x l).Perm (x :: l) := by
  induction l with
  | nil => exact List.Perm.refl _
  | cons y ys ih =>
    unfold insQ4
    split
    · exact List.Perm.refl _
    · exact (List.Perm.cons y ih).trans (List.Perm.swap x y ys)
theorem isortQ_perm (l : List S23) : (isortQ l).Perm l := by
  induction l with
  | nil => exact List.Perm.refl _
  | cons x xs ih => exact (insQ4_perm x _).trans (List.Perm.cons x ih)
theorem insQ4_sorted (x : S23) (l : List S23) (h : l.Pairwise (fun x y => le4 x y = true)) : (insQ4 x l).Pairwise (fun x y => le4 x y = true) := by
  induction l with
  | nil => simp [insQ4]
  | cons y ys ih =>
    unfold insQ4
    have h2 := List.pairwise_cons.1 h
    split
    · rename_i hxy
      refine List.pairwise_cons.2 ⟨fun z hz => ?_, h⟩
      rcases List.mem_cons.1 hz with rfl | hz
      · exact hxy
      · exact le4_trans _ _ _ hxy (h2.1 z hz)
    · rename_i hxy
      have hyx : le4 y x = true := by
        have := le4_total x y
        rw [Bool.eq_false_iff.2 hxy, Bool.false_or] at this
        exact this
      refine List.pairwise_cons.2 ⟨fun z hz => ?_, ih h2.2⟩
      rcases List.mem_cons.1 ((insQ4_perm x ys).mem_iff.1 hz) with rfl | hz
      · exact hyx
      · exact h2.1 z hz
theorem isortQ_sorted (l : List S23) : (isortQ l).Pairwise (fun x y => le4 x y = true) := by
  induction l with
  | nil => exact List.Pairwise.nil
  | cons x xs ih => exact insQ4_sorted x _ ih
/-! ### slices.SortFunc: function 47 -/
def api_Quad.f (l0 : List S23) : Option (List S23) := if l0.length = 0 then none else if l0.length < 4611686018427387904 then some (isortQ l0) else none
theorem api_Quad.calls (P0_ : Nat → Prop) (u9000_ : Value) (l0 : List S23) (r : List S23) (w0 w : World) (hB : Below w0.heap.size w0 w) (ho0 : Kd.R k23 23 w w0.heap.size P0_ u9000_ l0) (h : api_Quad.f l0 = some r) :
    Calls Try.prog 47 #[u9000_, .func (.func 48) #[] #[]] w fun e w' => e = .returned (.tuple #[]) ∧ Kd.R k23 23 w' w0.heap.size (fun k_ => (P0_ k_ ∨ w.heap.size ≤ k_)) u9000_ r ∧ Below w0.heap.size w0 w' ∧ Kept w w' (fun k_ => P0_ k_) := by
  unfold api_Quad.f at h
  split at h
  case isTrue => cases h
  case isFalse hne =>
  split at h
  case isFalse => cases h
  case isTrue hc =>
  obtain rfl := Option.some.inj h
  clear h
  have hP := ho0.1
  obtain ⟨inner, hown, hreps⟩ := ho0.2
  have hreps2 := hreps.imp_ (fun x cs (hM : k23.M w w0.heap.size _ x cs) => (show cs = enc4 x from k23_openM hM))
  have hin := flat_of_reps hreps2
  rcases hown.2 with ⟨_, h0⟩ | ⟨g, cap, cur, rfl, hg, hh, r1, r2, r3, r4⟩
  · exact absurd h0 hne
  have r4' : cur.toList.take (l0.length * 4) = (flatK enc4 4 l0.toArray).toList := r4.trans hin
  have eg : ∀ args w, (callFunc 48 args).run Try.prog w = .ok (.enter 48 args) w := enters_of Try.func48 (by kernel_rfl) rfl
  have hcon := AnyQ.slices_SortFunc Try.sortQ 4 Try.isAgg23 Try.sizeOf23 enc4 enc4_len (fun x v hv => by simp [enc4] at hv; rcases hv with rfl | rfl | rfl | rfl <;> rfl) cmp4 swo4 48 #[] g 0 cap l0.toArray w eg (less_lays g 0 _ w) (holds_flat hh r4') (lt_of_block hh) (by simpa using hc)
  refine Calls.mono (show Calls Try.prog 47 #[.slice (some ⟨g, 0, none⟩) l0.length cap, .func (.func 48) #[] #[]] w _ from hcon) ?_
  rintro e w' ⟨rfl, d', n, os, hp, hs, rfl⟩
  have hsz : d'.size = l0.length := by simpa using hp.1
  have hperm : d'.toList.Perm l0 := by
    have h2 : (List.take l0.length d'.toList).Perm l0 := by simpa [hsz] using hp.2.2
    rwa [List.take_of_length_le (by simp [hsz])] at h2
  have hd' : d'.toList = isortQ l0 := by
    refine sorted_unique ?_ (isortQ_sorted l0) (hperm.trans (isortQ_perm l0).symm)
    rw [List.pairwise_iff_getElem]
    intro i j hi hj hij
    have hi' : i < d'.size := by simpa using hi
    have hj' : j < d'.size := by simpa using hj
    have := hs i j (Nat.zero_le _) hij (by simpa [hsz] using hj)
    rw [ltOf4, getElem!_pos d' i hi', getElem!_pos d' j hj'] at this
    unfold le4
    simpa using this
  have hgr : w.grownBy (sortWorldK enc4 4 w g 0 n d' os) (some g) := grownBy_sortedK _
  have hl2 : (isortQ l0).length = l0.length := (isortQ_perm _).length_eq
  have hfs : (flatK enc4 4 d').size = l0.length * 4 := by simp [hsz]
  have hcs : cur.size = cap * 4 := r3
  have hblk := heap_sortedK (n := n) (os := os) d' hh
  have hown2 : World.ownsRow (sortWorldK enc4 4 w g 0 n d' os) w0.heap.size 23 4 (.slice (some ⟨g, 0, none⟩) l0.length cap) (isortQ l0).length (flatK enc4 4 d').toList := by
    rw [hl2]
    refine ⟨by simp [hsz], .inr ⟨g, cap, _, rfl, hg, hblk, r1, r2, by simp [putCells, hcs], ?_⟩⟩
    rw [← hfs]
    exact take_putCells cur _ (by rw [hfs, hcs]; exact Nat.mul_le_mul_right 4 r1)
  have hPg : P0_ g := hP g rfl
  have hrp : Reps (fun (x : S23) (cs : List Value) => cs = enc4 x) 4 (isortQ l0) (flatK enc4 4 d').toList := by
    have := reps_flat (isortQ l0)
    have e : (isortQ l0).toArray = d' := by rw [← hd', Array.toArray_toList]
    rwa [e] at this
  have hR : Kd.R k23 23 (sortWorldK enc4 4 w g 0 n d' os) w0.heap.size (fun k_ => (P0_ k_ ∨ w.heap.size ≤ k_)) (.slice (some ⟨g, 0, none⟩) l0.length cap) (isortQ l0) := by
    refine ⟨fun k hk => ?_, _, hown2, hrp.imp_ (fun x cs hx => ?_)⟩
    · have e : g = k := by simpa [Value.ownBlock] using hk
      subst e
      exact .inl hPg
    · subst hx
      exact k23_mkM _ _ _ x
  have hrow : ∀ k, some g = some k → w0.heap.size ≤ k := by
    intro k e
    injection e with e
    omega
  have hrow2 : ∀ k, ¬ P0_ k → some k ≠ some g := by
    intro k hn e
    injection e with e
    subst e
    exact hn hPg
  exact ⟨rfl, hR, hB.grown hgr hB.size hrow, ⟨hgr.size, fun k hk hn => hgr.block k hk (hrow2 k hn)⟩⟩

end Go.Proofs.Ytlfmafebmnggeaa.Print
