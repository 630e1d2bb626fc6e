/- Rests by the specification, out of the printed text (mkrr.py). -/
import Derived.Test.YtlfmafebmnggeaaShort
import Derived.Test.YtlfmafebmnggeaaHandRests
import Derived.Test.YtlfmafebmnggeaaPrintx0
import Derived.Test.YtlfmafebmnggeaaPrintx1
import Derived.Test.YtlfmafebmnggeaaPrintx13
import Derived.Test.YtlfmafebmnggeaaPrintx14
namespace Go.Proofs.Ytlfmafebmnggeaa.Print
open Go.RowKit Go.Proofs.YtlfmafebmnggeaaW.PrintWords Go.Proofs.YtlfmafebmnggeaaW.PrintLast Go.Proofs.YtlfmafebmnggeaaW.PrintMore
attribute [local go_sem] max2_int min2_int max_two min_two max_three min_three max_four min_four
set_option maxHeartbeats 8000000 -- slim
set_option maxRecDepth 100000
set_option linter.unusedVariables false
set_option linter.unusedSimpArgs false

theorem info4 : (Try.prog.info? 4).map (fun i => (i.zero, i.size, i.bytes)) = some (some (.bool false), 1, 1) := by kernel_rfl
section
variable {P : Program} {ops : Array Oper} {o : Oper} {a : Act} {Q : Exit → Act → World → Prop} {rest : List Oper}
/-- An array of 24 bools, told as a row of bools. -/
theorem R_box24 {w0 W : World} {base : Nat} (hgd : o.guard = none) {N : Tmp} (_hd : o.dst = some N)
  (hrun : (execOp a.eval o).run P W = .ok (.value (.pointer (some ⟨W.heap.size, 0, none⟩))) (W.alloc (.cells (List.replicate 24 (Value.bool false)).toArray 47)))
  {ok : Nat → Prop} (hfresh : ok W.heap.size) (HB : Below base w0 W) (hbase : base ≤ W.heap.size)
  (h : ∀ g v1 w1, v1 = .slice (some ⟨g, 0, none⟩) 24 24 → Kd.R Kd.bool 47 w1 base ok v1 (List.replicate (24 : Int).toNat false) → Below base w0 w1 → W.grownBy w1 none → (∃ b, v1.ownBlock = some b ∧ W.heap.size ≤ b) → wpList P ops Q rest (a.put o.dst (.pointer (some ⟨g, 0, none⟩))) w1) : wpList P ops Q (o :: rest) a W := by
 refine Kd.event_run hgd hrun (h W.heap.size (.slice (some ⟨W.heap.size, 0, none⟩) 24 24) _ rfl ⟨fun k hk => ?_, List.replicate 24 (Value.bool false), ?_, ?_⟩ (HB.alloc hbase _) (World.grownBy_alloc W _ none) ⟨W.heap.size, by simp [Value.ownBlock], Nat.le_refl _⟩)
 ·have : W.heap.size = k := by simpa [Value.ownBlock] using hk
  subst this
  exact hfresh
 ·exact World.ownsRow_lit (base := base) (e := 47) (size := 1) W (List.replicate 24 (Value.bool false)).toArray 24 hbase (by decide) (by decide)
 ·have h0 := Kd.reps_made (R := Kd.M Kd.bool (W.alloc (.cells (List.replicate 24 (Value.bool false)).toArray 47)) base (fun k => ok k ∧ some k ≠ (Value.slice (some ⟨W.heap.size, 0, none⟩) 24 24).ownBlock)) (z := .bool false) (size := 1) (z0 := false) rfl (by decide) rfl 24
  have e : (madeCells (Value.bool false).cells (24 * 1)).toList = List.replicate 24 (Value.bool false) := by kernel_rfl
  rw [e] at h0
  exact h0
end
section
variable {P : Program} {ops : Array Oper} {o : Oper} {a : Act} {Q : Exit → Act → World → Prop} {Kc : Act → World → Prop}
theorem box_step {W : World} (hw : Region.wanted o (yielded ops a.tmps) = true) {N : Tmp} (_hd : o.dst = some N) {cs : Array Value} {t : TypeId}
  (hrun : (execOp a.eval o).run P W = .ok (.value (.pointer (some ⟨W.heap.size, 0, none⟩))) (W.alloc (.cells cs t (0, 0))))
  (h : ∀ g, g = W.heap.size → ∀ w1, w1.heap[g]? = some (.cells cs t (0, 0)) → Below W.heap.size W w1 → Kc (a.put o.dst (.pointer (some ⟨g, 0, none⟩))) w1) : if Region.wanted o (yielded ops a.tmps) = true then Oper.wp P o a W Kc Q else Kc (a.put o.dst undef) W :=
 event_step hw hrun (h _ rfl _ (blk_new W _) (below_alloc (Below.refl _ _) _))
end
section
variable {md : Region.Mode} {ops : Array Oper} {T : Bool × List (List Nat × List Nat)} {l l' li lj lk : Array Bool} {ds : List Nat} {i j k : Nat}
theorem two_of (hT : rtab md ops = T) (h : (readyT T.2 l.toList == [i, j] && l.toList.set i true == li.toList && l.toList.set j true == lj.toList) = true) : (Region.ready md ops l == [i, j] && l.setIfInBounds i true == li && l.setIfInBounds j true == lj) = true := by
 simp only [Bool.and_eq_true] at h ⊢
 obtain ⟨⟨h1, h2⟩, h3⟩ := h
 subst hT
 exact ⟨⟨by rw [ready_eq]; exact h1, set_of h2⟩, set_of h3⟩
end
section
open Go.Proofs.YtlfmafebmnggeaaW.PrintWords.Kd
variable {α : Type} {d : Kd α} {e e' base n : Nat} {ok : Nat → Prop} {u v : Value} {xs : List α} {w W w1 : World} {A : Option Addr}
namespace Kd
theorem R_typed (h : d.R e w base ok v xs) : ∀ k, v.ownBlock = some k → ∃ cells, w.heap[k]? = some (.cells cells e (0, 0)) := by
 obtain ⟨inner, ho⟩ := R_own h
 exact fun k hk => own_typed ho k hk
theorem R_over' (h : d.R e W base ok u xs) (hty : ∀ k, v.ownBlock = some k → ∃ cells, W.heap[k]? = some (.cells cells e' (0, 0))) (ht : ∀ q, q ∈ e :: d.E → q ≠ e') (hg : W.grownBy w1 v.ownBlock) : d.R e w1 base ok u xs := by
 refine R_mono (R_move (R_bound h) (fun k hk => hg.block k hk.2.2.1 (fun he => ?_))) (fun _ hk => hk.1)
 obtain ⟨_, _, _, q, hq, cells, hc⟩ := hk
 obtain ⟨cells', hc'⟩ := hty k he.symm
 rw [hc] at hc'
 injection hc' with hc'
 injection hc' with _ hc'
 exact ht q hq hc'
theorem at_bool {xs : List Bool} (h : Kd.bool.C w A n xs) (i : Int) (h0 : 0 ≤ i) (h1 : i < n) : ∃ ad, A = some ad ∧ w.cell? (ad.add i.toNat) = some (.bool (rdOf false xs i)) :=
 ReadsOf.at_ (reads_of_C (enc := Value.bool) (d := false) (h1 := fun _ => rfl) h) i h0 h1
end Kd
end
/-! ### clocheref01_Rests: function 26 -/
mutual
def clocheref01_Rests.l0 : Nat → List Bool → List (S23) → List Bool → Int → Option (List Int × Int)
 | 0, _, _, _, _ => none
 | k + 1, x5, x6, x7, x8 => if x8 < (x6.length : Int) then (if 0 ≤ x8 then (clocheref01_Rests.l1 k x5 x6 x7 x8 0 ((rd_T23 x6 x8).f0) ((rd_T23 x6 x8).f1) ((rd_T23 x6 x8).f2) ((rd_T23 x6 x8).f3)) else (none)) else (clocheref01_Rests.l2 k x7 ([] : List Int) 0)
def clocheref01_Rests.l1 : Nat → List Bool → List (S23) → List Bool → Int → Int → Int → Int → Int → Int → Option (List Int × Int)
 | 0, _, _, _, _, _, _, _, _, _ => none
 | k + 1, x5, x6, x7, x8, x10, x279000, x279001, x279002, x279003 => if x10 < 4 then (if 0 ≤ x10 then (if 0 ≤ (at4 x279000 x279001 x279002 x279003 x10) then (if (at4 x279000 x279001 x279002 x279003 x10) < (x7.length : Int) then ((some (x7.set ((at4 x279000 x279001 x279002 x279003 x10) : Int).toNat true : List Bool)).bind fun y279 => ((clocheref01_Turned.f k x279000 x279001 x279002 x279003 x10).bind fun t281 => ((clocheref01_rest.f t281).bind fun t282 => (if 0 ≤ (wrap64 ((wrap64 ((wrap64 ((wrap64 ((wrap64 ((wrap64 ((pt4 0 x279000 x10 t282) * 24)) + (pt4 1 x279001 x10 t282))) * 24)) + (pt4 2 x279002 x10 t282))) * 24)) + (pt4 3 x279003 x10 t282))) then (if (wrap64 ((wrap64 ((wrap64 ((wrap64 ((wrap64 ((wrap64 ((pt4 0 x279000 x10 t282) * 24)) + (pt4 1 x279001 x10 t282))) * 24)) + (pt4 2 x279002 x10 t282))) * 24)) + (pt4 3 x279003 x10 t282))) < (x5.length : Int) then (if (rdOf false x5 (wrap64 ((wrap64 ((wrap64 ((wrap64 ((wrap64 ((wrap64 ((pt4 0 x279000 x10 t282) * 24)) + (pt4 1 x279001 x10 t282))) * 24)) + (pt4 2 x279002 x10 t282))) * 24)) + (pt4 3 x279003 x10 t282))) = true) then (clocheref01_Rests.l1 k x5 x6 y279 x8 (wrap64 (x10 + 1)) x279000 x279001 x279002 x279003) else (if x6.length < 4398046511104 then (clocheref01_Rests.l1 k (x5.set ((wrap64 ((wrap64 ((wrap64 ((wrap64 ((wrap64 ((wrap64 ((pt4 0 x279000 x10 t282) * 24)) + (pt4 1 x279001 x10 t282))) * 24)) + (pt4 2 x279002 x10 t282))) * 24)) + (pt4 3 x279003 x10 t282))) : Int).toNat true) (x6 ++ [(⟨pt4 0 x279000 x10 t282, pt4 1 x279001 x10 t282, pt4 2 x279002 x10 t282, pt4 3 x279003 x10 t282⟩ : S23)]) y279 x8 (wrap64 (x10 + 1)) x279000 x279001 x279002 x279003) else (none))) else (none)) else (none))))) else (none)) else (none)) else (none)) else (clocheref01_Rests.l0 k x5 x6 x7 (wrap64 (x8 + 1)))
def clocheref01_Rests.l2 : Nat → List Bool → List Int → Int → Option (List Int × Int)
 | 0, _, _, _ => none
 | k + 1, x7, x13, x14 => if x14 < 24 then (if 0 ≤ x14 then (if x14 < (x7.length : Int) then (if rdOf false x7 x14 = true then (if x13.length < 17592186044416 then (clocheref01_Rests.l2 k x7 (x13 ++ [x14]) (wrap64 (x14 + 1))) else (none)) else (clocheref01_Rests.l2 k x7 x13 (wrap64 (x14 + 1)))) else (none)) else (none)) else (some (x13, 0))
end
def clocheref01_Rests.f (k : Nat) (a0_0 : Int) (a0_1 : Int) (a0_2 : Int) (a0_3 : Int) : Option (List Int × Int) := (clocheref01_IsQuad.f k a0_0 a0_1 a0_2 a0_3).bind fun t262 => (if t262 = true then ((clocheref01_rest.f a0_0).bind fun t263 => ((clocheref01_rest.f a0_1).bind fun t264 => ((clocheref01_rest.f a0_2).bind fun t265 => ((clocheref01_rest.f a0_3).bind fun t266 => (if 331776 ≤ 281474976710656 then (if 24 ≤ 281474976710656 then (clocheref01_Rests.l0 k (List.replicate 331776 false) (([(⟨t263, t264, t265, t266⟩ : S23)] : List (S23))) (List.replicate 24 false) 0) else (none)) else (none)))))) else (some (([] : List Int), 2)))
theorem clocheref01_Rests.mono_l : ∀ k, (∀ y0 y1 y2 y3, LeO (clocheref01_Rests.l0 k y0 y1 y2 y3) (clocheref01_Rests.l0 (k + 1) y0 y1 y2 y3)) ∧ (∀ y0 y1 y2 y3 y4 y5 y6 y7 y8, LeO (clocheref01_Rests.l1 k y0 y1 y2 y3 y4 y5 y6 y7 y8) (clocheref01_Rests.l1 (k + 1) y0 y1 y2 y3 y4 y5 y6 y7 y8)) ∧ (∀ y0 y1 y2, LeO (clocheref01_Rests.l2 k y0 y1 y2) (clocheref01_Rests.l2 (k + 1) y0 y1 y2))
 | 0 => ⟨fun _ _ _ _ r h => by simp [clocheref01_Rests.l0] at h, fun _ _ _ _ _ _ _ _ _ r h => by simp [clocheref01_Rests.l1] at h, fun _ _ _ r h => by simp [clocheref01_Rests.l2] at h⟩
 | k + 1 => by
  obtain ⟨ih0, ih1, ih2⟩ := clocheref01_Rests.mono_l k
  refine ⟨?_, ?_, ?_⟩
  ·intro y0 y1 y2 y3
   unfold clocheref01_Rests.l0
   repeat' first
   | (with_reducible exact ih0 _ _ _ _)
   | (with_reducible exact ih1 _ _ _ _ _ _ _ _ _)
   | (with_reducible exact ih2 _ _ _)
   | (with_reducible exact clocheref01_IsQuad.mono _ _ _ _ _)
   | (with_reducible exact clocheref01_Turned.mono _ _ _ _ _ _)
   | (with_reducible exact LeO.refl _)
   | (with_reducible exact LeO.none _)
   | (with_reducible refine LeO.ite ?_ ?_)
   | (with_reducible refine LeO.bind ?_ (fun _ => ?_))
   | exact ih0 _ _ _ _
   | exact ih1 _ _ _ _ _ _ _ _ _
   | exact ih2 _ _ _
   | exact clocheref01_IsQuad.mono _ _ _ _ _
   | exact clocheref01_Turned.mono _ _ _ _ _ _
   | exact LeO.none _
   | refine LeO.ite ?_ ?_
   | refine LeO.bind ?_ (fun _ => ?_)
  ·intro y0 y1 y2 y3 y4 y5 y6 y7 y8
   unfold clocheref01_Rests.l1
   repeat' first
   | (with_reducible exact ih0 _ _ _ _)
   | (with_reducible exact ih1 _ _ _ _ _ _ _ _ _)
   | (with_reducible exact ih2 _ _ _)
   | (with_reducible exact clocheref01_IsQuad.mono _ _ _ _ _)
   | (with_reducible exact clocheref01_Turned.mono _ _ _ _ _ _)
   | (with_reducible exact LeO.refl _)
   | (with_reducible exact LeO.none _)
   | (with_reducible refine LeO.ite ?_ ?_)
   | (with_reducible refine LeO.bind ?_ (fun _ => ?_))
   | exact ih0 _ _ _ _
   | exact ih1 _ _ _ _ _ _ _ _ _
   | exact ih2 _ _ _
   | exact clocheref01_IsQuad.mono _ _ _ _ _
   | exact clocheref01_Turned.mono _ _ _ _ _ _
   | exact LeO.none _
   | refine LeO.ite ?_ ?_
   | refine LeO.bind ?_ (fun _ => ?_)
  ·intro y0 y1 y2
   unfold clocheref01_Rests.l2
   repeat' first
   | (with_reducible exact ih0 _ _ _ _)
   | (with_reducible exact ih1 _ _ _ _ _ _ _ _ _)
   | (with_reducible exact ih2 _ _ _)
   | (with_reducible exact clocheref01_IsQuad.mono _ _ _ _ _)
   | (with_reducible exact clocheref01_Turned.mono _ _ _ _ _ _)
   | (with_reducible exact LeO.refl _)
   | (with_reducible exact LeO.none _)
   | (with_reducible refine LeO.ite ?_ ?_)
   | (with_reducible refine LeO.bind ?_ (fun _ => ?_))
   | exact ih0 _ _ _ _
   | exact ih1 _ _ _ _ _ _ _ _ _
   | exact ih2 _ _ _
   | exact clocheref01_IsQuad.mono _ _ _ _ _
   | exact clocheref01_Turned.mono _ _ _ _ _ _
   | exact LeO.none _
   | refine LeO.ite ?_ ?_
   | refine LeO.bind ?_ (fun _ => ?_)
theorem clocheref01_Rests.mono : ∀ a0 a1 a2 a3 k, LeO (clocheref01_Rests.f k a0 a1 a2 a3) (clocheref01_Rests.f (k + 1) a0 a1 a2 a3) := by
 intro a0 a1 a2 a3 k
 obtain ⟨ih0, ih1, ih2⟩ := clocheref01_Rests.mono_l k
 unfold clocheref01_Rests.f
 repeat' first
   | (with_reducible exact ih0 _ _ _ _)
   | (with_reducible exact ih1 _ _ _ _ _ _ _ _ _)
   | (with_reducible exact ih2 _ _ _)
   | (with_reducible exact clocheref01_IsQuad.mono _ _ _ _ _)
   | (with_reducible exact clocheref01_Turned.mono _ _ _ _ _ _)
   | (with_reducible exact LeO.refl _)
   | (with_reducible exact LeO.none _)
   | (with_reducible refine LeO.ite ?_ ?_)
   | (with_reducible refine LeO.bind ?_ (fun _ => ?_))
   | exact ih0 _ _ _ _
   | exact ih1 _ _ _ _ _ _ _ _ _
   | exact ih2 _ _ _
   | exact clocheref01_IsQuad.mono _ _ _ _ _
   | exact clocheref01_Turned.mono _ _ _ _ _ _
   | exact LeO.none _
   | refine LeO.ite ?_ ?_
   | refine LeO.bind ?_ (fun _ => ?_)
def clocheref01_Rests.T3 : Bool × List (List Nat × List Nat) := (true, [([], []), ([0], [0]), ([1], [1]), ([], []), ([3], [3]), ([4, 2], [4]), ([], []), ([6], [6]), ([7, 5], [7]), ([], []), ([9], [9]), ([10, 8], [10]), ([2, 5, 8, 11], [2, 5, 8, 11]), ([], []), ([13, 12, 11, 0, 1, 2, 3, 4, 5, 6, 7, 8, 9, 10, 11, 12, 13], [12, 13])])
def clocheref01_Rests.B3 : List Nat := [0, 1, 3, 0, 8, 31, 0, 64, 255, 0, 512, 2047, 4095, 0, 16383]
theorem clocheref01_Rests.tab3 : rtab .any (opsOf Try.f26 3) = clocheref01_Rests.T3 := by kernel_rfl
theorem clocheref01_Rests.bits3 : waitsOk clocheref01_Rests.T3.2 clocheref01_Rests.B3 = true := by kernel_rfl
theorem clocheref01_Rests.calls (k : Nat) (a0_0 : Int) (a0_1 : Int) (a0_2 : Int) (a0_3 : Int) (r1 : List Int) (r2 : Int) (w : World) (h : clocheref01_Rests.f k a0_0 a0_1 a0_2 a0_3 = some (r1, r2)) :
  Calls Try.prog 26 #[.agg #[.int .i64 a0_0, .int .i64 a0_1, .int .i64 a0_2, .int .i64 a0_3]] w fun e w' => ∃ v0_ : Value, e = .returned (.tuple #[v0_, .int .i64 r2]) ∧ Kd.R (Kd.int .i64) 3 w' w.heap.size (fun _ => True) v0_ r1 ∧ Below w.heap.size w w' := by
 have hu23 := Try.underlying23
 have HB := Aside0.mk (Below.refl w.heap.size w)
 have H : ((clocheref01_IsQuad.f k a0_0 a0_1 a0_2 a0_3).bind fun t262 => (if t262 = true then ((clocheref01_rest.f a0_0).bind fun t263 => ((clocheref01_rest.f a0_1).bind fun t264 => ((clocheref01_rest.f a0_2).bind fun t265 => ((clocheref01_rest.f a0_3).bind fun t266 => (if 331776 ≤ 281474976710656 then (if 24 ≤ 281474976710656 then (clocheref01_Rests.l0 k (List.replicate 331776 false) (([(⟨t263, t264, t265, t266⟩ : S23)] : List (S23))) (List.replicate 24 false) 0) else (none)) else (none)))))) else (some (([] : List Int), 2)))) = some (r1, r2) := h
 clear h
 replace H := Option.bind_eq_some_iff.mp H
 obtain ⟨t262, A20, H⟩ := H
 replace H : (if t262 = true then ((clocheref01_rest.f a0_0).bind fun t263 => ((clocheref01_rest.f a0_1).bind fun t264 => ((clocheref01_rest.f a0_2).bind fun t265 => ((clocheref01_rest.f a0_3).bind fun t266 => (if 331776 ≤ 281474976710656 then (if 24 ≤ 281474976710656 then (clocheref01_Rests.l0 k (List.replicate 331776 false) (([(⟨t263, t264, t265, t266⟩ : S23)] : List (S23))) (List.replicate 24 false) 0) else (none)) else (none)))))) else (some (([] : List Int), 2))) = some (r1, r2) := H
 have A2 := Aside0.mk A20
 clear A20
 by_cases c3 : t262 = true
 ·subst c3
  have H1 : ((clocheref01_rest.f a0_0).bind fun t263 => ((clocheref01_rest.f a0_1).bind fun t264 => ((clocheref01_rest.f a0_2).bind fun t265 => ((clocheref01_rest.f a0_3).bind fun t266 => (if 331776 ≤ 281474976710656 then (if 24 ≤ 281474976710656 then (clocheref01_Rests.l0 k (List.replicate 331776 false) (([(⟨t263, t264, t265, t266⟩ : S23)] : List (S23))) (List.replicate 24 false) 0) else (none)) else (none)))))) = some (r1, r2) := by rw [if_pos rfl] at H; exact H
  clear H
  have H := H1
  clear H1
  replace H := Option.bind_eq_some_iff.mp H
  obtain ⟨t263, A40, H⟩ := H
  replace H : ((clocheref01_rest.f a0_1).bind fun t264 => ((clocheref01_rest.f a0_2).bind fun t265 => ((clocheref01_rest.f a0_3).bind fun t266 => (if 331776 ≤ 281474976710656 then (if 24 ≤ 281474976710656 then (clocheref01_Rests.l0 k (List.replicate 331776 false) (([(⟨t263, t264, t265, t266⟩ : S23)] : List (S23))) (List.replicate 24 false) 0) else (none)) else (none))))) = some (r1, r2) := H
  have A4 := Aside0.mk A40
  clear A40
  replace H := Option.bind_eq_some_iff.mp H
  obtain ⟨t264, A50, H⟩ := H
  replace H : ((clocheref01_rest.f a0_2).bind fun t265 => ((clocheref01_rest.f a0_3).bind fun t266 => (if 331776 ≤ 281474976710656 then (if 24 ≤ 281474976710656 then (clocheref01_Rests.l0 k (List.replicate 331776 false) (([(⟨t263, t264, t265, t266⟩ : S23)] : List (S23))) (List.replicate 24 false) 0) else (none)) else (none)))) = some (r1, r2) := H
  have A5 := Aside0.mk A50
  clear A50
  replace H := Option.bind_eq_some_iff.mp H
  obtain ⟨t265, A60, H⟩ := H
  replace H : ((clocheref01_rest.f a0_3).bind fun t266 => (if 331776 ≤ 281474976710656 then (if 24 ≤ 281474976710656 then (clocheref01_Rests.l0 k (List.replicate 331776 false) (([(⟨t263, t264, t265, t266⟩ : S23)] : List (S23))) (List.replicate 24 false) 0) else (none)) else (none))) = some (r1, r2) := H
  have A6 := Aside0.mk A60
  clear A60
  replace H := Option.bind_eq_some_iff.mp H
  obtain ⟨t266, A70, H⟩ := H
  replace H : (if 331776 ≤ 281474976710656 then (if 24 ≤ 281474976710656 then (clocheref01_Rests.l0 k (List.replicate 331776 false) (([(⟨t263, t264, t265, t266⟩ : S23)] : List (S23))) (List.replicate 24 false) 0) else (none)) else (none)) = some (r1, r2) := H
  have A7 := Aside0.mk A70
  clear A70
  by_cases c8 : 331776 ≤ 281474976710656
  ·rw [if_pos c8] at H
   have c8b0 := eq_true c8
   have c8b1 : decide (331776 ≤ 281474976710656) = true := decide_eq_true c8
   clear c8
   obtain ⟨y268, hy268⟩ : ∃ y_ : List Bool, y_ = (List.replicate 331776 false) := ⟨_, rfl⟩
   replace H : (if 24 ≤ 281474976710656 then (clocheref01_Rests.l0 k y268 (([(⟨t263, t264, t265, t266⟩ : S23)] : List (S23))) (List.replicate 24 false) 0) else (none)) = some (r1, r2) := by first | (rw [hy268]; with_reducible exact H) | (have H2_ := (Option.bind_some _ _).symm.trans H; rw [hy268]; with_reducible exact H2_) | (have H2_ := (Option.bind_some _ _).symm.trans H; with_reducible exact H2_) | with_reducible exact H | (rw [hy268]; exact H) | exact H
   have Ny268 := Aside0.mk hy268
   clear hy268
   obtain ⟨y271, hy271⟩ : ∃ y_ : List (S23), y_ = (([(⟨t263, t264, t265, t266⟩ : S23)] : List (S23))) := ⟨_, rfl⟩
   replace H : (if 24 ≤ 281474976710656 then (clocheref01_Rests.l0 k y268 y271 (List.replicate 24 false) 0) else (none)) = some (r1, r2) := by first | (rw [hy271]; with_reducible exact H) | (have H2_ := (Option.bind_some _ _).symm.trans H; rw [hy271]; with_reducible exact H2_) | (have H2_ := (Option.bind_some _ _).symm.trans H; with_reducible exact H2_) | with_reducible exact H | (rw [hy271]; exact H) | exact H
   have Ny271 := Aside0.mk hy271
   clear hy271
   by_cases c9 : 24 ≤ 281474976710656
   ·rw [if_pos c9] at H
    have c9b0 := eq_true c9
    have c9b1 : decide (24 ≤ 281474976710656) = true := decide_eq_true c9
    clear c9
    obtain ⟨y274, hy274⟩ : ∃ y_ : List Bool, y_ = (List.replicate 24 false) := ⟨_, rfl⟩
    replace H : (clocheref01_Rests.l0 k y268 y271 y274 0) = some (r1, r2) := by first | (rw [hy274]; with_reducible exact H) | (have H2_ := (Option.bind_some _ _).symm.trans H; rw [hy274]; with_reducible exact H2_) | (have H2_ := (Option.bind_some _ _).symm.trans H; with_reducible exact H2_) | with_reducible exact H | (rw [hy274]; exact H) | exact H
    have Ny274 := Aside0.mk hy274
    clear hy274
    have H' := Aside0.mk H
    clear H
    go_enter Try.func26, Try.ntmps26
    try go_wp2_with (first | ((with_reducible refine gate_dst (N := 1) rfl ?_); refine box_event ?hg (N := 1) ?hd (cs := #[.int .i64 a0_0, .int .i64 a0_1, .int .i64 a0_2, .int .i64 a0_3]) (t := 23) ?hr ?_; (case hd => rfl); (case hg => rfl); (case hr => exact gs_); intro gb261 hg w10 hbox hb; have n0_ := Aside0.mk (below_step (lw_ HB.out) hb); have n1_ := Aside0.mk (hbox); have n2_ := Aside0.mk ((by rw [hg]; exact (below_size (lw_ HB.out)) : w.heap.size ≤ gb261)); have n3_ := Aside0.mk ((by rw [hg]; exact (below_size (lw_ HB.out)) : w.heap.size ≤ gb261)); clear HB; have HB := n0_; have BK261 := n1_; have GW261 := n2_; have GE261 := n3_; clear n0_ n1_ n2_ n3_; clear hb hbox hg; have hcz11_0 : w10.cell? ⟨gb261, 0, none⟩ = some (.int .i64 a0_0) := (blk_cell BK261.out 0).trans rfl; have hcz11_1 : w10.cell? ⟨gb261, 1, none⟩ = some (.int .i64 a0_1) := (blk_cell BK261.out 1).trans rfl; have hcz11_2 : w10.cell? ⟨gb261, 2, none⟩ = some (.int .i64 a0_2) := (blk_cell BK261.out 2).trans rfl; have hcz11_3 : w10.cell? ⟨gb261, 3, none⟩ = some (.int .i64 a0_3) := (blk_cell BK261.out 3).trans rfl; have hfz11_0 := blk_frozen BK261.out 0; have hfz11_1 := blk_frozen BK261.out 1; have hfz11_2 := blk_frozen BK261.out 2; have hfz11_3 := blk_frozen BK261.out 3) | ((with_reducible refine gate_callee (f := 27) rfl ?_); refine goesL_ (some 16) rfl rfl Try.func27 (by kernel_rfl) rfl #[.agg #[.int .i64 a0_0, .int .i64 a0_1, .int .i64 a0_2, .int .i64 a0_3]] rfl mp_ ?_; (with_reducible refine (clocheref01_IsQuad.calls k a0_0 a0_1 a0_2 a0_3 true _ A2.out).mono ?_); rintro e w12 ⟨rfl, hb⟩; refine ⟨_, rfl, ?_⟩; have n0_ := Aside0.mk (blk_below (g := gb261) (o := .cells #[.int .i64 a0_0, .int .i64 a0_1, .int .i64 a0_2, .int .i64 a0_3] 23 (0, 0)) (by refine bs_ ?_; exact BK261.out) hb); have n1_ := Aside0.mk (below_step (by repeat (first | (with_reducible first | exact HB.out | apply below_alloc | apply pw_below_drewN | apply below_drew1 | refine below_set ?_ GE261.out) | exact HB.out)) hb); clear BK261; clear HB; have BK261 := n0_; have HB := n1_; clear n0_ n1_; (try clear hb); (try clear hb2); (try clear hk); (try clear hi)))
    have n0_ := Aside0.mk (blk_drew BK261.out)
    have n1_ := Aside0.mk (below_drew1 HB.out)
    clear BK261
    clear HB
    have BK261 := n0_
    have HB := n1_
    clear n0_ n1_
    refine start_ (n := 15) (S := fun w' => w'.cell? ⟨gb261, 0, none⟩ = some (.int .i64 a0_0) ∧ w'.cell? ⟨gb261, 1, none⟩ = some (.int .i64 a0_1) ∧ w'.cell? ⟨gb261, 2, none⟩ = some (.int .i64 a0_2) ∧ w'.cell? ⟨gb261, 3, none⟩ = some (.int .i64 a0_3)) (ds := []) #[false, false, false, false, false, false, false, false, false, false, false, false, false, false, false] (by kernel_rfl) rfl rfl ⟨(blk_cell BK261.out 0).trans rfl, (blk_cell BK261.out 1).trans rfl, (blk_cell BK261.out 2).trans rfl, (blk_cell BK261.out 3).trans rfl⟩ (fun hHeld => ?_); refine with_tabW clocheref01_Rests.tab3 clocheref01_Rests.bits3 (fun HT_ HW_ => ?_)
    generalize w12.drew = w13 at BK261 HB hHeld ⊢
    refine pure_ (i := 0) (N := some 18) (v := ?_) (a' := ?_) #[true, false, false, false, false, false, false, false, false, false, false, false, false, false, false] rfl rfl (any_of HT_.out (by kernel_rfl)) (fun _ _ _ h => h) (Or.inl ⟨by rfl, ?_⟩) ?_ ?_
    rotate_left
    ·intro w'
     go_simp
     with_reducible rfl
    rotate_left
    ·exact pt_
    refine pure_ (i := 3) (N := some 21) (v := ?_) (a' := ?_) #[true, false, false, true, false, false, false, false, false, false, false, false, false, false, false] rfl rfl (any_of HT_.out (by kernel_rfl)) (fun _ _ _ h => h) (Or.inl ⟨by rfl, ?_⟩) ?_ ?_
    rotate_left
    ·intro w'
     go_simp
     with_reducible rfl
    rotate_left
    ·exact pt_
    refine pure_ (i := 6) (N := some 24) (v := ?_) (a' := ?_) #[true, false, false, true, false, false, true, false, false, false, false, false, false, false, false] rfl rfl (any_of HT_.out (by kernel_rfl)) (fun _ _ _ h => h) (Or.inl ⟨by rfl, ?_⟩) ?_ ?_
    rotate_left
    ·intro w'
     go_simp
     with_reducible rfl
    rotate_left
    ·exact pt_
    refine pure_ (i := 9) (N := some 27) (v := ?_) (a' := ?_) #[true, false, false, true, false, false, true, false, false, true, false, false, false, false, false] rfl rfl (any_of HT_.out (by kernel_rfl)) (fun _ _ _ h => h) (Or.inl ⟨by rfl, ?_⟩) ?_ ?_
    rotate_left
    ·intro w'
     go_simp
     with_reducible rfl
    rotate_left
    ·exact pt_
    refine take_ (i := 1) (N := some 19) (v := ?_) (a' := ?_) #[true, true, false, true, false, false, true, false, false, true, false, false, false, false, false] rfl rfl (take_ofW HT_.out HW_.out (by kernel_rfl)) (fun _ _ _ h => h) (Or.inl ⟨by rfl, ?_⟩) hHeld ?_ ?_
    rotate_left
    ·rintro w' ⟨s0, s1, s2, s3⟩
     go_simp
     with_reducible rfl
    rotate_left
    ·exact pt_
    refine take_ (i := 4) (N := some 22) (v := ?_) (a' := ?_) #[true, true, false, true, true, false, true, false, false, true, false, false, false, false, false] rfl rfl (take_ofW HT_.out HW_.out (by kernel_rfl)) (fun _ _ _ h => h) (Or.inl ⟨by rfl, ?_⟩) hHeld ?_ ?_
    rotate_left
    ·rintro w' ⟨s0, s1, s2, s3⟩
     go_simp
     with_reducible rfl
    rotate_left
    ·exact pt_
    refine take_ (i := 7) (N := some 25) (v := ?_) (a' := ?_) #[true, true, false, true, true, false, true, true, false, true, false, false, false, false, false] rfl rfl (take_ofW HT_.out HW_.out (by kernel_rfl)) (fun _ _ _ h => h) (Or.inl ⟨by rfl, ?_⟩) hHeld ?_ ?_
    rotate_left
    ·rintro w' ⟨s0, s1, s2, s3⟩
     go_simp
     with_reducible rfl
    rotate_left
    ·exact pt_
    refine take_ (i := 10) (N := some 28) (v := ?_) (a' := ?_) #[true, true, false, true, true, false, true, true, false, true, true, false, false, false, false] rfl rfl (take_ofW HT_.out HW_.out (by kernel_rfl)) (fun _ _ _ h => h) (Or.inl ⟨by rfl, ?_⟩) hHeld ?_ ?_
    rotate_left
    ·rintro w' ⟨s0, s1, s2, s3⟩
     go_simp
     with_reducible rfl
    rotate_left
    ·exact pt_
    refine join_ (σ := Nat) 1 #[true, true, true, true, true, true, true, true, true, true, true, true, true, true, false] (fun s_ => [(20, .int .i64 t263), (23, .int .i64 t264), (26, .int .i64 t265), (29, .int .i64 t266), (4, .pointer (some ⟨s_, 0, none⟩)), (30, .agg #[.int .i64 t263, .int .i64 t264, .int .i64 t265, .int .i64 t266])]) (fun s_ w' => (w'.cell? ⟨gb261, 0, none⟩ = some (.int .i64 a0_0) ∧ w'.cell? ⟨gb261, 1, none⟩ = some (.int .i64 a0_1) ∧ w'.cell? ⟨gb261, 2, none⟩ = some (.int .i64 a0_2) ∧ w'.cell? ⟨gb261, 3, none⟩ = some (.int .i64 a0_3)) ∧ (w'.heap[gb261]? = some (.cells #[.int .i64 a0_0, .int .i64 a0_1, .int .i64 a0_2, .int .i64 a0_3] 23 (0, 0))) ∧ (w'.heap[s_]? = some (.cells #[.int .i64 0, .int .i64 0, .int .i64 0, .int .i64 0] 23 (0, 0))) ∧ (w.heap.size ≤ s_) ∧ (w.heap.size ≤ s_) ∧ (gb261 ≠ s_) ∧ (s_ ≠ gb261) ∧ (Below w.heap.size w w')) ?_ ?_
    rotate_left
    ·intro hJ2_5_8_11_13
     refine join_ (σ := Unit) 2 #[true, true, true, true, true, true, true, true, true, true, true, true, true, false, false] (fun s_ => [(20, .int .i64 t263), (23, .int .i64 t264), (26, .int .i64 t265), (29, .int .i64 t266), (30, .agg #[.int .i64 t263, .int .i64 t264, .int .i64 t265, .int .i64 t266])]) (fun s_ w' => (w'.cell? ⟨gb261, 0, none⟩ = some (.int .i64 a0_0) ∧ w'.cell? ⟨gb261, 1, none⟩ = some (.int .i64 a0_1) ∧ w'.cell? ⟨gb261, 2, none⟩ = some (.int .i64 a0_2) ∧ w'.cell? ⟨gb261, 3, none⟩ = some (.int .i64 a0_3)) ∧ (w'.heap[gb261]? = some (.cells #[.int .i64 a0_0, .int .i64 a0_1, .int .i64 a0_2, .int .i64 a0_3] 23 (0, 0))) ∧ (Below w.heap.size w w')) ?_ ?_
     rotate_left
     ·intro hJ2_5_8_11
      refine join_ (σ := Nat) 3 #[true, true, true, true, true, true, true, true, true, true, true, false, false, true, false] (fun s_ => [(20, .int .i64 t263), (23, .int .i64 t264), (26, .int .i64 t265), (4, .pointer (some ⟨s_, 0, none⟩))]) (fun s_ w' => (w'.cell? ⟨gb261, 0, none⟩ = some (.int .i64 a0_0) ∧ w'.cell? ⟨gb261, 1, none⟩ = some (.int .i64 a0_1) ∧ w'.cell? ⟨gb261, 2, none⟩ = some (.int .i64 a0_2) ∧ w'.cell? ⟨gb261, 3, none⟩ = some (.int .i64 a0_3)) ∧ (w'.heap[gb261]? = some (.cells #[.int .i64 a0_0, .int .i64 a0_1, .int .i64 a0_2, .int .i64 a0_3] 23 (0, 0))) ∧ (w'.heap[s_]? = some (.cells #[.int .i64 0, .int .i64 0, .int .i64 0, .int .i64 0] 23 (0, 0))) ∧ (w.heap.size ≤ s_) ∧ (w.heap.size ≤ s_) ∧ (gb261 ≠ s_) ∧ (s_ ≠ gb261) ∧ (Below w.heap.size w w')) ?_ ?_
      rotate_left
      ·intro hJ2_5_8_13
       refine join_ (σ := Unit) 4 #[true, true, true, true, true, true, true, true, true, true, true, false, false, false, false] (fun s_ => [(20, .int .i64 t263), (23, .int .i64 t264), (26, .int .i64 t265)]) (fun s_ w' => (w'.cell? ⟨gb261, 0, none⟩ = some (.int .i64 a0_0) ∧ w'.cell? ⟨gb261, 1, none⟩ = some (.int .i64 a0_1) ∧ w'.cell? ⟨gb261, 2, none⟩ = some (.int .i64 a0_2) ∧ w'.cell? ⟨gb261, 3, none⟩ = some (.int .i64 a0_3)) ∧ (w'.heap[gb261]? = some (.cells #[.int .i64 a0_0, .int .i64 a0_1, .int .i64 a0_2, .int .i64 a0_3] 23 (0, 0))) ∧ (Below w.heap.size w w')) ?_ ?_
       rotate_left
       ·intro hJ2_5_8
        refine join_ (σ := Nat) 4 #[true, true, true, true, true, true, true, true, false, true, true, false, false, true, false] (fun s_ => [(20, .int .i64 t263), (23, .int .i64 t264), (4, .pointer (some ⟨s_, 0, none⟩))]) (fun s_ w' => (w'.cell? ⟨gb261, 0, none⟩ = some (.int .i64 a0_0) ∧ w'.cell? ⟨gb261, 1, none⟩ = some (.int .i64 a0_1) ∧ w'.cell? ⟨gb261, 2, none⟩ = some (.int .i64 a0_2) ∧ w'.cell? ⟨gb261, 3, none⟩ = some (.int .i64 a0_3)) ∧ (w'.heap[gb261]? = some (.cells #[.int .i64 a0_0, .int .i64 a0_1, .int .i64 a0_2, .int .i64 a0_3] 23 (0, 0))) ∧ (w'.heap[s_]? = some (.cells #[.int .i64 0, .int .i64 0, .int .i64 0, .int .i64 0] 23 (0, 0))) ∧ (w.heap.size ≤ s_) ∧ (w.heap.size ≤ s_) ∧ (gb261 ≠ s_) ∧ (s_ ≠ gb261) ∧ (Below w.heap.size w w')) ?_ ?_
        rotate_left
        ·intro hJ2_5_13
         refine join_ (σ := Unit) 5 #[true, true, true, true, true, true, true, true, false, true, true, false, false, false, false] (fun s_ => [(20, .int .i64 t263), (23, .int .i64 t264)]) (fun s_ w' => (w'.cell? ⟨gb261, 0, none⟩ = some (.int .i64 a0_0) ∧ w'.cell? ⟨gb261, 1, none⟩ = some (.int .i64 a0_1) ∧ w'.cell? ⟨gb261, 2, none⟩ = some (.int .i64 a0_2) ∧ w'.cell? ⟨gb261, 3, none⟩ = some (.int .i64 a0_3)) ∧ (w'.heap[gb261]? = some (.cells #[.int .i64 a0_0, .int .i64 a0_1, .int .i64 a0_2, .int .i64 a0_3] 23 (0, 0))) ∧ (Below w.heap.size w w')) ?_ ?_
         rotate_left
         ·intro hJ2_5
          refine join_ (σ := Nat) 5 #[true, true, true, true, true, false, true, true, false, true, true, false, false, true, false] (fun s_ => [(20, .int .i64 t263), (4, .pointer (some ⟨s_, 0, none⟩))]) (fun s_ w' => (w'.cell? ⟨gb261, 0, none⟩ = some (.int .i64 a0_0) ∧ w'.cell? ⟨gb261, 1, none⟩ = some (.int .i64 a0_1) ∧ w'.cell? ⟨gb261, 2, none⟩ = some (.int .i64 a0_2) ∧ w'.cell? ⟨gb261, 3, none⟩ = some (.int .i64 a0_3)) ∧ (w'.heap[gb261]? = some (.cells #[.int .i64 a0_0, .int .i64 a0_1, .int .i64 a0_2, .int .i64 a0_3] 23 (0, 0))) ∧ (w'.heap[s_]? = some (.cells #[.int .i64 0, .int .i64 0, .int .i64 0, .int .i64 0] 23 (0, 0))) ∧ (w.heap.size ≤ s_) ∧ (w.heap.size ≤ s_) ∧ (gb261 ≠ s_) ∧ (s_ ≠ gb261) ∧ (Below w.heap.size w w')) ?_ ?_
          rotate_left
          ·intro hJ2_13
           refine join_ (σ := Unit) 6 #[true, true, true, true, true, false, true, true, false, true, true, false, false, false, false] (fun s_ => [(20, .int .i64 t263)]) (fun s_ w' => (w'.cell? ⟨gb261, 0, none⟩ = some (.int .i64 a0_0) ∧ w'.cell? ⟨gb261, 1, none⟩ = some (.int .i64 a0_1) ∧ w'.cell? ⟨gb261, 2, none⟩ = some (.int .i64 a0_2) ∧ w'.cell? ⟨gb261, 3, none⟩ = some (.int .i64 a0_3)) ∧ (w'.heap[gb261]? = some (.cells #[.int .i64 a0_0, .int .i64 a0_1, .int .i64 a0_2, .int .i64 a0_3] 23 (0, 0))) ∧ (Below w.heap.size w w')) ?_ ?_
           rotate_left
           ·intro hJ2
            refine join_ (σ := Nat) 6 #[true, true, false, true, true, false, true, true, false, true, true, false, false, true, false] (fun s_ => [(4, .pointer (some ⟨s_, 0, none⟩))]) (fun s_ w' => (w'.cell? ⟨gb261, 0, none⟩ = some (.int .i64 a0_0) ∧ w'.cell? ⟨gb261, 1, none⟩ = some (.int .i64 a0_1) ∧ w'.cell? ⟨gb261, 2, none⟩ = some (.int .i64 a0_2) ∧ w'.cell? ⟨gb261, 3, none⟩ = some (.int .i64 a0_3)) ∧ (w'.heap[gb261]? = some (.cells #[.int .i64 a0_0, .int .i64 a0_1, .int .i64 a0_2, .int .i64 a0_3] 23 (0, 0))) ∧ (w'.heap[s_]? = some (.cells #[.int .i64 0, .int .i64 0, .int .i64 0, .int .i64 0] 23 (0, 0))) ∧ (w.heap.size ≤ s_) ∧ (w.heap.size ≤ s_) ∧ (gb261 ≠ s_) ∧ (s_ ≠ gb261) ∧ (Below w.heap.size w w')) ?_ ?_
            rotate_left
            ·intro hJ13
             refine two_ (i := 2) (j := 13) (Ni := some 20) (Nj := some 4) #[true, true, true, true, true, false, true, true, false, true, true, false, false, false, false] #[true, true, false, true, true, false, true, true, false, true, true, false, false, true, false] rfl rfl rfl rfl (two_of HT_.out (by kernel_rfl)) (by decide) (by decide) (fun K hK => ?_) (fun K hK => ?_)
             ·skip
              refine goes_ Try.func55 (by kernel_rfl) rfl #[.int .i64 a0_0] (by rfl) rfl rfl mp_ ?_
              with_reducible refine (clocheref01_rest.calls a0_0 t263 _ A4.out).mono ?_
              rintro e w' ⟨rfl, ⟨nd, rfl⟩⟩
              refine ⟨_, rfl, ?_⟩
              refine hK.out _ _ ⟨(blk_cell BK261.out 0).trans rfl, (blk_cell BK261.out 1).trans rfl, (blk_cell BK261.out 2).trans rfl, (blk_cell BK261.out 3).trans rfl⟩ (fun hHeld => ?_)
              clear hK K
              refine norm_ (a' := ?_) ?_ ?_
              rotate_left
              ·show Act.put _ (some 20) _ = _
               exact pt_
              exact norm_ (by first | (simp only [putAll, Act.put, List.setIfInBounds_toArray, List.set_cons_zero, List.set_cons_succ]; done) | (simp only [putAll, Act.put, List.setIfInBounds_toArray, List.set_cons_zero, List.set_cons_succ]; rfl)) (hJ2 () _ ⟨hHeld, (by refine bs_ ?_; exact BK261.out), (by repeat (first | (with_reducible first | exact HB.out | apply below_alloc | apply pw_below_drewN | apply below_drew1 | refine below_set ?_ GE261.out) | exact HB.out))⟩)
             ·skip
              refine box_step ?hg (N := 4) ?hd (cs := #[.int .i64 0, .int .i64 0, .int .i64 0, .int .i64 0]) (t := 23) ?hr ?_; (case hd => rfl); (case hg => rfl); (case hr => exact gs_)
              intro gb267 hg w14 hbox hb
              have n0_ := Aside0.mk (blk_below (g := gb261) (o := .cells #[.int .i64 a0_0, .int .i64 a0_1, .int .i64 a0_2, .int .i64 a0_3] 23 (0, 0)) (by refine bs_ ?_; exact BK261.out) hb)
              have n1_ := Aside0.mk (below_step (by repeat (first | (with_reducible first | exact HB.out | apply below_alloc | apply pw_below_drewN | apply below_drew1 | refine below_set ?_ GE261.out) | exact HB.out)) hb)
              have n2_ := Aside0.mk (hbox)
              have n3_ := Aside0.mk ((by rw [hg]; exact (below_size (by repeat (first | (with_reducible first | exact HB.out | apply below_alloc | apply pw_below_drewN | apply below_drew1 | refine below_set ?_ GE261.out) | exact HB.out))) : w.heap.size ≤ gb267))
              have n4_ := Aside0.mk ((by rw [hg]; exact (below_size (by repeat (first | (with_reducible first | exact HB.out | apply below_alloc | apply pw_below_drewN | apply below_drew1 | refine below_set ?_ GE261.out) | exact HB.out))) : w.heap.size ≤ gb267))
              have n5_ := Aside0.mk ((by rw [hg]; exact Nat.ne_of_lt (blk_lt (g := gb261) (o := .cells #[.int .i64 a0_0, .int .i64 a0_1, .int .i64 a0_2, .int .i64 a0_3] 23 (0, 0)) (by refine bs_ ?_; exact BK261.out)) : gb261 ≠ gb267))
              have n6_ := Aside0.mk ((by rw [hg]; exact Nat.ne_of_gt (blk_lt (g := gb261) (o := .cells #[.int .i64 a0_0, .int .i64 a0_1, .int .i64 a0_2, .int .i64 a0_3] 23 (0, 0)) (by refine bs_ ?_; exact BK261.out)) : gb267 ≠ gb261))
              clear BK261
              clear HB
              have BK261 := n0_
              have HB := n1_
              have BK267 := n2_
              have GW267 := n3_
              have GE267 := n4_
              have NB261_267 := n5_
              have NB267_261 := n6_
              clear n0_ n1_ n2_ n3_ n4_ n5_ n6_
              clear hb hbox hg
              refine hK.out _ _ ⟨(blk_cell BK261.out 0).trans rfl, (blk_cell BK261.out 1).trans rfl, (blk_cell BK261.out 2).trans rfl, (blk_cell BK261.out 3).trans rfl⟩ (fun hHeld => ?_)
              clear hK K
              refine norm_ (a' := ?_) ?_ ?_
              rotate_left
              ·show Act.put _ (some 4) _ = _
               exact pt_
              exact norm_ (by first | (simp only [putAll, Act.put, List.setIfInBounds_toArray, List.set_cons_zero, List.set_cons_succ]; done) | (simp only [putAll, Act.put, List.setIfInBounds_toArray, List.set_cons_zero, List.set_cons_succ]; rfl)) (hJ13 (gb267) _ ⟨hHeld, (by refine bs_ ?_; exact BK261.out), (by refine bs_ ?_; exact BK267.out), GW267.out, GE267.out, NB261_267.out, NB267_261.out, (by repeat (first | (with_reducible first | exact HB.out | apply below_alloc | apply pw_below_drewN | apply below_drew1 | refine below_set ?_ GE261.out | refine below_set ?_ GE267.out) | exact HB.out))⟩)
            ·skip
             rintro gb267 w15 ⟨hS_, h0_, h1_, h2_, h3_, h4_, h5_, h6_⟩
             have n0_ : Aside0 (w15.heap[gb261]? = some (.cells #[.int .i64 a0_0, .int .i64 a0_1, .int .i64 a0_2, .int .i64 a0_3] 23 (0, 0))) := ⟨h0_⟩
             have n1_ : Aside0 (w15.heap[gb267]? = some (.cells #[.int .i64 0, .int .i64 0, .int .i64 0, .int .i64 0] 23 (0, 0))) := ⟨h1_⟩
             have n2_ : Aside0 (w.heap.size ≤ gb267) := ⟨h2_⟩
             have n3_ : Aside0 (w.heap.size ≤ gb267) := ⟨h3_⟩
             have n4_ : Aside0 (gb261 ≠ gb267) := ⟨h4_⟩
             have n5_ : Aside0 (gb267 ≠ gb261) := ⟨h5_⟩
             have n6_ : Aside0 (Below w.heap.size w w15) := ⟨h6_⟩
             clear BK261
             clear HB
             clear h0_ h1_ h2_ h3_ h4_ h5_ h6_
             have BK261 := n0_
             have BK267 := n1_
             have GW267 := n2_
             have GE267 := n3_
             have NB261_267 := n4_
             have NB267_261 := n5_
             have HB := n6_
             clear n0_ n1_ n2_ n3_ n4_ n5_ n6_
             have hHeld : w15.cell? ⟨gb261, 0, none⟩ = some (.int .i64 a0_0) ∧ w15.cell? ⟨gb261, 1, none⟩ = some (.int .i64 a0_1) ∧ w15.cell? ⟨gb261, 2, none⟩ = some (.int .i64 a0_2) ∧ w15.cell? ⟨gb261, 3, none⟩ = some (.int .i64 a0_3) := hS_
             refine norm_ (a' := ?_) ?_ ?_
             rotate_left
             ·simp only [putAll, Act.put, List.setIfInBounds_toArray, List.set_cons_zero, List.set_cons_succ]
              rfl
             refine one_ (i := 2) (N := some 20) #[true, true, true, true, true, false, true, true, false, true, true, false, false, true, false] rfl rfl (one_of HT_.out (by kernel_rfl)) (by decide) (fun K hK => ?_)
             refine goes_ Try.func55 (by kernel_rfl) rfl #[.int .i64 a0_0] (by rfl) rfl rfl mp_ ?_
             with_reducible refine (clocheref01_rest.calls a0_0 t263 _ A4.out).mono ?_
             rintro e w' ⟨rfl, ⟨nd, rfl⟩⟩
             refine ⟨_, rfl, ?_⟩
             refine hK.out _ _ ⟨(blk_cell BK261.out 0).trans rfl, (blk_cell BK261.out 1).trans rfl, (blk_cell BK261.out 2).trans rfl, (blk_cell BK261.out 3).trans rfl⟩ (fun hHeld => ?_)
             clear hK K
             refine norm_ (a' := ?_) ?_ ?_
             rotate_left
             ·show Act.put _ (some 20) _ = _
              exact pt_
             exact norm_ (by first | (simp only [putAll, Act.put, List.setIfInBounds_toArray, List.set_cons_zero, List.set_cons_succ]; done) | (simp only [putAll, Act.put, List.setIfInBounds_toArray, List.set_cons_zero, List.set_cons_succ]; rfl)) (hJ2_13 (gb267) _ ⟨hHeld, (by refine bs_ ?_; exact BK261.out), (by refine bs_ ?_; exact BK267.out), GW267.out, GE267.out, NB261_267.out, NB267_261.out, (by repeat (first | (with_reducible first | exact HB.out | apply below_alloc | apply pw_below_drewN | apply below_drew1 | refine below_set ?_ GE261.out | refine below_set ?_ GE267.out) | exact HB.out))⟩)
           ·skip
            rintro _ w14 ⟨hS_, h0_, h1_⟩
            have n0_ : Aside0 (w14.heap[gb261]? = some (.cells #[.int .i64 a0_0, .int .i64 a0_1, .int .i64 a0_2, .int .i64 a0_3] 23 (0, 0))) := ⟨h0_⟩
            have n1_ : Aside0 (Below w.heap.size w w14) := ⟨h1_⟩
            clear BK261
            clear HB
            clear h0_ h1_
            have BK261 := n0_
            have HB := n1_
            clear n0_ n1_
            have hHeld : w14.cell? ⟨gb261, 0, none⟩ = some (.int .i64 a0_0) ∧ w14.cell? ⟨gb261, 1, none⟩ = some (.int .i64 a0_1) ∧ w14.cell? ⟨gb261, 2, none⟩ = some (.int .i64 a0_2) ∧ w14.cell? ⟨gb261, 3, none⟩ = some (.int .i64 a0_3) := hS_
            refine norm_ (a' := ?_) ?_ ?_
            rotate_left
            ·simp only [putAll, Act.put, List.setIfInBounds_toArray, List.set_cons_zero, List.set_cons_succ]
             rfl
            refine two_ (i := 5) (j := 13) (Ni := some 23) (Nj := some 4) #[true, true, true, true, true, true, true, true, false, true, true, false, false, false, false] #[true, true, true, true, true, false, true, true, false, true, true, false, false, true, false] rfl rfl rfl rfl (two_of HT_.out (by kernel_rfl)) (by decide) (by decide) (fun K hK => ?_) (fun K hK => ?_)
            ·skip
             refine goes_ Try.func55 (by kernel_rfl) rfl #[.int .i64 a0_1] (by rfl) rfl rfl mp_ ?_
             with_reducible refine (clocheref01_rest.calls a0_1 t264 _ A5.out).mono ?_
             rintro e w' ⟨rfl, ⟨nd, rfl⟩⟩
             refine ⟨_, rfl, ?_⟩
             refine hK.out _ _ ⟨(blk_cell BK261.out 0).trans rfl, (blk_cell BK261.out 1).trans rfl, (blk_cell BK261.out 2).trans rfl, (blk_cell BK261.out 3).trans rfl⟩ (fun hHeld => ?_)
             clear hK K
             refine norm_ (a' := ?_) ?_ ?_
             rotate_left
             ·show Act.put _ (some 23) _ = _
              exact pt_
             exact norm_ (by first | (simp only [putAll, Act.put, List.setIfInBounds_toArray, List.set_cons_zero, List.set_cons_succ]; done) | (simp only [putAll, Act.put, List.setIfInBounds_toArray, List.set_cons_zero, List.set_cons_succ]; rfl)) (hJ2_5 () _ ⟨hHeld, (by refine bs_ ?_; exact BK261.out), (by repeat (first | (with_reducible first | exact HB.out | apply below_alloc | apply pw_below_drewN | apply below_drew1 | refine below_set ?_ GE261.out) | exact HB.out))⟩)
            ·skip
             refine box_step ?hg (N := 4) ?hd (cs := #[.int .i64 0, .int .i64 0, .int .i64 0, .int .i64 0]) (t := 23) ?hr ?_; (case hd => rfl); (case hg => rfl); (case hr => exact gs_)
             intro gb267 hg w15 hbox hb
             have n0_ := Aside0.mk (blk_below (g := gb261) (o := .cells #[.int .i64 a0_0, .int .i64 a0_1, .int .i64 a0_2, .int .i64 a0_3] 23 (0, 0)) (by refine bs_ ?_; exact BK261.out) hb)
             have n1_ := Aside0.mk (below_step (by repeat (first | (with_reducible first | exact HB.out | apply below_alloc | apply pw_below_drewN | apply below_drew1 | refine below_set ?_ GE261.out) | exact HB.out)) hb)
             have n2_ := Aside0.mk (hbox)
             have n3_ := Aside0.mk ((by rw [hg]; exact (below_size (by repeat (first | (with_reducible first | exact HB.out | apply below_alloc | apply pw_below_drewN | apply below_drew1 | refine below_set ?_ GE261.out) | exact HB.out))) : w.heap.size ≤ gb267))
             have n4_ := Aside0.mk ((by rw [hg]; exact (below_size (by repeat (first | (with_reducible first | exact HB.out | apply below_alloc | apply pw_below_drewN | apply below_drew1 | refine below_set ?_ GE261.out) | exact HB.out))) : w.heap.size ≤ gb267))
             have n5_ := Aside0.mk ((by rw [hg]; exact Nat.ne_of_lt (blk_lt (g := gb261) (o := .cells #[.int .i64 a0_0, .int .i64 a0_1, .int .i64 a0_2, .int .i64 a0_3] 23 (0, 0)) (by refine bs_ ?_; exact BK261.out)) : gb261 ≠ gb267))
             have n6_ := Aside0.mk ((by rw [hg]; exact Nat.ne_of_gt (blk_lt (g := gb261) (o := .cells #[.int .i64 a0_0, .int .i64 a0_1, .int .i64 a0_2, .int .i64 a0_3] 23 (0, 0)) (by refine bs_ ?_; exact BK261.out)) : gb267 ≠ gb261))
             clear BK261
             clear HB
             have BK261 := n0_
             have HB := n1_
             have BK267 := n2_
             have GW267 := n3_
             have GE267 := n4_
             have NB261_267 := n5_
             have NB267_261 := n6_
             clear n0_ n1_ n2_ n3_ n4_ n5_ n6_
             clear hb hbox hg
             refine hK.out _ _ ⟨(blk_cell BK261.out 0).trans rfl, (blk_cell BK261.out 1).trans rfl, (blk_cell BK261.out 2).trans rfl, (blk_cell BK261.out 3).trans rfl⟩ (fun hHeld => ?_)
             clear hK K
             refine norm_ (a' := ?_) ?_ ?_
             rotate_left
             ·show Act.put _ (some 4) _ = _
              exact pt_
             exact norm_ (by first | (simp only [putAll, Act.put, List.setIfInBounds_toArray, List.set_cons_zero, List.set_cons_succ]; done) | (simp only [putAll, Act.put, List.setIfInBounds_toArray, List.set_cons_zero, List.set_cons_succ]; rfl)) (hJ2_13 (gb267) _ ⟨hHeld, (by refine bs_ ?_; exact BK261.out), (by refine bs_ ?_; exact BK267.out), GW267.out, GE267.out, NB261_267.out, NB267_261.out, (by repeat (first | (with_reducible first | exact HB.out | apply below_alloc | apply pw_below_drewN | apply below_drew1 | refine below_set ?_ GE261.out | refine below_set ?_ GE267.out) | exact HB.out))⟩)
          ·skip
           rintro gb267 w15 ⟨hS_, h0_, h1_, h2_, h3_, h4_, h5_, h6_⟩
           have n0_ : Aside0 (w15.heap[gb261]? = some (.cells #[.int .i64 a0_0, .int .i64 a0_1, .int .i64 a0_2, .int .i64 a0_3] 23 (0, 0))) := ⟨h0_⟩
           have n1_ : Aside0 (w15.heap[gb267]? = some (.cells #[.int .i64 0, .int .i64 0, .int .i64 0, .int .i64 0] 23 (0, 0))) := ⟨h1_⟩
           have n2_ : Aside0 (w.heap.size ≤ gb267) := ⟨h2_⟩
           have n3_ : Aside0 (w.heap.size ≤ gb267) := ⟨h3_⟩
           have n4_ : Aside0 (gb261 ≠ gb267) := ⟨h4_⟩
           have n5_ : Aside0 (gb267 ≠ gb261) := ⟨h5_⟩
           have n6_ : Aside0 (Below w.heap.size w w15) := ⟨h6_⟩
           clear BK261
           clear HB
           clear h0_ h1_ h2_ h3_ h4_ h5_ h6_
           have BK261 := n0_
           have BK267 := n1_
           have GW267 := n2_
           have GE267 := n3_
           have NB261_267 := n4_
           have NB267_261 := n5_
           have HB := n6_
           clear n0_ n1_ n2_ n3_ n4_ n5_ n6_
           have hHeld : w15.cell? ⟨gb261, 0, none⟩ = some (.int .i64 a0_0) ∧ w15.cell? ⟨gb261, 1, none⟩ = some (.int .i64 a0_1) ∧ w15.cell? ⟨gb261, 2, none⟩ = some (.int .i64 a0_2) ∧ w15.cell? ⟨gb261, 3, none⟩ = some (.int .i64 a0_3) := hS_
           refine norm_ (a' := ?_) ?_ ?_
           rotate_left
           ·simp only [putAll, Act.put, List.setIfInBounds_toArray, List.set_cons_zero, List.set_cons_succ]
            rfl
           refine one_ (i := 5) (N := some 23) #[true, true, true, true, true, true, true, true, false, true, true, false, false, true, false] rfl rfl (one_of HT_.out (by kernel_rfl)) (by decide) (fun K hK => ?_)
           refine goes_ Try.func55 (by kernel_rfl) rfl #[.int .i64 a0_1] (by rfl) rfl rfl mp_ ?_
           with_reducible refine (clocheref01_rest.calls a0_1 t264 _ A5.out).mono ?_
           rintro e w' ⟨rfl, ⟨nd, rfl⟩⟩
           refine ⟨_, rfl, ?_⟩
           refine hK.out _ _ ⟨(blk_cell BK261.out 0).trans rfl, (blk_cell BK261.out 1).trans rfl, (blk_cell BK261.out 2).trans rfl, (blk_cell BK261.out 3).trans rfl⟩ (fun hHeld => ?_)
           clear hK K
           refine norm_ (a' := ?_) ?_ ?_
           rotate_left
           ·show Act.put _ (some 23) _ = _
            exact pt_
           exact norm_ (by first | (simp only [putAll, Act.put, List.setIfInBounds_toArray, List.set_cons_zero, List.set_cons_succ]; done) | (simp only [putAll, Act.put, List.setIfInBounds_toArray, List.set_cons_zero, List.set_cons_succ]; rfl)) (hJ2_5_13 (gb267) _ ⟨hHeld, (by refine bs_ ?_; exact BK261.out), (by refine bs_ ?_; exact BK267.out), GW267.out, GE267.out, NB261_267.out, NB267_261.out, (by repeat (first | (with_reducible first | exact HB.out | apply below_alloc | apply pw_below_drewN | apply below_drew1 | refine below_set ?_ GE261.out | refine below_set ?_ GE267.out) | exact HB.out))⟩)
         ·skip
          rintro _ w14 ⟨hS_, h0_, h1_⟩
          have n0_ : Aside0 (w14.heap[gb261]? = some (.cells #[.int .i64 a0_0, .int .i64 a0_1, .int .i64 a0_2, .int .i64 a0_3] 23 (0, 0))) := ⟨h0_⟩
          have n1_ : Aside0 (Below w.heap.size w w14) := ⟨h1_⟩
          clear BK261
          clear HB
          clear h0_ h1_
          have BK261 := n0_
          have HB := n1_
          clear n0_ n1_
          have hHeld : w14.cell? ⟨gb261, 0, none⟩ = some (.int .i64 a0_0) ∧ w14.cell? ⟨gb261, 1, none⟩ = some (.int .i64 a0_1) ∧ w14.cell? ⟨gb261, 2, none⟩ = some (.int .i64 a0_2) ∧ w14.cell? ⟨gb261, 3, none⟩ = some (.int .i64 a0_3) := hS_
          refine norm_ (a' := ?_) ?_ ?_
          rotate_left
          ·simp only [putAll, Act.put, List.setIfInBounds_toArray, List.set_cons_zero, List.set_cons_succ]
           rfl
          refine two_ (i := 8) (j := 13) (Ni := some 26) (Nj := some 4) #[true, true, true, true, true, true, true, true, true, true, true, false, false, false, false] #[true, true, true, true, true, true, true, true, false, true, true, false, false, true, false] rfl rfl rfl rfl (two_of HT_.out (by kernel_rfl)) (by decide) (by decide) (fun K hK => ?_) (fun K hK => ?_)
          ·skip
           refine goes_ Try.func55 (by kernel_rfl) rfl #[.int .i64 a0_2] (by rfl) rfl rfl mp_ ?_
           with_reducible refine (clocheref01_rest.calls a0_2 t265 _ A6.out).mono ?_
           rintro e w' ⟨rfl, ⟨nd, rfl⟩⟩
           refine ⟨_, rfl, ?_⟩
           refine hK.out _ _ ⟨(blk_cell BK261.out 0).trans rfl, (blk_cell BK261.out 1).trans rfl, (blk_cell BK261.out 2).trans rfl, (blk_cell BK261.out 3).trans rfl⟩ (fun hHeld => ?_)
           clear hK K
           refine norm_ (a' := ?_) ?_ ?_
           rotate_left
           ·show Act.put _ (some 26) _ = _
            exact pt_
           exact norm_ (by first | (simp only [putAll, Act.put, List.setIfInBounds_toArray, List.set_cons_zero, List.set_cons_succ]; done) | (simp only [putAll, Act.put, List.setIfInBounds_toArray, List.set_cons_zero, List.set_cons_succ]; rfl)) (hJ2_5_8 () _ ⟨hHeld, (by refine bs_ ?_; exact BK261.out), (by repeat (first | (with_reducible first | exact HB.out | apply below_alloc | apply pw_below_drewN | apply below_drew1 | refine below_set ?_ GE261.out) | exact HB.out))⟩)
          ·skip
           refine box_step ?hg (N := 4) ?hd (cs := #[.int .i64 0, .int .i64 0, .int .i64 0, .int .i64 0]) (t := 23) ?hr ?_; (case hd => rfl); (case hg => rfl); (case hr => exact gs_)
           intro gb267 hg w15 hbox hb
           have n0_ := Aside0.mk (blk_below (g := gb261) (o := .cells #[.int .i64 a0_0, .int .i64 a0_1, .int .i64 a0_2, .int .i64 a0_3] 23 (0, 0)) (by refine bs_ ?_; exact BK261.out) hb)
           have n1_ := Aside0.mk (below_step (by repeat (first | (with_reducible first | exact HB.out | apply below_alloc | apply pw_below_drewN | apply below_drew1 | refine below_set ?_ GE261.out) | exact HB.out)) hb)
           have n2_ := Aside0.mk (hbox)
           have n3_ := Aside0.mk ((by rw [hg]; exact (below_size (by repeat (first | (with_reducible first | exact HB.out | apply below_alloc | apply pw_below_drewN | apply below_drew1 | refine below_set ?_ GE261.out) | exact HB.out))) : w.heap.size ≤ gb267))
           have n4_ := Aside0.mk ((by rw [hg]; exact (below_size (by repeat (first | (with_reducible first | exact HB.out | apply below_alloc | apply pw_below_drewN | apply below_drew1 | refine below_set ?_ GE261.out) | exact HB.out))) : w.heap.size ≤ gb267))
           have n5_ := Aside0.mk ((by rw [hg]; exact Nat.ne_of_lt (blk_lt (g := gb261) (o := .cells #[.int .i64 a0_0, .int .i64 a0_1, .int .i64 a0_2, .int .i64 a0_3] 23 (0, 0)) (by refine bs_ ?_; exact BK261.out)) : gb261 ≠ gb267))
           have n6_ := Aside0.mk ((by rw [hg]; exact Nat.ne_of_gt (blk_lt (g := gb261) (o := .cells #[.int .i64 a0_0, .int .i64 a0_1, .int .i64 a0_2, .int .i64 a0_3] 23 (0, 0)) (by refine bs_ ?_; exact BK261.out)) : gb267 ≠ gb261))
           clear BK261
           clear HB
           have BK261 := n0_
           have HB := n1_
           have BK267 := n2_
           have GW267 := n3_
           have GE267 := n4_
           have NB261_267 := n5_
           have NB267_261 := n6_
           clear n0_ n1_ n2_ n3_ n4_ n5_ n6_
           clear hb hbox hg
           refine hK.out _ _ ⟨(blk_cell BK261.out 0).trans rfl, (blk_cell BK261.out 1).trans rfl, (blk_cell BK261.out 2).trans rfl, (blk_cell BK261.out 3).trans rfl⟩ (fun hHeld => ?_)
           clear hK K
           refine norm_ (a' := ?_) ?_ ?_
           rotate_left
           ·show Act.put _ (some 4) _ = _
            exact pt_
           exact norm_ (by first | (simp only [putAll, Act.put, List.setIfInBounds_toArray, List.set_cons_zero, List.set_cons_succ]; done) | (simp only [putAll, Act.put, List.setIfInBounds_toArray, List.set_cons_zero, List.set_cons_succ]; rfl)) (hJ2_5_13 (gb267) _ ⟨hHeld, (by refine bs_ ?_; exact BK261.out), (by refine bs_ ?_; exact BK267.out), GW267.out, GE267.out, NB261_267.out, NB267_261.out, (by repeat (first | (with_reducible first | exact HB.out | apply below_alloc | apply pw_below_drewN | apply below_drew1 | refine below_set ?_ GE261.out | refine below_set ?_ GE267.out) | exact HB.out))⟩)
        ·skip
         rintro gb267 w15 ⟨hS_, h0_, h1_, h2_, h3_, h4_, h5_, h6_⟩
         have n0_ : Aside0 (w15.heap[gb261]? = some (.cells #[.int .i64 a0_0, .int .i64 a0_1, .int .i64 a0_2, .int .i64 a0_3] 23 (0, 0))) := ⟨h0_⟩
         have n1_ : Aside0 (w15.heap[gb267]? = some (.cells #[.int .i64 0, .int .i64 0, .int .i64 0, .int .i64 0] 23 (0, 0))) := ⟨h1_⟩
         have n2_ : Aside0 (w.heap.size ≤ gb267) := ⟨h2_⟩
         have n3_ : Aside0 (w.heap.size ≤ gb267) := ⟨h3_⟩
         have n4_ : Aside0 (gb261 ≠ gb267) := ⟨h4_⟩
         have n5_ : Aside0 (gb267 ≠ gb261) := ⟨h5_⟩
         have n6_ : Aside0 (Below w.heap.size w w15) := ⟨h6_⟩
         clear BK261
         clear HB
         clear h0_ h1_ h2_ h3_ h4_ h5_ h6_
         have BK261 := n0_
         have BK267 := n1_
         have GW267 := n2_
         have GE267 := n3_
         have NB261_267 := n4_
         have NB267_261 := n5_
         have HB := n6_
         clear n0_ n1_ n2_ n3_ n4_ n5_ n6_
         have hHeld : w15.cell? ⟨gb261, 0, none⟩ = some (.int .i64 a0_0) ∧ w15.cell? ⟨gb261, 1, none⟩ = some (.int .i64 a0_1) ∧ w15.cell? ⟨gb261, 2, none⟩ = some (.int .i64 a0_2) ∧ w15.cell? ⟨gb261, 3, none⟩ = some (.int .i64 a0_3) := hS_
         refine norm_ (a' := ?_) ?_ ?_
         rotate_left
         ·simp only [putAll, Act.put, List.setIfInBounds_toArray, List.set_cons_zero, List.set_cons_succ]
          rfl
         refine one_ (i := 8) (N := some 26) #[true, true, true, true, true, true, true, true, true, true, true, false, false, true, false] rfl rfl (one_of HT_.out (by kernel_rfl)) (by decide) (fun K hK => ?_)
         refine goes_ Try.func55 (by kernel_rfl) rfl #[.int .i64 a0_2] (by rfl) rfl rfl mp_ ?_
         with_reducible refine (clocheref01_rest.calls a0_2 t265 _ A6.out).mono ?_
         rintro e w' ⟨rfl, ⟨nd, rfl⟩⟩
         refine ⟨_, rfl, ?_⟩
         refine hK.out _ _ ⟨(blk_cell BK261.out 0).trans rfl, (blk_cell BK261.out 1).trans rfl, (blk_cell BK261.out 2).trans rfl, (blk_cell BK261.out 3).trans rfl⟩ (fun hHeld => ?_)
         clear hK K
         refine norm_ (a' := ?_) ?_ ?_
         rotate_left
         ·show Act.put _ (some 26) _ = _
          exact pt_
         exact norm_ (by first | (simp only [putAll, Act.put, List.setIfInBounds_toArray, List.set_cons_zero, List.set_cons_succ]; done) | (simp only [putAll, Act.put, List.setIfInBounds_toArray, List.set_cons_zero, List.set_cons_succ]; rfl)) (hJ2_5_8_13 (gb267) _ ⟨hHeld, (by refine bs_ ?_; exact BK261.out), (by refine bs_ ?_; exact BK267.out), GW267.out, GE267.out, NB261_267.out, NB267_261.out, (by repeat (first | (with_reducible first | exact HB.out | apply below_alloc | apply pw_below_drewN | apply below_drew1 | refine below_set ?_ GE261.out | refine below_set ?_ GE267.out) | exact HB.out))⟩)
       ·skip
        rintro _ w14 ⟨hS_, h0_, h1_⟩
        have n0_ : Aside0 (w14.heap[gb261]? = some (.cells #[.int .i64 a0_0, .int .i64 a0_1, .int .i64 a0_2, .int .i64 a0_3] 23 (0, 0))) := ⟨h0_⟩
        have n1_ : Aside0 (Below w.heap.size w w14) := ⟨h1_⟩
        clear BK261
        clear HB
        clear h0_ h1_
        have BK261 := n0_
        have HB := n1_
        clear n0_ n1_
        have hHeld : w14.cell? ⟨gb261, 0, none⟩ = some (.int .i64 a0_0) ∧ w14.cell? ⟨gb261, 1, none⟩ = some (.int .i64 a0_1) ∧ w14.cell? ⟨gb261, 2, none⟩ = some (.int .i64 a0_2) ∧ w14.cell? ⟨gb261, 3, none⟩ = some (.int .i64 a0_3) := hS_
        refine norm_ (a' := ?_) ?_ ?_
        rotate_left
        ·simp only [putAll, Act.put, List.setIfInBounds_toArray, List.set_cons_zero, List.set_cons_succ]
         rfl
        refine two_ (i := 11) (j := 13) (Ni := some 29) (Nj := some 4) #[true, true, true, true, true, true, true, true, true, true, true, true, false, false, false] #[true, true, true, true, true, true, true, true, true, true, true, false, false, true, false] rfl rfl rfl rfl (two_of HT_.out (by kernel_rfl)) (by decide) (by decide) (fun K hK => ?_) (fun K hK => ?_)
        ·skip
         refine goes_ Try.func55 (by kernel_rfl) rfl #[.int .i64 a0_3] (by rfl) rfl rfl mp_ ?_
         with_reducible refine (clocheref01_rest.calls a0_3 t266 _ A7.out).mono ?_
         rintro e w' ⟨rfl, ⟨nd, rfl⟩⟩
         refine ⟨_, rfl, ?_⟩
         refine hK.out _ _ ⟨(blk_cell BK261.out 0).trans rfl, (blk_cell BK261.out 1).trans rfl, (blk_cell BK261.out 2).trans rfl, (blk_cell BK261.out 3).trans rfl⟩ (fun hHeld => ?_)
         clear hK K
         refine norm_ (a' := ?_) ?_ ?_
         rotate_left
         ·show Act.put _ (some 29) _ = _
          exact pt_
         refine pure_ (i := 12) (N := some 30) (v := ?_) (a' := ?_) #[true, true, true, true, true, true, true, true, true, true, true, true, true, false, false] rfl rfl (any_of HT_.out (by kernel_rfl)) (fun _ _ _ h => h) (Or.inl ⟨by rfl, ?_⟩) ?_ ?_
         rotate_left
         ·intro w'
          go_simp
          with_reducible rfl
         rotate_left
         ·exact pt_
         exact norm_ (by first | (simp only [putAll, Act.put, List.setIfInBounds_toArray, List.set_cons_zero, List.set_cons_succ]; done) | (simp only [putAll, Act.put, List.setIfInBounds_toArray, List.set_cons_zero, List.set_cons_succ]; rfl)) (hJ2_5_8_11 () _ ⟨hHeld, (by refine bs_ ?_; exact BK261.out), (by repeat (first | (with_reducible first | exact HB.out | apply below_alloc | apply pw_below_drewN | apply below_drew1 | refine below_set ?_ GE261.out) | exact HB.out))⟩)
        ·skip
         refine box_step ?hg (N := 4) ?hd (cs := #[.int .i64 0, .int .i64 0, .int .i64 0, .int .i64 0]) (t := 23) ?hr ?_; (case hd => rfl); (case hg => rfl); (case hr => exact gs_)
         intro gb267 hg w15 hbox hb
         have n0_ := Aside0.mk (blk_below (g := gb261) (o := .cells #[.int .i64 a0_0, .int .i64 a0_1, .int .i64 a0_2, .int .i64 a0_3] 23 (0, 0)) (by refine bs_ ?_; exact BK261.out) hb)
         have n1_ := Aside0.mk (below_step (by repeat (first | (with_reducible first | exact HB.out | apply below_alloc | apply pw_below_drewN | apply below_drew1 | refine below_set ?_ GE261.out) | exact HB.out)) hb)
         have n2_ := Aside0.mk (hbox)
         have n3_ := Aside0.mk ((by rw [hg]; exact (below_size (by repeat (first | (with_reducible first | exact HB.out | apply below_alloc | apply pw_below_drewN | apply below_drew1 | refine below_set ?_ GE261.out) | exact HB.out))) : w.heap.size ≤ gb267))
         have n4_ := Aside0.mk ((by rw [hg]; exact (below_size (by repeat (first | (with_reducible first | exact HB.out | apply below_alloc | apply pw_below_drewN | apply below_drew1 | refine below_set ?_ GE261.out) | exact HB.out))) : w.heap.size ≤ gb267))
         have n5_ := Aside0.mk ((by rw [hg]; exact Nat.ne_of_lt (blk_lt (g := gb261) (o := .cells #[.int .i64 a0_0, .int .i64 a0_1, .int .i64 a0_2, .int .i64 a0_3] 23 (0, 0)) (by refine bs_ ?_; exact BK261.out)) : gb261 ≠ gb267))
         have n6_ := Aside0.mk ((by rw [hg]; exact Nat.ne_of_gt (blk_lt (g := gb261) (o := .cells #[.int .i64 a0_0, .int .i64 a0_1, .int .i64 a0_2, .int .i64 a0_3] 23 (0, 0)) (by refine bs_ ?_; exact BK261.out)) : gb267 ≠ gb261))
         clear BK261
         clear HB
         have BK261 := n0_
         have HB := n1_
         have BK267 := n2_
         have GW267 := n3_
         have GE267 := n4_
         have NB261_267 := n5_
         have NB267_261 := n6_
         clear n0_ n1_ n2_ n3_ n4_ n5_ n6_
         clear hb hbox hg
         refine hK.out _ _ ⟨(blk_cell BK261.out 0).trans rfl, (blk_cell BK261.out 1).trans rfl, (blk_cell BK261.out 2).trans rfl, (blk_cell BK261.out 3).trans rfl⟩ (fun hHeld => ?_)
         clear hK K
         refine norm_ (a' := ?_) ?_ ?_
         rotate_left
         ·show Act.put _ (some 4) _ = _
          exact pt_
         exact norm_ (by first | (simp only [putAll, Act.put, List.setIfInBounds_toArray, List.set_cons_zero, List.set_cons_succ]; done) | (simp only [putAll, Act.put, List.setIfInBounds_toArray, List.set_cons_zero, List.set_cons_succ]; rfl)) (hJ2_5_8_13 (gb267) _ ⟨hHeld, (by refine bs_ ?_; exact BK261.out), (by refine bs_ ?_; exact BK267.out), GW267.out, GE267.out, NB261_267.out, NB267_261.out, (by repeat (first | (with_reducible first | exact HB.out | apply below_alloc | apply pw_below_drewN | apply below_drew1 | refine below_set ?_ GE261.out | refine below_set ?_ GE267.out) | exact HB.out))⟩)
      ·skip
       rintro gb267 w15 ⟨hS_, h0_, h1_, h2_, h3_, h4_, h5_, h6_⟩
       have n0_ : Aside0 (w15.heap[gb261]? = some (.cells #[.int .i64 a0_0, .int .i64 a0_1, .int .i64 a0_2, .int .i64 a0_3] 23 (0, 0))) := ⟨h0_⟩
       have n1_ : Aside0 (w15.heap[gb267]? = some (.cells #[.int .i64 0, .int .i64 0, .int .i64 0, .int .i64 0] 23 (0, 0))) := ⟨h1_⟩
       have n2_ : Aside0 (w.heap.size ≤ gb267) := ⟨h2_⟩
       have n3_ : Aside0 (w.heap.size ≤ gb267) := ⟨h3_⟩
       have n4_ : Aside0 (gb261 ≠ gb267) := ⟨h4_⟩
       have n5_ : Aside0 (gb267 ≠ gb261) := ⟨h5_⟩
       have n6_ : Aside0 (Below w.heap.size w w15) := ⟨h6_⟩
       clear BK261
       clear HB
       clear h0_ h1_ h2_ h3_ h4_ h5_ h6_
       have BK261 := n0_
       have BK267 := n1_
       have GW267 := n2_
       have GE267 := n3_
       have NB261_267 := n4_
       have NB267_261 := n5_
       have HB := n6_
       clear n0_ n1_ n2_ n3_ n4_ n5_ n6_
       have hHeld : w15.cell? ⟨gb261, 0, none⟩ = some (.int .i64 a0_0) ∧ w15.cell? ⟨gb261, 1, none⟩ = some (.int .i64 a0_1) ∧ w15.cell? ⟨gb261, 2, none⟩ = some (.int .i64 a0_2) ∧ w15.cell? ⟨gb261, 3, none⟩ = some (.int .i64 a0_3) := hS_
       refine norm_ (a' := ?_) ?_ ?_
       rotate_left
       ·simp only [putAll, Act.put, List.setIfInBounds_toArray, List.set_cons_zero, List.set_cons_succ]
        rfl
       refine one_ (i := 11) (N := some 29) #[true, true, true, true, true, true, true, true, true, true, true, true, false, true, false] rfl rfl (one_of HT_.out (by kernel_rfl)) (by decide) (fun K hK => ?_)
       refine goes_ Try.func55 (by kernel_rfl) rfl #[.int .i64 a0_3] (by rfl) rfl rfl mp_ ?_
       with_reducible refine (clocheref01_rest.calls a0_3 t266 _ A7.out).mono ?_
       rintro e w' ⟨rfl, ⟨nd, rfl⟩⟩
       refine ⟨_, rfl, ?_⟩
       refine hK.out _ _ ⟨(blk_cell BK261.out 0).trans rfl, (blk_cell BK261.out 1).trans rfl, (blk_cell BK261.out 2).trans rfl, (blk_cell BK261.out 3).trans rfl⟩ (fun hHeld => ?_)
       clear hK K
       refine norm_ (a' := ?_) ?_ ?_
       rotate_left
       ·show Act.put _ (some 29) _ = _
        exact pt_
       refine pure_ (i := 12) (N := some 30) (v := ?_) (a' := ?_) #[true, true, true, true, true, true, true, true, true, true, true, true, true, true, false] rfl rfl (any_of HT_.out (by kernel_rfl)) (fun _ _ _ h => h) (Or.inl ⟨by rfl, ?_⟩) ?_ ?_
       rotate_left
       ·intro w'
        go_simp
        with_reducible rfl
       rotate_left
       ·exact pt_
       exact norm_ (by first | (simp only [putAll, Act.put, List.setIfInBounds_toArray, List.set_cons_zero, List.set_cons_succ]; done) | (simp only [putAll, Act.put, List.setIfInBounds_toArray, List.set_cons_zero, List.set_cons_succ]; rfl)) (hJ2_5_8_11_13 (gb267) _ ⟨hHeld, (by refine bs_ ?_; exact BK261.out), (by refine bs_ ?_; exact BK267.out), GW267.out, GE267.out, NB261_267.out, NB267_261.out, (by repeat (first | (with_reducible first | exact HB.out | apply below_alloc | apply pw_below_drewN | apply below_drew1 | refine below_set ?_ GE261.out | refine below_set ?_ GE267.out) | exact HB.out))⟩)
     ·skip
      rintro _ w14 ⟨hS_, h0_, h1_⟩
      have n0_ : Aside0 (w14.heap[gb261]? = some (.cells #[.int .i64 a0_0, .int .i64 a0_1, .int .i64 a0_2, .int .i64 a0_3] 23 (0, 0))) := ⟨h0_⟩
      have n1_ : Aside0 (Below w.heap.size w w14) := ⟨h1_⟩
      clear BK261
      clear HB
      clear h0_ h1_
      have BK261 := n0_
      have HB := n1_
      clear n0_ n1_
      have hHeld : w14.cell? ⟨gb261, 0, none⟩ = some (.int .i64 a0_0) ∧ w14.cell? ⟨gb261, 1, none⟩ = some (.int .i64 a0_1) ∧ w14.cell? ⟨gb261, 2, none⟩ = some (.int .i64 a0_2) ∧ w14.cell? ⟨gb261, 3, none⟩ = some (.int .i64 a0_3) := hS_
      refine norm_ (a' := ?_) ?_ ?_
      rotate_left
      ·simp only [putAll, Act.put, List.setIfInBounds_toArray, List.set_cons_zero, List.set_cons_succ]
       rfl
      refine one_ (i := 13) (N := some 4) #[true, true, true, true, true, true, true, true, true, true, true, true, true, true, false] rfl rfl (one_of HT_.out (by kernel_rfl)) (by decide) (fun K hK => ?_)
      refine box_step ?hg (N := 4) ?hd (cs := #[.int .i64 0, .int .i64 0, .int .i64 0, .int .i64 0]) (t := 23) ?hr ?_; (case hd => rfl); (case hg => rfl); (case hr => exact gs_)
      intro gb267 hg w15 hbox hb
      have n0_ := Aside0.mk (blk_below (g := gb261) (o := .cells #[.int .i64 a0_0, .int .i64 a0_1, .int .i64 a0_2, .int .i64 a0_3] 23 (0, 0)) (by refine bs_ ?_; exact BK261.out) hb)
      have n1_ := Aside0.mk (below_step (by repeat (first | (with_reducible first | exact HB.out | apply below_alloc | apply pw_below_drewN | apply below_drew1 | refine below_set ?_ GE261.out) | exact HB.out)) hb)
      have n2_ := Aside0.mk (hbox)
      have n3_ := Aside0.mk ((by rw [hg]; exact (below_size (by repeat (first | (with_reducible first | exact HB.out | apply below_alloc | apply pw_below_drewN | apply below_drew1 | refine below_set ?_ GE261.out) | exact HB.out))) : w.heap.size ≤ gb267))
      have n4_ := Aside0.mk ((by rw [hg]; exact (below_size (by repeat (first | (with_reducible first | exact HB.out | apply below_alloc | apply pw_below_drewN | apply below_drew1 | refine below_set ?_ GE261.out) | exact HB.out))) : w.heap.size ≤ gb267))
      have n5_ := Aside0.mk ((by rw [hg]; exact Nat.ne_of_lt (blk_lt (g := gb261) (o := .cells #[.int .i64 a0_0, .int .i64 a0_1, .int .i64 a0_2, .int .i64 a0_3] 23 (0, 0)) (by refine bs_ ?_; exact BK261.out)) : gb261 ≠ gb267))
      have n6_ := Aside0.mk ((by rw [hg]; exact Nat.ne_of_gt (blk_lt (g := gb261) (o := .cells #[.int .i64 a0_0, .int .i64 a0_1, .int .i64 a0_2, .int .i64 a0_3] 23 (0, 0)) (by refine bs_ ?_; exact BK261.out)) : gb267 ≠ gb261))
      clear BK261
      clear HB
      have BK261 := n0_
      have HB := n1_
      have BK267 := n2_
      have GW267 := n3_
      have GE267 := n4_
      have NB261_267 := n5_
      have NB267_261 := n6_
      clear n0_ n1_ n2_ n3_ n4_ n5_ n6_
      clear hb hbox hg
      refine hK.out _ _ ⟨(blk_cell BK261.out 0).trans rfl, (blk_cell BK261.out 1).trans rfl, (blk_cell BK261.out 2).trans rfl, (blk_cell BK261.out 3).trans rfl⟩ (fun hHeld => ?_)
      clear hK K
      refine norm_ (a' := ?_) ?_ ?_
      rotate_left
      ·show Act.put _ (some 4) _ = _
       exact pt_
      exact norm_ (by first | (simp only [putAll, Act.put, List.setIfInBounds_toArray, List.set_cons_zero, List.set_cons_succ]; done) | (simp only [putAll, Act.put, List.setIfInBounds_toArray, List.set_cons_zero, List.set_cons_succ]; rfl)) (hJ2_5_8_11_13 (gb267) _ ⟨hHeld, (by refine bs_ ?_; exact BK261.out), (by refine bs_ ?_; exact BK267.out), GW267.out, GE267.out, NB261_267.out, NB267_261.out, (by repeat (first | (with_reducible first | exact HB.out | apply below_alloc | apply pw_below_drewN | apply below_drew1 | refine below_set ?_ GE261.out | refine below_set ?_ GE267.out) | exact HB.out))⟩)
    rintro gb267 w15 ⟨hS_, h0_, h1_, h2_, h3_, h4_, h5_, h6_⟩
    have n0_ : Aside0 (w15.heap[gb261]? = some (.cells #[.int .i64 a0_0, .int .i64 a0_1, .int .i64 a0_2, .int .i64 a0_3] 23 (0, 0))) := ⟨h0_⟩
    have n1_ : Aside0 (w15.heap[gb267]? = some (.cells #[.int .i64 0, .int .i64 0, .int .i64 0, .int .i64 0] 23 (0, 0))) := ⟨h1_⟩
    have n2_ : Aside0 (w.heap.size ≤ gb267) := ⟨h2_⟩
    have n3_ : Aside0 (w.heap.size ≤ gb267) := ⟨h3_⟩
    have n4_ : Aside0 (gb261 ≠ gb267) := ⟨h4_⟩
    have n5_ : Aside0 (gb267 ≠ gb261) := ⟨h5_⟩
    have n6_ : Aside0 (Below w.heap.size w w15) := ⟨h6_⟩
    clear BK261
    clear HB
    clear h0_ h1_ h2_ h3_ h4_ h5_ h6_
    have BK261 := n0_
    have BK267 := n1_
    have GW267 := n2_
    have GE267 := n3_
    have NB261_267 := n4_
    have NB267_261 := n5_
    have HB := n6_
    clear n0_ n1_ n2_ n3_ n4_ n5_ n6_
    have hHeld : w15.cell? ⟨gb261, 0, none⟩ = some (.int .i64 a0_0) ∧ w15.cell? ⟨gb261, 1, none⟩ = some (.int .i64 a0_1) ∧ w15.cell? ⟨gb261, 2, none⟩ = some (.int .i64 a0_2) ∧ w15.cell? ⟨gb261, 3, none⟩ = some (.int .i64 a0_3) := hS_
    refine norm_ (a' := ?_) ?_ ?_
    rotate_left
    ·simp only [putAll, Act.put, List.setIfInBounds_toArray, List.set_cons_zero, List.set_cons_succ]
     rfl
    refine one_ (i := 14) (N := none) #[true, true, true, true, true, true, true, true, true, true, true, true, true, true, true] rfl rfl (one_of HT_.out (by kernel_rfl)) (by decide) (fun K hK => ?_)
    have hs16 : w15.cell? ⟨gb267, 0, none⟩ = some (.int .i64 0) := (blk_cell BK267.out 0).trans rfl
    have hfs16 := blk_frozen BK267.out 0
    have hns16_0 := NB261_267.out
    have hms16_0 := NB267_261.out
    have hs17 : w15.cell? ⟨gb267, 1, none⟩ = some (.int .i64 0) := (blk_cell BK267.out 1).trans rfl
    have hfs17 := blk_frozen BK267.out 1
    have hns17_0 := NB261_267.out
    have hms17_0 := NB267_261.out
    have hs18 : w15.cell? ⟨gb267, 2, none⟩ = some (.int .i64 0) := (blk_cell BK267.out 2).trans rfl
    have hfs18 := blk_frozen BK267.out 2
    have hns18_0 := NB261_267.out
    have hms18_0 := NB267_261.out
    have hs19 : w15.cell? ⟨gb267, 3, none⟩ = some (.int .i64 0) := (blk_cell BK267.out 3).trans rfl
    have hfs19 := blk_frozen BK267.out 3
    have hns19_0 := NB261_267.out
    have hms19_0 := NB267_261.out
    refine skip_ (w1 := ?_) (by rfl) rfl ?_ ?_
    rotate_left
    ·go_simp
     rfl
    refine hK.out _ _ ⟨((cell_far (p := ⟨gb267, _, none⟩) NB261_267.out _).trans (((cell_far (p := ⟨gb267, _, none⟩) NB261_267.out _).trans (((cell_far (p := ⟨gb267, _, none⟩) NB261_267.out _).trans (((cell_far (p := ⟨gb267, _, none⟩) NB261_267.out _).trans (hHeld.1)))))))), ((cell_far (p := ⟨gb267, _, none⟩) NB261_267.out _).trans (((cell_far (p := ⟨gb267, _, none⟩) NB261_267.out _).trans (((cell_far (p := ⟨gb267, _, none⟩) NB261_267.out _).trans (((cell_far (p := ⟨gb267, _, none⟩) NB261_267.out _).trans (hHeld.2.1)))))))), ((cell_far (p := ⟨gb267, _, none⟩) NB261_267.out _).trans (((cell_far (p := ⟨gb267, _, none⟩) NB261_267.out _).trans (((cell_far (p := ⟨gb267, _, none⟩) NB261_267.out _).trans (((cell_far (p := ⟨gb267, _, none⟩) NB261_267.out _).trans (hHeld.2.2.1)))))))), ((cell_far (p := ⟨gb267, _, none⟩) NB261_267.out _).trans (((cell_far (p := ⟨gb267, _, none⟩) NB261_267.out _).trans (((cell_far (p := ⟨gb267, _, none⟩) NB261_267.out _).trans (((cell_far (p := ⟨gb267, _, none⟩) NB261_267.out _).trans (hHeld.2.2.2))))))))⟩ (fun hHeld => ?_)
    clear hK K
    refine done_ (done_of HT_.out (by kernel_rfl)) ?_
    try go_wp2_with (first | ((with_reducible refine gate_dst (N := 31) rfl ?_); refine Kd.R_make Kd.bool _ 4 rfl (N := 31) rfl 73 _ _ rfl 331776 rfl rfl Try.underlying73 (.bool false) 1 info4 rfl (by decide) (by omega) false (ok := fun _ => True) (okp := fun _ => True) rfl (fun _ hk => hk) trivial (by omega) (by omega) (Below.refl _ _) (Nat.le_refl _) ?_; intro v269 w20 ho21 hb hg_ hnew_; clear hg_ hnew_; (first | rw [← Ny268.out] at ho21 | (simp only [Int.reduceToNat] at ho21; rw [← Ny268.out] at ho21)); have n0_ := Aside0.mk (Kd.R_lower ho21 (below_size (by repeat (first | (with_reducible first | exact HB.out | apply below_alloc | apply pw_below_drewN | apply below_drew1 | refine below_set ?_ GE261.out | refine below_set ?_ GE267.out) | exact HB.out)))); have n1_ := Aside0.mk (blk_below (g := gb261) (o := .cells #[.int .i64 a0_0, .int .i64 a0_1, .int .i64 a0_2, .int .i64 a0_3] 23 (0, 0)) (by refine bs_ ?_; refine blk_far ?_ NB261_267.out _; refine bs_ ?_; refine blk_far ?_ NB261_267.out _; refine bs_ ?_; refine blk_far ?_ NB261_267.out _; refine bs_ ?_; refine blk_far ?_ NB261_267.out _; refine bs_ ?_; exact BK261.out) hb); have n2_ := Aside0.mk (blk_below (g := gb267) (o := .cells #[.int .i64 t263, .int .i64 t264, .int .i64 t265, .int .i64 t266] 23 (0, 0)) (by refine bs_ ?_; refine blk_put (cs := #[.int .i64 t263, .int .i64 t264, .int .i64 t265, .int .i64 0]) ?_ 3 _ rfl; refine bs_ ?_; refine blk_put (cs := #[.int .i64 t263, .int .i64 t264, .int .i64 0, .int .i64 0]) ?_ 2 _ rfl; refine bs_ ?_; refine blk_put (cs := #[.int .i64 t263, .int .i64 0, .int .i64 0, .int .i64 0]) ?_ 1 _ rfl; refine bs_ ?_; refine blk_put (cs := #[.int .i64 0, .int .i64 0, .int .i64 0, .int .i64 0]) ?_ 0 _ rfl; refine bs_ ?_; exact BK267.out) hb); have n3_ := Aside0.mk (below_step (by repeat (first | (with_reducible first | exact HB.out | apply below_alloc | apply pw_below_drewN | apply below_drew1 | refine below_set ?_ GE261.out | refine below_set ?_ GE267.out) | exact HB.out)) hb); clear BK261; clear BK267; clear HB; have HO270 := n0_; have BK261 := n1_; have BK267 := n2_; have HB := n3_; clear n0_ n1_ n2_ n3_; clear hb ho21; have hnb22 := NB267_261.out; have hnc22 := NB261_267.out; have hcz23_0 : w20.cell? ⟨gb267, 0, none⟩ = some (.int .i64 t263) := (blk_cell BK267.out 0).trans rfl; have hcz23_1 : w20.cell? ⟨gb267, 1, none⟩ = some (.int .i64 t264) := (blk_cell BK267.out 1).trans rfl; have hcz23_2 : w20.cell? ⟨gb267, 2, none⟩ = some (.int .i64 t265) := (blk_cell BK267.out 2).trans rfl; have hcz23_3 : w20.cell? ⟨gb267, 3, none⟩ = some (.int .i64 t266) := (blk_cell BK267.out 3).trans rfl; have hfz23_0 := blk_frozen BK267.out 0; have hfz23_1 := blk_frozen BK267.out 1; have hfz23_2 := blk_frozen BK267.out 2; have hfz23_3 := blk_frozen BK267.out 3) | ((with_reducible refine gate_dst (N := 33) rfl ?_); refine Kd.R_lit k23 _ 23 ?hg (N := 33) ?hd (xs := ([(⟨t263, t264, t265, t266⟩ : S23)] : List (S23))) (inner := [.int .i64 t263, .int .i64 t264, .int .i64 t265, .int .i64 t266]) (ok := fun _ => True) (okp := fun _ => True) ?hr ?hp (fun _ hk => hk) trivial (Below.refl _ _) (Nat.le_refl _) (by simp) ?_; (case hd => rfl); (case hg => rfl); (case hr => exact gs_); (case hp => exact (Reps.c4 (show Kd.M k23 _ _ _ (⟨t263, t264, t265, t266⟩ : S23) [.int .i64 t263, .int .i64 t264, .int .i64 t265, .int .i64 t266] from (k23_mkM _ _ _ (⟨t263, t264, t265, t266⟩ : S23) )) (Reps.none _ _))); intro v272 w24 ho25 hb hg_ hnew_; clear hg_ hnew_; (first | rw [← Ny271.out] at ho25 | (simp only [Int.reduceToNat] at ho25; rw [← Ny271.out] at ho25)); have n0_ := Aside0.mk (Kd.R_below (by refine kr_ ?_; exact HO270.out) hb); have n1_ := Aside0.mk (Kd.R_lower (Kd.R_newB (Kd.R_newB ho25 (g := gb261) (o := .cells #[.int .i64 a0_0, .int .i64 a0_1, .int .i64 a0_2, .int .i64 a0_3] 23 (0, 0)) (by refine bs_ ?_; exact BK261.out)) (g := gb267) (o := .cells #[.int .i64 t263, .int .i64 t264, .int .i64 t265, .int .i64 t266] 23 (0, 0)) (by refine bs_ ?_; exact BK267.out)) (below_size (by repeat (first | (with_reducible first | exact HB.out | apply below_alloc | apply pw_below_drewN | apply below_drew1 | refine below_set ?_ GE261.out | refine below_set ?_ GE267.out) | exact HB.out)))); have n2_ := Aside0.mk (blk_below (g := gb261) (o := .cells #[.int .i64 a0_0, .int .i64 a0_1, .int .i64 a0_2, .int .i64 a0_3] 23 (0, 0)) (by refine bs_ ?_; exact BK261.out) hb); have n3_ := Aside0.mk (blk_below (g := gb267) (o := .cells #[.int .i64 t263, .int .i64 t264, .int .i64 t265, .int .i64 t266] 23 (0, 0)) (by refine bs_ ?_; exact BK267.out) hb); have n4_ := Aside0.mk (below_step (by repeat (first | (with_reducible first | exact HB.out | apply below_alloc | apply pw_below_drewN | apply below_drew1 | refine below_set ?_ GE261.out | refine below_set ?_ GE267.out) | exact HB.out)) hb); clear HO270; clear BK261; clear BK267; clear HB; have HO270 := n0_; have HO273 := n1_; have BK261 := n2_; have BK267 := n3_; have HB := n4_; clear n0_ n1_ n2_ n3_ n4_; clear hb ho25) | ((with_reducible refine gate_dst (N := 7) rfl ?_); refine R_box24 (ok := fun _ => True) ?hg (N := 7) ?hd ?hr trivial (Below.refl _ _) (Nat.le_refl _) ?_; (case hd => rfl); (case hg => rfl); (case hr => exact gs_); intro gs7 v275 w26 hv7 ho27 hb hg_ hnew_; clear hg_ hnew_; have HV7 := Aside0.mk hv7; clear hv7; (first | rw [← Ny274.out] at ho27 | (simp only [Int.reduceToNat] at ho27; rw [← Ny274.out] at ho27)); have n0_ := Aside0.mk (Kd.R_elder' (by refine kr_ ?_; exact HO270.out) (Kd.R_base ho27) hb); have n1_ := Aside0.mk (Kd.R_below (by refine kr_ ?_; exact HO273.out) hb); have n2_ := Aside0.mk (Kd.R_lower (Kd.R_new' ho27 (Kd.R_lt (by refine kr_ ?_; exact HO270.out))) (below_size (by repeat (first | (with_reducible first | exact HB.out | apply below_alloc | apply pw_below_drewN | apply below_drew1 | refine below_set ?_ GE261.out | refine below_set ?_ GE267.out) | exact HB.out)))); have n3_ := Aside0.mk (blk_below (g := gb261) (o := .cells #[.int .i64 a0_0, .int .i64 a0_1, .int .i64 a0_2, .int .i64 a0_3] 23 (0, 0)) (by refine bs_ ?_; exact BK261.out) hb); have n4_ := Aside0.mk (blk_below (g := gb267) (o := .cells #[.int .i64 t263, .int .i64 t264, .int .i64 t265, .int .i64 t266] 23 (0, 0)) (by refine bs_ ?_; exact BK267.out) hb); have n5_ := Aside0.mk (below_step (by repeat (first | (with_reducible first | exact HB.out | apply below_alloc | apply pw_below_drewN | apply below_drew1 | refine below_set ?_ GE261.out | refine below_set ?_ GE267.out) | exact HB.out)) hb); clear HO270; clear HO273; clear BK261; clear BK267; clear HB; have HO270 := n0_; have HO273 := n1_; have HO276 := n2_; have BK261 := n3_; have BK267 := n4_; have HB := n5_; clear n0_ n1_ n2_ n3_ n4_ n5_; clear hb ho27))
    go_loopg [6, 8] k (fun kq v6 v8 w' => ∃ (x5_1 : List Bool) (x6_1 : List (S23)) (x7_1 : List Bool) (x8_1 : Int), v8 = .int .i64 x8_1 ∧ Aside0 (clocheref01_Rests.l0 kq x5_1 x6_1 x7_1 x8_1 = some (r1, r2)) ∧ Aside0 (kq ≤ k) ∧ Aside0 (Kd.R Kd.bool 4 w' w.heap.size (fun k_ => some k_ ≠ (v275 : Value).ownBlock) v269 x5_1) ∧ Aside0 (Kd.R k23 23 w' w.heap.size (fun k_ => k_ ≠ gb261 ∧ k_ ≠ gb267) v6 x6_1) ∧ Aside0 (Kd.R Kd.bool 47 w' w.heap.size (fun k_ => some k_ ≠ (v269 : Value).ownBlock) v275 x7_1) ∧ Aside0 (w'.heap[gb261]? = some (.cells #[.int .i64 a0_0, .int .i64 a0_1, .int .i64 a0_2, .int .i64 a0_3] 23 (0, 0))) ∧ Aside0 (w'.heap[gb267]? = some (.cells #[.int .i64 t263, .int .i64 t264, .int .i64 t265, .int .i64 t266] 23 (0, 0))) ∧ Aside0 (Below w.heap.size w w'))
    case atStart => exact ⟨(y268), (y271), (y274), (0), eq_, H', ⟨Nat.le_refl _⟩, ⟨by refine kr_ ?_; exact Kd.R_mono HO270.out (fun _ hk => hk.2)⟩, ⟨by refine kr_ ?_; exact Kd.R_mono HO273.out (fun _ hk => ⟨hk.1.2, hk.2⟩)⟩, ⟨by refine kr_ ?_; exact Kd.R_mono HO276.out (fun _ hk => hk.2)⟩, ⟨by refine bs_ ?_; exact BK261.out⟩, ⟨by refine bs_ ?_; exact BK267.out⟩, ⟨by repeat (first | (with_reducible first | exact HB.out | apply below_alloc | apply pw_below_drewN | apply below_drew1 | refine below_set ?_ GE261.out | refine below_set ?_ GE267.out) | exact HB.out)⟩⟩
    case round =>
     clear H'
     try clear c2
     try clear p2
     try clear c4
     try clear c5
     try clear c9
     try clear c9b0
     try clear c9b1
     try clear c22
     try clear c26
     try clear c27
     try clear hcz11_0
     try clear hcz11_1
     try clear hcz11_2
     try clear hcz11_3
     try clear hcz23_0
     try clear hcz23_1
     try clear hcz23_2
     try clear hcz23_3
     try clear hfz11_0
     try clear hfz11_1
     try clear hfz11_2
     try clear hfz11_3
     try clear hfz23_0
     try clear hfz23_1
     try clear hfz23_2
     try clear hfz23_3
     obtain ⟨x5_1, x6_1, x7_1, x8_1, rfl, HA, HK1, HO_5, HO_6, HO_7, BK261, BK267, HB⟩ := hrel
     cases gk with
     | zero => exact absurd HA.out (by simp [clocheref01_Rests.l0])
     | succ k1 =>
      have H := HA.out
      clear HA
      simp only [clocheref01_Rests.l0] at H
      by_cases c28 : x8_1 < (x6_1.length : Int)
      ·rw [if_pos c28] at H
       have c28b0 : decide (x8_1 < (x6_1.length : Int)) = true := decide_eq_true c28
       clear c28
       by_cases c29 : 0 ≤ x8_1
       ·rw [if_pos c29] at H
        have c29b0 : decide (0 ≤ x8_1) = true := decide_eq_true c29
        clear c29
        have H' := Aside0.mk H
        clear H
        obtain ⟨Ao30, co30, eo30⟩ := Kd.R_slice HO_6.out
        subst eo30
        have p277 : 0 ≤ (x8_1 : Int) := of_decide_eq_true as_
        have q277 : x8_1 < (x6_1.length : Int) := of_decide_eq_true as_
        obtain ⟨ad277, e277, hx277_0, hx277_1, hx277_2, hx277_3⟩ := at_T23 (Kd.R_reads' HO_6.out).2.2 x8_1 p277 q277
        cases e277
        replace p277 := eq_true p277
        replace q277 := eq_true q277
        go_wp2_with (first | ((with_reducible refine gate_dst (N := 9) rfl ?_); refine box_event ?hg (N := 9) ?hd (cs := #[.int .i64 0, .int .i64 0, .int .i64 0, .int .i64 0]) (t := 23) ?hr ?_; (case hd => rfl); (case hg => rfl); (case hr => exact gs_); intro gb278 hg w31 hbox hb; have n0_ := Aside0.mk (Kd.R_below (by refine kr_ ?_; exact HO_5.out) hb); have n1_ := Aside0.mk (Kd.R_below (Kd.R_elderB (by refine kr_ ?_; exact HO_6.out) gb278 (Nat.le_of_eq hg.symm)) hb); have n2_ := Aside0.mk (Kd.R_below (by refine kr_ ?_; exact HO_7.out) hb); have n3_ := Aside0.mk (blk_below (g := gb261) (o := .cells #[.int .i64 a0_0, .int .i64 a0_1, .int .i64 a0_2, .int .i64 a0_3] 23 (0, 0)) (by refine bs_ ?_; exact BK261.out) hb); have n4_ := Aside0.mk (blk_below (g := gb267) (o := .cells #[.int .i64 t263, .int .i64 t264, .int .i64 t265, .int .i64 t266] 23 (0, 0)) (by refine bs_ ?_; exact BK267.out) hb); have n5_ := Aside0.mk (below_step (by repeat (first | (with_reducible first | exact HB.out | apply below_alloc | apply pw_below_drewN | apply below_drew1 | refine below_set ?_ GE261.out | refine below_set ?_ GE267.out) | exact HB.out)) hb); have n6_ := Aside0.mk (hbox); have n7_ := Aside0.mk ((by rw [hg]; exact (below_size (by repeat (first | (with_reducible first | exact HB.out | apply below_alloc | apply pw_below_drewN | apply below_drew1 | refine below_set ?_ GE261.out | refine below_set ?_ GE267.out) | exact HB.out))) : w.heap.size ≤ gb278)); have n8_ := Aside0.mk ((by rw [hg]; exact (below_size (by repeat (first | (with_reducible first | exact HB.out | apply below_alloc | apply pw_below_drewN | apply below_drew1 | refine below_set ?_ GE261.out | refine below_set ?_ GE267.out) | exact HB.out))) : w.heap.size ≤ gb278)); have n9_ := Aside0.mk ((by rw [hg]; exact Nat.ne_of_lt (blk_lt (g := gb261) (o := .cells #[.int .i64 a0_0, .int .i64 a0_1, .int .i64 a0_2, .int .i64 a0_3] 23 (0, 0)) (by refine bs_ ?_; exact BK261.out)) : gb261 ≠ gb278)); have n10_ := Aside0.mk ((by rw [hg]; exact Nat.ne_of_gt (blk_lt (g := gb261) (o := .cells #[.int .i64 a0_0, .int .i64 a0_1, .int .i64 a0_2, .int .i64 a0_3] 23 (0, 0)) (by refine bs_ ?_; exact BK261.out)) : gb278 ≠ gb261)); have n11_ := Aside0.mk ((by rw [hg]; exact Nat.ne_of_lt (blk_lt (g := gb267) (o := .cells #[.int .i64 t263, .int .i64 t264, .int .i64 t265, .int .i64 t266] 23 (0, 0)) (by refine bs_ ?_; exact BK267.out)) : gb267 ≠ gb278)); have n12_ := Aside0.mk ((by rw [hg]; exact Nat.ne_of_gt (blk_lt (g := gb267) (o := .cells #[.int .i64 t263, .int .i64 t264, .int .i64 t265, .int .i64 t266] 23 (0, 0)) (by refine bs_ ?_; exact BK267.out)) : gb278 ≠ gb267)); clear HO_5; clear HO_6; clear HO_7; clear BK261; clear BK267; clear HB; have HO_5 := n0_; have HO_6 := n1_; have HO_7 := n2_; have BK261 := n3_; have BK267 := n4_; have HB := n5_; have BK278 := n6_; have GW278 := n7_; have GE278 := n8_; have NB261_278 := n9_; have NB278_261 := n10_; have NB267_278 := n11_; have NB278_267 := n12_; clear n0_ n1_ n2_ n3_ n4_ n5_ n6_ n7_ n8_ n9_ n10_ n11_ n12_; clear hb hbox hg; have hnb32 := NB278_261.out; have hnc32 := NB261_278.out; have hnb33 := NB278_267.out; have hnc33 := NB267_278.out; have hcz34_0 : w31.cell? ⟨gb278, 0, none⟩ = some (.int .i64 0) := (blk_cell BK278.out 0).trans rfl; have hcz34_1 : w31.cell? ⟨gb278, 1, none⟩ = some (.int .i64 0) := (blk_cell BK278.out 1).trans rfl; have hcz34_2 : w31.cell? ⟨gb278, 2, none⟩ = some (.int .i64 0) := (blk_cell BK278.out 2).trans rfl; have hcz34_3 : w31.cell? ⟨gb278, 3, none⟩ = some (.int .i64 0) := (blk_cell BK278.out 3).trans rfl; have hfz34_0 := blk_frozen BK278.out 0; have hfz34_1 := blk_frozen BK278.out 1; have hfz34_2 := blk_frozen BK278.out 2; have hfz34_3 := blk_frozen BK278.out 3))
        go_loopg [6, 10] k1 (fun kq v6 v10 w' => ∃ (x5_2 : List Bool) (x6_2 : List (S23)) (x7_2 : List Bool) (x10_2 : Int), v10 = .int .i64 x10_2 ∧ Aside0 (clocheref01_Rests.l1 kq x5_2 x6_2 x7_2 x8_1 x10_2 ((rd_T23 x6_1 x8_1).f0) ((rd_T23 x6_1 x8_1).f1) ((rd_T23 x6_1 x8_1).f2) ((rd_T23 x6_1 x8_1).f3) = some (r1, r2)) ∧ Aside0 (kq ≤ k1) ∧ Aside0 (Kd.R Kd.bool 4 w' w.heap.size (fun k_ => some k_ ≠ (v275 : Value).ownBlock) v269 x5_2) ∧ Aside0 (Kd.R k23 23 w' w.heap.size (fun k_ => k_ ≠ gb261 ∧ k_ ≠ gb267 ∧ k_ ≠ gb278) v6 x6_2) ∧ Aside0 (Kd.R Kd.bool 47 w' w.heap.size (fun k_ => some k_ ≠ (v269 : Value).ownBlock) v275 x7_2) ∧ Aside0 (w'.heap[gb261]? = some (.cells #[.int .i64 a0_0, .int .i64 a0_1, .int .i64 a0_2, .int .i64 a0_3] 23 (0, 0))) ∧ Aside0 (w'.heap[gb267]? = some (.cells #[.int .i64 t263, .int .i64 t264, .int .i64 t265, .int .i64 t266] 23 (0, 0))) ∧ Aside0 (w'.heap[gb278]? = some (.cells #[.int .i64 ((rd_T23 x6_1 x8_1).f0), .int .i64 ((rd_T23 x6_1 x8_1).f1), .int .i64 ((rd_T23 x6_1 x8_1).f2), .int .i64 ((rd_T23 x6_1 x8_1).f3)] 23 (0, 0))) ∧ Aside0 (Below w.heap.size w w'))
        case atStart => exact ⟨(x5_1), (x6_1), (x7_1), (0), eq_, H', ⟨Nat.le_refl _⟩, ⟨by refine kr_ ?_; exact Kd.R_mono (Kd.R_far (p := ⟨gb278, 3, none⟩) (Kd.R_far (p := ⟨gb278, 2, none⟩) (Kd.R_far (p := ⟨gb278, 1, none⟩) (Kd.R_far (p := ⟨gb278, 0, none⟩) (Kd.R_types HO_5.out BK278.out (by decide)) (fun _ hk => hk.2) (.int .i64 ((rd_T23 x6_1 x8_1).f0))) (fun _ hk => hk.2) (.int .i64 ((rd_T23 x6_1 x8_1).f1))) (fun _ hk => hk.2) (.int .i64 ((rd_T23 x6_1 x8_1).f2))) (fun _ hk => hk.2) (.int .i64 ((rd_T23 x6_1 x8_1).f3))) (fun _ hk => hk.1)⟩, ⟨by refine kr_ ?_; exact Kd.R_mono (Kd.R_far (p := ⟨gb278, 3, none⟩) (Kd.R_far (p := ⟨gb278, 2, none⟩) (Kd.R_far (p := ⟨gb278, 1, none⟩) (Kd.R_far (p := ⟨gb278, 0, none⟩) (Kd.R_mono HO_6.out (fun k_ hk => (⟨hk, by first | exact hk.2 | exact hk.2.2.2⟩ : _ ∧ k_ ≠ gb278))) (fun _ hk => hk.2) (.int .i64 ((rd_T23 x6_1 x8_1).f0))) (fun _ hk => hk.2) (.int .i64 ((rd_T23 x6_1 x8_1).f1))) (fun _ hk => hk.2) (.int .i64 ((rd_T23 x6_1 x8_1).f2))) (fun _ hk => hk.2) (.int .i64 ((rd_T23 x6_1 x8_1).f3))) (fun _ hk => ⟨hk.1.1.1, ⟨hk.1.1.2, hk.1.2⟩⟩)⟩, ⟨by refine kr_ ?_; exact Kd.R_mono (Kd.R_far (p := ⟨gb278, 3, none⟩) (Kd.R_far (p := ⟨gb278, 2, none⟩) (Kd.R_far (p := ⟨gb278, 1, none⟩) (Kd.R_far (p := ⟨gb278, 0, none⟩) (Kd.R_types HO_7.out BK278.out (by decide)) (fun _ hk => hk.2) (.int .i64 ((rd_T23 x6_1 x8_1).f0))) (fun _ hk => hk.2) (.int .i64 ((rd_T23 x6_1 x8_1).f1))) (fun _ hk => hk.2) (.int .i64 ((rd_T23 x6_1 x8_1).f2))) (fun _ hk => hk.2) (.int .i64 ((rd_T23 x6_1 x8_1).f3))) (fun _ hk => hk.1)⟩, ⟨by refine bs_ ?_; refine blk_far ?_ NB261_278.out _; refine bs_ ?_; refine blk_far ?_ NB261_278.out _; refine bs_ ?_; refine blk_far ?_ NB261_278.out _; refine bs_ ?_; refine blk_far ?_ NB261_278.out _; refine bs_ ?_; exact BK261.out⟩, ⟨by refine bs_ ?_; refine blk_far ?_ NB267_278.out _; refine bs_ ?_; refine blk_far ?_ NB267_278.out _; refine bs_ ?_; refine blk_far ?_ NB267_278.out _; refine bs_ ?_; refine blk_far ?_ NB267_278.out _; refine bs_ ?_; exact BK267.out⟩, ⟨by refine bs_ ?_; refine blk_put (cs := #[.int .i64 ((rd_T23 x6_1 x8_1).f0), .int .i64 ((rd_T23 x6_1 x8_1).f1), .int .i64 ((rd_T23 x6_1 x8_1).f2), .int .i64 0]) ?_ 3 _ rfl; refine bs_ ?_; refine blk_put (cs := #[.int .i64 ((rd_T23 x6_1 x8_1).f0), .int .i64 ((rd_T23 x6_1 x8_1).f1), .int .i64 0, .int .i64 0]) ?_ 2 _ rfl; refine bs_ ?_; refine blk_put (cs := #[.int .i64 ((rd_T23 x6_1 x8_1).f0), .int .i64 0, .int .i64 0, .int .i64 0]) ?_ 1 _ rfl; refine bs_ ?_; refine blk_put (cs := #[.int .i64 0, .int .i64 0, .int .i64 0, .int .i64 0]) ?_ 0 _ rfl; refine bs_ ?_; exact BK278.out⟩, ⟨by repeat (first | (with_reducible first | exact HB.out | apply below_alloc | apply pw_below_drewN | apply below_drew1 | refine below_set ?_ GE261.out | refine below_set ?_ GE267.out | refine below_set ?_ GE278.out) | exact HB.out)⟩⟩
        case round =>
         clear H'
         try clear c2
         try clear p2
         try clear q2
         try clear hx2
         try clear c3
         try clear c4
         try clear c5
         try clear c9
         try clear c9b0
         try clear c9b1
         try clear c22
         try clear c26
         try clear c27
         try clear p27
         try clear q27
         try clear hx27
         try clear c28
         try clear c28b0
         try clear c29
         try clear c29b0
         try clear c32
         try clear c33
         try clear hcz11_0
         try clear hcz11_1
         try clear hcz11_2
         try clear hcz11_3
         try clear hcz23_0
         try clear hcz23_1
         try clear hcz23_2
         try clear hcz23_3
         try clear hcz34_0
         try clear hcz34_1
         try clear hcz34_2
         try clear hcz34_3
         try clear hfz11_0
         try clear hfz11_1
         try clear hfz11_2
         try clear hfz11_3
         try clear hfz23_0
         try clear hfz23_1
         try clear hfz23_2
         try clear hfz23_3
         try clear hfz34_0
         try clear hfz34_1
         try clear hfz34_2
         try clear hfz34_3
         try clear hx277_0
         try clear hx277_1
         try clear hx277_2
         try clear hx277_3
         try clear p2
         try clear p277
         try clear q277
         obtain ⟨x5_2, x6_2, x7_2, x10_2, rfl, HA, HK2, HO_5, HO_6, HO_7, BK261, BK267, BK278, HB⟩ := hrel
         cases gk with
         | zero => exact absurd HA.out (by simp [clocheref01_Rests.l1])
         | succ k2 =>
          have H := HA.out
          clear HA
          simp only [clocheref01_Rests.l1] at H
          by_cases c35 : x10_2 < 4
          ·rw [if_pos c35] at H
           have c35b0 : decide (x10_2 < 4) = true := decide_eq_true c35
           clear c35
           by_cases c36 : 0 ≤ x10_2
           ·rw [if_pos c36] at H
            have c36b0 : decide (0 ≤ x10_2) = true := decide_eq_true c36
            clear c36
            by_cases c37 : 0 ≤ (at4 ((rd_T23 x6_1 x8_1).f0) ((rd_T23 x6_1 x8_1).f1) ((rd_T23 x6_1 x8_1).f2) ((rd_T23 x6_1 x8_1).f3) x10_2)
            ·rw [if_pos c37] at H
             have c37b0 : decide (0 ≤ (at4 ((rd_T23 x6_1 x8_1).f0) ((rd_T23 x6_1 x8_1).f1) ((rd_T23 x6_1 x8_1).f2) ((rd_T23 x6_1 x8_1).f3) x10_2)) = true := decide_eq_true c37
             clear c37
             by_cases c38 : (at4 ((rd_T23 x6_1 x8_1).f0) ((rd_T23 x6_1 x8_1).f1) ((rd_T23 x6_1 x8_1).f2) ((rd_T23 x6_1 x8_1).f3) x10_2) < (x7_2.length : Int)
             ·rw [if_pos c38] at H
              have c38b0 : decide ((at4 ((rd_T23 x6_1 x8_1).f0) ((rd_T23 x6_1 x8_1).f1) ((rd_T23 x6_1 x8_1).f2) ((rd_T23 x6_1 x8_1).f3) x10_2) < (x7_2.length : Int)) = true := decide_eq_true c38
              clear c38
              obtain ⟨y279, hy279⟩ : ∃ y_ : List Bool, y_ = (x7_2.set ((at4 ((rd_T23 x6_1 x8_1).f0) ((rd_T23 x6_1 x8_1).f1) ((rd_T23 x6_1 x8_1).f2) ((rd_T23 x6_1 x8_1).f3) x10_2) : Int).toNat true) := ⟨_, rfl⟩
              replace H : ((clocheref01_Turned.f k2 ((rd_T23 x6_1 x8_1).f0) ((rd_T23 x6_1 x8_1).f1) ((rd_T23 x6_1 x8_1).f2) ((rd_T23 x6_1 x8_1).f3) x10_2).bind fun t281 => ((clocheref01_rest.f t281).bind fun t282 => (if 0 ≤ (wrap64 ((wrap64 ((wrap64 ((wrap64 ((wrap64 ((wrap64 ((pt4 0 ((rd_T23 x6_1 x8_1).f0) x10_2 t282) * 24)) + (pt4 1 ((rd_T23 x6_1 x8_1).f1) x10_2 t282))) * 24)) + (pt4 2 ((rd_T23 x6_1 x8_1).f2) x10_2 t282))) * 24)) + (pt4 3 ((rd_T23 x6_1 x8_1).f3) x10_2 t282))) then (if (wrap64 ((wrap64 ((wrap64 ((wrap64 ((wrap64 ((wrap64 ((pt4 0 ((rd_T23 x6_1 x8_1).f0) x10_2 t282) * 24)) + (pt4 1 ((rd_T23 x6_1 x8_1).f1) x10_2 t282))) * 24)) + (pt4 2 ((rd_T23 x6_1 x8_1).f2) x10_2 t282))) * 24)) + (pt4 3 ((rd_T23 x6_1 x8_1).f3) x10_2 t282))) < (x5_2.length : Int) then (if (rdOf false x5_2 (wrap64 ((wrap64 ((wrap64 ((wrap64 ((wrap64 ((wrap64 ((pt4 0 ((rd_T23 x6_1 x8_1).f0) x10_2 t282) * 24)) + (pt4 1 ((rd_T23 x6_1 x8_1).f1) x10_2 t282))) * 24)) + (pt4 2 ((rd_T23 x6_1 x8_1).f2) x10_2 t282))) * 24)) + (pt4 3 ((rd_T23 x6_1 x8_1).f3) x10_2 t282))) = true) then (clocheref01_Rests.l1 k2 x5_2 x6_2 y279 x8_1 (wrap64 (x10_2 + 1)) ((rd_T23 x6_1 x8_1).f0) ((rd_T23 x6_1 x8_1).f1) ((rd_T23 x6_1 x8_1).f2) ((rd_T23 x6_1 x8_1).f3)) else (if x6_2.length < 4398046511104 then (clocheref01_Rests.l1 k2 (x5_2.set ((wrap64 ((wrap64 ((wrap64 ((wrap64 ((wrap64 ((wrap64 ((pt4 0 ((rd_T23 x6_1 x8_1).f0) x10_2 t282) * 24)) + (pt4 1 ((rd_T23 x6_1 x8_1).f1) x10_2 t282))) * 24)) + (pt4 2 ((rd_T23 x6_1 x8_1).f2) x10_2 t282))) * 24)) + (pt4 3 ((rd_T23 x6_1 x8_1).f3) x10_2 t282))) : Int).toNat true) (x6_2 ++ [(⟨pt4 0 ((rd_T23 x6_1 x8_1).f0) x10_2 t282, pt4 1 ((rd_T23 x6_1 x8_1).f1) x10_2 t282, pt4 2 ((rd_T23 x6_1 x8_1).f2) x10_2 t282, pt4 3 ((rd_T23 x6_1 x8_1).f3) x10_2 t282⟩ : S23)]) y279 x8_1 (wrap64 (x10_2 + 1)) ((rd_T23 x6_1 x8_1).f0) ((rd_T23 x6_1 x8_1).f1) ((rd_T23 x6_1 x8_1).f2) ((rd_T23 x6_1 x8_1).f3)) else (none))) else (none)) else (none)))) = some (r1, r2) := by first | (rw [hy279]; with_reducible exact H) | (have H2_ := (Option.bind_some _ _).symm.trans H; rw [hy279]; with_reducible exact H2_) | (have H2_ := (Option.bind_some _ _).symm.trans H; with_reducible exact H2_) | with_reducible exact H | (rw [hy279]; exact H) | exact H
              have Ny279 := Aside0.mk hy279
              clear hy279
              replace H := Option.bind_eq_some_iff.mp H
              obtain ⟨t281, A400, H⟩ := H
              replace H : ((clocheref01_rest.f t281).bind fun t282 => (if 0 ≤ (wrap64 ((wrap64 ((wrap64 ((wrap64 ((wrap64 ((wrap64 ((pt4 0 ((rd_T23 x6_1 x8_1).f0) x10_2 t282) * 24)) + (pt4 1 ((rd_T23 x6_1 x8_1).f1) x10_2 t282))) * 24)) + (pt4 2 ((rd_T23 x6_1 x8_1).f2) x10_2 t282))) * 24)) + (pt4 3 ((rd_T23 x6_1 x8_1).f3) x10_2 t282))) then (if (wrap64 ((wrap64 ((wrap64 ((wrap64 ((wrap64 ((wrap64 ((pt4 0 ((rd_T23 x6_1 x8_1).f0) x10_2 t282) * 24)) + (pt4 1 ((rd_T23 x6_1 x8_1).f1) x10_2 t282))) * 24)) + (pt4 2 ((rd_T23 x6_1 x8_1).f2) x10_2 t282))) * 24)) + (pt4 3 ((rd_T23 x6_1 x8_1).f3) x10_2 t282))) < (x5_2.length : Int) then (if (rdOf false x5_2 (wrap64 ((wrap64 ((wrap64 ((wrap64 ((wrap64 ((wrap64 ((pt4 0 ((rd_T23 x6_1 x8_1).f0) x10_2 t282) * 24)) + (pt4 1 ((rd_T23 x6_1 x8_1).f1) x10_2 t282))) * 24)) + (pt4 2 ((rd_T23 x6_1 x8_1).f2) x10_2 t282))) * 24)) + (pt4 3 ((rd_T23 x6_1 x8_1).f3) x10_2 t282))) = true) then (clocheref01_Rests.l1 k2 x5_2 x6_2 y279 x8_1 (wrap64 (x10_2 + 1)) ((rd_T23 x6_1 x8_1).f0) ((rd_T23 x6_1 x8_1).f1) ((rd_T23 x6_1 x8_1).f2) ((rd_T23 x6_1 x8_1).f3)) else (if x6_2.length < 4398046511104 then (clocheref01_Rests.l1 k2 (x5_2.set ((wrap64 ((wrap64 ((wrap64 ((wrap64 ((wrap64 ((wrap64 ((pt4 0 ((rd_T23 x6_1 x8_1).f0) x10_2 t282) * 24)) + (pt4 1 ((rd_T23 x6_1 x8_1).f1) x10_2 t282))) * 24)) + (pt4 2 ((rd_T23 x6_1 x8_1).f2) x10_2 t282))) * 24)) + (pt4 3 ((rd_T23 x6_1 x8_1).f3) x10_2 t282))) : Int).toNat true) (x6_2 ++ [(⟨pt4 0 ((rd_T23 x6_1 x8_1).f0) x10_2 t282, pt4 1 ((rd_T23 x6_1 x8_1).f1) x10_2 t282, pt4 2 ((rd_T23 x6_1 x8_1).f2) x10_2 t282, pt4 3 ((rd_T23 x6_1 x8_1).f3) x10_2 t282⟩ : S23)]) y279 x8_1 (wrap64 (x10_2 + 1)) ((rd_T23 x6_1 x8_1).f0) ((rd_T23 x6_1 x8_1).f1) ((rd_T23 x6_1 x8_1).f2) ((rd_T23 x6_1 x8_1).f3)) else (none))) else (none)) else (none))) = some (r1, r2) := H
              have A40 := Aside0.mk A400
              clear A400
              replace H := Option.bind_eq_some_iff.mp H
              obtain ⟨t282, A410, H⟩ := H
              replace H : (if 0 ≤ (wrap64 ((wrap64 ((wrap64 ((wrap64 ((wrap64 ((wrap64 ((pt4 0 ((rd_T23 x6_1 x8_1).f0) x10_2 t282) * 24)) + (pt4 1 ((rd_T23 x6_1 x8_1).f1) x10_2 t282))) * 24)) + (pt4 2 ((rd_T23 x6_1 x8_1).f2) x10_2 t282))) * 24)) + (pt4 3 ((rd_T23 x6_1 x8_1).f3) x10_2 t282))) then (if (wrap64 ((wrap64 ((wrap64 ((wrap64 ((wrap64 ((wrap64 ((pt4 0 ((rd_T23 x6_1 x8_1).f0) x10_2 t282) * 24)) + (pt4 1 ((rd_T23 x6_1 x8_1).f1) x10_2 t282))) * 24)) + (pt4 2 ((rd_T23 x6_1 x8_1).f2) x10_2 t282))) * 24)) + (pt4 3 ((rd_T23 x6_1 x8_1).f3) x10_2 t282))) < (x5_2.length : Int) then (if (rdOf false x5_2 (wrap64 ((wrap64 ((wrap64 ((wrap64 ((wrap64 ((wrap64 ((pt4 0 ((rd_T23 x6_1 x8_1).f0) x10_2 t282) * 24)) + (pt4 1 ((rd_T23 x6_1 x8_1).f1) x10_2 t282))) * 24)) + (pt4 2 ((rd_T23 x6_1 x8_1).f2) x10_2 t282))) * 24)) + (pt4 3 ((rd_T23 x6_1 x8_1).f3) x10_2 t282))) = true) then (clocheref01_Rests.l1 k2 x5_2 x6_2 y279 x8_1 (wrap64 (x10_2 + 1)) ((rd_T23 x6_1 x8_1).f0) ((rd_T23 x6_1 x8_1).f1) ((rd_T23 x6_1 x8_1).f2) ((rd_T23 x6_1 x8_1).f3)) else (if x6_2.length < 4398046511104 then (clocheref01_Rests.l1 k2 (x5_2.set ((wrap64 ((wrap64 ((wrap64 ((wrap64 ((wrap64 ((wrap64 ((pt4 0 ((rd_T23 x6_1 x8_1).f0) x10_2 t282) * 24)) + (pt4 1 ((rd_T23 x6_1 x8_1).f1) x10_2 t282))) * 24)) + (pt4 2 ((rd_T23 x6_1 x8_1).f2) x10_2 t282))) * 24)) + (pt4 3 ((rd_T23 x6_1 x8_1).f3) x10_2 t282))) : Int).toNat true) (x6_2 ++ [(⟨pt4 0 ((rd_T23 x6_1 x8_1).f0) x10_2 t282, pt4 1 ((rd_T23 x6_1 x8_1).f1) x10_2 t282, pt4 2 ((rd_T23 x6_1 x8_1).f2) x10_2 t282, pt4 3 ((rd_T23 x6_1 x8_1).f3) x10_2 t282⟩ : S23)]) y279 x8_1 (wrap64 (x10_2 + 1)) ((rd_T23 x6_1 x8_1).f0) ((rd_T23 x6_1 x8_1).f1) ((rd_T23 x6_1 x8_1).f2) ((rd_T23 x6_1 x8_1).f3)) else (none))) else (none)) else (none)) = some (r1, r2) := H
              have A41 := Aside0.mk A410
              clear A410
              obtain ⟨ji42, hji42⟩ : ∃ j_ : Int, (wrap64 ((wrap64 ((wrap64 ((wrap64 ((wrap64 ((wrap64 ((pt4 0 ((rd_T23 x6_1 x8_1).f0) x10_2 t282) * 24)) + (pt4 1 ((rd_T23 x6_1 x8_1).f1) x10_2 t282))) * 24)) + (pt4 2 ((rd_T23 x6_1 x8_1).f2) x10_2 t282))) * 24)) + (pt4 3 ((rd_T23 x6_1 x8_1).f3) x10_2 t282))) = j_ := ⟨_, rfl⟩
              replace H : (if 0 ≤ (ji42) then (if (ji42) < (x5_2.length : Int) then (if (rdOf false x5_2 (ji42) = true) then (clocheref01_Rests.l1 k2 x5_2 x6_2 y279 x8_1 (wrap64 (x10_2 + 1)) ((rd_T23 x6_1 x8_1).f0) ((rd_T23 x6_1 x8_1).f1) ((rd_T23 x6_1 x8_1).f2) ((rd_T23 x6_1 x8_1).f3)) else (if x6_2.length < 4398046511104 then (clocheref01_Rests.l1 k2 (x5_2.set ((ji42) : Int).toNat true) (x6_2 ++ [(⟨pt4 0 ((rd_T23 x6_1 x8_1).f0) x10_2 t282, pt4 1 ((rd_T23 x6_1 x8_1).f1) x10_2 t282, pt4 2 ((rd_T23 x6_1 x8_1).f2) x10_2 t282, pt4 3 ((rd_T23 x6_1 x8_1).f3) x10_2 t282⟩ : S23)]) y279 x8_1 (wrap64 (x10_2 + 1)) ((rd_T23 x6_1 x8_1).f0) ((rd_T23 x6_1 x8_1).f1) ((rd_T23 x6_1 x8_1).f2) ((rd_T23 x6_1 x8_1).f3)) else (none))) else (none)) else (none)) = some (r1, r2) := by first | (rw [hji42] at H; exact H) | (simp only [hji42] at H ⊢; exact H)
              (try rw [hji42] at A40)
              (try rw [hji42] at A41)
              have hji42w : (IntKind.i64.wrap ((wrap64 ((wrap64 ((wrap64 ((wrap64 ((wrap64 ((pt4 0 ((rd_T23 x6_1 x8_1).f0) x10_2 t282) * 24)) + (pt4 1 ((rd_T23 x6_1 x8_1).f1) x10_2 t282))) * 24)) + (pt4 2 ((rd_T23 x6_1 x8_1).f2) x10_2 t282))) * 24)) + (pt4 3 ((rd_T23 x6_1 x8_1).f3) x10_2 t282))) = ji42 := (i64_w _).trans hji42
              by_cases c43 : 0 ≤ (ji42)
              ·rw [if_pos c43] at H
               have c43b0 : decide (0 ≤ (ji42)) = true := decide_eq_true c43
               clear c43
               by_cases c44 : (ji42) < (x5_2.length : Int)
               ·rw [if_pos c44] at H
                have c44b0 : decide ((ji42) < (x5_2.length : Int)) = true := decide_eq_true c44
                clear c44
                obtain ⟨bq45, hbq45⟩ : ∃ b_ : Bool, b_ = (rdOf false x5_2 (ji42)) := ⟨_, rfl⟩
                replace H : (if (bq45 = true) then (clocheref01_Rests.l1 k2 x5_2 x6_2 y279 x8_1 (wrap64 (x10_2 + 1)) ((rd_T23 x6_1 x8_1).f0) ((rd_T23 x6_1 x8_1).f1) ((rd_T23 x6_1 x8_1).f2) ((rd_T23 x6_1 x8_1).f3)) else (if x6_2.length < 4398046511104 then (clocheref01_Rests.l1 k2 (x5_2.set ((ji42) : Int).toNat true) (x6_2 ++ [(⟨pt4 0 ((rd_T23 x6_1 x8_1).f0) x10_2 t282, pt4 1 ((rd_T23 x6_1 x8_1).f1) x10_2 t282, pt4 2 ((rd_T23 x6_1 x8_1).f2) x10_2 t282, pt4 3 ((rd_T23 x6_1 x8_1).f3) x10_2 t282⟩ : S23)]) y279 x8_1 (wrap64 (x10_2 + 1)) ((rd_T23 x6_1 x8_1).f0) ((rd_T23 x6_1 x8_1).f1) ((rd_T23 x6_1 x8_1).f2) ((rd_T23 x6_1 x8_1).f3)) else (none))) = some (r1, r2) := by rw [← hbq45] at H; exact H
                have Nbq45 := Aside0.mk hbq45
                clear hbq45
                by_cases c46 : (bq45 = true)
                ·subst c46
                 have H1 : (clocheref01_Rests.l1 k2 x5_2 x6_2 y279 x8_1 (wrap64 (x10_2 + 1)) ((rd_T23 x6_1 x8_1).f0) ((rd_T23 x6_1 x8_1).f1) ((rd_T23 x6_1 x8_1).f2) ((rd_T23 x6_1 x8_1).f3)) = some (r1, r2) := by rw [if_pos rfl] at H; exact H
                 clear H
                 have H := H1
                 clear H1
                 have H' := Aside0.mk H
                 clear H
                 have hnb48 := NB278_261.out
                 have hnc48 := NB261_278.out
                 have hnb49 := NB278_267.out
                 have hnc49 := NB267_278.out
                 have hcz50_0 : wr.cell? ⟨gb278, 0, none⟩ = some (.int .i64 ((rd_T23 x6_1 x8_1).f0)) := (blk_cell BK278.out 0).trans rfl
                 have hcz50_1 : wr.cell? ⟨gb278, 1, none⟩ = some (.int .i64 ((rd_T23 x6_1 x8_1).f1)) := (blk_cell BK278.out 1).trans rfl
                 have hcz50_2 : wr.cell? ⟨gb278, 2, none⟩ = some (.int .i64 ((rd_T23 x6_1 x8_1).f2)) := (blk_cell BK278.out 2).trans rfl
                 have hcz50_3 : wr.cell? ⟨gb278, 3, none⟩ = some (.int .i64 ((rd_T23 x6_1 x8_1).f3)) := (blk_cell BK278.out 3).trans rfl
                 have hfz50_0 := blk_frozen BK278.out 0
                 have hfz50_1 := blk_frozen BK278.out 1
                 have hfz50_2 := blk_frozen BK278.out 2
                 have hfz50_3 := blk_frozen BK278.out 3
                 have pdy47 : 0 ≤ (x10_2 : Int) := of_decide_eq_true as_
                 have qdy47 : (x10_2 : Int) < 4 := of_decide_eq_true as_
                 replace pdy47 := eq_true pdy47
                 replace qdy47 := eq_true qdy47
                 have hxdy47 : wr.cell? ⟨gb278, (x10_2 : Int).toNat, none⟩ = some (.int .i64 (at4 ((rd_T23 x6_1 x8_1).f0) ((rd_T23 x6_1 x8_1).f1) ((rd_T23 x6_1 x8_1).f2) ((rd_T23 x6_1 x8_1).f3) x10_2)) := blk_at4 BK278.out (of_eq_true pdy47) (of_eq_true qdy47)
                 have hfdy47 := blk_frozen BK278.out (x10_2 : Int).toNat
                 have p39 : 0 ≤ ((at4 ((rd_T23 x6_1 x8_1).f0) ((rd_T23 x6_1 x8_1).f1) ((rd_T23 x6_1 x8_1).f2) ((rd_T23 x6_1 x8_1).f3) x10_2) : Int) := of_decide_eq_true as_
                 have q39 : ((at4 ((rd_T23 x6_1 x8_1).f0) ((rd_T23 x6_1 x8_1).f1) ((rd_T23 x6_1 x8_1).f2) ((rd_T23 x6_1 x8_1).f3) x10_2) : Int) < ((x7_2.length : Int) : Int) := of_decide_eq_true as_
                 obtain ⟨go39, co39, eo39, gb39, gl39, cl39, HG39⟩ := Kd.R_form HO_7.out (by omega)
                 (first | cases eo39 | (injection eo39 with ea_ en_ ec_; (first | subst ea_ | (injection ea_ with ea_; subst ea_)); subst ec_; clear en_))
                 have hv_ := HV7.out
                 injection hv_ with ha_ hl_ hc_
                 injection ha_ with ha_
                 injection ha_ with ha_ hb_ hd_
                 subst ha_
                 have q24_ := eq_true (show _ < (24 : Int) from Int.lt_of_lt_of_le q39 (by omega))
                 have GB39 := Aside0.mk gb39
                 have GG39 := Aside0.mk HG39
                 clear gb39 gl39 HG39
                 obtain ⟨hx39_0, hf39_0⟩ := Kd.R_celln false HO_7.out ((at4 ((rd_T23 x6_1 x8_1).f0) ((rd_T23 x6_1 x8_1).f1) ((rd_T23 x6_1 x8_1).f2) ((rd_T23 x6_1 x8_1).f3) x10_2) : Int) p39 q39
                 replace p39 := eq_true p39
                 replace q39 := eq_true q39
                 have HP51 := Kd.R_putg HO_7.out ((at4 ((rd_T23 x6_1 x8_1).f0) ((rd_T23 x6_1 x8_1).f1) ((rd_T23 x6_1 x8_1).f2) ((rd_T23 x6_1 x8_1).f3) x10_2) : Int) true
                 go_upto_region 15 with (fail)
                 generalize hw : wr.setCell ⟨go39, ((at4 ((rd_T23 x6_1 x8_1).f0) ((rd_T23 x6_1 x8_1).f1) ((rd_T23 x6_1 x8_1).f2) ((rd_T23 x6_1 x8_1).f3) x10_2) : Int).toNat, none⟩ (.bool true) = w52
                 replace hw := hw.symm
                 have hg : wr.grownBy w52 (some go39) := (by rw [hw]; exact HP51.2); have hp_ : Kd.R Kd.bool 47 w52 w.heap.size (fun k_ => some k_ ≠ (v269 : Value).ownBlock) (.slice (some ⟨go39, 0, none⟩) x7_2.length co39) y279 := (by rw [hw, Ny279.out]; exact HP51.1); clear HP51; have n0_ := Aside0.mk (Kd.R_after (v := (.slice (some ⟨go39, 0, none⟩) x7_2.length co39)) (v1 := (.slice (some ⟨go39, 0, none⟩) x7_2.length co39)) (ok := (fun _ => True)) (by refine kr_ ?_; exact Kd.R_mono HO_5.out (fun _ hk => ⟨trivial, hk⟩)) hg (.inl rfl)); have n1_ := Aside0.mk (Kd.R_over' (v := (.slice (some ⟨go39, 0, none⟩) x7_2.length co39)) (by refine kr_ ?_; exact HO_6.out) (Kd.R_typed HO_7.out) (by decide) hg); have n2_ := Aside0.mk (hp_); have n3_ := Aside0.mk (blk_grown (g := gb261) (o := .cells #[.int .i64 a0_0, .int .i64 a0_1, .int .i64 a0_2, .int .i64 a0_3] 23 (0, 0)) (by refine bs_ ?_; exact BK261.out) hg (Kd.R_ne HO_7.out BK261.out (by decide))); have n4_ := Aside0.mk (blk_grown (g := gb267) (o := .cells #[.int .i64 t263, .int .i64 t264, .int .i64 t265, .int .i64 t266] 23 (0, 0)) (by refine bs_ ?_; exact BK267.out) hg (Kd.R_ne HO_7.out BK267.out (by decide))); have n5_ := Aside0.mk (blk_grown (g := gb278) (o := .cells #[.int .i64 ((rd_T23 x6_1 x8_1).f0), .int .i64 ((rd_T23 x6_1 x8_1).f1), .int .i64 ((rd_T23 x6_1 x8_1).f2), .int .i64 ((rd_T23 x6_1 x8_1).f3)] 23 (0, 0)) (by refine bs_ ?_; exact BK278.out) hg (Kd.R_ne HO_7.out BK278.out (by decide))); have n6_ := Aside0.mk ((by rw [hw]; exact below_set (HB.out) GB39.out : Below w.heap.size w w52)); clear HO_5; clear HO_6; clear HO_7; clear BK261; clear BK267; clear BK278; clear HB; have HO_5 := n0_; have HO_6 := n1_; have HO_7 := n2_; have BK261 := n3_; have BK267 := n4_; have BK278 := n5_; have HB := n6_; clear n0_ n1_ n2_ n3_ n4_ n5_ n6_; clear hg hw hp_; have hcz53_0 : w52.cell? ⟨gb278, 0, none⟩ = some (.int .i64 ((rd_T23 x6_1 x8_1).f0)) := (blk_cell BK278.out 0).trans rfl; have hcz53_1 : w52.cell? ⟨gb278, 1, none⟩ = some (.int .i64 ((rd_T23 x6_1 x8_1).f1)) := (blk_cell BK278.out 1).trans rfl; have hcz53_2 : w52.cell? ⟨gb278, 2, none⟩ = some (.int .i64 ((rd_T23 x6_1 x8_1).f2)) := (blk_cell BK278.out 2).trans rfl; have hcz53_3 : w52.cell? ⟨gb278, 3, none⟩ = some (.int .i64 ((rd_T23 x6_1 x8_1).f3)) := (blk_cell BK278.out 3).trans rfl; have hfz53_0 := blk_frozen BK278.out 0; have hfz53_1 := blk_frozen BK278.out 1; have hfz53_2 := blk_frozen BK278.out 2; have hfz53_3 := blk_frozen BK278.out 3
                 go_wp2_with (first | ((with_reducible refine gate_dst (N := 11) rfl ?_); refine box_event ?hg (N := 11) ?hd (cs := #[.int .i64 0, .int .i64 0, .int .i64 0, .int .i64 0]) (t := 23) ?hr ?_; (case hd => rfl); (case hg => rfl); (case hr => exact gs_); intro gb280 hg w54 hbox hb; have n0_ := Aside0.mk (Kd.R_below (by refine kr_ ?_; exact HO_5.out) hb); have n1_ := Aside0.mk (Kd.R_below (Kd.R_elderB (by refine kr_ ?_; exact HO_6.out) gb280 (Nat.le_of_eq hg.symm)) hb); have n2_ := Aside0.mk (Kd.R_below (by refine kr_ ?_; exact HO_7.out) hb); have n3_ := Aside0.mk (blk_below (g := gb261) (o := .cells #[.int .i64 a0_0, .int .i64 a0_1, .int .i64 a0_2, .int .i64 a0_3] 23 (0, 0)) (by refine bs_ ?_; exact BK261.out) hb); have n4_ := Aside0.mk (blk_below (g := gb267) (o := .cells #[.int .i64 t263, .int .i64 t264, .int .i64 t265, .int .i64 t266] 23 (0, 0)) (by refine bs_ ?_; exact BK267.out) hb); have n5_ := Aside0.mk (blk_below (g := gb278) (o := .cells #[.int .i64 ((rd_T23 x6_1 x8_1).f0), .int .i64 ((rd_T23 x6_1 x8_1).f1), .int .i64 ((rd_T23 x6_1 x8_1).f2), .int .i64 ((rd_T23 x6_1 x8_1).f3)] 23 (0, 0)) (by refine bs_ ?_; exact BK278.out) hb); have n6_ := Aside0.mk (below_step (by repeat (first | (with_reducible first | exact HB.out | apply below_alloc | apply pw_below_drewN | apply below_drew1 | refine below_set ?_ GE261.out | refine below_set ?_ GE267.out | refine below_set ?_ GE278.out) | exact HB.out)) hb); have n7_ := Aside0.mk (hbox); have n8_ := Aside0.mk ((by rw [hg]; exact (below_size (by repeat (first | (with_reducible first | exact HB.out | apply below_alloc | apply pw_below_drewN | apply below_drew1 | refine below_set ?_ GE261.out | refine below_set ?_ GE267.out | refine below_set ?_ GE278.out) | exact HB.out))) : w.heap.size ≤ gb280)); have n9_ := Aside0.mk ((by rw [hg]; exact (below_size (by repeat (first | (with_reducible first | exact HB.out | apply below_alloc | apply pw_below_drewN | apply below_drew1 | refine below_set ?_ GE261.out | refine below_set ?_ GE267.out | refine below_set ?_ GE278.out) | exact HB.out))) : w.heap.size ≤ gb280)); have n10_ := Aside0.mk ((by rw [hg]; exact Nat.ne_of_lt (blk_lt (g := gb261) (o := .cells #[.int .i64 a0_0, .int .i64 a0_1, .int .i64 a0_2, .int .i64 a0_3] 23 (0, 0)) (by refine bs_ ?_; exact BK261.out)) : gb261 ≠ gb280)); have n11_ := Aside0.mk ((by rw [hg]; exact Nat.ne_of_gt (blk_lt (g := gb261) (o := .cells #[.int .i64 a0_0, .int .i64 a0_1, .int .i64 a0_2, .int .i64 a0_3] 23 (0, 0)) (by refine bs_ ?_; exact BK261.out)) : gb280 ≠ gb261)); have n12_ := Aside0.mk ((by rw [hg]; exact Nat.ne_of_lt (blk_lt (g := gb267) (o := .cells #[.int .i64 t263, .int .i64 t264, .int .i64 t265, .int .i64 t266] 23 (0, 0)) (by refine bs_ ?_; exact BK267.out)) : gb267 ≠ gb280)); have n13_ := Aside0.mk ((by rw [hg]; exact Nat.ne_of_gt (blk_lt (g := gb267) (o := .cells #[.int .i64 t263, .int .i64 t264, .int .i64 t265, .int .i64 t266] 23 (0, 0)) (by refine bs_ ?_; exact BK267.out)) : gb280 ≠ gb267)); have n14_ := Aside0.mk ((by rw [hg]; exact Nat.ne_of_lt (blk_lt (g := gb278) (o := .cells #[.int .i64 ((rd_T23 x6_1 x8_1).f0), .int .i64 ((rd_T23 x6_1 x8_1).f1), .int .i64 ((rd_T23 x6_1 x8_1).f2), .int .i64 ((rd_T23 x6_1 x8_1).f3)] 23 (0, 0)) (by refine bs_ ?_; exact BK278.out)) : gb278 ≠ gb280)); have n15_ := Aside0.mk ((by rw [hg]; exact Nat.ne_of_gt (blk_lt (g := gb278) (o := .cells #[.int .i64 ((rd_T23 x6_1 x8_1).f0), .int .i64 ((rd_T23 x6_1 x8_1).f1), .int .i64 ((rd_T23 x6_1 x8_1).f2), .int .i64 ((rd_T23 x6_1 x8_1).f3)] 23 (0, 0)) (by refine bs_ ?_; exact BK278.out)) : gb280 ≠ gb278)); clear HO_5; clear HO_6; clear HO_7; clear BK261; clear BK267; clear BK278; clear HB; have HO_5 := n0_; have HO_6 := n1_; have HO_7 := n2_; have BK261 := n3_; have BK267 := n4_; have BK278 := n5_; have HB := n6_; have BK280 := n7_; have GW280 := n8_; have GE280 := n9_; have NB261_280 := n10_; have NB280_261 := n11_; have NB267_280 := n12_; have NB280_267 := n13_; have NB278_280 := n14_; have NB280_278 := n15_; clear n0_ n1_ n2_ n3_ n4_ n5_ n6_ n7_ n8_ n9_ n10_ n11_ n12_ n13_ n14_ n15_; clear hb hbox hg; have hnb55 := NB280_261.out; have hnc55 := NB261_280.out; have hnb56 := NB280_267.out; have hnc56 := NB267_280.out; have hnb57 := NB280_278.out; have hnc57 := NB278_280.out; have hcz58_0 : w54.cell? ⟨gb280, 0, none⟩ = some (.int .i64 0) := (blk_cell BK280.out 0).trans rfl; have hcz58_1 : w54.cell? ⟨gb280, 1, none⟩ = some (.int .i64 0) := (blk_cell BK280.out 1).trans rfl; have hcz58_2 : w54.cell? ⟨gb280, 2, none⟩ = some (.int .i64 0) := (blk_cell BK280.out 2).trans rfl; have hcz58_3 : w54.cell? ⟨gb280, 3, none⟩ = some (.int .i64 0) := (blk_cell BK280.out 3).trans rfl; have hfz58_0 := blk_frozen BK280.out 0; have hfz58_1 := blk_frozen BK280.out 1; have hfz58_2 := blk_frozen BK280.out 2; have hfz58_3 := blk_frozen BK280.out 3; have hcz59_0 : w54.cell? ⟨gb278, 0, none⟩ = some (.int .i64 ((rd_T23 x6_1 x8_1).f0)) := (blk_cell BK278.out 0).trans rfl; have hcz59_1 : w54.cell? ⟨gb278, 1, none⟩ = some (.int .i64 ((rd_T23 x6_1 x8_1).f1)) := (blk_cell BK278.out 1).trans rfl; have hcz59_2 : w54.cell? ⟨gb278, 2, none⟩ = some (.int .i64 ((rd_T23 x6_1 x8_1).f2)) := (blk_cell BK278.out 2).trans rfl; have hcz59_3 : w54.cell? ⟨gb278, 3, none⟩ = some (.int .i64 ((rd_T23 x6_1 x8_1).f3)) := (blk_cell BK278.out 3).trans rfl; have hfz59_0 := blk_frozen BK278.out 0; have hfz59_1 := blk_frozen BK278.out 1; have hfz59_2 := blk_frozen BK278.out 2; have hfz59_3 := blk_frozen BK278.out 3) | ((with_reducible refine gate_callee (f := 31) rfl ?_); refine goesL_ (some 56) rfl rfl Try.func31 (by kernel_rfl) rfl #[.agg #[.int .i64 ((rd_T23 x6_1 x8_1).f0), .int .i64 ((rd_T23 x6_1 x8_1).f1), .int .i64 ((rd_T23 x6_1 x8_1).f2), .int .i64 ((rd_T23 x6_1 x8_1).f3)], .int .i64 x10_2] rfl mp_ ?_; (with_reducible refine (clocheref01_Turned.calls k2 ((rd_T23 x6_1 x8_1).f0) ((rd_T23 x6_1 x8_1).f1) ((rd_T23 x6_1 x8_1).f2) ((rd_T23 x6_1 x8_1).f3) x10_2 t281 _ A40.out).mono ?_); rintro e w60 ⟨rfl, hb⟩; refine ⟨_, rfl, ?_⟩; have n0_ := Aside0.mk (Kd.R_below (by refine kr_ ?_; exact (Kd.R_mono (Kd.R_far (p := ⟨gb280, 3, none⟩) (Kd.R_far (p := ⟨gb280, 2, none⟩) (Kd.R_far (p := ⟨gb280, 1, none⟩) (Kd.R_far (p := ⟨gb280, 0, none⟩) (Kd.R_types HO_5.out BK280.out (by decide)) (fun _ hk => hk.2) (.int .i64 ((rd_T23 x6_1 x8_1).f0))) (fun _ hk => hk.2) (.int .i64 ((rd_T23 x6_1 x8_1).f1))) (fun _ hk => hk.2) (.int .i64 ((rd_T23 x6_1 x8_1).f2))) (fun _ hk => hk.2) (.int .i64 ((rd_T23 x6_1 x8_1).f3))) (fun _ h_ => h_.1))) hb); have n1_ := Aside0.mk (Kd.R_below (by refine kr_ ?_; exact (Kd.R_mono (Kd.R_far (p := ⟨gb280, 3, none⟩) (Kd.R_far (p := ⟨gb280, 2, none⟩) (Kd.R_far (p := ⟨gb280, 1, none⟩) (Kd.R_far (p := ⟨gb280, 0, none⟩) (Kd.R_mono HO_6.out (fun k_ hk => (⟨hk, by first | exact hk.2 | exact hk.2.2.2⟩ : _ ∧ k_ ≠ gb280))) (fun _ hk => hk.2) (.int .i64 ((rd_T23 x6_1 x8_1).f0))) (fun _ hk => hk.2) (.int .i64 ((rd_T23 x6_1 x8_1).f1))) (fun _ hk => hk.2) (.int .i64 ((rd_T23 x6_1 x8_1).f2))) (fun _ hk => hk.2) (.int .i64 ((rd_T23 x6_1 x8_1).f3))) (fun _ h_ => h_.1))) hb); have n2_ := Aside0.mk (Kd.R_below (by refine kr_ ?_; exact (Kd.R_mono (Kd.R_far (p := ⟨gb280, 3, none⟩) (Kd.R_far (p := ⟨gb280, 2, none⟩) (Kd.R_far (p := ⟨gb280, 1, none⟩) (Kd.R_far (p := ⟨gb280, 0, none⟩) (Kd.R_types HO_7.out BK280.out (by decide)) (fun _ hk => hk.2) (.int .i64 ((rd_T23 x6_1 x8_1).f0))) (fun _ hk => hk.2) (.int .i64 ((rd_T23 x6_1 x8_1).f1))) (fun _ hk => hk.2) (.int .i64 ((rd_T23 x6_1 x8_1).f2))) (fun _ hk => hk.2) (.int .i64 ((rd_T23 x6_1 x8_1).f3))) (fun _ h_ => h_.1))) hb); have n3_ := Aside0.mk (blk_below (g := gb261) (o := .cells #[.int .i64 a0_0, .int .i64 a0_1, .int .i64 a0_2, .int .i64 a0_3] 23 (0, 0)) (by refine bs_ ?_; refine blk_far ?_ NB261_280.out _; refine bs_ ?_; refine blk_far ?_ NB261_280.out _; refine bs_ ?_; refine blk_far ?_ NB261_280.out _; refine bs_ ?_; refine blk_far ?_ NB261_280.out _; refine bs_ ?_; exact BK261.out) hb); have n4_ := Aside0.mk (blk_below (g := gb267) (o := .cells #[.int .i64 t263, .int .i64 t264, .int .i64 t265, .int .i64 t266] 23 (0, 0)) (by refine bs_ ?_; refine blk_far ?_ NB267_280.out _; refine bs_ ?_; refine blk_far ?_ NB267_280.out _; refine bs_ ?_; refine blk_far ?_ NB267_280.out _; refine bs_ ?_; refine blk_far ?_ NB267_280.out _; refine bs_ ?_; exact BK267.out) hb); have n5_ := Aside0.mk (blk_below (g := gb278) (o := .cells #[.int .i64 ((rd_T23 x6_1 x8_1).f0), .int .i64 ((rd_T23 x6_1 x8_1).f1), .int .i64 ((rd_T23 x6_1 x8_1).f2), .int .i64 ((rd_T23 x6_1 x8_1).f3)] 23 (0, 0)) (by refine bs_ ?_; refine blk_far ?_ NB278_280.out _; refine bs_ ?_; refine blk_far ?_ NB278_280.out _; refine bs_ ?_; refine blk_far ?_ NB278_280.out _; refine bs_ ?_; refine blk_far ?_ NB278_280.out _; refine bs_ ?_; exact BK278.out) hb); have n6_ := Aside0.mk (blk_below (g := gb280) (o := .cells #[.int .i64 ((rd_T23 x6_1 x8_1).f0), .int .i64 ((rd_T23 x6_1 x8_1).f1), .int .i64 ((rd_T23 x6_1 x8_1).f2), .int .i64 ((rd_T23 x6_1 x8_1).f3)] 23 (0, 0)) (by refine bs_ ?_; refine blk_put (cs := #[.int .i64 ((rd_T23 x6_1 x8_1).f0), .int .i64 ((rd_T23 x6_1 x8_1).f1), .int .i64 ((rd_T23 x6_1 x8_1).f2), .int .i64 0]) ?_ 3 _ rfl; refine bs_ ?_; refine blk_put (cs := #[.int .i64 ((rd_T23 x6_1 x8_1).f0), .int .i64 ((rd_T23 x6_1 x8_1).f1), .int .i64 0, .int .i64 0]) ?_ 2 _ rfl; refine bs_ ?_; refine blk_put (cs := #[.int .i64 ((rd_T23 x6_1 x8_1).f0), .int .i64 0, .int .i64 0, .int .i64 0]) ?_ 1 _ rfl; refine bs_ ?_; refine blk_put (cs := #[.int .i64 0, .int .i64 0, .int .i64 0, .int .i64 0]) ?_ 0 _ rfl; refine bs_ ?_; exact BK280.out) hb); have n7_ := Aside0.mk (below_step (by repeat (first | (with_reducible first | exact HB.out | apply below_alloc | apply pw_below_drewN | apply below_drew1 | refine below_set ?_ GE261.out | refine below_set ?_ GE267.out | refine below_set ?_ GE278.out | refine below_set ?_ GE280.out) | exact HB.out)) hb); clear HO_5; clear HO_6; clear HO_7; clear BK261; clear BK267; clear BK278; clear BK280; clear HB; have HO_5 := n0_; have HO_6 := n1_; have HO_7 := n2_; have BK261 := n3_; have BK267 := n4_; have BK278 := n5_; have BK280 := n6_; have HB := n7_; clear n0_ n1_ n2_ n3_ n4_ n5_ n6_ n7_; (try clear hb); (try clear hb2); (try clear hk); (try clear hi)) | ((with_reducible refine gate_callee (f := 55) rfl ?_); refine goesL_ (some 57) rfl rfl Try.func55 (by kernel_rfl) rfl #[.int .i64 t281] rfl mp_ ?_; (with_reducible refine (clocheref01_rest.calls t281 t282 _ A41.out).mono ?_); rintro e w' ⟨rfl, ⟨nd, rfl⟩⟩; refine ⟨_, rfl, ?_⟩; (try (rw [drewN_self w60]; generalize hq_ : World.drewN w60 _ = w60; have n0_ : Aside0 (Kd.R Kd.bool 4 w60 w.heap.size (fun k_ => some k_ ≠ (.slice (some ⟨go39, 0, none⟩) x7_2.length co39 : Value).ownBlock) v269 x5_2) := ⟨by rw [← hq_]; exact (by refine kr_ ?_; exact Kd.R_mono HO_5.out (fun _ hk => hk.2))⟩; have n1_ : Aside0 (Kd.R k23 23 w60 w.heap.size (fun k_ => k_ ≠ gb261 ∧ k_ ≠ gb267 ∧ k_ ≠ gb278 ∧ k_ ≠ gb280) u6 x6_2) := ⟨by rw [← hq_]; exact (by refine kr_ ?_; exact Kd.R_mono HO_6.out (fun _ hk => ⟨hk.1.1, ⟨hk.1.2.1, ⟨hk.1.2.2, hk.2⟩⟩⟩))⟩; have n2_ : Aside0 (Kd.R Kd.bool 47 w60 w.heap.size (fun k_ => some k_ ≠ (v269 : Value).ownBlock) (.slice (some ⟨go39, 0, none⟩) x7_2.length co39) y279) := ⟨by rw [← hq_]; exact (by refine kr_ ?_; exact HO_7.out)⟩; have n3_ : Aside0 (w60.heap[gb261]? = some (.cells #[.int .i64 a0_0, .int .i64 a0_1, .int .i64 a0_2, .int .i64 a0_3] 23 (0, 0))) := ⟨by rw [← hq_]; exact (by refine bs_ ?_; exact BK261.out)⟩; have n4_ : Aside0 (w60.heap[gb267]? = some (.cells #[.int .i64 t263, .int .i64 t264, .int .i64 t265, .int .i64 t266] 23 (0, 0))) := ⟨by rw [← hq_]; exact (by refine bs_ ?_; exact BK267.out)⟩; have n5_ : Aside0 (w60.heap[gb278]? = some (.cells #[.int .i64 ((rd_T23 x6_1 x8_1).f0), .int .i64 ((rd_T23 x6_1 x8_1).f1), .int .i64 ((rd_T23 x6_1 x8_1).f2), .int .i64 ((rd_T23 x6_1 x8_1).f3)] 23 (0, 0))) := ⟨by rw [← hq_]; exact (by refine bs_ ?_; exact BK278.out)⟩; have n6_ : Aside0 (w60.heap[gb280]? = some (.cells #[.int .i64 ((rd_T23 x6_1 x8_1).f0), .int .i64 ((rd_T23 x6_1 x8_1).f1), .int .i64 ((rd_T23 x6_1 x8_1).f2), .int .i64 ((rd_T23 x6_1 x8_1).f3)] 23 (0, 0))) := ⟨by rw [← hq_]; exact (by refine bs_ ?_; exact BK280.out)⟩; have n7_ : Aside0 (Below w.heap.size w w60) := ⟨by rw [← hq_]; exact (by repeat (first | (with_reducible first | exact HB.out | apply below_alloc | apply pw_below_drewN | apply below_drew1 | refine below_set ?_ GE261.out | refine below_set ?_ GE267.out | refine below_set ?_ GE278.out | refine below_set ?_ GE280.out) | exact HB.out))⟩; clear HO_5 HO_6 HO_7 BK261 BK267 BK278 BK280 HB hq_; have HO_5 := n0_; have HO_6 := n1_; have HO_7 := n2_; have BK261 := n3_; have BK267 := n4_; have BK278 := n5_; have BK280 := n6_; have HB := n7_; clear n0_ n1_ n2_ n3_ n4_ n5_ n6_ n7_)); have hcz62_0 : w60.cell? ⟨gb280, 0, none⟩ = some (.int .i64 ((rd_T23 x6_1 x8_1).f0)) := (blk_cell BK280.out 0).trans rfl; have hcz62_1 : w60.cell? ⟨gb280, 1, none⟩ = some (.int .i64 ((rd_T23 x6_1 x8_1).f1)) := (blk_cell BK280.out 1).trans rfl; have hcz62_2 : w60.cell? ⟨gb280, 2, none⟩ = some (.int .i64 ((rd_T23 x6_1 x8_1).f2)) := (blk_cell BK280.out 2).trans rfl; have hcz62_3 : w60.cell? ⟨gb280, 3, none⟩ = some (.int .i64 ((rd_T23 x6_1 x8_1).f3)) := (blk_cell BK280.out 3).trans rfl; have hfz62_0 := blk_frozen BK280.out 0; have hfz62_1 := blk_frozen BK280.out 1; have hfz62_2 := blk_frozen BK280.out 2; have hfz62_3 := blk_frozen BK280.out 3; have pdy61 : 0 ≤ (x10_2 : Int) := of_decide_eq_true as_; have qdy61 : (x10_2 : Int) < 4 := of_decide_eq_true as_; replace pdy61 := eq_true pdy61; replace qdy61 := eq_true qdy61; have hxdy61 : w60.cell? ⟨gb280, (x10_2 : Int).toNat, none⟩ = some (.int .i64 (at4 ((rd_T23 x6_1 x8_1).f0) ((rd_T23 x6_1 x8_1).f1) ((rd_T23 x6_1 x8_1).f2) ((rd_T23 x6_1 x8_1).f3) x10_2)) := blk_at4 BK280.out (of_eq_true pdy61) (of_eq_true qdy61); have hfdy61 := blk_frozen BK280.out (x10_2 : Int).toNat) | ((with_reducible refine gate_store (t := 3) (p := 58) rfl ?_); have hxdy61 : w60.cell? ⟨gb280, (x10_2 : Int).toNat, none⟩ = some (.int .i64 (at4 ((rd_T23 x6_1 x8_1).f0) ((rd_T23 x6_1 x8_1).f1) ((rd_T23 x6_1 x8_1).f2) ((rd_T23 x6_1 x8_1).f3) x10_2)) := blk_at4 BK280.out (of_eq_true pdy61) (of_eq_true qdy61); have hfdy61 := blk_frozen BK280.out (x10_2 : Int).toNat; refine store_event (t := 3) (p := 58) (v := ?vo_w63) (w1 := (w60.setCell ⟨gb280, (x10_2 : Int).toNat, none⟩ (.int .i64 t282))) ?hg ?ho ?hn ?hr ?_; (case ho => rfl); (case hg => rfl); (case hn => rfl); (case hr => exact gs_); intro w63 hw; have n0_ : Aside0 (Kd.R Kd.bool 4 w63 w.heap.size (fun k_ => some k_ ≠ (.slice (some ⟨go39, 0, none⟩) x7_2.length co39 : Value).ownBlock) v269 x5_2) := ⟨(by rw [hw]; exact (by refine kr_ ?_; exact Kd.R_mono (Kd.R_far (p := ⟨gb280, (x10_2 : Int).toNat, none⟩) (Kd.R_types HO_5.out BK280.out (by decide)) (fun _ hk => hk.2) (.int .i64 t282)) (fun _ hk => by first | exact hk.1.2 | exact hk.1)))⟩; have n1_ : Aside0 (Kd.R k23 23 w63 w.heap.size (fun k_ => k_ ≠ gb261 ∧ k_ ≠ gb267 ∧ k_ ≠ gb278 ∧ k_ ≠ gb280) u6 x6_2) := ⟨(by rw [hw]; exact (by refine kr_ ?_; exact Kd.R_mono (Kd.R_far (p := ⟨gb280, (x10_2 : Int).toNat, none⟩) (Kd.R_mono HO_6.out (fun k_ hk => (⟨hk, by first | exact hk.2 | exact hk.2.2.2⟩ : _ ∧ k_ ≠ gb280))) (fun _ hk => hk.2) (.int .i64 t282)) (fun _ hk => by first | exact ⟨hk.1.1.1, ⟨hk.1.1.2.1, ⟨hk.1.1.2.2, hk.1.2⟩⟩⟩ | exact hk.1)))⟩; have n2_ : Aside0 (Kd.R Kd.bool 47 w63 w.heap.size (fun k_ => some k_ ≠ (v269 : Value).ownBlock) (.slice (some ⟨go39, 0, none⟩) x7_2.length co39) y279) := ⟨(by rw [hw]; exact (by refine kr_ ?_; exact Kd.R_mono (Kd.R_far (p := ⟨gb280, (x10_2 : Int).toNat, none⟩) (Kd.R_types HO_7.out BK280.out (by decide)) (fun _ hk => hk.2) (.int .i64 t282)) (fun _ hk => hk.1)))⟩; have n3_ : Aside0 (w63.heap[gb261]? = some (.cells #[.int .i64 a0_0, .int .i64 a0_1, .int .i64 a0_2, .int .i64 a0_3] 23 (0, 0))) := ⟨(by rw [hw]; exact (by refine bs_ ?_; refine blk_far ?_ NB261_280.out _; refine bs_ ?_; exact BK261.out))⟩; have n4_ : Aside0 (w63.heap[gb267]? = some (.cells #[.int .i64 t263, .int .i64 t264, .int .i64 t265, .int .i64 t266] 23 (0, 0))) := ⟨(by rw [hw]; exact (by refine bs_ ?_; refine blk_far ?_ NB267_280.out _; refine bs_ ?_; exact BK267.out))⟩; have n5_ : Aside0 (w63.heap[gb278]? = some (.cells #[.int .i64 ((rd_T23 x6_1 x8_1).f0), .int .i64 ((rd_T23 x6_1 x8_1).f1), .int .i64 ((rd_T23 x6_1 x8_1).f2), .int .i64 ((rd_T23 x6_1 x8_1).f3)] 23 (0, 0))) := ⟨(by rw [hw]; exact (by refine bs_ ?_; refine blk_far ?_ NB278_280.out _; refine bs_ ?_; exact BK278.out))⟩; have n6_ : Aside0 (w63.heap[gb280]? = some (.cells #[.int .i64 (pt4 0 ((rd_T23 x6_1 x8_1).f0) x10_2 t282), .int .i64 (pt4 1 ((rd_T23 x6_1 x8_1).f1) x10_2 t282), .int .i64 (pt4 2 ((rd_T23 x6_1 x8_1).f2) x10_2 t282), .int .i64 (pt4 3 ((rd_T23 x6_1 x8_1).f3) x10_2 t282)] 23 (0, 0))) := ⟨(by rw [hw]; exact (by refine bs_ ?_; refine blk_put (cs := #[.int .i64 ((rd_T23 x6_1 x8_1).f0), .int .i64 ((rd_T23 x6_1 x8_1).f1), .int .i64 ((rd_T23 x6_1 x8_1).f2), .int .i64 ((rd_T23 x6_1 x8_1).f3)]) ?_ (x10_2 : Int).toNat _ (set4i _ _ _ _ _ _ (of_eq_true pdy61) (of_eq_true qdy61)); refine bs_ ?_; exact BK280.out))⟩; have n7_ : Aside0 (Below w.heap.size w w63) := ⟨(by rw [hw]; exact (by repeat (first | (with_reducible first | exact HB.out | apply below_alloc | apply pw_below_drewN | apply below_drew1 | refine below_set ?_ GE261.out | refine below_set ?_ GE267.out | refine below_set ?_ GE278.out | refine below_set ?_ GE280.out) | exact HB.out)))⟩; clear hw; clear HO_5; clear HO_6; clear HO_7; clear BK261; clear BK267; clear BK278; clear BK280; clear HB; have HO_5 := n0_; have HO_6 := n1_; have HO_7 := n2_; have BK261 := n3_; have BK267 := n4_; have BK278 := n5_; have BK280 := n6_; have HB := n7_; clear n0_ n1_ n2_ n3_ n4_ n5_ n6_ n7_; have hcz64_0 : w63.cell? ⟨gb280, 0, none⟩ = some (.int .i64 (pt4 0 ((rd_T23 x6_1 x8_1).f0) x10_2 t282)) := (blk_cell BK280.out 0).trans rfl; have hcz64_1 : w63.cell? ⟨gb280, 1, none⟩ = some (.int .i64 (pt4 1 ((rd_T23 x6_1 x8_1).f1) x10_2 t282)) := (blk_cell BK280.out 1).trans rfl; have hcz64_2 : w63.cell? ⟨gb280, 2, none⟩ = some (.int .i64 (pt4 2 ((rd_T23 x6_1 x8_1).f2) x10_2 t282)) := (blk_cell BK280.out 2).trans rfl; have hcz64_3 : w63.cell? ⟨gb280, 3, none⟩ = some (.int .i64 (pt4 3 ((rd_T23 x6_1 x8_1).f3) x10_2 t282)) := (blk_cell BK280.out 3).trans rfl; have hfz64_0 := blk_frozen BK280.out 0; have hfz64_1 := blk_frozen BK280.out 1; have hfz64_2 := blk_frozen BK280.out 2; have hfz64_3 := blk_frozen BK280.out 3; obtain ⟨Ao65, co65, eo65⟩ := Kd.R_slice HO_5.out; subst eo65; have p283 : 0 ≤ ((ji42) : Int) := of_decide_eq_true as_; have q283 : (ji42) < (x5_2.length : Int) := of_decide_eq_true as_; obtain ⟨ad283, e283, hx283_0⟩ := Kd.at_bool (Kd.R_reads' HO_5.out).2.2 (ji42) p283 q283; (try rw [← Nbq45.out] at hx283_0); cases e283; replace p283 := eq_true p283; replace q283 := eq_true q283))
                 go_roundg k2
                 case measure => have := HK1.out; have := HK2.out; omega
                 case rel => exact ⟨(x5_2), (x6_2), (y279), (wrap64 (x10_2 + 1)), eq_, H', ⟨by have := HK1.out; have := HK2.out; omega⟩, ⟨by refine kr_ ?_; exact HO_5.out⟩, ⟨by refine kr_ ?_; exact Kd.R_mono HO_6.out (fun _ hk => ⟨hk.1, ⟨hk.2.1, hk.2.2.1⟩⟩)⟩, ⟨by refine kr_ ?_; exact HO_7.out⟩, ⟨by refine bs_ ?_; exact BK261.out⟩, ⟨by refine bs_ ?_; exact BK267.out⟩, ⟨by refine bs_ ?_; exact BK278.out⟩, ⟨by repeat (first | (with_reducible first | exact HB.out | apply below_alloc | apply pw_below_drewN | apply below_drew1 | refine below_set ?_ GE261.out | refine below_set ?_ GE267.out | refine below_set ?_ GE278.out | refine below_set ?_ GE280.out) | exact HB.out)⟩⟩
                ·replace c46 := Bool.eq_false_iff.mpr c46
                 subst c46
                 have H1 : (if x6_2.length < 4398046511104 then (clocheref01_Rests.l1 k2 (x5_2.set ((ji42) : Int).toNat true) (x6_2 ++ [(⟨pt4 0 ((rd_T23 x6_1 x8_1).f0) x10_2 t282, pt4 1 ((rd_T23 x6_1 x8_1).f1) x10_2 t282, pt4 2 ((rd_T23 x6_1 x8_1).f2) x10_2 t282, pt4 3 ((rd_T23 x6_1 x8_1).f3) x10_2 t282⟩ : S23)]) y279 x8_1 (wrap64 (x10_2 + 1)) ((rd_T23 x6_1 x8_1).f0) ((rd_T23 x6_1 x8_1).f1) ((rd_T23 x6_1 x8_1).f2) ((rd_T23 x6_1 x8_1).f3)) else (none)) = some (r1, r2) := by rw [if_neg (show ¬ (false = true) by decide)] at H; exact H
                 clear H
                 have H := H1
                 clear H1
                 obtain ⟨y284, hy284⟩ : ∃ y_ : List Bool, y_ = (x5_2.set ((ji42) : Int).toNat true) := ⟨_, rfl⟩
                 replace H : (if x6_2.length < 4398046511104 then (clocheref01_Rests.l1 k2 y284 (x6_2 ++ [(⟨pt4 0 ((rd_T23 x6_1 x8_1).f0) x10_2 t282, pt4 1 ((rd_T23 x6_1 x8_1).f1) x10_2 t282, pt4 2 ((rd_T23 x6_1 x8_1).f2) x10_2 t282, pt4 3 ((rd_T23 x6_1 x8_1).f3) x10_2 t282⟩ : S23)]) y279 x8_1 (wrap64 (x10_2 + 1)) ((rd_T23 x6_1 x8_1).f0) ((rd_T23 x6_1 x8_1).f1) ((rd_T23 x6_1 x8_1).f2) ((rd_T23 x6_1 x8_1).f3)) else (none)) = some (r1, r2) := by first | (rw [hy284]; with_reducible exact H) | (have H2_ := (Option.bind_some _ _).symm.trans H; rw [hy284]; with_reducible exact H2_) | (have H2_ := (Option.bind_some _ _).symm.trans H; with_reducible exact H2_) | with_reducible exact H | (rw [hy284]; exact H) | exact H
                 have Ny284 := Aside0.mk hy284
                 clear hy284
                 by_cases c67 : x6_2.length < 4398046511104
                 ·rw [if_pos c67] at H
                  have LMc67 := Aside0.mk c67
                  clear c67
                  obtain ⟨y285, hy285⟩ : ∃ y_ : List (S23), y_ = (x6_2 ++ [(⟨pt4 0 ((rd_T23 x6_1 x8_1).f0) x10_2 t282, pt4 1 ((rd_T23 x6_1 x8_1).f1) x10_2 t282, pt4 2 ((rd_T23 x6_1 x8_1).f2) x10_2 t282, pt4 3 ((rd_T23 x6_1 x8_1).f3) x10_2 t282⟩ : S23)]) := ⟨_, rfl⟩
                  replace H : (clocheref01_Rests.l1 k2 y284 y285 y279 x8_1 (wrap64 (x10_2 + 1)) ((rd_T23 x6_1 x8_1).f0) ((rd_T23 x6_1 x8_1).f1) ((rd_T23 x6_1 x8_1).f2) ((rd_T23 x6_1 x8_1).f3)) = some (r1, r2) := by first | (rw [hy285]; with_reducible exact H) | (have H2_ := (Option.bind_some _ _).symm.trans H; rw [hy285]; with_reducible exact H2_) | (have H2_ := (Option.bind_some _ _).symm.trans H; with_reducible exact H2_) | with_reducible exact H | (rw [hy285]; exact H) | exact H
                  have Ny285 := Aside0.mk hy285
                  clear hy285
                  have H' := Aside0.mk H
                  clear H
                  have hnb69 := NB278_261.out
                  have hnc69 := NB261_278.out
                  have hnb70 := NB278_267.out
                  have hnc70 := NB267_278.out
                  have hcz71_0 : wr.cell? ⟨gb278, 0, none⟩ = some (.int .i64 ((rd_T23 x6_1 x8_1).f0)) := (blk_cell BK278.out 0).trans rfl
                  have hcz71_1 : wr.cell? ⟨gb278, 1, none⟩ = some (.int .i64 ((rd_T23 x6_1 x8_1).f1)) := (blk_cell BK278.out 1).trans rfl
                  have hcz71_2 : wr.cell? ⟨gb278, 2, none⟩ = some (.int .i64 ((rd_T23 x6_1 x8_1).f2)) := (blk_cell BK278.out 2).trans rfl
                  have hcz71_3 : wr.cell? ⟨gb278, 3, none⟩ = some (.int .i64 ((rd_T23 x6_1 x8_1).f3)) := (blk_cell BK278.out 3).trans rfl
                  have hfz71_0 := blk_frozen BK278.out 0
                  have hfz71_1 := blk_frozen BK278.out 1
                  have hfz71_2 := blk_frozen BK278.out 2
                  have hfz71_3 := blk_frozen BK278.out 3
                  have pdy68 : 0 ≤ (x10_2 : Int) := of_decide_eq_true as_
                  have qdy68 : (x10_2 : Int) < 4 := of_decide_eq_true as_
                  replace pdy68 := eq_true pdy68
                  replace qdy68 := eq_true qdy68
                  have hxdy68 : wr.cell? ⟨gb278, (x10_2 : Int).toNat, none⟩ = some (.int .i64 (at4 ((rd_T23 x6_1 x8_1).f0) ((rd_T23 x6_1 x8_1).f1) ((rd_T23 x6_1 x8_1).f2) ((rd_T23 x6_1 x8_1).f3) x10_2)) := blk_at4 BK278.out (of_eq_true pdy68) (of_eq_true qdy68)
                  have hfdy68 := blk_frozen BK278.out (x10_2 : Int).toNat
                  have p39 : 0 ≤ ((at4 ((rd_T23 x6_1 x8_1).f0) ((rd_T23 x6_1 x8_1).f1) ((rd_T23 x6_1 x8_1).f2) ((rd_T23 x6_1 x8_1).f3) x10_2) : Int) := of_decide_eq_true as_
                  have q39 : ((at4 ((rd_T23 x6_1 x8_1).f0) ((rd_T23 x6_1 x8_1).f1) ((rd_T23 x6_1 x8_1).f2) ((rd_T23 x6_1 x8_1).f3) x10_2) : Int) < ((x7_2.length : Int) : Int) := of_decide_eq_true as_
                  obtain ⟨go39, co39, eo39, gb39, gl39, cl39, HG39⟩ := Kd.R_form HO_7.out (by omega)
                  (first | cases eo39 | (injection eo39 with ea_ en_ ec_; (first | subst ea_ | (injection ea_ with ea_; subst ea_)); subst ec_; clear en_))
                  have hv_ := HV7.out
                  injection hv_ with ha_ hl_ hc_
                  injection ha_ with ha_
                  injection ha_ with ha_ hb_ hd_
                  subst ha_
                  have q24_ := eq_true (show _ < (24 : Int) from Int.lt_of_lt_of_le q39 (by omega))
                  have GB39 := Aside0.mk gb39
                  have GG39 := Aside0.mk HG39
                  clear gb39 gl39 HG39
                  obtain ⟨hx39_0, hf39_0⟩ := Kd.R_celln false HO_7.out ((at4 ((rd_T23 x6_1 x8_1).f0) ((rd_T23 x6_1 x8_1).f1) ((rd_T23 x6_1 x8_1).f2) ((rd_T23 x6_1 x8_1).f3) x10_2) : Int) p39 q39
                  replace p39 := eq_true p39
                  replace q39 := eq_true q39
                  have HP72 := Kd.R_putg HO_7.out ((at4 ((rd_T23 x6_1 x8_1).f0) ((rd_T23 x6_1 x8_1).f1) ((rd_T23 x6_1 x8_1).f2) ((rd_T23 x6_1 x8_1).f3) x10_2) : Int) true
                  go_upto_region 15 with (fail)
                  generalize hw : wr.setCell ⟨go39, ((at4 ((rd_T23 x6_1 x8_1).f0) ((rd_T23 x6_1 x8_1).f1) ((rd_T23 x6_1 x8_1).f2) ((rd_T23 x6_1 x8_1).f3) x10_2) : Int).toNat, none⟩ (.bool true) = w73
                  replace hw := hw.symm
                  have hg : wr.grownBy w73 (some go39) := (by rw [hw]; exact HP72.2); have hp_ : Kd.R Kd.bool 47 w73 w.heap.size (fun k_ => some k_ ≠ (v269 : Value).ownBlock) (.slice (some ⟨go39, 0, none⟩) x7_2.length co39) y279 := (by rw [hw, Ny279.out]; exact HP72.1); clear HP72; have n0_ := Aside0.mk (Kd.R_after (v := (.slice (some ⟨go39, 0, none⟩) x7_2.length co39)) (v1 := (.slice (some ⟨go39, 0, none⟩) x7_2.length co39)) (ok := (fun _ => True)) (by refine kr_ ?_; exact Kd.R_mono HO_5.out (fun _ hk => ⟨trivial, hk⟩)) hg (.inl rfl)); have n1_ := Aside0.mk (Kd.R_over' (v := (.slice (some ⟨go39, 0, none⟩) x7_2.length co39)) (by refine kr_ ?_; exact HO_6.out) (Kd.R_typed HO_7.out) (by decide) hg); have n2_ := Aside0.mk (hp_); have n3_ := Aside0.mk (blk_grown (g := gb261) (o := .cells #[.int .i64 a0_0, .int .i64 a0_1, .int .i64 a0_2, .int .i64 a0_3] 23 (0, 0)) (by refine bs_ ?_; exact BK261.out) hg (Kd.R_ne HO_7.out BK261.out (by decide))); have n4_ := Aside0.mk (blk_grown (g := gb267) (o := .cells #[.int .i64 t263, .int .i64 t264, .int .i64 t265, .int .i64 t266] 23 (0, 0)) (by refine bs_ ?_; exact BK267.out) hg (Kd.R_ne HO_7.out BK267.out (by decide))); have n5_ := Aside0.mk (blk_grown (g := gb278) (o := .cells #[.int .i64 ((rd_T23 x6_1 x8_1).f0), .int .i64 ((rd_T23 x6_1 x8_1).f1), .int .i64 ((rd_T23 x6_1 x8_1).f2), .int .i64 ((rd_T23 x6_1 x8_1).f3)] 23 (0, 0)) (by refine bs_ ?_; exact BK278.out) hg (Kd.R_ne HO_7.out BK278.out (by decide))); have n6_ := Aside0.mk ((by rw [hw]; exact below_set (HB.out) GB39.out : Below w.heap.size w w73)); clear HO_5; clear HO_6; clear HO_7; clear BK261; clear BK267; clear BK278; clear HB; have HO_5 := n0_; have HO_6 := n1_; have HO_7 := n2_; have BK261 := n3_; have BK267 := n4_; have BK278 := n5_; have HB := n6_; clear n0_ n1_ n2_ n3_ n4_ n5_ n6_; clear hg hw hp_; have hcz74_0 : w73.cell? ⟨gb278, 0, none⟩ = some (.int .i64 ((rd_T23 x6_1 x8_1).f0)) := (blk_cell BK278.out 0).trans rfl; have hcz74_1 : w73.cell? ⟨gb278, 1, none⟩ = some (.int .i64 ((rd_T23 x6_1 x8_1).f1)) := (blk_cell BK278.out 1).trans rfl; have hcz74_2 : w73.cell? ⟨gb278, 2, none⟩ = some (.int .i64 ((rd_T23 x6_1 x8_1).f2)) := (blk_cell BK278.out 2).trans rfl; have hcz74_3 : w73.cell? ⟨gb278, 3, none⟩ = some (.int .i64 ((rd_T23 x6_1 x8_1).f3)) := (blk_cell BK278.out 3).trans rfl; have hfz74_0 := blk_frozen BK278.out 0; have hfz74_1 := blk_frozen BK278.out 1; have hfz74_2 := blk_frozen BK278.out 2; have hfz74_3 := blk_frozen BK278.out 3
                  go_wp2_with (first | ((with_reducible refine gate_dst (N := 11) rfl ?_); refine box_event ?hg (N := 11) ?hd (cs := #[.int .i64 0, .int .i64 0, .int .i64 0, .int .i64 0]) (t := 23) ?hr ?_; (case hd => rfl); (case hg => rfl); (case hr => exact gs_); intro gb280 hg w75 hbox hb; have n0_ := Aside0.mk (Kd.R_below (by refine kr_ ?_; exact HO_5.out) hb); have n1_ := Aside0.mk (Kd.R_below (Kd.R_elderB (by refine kr_ ?_; exact HO_6.out) gb280 (Nat.le_of_eq hg.symm)) hb); have n2_ := Aside0.mk (Kd.R_below (by refine kr_ ?_; exact HO_7.out) hb); have n3_ := Aside0.mk (blk_below (g := gb261) (o := .cells #[.int .i64 a0_0, .int .i64 a0_1, .int .i64 a0_2, .int .i64 a0_3] 23 (0, 0)) (by refine bs_ ?_; exact BK261.out) hb); have n4_ := Aside0.mk (blk_below (g := gb267) (o := .cells #[.int .i64 t263, .int .i64 t264, .int .i64 t265, .int .i64 t266] 23 (0, 0)) (by refine bs_ ?_; exact BK267.out) hb); have n5_ := Aside0.mk (blk_below (g := gb278) (o := .cells #[.int .i64 ((rd_T23 x6_1 x8_1).f0), .int .i64 ((rd_T23 x6_1 x8_1).f1), .int .i64 ((rd_T23 x6_1 x8_1).f2), .int .i64 ((rd_T23 x6_1 x8_1).f3)] 23 (0, 0)) (by refine bs_ ?_; exact BK278.out) hb); have n6_ := Aside0.mk (below_step (by repeat (first | (with_reducible first | exact HB.out | apply below_alloc | apply pw_below_drewN | apply below_drew1 | refine below_set ?_ GE261.out | refine below_set ?_ GE267.out | refine below_set ?_ GE278.out) | exact HB.out)) hb); have n7_ := Aside0.mk (hbox); have n8_ := Aside0.mk ((by rw [hg]; exact (below_size (by repeat (first | (with_reducible first | exact HB.out | apply below_alloc | apply pw_below_drewN | apply below_drew1 | refine below_set ?_ GE261.out | refine below_set ?_ GE267.out | refine below_set ?_ GE278.out) | exact HB.out))) : w.heap.size ≤ gb280)); have n9_ := Aside0.mk ((by rw [hg]; exact (below_size (by repeat (first | (with_reducible first | exact HB.out | apply below_alloc | apply pw_below_drewN | apply below_drew1 | refine below_set ?_ GE261.out | refine below_set ?_ GE267.out | refine below_set ?_ GE278.out) | exact HB.out))) : w.heap.size ≤ gb280)); have n10_ := Aside0.mk ((by rw [hg]; exact Nat.ne_of_lt (blk_lt (g := gb261) (o := .cells #[.int .i64 a0_0, .int .i64 a0_1, .int .i64 a0_2, .int .i64 a0_3] 23 (0, 0)) (by refine bs_ ?_; exact BK261.out)) : gb261 ≠ gb280)); have n11_ := Aside0.mk ((by rw [hg]; exact Nat.ne_of_gt (blk_lt (g := gb261) (o := .cells #[.int .i64 a0_0, .int .i64 a0_1, .int .i64 a0_2, .int .i64 a0_3] 23 (0, 0)) (by refine bs_ ?_; exact BK261.out)) : gb280 ≠ gb261)); have n12_ := Aside0.mk ((by rw [hg]; exact Nat.ne_of_lt (blk_lt (g := gb267) (o := .cells #[.int .i64 t263, .int .i64 t264, .int .i64 t265, .int .i64 t266] 23 (0, 0)) (by refine bs_ ?_; exact BK267.out)) : gb267 ≠ gb280)); have n13_ := Aside0.mk ((by rw [hg]; exact Nat.ne_of_gt (blk_lt (g := gb267) (o := .cells #[.int .i64 t263, .int .i64 t264, .int .i64 t265, .int .i64 t266] 23 (0, 0)) (by refine bs_ ?_; exact BK267.out)) : gb280 ≠ gb267)); have n14_ := Aside0.mk ((by rw [hg]; exact Nat.ne_of_lt (blk_lt (g := gb278) (o := .cells #[.int .i64 ((rd_T23 x6_1 x8_1).f0), .int .i64 ((rd_T23 x6_1 x8_1).f1), .int .i64 ((rd_T23 x6_1 x8_1).f2), .int .i64 ((rd_T23 x6_1 x8_1).f3)] 23 (0, 0)) (by refine bs_ ?_; exact BK278.out)) : gb278 ≠ gb280)); have n15_ := Aside0.mk ((by rw [hg]; exact Nat.ne_of_gt (blk_lt (g := gb278) (o := .cells #[.int .i64 ((rd_T23 x6_1 x8_1).f0), .int .i64 ((rd_T23 x6_1 x8_1).f1), .int .i64 ((rd_T23 x6_1 x8_1).f2), .int .i64 ((rd_T23 x6_1 x8_1).f3)] 23 (0, 0)) (by refine bs_ ?_; exact BK278.out)) : gb280 ≠ gb278)); clear HO_5; clear HO_6; clear HO_7; clear BK261; clear BK267; clear BK278; clear HB; have HO_5 := n0_; have HO_6 := n1_; have HO_7 := n2_; have BK261 := n3_; have BK267 := n4_; have BK278 := n5_; have HB := n6_; have BK280 := n7_; have GW280 := n8_; have GE280 := n9_; have NB261_280 := n10_; have NB280_261 := n11_; have NB267_280 := n12_; have NB280_267 := n13_; have NB278_280 := n14_; have NB280_278 := n15_; clear n0_ n1_ n2_ n3_ n4_ n5_ n6_ n7_ n8_ n9_ n10_ n11_ n12_ n13_ n14_ n15_; clear hb hbox hg; have hnb76 := NB280_261.out; have hnc76 := NB261_280.out; have hnb77 := NB280_267.out; have hnc77 := NB267_280.out; have hnb78 := NB280_278.out; have hnc78 := NB278_280.out; have hcz79_0 : w75.cell? ⟨gb280, 0, none⟩ = some (.int .i64 0) := (blk_cell BK280.out 0).trans rfl; have hcz79_1 : w75.cell? ⟨gb280, 1, none⟩ = some (.int .i64 0) := (blk_cell BK280.out 1).trans rfl; have hcz79_2 : w75.cell? ⟨gb280, 2, none⟩ = some (.int .i64 0) := (blk_cell BK280.out 2).trans rfl; have hcz79_3 : w75.cell? ⟨gb280, 3, none⟩ = some (.int .i64 0) := (blk_cell BK280.out 3).trans rfl; have hfz79_0 := blk_frozen BK280.out 0; have hfz79_1 := blk_frozen BK280.out 1; have hfz79_2 := blk_frozen BK280.out 2; have hfz79_3 := blk_frozen BK280.out 3; have hcz80_0 : w75.cell? ⟨gb278, 0, none⟩ = some (.int .i64 ((rd_T23 x6_1 x8_1).f0)) := (blk_cell BK278.out 0).trans rfl; have hcz80_1 : w75.cell? ⟨gb278, 1, none⟩ = some (.int .i64 ((rd_T23 x6_1 x8_1).f1)) := (blk_cell BK278.out 1).trans rfl; have hcz80_2 : w75.cell? ⟨gb278, 2, none⟩ = some (.int .i64 ((rd_T23 x6_1 x8_1).f2)) := (blk_cell BK278.out 2).trans rfl; have hcz80_3 : w75.cell? ⟨gb278, 3, none⟩ = some (.int .i64 ((rd_T23 x6_1 x8_1).f3)) := (blk_cell BK278.out 3).trans rfl; have hfz80_0 := blk_frozen BK278.out 0; have hfz80_1 := blk_frozen BK278.out 1; have hfz80_2 := blk_frozen BK278.out 2; have hfz80_3 := blk_frozen BK278.out 3) | ((with_reducible refine gate_callee (f := 31) rfl ?_); refine goesL_ (some 56) rfl rfl Try.func31 (by kernel_rfl) rfl #[.agg #[.int .i64 ((rd_T23 x6_1 x8_1).f0), .int .i64 ((rd_T23 x6_1 x8_1).f1), .int .i64 ((rd_T23 x6_1 x8_1).f2), .int .i64 ((rd_T23 x6_1 x8_1).f3)], .int .i64 x10_2] rfl mp_ ?_; (with_reducible refine (clocheref01_Turned.calls k2 ((rd_T23 x6_1 x8_1).f0) ((rd_T23 x6_1 x8_1).f1) ((rd_T23 x6_1 x8_1).f2) ((rd_T23 x6_1 x8_1).f3) x10_2 t281 _ A40.out).mono ?_); rintro e w81 ⟨rfl, hb⟩; refine ⟨_, rfl, ?_⟩; have n0_ := Aside0.mk (Kd.R_below (by refine kr_ ?_; exact (Kd.R_mono (Kd.R_far (p := ⟨gb280, 3, none⟩) (Kd.R_far (p := ⟨gb280, 2, none⟩) (Kd.R_far (p := ⟨gb280, 1, none⟩) (Kd.R_far (p := ⟨gb280, 0, none⟩) (Kd.R_types HO_5.out BK280.out (by decide)) (fun _ hk => hk.2) (.int .i64 ((rd_T23 x6_1 x8_1).f0))) (fun _ hk => hk.2) (.int .i64 ((rd_T23 x6_1 x8_1).f1))) (fun _ hk => hk.2) (.int .i64 ((rd_T23 x6_1 x8_1).f2))) (fun _ hk => hk.2) (.int .i64 ((rd_T23 x6_1 x8_1).f3))) (fun _ h_ => h_.1))) hb); have n1_ := Aside0.mk (Kd.R_below (by refine kr_ ?_; exact (Kd.R_mono (Kd.R_far (p := ⟨gb280, 3, none⟩) (Kd.R_far (p := ⟨gb280, 2, none⟩) (Kd.R_far (p := ⟨gb280, 1, none⟩) (Kd.R_far (p := ⟨gb280, 0, none⟩) (Kd.R_mono HO_6.out (fun k_ hk => (⟨hk, by first | exact hk.2 | exact hk.2.2.2⟩ : _ ∧ k_ ≠ gb280))) (fun _ hk => hk.2) (.int .i64 ((rd_T23 x6_1 x8_1).f0))) (fun _ hk => hk.2) (.int .i64 ((rd_T23 x6_1 x8_1).f1))) (fun _ hk => hk.2) (.int .i64 ((rd_T23 x6_1 x8_1).f2))) (fun _ hk => hk.2) (.int .i64 ((rd_T23 x6_1 x8_1).f3))) (fun _ h_ => h_.1))) hb); have n2_ := Aside0.mk (Kd.R_below (by refine kr_ ?_; exact (Kd.R_mono (Kd.R_far (p := ⟨gb280, 3, none⟩) (Kd.R_far (p := ⟨gb280, 2, none⟩) (Kd.R_far (p := ⟨gb280, 1, none⟩) (Kd.R_far (p := ⟨gb280, 0, none⟩) (Kd.R_types HO_7.out BK280.out (by decide)) (fun _ hk => hk.2) (.int .i64 ((rd_T23 x6_1 x8_1).f0))) (fun _ hk => hk.2) (.int .i64 ((rd_T23 x6_1 x8_1).f1))) (fun _ hk => hk.2) (.int .i64 ((rd_T23 x6_1 x8_1).f2))) (fun _ hk => hk.2) (.int .i64 ((rd_T23 x6_1 x8_1).f3))) (fun _ h_ => h_.1))) hb); have n3_ := Aside0.mk (blk_below (g := gb261) (o := .cells #[.int .i64 a0_0, .int .i64 a0_1, .int .i64 a0_2, .int .i64 a0_3] 23 (0, 0)) (by refine bs_ ?_; refine blk_far ?_ NB261_280.out _; refine bs_ ?_; refine blk_far ?_ NB261_280.out _; refine bs_ ?_; refine blk_far ?_ NB261_280.out _; refine bs_ ?_; refine blk_far ?_ NB261_280.out _; refine bs_ ?_; exact BK261.out) hb); have n4_ := Aside0.mk (blk_below (g := gb267) (o := .cells #[.int .i64 t263, .int .i64 t264, .int .i64 t265, .int .i64 t266] 23 (0, 0)) (by refine bs_ ?_; refine blk_far ?_ NB267_280.out _; refine bs_ ?_; refine blk_far ?_ NB267_280.out _; refine bs_ ?_; refine blk_far ?_ NB267_280.out _; refine bs_ ?_; refine blk_far ?_ NB267_280.out _; refine bs_ ?_; exact BK267.out) hb); have n5_ := Aside0.mk (blk_below (g := gb278) (o := .cells #[.int .i64 ((rd_T23 x6_1 x8_1).f0), .int .i64 ((rd_T23 x6_1 x8_1).f1), .int .i64 ((rd_T23 x6_1 x8_1).f2), .int .i64 ((rd_T23 x6_1 x8_1).f3)] 23 (0, 0)) (by refine bs_ ?_; refine blk_far ?_ NB278_280.out _; refine bs_ ?_; refine blk_far ?_ NB278_280.out _; refine bs_ ?_; refine blk_far ?_ NB278_280.out _; refine bs_ ?_; refine blk_far ?_ NB278_280.out _; refine bs_ ?_; exact BK278.out) hb); have n6_ := Aside0.mk (blk_below (g := gb280) (o := .cells #[.int .i64 ((rd_T23 x6_1 x8_1).f0), .int .i64 ((rd_T23 x6_1 x8_1).f1), .int .i64 ((rd_T23 x6_1 x8_1).f2), .int .i64 ((rd_T23 x6_1 x8_1).f3)] 23 (0, 0)) (by refine bs_ ?_; refine blk_put (cs := #[.int .i64 ((rd_T23 x6_1 x8_1).f0), .int .i64 ((rd_T23 x6_1 x8_1).f1), .int .i64 ((rd_T23 x6_1 x8_1).f2), .int .i64 0]) ?_ 3 _ rfl; refine bs_ ?_; refine blk_put (cs := #[.int .i64 ((rd_T23 x6_1 x8_1).f0), .int .i64 ((rd_T23 x6_1 x8_1).f1), .int .i64 0, .int .i64 0]) ?_ 2 _ rfl; refine bs_ ?_; refine blk_put (cs := #[.int .i64 ((rd_T23 x6_1 x8_1).f0), .int .i64 0, .int .i64 0, .int .i64 0]) ?_ 1 _ rfl; refine bs_ ?_; refine blk_put (cs := #[.int .i64 0, .int .i64 0, .int .i64 0, .int .i64 0]) ?_ 0 _ rfl; refine bs_ ?_; exact BK280.out) hb); have n7_ := Aside0.mk (below_step (by repeat (first | (with_reducible first | exact HB.out | apply below_alloc | apply pw_below_drewN | apply below_drew1 | refine below_set ?_ GE261.out | refine below_set ?_ GE267.out | refine below_set ?_ GE278.out | refine below_set ?_ GE280.out) | exact HB.out)) hb); clear HO_5; clear HO_6; clear HO_7; clear BK261; clear BK267; clear BK278; clear BK280; clear HB; have HO_5 := n0_; have HO_6 := n1_; have HO_7 := n2_; have BK261 := n3_; have BK267 := n4_; have BK278 := n5_; have BK280 := n6_; have HB := n7_; clear n0_ n1_ n2_ n3_ n4_ n5_ n6_ n7_; (try clear hb); (try clear hb2); (try clear hk); (try clear hi)) | ((with_reducible refine gate_callee (f := 55) rfl ?_); refine goesL_ (some 57) rfl rfl Try.func55 (by kernel_rfl) rfl #[.int .i64 t281] rfl mp_ ?_; (with_reducible refine (clocheref01_rest.calls t281 t282 _ A41.out).mono ?_); rintro e w' ⟨rfl, ⟨nd, rfl⟩⟩; refine ⟨_, rfl, ?_⟩; (try (rw [drewN_self w81]; generalize hq_ : World.drewN w81 _ = w81; have n0_ : Aside0 (Kd.R Kd.bool 4 w81 w.heap.size (fun k_ => some k_ ≠ (.slice (some ⟨go39, 0, none⟩) x7_2.length co39 : Value).ownBlock) v269 x5_2) := ⟨by rw [← hq_]; exact (by refine kr_ ?_; exact Kd.R_mono HO_5.out (fun _ hk => hk.2))⟩; have n1_ : Aside0 (Kd.R k23 23 w81 w.heap.size (fun k_ => k_ ≠ gb261 ∧ k_ ≠ gb267 ∧ k_ ≠ gb278 ∧ k_ ≠ gb280) u6 x6_2) := ⟨by rw [← hq_]; exact (by refine kr_ ?_; exact Kd.R_mono HO_6.out (fun _ hk => ⟨hk.1.1, ⟨hk.1.2.1, ⟨hk.1.2.2, hk.2⟩⟩⟩))⟩; have n2_ : Aside0 (Kd.R Kd.bool 47 w81 w.heap.size (fun k_ => some k_ ≠ (v269 : Value).ownBlock) (.slice (some ⟨go39, 0, none⟩) x7_2.length co39) y279) := ⟨by rw [← hq_]; exact (by refine kr_ ?_; exact HO_7.out)⟩; have n3_ : Aside0 (w81.heap[gb261]? = some (.cells #[.int .i64 a0_0, .int .i64 a0_1, .int .i64 a0_2, .int .i64 a0_3] 23 (0, 0))) := ⟨by rw [← hq_]; exact (by refine bs_ ?_; exact BK261.out)⟩; have n4_ : Aside0 (w81.heap[gb267]? = some (.cells #[.int .i64 t263, .int .i64 t264, .int .i64 t265, .int .i64 t266] 23 (0, 0))) := ⟨by rw [← hq_]; exact (by refine bs_ ?_; exact BK267.out)⟩; have n5_ : Aside0 (w81.heap[gb278]? = some (.cells #[.int .i64 ((rd_T23 x6_1 x8_1).f0), .int .i64 ((rd_T23 x6_1 x8_1).f1), .int .i64 ((rd_T23 x6_1 x8_1).f2), .int .i64 ((rd_T23 x6_1 x8_1).f3)] 23 (0, 0))) := ⟨by rw [← hq_]; exact (by refine bs_ ?_; exact BK278.out)⟩; have n6_ : Aside0 (w81.heap[gb280]? = some (.cells #[.int .i64 ((rd_T23 x6_1 x8_1).f0), .int .i64 ((rd_T23 x6_1 x8_1).f1), .int .i64 ((rd_T23 x6_1 x8_1).f2), .int .i64 ((rd_T23 x6_1 x8_1).f3)] 23 (0, 0))) := ⟨by rw [← hq_]; exact (by refine bs_ ?_; exact BK280.out)⟩; have n7_ : Aside0 (Below w.heap.size w w81) := ⟨by rw [← hq_]; exact (by repeat (first | (with_reducible first | exact HB.out | apply below_alloc | apply pw_below_drewN | apply below_drew1 | refine below_set ?_ GE261.out | refine below_set ?_ GE267.out | refine below_set ?_ GE278.out | refine below_set ?_ GE280.out) | exact HB.out))⟩; clear HO_5 HO_6 HO_7 BK261 BK267 BK278 BK280 HB hq_; have HO_5 := n0_; have HO_6 := n1_; have HO_7 := n2_; have BK261 := n3_; have BK267 := n4_; have BK278 := n5_; have BK280 := n6_; have HB := n7_; clear n0_ n1_ n2_ n3_ n4_ n5_ n6_ n7_)); have hcz83_0 : w81.cell? ⟨gb280, 0, none⟩ = some (.int .i64 ((rd_T23 x6_1 x8_1).f0)) := (blk_cell BK280.out 0).trans rfl; have hcz83_1 : w81.cell? ⟨gb280, 1, none⟩ = some (.int .i64 ((rd_T23 x6_1 x8_1).f1)) := (blk_cell BK280.out 1).trans rfl; have hcz83_2 : w81.cell? ⟨gb280, 2, none⟩ = some (.int .i64 ((rd_T23 x6_1 x8_1).f2)) := (blk_cell BK280.out 2).trans rfl; have hcz83_3 : w81.cell? ⟨gb280, 3, none⟩ = some (.int .i64 ((rd_T23 x6_1 x8_1).f3)) := (blk_cell BK280.out 3).trans rfl; have hfz83_0 := blk_frozen BK280.out 0; have hfz83_1 := blk_frozen BK280.out 1; have hfz83_2 := blk_frozen BK280.out 2; have hfz83_3 := blk_frozen BK280.out 3; have pdy82 : 0 ≤ (x10_2 : Int) := of_decide_eq_true as_; have qdy82 : (x10_2 : Int) < 4 := of_decide_eq_true as_; replace pdy82 := eq_true pdy82; replace qdy82 := eq_true qdy82; have hxdy82 : w81.cell? ⟨gb280, (x10_2 : Int).toNat, none⟩ = some (.int .i64 (at4 ((rd_T23 x6_1 x8_1).f0) ((rd_T23 x6_1 x8_1).f1) ((rd_T23 x6_1 x8_1).f2) ((rd_T23 x6_1 x8_1).f3) x10_2)) := blk_at4 BK280.out (of_eq_true pdy82) (of_eq_true qdy82); have hfdy82 := blk_frozen BK280.out (x10_2 : Int).toNat) | ((with_reducible refine gate_store (t := 3) (p := 58) rfl ?_); have hxdy82 : w81.cell? ⟨gb280, (x10_2 : Int).toNat, none⟩ = some (.int .i64 (at4 ((rd_T23 x6_1 x8_1).f0) ((rd_T23 x6_1 x8_1).f1) ((rd_T23 x6_1 x8_1).f2) ((rd_T23 x6_1 x8_1).f3) x10_2)) := blk_at4 BK280.out (of_eq_true pdy82) (of_eq_true qdy82); have hfdy82 := blk_frozen BK280.out (x10_2 : Int).toNat; refine store_event (t := 3) (p := 58) (v := ?vo_w84) (w1 := (w81.setCell ⟨gb280, (x10_2 : Int).toNat, none⟩ (.int .i64 t282))) ?hg ?ho ?hn ?hr ?_; (case ho => rfl); (case hg => rfl); (case hn => rfl); (case hr => exact gs_); intro w84 hw; have n0_ : Aside0 (Kd.R Kd.bool 4 w84 w.heap.size (fun k_ => some k_ ≠ (.slice (some ⟨go39, 0, none⟩) x7_2.length co39 : Value).ownBlock) v269 x5_2) := ⟨(by rw [hw]; exact (by refine kr_ ?_; exact Kd.R_mono (Kd.R_far (p := ⟨gb280, (x10_2 : Int).toNat, none⟩) (Kd.R_types HO_5.out BK280.out (by decide)) (fun _ hk => hk.2) (.int .i64 t282)) (fun _ hk => by first | exact hk.1.2 | exact hk.1)))⟩; have n1_ : Aside0 (Kd.R k23 23 w84 w.heap.size (fun k_ => k_ ≠ gb261 ∧ k_ ≠ gb267 ∧ k_ ≠ gb278 ∧ k_ ≠ gb280) u6 x6_2) := ⟨(by rw [hw]; exact (by refine kr_ ?_; exact Kd.R_mono (Kd.R_far (p := ⟨gb280, (x10_2 : Int).toNat, none⟩) (Kd.R_mono HO_6.out (fun k_ hk => (⟨hk, by first | exact hk.2 | exact hk.2.2.2⟩ : _ ∧ k_ ≠ gb280))) (fun _ hk => hk.2) (.int .i64 t282)) (fun _ hk => by first | exact ⟨hk.1.1.1, ⟨hk.1.1.2.1, ⟨hk.1.1.2.2, hk.1.2⟩⟩⟩ | exact hk.1)))⟩; have n2_ : Aside0 (Kd.R Kd.bool 47 w84 w.heap.size (fun k_ => some k_ ≠ (v269 : Value).ownBlock) (.slice (some ⟨go39, 0, none⟩) x7_2.length co39) y279) := ⟨(by rw [hw]; exact (by refine kr_ ?_; exact Kd.R_mono (Kd.R_far (p := ⟨gb280, (x10_2 : Int).toNat, none⟩) (Kd.R_types HO_7.out BK280.out (by decide)) (fun _ hk => hk.2) (.int .i64 t282)) (fun _ hk => hk.1)))⟩; have n3_ : Aside0 (w84.heap[gb261]? = some (.cells #[.int .i64 a0_0, .int .i64 a0_1, .int .i64 a0_2, .int .i64 a0_3] 23 (0, 0))) := ⟨(by rw [hw]; exact (by refine bs_ ?_; refine blk_far ?_ NB261_280.out _; refine bs_ ?_; exact BK261.out))⟩; have n4_ : Aside0 (w84.heap[gb267]? = some (.cells #[.int .i64 t263, .int .i64 t264, .int .i64 t265, .int .i64 t266] 23 (0, 0))) := ⟨(by rw [hw]; exact (by refine bs_ ?_; refine blk_far ?_ NB267_280.out _; refine bs_ ?_; exact BK267.out))⟩; have n5_ : Aside0 (w84.heap[gb278]? = some (.cells #[.int .i64 ((rd_T23 x6_1 x8_1).f0), .int .i64 ((rd_T23 x6_1 x8_1).f1), .int .i64 ((rd_T23 x6_1 x8_1).f2), .int .i64 ((rd_T23 x6_1 x8_1).f3)] 23 (0, 0))) := ⟨(by rw [hw]; exact (by refine bs_ ?_; refine blk_far ?_ NB278_280.out _; refine bs_ ?_; exact BK278.out))⟩; have n6_ : Aside0 (w84.heap[gb280]? = some (.cells #[.int .i64 (pt4 0 ((rd_T23 x6_1 x8_1).f0) x10_2 t282), .int .i64 (pt4 1 ((rd_T23 x6_1 x8_1).f1) x10_2 t282), .int .i64 (pt4 2 ((rd_T23 x6_1 x8_1).f2) x10_2 t282), .int .i64 (pt4 3 ((rd_T23 x6_1 x8_1).f3) x10_2 t282)] 23 (0, 0))) := ⟨(by rw [hw]; exact (by refine bs_ ?_; refine blk_put (cs := #[.int .i64 ((rd_T23 x6_1 x8_1).f0), .int .i64 ((rd_T23 x6_1 x8_1).f1), .int .i64 ((rd_T23 x6_1 x8_1).f2), .int .i64 ((rd_T23 x6_1 x8_1).f3)]) ?_ (x10_2 : Int).toNat _ (set4i _ _ _ _ _ _ (of_eq_true pdy82) (of_eq_true qdy82)); refine bs_ ?_; exact BK280.out))⟩; have n7_ : Aside0 (Below w.heap.size w w84) := ⟨(by rw [hw]; exact (by repeat (first | (with_reducible first | exact HB.out | apply below_alloc | apply pw_below_drewN | apply below_drew1 | refine below_set ?_ GE261.out | refine below_set ?_ GE267.out | refine below_set ?_ GE278.out | refine below_set ?_ GE280.out) | exact HB.out)))⟩; clear hw; clear HO_5; clear HO_6; clear HO_7; clear BK261; clear BK267; clear BK278; clear BK280; clear HB; have HO_5 := n0_; have HO_6 := n1_; have HO_7 := n2_; have BK261 := n3_; have BK267 := n4_; have BK278 := n5_; have BK280 := n6_; have HB := n7_; clear n0_ n1_ n2_ n3_ n4_ n5_ n6_ n7_; have hcz85_0 : w84.cell? ⟨gb280, 0, none⟩ = some (.int .i64 (pt4 0 ((rd_T23 x6_1 x8_1).f0) x10_2 t282)) := (blk_cell BK280.out 0).trans rfl; have hcz85_1 : w84.cell? ⟨gb280, 1, none⟩ = some (.int .i64 (pt4 1 ((rd_T23 x6_1 x8_1).f1) x10_2 t282)) := (blk_cell BK280.out 1).trans rfl; have hcz85_2 : w84.cell? ⟨gb280, 2, none⟩ = some (.int .i64 (pt4 2 ((rd_T23 x6_1 x8_1).f2) x10_2 t282)) := (blk_cell BK280.out 2).trans rfl; have hcz85_3 : w84.cell? ⟨gb280, 3, none⟩ = some (.int .i64 (pt4 3 ((rd_T23 x6_1 x8_1).f3) x10_2 t282)) := (blk_cell BK280.out 3).trans rfl; have hfz85_0 := blk_frozen BK280.out 0; have hfz85_1 := blk_frozen BK280.out 1; have hfz85_2 := blk_frozen BK280.out 2; have hfz85_3 := blk_frozen BK280.out 3; obtain ⟨Ao86, co86, eo86⟩ := Kd.R_slice HO_5.out; subst eo86; have p283 : 0 ≤ ((ji42) : Int) := of_decide_eq_true as_; have q283 : (ji42) < (x5_2.length : Int) := of_decide_eq_true as_; obtain ⟨ad283, e283, hx283_0⟩ := Kd.at_bool (Kd.R_reads' HO_5.out).2.2 (ji42) p283 q283; (try rw [← Nbq45.out] at hx283_0); cases e283; replace p283 := eq_true p283; replace q283 := eq_true q283; have p66 : 0 ≤ ((ji42) : Int) := of_decide_eq_true as_; have q66 : ((ji42) : Int) < ((x5_2.length : Int) : Int) := of_decide_eq_true as_; obtain ⟨go66, co66, eo66, gb66, gl66, cl66, HG66⟩ := Kd.R_form HO_5.out (by omega); (first | cases eo66 | (injection eo66 with ea_ en_ ec_; (first | subst ea_ | (injection ea_ with ea_; subst ea_)); subst ec_; clear en_)); have GB66 := Aside0.mk gb66; have GG66 := Aside0.mk HG66; clear gb66 gl66 HG66; (first | simp only [add_plain] at hx283_0 | skip); obtain ⟨hx66_0, hf66_0⟩ := Kd.R_celln false HO_5.out ((ji42) : Int) p66 q66; replace p66 := eq_true p66; replace q66 := eq_true q66; obtain ⟨hy87_, hz87_⟩ := Kd.R_celln false HO_5.out ((ji42) : Int) (of_decide_eq_true as_) (of_decide_eq_true as_); have HP87 := Kd.R_putg HO_5.out ((ji42) : Int) true) | ((with_reducible refine gate_store (t := 4) (p := 80) rfl ?_); refine store_event (t := 4) (p := 80) (v := ?vo_w88) (w1 := (w84.setCell ⟨go66, ((ji42) : Int).toNat, none⟩ (.bool true))) ?hg ?ho ?hn ?hr ?_; (case ho => rfl); (case hg => rfl); (case hn => rfl); (case hr => exact gs_); intro w88 hw; have hg : w84.grownBy w88 (some go66) := (by rw [hw]; exact HP87.2); have hp_ : Kd.R Kd.bool 4 w88 w.heap.size (fun k_ => some k_ ≠ (.slice (some ⟨go39, 0, none⟩) x7_2.length co39 : Value).ownBlock) (.slice (some ⟨go66, 0, none⟩) x5_2.length co86) y284 := (by rw [hw, Ny284.out]; exact HP87.1); clear HP87; have n0_ := Aside0.mk (hp_); have n1_ := Aside0.mk (Kd.R_over' (v := (.slice (some ⟨go66, 0, none⟩) x5_2.length co86)) (by refine kr_ ?_; exact HO_6.out) (Kd.R_typed HO_5.out) (by decide) hg); have n2_ := Aside0.mk (Kd.R_after (v := (.slice (some ⟨go66, 0, none⟩) x5_2.length co86)) (v1 := (.slice (some ⟨go66, 0, none⟩) x5_2.length co86)) (ok := (fun _ => True)) (by refine kr_ ?_; exact Kd.R_mono HO_7.out (fun _ hk => ⟨trivial, hk⟩)) hg (.inl rfl)); have n3_ := Aside0.mk (blk_grown (g := gb261) (o := .cells #[.int .i64 a0_0, .int .i64 a0_1, .int .i64 a0_2, .int .i64 a0_3] 23 (0, 0)) (by refine bs_ ?_; exact BK261.out) hg (Kd.R_ne HO_5.out BK261.out (by decide))); have n4_ := Aside0.mk (blk_grown (g := gb267) (o := .cells #[.int .i64 t263, .int .i64 t264, .int .i64 t265, .int .i64 t266] 23 (0, 0)) (by refine bs_ ?_; exact BK267.out) hg (Kd.R_ne HO_5.out BK267.out (by decide))); have n5_ := Aside0.mk (blk_grown (g := gb278) (o := .cells #[.int .i64 ((rd_T23 x6_1 x8_1).f0), .int .i64 ((rd_T23 x6_1 x8_1).f1), .int .i64 ((rd_T23 x6_1 x8_1).f2), .int .i64 ((rd_T23 x6_1 x8_1).f3)] 23 (0, 0)) (by refine bs_ ?_; exact BK278.out) hg (Kd.R_ne HO_5.out BK278.out (by decide))); have n6_ := Aside0.mk (blk_grown (g := gb280) (o := .cells #[.int .i64 (pt4 0 ((rd_T23 x6_1 x8_1).f0) x10_2 t282), .int .i64 (pt4 1 ((rd_T23 x6_1 x8_1).f1) x10_2 t282), .int .i64 (pt4 2 ((rd_T23 x6_1 x8_1).f2) x10_2 t282), .int .i64 (pt4 3 ((rd_T23 x6_1 x8_1).f3) x10_2 t282)] 23 (0, 0)) (by refine bs_ ?_; exact BK280.out) hg (Kd.R_ne HO_5.out BK280.out (by decide))); have n7_ := Aside0.mk ((by rw [hw]; exact below_set (HB.out) GB66.out : Below w.heap.size w w88)); clear HO_5; clear HO_6; clear HO_7; clear BK261; clear BK267; clear BK278; clear BK280; clear HB; have HO_5 := n0_; have HO_6 := n1_; have HO_7 := n2_; have BK261 := n3_; have BK267 := n4_; have BK278 := n5_; have BK280 := n6_; have HB := n7_; clear n0_ n1_ n2_ n3_ n4_ n5_ n6_ n7_; clear hg hw hp_; have hcz89_0 : w88.cell? ⟨gb280, 0, none⟩ = some (.int .i64 (pt4 0 ((rd_T23 x6_1 x8_1).f0) x10_2 t282)) := (blk_cell BK280.out 0).trans rfl; have hcz89_1 : w88.cell? ⟨gb280, 1, none⟩ = some (.int .i64 (pt4 1 ((rd_T23 x6_1 x8_1).f1) x10_2 t282)) := (blk_cell BK280.out 1).trans rfl; have hcz89_2 : w88.cell? ⟨gb280, 2, none⟩ = some (.int .i64 (pt4 2 ((rd_T23 x6_1 x8_1).f2) x10_2 t282)) := (blk_cell BK280.out 2).trans rfl; have hcz89_3 : w88.cell? ⟨gb280, 3, none⟩ = some (.int .i64 (pt4 3 ((rd_T23 x6_1 x8_1).f3) x10_2 t282)) := (blk_cell BK280.out 3).trans rfl; have hfz89_0 := blk_frozen BK280.out 0; have hfz89_1 := blk_frozen BK280.out 1; have hfz89_2 := blk_frozen BK280.out 2; have hfz89_3 := blk_frozen BK280.out 3) | ((with_reducible refine gate_builtin (b := .append) (xs := #[.tmp 81, .tmp 83]) rfl ?_); at_builtin; refine Kd.R_append k23 (w0 := w) w.heap.size rfl (.tmp 81) (.tmp 83) 31 23 (.agg #[(.int .i64 0), (.int .i64 0), (.int .i64 0), (.int .i64 0)]) 32 rfl Try.underlying31 info23 rfl (by decide) (by omega) u6 x6_2 (⟨pt4 0 ((rd_T23 x6_1 x8_1).f0) x10_2 t282, pt4 1 ((rd_T23 x6_1 x8_1).f1) x10_2 t282, pt4 2 ((rd_T23 x6_1 x8_1).f2) x10_2 t282, pt4 3 ((rd_T23 x6_1 x8_1).f3) x10_2 t282⟩ : S23) [.int .i64 (pt4 0 ((rd_T23 x6_1 x8_1).f0) x10_2 t282), .int .i64 (pt4 1 ((rd_T23 x6_1 x8_1).f1) x10_2 t282), .int .i64 (pt4 2 ((rd_T23 x6_1 x8_1).f2) x10_2 t282), .int .i64 (pt4 3 ((rd_T23 x6_1 x8_1).f3) x10_2 t282)] (fun k_ => k_ ≠ gb261 ∧ k_ ≠ gb267 ∧ k_ ≠ gb278 ∧ k_ ≠ gb280) (fun _ => False) rfl rfl ?aP (fun _ hk => hk.elim) ?aF ?aO ?aB ?aS ?aL ?_; (case aP => exact k23_mkM _ _ _ (⟨pt4 0 ((rd_T23 x6_1 x8_1).f0) x10_2 t282, pt4 1 ((rd_T23 x6_1 x8_1).f1) x10_2 t282, pt4 2 ((rd_T23 x6_1 x8_1).f2) x10_2 t282, pt4 3 ((rd_T23 x6_1 x8_1).f3) x10_2 t282⟩ : S23)); (case aB => exact (by repeat (first | (with_reducible first | exact HB.out | apply below_alloc | apply pw_below_drewN | apply below_drew1 | refine below_set ?_ GE261.out | refine below_set ?_ GE267.out | refine below_set ?_ GE278.out | refine below_set ?_ GE280.out) | exact HB.out))); (case aF => exact (fun k_ hk => ⟨Kd.freshB (g := gb261) (o := .cells #[.int .i64 a0_0, .int .i64 a0_1, .int .i64 a0_2, .int .i64 a0_3] 23 (0, 0)) (by refine bs_ ?_; exact BK261.out) k_ hk, Kd.freshB (g := gb267) (o := .cells #[.int .i64 t263, .int .i64 t264, .int .i64 t265, .int .i64 t266] 23 (0, 0)) (by refine bs_ ?_; exact BK267.out) k_ hk, Kd.freshB (g := gb278) (o := .cells #[.int .i64 ((rd_T23 x6_1 x8_1).f0), .int .i64 ((rd_T23 x6_1 x8_1).f1), .int .i64 ((rd_T23 x6_1 x8_1).f2), .int .i64 ((rd_T23 x6_1 x8_1).f3)] 23 (0, 0)) (by refine bs_ ?_; exact BK278.out) k_ hk, Kd.freshB (g := gb280) (o := .cells #[.int .i64 (pt4 0 ((rd_T23 x6_1 x8_1).f0) x10_2 t282), .int .i64 (pt4 1 ((rd_T23 x6_1 x8_1).f1) x10_2 t282), .int .i64 (pt4 2 ((rd_T23 x6_1 x8_1).f2) x10_2 t282), .int .i64 (pt4 3 ((rd_T23 x6_1 x8_1).f3) x10_2 t282)] 23 (0, 0)) (by refine bs_ ?_; exact BK280.out) k_ hk⟩)); (case aO => exact (by refine kr_ ?_; exact HO_6.out)); (case aS => exact (below_size (by repeat (first | (with_reducible first | exact HB.out | apply below_alloc | apply pw_below_drewN | apply below_drew1 | refine below_set ?_ GE261.out | refine below_set ?_ GE267.out | refine below_set ?_ GE278.out | refine below_set ?_ GE280.out) | exact HB.out)))); (case aL => have := LMc67.out; omega); intro v286 w90 ho hb hg hat; rw [← Ny285.out] at ho; have n0_ := Aside0.mk (Kd.R_over' (by refine kr_ ?_; exact HO_5.out) (Kd.R_typed (by refine kr_ ?_; exact HO_6.out)) (by decide) hg); have n1_ := Aside0.mk (Kd.R_over' (by refine kr_ ?_; exact HO_7.out) (Kd.R_typed (by refine kr_ ?_; exact HO_6.out)) (by decide) hg); have n2_ := Aside0.mk (blk_grown (g := gb261) (o := .cells #[.int .i64 a0_0, .int .i64 a0_1, .int .i64 a0_2, .int .i64 a0_3] 23 (0, 0)) (by refine bs_ ?_; exact BK261.out) hg (Kd.R_away HO_6.out (fun _ hk => hk.1))); have n3_ := Aside0.mk (blk_grown (g := gb267) (o := .cells #[.int .i64 t263, .int .i64 t264, .int .i64 t265, .int .i64 t266] 23 (0, 0)) (by refine bs_ ?_; exact BK267.out) hg (Kd.R_away HO_6.out (fun _ hk => hk.2.1))); have n4_ := Aside0.mk (blk_grown (g := gb278) (o := .cells #[.int .i64 ((rd_T23 x6_1 x8_1).f0), .int .i64 ((rd_T23 x6_1 x8_1).f1), .int .i64 ((rd_T23 x6_1 x8_1).f2), .int .i64 ((rd_T23 x6_1 x8_1).f3)] 23 (0, 0)) (by refine bs_ ?_; exact BK278.out) hg (Kd.R_away HO_6.out (fun _ hk => hk.2.2.1))); have n5_ := Aside0.mk (blk_grown (g := gb280) (o := .cells #[.int .i64 (pt4 0 ((rd_T23 x6_1 x8_1).f0) x10_2 t282), .int .i64 (pt4 1 ((rd_T23 x6_1 x8_1).f1) x10_2 t282), .int .i64 (pt4 2 ((rd_T23 x6_1 x8_1).f2) x10_2 t282), .int .i64 (pt4 3 ((rd_T23 x6_1 x8_1).f3) x10_2 t282)] 23 (0, 0)) (by refine bs_ ?_; exact BK280.out) hg (Kd.R_away HO_6.out (fun _ hk => hk.2.2.2))); have n6_ := Aside0.mk (hb); have n7_ := Aside0.mk (ho); clear HO_5; clear HO_7; clear BK261; clear BK267; clear BK278; clear BK280; clear HB; clear HO_6; have HO_5 := n0_; have HO_7 := n1_; have BK261 := n2_; have BK267 := n3_; have BK278 := n4_; have BK280 := n5_; have HB := n6_; have HO287 := n7_; clear n0_ n1_ n2_ n3_ n4_ n5_ n6_ n7_; clear ho hb hg hat))
                  go_roundg k2
                  case measure => have := HK1.out; have := HK2.out; omega
                  case rel => exact ⟨(y284), (y285), (y279), (wrap64 (x10_2 + 1)), eq_, H', ⟨by have := HK1.out; have := HK2.out; omega⟩, ⟨by refine kr_ ?_; exact HO_5.out⟩, ⟨by refine kr_ ?_; exact Kd.R_mono HO287.out (fun _ hk => ⟨hk.1, ⟨hk.2.1, hk.2.2.1⟩⟩)⟩, ⟨by refine kr_ ?_; exact Kd.R_mono HO_7.out (fun _ hk => hk.2)⟩, ⟨by refine bs_ ?_; exact BK261.out⟩, ⟨by refine bs_ ?_; exact BK267.out⟩, ⟨by refine bs_ ?_; exact BK278.out⟩, ⟨by repeat (first | (with_reducible first | exact HB.out | apply below_alloc | apply pw_below_drewN | apply below_drew1 | refine below_set ?_ GE261.out | refine below_set ?_ GE267.out | refine below_set ?_ GE278.out | refine below_set ?_ GE280.out) | exact HB.out)⟩⟩
                 ·rw [if_neg c67] at H
                  exact absurd H (by simp)
               ·rw [if_neg c44] at H
                exact absurd H (by simp)
              ·rw [if_neg c43] at H
               exact absurd H (by simp)
             ·rw [if_neg c38] at H
              exact absurd H (by simp)
            ·rw [if_neg c37] at H
             exact absurd H (by simp)
           ·rw [if_neg c36] at H
            exact absurd H (by simp)
          ·rw [if_neg c35] at H
           have c35b0 : decide (x10_2 < 4) = false := decide_eq_false c35
           clear c35
           have H' := Aside0.mk H
           clear H
           go_wp2
           go_roundg k2
           case measure => have := HK1.out; have := HK2.out; omega
           case rel => exact ⟨(x5_2), (x6_2), (x7_2), (wrap64 (x8_1 + 1)), eq_, H', ⟨by have := HK1.out; have := HK2.out; omega⟩, ⟨by refine kr_ ?_; exact HO_5.out⟩, ⟨by refine kr_ ?_; exact Kd.R_mono HO_6.out (fun _ hk => ⟨hk.1, hk.2.1⟩)⟩, ⟨by refine kr_ ?_; exact HO_7.out⟩, ⟨by refine bs_ ?_; exact BK261.out⟩, ⟨by refine bs_ ?_; exact BK267.out⟩, ⟨by repeat (first | (with_reducible first | exact HB.out | apply below_alloc | apply pw_below_drewN | apply below_drew1 | refine below_set ?_ GE261.out | refine below_set ?_ GE267.out | refine below_set ?_ GE278.out) | exact HB.out)⟩⟩
       ·rw [if_neg c29] at H
        exact absurd H (by simp)
      ·rw [if_neg c28] at H
       have c28b0 : decide (x8_1 < (x6_1.length : Int)) = false := decide_eq_false c28
       clear c28
       have H' := Aside0.mk H
       clear H
       obtain ⟨Ao91, co91, eo91⟩ := Kd.R_slice HO_6.out
       subst eo91
       go_wp2
       go_loopg [13, 14] k1 (fun kq v13 v14 w' => ∃ (x13_2 : List Int) (x14_2 : Int), v14 = .int .i64 x14_2 ∧ Aside0 (clocheref01_Rests.l2 kq x7_1 x13_2 x14_2 = some (r1, r2)) ∧ Aside0 (kq ≤ k1) ∧ Aside0 (Kd.R Kd.bool 47 w' w.heap.size (fun _ => True) v275 x7_1) ∧ Aside0 (Kd.R (Kd.int .i64) 3 w' w.heap.size (fun _ => True) v13 x13_2) ∧ Aside0 (w'.heap[gb261]? = some (.cells #[.int .i64 a0_0, .int .i64 a0_1, .int .i64 a0_2, .int .i64 a0_3] 23 (0, 0))) ∧ Aside0 (w'.heap[gb267]? = some (.cells #[.int .i64 t263, .int .i64 t264, .int .i64 t265, .int .i64 t266] 23 (0, 0))) ∧ Aside0 (Below w.heap.size w w'))
       case atStart => exact ⟨(([] : List Int)), (0), eq_, H', ⟨Nat.le_refl _⟩, ⟨by refine kr_ ?_; exact Kd.R_mono HO_7.out (fun _ hk => trivial)⟩, ⟨by first | exact Kd.R_nil _ _ _ _ _ | exact Kd.N_nil _ _ _ _ _ | exact Kd.V_nil _ _ _ _ _ | exact Kd.Q_nil _ _ _ _ _ | exact Kd.S_nil _ _ _ _ _⟩, ⟨by refine bs_ ?_; exact BK261.out⟩, ⟨by refine bs_ ?_; exact BK267.out⟩, ⟨by repeat (first | (with_reducible first | exact HB.out | apply below_alloc | apply pw_below_drewN | apply below_drew1 | refine below_set ?_ GE261.out | refine below_set ?_ GE267.out) | exact HB.out)⟩⟩
       case round =>
        clear H'
        try clear c2
        try clear p2
        try clear q2
        try clear hx2
        try clear c3
        try clear p3
        try clear q3
        try clear hx3
        try clear hf3
        try clear c4
        try clear q4
        try clear c5
        try clear c6
        try clear p6
        try clear q6
        try clear hx6
        try clear hf6
        try clear c7
        try clear c9
        try clear c9b0
        try clear c9b1
        try clear c22
        try clear c26
        try clear c27
        try clear p27
        try clear q27
        try clear hx27
        try clear c28
        try clear c28b0
        try clear p28
        try clear q28
        try clear hx28
        try clear c29
        try clear c29b0
        try clear c31
        try clear c32
        try clear c33
        try clear c35
        try clear c35b0
        try clear c36
        try clear c36b0
        try clear c37
        try clear c37b0
        try clear c38
        try clear c38b0
        try clear p39
        try clear q39
        try clear hx39
        try clear hf39
        try clear c43
        try clear c43b0
        try clear c44
        try clear c44b0
        try clear q45
        try clear c46
        try clear c48
        try clear c49
        try clear c55
        try clear c56
        try clear c57
        try clear p64
        try clear p66
        try clear q66
        try clear hx66
        try clear hf66
        try clear c67
        try clear c69
        try clear c70
        try clear c76
        try clear c77
        try clear c78
        try clear hcz11_0
        try clear hcz11_1
        try clear hcz11_2
        try clear hcz11_3
        try clear hcz23_0
        try clear hcz23_1
        try clear hcz23_2
        try clear hcz23_3
        try clear hcz34_0
        try clear hcz34_1
        try clear hcz34_2
        try clear hcz34_3
        try clear hcz50_0
        try clear hcz50_1
        try clear hcz50_2
        try clear hcz50_3
        try clear hcz53_0
        try clear hcz53_1
        try clear hcz53_2
        try clear hcz53_3
        try clear hcz58_0
        try clear hcz58_1
        try clear hcz58_2
        try clear hcz58_3
        try clear hcz59_0
        try clear hcz59_1
        try clear hcz59_2
        try clear hcz59_3
        try clear hcz62_0
        try clear hcz62_1
        try clear hcz62_2
        try clear hcz62_3
        try clear hcz64_0
        try clear hcz64_1
        try clear hcz64_2
        try clear hcz64_3
        try clear hcz71_0
        try clear hcz71_1
        try clear hcz71_2
        try clear hcz71_3
        try clear hcz74_0
        try clear hcz74_1
        try clear hcz74_2
        try clear hcz74_3
        try clear hcz79_0
        try clear hcz79_1
        try clear hcz79_2
        try clear hcz79_3
        try clear hcz80_0
        try clear hcz80_1
        try clear hcz80_2
        try clear hcz80_3
        try clear hcz83_0
        try clear hcz83_1
        try clear hcz83_2
        try clear hcz83_3
        try clear hcz85_0
        try clear hcz85_1
        try clear hcz85_2
        try clear hcz85_3
        try clear hcz89_0
        try clear hcz89_1
        try clear hcz89_2
        try clear hcz89_3
        try clear hfz11_0
        try clear hfz11_1
        try clear hfz11_2
        try clear hfz11_3
        try clear hfz23_0
        try clear hfz23_1
        try clear hfz23_2
        try clear hfz23_3
        try clear hfz34_0
        try clear hfz34_1
        try clear hfz34_2
        try clear hfz34_3
        try clear hfz50_0
        try clear hfz50_1
        try clear hfz50_2
        try clear hfz50_3
        try clear hfz53_0
        try clear hfz53_1
        try clear hfz53_2
        try clear hfz53_3
        try clear hfz58_0
        try clear hfz58_1
        try clear hfz58_2
        try clear hfz58_3
        try clear hfz59_0
        try clear hfz59_1
        try clear hfz59_2
        try clear hfz59_3
        try clear hfz62_0
        try clear hfz62_1
        try clear hfz62_2
        try clear hfz62_3
        try clear hfz64_0
        try clear hfz64_1
        try clear hfz64_2
        try clear hfz64_3
        try clear hfz71_0
        try clear hfz71_1
        try clear hfz71_2
        try clear hfz71_3
        try clear hfz74_0
        try clear hfz74_1
        try clear hfz74_2
        try clear hfz74_3
        try clear hfz79_0
        try clear hfz79_1
        try clear hfz79_2
        try clear hfz79_3
        try clear hfz80_0
        try clear hfz80_1
        try clear hfz80_2
        try clear hfz80_3
        try clear hfz83_0
        try clear hfz83_1
        try clear hfz83_2
        try clear hfz83_3
        try clear hfz85_0
        try clear hfz85_1
        try clear hfz85_2
        try clear hfz85_3
        try clear hfz89_0
        try clear hfz89_1
        try clear hfz89_2
        try clear hfz89_3
        try clear hx277_0
        try clear hx277_1
        try clear hx277_2
        try clear hx277_3
        try clear hx283_0
        try clear hx39_0
        try clear hx66_0
        try clear p2
        try clear p27
        try clear p277
        try clear p283
        try clear p39
        try clear p66
        try clear q2
        try clear q27
        try clear q277
        try clear q283
        try clear q39
        try clear q66
        obtain ⟨x13_2, x14_2, rfl, HA, HK2, HO_7, HO_13, BK261, BK267, HB⟩ := hrel
        cases gk with
        | zero => exact absurd HA.out (by simp [clocheref01_Rests.l2])
        | succ k2 =>
         have H := HA.out
         clear HA
         simp only [clocheref01_Rests.l2] at H
         by_cases c92 : x14_2 < 24
         ·rw [if_pos c92] at H
          have c92b0 : decide (x14_2 < 24) = true := decide_eq_true c92
          clear c92
          by_cases c93 : 0 ≤ x14_2
          ·rw [if_pos c93] at H
           have c93b0 : decide (0 ≤ x14_2) = true := decide_eq_true c93
           clear c93
           by_cases c94 : x14_2 < (x7_1.length : Int)
           ·rw [if_pos c94] at H
            have c94b0 : decide (x14_2 < (x7_1.length : Int)) = true := decide_eq_true c94
            clear c94
            obtain ⟨bq95, hbq95⟩ : ∃ b_ : Bool, b_ = (rdOf false x7_1 x14_2) := ⟨_, rfl⟩
            replace H : (if bq95 = true then (if x13_2.length < 17592186044416 then (clocheref01_Rests.l2 k2 x7_1 (x13_2 ++ [x14_2]) (wrap64 (x14_2 + 1))) else (none)) else (clocheref01_Rests.l2 k2 x7_1 x13_2 (wrap64 (x14_2 + 1)))) = some (r1, r2) := by rw [← hbq95] at H; exact H
            have Nbq95 := Aside0.mk hbq95
            clear hbq95
            by_cases c96 : bq95 = true
            ·subst c96
             have H1 : (if x13_2.length < 17592186044416 then (clocheref01_Rests.l2 k2 x7_1 (x13_2 ++ [x14_2]) (wrap64 (x14_2 + 1))) else (none)) = some (r1, r2) := by rw [if_pos rfl] at H; exact H
             clear H
             have H := H1
             clear H1
             by_cases c97 : x13_2.length < 17592186044416
             ·rw [if_pos c97] at H
              have LMc97 := Aside0.mk c97
              clear c97
              obtain ⟨y289, hy289⟩ : ∃ y_ : List Int, y_ = (x13_2 ++ [x14_2]) := ⟨_, rfl⟩
              replace H : (clocheref01_Rests.l2 k2 x7_1 y289 (wrap64 (x14_2 + 1))) = some (r1, r2) := by first | (rw [hy289]; with_reducible exact H) | (have H2_ := (Option.bind_some _ _).symm.trans H; rw [hy289]; with_reducible exact H2_) | (have H2_ := (Option.bind_some _ _).symm.trans H; with_reducible exact H2_) | with_reducible exact H | (rw [hy289]; exact H) | exact H
              have Ny289 := Aside0.mk hy289
              clear hy289
              have H' := Aside0.mk H
              clear H
              obtain ⟨Ao98, co98, eo98⟩ := Kd.R_slice HO_7.out
              subst eo98
              have p288 : 0 ≤ (x14_2 : Int) := of_decide_eq_true as_
              have q288 : x14_2 < (x7_1.length : Int) := of_decide_eq_true as_
              obtain ⟨ad288, e288, hx288_0⟩ := Kd.at_bool (Kd.R_reads' HO_7.out).2.2 x14_2 p288 q288
              (try rw [← Nbq95.out] at hx288_0)
              cases e288
              have hv_ := HV7.out
              injection hv_ with ha_ hl_ hc_
              injection ha_ with ha_
              subst ha_
              simp only [add_plain] at hx288_0
              have q24_ := eq_true (show _ < (24 : Int) from Int.lt_of_lt_of_le q288 (by omega))
              replace p288 := eq_true p288
              replace q288 := eq_true q288
              go_wp2_with (first | ((with_reducible refine gate_builtin (b := .append) (xs := #[.tmp 92, .tmp 94]) rfl ?_); at_builtin; refine Kd.R_append (Kd.int .i64) (w0 := w) w.heap.size rfl (.tmp 92) (.tmp 94) 35 3 (.int .i64 0) 8 rfl Try.underlying35 info3 rfl (by decide) (by omega) u13 x13_2 x14_2 [.int .i64 x14_2] (fun _ => True) (fun _ => False) rfl rfl ?aP (fun _ hk => hk.elim) ?aF ?aO ?aB ?aS ?aL ?_; (case aP => exact rfl); (case aB => exact (by repeat (first | (with_reducible first | exact HB.out | apply below_alloc | apply pw_below_drewN | apply below_drew1 | refine below_set ?_ GE261.out | refine below_set ?_ GE267.out) | exact HB.out))); (case aF => exact (fun _ _ => trivial)); (case aO => exact (by refine kr_ ?_; exact HO_13.out)); (case aS => exact (below_size (by repeat (first | (with_reducible first | exact HB.out | apply below_alloc | apply pw_below_drewN | apply below_drew1 | refine below_set ?_ GE261.out | refine below_set ?_ GE267.out) | exact HB.out)))); (case aL => have := LMc97.out; omega); intro v290 w99 ho hb hg hat; rw [← Ny289.out] at ho; have n0_ := Aside0.mk (Kd.R_over' (by refine kr_ ?_; exact HO_7.out) (Kd.R_typed (by refine kr_ ?_; exact HO_13.out)) (by decide) hg); have n1_ := Aside0.mk (blk_grown (g := gb261) (o := .cells #[.int .i64 a0_0, .int .i64 a0_1, .int .i64 a0_2, .int .i64 a0_3] 23 (0, 0)) (by refine bs_ ?_; exact BK261.out) hg (Kd.R_ne HO_13.out BK261.out (by decide))); have n2_ := Aside0.mk (blk_grown (g := gb267) (o := .cells #[.int .i64 t263, .int .i64 t264, .int .i64 t265, .int .i64 t266] 23 (0, 0)) (by refine bs_ ?_; exact BK267.out) hg (Kd.R_ne HO_13.out BK267.out (by decide))); have n3_ := Aside0.mk (hb); have n4_ := Aside0.mk (ho); clear HO_7; clear BK261; clear BK267; clear HB; clear HO_13; have HO_7 := n0_; have BK261 := n1_; have BK267 := n2_; have HB := n3_; have HO291 := n4_; clear n0_ n1_ n2_ n3_ n4_; clear ho hb hg hat))
              go_roundg k2
              case measure => have := HK1.out; have := HK2.out; omega
              case rel => exact ⟨(y289), (wrap64 (x14_2 + 1)), eq_, H', ⟨by have := HK1.out; have := HK2.out; omega⟩, ⟨by refine kr_ ?_; exact HO_7.out⟩, ⟨by refine kr_ ?_; exact HO291.out⟩, ⟨by refine bs_ ?_; exact BK261.out⟩, ⟨by refine bs_ ?_; exact BK267.out⟩, ⟨by repeat (first | (with_reducible first | exact HB.out | apply below_alloc | apply pw_below_drewN | apply below_drew1 | refine below_set ?_ GE261.out | refine below_set ?_ GE267.out) | exact HB.out)⟩⟩
             ·rw [if_neg c97] at H
              exact absurd H (by simp)
            ·replace c96 := Bool.eq_false_iff.mpr c96
             subst c96
             have H1 : (clocheref01_Rests.l2 k2 x7_1 x13_2 (wrap64 (x14_2 + 1))) = some (r1, r2) := by rw [if_neg (show ¬ (false = true) by decide)] at H; exact H
             clear H
             have H := H1
             clear H1
             have H' := Aside0.mk H
             clear H
             obtain ⟨Ao100, co100, eo100⟩ := Kd.R_slice HO_7.out
             subst eo100
             have p288 : 0 ≤ (x14_2 : Int) := of_decide_eq_true as_
             have q288 : x14_2 < (x7_1.length : Int) := of_decide_eq_true as_
             obtain ⟨ad288, e288, hx288_0⟩ := Kd.at_bool (Kd.R_reads' HO_7.out).2.2 x14_2 p288 q288
             (try rw [← Nbq95.out] at hx288_0)
             cases e288
             have hv_ := HV7.out
             injection hv_ with ha_ hl_ hc_
             injection ha_ with ha_
             subst ha_
             simp only [add_plain] at hx288_0
             have q24_ := eq_true (show _ < (24 : Int) from Int.lt_of_lt_of_le q288 (by omega))
             replace p288 := eq_true p288
             replace q288 := eq_true q288
             go_wp2
             go_roundg k2
             case measure => have := HK1.out; have := HK2.out; omega
             case rel => exact ⟨(x13_2), (wrap64 (x14_2 + 1)), eq_, H', ⟨by have := HK1.out; have := HK2.out; omega⟩, ⟨by refine kr_ ?_; exact HO_7.out⟩, ⟨by refine kr_ ?_; exact HO_13.out⟩, ⟨by refine bs_ ?_; exact BK261.out⟩, ⟨by refine bs_ ?_; exact BK267.out⟩, ⟨by repeat (first | (with_reducible first | exact HB.out | apply below_alloc | apply pw_below_drewN | apply below_drew1 | refine below_set ?_ GE261.out | refine below_set ?_ GE267.out) | exact HB.out)⟩⟩
           ·rw [if_neg c94] at H
            exact absurd H (by simp)
          ·rw [if_neg c93] at H
           exact absurd H (by simp)
         ·rw [if_neg c92] at H
          have c92b0 : decide (x14_2 < 24) = false := decide_eq_false c92
          clear c92
          simp only [Option.some.injEq, Prod.mk.injEq] at H
          obtain ⟨rfl, rfl⟩ := H
          go_wp2
          go_ret2
          exact ⟨_, by first | rfl | (simp [errW_none, errW_some] <;> rfl) | (simp [*, errW_none, errW_some] <;> rfl), by refine kr_ ?_; exact HO_13.out, by repeat (first | (with_reducible first | exact HB.out | apply below_alloc | apply pw_below_drewN | apply below_drew1 | refine below_set ?_ GE261.out | refine below_set ?_ GE267.out) | exact HB.out)⟩
   ·rw [if_neg c9] at H
    exact absurd H (by simp)
  ·rw [if_neg c8] at H
   exact absurd H (by simp)
 ·replace c3 := Bool.eq_false_iff.mpr c3
  subst c3
  have H1 : (some (([] : List Int), 2)) = some (r1, r2) := by rw [if_neg (show ¬ (false = true) by decide)] at H; exact H
  clear H
  have H := H1
  clear H1
  simp only [Option.some.injEq, Prod.mk.injEq] at H
  obtain ⟨rfl, rfl⟩ := H
  go_enter Try.func26, Try.ntmps26
  go_wp2_with (first | ((with_reducible refine gate_dst (N := 1) rfl ?_); refine box_event ?hg (N := 1) ?hd (cs := #[.int .i64 a0_0, .int .i64 a0_1, .int .i64 a0_2, .int .i64 a0_3]) (t := 23) ?hr ?_; (case hd => rfl); (case hg => rfl); (case hr => exact gs_); intro gb261 hg w101 hbox hb; have n0_ := Aside0.mk (below_step (lw_ HB.out) hb); have n1_ := Aside0.mk (hbox); have n2_ := Aside0.mk ((by rw [hg]; exact (below_size (lw_ HB.out)) : w.heap.size ≤ gb261)); have n3_ := Aside0.mk ((by rw [hg]; exact (below_size (lw_ HB.out)) : w.heap.size ≤ gb261)); clear HB; have HB := n0_; have BK261 := n1_; have GW261 := n2_; have GE261 := n3_; clear n0_ n1_ n2_ n3_; clear hb hbox hg; have hcz102_0 : w101.cell? ⟨gb261, 0, none⟩ = some (.int .i64 a0_0) := (blk_cell BK261.out 0).trans rfl; have hcz102_1 : w101.cell? ⟨gb261, 1, none⟩ = some (.int .i64 a0_1) := (blk_cell BK261.out 1).trans rfl; have hcz102_2 : w101.cell? ⟨gb261, 2, none⟩ = some (.int .i64 a0_2) := (blk_cell BK261.out 2).trans rfl; have hcz102_3 : w101.cell? ⟨gb261, 3, none⟩ = some (.int .i64 a0_3) := (blk_cell BK261.out 3).trans rfl; have hfz102_0 := blk_frozen BK261.out 0; have hfz102_1 := blk_frozen BK261.out 1; have hfz102_2 := blk_frozen BK261.out 2; have hfz102_3 := blk_frozen BK261.out 3) | ((with_reducible refine gate_callee (f := 27) rfl ?_); refine goesL_ (some 16) rfl rfl Try.func27 (by kernel_rfl) rfl #[.agg #[.int .i64 a0_0, .int .i64 a0_1, .int .i64 a0_2, .int .i64 a0_3]] rfl mp_ ?_; (with_reducible refine (clocheref01_IsQuad.calls k a0_0 a0_1 a0_2 a0_3 false _ A2.out).mono ?_); rintro e w103 ⟨rfl, hb⟩; refine ⟨_, rfl, ?_⟩; have n0_ := Aside0.mk (blk_below (g := gb261) (o := .cells #[.int .i64 a0_0, .int .i64 a0_1, .int .i64 a0_2, .int .i64 a0_3] 23 (0, 0)) (by refine bs_ ?_; exact BK261.out) hb); have n1_ := Aside0.mk (below_step (by repeat (first | (with_reducible first | exact HB.out | apply below_alloc | apply pw_below_drewN | apply below_drew1 | refine below_set ?_ GE261.out) | exact HB.out)) hb); clear BK261; clear HB; have BK261 := n0_; have HB := n1_; clear n0_ n1_; (try clear hb); (try clear hb2); (try clear hk); (try clear hi)))
  go_ret2
  exact ⟨_, by first | rfl | (simp [errW_none, errW_some] <;> rfl) | (simp [*, errW_none, errW_some] <;> rfl), by first | exact Kd.R_nil _ _ _ _ _ | exact Kd.N_nil _ _ _ _ _ | exact Kd.V_nil _ _ _ _ _ | exact Kd.Q_nil _ _ _ _ _ | exact Kd.S_nil _ _ _ _ _, by repeat (first | (with_reducible first | exact HB.out | apply below_alloc | apply pw_below_drewN | apply below_drew1 | refine below_set ?_ GE261.out) | exact HB.out)⟩

end Go.Proofs.Ytlfmafebmnggeaa.Print
