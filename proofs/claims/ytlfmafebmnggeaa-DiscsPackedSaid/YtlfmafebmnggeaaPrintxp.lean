/- The law DiscsPacked, out of the printed text (mkpk.py). -/
import Derived.Test.YtlfmafebmnggeaaShort
import Derived.Test.YtlfmafebmnggeaaHandRests
import Derived.Test.YtlfmafebmnggeaaHandDiscs
import Derived.Test.YtlfmafebmnggeaaPrintx0
import Derived.Test.YtlfmafebmnggeaaPrintx1
import Derived.Test.YtlfmafebmnggeaaPrintx3
import Derived.Test.YtlfmafebmnggeaaPrintx4
import Derived.Test.YtlfmafebmnggeaaPrintx6
import Derived.Test.YtlfmafebmnggeaaPrintx13
namespace Go.Proofs.Ytlfmafebmnggeaa.Print
open Go.RowKit Go.Proofs.YtlfmafebmnggeaaW.PrintWords Go.Proofs.YtlfmafebmnggeaaW.PrintLast Go.Proofs.YtlfmafebmnggeaaW.PrintMore
attribute [local go_sem] max2_int min2_int max_two min_two max_three min_three max_four min_four
set_option maxHeartbeats 8000000 -- slim
set_option maxRecDepth 100000
set_option linter.unusedVariables false
set_option linter.unusedSimpArgs false

theorem info4 : (Try.prog.info? 4).map (fun i => (i.zero, i.size, i.bytes)) = some (some (.bool false), 1, 1) := by kernel_rfl
section
variable {P : Program} {ops : Array Oper} {o : Oper} {a : Act} {Q : Exit → Act → World → Prop} {rest : List Oper}
/-- An array of 24 bools, told as a row of bools. -/
theorem R_box24 {w0 W : World} {base : Nat} (hgd : o.guard = none) {N : Tmp} (_hd : o.dst = some N)
  (hrun : (execOp a.eval o).run P W = .ok (.value (.pointer (some ⟨W.heap.size, 0, none⟩))) (W.alloc (.cells (List.replicate 24 (Value.bool false)).toArray 47)))
  {ok : Nat → Prop} (hfresh : ok W.heap.size) (HB : Below base w0 W) (hbase : base ≤ W.heap.size)
  (h : ∀ g v1 w1, v1 = .slice (some ⟨g, 0, none⟩) 24 24 → Kd.R Kd.bool 47 w1 base ok v1 (List.replicate (24 : Int).toNat false) → Below base w0 w1 → W.grownBy w1 none → (∃ b, v1.ownBlock = some b ∧ W.heap.size ≤ b) → wpList P ops Q rest (a.put o.dst (.pointer (some ⟨g, 0, none⟩))) w1) : wpList P ops Q (o :: rest) a W := by
 refine Kd.event_run hgd hrun (h W.heap.size (.slice (some ⟨W.heap.size, 0, none⟩) 24 24) _ rfl ⟨fun k hk => ?_, List.replicate 24 (Value.bool false), ?_, ?_⟩ (HB.alloc hbase _) (World.grownBy_alloc W _ none) ⟨W.heap.size, by simp [Value.ownBlock], Nat.le_refl _⟩)
 ·have : W.heap.size = k := by simpa [Value.ownBlock] using hk
  subst this
  exact hfresh
 ·exact World.ownsRow_lit (base := base) (e := 47) (size := 1) W (List.replicate 24 (Value.bool false)).toArray 24 hbase (by decide) (by decide)
 ·have h0 := Kd.reps_made (R := Kd.M Kd.bool (W.alloc (.cells (List.replicate 24 (Value.bool false)).toArray 47)) base (fun k => ok k ∧ some k ≠ (Value.slice (some ⟨W.heap.size, 0, none⟩) 24 24).ownBlock)) (z := .bool false) (size := 1) (z0 := false) rfl (by decide) rfl 24
  have e : (madeCells (Value.bool false).cells (24 * 1)).toList = List.replicate 24 (Value.bool false) := by kernel_rfl
  rw [e] at h0
  exact h0
end
section
open Go.Proofs.YtlfmafebmnggeaaW.PrintWords.Kd
variable {α : Type} {d k : Kd α} {e e' base n m c : Nat} {ok : Nat → Prop} {u v : Value} {xs : List α} {w W w1 : World} {A : Option Addr}
namespace Kd
theorem R_typed (h : d.R e w base ok v xs) : ∀ k, v.ownBlock = some k → ∃ cells, w.heap[k]? = some (.cells cells e (0, 0)) := by
 obtain ⟨inner, ho⟩ := R_own h
 exact fun k hk => own_typed ho k hk
theorem R_over' (h : d.R e W base ok u xs) (hty : ∀ k, v.ownBlock = some k → ∃ cells, W.heap[k]? = some (.cells cells e' (0, 0))) (ht : ∀ q, q ∈ e :: d.E → q ≠ e') (hg : W.grownBy w1 v.ownBlock) : d.R e w1 base ok u xs := by
 refine R_mono (R_move (R_bound h) (fun k hk => hg.block k hk.2.2.1 (fun he => ?_))) (fun _ hk => hk.1)
 obtain ⟨_, _, _, q, hq, cells, hc⟩ := hk
 obtain ⟨cells', hc'⟩ := hty k he.symm
 rw [hc] at hc'
 injection hc' with hc'
 injection hc' with _ hc'
 exact ht q hq hc'
theorem at_bool {xs : List Bool} (h : Kd.bool.C w A n xs) (i : Int) (h0 : 0 ≤ i) (h1 : i < n) : ∃ ad, A = some ad ∧ w.cell? (ad.add i.toNat) = some (.bool (rdOf false xs i)) :=
 ReadsOf.at_ (reads_of_C (enc := Value.bool) (d := false) (h1 := fun _ => rfl) h) i h0 h1
theorem C_take (h : k.C w A xs.length xs) (hm : m ≤ xs.length) : k.C w A (xs.take m).length (xs.take m) := by
 have hl : (xs.take m).length = m := by rw [List.length_take]; omega
 refine ⟨rfl, by rw [hl]; have := h.2.1; omega, fun hp => ?_⟩
 obtain ⟨ad, e, hc⟩ := h.2.2 (by omega)
 refine ⟨ad, e, fun j p hj => hc j p ?_⟩
 rw [List.getElem?_take] at hj
 split at hj
 ·exact hj
 ·cases hj
end Kd
end
section
variable {P : Program}
theorem cut_to (t e : TypeId) (kh : IntKind) {i : TypeInfo} (ht : P.underlying t = some (.slice e)) (hi : P.info? e = some i) (A : Option Addr) (n c : Nat) (j : Int) (h0 : 0 ≤ j) (hm : j ≤ n) (hc : n ≤ c) :
  ∀ W : World, (Instr.slice t (.slice A n c) none (some (.int kh j)) none).run P W = .ok (.slice A j.toNat c) W := by
 intro W
 have hel : P.elem t = e := by simp [Program.elem, ht]
 have hu : P.underlying t = some (.slice (P.elem t)) := by rw [hel]; exact ht
 have ha : (A.map fun x => x.add 0) = A := by cases A <;> simp [Addr.add]
 rw [run_slice_h W t A n c hu kh j h0 (by omega), hel]
 simp [sizeOf, typeInfo, hi, sliced, Result.andThen, ha]
end
/-! ### clochelaw01_DiscsPacked: function 8 -/
mutual
def clochelaw01_DiscsPacked.j0 : Nat → Int → Int → List Int → Int → List Int → Bool → Int → Int → Int → Int → Int → Int → Int → Int → Option (Bool)
 | 0, _, _, _, _, _, _, _, _, _, _, _, _, _, _ => none
 | k + 1, x7, x8, x12, x13, x16, x75, x336000, x336001, x336002, x336003, x345000, x345001, x345002, x345003 => if x75 = true then (none) else (if x13 = 0 then (if 24 ≤ 281474976710656 then (clochelaw01_DiscsPacked.l0 k x7 x8 x12 x16 (List.replicate 24 false) 0 x336000 x336001 x336002 x336003 x345000 x345001 x345002 x345003) else (none)) else (if (x12.length : Int) = 0 then (if ((x13 == 9) == (x345000 == 0)) = true then (if x13 = 9 then ((clochelaw01_alive.f k).bind fun t358 => (some t358)) else (if x13 = 8 then ((clochelaw01_alive.f k).bind fun t359 => (some t359)) else (none))) else (none)) else (none)))
def clochelaw01_DiscsPacked.l0 : Nat → Int → Int → List Int → List Int → List Bool → Int → Int → Int → Int → Int → Int → Int → Int → Int → Option (Bool)
 | 0, _, _, _, _, _, _, _, _, _, _, _, _, _, _ => none
 | k + 1, x7, x8, x12, x16, x18, x19, x336000, x336001, x336002, x336003, x345000, x345001, x345002, x345003 => if x19 < (x16.length : Int) then (if 0 ≤ x19 then (if (rd x16 x19) < 0 then (none) else (if (rd x16 x19) > 23 then (none) else (if 0 ≤ (rd x16 x19) then (if (rd x16 x19) < (x18.length : Int) then (clochelaw01_DiscsPacked.l0 k x7 x8 x12 x16 (x18.set ((rd x16 x19) : Int).toNat true) (wrap64 (x19 + 1)) x336000 x336001 x336002 x336003 x345000 x345001 x345002 x345003) else (none)) else (none)))) else (none)) else (clochelaw01_DiscsPacked.l1 k x7 x8 x12 x18 0 0 x336000 x336001 x336002 x336003 x345000 x345001 x345002 x345003)
def clochelaw01_DiscsPacked.l1 : Nat → Int → Int → List Int → List Bool → Int → Int → Int → Int → Int → Int → Int → Int → Int → Int → Option (Bool)
 | 0, _, _, _, _, _, _, _, _, _, _, _, _, _, _ => none
 | k + 1, x7, x8, x12, x18, x20, x21, x336000, x336001, x336002, x336003, x345000, x345001, x345002, x345003 => if x21 < (x12.length : Int) then (if 0 ≤ x21 then (if (rd x12 x21) > x7 then (none) else (if x21 > 0 then (if 0 ≤ (wrap64 (x21 - 1)) then (if (wrap64 (x21 - 1)) < (x12.length : Int) then (if (rd x12 x21) < (rd x12 (wrap64 (x21 - 1))) then (none) else (if 0 ≤ (Int.tmod (wrap64 ((Int.tmod (rd x12 x21) 24) + 24)) 24) then (if (Int.tmod (wrap64 ((Int.tmod (rd x12 x21) 24) + 24)) 24) < (x18.length : Int) then (clochelaw01_DiscsPacked.j3 k x7 x8 x12 x18 x20 x21 (!(rdOf false x18 (Int.tmod (wrap64 ((Int.tmod (rd x12 x21) 24) + 24)) 24))) x336000 x336001 x336002 x336003 x345000 x345001 x345002 x345003) else (none)) else (none))) else (none)) else (none)) else (if 0 ≤ (Int.tmod (wrap64 ((Int.tmod (rd x12 x21) 24) + 24)) 24) then (if (Int.tmod (wrap64 ((Int.tmod (rd x12 x21) 24) + 24)) 24) < (x18.length : Int) then (clochelaw01_DiscsPacked.j3 k x7 x8 x12 x18 x20 x21 (!(rdOf false x18 (Int.tmod (wrap64 ((Int.tmod (rd x12 x21) 24) + 24)) 24))) x336000 x336001 x336002 x336003 x345000 x345001 x345002 x345003) else (none)) else (none)))) else (none)) else ((discs_Discs.f k x336000 x336001 x336002 x336003 x8).bind fun bt367 => (if bt367.2 = 0 then (if x20 ≤ (x12.length : Int) then (if 0 ≤ x20 then ((clochelaw01_same.f k bt367.1 (x12.take (x20 : Int).toNat)).bind fun t375 => (if t375 = true then (if (x12.length : Int) > 0 then (if 0 < (x12.length : Int) then (if (rd x12 0) = x345000 then ((clochelaw01_alive.f k).bind fun t377 => (some t377)) else (none)) else (none)) else (none)) else (none))) else (none)) else (none)) else (none)))
def clochelaw01_DiscsPacked.j3 : Nat → Int → Int → List Int → List Bool → Int → Int → Bool → Int → Int → Int → Int → Int → Int → Int → Int → Option (Bool)
 | 0, _, _, _, _, _, _, _, _, _, _, _, _, _, _, _ => none
 | k + 1, x7, x8, x12, x18, x20, x21, x162, x336000, x336001, x336002, x336003, x345000, x345001, x345002, x345003 => if x162 = true then (none) else (if 0 ≤ x21 then (if x21 < (x12.length : Int) then (if (rd x12 x21) ≤ x8 then (clochelaw01_DiscsPacked.l1 k x7 x8 x12 x18 (wrap64 (x20 + 1)) (wrap64 (x21 + 1)) x336000 x336001 x336002 x336003 x345000 x345001 x345002 x345003) else (clochelaw01_DiscsPacked.l1 k x7 x8 x12 x18 x20 (wrap64 (x21 + 1)) x336000 x336001 x336002 x336003 x345000 x345001 x345002 x345003)) else (none)) else (none))
end
def clochelaw01_DiscsPacked.f (k : Nat) (a0_0 : Int) (a0_1 : Int) (a0_2 : Int) (a0_3 : Int) (a1 : Int) (a2 : Int) : Option (Bool) := (clocheref01_IsQuad.f k a0_0 a0_1 a0_2 a0_3).bind fun t336 => (if t336 = true then (if (wrap64 (1 + (Int.tmod (wrap64 (a1)) 3000))) = 0 then (none) else ((discs_Root.f k a0_0 a0_1 a0_2 a0_3).bind fun bt338 => ((discs_Discs.f k a0_0 a0_1 a0_2 a0_3 (wrap64 (1 + (Int.tmod (wrap64 (a1)) 3000)))).bind fun bt345 => ((discs_Discs.f k bt338.1 bt338.2.1 bt338.2.2.1 bt338.2.2.2.1 (wrap64 (1 + (Int.tmod (wrap64 (a1)) 3000)))).bind fun bt349 => ((discs_Rests.f k a0_0 a0_1 a0_2 a0_3).bind fun bt353 => (if bt338.2.2.2.2.2 = 0 then (if bt345.2 = bt349.2 then (if bt353.2 = 0 then ((clochelaw01_same.f k bt345.1 bt349.1).bind fun t357 => (clochelaw01_DiscsPacked.j0 k (wrap64 (1 + (Int.tmod (wrap64 (a1)) 3000))) (wrap64 (1 + (Int.tmod (wrap64 (a2)) (wrap64 (1 + (Int.tmod (wrap64 (a1)) 3000)))))) bt345.1 bt345.2 bt353.1 (!t357) a0_0 a0_1 a0_2 a0_3 bt338.1 bt338.2.1 bt338.2.2.1 bt338.2.2.2.1)) else (none)) else (none)) else (none))))))) else ((clochelaw01_alive.f k).bind fun t337 => (some t337)))
theorem clochelaw01_DiscsPacked.mono_l : ∀ k, (∀ y0 y1 y2 y3 y4 y5 y6 y7 y8 y9 y10 y11 y12 y13, LeO (clochelaw01_DiscsPacked.j0 k y0 y1 y2 y3 y4 y5 y6 y7 y8 y9 y10 y11 y12 y13) (clochelaw01_DiscsPacked.j0 (k + 1) y0 y1 y2 y3 y4 y5 y6 y7 y8 y9 y10 y11 y12 y13)) ∧ (∀ y0 y1 y2 y3 y4 y5 y6 y7 y8 y9 y10 y11 y12 y13, LeO (clochelaw01_DiscsPacked.l0 k y0 y1 y2 y3 y4 y5 y6 y7 y8 y9 y10 y11 y12 y13) (clochelaw01_DiscsPacked.l0 (k + 1) y0 y1 y2 y3 y4 y5 y6 y7 y8 y9 y10 y11 y12 y13)) ∧ (∀ y0 y1 y2 y3 y4 y5 y6 y7 y8 y9 y10 y11 y12 y13, LeO (clochelaw01_DiscsPacked.l1 k y0 y1 y2 y3 y4 y5 y6 y7 y8 y9 y10 y11 y12 y13) (clochelaw01_DiscsPacked.l1 (k + 1) y0 y1 y2 y3 y4 y5 y6 y7 y8 y9 y10 y11 y12 y13)) ∧ (∀ y0 y1 y2 y3 y4 y5 y6 y7 y8 y9 y10 y11 y12 y13 y14, LeO (clochelaw01_DiscsPacked.j3 k y0 y1 y2 y3 y4 y5 y6 y7 y8 y9 y10 y11 y12 y13 y14) (clochelaw01_DiscsPacked.j3 (k + 1) y0 y1 y2 y3 y4 y5 y6 y7 y8 y9 y10 y11 y12 y13 y14))
 | 0 => ⟨fun _ _ _ _ _ _ _ _ _ _ _ _ _ _ r h => by simp [clochelaw01_DiscsPacked.j0] at h, fun _ _ _ _ _ _ _ _ _ _ _ _ _ _ r h => by simp [clochelaw01_DiscsPacked.l0] at h, fun _ _ _ _ _ _ _ _ _ _ _ _ _ _ r h => by simp [clochelaw01_DiscsPacked.l1] at h, fun _ _ _ _ _ _ _ _ _ _ _ _ _ _ _ r h => by simp [clochelaw01_DiscsPacked.j3] at h⟩
 | k + 1 => by
  obtain ⟨ih0, ih1, ih2, ih3⟩ := clochelaw01_DiscsPacked.mono_l k
  refine ⟨?_, ?_, ?_, ?_⟩
  ·intro y0 y1 y2 y3 y4 y5 y6 y7 y8 y9 y10 y11 y12 y13
   unfold clochelaw01_DiscsPacked.j0
   repeat' first
   | (with_reducible exact ih0 _ _ _ _ _ _ _ _ _ _ _ _ _ _)
   | (with_reducible exact ih1 _ _ _ _ _ _ _ _ _ _ _ _ _ _)
   | (with_reducible exact ih2 _ _ _ _ _ _ _ _ _ _ _ _ _ _)
   | (with_reducible exact ih3 _ _ _ _ _ _ _ _ _ _ _ _ _ _ _)
   | (with_reducible exact clochelaw01_alive.mono _)
   | (with_reducible exact clochelaw01_same.mono _ _ _)
   | (with_reducible exact clocheref01_IsQuad.mono _ _ _ _ _)
   | (with_reducible exact discs_Discs.mono _ _ _ _ _ _)
   | (with_reducible exact discs_Rests.mono _ _ _ _ _)
   | (with_reducible exact discs_Root.mono _ _ _ _ _)
   | (with_reducible exact LeO.refl _)
   | (with_reducible exact LeO.none _)
   | (with_reducible refine LeO.ite ?_ ?_)
   | (with_reducible refine LeO.bind ?_ (fun _ => ?_))
   | exact ih0 _ _ _ _ _ _ _ _ _ _ _ _ _ _
   | exact ih1 _ _ _ _ _ _ _ _ _ _ _ _ _ _
   | exact ih2 _ _ _ _ _ _ _ _ _ _ _ _ _ _
   | exact ih3 _ _ _ _ _ _ _ _ _ _ _ _ _ _ _
   | exact clochelaw01_alive.mono _
   | exact clochelaw01_same.mono _ _ _
   | exact clocheref01_IsQuad.mono _ _ _ _ _
   | exact discs_Discs.mono _ _ _ _ _ _
   | exact discs_Rests.mono _ _ _ _ _
   | exact discs_Root.mono _ _ _ _ _
   | exact LeO.none _
   | refine LeO.ite ?_ ?_
   | refine LeO.bind ?_ (fun _ => ?_)
  ·intro y0 y1 y2 y3 y4 y5 y6 y7 y8 y9 y10 y11 y12 y13
   unfold clochelaw01_DiscsPacked.l0
   repeat' first
   | (with_reducible exact ih0 _ _ _ _ _ _ _ _ _ _ _ _ _ _)
   | (with_reducible exact ih1 _ _ _ _ _ _ _ _ _ _ _ _ _ _)
   | (with_reducible exact ih2 _ _ _ _ _ _ _ _ _ _ _ _ _ _)
   | (with_reducible exact ih3 _ _ _ _ _ _ _ _ _ _ _ _ _ _ _)
   | (with_reducible exact clochelaw01_alive.mono _)
   | (with_reducible exact clochelaw01_same.mono _ _ _)
   | (with_reducible exact clocheref01_IsQuad.mono _ _ _ _ _)
   | (with_reducible exact discs_Discs.mono _ _ _ _ _ _)
   | (with_reducible exact discs_Rests.mono _ _ _ _ _)
   | (with_reducible exact discs_Root.mono _ _ _ _ _)
   | (with_reducible exact LeO.refl _)
   | (with_reducible exact LeO.none _)
   | (with_reducible refine LeO.ite ?_ ?_)
   | (with_reducible refine LeO.bind ?_ (fun _ => ?_))
   | exact ih0 _ _ _ _ _ _ _ _ _ _ _ _ _ _
   | exact ih1 _ _ _ _ _ _ _ _ _ _ _ _ _ _
   | exact ih2 _ _ _ _ _ _ _ _ _ _ _ _ _ _
   | exact ih3 _ _ _ _ _ _ _ _ _ _ _ _ _ _ _
   | exact clochelaw01_alive.mono _
   | exact clochelaw01_same.mono _ _ _
   | exact clocheref01_IsQuad.mono _ _ _ _ _
   | exact discs_Discs.mono _ _ _ _ _ _
   | exact discs_Rests.mono _ _ _ _ _
   | exact discs_Root.mono _ _ _ _ _
   | exact LeO.none _
   | refine LeO.ite ?_ ?_
   | refine LeO.bind ?_ (fun _ => ?_)
  ·intro y0 y1 y2 y3 y4 y5 y6 y7 y8 y9 y10 y11 y12 y13
   unfold clochelaw01_DiscsPacked.l1
   repeat' first
   | (with_reducible exact ih0 _ _ _ _ _ _ _ _ _ _ _ _ _ _)
   | (with_reducible exact ih1 _ _ _ _ _ _ _ _ _ _ _ _ _ _)
   | (with_reducible exact ih2 _ _ _ _ _ _ _ _ _ _ _ _ _ _)
   | (with_reducible exact ih3 _ _ _ _ _ _ _ _ _ _ _ _ _ _ _)
   | (with_reducible exact clochelaw01_alive.mono _)
   | (with_reducible exact clochelaw01_same.mono _ _ _)
   | (with_reducible exact clocheref01_IsQuad.mono _ _ _ _ _)
   | (with_reducible exact discs_Discs.mono _ _ _ _ _ _)
   | (with_reducible exact discs_Rests.mono _ _ _ _ _)
   | (with_reducible exact discs_Root.mono _ _ _ _ _)
   | (with_reducible exact LeO.refl _)
   | (with_reducible exact LeO.none _)
   | (with_reducible refine LeO.ite ?_ ?_)
   | (with_reducible refine LeO.bind ?_ (fun _ => ?_))
   | exact ih0 _ _ _ _ _ _ _ _ _ _ _ _ _ _
   | exact ih1 _ _ _ _ _ _ _ _ _ _ _ _ _ _
   | exact ih2 _ _ _ _ _ _ _ _ _ _ _ _ _ _
   | exact ih3 _ _ _ _ _ _ _ _ _ _ _ _ _ _ _
   | exact clochelaw01_alive.mono _
   | exact clochelaw01_same.mono _ _ _
   | exact clocheref01_IsQuad.mono _ _ _ _ _
   | exact discs_Discs.mono _ _ _ _ _ _
   | exact discs_Rests.mono _ _ _ _ _
   | exact discs_Root.mono _ _ _ _ _
   | exact LeO.none _
   | refine LeO.ite ?_ ?_
   | refine LeO.bind ?_ (fun _ => ?_)
  ·intro y0 y1 y2 y3 y4 y5 y6 y7 y8 y9 y10 y11 y12 y13 y14
   unfold clochelaw01_DiscsPacked.j3
   repeat' first
   | (with_reducible exact ih0 _ _ _ _ _ _ _ _ _ _ _ _ _ _)
   | (with_reducible exact ih1 _ _ _ _ _ _ _ _ _ _ _ _ _ _)
   | (with_reducible exact ih2 _ _ _ _ _ _ _ _ _ _ _ _ _ _)
   | (with_reducible exact ih3 _ _ _ _ _ _ _ _ _ _ _ _ _ _ _)
   | (with_reducible exact clochelaw01_alive.mono _)
   | (with_reducible exact clochelaw01_same.mono _ _ _)
   | (with_reducible exact clocheref01_IsQuad.mono _ _ _ _ _)
   | (with_reducible exact discs_Discs.mono _ _ _ _ _ _)
   | (with_reducible exact discs_Rests.mono _ _ _ _ _)
   | (with_reducible exact discs_Root.mono _ _ _ _ _)
   | (with_reducible exact LeO.refl _)
   | (with_reducible exact LeO.none _)
   | (with_reducible refine LeO.ite ?_ ?_)
   | (with_reducible refine LeO.bind ?_ (fun _ => ?_))
   | exact ih0 _ _ _ _ _ _ _ _ _ _ _ _ _ _
   | exact ih1 _ _ _ _ _ _ _ _ _ _ _ _ _ _
   | exact ih2 _ _ _ _ _ _ _ _ _ _ _ _ _ _
   | exact ih3 _ _ _ _ _ _ _ _ _ _ _ _ _ _ _
   | exact clochelaw01_alive.mono _
   | exact clochelaw01_same.mono _ _ _
   | exact clocheref01_IsQuad.mono _ _ _ _ _
   | exact discs_Discs.mono _ _ _ _ _ _
   | exact discs_Rests.mono _ _ _ _ _
   | exact discs_Root.mono _ _ _ _ _
   | exact LeO.none _
   | refine LeO.ite ?_ ?_
   | refine LeO.bind ?_ (fun _ => ?_)
theorem clochelaw01_DiscsPacked.mono : ∀ a0 a1 a2 a3 a4 a5 k, LeO (clochelaw01_DiscsPacked.f k a0 a1 a2 a3 a4 a5) (clochelaw01_DiscsPacked.f (k + 1) a0 a1 a2 a3 a4 a5) := by
 intro a0 a1 a2 a3 a4 a5 k
 obtain ⟨ih0, ih1, ih2, ih3⟩ := clochelaw01_DiscsPacked.mono_l k
 unfold clochelaw01_DiscsPacked.f
 repeat' first
   | (with_reducible exact ih0 _ _ _ _ _ _ _ _ _ _ _ _ _ _)
   | (with_reducible exact ih1 _ _ _ _ _ _ _ _ _ _ _ _ _ _)
   | (with_reducible exact ih2 _ _ _ _ _ _ _ _ _ _ _ _ _ _)
   | (with_reducible exact ih3 _ _ _ _ _ _ _ _ _ _ _ _ _ _ _)
   | (with_reducible exact clochelaw01_alive.mono _)
   | (with_reducible exact clochelaw01_same.mono _ _ _)
   | (with_reducible exact clocheref01_IsQuad.mono _ _ _ _ _)
   | (with_reducible exact discs_Discs.mono _ _ _ _ _ _)
   | (with_reducible exact discs_Rests.mono _ _ _ _ _)
   | (with_reducible exact discs_Root.mono _ _ _ _ _)
   | (with_reducible exact LeO.refl _)
   | (with_reducible exact LeO.none _)
   | (with_reducible refine LeO.ite ?_ ?_)
   | (with_reducible refine LeO.bind ?_ (fun _ => ?_))
   | exact ih0 _ _ _ _ _ _ _ _ _ _ _ _ _ _
   | exact ih1 _ _ _ _ _ _ _ _ _ _ _ _ _ _
   | exact ih2 _ _ _ _ _ _ _ _ _ _ _ _ _ _
   | exact ih3 _ _ _ _ _ _ _ _ _ _ _ _ _ _ _
   | exact clochelaw01_alive.mono _
   | exact clochelaw01_same.mono _ _ _
   | exact clocheref01_IsQuad.mono _ _ _ _ _
   | exact discs_Discs.mono _ _ _ _ _ _
   | exact discs_Rests.mono _ _ _ _ _
   | exact discs_Root.mono _ _ _ _ _
   | exact LeO.none _
   | refine LeO.ite ?_ ?_
   | refine LeO.bind ?_ (fun _ => ?_)
def clochelaw01_DiscsPacked.T24 : Bool × List (List Nat × List Nat) := (true, [([], []), ([], []), ([0, 1], [0, 1]), ([2], [2]), ([], []), ([3, 4], [3, 4]), ([5], [5]), ([6], [6]), ([7, 6], [6, 7]), ([8, 6, 6], [6, 8]), ([9], [9]), ([9], [9]), ([10, 11, 9], [9, 10, 11]), ([12, 9], [9, 12]), ([9], [9]), ([9], [9]), ([15, 9], [9, 15]), ([14, 16, 9], [9, 14, 16]), ([17, 9], [9, 17]), ([13, 18, 9], [9, 13, 18]), ([9, 19, 6], [6, 9, 19]), ([6, 20], [6, 20]), ([21, 9], [21]), ([22], [22]), ([22], [22]), ([23, 24, 22], [22, 23, 24]), ([25, 22], [22, 25]), ([26, 22], [22, 26]), ([27, 22], [22, 27]), ([28, 22], [22, 28]), ([29, 22], [22, 29]), ([30, 22], [22, 30]), ([31, 22], [22, 31]), ([22, 32], [22, 32])])
def clochelaw01_DiscsPacked.B24 : List Nat := [0, 0, 3, 7, 0, 31, 63, 127, 255, 511, 1023, 1023, 4095, 8191, 1023, 1023, 33791, 115711, 246783, 524287, 1048575, 2097151, 4194303, 8388607, 8388607, 33554431, 67108863, 134217727, 268435455, 536870911, 1073741823, 2147483647, 4294967295, 8589934591]
theorem clochelaw01_DiscsPacked.tab24 : rtab .any (opsOf Try.f8 24) = clochelaw01_DiscsPacked.T24 := by kernel_rfl
theorem clochelaw01_DiscsPacked.bits24 : waitsOk clochelaw01_DiscsPacked.T24.2 clochelaw01_DiscsPacked.B24 = true := by kernel_rfl
def clochelaw01_DiscsPacked.T29 : Bool × List (List Nat × List Nat) := (true, [([], []), ([0], [0]), ([1], [1]), ([2], [2]), ([2], [2]), ([4, 2], [2, 4]), ([3, 5, 2], [2, 3, 5]), ([2, 6], [2, 6]), ([7, 2], [7]), ([8], [8]), ([8], [8]), ([8], [8]), ([10, 11, 8], [8, 10, 11]), ([9, 12, 8, 8], [8, 9, 12]), ([8, 13], [8, 13]), ([14, 13], [14]), ([15], [15]), ([16, 15], [15, 16]), ([17, 15], [15, 17]), ([15, 18], [15, 18]), ([19, 15], [19]), ([20], [20]), ([21, 20], [20, 21]), ([22, 20], [20, 22]), ([20], [20]), ([24, 20], [20, 24]), ([23, 25, 20], [20, 23, 25]), ([20, 26], [20, 26]), ([27, 20], [27]), ([28, 28], [28]), ([28, 29], [28, 29]), ([30, 29, 0, 1, 2, 3, 4, 5, 6, 7, 8, 9, 10, 11, 12, 13, 14, 15, 16, 17, 18, 19, 20, 21, 22, 23, 24, 25, 26, 27, 28, 29, 30], [30])])
def clochelaw01_DiscsPacked.B29 : List Nat := [0, 1, 3, 7, 7, 23, 63, 127, 255, 511, 511, 511, 3583, 8191, 16383, 32767, 65535, 131071, 262143, 524287, 1048575, 2097151, 4194303, 8388607, 2097151, 18874367, 67108863, 134217727, 268435455, 536870911, 1073741823, 2147483647]
theorem clochelaw01_DiscsPacked.tab29 : rtab .any (opsOf Try.f8 29) = clochelaw01_DiscsPacked.T29 := by kernel_rfl
theorem clochelaw01_DiscsPacked.bits29 : waitsOk clochelaw01_DiscsPacked.T29.2 clochelaw01_DiscsPacked.B29 = true := by kernel_rfl
theorem clochelaw01_DiscsPacked.calls (k : Nat) (a0_0 : Int) (a0_1 : Int) (a0_2 : Int) (a0_3 : Int) (a1 : Int) (a2 : Int) (r : Bool) (w : World) (h : clochelaw01_DiscsPacked.f k a0_0 a0_1 a0_2 a0_3 a1 a2 = some r) :
  Calls Try.prog 8 #[.agg #[.int .i64 a0_0, .int .i64 a0_1, .int .i64 a0_2, .int .i64 a0_3], .int .u16 a1, .int .u16 a2] w fun e w' => e = .returned (.bool r) ∧ Below w.heap.size w w' := by
 have hu23 := Try.underlying23
 have HB := Aside0.mk (Below.refl w.heap.size w)
 have H : ((clocheref01_IsQuad.f k a0_0 a0_1 a0_2 a0_3).bind fun t336 => (if t336 = true then (if (wrap64 (1 + (Int.tmod (wrap64 (a1)) 3000))) = 0 then (none) else ((discs_Root.f k a0_0 a0_1 a0_2 a0_3).bind fun bt338 => ((discs_Discs.f k a0_0 a0_1 a0_2 a0_3 (wrap64 (1 + (Int.tmod (wrap64 (a1)) 3000)))).bind fun bt345 => ((discs_Discs.f k bt338.1 bt338.2.1 bt338.2.2.1 bt338.2.2.2.1 (wrap64 (1 + (Int.tmod (wrap64 (a1)) 3000)))).bind fun bt349 => ((discs_Rests.f k a0_0 a0_1 a0_2 a0_3).bind fun bt353 => (if bt338.2.2.2.2.2 = 0 then (if bt345.2 = bt349.2 then (if bt353.2 = 0 then ((clochelaw01_same.f k bt345.1 bt349.1).bind fun t357 => (clochelaw01_DiscsPacked.j0 k (wrap64 (1 + (Int.tmod (wrap64 (a1)) 3000))) (wrap64 (1 + (Int.tmod (wrap64 (a2)) (wrap64 (1 + (Int.tmod (wrap64 (a1)) 3000)))))) bt345.1 bt345.2 bt353.1 (!t357) a0_0 a0_1 a0_2 a0_3 bt338.1 bt338.2.1 bt338.2.2.1 bt338.2.2.2.1)) else (none)) else (none)) else (none))))))) else ((clochelaw01_alive.f k).bind fun t337 => (some t337)))) = some r := h
 clear h
 replace H := Option.bind_eq_some_iff.mp H
 obtain ⟨t336, A40, H⟩ := H
 replace H : (if t336 = true then (if (wrap64 (1 + (Int.tmod (wrap64 (a1)) 3000))) = 0 then (none) else ((discs_Root.f k a0_0 a0_1 a0_2 a0_3).bind fun bt338 => ((discs_Discs.f k a0_0 a0_1 a0_2 a0_3 (wrap64 (1 + (Int.tmod (wrap64 (a1)) 3000)))).bind fun bt345 => ((discs_Discs.f k bt338.1 bt338.2.1 bt338.2.2.1 bt338.2.2.2.1 (wrap64 (1 + (Int.tmod (wrap64 (a1)) 3000)))).bind fun bt349 => ((discs_Rests.f k a0_0 a0_1 a0_2 a0_3).bind fun bt353 => (if bt338.2.2.2.2.2 = 0 then (if bt345.2 = bt349.2 then (if bt353.2 = 0 then ((clochelaw01_same.f k bt345.1 bt349.1).bind fun t357 => (clochelaw01_DiscsPacked.j0 k (wrap64 (1 + (Int.tmod (wrap64 (a1)) 3000))) (wrap64 (1 + (Int.tmod (wrap64 (a2)) (wrap64 (1 + (Int.tmod (wrap64 (a1)) 3000)))))) bt345.1 bt345.2 bt353.1 (!t357) a0_0 a0_1 a0_2 a0_3 bt338.1 bt338.2.1 bt338.2.2.1 bt338.2.2.2.1)) else (none)) else (none)) else (none))))))) else ((clochelaw01_alive.f k).bind fun t337 => (some t337))) = some r := H
 have A4 := Aside0.mk A40
 clear A40
 by_cases c5 : t336 = true
 ·subst c5
  have H1 : (if (wrap64 (1 + (Int.tmod (wrap64 (a1)) 3000))) = 0 then (none) else ((discs_Root.f k a0_0 a0_1 a0_2 a0_3).bind fun bt338 => ((discs_Discs.f k a0_0 a0_1 a0_2 a0_3 (wrap64 (1 + (Int.tmod (wrap64 (a1)) 3000)))).bind fun bt345 => ((discs_Discs.f k bt338.1 bt338.2.1 bt338.2.2.1 bt338.2.2.2.1 (wrap64 (1 + (Int.tmod (wrap64 (a1)) 3000)))).bind fun bt349 => ((discs_Rests.f k a0_0 a0_1 a0_2 a0_3).bind fun bt353 => (if bt338.2.2.2.2.2 = 0 then (if bt345.2 = bt349.2 then (if bt353.2 = 0 then ((clochelaw01_same.f k bt345.1 bt349.1).bind fun t357 => (clochelaw01_DiscsPacked.j0 k (wrap64 (1 + (Int.tmod (wrap64 (a1)) 3000))) (wrap64 (1 + (Int.tmod (wrap64 (a2)) (wrap64 (1 + (Int.tmod (wrap64 (a1)) 3000)))))) bt345.1 bt345.2 bt353.1 (!t357) a0_0 a0_1 a0_2 a0_3 bt338.1 bt338.2.1 bt338.2.2.1 bt338.2.2.2.1)) else (none)) else (none)) else (none))))))) = some r := by rw [if_pos rfl] at H; exact H
  clear H
  have H := H1
  clear H1
  by_cases c6 : (wrap64 (1 + (Int.tmod (wrap64 (a1)) 3000))) = 0
  ·rw [if_pos c6] at H
   exact absurd H (by simp)
  ·rw [if_neg c6] at H
   have c6b0 : ((wrap64 (1 + (Int.tmod (wrap64 (a1)) 3000))) == 0) = false := beq_eq_false_iff_ne.mpr c6
   have c6b1 : ((wrap64 (1 + (Int.tmod (wrap64 (a1)) 3000))) != 0) = true := bne_iff_ne.mpr c6
   replace H := Option.bind_eq_some_iff.mp H
   obtain ⟨⟨t338, t339, t340, t341, t342, t343⟩, A70, H⟩ := H
   replace H : ((discs_Discs.f k a0_0 a0_1 a0_2 a0_3 (wrap64 (1 + (Int.tmod (wrap64 (a1)) 3000)))).bind fun bt345 => ((discs_Discs.f k t338 t339 t340 t341 (wrap64 (1 + (Int.tmod (wrap64 (a1)) 3000)))).bind fun bt349 => ((discs_Rests.f k a0_0 a0_1 a0_2 a0_3).bind fun bt353 => (if t343 = 0 then (if bt345.2 = bt349.2 then (if bt353.2 = 0 then ((clochelaw01_same.f k bt345.1 bt349.1).bind fun t357 => (clochelaw01_DiscsPacked.j0 k (wrap64 (1 + (Int.tmod (wrap64 (a1)) 3000))) (wrap64 (1 + (Int.tmod (wrap64 (a2)) (wrap64 (1 + (Int.tmod (wrap64 (a1)) 3000)))))) bt345.1 bt345.2 bt353.1 (!t357) a0_0 a0_1 a0_2 a0_3 t338 t339 t340 t341)) else (none)) else (none)) else (none))))) = some r := H
   have A7 := Aside0.mk A70
   clear A70
   replace H := Option.bind_eq_some_iff.mp H
   obtain ⟨⟨t345, t348⟩, A80, H⟩ := H
   replace H : ((discs_Discs.f k t338 t339 t340 t341 (wrap64 (1 + (Int.tmod (wrap64 (a1)) 3000)))).bind fun bt349 => ((discs_Rests.f k a0_0 a0_1 a0_2 a0_3).bind fun bt353 => (if t343 = 0 then (if t348 = bt349.2 then (if bt353.2 = 0 then ((clochelaw01_same.f k t345 bt349.1).bind fun t357 => (clochelaw01_DiscsPacked.j0 k (wrap64 (1 + (Int.tmod (wrap64 (a1)) 3000))) (wrap64 (1 + (Int.tmod (wrap64 (a2)) (wrap64 (1 + (Int.tmod (wrap64 (a1)) 3000)))))) t345 t348 bt353.1 (!t357) a0_0 a0_1 a0_2 a0_3 t338 t339 t340 t341)) else (none)) else (none)) else (none)))) = some r := H
   have A8 := Aside0.mk A80
   clear A80
   replace H := Option.bind_eq_some_iff.mp H
   obtain ⟨⟨t349, t352⟩, A90, H⟩ := H
   replace H : ((discs_Rests.f k a0_0 a0_1 a0_2 a0_3).bind fun bt353 => (if t343 = 0 then (if t348 = t352 then (if bt353.2 = 0 then ((clochelaw01_same.f k t345 t349).bind fun t357 => (clochelaw01_DiscsPacked.j0 k (wrap64 (1 + (Int.tmod (wrap64 (a1)) 3000))) (wrap64 (1 + (Int.tmod (wrap64 (a2)) (wrap64 (1 + (Int.tmod (wrap64 (a1)) 3000)))))) t345 t348 bt353.1 (!t357) a0_0 a0_1 a0_2 a0_3 t338 t339 t340 t341)) else (none)) else (none)) else (none))) = some r := H
   have A9 := Aside0.mk A90
   clear A90
   replace H := Option.bind_eq_some_iff.mp H
   obtain ⟨⟨t353, t356⟩, A100, H⟩ := H
   replace H : (if t343 = 0 then (if t348 = t352 then (if t356 = 0 then ((clochelaw01_same.f k t345 t349).bind fun t357 => (clochelaw01_DiscsPacked.j0 k (wrap64 (1 + (Int.tmod (wrap64 (a1)) 3000))) (wrap64 (1 + (Int.tmod (wrap64 (a2)) (wrap64 (1 + (Int.tmod (wrap64 (a1)) 3000)))))) t345 t348 t353 (!t357) a0_0 a0_1 a0_2 a0_3 t338 t339 t340 t341)) else (none)) else (none)) else (none)) = some r := H
   have A10 := Aside0.mk A100
   clear A100
   have HC11 := Aside0.mk H
   clear H
   go_enter Try.func8, Try.ntmps8
   go_upto_region 9 with (first | ((with_reducible refine gate_dst (N := 3) rfl ?_); (try (refine gate_guard (by rfl) ?_; dsimp only)); refine box_event ?hg (N := 3) ?hd (cs := #[.int .i64 a0_0, .int .i64 a0_1, .int .i64 a0_2, .int .i64 a0_3]) (t := 23) ?hr ?_; (case hd => rfl); (case hg => rfl); (case hr => exact gs_); intro gb335 hg w12 hbox hb; have n0_ := Aside0.mk (below_step (lw_ HB.out) hb); have n1_ := Aside0.mk (hbox); have n2_ := Aside0.mk ((by rw [hg]; exact (below_size (lw_ HB.out)) : w.heap.size ≤ gb335)); have n3_ := Aside0.mk ((by rw [hg]; exact (below_size (lw_ HB.out)) : w.heap.size ≤ gb335)); clear HB; have HB := n0_; have BK335 := n1_; have GW335 := n2_; have GE335 := n3_; clear n0_ n1_ n2_ n3_; clear hb hbox hg; have hcz13_0 : w12.cell? ⟨gb335, 0, none⟩ = some (.int .i64 a0_0) := (blk_cell BK335.out 0).trans rfl; have hcz13_1 : w12.cell? ⟨gb335, 1, none⟩ = some (.int .i64 a0_1) := (blk_cell BK335.out 1).trans rfl; have hcz13_2 : w12.cell? ⟨gb335, 2, none⟩ = some (.int .i64 a0_2) := (blk_cell BK335.out 2).trans rfl; have hcz13_3 : w12.cell? ⟨gb335, 3, none⟩ = some (.int .i64 a0_3) := (blk_cell BK335.out 3).trans rfl; have hfz13_0 := blk_frozen BK335.out 0; have hfz13_1 := blk_frozen BK335.out 1; have hfz13_2 := blk_frozen BK335.out 2; have hfz13_3 := blk_frozen BK335.out 3) | ((with_reducible refine gate_callee (f := 27) rfl ?_); refine goesL_ (some 24) rfl rfl Try.func27 (by kernel_rfl) rfl #[.agg #[.int .i64 a0_0, .int .i64 a0_1, .int .i64 a0_2, .int .i64 a0_3]] rfl mp_ ?_; (with_reducible refine (clocheref01_IsQuad.calls k a0_0 a0_1 a0_2 a0_3 true _ A4.out).mono ?_); rintro e w14 ⟨rfl, hb⟩; refine ⟨_, rfl, ?_⟩; have n0_ := Aside0.mk (blk_below (g := gb335) (o := .cells #[.int .i64 a0_0, .int .i64 a0_1, .int .i64 a0_2, .int .i64 a0_3] 23 (0, 0)) (by refine bs_ ?_; exact BK335.out) hb); have n1_ := Aside0.mk (below_step (by repeat (first | (with_reducible first | exact HB.out | apply below_alloc | apply pw_below_drewN | apply below_drew1 | refine below_set ?_ GE335.out) | exact HB.out)) hb); clear BK335; clear HB; have BK335 := n0_; have HB := n1_; clear n0_ n1_; (try clear hb); (try clear hb2); (try clear hk); (try clear hi); have hcz15_0 : w14.cell? ⟨gb335, 0, none⟩ = some (.int .i64 a0_0) := (blk_cell BK335.out 0).trans rfl; have hcz15_1 : w14.cell? ⟨gb335, 1, none⟩ = some (.int .i64 a0_1) := (blk_cell BK335.out 1).trans rfl; have hcz15_2 : w14.cell? ⟨gb335, 2, none⟩ = some (.int .i64 a0_2) := (blk_cell BK335.out 2).trans rfl; have hcz15_3 : w14.cell? ⟨gb335, 3, none⟩ = some (.int .i64 a0_3) := (blk_cell BK335.out 3).trans rfl; have hfz15_0 := blk_frozen BK335.out 0; have hfz15_1 := blk_frozen BK335.out 1; have hfz15_2 := blk_frozen BK335.out 2; have hfz15_3 := blk_frozen BK335.out 3) | ((with_reducible refine gate_callee (f := 15) rfl ?_); refine goesL_ (some 38) rfl rfl Try.func15 (by kernel_rfl) rfl #[.agg #[.int .i64 a0_0, .int .i64 a0_1, .int .i64 a0_2, .int .i64 a0_3]] rfl mp_ ?_; (with_reducible refine (discs_Root.calls k a0_0 a0_1 a0_2 a0_3 t338 t339 t340 t341 t342 t343 _ A7.out).mono ?_); rintro e w16 ⟨rfl, hb⟩; refine ⟨_, rfl, ?_⟩; have n0_ := Aside0.mk (blk_below (g := gb335) (o := .cells #[.int .i64 a0_0, .int .i64 a0_1, .int .i64 a0_2, .int .i64 a0_3] 23 (0, 0)) (by refine bs_ ?_; exact BK335.out) hb); have n1_ := Aside0.mk (below_step (by repeat (first | (with_reducible first | exact HB.out | apply below_alloc | apply pw_below_drewN | apply below_drew1 | refine below_set ?_ GE335.out) | exact HB.out)) hb); clear BK335; clear HB; have BK335 := n0_; have HB := n1_; clear n0_ n1_; (try clear hb); (try clear hb2); (try clear hk); (try clear hi)) | ((with_reducible refine gate_dst (N := 9) rfl ?_); (try (refine gate_guard (by rfl) ?_; dsimp only)); refine box_event ?hg (N := 9) ?hd (cs := #[.int .i64 0, .int .i64 0, .int .i64 0, .int .i64 0]) (t := 23) ?hr ?_; (case hd => rfl); (case hg => rfl); (case hr => exact gs_); intro gb344 hg w17 hbox hb; have n0_ := Aside0.mk (blk_below (g := gb335) (o := .cells #[.int .i64 a0_0, .int .i64 a0_1, .int .i64 a0_2, .int .i64 a0_3] 23 (0, 0)) (by refine bs_ ?_; exact BK335.out) hb); have n1_ := Aside0.mk (below_step (by repeat (first | (with_reducible first | exact HB.out | apply below_alloc | apply pw_below_drewN | apply below_drew1 | refine below_set ?_ GE335.out) | exact HB.out)) hb); have n2_ := Aside0.mk (hbox); have n3_ := Aside0.mk ((by rw [hg]; exact (below_size (by repeat (first | (with_reducible first | exact HB.out | apply below_alloc | apply pw_below_drewN | apply below_drew1 | refine below_set ?_ GE335.out) | exact HB.out))) : w.heap.size ≤ gb344)); have n4_ := Aside0.mk ((by rw [hg]; exact (below_size (by repeat (first | (with_reducible first | exact HB.out | apply below_alloc | apply pw_below_drewN | apply below_drew1 | refine below_set ?_ GE335.out) | exact HB.out))) : w.heap.size ≤ gb344)); have n5_ := Aside0.mk ((by rw [hg]; exact Nat.ne_of_lt (blk_lt (g := gb335) (o := .cells #[.int .i64 a0_0, .int .i64 a0_1, .int .i64 a0_2, .int .i64 a0_3] 23 (0, 0)) (by refine bs_ ?_; exact BK335.out)) : gb335 ≠ gb344)); have n6_ := Aside0.mk ((by rw [hg]; exact Nat.ne_of_gt (blk_lt (g := gb335) (o := .cells #[.int .i64 a0_0, .int .i64 a0_1, .int .i64 a0_2, .int .i64 a0_3] 23 (0, 0)) (by refine bs_ ?_; exact BK335.out)) : gb344 ≠ gb335)); clear BK335; clear HB; have BK335 := n0_; have HB := n1_; have BK344 := n2_; have GW344 := n3_; have GE344 := n4_; have NB335_344 := n5_; have NB344_335 := n6_; clear n0_ n1_ n2_ n3_ n4_ n5_ n6_; clear hb hbox hg; have hnb18 := NB344_335.out; have hnc18 := NB335_344.out; have hcz19_0 : w17.cell? ⟨gb344, 0, none⟩ = some (.int .i64 0) := (blk_cell BK344.out 0).trans rfl; have hcz19_1 : w17.cell? ⟨gb344, 1, none⟩ = some (.int .i64 0) := (blk_cell BK344.out 1).trans rfl; have hcz19_2 : w17.cell? ⟨gb344, 2, none⟩ = some (.int .i64 0) := (blk_cell BK344.out 2).trans rfl; have hcz19_3 : w17.cell? ⟨gb344, 3, none⟩ = some (.int .i64 0) := (blk_cell BK344.out 3).trans rfl; have hfz19_0 := blk_frozen BK344.out 0; have hfz19_1 := blk_frozen BK344.out 1; have hfz19_2 := blk_frozen BK344.out 2; have hfz19_3 := blk_frozen BK344.out 3; have hcz20_0 : w17.cell? ⟨gb335, 0, none⟩ = some (.int .i64 a0_0) := (blk_cell BK335.out 0).trans rfl; have hcz20_1 : w17.cell? ⟨gb335, 1, none⟩ = some (.int .i64 a0_1) := (blk_cell BK335.out 1).trans rfl; have hcz20_2 : w17.cell? ⟨gb335, 2, none⟩ = some (.int .i64 a0_2) := (blk_cell BK335.out 2).trans rfl; have hcz20_3 : w17.cell? ⟨gb335, 3, none⟩ = some (.int .i64 a0_3) := (blk_cell BK335.out 3).trans rfl; have hfz20_0 := blk_frozen BK335.out 0; have hfz20_1 := blk_frozen BK335.out 1; have hfz20_2 := blk_frozen BK335.out 2; have hfz20_3 := blk_frozen BK335.out 3) | ((with_reducible refine gate_callee (f := 22) rfl ?_); refine goesL_ (some 45) rfl rfl Try.func22 (by kernel_rfl) rfl #[.agg #[.int .i64 a0_0, .int .i64 a0_1, .int .i64 a0_2, .int .i64 a0_3], .int .i64 (wrap64 (1 + (Int.tmod (wrap64 (a1)) 3000)))] rfl mp_ ?_; (with_reducible refine (discs_Discs.calls k a0_0 a0_1 a0_2 a0_3 (wrap64 (1 + (Int.tmod (wrap64 (a1)) 3000))) t345 t348 _ A8.out).mono ?_); rintro e w21 ⟨v346, rfl, ho0, hb⟩; refine ⟨_, rfl, ?_⟩; have n0_ := Aside0.mk (Kd.R_lower ho0 (below_size (by repeat (first | (with_reducible first | exact HB.out | apply below_alloc | apply pw_below_drewN | apply below_drew1 | refine below_set ?_ GE335.out | refine below_set ?_ GE344.out) | exact HB.out)))); have n1_ := Aside0.mk (blk_below (g := gb335) (o := .cells #[.int .i64 a0_0, .int .i64 a0_1, .int .i64 a0_2, .int .i64 a0_3] 23 (0, 0)) (by refine bs_ ?_; refine blk_far ?_ NB335_344.out _; refine bs_ ?_; refine blk_far ?_ NB335_344.out _; refine bs_ ?_; refine blk_far ?_ NB335_344.out _; refine bs_ ?_; refine blk_far ?_ NB335_344.out _; refine bs_ ?_; exact BK335.out) hb); have n2_ := Aside0.mk (blk_below (g := gb344) (o := .cells #[.int .i64 t338, .int .i64 t339, .int .i64 t340, .int .i64 t341] 23 (0, 0)) (by refine bs_ ?_; refine blk_put (cs := #[.int .i64 t338, .int .i64 t339, .int .i64 t340, .int .i64 0]) ?_ 3 _ rfl; refine bs_ ?_; refine blk_put (cs := #[.int .i64 t338, .int .i64 t339, .int .i64 0, .int .i64 0]) ?_ 2 _ rfl; refine bs_ ?_; refine blk_put (cs := #[.int .i64 t338, .int .i64 0, .int .i64 0, .int .i64 0]) ?_ 1 _ rfl; refine bs_ ?_; refine blk_put (cs := #[.int .i64 0, .int .i64 0, .int .i64 0, .int .i64 0]) ?_ 0 _ rfl; refine bs_ ?_; exact BK344.out) hb); have n3_ := Aside0.mk (below_step (by repeat (first | (with_reducible first | exact HB.out | apply below_alloc | apply pw_below_drewN | apply below_drew1 | refine below_set ?_ GE335.out | refine below_set ?_ GE344.out) | exact HB.out)) hb); clear BK335; clear BK344; clear HB; have HO347 := n0_; have BK335 := n1_; have BK344 := n2_; have HB := n3_; clear n0_ n1_ n2_ n3_; (try clear hb); (try clear hb2); (try clear hk); (try clear hi); (try clear ho0); have hcz22_0 : w21.cell? ⟨gb344, 0, none⟩ = some (.int .i64 t338) := (blk_cell BK344.out 0).trans rfl; have hcz22_1 : w21.cell? ⟨gb344, 1, none⟩ = some (.int .i64 t339) := (blk_cell BK344.out 1).trans rfl; have hcz22_2 : w21.cell? ⟨gb344, 2, none⟩ = some (.int .i64 t340) := (blk_cell BK344.out 2).trans rfl; have hcz22_3 : w21.cell? ⟨gb344, 3, none⟩ = some (.int .i64 t341) := (blk_cell BK344.out 3).trans rfl; have hfz22_0 := blk_frozen BK344.out 0; have hfz22_1 := blk_frozen BK344.out 1; have hfz22_2 := blk_frozen BK344.out 2; have hfz22_3 := blk_frozen BK344.out 3) | ((with_reducible refine gate_callee (f := 22) rfl ?_); refine goesL_ (some 51) rfl rfl Try.func22 (by kernel_rfl) rfl #[.agg #[.int .i64 t338, .int .i64 t339, .int .i64 t340, .int .i64 t341], .int .i64 (wrap64 (1 + (Int.tmod (wrap64 (a1)) 3000)))] rfl mp_ ?_; (with_reducible refine (discs_Discs.calls k t338 t339 t340 t341 (wrap64 (1 + (Int.tmod (wrap64 (a1)) 3000))) t349 t352 _ A9.out).mono ?_); rintro e w23 ⟨v350, rfl, ho0, hb⟩; refine ⟨_, rfl, ?_⟩; have n0_ := Aside0.mk (Kd.R_elder' (by refine kr_ ?_; exact HO347.out) (Kd.R_base ho0) hb); have n1_ := Aside0.mk (Kd.R_lower (Kd.R_new' ho0 (Kd.R_lt (by refine kr_ ?_; exact HO347.out))) (below_size (by repeat (first | (with_reducible first | exact HB.out | apply below_alloc | apply pw_below_drewN | apply below_drew1 | refine below_set ?_ GE335.out | refine below_set ?_ GE344.out) | exact HB.out)))); have n2_ := Aside0.mk (blk_below (g := gb335) (o := .cells #[.int .i64 a0_0, .int .i64 a0_1, .int .i64 a0_2, .int .i64 a0_3] 23 (0, 0)) (by refine bs_ ?_; exact BK335.out) hb); have n3_ := Aside0.mk (blk_below (g := gb344) (o := .cells #[.int .i64 t338, .int .i64 t339, .int .i64 t340, .int .i64 t341] 23 (0, 0)) (by refine bs_ ?_; exact BK344.out) hb); have n4_ := Aside0.mk (below_step (by repeat (first | (with_reducible first | exact HB.out | apply below_alloc | apply pw_below_drewN | apply below_drew1 | refine below_set ?_ GE335.out | refine below_set ?_ GE344.out) | exact HB.out)) hb); clear HO347; clear BK335; clear BK344; clear HB; have HO347 := n0_; have HO351 := n1_; have BK335 := n2_; have BK344 := n3_; have HB := n4_; clear n0_ n1_ n2_ n3_ n4_; (try clear hb); (try clear hb2); (try clear hk); (try clear hi); (try clear ho0); have hcz24_0 : w23.cell? ⟨gb335, 0, none⟩ = some (.int .i64 a0_0) := (blk_cell BK335.out 0).trans rfl; have hcz24_1 : w23.cell? ⟨gb335, 1, none⟩ = some (.int .i64 a0_1) := (blk_cell BK335.out 1).trans rfl; have hcz24_2 : w23.cell? ⟨gb335, 2, none⟩ = some (.int .i64 a0_2) := (blk_cell BK335.out 2).trans rfl; have hcz24_3 : w23.cell? ⟨gb335, 3, none⟩ = some (.int .i64 a0_3) := (blk_cell BK335.out 3).trans rfl; have hfz24_0 := blk_frozen BK335.out 0; have hfz24_1 := blk_frozen BK335.out 1; have hfz24_2 := blk_frozen BK335.out 2; have hfz24_3 := blk_frozen BK335.out 3) | ((with_reducible refine gate_callee (f := 25) rfl ?_); refine goesL_ (some 56) rfl rfl Try.func25 (by kernel_rfl) rfl #[.agg #[.int .i64 a0_0, .int .i64 a0_1, .int .i64 a0_2, .int .i64 a0_3]] rfl mp_ ?_; (with_reducible refine (discs_Rests.calls k a0_0 a0_1 a0_2 a0_3 t353 t356 _ A10.out).mono ?_); rintro e w25 ⟨v354, rfl, ho0, hb⟩; refine ⟨_, rfl, ?_⟩; have n0_ := Aside0.mk (Kd.R_elder' (by refine kr_ ?_; exact HO347.out) (Kd.R_base ho0) hb); have n1_ := Aside0.mk (Kd.R_elder' (by refine kr_ ?_; exact HO351.out) (Kd.R_base ho0) hb); have n2_ := Aside0.mk (Kd.R_lower (Kd.R_new' (Kd.R_new' ho0 (Kd.R_lt (by refine kr_ ?_; exact HO347.out))) (Kd.R_lt (by refine kr_ ?_; exact HO351.out))) (below_size (by repeat (first | (with_reducible first | exact HB.out | apply below_alloc | apply pw_below_drewN | apply below_drew1 | refine below_set ?_ GE335.out | refine below_set ?_ GE344.out) | exact HB.out)))); have n3_ := Aside0.mk (blk_below (g := gb335) (o := .cells #[.int .i64 a0_0, .int .i64 a0_1, .int .i64 a0_2, .int .i64 a0_3] 23 (0, 0)) (by refine bs_ ?_; exact BK335.out) hb); have n4_ := Aside0.mk (blk_below (g := gb344) (o := .cells #[.int .i64 t338, .int .i64 t339, .int .i64 t340, .int .i64 t341] 23 (0, 0)) (by refine bs_ ?_; exact BK344.out) hb); have n5_ := Aside0.mk (below_step (by repeat (first | (with_reducible first | exact HB.out | apply below_alloc | apply pw_below_drewN | apply below_drew1 | refine below_set ?_ GE335.out | refine below_set ?_ GE344.out) | exact HB.out)) hb); clear HO347; clear HO351; clear BK335; clear BK344; clear HB; have HO347 := n0_; have HO351 := n1_; have HO355 := n2_; have BK335 := n3_; have BK344 := n4_; have HB := n5_; clear n0_ n1_ n2_ n3_ n4_ n5_; (try clear hb); (try clear hb2); (try clear hk); (try clear hi); (try clear ho0)))
   (try simp only [Act.put, List.setIfInBounds_toArray, List.set_cons_zero, List.set_cons_succ])
   go_cut [75] (fun v75 wc => ∃ (kq : Nat) (x75_10 : Bool), v75 = .bool x75_10 ∧ Aside0 (clochelaw01_DiscsPacked.j0 kq (wrap64 (1 + (Int.tmod (wrap64 (a1)) 3000))) (wrap64 (1 + (Int.tmod (wrap64 (a2)) (wrap64 (1 + (Int.tmod (wrap64 (a1)) 3000)))))) t345 t348 t353 x75_10 a0_0 a0_1 a0_2 a0_3 t338 t339 t340 t341 = some r) ∧ Aside0 (kq ≤ k) ∧ Aside0 (Kd.R (Kd.int .i64) 3 wc w.heap.size (fun k_ => some k_ ≠ (v354 : Value).ownBlock) v346 t345) ∧ Aside0 (Kd.R (Kd.int .i64) 3 wc w.heap.size (fun k_ => some k_ ≠ (v346 : Value).ownBlock) v354 t353) ∧ Aside0 (wc.heap[gb335]? = some (.cells #[.int .i64 a0_0, .int .i64 a0_1, .int .i64 a0_2, .int .i64 a0_3] 23 (0, 0))) ∧ Aside0 (wc.heap[gb344]? = some (.cells #[.int .i64 t338, .int .i64 t339, .int .i64 t340, .int .i64 t341] 23 (0, 0))) ∧ Aside0 (Below w.heap.size w wc))
   case first =>
    have H := HC11.out
    clear HC11
    by_cases c26 : t343 = 0
    ·rw [if_pos c26] at H
     have c26b0 : (t343 == 0) = true := beq_iff_eq.mpr c26
     have c26b1 : (t343 != 0) = false := bne_eq_false_iff_eq.mpr c26
     clear c26
     (first | rw [c26b0] | (simp only [i64_w, i32_w]; rw [c26b0]) | skip)
     by_cases c27 : t348 = t352
     ·rw [if_pos c27] at H
      have c27b0 : (t348 == t352) = true := beq_iff_eq.mpr c27
      have c27b1 : (t348 != t352) = false := bne_eq_false_iff_eq.mpr c27
      clear c27
      by_cases c28 : t356 = 0
      ·rw [if_pos c28] at H
       have c28b0 : (t356 == 0) = true := beq_iff_eq.mpr c28
       have c28b1 : (t356 != 0) = false := bne_eq_false_iff_eq.mpr c28
       clear c28
       replace H := Option.bind_eq_some_iff.mp H
       obtain ⟨t357, A290, H⟩ := H
       replace H : (clochelaw01_DiscsPacked.j0 k (wrap64 (1 + (Int.tmod (wrap64 (a1)) 3000))) (wrap64 (1 + (Int.tmod (wrap64 (a2)) (wrap64 (1 + (Int.tmod (wrap64 (a1)) 3000)))))) t345 t348 t353 (!t357) a0_0 a0_1 a0_2 a0_3 t338 t339 t340 t341) = some r := H
       have A29 := Aside0.mk A290
       clear A290
       have H' := Aside0.mk H
       clear H
       obtain ⟨Ao30, co30, eo30⟩ := Kd.R_slice HO347.out
       subst eo30
       obtain ⟨Ao31, co31, eo31⟩ := Kd.R_slice HO351.out
       subst eo31
       go_wp2_with (first | (go_at_call 24; (with_reducible refine (clochelaw01_same.calls k _ _ t345 _ _ t349 t357 _ ?side1 ?side2 ?side3 ?side4 A29.out).mono ?_); (case side1 => repeat (first | exact (Kd.R_reads' HO347.out).2.2 | (with_reducible refine Kd.C_alloc ?_ _) | (with_reducible refine Kd.C_drewN ?_ _) | (with_reducible refine Kd.C_drew ?_))); (case side2 => exact (Kd.R_reads' HO347.out).2.1); (case side3 => repeat (first | exact (Kd.R_reads' HO351.out).2.2 | (with_reducible refine Kd.C_alloc ?_ _) | (with_reducible refine Kd.C_drewN ?_ _) | (with_reducible refine Kd.C_drew ?_))); (case side4 => exact (Kd.R_reads' HO351.out).2.1); rintro e w' ⟨rfl, ⟨nd, rfl⟩⟩))
       go_meet
       case rel => exact ⟨_, (!t357), eq_, H', ⟨by first | omega | exact Nat.le_refl _⟩, ⟨by refine kr_ ?_; exact Kd.R_mono HO347.out (fun _ hk => hk.2)⟩, ⟨by refine kr_ ?_; exact Kd.R_mono HO355.out (fun _ hk => hk.1.2)⟩, ⟨by refine bs_ ?_; exact BK335.out⟩, ⟨by refine bs_ ?_; exact BK344.out⟩, ⟨by repeat (first | (with_reducible first | exact HB.out | apply below_alloc | apply pw_below_drewN | apply below_drew1 | refine below_set ?_ GE335.out | refine below_set ?_ GE344.out) | exact HB.out)⟩⟩
      ·rw [if_neg c28] at H
       exact absurd H (by simp)
     ·rw [if_neg c27] at H
      exact absurd H (by simp)
    ·rw [if_neg c26] at H
     exact absurd H (by simp)
   case rest =>
    clear HC11
    try clear c1
    try clear c2
    try clear p2
    try clear c5
    try clear c6
    try clear c6b0
    try clear c6b1
    try clear p6
    try clear c8
    try clear c15
    try clear c18
    try clear c22
    try clear c25
    try clear c26
    try clear c26b0
    try clear c26b1
    try clear c27
    try clear c27b0
    try clear c27b1
    try clear c28
    try clear c28b0
    try clear c28b1
    try clear hcz13_0
    try clear hcz13_1
    try clear hcz13_2
    try clear hcz13_3
    try clear hcz15_0
    try clear hcz15_1
    try clear hcz15_2
    try clear hcz15_3
    try clear hcz19_0
    try clear hcz19_1
    try clear hcz19_2
    try clear hcz19_3
    try clear hcz20_0
    try clear hcz20_1
    try clear hcz20_2
    try clear hcz20_3
    try clear hcz22_0
    try clear hcz22_1
    try clear hcz22_2
    try clear hcz22_3
    try clear hcz24_0
    try clear hcz24_1
    try clear hcz24_2
    try clear hcz24_3
    try clear hfz13_0
    try clear hfz13_1
    try clear hfz13_2
    try clear hfz13_3
    try clear hfz15_0
    try clear hfz15_1
    try clear hfz15_2
    try clear hfz15_3
    try clear hfz19_0
    try clear hfz19_1
    try clear hfz19_2
    try clear hfz19_3
    try clear hfz20_0
    try clear hfz20_1
    try clear hfz20_2
    try clear hfz20_3
    try clear hfz22_0
    try clear hfz22_1
    try clear hfz22_2
    try clear hfz22_3
    try clear hfz24_0
    try clear hfz24_1
    try clear hfz24_2
    try clear hfz24_3
    obtain ⟨kq, x75_10, rfl, HA, HJ10, HO_12, HO_16, BK335, BK344, HB⟩ := hcut
    cases kq with
    | zero => exact absurd HA.out (by simp [clochelaw01_DiscsPacked.j0])
    | succ kj10 =>
     have H := HA.out
     clear HA
     simp only [clochelaw01_DiscsPacked.j0] at H
     by_cases c32 : x75_10 = true
     ·subst c32
      have H1 : (none) = some r := by rw [if_pos rfl] at H; exact H
      clear H
      have H := H1
      clear H1
      exact absurd H (by simp)
     ·replace c32 := Bool.eq_false_iff.mpr c32
      subst c32
      have H1 : (if t348 = 0 then (if 24 ≤ 281474976710656 then (clochelaw01_DiscsPacked.l0 kj10 (wrap64 (1 + (Int.tmod (wrap64 (a1)) 3000))) (wrap64 (1 + (Int.tmod (wrap64 (a2)) (wrap64 (1 + (Int.tmod (wrap64 (a1)) 3000)))))) t345 t353 (List.replicate 24 false) 0 a0_0 a0_1 a0_2 a0_3 t338 t339 t340 t341) else (none)) else (if (t345.length : Int) = 0 then (if ((t348 == 9) == (t338 == 0)) = true then (if t348 = 9 then ((clochelaw01_alive.f kj10).bind fun t358 => (some t358)) else (if t348 = 8 then ((clochelaw01_alive.f kj10).bind fun t359 => (some t359)) else (none))) else (none)) else (none))) = some r := by rw [if_neg (show ¬ (false = true) by decide)] at H; exact H
      clear H
      have H := H1
      clear H1
      by_cases c33 : t348 = 0
      ·rw [if_pos c33] at H
       have c33b0 : (t348 == 0) = true := beq_iff_eq.mpr c33
       have c33b1 : (t348 != 0) = false := bne_eq_false_iff_eq.mpr c33
       clear c33
       by_cases c34 : 24 ≤ 281474976710656
       ·rw [if_pos c34] at H
        have c34b0 := eq_true c34
        have c34b1 : decide (24 ≤ 281474976710656) = true := decide_eq_true c34
        clear c34
        obtain ⟨y360, hy360⟩ : ∃ y_ : List Bool, y_ = (List.replicate 24 false) := ⟨_, rfl⟩
        replace H : (clochelaw01_DiscsPacked.l0 kj10 (wrap64 (1 + (Int.tmod (wrap64 (a1)) 3000))) (wrap64 (1 + (Int.tmod (wrap64 (a2)) (wrap64 (1 + (Int.tmod (wrap64 (a1)) 3000)))))) t345 t353 y360 0 a0_0 a0_1 a0_2 a0_3 t338 t339 t340 t341) = some r := by first | (rw [hy360]; with_reducible exact H) | (have H2_ := (Option.bind_some _ _).symm.trans H; rw [hy360]; with_reducible exact H2_) | (have H2_ := (Option.bind_some _ _).symm.trans H; with_reducible exact H2_) | with_reducible exact H | (rw [hy360]; exact H) | exact H
        have Ny360 := Aside0.mk hy360
        clear hy360
        have H' := Aside0.mk H
        clear H
        go_wp2_with (first | ((with_reducible refine gate_dst (N := 18) rfl ?_); (try (refine gate_guard (by rfl) ?_; dsimp only)); refine R_box24 (ok := fun _ => True) ?hg (N := 18) ?hd ?hr trivial (Below.refl _ _) (Nat.le_refl _) ?_; (case hd => rfl); (case hg => rfl); (case hr => exact gs_); intro gs18 v361 w35 hv18 ho36 hb hg_ hnew_; clear hg_ hnew_; have HV18 := Aside0.mk hv18; clear hv18; (first | rw [← Ny360.out] at ho36 | (simp only [Int.reduceToNat] at ho36; rw [← Ny360.out] at ho36)); have n0_ := Aside0.mk (Kd.R_below (by refine kr_ ?_; exact HO_12.out) hb); have n1_ := Aside0.mk (Kd.R_below (by refine kr_ ?_; exact HO_16.out) hb); have n2_ := Aside0.mk (Kd.R_lower ho36 (below_size (by repeat (first | (with_reducible first | exact HB.out | apply below_alloc | apply pw_below_drewN | apply below_drew1 | refine below_set ?_ GE335.out | refine below_set ?_ GE344.out) | exact HB.out)))); have n3_ := Aside0.mk (blk_below (g := gb335) (o := .cells #[.int .i64 a0_0, .int .i64 a0_1, .int .i64 a0_2, .int .i64 a0_3] 23 (0, 0)) (by refine bs_ ?_; exact BK335.out) hb); have n4_ := Aside0.mk (blk_below (g := gb344) (o := .cells #[.int .i64 t338, .int .i64 t339, .int .i64 t340, .int .i64 t341] 23 (0, 0)) (by refine bs_ ?_; exact BK344.out) hb); have n5_ := Aside0.mk (below_step (by repeat (first | (with_reducible first | exact HB.out | apply below_alloc | apply pw_below_drewN | apply below_drew1 | refine below_set ?_ GE335.out | refine below_set ?_ GE344.out) | exact HB.out)) hb); clear HO_12; clear HO_16; clear BK335; clear BK344; clear HB; have HO_12 := n0_; have HO_16 := n1_; have HO362 := n2_; have BK335 := n3_; have BK344 := n4_; have HB := n5_; clear n0_ n1_ n2_ n3_ n4_ n5_; clear hb ho36))
        go_loopg [19] kj10 (fun kq v19 w' => ∃ (x18_2 : List Bool) (x19_2 : Int), v19 = .int .i64 x19_2 ∧ Aside0 (clochelaw01_DiscsPacked.l0 kq (wrap64 (1 + (Int.tmod (wrap64 (a1)) 3000))) (wrap64 (1 + (Int.tmod (wrap64 (a2)) (wrap64 (1 + (Int.tmod (wrap64 (a1)) 3000)))))) t345 t353 x18_2 x19_2 a0_0 a0_1 a0_2 a0_3 t338 t339 t340 t341 = some r) ∧ Aside0 (kq ≤ kj10) ∧ Aside0 (Kd.R (Kd.int .i64) 3 w' w.heap.size (fun k_ => some k_ ≠ (v354 : Value).ownBlock) v346 t345) ∧ Aside0 (Kd.R (Kd.int .i64) 3 w' w.heap.size (fun k_ => some k_ ≠ (v346 : Value).ownBlock) v354 t353) ∧ Aside0 (Kd.R Kd.bool 47 w' w.heap.size (fun _ => True) v361 x18_2) ∧ Aside0 (w'.heap[gb335]? = some (.cells #[.int .i64 a0_0, .int .i64 a0_1, .int .i64 a0_2, .int .i64 a0_3] 23 (0, 0))) ∧ Aside0 (w'.heap[gb344]? = some (.cells #[.int .i64 t338, .int .i64 t339, .int .i64 t340, .int .i64 t341] 23 (0, 0))) ∧ Aside0 (Below w.heap.size w w'))
        case atStart => exact ⟨(y360), (0), eq_, H', ⟨Nat.le_refl _⟩, ⟨by refine kr_ ?_; exact HO_12.out⟩, ⟨by refine kr_ ?_; exact HO_16.out⟩, ⟨by refine kr_ ?_; exact HO362.out⟩, ⟨by refine bs_ ?_; exact BK335.out⟩, ⟨by refine bs_ ?_; exact BK344.out⟩, ⟨by repeat (first | (with_reducible first | exact HB.out | apply below_alloc | apply pw_below_drewN | apply below_drew1 | refine below_set ?_ GE335.out | refine below_set ?_ GE344.out) | exact HB.out)⟩⟩
        case round =>
         clear H'
         try clear c1
         try clear c2
         try clear p2
         try clear c3
         try clear c5
         try clear c6
         try clear c6b0
         try clear c6b1
         try clear p6
         try clear c8
         try clear c15
         try clear c18
         try clear c22
         try clear c25
         try clear c26
         try clear c26b0
         try clear c26b1
         try clear c27
         try clear c27b0
         try clear c27b1
         try clear c28
         try clear c28b0
         try clear c28b1
         try clear c32
         try clear c33
         try clear c33b0
         try clear c33b1
         try clear c34
         try clear c34b0
         try clear c34b1
         try clear hcz13_0
         try clear hcz13_1
         try clear hcz13_2
         try clear hcz13_3
         try clear hcz15_0
         try clear hcz15_1
         try clear hcz15_2
         try clear hcz15_3
         try clear hcz19_0
         try clear hcz19_1
         try clear hcz19_2
         try clear hcz19_3
         try clear hcz20_0
         try clear hcz20_1
         try clear hcz20_2
         try clear hcz20_3
         try clear hcz22_0
         try clear hcz22_1
         try clear hcz22_2
         try clear hcz22_3
         try clear hcz24_0
         try clear hcz24_1
         try clear hcz24_2
         try clear hcz24_3
         try clear hfz13_0
         try clear hfz13_1
         try clear hfz13_2
         try clear hfz13_3
         try clear hfz15_0
         try clear hfz15_1
         try clear hfz15_2
         try clear hfz15_3
         try clear hfz19_0
         try clear hfz19_1
         try clear hfz19_2
         try clear hfz19_3
         try clear hfz20_0
         try clear hfz20_1
         try clear hfz20_2
         try clear hfz20_3
         try clear hfz22_0
         try clear hfz22_1
         try clear hfz22_2
         try clear hfz22_3
         try clear hfz24_0
         try clear hfz24_1
         try clear hfz24_2
         try clear hfz24_3
         try clear p2
         try clear p6
         obtain ⟨x18_2, x19_2, rfl, HA, HK2, HO_12, HO_16, HO_18, BK335, BK344, HB⟩ := hrel
         cases gk with
         | zero => exact absurd HA.out (by simp [clochelaw01_DiscsPacked.l0])
         | succ k2 =>
          have H := HA.out
          clear HA
          simp only [clochelaw01_DiscsPacked.l0] at H
          by_cases c37 : x19_2 < (t353.length : Int)
          ·rw [if_pos c37] at H
           have c37b0 : decide (x19_2 < (t353.length : Int)) = true := decide_eq_true c37
           clear c37
           by_cases c38 : 0 ≤ x19_2
           ·rw [if_pos c38] at H
            have c38b0 : decide (0 ≤ x19_2) = true := decide_eq_true c38
            clear c38
            by_cases c39 : (rd t353 x19_2) < 0
            ·rw [if_pos c39] at H
             exact absurd H (by simp)
            ·rw [if_neg c39] at H
             have c39b0 : decide ((rd t353 x19_2) < 0) = false := decide_eq_false c39
             clear c39
             by_cases c40 : (rd t353 x19_2) > 23
             ·rw [if_pos c40] at H
              exact absurd H (by simp)
             ·rw [if_neg c40] at H
              have c40b0 : decide (23 < (rd t353 x19_2)) = false := decide_eq_false c40
              clear c40
              by_cases c41 : 0 ≤ (rd t353 x19_2)
              ·rw [if_pos c41] at H
               have c41b0 : decide (0 ≤ (rd t353 x19_2)) = true := decide_eq_true c41
               clear c41
               by_cases c42 : (rd t353 x19_2) < (x18_2.length : Int)
               ·rw [if_pos c42] at H
                have c42b0 : decide ((rd t353 x19_2) < (x18_2.length : Int)) = true := decide_eq_true c42
                clear c42
                obtain ⟨y366, hy366⟩ : ∃ y_ : List Bool, y_ = (x18_2.set ((rd t353 x19_2) : Int).toNat true) := ⟨_, rfl⟩
                replace H : (clochelaw01_DiscsPacked.l0 k2 (wrap64 (1 + (Int.tmod (wrap64 (a1)) 3000))) (wrap64 (1 + (Int.tmod (wrap64 (a2)) (wrap64 (1 + (Int.tmod (wrap64 (a1)) 3000)))))) t345 t353 y366 (wrap64 (x19_2 + 1)) a0_0 a0_1 a0_2 a0_3 t338 t339 t340 t341) = some r := by first | (rw [hy366]; with_reducible exact H) | (have H2_ := (Option.bind_some _ _).symm.trans H; rw [hy366]; with_reducible exact H2_) | (have H2_ := (Option.bind_some _ _).symm.trans H; with_reducible exact H2_) | with_reducible exact H | (rw [hy366]; exact H) | exact H
                have Ny366 := Aside0.mk hy366
                clear hy366
                have H' := Aside0.mk H
                clear H
                obtain ⟨Ao44, co44, eo44⟩ := Kd.R_slice HO_16.out
                subst eo44
                have p363 : 0 ≤ (x19_2 : Int) := of_decide_eq_true as_
                have q363 : x19_2 < (t353.length : Int) := of_decide_eq_true as_
                obtain ⟨ad363, e363, hx363_0⟩ := Kd.at_int (Kd.R_reads' HO_16.out).2.2 x19_2 p363 q363
                cases e363
                replace p363 := eq_true p363
                replace q363 := eq_true q363
                have p364 : 0 ≤ (x19_2 : Int) := of_decide_eq_true as_
                have q364 : x19_2 < (t353.length : Int) := of_decide_eq_true as_
                obtain ⟨ad364, e364, hx364_0⟩ := Kd.at_int (Kd.R_reads' HO_16.out).2.2 x19_2 p364 q364
                obtain rfl : ad363 = ad364 := (by injection e364)
                replace p364 := eq_true p364
                replace q364 := eq_true q364
                have p365 : 0 ≤ (x19_2 : Int) := of_decide_eq_true as_
                have q365 : x19_2 < (t353.length : Int) := of_decide_eq_true as_
                obtain ⟨ad365, e365, hx365_0⟩ := Kd.at_int (Kd.R_reads' HO_16.out).2.2 x19_2 p365 q365
                obtain rfl : ad363 = ad365 := (by injection e365)
                replace p365 := eq_true p365
                replace q365 := eq_true q365
                have p43 : 0 ≤ ((rd t353 x19_2) : Int) := of_decide_eq_true as_
                have q43 : ((rd t353 x19_2) : Int) < ((x18_2.length : Int) : Int) := of_decide_eq_true as_
                obtain ⟨go43, co43, eo43, gb43, gl43, cl43, HG43⟩ := Kd.R_form HO_18.out (by omega)
                (first | cases eo43 | (injection eo43 with ea_ en_ ec_; (first | subst ea_ | (injection ea_ with ea_; subst ea_)); subst ec_; clear en_))
                have hv_ := HV18.out
                injection hv_ with ha_ hl_ hc_
                injection ha_ with ha_
                injection ha_ with ha_ hb_ hd_
                subst ha_
                have q24_ := eq_true (show _ < (24 : Int) from Int.lt_of_lt_of_le q43 (by omega))
                have GB43 := Aside0.mk gb43
                have GG43 := Aside0.mk HG43
                clear gb43 gl43 HG43
                obtain ⟨hx43_0, hf43_0⟩ := Kd.R_celln false HO_18.out ((rd t353 x19_2) : Int) p43 q43
                replace p43 := eq_true p43
                replace q43 := eq_true q43
                have HP45 := Kd.R_putg HO_18.out ((rd t353 x19_2) : Int) true
                go_wp2_with (first | ((with_reducible refine gate_store (t := 4) (p := 122) rfl ?_); refine store_event (t := 4) (p := 122) (v := ?vo_w46) (w1 := (wr.setCell ⟨go43, ((rd t353 x19_2) : Int).toNat, none⟩ (.bool true))) ?hg ?ho ?hn ?hr ?_; (case ho => rfl); (case hg => rfl); (case hn => rfl); (case hr => exact gs_); intro w46 hw; have hg : wr.grownBy w46 (some go43) := (by rw [hw]; exact HP45.2); have hp_ : Kd.R Kd.bool 47 w46 w.heap.size (fun _ => True) (.slice (some ⟨go43, 0, none⟩) x18_2.length co43) y366 := (by rw [hw, Ny366.out]; exact HP45.1); clear HP45; have n0_ := Aside0.mk (Kd.R_over' (v := (.slice (some ⟨go43, 0, none⟩) x18_2.length co43)) (by refine kr_ ?_; exact HO_12.out) (Kd.R_typed HO_18.out) (by decide) hg); have n1_ := Aside0.mk (Kd.R_over' (v := (.slice (some ⟨go43, 0, none⟩) x18_2.length co43)) (by refine kr_ ?_; exact HO_16.out) (Kd.R_typed HO_18.out) (by decide) hg); have n2_ := Aside0.mk (hp_); have n3_ := Aside0.mk (blk_grown (g := gb335) (o := .cells #[.int .i64 a0_0, .int .i64 a0_1, .int .i64 a0_2, .int .i64 a0_3] 23 (0, 0)) (by refine bs_ ?_; exact BK335.out) hg (Kd.R_ne HO_18.out BK335.out (by decide))); have n4_ := Aside0.mk (blk_grown (g := gb344) (o := .cells #[.int .i64 t338, .int .i64 t339, .int .i64 t340, .int .i64 t341] 23 (0, 0)) (by refine bs_ ?_; exact BK344.out) hg (Kd.R_ne HO_18.out BK344.out (by decide))); have n5_ := Aside0.mk ((by rw [hw]; exact below_set (HB.out) GB43.out : Below w.heap.size w w46)); clear HO_12; clear HO_16; clear HO_18; clear BK335; clear BK344; clear HB; have HO_12 := n0_; have HO_16 := n1_; have HO_18 := n2_; have BK335 := n3_; have BK344 := n4_; have HB := n5_; clear n0_ n1_ n2_ n3_ n4_ n5_; clear hg hw hp_))
                go_roundg k2
                case measure => have := HJ10.out; have := HK2.out; omega
                case rel => exact ⟨(y366), (wrap64 (x19_2 + 1)), eq_, H', ⟨by have := HJ10.out; have := HK2.out; omega⟩, ⟨by refine kr_ ?_; exact HO_12.out⟩, ⟨by refine kr_ ?_; exact HO_16.out⟩, ⟨by refine kr_ ?_; exact HO_18.out⟩, ⟨by refine bs_ ?_; exact BK335.out⟩, ⟨by refine bs_ ?_; exact BK344.out⟩, ⟨by repeat (first | (with_reducible first | exact HB.out | apply below_alloc | apply pw_below_drewN | apply below_drew1 | refine below_set ?_ GE335.out | refine below_set ?_ GE344.out) | exact HB.out)⟩⟩
               ·rw [if_neg c42] at H
                exact absurd H (by simp)
              ·rw [if_neg c41] at H
               exact absurd H (by simp)
           ·rw [if_neg c38] at H
            exact absurd H (by simp)
          ·rw [if_neg c37] at H
           have c37b0 : decide (x19_2 < (t353.length : Int)) = false := decide_eq_false c37
           clear c37
           have H' := Aside0.mk H
           clear H
           obtain ⟨Ao47, co47, eo47⟩ := Kd.R_slice HO_16.out
           subst eo47
           go_wp2
           go_loopg [20, 21] k2 (fun kq v20 v21 w' => ∃ (x20_3 : Int) (x21_3 : Int), v20 = .int .i64 x20_3 ∧ v21 = .int .i64 x21_3 ∧ Aside0 (clochelaw01_DiscsPacked.l1 kq (wrap64 (1 + (Int.tmod (wrap64 (a1)) 3000))) (wrap64 (1 + (Int.tmod (wrap64 (a2)) (wrap64 (1 + (Int.tmod (wrap64 (a1)) 3000)))))) t345 x18_2 x20_3 x21_3 a0_0 a0_1 a0_2 a0_3 t338 t339 t340 t341 = some r) ∧ Aside0 (kq ≤ k2) ∧ Aside0 (Kd.R (Kd.int .i64) 3 w' w.heap.size (fun _ => True) v346 t345) ∧ Aside0 (Kd.R Kd.bool 47 w' w.heap.size (fun _ => True) v361 x18_2) ∧ Aside0 (w'.heap[gb335]? = some (.cells #[.int .i64 a0_0, .int .i64 a0_1, .int .i64 a0_2, .int .i64 a0_3] 23 (0, 0))) ∧ Aside0 (w'.heap[gb344]? = some (.cells #[.int .i64 t338, .int .i64 t339, .int .i64 t340, .int .i64 t341] 23 (0, 0))) ∧ Aside0 (Below w.heap.size w w'))
           case atStart => exact ⟨(0), (0), eq_, eq_, H', ⟨Nat.le_refl _⟩, ⟨by refine kr_ ?_; exact Kd.R_mono HO_12.out (fun _ hk => trivial)⟩, ⟨by refine kr_ ?_; exact HO_18.out⟩, ⟨by refine bs_ ?_; exact BK335.out⟩, ⟨by refine bs_ ?_; exact BK344.out⟩, ⟨by repeat (first | (with_reducible first | exact HB.out | apply below_alloc | apply pw_below_drewN | apply below_drew1 | refine below_set ?_ GE335.out | refine below_set ?_ GE344.out) | exact HB.out)⟩⟩
           case round =>
            clear H'
            try clear c1
            try clear c2
            try clear p2
            try clear c3
            try clear p3
            try clear q3
            try clear hx3
            try clear c4
            try clear p4
            try clear q4
            try clear hx4
            try clear hf4
            try clear c5
            try clear c6
            try clear c6b0
            try clear c6b1
            try clear p6
            try clear c8
            try clear c15
            try clear c18
            try clear c22
            try clear c25
            try clear c26
            try clear c26b0
            try clear c26b1
            try clear c27
            try clear c27b0
            try clear c27b1
            try clear c28
            try clear c28b0
            try clear c28b1
            try clear c32
            try clear c33
            try clear c33b0
            try clear c33b1
            try clear c34
            try clear c34b0
            try clear c34b1
            try clear p36
            try clear q36
            try clear hx36
            try clear c37
            try clear c37b0
            try clear c38
            try clear c38b0
            try clear c39
            try clear c39b0
            try clear c40
            try clear c40b0
            try clear c41
            try clear c41b0
            try clear c42
            try clear c42b0
            try clear p43
            try clear q43
            try clear hx43
            try clear hf43
            try clear hcz13_0
            try clear hcz13_1
            try clear hcz13_2
            try clear hcz13_3
            try clear hcz15_0
            try clear hcz15_1
            try clear hcz15_2
            try clear hcz15_3
            try clear hcz19_0
            try clear hcz19_1
            try clear hcz19_2
            try clear hcz19_3
            try clear hcz20_0
            try clear hcz20_1
            try clear hcz20_2
            try clear hcz20_3
            try clear hcz22_0
            try clear hcz22_1
            try clear hcz22_2
            try clear hcz22_3
            try clear hcz24_0
            try clear hcz24_1
            try clear hcz24_2
            try clear hcz24_3
            try clear hfz13_0
            try clear hfz13_1
            try clear hfz13_2
            try clear hfz13_3
            try clear hfz15_0
            try clear hfz15_1
            try clear hfz15_2
            try clear hfz15_3
            try clear hfz19_0
            try clear hfz19_1
            try clear hfz19_2
            try clear hfz19_3
            try clear hfz20_0
            try clear hfz20_1
            try clear hfz20_2
            try clear hfz20_3
            try clear hfz22_0
            try clear hfz22_1
            try clear hfz22_2
            try clear hfz22_3
            try clear hfz24_0
            try clear hfz24_1
            try clear hfz24_2
            try clear hfz24_3
            try clear hx363_0
            try clear hx364_0
            try clear hx365_0
            try clear hx43_0
            try clear p2
            try clear p363
            try clear p364
            try clear p365
            try clear p43
            try clear p6
            try clear q363
            try clear q364
            try clear q365
            try clear q43
            obtain ⟨x20_3, x21_3, rfl, rfl, HA, HK3, HO_12, HO_18, BK335, BK344, HB⟩ := hrel
            cases gk with
            | zero => exact absurd HA.out (by simp [clochelaw01_DiscsPacked.l1])
            | succ k3 =>
             have H := HA.out
             clear HA
             simp only [clochelaw01_DiscsPacked.l1] at H
             by_cases c48 : x21_3 < (t345.length : Int)
             ·rw [if_pos c48] at H
              have c48b0 : decide (x21_3 < (t345.length : Int)) = true := decide_eq_true c48
              clear c48
              have HC49 := Aside0.mk H
              clear H
              obtain ⟨Ao50, co50, eo50⟩ := Kd.R_slice HO_12.out
              subst eo50
              go_upto_region 24 with (fail)
              go_cut [162] (fun v162 wc => ∃ (kq : Nat) (x162_48 : Bool), v162 = .bool x162_48 ∧ Aside0 (clochelaw01_DiscsPacked.j3 kq (wrap64 (1 + (Int.tmod (wrap64 (a1)) 3000))) (wrap64 (1 + (Int.tmod (wrap64 (a2)) (wrap64 (1 + (Int.tmod (wrap64 (a1)) 3000)))))) t345 x18_2 x20_3 x21_3 x162_48 a0_0 a0_1 a0_2 a0_3 t338 t339 t340 t341 = some r) ∧ Aside0 (kq ≤ k3) ∧ Aside0 (Kd.R (Kd.int .i64) 3 wc w.heap.size (fun _ => True) (.slice Ao50 t345.length co50) t345) ∧ Aside0 (Kd.R Kd.bool 47 wc w.heap.size (fun _ => True) v361 x18_2) ∧ Aside0 (wc.heap[gb335]? = some (.cells #[.int .i64 a0_0, .int .i64 a0_1, .int .i64 a0_2, .int .i64 a0_3] 23 (0, 0))) ∧ Aside0 (wc.heap[gb344]? = some (.cells #[.int .i64 t338, .int .i64 t339, .int .i64 t340, .int .i64 t341] 23 (0, 0))) ∧ Aside0 (Below w.heap.size w wc))
              case first =>
               have H := HC49.out
               clear HC49
               by_cases c51 : 0 ≤ x21_3
               ·rw [if_pos c51] at H
                have c51b0 : decide (0 ≤ x21_3) = true := decide_eq_true c51
                clear c51
                (first | rw [c51b0] | (simp only [i64_w, i32_w]; rw [c51b0]) | skip)
                by_cases c52 : (rd t345 x21_3) > (wrap64 (1 + (Int.tmod (wrap64 (a1)) 3000)))
                ·rw [if_pos c52] at H
                 exact absurd H (by simp)
                ·rw [if_neg c52] at H
                 have c52b0 : decide ((wrap64 (1 + (Int.tmod (wrap64 (a1)) 3000))) < (rd t345 x21_3)) = false := decide_eq_false c52
                 clear c52
                 by_cases c53 : x21_3 > 0
                 ·rw [if_pos c53] at H
                  have c53b0 : decide (0 < x21_3) = true := decide_eq_true c53
                  clear c53
                  obtain ⟨ji54, hji54⟩ : ∃ j_ : Int, (wrap64 (x21_3 - 1)) = j_ := ⟨_, rfl⟩
                  replace H : (if 0 ≤ (ji54) then (if (ji54) < (t345.length : Int) then (if (rd t345 x21_3) < (rd t345 (ji54)) then (none) else (if 0 ≤ (Int.tmod (wrap64 ((Int.tmod (rd t345 x21_3) 24) + 24)) 24) then (if (Int.tmod (wrap64 ((Int.tmod (rd t345 x21_3) 24) + 24)) 24) < (x18_2.length : Int) then (clochelaw01_DiscsPacked.j3 k3 (wrap64 (1 + (Int.tmod (wrap64 (a1)) 3000))) (wrap64 (1 + (Int.tmod (wrap64 (a2)) (wrap64 (1 + (Int.tmod (wrap64 (a1)) 3000)))))) t345 x18_2 x20_3 x21_3 (!(rdOf false x18_2 (Int.tmod (wrap64 ((Int.tmod (rd t345 x21_3) 24) + 24)) 24))) a0_0 a0_1 a0_2 a0_3 t338 t339 t340 t341) else (none)) else (none))) else (none)) else (none)) = some r := by first | (rw [hji54] at H; exact H) | (simp only [hji54] at H ⊢; exact H)
                  have hji54w : (IntKind.i64.wrap (x21_3 - 1)) = ji54 := (i64_w _).trans hji54
                  by_cases c55 : 0 ≤ (ji54)
                  ·rw [if_pos c55] at H
                   have c55b0 : decide (0 ≤ (ji54)) = true := decide_eq_true c55
                   clear c55
                   by_cases c56 : (ji54) < (t345.length : Int)
                   ·rw [if_pos c56] at H
                    have c56b0 : decide ((ji54) < (t345.length : Int)) = true := decide_eq_true c56
                    clear c56
                    by_cases c57 : (rd t345 x21_3) < (rd t345 (ji54))
                    ·rw [if_pos c57] at H
                     exact absurd H (by simp)
                    ·rw [if_neg c57] at H
                     have c57b0 : decide ((rd t345 x21_3) < (rd t345 (ji54))) = false := decide_eq_false c57
                     clear c57
                     obtain ⟨ji58, hji58⟩ : ∃ j_ : Int, (Int.tmod (wrap64 ((Int.tmod (rd t345 x21_3) 24) + 24)) 24) = j_ := ⟨_, rfl⟩
                     replace H : (if 0 ≤ (ji58) then (if (ji58) < (x18_2.length : Int) then (clochelaw01_DiscsPacked.j3 k3 (wrap64 (1 + (Int.tmod (wrap64 (a1)) 3000))) (wrap64 (1 + (Int.tmod (wrap64 (a2)) (wrap64 (1 + (Int.tmod (wrap64 (a1)) 3000)))))) t345 x18_2 x20_3 x21_3 (!(rdOf false x18_2 (ji58))) a0_0 a0_1 a0_2 a0_3 t338 t339 t340 t341) else (none)) else (none)) = some r := by first | (rw [hji58] at H; exact H) | (simp only [hji58] at H ⊢; exact H)
                     by_cases c59 : 0 ≤ (ji58)
                     ·rw [if_pos c59] at H
                      have c59b0 : decide (0 ≤ (ji58)) = true := decide_eq_true c59
                      clear c59
                      by_cases c60 : (ji58) < (x18_2.length : Int)
                      ·rw [if_pos c60] at H
                       have c60b0 : decide ((ji58) < (x18_2.length : Int)) = true := decide_eq_true c60
                       clear c60
                       have H' := Aside0.mk H
                       clear H
                       try go_wp2
                       have n0_ := Aside0.mk (Kd.R_drew HO_12.out)
                       have n1_ := Aside0.mk (Kd.R_drew HO_18.out)
                       have n2_ := Aside0.mk (blk_drew BK335.out)
                       have n3_ := Aside0.mk (blk_drew BK344.out)
                       have n4_ := Aside0.mk (below_drew1 HB.out)
                       clear HO_12
                       clear HO_18
                       clear BK335
                       clear BK344
                       clear HB
                       have HO_12 := n0_
                       have HO_18 := n1_
                       have BK335 := n2_
                       have BK344 := n3_
                       have HB := n4_
                       clear n0_ n1_ n2_ n3_ n4_
                       have p378 : 0 ≤ (x21_3 : Int) := of_decide_eq_true as_
                       have q378 : x21_3 < (t345.length : Int) := of_decide_eq_true as_
                       obtain ⟨ad378, e378, hx378_0⟩ := Kd.at_int (Kd.R_reads' HO_12.out).2.2 x21_3 p378 q378
                       cases e378
                       replace p378 := eq_true p378
                       replace q378 := eq_true q378
                       have p379 : 0 ≤ (x21_3 : Int) := of_decide_eq_true as_
                       have q379 : x21_3 < (t345.length : Int) := of_decide_eq_true as_
                       obtain ⟨ad379, e379, hx379_0⟩ := Kd.at_int (Kd.R_reads' HO_12.out).2.2 x21_3 p379 q379
                       obtain rfl : ad378 = ad379 := (by injection e379)
                       replace p379 := eq_true p379
                       replace q379 := eq_true q379
                       have p380 : 0 ≤ ((ji54) : Int) := of_decide_eq_true as_
                       have q380 : (ji54) < (t345.length : Int) := of_decide_eq_true as_
                       obtain ⟨ad380, e380, hx380_0⟩ := Kd.at_int (Kd.R_reads' HO_12.out).2.2 (ji54) p380 q380
                       obtain rfl : ad378 = ad380 := (by injection e380)
                       replace p380 := eq_true p380
                       replace q380 := eq_true q380
                       have p381 : 0 ≤ (x21_3 : Int) := of_decide_eq_true as_
                       have q381 : x21_3 < (t345.length : Int) := of_decide_eq_true as_
                       obtain ⟨ad381, e381, hx381_0⟩ := Kd.at_int (Kd.R_reads' HO_12.out).2.2 x21_3 p381 q381
                       obtain rfl : ad378 = ad381 := (by injection e381)
                       replace p381 := eq_true p381
                       replace q381 := eq_true q381
                       obtain ⟨Ao62, co62, eo62⟩ := Kd.R_slice HO_18.out
                       (first | subst eo62 | (injection eo62 with f1_ f2_ f3_; have f4_ := f1_.symm; have f5_ := f3_.symm; clear f1_ f2_ f3_; subst f4_; subst f5_))
                       have p382 : 0 ≤ ((ji58) : Int) := of_decide_eq_true as_
                       have q382 : (ji58) < (x18_2.length : Int) := of_decide_eq_true as_
                       obtain ⟨ad382, e382, hx382_0⟩ := Kd.at_bool (Kd.R_reads' HO_18.out).2.2 (ji58) p382 q382
                       cases e382
                       have hv_ := HV18.out
                       injection hv_ with ha_ hl_ hc_
                       injection ha_ with ha_
                       subst ha_
                       simp only [add_plain] at hx382_0
                       have q24_ := eq_true (show _ < (24 : Int) from Int.lt_of_lt_of_le q382 (by omega))
                       replace p382 := eq_true p382
                       replace q382 := eq_true q382
                       refine start_ (n := 34) (S := fun w' => w'.cell? (ad378.add (x21_3).toNat) = some (.int .i64 (rd t345 x21_3)) ∧ w'.cell? (ad378.add (x21_3).toNat) = some (.int .i64 (rd t345 x21_3)) ∧ w'.cell? (ad378.add ((ji54)).toNat) = some (.int .i64 (rd t345 (ji54))) ∧ w'.cell? (ad378.add (x21_3).toNat) = some (.int .i64 (rd t345 x21_3)) ∧ w'.cell? ⟨gs18, ((ji58) : Int).toNat, none⟩ = some (.bool (rdOf false x18_2 (ji58)))) (ds := []) #[false, false, false, false, false, false, false, false, false, false, false, false, false, false, false, false, false, false, false, false, false, false, false, false, false, false, false, false, false, false, false, false, false, false] (by kernel_rfl) rfl rfl ⟨hx378_0, hx379_0, hx380_0, hx381_0, hx382_0⟩ (fun hHeld => ?_); refine with_tabW clochelaw01_DiscsPacked.tab24 clochelaw01_DiscsPacked.bits24 (fun HT_ HW_ => ?_)
                       generalize wr.drew = w61 at HO_12 HO_18 BK335 BK344 HB hx378_0 hx379_0 hx380_0 hx381_0 hx382_0 hHeld ⊢
                       refine pure_ (i := 0) (N := some 129) (v := ?_) (a' := ?_) #[true, false, false, false, false, false, false, false, false, false, false, false, false, false, false, false, false, false, false, false, false, false, false, false, false, false, false, false, false, false, false, false, false, false] rfl rfl (any_of HT_.out (by kernel_rfl)) (fun _ _ _ h => h) (Or.inl ⟨by rfl, ?_⟩) ?_ ?_
                       rotate_left
                       ·intro w'
                        go_simp
                        with_reducible rfl
                       rotate_left
                       ·exact pt_
                       refine pure_ (i := 1) (N := some 130) (v := ?_) (a' := ?_) #[true, true, false, false, false, false, false, false, false, false, false, false, false, false, false, false, false, false, false, false, false, false, false, false, false, false, false, false, false, false, false, false, false, false] rfl rfl (any_of HT_.out (by kernel_rfl)) (fun _ _ _ h => h) (Or.inl ⟨by rfl, ?_⟩) ?_ ?_
                       rotate_left
                       ·intro w'
                        go_simp
                        with_reducible rfl
                       rotate_left
                       ·exact pt_
                       refine pure_ (i := 2) (N := some 131) (v := ?_) (a' := ?_) #[true, true, true, false, false, false, false, false, false, false, false, false, false, false, false, false, false, false, false, false, false, false, false, false, false, false, false, false, false, false, false, false, false, false] rfl rfl (any_of HT_.out (by kernel_rfl)) (fun _ _ _ h => h) (Or.inl ⟨by rfl, ?_⟩) ?_ ?_
                       rotate_left
                       ·intro w'
                        go_simp
                        with_reducible rfl
                       rotate_left
                       ·exact pt_
                       refine pure_ (i := 4) (N := some 133) (v := ?_) (a' := ?_) #[true, true, true, false, true, false, false, false, false, false, false, false, false, false, false, false, false, false, false, false, false, false, false, false, false, false, false, false, false, false, false, false, false, false] rfl rfl (any_of HT_.out (by kernel_rfl)) (fun _ _ _ h => h) (Or.inl ⟨by rfl, ?_⟩) ?_ ?_
                       rotate_left
                       ·intro w'
                        go_simp
                        with_reducible rfl
                       rotate_left
                       ·exact pt_
                       refine take_ (i := 3) (N := some 132) (v := ?_) (a' := ?_) #[true, true, true, true, true, false, false, false, false, false, false, false, false, false, false, false, false, false, false, false, false, false, false, false, false, false, false, false, false, false, false, false, false, false] rfl rfl (take_ofW HT_.out HW_.out (by kernel_rfl)) (fun _ _ _ h => h) (Or.inl ⟨by rfl, ?_⟩) hHeld ?_ ?_
                       rotate_left
                       ·rintro w' ⟨s0, s1, s2, s3, s4⟩
                        go_simp
                        with_reducible rfl
                       rotate_left
                       ·exact pt_
                       refine pure_ (i := 5) (N := some 134) (v := ?_) (a' := ?_) #[true, true, true, true, true, true, false, false, false, false, false, false, false, false, false, false, false, false, false, false, false, false, false, false, false, false, false, false, false, false, false, false, false, false] rfl rfl (any_of HT_.out (by kernel_rfl)) (fun _ _ _ h => h) (Or.inl ⟨by rfl, ?_⟩) ?_ ?_
                       rotate_left
                       ·intro w'
                        go_simp
                        with_reducible rfl
                       rotate_left
                       ·exact pt_
                       refine pure_ (i := 6) (N := some 135) (v := ?_) (a' := ?_) #[true, true, true, true, true, true, true, false, false, false, false, false, false, false, false, false, false, false, false, false, false, false, false, false, false, false, false, false, false, false, false, false, false, false] rfl rfl (any_of HT_.out (by kernel_rfl)) (fun _ _ _ h => h) (Or.inl ⟨by rfl, ?_⟩) ?_ ?_
                       rotate_left
                       ·intro w'
                        go_simp
                        with_reducible rfl
                       rotate_left
                       ·exact pt_
                       refine pure_ (i := 7) (N := some 136) (v := ?_) (a' := ?_) #[true, true, true, true, true, true, true, true, false, false, false, false, false, false, false, false, false, false, false, false, false, false, false, false, false, false, false, false, false, false, false, false, false, false] rfl rfl (any_of HT_.out (by kernel_rfl)) (fun _ _ _ h => h) (Or.inl ⟨by rfl, ?_⟩) ?_ ?_
                       rotate_left
                       ·intro w'
                        go_simp
                        with_reducible rfl
                       rotate_left
                       ·exact pt_
                       refine pure_ (i := 8) (N := some 137) (v := ?_) (a' := ?_) #[true, true, true, true, true, true, true, true, true, false, false, false, false, false, false, false, false, false, false, false, false, false, false, false, false, false, false, false, false, false, false, false, false, false] rfl rfl (any_of HT_.out (by kernel_rfl)) (fun _ _ _ h => h) (Or.inl ⟨by rfl, ?_⟩) ?_ ?_
                       rotate_left
                       ·intro w'
                        go_simp
                        with_reducible rfl
                       rotate_left
                       ·exact pt_
                       refine pure_ (i := 9) (N := some 138) (v := ?_) (a' := ?_) #[true, true, true, true, true, true, true, true, true, true, false, false, false, false, false, false, false, false, false, false, false, false, false, false, false, false, false, false, false, false, false, false, false, false] rfl rfl (any_of HT_.out (by kernel_rfl)) (fun _ _ _ h => h) (Or.inl ⟨by rfl, ?_⟩) ?_ ?_
                       rotate_left
                       ·intro w'
                        go_simp
                        with_reducible rfl
                       rotate_left
                       ·exact pt_
                       refine pure_ (i := 10) (N := some 139) (v := ?_) (a' := ?_) #[true, true, true, true, true, true, true, true, true, true, true, false, false, false, false, false, false, false, false, false, false, false, false, false, false, false, false, false, false, false, false, false, false, false] rfl rfl (any_of HT_.out (by kernel_rfl)) (fun _ _ _ h => h) (Or.inl ⟨by rfl, ?_⟩) ?_ ?_
                       rotate_left
                       ·intro w'
                        go_simp
                        with_reducible rfl
                       rotate_left
                       ·exact pt_
                       refine pure_ (i := 11) (N := some 140) (v := ?_) (a' := ?_) #[true, true, true, true, true, true, true, true, true, true, true, true, false, false, false, false, false, false, false, false, false, false, false, false, false, false, false, false, false, false, false, false, false, false] rfl rfl (any_of HT_.out (by kernel_rfl)) (fun _ _ _ h => h) (Or.inl ⟨by rfl, ?_⟩) ?_ ?_
                       rotate_left
                       ·intro w'
                        go_simp
                        with_reducible rfl
                       rotate_left
                       ·exact pt_
                       refine pure_ (i := 12) (N := some 141) (v := ?_) (a' := ?_) #[true, true, true, true, true, true, true, true, true, true, true, true, true, false, false, false, false, false, false, false, false, false, false, false, false, false, false, false, false, false, false, false, false, false] rfl rfl (any_of HT_.out (by kernel_rfl)) (fun _ _ _ h => h) (Or.inl ⟨by rfl, ?_⟩) ?_ ?_
                       rotate_left
                       ·intro w'
                        go_simp
                        with_reducible rfl
                       rotate_left
                       ·exact pt_
                       refine pure_ (i := 14) (N := some 143) (v := ?_) (a' := ?_) #[true, true, true, true, true, true, true, true, true, true, true, true, true, false, true, false, false, false, false, false, false, false, false, false, false, false, false, false, false, false, false, false, false, false] rfl rfl (any_of HT_.out (by kernel_rfl)) (fun _ _ _ h => h) (Or.inl ⟨by rfl, ?_⟩) ?_ ?_
                       rotate_left
                       ·intro w'
                        go_simp
                        with_reducible rfl
                       rotate_left
                       ·exact pt_
                       refine pure_ (i := 15) (N := some 144) (v := ?_) (a' := ?_) #[true, true, true, true, true, true, true, true, true, true, true, true, true, false, true, true, false, false, false, false, false, false, false, false, false, false, false, false, false, false, false, false, false, false] rfl rfl (any_of HT_.out (by kernel_rfl)) (fun _ _ _ h => h) (Or.inl ⟨by rfl, ?_⟩) ?_ ?_
                       rotate_left
                       ·intro w'
                        go_simp
                        with_reducible rfl
                       rotate_left
                       ·exact pt_
                       refine pure_ (i := 16) (N := some 145) (v := ?_) (a' := ?_) #[true, true, true, true, true, true, true, true, true, true, true, true, true, false, true, true, true, false, false, false, false, false, false, false, false, false, false, false, false, false, false, false, false, false] rfl rfl (any_of HT_.out (by kernel_rfl)) (fun _ _ _ h => h) (Or.inl ⟨by rfl, ?_⟩) ?_ ?_
                       rotate_left
                       ·intro w'
                        go_simp
                        with_reducible rfl
                       rotate_left
                       ·exact pt_
                       refine pure_ (i := 17) (N := some 146) (v := ?_) (a' := ?_) #[true, true, true, true, true, true, true, true, true, true, true, true, true, false, true, true, true, true, false, false, false, false, false, false, false, false, false, false, false, false, false, false, false, false] rfl rfl (any_of HT_.out (by kernel_rfl)) (fun _ _ _ h => h) (Or.inl ⟨by rfl, ?_⟩) ?_ ?_
                       rotate_left
                       ·intro w'
                        go_simp
                        with_reducible rfl
                       rotate_left
                       ·exact pt_
                       refine take_ (i := 13) (N := some 142) (v := ?_) (a' := ?_) #[true, true, true, true, true, true, true, true, true, true, true, true, true, true, true, true, true, true, false, false, false, false, false, false, false, false, false, false, false, false, false, false, false, false] rfl rfl (take_ofW HT_.out HW_.out (by kernel_rfl)) (fun _ _ _ h => h) (Or.inl ⟨by rfl, ?_⟩) hHeld ?_ ?_
                       rotate_left
                       ·rintro w' ⟨s0, s1, s2, s3, s4⟩
                        go_simp
                        with_reducible rfl
                       rotate_left
                       ·exact pt_
                       refine take_ (i := 18) (N := some 147) (v := ?_) (a' := ?_) #[true, true, true, true, true, true, true, true, true, true, true, true, true, true, true, true, true, true, true, false, false, false, false, false, false, false, false, false, false, false, false, false, false, false] rfl rfl (take_ofW HT_.out HW_.out (by kernel_rfl)) (fun _ _ _ h => h) (Or.inl ⟨by rfl, ?_⟩) hHeld ?_ ?_
                       rotate_left
                       ·rintro w' ⟨s0, s1, s2, s3, s4⟩
                        go_simp
                        with_reducible rfl
                       rotate_left
                       ·exact pt_
                       refine pure_ (i := 19) (N := some 148) (v := ?_) (a' := ?_) #[true, true, true, true, true, true, true, true, true, true, true, true, true, true, true, true, true, true, true, true, false, false, false, false, false, false, false, false, false, false, false, false, false, false] rfl rfl (any_of HT_.out (by kernel_rfl)) (fun _ _ _ h => h) (Or.inl ⟨by rfl, ?_⟩) ?_ ?_
                       rotate_left
                       ·intro w'
                        go_simp
                        with_reducible rfl
                       rotate_left
                       ·exact pt_
                       refine pure_ (i := 20) (N := some 149) (v := ?_) (a' := ?_) #[true, true, true, true, true, true, true, true, true, true, true, true, true, true, true, true, true, true, true, true, true, false, false, false, false, false, false, false, false, false, false, false, false, false] rfl rfl (any_of HT_.out (by kernel_rfl)) (fun _ _ _ h => h) (Or.inl ⟨by rfl, ?_⟩) ?_ ?_
                       rotate_left
                       ·intro w'
                        go_simp
                        with_reducible rfl
                       rotate_left
                       ·exact pt_
                       refine pure_ (i := 21) (N := some 150) (v := ?_) (a' := ?_) #[true, true, true, true, true, true, true, true, true, true, true, true, true, true, true, true, true, true, true, true, true, true, false, false, false, false, false, false, false, false, false, false, false, false] rfl rfl (any_of HT_.out (by kernel_rfl)) (fun _ _ _ h => h) (Or.inl ⟨by rfl, ?_⟩) ?_ ?_
                       rotate_left
                       ·intro w'
                        go_simp
                        with_reducible rfl
                       rotate_left
                       ·exact pt_
                       refine pure_ (i := 22) (N := some 151) (v := ?_) (a' := ?_) #[true, true, true, true, true, true, true, true, true, true, true, true, true, true, true, true, true, true, true, true, true, true, true, false, false, false, false, false, false, false, false, false, false, false] rfl rfl (any_of HT_.out (by kernel_rfl)) (fun _ _ _ h => h) (Or.inl ⟨by rfl, ?_⟩) ?_ ?_
                       rotate_left
                       ·intro w'
                        go_simp
                        with_reducible rfl
                       rotate_left
                       ·exact pt_
                       refine pure_ (i := 23) (N := some 152) (v := ?_) (a' := ?_) #[true, true, true, true, true, true, true, true, true, true, true, true, true, true, true, true, true, true, true, true, true, true, true, true, false, false, false, false, false, false, false, false, false, false] rfl rfl (any_of HT_.out (by kernel_rfl)) (fun _ _ _ h => h) (Or.inl ⟨by rfl, ?_⟩) ?_ ?_
                       rotate_left
                       ·intro w'
                        go_simp
                        with_reducible rfl
                       rotate_left
                       ·exact pt_
                       refine pure_ (i := 24) (N := some 153) (v := ?_) (a' := ?_) #[true, true, true, true, true, true, true, true, true, true, true, true, true, true, true, true, true, true, true, true, true, true, true, true, true, false, false, false, false, false, false, false, false, false] rfl rfl (any_of HT_.out (by kernel_rfl)) (fun _ _ _ h => h) (Or.inl ⟨by rfl, ?_⟩) ?_ ?_
                       rotate_left
                       ·intro w'
                        go_simp
                        with_reducible rfl
                       rotate_left
                       ·exact pt_
                       refine pure_ (i := 25) (N := some 154) (v := ?_) (a' := ?_) #[true, true, true, true, true, true, true, true, true, true, true, true, true, true, true, true, true, true, true, true, true, true, true, true, true, true, false, false, false, false, false, false, false, false] rfl rfl (any_of HT_.out (by kernel_rfl)) (fun _ _ _ h => h) (Or.inl ⟨by rfl, ?_⟩) ?_ ?_
                       rotate_left
                       ·intro w'
                        go_simp
                        with_reducible rfl
                       rotate_left
                       ·exact pt_
                       refine take_ (i := 26) (N := some 155) (v := ?_) (a' := ?_) #[true, true, true, true, true, true, true, true, true, true, true, true, true, true, true, true, true, true, true, true, true, true, true, true, true, true, true, false, false, false, false, false, false, false] rfl rfl (take_ofW HT_.out HW_.out (by kernel_rfl)) (fun _ _ _ h => h) (Or.inl ⟨by rfl, ?_⟩) hHeld ?_ ?_
                       rotate_left
                       ·rintro w' ⟨s0, s1, s2, s3, s4⟩
                        go_simp
                        with_reducible rfl
                       rotate_left
                       ·exact pt_
                       refine pure_ (i := 27) (N := some 156) (v := ?_) (a' := ?_) #[true, true, true, true, true, true, true, true, true, true, true, true, true, true, true, true, true, true, true, true, true, true, true, true, true, true, true, true, false, false, false, false, false, false] rfl rfl (any_of HT_.out (by kernel_rfl)) (fun _ _ _ h => h) (Or.inl ⟨by rfl, ?_⟩) ?_ ?_
                       rotate_left
                       ·intro w'
                        go_simp
                        with_reducible rfl
                       rotate_left
                       ·exact pt_
                       refine pure_ (i := 28) (N := some 157) (v := ?_) (a' := ?_) #[true, true, true, true, true, true, true, true, true, true, true, true, true, true, true, true, true, true, true, true, true, true, true, true, true, true, true, true, true, false, false, false, false, false] rfl rfl (any_of HT_.out (by kernel_rfl)) (fun _ _ _ h => h) (Or.inl ⟨by rfl, ?_⟩) ?_ ?_
                       rotate_left
                       ·intro w'
                        go_simp
                        with_reducible rfl
                       rotate_left
                       ·exact pt_
                       refine pure_ (i := 29) (N := some 158) (v := ?_) (a' := ?_) #[true, true, true, true, true, true, true, true, true, true, true, true, true, true, true, true, true, true, true, true, true, true, true, true, true, true, true, true, true, true, false, false, false, false] rfl rfl (any_of HT_.out (by kernel_rfl)) (fun _ _ _ h => h) (Or.inl ⟨by rfl, ?_⟩) ?_ ?_
                       rotate_left
                       ·intro w'
                        go_simp
                        with_reducible rfl
                       rotate_left
                       ·exact pt_
                       refine pure_ (i := 30) (N := some 159) (v := ?_) (a' := ?_) #[true, true, true, true, true, true, true, true, true, true, true, true, true, true, true, true, true, true, true, true, true, true, true, true, true, true, true, true, true, true, true, false, false, false] rfl rfl (any_of HT_.out (by kernel_rfl)) (fun _ _ _ h => h) (Or.inl ⟨by rfl, ?_⟩) ?_ ?_
                       rotate_left
                       ·intro w'
                        go_simp
                        with_reducible rfl
                       rotate_left
                       ·exact pt_
                       refine take_ (i := 31) (N := some 160) (v := ?_) (a' := ?_) #[true, true, true, true, true, true, true, true, true, true, true, true, true, true, true, true, true, true, true, true, true, true, true, true, true, true, true, true, true, true, true, true, false, false] rfl rfl (take_ofW HT_.out HW_.out (by kernel_rfl)) (fun _ _ _ h => h) (Or.inl ⟨by rfl, ?_⟩) hHeld ?_ ?_
                       rotate_left
                       ·rintro w' ⟨s0, s1, s2, s3, s4⟩
                        go_simp
                        with_reducible rfl
                       rotate_left
                       ·exact pt_
                       refine pure_ (i := 32) (N := some 161) (v := ?_) (a' := ?_) #[true, true, true, true, true, true, true, true, true, true, true, true, true, true, true, true, true, true, true, true, true, true, true, true, true, true, true, true, true, true, true, true, true, false] rfl rfl (any_of HT_.out (by kernel_rfl)) (fun _ _ _ h => h) (Or.inl ⟨by rfl, ?_⟩) ?_ ?_
                       rotate_left
                       ·intro w'
                        go_simp
                        with_reducible rfl
                       rotate_left
                       ·exact pt_
                       refine pure_ (i := 33) (N := some 162) (v := ?_) (a' := ?_) #[true, true, true, true, true, true, true, true, true, true, true, true, true, true, true, true, true, true, true, true, true, true, true, true, true, true, true, true, true, true, true, true, true, true] rfl rfl (any_of HT_.out (by kernel_rfl)) (fun _ _ _ h => h) (Or.inl ⟨by rfl, ?_⟩) ?_ ?_
                       rotate_left
                       ·intro w'
                        go_simp
                        with_reducible rfl
                       rotate_left
                       ·exact pt_
                       refine done_ (done_of HT_.out (by kernel_rfl)) ?_
                       try go_wp2
                       go_meet
                       case rel => exact ⟨_, (!(rdOf false x18_2 (ji58))), (by first | rfl | (simp; done) | (simp only [← hji58] <;> (first | rfl | simp)) | (simp [*]; done)), H', ⟨by have := HJ10.out; have := HK2.out; have := HK3.out; first | omega | exact Nat.le_refl _⟩, ⟨by refine kr_ ?_; exact HO_12.out⟩, ⟨by refine kr_ ?_; exact HO_18.out⟩, ⟨by refine bs_ ?_; exact BK335.out⟩, ⟨by refine bs_ ?_; exact BK344.out⟩, ⟨by repeat (first | (with_reducible first | exact HB.out | apply below_alloc | apply pw_below_drewN | apply below_drew1 | refine below_set ?_ GE335.out | refine below_set ?_ GE344.out) | exact HB.out)⟩⟩
                      ·rw [if_neg c60] at H
                       exact absurd H (by simp)
                     ·rw [if_neg c59] at H
                      exact absurd H (by simp)
                   ·rw [if_neg c56] at H
                    exact absurd H (by simp)
                  ·rw [if_neg c55] at H
                   exact absurd H (by simp)
                 ·rw [if_neg c53] at H
                  have c53b0 : decide (0 < x21_3) = false := decide_eq_false c53
                  clear c53
                  obtain ⟨ji63, hji63⟩ : ∃ j_ : Int, (Int.tmod (wrap64 ((Int.tmod (rd t345 x21_3) 24) + 24)) 24) = j_ := ⟨_, rfl⟩
                  replace H : (if 0 ≤ (ji63) then (if (ji63) < (x18_2.length : Int) then (clochelaw01_DiscsPacked.j3 k3 (wrap64 (1 + (Int.tmod (wrap64 (a1)) 3000))) (wrap64 (1 + (Int.tmod (wrap64 (a2)) (wrap64 (1 + (Int.tmod (wrap64 (a1)) 3000)))))) t345 x18_2 x20_3 x21_3 (!(rdOf false x18_2 (ji63))) a0_0 a0_1 a0_2 a0_3 t338 t339 t340 t341) else (none)) else (none)) = some r := by first | (rw [hji63] at H; exact H) | (simp only [hji63] at H ⊢; exact H)
                  by_cases c64 : 0 ≤ (ji63)
                  ·rw [if_pos c64] at H
                   have c64b0 : decide (0 ≤ (ji63)) = true := decide_eq_true c64
                   clear c64
                   by_cases c65 : (ji63) < (x18_2.length : Int)
                   ·rw [if_pos c65] at H
                    have c65b0 : decide ((ji63) < (x18_2.length : Int)) = true := decide_eq_true c65
                    clear c65
                    have H' := Aside0.mk H
                    clear H
                    try go_wp2
                    have n0_ := Aside0.mk (Kd.R_drew HO_12.out)
                    have n1_ := Aside0.mk (Kd.R_drew HO_18.out)
                    have n2_ := Aside0.mk (blk_drew BK335.out)
                    have n3_ := Aside0.mk (blk_drew BK344.out)
                    have n4_ := Aside0.mk (below_drew1 HB.out)
                    clear HO_12
                    clear HO_18
                    clear BK335
                    clear BK344
                    clear HB
                    have HO_12 := n0_
                    have HO_18 := n1_
                    have BK335 := n2_
                    have BK344 := n3_
                    have HB := n4_
                    clear n0_ n1_ n2_ n3_ n4_
                    have p378 : 0 ≤ (x21_3 : Int) := of_decide_eq_true as_
                    have q378 : x21_3 < (t345.length : Int) := of_decide_eq_true as_
                    obtain ⟨ad378, e378, hx378_0⟩ := Kd.at_int (Kd.R_reads' HO_12.out).2.2 x21_3 p378 q378
                    cases e378
                    replace p378 := eq_true p378
                    replace q378 := eq_true q378
                    have p383 : 0 ≤ (x21_3 : Int) := of_decide_eq_true as_
                    have q383 : x21_3 < (t345.length : Int) := of_decide_eq_true as_
                    obtain ⟨ad383, e383, hx383_0⟩ := Kd.at_int (Kd.R_reads' HO_12.out).2.2 x21_3 p383 q383
                    obtain rfl : ad378 = ad383 := (by injection e383)
                    replace p383 := eq_true p383
                    replace q383 := eq_true q383
                    obtain ⟨Ao67, co67, eo67⟩ := Kd.R_slice HO_18.out
                    (first | subst eo67 | (injection eo67 with f1_ f2_ f3_; have f4_ := f1_.symm; have f5_ := f3_.symm; clear f1_ f2_ f3_; subst f4_; subst f5_))
                    have p384 : 0 ≤ ((ji63) : Int) := of_decide_eq_true as_
                    have q384 : (ji63) < (x18_2.length : Int) := of_decide_eq_true as_
                    obtain ⟨ad384, e384, hx384_0⟩ := Kd.at_bool (Kd.R_reads' HO_18.out).2.2 (ji63) p384 q384
                    cases e384
                    have hv_ := HV18.out
                    injection hv_ with ha_ hl_ hc_
                    injection ha_ with ha_
                    subst ha_
                    simp only [add_plain] at hx384_0
                    have q24_ := eq_true (show _ < (24 : Int) from Int.lt_of_lt_of_le q384 (by omega))
                    replace p384 := eq_true p384
                    replace q384 := eq_true q384
                    refine start_ (n := 34) (S := fun w' => w'.cell? (ad378.add (x21_3).toNat) = some (.int .i64 (rd t345 x21_3)) ∧ w'.cell? (ad378.add (x21_3).toNat) = some (.int .i64 (rd t345 x21_3)) ∧ w'.cell? ⟨gs18, ((ji63) : Int).toNat, none⟩ = some (.bool (rdOf false x18_2 (ji63)))) (ds := []) #[false, false, false, false, false, false, false, false, false, false, false, false, false, false, false, false, false, false, false, false, false, false, false, false, false, false, false, false, false, false, false, false, false, false] (by kernel_rfl) rfl rfl ⟨hx378_0, hx383_0, hx384_0⟩ (fun hHeld => ?_); refine with_tabW clochelaw01_DiscsPacked.tab24 clochelaw01_DiscsPacked.bits24 (fun HT_ HW_ => ?_)
                    generalize wr.drew = w66 at HO_12 HO_18 BK335 BK344 HB hx378_0 hx383_0 hx384_0 hHeld ⊢
                    refine pure_ (i := 0) (N := some 129) (v := ?_) (a' := ?_) #[true, false, false, false, false, false, false, false, false, false, false, false, false, false, false, false, false, false, false, false, false, false, false, false, false, false, false, false, false, false, false, false, false, false] rfl rfl (any_of HT_.out (by kernel_rfl)) (fun _ _ _ h => h) (Or.inl ⟨by rfl, ?_⟩) ?_ ?_
                    rotate_left
                    ·intro w'
                     go_simp
                     with_reducible rfl
                    rotate_left
                    ·exact pt_
                    refine pure_ (i := 1) (N := some 130) (v := ?_) (a' := ?_) #[true, true, false, false, false, false, false, false, false, false, false, false, false, false, false, false, false, false, false, false, false, false, false, false, false, false, false, false, false, false, false, false, false, false] rfl rfl (any_of HT_.out (by kernel_rfl)) (fun _ _ _ h => h) (Or.inl ⟨by rfl, ?_⟩) ?_ ?_
                    rotate_left
                    ·intro w'
                     go_simp
                     with_reducible rfl
                    rotate_left
                    ·exact pt_
                    refine pure_ (i := 2) (N := some 131) (v := ?_) (a' := ?_) #[true, true, true, false, false, false, false, false, false, false, false, false, false, false, false, false, false, false, false, false, false, false, false, false, false, false, false, false, false, false, false, false, false, false] rfl rfl (any_of HT_.out (by kernel_rfl)) (fun _ _ _ h => h) (Or.inl ⟨by rfl, ?_⟩) ?_ ?_
                    rotate_left
                    ·intro w'
                     go_simp
                     with_reducible rfl
                    rotate_left
                    ·exact pt_
                    refine pure_ (i := 4) (N := some 133) (v := ?_) (a' := ?_) #[true, true, true, false, true, false, false, false, false, false, false, false, false, false, false, false, false, false, false, false, false, false, false, false, false, false, false, false, false, false, false, false, false, false] rfl rfl (any_of HT_.out (by kernel_rfl)) (fun _ _ _ h => h) (Or.inl ⟨by rfl, ?_⟩) ?_ ?_
                    rotate_left
                    ·intro w'
                     go_simp
                     with_reducible rfl
                    rotate_left
                    ·exact pt_
                    refine take_ (i := 3) (N := some 132) (v := ?_) (a' := ?_) #[true, true, true, true, true, false, false, false, false, false, false, false, false, false, false, false, false, false, false, false, false, false, false, false, false, false, false, false, false, false, false, false, false, false] rfl rfl (take_ofW HT_.out HW_.out (by kernel_rfl)) (fun _ _ _ h => h) (Or.inl ⟨by rfl, ?_⟩) hHeld ?_ ?_
                    rotate_left
                    ·rintro w' ⟨s0, s1, s2⟩
                     go_simp
                     with_reducible rfl
                    rotate_left
                    ·exact pt_
                    refine pure_ (i := 5) (N := some 134) (v := ?_) (a' := ?_) #[true, true, true, true, true, true, false, false, false, false, false, false, false, false, false, false, false, false, false, false, false, false, false, false, false, false, false, false, false, false, false, false, false, false] rfl rfl (any_of HT_.out (by kernel_rfl)) (fun _ _ _ h => h) (Or.inl ⟨by rfl, ?_⟩) ?_ ?_
                    rotate_left
                    ·intro w'
                     go_simp
                     with_reducible rfl
                    rotate_left
                    ·exact pt_
                    refine pure_ (i := 6) (N := some 135) (v := ?_) (a' := ?_) #[true, true, true, true, true, true, true, false, false, false, false, false, false, false, false, false, false, false, false, false, false, false, false, false, false, false, false, false, false, false, false, false, false, false] rfl rfl (any_of HT_.out (by kernel_rfl)) (fun _ _ _ h => h) (Or.inl ⟨by rfl, ?_⟩) ?_ ?_
                    rotate_left
                    ·intro w'
                     go_simp
                     with_reducible rfl
                    rotate_left
                    ·exact pt_
                    refine pure_ (i := 7) (N := some 136) (v := ?_) (a' := ?_) #[true, true, true, true, true, true, true, true, false, false, false, false, false, false, false, false, false, false, false, false, false, false, false, false, false, false, false, false, false, false, false, false, false, false] rfl rfl (any_of HT_.out (by kernel_rfl)) (fun _ _ _ h => h) (Or.inl ⟨by rfl, ?_⟩) ?_ ?_
                    rotate_left
                    ·intro w'
                     go_simp
                     with_reducible rfl
                    rotate_left
                    ·exact pt_
                    refine pure_ (i := 8) (N := some 137) (v := ?_) (a' := ?_) #[true, true, true, true, true, true, true, true, true, false, false, false, false, false, false, false, false, false, false, false, false, false, false, false, false, false, false, false, false, false, false, false, false, false] rfl rfl (any_of HT_.out (by kernel_rfl)) (fun _ _ _ h => h) (Or.inl ⟨by rfl, ?_⟩) ?_ ?_
                    rotate_left
                    ·intro w'
                     go_simp
                     with_reducible rfl
                    rotate_left
                    ·exact pt_
                    refine pure_ (i := 9) (N := some 138) (v := ?_) (a' := ?_) #[true, true, true, true, true, true, true, true, true, true, false, false, false, false, false, false, false, false, false, false, false, false, false, false, false, false, false, false, false, false, false, false, false, false] rfl rfl (any_of HT_.out (by kernel_rfl)) (fun _ _ _ h => h) (Or.inl ⟨by rfl, ?_⟩) ?_ ?_
                    rotate_left
                    ·intro w'
                     go_simp
                     with_reducible rfl
                    rotate_left
                    ·exact pt_
                    refine pure_ (i := 10) (N := some 139) (v := undef) (a' := ?_) #[true, true, true, true, true, true, true, true, true, true, true, false, false, false, false, false, false, false, false, false, false, false, false, false, false, false, false, false, false, false, false, false, false, false] rfl rfl (any_of HT_.out (by kernel_rfl)) (fun _ _ _ h => h) (Or.inr ⟨by rfl, rfl⟩) ?_ ?_
                    rotate_left
                    ·exact pt_
                    refine pure_ (i := 11) (N := some 140) (v := undef) (a' := ?_) #[true, true, true, true, true, true, true, true, true, true, true, true, false, false, false, false, false, false, false, false, false, false, false, false, false, false, false, false, false, false, false, false, false, false] rfl rfl (any_of HT_.out (by kernel_rfl)) (fun _ _ _ h => h) (Or.inr ⟨by rfl, rfl⟩) ?_ ?_
                    rotate_left
                    ·exact pt_
                    refine pure_ (i := 12) (N := some 141) (v := undef) (a' := ?_) #[true, true, true, true, true, true, true, true, true, true, true, true, true, false, false, false, false, false, false, false, false, false, false, false, false, false, false, false, false, false, false, false, false, false] rfl rfl (any_of HT_.out (by kernel_rfl)) (fun _ _ _ h => h) (Or.inr ⟨by rfl, rfl⟩) ?_ ?_
                    rotate_left
                    ·exact pt_
                    refine pure_ (i := 13) (N := some 142) (v := undef) (a' := ?_) #[true, true, true, true, true, true, true, true, true, true, true, true, true, true, false, false, false, false, false, false, false, false, false, false, false, false, false, false, false, false, false, false, false, false] rfl rfl (any_of HT_.out (by kernel_rfl)) (fun _ _ _ h => h) (Or.inr ⟨by rfl, rfl⟩) ?_ ?_
                    rotate_left
                    ·exact pt_
                    refine pure_ (i := 14) (N := some 143) (v := undef) (a' := ?_) #[true, true, true, true, true, true, true, true, true, true, true, true, true, true, true, false, false, false, false, false, false, false, false, false, false, false, false, false, false, false, false, false, false, false] rfl rfl (any_of HT_.out (by kernel_rfl)) (fun _ _ _ h => h) (Or.inr ⟨by rfl, rfl⟩) ?_ ?_
                    rotate_left
                    ·exact pt_
                    refine pure_ (i := 15) (N := some 144) (v := undef) (a' := ?_) #[true, true, true, true, true, true, true, true, true, true, true, true, true, true, true, true, false, false, false, false, false, false, false, false, false, false, false, false, false, false, false, false, false, false] rfl rfl (any_of HT_.out (by kernel_rfl)) (fun _ _ _ h => h) (Or.inr ⟨by rfl, rfl⟩) ?_ ?_
                    rotate_left
                    ·exact pt_
                    refine pure_ (i := 16) (N := some 145) (v := undef) (a' := ?_) #[true, true, true, true, true, true, true, true, true, true, true, true, true, true, true, true, true, false, false, false, false, false, false, false, false, false, false, false, false, false, false, false, false, false] rfl rfl (any_of HT_.out (by kernel_rfl)) (fun _ _ _ h => h) (Or.inr ⟨by rfl, rfl⟩) ?_ ?_
                    rotate_left
                    ·exact pt_
                    refine pure_ (i := 17) (N := some 146) (v := undef) (a' := ?_) #[true, true, true, true, true, true, true, true, true, true, true, true, true, true, true, true, true, true, false, false, false, false, false, false, false, false, false, false, false, false, false, false, false, false] rfl rfl (any_of HT_.out (by kernel_rfl)) (fun _ _ _ h => h) (Or.inr ⟨by rfl, rfl⟩) ?_ ?_
                    rotate_left
                    ·exact pt_
                    refine pure_ (i := 18) (N := some 147) (v := undef) (a' := ?_) #[true, true, true, true, true, true, true, true, true, true, true, true, true, true, true, true, true, true, true, false, false, false, false, false, false, false, false, false, false, false, false, false, false, false] rfl rfl (any_of HT_.out (by kernel_rfl)) (fun _ _ _ h => h) (Or.inr ⟨by rfl, rfl⟩) ?_ ?_
                    rotate_left
                    ·exact pt_
                    refine pure_ (i := 19) (N := some 148) (v := undef) (a' := ?_) #[true, true, true, true, true, true, true, true, true, true, true, true, true, true, true, true, true, true, true, true, false, false, false, false, false, false, false, false, false, false, false, false, false, false] rfl rfl (any_of HT_.out (by kernel_rfl)) (fun _ _ _ h => h) (Or.inr ⟨by rfl, rfl⟩) ?_ ?_
                    rotate_left
                    ·exact pt_
                    refine pure_ (i := 20) (N := some 149) (v := ?_) (a' := ?_) #[true, true, true, true, true, true, true, true, true, true, true, true, true, true, true, true, true, true, true, true, true, false, false, false, false, false, false, false, false, false, false, false, false, false] rfl rfl (any_of HT_.out (by kernel_rfl)) (fun _ _ _ h => h) (Or.inl ⟨by rfl, ?_⟩) ?_ ?_
                    rotate_left
                    ·intro w'
                     go_simp
                     with_reducible rfl
                    rotate_left
                    ·exact pt_
                    refine pure_ (i := 21) (N := some 150) (v := ?_) (a' := ?_) #[true, true, true, true, true, true, true, true, true, true, true, true, true, true, true, true, true, true, true, true, true, true, false, false, false, false, false, false, false, false, false, false, false, false] rfl rfl (any_of HT_.out (by kernel_rfl)) (fun _ _ _ h => h) (Or.inl ⟨by rfl, ?_⟩) ?_ ?_
                    rotate_left
                    ·intro w'
                     go_simp
                     with_reducible rfl
                    rotate_left
                    ·exact pt_
                    refine pure_ (i := 22) (N := some 151) (v := ?_) (a' := ?_) #[true, true, true, true, true, true, true, true, true, true, true, true, true, true, true, true, true, true, true, true, true, true, true, false, false, false, false, false, false, false, false, false, false, false] rfl rfl (any_of HT_.out (by kernel_rfl)) (fun _ _ _ h => h) (Or.inl ⟨by rfl, ?_⟩) ?_ ?_
                    rotate_left
                    ·intro w'
                     go_simp
                     with_reducible rfl
                    rotate_left
                    ·exact pt_
                    refine pure_ (i := 23) (N := some 152) (v := ?_) (a' := ?_) #[true, true, true, true, true, true, true, true, true, true, true, true, true, true, true, true, true, true, true, true, true, true, true, true, false, false, false, false, false, false, false, false, false, false] rfl rfl (any_of HT_.out (by kernel_rfl)) (fun _ _ _ h => h) (Or.inl ⟨by rfl, ?_⟩) ?_ ?_
                    rotate_left
                    ·intro w'
                     go_simp
                     with_reducible rfl
                    rotate_left
                    ·exact pt_
                    refine pure_ (i := 24) (N := some 153) (v := ?_) (a' := ?_) #[true, true, true, true, true, true, true, true, true, true, true, true, true, true, true, true, true, true, true, true, true, true, true, true, true, false, false, false, false, false, false, false, false, false] rfl rfl (any_of HT_.out (by kernel_rfl)) (fun _ _ _ h => h) (Or.inl ⟨by rfl, ?_⟩) ?_ ?_
                    rotate_left
                    ·intro w'
                     go_simp
                     with_reducible rfl
                    rotate_left
                    ·exact pt_
                    refine pure_ (i := 25) (N := some 154) (v := ?_) (a' := ?_) #[true, true, true, true, true, true, true, true, true, true, true, true, true, true, true, true, true, true, true, true, true, true, true, true, true, true, false, false, false, false, false, false, false, false] rfl rfl (any_of HT_.out (by kernel_rfl)) (fun _ _ _ h => h) (Or.inl ⟨by rfl, ?_⟩) ?_ ?_
                    rotate_left
                    ·intro w'
                     go_simp
                     with_reducible rfl
                    rotate_left
                    ·exact pt_
                    refine take_ (i := 26) (N := some 155) (v := ?_) (a' := ?_) #[true, true, true, true, true, true, true, true, true, true, true, true, true, true, true, true, true, true, true, true, true, true, true, true, true, true, true, false, false, false, false, false, false, false] rfl rfl (take_ofW HT_.out HW_.out (by kernel_rfl)) (fun _ _ _ h => h) (Or.inl ⟨by rfl, ?_⟩) hHeld ?_ ?_
                    rotate_left
                    ·rintro w' ⟨s0, s1, s2⟩
                     go_simp
                     with_reducible rfl
                    rotate_left
                    ·exact pt_
                    refine pure_ (i := 27) (N := some 156) (v := ?_) (a' := ?_) #[true, true, true, true, true, true, true, true, true, true, true, true, true, true, true, true, true, true, true, true, true, true, true, true, true, true, true, true, false, false, false, false, false, false] rfl rfl (any_of HT_.out (by kernel_rfl)) (fun _ _ _ h => h) (Or.inl ⟨by rfl, ?_⟩) ?_ ?_
                    rotate_left
                    ·intro w'
                     go_simp
                     with_reducible rfl
                    rotate_left
                    ·exact pt_
                    refine pure_ (i := 28) (N := some 157) (v := ?_) (a' := ?_) #[true, true, true, true, true, true, true, true, true, true, true, true, true, true, true, true, true, true, true, true, true, true, true, true, true, true, true, true, true, false, false, false, false, false] rfl rfl (any_of HT_.out (by kernel_rfl)) (fun _ _ _ h => h) (Or.inl ⟨by rfl, ?_⟩) ?_ ?_
                    rotate_left
                    ·intro w'
                     go_simp
                     with_reducible rfl
                    rotate_left
                    ·exact pt_
                    refine pure_ (i := 29) (N := some 158) (v := ?_) (a' := ?_) #[true, true, true, true, true, true, true, true, true, true, true, true, true, true, true, true, true, true, true, true, true, true, true, true, true, true, true, true, true, true, false, false, false, false] rfl rfl (any_of HT_.out (by kernel_rfl)) (fun _ _ _ h => h) (Or.inl ⟨by rfl, ?_⟩) ?_ ?_
                    rotate_left
                    ·intro w'
                     go_simp
                     with_reducible rfl
                    rotate_left
                    ·exact pt_
                    refine pure_ (i := 30) (N := some 159) (v := ?_) (a' := ?_) #[true, true, true, true, true, true, true, true, true, true, true, true, true, true, true, true, true, true, true, true, true, true, true, true, true, true, true, true, true, true, true, false, false, false] rfl rfl (any_of HT_.out (by kernel_rfl)) (fun _ _ _ h => h) (Or.inl ⟨by rfl, ?_⟩) ?_ ?_
                    rotate_left
                    ·intro w'
                     go_simp
                     with_reducible rfl
                    rotate_left
                    ·exact pt_
                    refine take_ (i := 31) (N := some 160) (v := ?_) (a' := ?_) #[true, true, true, true, true, true, true, true, true, true, true, true, true, true, true, true, true, true, true, true, true, true, true, true, true, true, true, true, true, true, true, true, false, false] rfl rfl (take_ofW HT_.out HW_.out (by kernel_rfl)) (fun _ _ _ h => h) (Or.inl ⟨by rfl, ?_⟩) hHeld ?_ ?_
                    rotate_left
                    ·rintro w' ⟨s0, s1, s2⟩
                     go_simp
                     with_reducible rfl
                    rotate_left
                    ·exact pt_
                    refine pure_ (i := 32) (N := some 161) (v := ?_) (a' := ?_) #[true, true, true, true, true, true, true, true, true, true, true, true, true, true, true, true, true, true, true, true, true, true, true, true, true, true, true, true, true, true, true, true, true, false] rfl rfl (any_of HT_.out (by kernel_rfl)) (fun _ _ _ h => h) (Or.inl ⟨by rfl, ?_⟩) ?_ ?_
                    rotate_left
                    ·intro w'
                     go_simp
                     with_reducible rfl
                    rotate_left
                    ·exact pt_
                    refine pure_ (i := 33) (N := some 162) (v := ?_) (a' := ?_) #[true, true, true, true, true, true, true, true, true, true, true, true, true, true, true, true, true, true, true, true, true, true, true, true, true, true, true, true, true, true, true, true, true, true] rfl rfl (any_of HT_.out (by kernel_rfl)) (fun _ _ _ h => h) (Or.inl ⟨by rfl, ?_⟩) ?_ ?_
                    rotate_left
                    ·intro w'
                     go_simp
                     with_reducible rfl
                    rotate_left
                    ·exact pt_
                    refine done_ (done_of HT_.out (by kernel_rfl)) ?_
                    try go_wp2
                    go_meet
                    case rel => exact ⟨_, (!(rdOf false x18_2 (ji63))), (by first | rfl | (simp; done) | (simp only [← hji63] <;> (first | rfl | simp)) | (simp [*]; done)), H', ⟨by have := HJ10.out; have := HK2.out; have := HK3.out; first | omega | exact Nat.le_refl _⟩, ⟨by refine kr_ ?_; exact HO_12.out⟩, ⟨by refine kr_ ?_; exact HO_18.out⟩, ⟨by refine bs_ ?_; exact BK335.out⟩, ⟨by refine bs_ ?_; exact BK344.out⟩, ⟨by repeat (first | (with_reducible first | exact HB.out | apply below_alloc | apply pw_below_drewN | apply below_drew1 | refine below_set ?_ GE335.out | refine below_set ?_ GE344.out) | exact HB.out)⟩⟩
                   ·rw [if_neg c65] at H
                    exact absurd H (by simp)
                  ·rw [if_neg c64] at H
                   exact absurd H (by simp)
               ·rw [if_neg c51] at H
                exact absurd H (by simp)
              case rest =>
               clear HC49
               try clear p2
               try clear p3
               try clear q3
               try clear hx3
               try clear c5
               try clear c6
               try clear p6
               try clear p37
               try clear q37
               try clear hx37
               try clear p38
               try clear q38
               try clear hx38
               try clear c51
               try clear c53
               try clear c53b0
               try clear c55
               try clear c56
               try clear c59
               try clear c60
               try clear c64
               try clear c64b0
               try clear p64
               try clear c65
               try clear c65b0
               try clear hx378_0
               try clear hx379_0
               try clear hx380_0
               try clear hx381_0
               try clear hx382_0
               try clear hx383_0
               try clear hx384_0
               try clear p378
               try clear p380
               try clear p381
               try clear p382
               try clear p383
               try clear p384
               try clear q378
               try clear q380
               try clear q381
               try clear q382
               try clear q383
               try clear q384
               obtain ⟨kq, x162_48, rfl, HA, HJ48, HO_12, HO_18, BK335, BK344, HB⟩ := hcut
               cases kq with
               | zero => exact absurd HA.out (by simp [clochelaw01_DiscsPacked.j3])
               | succ kj48 =>
                have H := HA.out
                clear HA
                simp only [clochelaw01_DiscsPacked.j3] at H
                by_cases c68 : x162_48 = true
                ·subst c68
                 have H1 : (none) = some r := by rw [if_pos rfl] at H; exact H
                 clear H
                 have H := H1
                 clear H1
                 exact absurd H (by simp)
                ·replace c68 := Bool.eq_false_iff.mpr c68
                 subst c68
                 have H1 : (if 0 ≤ x21_3 then (if x21_3 < (t345.length : Int) then (if (rd t345 x21_3) ≤ (wrap64 (1 + (Int.tmod (wrap64 (a2)) (wrap64 (1 + (Int.tmod (wrap64 (a1)) 3000)))))) then (clochelaw01_DiscsPacked.l1 kj48 (wrap64 (1 + (Int.tmod (wrap64 (a1)) 3000))) (wrap64 (1 + (Int.tmod (wrap64 (a2)) (wrap64 (1 + (Int.tmod (wrap64 (a1)) 3000)))))) t345 x18_2 (wrap64 (x20_3 + 1)) (wrap64 (x21_3 + 1)) a0_0 a0_1 a0_2 a0_3 t338 t339 t340 t341) else (clochelaw01_DiscsPacked.l1 kj48 (wrap64 (1 + (Int.tmod (wrap64 (a1)) 3000))) (wrap64 (1 + (Int.tmod (wrap64 (a2)) (wrap64 (1 + (Int.tmod (wrap64 (a1)) 3000)))))) t345 x18_2 x20_3 (wrap64 (x21_3 + 1)) a0_0 a0_1 a0_2 a0_3 t338 t339 t340 t341)) else (none)) else (none)) = some r := by rw [if_neg (show ¬ (false = true) by decide)] at H; exact H
                 clear H
                 have H := H1
                 clear H1
                 by_cases c69 : 0 ≤ x21_3
                 ·rw [if_pos c69] at H
                  have c69b0 : decide (0 ≤ x21_3) = true := decide_eq_true c69
                  clear c69
                  by_cases c70 : x21_3 < (t345.length : Int)
                  ·rw [if_pos c70] at H
                   have c70b0 : decide (x21_3 < (t345.length : Int)) = true := decide_eq_true c70
                   clear c70
                   by_cases c71 : (rd t345 x21_3) ≤ (wrap64 (1 + (Int.tmod (wrap64 (a2)) (wrap64 (1 + (Int.tmod (wrap64 (a1)) 3000))))))
                   ·rw [if_pos c71] at H
                    have c71b0 : decide ((rd t345 x21_3) ≤ (wrap64 (1 + (Int.tmod (wrap64 (a2)) (wrap64 (1 + (Int.tmod (wrap64 (a1)) 3000))))))) = true := decide_eq_true c71
                    clear c71
                    have H' := Aside0.mk H
                    clear H
                    have p385 : 0 ≤ (x21_3 : Int) := of_decide_eq_true as_
                    have q385 : x21_3 < (t345.length : Int) := of_decide_eq_true as_
                    obtain ⟨ad385, e385, hx385_0⟩ := Kd.at_int (Kd.R_reads' HO_12.out).2.2 x21_3 p385 q385
                    cases e385
                    replace p385 := eq_true p385
                    replace q385 := eq_true q385
                    go_wp2
                    go_roundg kj48
                    case measure => have := HJ10.out; have := HK2.out; have := HK3.out; have := HJ48.out; omega
                    case rel => exact ⟨(wrap64 (x20_3 + 1)), (wrap64 (x21_3 + 1)), eq_, eq_, H', ⟨by have := HJ10.out; have := HK2.out; have := HK3.out; have := HJ48.out; omega⟩, ⟨by refine kr_ ?_; exact HO_12.out⟩, ⟨by refine kr_ ?_; exact HO_18.out⟩, ⟨by refine bs_ ?_; exact BK335.out⟩, ⟨by refine bs_ ?_; exact BK344.out⟩, ⟨by repeat (first | (with_reducible first | exact HB.out | apply below_alloc | apply pw_below_drewN | apply below_drew1 | refine below_set ?_ GE335.out | refine below_set ?_ GE344.out) | exact HB.out)⟩⟩
                   ·rw [if_neg c71] at H
                    have c71b0 : decide ((rd t345 x21_3) ≤ (wrap64 (1 + (Int.tmod (wrap64 (a2)) (wrap64 (1 + (Int.tmod (wrap64 (a1)) 3000))))))) = false := decide_eq_false c71
                    clear c71
                    have H' := Aside0.mk H
                    clear H
                    have p385 : 0 ≤ (x21_3 : Int) := of_decide_eq_true as_
                    have q385 : x21_3 < (t345.length : Int) := of_decide_eq_true as_
                    obtain ⟨ad385, e385, hx385_0⟩ := Kd.at_int (Kd.R_reads' HO_12.out).2.2 x21_3 p385 q385
                    cases e385
                    replace p385 := eq_true p385
                    replace q385 := eq_true q385
                    go_wp2
                    go_roundg kj48
                    case measure => have := HJ10.out; have := HK2.out; have := HK3.out; have := HJ48.out; omega
                    case rel => exact ⟨(x20_3), (wrap64 (x21_3 + 1)), eq_, eq_, H', ⟨by have := HJ10.out; have := HK2.out; have := HK3.out; have := HJ48.out; omega⟩, ⟨by refine kr_ ?_; exact HO_12.out⟩, ⟨by refine kr_ ?_; exact HO_18.out⟩, ⟨by refine bs_ ?_; exact BK335.out⟩, ⟨by refine bs_ ?_; exact BK344.out⟩, ⟨by repeat (first | (with_reducible first | exact HB.out | apply below_alloc | apply pw_below_drewN | apply below_drew1 | refine below_set ?_ GE335.out | refine below_set ?_ GE344.out) | exact HB.out)⟩⟩
                  ·rw [if_neg c70] at H
                   exact absurd H (by simp)
                 ·rw [if_neg c69] at H
                  exact absurd H (by simp)
             ·rw [if_neg c48] at H
              have c48b0 : decide (x21_3 < (t345.length : Int)) = false := decide_eq_false c48
              clear c48
              replace H := Option.bind_eq_some_iff.mp H
              obtain ⟨⟨t367, t370⟩, A720, H⟩ := H
              replace H : (if t370 = 0 then (if x20_3 ≤ (t345.length : Int) then (if 0 ≤ x20_3 then ((clochelaw01_same.f k3 t367 (t345.take (x20_3 : Int).toNat)).bind fun t375 => (if t375 = true then (if (t345.length : Int) > 0 then (if 0 < (t345.length : Int) then (if (rd t345 0) = t338 then ((clochelaw01_alive.f k3).bind fun t377 => (some t377)) else (none)) else (none)) else (none)) else (none))) else (none)) else (none)) else (none)) = some r := H
              have A72 := Aside0.mk A720
              clear A720
              by_cases c73 : t370 = 0
              ·rw [if_pos c73] at H
               have c73b0 : (t370 == 0) = true := beq_iff_eq.mpr c73
               have c73b1 : (t370 != 0) = false := bne_eq_false_iff_eq.mpr c73
               clear c73
               by_cases c74 : x20_3 ≤ (t345.length : Int)
               ·rw [if_pos c74] at H
                have c74b0 : decide (x20_3 ≤ (t345.length : Int)) = true := decide_eq_true c74
                clear c74
                by_cases c75 : 0 ≤ x20_3
                ·rw [if_pos c75] at H
                 have c75b0 := eq_true c75
                 have c75b1 : decide (0 ≤ x20_3) = true := decide_eq_true c75
                 clear c75
                 have c76b0 := eq_true (of_decide_eq_true as_ : x20_3 ≤ (t345.length : Int))
                 obtain ⟨y371, hy371⟩ : ∃ y_ : List Int, y_ = (t345.take (x20_3 : Int).toNat) := ⟨_, rfl⟩
                 replace H : ((clochelaw01_same.f k3 t367 y371).bind fun t375 => (if t375 = true then (if (t345.length : Int) > 0 then (if 0 < (t345.length : Int) then (if (rd t345 0) = t338 then ((clochelaw01_alive.f k3).bind fun t377 => (some t377)) else (none)) else (none)) else (none)) else (none))) = some r := by first | (rw [hy371]; with_reducible exact H) | (have H2_ := (Option.bind_some _ _).symm.trans H; rw [hy371]; with_reducible exact H2_) | (have H2_ := (Option.bind_some _ _).symm.trans H; with_reducible exact H2_) | with_reducible exact H | (rw [hy371]; exact H) | exact H
                 have Ny371 := Aside0.mk hy371
                 clear hy371
                 replace H := Option.bind_eq_some_iff.mp H
                 obtain ⟨t375, A770, H⟩ := H
                 replace H : (if t375 = true then (if (t345.length : Int) > 0 then (if 0 < (t345.length : Int) then (if (rd t345 0) = t338 then ((clochelaw01_alive.f k3).bind fun t377 => (some t377)) else (none)) else (none)) else (none)) else (none)) = some r := H
                 have A77 := Aside0.mk A770
                 clear A770
                 by_cases c78 : t375 = true
                 ·subst c78
                  have H1 : (if (t345.length : Int) > 0 then (if 0 < (t345.length : Int) then (if (rd t345 0) = t338 then ((clochelaw01_alive.f k3).bind fun t377 => (some t377)) else (none)) else (none)) else (none)) = some r := by rw [if_pos rfl] at H; exact H
                  clear H
                  have H := H1
                  clear H1
                  by_cases c79 : (t345.length : Int) > 0
                  ·rw [if_pos c79] at H
                   have c79b0 : decide (0 < (t345.length : Int)) = true := decide_eq_true c79
                   have c79b1 : decide (0 < t345.length) = true := decide_eq_true (by omega)
                   clear c79
                   by_cases c80 : 0 < (t345.length : Int)
                   ·rw [if_pos c80] at H
                    have c80b0 : decide (0 < (t345.length : Int)) = true := decide_eq_true c80
                    have c80b1 : decide (0 < t345.length) = true := decide_eq_true (by omega)
                    clear c80
                    by_cases c81 : (rd t345 0) = t338
                    ·rw [if_pos c81] at H
                     have c81b0 : ((rd t345 0) == t338) = true := beq_iff_eq.mpr c81
                     have c81b1 : ((rd t345 0) != t338) = false := bne_eq_false_iff_eq.mpr c81
                     clear c81
                     replace H := Option.bind_eq_some_iff.mp H
                     obtain ⟨t377, A820, H⟩ := H
                     replace H : (some t377) = some r := H
                     have A82 := Aside0.mk A820
                     clear A820
                     obtain rfl := Option.some.inj H
                     obtain ⟨Ao83, co83, eo83⟩ := Kd.R_slice HO_12.out
                     subst eo83
                     have hnb84 := NB335_344.out
                     have hnc84 := NB344_335.out
                     have hcz85_0 : wr.cell? ⟨gb335, 0, none⟩ = some (.int .i64 a0_0) := (blk_cell BK335.out 0).trans rfl
                     have hcz85_1 : wr.cell? ⟨gb335, 1, none⟩ = some (.int .i64 a0_1) := (blk_cell BK335.out 1).trans rfl
                     have hcz85_2 : wr.cell? ⟨gb335, 2, none⟩ = some (.int .i64 a0_2) := (blk_cell BK335.out 2).trans rfl
                     have hcz85_3 : wr.cell? ⟨gb335, 3, none⟩ = some (.int .i64 a0_3) := (blk_cell BK335.out 3).trans rfl
                     have hfz85_0 := blk_frozen BK335.out 0
                     have hfz85_1 := blk_frozen BK335.out 1
                     have hfz85_2 := blk_frozen BK335.out 2
                     have hfz85_3 := blk_frozen BK335.out 3
                     try go_wp2_with (first | ((with_reducible refine gate_callee (f := 22) rfl ?_); refine goesL_ (some 174) rfl rfl Try.func22 (by kernel_rfl) rfl #[.agg #[.int .i64 a0_0, .int .i64 a0_1, .int .i64 a0_2, .int .i64 a0_3], .int .i64 (wrap64 (1 + (Int.tmod (wrap64 (a2)) (wrap64 (1 + (Int.tmod (wrap64 (a1)) 3000))))))] rfl mp_ ?_; (with_reducible refine (discs_Discs.calls k3 a0_0 a0_1 a0_2 a0_3 (wrap64 (1 + (Int.tmod (wrap64 (a2)) (wrap64 (1 + (Int.tmod (wrap64 (a1)) 3000)))))) t367 t370 _ A72.out).mono ?_); rintro e w86 ⟨v368, rfl, ho0, hb⟩; refine ⟨_, rfl, ?_⟩; have n0_ := Aside0.mk (Kd.R_elder' (by refine kr_ ?_; exact HO_12.out) (Kd.R_base ho0) hb); have n1_ := Aside0.mk (Kd.R_below (by refine kr_ ?_; exact HO_18.out) hb); have n2_ := Aside0.mk (Kd.R_lower (Kd.R_new' ho0 (Kd.R_lt (by refine kr_ ?_; exact HO_12.out))) (below_size (by repeat (first | (with_reducible first | exact HB.out | apply below_alloc | apply pw_below_drewN | apply below_drew1 | refine below_set ?_ GE335.out | refine below_set ?_ GE344.out) | exact HB.out)))); have n3_ := Aside0.mk (blk_below (g := gb335) (o := .cells #[.int .i64 a0_0, .int .i64 a0_1, .int .i64 a0_2, .int .i64 a0_3] 23 (0, 0)) (by refine bs_ ?_; exact BK335.out) hb); have n4_ := Aside0.mk (blk_below (g := gb344) (o := .cells #[.int .i64 t338, .int .i64 t339, .int .i64 t340, .int .i64 t341] 23 (0, 0)) (by refine bs_ ?_; exact BK344.out) hb); have n5_ := Aside0.mk (below_step (by repeat (first | (with_reducible first | exact HB.out | apply below_alloc | apply pw_below_drewN | apply below_drew1 | refine below_set ?_ GE335.out | refine below_set ?_ GE344.out) | exact HB.out)) hb); clear HO_12; clear HO_18; clear BK335; clear BK344; clear HB; have HO_12 := n0_; have HO_18 := n1_; have HO369 := n2_; have BK335 := n3_; have BK344 := n4_; have HB := n5_; clear n0_ n1_ n2_ n3_ n4_ n5_; (try clear hb); (try clear hb2); (try clear hk); (try clear hi); (try clear ho0)))
                     have n0_ := Aside0.mk (Kd.R_drew HO_12.out)
                     have n1_ := Aside0.mk (Kd.R_drew HO_18.out)
                     have n2_ := Aside0.mk (Kd.R_drew HO369.out)
                     have n3_ := Aside0.mk (blk_drew BK335.out)
                     have n4_ := Aside0.mk (blk_drew BK344.out)
                     have n5_ := Aside0.mk (below_drew1 HB.out)
                     clear HO_12
                     clear HO_18
                     clear HO369
                     clear BK335
                     clear BK344
                     clear HB
                     have HO_12 := n0_
                     have HO_18 := n1_
                     have HO369 := n2_
                     have BK335 := n3_
                     have BK344 := n4_
                     have HB := n5_
                     clear n0_ n1_ n2_ n3_ n4_ n5_
                     have q88 : (x20_3 : Int) ≤ ((t345.length : Int) : Int) := of_decide_eq_true as_
                     obtain ⟨i088, hi088, _, hsz88, _⟩ := info_parts info3
                     have hroom88 : t345.length ≤ co83 := (Kd.R_reads' HO_12.out).2.1
                     have hC88 : Kd.C (Kd.int .i64) _ Ao83 t345.length t345 := (Kd.R_reads' HO_12.out).2.2
                     have hcut88 := cut_to (P := Try.prog) 35 3 .i64 Try.underlying35 hi088 Ao83 t345.length co83 x20_3 (of_decide_eq_true as_) q88 hroom88
                     have hr88 := Kd.C_take (m := (x20_3 : Int).toNat) hC88 (by omega)
                     have hy88 : y371.length = (x20_3 : Int).toNat := (by rw [Ny371.out, List.length_take]; omega)
                     rw [← Ny371.out] at hr88
                     rw [← hy88] at hcut88
                     have HR374 := Aside0.mk hr88
                     have HC374 := Aside0.mk (show y371.length ≤ co83 from by omega)
                     clear hr88 hC88 hroom88 hi088 hsz88
                     have KY88 := Aside0.mk hy88
                     clear hy88
                     have KL88 := Aside0.mk (show (x20_3 : Int).toNat ≤ t345.length from by omega)
                     replace q88 := eq_true q88
                     obtain ⟨Ao89, co89, eo89⟩ := Kd.R_slice HO369.out
                     (first | subst eo89 | (injection eo89 with f1_ f2_ f3_; have f4_ := f1_.symm; have f5_ := f3_.symm; clear f1_ f2_ f3_; subst f4_; subst f5_))
                     have p376 : 0 ≤ (0 : Int) := (by omega)
                     have q376 : 0 < (t345.length : Int) := of_decide_eq_true as_
                     obtain ⟨ad376, e376, hx376_0⟩ := Kd.at_int (Kd.R_reads' HO_12.out).2.2 0 p376 q376
                     cases e376
                     have qi376 : (0 < t345.length) = True := eq_true (by omega)
                     (try rw [show ((0 : Int)).toNat = 0 from rfl] at hx376_0)
                     (try rw [Addr.add_zero'] at hx376_0)
                     replace p376 := eq_true p376
                     replace q376 := eq_true q376
                     refine start_ (n := 32) (S := fun w' => w'.cell? ⟨gb344, 0, none⟩ = some (.int .i64 t338) ∧ w'.cell? ⟨gb344, 1, none⟩ = some (.int .i64 t339) ∧ w'.cell? ⟨gb344, 2, none⟩ = some (.int .i64 t340) ∧ w'.cell? ⟨gb344, 3, none⟩ = some (.int .i64 t341) ∧ w'.cell? ad376 = some (.int .i64 (rd t345 0))) (ds := []) #[false, false, false, false, false, false, false, false, false, false, false, false, false, false, false, false, false, false, false, false, false, false, false, false, false, false, false, false, false, false, false, false] (by kernel_rfl) rfl rfl ⟨(blk_cell BK344.out 0).trans rfl, (blk_cell BK344.out 1).trans rfl, (blk_cell BK344.out 2).trans rfl, (blk_cell BK344.out 3).trans rfl, hx376_0⟩ (fun hHeld => ?_); refine with_tabW clochelaw01_DiscsPacked.tab29 clochelaw01_DiscsPacked.bits29 (fun HT_ HW_ => ?_)
                     generalize w86.drew = w87 at HO_12 HO_18 HO369 BK335 BK344 HB HR374 hx376_0 hHeld ⊢
                     refine pure_ (i := 0) (N := some 177) (v := ?_) (a' := ?_) #[true, false, false, false, false, false, false, false, false, false, false, false, false, false, false, false, false, false, false, false, false, false, false, false, false, false, false, false, false, false, false, false] rfl rfl (any_of HT_.out (by kernel_rfl)) (fun _ _ _ h => h) (Or.inl ⟨by rfl, ?_⟩) ?_ ?_
                     rotate_left
                     ·intro w'
                      go_simp
                      with_reducible rfl
                     rotate_left
                     ·exact pt_
                     refine pure_ (i := 1) (N := some 178) (v := ?_) (a' := ?_) #[true, true, false, false, false, false, false, false, false, false, false, false, false, false, false, false, false, false, false, false, false, false, false, false, false, false, false, false, false, false, false, false] rfl rfl (any_of HT_.out (by kernel_rfl)) (fun _ _ _ h => h) (Or.inl ⟨by rfl, ?_⟩) ?_ ?_
                     rotate_left
                     ·intro w'
                      go_simp
                      with_reducible rfl
                     rotate_left
                     ·exact pt_
                     refine pure_ (i := 2) (N := some 179) (v := ?_) (a' := ?_) #[true, true, true, false, false, false, false, false, false, false, false, false, false, false, false, false, false, false, false, false, false, false, false, false, false, false, false, false, false, false, false, false] rfl rfl (any_of HT_.out (by kernel_rfl)) (fun _ _ _ h => h) (Or.inl ⟨by rfl, ?_⟩) ?_ ?_
                     rotate_left
                     ·intro w'
                      go_simp
                      with_reducible rfl
                     rotate_left
                     ·exact pt_
                     refine pure_ (i := 3) (N := some 180) (v := ?_) (a' := ?_) #[true, true, true, true, false, false, false, false, false, false, false, false, false, false, false, false, false, false, false, false, false, false, false, false, false, false, false, false, false, false, false, false] rfl rfl (any_of HT_.out (by kernel_rfl)) (fun _ _ _ h => h) (Or.inl ⟨by rfl, ?_⟩) ?_ ?_
                     rotate_left
                     ·intro w'
                      go_simp
                      with_reducible rfl
                     rotate_left
                     ·exact pt_
                     refine pure_ (i := 4) (N := some 181) (v := ?_) (a' := ?_) #[true, true, true, true, true, false, false, false, false, false, false, false, false, false, false, false, false, false, false, false, false, false, false, false, false, false, false, false, false, false, false, false] rfl rfl (any_of HT_.out (by kernel_rfl)) (fun _ _ _ h => h) (Or.inl ⟨by rfl, ?_⟩) ?_ ?_
                     rotate_left
                     ·intro w'
                      go_simp
                      with_reducible rfl
                     rotate_left
                     ·exact pt_
                     refine pure_ (i := 5) (N := some 182) (v := ?_) (a' := ?_) #[true, true, true, true, true, true, false, false, false, false, false, false, false, false, false, false, false, false, false, false, false, false, false, false, false, false, false, false, false, false, false, false] rfl rfl (any_of HT_.out (by kernel_rfl)) (fun _ _ _ h => h) (Or.inl ⟨by rfl, ?_⟩) ?_ ?_
                     rotate_left
                     ·intro w'
                      go_simp
                      with_reducible rfl
                     rotate_left
                     ·exact pt_
                     refine pure_ (i := 6) (N := some 183) (v := ?_) (a' := ?_) #[true, true, true, true, true, true, true, false, false, false, false, false, false, false, false, false, false, false, false, false, false, false, false, false, false, false, false, false, false, false, false, false] rfl rfl (any_of HT_.out (by kernel_rfl)) (fun _ _ _ h => h) (Or.inl ⟨by rfl, ?_⟩) ?_ ?_
                     rotate_left
                     ·intro w'
                      go_simp
                      with_reducible rfl
                     rotate_left
                     ·exact pt_
                     refine pure_ (i := 7) (N := some 184) (v := ?_) (a' := ?_) #[true, true, true, true, true, true, true, true, false, false, false, false, false, false, false, false, false, false, false, false, false, false, false, false, false, false, false, false, false, false, false, false] rfl rfl (any_of HT_.out (by kernel_rfl)) (fun _ _ _ h => h) (Or.inl ⟨by rfl, ?_⟩) ?_ ?_
                     rotate_left
                     ·intro w'
                      go_simp
                      with_reducible rfl
                     rotate_left
                     ·exact pt_
                     refine pure_ (i := 8) (N := some 185) (v := ?_) (a' := ?_) #[true, true, true, true, true, true, true, true, true, false, false, false, false, false, false, false, false, false, false, false, false, false, false, false, false, false, false, false, false, false, false, false] rfl rfl (any_of HT_.out (by kernel_rfl)) (fun _ _ _ h => h) (Or.inl ⟨by rfl, ?_⟩) ?_ ?_
                     rotate_left
                     ·intro w'
                      go_simp
                      with_reducible rfl
                     rotate_left
                     ·exact pt_
                     refine pure_ (i := 9) (N := some 186) (v := ?_) (a' := ?_) #[true, true, true, true, true, true, true, true, true, true, false, false, false, false, false, false, false, false, false, false, false, false, false, false, false, false, false, false, false, false, false, false] rfl rfl (any_of HT_.out (by kernel_rfl)) (fun _ _ _ h => h) (Or.inl ⟨by rfl, ?_⟩) ?_ ?_
                     rotate_left
                     ·intro w'
                      go_simp
                      with_reducible rfl
                     rotate_left
                     ·exact pt_
                     refine pure_ (i := 10) (N := some 187) (v := ?_) (a' := ?_) #[true, true, true, true, true, true, true, true, true, true, true, false, false, false, false, false, false, false, false, false, false, false, false, false, false, false, false, false, false, false, false, false] rfl rfl (any_of HT_.out (by kernel_rfl)) (fun _ _ _ h => h) (Or.inl ⟨by rfl, ?_⟩) ?_ ?_
                     rotate_left
                     ·intro w'
                      go_simp
                      with_reducible rfl
                     rotate_left
                     ·exact pt_
                     refine pure_ (i := 11) (N := some 188) (v := ?_) (a' := ?_) #[true, true, true, true, true, true, true, true, true, true, true, true, false, false, false, false, false, false, false, false, false, false, false, false, false, false, false, false, false, false, false, false] rfl rfl (any_of HT_.out (by kernel_rfl)) (fun _ _ _ h => h) (Or.inl ⟨by rfl, ?_⟩) ?_ ?_
                     rotate_left
                     ·intro w'
                      go_simp
                      with_reducible rfl
                     rotate_left
                     ·exact pt_
                     refine pure_ (i := 12) (N := some 189) (v := ?_) (a' := ?_) #[true, true, true, true, true, true, true, true, true, true, true, true, true, false, false, false, false, false, false, false, false, false, false, false, false, false, false, false, false, false, false, false] rfl rfl (any_of HT_.out (by kernel_rfl)) (fun _ _ _ h => h) (Or.inl ⟨by rfl, ?_⟩) ?_ ?_
                     rotate_left
                     ·intro w'
                      go_simp
                      with_reducible rfl
                     rotate_left
                     ·exact pt_
                     refine one_ (i := 13) (N := some 190) #[true, true, true, true, true, true, true, true, true, true, true, true, true, true, false, false, false, false, false, false, false, false, false, false, false, false, false, false, false, false, false, false] rfl rfl (one_of HT_.out (by kernel_rfl)) (by decide) (fun K hK => ?_)
                     refine goes_ Try.func24 (by kernel_rfl) rfl #[.slice Ao89 t367.length co89, .slice (some ad376) y371.length co83] (by rfl) rfl rfl mp_ ?_
                     with_reducible refine (clochelaw01_same.calls k3 _ _ t367 _ _ y371 true _ ?side1 ?side2 ?side3 ?side4 A77.out).mono ?_
                     (case side1 => repeat (first | exact (Kd.R_reads' HO369.out).2.2 | (with_reducible refine Kd.C_alloc ?_ _) | (with_reducible refine Kd.C_drewN ?_ _) | (with_reducible refine Kd.C_drew ?_)))
                     (case side2 => exact (Kd.R_reads' HO369.out).2.1)
                     (case side3 => repeat (first | exact (by repeat (first | (with_reducible exact HR374.out) | (with_reducible exact Kd.C_drewN HR374.out _) | (with_reducible exact Kd.C_drew HR374.out) | (with_reducible refine Kd.C_alloc ?_ _) | (with_reducible refine Kd.C_drewN ?_ _) | (with_reducible refine Kd.C_drew ?_) | exact HR374.out)) | (with_reducible refine Kd.C_alloc ?_ _) | (with_reducible refine Kd.C_drewN ?_ _) | (with_reducible refine Kd.C_drew ?_)))
                     (case side4 => exact HC374.out)
                     rintro e w' ⟨rfl, ⟨nd, rfl⟩⟩
                     refine ⟨_, rfl, ?_⟩
                     refine hK.out _ _ ⟨(blk_cell BK344.out 0).trans rfl, (blk_cell BK344.out 1).trans rfl, (blk_cell BK344.out 2).trans rfl, (blk_cell BK344.out 3).trans rfl, hHeld.2.2.2.2⟩ (fun hHeld => ?_)
                     clear hK K
                     refine norm_ (a' := ?_) ?_ ?_
                     rotate_left
                     ·show Act.put _ (some 190) _ = _
                      exact pt_
                     refine pure_ (i := 14) (N := some 191) (v := ?_) (a' := ?_) #[true, true, true, true, true, true, true, true, true, true, true, true, true, true, true, false, false, false, false, false, false, false, false, false, false, false, false, false, false, false, false, false] rfl rfl (any_of HT_.out (by kernel_rfl)) (fun _ _ _ h => h) (Or.inl ⟨by rfl, ?_⟩) ?_ ?_
                     rotate_left
                     ·intro w'
                      go_simp
                      with_reducible rfl
                     rotate_left
                     ·exact pt_
                     refine pure_ (i := 15) (N := some 192) (v := ?_) (a' := ?_) #[true, true, true, true, true, true, true, true, true, true, true, true, true, true, true, true, false, false, false, false, false, false, false, false, false, false, false, false, false, false, false, false] rfl rfl (any_of HT_.out (by kernel_rfl)) (fun _ _ _ h => h) (Or.inl ⟨by rfl, ?_⟩) ?_ ?_
                     rotate_left
                     ·intro w'
                      go_simp
                      with_reducible rfl
                     rotate_left
                     ·exact pt_
                     refine pure_ (i := 16) (N := some 193) (v := ?_) (a' := ?_) #[true, true, true, true, true, true, true, true, true, true, true, true, true, true, true, true, true, false, false, false, false, false, false, false, false, false, false, false, false, false, false, false] rfl rfl (any_of HT_.out (by kernel_rfl)) (fun _ _ _ h => h) (Or.inl ⟨by rfl, ?_⟩) ?_ ?_
                     rotate_left
                     ·intro w'
                      go_simp
                      with_reducible rfl
                     rotate_left
                     ·exact pt_
                     refine pure_ (i := 17) (N := some 194) (v := ?_) (a' := ?_) #[true, true, true, true, true, true, true, true, true, true, true, true, true, true, true, true, true, true, false, false, false, false, false, false, false, false, false, false, false, false, false, false] rfl rfl (any_of HT_.out (by kernel_rfl)) (fun _ _ _ h => h) (Or.inl ⟨by rfl, ?_⟩) ?_ ?_
                     rotate_left
                     ·intro w'
                      go_simp
                      with_reducible rfl
                     rotate_left
                     ·exact pt_
                     refine pure_ (i := 18) (N := some 195) (v := ?_) (a' := ?_) #[true, true, true, true, true, true, true, true, true, true, true, true, true, true, true, true, true, true, true, false, false, false, false, false, false, false, false, false, false, false, false, false] rfl rfl (any_of HT_.out (by kernel_rfl)) (fun _ _ _ h => h) (Or.inl ⟨by rfl, ?_⟩) ?_ ?_
                     rotate_left
                     ·intro w'
                      go_simp
                      with_reducible rfl
                     rotate_left
                     ·exact pt_
                     refine pure_ (i := 19) (N := some 196) (v := ?_) (a' := ?_) #[true, true, true, true, true, true, true, true, true, true, true, true, true, true, true, true, true, true, true, true, false, false, false, false, false, false, false, false, false, false, false, false] rfl rfl (any_of HT_.out (by kernel_rfl)) (fun _ _ _ h => h) (Or.inl ⟨by rfl, ?_⟩) ?_ ?_
                     rotate_left
                     ·intro w'
                      go_simp
                      with_reducible rfl
                     rotate_left
                     ·exact pt_
                     refine pure_ (i := 20) (N := some 197) (v := ?_) (a' := ?_) #[true, true, true, true, true, true, true, true, true, true, true, true, true, true, true, true, true, true, true, true, true, false, false, false, false, false, false, false, false, false, false, false] rfl rfl (any_of HT_.out (by kernel_rfl)) (fun _ _ _ h => h) (Or.inl ⟨by rfl, ?_⟩) ?_ ?_
                     rotate_left
                     ·intro w'
                      go_simp
                      with_reducible rfl
                     rotate_left
                     ·exact pt_
                     refine pure_ (i := 21) (N := some 198) (v := ?_) (a' := ?_) #[true, true, true, true, true, true, true, true, true, true, true, true, true, true, true, true, true, true, true, true, true, true, false, false, false, false, false, false, false, false, false, false] rfl rfl (any_of HT_.out (by kernel_rfl)) (fun _ _ _ h => h) (Or.inl ⟨by rfl, ?_⟩) ?_ ?_
                     rotate_left
                     ·intro w'
                      go_simp
                      with_reducible rfl
                     rotate_left
                     ·exact pt_
                     refine pure_ (i := 22) (N := some 199) (v := ?_) (a' := ?_) #[true, true, true, true, true, true, true, true, true, true, true, true, true, true, true, true, true, true, true, true, true, true, true, false, false, false, false, false, false, false, false, false] rfl rfl (any_of HT_.out (by kernel_rfl)) (fun _ _ _ h => h) (Or.inl ⟨by rfl, ?_⟩) ?_ ?_
                     rotate_left
                     ·intro w'
                      go_simp
                      with_reducible rfl
                     rotate_left
                     ·exact pt_
                     refine pure_ (i := 24) (N := some 201) (v := ?_) (a' := ?_) #[true, true, true, true, true, true, true, true, true, true, true, true, true, true, true, true, true, true, true, true, true, true, true, false, true, false, false, false, false, false, false, false] rfl rfl (any_of HT_.out (by kernel_rfl)) (fun _ _ _ h => h) (Or.inl ⟨by rfl, ?_⟩) ?_ ?_
                     rotate_left
                     ·intro w'
                      go_simp
                      with_reducible rfl
                     rotate_left
                     ·exact pt_
                     refine take_ (i := 23) (N := some 200) (v := ?_) (a' := ?_) #[true, true, true, true, true, true, true, true, true, true, true, true, true, true, true, true, true, true, true, true, true, true, true, true, true, false, false, false, false, false, false, false] rfl rfl (take_ofW HT_.out HW_.out (by kernel_rfl)) (fun _ _ _ h => h) (Or.inl ⟨by rfl, ?_⟩) hHeld ?_ ?_
                     rotate_left
                     ·rintro w' ⟨s0, s1, s2, s3, s4⟩
                      go_simp
                      with_reducible rfl
                     rotate_left
                     ·exact pt_
                     refine take_ (i := 25) (N := some 202) (v := ?_) (a' := ?_) #[true, true, true, true, true, true, true, true, true, true, true, true, true, true, true, true, true, true, true, true, true, true, true, true, true, true, false, false, false, false, false, false] rfl rfl (take_ofW HT_.out HW_.out (by kernel_rfl)) (fun _ _ _ h => h) (Or.inl ⟨by rfl, ?_⟩) hHeld ?_ ?_
                     rotate_left
                     ·rintro w' ⟨s0, s1, s2, s3, s4⟩
                      go_simp
                      with_reducible rfl
                     rotate_left
                     ·exact pt_
                     refine pure_ (i := 26) (N := some 203) (v := ?_) (a' := ?_) #[true, true, true, true, true, true, true, true, true, true, true, true, true, true, true, true, true, true, true, true, true, true, true, true, true, true, true, false, false, false, false, false] rfl rfl (any_of HT_.out (by kernel_rfl)) (fun _ _ _ h => h) (Or.inl ⟨by rfl, ?_⟩) ?_ ?_
                     rotate_left
                     ·intro w'
                      go_simp
                      with_reducible rfl
                     rotate_left
                     ·exact pt_
                     refine pure_ (i := 27) (N := some 204) (v := ?_) (a' := ?_) #[true, true, true, true, true, true, true, true, true, true, true, true, true, true, true, true, true, true, true, true, true, true, true, true, true, true, true, true, false, false, false, false] rfl rfl (any_of HT_.out (by kernel_rfl)) (fun _ _ _ h => h) (Or.inl ⟨by rfl, ?_⟩) ?_ ?_
                     rotate_left
                     ·intro w'
                      go_simp
                      with_reducible rfl
                     rotate_left
                     ·exact pt_
                     refine pure_ (i := 28) (N := some 205) (v := ?_) (a' := ?_) #[true, true, true, true, true, true, true, true, true, true, true, true, true, true, true, true, true, true, true, true, true, true, true, true, true, true, true, true, true, false, false, false] rfl rfl (any_of HT_.out (by kernel_rfl)) (fun _ _ _ h => h) (Or.inl ⟨by rfl, ?_⟩) ?_ ?_
                     rotate_left
                     ·intro w'
                      go_simp
                      with_reducible rfl
                     rotate_left
                     ·exact pt_
                     refine one_ (i := 29) (N := some 206) #[true, true, true, true, true, true, true, true, true, true, true, true, true, true, true, true, true, true, true, true, true, true, true, true, true, true, true, true, true, true, false, false] rfl rfl (one_of HT_.out (by kernel_rfl)) (by decide) (fun K hK => ?_)
                     refine goes_ Try.func19 (by kernel_rfl) rfl #[] (by rfl) rfl rfl mp_ ?_
                     with_reducible refine (clochelaw01_alive.calls k3  t377 _ A82.out).mono ?_
                     rintro e w90 ⟨rfl, hb⟩
                     have HS4_ := (hb.cell (World.block_lt_of_cell? _ _ (hHeld.2.2.2.2))).trans (hHeld.2.2.2.2)
                     refine ⟨_, rfl, ?_⟩
                     have n0_ := Aside0.mk (Kd.R_below (by refine kr_ ?_; exact HO_12.out) hb)
                     have n1_ := Aside0.mk (Kd.R_below (by refine kr_ ?_; exact HO_18.out) hb)
                     have n2_ := Aside0.mk (Kd.R_below (by refine kr_ ?_; exact HO369.out) hb)
                     have n3_ := Aside0.mk (blk_below (g := gb335) (o := .cells #[.int .i64 a0_0, .int .i64 a0_1, .int .i64 a0_2, .int .i64 a0_3] 23 (0, 0)) (by refine bs_ ?_; exact BK335.out) hb)
                     have n4_ := Aside0.mk (blk_below (g := gb344) (o := .cells #[.int .i64 t338, .int .i64 t339, .int .i64 t340, .int .i64 t341] 23 (0, 0)) (by refine bs_ ?_; exact BK344.out) hb)
                     have n5_ := Aside0.mk (Kd.C_below (by repeat (first | (with_reducible exact HR374.out) | (with_reducible exact Kd.C_drewN HR374.out _) | (with_reducible exact Kd.C_drew HR374.out) | (with_reducible refine Kd.C_alloc ?_ _) | (with_reducible refine Kd.C_drewN ?_ _) | (with_reducible refine Kd.C_drew ?_) | exact HR374.out)) hb)
                     have n6_ := Aside0.mk (below_step (by repeat (first | (with_reducible first | exact HB.out | apply below_alloc | apply pw_below_drewN | apply below_drew1 | refine below_set ?_ GE335.out | refine below_set ?_ GE344.out) | exact HB.out)) hb)
                     clear HO_12
                     clear HO_18
                     clear HO369
                     clear BK335
                     clear BK344
                     clear HR374
                     clear HB
                     have HO_12 := n0_
                     have HO_18 := n1_
                     have HO369 := n2_
                     have BK335 := n3_
                     have BK344 := n4_
                     have HR374 := n5_
                     have HB := n6_
                     clear n0_ n1_ n2_ n3_ n4_ n5_ n6_
                     (try clear hb)
                     (try clear hb2)
                     (try clear hk)
                     (try clear hi)
                     refine hK.out _ _ ⟨(blk_cell BK344.out 0).trans rfl, (blk_cell BK344.out 1).trans rfl, (blk_cell BK344.out 2).trans rfl, (blk_cell BK344.out 3).trans rfl, HS4_⟩ (fun hHeld => ?_)
                     clear hK K
                     refine norm_ (a' := ?_) ?_ ?_
                     rotate_left
                     ·show Act.put _ (some 206) _ = _
                      exact pt_
                     refine pure_ (i := 30) (N := some 207) (v := ?_) (a' := ?_) #[true, true, true, true, true, true, true, true, true, true, true, true, true, true, true, true, true, true, true, true, true, true, true, true, true, true, true, true, true, true, true, false] rfl rfl (any_of HT_.out (by kernel_rfl)) (fun _ _ _ h => h) (Or.inl ⟨by rfl, ?_⟩) ?_ ?_
                     rotate_left
                     ·intro w'
                      go_simp
                      with_reducible rfl
                     rotate_left
                     ·exact pt_
                     refine pure_ (i := 31) (N := some 6) (v := ?_) (a' := ?_) #[true, true, true, true, true, true, true, true, true, true, true, true, true, true, true, true, true, true, true, true, true, true, true, true, true, true, true, true, true, true, true, true] rfl rfl (any_of HT_.out (by kernel_rfl)) (fun _ _ _ h => h) (Or.inl ⟨by rfl, ?_⟩) ?_ ?_
                     rotate_left
                     ·intro w'
                      go_simp
                      with_reducible rfl
                     rotate_left
                     ·exact pt_
                     refine done_ (done_of HT_.out (by kernel_rfl)) ?_
                     try go_wp2
                     go_ret
                     exact ⟨by first | rfl | (simp [errW_none, errW_some] <;> rfl) | (simp [*, errW_none, errW_some] <;> rfl), by repeat (first | (with_reducible first | exact HB.out | apply below_alloc | apply pw_below_drewN | apply below_drew1 | refine below_set ?_ GE335.out | refine below_set ?_ GE344.out) | exact HB.out)⟩
                    ·rw [if_neg c81] at H
                     exact absurd H (by simp)
                   ·rw [if_neg c80] at H
                    exact absurd H (by simp)
                  ·rw [if_neg c79] at H
                   exact absurd H (by simp)
                 ·replace c78 := Bool.eq_false_iff.mpr c78
                  subst c78
                  have H1 : (none) = some r := by rw [if_neg (show ¬ (false = true) by decide)] at H; exact H
                  clear H
                  have H := H1
                  clear H1
                  exact absurd H (by simp)
                ·rw [if_neg c75] at H
                 exact absurd H (by simp)
               ·rw [if_neg c74] at H
                exact absurd H (by simp)
              ·rw [if_neg c73] at H
               exact absurd H (by simp)
       ·rw [if_neg c34] at H
        exact absurd H (by simp)
      ·rw [if_neg c33] at H
       have c33b0 : (t348 == 0) = false := beq_eq_false_iff_ne.mpr c33
       have c33b1 : (t348 != 0) = true := bne_iff_ne.mpr c33
       by_cases c91 : (t345.length : Int) = 0
       ·rw [if_pos c91] at H
        have c91b0 : ((t345.length : Int) == 0) = true := beq_iff_eq.mpr c91
        have c91b1 : ((t345.length : Int) != 0) = false := bne_eq_false_iff_eq.mpr c91
        clear c91
        by_cases c92 : ((t348 == 9) == (t338 == 0)) = true
        ·rw [if_pos c92] at H
         have c92b0 : ((t348 == 9) == (t338 == 0)) = true := c92
         (try (have c92b1 : decide ((t348 == 9) = (t338 == 0)) = true := by simpa using c92))
         (try (have c92b2 : ((t348 == 9) == (t338 == 0)) = true := by simpa using c92))
         clear c92
         by_cases c93 : t348 = 9
         ·rw [if_pos c93] at H
          have c93b0 : (t348 == 9) = true := beq_iff_eq.mpr c93
          have c93b1 : (t348 != 9) = false := bne_eq_false_iff_eq.mpr c93
          have c92z : t338 = 0 := by rw [c93b0] at c92b0; simpa using c92b0
          have c92y : decide (t338 = 0) = true := decide_eq_true c92z
          have c92x := eq_true c92z
          clear c93
          replace H := Option.bind_eq_some_iff.mp H
          obtain ⟨t358, A940, H⟩ := H
          replace H : (some t358) = some r := H
          have A94 := Aside0.mk A940
          clear A940
          obtain rfl := Option.some.inj H
          obtain ⟨Ao95, co95, eo95⟩ := Kd.R_slice HO_12.out
          subst eo95
          have hnb96 := NB344_335.out
          have hnc96 := NB335_344.out
          have hcz97_0 : wc.cell? ⟨gb344, 0, none⟩ = some (.int .i64 t338) := (blk_cell BK344.out 0).trans rfl
          have hcz97_1 : wc.cell? ⟨gb344, 1, none⟩ = some (.int .i64 t339) := (blk_cell BK344.out 1).trans rfl
          have hcz97_2 : wc.cell? ⟨gb344, 2, none⟩ = some (.int .i64 t340) := (blk_cell BK344.out 2).trans rfl
          have hcz97_3 : wc.cell? ⟨gb344, 3, none⟩ = some (.int .i64 t341) := (blk_cell BK344.out 3).trans rfl
          have hfz97_0 := blk_frozen BK344.out 0
          have hfz97_1 := blk_frozen BK344.out 1
          have hfz97_2 := blk_frozen BK344.out 2
          have hfz97_3 := blk_frozen BK344.out 3
          go_wp2_with (first | (go_at_call 19; (with_reducible refine (clochelaw01_alive.calls kj10  t358 _ A94.out).mono ?_); rintro e w98 ⟨rfl, hb⟩; have n0_ := Aside0.mk (Kd.R_below (by refine kr_ ?_; exact HO_12.out) hb); have n1_ := Aside0.mk (Kd.R_below (by refine kr_ ?_; exact HO_16.out) hb); have n2_ := Aside0.mk (blk_below (g := gb335) (o := .cells #[.int .i64 a0_0, .int .i64 a0_1, .int .i64 a0_2, .int .i64 a0_3] 23 (0, 0)) (by refine bs_ ?_; exact BK335.out) hb); have n3_ := Aside0.mk (blk_below (g := gb344) (o := .cells #[.int .i64 t338, .int .i64 t339, .int .i64 t340, .int .i64 t341] 23 (0, 0)) (by refine bs_ ?_; exact BK344.out) hb); have n4_ := Aside0.mk (below_step (by repeat (first | (with_reducible first | exact HB.out | apply below_alloc | apply pw_below_drewN | apply below_drew1 | refine below_set ?_ GE335.out | refine below_set ?_ GE344.out) | exact HB.out)) hb); clear HO_12; clear HO_16; clear BK335; clear BK344; clear HB; have HO_12 := n0_; have HO_16 := n1_; have BK335 := n2_; have BK344 := n3_; have HB := n4_; clear n0_ n1_ n2_ n3_ n4_; (try clear hb); (try clear hb2); (try clear hk); (try clear hi)))
          go_ret
          exact ⟨by first | rfl | (simp [errW_none, errW_some] <;> rfl) | (simp [*, errW_none, errW_some] <;> rfl), by repeat (first | (with_reducible first | exact HB.out | apply below_alloc | apply pw_below_drewN | apply below_drew1 | refine below_set ?_ GE335.out | refine below_set ?_ GE344.out) | exact HB.out)⟩
         ·rw [if_neg c93] at H
          have c93b0 : (t348 == 9) = false := beq_eq_false_iff_ne.mpr c93
          have c93b1 : (t348 != 9) = true := bne_iff_ne.mpr c93
          by_cases c99 : t348 = 8
          ·rw [if_pos c99] at H
           have c99b0 : (t348 == 8) = true := beq_iff_eq.mpr c99
           have c99b1 : (t348 != 8) = false := bne_eq_false_iff_eq.mpr c99
           have c92z : ¬ t338 = 0 := by rw [c93b0] at c92b0; simpa using c92b0
           have c92y : decide (t338 = 0) = false := decide_eq_false c92z
           have c92x := eq_false c92z
           clear c99
           replace H := Option.bind_eq_some_iff.mp H
           obtain ⟨t359, A1000, H⟩ := H
           replace H : (some t359) = some r := H
           have A100 := Aside0.mk A1000
           clear A1000
           obtain rfl := Option.some.inj H
           obtain ⟨Ao101, co101, eo101⟩ := Kd.R_slice HO_12.out
           subst eo101
           have hnb102 := NB344_335.out
           have hnc102 := NB335_344.out
           have hcz103_0 : wc.cell? ⟨gb344, 0, none⟩ = some (.int .i64 t338) := (blk_cell BK344.out 0).trans rfl
           have hcz103_1 : wc.cell? ⟨gb344, 1, none⟩ = some (.int .i64 t339) := (blk_cell BK344.out 1).trans rfl
           have hcz103_2 : wc.cell? ⟨gb344, 2, none⟩ = some (.int .i64 t340) := (blk_cell BK344.out 2).trans rfl
           have hcz103_3 : wc.cell? ⟨gb344, 3, none⟩ = some (.int .i64 t341) := (blk_cell BK344.out 3).trans rfl
           have hfz103_0 := blk_frozen BK344.out 0
           have hfz103_1 := blk_frozen BK344.out 1
           have hfz103_2 := blk_frozen BK344.out 2
           have hfz103_3 := blk_frozen BK344.out 3
           go_wp2_with (first | (go_at_call 19; (with_reducible refine (clochelaw01_alive.calls kj10  t359 _ A100.out).mono ?_); rintro e w104 ⟨rfl, hb⟩; have n0_ := Aside0.mk (Kd.R_below (by refine kr_ ?_; exact HO_12.out) hb); have n1_ := Aside0.mk (Kd.R_below (by refine kr_ ?_; exact HO_16.out) hb); have n2_ := Aside0.mk (blk_below (g := gb335) (o := .cells #[.int .i64 a0_0, .int .i64 a0_1, .int .i64 a0_2, .int .i64 a0_3] 23 (0, 0)) (by refine bs_ ?_; exact BK335.out) hb); have n3_ := Aside0.mk (blk_below (g := gb344) (o := .cells #[.int .i64 t338, .int .i64 t339, .int .i64 t340, .int .i64 t341] 23 (0, 0)) (by refine bs_ ?_; exact BK344.out) hb); have n4_ := Aside0.mk (below_step (by repeat (first | (with_reducible first | exact HB.out | apply below_alloc | apply pw_below_drewN | apply below_drew1 | refine below_set ?_ GE335.out | refine below_set ?_ GE344.out) | exact HB.out)) hb); clear HO_12; clear HO_16; clear BK335; clear BK344; clear HB; have HO_12 := n0_; have HO_16 := n1_; have BK335 := n2_; have BK344 := n3_; have HB := n4_; clear n0_ n1_ n2_ n3_ n4_; (try clear hb); (try clear hb2); (try clear hk); (try clear hi)))
           go_ret
           exact ⟨by first | rfl | (simp [errW_none, errW_some] <;> rfl) | (simp [*, errW_none, errW_some] <;> rfl), by repeat (first | (with_reducible first | exact HB.out | apply below_alloc | apply pw_below_drewN | apply below_drew1 | refine below_set ?_ GE335.out | refine below_set ?_ GE344.out) | exact HB.out)⟩
          ·rw [if_neg c99] at H
           exact absurd H (by simp)
        ·rw [if_neg c92] at H
         exact absurd H (by simp)
       ·rw [if_neg c91] at H
        exact absurd H (by simp)
 ·replace c5 := Bool.eq_false_iff.mpr c5
  subst c5
  have H1 : ((clochelaw01_alive.f k).bind fun t337 => (some t337)) = some r := by rw [if_neg (show ¬ (false = true) by decide)] at H; exact H
  clear H
  have H := H1
  clear H1
  replace H := Option.bind_eq_some_iff.mp H
  obtain ⟨t337, A1050, H⟩ := H
  replace H : (some t337) = some r := H
  have A105 := Aside0.mk A1050
  clear A1050
  obtain rfl := Option.some.inj H
  go_enter Try.func8, Try.ntmps8
  go_wp2_with (first | ((with_reducible refine gate_dst (N := 3) rfl ?_); (try (refine gate_guard (by rfl) ?_; dsimp only)); refine box_event ?hg (N := 3) ?hd (cs := #[.int .i64 a0_0, .int .i64 a0_1, .int .i64 a0_2, .int .i64 a0_3]) (t := 23) ?hr ?_; (case hd => rfl); (case hg => rfl); (case hr => exact gs_); intro gb335 hg w106 hbox hb; have n0_ := Aside0.mk (below_step (lw_ HB.out) hb); have n1_ := Aside0.mk (hbox); have n2_ := Aside0.mk ((by rw [hg]; exact (below_size (lw_ HB.out)) : w.heap.size ≤ gb335)); have n3_ := Aside0.mk ((by rw [hg]; exact (below_size (lw_ HB.out)) : w.heap.size ≤ gb335)); clear HB; have HB := n0_; have BK335 := n1_; have GW335 := n2_; have GE335 := n3_; clear n0_ n1_ n2_ n3_; clear hb hbox hg; have hcz107_0 : w106.cell? ⟨gb335, 0, none⟩ = some (.int .i64 a0_0) := (blk_cell BK335.out 0).trans rfl; have hcz107_1 : w106.cell? ⟨gb335, 1, none⟩ = some (.int .i64 a0_1) := (blk_cell BK335.out 1).trans rfl; have hcz107_2 : w106.cell? ⟨gb335, 2, none⟩ = some (.int .i64 a0_2) := (blk_cell BK335.out 2).trans rfl; have hcz107_3 : w106.cell? ⟨gb335, 3, none⟩ = some (.int .i64 a0_3) := (blk_cell BK335.out 3).trans rfl; have hfz107_0 := blk_frozen BK335.out 0; have hfz107_1 := blk_frozen BK335.out 1; have hfz107_2 := blk_frozen BK335.out 2; have hfz107_3 := blk_frozen BK335.out 3) | ((with_reducible refine gate_callee (f := 27) rfl ?_); refine goesL_ (some 24) rfl rfl Try.func27 (by kernel_rfl) rfl #[.agg #[.int .i64 a0_0, .int .i64 a0_1, .int .i64 a0_2, .int .i64 a0_3]] rfl mp_ ?_; (with_reducible refine (clocheref01_IsQuad.calls k a0_0 a0_1 a0_2 a0_3 false _ A4.out).mono ?_); rintro e w108 ⟨rfl, hb⟩; refine ⟨_, rfl, ?_⟩; have n0_ := Aside0.mk (blk_below (g := gb335) (o := .cells #[.int .i64 a0_0, .int .i64 a0_1, .int .i64 a0_2, .int .i64 a0_3] 23 (0, 0)) (by refine bs_ ?_; exact BK335.out) hb); have n1_ := Aside0.mk (below_step (by repeat (first | (with_reducible first | exact HB.out | apply below_alloc | apply pw_below_drewN | apply below_drew1 | refine below_set ?_ GE335.out) | exact HB.out)) hb); clear BK335; clear HB; have BK335 := n0_; have HB := n1_; clear n0_ n1_; (try clear hb); (try clear hb2); (try clear hk); (try clear hi)) | ((with_reducible refine gate_callee (f := 19) rfl ?_); refine goesL_ (some 26) rfl rfl Try.func19 (by kernel_rfl) rfl #[] rfl mp_ ?_; (with_reducible refine (clochelaw01_alive.calls k  t337 _ A105.out).mono ?_); rintro e w109 ⟨rfl, hb⟩; refine ⟨_, rfl, ?_⟩; have n0_ := Aside0.mk (blk_below (g := gb335) (o := .cells #[.int .i64 a0_0, .int .i64 a0_1, .int .i64 a0_2, .int .i64 a0_3] 23 (0, 0)) (by refine bs_ ?_; exact BK335.out) hb); have n1_ := Aside0.mk (below_step (by repeat (first | (with_reducible first | exact HB.out | apply below_alloc | apply pw_below_drewN | apply below_drew1 | refine below_set ?_ GE335.out) | exact HB.out)) hb); clear BK335; clear HB; have BK335 := n0_; have HB := n1_; clear n0_ n1_; (try clear hb); (try clear hb2); (try clear hk); (try clear hi)))
  go_ret
  exact ⟨by first | rfl | (simp [errW_none, errW_some] <;> rfl) | (simp [*, errW_none, errW_some] <;> rfl), by repeat (first | (with_reducible first | exact HB.out | apply below_alloc | apply pw_below_drewN | apply below_drew1 | refine below_set ?_ GE335.out) | exact HB.out)⟩

end Go.Proofs.Ytlfmafebmnggeaa.Print
