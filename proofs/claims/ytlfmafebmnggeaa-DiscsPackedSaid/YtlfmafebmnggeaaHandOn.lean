/- Discs' closure on, walked by hand. -/
import Derived.Test.YtlfmafebmnggeaaProg
import Derived.Laws.EntriesVeiled
import Derived.Outline
import Derived.Below
import Derived.Deep.Draws
import Derived.Deep.AppendLies
import Derived.Maps.AppendAt
import Derived.OwnWalk
import Derived.Laws.BytesArg
import Derived.Laws.MakeOwn
import Derived.Laws.OwnMore
import Derived.Deep.OwnRows
import Derived.Tactics
import Derived.Lib.ConvBytes
import Derived.Laws.Slices
import Derived.WalkKit
import Derived.KernelRfl
import Derived.RowKit3
import Derived.Deep.LoopGhost
import Derived.Deep.QuietTactic
import Derived.BigQuiet
import Derived.WideLaws
import Derived.Deep.DeepCutAuto
import Derived.Deep.CutBlock
import Derived.Deep.RegionHeld3
import Derived.Laws.Rows
import Derived.Lib.AppendStr
import Derived.ArgAppend
import Derived.Laws.IdiomCopy
import Derived.OrdersHeld
import Derived.Laws.BitsLemmas
import Derived.RowKit
import Derived.Test.YtlfmafebmnggeaaWMore
import Derived.Test.YtlfmafebmnggeaaHandSortQ
import Derived.OneCell
namespace Go.Proofs.Ytlfmafebmnggeaa.Print
open Go.RowKit Go.Proofs.YtlfmafebmnggeaaW.PrintWords Go.Proofs.YtlfmafebmnggeaaW.PrintLast Go.Proofs.YtlfmafebmnggeaaW.PrintMore
attribute [local go_sem] max2_int min2_int max_two min_two max_three min_three max_four min_four
set_option linter.unusedVariables false
set_option linter.unusedSimpArgs false
/-! ### Discs and its closure on: functions 22, 50 -/
@[reducible] def fnOn (pm po pn : Nat) : Value := .func (.func 50) #[] #[.pointer (some ⟨pm, 0, none⟩), .pointer (some ⟨po, 0, none⟩), .pointer (some ⟨pn, 0, none⟩)]
/-- The boxes that the closure holds (most, out, on), and the row in out; B: what is below belongs to others; ok: where the row may lie. -/
structure Dn (B : Nat) (pm po pn : Nat) (ok : Nat → Prop) (w : World) (most : Int) (vo : Value) (out : List Int) : Prop where
  bm : B ≤ pm
  bo : B ≤ po
  bn : B ≤ pn
  mo : pm ≠ po
  no : pn ≠ po
  m : w.heap[pm]? = some (.cells #[.int .i64 most] 3 (0, 0))
  o : w.heap[po]? = some (.cells #[vo] 35 (0, 0))
  n : w.heap[pn]? = some (.cells #[fnOn pm po pn] 68 (0, 0))
  okm : ∀ k, ok k → k ≠ pm ∧ k ≠ po ∧ k ≠ pn
  r : Kd.R (Kd.int .i64) 3 w B ok vo out
section
variable {B pm po pn : Nat} {ok : Nat → Prop} {w w1 W : World} {most : Int} {vo : Value} {out : List Int}
theorem Dn.below (h : Dn B pm po pn ok w most vo out) (hb : Below w.heap.size w w1) : Dn B pm po pn ok w1 most vo out :=
  ⟨h.bm, h.bo, h.bn, h.mo, h.no, (hb.block _ (lt_of_block h.m)).trans h.m, (hb.block _ (lt_of_block h.o)).trans h.o, (hb.block _ (lt_of_block h.n)).trans h.n, h.okm, Kd.R_below h.r hb⟩
theorem Dn.size (h : Dn B pm po pn ok w most vo out) : B ≤ w.heap.size := Nat.le_of_lt (Nat.lt_of_le_of_lt h.bo (lt_of_block h.o))
/-- out has been appended to: the row, and its box. -/
theorem Dn.push {vo' : Value} {out' : List Int} (h : Dn B pm po pn ok W most vo out) (hg : W.grownBy w1 vo.ownBlock) (hr : Kd.R (Kd.int .i64) 3 w1 B ok vo' out') :
    Dn B pm po pn ok (w1.setCell ⟨po, 0, none⟩ vo') most vo' out' := by
  have far : ∀ k, k < W.heap.size → some k ≠ vo.ownBlock → k ≠ po → (w1.setCell ⟨po, 0, none⟩ vo').heap[k]? = W.heap[k]? := fun k h1 h2 h3 => (Below.heap_setCell w1 ⟨po, 0, none⟩ vo' k h3).trans (hg.block k h1 h2)
  have am : some pm ≠ vo.ownBlock := fun e => (h.okm _ (h.r.1 _ e.symm)).1 rfl
  have ao : some po ≠ vo.ownBlock := fun e => (h.okm _ (h.r.1 _ e.symm)).2.1 rfl
  have an : some pn ≠ vo.ownBlock := fun e => (h.okm _ (h.r.1 _ e.symm)).2.2 rfl
  have o1 : w1.heap[po]? = some (.cells #[vo] 35 (0, 0)) := (hg.block _ (lt_of_block h.o) ao).trans h.o
  exact ⟨h.bm, h.bo, h.bn, h.mo, h.no, (far _ (lt_of_block h.m) am h.mo).trans h.m, one_setCell o1, (far _ (lt_of_block h.n) an h.no).trans h.n, h.okm, Kd.R_far (p := ⟨po, 0, none⟩) hr (fun k hk => (h.okm k hk).2.1) vo'⟩
theorem Dn.start (h : Dn B pm po pn ok w most vo out) (o : Obj) : Dn B pm po pn (fun k => ok k ∧ k ≠ w.heap.size) (w.alloc o) most vo out := by
  have hb := below_alloc (Below.refl w.heap.size w) o
  have h1 := h.below hb
  exact ⟨h1.bm, h1.bo, h1.bn, h1.mo, h1.no, h1.m, h1.o, h1.n, fun k hk => h1.okm k hk.1, Kd.R_mono (Kd.R_below (Kd.R_bound h.r) hb) (fun k hk => ⟨hk.1, Nat.ne_of_lt hk.2.2.1⟩)⟩
end
/-- What a call of on leaves as it was: all but the row's places and out's box. -/
structure KeepD (ok : Nat → Prop) (po : Nat) (w w' : World) : Prop where
  size : w.heap.size ≤ w'.heap.size
  block : ∀ k, k < w.heap.size → ¬ ok k → k ≠ po → w'.heap[k]? = w.heap[k]?
theorem KeepD.refl (ok : Nat → Prop) (po : Nat) (w : World) : KeepD ok po w w := ⟨Nat.le_refl _, fun _ _ _ _ => rfl⟩
theorem KeepD.trans {ok : Nat → Prop} {po : Nat} {w w1 w2 : World} (h : KeepD ok po w w1) (h2 : KeepD ok po w1 w2) : KeepD ok po w w2 :=
  ⟨Nat.le_trans h.size h2.size, fun k hk ho hp => (h2.block k (Nat.lt_of_lt_of_le hk h.size) ho hp).trans (h.block k hk ho hp)⟩
theorem KeepD.below {ok : Nat → Prop} {po : Nat} {w w1 w2 : World} (h : KeepD ok po w w1) (hb : Below w1.heap.size w1 w2) : KeepD ok po w w2 :=
  h.trans ⟨hb.size, fun k hk _ _ => hb.block k hk⟩
theorem KeepD.grown {ok : Nat → Prop} {po : Nat} {w w1 w2 : World} {row : Option Nat} (h : KeepD ok po w w1) (hg : w1.grownBy w2 row) (hr : ∀ k, row = some k → ok k) (v : Value) : KeepD ok po w (w2.setCell ⟨po, 0, none⟩ v) :=
  h.trans ⟨by simpa [World.setCell] using hg.size, fun k hk ho hp => (Below.heap_setCell w2 ⟨po, 0, none⟩ v k hp).trans (hg.block k hk (fun e => ho (hr k e.symm)))⟩
theorem KeepD.mono {ok ok' : Nat → Prop} {po : Nat} {w w1 : World} (h : KeepD ok' po w w1) (hk : ∀ k, ok' k → ok k) : KeepD ok po w w1 :=
  ⟨h.size, fun k h1 h2 h3 => h.block k h1 (fun h4 => h2 (hk k h4)) h3⟩
theorem Dn.fresh {B pm po pn : Nat} {ok : Nat → Prop} {w w1 : World} {most : Int} {vo : Value} {out : List Int} {q : Q4} {e : TypeId} (h : Dn B pm po pn (fun k => ok k ∧ k ≠ w.heap.size) w1 most vo out) (hq : Bk w1 w.heap.size e q) (hp : KeepD ok po w w1) (hok : ∀ k, w.heap.size ≤ k → ok k) : ∀ k, w1.heap.size ≤ k → ok k ∧ k ≠ w.heap.size := fun k hk => by
  have h1 : w.heap.size < w1.heap.size := lt_of_block hq
  exact ⟨hok k (by omega), by omega⟩
theorem Dn.widen {B pm po pn : Nat} {ok : Nat → Prop} {w w1 : World} {most m' : Int} {vo vo' : Value} {out out' : List Int} {P : Nat → Prop} (h : Dn B pm po pn (fun k => ok k ∧ P k) w1 most vo out) (h0 : Dn B pm po pn ok w m' vo' out') : Dn B pm po pn ok w1 most vo out :=
  ⟨h.bm, h.bo, h.bn, h.mo, h.no, h.m, h.o, h.n, h0.okm, Kd.R_mono h.r (fun _ hk => hk.1)⟩
theorem Dn.keepq {B pm po pn g : Nat} {ok : Nat → Prop} {W w1 : World} {most : Int} {vo : Value} {out : List Int} {q : Q4} {e : TypeId} (h : Dn B pm po pn (fun k => ok k ∧ k ≠ g) W most vo out) (hq : Bk W g e q) (hne : g ≠ po) (hg : W.grownBy w1 vo.ownBlock) (v : Value) : Bk (w1.setCell ⟨po, 0, none⟩ v) g e q :=
  (Below.heap_setCell w1 ⟨po, 0, none⟩ v g hne).trans ((hg.block g (lt_of_block hq) (fun e => (h.r.1 _ e.symm).2 rfl)).trans hq)
mutual
def discsOn.on : Nat → Int → Q4 → Int → List Int → Option (List Int)
  | 0, _, _, _, _ => none
  | k + 1, most, q, last, out => discsOn.lp k most q last out 0
def discsOn.lp : Nat → Int → Q4 → Int → List Int → Int → Option (List Int)
  | 0, _, _, _, _, _ => none
  | k + 1, most, q, last, out, i => if i < 4 then (if i = last then discsOn.lp k most q last out (wrap64 (i + 1)) else if turnedF q i ≤ most then (if (out.length : Int) ≤ 20000 then ((discsOn.on k most (turnF q i) i (out ++ [turnedF q i])).bind fun o => discsOn.lp k most q last o (wrap64 (i + 1))) else discsOn.lp k most q last out (wrap64 (i + 1))) else discsOn.lp k most q last out (wrap64 (i + 1))) else some out
end
theorem discsOn.mono_l : ∀ k, (∀ y0 y1 y2 y3, LeO (discsOn.on k y0 y1 y2 y3) (discsOn.on (k + 1) y0 y1 y2 y3)) ∧ (∀ y0 y1 y2 y3 y4, LeO (discsOn.lp k y0 y1 y2 y3 y4) (discsOn.lp (k + 1) y0 y1 y2 y3 y4))
  | 0 => ⟨fun _ _ _ _ r h => by simp [discsOn.on] at h, fun _ _ _ _ _ r h => by simp [discsOn.lp] at h⟩
  | k + 1 => by
    obtain ⟨ih0, ih1⟩ := discsOn.mono_l k
    refine ⟨?_, ?_⟩
    · intro y0 y1 y2 y3
      unfold discsOn.on
      exact ih1 _ _ _ _ _
    · intro y0 y1 y2 y3 y4
      unfold discsOn.lp
      repeat' first
      | (with_reducible exact ih0 _ _ _ _)
      | (with_reducible exact ih1 _ _ _ _ _)
      | (with_reducible exact LeO.refl _)
      | (with_reducible refine LeO.ite ?_ ?_)
      | (with_reducible refine LeO.bind ?_ (fun _ => ?_))
/-- What on leaves. -/
def OnD (B pm po pn : Nat) (ok : Nat → Prop) (most : Int) (r : List Int) (w w' : World) : Prop := ∃ vo', Dn B pm po pn ok w' most vo' r ∧ Below B w w' ∧ KeepD ok po w w'
set_option maxHeartbeats 4000000 in
set_option maxRecDepth 100000 in
theorem on_calls (B pm po pn : Nat) (most : Int) : ∀ (k : Nat) (ok : Nat → Prop) (q : Q4) (last : Int) (out r : List Int) (w : World) (vo : Value), Dn B pm po pn ok w most vo out → (∀ k, w.heap.size ≤ k → ok k) → discsOn.on k most q last out = some r →
    Calls Try.prog 50 #[agg4 q, .int .i64 last, .pointer (some ⟨pm, 0, none⟩), .pointer (some ⟨po, 0, none⟩), .pointer (some ⟨pn, 0, none⟩)] w fun e w' => e = .returned (.tuple #[]) ∧ OnD B pm po pn ok most r w w' := by
  intro k
  induction k using Nat.strongRecOn with
  | ind k ih =>
  intro ok q last out r w vo hD hok h
  have HIH := Aside0.mk ih
  clear ih
  have HD := Aside0.mk hD
  have HOK := Aside0.mk hok
  clear hD hok
  cases k with
  | zero => simp [discsOn.on] at h
  | succ k0 =>
  simp only [discsOn.on] at h
  have H' := Aside0.mk h
  clear h
  have HB0 := Aside0.mk (below_alloc (Below.refl w.heap.size w) (.cells #[.int .i64 q.a, .int .i64 q.b, .int .i64 q.c, .int .i64 q.d] 58))
  have HQ0 := Aside0.mk (Bk.new w 58 q)
  obtain ⟨g, hg⟩ : ∃ g, g = w.heap.size := ⟨_, rfl⟩
  have HNE := Aside0.mk (show w.heap.size ≠ po from Nat.ne_of_gt (lt_of_block HD.out.o))
  unfold agg4
  go_enter Try.func50, Try.ntmps50
  go_wp2
  go_loopg [9] k0 (fun kq v9 w' => ∃ (i : Int) (o1 : List Int) (vo1 : Value), v9 = .int .i64 i ∧ Aside0 (0 ≤ i) ∧ Aside0 (discsOn.lp kq most q last o1 i = some r) ∧ Aside0 (kq ≤ k0) ∧ Aside0 (Dn B pm po pn (fun k => ok k ∧ k ≠ w.heap.size) w' most vo1 o1) ∧ Aside0 (Bk w' w.heap.size 58 q) ∧ Aside0 (Below B w w') ∧ Aside0 (KeepD ok po w w'))
  case atStart => exact ⟨0, out, vo, rfl, ⟨Int.le_refl _⟩, H', ⟨Nat.le_refl _⟩, ⟨Dn.start HD.out _⟩, HQ0, ⟨HB0.out.mono HD.out.size⟩, ⟨(KeepD.refl _ _ _).below HB0.out⟩⟩
  case round =>
    clear H' HB0 HQ0
    obtain ⟨i, o1, vo1, rfl, HI0, HA, HK1, HD1, HQ1, HB1, HP1⟩ := hrel
    cases gk with
    | zero => exact absurd HA.out (by simp [discsOn.lp])
    | succ k1 =>
      have H := HA.out
      clear HA
      simp only [discsOn.lp] at H
      have HF1 := Aside0.mk (Dn.fresh HD1.out HQ1.out HP1.out HOK.out)
      by_cases c1 : i < 4
      · rw [if_pos c1] at H
        have b1 : decide (i < 4) = true := decide_eq_true c1
        have HT := Aside0.mk (fun w' => turned_calls q i HI0.out c1 w')
        have HG := Aside0.mk (fun w' => turn_calls q i HI0.out c1 w')
        have HI4 := Aside0.mk c1
        have hw : Aside0 (wrap64 (i + 1) = i + 1) := ⟨by have := HI0.out; unfold wrap64; omega⟩
        clear c1
        unfold agg4 at HT HG
        have cM := cell_of_one HD1.out.m
        obtain ⟨e0, e1, e2, e3⟩ := HQ1.out.cell
        obtain ⟨x, hx⟩ : ∃ x, x = turnedF q i := ⟨_, rfl⟩
        rw [← hx] at H HT
        by_cases c2 : i = last
        · rw [if_pos c2] at H
          have b2 : (i != last) = false := by rw [c2]; simp
          have H' := Aside0.mk H
          clear H c2 hx
          go_wp2_with (first | (go_at_call 51; refine (HT.out _).mono ?_; rintro e w5 ⟨rfl, hb⟩; have HD5 := Aside0.mk (HD1.out.below hb); have HQ5 := Aside0.mk (HQ1.out.below hb); have HB5 := Aside0.mk (HB1.out.trans (hb.mono HD1.out.size)); have HP5 := Aside0.mk (HP1.out.below hb); clear hb; have cM5 := cell_of_one HD5.out.m))
          go_roundg k1
          case measure => have := HK1.out; omega
          case rel => exact ⟨wrap64 (i + 1), o1, vo1, rfl, ⟨by rw [hw.out]; have := HI0.out; omega⟩, H', ⟨by have := HK1.out; omega⟩, HD5, HQ5, HB5, HP5⟩
        rw [if_neg c2] at H
        have b2 : (i != last) = true := by simpa using c2
        clear c2
        by_cases c3 : x ≤ most
        · rw [if_pos c3] at H
          have b3 : decide (x ≤ most) = true := decide_eq_true c3
          clear c3
          obtain ⟨A, c, rfl⟩ := Kd.R_slice HD1.out.r
          by_cases c4 : (o1.length : Int) ≤ 20000
          · rw [if_pos c4] at H
            have b4 : decide ((o1.length : Int) ≤ 20000) = true := decide_eq_true c4
            have HL := Aside0.mk c4
            clear c4
            obtain ⟨o2, hon, H⟩ := Option.bind_eq_some_iff.mp H
            have A9 := Aside0.mk hon
            have H' := Aside0.mk H
            clear hon H hx
            go_wp2_with (first
              | (go_at_call 51; refine (HT.out _).mono ?_; rintro e w5 ⟨rfl, hb⟩; have HD5 := Aside0.mk (HD1.out.below hb); have HQ5 := Aside0.mk (HQ1.out.below hb); have HB5 := Aside0.mk (HB1.out.trans (hb.mono HD1.out.size)); have HP5 := Aside0.mk (HP1.out.below hb); clear hb; have cM5 := cell_of_one HD5.out.m; have cO5 := cell_of_one HD5.out.o; have HS5 := Aside0.mk HD5.out.size; have HF5 := Aside0.mk (Dn.fresh HD5.out HQ5.out HP5.out HOK.out))
              | ((with_reducible refine gate_builtin (b := .append) (xs := #[.tmp 28, .tmp 30]) rfl ?_); at_builtin; refine Kd.R_append (Kd.int .i64) (w0 := w5) B rfl (.tmp 28) (.tmp 30) 35 3 (.int .i64 0) 8 rfl Try.underlying35 aInfo3 rfl (by decide) (by decide) (.slice A o1.length c) o1 x [.int .i64 x] (fun k => ok k ∧ k ≠ w.heap.size) (fun _ => False) rfl rfl rfl (fun _ hk => hk.elim) HF5.out HD5.out.r (Below.refl _ _) HS5.out (by have := HL.out; omega) ?_; intro v1 w6 hr hb hg hat; obtain ⟨A2, c2, rfl⟩ := Kd.R_slice hr; have o6 := (hg.block po (lt_of_block HD5.out.o) (fun e => (HD5.out.okm _ (HD5.out.r.1 _ e.symm)).2.1 rfl)).trans HD5.out.o; have HD6 := Aside0.mk (HD5.out.push hg hr); have HQ6 := Aside0.mk (Dn.keepq HD5.out HQ5.out HNE.out hg (.slice A2 (o1 ++ [x]).length c2)); have HP6 := Aside0.mk (HP5.out.grown hg (fun k e => (HD5.out.r.1 k e).1) (.slice A2 (o1 ++ [x]).length c2)); have HB6 := Aside0.mk ((HB5.out.trans hb).setCell (p := ⟨po, 0, none⟩) HD5.out.bo (.slice A2 (o1 ++ [x]).length c2)); rw [show (o1 ++ [x]).length = o1.length + 1 by simp] at HD6 HQ6 HP6 HB6; have cO6 := cell_of_one o6; have fO6 := free_of_one o6; clear hr hb hg hat o6))
            generalize w6.setCell ⟨po, 0, none⟩ (.slice A2 (o1.length + 1) c2) = w7 at HD6 HQ6 HB6 HP6 ⊢
            clear HD5 HQ5 HP5 HB5 HF5 HS5 cM5 cO5 cO6 fO6 cM e0 e1 e2 e3 HD1 HQ1 HB1 HP1 HF1
            have HF6 := Aside0.mk (Dn.fresh HD6.out HQ6.out HP6.out HOK.out)
            have cN := cell_of_one HD6.out.n
            obtain ⟨e0, e1, e2, e3⟩ := HQ6.out.cell
            go_region_law (first
              | (go_simp; go_at_call 52; refine (HG.out _).mono ?_; rintro e w8 ⟨rfl, hb⟩; replace hb : Below w7.heap.size w7 w8 := (below_drew1 (Below.refl w7.heap.size w7)).trans hb; have HD8 := Aside0.mk (HD6.out.below hb); have HQ8 := Aside0.mk (HQ6.out.below hb); have HB8 := Aside0.mk (HB6.out.trans (hb.mono HD6.out.size)); have HP8 := Aside0.mk (HP6.out.below hb); have HF8 := Aside0.mk (Dn.fresh HD8.out HQ8.out HP8.out HOK.out); clear hb; have cN8 := cell_of_one HD8.out.n)
              | (go_simp; go_at_call 50; refine (HIH.out k1 (by have := HK1.out; omega) (fun k => ok k ∧ k ≠ w.heap.size) (turnF q i) i (o1 ++ [x]) o2 w8 _ HD8.out HF8.out A9.out).mono ?_; rintro e w9 ⟨rfl, vo9, hd9, hb9, hk9⟩; have HQ9 := Aside0.mk (show Bk w9 w.heap.size 58 q from (hk9.block _ (lt_of_block HQ8.out) (fun h => h.2 rfl) HNE.out).trans HQ8.out); have HD9 := Aside0.mk hd9; have HB9 := Aside0.mk (HB8.out.trans hb9); have HP9 := Aside0.mk (HP8.out.trans (hk9.mono (fun k hk => hk.1))); clear hd9 hb9 hk9))
            all_goals
              go_wp2
              go_roundg k1
              case measure => have := HK1.out; omega
              case rel => exact ⟨wrap64 (i + 1), o2, vo9, rfl, ⟨by rw [hw.out]; have := HI0.out; omega⟩, H', ⟨by have := HK1.out; omega⟩, HD9, HQ9, HB9, HP9⟩
          · rw [if_neg c4] at H
            have b4 : decide ((o1.length : Int) ≤ 20000) = false := decide_eq_false c4
            have H' := Aside0.mk H
            clear H hx c4
            go_wp2_with (first | (go_at_call 51; refine (HT.out _).mono ?_; rintro e w5 ⟨rfl, hb⟩; have HD5 := Aside0.mk (HD1.out.below hb); have HQ5 := Aside0.mk (HQ1.out.below hb); have HB5 := Aside0.mk (HB1.out.trans (hb.mono HD1.out.size)); have HP5 := Aside0.mk (HP1.out.below hb); clear hb; have cM5 := cell_of_one HD5.out.m; have cO5 := cell_of_one HD5.out.o))
            go_roundg k1
            case measure => have := HK1.out; omega
            case rel => exact ⟨wrap64 (i + 1), o1, _, rfl, ⟨by rw [hw.out]; have := HI0.out; omega⟩, H', ⟨by have := HK1.out; omega⟩, HD5, HQ5, HB5, HP5⟩
        · rw [if_neg c3] at H
          have b3 : decide (x ≤ most) = false := decide_eq_false c3
          have H' := Aside0.mk H
          clear H hx c3
          go_wp2_with (first | (go_at_call 51; refine (HT.out _).mono ?_; rintro e w5 ⟨rfl, hb⟩; have HD5 := Aside0.mk (HD1.out.below hb); have HQ5 := Aside0.mk (HQ1.out.below hb); have HB5 := Aside0.mk (HB1.out.trans (hb.mono HD1.out.size)); have HP5 := Aside0.mk (HP1.out.below hb); clear hb; have cM5 := cell_of_one HD5.out.m))
          go_roundg k1
          case measure => have := HK1.out; omega
          case rel => exact ⟨wrap64 (i + 1), o1, vo1, rfl, ⟨by rw [hw.out]; have := HI0.out; omega⟩, H', ⟨by have := HK1.out; omega⟩, HD5, HQ5, HB5, HP5⟩
      · rw [if_neg c1] at H
        have b1 : decide (i < 4) = false := decide_eq_false c1
        obtain rfl := Option.some.inj H
        go_wp2
        go_end0
        exact ⟨rfl, vo1, Dn.widen HD1.out HD.out, HB1.out, HP1.out⟩
/-! ### Discs: function 22 -/
/-- The boxes ahead of on's. -/
structure D0 (B : Nat) (pm po : Nat) (ok : Nat → Prop) (w : World) (most : Int) (vo : Value) (out : List Int) : Prop where
  bm : B ≤ pm
  bo : B ≤ po
  mo : pm ≠ po
  m : w.heap[pm]? = some (.cells #[.int .i64 most] 3 (0, 0))
  o : w.heap[po]? = some (.cells #[vo] 35 (0, 0))
  okm : ∀ k, ok k → k ≠ pm ∧ k ≠ po
  r : Kd.R (Kd.int .i64) 3 w B ok vo out
section
variable {B pm po : Nat} {ok : Nat → Prop} {w w1 W : World} {most : Int} {vo : Value} {out : List Int}
theorem D0.push {vo' : Value} {out' : List Int} (h : D0 B pm po ok W most vo out) (hg : W.grownBy w1 vo.ownBlock) (hr : Kd.R (Kd.int .i64) 3 w1 B ok vo' out') :
    D0 B pm po ok (w1.setCell ⟨po, 0, none⟩ vo') most vo' out' := by
  have far : ∀ k, k < W.heap.size → some k ≠ vo.ownBlock → k ≠ po → (w1.setCell ⟨po, 0, none⟩ vo').heap[k]? = W.heap[k]? := fun k h1 h2 h3 => (Below.heap_setCell w1 ⟨po, 0, none⟩ vo' k h3).trans (hg.block k h1 h2)
  have am : some pm ≠ vo.ownBlock := fun e => (h.okm _ (h.r.1 _ e.symm)).1 rfl
  have ao : some po ≠ vo.ownBlock := fun e => (h.okm _ (h.r.1 _ e.symm)).2 rfl
  have o1 : w1.heap[po]? = some (.cells #[vo] 35 (0, 0)) := (hg.block _ (lt_of_block h.o) ao).trans h.o
  exact ⟨h.bm, h.bo, h.mo, (far _ (lt_of_block h.m) am h.mo).trans h.m, one_setCell o1, h.okm, Kd.R_far (p := ⟨po, 0, none⟩) hr (fun k hk => (h.okm k hk).2) vo'⟩
theorem D0.keepq {g : Nat} {q : Q4} {e : TypeId} {P : Nat → Prop} (h : D0 B pm po (fun k => P k ∧ k ≠ g) W most vo out) (hq : Bk W g e q) (hne : g ≠ po) (hg : W.grownBy w1 vo.ownBlock) (v : Value) : Bk (w1.setCell ⟨po, 0, none⟩ v) g e q :=
  (Below.heap_setCell w1 ⟨po, 0, none⟩ v g hne).trans ((hg.block g (lt_of_block hq) (fun e => (h.r.1 _ e.symm).2 rfl)).trans hq)
/-- on's box, with the function in it. -/
theorem D0.fn (h : D0 B pm po ok w most vo out) : Dn B pm po w.heap.size (fun k => ok k ∧ k ≠ w.heap.size) (w.alloc (.cells #[fnOn pm po w.heap.size] 68)) most vo out := by
  have hb := below_alloc (Below.refl w.heap.size w) (.cells #[fnOn pm po w.heap.size] 68)
  have hm := lt_of_block h.m
  have ho := lt_of_block h.o
  have hs := Nat.le_of_lt (Nat.lt_of_le_of_lt h.bo ho)
  have hn : (w.alloc (.cells #[fnOn pm po w.heap.size] 68)).heap[w.heap.size]? = some (.cells #[fnOn pm po w.heap.size] 68 (0, 0)) := by
    show (w.heap.push _)[w.heap.size]? = _
    simp
  exact ⟨h.bm, h.bo, hs, h.mo, by omega, (hb.block _ hm).trans h.m, (hb.block _ ho).trans h.o, hn, fun k hk => ⟨(h.okm k hk.1).1, (h.okm k hk.1).2, hk.2⟩, Kd.R_mono (Kd.R_below (Kd.R_bound h.r) hb) (fun k hk => ⟨hk.1, Nat.ne_of_lt hk.2.2.1⟩)⟩
end
@[reducible] def w4D (w2 : World) (rt : Q4) : World := (w2.alloc (.cells #[.int .i64 rt.a, .int .i64 rt.b, .int .i64 rt.c, .int .i64 rt.d] 58)).alloc (.cells #[.slice none 0 0] 35)
theorem laid4 {w2 : World} {B pm : Nat} {most : Int} (rt : Q4) (hB : B ≤ pm) (hm : w2.heap[pm]? = some (.cells #[.int .i64 most] 3 (0, 0))) :
    Bk (w4D w2 rt) w2.heap.size 58 rt ∧ D0 B pm (w2.heap.size + 1) (fun k => (k ≠ pm ∧ k ≠ w2.heap.size + 1) ∧ k ≠ w2.heap.size) (w4D w2 rt) most (.slice none 0 0) [] ∧ Below w2.heap.size w2 (w4D w2 rt) ∧ (w4D w2 rt).heap.size = w2.heap.size + 2 := by
  have hlt := lt_of_block hm
  have hb4 : Below w2.heap.size w2 (w4D w2 rt) := below_alloc (below_alloc (Below.refl w2.heap.size w2) _) _
  have ho := heap_alloc_new (w2.alloc (.cells #[.int .i64 rt.a, .int .i64 rt.b, .int .i64 rt.c, .int .i64 rt.d] 58)) (.cells #[.slice none 0 0] 35)
  rw [World.size_alloc] at ho
  exact ⟨(Bk.new w2 58 rt).alloc _, ⟨hB, by omega, by omega, (hb4.block _ hlt).trans hm, ho, fun k hk => hk.1, Kd.R_nil _ _ _ _ _⟩, hb4, by rw [World.size_alloc, World.size_alloc]⟩
def startUp (most : Int) (q : Q4) (i : Nat) : List Int := ([q.a, q.b, q.c, q.d].take i).filter fun x => decide (x ≤ most)
theorem startUp_yes {most : Int} {q : Q4} {i : Nat} (hi : i < 4) (h : q.at i ≤ most) : startUp most q (i + 1) = startUp most q i ++ [q.at i] := by
  match i, hi with
  | 0, _ => simp [startUp, Q4.at] at *; exact h
  | 1, _ => simp [startUp, Q4.at, List.filter_cons] at *; split <;> simp [h]
  | 2, _ => simp [startUp, Q4.at, List.filter_cons] at *; split <;> split <;> simp [h]
  | 3, _ => simp [startUp, Q4.at, List.filter_cons] at *; split <;> split <;> split <;> simp [h]
theorem startUp_no {most : Int} {q : Q4} {i : Nat} (hi : i < 4) (h : ¬ q.at i ≤ most) : startUp most q (i + 1) = startUp most q i := by
  match i, hi with
  | 0, _ => simp [startUp, Q4.at] at *; exact h
  | 1, _ => simp [startUp, Q4.at, List.filter_cons] at *; split <;> simp [Int.not_le.2 h]
  | 2, _ => simp [startUp, Q4.at, List.filter_cons] at *; split <;> split <;> simp [Int.not_le.2 h]
  | 3, _ => simp [startUp, Q4.at, List.filter_cons] at *; split <;> split <;> split <;> simp [Int.not_le.2 h]
theorem startUp_len (most : Int) (q : Q4) (i : Nat) : (startUp most q i).length ≤ 4 := by
  unfold startUp
  refine Nat.le_trans (List.length_filter_le _ _) ?_
  simp
  omega
set_option maxHeartbeats 4000000 in
set_option maxRecDepth 100000 in
theorem isq_calls (q : Q4) (r : Bool) (w : World) (h : quad_is.f q = some r) :
    Calls Try.prog 29 #[agg4 q] w fun e w' => e = .returned (.bool r) ∧ Below w.heap.size w w' := by
  obtain ⟨e0, e1, e2, e3⟩ := (Bk.new w 23 q).cell
  have HI := Aside0.mk (fun w' => is_calls q r w' h)
  have HB := Aside0.mk (below_alloc (Below.refl w.heap.size w) (.cells #[.int .i64 q.a, .int .i64 q.b, .int .i64 q.c, .int .i64 q.d] 23))
  unfold agg4 at HI ⊢
  go_enter Try.func29, Try.ntmps29
  go_wp2_with (first | (go_at_call 60; refine (HI.out _).mono ?_; rintro e w1 ⟨rfl, hb⟩))
  go_ret
  exact ⟨rfl, HB.out.trans (hb.mono (by rw [World.size_alloc]; omega))⟩
/-! ### slices.Sort of a row of numbers -/
def sortI (l : List Int) : List Int := isort l
theorem sortI_len (l : List Int) : (sortI l).length = l.length := (isort_perm _).length_eq
theorem rowBlock {w : World} {base : Nat} {v : Value} {xs : List Int} (h : w.ownsRow base 3 1 v xs.length (nums .i64 xs)) (hp : 0 < xs.length) :
    ∃ g cap cur, v = .slice (some ⟨g, 0, none⟩) xs.length cap ∧ base ≤ g ∧ w.heap[g]? = some (.cells cur 3 (0, 0)) ∧ xs.length ≤ cap ∧ cap ≤ maxLen ∧ cur.size = cap * 1 ∧ cur.toList.take xs.length = xs.map (Value.int .i64) := by
  rcases h.2 with ⟨_, h0⟩ | ⟨g, cap, cur, rfl, hb, hh, r1, r2, r3, r4⟩
  · omega
  · exact ⟨g, cap, cur, rfl, hb, hh, r1, r2, r3, by have := r4; rw [Nat.mul_one] at this; exact this⟩
open Go.Shelf Go.Sort in
theorem sortRow {w : World} {B : Nat} {ok : Nat → Prop} {v : Value} {l : List Int} (ho0 : Kd.R (Kd.int .i64) 3 w B ok v l) (hp : 0 < l.length) (hc : l.length < 4611686018427387904) :
    Calls Try.prog 46 #[v] w fun e w' => e = .returned (.tuple #[]) ∧ Kd.R (Kd.int .i64) 3 w' B ok v (sortI l) ∧ w.grownBy w' v.ownBlock := by
  obtain ⟨g, cap, cur, rfl, hg, hh, r1, r2, r3, r4⟩ := rowBlock (xs := l) (Kd.own_of_R ho0) hp
  have hP : ok g := ho0.1 g rfl
  have hlen := sortI_len l
  refine (Try.slices_Sort_int g 0 cap l w (holds_of_block_i hh r4) (lt_of_block hh) hc).mono ?_
  rintro e w' ⟨rfl, n, os, rfl⟩
  rw [mergeSort_isort]
  have ho : World.ownsRow (grow (putRow encZ (Sort.ahead w n) g 0 (sortI l).toArray) os) B 3 1 (.slice (some ⟨g, 0, none⟩) l.length cap) l.length ((sortI l).map encZ) := ownsRow_sorted_i hlen hg hh r1 r2 r3
  have ho2 : World.ownsRow (grow (putRow encZ (Sort.ahead w n) g 0 (sortI l).toArray) os) B 3 1 (.slice (some ⟨g, 0, none⟩) l.length cap) (sortI l).length ((sortI l).map encZ) := by
    rw [hlen]
    exact ho
  have hok : ∀ k, (Value.slice (some ⟨g, 0, none⟩) l.length cap).ownBlock = some k → ok k := by
    intro k hk
    have e : g = k := by simpa [Value.ownBlock] using hk
    subst e
    exact hP
  exact ⟨rfl, Kd.R_of_own ho2 hok, grownBy_sorted_i _⟩
def startD (most : Int) (q : Q4) : List Int := [q.a, q.b, q.c, q.d].filter fun x => decide (x ≤ most)
def discs_Discs.f (k : Nat) (a0_0 : Int) (a0_1 : Int) (a0_2 : Int) (a0_3 : Int) (a1 : Int) : Option (List Int × Int) :=
  (quad_is.f ⟨a0_0, a0_1, a0_2, a0_3⟩).bind fun t => if t = true then (if a1 < 1 then some ([], 2) else if a1 > 3000 then some ([], 2) else (rootL k ⟨a0_0, a0_1, a0_2, a0_3⟩ 0).bind fun p => if p.1.a = 0 then some ([], 9) else (discsOn.on k a1 p.1 (-1) (startD a1 p.1)).bind fun r => if (r.length : Int) > 20000 then some ([], 8) else if r.length = 0 then none else some (sortI r, 0)) else some ([], 2)
theorem discs_Discs.mono : ∀ a0 a1 a2 a3 a4 k, LeO (discs_Discs.f k a0 a1 a2 a3 a4) (discs_Discs.f (k + 1) a0 a1 a2 a3 a4) := by
  intro a0 a1 a2 a3 a4 k
  exact LeO.bind (LeO.refl _) (fun _ => LeO.ite (LeO.ite (LeO.refl _) (LeO.ite (LeO.refl _) (LeO.bind (rootL_mono _ _ _) (fun _ => LeO.ite (LeO.refl _) (LeO.bind ((discsOn.mono_l k).1 _ _ _ _) (fun _ => LeO.refl _)))))) (LeO.refl _))
theorem meas4 {i : Nat} (h : i < 4) (hw : wrap64 ((i : Int) + 1) = ((i + 1 : Nat) : Int)) : 4 - (intOf (.int .i64 (wrap64 ((i : Int) + 1)))).toNat < 4 - (intOf (.int .i64 (i : Int))).toNat := by
  rw [hw]
  simp only [intOf, Int.toNat_natCast]
  omega

end Go.Proofs.Ytlfmafebmnggeaa.Print
