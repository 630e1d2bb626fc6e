/- Discs, walked by hand. -/
import Derived.Test.YtlfmafebmnggeaaProg
import Derived.Laws.EntriesVeiled
import Derived.Outline
import Derived.Below
import Derived.Deep.Draws
import Derived.Deep.AppendLies
import Derived.Maps.AppendAt
import Derived.OwnWalk
import Derived.Laws.BytesArg
import Derived.Laws.MakeOwn
import Derived.Laws.OwnMore
import Derived.Deep.OwnRows
import Derived.Tactics
import Derived.Lib.ConvBytes
import Derived.Laws.Slices
import Derived.WalkKit
import Derived.KernelRfl
import Derived.RowKit3
import Derived.Deep.LoopGhost
import Derived.Deep.QuietTactic
import Derived.BigQuiet
import Derived.WideLaws
import Derived.Deep.DeepCutAuto
import Derived.Deep.CutBlock
import Derived.Deep.RegionHeld3
import Derived.Laws.Rows
import Derived.Lib.AppendStr
import Derived.ArgAppend
import Derived.Laws.IdiomCopy
import Derived.OrdersHeld
import Derived.Laws.BitsLemmas
import Derived.RowKit
import Derived.Test.YtlfmafebmnggeaaWMore
import Derived.Test.YtlfmafebmnggeaaHandOn
namespace Go.Proofs.Ytlfmafebmnggeaa.Print
open Go.RowKit Go.Proofs.YtlfmafebmnggeaaW.PrintWords Go.Proofs.YtlfmafebmnggeaaW.PrintLast Go.Proofs.YtlfmafebmnggeaaW.PrintMore
attribute [local go_sem] max2_int min2_int max_two min_two max_three min_three max_four min_four
set_option linter.unusedVariables false
set_option linter.unusedSimpArgs false
set_option maxHeartbeats 4000000 in
set_option maxRecDepth 100000 in
theorem Discs_main (k : Nat) (q : Q4) (a1 : Int) (rt : Q4) (n : Int) (r : List Int) (r1 : List Int) (r2 : Int) (w : World) (ht : quad_is.f q = some true) (c1 : ¬ a1 < 1) (c2 : ¬ a1 > 3000) (hp : rootL k q 0 = some (rt, n)) (c3 : ¬ rt.a = 0) (hon : discsOn.on k a1 rt (-1) (startD a1 rt) = some r) (h : (if (r.length : Int) > 20000 then some ([], 8) else if r.length = 0 then none else some (sortI r, 0)) = some (r1, r2)) :
    Calls Try.prog 22 #[.agg #[.int .i64 q.a, .int .i64 q.b, .int .i64 q.c, .int .i64 q.d], .int .i64 a1] w fun e w' => ∃ v0_ : Value, e = .returned (.tuple #[v0_, .int .i64 r2]) ∧ Kd.R (Kd.int .i64) 3 w' w.heap.size (fun _ => True) v0_ r1 ∧ Below w.heap.size w w' := by
  have hB := (Bk.new w 23 q).alloc (.cells #[.int .i64 a1] 3)
  obtain ⟨e0, e1, e2, e3⟩ := hB.cell
  have HQ := Aside0.mk hB
  have HM := Aside0.mk (show ((w.alloc (.cells #[.int .i64 q.a, .int .i64 q.b, .int .i64 q.c, .int .i64 q.d] 23)).alloc (.cells #[.int .i64 a1] 3)).heap[w.heap.size + 1]? = some (.cells #[.int .i64 a1] 3 (0, 0)) from by
    have h := heap_alloc_new (w.alloc (.cells #[.int .i64 q.a, .int .i64 q.b, .int .i64 q.c, .int .i64 q.d] 23)) (.cells #[.int .i64 a1] 3)
    rwa [World.size_alloc] at h)
  have HB := Aside0.mk (below_alloc (below_alloc (Below.refl w.heap.size w) (.cells #[.int .i64 q.a, .int .i64 q.b, .int .i64 q.c, .int .i64 q.d] 23)) (.cells #[.int .i64 a1] 3))
  clear hB
  have HI := Aside0.mk (fun w' => isq_calls q true w' ht)
  unfold agg4 at HI
  have b1 : decide (a1 < 1) = false := decide_eq_false c1
  have b2 : decide (a1 > 3000) = false := decide_eq_false c2
  have b2' : decide (3000 < a1) = false := decide_eq_false c2
  have HR := Aside0.mk (fun w' => root_calls k q rt n w' hp)
  unfold agg4 at HR
  have b3 : (rt.a == 0) = false := beq_eq_false_iff_ne.mpr c3
  clear ht c1 c2 c3 hp
  have HON := Aside0.mk hon
  have H := Aside0.mk h
  clear hon h
  go_enter Try.func22, Try.ntmps22
  go_wp2_with (first | (go_at_call 29; refine (HI.out _).mono ?_; rintro e w1 ⟨rfl, hb⟩; have HB1 := Aside0.mk (HB.out.trans (hb.mono HB.out.size)); have HQ1 := Aside0.mk (HQ.out.below hb); have hM1 := (hb.block _ (lt_of_block HM.out)).trans HM.out; have cM := cell_of_one hM1; have HM1 := Aside0.mk hM1; clear hM1 hb; obtain ⟨f0, f1, f2, f3⟩ := HQ1.out.cell) | (go_at_call 42; refine (HR.out _).mono ?_; rintro e w2 ⟨rfl, hb⟩; have HB2 := Aside0.mk (HB1.out.trans (hb.mono HB1.out.size)); have HM2 := Aside0.mk ((hb.block _ (lt_of_block HM1.out)).trans HM1.out); clear hb; obtain ⟨g0, g1, g2, g3⟩ := (Bk.new w2 58 rt).cell; have HL4 := Aside0.mk (laid4 (B := w.heap.size) rt (Nat.le_succ _) HM2.out)))
  obtain ⟨hq4, hd4, hb4, hs4⟩ := HL4.out
  have HQ4 := Aside0.mk hq4
  have HD4 := Aside0.mk hd4
  have HB4 := Aside0.mk (HB2.out.trans (hb4.mono HB2.out.size))
  have HNE := Aside0.mk (show w2.heap.size ≠ w2.heap.size + 1 by omega)
  have HLT := Aside0.mk (show w2.heap.size + 1 < (w4D w2 rt).heap.size by omega)
  have HLM := Aside0.mk (lt_of_block HM2.out)
  clear hq4 hd4 hb4 hs4 HL4 HQ1 HB1 HM1 cM f0 f1 f2 f3 g0 g1 g2 g3 e0 e1 e2 e3 HI HR HQ HM HB HM2
  go_loopw [32] (fun v32 wx => ∃ (i : Nat) (o1 : List Int) (vo1 : Value), Aside0 (i ≤ 4) ∧ v32 = .int .i64 i ∧ Aside0 (o1 = startUp a1 rt i) ∧ Aside0 (D0 w.heap.size (w.heap.size + 1) (w2.heap.size + 1) (fun k => (k ≠ w.heap.size + 1 ∧ k ≠ w2.heap.size + 1) ∧ k ≠ w2.heap.size) wx a1 vo1 o1) ∧ Aside0 (Bk wx w2.heap.size 58 rt) ∧ Aside0 (Below w.heap.size w wx) ∧ Aside0 (w2.heap.size + 1 < wx.heap.size)) (fun v32 _ => 4 - (intOf v32).toNat)
  case atStart => exact ⟨0, [], _, ⟨by omega⟩, rfl, ⟨rfl⟩, HD4, HQ4, HB4, HLT⟩
  case round => as_aux_lemma =>
    clear HD4 HQ4 HB4 HLT
    obtain ⟨i, o1, vo1, hi, rfl, ho1, HD, HQ, HB, HLT⟩ := hrel
    have cM := cell_of_one HD.out.m
    have cO := cell_of_one HD.out.o
    by_cases c5 : i < 4
    · have b5 : decide ((i : Int) < 4) = true := decide_eq_true (by omega)
      have hix := fun W => idx_at rt i c5 W
      have hw : wrap64 ((i : Int) + 1) = ((i + 1 : Nat) : Int) := by unfold wrap64; omega
      have HC5 := Aside0.mk c5
      obtain ⟨x, hx⟩ : ∃ x, x = rt.at i := ⟨_, rfl⟩
      by_cases c6 : x ≤ a1
      · have hup := Aside0.mk (startUp_yes (most := a1) (q := rt) c5 (hx ▸ c6))
        rw [← hx] at hix hup
        have b6 : decide (x ≤ a1) = true := decide_eq_true c6
        clear c5 c6 hx
        obtain ⟨A, c, rfl⟩ := Kd.R_slice HD.out.r
        have HS := Aside0.mk (show w.heap.size ≤ wr.heap.size from HB.out.size)
        have HF := Aside0.mk (show ∀ k, wr.heap.size ≤ k → (k ≠ w.heap.size + 1 ∧ k ≠ w2.heap.size + 1) ∧ k ≠ w2.heap.size from fun k hk => by have := HLT.out; have := HLM.out; omega)
        have HL := Aside0.mk (show o1.length ≤ 4 by rw [ho1.out]; exact startUp_len _ _ _)
        go_wp2_with (first | ((with_reducible refine gate_builtin (b := .append) (xs := #[.tmp 38, .tmp 40]) rfl ?_); at_builtin; refine Kd.R_append (Kd.int .i64) (w0 := wr) w.heap.size rfl (.tmp 38) (.tmp 40) 35 3 (.int .i64 0) 8 rfl Try.underlying35 aInfo3 rfl (by decide) (by decide) (.slice A o1.length c) o1 x [.int .i64 x] (fun k => (k ≠ w.heap.size + 1 ∧ k ≠ w2.heap.size + 1) ∧ k ≠ w2.heap.size) (fun _ => False) rfl rfl rfl (fun _ hk => hk.elim) HF.out HD.out.r (Below.refl _ _) HS.out (by have := HL.out; omega) ?_; intro v1 w6 hr hb hg hat; obtain ⟨A2, c2, rfl⟩ := Kd.R_slice hr; have o6 := (hg.block _ (lt_of_block HD.out.o) (fun e => (HD.out.okm _ (HD.out.r.1 _ e.symm)).2 rfl)).trans HD.out.o; have HD6 := Aside0.mk (HD.out.push hg hr); have HQ6 := Aside0.mk (D0.keepq HD.out HQ.out HNE.out hg (.slice A2 (o1 ++ [x]).length c2)); have HB6 := Aside0.mk ((HB.out.trans hb).setCell (p := ⟨w2.heap.size + 1, 0, none⟩) HD.out.bo (.slice A2 (o1 ++ [x]).length c2)); have HLT6 := Aside0.mk (show w2.heap.size + 1 < (w6.setCell ⟨w2.heap.size + 1, 0, none⟩ (.slice A2 (o1 ++ [x]).length c2)).heap.size from by have := HLT.out; have := hg.size; simp [World.setCell]; omega); rw [show (o1 ++ [x]).length = o1.length + 1 by simp] at HD6 HQ6 HB6 HLT6; have cO6 := cell_of_one o6; have fO6 := free_of_one o6; clear hr hb hg hat o6))
        go_roundw
        case rel => exact ⟨i + 1, o1 ++ [x], _, ⟨by have := HC5.out; omega⟩, by first | rfl | rw [hw], ⟨by rw [hup.out, ← ho1.out]⟩, HD6, HQ6, HB6, HLT6⟩
        case measure => exact meas4 HC5.out hw
      · have hup := Aside0.mk (startUp_no (most := a1) (q := rt) c5 (hx ▸ c6))
        rw [← hx] at hix
        have b6 : decide (x ≤ a1) = false := decide_eq_false c6
        clear c5 c6 hx
        go_wp2
        go_roundw
        case rel => exact ⟨i + 1, o1, _, ⟨by have := HC5.out; omega⟩, by first | rfl | rw [hw], ⟨by rw [hup.out, ← ho1.out]⟩, HD, HQ, HB, HLT⟩
        case measure => exact meas4 HC5.out hw
    · have b5 : decide ((i : Int) < 4) = false := decide_eq_false (by omega)
      obtain rfl : i = 4 := by have := hi.out; omega
      have hst : o1 = startD a1 rt := ho1.out
      subst hst
      clear hi ho1 c5
      clear cO b5
      have HD5 := Aside0.mk HD.out.fn
      have HB5 := Aside0.mk (HB.out.alloc HB.out.size (.cells #[fnOn (w.heap.size + 1) (w2.heap.size + 1) wr.heap.size] 68))
      have HQ5 := Aside0.mk (HQ.out.alloc (.cells #[fnOn (w.heap.size + 1) (w2.heap.size + 1) wr.heap.size] 68))
      have HF5 := Aside0.mk (show ∀ k, (wr.alloc (.cells #[fnOn (w.heap.size + 1) (w2.heap.size + 1) wr.heap.size] 68)).heap.size ≤ k → ((k ≠ w.heap.size + 1 ∧ k ≠ w2.heap.size + 1) ∧ k ≠ w2.heap.size) ∧ k ≠ wr.heap.size from fun k hk => by rw [World.size_alloc] at hk; have := HLT.out; have := HLM.out; omega)
      obtain ⟨e0, e1, e2, e3⟩ := HQ5.out.cell
      have cN := cell_of_one HD5.out.n
      have HON5 := Aside0.mk (on_calls w.heap.size (w.heap.size + 1) (w2.heap.size + 1) wr.heap.size a1 k _ rt (-1) (startD a1 rt) r _ vo1 HD5.out HF5.out HON.out)
      clear HB HD HQ HON HF5 HQ5 cM
      unfold agg4 at HON5
      by_cases c7 : (r.length : Int) > 20000
      · have hh := H.out
        rw [if_pos c7] at hh
        have b7 : decide ((r.length : Int) > 20000) = true := decide_eq_true c7
        have b7' : decide (20000 < r.length) = true := decide_eq_true (by omega)
        clear H c7
        injection hh with hh
        injection hh with h1 h2
        subst h1 h2
        go_wp2_with (first | (go_at_call 50; refine HON5.out.mono ?_; rintro e w7 ⟨rfl, vo7, hd7, hb7, hk7⟩; obtain ⟨A, c, rfl⟩ := Kd.R_slice hd7.r; have cO7 := cell_of_one hd7.o; have HB7 := Aside0.mk (HB5.out.trans hb7); clear hd7 hb7 hk7))
        go_ret2
        exact ⟨_, rfl, Kd.R_nil _ _ _ _ _, HB7.out⟩
      · have hh := H.out
        rw [if_neg c7] at hh
        have b7 : decide ((r.length : Int) > 20000) = false := decide_eq_false c7
        have b7' : decide (20000 < r.length) = false := decide_eq_false (by omega)
        have HC7 := Aside0.mk (show r.length < 4611686018427387904 by omega)
        clear H c7
        by_cases c8 : r.length = 0
        · rw [if_pos c8] at hh
          cases hh
        rw [if_neg c8] at hh
        have HC8 := Aside0.mk (Nat.pos_of_ne_zero c8)
        injection hh with hh
        injection hh with h1 h2
        subst h1 h2
        clear c8
        have hl : (sortI r).length = r.length := sortI_len r
        have HLEN := Aside0.mk hl
        clear hl
        go_wp2_with (first | (go_at_call 50; refine HON5.out.mono ?_; rintro e w7 ⟨rfl, vo7, hd7, hb7, hk7⟩; obtain ⟨A, c, rfl⟩ := Kd.R_slice hd7.r; have cO7 := cell_of_one hd7.o; have HB7 := Aside0.mk (HB5.out.trans hb7); have HD7 := Aside0.mk hd7; clear hd7 hb7 hk7) | (go_at_call 46; refine (sortRow HD7.out.r HC8.out HC7.out).mono ?_; rintro e w8 ⟨rfl, hr8, hg8⟩; have HR8 := Aside0.mk hr8; have o8 := (hg8.block _ (lt_of_block HD7.out.o) (fun e => (HD7.out.okm _ (HD7.out.r.1 _ e.symm)).2.1 rfl)).trans HD7.out.o; have cO8 := cell_of_one o8; have HB8 := Aside0.mk (HB7.out.grown hg8 HB7.out.size (fun k e => Kd.R_base HD7.out.r k e)); clear hr8 hg8 o8))
        go_ret2
        exact ⟨_, rfl, Kd.R_mono HR8.out (fun _ _ => trivial), HB8.out⟩
set_option maxHeartbeats 4000000 in
set_option maxRecDepth 100000 in
theorem discs_Discs.calls (k : Nat) (a0_0 : Int) (a0_1 : Int) (a0_2 : Int) (a0_3 : Int) (a1 : Int) (r1 : List Int) (r2 : Int) (w : World) (h : discs_Discs.f k a0_0 a0_1 a0_2 a0_3 a1 = some (r1, r2)) :
    Calls Try.prog 22 #[.agg #[.int .i64 a0_0, .int .i64 a0_1, .int .i64 a0_2, .int .i64 a0_3], .int .i64 a1] w fun e w' => ∃ v0_ : Value, e = .returned (.tuple #[v0_, .int .i64 r2]) ∧ Kd.R (Kd.int .i64) 3 w' w.heap.size (fun _ => True) v0_ r1 ∧ Below w.heap.size w w' := by
  obtain ⟨q, hq⟩ : ∃ q : Q4, q = ⟨a0_0, a0_1, a0_2, a0_3⟩ := ⟨_, rfl⟩
  have hqa : a0_0 = q.a := by rw [hq]
  have hqb : a0_1 = q.b := by rw [hq]
  have hqc : a0_2 = q.c := by rw [hq]
  have hqd : a0_3 = q.d := by rw [hq]
  unfold discs_Discs.f at h
  rw [← hq] at h
  clear hq
  subst hqa hqb hqc hqd
  have hB := (Bk.new w 23 q).alloc (.cells #[.int .i64 a1] 3)
  obtain ⟨e0, e1, e2, e3⟩ := hB.cell
  have HQ := Aside0.mk hB
  have HM := Aside0.mk (show ((w.alloc (.cells #[.int .i64 q.a, .int .i64 q.b, .int .i64 q.c, .int .i64 q.d] 23)).alloc (.cells #[.int .i64 a1] 3)).heap[w.heap.size + 1]? = some (.cells #[.int .i64 a1] 3 (0, 0)) from by
    have h := heap_alloc_new (w.alloc (.cells #[.int .i64 q.a, .int .i64 q.b, .int .i64 q.c, .int .i64 q.d] 23)) (.cells #[.int .i64 a1] 3)
    rwa [World.size_alloc] at h)
  have HB := Aside0.mk (below_alloc (below_alloc (Below.refl w.heap.size w) (.cells #[.int .i64 q.a, .int .i64 q.b, .int .i64 q.c, .int .i64 q.d] 23)) (.cells #[.int .i64 a1] 3))
  clear hB
  replace h := Option.bind_eq_some_iff.mp h
  obtain ⟨t, ht, h⟩ := h
  have HI := Aside0.mk (fun w' => isq_calls q t w' ht)
  have HT0 := Aside0.mk ht
  clear ht
  unfold agg4 at HI
  cases t with
  | false =>
    rw [if_neg (by decide)] at h
    injection h with h
    injection h with h1 h2
    subst h1 h2
    go_enter Try.func22, Try.ntmps22
    go_wp2_with (first | (go_at_call 29; refine (HI.out _).mono ?_; rintro e w1 ⟨rfl, hb⟩; have HB1 := Aside0.mk (HB.out.trans (hb.mono HB.out.size)); clear hb))
    go_ret2
    exact ⟨_, rfl, Kd.R_nil _ _ _ _ _, HB1.out⟩
  | true =>
    rw [if_pos rfl] at h
    by_cases c1 : a1 < 1
    · rw [if_pos c1] at h
      have b1 : decide (a1 < 1) = true := decide_eq_true c1
      clear c1
      injection h with h
      injection h with h1 h2
      subst h1 h2
      go_enter Try.func22, Try.ntmps22
      go_wp2_with (first | (go_at_call 29; refine (HI.out _).mono ?_; rintro e w1 ⟨rfl, hb⟩; have HB1 := Aside0.mk (HB.out.trans (hb.mono HB.out.size)); have cM := cell_of_one ((hb.block _ (lt_of_block HM.out)).trans HM.out); clear hb))
      go_ret2
      exact ⟨_, rfl, Kd.R_nil _ _ _ _ _, HB1.out⟩
    rw [if_neg c1] at h
    have b1 : decide (a1 < 1) = false := decide_eq_false c1
    by_cases c2 : a1 > 3000
    · rw [if_pos c2] at h
      have b2 : decide (a1 > 3000) = true := decide_eq_true c2
      have b2' : decide (3000 < a1) = true := decide_eq_true c2
      clear c2
      injection h with h
      injection h with h1 h2
      subst h1 h2
      go_enter Try.func22, Try.ntmps22
      go_wp2_with (first | (go_at_call 29; refine (HI.out _).mono ?_; rintro e w1 ⟨rfl, hb⟩; have HB1 := Aside0.mk (HB.out.trans (hb.mono HB.out.size)); have cM := cell_of_one ((hb.block _ (lt_of_block HM.out)).trans HM.out); clear hb))
      go_ret2
      exact ⟨_, rfl, Kd.R_nil _ _ _ _ _, HB1.out⟩
    rw [if_neg c2] at h
    have b2 : decide (a1 > 3000) = false := decide_eq_false c2
    have b2' : decide (3000 < a1) = false := decide_eq_false c2
    replace h := Option.bind_eq_some_iff.mp h
    obtain ⟨⟨rt, n⟩, hp, h⟩ := h
    have HR := Aside0.mk (fun w' => root_calls k q rt n w' hp)
    have HP0 := Aside0.mk hp
    clear hp
    unfold agg4 at HR
    simp only at h
    have C12 := Aside0.mk (And.intro c1 c2)
    clear c1 c2
    by_cases c3 : rt.a = 0
    · rw [if_pos c3] at h
      have b3 : (rt.a == 0) = true := by rw [c3]; rfl
      injection h with h
      injection h with h1 h2
      subst h1 h2
      clear c3
      go_enter Try.func22, Try.ntmps22
      go_wp2_with (first | (go_at_call 29; refine (HI.out _).mono ?_; rintro e w1 ⟨rfl, hb⟩; have HB1 := Aside0.mk (HB.out.trans (hb.mono HB.out.size)); have HQ1 := Aside0.mk (HQ.out.below hb); have cM := cell_of_one ((hb.block _ (lt_of_block HM.out)).trans HM.out); clear hb; obtain ⟨f0, f1, f2, f3⟩ := HQ1.out.cell) | (go_at_call 42; refine (HR.out _).mono ?_; rintro e w2 ⟨rfl, hb⟩; have HB2 := Aside0.mk (HB1.out.trans (hb.mono HB1.out.size)); clear hb; obtain ⟨g0, g1, g2, g3⟩ := (Bk.new w2 58 rt).cell))
      go_ret2
      exact ⟨_, rfl, Kd.R_nil _ _ _ _ _, below_alloc HB2.out _⟩
    rw [if_neg c3] at h
    replace h := Option.bind_eq_some_iff.mp h
    obtain ⟨r, hon, h⟩ := h
    exact Discs_main k q a1 rt n r r1 r2 w HT0.out C12.out.1 C12.out.2 HP0.out c3 hon h

end Go.Proofs.Ytlfmafebmnggeaa.Print
