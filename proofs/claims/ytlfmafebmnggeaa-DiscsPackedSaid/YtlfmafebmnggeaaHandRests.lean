/- Rests, walked by hand. -/
import Derived.Test.YtlfmafebmnggeaaProg
import Derived.Laws.EntriesVeiled
import Derived.Outline
import Derived.Below
import Derived.Deep.Draws
import Derived.Deep.AppendLies
import Derived.Maps.AppendAt
import Derived.OwnWalk
import Derived.Laws.BytesArg
import Derived.Laws.MakeOwn
import Derived.Laws.OwnMore
import Derived.Deep.OwnRows
import Derived.Tactics
import Derived.Lib.ConvBytes
import Derived.Laws.Slices
import Derived.WalkKit
import Derived.KernelRfl
import Derived.RowKit3
import Derived.Deep.LoopGhost
import Derived.Deep.QuietTactic
import Derived.BigQuiet
import Derived.WideLaws
import Derived.Deep.DeepCutAuto
import Derived.Deep.CutBlock
import Derived.Deep.RegionHeld3
import Derived.Laws.Rows
import Derived.Lib.AppendStr
import Derived.ArgAppend
import Derived.Laws.IdiomCopy
import Derived.OrdersHeld
import Derived.Laws.BitsLemmas
import Derived.RowKit
import Derived.Test.YtlfmafebmnggeaaWMore
import Derived.Test.YtlfmafebmnggeaaHandMapQ
import Derived.Carry
namespace Go.Proofs.Ytlfmafebmnggeaa.Print
open Go.RowKit Go.Proofs.YtlfmafebmnggeaaW.PrintWords Go.Proofs.YtlfmafebmnggeaaW.PrintLast Go.Proofs.YtlfmafebmnggeaaW.PrintMore
attribute [local go_sem] max2_int min2_int max_two min_two max_three min_three max_four min_four
set_option linter.unusedVariables false
set_option linter.unusedSimpArgs false
/-! ### Rests: function 25 -/
attribute [local go_sem] idx0 idx1 idx2 idx3
theorem info58 : (Try.prog.info? 58).map (fun i => (i.zero, i.size, i.bytes)) = some (some (.agg #[(.int .i64 0), (.int .i64 0), (.int .i64 0), (.int .i64 0)]), 4, 32) := by kernel_rfl
def k58 : Kd Q4 := Kd.iso (Kd.pair (Kd.int .i64) (Kd.pair (Kd.int .i64) (Kd.pair (Kd.int .i64) (Kd.int .i64)))) (fun x : Q4 => (x.a, x.b, x.c, x.d))
theorem k58_open {w : World} {x : Q4} {cs : List Value} (h : k58.K w x cs) : cs = [.int .i64 x.a, .int .i64 x.b, .int .i64 x.c, .int .i64 x.d] := by
  obtain ⟨_, _, rfl, rfl, ⟨_, _, rfl, rfl, ⟨_, _, rfl, rfl, rfl⟩⟩⟩ := h
  exact rfl
theorem k58_mkM (w : World) (base : Nat) (ok : Nat → Prop) (x : Q4)  : k58.M w base ok x [.int .i64 x.a, .int .i64 x.b, .int .i64 x.c, .int .i64 x.d] := ⟨[.int .i64 x.a], [.int .i64 x.b, .int .i64 x.c, .int .i64 x.d], rfl, rfl, ⟨[.int .i64 x.b], [.int .i64 x.c, .int .i64 x.d], rfl, rfl, ⟨[.int .i64 x.c], [.int .i64 x.d], rfl, rfl, rfl⟩⟩⟩
def z58 : Q4 := ⟨0, 0, 0, 0⟩
theorem at_T58 {w : World} {A : Option Addr} {n : Nat} {xs : List Q4} (h : Kd.C k58 w A n xs) (i : Int) (h0 : 0 ≤ i) (h1 : i < n) : ∃ ad , A = some ad ∧ w.cell? (ad.add (i.toNat * 4)) = some (.int .i64 (xs.getD i.toNat z58).a) ∧ w.cell? ⟨(ad.add (i.toNat * 4)).block, (ad.add (i.toNat * 4)).off + 1, none⟩ = some (.int .i64 (xs.getD i.toNat z58).b) ∧ w.cell? ⟨(ad.add (i.toNat * 4)).block, (ad.add (i.toNat * 4)).off + 2, none⟩ = some (.int .i64 (xs.getD i.toNat z58).c) ∧ w.cell? ⟨(ad.add (i.toNat * 4)).block, (ad.add (i.toNat * 4)).off + 3, none⟩ = some (.int .i64 (xs.getD i.toNat z58).d) := by
  obtain ⟨ad, c, e, _, hK, hc0⟩ := Kd.C_get h z58 i h0 h1
  have hc : ∀ j u, c[j]? = some u → w.cell? (ad.add (i.toNat * 4 + j)) = some u := hc0
  obtain rfl := k58_open hK
  exact ⟨ad, e, hc 0 _ rfl, by rw [← add_field _ _ 1 (by omega)]; exact hc 1 _ rfl, by rw [← add_field _ _ 2 (by omega)]; exact hc 2 _ rfl, by rw [← add_field _ _ 3 (by omega)]; exact hc 3 _ rfl⟩
def restI (x : Int) : Int := Int.tmod (wrap64 ((Int.tmod x 24) + 24)) 24
theorem restI_f (x : Int) : discs_rest.f x = some (restI x) := rfl
def restQ (q : Q4) : Q4 := ⟨restI q.a, restI q.b, restI q.c, restI q.d⟩
def nextR (now : Q4) (i : Nat) : Q4 := now.put i (restI (turnedF now i))
/-- What one bend of now does: the list that is to do, the set, the numbers that were seen. -/
def stepR (now : Q4) (i : Nat) (s : List Q4 × List Q4 × List Bool) : Option (List Q4 × List Q4 × List Bool) :=
  if 0 ≤ now.at i then (if now.at i < 24 then (if eqQ (nextR now i) now = true then some (s.1, s.2.1, s.2.2.set (now.at i).toNat true) else if inQ (nextR now i) s.2.1 = true then some (s.1, s.2.1, s.2.2.set (now.at i).toNat true) else if s.1.length < 1000000 then some (s.1 ++ [nextR now i], s.2.1 ++ [nextR now i], s.2.2.set (now.at i).toNat true) else none) else none) else none
def iterR (now : Q4) (s : List Q4 × List Q4 × List Bool) : Nat → Option (List Q4 × List Q4 × List Bool)
  | 0 => some s
  | n + 1 => (iterR now s n).bind (stepR now n)
theorem iterR_pre {now : Q4} {s : List Q4 × List Q4 × List Bool} : ∀ {n m : Nat} {r : List Q4 × List Q4 × List Bool}, iterR now s m = some r → n ≤ m → ∃ r', iterR now s n = some r'
  | n, 0, r, h, hn => by
    obtain rfl : n = 0 := by omega
    exact ⟨r, h⟩
  | n, m + 1, r, h, hn => by
    by_cases he : n = m + 1
    · subst he
      exact ⟨r, h⟩
    · obtain ⟨r1, h1, _⟩ := Option.bind_eq_some_iff.mp h
      exact iterR_pre h1 (by omega)
def loopR : Nat → List Q4 → List Q4 → List Bool → Option (List Bool)
  | 0, _, _, _ => none
  | k + 1, todo, met, seen => if todo.length = 0 then some seen else (iterR (todo.getD (todo.length - 1) z58) (todo.take (todo.length - 1), met, seen) 4).bind fun s => loopR k s.1 s.2.1 s.2.2
theorem loopR_mono : ∀ (k : Nat) (todo met : List Q4) (seen : List Bool), LeO (loopR k todo met seen) (loopR (k + 1) todo met seen)
  | 0, _, _, _ => fun r h => by simp [loopR] at h
  | k + 1, todo, met, seen => by
    rw [loopR, loopR]
    exact LeO.ite (LeO.refl _) (LeO.bind (LeO.refl _) (fun _ => loopR_mono k _ _ _))
def outR (bs : List Bool) : Nat → List Int
  | 0 => []
  | n + 1 => if bs.getD n false = true then outR bs n ++ [(n : Int)] else outR bs n
theorem outR_len (bs : List Bool) : ∀ n, (outR bs n).length ≤ n
  | 0 => Nat.le_refl _
  | n + 1 => by
    have := outR_len bs n
    rw [outR]
    split
    · simp; omega
    · omega
/-- The state of Rests: the set, the numbers that were seen, the list that is to do. -/
structure RS (B bm bs : Nat) (P : Nat → Prop) (w : World) (v : Value) (todo met : List Q4) (seen : List Bool) : Prop where
  mB : B ≤ bm
  sB : B ≤ bs
  ne : bm ≠ bs
  m : SetQ w bm met
  s : SeenB w bs seen
  r : Kd.R k58 58 w B (fun k => P k ∧ k ≠ bm ∧ k ≠ bs) v todo
section
variable {B bm bs : Nat} {P : Nat → Prop} {w w1 W : World} {v : Value} {todo met : List Q4} {seen : List Bool}
theorem RS.below (h : RS B bm bs P w v todo met seen) (hb : Below w.heap.size w w1) : RS B bm bs P w1 v todo met seen := ⟨h.mB, h.sB, h.ne, h.m.below hb, h.s.below hb, Kd.R_below h.r hb⟩
theorem RS.mono {P' : Nat → Prop} (h : RS B bm bs P w v todo met seen) (hp : ∀ k, P k → P' k) : RS B bm bs P' w v todo met seen := ⟨h.mB, h.sB, h.ne, h.m, h.s, Kd.R_mono h.r (fun k hk => ⟨hp k hk.1, hk.2⟩)⟩
/-- A new block: the list lies elsewhere. -/
theorem RS.apart (h : RS B bm bs P w v todo met seen) (hb : Below w.heap.size w w1) : RS B bm bs (fun k => P k ∧ k ≠ w.heap.size) w1 v todo met seen :=
  ⟨h.mB, h.sB, h.ne, h.m.below hb, h.s.below hb, Kd.R_mono (Kd.R_below (Kd.R_bound h.r) hb) (fun k hk => ⟨⟨hk.1.1, Nat.ne_of_lt hk.2.2.1⟩, hk.1.2⟩)⟩
theorem RS.far (h : RS B bm bs P w v todo met seen) {a : Addr} (h1 : ∀ k, P k → k ≠ a.block) (h2 : bm ≠ a.block) (h3 : bs ≠ a.block) (u : Value) : RS B bm bs P (w.setCell a u) v todo met seen :=
  ⟨h.mB, h.sB, h.ne, h.m.same (Below.heap_setCell w a u bm h2), h.s.far h3 u, Kd.R_far h.r (fun k hk => h1 k hk.1) u⟩
theorem RS.mark (h : RS B bm bs P w v todo met seen) {i : Int} (h0 : 0 ≤ i) (h4 : i < 24) : RS B bm bs P (w.setCell ⟨bs, i.toNat, none⟩ (.bool true)) v todo met (seen.set i.toNat true) :=
  ⟨h.mB, h.sB, h.ne, h.m.same (Below.heap_setCell w ⟨bs, i.toNat, none⟩ _ bm h.ne), h.s.set h0 h4 true, Kd.R_far h.r (fun k hk => hk.2.2) _⟩
theorem RS.ins {met' : List Q4} (h : RS B bm bs P w v todo met seen) (hu : Upd w w1 bm) (hm : SetQ w1 bm met') : RS B bm bs P w1 v todo met' seen :=
  ⟨h.mB, h.sB, h.ne, hm, h.s.same (hu.block bs h.s.lt h.ne.symm), Kd.R_step h.r (fun k hk hl => hu.block k hl hk.2.1)⟩
theorem RS.push {v' : Value} {todo' : List Q4} (h : RS B bm bs P W v todo met seen) (hg : W.grownBy w1 v.ownBlock) (hr : Kd.R k58 58 w1 B (fun k => P k ∧ k ≠ bm ∧ k ≠ bs) v' todo') : RS B bm bs P w1 v' todo' met seen :=
  ⟨h.mB, h.sB, h.ne, h.m.same (hg.block bm h.m.lt (fun e => (h.r.1 _ e.symm).2.1 rfl)), h.s.same (hg.block bs h.s.lt (fun e => (h.r.1 _ e.symm).2.2 rfl)), hr⟩
theorem RS.pop {A : Option Addr} {n c m : Nat} (h : RS B bm bs P w (.slice A n c) todo met seen) (hm : m ≤ todo.length) : RS B bm bs P w (.slice A m c) (todo.take m) met seen :=
  ⟨h.mB, h.sB, h.ne, h.m, h.s, Kd.R_take h.r hm⟩
theorem RS.bk {g : Nat} (h : RS B bm bs (fun k => P k ∧ k ≠ g) W v todo met seen) {q : Q4} {e : TypeId} (hq : Bk W g e q) (hg : W.grownBy w1 v.ownBlock) : Bk w1 g e q :=
  (hg.block g (lt_of_block hq) (fun e => (h.r.1 _ e.symm).1.2 rfl)).trans hq
end
def discs_Rests.f (k : Nat) (a0_0 : Int) (a0_1 : Int) (a0_2 : Int) (a0_3 : Int) : Option (List Int × Int) :=
  (quad_is.f ⟨a0_0, a0_1, a0_2, a0_3⟩).bind fun t => if t = true then ((rootL k ⟨a0_0, a0_1, a0_2, a0_3⟩ 0).bind fun p => (loopR k [restQ p.1] [restQ p.1] (List.replicate 24 false)).bind fun s => some (outR s 24, 0)) else some ([], 2)
theorem discs_Rests.mono : ∀ a0 a1 a2 a3 k, LeO (discs_Rests.f k a0 a1 a2 a3) (discs_Rests.f (k + 1) a0 a1 a2 a3) := by
  intro a0 a1 a2 a3 k
  exact LeO.bind (LeO.refl _) (fun _ => LeO.ite (LeO.bind (rootL_mono _ _ _) (fun _ => LeO.bind (loopR_mono _ _ _ _) (fun _ => LeO.refl _))) (LeO.refl _))
theorem reps_q (w : World) (base : Nat) (ok : Nat → Prop) (q : Q4) : Reps (k58.M w base ok) 4 [q] [.int .i64 q.a, .int .i64 q.b, .int .i64 q.c, .int .i64 q.d] := by
  refine ⟨rfl, fun j p hp => ?_⟩
  match j, hp with
  | 0, hp =>
    obtain rfl : q = p := by simpa using hp
    exact k58_mkM w base ok q
  | j + 1, hp => simp at hp
theorem rest4 {w : World} {g : Nat} {q : Q4} (h : Bk w g 58 q) (n1 n2 n3 n4 : Nat) : Bk ((((((((w.drewN n1).setCell ⟨g, 0, none⟩ (.int .i64 (restI q.a))).drewN n2).setCell ⟨g, 1, none⟩ (.int .i64 (restI q.b))).drewN n3).setCell ⟨g, 2, none⟩ (.int .i64 (restI q.c))).drewN n4).setCell ⟨g, 3, none⟩ (.int .i64 (restI q.d))) g 58 (restQ q) := by
  have b1 := (h.below (pw_below_drewN (Below.refl _ _) n1)).set (restI q.a) 0 (by omega)
  have b2 := (b1.below (pw_below_drewN (Below.refl _ _) n2)).set (restI q.b) 1 (by omega)
  have b3 := (b2.below (pw_below_drewN (Below.refl _ _) n3)).set (restI q.c) 2 (by omega)
  have b4 := (b3.below (pw_below_drewN (Below.refl _ _) n4)).set (restI q.d) 3 (by omega)
  have e : (((q.put (0 : Nat) (restI q.a)).put (1 : Nat) (restI q.b)).put (2 : Nat) (restI q.c)).put (3 : Nat) (restI q.d) = restQ q := by simp [Q4.put, restQ]
  rw [e] at b4
  exact b4
theorem meas24 {i : Nat} (h : i < 24) (hw : wrap64 ((i : Int) + 1) = ((i + 1 : Nat) : Int)) : 24 - (intOf (.int .i64 (wrap64 ((i : Int) + 1)))).toNat < 24 - (intOf (.int .i64 (i : Int))).toNat := by
  rw [hw]
  simp only [intOf, Int.toNat_natCast]
  omega
set_option maxHeartbeats 4000000 in
set_option maxRecDepth 100000 in
theorem Rests_main (k : Nat) (q : Q4) (rt : Q4) (n : Int) (sr : List Bool) (w : World) (ht : quad_is.f q = some true) (hp : rootL k q 0 = some (rt, n)) (hl : loopR k [restQ rt] [restQ rt] (List.replicate 24 false) = some sr) :
    Calls Try.prog 25 #[.agg #[.int .i64 q.a, .int .i64 q.b, .int .i64 q.c, .int .i64 q.d]] w fun e w' => ∃ v0_ : Value, e = .returned (.tuple #[v0_, .int .i64 0]) ∧ Kd.R (Kd.int .i64) 3 w' w.heap.size (fun _ => True) v0_ (outR sr 24) ∧ Below w.heap.size w w' := by
  have hB := Bk.new w 23 q
  obtain ⟨e0, e1, e2, e3⟩ := hB.cell
  have HQ := Aside0.mk hB
  have HB := Aside0.mk (below_alloc (Below.refl w.heap.size w) (.cells #[.int .i64 q.a, .int .i64 q.b, .int .i64 q.c, .int .i64 q.d] 23))
  have HI := Aside0.mk (fun w' => isq_calls q true w' ht)
  have HR := Aside0.mk (fun w' => root_calls k q rt n w' hp)
  have HL := Aside0.mk hl
  have HT := Aside0.mk (fun x w' => discs_rest.calls x (restI x) w' (restI_f x))
  unfold agg4 at HI HR
  clear ht hp hl hB
  go_enter Try.func25, Try.ntmps25
  go_wp2_with (first | (go_at_call 29; refine (HI.out _).mono ?_; rintro e w1 ⟨rfl, hb⟩; have HB1 := Aside0.mk (HB.out.trans (hb.mono HB.out.size)); have HQ1 := Aside0.mk (HQ.out.below hb); clear hb; obtain ⟨f0, f1, f2, f3⟩ := HQ1.out.cell) | (go_at_call 42; refine (HR.out _).mono ?_; rintro e w2 ⟨rfl, hb⟩; have HB2 := Aside0.mk (HB1.out.trans (hb.mono HB1.out.size)); clear hb))
  generalize hw3 : w2.alloc (.cells #[.int .i64 rt.a, .int .i64 rt.b, .int .i64 rt.c, .int .i64 rt.d] 58) = w3
  have HB3 := Aside0.mk (show Below w.heap.size w w3 from hw3 ▸ below_alloc HB2.out _)
  have HX3 := Aside0.mk (show Bk w3 w2.heap.size 58 rt from hw3 ▸ Bk.new w2 58 rt)
  have HG := Aside0.mk HB2.out.size
  clear hw3
  generalize w2.heap.size = gx at HX3 HG ⊢
  clear HB HB1 HB2 HQ HQ1 HI HR e0 e1 e2 e3 f0 f1 f2 f3
  refine wp_loop_rounds 5 ?_
  rw [rounds_succ]
  obtain ⟨g0, g1, g2, g3⟩ := HX3.out.cell
  have h0 := HX3.out.free 0
  have h1 := HX3.out.free 1
  have h2 := HX3.out.free 2
  have h3 := HX3.out.free 3
  go_wp2_with (first | (go_at_call 54; refine (HT.out _ _).mono ?_; rintro e w5 ⟨rfl, ⟨n1, rfl⟩⟩))
  rw [rounds_succ]
  go_wp2_with (first | (go_at_call 54; refine (HT.out _ _).mono ?_; rintro e w5 ⟨rfl, ⟨n2, rfl⟩⟩))
  rw [rounds_succ]
  go_wp2_with (first | (go_at_call 54; refine (HT.out _ _).mono ?_; rintro e w5 ⟨rfl, ⟨n3, rfl⟩⟩))
  rw [rounds_succ]
  go_wp2_with (first | (go_at_call 54; refine (HT.out _ _).mono ?_; rintro e w5 ⟨rfl, ⟨n4, rfl⟩⟩))
  rw [rounds_succ]
  generalize hw4 : (((((((w3.drewN n1).setCell ⟨gx, 0, none⟩ (.int .i64 (restI rt.a))).drewN n2).setCell ⟨gx, 1, none⟩ (.int .i64 (restI rt.b))).drewN n3).setCell ⟨gx, 2, none⟩ (.int .i64 (restI rt.c))).drewN n4).setCell ⟨gx, 3, none⟩ (.int .i64 (restI rt.d)) = w4
  have HX4 := Aside0.mk (show Bk w4 gx 58 (restQ rt) from hw4 ▸ rest4 HX3.out n1 n2 n3 n4)
  have HB4 := Aside0.mk (show Below w.heap.size w w4 from hw4 ▸ (pw_below_drewN ((pw_below_drewN ((pw_below_drewN ((pw_below_drewN HB3.out n1).setCell (p := ⟨gx, 0, none⟩) HG.out _) n2).setCell (p := ⟨gx, 1, none⟩) HG.out _) n3).setCell (p := ⟨gx, 2, none⟩) HG.out _) n4).setCell (p := ⟨gx, 3, none⟩) HG.out _)
  clear hw4 HX3 HB3 g0 g1 g2 g3 h0 h1 h2 h3
  obtain ⟨qx, hqx⟩ : ∃ qx, qx = restQ rt := ⟨_, rfl⟩
  rw [← hqx] at HX4 HL
  clear hqx
  obtain ⟨g0, g1, g2, g3⟩ := (HX4.out.alloc (Obj.map #[] 0)).cell
  obtain ⟨wm, hup, hset, hmu⟩ := insQ (setQ_new w4) qx rfl
  have HM5 := Aside0.mk hset
  have HX5 := Aside0.mk (show Bk wm gx 58 qx from (hmu.block gx (by rw [World.size_alloc]; exact Nat.lt_succ_of_lt (lt_of_block HX4.out)) (Nat.ne_of_lt (lt_of_block HX4.out))).trans (HX4.out.alloc _))
  have HB5 := Aside0.mk (hmu.below (below_alloc HB4.out _) HB4.out.size (by rw [World.size_alloc]; exact Nat.le_succ_of_le HB4.out.size))
  have HS5 := Aside0.mk HB4.out.size
  clear hset hmu HB4 HX4
  obtain ⟨bm, hbm⟩ : ∃ bm, w4.heap.size = bm := ⟨_, rfl⟩
  rw [hbm] at hup HM5 HS5
  have hmm := @run_makeMap Try.prog
  go_wp2_with (first
    | ((with_reducible refine gate_dst (N := 8) rfl ?_); refine box_event ?hg (N := 8) ?hd (cs := (List.replicate 24 (Value.bool false)).toArray) (t := 47) ?hr ?_; (case hd => rfl); (case hg => rfl); (case hr => first | (go_simp; done) | (go_simp; rfl)); intro gs hgs w6 hbox hb; have HM6 := Aside0.mk (HM5.out.below hb); have HX6 := Aside0.mk (HX5.out.below hb); have HN6 := Aside0.mk (show bm ≠ gs by have := HM5.out.lt; omega); have HB6 := Aside0.mk (HB5.out.trans (hb.mono HB5.out.size)); have HS6 := Aside0.mk (show SeenB w6 gs (List.replicate 24 false) from ⟨rfl, hbox⟩); have HG6 := Aside0.mk (show w.heap.size ≤ gs by have := HB5.out.size; omega); clear hgs hbox hb; obtain ⟨g0, g1, g2, g3⟩ := HX6.out.cell)
    | ((with_reducible refine gate_dst (N := 39) rfl ?_); refine Kd.R_lit k58 w.heap.size 58 ?hg (N := 39) ?hd (xs := [qx]) (inner := [.int .i64 qx.a, .int .i64 qx.b, .int .i64 qx.c, .int .i64 qx.d]) (ok := fun k => True ∧ k ≠ bm ∧ k ≠ gs) (okp := fun _ => False) ?hr ?hp (fun _ hk => hk.elim) ?hf HB6.out HB6.out.size (by simp) ?_; (case hd => rfl); (case hg => rfl); (case hr => first | (go_simp; done) | (go_simp; rfl)); (case hp => exact reps_q _ _ _ _); (case hf => exact ⟨trivial, Nat.ne_of_gt HM6.out.lt, Nat.ne_of_gt HS6.out.lt⟩); intro v7 w7 hr hb hg hat; have HRS := Aside0.mk (RS.mk HS5.out HG6.out HN6.out (HM6.out.same (hg.block bm HM6.out.lt (by simp))) (HS6.out.same (hg.block gs HS6.out.lt (by simp))) hr); have HB7 := Aside0.mk hb; clear hr hb hg hat))
  clear hup hbm HM6 HS6 HN6 HX6 HB6 HG6 HM5 HX5 HB5 HS5 hmm g0 g1 g2 g3
  go_loopg [9] k (fun kq v9 w' => ∃ (todo met : List Q4) (seen : List Bool), Aside0 (loopR kq todo met seen = some sr) ∧ Aside0 (kq ≤ k) ∧ Aside0 (RS w.heap.size bm gs (fun _ => True) w' v9 todo met seen) ∧ Aside0 (Below w.heap.size w w'))
  case atStart => exact ⟨[qx], [qx], List.replicate 24 false, HL, ⟨Nat.le_refl _⟩, HRS, HB7⟩
  case round =>
    clear HL HRS HB7
    obtain ⟨todo, met, seen, HA, HK1, HRS, HB⟩ := hrel
    cases gk with
    | zero => exact absurd HA.out (by simp [loopR])
    | succ k1 =>
      have H := HA.out
      clear HA
      simp only [loopR] at H
      obtain ⟨A, c, rfl⟩ := Kd.R_slice HRS.out.r
      by_cases c1 : todo.length = 0
      · rw [if_pos c1] at H
        obtain rfl := Option.some.inj H
        have b1 : decide (0 < todo.length) = false := decide_eq_false (by omega)
        have b2 : decide ((todo.length : Int) > 0) = false := decide_eq_false (by omega)
        clear H c1
        go_wp2_with (first | ((with_reducible refine gate_dst (N := 84) rfl ?_); refine load47_event HRS.out.s rfl rfl rfl ?_))
        have HS := Aside0.mk HRS.out.s
        go_loopw [14, 85] (fun v14 v85 wx => ∃ i : Nat, Aside0 (i ≤ 24) ∧ v85 = .int .i64 i ∧ Aside0 (Kd.R (Kd.int .i64) 3 wx w.heap.size (fun _ => True) v14 (outR seen i)) ∧ Aside0 (Below w.heap.size w wx)) (fun _ v85 _ => 24 - (intOf v85).toNat)
        case atStart => exact ⟨0, ⟨by omega⟩, rfl, ⟨Kd.R_nil _ _ _ _ _⟩, HB⟩
        case round => as_aux_lemma =>
          have HSL := Aside0.mk HS.out.1
          clear HB HRS HS
          obtain ⟨i, hi, rfl, HR, HB⟩ := hrel
          by_cases c5 : i < 24
          · have b5 : decide ((i : Int) < 24) = true := decide_eq_true (by omega)
            have hix := fun W => idx47 seen HSL.out i c5 W
            have hw : wrap64 ((i : Int) + 1) = ((i + 1 : Nat) : Int) := by unfold wrap64; omega
            have HC5 := Aside0.mk c5
            have hor : outR seen (i + 1) = if seen.getD i false = true then outR seen i ++ [(i : Int)] else outR seen i := rfl
            have HL := Aside0.mk (outR_len seen i)
            obtain ⟨x, hx⟩ : ∃ x, x = seen.getD i false := ⟨_, rfl⟩
            rw [← hx] at hix hor
            clear hx c5
            cases x with
            | true =>
              rw [if_pos rfl] at hor
              have HOR := Aside0.mk hor
              clear hor
              obtain ⟨A, c, rfl⟩ := Kd.R_slice HR.out
              go_wp2_with (first | ((with_reducible refine gate_builtin (b := .append) (xs := #[.tmp 90, .tmp 92]) rfl ?_); at_builtin; refine Kd.R_append (Kd.int .i64) (w0 := w) w.heap.size rfl (.tmp 90) (.tmp 92) 35 3 (.int .i64 0) 8 rfl Try.underlying35 aInfo3 rfl (by decide) (by decide) (.slice A (outR seen i).length c) (outR seen i) (i : Int) [.int .i64 (i : Int)] (fun _ => True) (fun _ => False) rfl rfl rfl (fun _ hk => hk.elim) (fun _ _ => trivial) HR.out HB.out HB.out.size (by have := HL.out; have := HC5.out; omega) ?_; intro v1 w6 hr hb hg hat; have HR6 := Aside0.mk hr; have HB6 := Aside0.mk hb; clear hr hb hg hat))
              go_roundw
              case rel => exact ⟨i + 1, ⟨by have := HC5.out; omega⟩, by first | rfl | rw [hw], ⟨by rw [HOR.out]; exact HR6.out⟩, HB6⟩
              case measure => exact meas24 HC5.out hw
            | false =>
              rw [if_neg (by decide)] at hor
              have HOR := Aside0.mk hor
              clear hor
              go_wp2
              go_roundw
              case rel => exact ⟨i + 1, ⟨by have := HC5.out; omega⟩, by first | rfl | rw [hw], ⟨by rw [HOR.out]; exact HR.out⟩, HB⟩
              case measure => exact meas24 HC5.out hw
          · have b5 : decide ((i : Int) < 24) = false := decide_eq_false (by omega)
            obtain rfl : i = 24 := by have := hi.out; omega
            clear hi c5
            go_wp2
            go_ret2
            exact ⟨_, rfl, HR.out, HB.out⟩
      · rw [if_neg c1] at H
        obtain ⟨m, hm⟩ : ∃ m, todo.length - 1 = m := ⟨_, rfl⟩
        rw [hm] at H
        have hml : todo.length = m + 1 := by omega
        have hmx := Kd.C_max (Kd.R_reads' HRS.out.r).2.2
        have b1 : decide (0 < todo.length) = true := decide_eq_true (by omega)
        have b2 : decide ((todo.length : Int) > 0) = true := decide_eq_true (by omega)
        have hj : wrap64 ((todo.length : Int) - 1) = (m : Int) := by unfold wrap64; omega
        have HML := Aside0.mk hml
        have hcc := (Kd.R_reads' HRS.out.r).2.1
        have r1 : m ≤ c := by omega
        have r2 : (m : Int) ≤ (c : Int) := by omega
        have r3 : m ≤ todo.length := by omega
        have r4 : (m : Int) ≤ (todo.length : Int) := by omega
        clear hcc
        have p1 : 0 ≤ (m : Int) := by omega
        have q1 : (m : Int) < (todo.length : Int) := by omega
        obtain ⟨ad, e0, h0, h1, h2, h3⟩ := at_T58 (Kd.R_reads' HRS.out.r).2.2 (m : Int) p1 q1
        cases e0
        simp only [Int.toNat_natCast] at h0 h1 h2 h3
        obtain ⟨now, hnow⟩ : ∃ now, todo.getD m z58 = now := ⟨_, rfl⟩
        rw [hnow] at H h0 h1 h2 h3
        replace p1 := eq_true p1
        replace q1 := eq_true q1
        clear hm hml hmx c1 hnow
        replace H := Option.bind_eq_some_iff.mp H
        obtain ⟨s4, h4, H⟩ := H
        have HI4 := Aside0.mk h4
        have H' := Aside0.mk H
        clear h4 H
        go_wp2
        have HRS8 := Aside0.mk ((HRS.out.apart (below_alloc (Below.refl wr.heap.size wr) (.cells #[.int .i64 now.a, .int .i64 now.b, .int .i64 now.c, .int .i64 now.d] 58))).pop (m := m) (by have := HML.out; omega))
        have HN8 := Aside0.mk (Bk.new wr 58 now)
        have HB8 := Aside0.mk (HB.out.alloc HB.out.size (.cells #[.int .i64 now.a, .int .i64 now.b, .int .i64 now.c, .int .i64 now.d] 58))
        have HE1 := Aside0.mk (Nat.ne_of_gt HRS.out.m.lt)
        have HE2 := Aside0.mk (Nat.ne_of_gt HRS.out.s.lt)
        have HE3 := Aside0.mk HB.out.size
        generalize wr.alloc (.cells #[.int .i64 now.a, .int .i64 now.b, .int .i64 now.c, .int .i64 now.d] 58) = w8 at HRS8 HN8 HB8 ⊢
        generalize wr.heap.size = gn at HRS8 HN8 HE1 HE2 HE3 ⊢
        clear HRS HB b1 b2 hj p1 q1 h0 h1 h2 h3 r1 r2 r3 r4
        go_loopw [9, 55] (fun v9 v55 wx => ∃ (i : Nat) (td mt : List Q4) (sn : List Bool), Aside0 (i ≤ 4) ∧ v55 = .int .i64 i ∧ Aside0 (iterR now (todo.take m, met, seen) i = some (td, mt, sn)) ∧ Aside0 (RS w.heap.size bm gs (fun k => True ∧ k ≠ gn) wx v9 td mt sn) ∧ Aside0 (Bk wx gn 58 now) ∧ Aside0 (Below w.heap.size w wx)) (fun _ v55 _ => 4 - (intOf v55).toNat)
        case atStart => exact ⟨0, todo.take m, met, seen, ⟨by omega⟩, rfl, ⟨rfl⟩, HRS8, HN8, HB8⟩
        case round => as_aux_lemma =>
          clear HRS8 HN8 HB8
          obtain ⟨i, td, mt, sn, hi, rfl, HIT, HRS, HN, HB⟩ := hrel
          by_cases c5 : i < 4
          · have b5 : decide ((i : Int) < 4) = true := decide_eq_true (by omega)
            have hix := fun W => idx_at now i c5 W
            have hw : wrap64 ((i : Int) + 1) = ((i + 1 : Nat) : Int) := by unfold wrap64; omega
            have HC5 := Aside0.mk c5
            obtain ⟨r', hr'⟩ := iterR_pre HI4.out (n := i + 1) (by omega)
            have hst : stepR now i (td, mt, sn) = some r' := by
              rw [iterR, HIT.out] at hr'
              exact hr'
            have HIT' := Aside0.mk hr'
            clear hr'
            unfold stepR at hst
            split at hst
            case isFalse => cases hst
            case isTrue p1 =>
            split at hst
            case isFalse => cases hst
            case isTrue q1 =>
            simp only at hst
            obtain ⟨x, hx⟩ : ∃ x, x = now.at i := ⟨_, rfl⟩
            rw [← hx] at hix hst p1 q1
            clear hx
            obtain ⟨s0, s1⟩ := HRS.out.s.cell p1 q1
            have HRS10 := Aside0.mk (HRS.out.mark p1 q1)
            have HN10 := Aside0.mk (HN.out.far (g := gs) (j := x.toNat) HE2.out (.bool true))
            have HB10 := Aside0.mk (HB.out.setCell (p := ⟨gs, x.toNat, none⟩) HRS.out.sB (.bool true))
            replace p1 := eq_true p1
            replace q1 := eq_true q1
            have HST := Aside0.mk hst
            clear hst c5
            go_upto_region 19 with (fail)
            generalize wr.setCell ⟨gs, x.toNat, none⟩ (.bool true) = w10 at HRS10 HN10 HB10 ⊢
            clear HRS HN HB s0 s1 p1 q1
            obtain ⟨e0, e1, e2, e3⟩ := HN10.out.cell
            have hb11 := below_alloc (Below.refl w10.heap.size w10) (.cells #[.int .i64 now.a, .int .i64 now.b, .int .i64 now.c, .int .i64 now.d] 58)
            have HRS11 := Aside0.mk (HRS10.out.apart hb11)
            have HN11 := Aside0.mk (HN10.out.below hb11)
            have HX11 := Aside0.mk (Bk.new w10 58 now)
            have HB11 := Aside0.mk (HB10.out.trans (hb11.mono HB10.out.size))
            have HF1 := Aside0.mk (Nat.ne_of_gt HRS10.out.m.lt)
            have HF2 := Aside0.mk (Nat.ne_of_gt HRS10.out.s.lt)
            have HF3 := Aside0.mk HB10.out.size
            have HF4 := Aside0.mk (Nat.ne_of_lt (lt_of_block HN10.out))
            clear hb11
            go_upto_region 20 with (fail)
            generalize w10.alloc (.cells #[.int .i64 now.a, .int .i64 now.b, .int .i64 now.c, .int .i64 now.d] 58) = w11 at HRS11 HN11 HX11 HB11 ⊢
            generalize w10.heap.size = gy at HRS11 HX11 HF1 HF2 HF3 HF4 ⊢
            clear HRS10 HN10 HB10 e0 e1 e2 e3
            obtain ⟨e0, e1, e2, e3⟩ := HN11.out.cell
            have HTU := Aside0.mk (fun w' => turned_calls now (i : Int) (by omega) (by have := HC5.out; omega) w')
            unfold agg4 at HTU
            have p2 : (0 ≤ (i : Int)) = True := eq_true (by omega)
            have q2 : ((i : Int) < 4) = True := eq_true (by have := HC5.out; omega)
            go_upto_region 21 with (first | (go_at_call 51; refine (HTU.out _).mono ?_; rintro e w12 ⟨rfl, hb⟩; have HRS12 := Aside0.mk (HRS11.out.below hb); have HN12 := Aside0.mk (HN11.out.below hb); have HX12 := Aside0.mk (HX11.out.below hb); have HB12 := Aside0.mk (HB11.out.trans (hb.mono HB11.out.size)); clear hb; have hxa := HX12.out.at (i : Int) (by omega) (by have := HC5.out; omega); have hxf := HX12.out.free i; simp only [Int.toNat_natCast] at hxa) | (go_at_call 54; refine (HT.out _ _).mono ?_; rintro e w13 ⟨rfl, ⟨n1, rfl⟩⟩))
            have hd := pw_below_drewN (Below.refl w12.heap.size w12) n1
            have HX14 := Aside0.mk (show Bk ((w12.drewN n1).setCell ⟨gy, i, none⟩ (.int .i64 (restI (turnedF now (i : Int))))) gy 58 (nextR now i) from (HX12.out.below hd).set (restI (turnedF now (i : Int))) i (by have := HC5.out; omega))
            have HN14 := Aside0.mk ((HN12.out.below hd).far (g := gy) (j := i) HF4.out (.int .i64 (restI (turnedF now (i : Int)))))
            have HRS14 := Aside0.mk ((HRS12.out.below hd).far (a := ⟨gy, i, none⟩) (fun k hk => hk.2) (Ne.symm HF1.out) (Ne.symm HF2.out) (.int .i64 (restI (turnedF now (i : Int)))))
            have HB14 := Aside0.mk ((HB12.out.trans (hd.mono HB12.out.size)).setCell (p := ⟨gy, i, none⟩) HF3.out (.int .i64 (restI (turnedF now (i : Int)))))
            generalize (w12.drewN n1).setCell ⟨gy, i, none⟩ (.int .i64 (restI (turnedF now (i : Int)))) = w14 at HX14 HN14 HRS14 HB14 ⊢
            clear hd HRS12 HN12 HX12 HB12 HRS11 HN11 HX11 HB11 hxa hxf e0 e1 e2 e3 p2 q2 hix
            obtain ⟨nx, hnx⟩ : ∃ nx, nx = nextR now i := ⟨_, rfl⟩
            rw [← hnx] at HX14 HST
            clear hnx
            obtain ⟨e0, e1, e2, e3⟩ := HN14.out.cell
            obtain ⟨f0, f1, f2, f3⟩ := HX14.out.cell
            have hE := fun W => (show (Op.equalIn 10000 58 (.agg #[.int .i64 nx.a, .int .i64 nx.b, .int .i64 nx.c, .int .i64 nx.d]) (.agg #[.int .i64 now.a, .int .i64 now.b, .int .i64 now.c, .int .i64 now.d])).run Try.prog W = .ok (eqQ nx now) W from eq58 W nx now)
            have hst := HST.out
            clear HST
            by_cases c6 : eqQ nx now = true
            · rw [if_pos c6] at hst
              obtain rfl := Option.some.inj hst
              rw [c6] at hE
              clear hst c6
              go_wp2
              go_roundw
              case rel => exact ⟨i + 1, td, mt, _, ⟨by have := HC5.out; omega⟩, by first | rfl | rw [hw], HIT', ⟨HRS14.out.mono (fun k hk => hk.1)⟩, HN14, HB14⟩
              case measure => exact meas4 HC5.out hw
            rw [if_neg c6] at hst
            have c6' : eqQ nx now = false := Bool.eq_false_iff.2 c6
            rw [c6'] at hE
            clear c6 c6'
            have hlk := lookQ HRS14.out.m nx
            by_cases c7 : inQ nx mt = true
            · rw [if_pos c7] at hst
              obtain rfl := Option.some.inj hst
              rw [c7] at hlk
              clear hst c7
              go_wp2
              go_roundw
              case rel => exact ⟨i + 1, td, mt, _, ⟨by have := HC5.out; omega⟩, by first | rfl | rw [hw], HIT', ⟨HRS14.out.mono (fun k hk => hk.1)⟩, HN14, HB14⟩
              case measure => exact meas4 HC5.out hw
            rw [if_neg c7] at hst
            have c7' : inQ nx mt = false := Bool.eq_false_iff.2 c7
            rw [c7'] at hlk
            clear c7
            split at hst
            case isFalse => cases hst
            case isTrue c8 =>
            obtain rfl := Option.some.inj hst
            clear hst
            have HLN := Aside0.mk c8
            clear c8
            obtain ⟨A, c, rfl⟩ := Kd.R_slice HRS14.out.r
            obtain ⟨w15, hup, hset, hmu⟩ := insQ HRS14.out.m nx c7'
            clear c7'
            have HRS15 := Aside0.mk (HRS14.out.ins hmu hset)
            have HN15 := Aside0.mk (show Bk w15 gn 58 now from (hmu.block gn (lt_of_block HN14.out) HE1.out).trans HN14.out)
            have hx15 : Bk w15 gy 58 nx := (hmu.block gy (lt_of_block HX14.out) HF1.out).trans HX14.out
            have HB15 := Aside0.mk (hmu.below HB14.out (HRS14.out.mB) HB14.out.size)
            have HS15 := Aside0.mk HB15.out.size
            have HFR := Aside0.mk (show ∀ k, w15.heap.size ≤ k → ((True ∧ k ≠ gn) ∧ k ≠ gy) ∧ k ≠ bm ∧ k ≠ gs from fun k hk => ⟨⟨⟨trivial, fun e => by have := lt_of_block HN15.out; omega⟩, fun e => by have := lt_of_block hx15; omega⟩, fun e => by have := HRS15.out.m.lt; omega, fun e => by have := HRS15.out.s.lt; omega⟩)
            obtain ⟨h0, h1, h2, h3⟩ := hx15.cell
            clear hset hmu hx15 HX14
            go_wp2_with (first | ((with_reducible refine gate_builtin (b := .append) (xs := #[.tmp 79, .tmp 81]) rfl ?_); at_builtin; refine Kd.R_append k58 (w0 := w) w.heap.size rfl (.tmp 79) (.tmp 81) 72 58 (.agg #[(.int .i64 0), (.int .i64 0), (.int .i64 0), (.int .i64 0)]) 32 rfl Try.underlying72 info58 rfl (by decide) (by decide) (.slice A td.length c) td nx [.int .i64 nx.a, .int .i64 nx.b, .int .i64 nx.c, .int .i64 nx.d] (fun k => ((True ∧ k ≠ gn) ∧ k ≠ gy) ∧ k ≠ bm ∧ k ≠ gs) (fun _ => False) rfl rfl ?aP (fun _ hk => hk.elim) HFR.out HRS15.out.r HB15.out HS15.out ?aL ?_; (case aP => exact k58_mkM _ _ _ nx); (case aL => have := HLN.out; omega); intro v1 w16 hr hb hg hat; have HRS16 := Aside0.mk (HRS15.out.push hg hr); have HN16 := Aside0.mk (show Bk w16 gn 58 now from (hg.block gn (lt_of_block HN15.out) (fun e => (HRS15.out.r.1 _ e.symm).1.1.2 rfl)).trans HN15.out); have HB16 := Aside0.mk hb; clear hr hb hg hat))
            go_roundw
            case rel => exact ⟨i + 1, td ++ [nx], mt ++ [nx], _, ⟨by have := HC5.out; omega⟩, by first | rfl | rw [hw], HIT', ⟨HRS16.out.mono (fun k hk => hk.1)⟩, HN16, HB16⟩
            case measure => exact meas4 HC5.out hw
          · have b5 : decide ((i : Int) < 4) = false := decide_eq_false (by omega)
            obtain rfl : i = 4 := by have := hi.out; omega
            clear hi c5
            obtain rfl : (td, mt, sn) = s4 := Option.some.inj (HIT.out.symm.trans HI4.out)
            go_wp2
            go_roundg k1
            case measure => have := HK1.out; omega
            case rel => exact ⟨td, mt, sn, H', ⟨by have := HK1.out; omega⟩, ⟨HRS.out.mono (fun k hk => trivial)⟩, HB⟩
set_option maxHeartbeats 4000000 in
set_option maxRecDepth 100000 in
theorem discs_Rests.calls (k : Nat) (a0_0 : Int) (a0_1 : Int) (a0_2 : Int) (a0_3 : Int) (r1 : List Int) (r2 : Int) (w : World) (h : discs_Rests.f k a0_0 a0_1 a0_2 a0_3 = some (r1, r2)) :
    Calls Try.prog 25 #[.agg #[.int .i64 a0_0, .int .i64 a0_1, .int .i64 a0_2, .int .i64 a0_3]] w fun e w' => ∃ v0_ : Value, e = .returned (.tuple #[v0_, .int .i64 r2]) ∧ Kd.R (Kd.int .i64) 3 w' w.heap.size (fun _ => True) v0_ r1 ∧ Below w.heap.size w w' := by
  unfold discs_Rests.f at h
  replace h := Option.bind_eq_some_iff.mp h
  obtain ⟨t, ht, h⟩ := h
  cases t with
  | false =>
    rw [if_neg (by decide)] at h
    injection h with h
    injection h with h1 h2
    subst h1 h2
    have hB := Bk.new w 23 ⟨a0_0, a0_1, a0_2, a0_3⟩
    obtain ⟨e0, e1, e2, e3⟩ := hB.cell
    have HB := Aside0.mk (below_alloc (Below.refl w.heap.size w) (.cells #[.int .i64 a0_0, .int .i64 a0_1, .int .i64 a0_2, .int .i64 a0_3] 23))
    have HI := Aside0.mk (fun w' => isq_calls ⟨a0_0, a0_1, a0_2, a0_3⟩ false w' ht)
    unfold agg4 at HI
    simp only at e0 e1 e2 e3
    clear ht hB
    go_enter Try.func25, Try.ntmps25
    go_wp2_with (first | (go_at_call 29; refine (HI.out _).mono ?_; rintro e w1 ⟨rfl, hb⟩; have HB1 := Aside0.mk (HB.out.trans (hb.mono HB.out.size)); clear hb))
    go_ret2
    exact ⟨_, rfl, Kd.R_nil _ _ _ _ _, HB1.out⟩
  | true =>
    rw [if_pos rfl] at h
    replace h := Option.bind_eq_some_iff.mp h
    obtain ⟨⟨rt, n⟩, hp, h⟩ := h
    replace h := Option.bind_eq_some_iff.mp h
    obtain ⟨sr, hs, h⟩ := h
    injection h with h
    injection h with h1 h2
    subst h1 h2
    exact Rests_main k ⟨a0_0, a0_1, a0_2, a0_3⟩ rt n sr w ht hp hs

end Go.Proofs.Ytlfmafebmnggeaa.Print
