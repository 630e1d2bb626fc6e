/- What the functions of the discs compute, printed by this repo's hand printer. -/
import Derived.Test.YtlfmafebmnggeaaShort
import Derived.Test.YtlfmafebmnggeaaPrinty0
namespace Go.Proofs.Ytlfmafebmnggeaa.Print
open Go.RowKit Go.Proofs.YtlfmafebmnggeaaW.PrintWords Go.Proofs.YtlfmafebmnggeaaW.PrintLast Go.Proofs.YtlfmafebmnggeaaW.PrintMore
attribute [local go_sem] max2_int min2_int max_two min_two max_three min_three max_four min_four
set_option maxHeartbeats 8000000 -- slim
set_option maxRecDepth 100000
set_option linter.unusedVariables false
set_option linter.unusedSimpArgs false

/-! ### discs_far: function 61 -/
def discs_far.f (a0 : Int) : Option (Bool) := if a0 < (-1099511627776) then (some true) else (some (decide (a0 > 1099511627776)))
theorem discs_far.calls (a0 : Int) (r : Bool) (w : World) (h : discs_far.f a0 = some r) :
  Calls Try.prog 61 #[.int .i64 a0] w fun e w' => e = .returned (.bool r) ∧ Drawn0 w w' := by
 have H : (if a0 < (-1099511627776) then (some true) else (some (decide (a0 > 1099511627776)))) = some r := h
 clear h
 by_cases c2 : a0 < (-1099511627776)
 ·rw [if_pos c2] at H
  have c2b0 : decide (a0 < (-1099511627776)) = true := decide_eq_true c2
  clear c2
  obtain rfl := Option.some.inj H
  go_enter Try.func61, Try.ntmps61
  go_wp2
  go_ret
  exact ⟨by first | rfl | (simp; done) | (simp [*]; done), by repeat (first | exact Drawn0.refl _ | apply Drawn0.step)⟩
 ·rw [if_neg c2] at H
  have c2b0 : decide (a0 < (-1099511627776)) = false := decide_eq_false c2
  clear c2
  obtain rfl := Option.some.inj H
  go_enter Try.func61, Try.ntmps61
  go_wp2
  go_ret
  exact ⟨by first | rfl | (simp; done) | (simp [*]; done), by repeat (first | exact Drawn0.refl _ | apply Drawn0.step)⟩

/-- THE ONE PURE STATEMENT of discs_far: yours. -/
def discs_far.Pure : Prop := ∀ (a0 : Int), (Lit.int .i64 a0).wf = true → discs_far.f a0 = some true
theorem discs_far.walk (P : discs_far.Pure) (a0 : Int) (w : World) (w0 : (Lit.int .i64 a0).wf = true) :
  Calls Try.prog 61 #[.int .i64 a0] w fun e w' => e = .returned (.bool true) ∧ Below w.heap.size w w' := by
 have h := P a0 w0
 refine (discs_far.calls a0 true w h).mono ?_
 rintro e w' ⟨rfl, hd⟩
 exact ⟨rfl, hd.below⟩

/-! ### discs_add: function 96 -/
def discs_add.f (a0 : Int) (a1 : Int) (a2 : Int) (a3 : Int) : Option (Int × Int) := some (wrap64 ((wrap64 (a0 + a2)) + ((wrap64 (a1 + a3)) / 4398046511104)), Go.bits .and .i64 (wrap64 (a1 + a3)) 4398046511103)
theorem discs_add.calls (a0 : Int) (a1 : Int) (a2 : Int) (a3 : Int) (r1 : Int) (r2 : Int) (w : World) (h : discs_add.f a0 a1 a2 a3 = some (r1, r2)) :
  Calls Try.prog 96 #[.int .i64 a0, .int .i64 a1, .int .i64 a2, .int .i64 a3] w fun e w' => e = .returned (.tuple #[.int .i64 r1, .int .i64 r2]) ∧ Drawn0 w w' := by
 have H : (some (wrap64 ((wrap64 (a0 + a2)) + ((wrap64 (a1 + a3)) / 4398046511104)), Go.bits .and .i64 (wrap64 (a1 + a3)) 4398046511103)) = some (r1, r2) := h
 clear h
 simp only [Option.some.injEq, Prod.mk.injEq] at H
 obtain ⟨rfl, rfl⟩ := H
 go_enter Try.func96, Try.ntmps96
 go_wp2
 go_ret2
 exact ⟨by first | rfl | (simp; done) | (simp [*]; done), by repeat (first | exact Drawn0.refl _ | apply Drawn0.step)⟩

/-! ### discs_split: function 105 -/
def discs_split.f (a0 : Int) (a1 : Int) : Option (Int × Int) := (discs_add.f ((wrap64 ((a0 / 2097152) * a1)) / 2097152) (wrap64 ((Go.bits .and .i64 (wrap64 ((a0 / 2097152) * a1)) 2097151) * 2097152)) ((wrap64 ((Go.bits .and .i64 a0 2097151) * a1)) / 4398046511104) (Go.bits .and .i64 (wrap64 ((Go.bits .and .i64 a0 2097151) * a1)) 4398046511103)).bind fun bt101 => (some (bt101.1, bt101.2))
theorem discs_split.calls (a0 : Int) (a1 : Int) (r1 : Int) (r2 : Int) (w : World) (h : discs_split.f a0 a1 = some (r1, r2)) :
  Calls Try.prog 105 #[.int .i64 a0, .int .i64 a1] w fun e w' => e = .returned (.tuple #[.int .i64 r1, .int .i64 r2]) ∧ Drawn0 w w' := by
 have H : ((discs_add.f ((wrap64 ((a0 / 2097152) * a1)) / 2097152) (wrap64 ((Go.bits .and .i64 (wrap64 ((a0 / 2097152) * a1)) 2097151) * 2097152)) ((wrap64 ((Go.bits .and .i64 a0 2097151) * a1)) / 4398046511104) (Go.bits .and .i64 (wrap64 ((Go.bits .and .i64 a0 2097151) * a1)) 4398046511103)).bind fun bt101 => (some (bt101.1, bt101.2))) = some (r1, r2) := h
 clear h
 replace H := Option.bind_eq_some_iff.mp H
 obtain ⟨⟨t101, t102⟩, A30, H⟩ := H
 replace H : (some (t101, t102)) = some (r1, r2) := H
 have A3 := Aside0.mk A30
 clear A30
 simp only [Option.some.injEq, Prod.mk.injEq] at H
 obtain ⟨rfl, rfl⟩ := H
 go_enter Try.func105, Try.ntmps105
 go_wp2_with (first | ((with_reducible refine gate_callee (f := 96) rfl ?_); refine goesL_ (some 33) rfl rfl Try.func96 (by kernel_rfl) rfl #[.int .i64 ((wrap64 ((a0 / 2097152) * a1)) / 2097152), .int .i64 (wrap64 ((Go.bits .and .i64 (wrap64 ((a0 / 2097152) * a1)) 2097151) * 2097152)), .int .i64 ((wrap64 ((Go.bits .and .i64 a0 2097151) * a1)) / 4398046511104), .int .i64 (Go.bits .and .i64 (wrap64 ((Go.bits .and .i64 a0 2097151) * a1)) 4398046511103)] rfl mp_ ?_; (with_reducible refine (discs_add.calls ((wrap64 ((a0 / 2097152) * a1)) / 2097152) (wrap64 ((Go.bits .and .i64 (wrap64 ((a0 / 2097152) * a1)) 2097151) * 2097152)) ((wrap64 ((Go.bits .and .i64 a0 2097151) * a1)) / 4398046511104) (Go.bits .and .i64 (wrap64 ((Go.bits .and .i64 a0 2097151) * a1)) 4398046511103) t101 t102 _ A3.out).mono ?_); rintro e w' ⟨rfl, ⟨nd, rfl⟩⟩; refine ⟨_, rfl, ?_⟩))
 go_ret2
 exact ⟨by first | rfl | (simp; done) | (simp [*]; done), by repeat (first | exact Drawn0.refl _ | apply Drawn0.step)⟩

/-! ### discs_product: function 95 -/
def discs_product.f (a0 : Int) (a1 : Int) : Option (Int × Int) := if a1 < 0 then ((discs_split.f (wrap64 (-a0)) ((wrap64 (-a1)) / 2097152)).bind fun bt103 => ((discs_split.f (wrap64 (-a0)) (Go.bits .and .i64 (wrap64 (-a1)) 2097151)).bind fun bt105 => ((discs_add.f (wrap64 ((wrap64 (bt103.1 * 2097152)) + (bt103.2 / 2097152))) (wrap64 ((Go.bits .and .i64 bt103.2 2097151) * 2097152)) bt105.1 bt105.2).bind fun bt107 => (some (bt107.1, bt107.2))))) else ((discs_split.f a0 (a1 / 2097152)).bind fun bt109 => ((discs_split.f a0 (Go.bits .and .i64 a1 2097151)).bind fun bt111 => ((discs_add.f (wrap64 ((wrap64 (bt109.1 * 2097152)) + (bt109.2 / 2097152))) (wrap64 ((Go.bits .and .i64 bt109.2 2097151) * 2097152)) bt111.1 bt111.2).bind fun bt113 => (some (bt113.1, bt113.2)))))
theorem discs_product.calls (a0 : Int) (a1 : Int) (r1 : Int) (r2 : Int) (w : World) (h : discs_product.f a0 a1 = some (r1, r2)) :
  Calls Try.prog 95 #[.int .i64 a0, .int .i64 a1] w fun e w' => e = .returned (.tuple #[.int .i64 r1, .int .i64 r2]) ∧ Drawn0 w w' := by
 have H : (if a1 < 0 then ((discs_split.f (wrap64 (-a0)) ((wrap64 (-a1)) / 2097152)).bind fun bt103 => ((discs_split.f (wrap64 (-a0)) (Go.bits .and .i64 (wrap64 (-a1)) 2097151)).bind fun bt105 => ((discs_add.f (wrap64 ((wrap64 (bt103.1 * 2097152)) + (bt103.2 / 2097152))) (wrap64 ((Go.bits .and .i64 bt103.2 2097151) * 2097152)) bt105.1 bt105.2).bind fun bt107 => (some (bt107.1, bt107.2))))) else ((discs_split.f a0 (a1 / 2097152)).bind fun bt109 => ((discs_split.f a0 (Go.bits .and .i64 a1 2097151)).bind fun bt111 => ((discs_add.f (wrap64 ((wrap64 (bt109.1 * 2097152)) + (bt109.2 / 2097152))) (wrap64 ((Go.bits .and .i64 bt109.2 2097151) * 2097152)) bt111.1 bt111.2).bind fun bt113 => (some (bt113.1, bt113.2)))))) = some (r1, r2) := h
 clear h
 by_cases c3 : a1 < 0
 ·rw [if_pos c3] at H
  have c3b0 : decide (a1 < 0) = true := decide_eq_true c3
  clear c3
  replace H := Option.bind_eq_some_iff.mp H
  obtain ⟨⟨t103, t104⟩, A40, H⟩ := H
  replace H : ((discs_split.f (wrap64 (-a0)) (Go.bits .and .i64 (wrap64 (-a1)) 2097151)).bind fun bt105 => ((discs_add.f (wrap64 ((wrap64 (t103 * 2097152)) + (t104 / 2097152))) (wrap64 ((Go.bits .and .i64 t104 2097151) * 2097152)) bt105.1 bt105.2).bind fun bt107 => (some (bt107.1, bt107.2)))) = some (r1, r2) := H
  have A4 := Aside0.mk A40
  clear A40
  replace H := Option.bind_eq_some_iff.mp H
  obtain ⟨⟨t105, t106⟩, A50, H⟩ := H
  replace H : ((discs_add.f (wrap64 ((wrap64 (t103 * 2097152)) + (t104 / 2097152))) (wrap64 ((Go.bits .and .i64 t104 2097151) * 2097152)) t105 t106).bind fun bt107 => (some (bt107.1, bt107.2))) = some (r1, r2) := H
  have A5 := Aside0.mk A50
  clear A50
  replace H := Option.bind_eq_some_iff.mp H
  obtain ⟨⟨t107, t108⟩, A60, H⟩ := H
  replace H : (some (t107, t108)) = some (r1, r2) := H
  have A6 := Aside0.mk A60
  clear A60
  simp only [Option.some.injEq, Prod.mk.injEq] at H
  obtain ⟨rfl, rfl⟩ := H
  go_enter Try.func95, Try.ntmps95
  go_wp2_with (first | ((with_reducible refine gate_callee (f := 105) rfl ?_); refine goesL_ (some 27) rfl rfl Try.func105 (by kernel_rfl) rfl #[.int .i64 (wrap64 (-a0)), .int .i64 ((wrap64 (-a1)) / 2097152)] rfl mp_ ?_; (with_reducible refine (discs_split.calls (wrap64 (-a0)) ((wrap64 (-a1)) / 2097152) t103 t104 _ A4.out).mono ?_); rintro e w' ⟨rfl, ⟨nd, rfl⟩⟩; refine ⟨_, rfl, ?_⟩) | ((with_reducible refine gate_callee (f := 105) rfl ?_); refine goesL_ (some 33) rfl rfl Try.func105 (by kernel_rfl) rfl #[.int .i64 (wrap64 (-a0)), .int .i64 (Go.bits .and .i64 (wrap64 (-a1)) 2097151)] rfl mp_ ?_; (with_reducible refine (discs_split.calls (wrap64 (-a0)) (Go.bits .and .i64 (wrap64 (-a1)) 2097151) t105 t106 _ A5.out).mono ?_); rintro e w' ⟨rfl, ⟨nd, rfl⟩⟩; refine ⟨_, rfl, ?_⟩) | ((with_reducible refine gate_callee (f := 96) rfl ?_); refine goesL_ (some 48) rfl rfl Try.func96 (by kernel_rfl) rfl #[.int .i64 (wrap64 ((wrap64 (t103 * 2097152)) + (t104 / 2097152))), .int .i64 (wrap64 ((Go.bits .and .i64 t104 2097151) * 2097152)), .int .i64 t105, .int .i64 t106] rfl mp_ ?_; (with_reducible refine (discs_add.calls (wrap64 ((wrap64 (t103 * 2097152)) + (t104 / 2097152))) (wrap64 ((Go.bits .and .i64 t104 2097151) * 2097152)) t105 t106 t107 t108 _ A6.out).mono ?_); rintro e w' ⟨rfl, ⟨nd, rfl⟩⟩; refine ⟨_, rfl, ?_⟩))
  go_ret2
  exact ⟨by first | rfl | (simp; done) | (simp [*]; done), by repeat (first | exact Drawn0.refl _ | apply Drawn0.step)⟩
 ·rw [if_neg c3] at H
  have c3b0 : decide (a1 < 0) = false := decide_eq_false c3
  clear c3
  replace H := Option.bind_eq_some_iff.mp H
  obtain ⟨⟨t109, t110⟩, A70, H⟩ := H
  replace H : ((discs_split.f a0 (Go.bits .and .i64 a1 2097151)).bind fun bt111 => ((discs_add.f (wrap64 ((wrap64 (t109 * 2097152)) + (t110 / 2097152))) (wrap64 ((Go.bits .and .i64 t110 2097151) * 2097152)) bt111.1 bt111.2).bind fun bt113 => (some (bt113.1, bt113.2)))) = some (r1, r2) := H
  have A7 := Aside0.mk A70
  clear A70
  replace H := Option.bind_eq_some_iff.mp H
  obtain ⟨⟨t111, t112⟩, A80, H⟩ := H
  replace H : ((discs_add.f (wrap64 ((wrap64 (t109 * 2097152)) + (t110 / 2097152))) (wrap64 ((Go.bits .and .i64 t110 2097151) * 2097152)) t111 t112).bind fun bt113 => (some (bt113.1, bt113.2))) = some (r1, r2) := H
  have A8 := Aside0.mk A80
  clear A80
  replace H := Option.bind_eq_some_iff.mp H
  obtain ⟨⟨t113, t114⟩, A90, H⟩ := H
  replace H : (some (t113, t114)) = some (r1, r2) := H
  have A9 := Aside0.mk A90
  clear A90
  simp only [Option.some.injEq, Prod.mk.injEq] at H
  obtain ⟨rfl, rfl⟩ := H
  go_enter Try.func95, Try.ntmps95
  go_wp2_with (first | ((with_reducible refine gate_callee (f := 105) rfl ?_); refine goesL_ (some 27) rfl rfl Try.func105 (by kernel_rfl) rfl #[.int .i64 a0, .int .i64 (a1 / 2097152)] rfl mp_ ?_; (with_reducible refine (discs_split.calls a0 (a1 / 2097152) t109 t110 _ A7.out).mono ?_); rintro e w' ⟨rfl, ⟨nd, rfl⟩⟩; refine ⟨_, rfl, ?_⟩) | ((with_reducible refine gate_callee (f := 105) rfl ?_); refine goesL_ (some 33) rfl rfl Try.func105 (by kernel_rfl) rfl #[.int .i64 a0, .int .i64 (Go.bits .and .i64 a1 2097151)] rfl mp_ ?_; (with_reducible refine (discs_split.calls a0 (Go.bits .and .i64 a1 2097151) t111 t112 _ A8.out).mono ?_); rintro e w' ⟨rfl, ⟨nd, rfl⟩⟩; refine ⟨_, rfl, ?_⟩) | ((with_reducible refine gate_callee (f := 96) rfl ?_); refine goesL_ (some 48) rfl rfl Try.func96 (by kernel_rfl) rfl #[.int .i64 (wrap64 ((wrap64 (t109 * 2097152)) + (t110 / 2097152))), .int .i64 (wrap64 ((Go.bits .and .i64 t110 2097151) * 2097152)), .int .i64 t111, .int .i64 t112] rfl mp_ ?_; (with_reducible refine (discs_add.calls (wrap64 ((wrap64 (t109 * 2097152)) + (t110 / 2097152))) (wrap64 ((Go.bits .and .i64 t110 2097151) * 2097152)) t111 t112 t113 t114 _ A9.out).mono ?_); rintro e w' ⟨rfl, ⟨nd, rfl⟩⟩; refine ⟨_, rfl, ?_⟩))
  go_ret2
  exact ⟨by first | rfl | (simp; done) | (simp [*]; done), by repeat (first | exact Drawn0.refl _ | apply Drawn0.step)⟩

/-! ### discs_square: function 73 -/
def discs_square.f (a0 : Int) (a1 : Int) (a2 : Int) (a3 : Int) : Option (Bool) := (discs_product.f a0 a0).bind fun bt115 => ((discs_product.f a1 a2).bind fun bt117 => ((discs_product.f (wrap64 (a1 + a2)) a3).bind fun bt119 => ((discs_add.f bt117.1 bt117.2 bt119.1 bt119.2).bind fun bt121 => (if bt115.1 = bt121.1 then (some (bt115.2 == bt121.2)) else (some false)))))
theorem discs_square.calls (a0 : Int) (a1 : Int) (a2 : Int) (a3 : Int) (r : Bool) (w : World) (h : discs_square.f a0 a1 a2 a3 = some r) :
  Calls Try.prog 73 #[.int .i64 a0, .int .i64 a1, .int .i64 a2, .int .i64 a3] w fun e w' => e = .returned (.bool r) ∧ Drawn0 w w' := by
 have H : ((discs_product.f a0 a0).bind fun bt115 => ((discs_product.f a1 a2).bind fun bt117 => ((discs_product.f (wrap64 (a1 + a2)) a3).bind fun bt119 => ((discs_add.f bt117.1 bt117.2 bt119.1 bt119.2).bind fun bt121 => (if bt115.1 = bt121.1 then (some (bt115.2 == bt121.2)) else (some false)))))) = some r := h
 clear h
 replace H := Option.bind_eq_some_iff.mp H
 obtain ⟨⟨t115, t116⟩, A50, H⟩ := H
 replace H : ((discs_product.f a1 a2).bind fun bt117 => ((discs_product.f (wrap64 (a1 + a2)) a3).bind fun bt119 => ((discs_add.f bt117.1 bt117.2 bt119.1 bt119.2).bind fun bt121 => (if t115 = bt121.1 then (some (t116 == bt121.2)) else (some false))))) = some r := H
 have A5 := Aside0.mk A50
 clear A50
 replace H := Option.bind_eq_some_iff.mp H
 obtain ⟨⟨t117, t118⟩, A60, H⟩ := H
 replace H : ((discs_product.f (wrap64 (a1 + a2)) a3).bind fun bt119 => ((discs_add.f t117 t118 bt119.1 bt119.2).bind fun bt121 => (if t115 = bt121.1 then (some (t116 == bt121.2)) else (some false)))) = some r := H
 have A6 := Aside0.mk A60
 clear A60
 replace H := Option.bind_eq_some_iff.mp H
 obtain ⟨⟨t119, t120⟩, A70, H⟩ := H
 replace H : ((discs_add.f t117 t118 t119 t120).bind fun bt121 => (if t115 = bt121.1 then (some (t116 == bt121.2)) else (some false))) = some r := H
 have A7 := Aside0.mk A70
 clear A70
 replace H := Option.bind_eq_some_iff.mp H
 obtain ⟨⟨t121, t122⟩, A80, H⟩ := H
 replace H : (if t115 = t121 then (some (t116 == t122)) else (some false)) = some r := H
 have A8 := Aside0.mk A80
 clear A80
 by_cases c9 : t115 = t121
 ·rw [if_pos c9] at H
  have c9b0 : (t115 == t121) = true := beq_iff_eq.mpr c9
  have c9b1 : (t115 != t121) = false := bne_eq_false_iff_eq.mpr c9
  clear c9
  obtain rfl := Option.some.inj H
  go_enter Try.func73, Try.ntmps73
  go_wp2_with (first | ((with_reducible refine gate_callee (f := 95) rfl ?_); refine goesL_ (some 18) rfl rfl Try.func95 (by kernel_rfl) rfl #[.int .i64 a0, .int .i64 a0] rfl mp_ ?_; (with_reducible refine (discs_product.calls a0 a0 t115 t116 _ A5.out).mono ?_); rintro e w' ⟨rfl, ⟨nd, rfl⟩⟩; refine ⟨_, rfl, ?_⟩) | ((with_reducible refine gate_callee (f := 95) rfl ?_); refine goesL_ (some 24) rfl rfl Try.func95 (by kernel_rfl) rfl #[.int .i64 a1, .int .i64 a2] rfl mp_ ?_; (with_reducible refine (discs_product.calls a1 a2 t117 t118 _ A6.out).mono ?_); rintro e w' ⟨rfl, ⟨nd, rfl⟩⟩; refine ⟨_, rfl, ?_⟩) | ((with_reducible refine gate_callee (f := 95) rfl ?_); refine goesL_ (some 32) rfl rfl Try.func95 (by kernel_rfl) rfl #[.int .i64 (wrap64 (a1 + a2)), .int .i64 a3] rfl mp_ ?_; (with_reducible refine (discs_product.calls (wrap64 (a1 + a2)) a3 t119 t120 _ A7.out).mono ?_); rintro e w' ⟨rfl, ⟨nd, rfl⟩⟩; refine ⟨_, rfl, ?_⟩) | ((with_reducible refine gate_callee (f := 96) rfl ?_); refine goesL_ (some 40) rfl rfl Try.func96 (by kernel_rfl) rfl #[.int .i64 t117, .int .i64 t118, .int .i64 t119, .int .i64 t120] rfl mp_ ?_; (with_reducible refine (discs_add.calls t117 t118 t119 t120 t121 t122 _ A8.out).mono ?_); rintro e w' ⟨rfl, ⟨nd, rfl⟩⟩; refine ⟨_, rfl, ?_⟩))
  go_ret
  exact ⟨by first | rfl | (simp; done) | (simp [*]; done), by repeat (first | exact Drawn0.refl _ | apply Drawn0.step)⟩
 ·rw [if_neg c9] at H
  have c9b0 : (t115 == t121) = false := beq_eq_false_iff_ne.mpr c9
  have c9b1 : (t115 != t121) = true := bne_iff_ne.mpr c9
  obtain rfl := Option.some.inj H
  go_enter Try.func73, Try.ntmps73
  go_wp2_with (first | ((with_reducible refine gate_callee (f := 95) rfl ?_); refine goesL_ (some 18) rfl rfl Try.func95 (by kernel_rfl) rfl #[.int .i64 a0, .int .i64 a0] rfl mp_ ?_; (with_reducible refine (discs_product.calls a0 a0 t115 t116 _ A5.out).mono ?_); rintro e w' ⟨rfl, ⟨nd, rfl⟩⟩; refine ⟨_, rfl, ?_⟩) | ((with_reducible refine gate_callee (f := 95) rfl ?_); refine goesL_ (some 24) rfl rfl Try.func95 (by kernel_rfl) rfl #[.int .i64 a1, .int .i64 a2] rfl mp_ ?_; (with_reducible refine (discs_product.calls a1 a2 t117 t118 _ A6.out).mono ?_); rintro e w' ⟨rfl, ⟨nd, rfl⟩⟩; refine ⟨_, rfl, ?_⟩) | ((with_reducible refine gate_callee (f := 95) rfl ?_); refine goesL_ (some 32) rfl rfl Try.func95 (by kernel_rfl) rfl #[.int .i64 (wrap64 (a1 + a2)), .int .i64 a3] rfl mp_ ?_; (with_reducible refine (discs_product.calls (wrap64 (a1 + a2)) a3 t119 t120 _ A7.out).mono ?_); rintro e w' ⟨rfl, ⟨nd, rfl⟩⟩; refine ⟨_, rfl, ?_⟩) | ((with_reducible refine gate_callee (f := 96) rfl ?_); refine goesL_ (some 40) rfl rfl Try.func96 (by kernel_rfl) rfl #[.int .i64 t117, .int .i64 t118, .int .i64 t119, .int .i64 t120] rfl mp_ ?_; (with_reducible refine (discs_add.calls t117 t118 t119 t120 t121 t122 _ A8.out).mono ?_); rintro e w' ⟨rfl, ⟨nd, rfl⟩⟩; refine ⟨_, rfl, ?_⟩))
  go_ret
  exact ⟨by first | rfl | (simp; done) | (simp [*]; done), by repeat (first | exact Drawn0.refl _ | apply Drawn0.step)⟩

/-- THE ONE PURE STATEMENT of discs_square: yours. -/
def discs_square.Pure : Prop := ∀ (a0 : Int) (a1 : Int) (a2 : Int) (a3 : Int), (Lit.int .i64 a0).wf = true → (Lit.int .i64 a1).wf = true → (Lit.int .i64 a2).wf = true → (Lit.int .i64 a3).wf = true → discs_square.f a0 a1 a2 a3 = some true
theorem discs_square.walk (P : discs_square.Pure) (a0 : Int) (a1 : Int) (a2 : Int) (a3 : Int) (w : World) (w0 : (Lit.int .i64 a0).wf = true) (w1 : (Lit.int .i64 a1).wf = true) (w2 : (Lit.int .i64 a2).wf = true) (w3 : (Lit.int .i64 a3).wf = true) :
  Calls Try.prog 73 #[.int .i64 a0, .int .i64 a1, .int .i64 a2, .int .i64 a3] w fun e w' => e = .returned (.bool true) ∧ Below w.heap.size w w' := by
 have h := P a0 a1 a2 a3 w0 w1 w2 w3
 refine (discs_square.calls a0 a1 a2 a3 true w h).mono ?_
 rintro e w' ⟨rfl, hd⟩
 exact ⟨rfl, hd.below⟩

/-! ### discs_root2: function 43 -/
def discs_root2.l0 : Nat → Int → Int → Int → Option (Int)
 | 0, _, _, _ => none
 | k + 1, x0, x3, x4 => if x3 < x4 then (if (wrap64 ((wrap64 (Int.tdiv (wrap64 ((wrap64 (x3 + x4)) + 1)) 2)) * (wrap64 (Int.tdiv (wrap64 ((wrap64 (x3 + x4)) + 1)) 2)))) ≤ x0 then (discs_root2.l0 k x0 (wrap64 (Int.tdiv (wrap64 ((wrap64 (x3 + x4)) + 1)) 2)) x4) else (discs_root2.l0 k x0 x3 (wrap64 ((wrap64 (Int.tdiv (wrap64 ((wrap64 (x3 + x4)) + 1)) 2)) - 1)))) else (some x3)
def discs_root2.f (k : Nat) (a0 : Int) : Option (Int) := discs_root2.l0 k a0 0 4194304
theorem discs_root2.mono_l : ∀ k, (∀ y0 y1 y2, LeO (discs_root2.l0 k y0 y1 y2) (discs_root2.l0 (k + 1) y0 y1 y2))
 | 0 => fun _ _ _ r h => by simp [discs_root2.l0] at h
 | k + 1 => by
  have ih0 := discs_root2.mono_l k
  ·intro y0 y1 y2
   unfold discs_root2.l0
   repeat' first
   | (with_reducible exact ih0 _ _ _)
   | (with_reducible exact LeO.refl _)
   | (with_reducible exact LeO.none _)
   | (with_reducible refine LeO.ite ?_ ?_)
   | (with_reducible refine LeO.bind ?_ (fun _ => ?_))
   | exact ih0 _ _ _
   | exact LeO.none _
   | refine LeO.ite ?_ ?_
   | refine LeO.bind ?_ (fun _ => ?_)
theorem discs_root2.mono : ∀ a0 k, LeO (discs_root2.f k a0) (discs_root2.f (k + 1) a0) := by
 intro a0 k
 have ih0 := discs_root2.mono_l k
 unfold discs_root2.f
 repeat' first
   | (with_reducible exact ih0 _ _ _)
   | (with_reducible exact LeO.refl _)
   | (with_reducible exact LeO.none _)
   | (with_reducible refine LeO.ite ?_ ?_)
   | (with_reducible refine LeO.bind ?_ (fun _ => ?_))
   | exact ih0 _ _ _
   | exact LeO.none _
   | refine LeO.ite ?_ ?_
   | refine LeO.bind ?_ (fun _ => ?_)
theorem discs_root2.calls (k : Nat) (a0 : Int) (r : Int) (w : World) (h : discs_root2.f k a0 = some r) :
  Calls Try.prog 43 #[.int .i64 a0] w fun e w' => e = .returned (.int .i64 r) ∧ Drawn0 w w' := by
 have H : (discs_root2.l0 k a0 0 4194304) = some r := h
 clear h
 have H' := Aside0.mk H
 clear H
 go_enter Try.func43, Try.ntmps43
 go_wp2
 go_loopg [3, 4] k (fun kq v3 v4 w' => ∃ (x3_1 : Int) (x4_1 : Int), v3 = .int .i64 x3_1 ∧ v4 = .int .i64 x4_1 ∧ Aside0 (discs_root2.l0 kq a0 x3_1 x4_1 = some r) ∧ Aside0 (kq ≤ k) ∧ Drawn0 w w')
 case atStart => exact ⟨(0), (4194304), eq_, eq_, H', ⟨Nat.le_refl _⟩, by repeat (first | exact Drawn0.refl _ | apply Drawn0.step)⟩
 case round =>
  clear H'
  obtain ⟨x3_1, x4_1, rfl, rfl, HA, HK1, ⟨m1, rfl⟩⟩ := hrel
  cases gk with
  | zero => exact absurd HA.out (by simp [discs_root2.l0])
  | succ k1 =>
   have H := HA.out
   clear HA
   simp only [discs_root2.l0] at H
   by_cases c2 : x3_1 < x4_1
   ·rw [if_pos c2] at H
    have c2b0 : decide (x3_1 < x4_1) = true := decide_eq_true c2
    clear c2
    by_cases c3 : (wrap64 ((wrap64 (Int.tdiv (wrap64 ((wrap64 (x3_1 + x4_1)) + 1)) 2)) * (wrap64 (Int.tdiv (wrap64 ((wrap64 (x3_1 + x4_1)) + 1)) 2)))) ≤ a0
    ·rw [if_pos c3] at H
     have c3b0 : decide ((wrap64 ((wrap64 (Int.tdiv (wrap64 ((wrap64 (x3_1 + x4_1)) + 1)) 2)) * (wrap64 (Int.tdiv (wrap64 ((wrap64 (x3_1 + x4_1)) + 1)) 2)))) ≤ a0) = true := decide_eq_true c3
     clear c3
     have H' := Aside0.mk H
     clear H
     go_wp2
     go_roundg k1
     case measure => have := HK1.out; omega
     case rel => exact ⟨(wrap64 (Int.tdiv (wrap64 ((wrap64 (x3_1 + x4_1)) + 1)) 2)), (x4_1), eq_, eq_, H', ⟨by have := HK1.out; omega⟩, by repeat (first | exact Drawn0.refl _ | apply Drawn0.step)⟩
    ·rw [if_neg c3] at H
     have c3b0 : decide ((wrap64 ((wrap64 (Int.tdiv (wrap64 ((wrap64 (x3_1 + x4_1)) + 1)) 2)) * (wrap64 (Int.tdiv (wrap64 ((wrap64 (x3_1 + x4_1)) + 1)) 2)))) ≤ a0) = false := decide_eq_false c3
     clear c3
     have H' := Aside0.mk H
     clear H
     go_wp2
     go_roundg k1
     case measure => have := HK1.out; omega
     case rel => exact ⟨(x3_1), (wrap64 ((wrap64 (Int.tdiv (wrap64 ((wrap64 (x3_1 + x4_1)) + 1)) 2)) - 1)), eq_, eq_, H', ⟨by have := HK1.out; omega⟩, by repeat (first | exact Drawn0.refl _ | apply Drawn0.step)⟩
   ·rw [if_neg c2] at H
    have c2b0 : decide (x3_1 < x4_1) = false := decide_eq_false c2
    clear c2
    obtain rfl := Option.some.inj H
    go_wp2
    go_ret
    exact ⟨by first | rfl | (simp; done) | (simp [*]; done), by repeat (first | exact Drawn0.refl _ | apply Drawn0.step)⟩

/-! ### discs_rest: function 54 -/
def discs_rest.f (a0 : Int) : Option (Int) := some (Int.tmod (wrap64 ((Int.tmod a0 24) + 24)) 24)
theorem discs_rest.calls (a0 : Int) (r : Int) (w : World) (h : discs_rest.f a0 = some r) :
  Calls Try.prog 54 #[.int .i64 a0] w fun e w' => e = .returned (.int .i64 r) ∧ Drawn0 w w' := by
 have H : (some (Int.tmod (wrap64 ((Int.tmod a0 24) + 24)) 24)) = some r := h
 clear h
 obtain rfl := Option.some.inj H
 go_enter Try.func54, Try.ntmps54
 go_wp2
 go_ret
 exact ⟨by first | rfl | (simp; done) | (simp [*]; done), by repeat (first | exact Drawn0.refl _ | apply Drawn0.step)⟩

/-! ### clocheref01_rest: function 55 -/
def clocheref01_rest.f (a0 : Int) : Option (Int) := some (Int.tmod (wrap64 ((Int.tmod a0 24) + 24)) 24)
theorem clocheref01_rest.calls (a0 : Int) (r : Int) (w : World) (h : clocheref01_rest.f a0 = some r) :
  Calls Try.prog 55 #[.int .i64 a0] w fun e w' => e = .returned (.int .i64 r) ∧ Drawn0 w w' := by
 have H : (some (Int.tmod (wrap64 ((Int.tmod a0 24) + 24)) 24)) = some r := h
 clear h
 obtain rfl := Option.some.inj H
 go_enter Try.func55, Try.ntmps55
 go_wp2
 go_ret
 exact ⟨by first | rfl | (simp; done) | (simp [*]; done), by repeat (first | exact Drawn0.refl _ | apply Drawn0.step)⟩

/-! ### cmp_isNaN_int: function 93 -/
def cmp_isNaN_int.f (a0 : Int) : Option (Bool) := some (a0 != a0)
theorem cmp_isNaN_int.calls (a0 : Int) (r : Bool) (w : World) (h : cmp_isNaN_int.f a0 = some r) :
  Calls Try.prog 93 #[.int .i64 a0] w fun e w' => e = .returned (.bool r) ∧ Drawn0 w w' := by
 have H : (some (a0 != a0)) = some r := h
 clear h
 obtain rfl := Option.some.inj H
 go_enter Try.func93, Try.ntmps93
 go_wp2
 go_ret
 exact ⟨by first | rfl | (simp; done) | (simp [*]; done), by repeat (first | exact Drawn0.refl _ | apply Drawn0.step)⟩

/-! ### cmp_Less_int: function 74 -/
def cmp_Less_int.f (a0 : Int) (a1 : Int) : Option (Bool) := (cmp_isNaN_int.f a0).bind fun t123 => (if t123 = true then ((cmp_isNaN_int.f a1).bind fun t124 => (if t124 = true then (some (decide (a0 < a1))) else (some true))) else (some (decide (a0 < a1))))
theorem cmp_Less_int.calls (a0 : Int) (a1 : Int) (r : Bool) (w : World) (h : cmp_Less_int.f a0 a1 = some r) :
  Calls Try.prog 74 #[.int .i64 a0, .int .i64 a1] w fun e w' => e = .returned (.bool r) ∧ Drawn0 w w' := by
 have H : ((cmp_isNaN_int.f a0).bind fun t123 => (if t123 = true then ((cmp_isNaN_int.f a1).bind fun t124 => (if t124 = true then (some (decide (a0 < a1))) else (some true))) else (some (decide (a0 < a1))))) = some r := h
 clear h
 replace H := Option.bind_eq_some_iff.mp H
 obtain ⟨t123, A30, H⟩ := H
 replace H : (if t123 = true then ((cmp_isNaN_int.f a1).bind fun t124 => (if t124 = true then (some (decide (a0 < a1))) else (some true))) else (some (decide (a0 < a1)))) = some r := H
 have A3 := Aside0.mk A30
 clear A30
 by_cases c4 : t123 = true
 ·subst c4
  have H1 : ((cmp_isNaN_int.f a1).bind fun t124 => (if t124 = true then (some (decide (a0 < a1))) else (some true))) = some r := by rw [if_pos rfl] at H; exact H
  clear H
  have H := H1
  clear H1
  replace H := Option.bind_eq_some_iff.mp H
  obtain ⟨t124, A50, H⟩ := H
  replace H : (if t124 = true then (some (decide (a0 < a1))) else (some true)) = some r := H
  have A5 := Aside0.mk A50
  clear A50
  by_cases c6 : t124 = true
  ·subst c6
   have H1 : (some (decide (a0 < a1))) = some r := by rw [if_pos rfl] at H; exact H
   clear H
   have H := H1
   clear H1
   obtain rfl := Option.some.inj H
   go_enter Try.func74, Try.ntmps74
   go_wp2_with (first | ((with_reducible refine gate_callee (f := 93) rfl ?_); refine goesL_ (some 6) rfl rfl Try.func93 (by kernel_rfl) rfl #[.int .i64 a0] rfl mp_ ?_; (with_reducible refine (cmp_isNaN_int.calls a0 true _ A3.out).mono ?_); rintro e w' ⟨rfl, ⟨nd, rfl⟩⟩; refine ⟨_, rfl, ?_⟩) | (go_at_call 93; (with_reducible refine (cmp_isNaN_int.calls a1 true _ A5.out).mono ?_); rintro e w' ⟨rfl, ⟨nd, rfl⟩⟩))
   go_ret
   exact ⟨by first | rfl | (simp; done) | (simp [*]; done), by repeat (first | exact Drawn0.refl _ | apply Drawn0.step)⟩
  ·replace c6 := Bool.eq_false_iff.mpr c6
   subst c6
   have H1 : (some true) = some r := by rw [if_neg (show ¬ (false = true) by decide)] at H; exact H
   clear H
   have H := H1
   clear H1
   obtain rfl := Option.some.inj H
   go_enter Try.func74, Try.ntmps74
   go_wp2_with (first | ((with_reducible refine gate_callee (f := 93) rfl ?_); refine goesL_ (some 6) rfl rfl Try.func93 (by kernel_rfl) rfl #[.int .i64 a0] rfl mp_ ?_; (with_reducible refine (cmp_isNaN_int.calls a0 true _ A3.out).mono ?_); rintro e w' ⟨rfl, ⟨nd, rfl⟩⟩; refine ⟨_, rfl, ?_⟩) | (go_at_call 93; (with_reducible refine (cmp_isNaN_int.calls a1 false _ A5.out).mono ?_); rintro e w' ⟨rfl, ⟨nd, rfl⟩⟩))
   go_ret
   exact ⟨by first | rfl | (simp; done) | (simp [*]; done), by repeat (first | exact Drawn0.refl _ | apply Drawn0.step)⟩
 ·replace c4 := Bool.eq_false_iff.mpr c4
  subst c4
  have H1 : (some (decide (a0 < a1))) = some r := by rw [if_neg (show ¬ (false = true) by decide)] at H; exact H
  clear H
  have H := H1
  clear H1
  obtain rfl := Option.some.inj H
  go_enter Try.func74, Try.ntmps74
  go_wp2_with (first | ((with_reducible refine gate_callee (f := 93) rfl ?_); refine goesL_ (some 6) rfl rfl Try.func93 (by kernel_rfl) rfl #[.int .i64 a0] rfl mp_ ?_; (with_reducible refine (cmp_isNaN_int.calls a0 false _ A3.out).mono ?_); rintro e w' ⟨rfl, ⟨nd, rfl⟩⟩; refine ⟨_, rfl, ?_⟩))
  go_ret
  exact ⟨by first | rfl | (simp; done) | (simp [*]; done), by repeat (first | exact Drawn0.refl _ | apply Drawn0.step)⟩

end Go.Proofs.Ytlfmafebmnggeaa.Print
