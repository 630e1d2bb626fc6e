/- What the two laid tables give the walks. -/
import Derived.Test.YtadfcplobidmeaaDoorTie
import Derived.Test.YtadfcplobidmeaaDoorHandTz
import Derived.LaidMore
import Derived.OpenShut
import Derived.Handy
import Derived.Lay
import Derived.ProofKit
import Derived.RowKit
import Derived.FnData
import Derived.MakeChecks
namespace Go.Proofs.YtadfcplobidmeaaDoor.Laid
open Go.ChangeShapes Go.WideShapes Go.ChangeAt Go.RowKit
open Go.Proofs.YtadfcplobidmeaaDoor.Print
set_option maxRecDepth 100000
def tabs : List (String × DataW Unit) := Rows.visitsNeedsRow.laid
theorem g0 : Tryd.prog.globalNamed "math/bits.deBruijn32tab" = some 0 := by kernel_rfl
theorem g1 : Tryd.prog.globalNamed "math/bits.deBruijn64tab" = some 1 := by kernel_rfl
theorem t1 : (Tryd.prog.globals[1]?).map (·.type) = some 93 := by kernel_rfl
theorem c5 : Tryd.prog.cellsOf 5 = 1 := by kernel_rfl
def lits (l : List Int) : List (DataW Unit) := l.map fun n => .lit (.int .u8 n)
theorem laid64 : (Rows.laid_math_bits_deBruijn64tab : DataW Unit) = .agg (lits tab64) := rfl
theorem tab_of_laid {W : World} (h : laidMetH Tryd.prog tabs W) : Tab W := by
  rw [MakeChecks.laidMetH_plain _ _ _ (by kernel_rfl)] at h
  obtain ⟨ps, ⟨g0', t0, cs0, f0, p0, q0, hg0, ht0, hv0, hd0, ⟨g1', t1', cs1, f1, p1, q1, hg1, ht1, hv1, hd1, _, _⟩, _⟩, _, _⟩ := h
  obtain rfl := Option.some.inj (g1.symm.trans hg1)
  obtain rfl := Option.some.inj (t1.symm.trans ht1)
  obtain ⟨xs, m1, rfl, hx1, hlen, hn, hel⟩ := DataW.trod_array Tryd.underlying93 hd1
  rw [laid64] at hx1
  simp only [Prod.mk.injEq, DataW.agg.injEq] at hx1
  intro i hi
  have h0 := hel i hi
  have hxi : i < xs.length := by omega
  rw [List.getElem?_eq_getElem hxi] at h0
  obtain ⟨k, e1, e2, _⟩ := DataW.trod_int Tryd.underlying5 h0
  have hk : (lits tab64)[i]? = some (.lit (.int .u8 k)) := by
    rw [hx1.1, List.getElem?_map, List.getElem?_eq_getElem hxi, Option.map_some, e2]
  have hk2 : tab64.getD i 0 = k := by
    unfold lits at hk
    rw [List.getElem?_map] at hk
    rw [List.getD_eq_getElem?_getD]
    cases hq : tab64[i]? with
    | none => rw [hq] at hk; exact absurd hk (by simp)
    | some z =>
      rw [hq] at hk
      simp only [Option.map_some, Option.some.injEq, DataW.lit.injEq, Lit.int.injEq, true_and] at hk
      exact hk
  have hc := World.var?_cell hg1 hv1 i
  rw [c5, Nat.mul_one] at e1
  have hci : cs1[i]? = some (.int .u8 k) := by
    have : cs1.toList[i]? = some (.int .u8 k) := by
      have := congrArg (fun z => z[0]?) e1
      simpa [List.getElem?_take, List.getElem?_drop] using this
    simpa using this
  rw [hc, hci, hk2]
theorem met (os : Os) (args : Array Value) : laidMetH Tryd.prog tabs ((World.laidAll Tryd.prog os tabs).forCall (fun _ _ => 0) ⟨#[], args, []⟩).memory := by
  rw [MakeChecks.laidMetH_plain _ _ _ (by kernel_rfl)]
  exact laidMet_laidAll _ (by kernel_rfl) (by kernel_rfl)
end Go.Proofs.YtadfcplobidmeaaDoor.Laid
