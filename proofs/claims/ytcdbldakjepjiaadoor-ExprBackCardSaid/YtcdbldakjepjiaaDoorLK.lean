/- What the package's variables hold at the start, as the rows list it. -/
import Derived.Test.YtcdbldakjepjiaaDoorRows
import Derived.Test.YtcdbldakjepjiaaDoorCards
import Derived.Test.YtcdbldakjepjiaaDoorTie
import Derived.Test.YtcdbldakjepjiaaDoorG
import Derived.ProofKit
import Derived.OpenShut
import Derived.ShutString
import Derived.ChangeOld
import Derived.SizedLaws
import Derived.LaidMore
import Derived.Lay
import Derived.LaidOnce
import Derived.SevenTiedAt
import Derived.Deep.DeepHandedRow
import Derived.Stop.LaidErr
set_option linter.unusedVariables false
set_option linter.unusedSimpArgs false
namespace Go.Proofs.YtcdbldakjepjiaaDoor
open Go.ChangeShapes Go.WideShapes Go.ChangeAt Go.RowKit

theorem lawOwn : ownKnob Tryd.prog.godebug = none := by kernel_rfl
theorem lawLaid : laidOutB Tryd.prog = true := by kernel_rfl
def lawVars : List (String × DataW Unit) := [("math/bits.deBruijn32tab", Rows.laid_math_bits_deBruijn32tab), ("math/bits.deBruijn64tab", Rows.laid_math_bits_deBruijn64tab), ("internal/strconv.uint64pow10", Rows.laid_internal_strconv_uint64pow10), ("strconv.ErrRange", Rows.laid_strconv_ErrRange), ("strconv.ErrSyntax", Rows.laid_strconv_ErrSyntax)]

/-! ### What the package's variables hold -/
theorem star : "*" ++ "errors.errorString" = "*errors.errorString" := by decide
theorem rowErr (u : TypeId) (h : Tryd.prog.typeName? 3 u = some "*errors.errorString") : u = 163 :=
  typeName_ptr_named (nm := "errors.errorString") (by rw [star]; kernel_rfl) (by kernel_rfl) (by decide) u (by rw [star]; exact h)
theorem gok_of_laid {W : World} (h : laidMetH Tryd.prog lawVars W) : Gok fun b o => W.cell? ⟨b, o, none⟩ := by
  rw [MakeChecks.laidMetH_plain _ _ _ (by kernel_rfl)] at h
  have h3 := h.tail.tail
  constructor
  · obtain ⟨a0, s0, hv0, -, -, -⟩ := laid_sentinel (g := 5) (ti := 84) (tp := 163) (te := 165) (ts := 9) h3.tail (by kernel_rfl) (by kernel_rfl) Tryd.underlying84 rowErr Tryd.underlying163 Tryd.underlying165 rfl rfl Tryd.underlying9 (by kernel_rfl) (by kernel_rfl)
    exact ⟨_, by have h0 := World.var?_cell (P := Tryd.prog) (g := 5) (by kernel_rfl) hv0 0; simpa using h0, .inr ⟨_, _, rfl⟩⟩
  · intro i hi
    obtain ⟨ps, ⟨g, t, cs, fuel, p, q, hg, ht, hv, hd, _, _⟩, _, _⟩ := h3
    obtain rfl := Option.some.inj ((show Tryd.prog.globalNamed "internal/strconv.uint64pow10" = some 0 by kernel_rfl).symm.trans hg)
    obtain rfl := Option.some.inj ((show (Tryd.prog.globals[0]?).map (·.type) = some 143 by kernel_rfl).symm.trans ht)
    obtain ⟨xs, m, _, ex, _, hl, hel⟩ := DataW.trod_array Tryd.underlying143 hd
    have c5 : Tryd.prog.cellsOf 28 = 1 := by kernel_rfl
    have hE := hel i hi
    rw [c5, Nat.mul_one, List.getElem?_eq_getElem (by omega)] at hE
    obtain ⟨z, e1, e2, _⟩ := DataW.trod_int Tryd.underlying28 hE
    have e3 : (xs.map (·.1)) = ((List.range 20).map fun n => (DataW.lit (.int .u64 (10 ^ n)) : DataW Unit)) := by
      rw [← (DataW.agg.inj (Prod.mk.inj ex).1)]
      rfl
    have e4 : (xs.map (·.1))[i]? = ((List.range 20).map fun n => (DataW.lit (.int .u64 (10 ^ n)) : DataW Unit))[i]? := by rw [e3]
    rw [List.getElem?_map, List.getElem?_map, List.getElem?_eq_getElem (by omega : i < xs.length), List.getElem?_range hi, e2] at e4
    have hz : z = 10 ^ i := by
      simp only [Option.map_some, Option.some.injEq, DataW.lit.injEq, Lit.int.injEq, true_and] at e4
      exact e4
    show W.cell? ⟨0, i, none⟩ = _
    rw [World.var?_cell hg hv i, ← hz]
    have : cs.toList[i]? = some (.int .u64 z) := by
      have h0 : ((cs.toList.drop i).take 1)[0]? = some (.int .u64 z) := by rw [e1]; rfl
      simpa using h0
    simpa using this


end Go.Proofs.YtcdbldakjepjiaaDoor
