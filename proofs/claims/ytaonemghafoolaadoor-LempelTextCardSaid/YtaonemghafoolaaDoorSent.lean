/-
  What the rows' condition 'laid' gives the walks: each sentinel's variable holds a pointer to an errorString.
-/
import Derived.Test.YtaonemghafoolaaDoorRows
import Derived.WalkKit
import Derived.ProofKit
import Derived.LaidMore
import Derived.OpenShut
import Derived.Stop.Joined
import Derived.Stop.LaidErr
namespace Go.Proofs.YtaonemghafoolaaDoor
open Go.ChangeShapes Go.WideShapes Go.ChangeAt Go.RowKit
theorem Tryd.own : ownKnob Tryd.prog.godebug = none := by kernel_rfl
theorem Tryd.gBound : Tryd.prog.globalNamed "demon/api.ErrBound" = some 0 := by kernel_rfl
theorem Tryd.gShape : Tryd.prog.globalNamed "demon/api.ErrShape" = some 1 := by kernel_rfl
theorem Tryd.tBound : (Tryd.prog.globals[0]?).map (·.type) = some 25 := by kernel_rfl
theorem Tryd.tShape : (Tryd.prog.globals[1]?).map (·.type) = some 25 := by kernel_rfl
theorem Tryd.cells130 : Tryd.prog.cellsOf 130 = 1 := by kernel_rfl
theorem Tryd.cells9 : Tryd.prog.cellsOf 9 = 1 := by kernel_rfl
theorem Tryd.star : "*" ++ "errors.errorString" = "*errors.errorString" := by decide
theorem Tryd.row108 (u : TypeId) (h : Tryd.prog.typeName? 3 u = some "*errors.errorString") : u = 108 :=
  typeName_ptr_named (nm := "errors.errorString") (by rw [Tryd.star]; kernel_rfl) (by kernel_rfl) (by decide) u (by rw [Tryd.star]; exact h)
/-- ErrBound, the head of a list. -/
theorem bound_of_laid {W : World} {r : List (String × DataW Unit)} (h : laidMet Tryd.prog (("demon/api.ErrBound", Rows.laid_demon_api_ErrBound) :: r) W) : ∃ ea : Addr, W.cell? ⟨0, 0, none⟩ = some (.iface 108 (.pointer (some ea))) := by
  obtain ⟨a, s, hv, _⟩ := laid_sentinel h Tryd.gBound Tryd.tBound Tryd.underlying25 Tryd.row108 Tryd.underlying108 Tryd.underlying130 rfl rfl Tryd.underlying9 Tryd.cells130 Tryd.cells9
  exact ⟨a, by simpa using World.var?_cell Tryd.gBound hv 0⟩
end Go.Proofs.YtaonemghafoolaaDoor
