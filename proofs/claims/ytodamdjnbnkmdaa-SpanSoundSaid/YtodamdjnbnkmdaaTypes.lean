/- The sizes of the types that the walks meet. Conditions: none. -/
import Derived.Test.YtodamdjnbnkmdaaLaws
set_option linter.unusedSimpArgs false
set_option linter.unusedVariables false
namespace Go.Proofs.Ytodamdjnbnkmdaa
theorem tInt : CellT Try.prog 3 := ⟨by kernel_rfl, by kernel_rfl⟩
theorem tBool : CellT Try.prog 4 := ⟨by kernel_rfl, by kernel_rfl⟩
theorem tErrno : CellT Try.prog 27 := ⟨by kernel_rfl, by kernel_rfl⟩
theorem tSpan : AggT Try.prog 23 3 := ⟨by kernel_rfl, by kernel_rfl⟩
theorem zSpan : ZeroT Try.prog 23 [.bool false, .int .i64 0, .int .i64 0] := ⟨by kernel_rfl⟩
theorem sInts : SliceT Try.prog 48 3 [.int .i64 0] := ⟨by kernel_rfl, ⟨by kernel_rfl⟩, ⟨by kernel_rfl⟩⟩
theorem sSpans : SliceT Try.prog 24 23 [.bool false, .int .i64 0, .int .i64 0] := ⟨by kernel_rfl, ⟨by kernel_rfl⟩, ⟨by kernel_rfl⟩⟩
end Go.Proofs.Ytodamdjnbnkmdaa
