/-
  The rows of the program's table of types that the walks of this seat use.
-/
import Derived.Test.YtaabfkcbkcmneaaMem
import Derived.Test.YtaabfkcbkcmneaaProg
namespace Go.Proofs.Ytaabfkcbkcmneaa
open B Go.RowKit
theorem mixed : Try.prog.follows .mixedOrders = true := by kernel_rfl
theorem sc2 : ScalarT Try.prog 2 := fun w => Try.isAgg2 w
theorem sc3 : ScalarT Try.prog 3 := fun w => Try.isAgg3 w
theorem sc4 : ScalarT Try.prog 4 := fun w => Try.isAgg4 w
theorem sc5 : ScalarT Try.prog 5 := fun w => Try.isAgg5 w
theorem sc6 : ScalarT Try.prog 6 := fun w => Try.isAgg6 w
theorem sc9 : ScalarT Try.prog 9 := fun w => Try.isAgg9 w
theorem sc10 : ScalarT Try.prog 10 := fun w => Try.isAgg10 w
theorem sc11 : ScalarT Try.prog 11 := fun w => Try.isAgg11 w
theorem sc12 : ScalarT Try.prog 12 := fun w => Try.isAgg12 w
theorem sc15 : ScalarT Try.prog 15 := fun w => Try.isAgg15 w
theorem sc16 : ScalarT Try.prog 16 := fun w => Try.isAgg16 w
theorem sc17 : ScalarT Try.prog 17 := fun w => Try.isAgg17 w
theorem sc21 : ScalarT Try.prog 21 := fun w => Try.isAgg21 w
theorem sT22 : SliceT Try.prog 22 34 (.slice none 0 0) 24 := ⟨Try.underlying22, ⟨Try.t34, by kernel_rfl, by kernel_rfl, by kernel_rfl, by kernel_rfl⟩, rfl⟩
theorem sc22 : ScalarT Try.prog 22 := fun w => Try.isAgg22 w
theorem sT34 : SliceT Try.prog 34 2 (.int .i64 0) 8 := ⟨Try.underlying34, ⟨Try.t2, by kernel_rfl, by kernel_rfl, by kernel_rfl, by kernel_rfl⟩, rfl⟩
theorem sc34 : ScalarT Try.prog 34 := fun w => Try.isAgg34 w
theorem sc54 : ScalarT Try.prog 54 := fun w => Try.isAgg54 w
theorem sc55 : ScalarT Try.prog 55 := fun w => Try.isAgg55 w
theorem sc56 : ScalarT Try.prog 56 := fun w => Try.isAgg56 w
theorem sc58 : ScalarT Try.prog 58 := fun w => Try.isAgg58 w
theorem sc59 : ScalarT Try.prog 59 := fun w => Try.isAgg59 w
theorem sc60 : ScalarT Try.prog 60 := fun w => Try.isAgg60 w
end Go.Proofs.Ytaabfkcbkcmneaa
