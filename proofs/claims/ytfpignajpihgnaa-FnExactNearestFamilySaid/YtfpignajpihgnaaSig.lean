/-
  The rows of the program's table of types that the walks of this seat use.
-/
import Derived.Test.YtfpignajpihgnaaMem
import Derived.Test.YtfpignajpihgnaaProg
namespace Go.Proofs.Ytfpignajpihgnaa
open B Go.RowKit
theorem mixed : Try.prog.follows .mixedOrders = true := by kernel_rfl
theorem sc2 : ScalarT Try.prog 2 := fun w => Try.isAgg2 w
theorem sc3 : ScalarT Try.prog 3 := fun w => Try.isAgg3 w
theorem sc4 : ScalarT Try.prog 4 := fun w => Try.isAgg4 w
theorem sc5 : ScalarT Try.prog 5 := fun w => Try.isAgg5 w
theorem sc6 : ScalarT Try.prog 6 := fun w => Try.isAgg6 w
theorem sc9 : ScalarT Try.prog 9 := fun w => Try.isAgg9 w
theorem sc10 : ScalarT Try.prog 10 := fun w => Try.isAgg10 w
theorem sc11 : ScalarT Try.prog 11 := fun w => Try.isAgg11 w
theorem sc12 : ScalarT Try.prog 12 := fun w => Try.isAgg12 w
theorem sc15 : ScalarT Try.prog 15 := fun w => Try.isAgg15 w
theorem sc16 : ScalarT Try.prog 16 := fun w => Try.isAgg16 w
theorem sc17 : ScalarT Try.prog 17 := fun w => Try.isAgg17 w
theorem sc21 : ScalarT Try.prog 21 := fun w => Try.isAgg21 w
theorem sT25 : SliceT Try.prog 25 2 (.int .i64 0) 8 := ⟨Try.underlying25, ⟨Try.t2, by kernel_rfl, by kernel_rfl, by kernel_rfl, by kernel_rfl⟩, rfl⟩
theorem sc25 : ScalarT Try.prog 25 := fun w => Try.isAgg25 w
theorem sT33 : SliceT Try.prog 33 25 (.slice none 0 0) 24 := ⟨Try.underlying33, ⟨Try.t25, by kernel_rfl, by kernel_rfl, by kernel_rfl, by kernel_rfl⟩, rfl⟩
theorem sc33 : ScalarT Try.prog 33 := fun w => Try.isAgg33 w
theorem sT47 : SliceT Try.prog 47 5 (.int .u8 0) 1 := ⟨Try.underlying47, ⟨Try.t5, by kernel_rfl, by kernel_rfl, by kernel_rfl, by kernel_rfl⟩, rfl⟩
theorem sc47 : ScalarT Try.prog 47 := fun w => Try.isAgg47 w
theorem sc67 : ScalarT Try.prog 67 := fun w => Try.isAgg67 w
theorem sc84 : ScalarT Try.prog 84 := fun w => Try.isAgg84 w
theorem sc85 : ScalarT Try.prog 85 := fun w => Try.isAgg85 w
theorem sc86 : ScalarT Try.prog 86 := fun w => Try.isAgg86 w
theorem sc88 : ScalarT Try.prog 88 := fun w => Try.isAgg88 w
theorem sc89 : ScalarT Try.prog 89 := fun w => Try.isAgg89 w
theorem sc90 : ScalarT Try.prog 90 := fun w => Try.isAgg90 w
end Go.Proofs.Ytfpignajpihgnaa
