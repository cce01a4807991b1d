/-
  The rows of the program's table of types that the walks of this seat use.
-/
import Derived.Test.YtgfaimkbedbanaaMem
import Derived.Test.YtgfaimkbedbanaaProg
namespace Go.Proofs.Ytgfaimkbedbanaa
open B Go.RowKit
theorem mixed : Try.prog.follows .mixedOrders = true := by kernel_rfl
theorem sc2 : ScalarT Try.prog 2 := fun w => Try.isAgg2 w
theorem sc3 : ScalarT Try.prog 3 := fun w => Try.isAgg3 w
theorem sc4 : ScalarT Try.prog 4 := fun w => Try.isAgg4 w
theorem sc5 : ScalarT Try.prog 5 := fun w => Try.isAgg5 w
theorem sc6 : ScalarT Try.prog 6 := fun w => Try.isAgg6 w
theorem sc9 : ScalarT Try.prog 9 := fun w => Try.isAgg9 w
theorem sc10 : ScalarT Try.prog 10 := fun w => Try.isAgg10 w
theorem sc11 : ScalarT Try.prog 11 := fun w => Try.isAgg11 w
theorem sc12 : ScalarT Try.prog 12 := fun w => Try.isAgg12 w
theorem sc15 : ScalarT Try.prog 15 := fun w => Try.isAgg15 w
theorem sc16 : ScalarT Try.prog 16 := fun w => Try.isAgg16 w
theorem sc17 : ScalarT Try.prog 17 := fun w => Try.isAgg17 w
theorem sc21 : ScalarT Try.prog 21 := fun w => Try.isAgg21 w
theorem sT32 : SliceT Try.prog 32 2 (.int .i64 0) 8 := ⟨Try.underlying32, ⟨Try.t2, by kernel_rfl, by kernel_rfl, by kernel_rfl, by kernel_rfl⟩, rfl⟩
theorem sc32 : ScalarT Try.prog 32 := fun w => Try.isAgg32 w
theorem sT42 : SliceT Try.prog 42 5 (.int .u8 0) 1 := ⟨Try.underlying42, ⟨Try.t5, by kernel_rfl, by kernel_rfl, by kernel_rfl, by kernel_rfl⟩, rfl⟩
theorem sc42 : ScalarT Try.prog 42 := fun w => Try.isAgg42 w
theorem sc49 : ScalarT Try.prog 49 := fun w => Try.isAgg49 w
theorem sc51 : ScalarT Try.prog 51 := fun w => Try.isAgg51 w
theorem sc57 : ScalarT Try.prog 57 := fun w => Try.isAgg57 w
theorem sc61 : ScalarT Try.prog 61 := fun w => Try.isAgg61 w
theorem sT74 : SliceT Try.prog 74 9 (.string ⟨#[]⟩) 16 := ⟨Try.underlying74, ⟨Try.t9, by kernel_rfl, by kernel_rfl, by kernel_rfl, by kernel_rfl⟩, rfl⟩
theorem sc74 : ScalarT Try.prog 74 := fun w => Try.isAgg74 w
theorem sc82 : ScalarT Try.prog 82 := fun w => Try.isAgg82 w
theorem sc83 : ScalarT Try.prog 83 := fun w => Try.isAgg83 w
theorem sc84 : ScalarT Try.prog 84 := fun w => Try.isAgg84 w
theorem sc86 : ScalarT Try.prog 86 := fun w => Try.isAgg86 w
theorem sc87 : ScalarT Try.prog 87 := fun w => Try.isAgg87 w
theorem sc88 : ScalarT Try.prog 88 := fun w => Try.isAgg88 w
end Go.Proofs.Ytgfaimkbedbanaa
