/-
  Function values in variables.
-/
import Derived.Test.YtaepdknmagaokaaFWea5
import Derived.Test.YtaepdknmagaokaaCut2
import Derived.Test.YtaepdknmagaokaaFnv
namespace Go.Proofs.Ytaepdknmagaokaa
open B Go.RowKit
theorem sc77 : ScalarT Try.prog 77 := fun w => Try.isAgg77 w
theorem ze77 : ZE Try.prog 77 [.nilFunc] := ⟨Try.t77, .nilFunc, by kernel_rfl, by kernel_rfl, rfl⟩
theorem so77 : ∃ i, Try.prog.info? 77 = some i ∧ i.size = 1 := ⟨Try.t77, by kernel_rfl, by kernel_rfl⟩
theorem fn77 (f : Go.Fn) (a c : Array Value) (w : World) : (binOp BinOp.neq 77 (Value.func f a c) Value.nilFunc).run Try.prog w = .ok (.bool true) w := by kernel_rfl
theorem sc111 : ScalarT Try.prog 111 := fun w => Try.isAgg111 w
theorem ze111 : ZE Try.prog 111 [.nilFunc] := ⟨Try.t111, .nilFunc, by kernel_rfl, by kernel_rfl, rfl⟩
theorem so111 : ∃ i, Try.prog.info? 111 = some i ∧ i.size = 1 := ⟨Try.t111, by kernel_rfl, by kernel_rfl⟩
theorem fn111 (f : Go.Fn) (a c : Array Value) (w : World) : (binOp BinOp.neq 111 (Value.func f a c) Value.nilFunc).run Try.prog w = .ok (.bool true) w := by kernel_rfl
theorem sc117 : ScalarT Try.prog 117 := fun w => Try.isAgg117 w
theorem ze117 : ZE Try.prog 117 [.nilFunc] := ⟨Try.t117, .nilFunc, by kernel_rfl, by kernel_rfl, rfl⟩
theorem so117 : ∃ i, Try.prog.info? 117 = some i ∧ i.size = 1 := ⟨Try.t117, by kernel_rfl, by kernel_rfl⟩
theorem fn117 (f : Go.Fn) (a c : Array Value) (w : World) : (binOp BinOp.neq 117 (Value.func f a c) Value.nilFunc).run Try.prog w = .ok (.bool true) w := by kernel_rfl
end Go.Proofs.Ytaepdknmagaokaa
