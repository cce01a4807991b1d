/-
  The rows of the program's table of types that the walks of this seat use; with structs.
-/
import Derived.Test.YtkkeipogkjlneaaMem
import Derived.Test.YtkkeipogkjlneaaStruct
import Derived.Test.YtkkeipogkjlneaaProg
namespace Go.Proofs.Ytkkeipogkjlneaa
open B Go.RowKit
theorem mixed : Try.prog.follows .mixedOrders = true := by kernel_rfl
theorem sc2 : ScalarT Try.prog 2 := fun w => Try.isAgg2 w
theorem ze2 : ZE Try.prog 2 [(.int .i64 0)] := ⟨Try.t2, (.int .i64 0), by kernel_rfl, by kernel_rfl, rfl⟩
theorem so2 : ∃ i, Try.prog.info? 2 = some i ∧ i.size = 1 := ⟨Try.t2, by kernel_rfl, by kernel_rfl⟩
theorem sc3 : ScalarT Try.prog 3 := fun w => Try.isAgg3 w
theorem ze3 : ZE Try.prog 3 [(.int .i64 0)] := ⟨Try.t3, (.int .i64 0), by kernel_rfl, by kernel_rfl, rfl⟩
theorem so3 : ∃ i, Try.prog.info? 3 = some i ∧ i.size = 1 := ⟨Try.t3, by kernel_rfl, by kernel_rfl⟩
theorem sc4 : ScalarT Try.prog 4 := fun w => Try.isAgg4 w
theorem ze4 : ZE Try.prog 4 [(.bool false)] := ⟨Try.t4, (.bool false), by kernel_rfl, by kernel_rfl, rfl⟩
theorem so4 : ∃ i, Try.prog.info? 4 = some i ∧ i.size = 1 := ⟨Try.t4, by kernel_rfl, by kernel_rfl⟩
theorem sc5 : ScalarT Try.prog 5 := fun w => Try.isAgg5 w
theorem ze5 : ZE Try.prog 5 [(.int .u8 0)] := ⟨Try.t5, (.int .u8 0), by kernel_rfl, by kernel_rfl, rfl⟩
theorem so5 : ∃ i, Try.prog.info? 5 = some i ∧ i.size = 1 := ⟨Try.t5, by kernel_rfl, by kernel_rfl⟩
theorem sc6 : ScalarT Try.prog 6 := fun w => Try.isAgg6 w
theorem ze6 : ZE Try.prog 6 [(.int .u8 0)] := ⟨Try.t6, (.int .u8 0), by kernel_rfl, by kernel_rfl, rfl⟩
theorem so6 : ∃ i, Try.prog.info? 6 = some i ∧ i.size = 1 := ⟨Try.t6, by kernel_rfl, by kernel_rfl⟩
theorem fa7_0 : FA Try.prog 7 0 0 := ⟨_, _, Try.t2, Try.underlying7, rfl, by kernel_rfl, by kernel_rfl, rfl⟩
theorem fa7_1 : FA Try.prog 7 1 1 := ⟨_, _, Try.t3, Try.underlying7, rfl, by kernel_rfl, by kernel_rfl, rfl⟩
theorem fa7_2 : FA Try.prog 7 2 2 := ⟨_, _, Try.t4, Try.underlying7, rfl, by kernel_rfl, by kernel_rfl, rfl⟩
theorem fa7_3 : FA Try.prog 7 3 3 := ⟨_, _, Try.t6, Try.underlying7, rfl, by kernel_rfl, by kernel_rfl, rfl⟩
theorem ag7 : AG Try.prog 7 4 := ⟨⟨_, Try.underlying7⟩, by kernel_rfl⟩
theorem bd7 : BD Try.prog 7 [(.int .i64 0), (.int .i64 0), (.bool false), (.int .u8 0)] [(0, 1), (1, 1), (2, 1), (3, 1)] := ⟨Try.t7, _, (.agg #[(.int .i64 0), (.int .i64 0), (.bool false), (.int .u8 0)]), by kernel_rfl, Try.underlying7, by kernel_rfl, rfl, by kernel_rfl⟩
theorem ze7 : ZE Try.prog 7 [(.int .i64 0), (.int .i64 0), (.bool false), (.int .u8 0)] := ⟨Try.t7, (.agg #[(.int .i64 0), (.int .i64 0), (.bool false), (.int .u8 0)]), by kernel_rfl, by kernel_rfl, rfl⟩
theorem fa8_0 : FA Try.prog 8 0 0 := ⟨_, _, Try.t2, Try.underlying8, rfl, by kernel_rfl, by kernel_rfl, rfl⟩
theorem fa8_1 : FA Try.prog 8 1 1 := ⟨_, _, Try.t3, Try.underlying8, rfl, by kernel_rfl, by kernel_rfl, rfl⟩
theorem fa8_2 : FA Try.prog 8 2 2 := ⟨_, _, Try.t4, Try.underlying8, rfl, by kernel_rfl, by kernel_rfl, rfl⟩
theorem fa8_3 : FA Try.prog 8 3 3 := ⟨_, _, Try.t6, Try.underlying8, rfl, by kernel_rfl, by kernel_rfl, rfl⟩
theorem ag8 : AG Try.prog 8 4 := ⟨⟨_, Try.underlying8⟩, by kernel_rfl⟩
theorem bd8 : BD Try.prog 8 [(.int .i64 0), (.int .i64 0), (.bool false), (.int .u8 0)] [(0, 1), (1, 1), (2, 1), (3, 1)] := ⟨Try.t8, _, (.agg #[(.int .i64 0), (.int .i64 0), (.bool false), (.int .u8 0)]), by kernel_rfl, Try.underlying8, by kernel_rfl, rfl, by kernel_rfl⟩
theorem ze8 : ZE Try.prog 8 [(.int .i64 0), (.int .i64 0), (.bool false), (.int .u8 0)] := ⟨Try.t8, (.agg #[(.int .i64 0), (.int .i64 0), (.bool false), (.int .u8 0)]), by kernel_rfl, by kernel_rfl, rfl⟩
theorem sc9 : ScalarT Try.prog 9 := fun w => Try.isAgg9 w
theorem ze9 : ZE Try.prog 9 [(.string ⟨#[]⟩)] := ⟨Try.t9, (.string ⟨#[]⟩), by kernel_rfl, by kernel_rfl, rfl⟩
theorem so9 : ∃ i, Try.prog.info? 9 = some i ∧ i.size = 1 := ⟨Try.t9, by kernel_rfl, by kernel_rfl⟩
theorem sc10 : ScalarT Try.prog 10 := fun w => Try.isAgg10 w
theorem ze10 : ZE Try.prog 10 [(.string ⟨#[]⟩)] := ⟨Try.t10, (.string ⟨#[]⟩), by kernel_rfl, by kernel_rfl, rfl⟩
theorem so10 : ∃ i, Try.prog.info? 10 = some i ∧ i.size = 1 := ⟨Try.t10, by kernel_rfl, by kernel_rfl⟩
theorem sc11 : ScalarT Try.prog 11 := fun w => Try.isAgg11 w
theorem ze11 : ZE Try.prog 11 [(.string ⟨#[]⟩)] := ⟨Try.t11, (.string ⟨#[]⟩), by kernel_rfl, by kernel_rfl, rfl⟩
theorem so11 : ∃ i, Try.prog.info? 11 = some i ∧ i.size = 1 := ⟨Try.t11, by kernel_rfl, by kernel_rfl⟩
theorem sc12 : ScalarT Try.prog 12 := fun w => Try.isAgg12 w
theorem ze12 : ZE Try.prog 12 [(.int .u64 0)] := ⟨Try.t12, (.int .u64 0), by kernel_rfl, by kernel_rfl, rfl⟩
theorem so12 : ∃ i, Try.prog.info? 12 = some i ∧ i.size = 1 := ⟨Try.t12, by kernel_rfl, by kernel_rfl⟩
theorem fa13_0 : FA Try.prog 13 0 0 := ⟨_, _, Try.t9, Try.underlying13, rfl, by kernel_rfl, by kernel_rfl, rfl⟩
theorem fa13_1 : FA Try.prog 13 1 1 := ⟨_, _, Try.t12, Try.underlying13, rfl, by kernel_rfl, by kernel_rfl, rfl⟩
theorem ag13 : AG Try.prog 13 2 := ⟨⟨_, Try.underlying13⟩, by kernel_rfl⟩
theorem bd13 : BD Try.prog 13 [(.string ⟨#[]⟩), (.int .u64 0)] [(0, 1), (1, 1)] := ⟨Try.t13, _, (.agg #[(.string ⟨#[]⟩), (.int .u64 0)]), by kernel_rfl, Try.underlying13, by kernel_rfl, rfl, by kernel_rfl⟩
theorem ze13 : ZE Try.prog 13 [(.string ⟨#[]⟩), (.int .u64 0)] := ⟨Try.t13, (.agg #[(.string ⟨#[]⟩), (.int .u64 0)]), by kernel_rfl, by kernel_rfl, rfl⟩
theorem fa14_0 : FA Try.prog 14 0 0 := ⟨_, _, Try.t9, Try.underlying14, rfl, by kernel_rfl, by kernel_rfl, rfl⟩
theorem fa14_1 : FA Try.prog 14 1 1 := ⟨_, _, Try.t12, Try.underlying14, rfl, by kernel_rfl, by kernel_rfl, rfl⟩
theorem ag14 : AG Try.prog 14 2 := ⟨⟨_, Try.underlying14⟩, by kernel_rfl⟩
theorem bd14 : BD Try.prog 14 [(.string ⟨#[]⟩), (.int .u64 0)] [(0, 1), (1, 1)] := ⟨Try.t14, _, (.agg #[(.string ⟨#[]⟩), (.int .u64 0)]), by kernel_rfl, Try.underlying14, by kernel_rfl, rfl, by kernel_rfl⟩
theorem ze14 : ZE Try.prog 14 [(.string ⟨#[]⟩), (.int .u64 0)] := ⟨Try.t14, (.agg #[(.string ⟨#[]⟩), (.int .u64 0)]), by kernel_rfl, by kernel_rfl, rfl⟩
theorem sc15 : ScalarT Try.prog 15 := fun w => Try.isAgg15 w
theorem so15 : ∃ i, Try.prog.info? 15 = some i ∧ i.size = 1 := ⟨Try.t15, by kernel_rfl, by kernel_rfl⟩
theorem sc16 : ScalarT Try.prog 16 := fun w => Try.isAgg16 w
theorem so16 : ∃ i, Try.prog.info? 16 = some i ∧ i.size = 1 := ⟨Try.t16, by kernel_rfl, by kernel_rfl⟩
theorem sc17 : ScalarT Try.prog 17 := fun w => Try.isAgg17 w
theorem so17 : ∃ i, Try.prog.info? 17 = some i ∧ i.size = 1 := ⟨Try.t17, by kernel_rfl, by kernel_rfl⟩
theorem fa18_0 : FA Try.prog 18 0 0 := ⟨_, _, Try.t17, Try.underlying18, rfl, by kernel_rfl, by kernel_rfl, rfl⟩
theorem ag18 : AG Try.prog 18 1 := ⟨⟨_, Try.underlying18⟩, by kernel_rfl⟩
theorem bd18 : BD Try.prog 18 [(.pointer none)] [(0, 1)] := ⟨Try.t18, _, (.agg #[(.pointer none)]), by kernel_rfl, Try.underlying18, by kernel_rfl, rfl, by kernel_rfl⟩
theorem ze18 : ZE Try.prog 18 [(.pointer none)] := ⟨Try.t18, (.agg #[(.pointer none)]), by kernel_rfl, by kernel_rfl, rfl⟩
theorem fa19_0 : FA Try.prog 19 0 0 := ⟨_, _, Try.t17, Try.underlying19, rfl, by kernel_rfl, by kernel_rfl, rfl⟩
theorem ag19 : AG Try.prog 19 1 := ⟨⟨_, Try.underlying19⟩, by kernel_rfl⟩
theorem bd19 : BD Try.prog 19 [(.pointer none)] [(0, 1)] := ⟨Try.t19, _, (.agg #[(.pointer none)]), by kernel_rfl, Try.underlying19, by kernel_rfl, rfl, by kernel_rfl⟩
theorem ze19 : ZE Try.prog 19 [(.pointer none)] := ⟨Try.t19, (.agg #[(.pointer none)]), by kernel_rfl, by kernel_rfl, rfl⟩
theorem sc21 : ScalarT Try.prog 21 := fun w => Try.isAgg21 w
theorem ze21 : ZE Try.prog 21 [(.int .i32 0)] := ⟨Try.t21, (.int .i32 0), by kernel_rfl, by kernel_rfl, rfl⟩
theorem so21 : ∃ i, Try.prog.info? 21 = some i ∧ i.size = 1 := ⟨Try.t21, by kernel_rfl, by kernel_rfl⟩
theorem sT22 : SliceT Try.prog 22 2 (.int .i64 0) 8 := ⟨Try.underlying22, ⟨Try.t2, by kernel_rfl, by kernel_rfl, by kernel_rfl, by kernel_rfl⟩, rfl⟩
theorem sc22 : ScalarT Try.prog 22 := fun w => Try.isAgg22 w
theorem ze22 : ZE Try.prog 22 [(.slice none 0 0)] := ⟨Try.t22, (.slice none 0 0), by kernel_rfl, by kernel_rfl, rfl⟩
theorem so22 : ∃ i, Try.prog.info? 22 = some i ∧ i.size = 1 := ⟨Try.t22, by kernel_rfl, by kernel_rfl⟩
theorem sT23 : SliceT Try.prog 23 4 (.bool false) 1 := ⟨Try.underlying23, ⟨Try.t4, by kernel_rfl, by kernel_rfl, by kernel_rfl, by kernel_rfl⟩, rfl⟩
theorem sc23 : ScalarT Try.prog 23 := fun w => Try.isAgg23 w
theorem ze23 : ZE Try.prog 23 [(.slice none 0 0)] := ⟨Try.t23, (.slice none 0 0), by kernel_rfl, by kernel_rfl, rfl⟩
theorem so23 : ∃ i, Try.prog.info? 23 = some i ∧ i.size = 1 := ⟨Try.t23, by kernel_rfl, by kernel_rfl⟩
theorem fa24_0 : FA Try.prog 24 0 0 := ⟨_, _, Try.t22, Try.underlying24, rfl, by kernel_rfl, by kernel_rfl, rfl⟩
theorem fa24_1 : FA Try.prog 24 1 1 := ⟨_, _, Try.t23, Try.underlying24, rfl, by kernel_rfl, by kernel_rfl, rfl⟩
theorem ag24 : AG Try.prog 24 2 := ⟨⟨_, Try.underlying24⟩, by kernel_rfl⟩
theorem bd24 : BD Try.prog 24 [(.slice none 0 0), (.slice none 0 0)] [(0, 1), (1, 1)] := ⟨Try.t24, _, (.agg #[(.slice none 0 0), (.slice none 0 0)]), by kernel_rfl, Try.underlying24, by kernel_rfl, rfl, by kernel_rfl⟩
theorem ze24 : ZE Try.prog 24 [(.slice none 0 0), (.slice none 0 0)] := ⟨Try.t24, (.agg #[(.slice none 0 0), (.slice none 0 0)]), by kernel_rfl, by kernel_rfl, rfl⟩
theorem fa25_0 : FA Try.prog 25 0 0 := ⟨_, _, Try.t22, Try.underlying25, rfl, by kernel_rfl, by kernel_rfl, rfl⟩
theorem fa25_1 : FA Try.prog 25 1 1 := ⟨_, _, Try.t23, Try.underlying25, rfl, by kernel_rfl, by kernel_rfl, rfl⟩
theorem ag25 : AG Try.prog 25 2 := ⟨⟨_, Try.underlying25⟩, by kernel_rfl⟩
theorem bd25 : BD Try.prog 25 [(.slice none 0 0), (.slice none 0 0)] [(0, 1), (1, 1)] := ⟨Try.t25, _, (.agg #[(.slice none 0 0), (.slice none 0 0)]), by kernel_rfl, Try.underlying25, by kernel_rfl, rfl, by kernel_rfl⟩
theorem ze25 : ZE Try.prog 25 [(.slice none 0 0), (.slice none 0 0)] := ⟨Try.t25, (.agg #[(.slice none 0 0), (.slice none 0 0)]), by kernel_rfl, by kernel_rfl, rfl⟩
theorem sT26 : SliceT Try.prog 26 22 (.slice none 0 0) 24 := ⟨Try.underlying26, ⟨Try.t22, by kernel_rfl, by kernel_rfl, by kernel_rfl, by kernel_rfl⟩, rfl⟩
theorem sc26 : ScalarT Try.prog 26 := fun w => Try.isAgg26 w
theorem ze26 : ZE Try.prog 26 [(.slice none 0 0)] := ⟨Try.t26, (.slice none 0 0), by kernel_rfl, by kernel_rfl, rfl⟩
theorem so26 : ∃ i, Try.prog.info? 26 = some i ∧ i.size = 1 := ⟨Try.t26, by kernel_rfl, by kernel_rfl⟩
theorem fa27_0 : FA Try.prog 27 0 0 := ⟨_, _, Try.t25, Try.underlying27, rfl, by kernel_rfl, by kernel_rfl, rfl⟩
theorem fa27_1 : FA Try.prog 27 1 2 := ⟨_, _, Try.t26, Try.underlying27, rfl, by kernel_rfl, by kernel_rfl, rfl⟩
theorem ag27 : AG Try.prog 27 3 := ⟨⟨_, Try.underlying27⟩, by kernel_rfl⟩
theorem bd27 : BD Try.prog 27 [(.slice none 0 0), (.slice none 0 0), (.slice none 0 0)] [(0, 2), (2, 1)] := ⟨Try.t27, _, (.agg #[(.slice none 0 0), (.slice none 0 0), (.slice none 0 0)]), by kernel_rfl, Try.underlying27, by kernel_rfl, rfl, by kernel_rfl⟩
theorem ze27 : ZE Try.prog 27 [(.slice none 0 0), (.slice none 0 0), (.slice none 0 0)] := ⟨Try.t27, (.agg #[(.slice none 0 0), (.slice none 0 0), (.slice none 0 0)]), by kernel_rfl, by kernel_rfl, rfl⟩
theorem fa28_0 : FA Try.prog 28 0 0 := ⟨_, _, Try.t25, Try.underlying28, rfl, by kernel_rfl, by kernel_rfl, rfl⟩
theorem fa28_1 : FA Try.prog 28 1 2 := ⟨_, _, Try.t26, Try.underlying28, rfl, by kernel_rfl, by kernel_rfl, rfl⟩
theorem ag28 : AG Try.prog 28 3 := ⟨⟨_, Try.underlying28⟩, by kernel_rfl⟩
theorem bd28 : BD Try.prog 28 [(.slice none 0 0), (.slice none 0 0), (.slice none 0 0)] [(0, 2), (2, 1)] := ⟨Try.t28, _, (.agg #[(.slice none 0 0), (.slice none 0 0), (.slice none 0 0)]), by kernel_rfl, Try.underlying28, by kernel_rfl, rfl, by kernel_rfl⟩
theorem ze28 : ZE Try.prog 28 [(.slice none 0 0), (.slice none 0 0), (.slice none 0 0)] := ⟨Try.t28, (.agg #[(.slice none 0 0), (.slice none 0 0), (.slice none 0 0)]), by kernel_rfl, by kernel_rfl, rfl⟩
theorem fa31_0 : FA Try.prog 31 0 0 := ⟨_, _, Try.t22, Try.underlying31, rfl, by kernel_rfl, by kernel_rfl, rfl⟩
theorem fa31_1 : FA Try.prog 31 1 1 := ⟨_, _, Try.t23, Try.underlying31, rfl, by kernel_rfl, by kernel_rfl, rfl⟩
theorem ag31 : AG Try.prog 31 2 := ⟨⟨_, Try.underlying31⟩, by kernel_rfl⟩
theorem bd31 : BD Try.prog 31 [(.slice none 0 0), (.slice none 0 0)] [(0, 1), (1, 1)] := ⟨Try.t31, _, (.agg #[(.slice none 0 0), (.slice none 0 0)]), by kernel_rfl, Try.underlying31, by kernel_rfl, rfl, by kernel_rfl⟩
theorem ze31 : ZE Try.prog 31 [(.slice none 0 0), (.slice none 0 0)] := ⟨Try.t31, (.agg #[(.slice none 0 0), (.slice none 0 0)]), by kernel_rfl, by kernel_rfl, rfl⟩
theorem fa32_0 : FA Try.prog 32 0 0 := ⟨_, _, Try.t31, Try.underlying32, rfl, by kernel_rfl, by kernel_rfl, rfl⟩
theorem fa32_1 : FA Try.prog 32 1 2 := ⟨_, _, Try.t26, Try.underlying32, rfl, by kernel_rfl, by kernel_rfl, rfl⟩
theorem ag32 : AG Try.prog 32 3 := ⟨⟨_, Try.underlying32⟩, by kernel_rfl⟩
theorem bd32 : BD Try.prog 32 [(.slice none 0 0), (.slice none 0 0), (.slice none 0 0)] [(0, 2), (2, 1)] := ⟨Try.t32, _, (.agg #[(.slice none 0 0), (.slice none 0 0), (.slice none 0 0)]), by kernel_rfl, Try.underlying32, by kernel_rfl, rfl, by kernel_rfl⟩
theorem ze32 : ZE Try.prog 32 [(.slice none 0 0), (.slice none 0 0), (.slice none 0 0)] := ⟨Try.t32, (.agg #[(.slice none 0 0), (.slice none 0 0), (.slice none 0 0)]), by kernel_rfl, by kernel_rfl, rfl⟩
theorem fa33_0 : FA Try.prog 33 0 0 := ⟨_, _, Try.t31, Try.underlying33, rfl, by kernel_rfl, by kernel_rfl, rfl⟩
theorem fa33_1 : FA Try.prog 33 1 2 := ⟨_, _, Try.t26, Try.underlying33, rfl, by kernel_rfl, by kernel_rfl, rfl⟩
theorem ag33 : AG Try.prog 33 3 := ⟨⟨_, Try.underlying33⟩, by kernel_rfl⟩
theorem bd33 : BD Try.prog 33 [(.slice none 0 0), (.slice none 0 0), (.slice none 0 0)] [(0, 2), (2, 1)] := ⟨Try.t33, _, (.agg #[(.slice none 0 0), (.slice none 0 0), (.slice none 0 0)]), by kernel_rfl, Try.underlying33, by kernel_rfl, rfl, by kernel_rfl⟩
theorem ze33 : ZE Try.prog 33 [(.slice none 0 0), (.slice none 0 0), (.slice none 0 0)] := ⟨Try.t33, (.agg #[(.slice none 0 0), (.slice none 0 0), (.slice none 0 0)]), by kernel_rfl, by kernel_rfl, rfl⟩
theorem sT55 : SliceT Try.prog 55 5 (.int .u8 0) 1 := ⟨Try.underlying55, ⟨Try.t5, by kernel_rfl, by kernel_rfl, by kernel_rfl, by kernel_rfl⟩, rfl⟩
theorem sc55 : ScalarT Try.prog 55 := fun w => Try.isAgg55 w
theorem ze55 : ZE Try.prog 55 [(.slice none 0 0)] := ⟨Try.t55, (.slice none 0 0), by kernel_rfl, by kernel_rfl, rfl⟩
theorem so55 : ∃ i, Try.prog.info? 55 = some i ∧ i.size = 1 := ⟨Try.t55, by kernel_rfl, by kernel_rfl⟩
theorem sc90 : ScalarT Try.prog 90 := fun w => Try.isAgg90 w
theorem so90 : ∃ i, Try.prog.info? 90 = some i ∧ i.size = 1 := ⟨Try.t90, by kernel_rfl, by kernel_rfl⟩
theorem fa106_0 : FA Try.prog 106 0 0 := ⟨_, _, Try.t55, Try.underlying106, rfl, by kernel_rfl, by kernel_rfl, rfl⟩
theorem fa106_1 : FA Try.prog 106 1 1 := ⟨_, _, Try.t3, Try.underlying106, rfl, by kernel_rfl, by kernel_rfl, rfl⟩
theorem fa106_2 : FA Try.prog 106 2 2 := ⟨_, _, Try.t2, Try.underlying106, rfl, by kernel_rfl, by kernel_rfl, rfl⟩
theorem ag106 : AG Try.prog 106 3 := ⟨⟨_, Try.underlying106⟩, by kernel_rfl⟩
theorem bd106 : BD Try.prog 106 [(.slice none 0 0), (.int .i64 0), (.int .i64 0)] [(0, 1), (1, 1), (2, 1)] := ⟨Try.t106, _, (.agg #[(.slice none 0 0), (.int .i64 0), (.int .i64 0)]), by kernel_rfl, Try.underlying106, by kernel_rfl, rfl, by kernel_rfl⟩
theorem ze106 : ZE Try.prog 106 [(.slice none 0 0), (.int .i64 0), (.int .i64 0)] := ⟨Try.t106, (.agg #[(.slice none 0 0), (.int .i64 0), (.int .i64 0)]), by kernel_rfl, by kernel_rfl, rfl⟩
theorem fa107_0 : FA Try.prog 107 0 0 := ⟨_, _, Try.t55, Try.underlying107, rfl, by kernel_rfl, by kernel_rfl, rfl⟩
theorem fa107_1 : FA Try.prog 107 1 1 := ⟨_, _, Try.t3, Try.underlying107, rfl, by kernel_rfl, by kernel_rfl, rfl⟩
theorem fa107_2 : FA Try.prog 107 2 2 := ⟨_, _, Try.t2, Try.underlying107, rfl, by kernel_rfl, by kernel_rfl, rfl⟩
theorem ag107 : AG Try.prog 107 3 := ⟨⟨_, Try.underlying107⟩, by kernel_rfl⟩
theorem bd107 : BD Try.prog 107 [(.slice none 0 0), (.int .i64 0), (.int .i64 0)] [(0, 1), (1, 1), (2, 1)] := ⟨Try.t107, _, (.agg #[(.slice none 0 0), (.int .i64 0), (.int .i64 0)]), by kernel_rfl, Try.underlying107, by kernel_rfl, rfl, by kernel_rfl⟩
theorem ze107 : ZE Try.prog 107 [(.slice none 0 0), (.int .i64 0), (.int .i64 0)] := ⟨Try.t107, (.agg #[(.slice none 0 0), (.int .i64 0), (.int .i64 0)]), by kernel_rfl, by kernel_rfl, rfl⟩
theorem fa112_0 : FA Try.prog 112 0 0 := ⟨_, _, Try.t17, Try.underlying112, rfl, by kernel_rfl, by kernel_rfl, rfl⟩
theorem fa112_1 : FA Try.prog 112 1 1 := ⟨_, _, Try.t17, Try.underlying112, rfl, by kernel_rfl, by kernel_rfl, rfl⟩
theorem fa112_2 : FA Try.prog 112 2 2 := ⟨_, _, Try.t17, Try.underlying112, rfl, by kernel_rfl, by kernel_rfl, rfl⟩
theorem fa112_3 : FA Try.prog 112 3 3 := ⟨_, _, Try.t9, Try.underlying112, rfl, by kernel_rfl, by kernel_rfl, rfl⟩
theorem ag112 : AG Try.prog 112 4 := ⟨⟨_, Try.underlying112⟩, by kernel_rfl⟩
theorem bd112 : BD Try.prog 112 [(.pointer none), (.pointer none), (.pointer none), (.string ⟨#[]⟩)] [(0, 1), (1, 1), (2, 1), (3, 1)] := ⟨Try.t112, _, (.agg #[(.pointer none), (.pointer none), (.pointer none), (.string ⟨#[]⟩)]), by kernel_rfl, Try.underlying112, by kernel_rfl, rfl, by kernel_rfl⟩
theorem ze112 : ZE Try.prog 112 [(.pointer none), (.pointer none), (.pointer none), (.string ⟨#[]⟩)] := ⟨Try.t112, (.agg #[(.pointer none), (.pointer none), (.pointer none), (.string ⟨#[]⟩)]), by kernel_rfl, by kernel_rfl, rfl⟩
theorem fa113_0 : FA Try.prog 113 0 0 := ⟨_, _, Try.t17, Try.underlying113, rfl, by kernel_rfl, by kernel_rfl, rfl⟩
theorem fa113_1 : FA Try.prog 113 1 1 := ⟨_, _, Try.t17, Try.underlying113, rfl, by kernel_rfl, by kernel_rfl, rfl⟩
theorem fa113_2 : FA Try.prog 113 2 2 := ⟨_, _, Try.t17, Try.underlying113, rfl, by kernel_rfl, by kernel_rfl, rfl⟩
theorem fa113_3 : FA Try.prog 113 3 3 := ⟨_, _, Try.t9, Try.underlying113, rfl, by kernel_rfl, by kernel_rfl, rfl⟩
theorem ag113 : AG Try.prog 113 4 := ⟨⟨_, Try.underlying113⟩, by kernel_rfl⟩
theorem bd113 : BD Try.prog 113 [(.pointer none), (.pointer none), (.pointer none), (.string ⟨#[]⟩)] [(0, 1), (1, 1), (2, 1), (3, 1)] := ⟨Try.t113, _, (.agg #[(.pointer none), (.pointer none), (.pointer none), (.string ⟨#[]⟩)]), by kernel_rfl, Try.underlying113, by kernel_rfl, rfl, by kernel_rfl⟩
theorem ze113 : ZE Try.prog 113 [(.pointer none), (.pointer none), (.pointer none), (.string ⟨#[]⟩)] := ⟨Try.t113, (.agg #[(.pointer none), (.pointer none), (.pointer none), (.string ⟨#[]⟩)]), by kernel_rfl, by kernel_rfl, rfl⟩
theorem ag115 : AG Try.prog 115 0 := ⟨⟨_, Try.underlying115⟩, by kernel_rfl⟩
theorem ze115 : ZE Try.prog 115 [] := ⟨Try.t115, (.agg #[]), by kernel_rfl, by kernel_rfl, rfl⟩
theorem ag116 : AG Try.prog 116 0 := ⟨⟨_, Try.underlying116⟩, by kernel_rfl⟩
theorem ze116 : ZE Try.prog 116 [] := ⟨Try.t116, (.agg #[]), by kernel_rfl, by kernel_rfl, rfl⟩
theorem sc118 : ScalarT Try.prog 118 := fun w => Try.isAgg118 w
theorem ze118 : ZE Try.prog 118 [(.int .u32 0)] := ⟨Try.t118, (.int .u32 0), by kernel_rfl, by kernel_rfl, rfl⟩
theorem so118 : ∃ i, Try.prog.info? 118 = some i ∧ i.size = 1 := ⟨Try.t118, by kernel_rfl, by kernel_rfl⟩
theorem sc119 : ScalarT Try.prog 119 := fun w => Try.isAgg119 w
theorem ze119 : ZE Try.prog 119 [(.int .u8 0)] := ⟨Try.t119, (.int .u8 0), by kernel_rfl, by kernel_rfl, rfl⟩
theorem so119 : ∃ i, Try.prog.info? 119 = some i ∧ i.size = 1 := ⟨Try.t119, by kernel_rfl, by kernel_rfl⟩
theorem sc120 : ScalarT Try.prog 120 := fun w => Try.isAgg120 w
theorem ze120 : ZE Try.prog 120 [(.int .u8 0)] := ⟨Try.t120, (.int .u8 0), by kernel_rfl, by kernel_rfl, rfl⟩
theorem so120 : ∃ i, Try.prog.info? 120 = some i ∧ i.size = 1 := ⟨Try.t120, by kernel_rfl, by kernel_rfl⟩
theorem sc122 : ScalarT Try.prog 122 := fun w => Try.isAgg122 w
theorem so122 : ∃ i, Try.prog.info? 122 = some i ∧ i.size = 1 := ⟨Try.t122, by kernel_rfl, by kernel_rfl⟩
theorem sc123 : ScalarT Try.prog 123 := fun w => Try.isAgg123 w
theorem ze123 : ZE Try.prog 123 [(.int .i32 0)] := ⟨Try.t123, (.int .i32 0), by kernel_rfl, by kernel_rfl, rfl⟩
theorem so123 : ∃ i, Try.prog.info? 123 = some i ∧ i.size = 1 := ⟨Try.t123, by kernel_rfl, by kernel_rfl⟩
theorem sc124 : ScalarT Try.prog 124 := fun w => Try.isAgg124 w
theorem ze124 : ZE Try.prog 124 [(.int .i32 0)] := ⟨Try.t124, (.int .i32 0), by kernel_rfl, by kernel_rfl, rfl⟩
theorem so124 : ∃ i, Try.prog.info? 124 = some i ∧ i.size = 1 := ⟨Try.t124, by kernel_rfl, by kernel_rfl⟩
theorem fa125_0 : FA Try.prog 125 0 0 := ⟨_, _, Try.t12, Try.underlying125, rfl, by kernel_rfl, by kernel_rfl, rfl⟩
theorem fa125_1 : FA Try.prog 125 1 1 := ⟨_, _, Try.t12, Try.underlying125, rfl, by kernel_rfl, by kernel_rfl, rfl⟩
theorem fa125_2 : FA Try.prog 125 2 2 := ⟨_, _, Try.t118, Try.underlying125, rfl, by kernel_rfl, by kernel_rfl, rfl⟩
theorem fa125_3 : FA Try.prog 125 3 3 := ⟨_, _, Try.t119, Try.underlying125, rfl, by kernel_rfl, by kernel_rfl, rfl⟩
theorem fa125_4 : FA Try.prog 125 4 4 := ⟨_, _, Try.t5, Try.underlying125, rfl, by kernel_rfl, by kernel_rfl, rfl⟩
theorem fa125_5 : FA Try.prog 125 5 5 := ⟨_, _, Try.t5, Try.underlying125, rfl, by kernel_rfl, by kernel_rfl, rfl⟩
theorem fa125_6 : FA Try.prog 125 6 6 := ⟨_, _, Try.t120, Try.underlying125, rfl, by kernel_rfl, by kernel_rfl, rfl⟩
theorem fa125_7 : FA Try.prog 125 7 7 := ⟨_, _, Try.t121, Try.underlying125, rfl, by kernel_rfl, by kernel_rfl, rfl⟩
theorem fa125_8 : FA Try.prog 125 8 8 := ⟨_, _, Try.t122, Try.underlying125, rfl, by kernel_rfl, by kernel_rfl, rfl⟩
theorem fa125_9 : FA Try.prog 125 9 9 := ⟨_, _, Try.t123, Try.underlying125, rfl, by kernel_rfl, by kernel_rfl, rfl⟩
theorem fa125_10 : FA Try.prog 125 10 10 := ⟨_, _, Try.t124, Try.underlying125, rfl, by kernel_rfl, by kernel_rfl, rfl⟩
theorem ag125 : AG Try.prog 125 11 := ⟨⟨_, Try.underlying125⟩, by kernel_rfl⟩
theorem bd125 : BD Try.prog 125 [(.int .u64 0), (.int .u64 0), (.int .u32 0), (.int .u8 0), (.int .u8 0), (.int .u8 0), (.int .u8 0), .nilFunc, (.pointer none), (.int .i32 0), (.int .i32 0)] [(0, 1), (1, 1), (2, 1), (3, 1), (4, 1), (5, 1), (6, 1), (7, 1), (8, 1), (9, 1), (10, 1)] := ⟨Try.t125, _, (.agg #[(.int .u64 0), (.int .u64 0), (.int .u32 0), (.int .u8 0), (.int .u8 0), (.int .u8 0), (.int .u8 0), .nilFunc, (.pointer none), (.int .i32 0), (.int .i32 0)]), by kernel_rfl, Try.underlying125, by kernel_rfl, rfl, by kernel_rfl⟩
theorem ze125 : ZE Try.prog 125 [(.int .u64 0), (.int .u64 0), (.int .u32 0), (.int .u8 0), (.int .u8 0), (.int .u8 0), (.int .u8 0), .nilFunc, (.pointer none), (.int .i32 0), (.int .i32 0)] := ⟨Try.t125, (.agg #[(.int .u64 0), (.int .u64 0), (.int .u32 0), (.int .u8 0), (.int .u8 0), (.int .u8 0), (.int .u8 0), .nilFunc, (.pointer none), (.int .i32 0), (.int .i32 0)]), by kernel_rfl, by kernel_rfl, rfl⟩
theorem fa126_0 : FA Try.prog 126 0 0 := ⟨_, _, Try.t12, Try.underlying126, rfl, by kernel_rfl, by kernel_rfl, rfl⟩
theorem fa126_1 : FA Try.prog 126 1 1 := ⟨_, _, Try.t12, Try.underlying126, rfl, by kernel_rfl, by kernel_rfl, rfl⟩
theorem fa126_2 : FA Try.prog 126 2 2 := ⟨_, _, Try.t118, Try.underlying126, rfl, by kernel_rfl, by kernel_rfl, rfl⟩
theorem fa126_3 : FA Try.prog 126 3 3 := ⟨_, _, Try.t119, Try.underlying126, rfl, by kernel_rfl, by kernel_rfl, rfl⟩
theorem fa126_4 : FA Try.prog 126 4 4 := ⟨_, _, Try.t5, Try.underlying126, rfl, by kernel_rfl, by kernel_rfl, rfl⟩
theorem fa126_5 : FA Try.prog 126 5 5 := ⟨_, _, Try.t5, Try.underlying126, rfl, by kernel_rfl, by kernel_rfl, rfl⟩
theorem fa126_6 : FA Try.prog 126 6 6 := ⟨_, _, Try.t120, Try.underlying126, rfl, by kernel_rfl, by kernel_rfl, rfl⟩
theorem fa126_7 : FA Try.prog 126 7 7 := ⟨_, _, Try.t121, Try.underlying126, rfl, by kernel_rfl, by kernel_rfl, rfl⟩
theorem fa126_8 : FA Try.prog 126 8 8 := ⟨_, _, Try.t122, Try.underlying126, rfl, by kernel_rfl, by kernel_rfl, rfl⟩
theorem fa126_9 : FA Try.prog 126 9 9 := ⟨_, _, Try.t123, Try.underlying126, rfl, by kernel_rfl, by kernel_rfl, rfl⟩
theorem fa126_10 : FA Try.prog 126 10 10 := ⟨_, _, Try.t124, Try.underlying126, rfl, by kernel_rfl, by kernel_rfl, rfl⟩
theorem ag126 : AG Try.prog 126 11 := ⟨⟨_, Try.underlying126⟩, by kernel_rfl⟩
theorem bd126 : BD Try.prog 126 [(.int .u64 0), (.int .u64 0), (.int .u32 0), (.int .u8 0), (.int .u8 0), (.int .u8 0), (.int .u8 0), .nilFunc, (.pointer none), (.int .i32 0), (.int .i32 0)] [(0, 1), (1, 1), (2, 1), (3, 1), (4, 1), (5, 1), (6, 1), (7, 1), (8, 1), (9, 1), (10, 1)] := ⟨Try.t126, _, (.agg #[(.int .u64 0), (.int .u64 0), (.int .u32 0), (.int .u8 0), (.int .u8 0), (.int .u8 0), (.int .u8 0), .nilFunc, (.pointer none), (.int .i32 0), (.int .i32 0)]), by kernel_rfl, Try.underlying126, by kernel_rfl, rfl, by kernel_rfl⟩
theorem ze126 : ZE Try.prog 126 [(.int .u64 0), (.int .u64 0), (.int .u32 0), (.int .u8 0), (.int .u8 0), (.int .u8 0), (.int .u8 0), .nilFunc, (.pointer none), (.int .i32 0), (.int .i32 0)] := ⟨Try.t126, (.agg #[(.int .u64 0), (.int .u64 0), (.int .u32 0), (.int .u8 0), (.int .u8 0), (.int .u8 0), (.int .u8 0), .nilFunc, (.pointer none), (.int .i32 0), (.int .i32 0)]), by kernel_rfl, by kernel_rfl, rfl⟩
end Go.Proofs.Ytkkeipogkjlneaa
