/-
  The rows of the program's table of types that the walks of this seat use; with structs and slices of them.
-/
import Derived.Test.YtaepdknmagaokaaMem
import Derived.Test.YtaepdknmagaokaaStruct
import Derived.Test.YtaepdknmagaokaaLocks
import Derived.Test.YtaepdknmagaokaaProg
namespace Go.Proofs.Ytaepdknmagaokaa
open B Go.RowKit

theorem mixed : Try.prog.follows .mixedOrders = true := by kernel_rfl
theorem sc2 : ScalarT Try.prog 2 := fun w => Try.isAgg2 w
theorem ze2 : ZE Try.prog 2 [(.int .i64 0)] := ⟨Try.t2, (.int .i64 0), by kernel_rfl, by kernel_rfl, rfl⟩
theorem so2 : ∃ i, Try.prog.info? 2 = some i ∧ i.size = 1 := ⟨Try.t2, by kernel_rfl, by kernel_rfl⟩
theorem sc3 : ScalarT Try.prog 3 := fun w => Try.isAgg3 w
theorem ze3 : ZE Try.prog 3 [(.int .i64 0)] := ⟨Try.t3, (.int .i64 0), by kernel_rfl, by kernel_rfl, rfl⟩
theorem so3 : ∃ i, Try.prog.info? 3 = some i ∧ i.size = 1 := ⟨Try.t3, by kernel_rfl, by kernel_rfl⟩
theorem sc4 : ScalarT Try.prog 4 := fun w => Try.isAgg4 w
theorem ze4 : ZE Try.prog 4 [(.bool false)] := ⟨Try.t4, (.bool false), by kernel_rfl, by kernel_rfl, rfl⟩
theorem so4 : ∃ i, Try.prog.info? 4 = some i ∧ i.size = 1 := ⟨Try.t4, by kernel_rfl, by kernel_rfl⟩
theorem sc5 : ScalarT Try.prog 5 := fun w => Try.isAgg5 w
theorem ze5 : ZE Try.prog 5 [(.int .u8 0)] := ⟨Try.t5, (.int .u8 0), by kernel_rfl, by kernel_rfl, rfl⟩
theorem so5 : ∃ i, Try.prog.info? 5 = some i ∧ i.size = 1 := ⟨Try.t5, by kernel_rfl, by kernel_rfl⟩
theorem sc6 : ScalarT Try.prog 6 := fun w => Try.isAgg6 w
theorem ze6 : ZE Try.prog 6 [(.int .u8 0)] := ⟨Try.t6, (.int .u8 0), by kernel_rfl, by kernel_rfl, rfl⟩
theorem so6 : ∃ i, Try.prog.info? 6 = some i ∧ i.size = 1 := ⟨Try.t6, by kernel_rfl, by kernel_rfl⟩
theorem fa7_0 : FA Try.prog 7 0 0 := ⟨_, _, Try.t2, Try.underlying7, rfl, by kernel_rfl, by kernel_rfl, rfl⟩
theorem fa7_1 : FA Try.prog 7 1 1 := ⟨_, _, Try.t3, Try.underlying7, rfl, by kernel_rfl, by kernel_rfl, rfl⟩
theorem fa7_2 : FA Try.prog 7 2 2 := ⟨_, _, Try.t4, Try.underlying7, rfl, by kernel_rfl, by kernel_rfl, rfl⟩
theorem fa7_3 : FA Try.prog 7 3 3 := ⟨_, _, Try.t6, Try.underlying7, rfl, by kernel_rfl, by kernel_rfl, rfl⟩
theorem ag7 : AG Try.prog 7 4 := ⟨⟨_, Try.underlying7⟩, by kernel_rfl⟩
theorem bd7 : BD Try.prog 7 [(.int .i64 0), (.int .i64 0), (.bool false), (.int .u8 0)] [(0, 1), (1, 1), (2, 1), (3, 1)] := ⟨Try.t7, _, (.agg #[(.int .i64 0), (.int .i64 0), (.bool false), (.int .u8 0)]), by kernel_rfl, Try.underlying7, by kernel_rfl, rfl, by kernel_rfl⟩
theorem ze7 : ZE Try.prog 7 [(.int .i64 0), (.int .i64 0), (.bool false), (.int .u8 0)] := ⟨Try.t7, (.agg #[(.int .i64 0), (.int .i64 0), (.bool false), (.int .u8 0)]), by kernel_rfl, by kernel_rfl, rfl⟩
theorem fa8_0 : FA Try.prog 8 0 0 := ⟨_, _, Try.t2, Try.underlying8, rfl, by kernel_rfl, by kernel_rfl, rfl⟩
theorem fa8_1 : FA Try.prog 8 1 1 := ⟨_, _, Try.t3, Try.underlying8, rfl, by kernel_rfl, by kernel_rfl, rfl⟩
theorem fa8_2 : FA Try.prog 8 2 2 := ⟨_, _, Try.t4, Try.underlying8, rfl, by kernel_rfl, by kernel_rfl, rfl⟩
theorem fa8_3 : FA Try.prog 8 3 3 := ⟨_, _, Try.t6, Try.underlying8, rfl, by kernel_rfl, by kernel_rfl, rfl⟩
theorem ag8 : AG Try.prog 8 4 := ⟨⟨_, Try.underlying8⟩, by kernel_rfl⟩
theorem bd8 : BD Try.prog 8 [(.int .i64 0), (.int .i64 0), (.bool false), (.int .u8 0)] [(0, 1), (1, 1), (2, 1), (3, 1)] := ⟨Try.t8, _, (.agg #[(.int .i64 0), (.int .i64 0), (.bool false), (.int .u8 0)]), by kernel_rfl, Try.underlying8, by kernel_rfl, rfl, by kernel_rfl⟩
theorem ze8 : ZE Try.prog 8 [(.int .i64 0), (.int .i64 0), (.bool false), (.int .u8 0)] := ⟨Try.t8, (.agg #[(.int .i64 0), (.int .i64 0), (.bool false), (.int .u8 0)]), by kernel_rfl, by kernel_rfl, rfl⟩
theorem sc9 : ScalarT Try.prog 9 := fun w => Try.isAgg9 w
theorem ze9 : ZE Try.prog 9 [(.string ⟨#[]⟩)] := ⟨Try.t9, (.string ⟨#[]⟩), by kernel_rfl, by kernel_rfl, rfl⟩
theorem so9 : ∃ i, Try.prog.info? 9 = some i ∧ i.size = 1 := ⟨Try.t9, by kernel_rfl, by kernel_rfl⟩
theorem sc10 : ScalarT Try.prog 10 := fun w => Try.isAgg10 w
theorem ze10 : ZE Try.prog 10 [(.string ⟨#[]⟩)] := ⟨Try.t10, (.string ⟨#[]⟩), by kernel_rfl, by kernel_rfl, rfl⟩
theorem so10 : ∃ i, Try.prog.info? 10 = some i ∧ i.size = 1 := ⟨Try.t10, by kernel_rfl, by kernel_rfl⟩
theorem sc11 : ScalarT Try.prog 11 := fun w => Try.isAgg11 w
theorem ze11 : ZE Try.prog 11 [(.string ⟨#[]⟩)] := ⟨Try.t11, (.string ⟨#[]⟩), by kernel_rfl, by kernel_rfl, rfl⟩
theorem so11 : ∃ i, Try.prog.info? 11 = some i ∧ i.size = 1 := ⟨Try.t11, by kernel_rfl, by kernel_rfl⟩
theorem sc12 : ScalarT Try.prog 12 := fun w => Try.isAgg12 w
theorem ze12 : ZE Try.prog 12 [(.int .u64 0)] := ⟨Try.t12, (.int .u64 0), by kernel_rfl, by kernel_rfl, rfl⟩
theorem so12 : ∃ i, Try.prog.info? 12 = some i ∧ i.size = 1 := ⟨Try.t12, by kernel_rfl, by kernel_rfl⟩
theorem fa13_0 : FA Try.prog 13 0 0 := ⟨_, _, Try.t9, Try.underlying13, rfl, by kernel_rfl, by kernel_rfl, rfl⟩
theorem fa13_1 : FA Try.prog 13 1 1 := ⟨_, _, Try.t12, Try.underlying13, rfl, by kernel_rfl, by kernel_rfl, rfl⟩
theorem ag13 : AG Try.prog 13 2 := ⟨⟨_, Try.underlying13⟩, by kernel_rfl⟩
theorem bd13 : BD Try.prog 13 [(.string ⟨#[]⟩), (.int .u64 0)] [(0, 1), (1, 1)] := ⟨Try.t13, _, (.agg #[(.string ⟨#[]⟩), (.int .u64 0)]), by kernel_rfl, Try.underlying13, by kernel_rfl, rfl, by kernel_rfl⟩
theorem ze13 : ZE Try.prog 13 [(.string ⟨#[]⟩), (.int .u64 0)] := ⟨Try.t13, (.agg #[(.string ⟨#[]⟩), (.int .u64 0)]), by kernel_rfl, by kernel_rfl, rfl⟩
theorem fa14_0 : FA Try.prog 14 0 0 := ⟨_, _, Try.t9, Try.underlying14, rfl, by kernel_rfl, by kernel_rfl, rfl⟩
theorem fa14_1 : FA Try.prog 14 1 1 := ⟨_, _, Try.t12, Try.underlying14, rfl, by kernel_rfl, by kernel_rfl, rfl⟩
theorem ag14 : AG Try.prog 14 2 := ⟨⟨_, Try.underlying14⟩, by kernel_rfl⟩
theorem bd14 : BD Try.prog 14 [(.string ⟨#[]⟩), (.int .u64 0)] [(0, 1), (1, 1)] := ⟨Try.t14, _, (.agg #[(.string ⟨#[]⟩), (.int .u64 0)]), by kernel_rfl, Try.underlying14, by kernel_rfl, rfl, by kernel_rfl⟩
theorem ze14 : ZE Try.prog 14 [(.string ⟨#[]⟩), (.int .u64 0)] := ⟨Try.t14, (.agg #[(.string ⟨#[]⟩), (.int .u64 0)]), by kernel_rfl, by kernel_rfl, rfl⟩
theorem sc15 : ScalarT Try.prog 15 := fun w => Try.isAgg15 w
theorem so15 : ∃ i, Try.prog.info? 15 = some i ∧ i.size = 1 := ⟨Try.t15, by kernel_rfl, by kernel_rfl⟩
theorem sc16 : ScalarT Try.prog 16 := fun w => Try.isAgg16 w
theorem so16 : ∃ i, Try.prog.info? 16 = some i ∧ i.size = 1 := ⟨Try.t16, by kernel_rfl, by kernel_rfl⟩
theorem sc17 : ScalarT Try.prog 17 := fun w => Try.isAgg17 w
theorem so17 : ∃ i, Try.prog.info? 17 = some i ∧ i.size = 1 := ⟨Try.t17, by kernel_rfl, by kernel_rfl⟩
theorem fa18_0 : FA Try.prog 18 0 0 := ⟨_, _, Try.t17, Try.underlying18, rfl, by kernel_rfl, by kernel_rfl, rfl⟩
theorem ag18 : AG Try.prog 18 1 := ⟨⟨_, Try.underlying18⟩, by kernel_rfl⟩
theorem bd18 : BD Try.prog 18 [(.pointer none)] [(0, 1)] := ⟨Try.t18, _, (.agg #[(.pointer none)]), by kernel_rfl, Try.underlying18, by kernel_rfl, rfl, by kernel_rfl⟩
theorem ze18 : ZE Try.prog 18 [(.pointer none)] := ⟨Try.t18, (.agg #[(.pointer none)]), by kernel_rfl, by kernel_rfl, rfl⟩
theorem fa19_0 : FA Try.prog 19 0 0 := ⟨_, _, Try.t17, Try.underlying19, rfl, by kernel_rfl, by kernel_rfl, rfl⟩
theorem ag19 : AG Try.prog 19 1 := ⟨⟨_, Try.underlying19⟩, by kernel_rfl⟩
theorem bd19 : BD Try.prog 19 [(.pointer none)] [(0, 1)] := ⟨Try.t19, _, (.agg #[(.pointer none)]), by kernel_rfl, Try.underlying19, by kernel_rfl, rfl, by kernel_rfl⟩
theorem ze19 : ZE Try.prog 19 [(.pointer none)] := ⟨Try.t19, (.agg #[(.pointer none)]), by kernel_rfl, by kernel_rfl, rfl⟩
theorem sc21 : ScalarT Try.prog 21 := fun w => Try.isAgg21 w
theorem ze21 : ZE Try.prog 21 [(.int .i32 0)] := ⟨Try.t21, (.int .i32 0), by kernel_rfl, by kernel_rfl, rfl⟩
theorem so21 : ∃ i, Try.prog.info? 21 = some i ∧ i.size = 1 := ⟨Try.t21, by kernel_rfl, by kernel_rfl⟩
theorem sT22 : SliceT Try.prog 22 5 (.int .u8 0) 1 := ⟨Try.underlying22, ⟨Try.t5, by kernel_rfl, by kernel_rfl, by kernel_rfl, by kernel_rfl⟩, rfl⟩
theorem sc22 : ScalarT Try.prog 22 := fun w => Try.isAgg22 w
theorem ze22 : ZE Try.prog 22 [(.slice none 0 0)] := ⟨Try.t22, (.slice none 0 0), by kernel_rfl, by kernel_rfl, rfl⟩
theorem so22 : ∃ i, Try.prog.info? 22 = some i ∧ i.size = 1 := ⟨Try.t22, by kernel_rfl, by kernel_rfl⟩
theorem fa24_0 : FA Try.prog 24 0 0 := ⟨_, _, Try.t2, Try.underlying24, rfl, by kernel_rfl, by kernel_rfl, rfl⟩
theorem fa24_1 : FA Try.prog 24 1 1 := ⟨_, _, Try.t2, Try.underlying24, rfl, by kernel_rfl, by kernel_rfl, rfl⟩
theorem fa24_2 : FA Try.prog 24 2 2 := ⟨_, _, Try.t2, Try.underlying24, rfl, by kernel_rfl, by kernel_rfl, rfl⟩
theorem fa24_3 : FA Try.prog 24 3 3 := ⟨_, _, Try.t2, Try.underlying24, rfl, by kernel_rfl, by kernel_rfl, rfl⟩
theorem fa24_4 : FA Try.prog 24 4 4 := ⟨_, _, Try.t2, Try.underlying24, rfl, by kernel_rfl, by kernel_rfl, rfl⟩
theorem ag24 : AG Try.prog 24 5 := ⟨⟨_, Try.underlying24⟩, by kernel_rfl⟩
theorem bd24 : BD Try.prog 24 [(.int .i64 0), (.int .i64 0), (.int .i64 0), (.int .i64 0), (.int .i64 0)] [(0, 1), (1, 1), (2, 1), (3, 1), (4, 1)] := ⟨Try.t24, _, (.agg #[(.int .i64 0), (.int .i64 0), (.int .i64 0), (.int .i64 0), (.int .i64 0)]), by kernel_rfl, Try.underlying24, by kernel_rfl, rfl, by kernel_rfl⟩
theorem ze24 : ZE Try.prog 24 [(.int .i64 0), (.int .i64 0), (.int .i64 0), (.int .i64 0), (.int .i64 0)] := ⟨Try.t24, (.agg #[(.int .i64 0), (.int .i64 0), (.int .i64 0), (.int .i64 0), (.int .i64 0)]), by kernel_rfl, by kernel_rfl, rfl⟩
theorem fa25_0 : FA Try.prog 25 0 0 := ⟨_, _, Try.t2, Try.underlying25, rfl, by kernel_rfl, by kernel_rfl, rfl⟩
theorem fa25_1 : FA Try.prog 25 1 1 := ⟨_, _, Try.t2, Try.underlying25, rfl, by kernel_rfl, by kernel_rfl, rfl⟩
theorem fa25_2 : FA Try.prog 25 2 2 := ⟨_, _, Try.t2, Try.underlying25, rfl, by kernel_rfl, by kernel_rfl, rfl⟩
theorem fa25_3 : FA Try.prog 25 3 3 := ⟨_, _, Try.t2, Try.underlying25, rfl, by kernel_rfl, by kernel_rfl, rfl⟩
theorem fa25_4 : FA Try.prog 25 4 4 := ⟨_, _, Try.t2, Try.underlying25, rfl, by kernel_rfl, by kernel_rfl, rfl⟩
theorem ag25 : AG Try.prog 25 5 := ⟨⟨_, Try.underlying25⟩, by kernel_rfl⟩
theorem bd25 : BD Try.prog 25 [(.int .i64 0), (.int .i64 0), (.int .i64 0), (.int .i64 0), (.int .i64 0)] [(0, 1), (1, 1), (2, 1), (3, 1), (4, 1)] := ⟨Try.t25, _, (.agg #[(.int .i64 0), (.int .i64 0), (.int .i64 0), (.int .i64 0), (.int .i64 0)]), by kernel_rfl, Try.underlying25, by kernel_rfl, rfl, by kernel_rfl⟩
theorem ze25 : ZE Try.prog 25 [(.int .i64 0), (.int .i64 0), (.int .i64 0), (.int .i64 0), (.int .i64 0)] := ⟨Try.t25, (.agg #[(.int .i64 0), (.int .i64 0), (.int .i64 0), (.int .i64 0), (.int .i64 0)]), by kernel_rfl, by kernel_rfl, rfl⟩
theorem sT26 : SliceT Try.prog 26 29 (.slice none 0 0) 24 := ⟨Try.underlying26, ⟨Try.t29, by kernel_rfl, by kernel_rfl, by kernel_rfl, by kernel_rfl⟩, rfl⟩
theorem sc26 : ScalarT Try.prog 26 := fun w => Try.isAgg26 w
theorem ze26 : ZE Try.prog 26 [(.slice none 0 0)] := ⟨Try.t26, (.slice none 0 0), by kernel_rfl, by kernel_rfl, rfl⟩
theorem so26 : ∃ i, Try.prog.info? 26 = some i ∧ i.size = 1 := ⟨Try.t26, by kernel_rfl, by kernel_rfl⟩
theorem fa27_0 : FA Try.prog 27 0 0 := ⟨_, _, Try.t26, Try.underlying27, rfl, by kernel_rfl, by kernel_rfl, rfl⟩
theorem ag27 : AG Try.prog 27 1 := ⟨⟨_, Try.underlying27⟩, by kernel_rfl⟩
theorem bd27 : BD Try.prog 27 [(.slice none 0 0)] [(0, 1)] := ⟨Try.t27, _, (.agg #[(.slice none 0 0)]), by kernel_rfl, Try.underlying27, by kernel_rfl, rfl, by kernel_rfl⟩
theorem ze27 : ZE Try.prog 27 [(.slice none 0 0)] := ⟨Try.t27, (.agg #[(.slice none 0 0)]), by kernel_rfl, by kernel_rfl, rfl⟩
theorem fa28_0 : FA Try.prog 28 0 0 := ⟨_, _, Try.t26, Try.underlying28, rfl, by kernel_rfl, by kernel_rfl, rfl⟩
theorem ag28 : AG Try.prog 28 1 := ⟨⟨_, Try.underlying28⟩, by kernel_rfl⟩
theorem bd28 : BD Try.prog 28 [(.slice none 0 0)] [(0, 1)] := ⟨Try.t28, _, (.agg #[(.slice none 0 0)]), by kernel_rfl, Try.underlying28, by kernel_rfl, rfl, by kernel_rfl⟩
theorem ze28 : ZE Try.prog 28 [(.slice none 0 0)] := ⟨Try.t28, (.agg #[(.slice none 0 0)]), by kernel_rfl, by kernel_rfl, rfl⟩
theorem sT29 : SliceT Try.prog 29 2 (.int .i64 0) 8 := ⟨Try.underlying29, ⟨Try.t2, by kernel_rfl, by kernel_rfl, by kernel_rfl, by kernel_rfl⟩, rfl⟩
theorem sc29 : ScalarT Try.prog 29 := fun w => Try.isAgg29 w
theorem ze29 : ZE Try.prog 29 [(.slice none 0 0)] := ⟨Try.t29, (.slice none 0 0), by kernel_rfl, by kernel_rfl, rfl⟩
theorem so29 : ∃ i, Try.prog.info? 29 = some i ∧ i.size = 1 := ⟨Try.t29, by kernel_rfl, by kernel_rfl⟩
theorem fa40_0 : FA Try.prog 40 0 0 := ⟨_, _, Try.t2, Try.underlying40, rfl, by kernel_rfl, by kernel_rfl, rfl⟩
theorem fa40_1 : FA Try.prog 40 1 1 := ⟨_, _, Try.t2, Try.underlying40, rfl, by kernel_rfl, by kernel_rfl, rfl⟩
theorem fa40_2 : FA Try.prog 40 2 2 := ⟨_, _, Try.t2, Try.underlying40, rfl, by kernel_rfl, by kernel_rfl, rfl⟩
theorem fa40_3 : FA Try.prog 40 3 3 := ⟨_, _, Try.t2, Try.underlying40, rfl, by kernel_rfl, by kernel_rfl, rfl⟩
theorem fa40_4 : FA Try.prog 40 4 4 := ⟨_, _, Try.t2, Try.underlying40, rfl, by kernel_rfl, by kernel_rfl, rfl⟩
theorem ag40 : AG Try.prog 40 5 := ⟨⟨_, Try.underlying40⟩, by kernel_rfl⟩
theorem bd40 : BD Try.prog 40 [(.int .i64 0), (.int .i64 0), (.int .i64 0), (.int .i64 0), (.int .i64 0)] [(0, 1), (1, 1), (2, 1), (3, 1), (4, 1)] := ⟨Try.t40, _, (.agg #[(.int .i64 0), (.int .i64 0), (.int .i64 0), (.int .i64 0), (.int .i64 0)]), by kernel_rfl, Try.underlying40, by kernel_rfl, rfl, by kernel_rfl⟩
theorem ze40 : ZE Try.prog 40 [(.int .i64 0), (.int .i64 0), (.int .i64 0), (.int .i64 0), (.int .i64 0)] := ⟨Try.t40, (.agg #[(.int .i64 0), (.int .i64 0), (.int .i64 0), (.int .i64 0), (.int .i64 0)]), by kernel_rfl, by kernel_rfl, rfl⟩
theorem fa41_0 : FA Try.prog 41 0 0 := ⟨_, _, Try.t26, Try.underlying41, rfl, by kernel_rfl, by kernel_rfl, rfl⟩
theorem ag41 : AG Try.prog 41 1 := ⟨⟨_, Try.underlying41⟩, by kernel_rfl⟩
theorem bd41 : BD Try.prog 41 [(.slice none 0 0)] [(0, 1)] := ⟨Try.t41, _, (.agg #[(.slice none 0 0)]), by kernel_rfl, Try.underlying41, by kernel_rfl, rfl, by kernel_rfl⟩
theorem ze41 : ZE Try.prog 41 [(.slice none 0 0)] := ⟨Try.t41, (.agg #[(.slice none 0 0)]), by kernel_rfl, by kernel_rfl, rfl⟩
theorem lT66 : LockT Try.prog 66 28 (.slice none 0 0) := ⟨Try.underlying66, ⟨Try.t28, by kernel_rfl, by kernel_rfl, by kernel_rfl⟩, rfl⟩
theorem sc66 : ScalarT Try.prog 66 := fun w => Try.isAgg66 w
theorem ze66 : ZE Try.prog 66 [(.slice none 0 0)] := ⟨Try.t66, (.slice none 0 0), by kernel_rfl, by kernel_rfl, rfl⟩
theorem so66 : ∃ i, Try.prog.info? 66 = some i ∧ i.size = 1 := ⟨Try.t66, by kernel_rfl, by kernel_rfl⟩
theorem sc71 : ScalarT Try.prog 71 := fun w => Try.isAgg71 w
theorem so71 : ∃ i, Try.prog.info? 71 = some i ∧ i.size = 1 := ⟨Try.t71, by kernel_rfl, by kernel_rfl⟩
theorem fa105_0 : FA Try.prog 105 0 0 := ⟨_, _, Try.t22, Try.underlying105, rfl, by kernel_rfl, by kernel_rfl, rfl⟩
theorem fa105_1 : FA Try.prog 105 1 1 := ⟨_, _, Try.t3, Try.underlying105, rfl, by kernel_rfl, by kernel_rfl, rfl⟩
theorem fa105_2 : FA Try.prog 105 2 2 := ⟨_, _, Try.t2, Try.underlying105, rfl, by kernel_rfl, by kernel_rfl, rfl⟩
theorem ag105 : AG Try.prog 105 3 := ⟨⟨_, Try.underlying105⟩, by kernel_rfl⟩
theorem bd105 : BD Try.prog 105 [(.slice none 0 0), (.int .i64 0), (.int .i64 0)] [(0, 1), (1, 1), (2, 1)] := ⟨Try.t105, _, (.agg #[(.slice none 0 0), (.int .i64 0), (.int .i64 0)]), by kernel_rfl, Try.underlying105, by kernel_rfl, rfl, by kernel_rfl⟩
theorem ze105 : ZE Try.prog 105 [(.slice none 0 0), (.int .i64 0), (.int .i64 0)] := ⟨Try.t105, (.agg #[(.slice none 0 0), (.int .i64 0), (.int .i64 0)]), by kernel_rfl, by kernel_rfl, rfl⟩
theorem fa106_0 : FA Try.prog 106 0 0 := ⟨_, _, Try.t22, Try.underlying106, rfl, by kernel_rfl, by kernel_rfl, rfl⟩
theorem fa106_1 : FA Try.prog 106 1 1 := ⟨_, _, Try.t3, Try.underlying106, rfl, by kernel_rfl, by kernel_rfl, rfl⟩
theorem fa106_2 : FA Try.prog 106 2 2 := ⟨_, _, Try.t2, Try.underlying106, rfl, by kernel_rfl, by kernel_rfl, rfl⟩
theorem ag106 : AG Try.prog 106 3 := ⟨⟨_, Try.underlying106⟩, by kernel_rfl⟩
theorem bd106 : BD Try.prog 106 [(.slice none 0 0), (.int .i64 0), (.int .i64 0)] [(0, 1), (1, 1), (2, 1)] := ⟨Try.t106, _, (.agg #[(.slice none 0 0), (.int .i64 0), (.int .i64 0)]), by kernel_rfl, Try.underlying106, by kernel_rfl, rfl, by kernel_rfl⟩
theorem ze106 : ZE Try.prog 106 [(.slice none 0 0), (.int .i64 0), (.int .i64 0)] := ⟨Try.t106, (.agg #[(.slice none 0 0), (.int .i64 0), (.int .i64 0)]), by kernel_rfl, by kernel_rfl, rfl⟩
theorem fa121_0 : FA Try.prog 121 0 0 := ⟨_, _, Try.t17, Try.underlying121, rfl, by kernel_rfl, by kernel_rfl, rfl⟩
theorem fa121_1 : FA Try.prog 121 1 1 := ⟨_, _, Try.t17, Try.underlying121, rfl, by kernel_rfl, by kernel_rfl, rfl⟩
theorem fa121_2 : FA Try.prog 121 2 2 := ⟨_, _, Try.t17, Try.underlying121, rfl, by kernel_rfl, by kernel_rfl, rfl⟩
theorem fa121_3 : FA Try.prog 121 3 3 := ⟨_, _, Try.t9, Try.underlying121, rfl, by kernel_rfl, by kernel_rfl, rfl⟩
theorem ag121 : AG Try.prog 121 4 := ⟨⟨_, Try.underlying121⟩, by kernel_rfl⟩
theorem bd121 : BD Try.prog 121 [(.pointer none), (.pointer none), (.pointer none), (.string ⟨#[]⟩)] [(0, 1), (1, 1), (2, 1), (3, 1)] := ⟨Try.t121, _, (.agg #[(.pointer none), (.pointer none), (.pointer none), (.string ⟨#[]⟩)]), by kernel_rfl, Try.underlying121, by kernel_rfl, rfl, by kernel_rfl⟩
theorem ze121 : ZE Try.prog 121 [(.pointer none), (.pointer none), (.pointer none), (.string ⟨#[]⟩)] := ⟨Try.t121, (.agg #[(.pointer none), (.pointer none), (.pointer none), (.string ⟨#[]⟩)]), by kernel_rfl, by kernel_rfl, rfl⟩
theorem fa122_0 : FA Try.prog 122 0 0 := ⟨_, _, Try.t17, Try.underlying122, rfl, by kernel_rfl, by kernel_rfl, rfl⟩
theorem fa122_1 : FA Try.prog 122 1 1 := ⟨_, _, Try.t17, Try.underlying122, rfl, by kernel_rfl, by kernel_rfl, rfl⟩
theorem fa122_2 : FA Try.prog 122 2 2 := ⟨_, _, Try.t17, Try.underlying122, rfl, by kernel_rfl, by kernel_rfl, rfl⟩
theorem fa122_3 : FA Try.prog 122 3 3 := ⟨_, _, Try.t9, Try.underlying122, rfl, by kernel_rfl, by kernel_rfl, rfl⟩
theorem ag122 : AG Try.prog 122 4 := ⟨⟨_, Try.underlying122⟩, by kernel_rfl⟩
theorem bd122 : BD Try.prog 122 [(.pointer none), (.pointer none), (.pointer none), (.string ⟨#[]⟩)] [(0, 1), (1, 1), (2, 1), (3, 1)] := ⟨Try.t122, _, (.agg #[(.pointer none), (.pointer none), (.pointer none), (.string ⟨#[]⟩)]), by kernel_rfl, Try.underlying122, by kernel_rfl, rfl, by kernel_rfl⟩
theorem ze122 : ZE Try.prog 122 [(.pointer none), (.pointer none), (.pointer none), (.string ⟨#[]⟩)] := ⟨Try.t122, (.agg #[(.pointer none), (.pointer none), (.pointer none), (.string ⟨#[]⟩)]), by kernel_rfl, by kernel_rfl, rfl⟩
theorem ag124 : AG Try.prog 124 0 := ⟨⟨_, Try.underlying124⟩, by kernel_rfl⟩
theorem ze124 : ZE Try.prog 124 [] := ⟨Try.t124, (.agg #[]), by kernel_rfl, by kernel_rfl, rfl⟩
theorem ag125 : AG Try.prog 125 0 := ⟨⟨_, Try.underlying125⟩, by kernel_rfl⟩
theorem ze125 : ZE Try.prog 125 [] := ⟨Try.t125, (.agg #[]), by kernel_rfl, by kernel_rfl, rfl⟩
theorem sc127 : ScalarT Try.prog 127 := fun w => Try.isAgg127 w
theorem ze127 : ZE Try.prog 127 [(.int .u32 0)] := ⟨Try.t127, (.int .u32 0), by kernel_rfl, by kernel_rfl, rfl⟩
theorem so127 : ∃ i, Try.prog.info? 127 = some i ∧ i.size = 1 := ⟨Try.t127, by kernel_rfl, by kernel_rfl⟩
theorem sc128 : ScalarT Try.prog 128 := fun w => Try.isAgg128 w
theorem ze128 : ZE Try.prog 128 [(.int .u8 0)] := ⟨Try.t128, (.int .u8 0), by kernel_rfl, by kernel_rfl, rfl⟩
theorem so128 : ∃ i, Try.prog.info? 128 = some i ∧ i.size = 1 := ⟨Try.t128, by kernel_rfl, by kernel_rfl⟩
theorem sc129 : ScalarT Try.prog 129 := fun w => Try.isAgg129 w
theorem ze129 : ZE Try.prog 129 [(.int .u8 0)] := ⟨Try.t129, (.int .u8 0), by kernel_rfl, by kernel_rfl, rfl⟩
theorem so129 : ∃ i, Try.prog.info? 129 = some i ∧ i.size = 1 := ⟨Try.t129, by kernel_rfl, by kernel_rfl⟩
theorem sc131 : ScalarT Try.prog 131 := fun w => Try.isAgg131 w
theorem so131 : ∃ i, Try.prog.info? 131 = some i ∧ i.size = 1 := ⟨Try.t131, by kernel_rfl, by kernel_rfl⟩
theorem sc132 : ScalarT Try.prog 132 := fun w => Try.isAgg132 w
theorem ze132 : ZE Try.prog 132 [(.int .i32 0)] := ⟨Try.t132, (.int .i32 0), by kernel_rfl, by kernel_rfl, rfl⟩
theorem so132 : ∃ i, Try.prog.info? 132 = some i ∧ i.size = 1 := ⟨Try.t132, by kernel_rfl, by kernel_rfl⟩
theorem sc133 : ScalarT Try.prog 133 := fun w => Try.isAgg133 w
theorem ze133 : ZE Try.prog 133 [(.int .i32 0)] := ⟨Try.t133, (.int .i32 0), by kernel_rfl, by kernel_rfl, rfl⟩
theorem so133 : ∃ i, Try.prog.info? 133 = some i ∧ i.size = 1 := ⟨Try.t133, by kernel_rfl, by kernel_rfl⟩
theorem fa134_0 : FA Try.prog 134 0 0 := ⟨_, _, Try.t12, Try.underlying134, rfl, by kernel_rfl, by kernel_rfl, rfl⟩
theorem fa134_1 : FA Try.prog 134 1 1 := ⟨_, _, Try.t12, Try.underlying134, rfl, by kernel_rfl, by kernel_rfl, rfl⟩
theorem fa134_2 : FA Try.prog 134 2 2 := ⟨_, _, Try.t127, Try.underlying134, rfl, by kernel_rfl, by kernel_rfl, rfl⟩
theorem fa134_3 : FA Try.prog 134 3 3 := ⟨_, _, Try.t128, Try.underlying134, rfl, by kernel_rfl, by kernel_rfl, rfl⟩
theorem fa134_4 : FA Try.prog 134 4 4 := ⟨_, _, Try.t5, Try.underlying134, rfl, by kernel_rfl, by kernel_rfl, rfl⟩
theorem fa134_5 : FA Try.prog 134 5 5 := ⟨_, _, Try.t5, Try.underlying134, rfl, by kernel_rfl, by kernel_rfl, rfl⟩
theorem fa134_6 : FA Try.prog 134 6 6 := ⟨_, _, Try.t129, Try.underlying134, rfl, by kernel_rfl, by kernel_rfl, rfl⟩
theorem fa134_7 : FA Try.prog 134 7 7 := ⟨_, _, Try.t130, Try.underlying134, rfl, by kernel_rfl, by kernel_rfl, rfl⟩
theorem fa134_8 : FA Try.prog 134 8 8 := ⟨_, _, Try.t131, Try.underlying134, rfl, by kernel_rfl, by kernel_rfl, rfl⟩
theorem fa134_9 : FA Try.prog 134 9 9 := ⟨_, _, Try.t132, Try.underlying134, rfl, by kernel_rfl, by kernel_rfl, rfl⟩
theorem fa134_10 : FA Try.prog 134 10 10 := ⟨_, _, Try.t133, Try.underlying134, rfl, by kernel_rfl, by kernel_rfl, rfl⟩
theorem ag134 : AG Try.prog 134 11 := ⟨⟨_, Try.underlying134⟩, by kernel_rfl⟩
theorem bd134 : BD Try.prog 134 [(.int .u64 0), (.int .u64 0), (.int .u32 0), (.int .u8 0), (.int .u8 0), (.int .u8 0), (.int .u8 0), .nilFunc, (.pointer none), (.int .i32 0), (.int .i32 0)] [(0, 1), (1, 1), (2, 1), (3, 1), (4, 1), (5, 1), (6, 1), (7, 1), (8, 1), (9, 1), (10, 1)] := ⟨Try.t134, _, (.agg #[(.int .u64 0), (.int .u64 0), (.int .u32 0), (.int .u8 0), (.int .u8 0), (.int .u8 0), (.int .u8 0), .nilFunc, (.pointer none), (.int .i32 0), (.int .i32 0)]), by kernel_rfl, Try.underlying134, by kernel_rfl, rfl, by kernel_rfl⟩
theorem ze134 : ZE Try.prog 134 [(.int .u64 0), (.int .u64 0), (.int .u32 0), (.int .u8 0), (.int .u8 0), (.int .u8 0), (.int .u8 0), .nilFunc, (.pointer none), (.int .i32 0), (.int .i32 0)] := ⟨Try.t134, (.agg #[(.int .u64 0), (.int .u64 0), (.int .u32 0), (.int .u8 0), (.int .u8 0), (.int .u8 0), (.int .u8 0), .nilFunc, (.pointer none), (.int .i32 0), (.int .i32 0)]), by kernel_rfl, by kernel_rfl, rfl⟩
theorem fa135_0 : FA Try.prog 135 0 0 := ⟨_, _, Try.t12, Try.underlying135, rfl, by kernel_rfl, by kernel_rfl, rfl⟩
theorem fa135_1 : FA Try.prog 135 1 1 := ⟨_, _, Try.t12, Try.underlying135, rfl, by kernel_rfl, by kernel_rfl, rfl⟩
theorem fa135_2 : FA Try.prog 135 2 2 := ⟨_, _, Try.t127, Try.underlying135, rfl, by kernel_rfl, by kernel_rfl, rfl⟩
theorem fa135_3 : FA Try.prog 135 3 3 := ⟨_, _, Try.t128, Try.underlying135, rfl, by kernel_rfl, by kernel_rfl, rfl⟩
theorem fa135_4 : FA Try.prog 135 4 4 := ⟨_, _, Try.t5, Try.underlying135, rfl, by kernel_rfl, by kernel_rfl, rfl⟩
theorem fa135_5 : FA Try.prog 135 5 5 := ⟨_, _, Try.t5, Try.underlying135, rfl, by kernel_rfl, by kernel_rfl, rfl⟩
theorem fa135_6 : FA Try.prog 135 6 6 := ⟨_, _, Try.t129, Try.underlying135, rfl, by kernel_rfl, by kernel_rfl, rfl⟩
theorem fa135_7 : FA Try.prog 135 7 7 := ⟨_, _, Try.t130, Try.underlying135, rfl, by kernel_rfl, by kernel_rfl, rfl⟩
theorem fa135_8 : FA Try.prog 135 8 8 := ⟨_, _, Try.t131, Try.underlying135, rfl, by kernel_rfl, by kernel_rfl, rfl⟩
theorem fa135_9 : FA Try.prog 135 9 9 := ⟨_, _, Try.t132, Try.underlying135, rfl, by kernel_rfl, by kernel_rfl, rfl⟩
theorem fa135_10 : FA Try.prog 135 10 10 := ⟨_, _, Try.t133, Try.underlying135, rfl, by kernel_rfl, by kernel_rfl, rfl⟩
theorem ag135 : AG Try.prog 135 11 := ⟨⟨_, Try.underlying135⟩, by kernel_rfl⟩
theorem bd135 : BD Try.prog 135 [(.int .u64 0), (.int .u64 0), (.int .u32 0), (.int .u8 0), (.int .u8 0), (.int .u8 0), (.int .u8 0), .nilFunc, (.pointer none), (.int .i32 0), (.int .i32 0)] [(0, 1), (1, 1), (2, 1), (3, 1), (4, 1), (5, 1), (6, 1), (7, 1), (8, 1), (9, 1), (10, 1)] := ⟨Try.t135, _, (.agg #[(.int .u64 0), (.int .u64 0), (.int .u32 0), (.int .u8 0), (.int .u8 0), (.int .u8 0), (.int .u8 0), .nilFunc, (.pointer none), (.int .i32 0), (.int .i32 0)]), by kernel_rfl, Try.underlying135, by kernel_rfl, rfl, by kernel_rfl⟩
theorem ze135 : ZE Try.prog 135 [(.int .u64 0), (.int .u64 0), (.int .u32 0), (.int .u8 0), (.int .u8 0), (.int .u8 0), (.int .u8 0), .nilFunc, (.pointer none), (.int .i32 0), (.int .i32 0)] := ⟨Try.t135, (.agg #[(.int .u64 0), (.int .u64 0), (.int .u32 0), (.int .u8 0), (.int .u8 0), (.int .u8 0), (.int .u8 0), .nilFunc, (.pointer none), (.int .i32 0), (.int .i32 0)]), by kernel_rfl, by kernel_rfl, rfl⟩
end Go.Proofs.Ytaepdknmagaokaa
