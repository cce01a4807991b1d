/-
  The rows of the program's table of types that the walks of this seat use; with structs.
-/
import Derived.Test.YtebegkegkdmbjaaMem
import Derived.Test.YtebegkegkdmbjaaStruct
import Derived.Test.YtebegkegkdmbjaaProg
namespace Go.Proofs.Ytebegkegkdmbjaa
open B Go.RowKit
theorem mixed : Try.prog.follows .mixedOrders = true := by kernel_rfl
theorem sc2 : ScalarT Try.prog 2 := fun w => Try.isAgg2 w
theorem ze2 : ZE Try.prog 2 [(.int .i64 0)] := ⟨Try.t2, (.int .i64 0), by kernel_rfl, by kernel_rfl, rfl⟩
theorem so2 : ∃ i, Try.prog.info? 2 = some i ∧ i.size = 1 := ⟨Try.t2, by kernel_rfl, by kernel_rfl⟩
theorem sc3 : ScalarT Try.prog 3 := fun w => Try.isAgg3 w
theorem ze3 : ZE Try.prog 3 [(.int .i64 0)] := ⟨Try.t3, (.int .i64 0), by kernel_rfl, by kernel_rfl, rfl⟩
theorem so3 : ∃ i, Try.prog.info? 3 = some i ∧ i.size = 1 := ⟨Try.t3, by kernel_rfl, by kernel_rfl⟩
theorem sc4 : ScalarT Try.prog 4 := fun w => Try.isAgg4 w
theorem ze4 : ZE Try.prog 4 [(.bool false)] := ⟨Try.t4, (.bool false), by kernel_rfl, by kernel_rfl, rfl⟩
theorem so4 : ∃ i, Try.prog.info? 4 = some i ∧ i.size = 1 := ⟨Try.t4, by kernel_rfl, by kernel_rfl⟩
theorem sc5 : ScalarT Try.prog 5 := fun w => Try.isAgg5 w
theorem ze5 : ZE Try.prog 5 [(.int .u8 0)] := ⟨Try.t5, (.int .u8 0), by kernel_rfl, by kernel_rfl, rfl⟩
theorem so5 : ∃ i, Try.prog.info? 5 = some i ∧ i.size = 1 := ⟨Try.t5, by kernel_rfl, by kernel_rfl⟩
theorem sc6 : ScalarT Try.prog 6 := fun w => Try.isAgg6 w
theorem ze6 : ZE Try.prog 6 [(.int .u8 0)] := ⟨Try.t6, (.int .u8 0), by kernel_rfl, by kernel_rfl, rfl⟩
theorem so6 : ∃ i, Try.prog.info? 6 = some i ∧ i.size = 1 := ⟨Try.t6, by kernel_rfl, by kernel_rfl⟩
theorem fa7_0 : FA Try.prog 7 0 0 := ⟨_, _, Try.t2, Try.underlying7, rfl, by kernel_rfl, by kernel_rfl, rfl⟩
theorem fa7_1 : FA Try.prog 7 1 1 := ⟨_, _, Try.t3, Try.underlying7, rfl, by kernel_rfl, by kernel_rfl, rfl⟩
theorem fa7_2 : FA Try.prog 7 2 2 := ⟨_, _, Try.t4, Try.underlying7, rfl, by kernel_rfl, by kernel_rfl, rfl⟩
theorem fa7_3 : FA Try.prog 7 3 3 := ⟨_, _, Try.t6, Try.underlying7, rfl, by kernel_rfl, by kernel_rfl, rfl⟩
theorem ag7 : AG Try.prog 7 4 := ⟨⟨_, Try.underlying7⟩, by kernel_rfl⟩
theorem bd7 : BD Try.prog 7 [(.int .i64 0), (.int .i64 0), (.bool false), (.int .u8 0)] [(0, 1), (1, 1), (2, 1), (3, 1)] := ⟨Try.t7, _, (.agg #[(.int .i64 0), (.int .i64 0), (.bool false), (.int .u8 0)]), by kernel_rfl, Try.underlying7, by kernel_rfl, rfl, by kernel_rfl⟩
theorem ze7 : ZE Try.prog 7 [(.int .i64 0), (.int .i64 0), (.bool false), (.int .u8 0)] := ⟨Try.t7, (.agg #[(.int .i64 0), (.int .i64 0), (.bool false), (.int .u8 0)]), by kernel_rfl, by kernel_rfl, rfl⟩
theorem fa8_0 : FA Try.prog 8 0 0 := ⟨_, _, Try.t2, Try.underlying8, rfl, by kernel_rfl, by kernel_rfl, rfl⟩
theorem fa8_1 : FA Try.prog 8 1 1 := ⟨_, _, Try.t3, Try.underlying8, rfl, by kernel_rfl, by kernel_rfl, rfl⟩
theorem fa8_2 : FA Try.prog 8 2 2 := ⟨_, _, Try.t4, Try.underlying8, rfl, by kernel_rfl, by kernel_rfl, rfl⟩
theorem fa8_3 : FA Try.prog 8 3 3 := ⟨_, _, Try.t6, Try.underlying8, rfl, by kernel_rfl, by kernel_rfl, rfl⟩
theorem ag8 : AG Try.prog 8 4 := ⟨⟨_, Try.underlying8⟩, by kernel_rfl⟩
theorem bd8 : BD Try.prog 8 [(.int .i64 0), (.int .i64 0), (.bool false), (.int .u8 0)] [(0, 1), (1, 1), (2, 1), (3, 1)] := ⟨Try.t8, _, (.agg #[(.int .i64 0), (.int .i64 0), (.bool false), (.int .u8 0)]), by kernel_rfl, Try.underlying8, by kernel_rfl, rfl, by kernel_rfl⟩
theorem ze8 : ZE Try.prog 8 [(.int .i64 0), (.int .i64 0), (.bool false), (.int .u8 0)] := ⟨Try.t8, (.agg #[(.int .i64 0), (.int .i64 0), (.bool false), (.int .u8 0)]), by kernel_rfl, by kernel_rfl, rfl⟩
theorem sc9 : ScalarT Try.prog 9 := fun w => Try.isAgg9 w
theorem ze9 : ZE Try.prog 9 [(.string ⟨#[]⟩)] := ⟨Try.t9, (.string ⟨#[]⟩), by kernel_rfl, by kernel_rfl, rfl⟩
theorem so9 : ∃ i, Try.prog.info? 9 = some i ∧ i.size = 1 := ⟨Try.t9, by kernel_rfl, by kernel_rfl⟩
theorem sc10 : ScalarT Try.prog 10 := fun w => Try.isAgg10 w
theorem ze10 : ZE Try.prog 10 [(.string ⟨#[]⟩)] := ⟨Try.t10, (.string ⟨#[]⟩), by kernel_rfl, by kernel_rfl, rfl⟩
theorem so10 : ∃ i, Try.prog.info? 10 = some i ∧ i.size = 1 := ⟨Try.t10, by kernel_rfl, by kernel_rfl⟩
theorem sc11 : ScalarT Try.prog 11 := fun w => Try.isAgg11 w
theorem ze11 : ZE Try.prog 11 [(.string ⟨#[]⟩)] := ⟨Try.t11, (.string ⟨#[]⟩), by kernel_rfl, by kernel_rfl, rfl⟩
theorem so11 : ∃ i, Try.prog.info? 11 = some i ∧ i.size = 1 := ⟨Try.t11, by kernel_rfl, by kernel_rfl⟩
theorem sc12 : ScalarT Try.prog 12 := fun w => Try.isAgg12 w
theorem ze12 : ZE Try.prog 12 [(.int .u64 0)] := ⟨Try.t12, (.int .u64 0), by kernel_rfl, by kernel_rfl, rfl⟩
theorem so12 : ∃ i, Try.prog.info? 12 = some i ∧ i.size = 1 := ⟨Try.t12, by kernel_rfl, by kernel_rfl⟩
theorem fa13_0 : FA Try.prog 13 0 0 := ⟨_, _, Try.t9, Try.underlying13, rfl, by kernel_rfl, by kernel_rfl, rfl⟩
theorem fa13_1 : FA Try.prog 13 1 1 := ⟨_, _, Try.t12, Try.underlying13, rfl, by kernel_rfl, by kernel_rfl, rfl⟩
theorem ag13 : AG Try.prog 13 2 := ⟨⟨_, Try.underlying13⟩, by kernel_rfl⟩
theorem bd13 : BD Try.prog 13 [(.string ⟨#[]⟩), (.int .u64 0)] [(0, 1), (1, 1)] := ⟨Try.t13, _, (.agg #[(.string ⟨#[]⟩), (.int .u64 0)]), by kernel_rfl, Try.underlying13, by kernel_rfl, rfl, by kernel_rfl⟩
theorem ze13 : ZE Try.prog 13 [(.string ⟨#[]⟩), (.int .u64 0)] := ⟨Try.t13, (.agg #[(.string ⟨#[]⟩), (.int .u64 0)]), by kernel_rfl, by kernel_rfl, rfl⟩
theorem fa14_0 : FA Try.prog 14 0 0 := ⟨_, _, Try.t9, Try.underlying14, rfl, by kernel_rfl, by kernel_rfl, rfl⟩
theorem fa14_1 : FA Try.prog 14 1 1 := ⟨_, _, Try.t12, Try.underlying14, rfl, by kernel_rfl, by kernel_rfl, rfl⟩
theorem ag14 : AG Try.prog 14 2 := ⟨⟨_, Try.underlying14⟩, by kernel_rfl⟩
theorem bd14 : BD Try.prog 14 [(.string ⟨#[]⟩), (.int .u64 0)] [(0, 1), (1, 1)] := ⟨Try.t14, _, (.agg #[(.string ⟨#[]⟩), (.int .u64 0)]), by kernel_rfl, Try.underlying14, by kernel_rfl, rfl, by kernel_rfl⟩
theorem ze14 : ZE Try.prog 14 [(.string ⟨#[]⟩), (.int .u64 0)] := ⟨Try.t14, (.agg #[(.string ⟨#[]⟩), (.int .u64 0)]), by kernel_rfl, by kernel_rfl, rfl⟩
theorem sc15 : ScalarT Try.prog 15 := fun w => Try.isAgg15 w
theorem so15 : ∃ i, Try.prog.info? 15 = some i ∧ i.size = 1 := ⟨Try.t15, by kernel_rfl, by kernel_rfl⟩
theorem sc16 : ScalarT Try.prog 16 := fun w => Try.isAgg16 w
theorem so16 : ∃ i, Try.prog.info? 16 = some i ∧ i.size = 1 := ⟨Try.t16, by kernel_rfl, by kernel_rfl⟩
theorem sc17 : ScalarT Try.prog 17 := fun w => Try.isAgg17 w
theorem so17 : ∃ i, Try.prog.info? 17 = some i ∧ i.size = 1 := ⟨Try.t17, by kernel_rfl, by kernel_rfl⟩
theorem fa18_0 : FA Try.prog 18 0 0 := ⟨_, _, Try.t17, Try.underlying18, rfl, by kernel_rfl, by kernel_rfl, rfl⟩
theorem ag18 : AG Try.prog 18 1 := ⟨⟨_, Try.underlying18⟩, by kernel_rfl⟩
theorem bd18 : BD Try.prog 18 [(.pointer none)] [(0, 1)] := ⟨Try.t18, _, (.agg #[(.pointer none)]), by kernel_rfl, Try.underlying18, by kernel_rfl, rfl, by kernel_rfl⟩
theorem ze18 : ZE Try.prog 18 [(.pointer none)] := ⟨Try.t18, (.agg #[(.pointer none)]), by kernel_rfl, by kernel_rfl, rfl⟩
theorem fa19_0 : FA Try.prog 19 0 0 := ⟨_, _, Try.t17, Try.underlying19, rfl, by kernel_rfl, by kernel_rfl, rfl⟩
theorem ag19 : AG Try.prog 19 1 := ⟨⟨_, Try.underlying19⟩, by kernel_rfl⟩
theorem bd19 : BD Try.prog 19 [(.pointer none)] [(0, 1)] := ⟨Try.t19, _, (.agg #[(.pointer none)]), by kernel_rfl, Try.underlying19, by kernel_rfl, rfl, by kernel_rfl⟩
theorem ze19 : ZE Try.prog 19 [(.pointer none)] := ⟨Try.t19, (.agg #[(.pointer none)]), by kernel_rfl, by kernel_rfl, rfl⟩
theorem sc21 : ScalarT Try.prog 21 := fun w => Try.isAgg21 w
theorem ze21 : ZE Try.prog 21 [(.int .i32 0)] := ⟨Try.t21, (.int .i32 0), by kernel_rfl, by kernel_rfl, rfl⟩
theorem so21 : ∃ i, Try.prog.info? 21 = some i ∧ i.size = 1 := ⟨Try.t21, by kernel_rfl, by kernel_rfl⟩
theorem sT22 : SliceT Try.prog 22 2 (.int .i64 0) 8 := ⟨Try.underlying22, ⟨Try.t2, by kernel_rfl, by kernel_rfl, by kernel_rfl, by kernel_rfl⟩, rfl⟩
theorem sc22 : ScalarT Try.prog 22 := fun w => Try.isAgg22 w
theorem ze22 : ZE Try.prog 22 [(.slice none 0 0)] := ⟨Try.t22, (.slice none 0 0), by kernel_rfl, by kernel_rfl, rfl⟩
theorem so22 : ∃ i, Try.prog.info? 22 = some i ∧ i.size = 1 := ⟨Try.t22, by kernel_rfl, by kernel_rfl⟩
theorem sT23 : SliceT Try.prog 23 4 (.bool false) 1 := ⟨Try.underlying23, ⟨Try.t4, by kernel_rfl, by kernel_rfl, by kernel_rfl, by kernel_rfl⟩, rfl⟩
theorem sc23 : ScalarT Try.prog 23 := fun w => Try.isAgg23 w
theorem ze23 : ZE Try.prog 23 [(.slice none 0 0)] := ⟨Try.t23, (.slice none 0 0), by kernel_rfl, by kernel_rfl, rfl⟩
theorem so23 : ∃ i, Try.prog.info? 23 = some i ∧ i.size = 1 := ⟨Try.t23, by kernel_rfl, by kernel_rfl⟩
theorem fa24_0 : FA Try.prog 24 0 0 := ⟨_, _, Try.t22, Try.underlying24, rfl, by kernel_rfl, by kernel_rfl, rfl⟩
theorem fa24_1 : FA Try.prog 24 1 1 := ⟨_, _, Try.t23, Try.underlying24, rfl, by kernel_rfl, by kernel_rfl, rfl⟩
theorem ag24 : AG Try.prog 24 2 := ⟨⟨_, Try.underlying24⟩, by kernel_rfl⟩
theorem bd24 : BD Try.prog 24 [(.slice none 0 0), (.slice none 0 0)] [(0, 1), (1, 1)] := ⟨Try.t24, _, (.agg #[(.slice none 0 0), (.slice none 0 0)]), by kernel_rfl, Try.underlying24, by kernel_rfl, rfl, by kernel_rfl⟩
theorem ze24 : ZE Try.prog 24 [(.slice none 0 0), (.slice none 0 0)] := ⟨Try.t24, (.agg #[(.slice none 0 0), (.slice none 0 0)]), by kernel_rfl, by kernel_rfl, rfl⟩
theorem fa25_0 : FA Try.prog 25 0 0 := ⟨_, _, Try.t22, Try.underlying25, rfl, by kernel_rfl, by kernel_rfl, rfl⟩
theorem fa25_1 : FA Try.prog 25 1 1 := ⟨_, _, Try.t23, Try.underlying25, rfl, by kernel_rfl, by kernel_rfl, rfl⟩
theorem ag25 : AG Try.prog 25 2 := ⟨⟨_, Try.underlying25⟩, by kernel_rfl⟩
theorem bd25 : BD Try.prog 25 [(.slice none 0 0), (.slice none 0 0)] [(0, 1), (1, 1)] := ⟨Try.t25, _, (.agg #[(.slice none 0 0), (.slice none 0 0)]), by kernel_rfl, Try.underlying25, by kernel_rfl, rfl, by kernel_rfl⟩
theorem ze25 : ZE Try.prog 25 [(.slice none 0 0), (.slice none 0 0)] := ⟨Try.t25, (.agg #[(.slice none 0 0), (.slice none 0 0)]), by kernel_rfl, by kernel_rfl, rfl⟩
theorem fa28_0 : FA Try.prog 28 0 0 := ⟨_, _, Try.t22, Try.underlying28, rfl, by kernel_rfl, by kernel_rfl, rfl⟩
theorem fa28_1 : FA Try.prog 28 1 1 := ⟨_, _, Try.t23, Try.underlying28, rfl, by kernel_rfl, by kernel_rfl, rfl⟩
theorem ag28 : AG Try.prog 28 2 := ⟨⟨_, Try.underlying28⟩, by kernel_rfl⟩
theorem bd28 : BD Try.prog 28 [(.slice none 0 0), (.slice none 0 0)] [(0, 1), (1, 1)] := ⟨Try.t28, _, (.agg #[(.slice none 0 0), (.slice none 0 0)]), by kernel_rfl, Try.underlying28, by kernel_rfl, rfl, by kernel_rfl⟩
theorem ze28 : ZE Try.prog 28 [(.slice none 0 0), (.slice none 0 0)] := ⟨Try.t28, (.agg #[(.slice none 0 0), (.slice none 0 0)]), by kernel_rfl, by kernel_rfl, rfl⟩
theorem sT44 : SliceT Try.prog 44 5 (.int .u8 0) 1 := ⟨Try.underlying44, ⟨Try.t5, by kernel_rfl, by kernel_rfl, by kernel_rfl, by kernel_rfl⟩, rfl⟩
theorem sc44 : ScalarT Try.prog 44 := fun w => Try.isAgg44 w
theorem ze44 : ZE Try.prog 44 [(.slice none 0 0)] := ⟨Try.t44, (.slice none 0 0), by kernel_rfl, by kernel_rfl, rfl⟩
theorem so44 : ∃ i, Try.prog.info? 44 = some i ∧ i.size = 1 := ⟨Try.t44, by kernel_rfl, by kernel_rfl⟩
theorem sc61 : ScalarT Try.prog 61 := fun w => Try.isAgg61 w
theorem so61 : ∃ i, Try.prog.info? 61 = some i ∧ i.size = 1 := ⟨Try.t61, by kernel_rfl, by kernel_rfl⟩
theorem fa67_0 : FA Try.prog 67 0 0 := ⟨_, _, Try.t44, Try.underlying67, rfl, by kernel_rfl, by kernel_rfl, rfl⟩
theorem fa67_1 : FA Try.prog 67 1 1 := ⟨_, _, Try.t3, Try.underlying67, rfl, by kernel_rfl, by kernel_rfl, rfl⟩
theorem fa67_2 : FA Try.prog 67 2 2 := ⟨_, _, Try.t2, Try.underlying67, rfl, by kernel_rfl, by kernel_rfl, rfl⟩
theorem ag67 : AG Try.prog 67 3 := ⟨⟨_, Try.underlying67⟩, by kernel_rfl⟩
theorem bd67 : BD Try.prog 67 [(.slice none 0 0), (.int .i64 0), (.int .i64 0)] [(0, 1), (1, 1), (2, 1)] := ⟨Try.t67, _, (.agg #[(.slice none 0 0), (.int .i64 0), (.int .i64 0)]), by kernel_rfl, Try.underlying67, by kernel_rfl, rfl, by kernel_rfl⟩
theorem ze67 : ZE Try.prog 67 [(.slice none 0 0), (.int .i64 0), (.int .i64 0)] := ⟨Try.t67, (.agg #[(.slice none 0 0), (.int .i64 0), (.int .i64 0)]), by kernel_rfl, by kernel_rfl, rfl⟩
theorem fa68_0 : FA Try.prog 68 0 0 := ⟨_, _, Try.t44, Try.underlying68, rfl, by kernel_rfl, by kernel_rfl, rfl⟩
theorem fa68_1 : FA Try.prog 68 1 1 := ⟨_, _, Try.t3, Try.underlying68, rfl, by kernel_rfl, by kernel_rfl, rfl⟩
theorem fa68_2 : FA Try.prog 68 2 2 := ⟨_, _, Try.t2, Try.underlying68, rfl, by kernel_rfl, by kernel_rfl, rfl⟩
theorem ag68 : AG Try.prog 68 3 := ⟨⟨_, Try.underlying68⟩, by kernel_rfl⟩
theorem bd68 : BD Try.prog 68 [(.slice none 0 0), (.int .i64 0), (.int .i64 0)] [(0, 1), (1, 1), (2, 1)] := ⟨Try.t68, _, (.agg #[(.slice none 0 0), (.int .i64 0), (.int .i64 0)]), by kernel_rfl, Try.underlying68, by kernel_rfl, rfl, by kernel_rfl⟩
theorem ze68 : ZE Try.prog 68 [(.slice none 0 0), (.int .i64 0), (.int .i64 0)] := ⟨Try.t68, (.agg #[(.slice none 0 0), (.int .i64 0), (.int .i64 0)]), by kernel_rfl, by kernel_rfl, rfl⟩
theorem fa71_0 : FA Try.prog 71 0 0 := ⟨_, _, Try.t17, Try.underlying71, rfl, by kernel_rfl, by kernel_rfl, rfl⟩
theorem fa71_1 : FA Try.prog 71 1 1 := ⟨_, _, Try.t17, Try.underlying71, rfl, by kernel_rfl, by kernel_rfl, rfl⟩
theorem fa71_2 : FA Try.prog 71 2 2 := ⟨_, _, Try.t17, Try.underlying71, rfl, by kernel_rfl, by kernel_rfl, rfl⟩
theorem fa71_3 : FA Try.prog 71 3 3 := ⟨_, _, Try.t9, Try.underlying71, rfl, by kernel_rfl, by kernel_rfl, rfl⟩
theorem ag71 : AG Try.prog 71 4 := ⟨⟨_, Try.underlying71⟩, by kernel_rfl⟩
theorem bd71 : BD Try.prog 71 [(.pointer none), (.pointer none), (.pointer none), (.string ⟨#[]⟩)] [(0, 1), (1, 1), (2, 1), (3, 1)] := ⟨Try.t71, _, (.agg #[(.pointer none), (.pointer none), (.pointer none), (.string ⟨#[]⟩)]), by kernel_rfl, Try.underlying71, by kernel_rfl, rfl, by kernel_rfl⟩
theorem ze71 : ZE Try.prog 71 [(.pointer none), (.pointer none), (.pointer none), (.string ⟨#[]⟩)] := ⟨Try.t71, (.agg #[(.pointer none), (.pointer none), (.pointer none), (.string ⟨#[]⟩)]), by kernel_rfl, by kernel_rfl, rfl⟩
theorem fa72_0 : FA Try.prog 72 0 0 := ⟨_, _, Try.t17, Try.underlying72, rfl, by kernel_rfl, by kernel_rfl, rfl⟩
theorem fa72_1 : FA Try.prog 72 1 1 := ⟨_, _, Try.t17, Try.underlying72, rfl, by kernel_rfl, by kernel_rfl, rfl⟩
theorem fa72_2 : FA Try.prog 72 2 2 := ⟨_, _, Try.t17, Try.underlying72, rfl, by kernel_rfl, by kernel_rfl, rfl⟩
theorem fa72_3 : FA Try.prog 72 3 3 := ⟨_, _, Try.t9, Try.underlying72, rfl, by kernel_rfl, by kernel_rfl, rfl⟩
theorem ag72 : AG Try.prog 72 4 := ⟨⟨_, Try.underlying72⟩, by kernel_rfl⟩
theorem bd72 : BD Try.prog 72 [(.pointer none), (.pointer none), (.pointer none), (.string ⟨#[]⟩)] [(0, 1), (1, 1), (2, 1), (3, 1)] := ⟨Try.t72, _, (.agg #[(.pointer none), (.pointer none), (.pointer none), (.string ⟨#[]⟩)]), by kernel_rfl, Try.underlying72, by kernel_rfl, rfl, by kernel_rfl⟩
theorem ze72 : ZE Try.prog 72 [(.pointer none), (.pointer none), (.pointer none), (.string ⟨#[]⟩)] := ⟨Try.t72, (.agg #[(.pointer none), (.pointer none), (.pointer none), (.string ⟨#[]⟩)]), by kernel_rfl, by kernel_rfl, rfl⟩
theorem ag74 : AG Try.prog 74 0 := ⟨⟨_, Try.underlying74⟩, by kernel_rfl⟩
theorem ze74 : ZE Try.prog 74 [] := ⟨Try.t74, (.agg #[]), by kernel_rfl, by kernel_rfl, rfl⟩
theorem ag75 : AG Try.prog 75 0 := ⟨⟨_, Try.underlying75⟩, by kernel_rfl⟩
theorem ze75 : ZE Try.prog 75 [] := ⟨Try.t75, (.agg #[]), by kernel_rfl, by kernel_rfl, rfl⟩
theorem sc77 : ScalarT Try.prog 77 := fun w => Try.isAgg77 w
theorem ze77 : ZE Try.prog 77 [(.int .u32 0)] := ⟨Try.t77, (.int .u32 0), by kernel_rfl, by kernel_rfl, rfl⟩
theorem so77 : ∃ i, Try.prog.info? 77 = some i ∧ i.size = 1 := ⟨Try.t77, by kernel_rfl, by kernel_rfl⟩
theorem sc78 : ScalarT Try.prog 78 := fun w => Try.isAgg78 w
theorem ze78 : ZE Try.prog 78 [(.int .u8 0)] := ⟨Try.t78, (.int .u8 0), by kernel_rfl, by kernel_rfl, rfl⟩
theorem so78 : ∃ i, Try.prog.info? 78 = some i ∧ i.size = 1 := ⟨Try.t78, by kernel_rfl, by kernel_rfl⟩
theorem sc79 : ScalarT Try.prog 79 := fun w => Try.isAgg79 w
theorem ze79 : ZE Try.prog 79 [(.int .u8 0)] := ⟨Try.t79, (.int .u8 0), by kernel_rfl, by kernel_rfl, rfl⟩
theorem so79 : ∃ i, Try.prog.info? 79 = some i ∧ i.size = 1 := ⟨Try.t79, by kernel_rfl, by kernel_rfl⟩
theorem sc81 : ScalarT Try.prog 81 := fun w => Try.isAgg81 w
theorem so81 : ∃ i, Try.prog.info? 81 = some i ∧ i.size = 1 := ⟨Try.t81, by kernel_rfl, by kernel_rfl⟩
theorem sc82 : ScalarT Try.prog 82 := fun w => Try.isAgg82 w
theorem ze82 : ZE Try.prog 82 [(.int .i32 0)] := ⟨Try.t82, (.int .i32 0), by kernel_rfl, by kernel_rfl, rfl⟩
theorem so82 : ∃ i, Try.prog.info? 82 = some i ∧ i.size = 1 := ⟨Try.t82, by kernel_rfl, by kernel_rfl⟩
theorem sc83 : ScalarT Try.prog 83 := fun w => Try.isAgg83 w
theorem ze83 : ZE Try.prog 83 [(.int .i32 0)] := ⟨Try.t83, (.int .i32 0), by kernel_rfl, by kernel_rfl, rfl⟩
theorem so83 : ∃ i, Try.prog.info? 83 = some i ∧ i.size = 1 := ⟨Try.t83, by kernel_rfl, by kernel_rfl⟩
theorem fa84_0 : FA Try.prog 84 0 0 := ⟨_, _, Try.t12, Try.underlying84, rfl, by kernel_rfl, by kernel_rfl, rfl⟩
theorem fa84_1 : FA Try.prog 84 1 1 := ⟨_, _, Try.t12, Try.underlying84, rfl, by kernel_rfl, by kernel_rfl, rfl⟩
theorem fa84_2 : FA Try.prog 84 2 2 := ⟨_, _, Try.t77, Try.underlying84, rfl, by kernel_rfl, by kernel_rfl, rfl⟩
theorem fa84_3 : FA Try.prog 84 3 3 := ⟨_, _, Try.t78, Try.underlying84, rfl, by kernel_rfl, by kernel_rfl, rfl⟩
theorem fa84_4 : FA Try.prog 84 4 4 := ⟨_, _, Try.t5, Try.underlying84, rfl, by kernel_rfl, by kernel_rfl, rfl⟩
theorem fa84_5 : FA Try.prog 84 5 5 := ⟨_, _, Try.t5, Try.underlying84, rfl, by kernel_rfl, by kernel_rfl, rfl⟩
theorem fa84_6 : FA Try.prog 84 6 6 := ⟨_, _, Try.t79, Try.underlying84, rfl, by kernel_rfl, by kernel_rfl, rfl⟩
theorem fa84_7 : FA Try.prog 84 7 7 := ⟨_, _, Try.t80, Try.underlying84, rfl, by kernel_rfl, by kernel_rfl, rfl⟩
theorem fa84_8 : FA Try.prog 84 8 8 := ⟨_, _, Try.t81, Try.underlying84, rfl, by kernel_rfl, by kernel_rfl, rfl⟩
theorem fa84_9 : FA Try.prog 84 9 9 := ⟨_, _, Try.t82, Try.underlying84, rfl, by kernel_rfl, by kernel_rfl, rfl⟩
theorem fa84_10 : FA Try.prog 84 10 10 := ⟨_, _, Try.t83, Try.underlying84, rfl, by kernel_rfl, by kernel_rfl, rfl⟩
theorem ag84 : AG Try.prog 84 11 := ⟨⟨_, Try.underlying84⟩, by kernel_rfl⟩
theorem bd84 : BD Try.prog 84 [(.int .u64 0), (.int .u64 0), (.int .u32 0), (.int .u8 0), (.int .u8 0), (.int .u8 0), (.int .u8 0), .nilFunc, (.pointer none), (.int .i32 0), (.int .i32 0)] [(0, 1), (1, 1), (2, 1), (3, 1), (4, 1), (5, 1), (6, 1), (7, 1), (8, 1), (9, 1), (10, 1)] := ⟨Try.t84, _, (.agg #[(.int .u64 0), (.int .u64 0), (.int .u32 0), (.int .u8 0), (.int .u8 0), (.int .u8 0), (.int .u8 0), .nilFunc, (.pointer none), (.int .i32 0), (.int .i32 0)]), by kernel_rfl, Try.underlying84, by kernel_rfl, rfl, by kernel_rfl⟩
theorem ze84 : ZE Try.prog 84 [(.int .u64 0), (.int .u64 0), (.int .u32 0), (.int .u8 0), (.int .u8 0), (.int .u8 0), (.int .u8 0), .nilFunc, (.pointer none), (.int .i32 0), (.int .i32 0)] := ⟨Try.t84, (.agg #[(.int .u64 0), (.int .u64 0), (.int .u32 0), (.int .u8 0), (.int .u8 0), (.int .u8 0), (.int .u8 0), .nilFunc, (.pointer none), (.int .i32 0), (.int .i32 0)]), by kernel_rfl, by kernel_rfl, rfl⟩
theorem fa85_0 : FA Try.prog 85 0 0 := ⟨_, _, Try.t12, Try.underlying85, rfl, by kernel_rfl, by kernel_rfl, rfl⟩
theorem fa85_1 : FA Try.prog 85 1 1 := ⟨_, _, Try.t12, Try.underlying85, rfl, by kernel_rfl, by kernel_rfl, rfl⟩
theorem fa85_2 : FA Try.prog 85 2 2 := ⟨_, _, Try.t77, Try.underlying85, rfl, by kernel_rfl, by kernel_rfl, rfl⟩
theorem fa85_3 : FA Try.prog 85 3 3 := ⟨_, _, Try.t78, Try.underlying85, rfl, by kernel_rfl, by kernel_rfl, rfl⟩
theorem fa85_4 : FA Try.prog 85 4 4 := ⟨_, _, Try.t5, Try.underlying85, rfl, by kernel_rfl, by kernel_rfl, rfl⟩
theorem fa85_5 : FA Try.prog 85 5 5 := ⟨_, _, Try.t5, Try.underlying85, rfl, by kernel_rfl, by kernel_rfl, rfl⟩
theorem fa85_6 : FA Try.prog 85 6 6 := ⟨_, _, Try.t79, Try.underlying85, rfl, by kernel_rfl, by kernel_rfl, rfl⟩
theorem fa85_7 : FA Try.prog 85 7 7 := ⟨_, _, Try.t80, Try.underlying85, rfl, by kernel_rfl, by kernel_rfl, rfl⟩
theorem fa85_8 : FA Try.prog 85 8 8 := ⟨_, _, Try.t81, Try.underlying85, rfl, by kernel_rfl, by kernel_rfl, rfl⟩
theorem fa85_9 : FA Try.prog 85 9 9 := ⟨_, _, Try.t82, Try.underlying85, rfl, by kernel_rfl, by kernel_rfl, rfl⟩
theorem fa85_10 : FA Try.prog 85 10 10 := ⟨_, _, Try.t83, Try.underlying85, rfl, by kernel_rfl, by kernel_rfl, rfl⟩
theorem ag85 : AG Try.prog 85 11 := ⟨⟨_, Try.underlying85⟩, by kernel_rfl⟩
theorem bd85 : BD Try.prog 85 [(.int .u64 0), (.int .u64 0), (.int .u32 0), (.int .u8 0), (.int .u8 0), (.int .u8 0), (.int .u8 0), .nilFunc, (.pointer none), (.int .i32 0), (.int .i32 0)] [(0, 1), (1, 1), (2, 1), (3, 1), (4, 1), (5, 1), (6, 1), (7, 1), (8, 1), (9, 1), (10, 1)] := ⟨Try.t85, _, (.agg #[(.int .u64 0), (.int .u64 0), (.int .u32 0), (.int .u8 0), (.int .u8 0), (.int .u8 0), (.int .u8 0), .nilFunc, (.pointer none), (.int .i32 0), (.int .i32 0)]), by kernel_rfl, Try.underlying85, by kernel_rfl, rfl, by kernel_rfl⟩
theorem ze85 : ZE Try.prog 85 [(.int .u64 0), (.int .u64 0), (.int .u32 0), (.int .u8 0), (.int .u8 0), (.int .u8 0), (.int .u8 0), .nilFunc, (.pointer none), (.int .i32 0), (.int .i32 0)] := ⟨Try.t85, (.agg #[(.int .u64 0), (.int .u64 0), (.int .u32 0), (.int .u8 0), (.int .u8 0), (.int .u8 0), (.int .u8 0), .nilFunc, (.pointer none), (.int .i32 0), (.int .i32 0)]), by kernel_rfl, by kernel_rfl, rfl⟩
end Go.Proofs.Ytebegkegkdmbjaa
