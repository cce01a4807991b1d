/-
  The rows of the program's table of types that the walks of this seat use; with structs.
-/
import Derived.Test.YtgfaimkbedbanaaMem
import Derived.Test.YtgfaimkbedbanaaStruct
import Derived.Test.YtgfaimkbedbanaaProg
namespace Go.Proofs.Ytgfaimkbedbanaa
open B Go.RowKit
theorem mixed : Try.prog.follows .mixedOrders = true := by kernel_rfl
theorem sc2 : ScalarT Try.prog 2 := fun w => Try.isAgg2 w
theorem ze2 : ZE Try.prog 2 [(.int .i64 0)] := ⟨Try.t2, (.int .i64 0), by kernel_rfl, by kernel_rfl, rfl⟩
theorem so2 : ∃ i, Try.prog.info? 2 = some i ∧ i.size = 1 := ⟨Try.t2, by kernel_rfl, by kernel_rfl⟩
theorem sc3 : ScalarT Try.prog 3 := fun w => Try.isAgg3 w
theorem ze3 : ZE Try.prog 3 [(.int .i64 0)] := ⟨Try.t3, (.int .i64 0), by kernel_rfl, by kernel_rfl, rfl⟩
theorem so3 : ∃ i, Try.prog.info? 3 = some i ∧ i.size = 1 := ⟨Try.t3, by kernel_rfl, by kernel_rfl⟩
theorem sc4 : ScalarT Try.prog 4 := fun w => Try.isAgg4 w
theorem ze4 : ZE Try.prog 4 [(.bool false)] := ⟨Try.t4, (.bool false), by kernel_rfl, by kernel_rfl, rfl⟩
theorem so4 : ∃ i, Try.prog.info? 4 = some i ∧ i.size = 1 := ⟨Try.t4, by kernel_rfl, by kernel_rfl⟩
theorem sc5 : ScalarT Try.prog 5 := fun w => Try.isAgg5 w
theorem ze5 : ZE Try.prog 5 [(.int .u8 0)] := ⟨Try.t5, (.int .u8 0), by kernel_rfl, by kernel_rfl, rfl⟩
theorem so5 : ∃ i, Try.prog.info? 5 = some i ∧ i.size = 1 := ⟨Try.t5, by kernel_rfl, by kernel_rfl⟩
theorem sc6 : ScalarT Try.prog 6 := fun w => Try.isAgg6 w
theorem ze6 : ZE Try.prog 6 [(.int .u8 0)] := ⟨Try.t6, (.int .u8 0), by kernel_rfl, by kernel_rfl, rfl⟩
theorem so6 : ∃ i, Try.prog.info? 6 = some i ∧ i.size = 1 := ⟨Try.t6, by kernel_rfl, by kernel_rfl⟩
theorem fa7_0 : FA Try.prog 7 0 0 := ⟨_, _, Try.t2, Try.underlying7, rfl, by kernel_rfl, by kernel_rfl, rfl⟩
theorem fa7_1 : FA Try.prog 7 1 1 := ⟨_, _, Try.t3, Try.underlying7, rfl, by kernel_rfl, by kernel_rfl, rfl⟩
theorem fa7_2 : FA Try.prog 7 2 2 := ⟨_, _, Try.t4, Try.underlying7, rfl, by kernel_rfl, by kernel_rfl, rfl⟩
theorem fa7_3 : FA Try.prog 7 3 3 := ⟨_, _, Try.t6, Try.underlying7, rfl, by kernel_rfl, by kernel_rfl, rfl⟩
theorem ag7 : AG Try.prog 7 4 := ⟨⟨_, Try.underlying7⟩, by kernel_rfl⟩
theorem bd7 : BD Try.prog 7 [(.int .i64 0), (.int .i64 0), (.bool false), (.int .u8 0)] [(0, 1), (1, 1), (2, 1), (3, 1)] := ⟨Try.t7, _, (.agg #[(.int .i64 0), (.int .i64 0), (.bool false), (.int .u8 0)]), by kernel_rfl, Try.underlying7, by kernel_rfl, rfl, by kernel_rfl⟩
theorem ze7 : ZE Try.prog 7 [(.int .i64 0), (.int .i64 0), (.bool false), (.int .u8 0)] := ⟨Try.t7, (.agg #[(.int .i64 0), (.int .i64 0), (.bool false), (.int .u8 0)]), by kernel_rfl, by kernel_rfl, rfl⟩
theorem fa8_0 : FA Try.prog 8 0 0 := ⟨_, _, Try.t2, Try.underlying8, rfl, by kernel_rfl, by kernel_rfl, rfl⟩
theorem fa8_1 : FA Try.prog 8 1 1 := ⟨_, _, Try.t3, Try.underlying8, rfl, by kernel_rfl, by kernel_rfl, rfl⟩
theorem fa8_2 : FA Try.prog 8 2 2 := ⟨_, _, Try.t4, Try.underlying8, rfl, by kernel_rfl, by kernel_rfl, rfl⟩
theorem fa8_3 : FA Try.prog 8 3 3 := ⟨_, _, Try.t6, Try.underlying8, rfl, by kernel_rfl, by kernel_rfl, rfl⟩
theorem ag8 : AG Try.prog 8 4 := ⟨⟨_, Try.underlying8⟩, by kernel_rfl⟩
theorem bd8 : BD Try.prog 8 [(.int .i64 0), (.int .i64 0), (.bool false), (.int .u8 0)] [(0, 1), (1, 1), (2, 1), (3, 1)] := ⟨Try.t8, _, (.agg #[(.int .i64 0), (.int .i64 0), (.bool false), (.int .u8 0)]), by kernel_rfl, Try.underlying8, by kernel_rfl, rfl, by kernel_rfl⟩
theorem ze8 : ZE Try.prog 8 [(.int .i64 0), (.int .i64 0), (.bool false), (.int .u8 0)] := ⟨Try.t8, (.agg #[(.int .i64 0), (.int .i64 0), (.bool false), (.int .u8 0)]), by kernel_rfl, by kernel_rfl, rfl⟩
theorem sc9 : ScalarT Try.prog 9 := fun w => Try.isAgg9 w
theorem ze9 : ZE Try.prog 9 [(.string ⟨#[]⟩)] := ⟨Try.t9, (.string ⟨#[]⟩), by kernel_rfl, by kernel_rfl, rfl⟩
theorem so9 : ∃ i, Try.prog.info? 9 = some i ∧ i.size = 1 := ⟨Try.t9, by kernel_rfl, by kernel_rfl⟩
theorem sc10 : ScalarT Try.prog 10 := fun w => Try.isAgg10 w
theorem ze10 : ZE Try.prog 10 [(.string ⟨#[]⟩)] := ⟨Try.t10, (.string ⟨#[]⟩), by kernel_rfl, by kernel_rfl, rfl⟩
theorem so10 : ∃ i, Try.prog.info? 10 = some i ∧ i.size = 1 := ⟨Try.t10, by kernel_rfl, by kernel_rfl⟩
theorem sc11 : ScalarT Try.prog 11 := fun w => Try.isAgg11 w
theorem ze11 : ZE Try.prog 11 [(.string ⟨#[]⟩)] := ⟨Try.t11, (.string ⟨#[]⟩), by kernel_rfl, by kernel_rfl, rfl⟩
theorem so11 : ∃ i, Try.prog.info? 11 = some i ∧ i.size = 1 := ⟨Try.t11, by kernel_rfl, by kernel_rfl⟩
theorem sc12 : ScalarT Try.prog 12 := fun w => Try.isAgg12 w
theorem ze12 : ZE Try.prog 12 [(.int .u64 0)] := ⟨Try.t12, (.int .u64 0), by kernel_rfl, by kernel_rfl, rfl⟩
theorem so12 : ∃ i, Try.prog.info? 12 = some i ∧ i.size = 1 := ⟨Try.t12, by kernel_rfl, by kernel_rfl⟩
theorem fa13_0 : FA Try.prog 13 0 0 := ⟨_, _, Try.t9, Try.underlying13, rfl, by kernel_rfl, by kernel_rfl, rfl⟩
theorem fa13_1 : FA Try.prog 13 1 1 := ⟨_, _, Try.t12, Try.underlying13, rfl, by kernel_rfl, by kernel_rfl, rfl⟩
theorem ag13 : AG Try.prog 13 2 := ⟨⟨_, Try.underlying13⟩, by kernel_rfl⟩
theorem bd13 : BD Try.prog 13 [(.string ⟨#[]⟩), (.int .u64 0)] [(0, 1), (1, 1)] := ⟨Try.t13, _, (.agg #[(.string ⟨#[]⟩), (.int .u64 0)]), by kernel_rfl, Try.underlying13, by kernel_rfl, rfl, by kernel_rfl⟩
theorem ze13 : ZE Try.prog 13 [(.string ⟨#[]⟩), (.int .u64 0)] := ⟨Try.t13, (.agg #[(.string ⟨#[]⟩), (.int .u64 0)]), by kernel_rfl, by kernel_rfl, rfl⟩
theorem fa14_0 : FA Try.prog 14 0 0 := ⟨_, _, Try.t9, Try.underlying14, rfl, by kernel_rfl, by kernel_rfl, rfl⟩
theorem fa14_1 : FA Try.prog 14 1 1 := ⟨_, _, Try.t12, Try.underlying14, rfl, by kernel_rfl, by kernel_rfl, rfl⟩
theorem ag14 : AG Try.prog 14 2 := ⟨⟨_, Try.underlying14⟩, by kernel_rfl⟩
theorem bd14 : BD Try.prog 14 [(.string ⟨#[]⟩), (.int .u64 0)] [(0, 1), (1, 1)] := ⟨Try.t14, _, (.agg #[(.string ⟨#[]⟩), (.int .u64 0)]), by kernel_rfl, Try.underlying14, by kernel_rfl, rfl, by kernel_rfl⟩
theorem ze14 : ZE Try.prog 14 [(.string ⟨#[]⟩), (.int .u64 0)] := ⟨Try.t14, (.agg #[(.string ⟨#[]⟩), (.int .u64 0)]), by kernel_rfl, by kernel_rfl, rfl⟩
theorem sc15 : ScalarT Try.prog 15 := fun w => Try.isAgg15 w
theorem so15 : ∃ i, Try.prog.info? 15 = some i ∧ i.size = 1 := ⟨Try.t15, by kernel_rfl, by kernel_rfl⟩
theorem sc16 : ScalarT Try.prog 16 := fun w => Try.isAgg16 w
theorem so16 : ∃ i, Try.prog.info? 16 = some i ∧ i.size = 1 := ⟨Try.t16, by kernel_rfl, by kernel_rfl⟩
theorem sc17 : ScalarT Try.prog 17 := fun w => Try.isAgg17 w
theorem so17 : ∃ i, Try.prog.info? 17 = some i ∧ i.size = 1 := ⟨Try.t17, by kernel_rfl, by kernel_rfl⟩
theorem fa18_0 : FA Try.prog 18 0 0 := ⟨_, _, Try.t17, Try.underlying18, rfl, by kernel_rfl, by kernel_rfl, rfl⟩
theorem ag18 : AG Try.prog 18 1 := ⟨⟨_, Try.underlying18⟩, by kernel_rfl⟩
theorem bd18 : BD Try.prog 18 [(.pointer none)] [(0, 1)] := ⟨Try.t18, _, (.agg #[(.pointer none)]), by kernel_rfl, Try.underlying18, by kernel_rfl, rfl, by kernel_rfl⟩
theorem ze18 : ZE Try.prog 18 [(.pointer none)] := ⟨Try.t18, (.agg #[(.pointer none)]), by kernel_rfl, by kernel_rfl, rfl⟩
theorem fa19_0 : FA Try.prog 19 0 0 := ⟨_, _, Try.t17, Try.underlying19, rfl, by kernel_rfl, by kernel_rfl, rfl⟩
theorem ag19 : AG Try.prog 19 1 := ⟨⟨_, Try.underlying19⟩, by kernel_rfl⟩
theorem bd19 : BD Try.prog 19 [(.pointer none)] [(0, 1)] := ⟨Try.t19, _, (.agg #[(.pointer none)]), by kernel_rfl, Try.underlying19, by kernel_rfl, rfl, by kernel_rfl⟩
theorem ze19 : ZE Try.prog 19 [(.pointer none)] := ⟨Try.t19, (.agg #[(.pointer none)]), by kernel_rfl, by kernel_rfl, rfl⟩
theorem sc21 : ScalarT Try.prog 21 := fun w => Try.isAgg21 w
theorem ze21 : ZE Try.prog 21 [(.int .i32 0)] := ⟨Try.t21, (.int .i32 0), by kernel_rfl, by kernel_rfl, rfl⟩
theorem so21 : ∃ i, Try.prog.info? 21 = some i ∧ i.size = 1 := ⟨Try.t21, by kernel_rfl, by kernel_rfl⟩
theorem sT32 : SliceT Try.prog 32 2 (.int .i64 0) 8 := ⟨Try.underlying32, ⟨Try.t2, by kernel_rfl, by kernel_rfl, by kernel_rfl, by kernel_rfl⟩, rfl⟩
theorem sc32 : ScalarT Try.prog 32 := fun w => Try.isAgg32 w
theorem ze32 : ZE Try.prog 32 [(.slice none 0 0)] := ⟨Try.t32, (.slice none 0 0), by kernel_rfl, by kernel_rfl, rfl⟩
theorem so32 : ∃ i, Try.prog.info? 32 = some i ∧ i.size = 1 := ⟨Try.t32, by kernel_rfl, by kernel_rfl⟩
theorem sT42 : SliceT Try.prog 42 5 (.int .u8 0) 1 := ⟨Try.underlying42, ⟨Try.t5, by kernel_rfl, by kernel_rfl, by kernel_rfl, by kernel_rfl⟩, rfl⟩
theorem sc42 : ScalarT Try.prog 42 := fun w => Try.isAgg42 w
theorem ze42 : ZE Try.prog 42 [(.slice none 0 0)] := ⟨Try.t42, (.slice none 0 0), by kernel_rfl, by kernel_rfl, rfl⟩
theorem so42 : ∃ i, Try.prog.info? 42 = some i ∧ i.size = 1 := ⟨Try.t42, by kernel_rfl, by kernel_rfl⟩
theorem sc49 : ScalarT Try.prog 49 := fun w => Try.isAgg49 w
theorem so49 : ∃ i, Try.prog.info? 49 = some i ∧ i.size = 1 := ⟨Try.t49, by kernel_rfl, by kernel_rfl⟩
theorem sc51 : ScalarT Try.prog 51 := fun w => Try.isAgg51 w
theorem ze51 : ZE Try.prog 51 [(.int .u64 0)] := ⟨Try.t51, (.int .u64 0), by kernel_rfl, by kernel_rfl, rfl⟩
theorem so51 : ∃ i, Try.prog.info? 51 = some i ∧ i.size = 1 := ⟨Try.t51, by kernel_rfl, by kernel_rfl⟩
theorem sc57 : ScalarT Try.prog 57 := fun w => Try.isAgg57 w
theorem ze57 : ZE Try.prog 57 [(.int .u64 0)] := ⟨Try.t57, (.int .u64 0), by kernel_rfl, by kernel_rfl, rfl⟩
theorem so57 : ∃ i, Try.prog.info? 57 = some i ∧ i.size = 1 := ⟨Try.t57, by kernel_rfl, by kernel_rfl⟩
theorem sc61 : ScalarT Try.prog 61 := fun w => Try.isAgg61 w
theorem so61 : ∃ i, Try.prog.info? 61 = some i ∧ i.size = 1 := ⟨Try.t61, by kernel_rfl, by kernel_rfl⟩
theorem fa67_0 : FA Try.prog 67 0 0 := ⟨_, _, Try.t42, Try.underlying67, rfl, by kernel_rfl, by kernel_rfl, rfl⟩
theorem fa67_1 : FA Try.prog 67 1 1 := ⟨_, _, Try.t3, Try.underlying67, rfl, by kernel_rfl, by kernel_rfl, rfl⟩
theorem fa67_2 : FA Try.prog 67 2 2 := ⟨_, _, Try.t51, Try.underlying67, rfl, by kernel_rfl, by kernel_rfl, rfl⟩
theorem ag67 : AG Try.prog 67 3 := ⟨⟨_, Try.underlying67⟩, by kernel_rfl⟩
theorem bd67 : BD Try.prog 67 [(.slice none 0 0), (.int .i64 0), (.int .u64 0)] [(0, 1), (1, 1), (2, 1)] := ⟨Try.t67, _, (.agg #[(.slice none 0 0), (.int .i64 0), (.int .u64 0)]), by kernel_rfl, Try.underlying67, by kernel_rfl, rfl, by kernel_rfl⟩
theorem ze67 : ZE Try.prog 67 [(.slice none 0 0), (.int .i64 0), (.int .u64 0)] := ⟨Try.t67, (.agg #[(.slice none 0 0), (.int .i64 0), (.int .u64 0)]), by kernel_rfl, by kernel_rfl, rfl⟩
theorem fa68_0 : FA Try.prog 68 0 0 := ⟨_, _, Try.t42, Try.underlying68, rfl, by kernel_rfl, by kernel_rfl, rfl⟩
theorem fa68_1 : FA Try.prog 68 1 1 := ⟨_, _, Try.t3, Try.underlying68, rfl, by kernel_rfl, by kernel_rfl, rfl⟩
theorem fa68_2 : FA Try.prog 68 2 2 := ⟨_, _, Try.t51, Try.underlying68, rfl, by kernel_rfl, by kernel_rfl, rfl⟩
theorem ag68 : AG Try.prog 68 3 := ⟨⟨_, Try.underlying68⟩, by kernel_rfl⟩
theorem bd68 : BD Try.prog 68 [(.slice none 0 0), (.int .i64 0), (.int .u64 0)] [(0, 1), (1, 1), (2, 1)] := ⟨Try.t68, _, (.agg #[(.slice none 0 0), (.int .i64 0), (.int .u64 0)]), by kernel_rfl, Try.underlying68, by kernel_rfl, rfl, by kernel_rfl⟩
theorem ze68 : ZE Try.prog 68 [(.slice none 0 0), (.int .i64 0), (.int .u64 0)] := ⟨Try.t68, (.agg #[(.slice none 0 0), (.int .i64 0), (.int .u64 0)]), by kernel_rfl, by kernel_rfl, rfl⟩
theorem fa71_0 : FA Try.prog 71 0 0 := ⟨_, _, Try.t42, Try.underlying71, rfl, by kernel_rfl, by kernel_rfl, rfl⟩
theorem fa71_1 : FA Try.prog 71 1 1 := ⟨_, _, Try.t3, Try.underlying71, rfl, by kernel_rfl, by kernel_rfl, rfl⟩
theorem fa71_2 : FA Try.prog 71 2 2 := ⟨_, _, Try.t2, Try.underlying71, rfl, by kernel_rfl, by kernel_rfl, rfl⟩
theorem ag71 : AG Try.prog 71 3 := ⟨⟨_, Try.underlying71⟩, by kernel_rfl⟩
theorem bd71 : BD Try.prog 71 [(.slice none 0 0), (.int .i64 0), (.int .i64 0)] [(0, 1), (1, 1), (2, 1)] := ⟨Try.t71, _, (.agg #[(.slice none 0 0), (.int .i64 0), (.int .i64 0)]), by kernel_rfl, Try.underlying71, by kernel_rfl, rfl, by kernel_rfl⟩
theorem ze71 : ZE Try.prog 71 [(.slice none 0 0), (.int .i64 0), (.int .i64 0)] := ⟨Try.t71, (.agg #[(.slice none 0 0), (.int .i64 0), (.int .i64 0)]), by kernel_rfl, by kernel_rfl, rfl⟩
theorem fa72_0 : FA Try.prog 72 0 0 := ⟨_, _, Try.t42, Try.underlying72, rfl, by kernel_rfl, by kernel_rfl, rfl⟩
theorem fa72_1 : FA Try.prog 72 1 1 := ⟨_, _, Try.t3, Try.underlying72, rfl, by kernel_rfl, by kernel_rfl, rfl⟩
theorem fa72_2 : FA Try.prog 72 2 2 := ⟨_, _, Try.t2, Try.underlying72, rfl, by kernel_rfl, by kernel_rfl, rfl⟩
theorem ag72 : AG Try.prog 72 3 := ⟨⟨_, Try.underlying72⟩, by kernel_rfl⟩
theorem bd72 : BD Try.prog 72 [(.slice none 0 0), (.int .i64 0), (.int .i64 0)] [(0, 1), (1, 1), (2, 1)] := ⟨Try.t72, _, (.agg #[(.slice none 0 0), (.int .i64 0), (.int .i64 0)]), by kernel_rfl, Try.underlying72, by kernel_rfl, rfl, by kernel_rfl⟩
theorem ze72 : ZE Try.prog 72 [(.slice none 0 0), (.int .i64 0), (.int .i64 0)] := ⟨Try.t72, (.agg #[(.slice none 0 0), (.int .i64 0), (.int .i64 0)]), by kernel_rfl, by kernel_rfl, rfl⟩
theorem sT74 : SliceT Try.prog 74 9 (.string ⟨#[]⟩) 16 := ⟨Try.underlying74, ⟨Try.t9, by kernel_rfl, by kernel_rfl, by kernel_rfl, by kernel_rfl⟩, rfl⟩
theorem sc74 : ScalarT Try.prog 74 := fun w => Try.isAgg74 w
theorem ze74 : ZE Try.prog 74 [(.slice none 0 0)] := ⟨Try.t74, (.slice none 0 0), by kernel_rfl, by kernel_rfl, rfl⟩
theorem so74 : ∃ i, Try.prog.info? 74 = some i ∧ i.size = 1 := ⟨Try.t74, by kernel_rfl, by kernel_rfl⟩
theorem fa76_0 : FA Try.prog 76 0 0 := ⟨_, _, Try.t17, Try.underlying76, rfl, by kernel_rfl, by kernel_rfl, rfl⟩
theorem fa76_1 : FA Try.prog 76 1 1 := ⟨_, _, Try.t17, Try.underlying76, rfl, by kernel_rfl, by kernel_rfl, rfl⟩
theorem fa76_2 : FA Try.prog 76 2 2 := ⟨_, _, Try.t17, Try.underlying76, rfl, by kernel_rfl, by kernel_rfl, rfl⟩
theorem fa76_3 : FA Try.prog 76 3 3 := ⟨_, _, Try.t9, Try.underlying76, rfl, by kernel_rfl, by kernel_rfl, rfl⟩
theorem ag76 : AG Try.prog 76 4 := ⟨⟨_, Try.underlying76⟩, by kernel_rfl⟩
theorem bd76 : BD Try.prog 76 [(.pointer none), (.pointer none), (.pointer none), (.string ⟨#[]⟩)] [(0, 1), (1, 1), (2, 1), (3, 1)] := ⟨Try.t76, _, (.agg #[(.pointer none), (.pointer none), (.pointer none), (.string ⟨#[]⟩)]), by kernel_rfl, Try.underlying76, by kernel_rfl, rfl, by kernel_rfl⟩
theorem ze76 : ZE Try.prog 76 [(.pointer none), (.pointer none), (.pointer none), (.string ⟨#[]⟩)] := ⟨Try.t76, (.agg #[(.pointer none), (.pointer none), (.pointer none), (.string ⟨#[]⟩)]), by kernel_rfl, by kernel_rfl, rfl⟩
theorem fa77_0 : FA Try.prog 77 0 0 := ⟨_, _, Try.t17, Try.underlying77, rfl, by kernel_rfl, by kernel_rfl, rfl⟩
theorem fa77_1 : FA Try.prog 77 1 1 := ⟨_, _, Try.t17, Try.underlying77, rfl, by kernel_rfl, by kernel_rfl, rfl⟩
theorem fa77_2 : FA Try.prog 77 2 2 := ⟨_, _, Try.t17, Try.underlying77, rfl, by kernel_rfl, by kernel_rfl, rfl⟩
theorem fa77_3 : FA Try.prog 77 3 3 := ⟨_, _, Try.t9, Try.underlying77, rfl, by kernel_rfl, by kernel_rfl, rfl⟩
theorem ag77 : AG Try.prog 77 4 := ⟨⟨_, Try.underlying77⟩, by kernel_rfl⟩
theorem bd77 : BD Try.prog 77 [(.pointer none), (.pointer none), (.pointer none), (.string ⟨#[]⟩)] [(0, 1), (1, 1), (2, 1), (3, 1)] := ⟨Try.t77, _, (.agg #[(.pointer none), (.pointer none), (.pointer none), (.string ⟨#[]⟩)]), by kernel_rfl, Try.underlying77, by kernel_rfl, rfl, by kernel_rfl⟩
theorem ze77 : ZE Try.prog 77 [(.pointer none), (.pointer none), (.pointer none), (.string ⟨#[]⟩)] := ⟨Try.t77, (.agg #[(.pointer none), (.pointer none), (.pointer none), (.string ⟨#[]⟩)]), by kernel_rfl, by kernel_rfl, rfl⟩
theorem ag79 : AG Try.prog 79 0 := ⟨⟨_, Try.underlying79⟩, by kernel_rfl⟩
theorem ze79 : ZE Try.prog 79 [] := ⟨Try.t79, (.agg #[]), by kernel_rfl, by kernel_rfl, rfl⟩
theorem ag80 : AG Try.prog 80 0 := ⟨⟨_, Try.underlying80⟩, by kernel_rfl⟩
theorem ze80 : ZE Try.prog 80 [] := ⟨Try.t80, (.agg #[]), by kernel_rfl, by kernel_rfl, rfl⟩
theorem sc82 : ScalarT Try.prog 82 := fun w => Try.isAgg82 w
theorem ze82 : ZE Try.prog 82 [(.int .u32 0)] := ⟨Try.t82, (.int .u32 0), by kernel_rfl, by kernel_rfl, rfl⟩
theorem so82 : ∃ i, Try.prog.info? 82 = some i ∧ i.size = 1 := ⟨Try.t82, by kernel_rfl, by kernel_rfl⟩
theorem sc83 : ScalarT Try.prog 83 := fun w => Try.isAgg83 w
theorem ze83 : ZE Try.prog 83 [(.int .u8 0)] := ⟨Try.t83, (.int .u8 0), by kernel_rfl, by kernel_rfl, rfl⟩
theorem so83 : ∃ i, Try.prog.info? 83 = some i ∧ i.size = 1 := ⟨Try.t83, by kernel_rfl, by kernel_rfl⟩
theorem sc84 : ScalarT Try.prog 84 := fun w => Try.isAgg84 w
theorem ze84 : ZE Try.prog 84 [(.int .u8 0)] := ⟨Try.t84, (.int .u8 0), by kernel_rfl, by kernel_rfl, rfl⟩
theorem so84 : ∃ i, Try.prog.info? 84 = some i ∧ i.size = 1 := ⟨Try.t84, by kernel_rfl, by kernel_rfl⟩
theorem sc86 : ScalarT Try.prog 86 := fun w => Try.isAgg86 w
theorem so86 : ∃ i, Try.prog.info? 86 = some i ∧ i.size = 1 := ⟨Try.t86, by kernel_rfl, by kernel_rfl⟩
theorem sc87 : ScalarT Try.prog 87 := fun w => Try.isAgg87 w
theorem ze87 : ZE Try.prog 87 [(.int .i32 0)] := ⟨Try.t87, (.int .i32 0), by kernel_rfl, by kernel_rfl, rfl⟩
theorem so87 : ∃ i, Try.prog.info? 87 = some i ∧ i.size = 1 := ⟨Try.t87, by kernel_rfl, by kernel_rfl⟩
theorem sc88 : ScalarT Try.prog 88 := fun w => Try.isAgg88 w
theorem ze88 : ZE Try.prog 88 [(.int .i32 0)] := ⟨Try.t88, (.int .i32 0), by kernel_rfl, by kernel_rfl, rfl⟩
theorem so88 : ∃ i, Try.prog.info? 88 = some i ∧ i.size = 1 := ⟨Try.t88, by kernel_rfl, by kernel_rfl⟩
theorem fa89_0 : FA Try.prog 89 0 0 := ⟨_, _, Try.t12, Try.underlying89, rfl, by kernel_rfl, by kernel_rfl, rfl⟩
theorem fa89_1 : FA Try.prog 89 1 1 := ⟨_, _, Try.t12, Try.underlying89, rfl, by kernel_rfl, by kernel_rfl, rfl⟩
theorem fa89_2 : FA Try.prog 89 2 2 := ⟨_, _, Try.t82, Try.underlying89, rfl, by kernel_rfl, by kernel_rfl, rfl⟩
theorem fa89_3 : FA Try.prog 89 3 3 := ⟨_, _, Try.t83, Try.underlying89, rfl, by kernel_rfl, by kernel_rfl, rfl⟩
theorem fa89_4 : FA Try.prog 89 4 4 := ⟨_, _, Try.t5, Try.underlying89, rfl, by kernel_rfl, by kernel_rfl, rfl⟩
theorem fa89_5 : FA Try.prog 89 5 5 := ⟨_, _, Try.t5, Try.underlying89, rfl, by kernel_rfl, by kernel_rfl, rfl⟩
theorem fa89_6 : FA Try.prog 89 6 6 := ⟨_, _, Try.t84, Try.underlying89, rfl, by kernel_rfl, by kernel_rfl, rfl⟩
theorem fa89_7 : FA Try.prog 89 7 7 := ⟨_, _, Try.t85, Try.underlying89, rfl, by kernel_rfl, by kernel_rfl, rfl⟩
theorem fa89_8 : FA Try.prog 89 8 8 := ⟨_, _, Try.t86, Try.underlying89, rfl, by kernel_rfl, by kernel_rfl, rfl⟩
theorem fa89_9 : FA Try.prog 89 9 9 := ⟨_, _, Try.t87, Try.underlying89, rfl, by kernel_rfl, by kernel_rfl, rfl⟩
theorem fa89_10 : FA Try.prog 89 10 10 := ⟨_, _, Try.t88, Try.underlying89, rfl, by kernel_rfl, by kernel_rfl, rfl⟩
theorem ag89 : AG Try.prog 89 11 := ⟨⟨_, Try.underlying89⟩, by kernel_rfl⟩
theorem bd89 : BD Try.prog 89 [(.int .u64 0), (.int .u64 0), (.int .u32 0), (.int .u8 0), (.int .u8 0), (.int .u8 0), (.int .u8 0), .nilFunc, (.pointer none), (.int .i32 0), (.int .i32 0)] [(0, 1), (1, 1), (2, 1), (3, 1), (4, 1), (5, 1), (6, 1), (7, 1), (8, 1), (9, 1), (10, 1)] := ⟨Try.t89, _, (.agg #[(.int .u64 0), (.int .u64 0), (.int .u32 0), (.int .u8 0), (.int .u8 0), (.int .u8 0), (.int .u8 0), .nilFunc, (.pointer none), (.int .i32 0), (.int .i32 0)]), by kernel_rfl, Try.underlying89, by kernel_rfl, rfl, by kernel_rfl⟩
theorem ze89 : ZE Try.prog 89 [(.int .u64 0), (.int .u64 0), (.int .u32 0), (.int .u8 0), (.int .u8 0), (.int .u8 0), (.int .u8 0), .nilFunc, (.pointer none), (.int .i32 0), (.int .i32 0)] := ⟨Try.t89, (.agg #[(.int .u64 0), (.int .u64 0), (.int .u32 0), (.int .u8 0), (.int .u8 0), (.int .u8 0), (.int .u8 0), .nilFunc, (.pointer none), (.int .i32 0), (.int .i32 0)]), by kernel_rfl, by kernel_rfl, rfl⟩
theorem fa90_0 : FA Try.prog 90 0 0 := ⟨_, _, Try.t12, Try.underlying90, rfl, by kernel_rfl, by kernel_rfl, rfl⟩
theorem fa90_1 : FA Try.prog 90 1 1 := ⟨_, _, Try.t12, Try.underlying90, rfl, by kernel_rfl, by kernel_rfl, rfl⟩
theorem fa90_2 : FA Try.prog 90 2 2 := ⟨_, _, Try.t82, Try.underlying90, rfl, by kernel_rfl, by kernel_rfl, rfl⟩
theorem fa90_3 : FA Try.prog 90 3 3 := ⟨_, _, Try.t83, Try.underlying90, rfl, by kernel_rfl, by kernel_rfl, rfl⟩
theorem fa90_4 : FA Try.prog 90 4 4 := ⟨_, _, Try.t5, Try.underlying90, rfl, by kernel_rfl, by kernel_rfl, rfl⟩
theorem fa90_5 : FA Try.prog 90 5 5 := ⟨_, _, Try.t5, Try.underlying90, rfl, by kernel_rfl, by kernel_rfl, rfl⟩
theorem fa90_6 : FA Try.prog 90 6 6 := ⟨_, _, Try.t84, Try.underlying90, rfl, by kernel_rfl, by kernel_rfl, rfl⟩
theorem fa90_7 : FA Try.prog 90 7 7 := ⟨_, _, Try.t85, Try.underlying90, rfl, by kernel_rfl, by kernel_rfl, rfl⟩
theorem fa90_8 : FA Try.prog 90 8 8 := ⟨_, _, Try.t86, Try.underlying90, rfl, by kernel_rfl, by kernel_rfl, rfl⟩
theorem fa90_9 : FA Try.prog 90 9 9 := ⟨_, _, Try.t87, Try.underlying90, rfl, by kernel_rfl, by kernel_rfl, rfl⟩
theorem fa90_10 : FA Try.prog 90 10 10 := ⟨_, _, Try.t88, Try.underlying90, rfl, by kernel_rfl, by kernel_rfl, rfl⟩
theorem ag90 : AG Try.prog 90 11 := ⟨⟨_, Try.underlying90⟩, by kernel_rfl⟩
theorem bd90 : BD Try.prog 90 [(.int .u64 0), (.int .u64 0), (.int .u32 0), (.int .u8 0), (.int .u8 0), (.int .u8 0), (.int .u8 0), .nilFunc, (.pointer none), (.int .i32 0), (.int .i32 0)] [(0, 1), (1, 1), (2, 1), (3, 1), (4, 1), (5, 1), (6, 1), (7, 1), (8, 1), (9, 1), (10, 1)] := ⟨Try.t90, _, (.agg #[(.int .u64 0), (.int .u64 0), (.int .u32 0), (.int .u8 0), (.int .u8 0), (.int .u8 0), (.int .u8 0), .nilFunc, (.pointer none), (.int .i32 0), (.int .i32 0)]), by kernel_rfl, Try.underlying90, by kernel_rfl, rfl, by kernel_rfl⟩
theorem ze90 : ZE Try.prog 90 [(.int .u64 0), (.int .u64 0), (.int .u32 0), (.int .u8 0), (.int .u8 0), (.int .u8 0), (.int .u8 0), .nilFunc, (.pointer none), (.int .i32 0), (.int .i32 0)] := ⟨Try.t90, (.agg #[(.int .u64 0), (.int .u64 0), (.int .u32 0), (.int .u8 0), (.int .u8 0), (.int .u8 0), (.int .u8 0), .nilFunc, (.pointer none), (.int .i32 0), (.int .i32 0)]), by kernel_rfl, by kernel_rfl, rfl⟩
end Go.Proofs.Ytgfaimkbedbanaa
