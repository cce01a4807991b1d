/-
  The rows of the program's table of types that the walks of this seat use; with structs.
-/
import Derived.Test.YtfpignajpihgnaaMem
import Derived.Test.YtfpignajpihgnaaStruct
import Derived.Test.YtfpignajpihgnaaProg
namespace Go.Proofs.Ytfpignajpihgnaa
open B Go.RowKit
theorem mixed : Try.prog.follows .mixedOrders = true := by kernel_rfl
theorem sc2 : ScalarT Try.prog 2 := fun w => Try.isAgg2 w
theorem ze2 : ZE Try.prog 2 [(.int .i64 0)] := ⟨Try.t2, (.int .i64 0), by kernel_rfl, by kernel_rfl, rfl⟩
theorem so2 : ∃ i, Try.prog.info? 2 = some i ∧ i.size = 1 := ⟨Try.t2, by kernel_rfl, by kernel_rfl⟩
theorem sc3 : ScalarT Try.prog 3 := fun w => Try.isAgg3 w
theorem ze3 : ZE Try.prog 3 [(.int .i64 0)] := ⟨Try.t3, (.int .i64 0), by kernel_rfl, by kernel_rfl, rfl⟩
theorem so3 : ∃ i, Try.prog.info? 3 = some i ∧ i.size = 1 := ⟨Try.t3, by kernel_rfl, by kernel_rfl⟩
theorem sc4 : ScalarT Try.prog 4 := fun w => Try.isAgg4 w
theorem ze4 : ZE Try.prog 4 [(.bool false)] := ⟨Try.t4, (.bool false), by kernel_rfl, by kernel_rfl, rfl⟩
theorem so4 : ∃ i, Try.prog.info? 4 = some i ∧ i.size = 1 := ⟨Try.t4, by kernel_rfl, by kernel_rfl⟩
theorem sc5 : ScalarT Try.prog 5 := fun w => Try.isAgg5 w
theorem ze5 : ZE Try.prog 5 [(.int .u8 0)] := ⟨Try.t5, (.int .u8 0), by kernel_rfl, by kernel_rfl, rfl⟩
theorem so5 : ∃ i, Try.prog.info? 5 = some i ∧ i.size = 1 := ⟨Try.t5, by kernel_rfl, by kernel_rfl⟩
theorem sc6 : ScalarT Try.prog 6 := fun w => Try.isAgg6 w
theorem ze6 : ZE Try.prog 6 [(.int .u8 0)] := ⟨Try.t6, (.int .u8 0), by kernel_rfl, by kernel_rfl, rfl⟩
theorem so6 : ∃ i, Try.prog.info? 6 = some i ∧ i.size = 1 := ⟨Try.t6, by kernel_rfl, by kernel_rfl⟩
theorem fa7_0 : FA Try.prog 7 0 0 := ⟨_, _, Try.t2, Try.underlying7, rfl, by kernel_rfl, by kernel_rfl, rfl⟩
theorem fa7_1 : FA Try.prog 7 1 1 := ⟨_, _, Try.t3, Try.underlying7, rfl, by kernel_rfl, by kernel_rfl, rfl⟩
theorem fa7_2 : FA Try.prog 7 2 2 := ⟨_, _, Try.t4, Try.underlying7, rfl, by kernel_rfl, by kernel_rfl, rfl⟩
theorem fa7_3 : FA Try.prog 7 3 3 := ⟨_, _, Try.t6, Try.underlying7, rfl, by kernel_rfl, by kernel_rfl, rfl⟩
theorem ag7 : AG Try.prog 7 4 := ⟨⟨_, Try.underlying7⟩, by kernel_rfl⟩
theorem bd7 : BD Try.prog 7 [(.int .i64 0), (.int .i64 0), (.bool false), (.int .u8 0)] [(0, 1), (1, 1), (2, 1), (3, 1)] := ⟨Try.t7, _, (.agg #[(.int .i64 0), (.int .i64 0), (.bool false), (.int .u8 0)]), by kernel_rfl, Try.underlying7, by kernel_rfl, rfl, by kernel_rfl⟩
theorem ze7 : ZE Try.prog 7 [(.int .i64 0), (.int .i64 0), (.bool false), (.int .u8 0)] := ⟨Try.t7, (.agg #[(.int .i64 0), (.int .i64 0), (.bool false), (.int .u8 0)]), by kernel_rfl, by kernel_rfl, rfl⟩
theorem fa8_0 : FA Try.prog 8 0 0 := ⟨_, _, Try.t2, Try.underlying8, rfl, by kernel_rfl, by kernel_rfl, rfl⟩
theorem fa8_1 : FA Try.prog 8 1 1 := ⟨_, _, Try.t3, Try.underlying8, rfl, by kernel_rfl, by kernel_rfl, rfl⟩
theorem fa8_2 : FA Try.prog 8 2 2 := ⟨_, _, Try.t4, Try.underlying8, rfl, by kernel_rfl, by kernel_rfl, rfl⟩
theorem fa8_3 : FA Try.prog 8 3 3 := ⟨_, _, Try.t6, Try.underlying8, rfl, by kernel_rfl, by kernel_rfl, rfl⟩
theorem ag8 : AG Try.prog 8 4 := ⟨⟨_, Try.underlying8⟩, by kernel_rfl⟩
theorem bd8 : BD Try.prog 8 [(.int .i64 0), (.int .i64 0), (.bool false), (.int .u8 0)] [(0, 1), (1, 1), (2, 1), (3, 1)] := ⟨Try.t8, _, (.agg #[(.int .i64 0), (.int .i64 0), (.bool false), (.int .u8 0)]), by kernel_rfl, Try.underlying8, by kernel_rfl, rfl, by kernel_rfl⟩
theorem ze8 : ZE Try.prog 8 [(.int .i64 0), (.int .i64 0), (.bool false), (.int .u8 0)] := ⟨Try.t8, (.agg #[(.int .i64 0), (.int .i64 0), (.bool false), (.int .u8 0)]), by kernel_rfl, by kernel_rfl, rfl⟩
theorem sc9 : ScalarT Try.prog 9 := fun w => Try.isAgg9 w
theorem ze9 : ZE Try.prog 9 [(.string ⟨#[]⟩)] := ⟨Try.t9, (.string ⟨#[]⟩), by kernel_rfl, by kernel_rfl, rfl⟩
theorem so9 : ∃ i, Try.prog.info? 9 = some i ∧ i.size = 1 := ⟨Try.t9, by kernel_rfl, by kernel_rfl⟩
theorem sc10 : ScalarT Try.prog 10 := fun w => Try.isAgg10 w
theorem ze10 : ZE Try.prog 10 [(.string ⟨#[]⟩)] := ⟨Try.t10, (.string ⟨#[]⟩), by kernel_rfl, by kernel_rfl, rfl⟩
theorem so10 : ∃ i, Try.prog.info? 10 = some i ∧ i.size = 1 := ⟨Try.t10, by kernel_rfl, by kernel_rfl⟩
theorem sc11 : ScalarT Try.prog 11 := fun w => Try.isAgg11 w
theorem ze11 : ZE Try.prog 11 [(.string ⟨#[]⟩)] := ⟨Try.t11, (.string ⟨#[]⟩), by kernel_rfl, by kernel_rfl, rfl⟩
theorem so11 : ∃ i, Try.prog.info? 11 = some i ∧ i.size = 1 := ⟨Try.t11, by kernel_rfl, by kernel_rfl⟩
theorem sc12 : ScalarT Try.prog 12 := fun w => Try.isAgg12 w
theorem ze12 : ZE Try.prog 12 [(.int .u64 0)] := ⟨Try.t12, (.int .u64 0), by kernel_rfl, by kernel_rfl, rfl⟩
theorem so12 : ∃ i, Try.prog.info? 12 = some i ∧ i.size = 1 := ⟨Try.t12, by kernel_rfl, by kernel_rfl⟩
theorem fa13_0 : FA Try.prog 13 0 0 := ⟨_, _, Try.t9, Try.underlying13, rfl, by kernel_rfl, by kernel_rfl, rfl⟩
theorem fa13_1 : FA Try.prog 13 1 1 := ⟨_, _, Try.t12, Try.underlying13, rfl, by kernel_rfl, by kernel_rfl, rfl⟩
theorem ag13 : AG Try.prog 13 2 := ⟨⟨_, Try.underlying13⟩, by kernel_rfl⟩
theorem bd13 : BD Try.prog 13 [(.string ⟨#[]⟩), (.int .u64 0)] [(0, 1), (1, 1)] := ⟨Try.t13, _, (.agg #[(.string ⟨#[]⟩), (.int .u64 0)]), by kernel_rfl, Try.underlying13, by kernel_rfl, rfl, by kernel_rfl⟩
theorem ze13 : ZE Try.prog 13 [(.string ⟨#[]⟩), (.int .u64 0)] := ⟨Try.t13, (.agg #[(.string ⟨#[]⟩), (.int .u64 0)]), by kernel_rfl, by kernel_rfl, rfl⟩
theorem fa14_0 : FA Try.prog 14 0 0 := ⟨_, _, Try.t9, Try.underlying14, rfl, by kernel_rfl, by kernel_rfl, rfl⟩
theorem fa14_1 : FA Try.prog 14 1 1 := ⟨_, _, Try.t12, Try.underlying14, rfl, by kernel_rfl, by kernel_rfl, rfl⟩
theorem ag14 : AG Try.prog 14 2 := ⟨⟨_, Try.underlying14⟩, by kernel_rfl⟩
theorem bd14 : BD Try.prog 14 [(.string ⟨#[]⟩), (.int .u64 0)] [(0, 1), (1, 1)] := ⟨Try.t14, _, (.agg #[(.string ⟨#[]⟩), (.int .u64 0)]), by kernel_rfl, Try.underlying14, by kernel_rfl, rfl, by kernel_rfl⟩
theorem ze14 : ZE Try.prog 14 [(.string ⟨#[]⟩), (.int .u64 0)] := ⟨Try.t14, (.agg #[(.string ⟨#[]⟩), (.int .u64 0)]), by kernel_rfl, by kernel_rfl, rfl⟩
theorem sc15 : ScalarT Try.prog 15 := fun w => Try.isAgg15 w
theorem so15 : ∃ i, Try.prog.info? 15 = some i ∧ i.size = 1 := ⟨Try.t15, by kernel_rfl, by kernel_rfl⟩
theorem sc16 : ScalarT Try.prog 16 := fun w => Try.isAgg16 w
theorem so16 : ∃ i, Try.prog.info? 16 = some i ∧ i.size = 1 := ⟨Try.t16, by kernel_rfl, by kernel_rfl⟩
theorem sc17 : ScalarT Try.prog 17 := fun w => Try.isAgg17 w
theorem so17 : ∃ i, Try.prog.info? 17 = some i ∧ i.size = 1 := ⟨Try.t17, by kernel_rfl, by kernel_rfl⟩
theorem fa18_0 : FA Try.prog 18 0 0 := ⟨_, _, Try.t17, Try.underlying18, rfl, by kernel_rfl, by kernel_rfl, rfl⟩
theorem ag18 : AG Try.prog 18 1 := ⟨⟨_, Try.underlying18⟩, by kernel_rfl⟩
theorem bd18 : BD Try.prog 18 [(.pointer none)] [(0, 1)] := ⟨Try.t18, _, (.agg #[(.pointer none)]), by kernel_rfl, Try.underlying18, by kernel_rfl, rfl, by kernel_rfl⟩
theorem ze18 : ZE Try.prog 18 [(.pointer none)] := ⟨Try.t18, (.agg #[(.pointer none)]), by kernel_rfl, by kernel_rfl, rfl⟩
theorem fa19_0 : FA Try.prog 19 0 0 := ⟨_, _, Try.t17, Try.underlying19, rfl, by kernel_rfl, by kernel_rfl, rfl⟩
theorem ag19 : AG Try.prog 19 1 := ⟨⟨_, Try.underlying19⟩, by kernel_rfl⟩
theorem bd19 : BD Try.prog 19 [(.pointer none)] [(0, 1)] := ⟨Try.t19, _, (.agg #[(.pointer none)]), by kernel_rfl, Try.underlying19, by kernel_rfl, rfl, by kernel_rfl⟩
theorem ze19 : ZE Try.prog 19 [(.pointer none)] := ⟨Try.t19, (.agg #[(.pointer none)]), by kernel_rfl, by kernel_rfl, rfl⟩
theorem sc21 : ScalarT Try.prog 21 := fun w => Try.isAgg21 w
theorem ze21 : ZE Try.prog 21 [(.int .i32 0)] := ⟨Try.t21, (.int .i32 0), by kernel_rfl, by kernel_rfl, rfl⟩
theorem so21 : ∃ i, Try.prog.info? 21 = some i ∧ i.size = 1 := ⟨Try.t21, by kernel_rfl, by kernel_rfl⟩
theorem sT25 : SliceT Try.prog 25 2 (.int .i64 0) 8 := ⟨Try.underlying25, ⟨Try.t2, by kernel_rfl, by kernel_rfl, by kernel_rfl, by kernel_rfl⟩, rfl⟩
theorem sc25 : ScalarT Try.prog 25 := fun w => Try.isAgg25 w
theorem ze25 : ZE Try.prog 25 [(.slice none 0 0)] := ⟨Try.t25, (.slice none 0 0), by kernel_rfl, by kernel_rfl, rfl⟩
theorem so25 : ∃ i, Try.prog.info? 25 = some i ∧ i.size = 1 := ⟨Try.t25, by kernel_rfl, by kernel_rfl⟩
theorem sT33 : SliceT Try.prog 33 25 (.slice none 0 0) 24 := ⟨Try.underlying33, ⟨Try.t25, by kernel_rfl, by kernel_rfl, by kernel_rfl, by kernel_rfl⟩, rfl⟩
theorem sc33 : ScalarT Try.prog 33 := fun w => Try.isAgg33 w
theorem ze33 : ZE Try.prog 33 [(.slice none 0 0)] := ⟨Try.t33, (.slice none 0 0), by kernel_rfl, by kernel_rfl, rfl⟩
theorem so33 : ∃ i, Try.prog.info? 33 = some i ∧ i.size = 1 := ⟨Try.t33, by kernel_rfl, by kernel_rfl⟩
theorem sT47 : SliceT Try.prog 47 5 (.int .u8 0) 1 := ⟨Try.underlying47, ⟨Try.t5, by kernel_rfl, by kernel_rfl, by kernel_rfl, by kernel_rfl⟩, rfl⟩
theorem sc47 : ScalarT Try.prog 47 := fun w => Try.isAgg47 w
theorem ze47 : ZE Try.prog 47 [(.slice none 0 0)] := ⟨Try.t47, (.slice none 0 0), by kernel_rfl, by kernel_rfl, rfl⟩
theorem so47 : ∃ i, Try.prog.info? 47 = some i ∧ i.size = 1 := ⟨Try.t47, by kernel_rfl, by kernel_rfl⟩
theorem sc67 : ScalarT Try.prog 67 := fun w => Try.isAgg67 w
theorem so67 : ∃ i, Try.prog.info? 67 = some i ∧ i.size = 1 := ⟨Try.t67, by kernel_rfl, by kernel_rfl⟩
theorem fa75_0 : FA Try.prog 75 0 0 := ⟨_, _, Try.t47, Try.underlying75, rfl, by kernel_rfl, by kernel_rfl, rfl⟩
theorem fa75_1 : FA Try.prog 75 1 1 := ⟨_, _, Try.t3, Try.underlying75, rfl, by kernel_rfl, by kernel_rfl, rfl⟩
theorem fa75_2 : FA Try.prog 75 2 2 := ⟨_, _, Try.t2, Try.underlying75, rfl, by kernel_rfl, by kernel_rfl, rfl⟩
theorem ag75 : AG Try.prog 75 3 := ⟨⟨_, Try.underlying75⟩, by kernel_rfl⟩
theorem bd75 : BD Try.prog 75 [(.slice none 0 0), (.int .i64 0), (.int .i64 0)] [(0, 1), (1, 1), (2, 1)] := ⟨Try.t75, _, (.agg #[(.slice none 0 0), (.int .i64 0), (.int .i64 0)]), by kernel_rfl, Try.underlying75, by kernel_rfl, rfl, by kernel_rfl⟩
theorem ze75 : ZE Try.prog 75 [(.slice none 0 0), (.int .i64 0), (.int .i64 0)] := ⟨Try.t75, (.agg #[(.slice none 0 0), (.int .i64 0), (.int .i64 0)]), by kernel_rfl, by kernel_rfl, rfl⟩
theorem fa76_0 : FA Try.prog 76 0 0 := ⟨_, _, Try.t47, Try.underlying76, rfl, by kernel_rfl, by kernel_rfl, rfl⟩
theorem fa76_1 : FA Try.prog 76 1 1 := ⟨_, _, Try.t3, Try.underlying76, rfl, by kernel_rfl, by kernel_rfl, rfl⟩
theorem fa76_2 : FA Try.prog 76 2 2 := ⟨_, _, Try.t2, Try.underlying76, rfl, by kernel_rfl, by kernel_rfl, rfl⟩
theorem ag76 : AG Try.prog 76 3 := ⟨⟨_, Try.underlying76⟩, by kernel_rfl⟩
theorem bd76 : BD Try.prog 76 [(.slice none 0 0), (.int .i64 0), (.int .i64 0)] [(0, 1), (1, 1), (2, 1)] := ⟨Try.t76, _, (.agg #[(.slice none 0 0), (.int .i64 0), (.int .i64 0)]), by kernel_rfl, Try.underlying76, by kernel_rfl, rfl, by kernel_rfl⟩
theorem ze76 : ZE Try.prog 76 [(.slice none 0 0), (.int .i64 0), (.int .i64 0)] := ⟨Try.t76, (.agg #[(.slice none 0 0), (.int .i64 0), (.int .i64 0)]), by kernel_rfl, by kernel_rfl, rfl⟩
theorem fa78_0 : FA Try.prog 78 0 0 := ⟨_, _, Try.t17, Try.underlying78, rfl, by kernel_rfl, by kernel_rfl, rfl⟩
theorem fa78_1 : FA Try.prog 78 1 1 := ⟨_, _, Try.t17, Try.underlying78, rfl, by kernel_rfl, by kernel_rfl, rfl⟩
theorem fa78_2 : FA Try.prog 78 2 2 := ⟨_, _, Try.t17, Try.underlying78, rfl, by kernel_rfl, by kernel_rfl, rfl⟩
theorem fa78_3 : FA Try.prog 78 3 3 := ⟨_, _, Try.t9, Try.underlying78, rfl, by kernel_rfl, by kernel_rfl, rfl⟩
theorem ag78 : AG Try.prog 78 4 := ⟨⟨_, Try.underlying78⟩, by kernel_rfl⟩
theorem bd78 : BD Try.prog 78 [(.pointer none), (.pointer none), (.pointer none), (.string ⟨#[]⟩)] [(0, 1), (1, 1), (2, 1), (3, 1)] := ⟨Try.t78, _, (.agg #[(.pointer none), (.pointer none), (.pointer none), (.string ⟨#[]⟩)]), by kernel_rfl, Try.underlying78, by kernel_rfl, rfl, by kernel_rfl⟩
theorem ze78 : ZE Try.prog 78 [(.pointer none), (.pointer none), (.pointer none), (.string ⟨#[]⟩)] := ⟨Try.t78, (.agg #[(.pointer none), (.pointer none), (.pointer none), (.string ⟨#[]⟩)]), by kernel_rfl, by kernel_rfl, rfl⟩
theorem fa79_0 : FA Try.prog 79 0 0 := ⟨_, _, Try.t17, Try.underlying79, rfl, by kernel_rfl, by kernel_rfl, rfl⟩
theorem fa79_1 : FA Try.prog 79 1 1 := ⟨_, _, Try.t17, Try.underlying79, rfl, by kernel_rfl, by kernel_rfl, rfl⟩
theorem fa79_2 : FA Try.prog 79 2 2 := ⟨_, _, Try.t17, Try.underlying79, rfl, by kernel_rfl, by kernel_rfl, rfl⟩
theorem fa79_3 : FA Try.prog 79 3 3 := ⟨_, _, Try.t9, Try.underlying79, rfl, by kernel_rfl, by kernel_rfl, rfl⟩
theorem ag79 : AG Try.prog 79 4 := ⟨⟨_, Try.underlying79⟩, by kernel_rfl⟩
theorem bd79 : BD Try.prog 79 [(.pointer none), (.pointer none), (.pointer none), (.string ⟨#[]⟩)] [(0, 1), (1, 1), (2, 1), (3, 1)] := ⟨Try.t79, _, (.agg #[(.pointer none), (.pointer none), (.pointer none), (.string ⟨#[]⟩)]), by kernel_rfl, Try.underlying79, by kernel_rfl, rfl, by kernel_rfl⟩
theorem ze79 : ZE Try.prog 79 [(.pointer none), (.pointer none), (.pointer none), (.string ⟨#[]⟩)] := ⟨Try.t79, (.agg #[(.pointer none), (.pointer none), (.pointer none), (.string ⟨#[]⟩)]), by kernel_rfl, by kernel_rfl, rfl⟩
theorem ag81 : AG Try.prog 81 0 := ⟨⟨_, Try.underlying81⟩, by kernel_rfl⟩
theorem ze81 : ZE Try.prog 81 [] := ⟨Try.t81, (.agg #[]), by kernel_rfl, by kernel_rfl, rfl⟩
theorem ag82 : AG Try.prog 82 0 := ⟨⟨_, Try.underlying82⟩, by kernel_rfl⟩
theorem ze82 : ZE Try.prog 82 [] := ⟨Try.t82, (.agg #[]), by kernel_rfl, by kernel_rfl, rfl⟩
theorem sc84 : ScalarT Try.prog 84 := fun w => Try.isAgg84 w
theorem ze84 : ZE Try.prog 84 [(.int .u32 0)] := ⟨Try.t84, (.int .u32 0), by kernel_rfl, by kernel_rfl, rfl⟩
theorem so84 : ∃ i, Try.prog.info? 84 = some i ∧ i.size = 1 := ⟨Try.t84, by kernel_rfl, by kernel_rfl⟩
theorem sc85 : ScalarT Try.prog 85 := fun w => Try.isAgg85 w
theorem ze85 : ZE Try.prog 85 [(.int .u8 0)] := ⟨Try.t85, (.int .u8 0), by kernel_rfl, by kernel_rfl, rfl⟩
theorem so85 : ∃ i, Try.prog.info? 85 = some i ∧ i.size = 1 := ⟨Try.t85, by kernel_rfl, by kernel_rfl⟩
theorem sc86 : ScalarT Try.prog 86 := fun w => Try.isAgg86 w
theorem ze86 : ZE Try.prog 86 [(.int .u8 0)] := ⟨Try.t86, (.int .u8 0), by kernel_rfl, by kernel_rfl, rfl⟩
theorem so86 : ∃ i, Try.prog.info? 86 = some i ∧ i.size = 1 := ⟨Try.t86, by kernel_rfl, by kernel_rfl⟩
theorem sc88 : ScalarT Try.prog 88 := fun w => Try.isAgg88 w
theorem so88 : ∃ i, Try.prog.info? 88 = some i ∧ i.size = 1 := ⟨Try.t88, by kernel_rfl, by kernel_rfl⟩
theorem sc89 : ScalarT Try.prog 89 := fun w => Try.isAgg89 w
theorem ze89 : ZE Try.prog 89 [(.int .i32 0)] := ⟨Try.t89, (.int .i32 0), by kernel_rfl, by kernel_rfl, rfl⟩
theorem so89 : ∃ i, Try.prog.info? 89 = some i ∧ i.size = 1 := ⟨Try.t89, by kernel_rfl, by kernel_rfl⟩
theorem sc90 : ScalarT Try.prog 90 := fun w => Try.isAgg90 w
theorem ze90 : ZE Try.prog 90 [(.int .i32 0)] := ⟨Try.t90, (.int .i32 0), by kernel_rfl, by kernel_rfl, rfl⟩
theorem so90 : ∃ i, Try.prog.info? 90 = some i ∧ i.size = 1 := ⟨Try.t90, by kernel_rfl, by kernel_rfl⟩
theorem fa91_0 : FA Try.prog 91 0 0 := ⟨_, _, Try.t12, Try.underlying91, rfl, by kernel_rfl, by kernel_rfl, rfl⟩
theorem fa91_1 : FA Try.prog 91 1 1 := ⟨_, _, Try.t12, Try.underlying91, rfl, by kernel_rfl, by kernel_rfl, rfl⟩
theorem fa91_2 : FA Try.prog 91 2 2 := ⟨_, _, Try.t84, Try.underlying91, rfl, by kernel_rfl, by kernel_rfl, rfl⟩
theorem fa91_3 : FA Try.prog 91 3 3 := ⟨_, _, Try.t85, Try.underlying91, rfl, by kernel_rfl, by kernel_rfl, rfl⟩
theorem fa91_4 : FA Try.prog 91 4 4 := ⟨_, _, Try.t5, Try.underlying91, rfl, by kernel_rfl, by kernel_rfl, rfl⟩
theorem fa91_5 : FA Try.prog 91 5 5 := ⟨_, _, Try.t5, Try.underlying91, rfl, by kernel_rfl, by kernel_rfl, rfl⟩
theorem fa91_6 : FA Try.prog 91 6 6 := ⟨_, _, Try.t86, Try.underlying91, rfl, by kernel_rfl, by kernel_rfl, rfl⟩
theorem fa91_7 : FA Try.prog 91 7 7 := ⟨_, _, Try.t87, Try.underlying91, rfl, by kernel_rfl, by kernel_rfl, rfl⟩
theorem fa91_8 : FA Try.prog 91 8 8 := ⟨_, _, Try.t88, Try.underlying91, rfl, by kernel_rfl, by kernel_rfl, rfl⟩
theorem fa91_9 : FA Try.prog 91 9 9 := ⟨_, _, Try.t89, Try.underlying91, rfl, by kernel_rfl, by kernel_rfl, rfl⟩
theorem fa91_10 : FA Try.prog 91 10 10 := ⟨_, _, Try.t90, Try.underlying91, rfl, by kernel_rfl, by kernel_rfl, rfl⟩
theorem ag91 : AG Try.prog 91 11 := ⟨⟨_, Try.underlying91⟩, by kernel_rfl⟩
theorem bd91 : BD Try.prog 91 [(.int .u64 0), (.int .u64 0), (.int .u32 0), (.int .u8 0), (.int .u8 0), (.int .u8 0), (.int .u8 0), .nilFunc, (.pointer none), (.int .i32 0), (.int .i32 0)] [(0, 1), (1, 1), (2, 1), (3, 1), (4, 1), (5, 1), (6, 1), (7, 1), (8, 1), (9, 1), (10, 1)] := ⟨Try.t91, _, (.agg #[(.int .u64 0), (.int .u64 0), (.int .u32 0), (.int .u8 0), (.int .u8 0), (.int .u8 0), (.int .u8 0), .nilFunc, (.pointer none), (.int .i32 0), (.int .i32 0)]), by kernel_rfl, Try.underlying91, by kernel_rfl, rfl, by kernel_rfl⟩
theorem ze91 : ZE Try.prog 91 [(.int .u64 0), (.int .u64 0), (.int .u32 0), (.int .u8 0), (.int .u8 0), (.int .u8 0), (.int .u8 0), .nilFunc, (.pointer none), (.int .i32 0), (.int .i32 0)] := ⟨Try.t91, (.agg #[(.int .u64 0), (.int .u64 0), (.int .u32 0), (.int .u8 0), (.int .u8 0), (.int .u8 0), (.int .u8 0), .nilFunc, (.pointer none), (.int .i32 0), (.int .i32 0)]), by kernel_rfl, by kernel_rfl, rfl⟩
theorem fa92_0 : FA Try.prog 92 0 0 := ⟨_, _, Try.t12, Try.underlying92, rfl, by kernel_rfl, by kernel_rfl, rfl⟩
theorem fa92_1 : FA Try.prog 92 1 1 := ⟨_, _, Try.t12, Try.underlying92, rfl, by kernel_rfl, by kernel_rfl, rfl⟩
theorem fa92_2 : FA Try.prog 92 2 2 := ⟨_, _, Try.t84, Try.underlying92, rfl, by kernel_rfl, by kernel_rfl, rfl⟩
theorem fa92_3 : FA Try.prog 92 3 3 := ⟨_, _, Try.t85, Try.underlying92, rfl, by kernel_rfl, by kernel_rfl, rfl⟩
theorem fa92_4 : FA Try.prog 92 4 4 := ⟨_, _, Try.t5, Try.underlying92, rfl, by kernel_rfl, by kernel_rfl, rfl⟩
theorem fa92_5 : FA Try.prog 92 5 5 := ⟨_, _, Try.t5, Try.underlying92, rfl, by kernel_rfl, by kernel_rfl, rfl⟩
theorem fa92_6 : FA Try.prog 92 6 6 := ⟨_, _, Try.t86, Try.underlying92, rfl, by kernel_rfl, by kernel_rfl, rfl⟩
theorem fa92_7 : FA Try.prog 92 7 7 := ⟨_, _, Try.t87, Try.underlying92, rfl, by kernel_rfl, by kernel_rfl, rfl⟩
theorem fa92_8 : FA Try.prog 92 8 8 := ⟨_, _, Try.t88, Try.underlying92, rfl, by kernel_rfl, by kernel_rfl, rfl⟩
theorem fa92_9 : FA Try.prog 92 9 9 := ⟨_, _, Try.t89, Try.underlying92, rfl, by kernel_rfl, by kernel_rfl, rfl⟩
theorem fa92_10 : FA Try.prog 92 10 10 := ⟨_, _, Try.t90, Try.underlying92, rfl, by kernel_rfl, by kernel_rfl, rfl⟩
theorem ag92 : AG Try.prog 92 11 := ⟨⟨_, Try.underlying92⟩, by kernel_rfl⟩
theorem bd92 : BD Try.prog 92 [(.int .u64 0), (.int .u64 0), (.int .u32 0), (.int .u8 0), (.int .u8 0), (.int .u8 0), (.int .u8 0), .nilFunc, (.pointer none), (.int .i32 0), (.int .i32 0)] [(0, 1), (1, 1), (2, 1), (3, 1), (4, 1), (5, 1), (6, 1), (7, 1), (8, 1), (9, 1), (10, 1)] := ⟨Try.t92, _, (.agg #[(.int .u64 0), (.int .u64 0), (.int .u32 0), (.int .u8 0), (.int .u8 0), (.int .u8 0), (.int .u8 0), .nilFunc, (.pointer none), (.int .i32 0), (.int .i32 0)]), by kernel_rfl, Try.underlying92, by kernel_rfl, rfl, by kernel_rfl⟩
theorem ze92 : ZE Try.prog 92 [(.int .u64 0), (.int .u64 0), (.int .u32 0), (.int .u8 0), (.int .u8 0), (.int .u8 0), (.int .u8 0), .nilFunc, (.pointer none), (.int .i32 0), (.int .i32 0)] := ⟨Try.t92, (.agg #[(.int .u64 0), (.int .u64 0), (.int .u32 0), (.int .u8 0), (.int .u8 0), (.int .u8 0), (.int .u8 0), .nilFunc, (.pointer none), (.int .i32 0), (.int .i32 0)]), by kernel_rfl, by kernel_rfl, rfl⟩
end Go.Proofs.Ytfpignajpihgnaa
