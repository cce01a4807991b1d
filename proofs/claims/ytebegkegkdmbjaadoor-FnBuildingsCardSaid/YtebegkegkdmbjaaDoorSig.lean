/-
  The rows of the program's table of types that the walks of this seat use; with structs.
-/
import Derived.Test.YtebegkegkdmbjaaDoorMem
import Derived.Test.YtebegkegkdmbjaaDoorStruct
import Derived.Test.YtebegkegkdmbjaaDoorProg
namespace Go.Proofs.YtebegkegkdmbjaaDoor
open B Go.RowKit
theorem mixed : Tryd.prog.follows .mixedOrders = true := by kernel_rfl
theorem sc2 : ScalarT Tryd.prog 2 := fun w => Tryd.isAgg2 w
theorem ze2 : ZE Tryd.prog 2 [(.int .i64 0)] := ⟨Tryd.t2, (.int .i64 0), by kernel_rfl, by kernel_rfl, rfl⟩
theorem so2 : ∃ i, Tryd.prog.info? 2 = some i ∧ i.size = 1 := ⟨Tryd.t2, by kernel_rfl, by kernel_rfl⟩
theorem sc3 : ScalarT Tryd.prog 3 := fun w => Tryd.isAgg3 w
theorem ze3 : ZE Tryd.prog 3 [(.int .i64 0)] := ⟨Tryd.t3, (.int .i64 0), by kernel_rfl, by kernel_rfl, rfl⟩
theorem so3 : ∃ i, Tryd.prog.info? 3 = some i ∧ i.size = 1 := ⟨Tryd.t3, by kernel_rfl, by kernel_rfl⟩
theorem sc4 : ScalarT Tryd.prog 4 := fun w => Tryd.isAgg4 w
theorem ze4 : ZE Tryd.prog 4 [(.bool false)] := ⟨Tryd.t4, (.bool false), by kernel_rfl, by kernel_rfl, rfl⟩
theorem so4 : ∃ i, Tryd.prog.info? 4 = some i ∧ i.size = 1 := ⟨Tryd.t4, by kernel_rfl, by kernel_rfl⟩
theorem sc5 : ScalarT Tryd.prog 5 := fun w => Tryd.isAgg5 w
theorem ze5 : ZE Tryd.prog 5 [(.int .u8 0)] := ⟨Tryd.t5, (.int .u8 0), by kernel_rfl, by kernel_rfl, rfl⟩
theorem so5 : ∃ i, Tryd.prog.info? 5 = some i ∧ i.size = 1 := ⟨Tryd.t5, by kernel_rfl, by kernel_rfl⟩
theorem sc6 : ScalarT Tryd.prog 6 := fun w => Tryd.isAgg6 w
theorem ze6 : ZE Tryd.prog 6 [(.int .u8 0)] := ⟨Tryd.t6, (.int .u8 0), by kernel_rfl, by kernel_rfl, rfl⟩
theorem so6 : ∃ i, Tryd.prog.info? 6 = some i ∧ i.size = 1 := ⟨Tryd.t6, by kernel_rfl, by kernel_rfl⟩
theorem fa7_0 : FA Tryd.prog 7 0 0 := ⟨_, _, Tryd.t2, Tryd.underlying7, rfl, by kernel_rfl, by kernel_rfl, rfl⟩
theorem fa7_1 : FA Tryd.prog 7 1 1 := ⟨_, _, Tryd.t3, Tryd.underlying7, rfl, by kernel_rfl, by kernel_rfl, rfl⟩
theorem fa7_2 : FA Tryd.prog 7 2 2 := ⟨_, _, Tryd.t4, Tryd.underlying7, rfl, by kernel_rfl, by kernel_rfl, rfl⟩
theorem fa7_3 : FA Tryd.prog 7 3 3 := ⟨_, _, Tryd.t6, Tryd.underlying7, rfl, by kernel_rfl, by kernel_rfl, rfl⟩
theorem ag7 : AG Tryd.prog 7 4 := ⟨⟨_, Tryd.underlying7⟩, by kernel_rfl⟩
theorem bd7 : BD Tryd.prog 7 [(.int .i64 0), (.int .i64 0), (.bool false), (.int .u8 0)] [(0, 1), (1, 1), (2, 1), (3, 1)] := ⟨Tryd.t7, _, (.agg #[(.int .i64 0), (.int .i64 0), (.bool false), (.int .u8 0)]), by kernel_rfl, Tryd.underlying7, by kernel_rfl, rfl, by kernel_rfl⟩
theorem ze7 : ZE Tryd.prog 7 [(.int .i64 0), (.int .i64 0), (.bool false), (.int .u8 0)] := ⟨Tryd.t7, (.agg #[(.int .i64 0), (.int .i64 0), (.bool false), (.int .u8 0)]), by kernel_rfl, by kernel_rfl, rfl⟩
theorem fa8_0 : FA Tryd.prog 8 0 0 := ⟨_, _, Tryd.t2, Tryd.underlying8, rfl, by kernel_rfl, by kernel_rfl, rfl⟩
theorem fa8_1 : FA Tryd.prog 8 1 1 := ⟨_, _, Tryd.t3, Tryd.underlying8, rfl, by kernel_rfl, by kernel_rfl, rfl⟩
theorem fa8_2 : FA Tryd.prog 8 2 2 := ⟨_, _, Tryd.t4, Tryd.underlying8, rfl, by kernel_rfl, by kernel_rfl, rfl⟩
theorem fa8_3 : FA Tryd.prog 8 3 3 := ⟨_, _, Tryd.t6, Tryd.underlying8, rfl, by kernel_rfl, by kernel_rfl, rfl⟩
theorem ag8 : AG Tryd.prog 8 4 := ⟨⟨_, Tryd.underlying8⟩, by kernel_rfl⟩
theorem bd8 : BD Tryd.prog 8 [(.int .i64 0), (.int .i64 0), (.bool false), (.int .u8 0)] [(0, 1), (1, 1), (2, 1), (3, 1)] := ⟨Tryd.t8, _, (.agg #[(.int .i64 0), (.int .i64 0), (.bool false), (.int .u8 0)]), by kernel_rfl, Tryd.underlying8, by kernel_rfl, rfl, by kernel_rfl⟩
theorem ze8 : ZE Tryd.prog 8 [(.int .i64 0), (.int .i64 0), (.bool false), (.int .u8 0)] := ⟨Tryd.t8, (.agg #[(.int .i64 0), (.int .i64 0), (.bool false), (.int .u8 0)]), by kernel_rfl, by kernel_rfl, rfl⟩
theorem sc9 : ScalarT Tryd.prog 9 := fun w => Tryd.isAgg9 w
theorem ze9 : ZE Tryd.prog 9 [(.string ⟨#[]⟩)] := ⟨Tryd.t9, (.string ⟨#[]⟩), by kernel_rfl, by kernel_rfl, rfl⟩
theorem so9 : ∃ i, Tryd.prog.info? 9 = some i ∧ i.size = 1 := ⟨Tryd.t9, by kernel_rfl, by kernel_rfl⟩
theorem sc10 : ScalarT Tryd.prog 10 := fun w => Tryd.isAgg10 w
theorem ze10 : ZE Tryd.prog 10 [(.string ⟨#[]⟩)] := ⟨Tryd.t10, (.string ⟨#[]⟩), by kernel_rfl, by kernel_rfl, rfl⟩
theorem so10 : ∃ i, Tryd.prog.info? 10 = some i ∧ i.size = 1 := ⟨Tryd.t10, by kernel_rfl, by kernel_rfl⟩
theorem sc11 : ScalarT Tryd.prog 11 := fun w => Tryd.isAgg11 w
theorem ze11 : ZE Tryd.prog 11 [(.string ⟨#[]⟩)] := ⟨Tryd.t11, (.string ⟨#[]⟩), by kernel_rfl, by kernel_rfl, rfl⟩
theorem so11 : ∃ i, Tryd.prog.info? 11 = some i ∧ i.size = 1 := ⟨Tryd.t11, by kernel_rfl, by kernel_rfl⟩
theorem sc12 : ScalarT Tryd.prog 12 := fun w => Tryd.isAgg12 w
theorem ze12 : ZE Tryd.prog 12 [(.int .u64 0)] := ⟨Tryd.t12, (.int .u64 0), by kernel_rfl, by kernel_rfl, rfl⟩
theorem so12 : ∃ i, Tryd.prog.info? 12 = some i ∧ i.size = 1 := ⟨Tryd.t12, by kernel_rfl, by kernel_rfl⟩
theorem fa13_0 : FA Tryd.prog 13 0 0 := ⟨_, _, Tryd.t9, Tryd.underlying13, rfl, by kernel_rfl, by kernel_rfl, rfl⟩
theorem fa13_1 : FA Tryd.prog 13 1 1 := ⟨_, _, Tryd.t12, Tryd.underlying13, rfl, by kernel_rfl, by kernel_rfl, rfl⟩
theorem ag13 : AG Tryd.prog 13 2 := ⟨⟨_, Tryd.underlying13⟩, by kernel_rfl⟩
theorem bd13 : BD Tryd.prog 13 [(.string ⟨#[]⟩), (.int .u64 0)] [(0, 1), (1, 1)] := ⟨Tryd.t13, _, (.agg #[(.string ⟨#[]⟩), (.int .u64 0)]), by kernel_rfl, Tryd.underlying13, by kernel_rfl, rfl, by kernel_rfl⟩
theorem ze13 : ZE Tryd.prog 13 [(.string ⟨#[]⟩), (.int .u64 0)] := ⟨Tryd.t13, (.agg #[(.string ⟨#[]⟩), (.int .u64 0)]), by kernel_rfl, by kernel_rfl, rfl⟩
theorem fa14_0 : FA Tryd.prog 14 0 0 := ⟨_, _, Tryd.t9, Tryd.underlying14, rfl, by kernel_rfl, by kernel_rfl, rfl⟩
theorem fa14_1 : FA Tryd.prog 14 1 1 := ⟨_, _, Tryd.t12, Tryd.underlying14, rfl, by kernel_rfl, by kernel_rfl, rfl⟩
theorem ag14 : AG Tryd.prog 14 2 := ⟨⟨_, Tryd.underlying14⟩, by kernel_rfl⟩
theorem bd14 : BD Tryd.prog 14 [(.string ⟨#[]⟩), (.int .u64 0)] [(0, 1), (1, 1)] := ⟨Tryd.t14, _, (.agg #[(.string ⟨#[]⟩), (.int .u64 0)]), by kernel_rfl, Tryd.underlying14, by kernel_rfl, rfl, by kernel_rfl⟩
theorem ze14 : ZE Tryd.prog 14 [(.string ⟨#[]⟩), (.int .u64 0)] := ⟨Tryd.t14, (.agg #[(.string ⟨#[]⟩), (.int .u64 0)]), by kernel_rfl, by kernel_rfl, rfl⟩
theorem sc15 : ScalarT Tryd.prog 15 := fun w => Tryd.isAgg15 w
theorem so15 : ∃ i, Tryd.prog.info? 15 = some i ∧ i.size = 1 := ⟨Tryd.t15, by kernel_rfl, by kernel_rfl⟩
theorem sc16 : ScalarT Tryd.prog 16 := fun w => Tryd.isAgg16 w
theorem so16 : ∃ i, Tryd.prog.info? 16 = some i ∧ i.size = 1 := ⟨Tryd.t16, by kernel_rfl, by kernel_rfl⟩
theorem sc17 : ScalarT Tryd.prog 17 := fun w => Tryd.isAgg17 w
theorem so17 : ∃ i, Tryd.prog.info? 17 = some i ∧ i.size = 1 := ⟨Tryd.t17, by kernel_rfl, by kernel_rfl⟩
theorem fa18_0 : FA Tryd.prog 18 0 0 := ⟨_, _, Tryd.t17, Tryd.underlying18, rfl, by kernel_rfl, by kernel_rfl, rfl⟩
theorem ag18 : AG Tryd.prog 18 1 := ⟨⟨_, Tryd.underlying18⟩, by kernel_rfl⟩
theorem bd18 : BD Tryd.prog 18 [(.pointer none)] [(0, 1)] := ⟨Tryd.t18, _, (.agg #[(.pointer none)]), by kernel_rfl, Tryd.underlying18, by kernel_rfl, rfl, by kernel_rfl⟩
theorem ze18 : ZE Tryd.prog 18 [(.pointer none)] := ⟨Tryd.t18, (.agg #[(.pointer none)]), by kernel_rfl, by kernel_rfl, rfl⟩
theorem fa19_0 : FA Tryd.prog 19 0 0 := ⟨_, _, Tryd.t17, Tryd.underlying19, rfl, by kernel_rfl, by kernel_rfl, rfl⟩
theorem ag19 : AG Tryd.prog 19 1 := ⟨⟨_, Tryd.underlying19⟩, by kernel_rfl⟩
theorem bd19 : BD Tryd.prog 19 [(.pointer none)] [(0, 1)] := ⟨Tryd.t19, _, (.agg #[(.pointer none)]), by kernel_rfl, Tryd.underlying19, by kernel_rfl, rfl, by kernel_rfl⟩
theorem ze19 : ZE Tryd.prog 19 [(.pointer none)] := ⟨Tryd.t19, (.agg #[(.pointer none)]), by kernel_rfl, by kernel_rfl, rfl⟩
theorem sc21 : ScalarT Tryd.prog 21 := fun w => Tryd.isAgg21 w
theorem ze21 : ZE Tryd.prog 21 [(.int .i32 0)] := ⟨Tryd.t21, (.int .i32 0), by kernel_rfl, by kernel_rfl, rfl⟩
theorem so21 : ∃ i, Tryd.prog.info? 21 = some i ∧ i.size = 1 := ⟨Tryd.t21, by kernel_rfl, by kernel_rfl⟩
theorem sT22 : SliceT Tryd.prog 22 2 (.int .i64 0) 8 := ⟨Tryd.underlying22, ⟨Tryd.t2, by kernel_rfl, by kernel_rfl, by kernel_rfl, by kernel_rfl⟩, rfl⟩
theorem sc22 : ScalarT Tryd.prog 22 := fun w => Tryd.isAgg22 w
theorem ze22 : ZE Tryd.prog 22 [(.slice none 0 0)] := ⟨Tryd.t22, (.slice none 0 0), by kernel_rfl, by kernel_rfl, rfl⟩
theorem so22 : ∃ i, Tryd.prog.info? 22 = some i ∧ i.size = 1 := ⟨Tryd.t22, by kernel_rfl, by kernel_rfl⟩
theorem sT23 : SliceT Tryd.prog 23 4 (.bool false) 1 := ⟨Tryd.underlying23, ⟨Tryd.t4, by kernel_rfl, by kernel_rfl, by kernel_rfl, by kernel_rfl⟩, rfl⟩
theorem sc23 : ScalarT Tryd.prog 23 := fun w => Tryd.isAgg23 w
theorem ze23 : ZE Tryd.prog 23 [(.slice none 0 0)] := ⟨Tryd.t23, (.slice none 0 0), by kernel_rfl, by kernel_rfl, rfl⟩
theorem so23 : ∃ i, Tryd.prog.info? 23 = some i ∧ i.size = 1 := ⟨Tryd.t23, by kernel_rfl, by kernel_rfl⟩
theorem fa24_0 : FA Tryd.prog 24 0 0 := ⟨_, _, Tryd.t22, Tryd.underlying24, rfl, by kernel_rfl, by kernel_rfl, rfl⟩
theorem fa24_1 : FA Tryd.prog 24 1 1 := ⟨_, _, Tryd.t23, Tryd.underlying24, rfl, by kernel_rfl, by kernel_rfl, rfl⟩
theorem ag24 : AG Tryd.prog 24 2 := ⟨⟨_, Tryd.underlying24⟩, by kernel_rfl⟩
theorem bd24 : BD Tryd.prog 24 [(.slice none 0 0), (.slice none 0 0)] [(0, 1), (1, 1)] := ⟨Tryd.t24, _, (.agg #[(.slice none 0 0), (.slice none 0 0)]), by kernel_rfl, Tryd.underlying24, by kernel_rfl, rfl, by kernel_rfl⟩
theorem ze24 : ZE Tryd.prog 24 [(.slice none 0 0), (.slice none 0 0)] := ⟨Tryd.t24, (.agg #[(.slice none 0 0), (.slice none 0 0)]), by kernel_rfl, by kernel_rfl, rfl⟩
theorem fa25_0 : FA Tryd.prog 25 0 0 := ⟨_, _, Tryd.t22, Tryd.underlying25, rfl, by kernel_rfl, by kernel_rfl, rfl⟩
theorem fa25_1 : FA Tryd.prog 25 1 1 := ⟨_, _, Tryd.t23, Tryd.underlying25, rfl, by kernel_rfl, by kernel_rfl, rfl⟩
theorem ag25 : AG Tryd.prog 25 2 := ⟨⟨_, Tryd.underlying25⟩, by kernel_rfl⟩
theorem bd25 : BD Tryd.prog 25 [(.slice none 0 0), (.slice none 0 0)] [(0, 1), (1, 1)] := ⟨Tryd.t25, _, (.agg #[(.slice none 0 0), (.slice none 0 0)]), by kernel_rfl, Tryd.underlying25, by kernel_rfl, rfl, by kernel_rfl⟩
theorem ze25 : ZE Tryd.prog 25 [(.slice none 0 0), (.slice none 0 0)] := ⟨Tryd.t25, (.agg #[(.slice none 0 0), (.slice none 0 0)]), by kernel_rfl, by kernel_rfl, rfl⟩
theorem sT31 : SliceT Tryd.prog 31 5 (.int .u8 0) 1 := ⟨Tryd.underlying31, ⟨Tryd.t5, by kernel_rfl, by kernel_rfl, by kernel_rfl, by kernel_rfl⟩, rfl⟩
theorem sc31 : ScalarT Tryd.prog 31 := fun w => Tryd.isAgg31 w
theorem ze31 : ZE Tryd.prog 31 [(.slice none 0 0)] := ⟨Tryd.t31, (.slice none 0 0), by kernel_rfl, by kernel_rfl, rfl⟩
theorem so31 : ∃ i, Tryd.prog.info? 31 = some i ∧ i.size = 1 := ⟨Tryd.t31, by kernel_rfl, by kernel_rfl⟩
theorem fa38_0 : FA Tryd.prog 38 0 0 := ⟨_, _, Tryd.t22, Tryd.underlying38, rfl, by kernel_rfl, by kernel_rfl, rfl⟩
theorem fa38_1 : FA Tryd.prog 38 1 1 := ⟨_, _, Tryd.t23, Tryd.underlying38, rfl, by kernel_rfl, by kernel_rfl, rfl⟩
theorem ag38 : AG Tryd.prog 38 2 := ⟨⟨_, Tryd.underlying38⟩, by kernel_rfl⟩
theorem bd38 : BD Tryd.prog 38 [(.slice none 0 0), (.slice none 0 0)] [(0, 1), (1, 1)] := ⟨Tryd.t38, _, (.agg #[(.slice none 0 0), (.slice none 0 0)]), by kernel_rfl, Tryd.underlying38, by kernel_rfl, rfl, by kernel_rfl⟩
theorem ze38 : ZE Tryd.prog 38 [(.slice none 0 0), (.slice none 0 0)] := ⟨Tryd.t38, (.agg #[(.slice none 0 0), (.slice none 0 0)]), by kernel_rfl, by kernel_rfl, rfl⟩
theorem sT42 : SliceT Tryd.prog 42 9 (.string ⟨#[]⟩) 16 := ⟨Tryd.underlying42, ⟨Tryd.t9, by kernel_rfl, by kernel_rfl, by kernel_rfl, by kernel_rfl⟩, rfl⟩
theorem sc42 : ScalarT Tryd.prog 42 := fun w => Tryd.isAgg42 w
theorem ze42 : ZE Tryd.prog 42 [(.slice none 0 0)] := ⟨Tryd.t42, (.slice none 0 0), by kernel_rfl, by kernel_rfl, rfl⟩
theorem so42 : ∃ i, Tryd.prog.info? 42 = some i ∧ i.size = 1 := ⟨Tryd.t42, by kernel_rfl, by kernel_rfl⟩
theorem sc53 : ScalarT Tryd.prog 53 := fun w => Tryd.isAgg53 w
theorem so53 : ∃ i, Tryd.prog.info? 53 = some i ∧ i.size = 1 := ⟨Tryd.t53, by kernel_rfl, by kernel_rfl⟩
theorem fa69_0 : FA Tryd.prog 69 0 0 := ⟨_, _, Tryd.t31, Tryd.underlying69, rfl, by kernel_rfl, by kernel_rfl, rfl⟩
theorem fa69_1 : FA Tryd.prog 69 1 1 := ⟨_, _, Tryd.t3, Tryd.underlying69, rfl, by kernel_rfl, by kernel_rfl, rfl⟩
theorem fa69_2 : FA Tryd.prog 69 2 2 := ⟨_, _, Tryd.t2, Tryd.underlying69, rfl, by kernel_rfl, by kernel_rfl, rfl⟩
theorem ag69 : AG Tryd.prog 69 3 := ⟨⟨_, Tryd.underlying69⟩, by kernel_rfl⟩
theorem bd69 : BD Tryd.prog 69 [(.slice none 0 0), (.int .i64 0), (.int .i64 0)] [(0, 1), (1, 1), (2, 1)] := ⟨Tryd.t69, _, (.agg #[(.slice none 0 0), (.int .i64 0), (.int .i64 0)]), by kernel_rfl, Tryd.underlying69, by kernel_rfl, rfl, by kernel_rfl⟩
theorem ze69 : ZE Tryd.prog 69 [(.slice none 0 0), (.int .i64 0), (.int .i64 0)] := ⟨Tryd.t69, (.agg #[(.slice none 0 0), (.int .i64 0), (.int .i64 0)]), by kernel_rfl, by kernel_rfl, rfl⟩
theorem fa70_0 : FA Tryd.prog 70 0 0 := ⟨_, _, Tryd.t31, Tryd.underlying70, rfl, by kernel_rfl, by kernel_rfl, rfl⟩
theorem fa70_1 : FA Tryd.prog 70 1 1 := ⟨_, _, Tryd.t3, Tryd.underlying70, rfl, by kernel_rfl, by kernel_rfl, rfl⟩
theorem fa70_2 : FA Tryd.prog 70 2 2 := ⟨_, _, Tryd.t2, Tryd.underlying70, rfl, by kernel_rfl, by kernel_rfl, rfl⟩
theorem ag70 : AG Tryd.prog 70 3 := ⟨⟨_, Tryd.underlying70⟩, by kernel_rfl⟩
theorem bd70 : BD Tryd.prog 70 [(.slice none 0 0), (.int .i64 0), (.int .i64 0)] [(0, 1), (1, 1), (2, 1)] := ⟨Tryd.t70, _, (.agg #[(.slice none 0 0), (.int .i64 0), (.int .i64 0)]), by kernel_rfl, Tryd.underlying70, by kernel_rfl, rfl, by kernel_rfl⟩
theorem ze70 : ZE Tryd.prog 70 [(.slice none 0 0), (.int .i64 0), (.int .i64 0)] := ⟨Tryd.t70, (.agg #[(.slice none 0 0), (.int .i64 0), (.int .i64 0)]), by kernel_rfl, by kernel_rfl, rfl⟩
theorem sc73 : ScalarT Tryd.prog 73 := fun w => Tryd.isAgg73 w
theorem so73 : ∃ i, Tryd.prog.info? 73 = some i ∧ i.size = 1 := ⟨Tryd.t73, by kernel_rfl, by kernel_rfl⟩
theorem fa74_0 : FA Tryd.prog 74 0 0 := ⟨_, _, Tryd.t73, Tryd.underlying74, rfl, by kernel_rfl, by kernel_rfl, rfl⟩
theorem fa74_1 : FA Tryd.prog 74 1 1 := ⟨_, _, Tryd.t31, Tryd.underlying74, rfl, by kernel_rfl, by kernel_rfl, rfl⟩
theorem ag74 : AG Tryd.prog 74 2 := ⟨⟨_, Tryd.underlying74⟩, by kernel_rfl⟩
theorem bd74 : BD Tryd.prog 74 [(.pointer none), (.slice none 0 0)] [(0, 1), (1, 1)] := ⟨Tryd.t74, _, (.agg #[(.pointer none), (.slice none 0 0)]), by kernel_rfl, Tryd.underlying74, by kernel_rfl, rfl, by kernel_rfl⟩
theorem ze74 : ZE Tryd.prog 74 [(.pointer none), (.slice none 0 0)] := ⟨Tryd.t74, (.agg #[(.pointer none), (.slice none 0 0)]), by kernel_rfl, by kernel_rfl, rfl⟩
theorem fa75_0 : FA Tryd.prog 75 0 0 := ⟨_, _, Tryd.t73, Tryd.underlying75, rfl, by kernel_rfl, by kernel_rfl, rfl⟩
theorem fa75_1 : FA Tryd.prog 75 1 1 := ⟨_, _, Tryd.t31, Tryd.underlying75, rfl, by kernel_rfl, by kernel_rfl, rfl⟩
theorem ag75 : AG Tryd.prog 75 2 := ⟨⟨_, Tryd.underlying75⟩, by kernel_rfl⟩
theorem bd75 : BD Tryd.prog 75 [(.pointer none), (.slice none 0 0)] [(0, 1), (1, 1)] := ⟨Tryd.t75, _, (.agg #[(.pointer none), (.slice none 0 0)]), by kernel_rfl, Tryd.underlying75, by kernel_rfl, rfl, by kernel_rfl⟩
theorem ze75 : ZE Tryd.prog 75 [(.pointer none), (.slice none 0 0)] := ⟨Tryd.t75, (.agg #[(.pointer none), (.slice none 0 0)]), by kernel_rfl, by kernel_rfl, rfl⟩
theorem sc83 : ScalarT Tryd.prog 83 := fun w => Tryd.isAgg83 w
theorem so83 : ∃ i, Tryd.prog.info? 83 = some i ∧ i.size = 1 := ⟨Tryd.t83, by kernel_rfl, by kernel_rfl⟩
theorem sc88 : ScalarT Tryd.prog 88 := fun w => Tryd.isAgg88 w
theorem ze88 : ZE Tryd.prog 88 [(.int .i64 0)] := ⟨Tryd.t88, (.int .i64 0), by kernel_rfl, by kernel_rfl, rfl⟩
theorem so88 : ∃ i, Tryd.prog.info? 88 = some i ∧ i.size = 1 := ⟨Tryd.t88, by kernel_rfl, by kernel_rfl⟩
theorem sc89 : ScalarT Tryd.prog 89 := fun w => Tryd.isAgg89 w
theorem ze89 : ZE Tryd.prog 89 [(.int .u64 0)] := ⟨Tryd.t89, (.int .u64 0), by kernel_rfl, by kernel_rfl, rfl⟩
theorem so89 : ∃ i, Tryd.prog.info? 89 = some i ∧ i.size = 1 := ⟨Tryd.t89, by kernel_rfl, by kernel_rfl⟩
theorem sc92 : ScalarT Tryd.prog 92 := fun w => Tryd.isAgg92 w
theorem ze92 : ZE Tryd.prog 92 [(.int .u64 0)] := ⟨Tryd.t92, (.int .u64 0), by kernel_rfl, by kernel_rfl, rfl⟩
theorem so92 : ∃ i, Tryd.prog.info? 92 = some i ∧ i.size = 1 := ⟨Tryd.t92, by kernel_rfl, by kernel_rfl⟩
theorem sc93 : ScalarT Tryd.prog 93 := fun w => Tryd.isAgg93 w
theorem so93 : ∃ i, Tryd.prog.info? 93 = some i ∧ i.size = 1 := ⟨Tryd.t93, by kernel_rfl, by kernel_rfl⟩
theorem fa108_0 : FA Tryd.prog 108 0 0 := ⟨_, _, Tryd.t9, Tryd.underlying108, rfl, by kernel_rfl, by kernel_rfl, rfl⟩
theorem fa108_1 : FA Tryd.prog 108 1 1 := ⟨_, _, Tryd.t9, Tryd.underlying108, rfl, by kernel_rfl, by kernel_rfl, rfl⟩
theorem fa108_2 : FA Tryd.prog 108 2 2 := ⟨_, _, Tryd.t65, Tryd.underlying108, rfl, by kernel_rfl, by kernel_rfl, rfl⟩
theorem ag108 : AG Tryd.prog 108 3 := ⟨⟨_, Tryd.underlying108⟩, by kernel_rfl⟩
theorem bd108 : BD Tryd.prog 108 [(.string ⟨#[]⟩), (.string ⟨#[]⟩), .nilIface] [(0, 1), (1, 1), (2, 1)] := ⟨Tryd.t108, _, (.agg #[(.string ⟨#[]⟩), (.string ⟨#[]⟩), .nilIface]), by kernel_rfl, Tryd.underlying108, by kernel_rfl, rfl, by kernel_rfl⟩
theorem ze108 : ZE Tryd.prog 108 [(.string ⟨#[]⟩), (.string ⟨#[]⟩), .nilIface] := ⟨Tryd.t108, (.agg #[(.string ⟨#[]⟩), (.string ⟨#[]⟩), .nilIface]), by kernel_rfl, by kernel_rfl, rfl⟩
theorem fa109_0 : FA Tryd.prog 109 0 0 := ⟨_, _, Tryd.t9, Tryd.underlying109, rfl, by kernel_rfl, by kernel_rfl, rfl⟩
theorem fa109_1 : FA Tryd.prog 109 1 1 := ⟨_, _, Tryd.t9, Tryd.underlying109, rfl, by kernel_rfl, by kernel_rfl, rfl⟩
theorem fa109_2 : FA Tryd.prog 109 2 2 := ⟨_, _, Tryd.t65, Tryd.underlying109, rfl, by kernel_rfl, by kernel_rfl, rfl⟩
theorem ag109 : AG Tryd.prog 109 3 := ⟨⟨_, Tryd.underlying109⟩, by kernel_rfl⟩
theorem bd109 : BD Tryd.prog 109 [(.string ⟨#[]⟩), (.string ⟨#[]⟩), .nilIface] [(0, 1), (1, 1), (2, 1)] := ⟨Tryd.t109, _, (.agg #[(.string ⟨#[]⟩), (.string ⟨#[]⟩), .nilIface]), by kernel_rfl, Tryd.underlying109, by kernel_rfl, rfl, by kernel_rfl⟩
theorem ze109 : ZE Tryd.prog 109 [(.string ⟨#[]⟩), (.string ⟨#[]⟩), .nilIface] := ⟨Tryd.t109, (.agg #[(.string ⟨#[]⟩), (.string ⟨#[]⟩), .nilIface]), by kernel_rfl, by kernel_rfl, rfl⟩
theorem sc113 : ScalarT Tryd.prog 113 := fun w => Tryd.isAgg113 w
theorem ze113 : ZE Tryd.prog 113 [(.int .u32 0)] := ⟨Tryd.t113, (.int .u32 0), by kernel_rfl, by kernel_rfl, rfl⟩
theorem so113 : ∃ i, Tryd.prog.info? 113 = some i ∧ i.size = 1 := ⟨Tryd.t113, by kernel_rfl, by kernel_rfl⟩
theorem fa118_0 : FA Tryd.prog 118 0 0 := ⟨_, _, Tryd.t5, Tryd.underlying118, rfl, by kernel_rfl, by kernel_rfl, rfl⟩
theorem fa118_1 : FA Tryd.prog 118 1 1 := ⟨_, _, Tryd.t5, Tryd.underlying118, rfl, by kernel_rfl, by kernel_rfl, rfl⟩
theorem ag118 : AG Tryd.prog 118 2 := ⟨⟨_, Tryd.underlying118⟩, by kernel_rfl⟩
theorem bd118 : BD Tryd.prog 118 [(.int .u8 0), (.int .u8 0)] [(0, 1), (1, 1)] := ⟨Tryd.t118, _, (.agg #[(.int .u8 0), (.int .u8 0)]), by kernel_rfl, Tryd.underlying118, by kernel_rfl, rfl, by kernel_rfl⟩
theorem ze118 : ZE Tryd.prog 118 [(.int .u8 0), (.int .u8 0)] := ⟨Tryd.t118, (.agg #[(.int .u8 0), (.int .u8 0)]), by kernel_rfl, by kernel_rfl, rfl⟩
theorem fa119_0 : FA Tryd.prog 119 0 0 := ⟨_, _, Tryd.t5, Tryd.underlying119, rfl, by kernel_rfl, by kernel_rfl, rfl⟩
theorem fa119_1 : FA Tryd.prog 119 1 1 := ⟨_, _, Tryd.t5, Tryd.underlying119, rfl, by kernel_rfl, by kernel_rfl, rfl⟩
theorem ag119 : AG Tryd.prog 119 2 := ⟨⟨_, Tryd.underlying119⟩, by kernel_rfl⟩
theorem bd119 : BD Tryd.prog 119 [(.int .u8 0), (.int .u8 0)] [(0, 1), (1, 1)] := ⟨Tryd.t119, _, (.agg #[(.int .u8 0), (.int .u8 0)]), by kernel_rfl, Tryd.underlying119, by kernel_rfl, rfl, by kernel_rfl⟩
theorem ze119 : ZE Tryd.prog 119 [(.int .u8 0), (.int .u8 0)] := ⟨Tryd.t119, (.agg #[(.int .u8 0), (.int .u8 0)]), by kernel_rfl, by kernel_rfl, rfl⟩
theorem sc123 : ScalarT Tryd.prog 123 := fun w => Tryd.isAgg123 w
theorem so123 : ∃ i, Tryd.prog.info? 123 = some i ∧ i.size = 1 := ⟨Tryd.t123, by kernel_rfl, by kernel_rfl⟩
theorem fa124_0 : FA Tryd.prog 124 0 0 := ⟨_, _, Tryd.t9, Tryd.underlying124, rfl, by kernel_rfl, by kernel_rfl, rfl⟩
theorem ag124 : AG Tryd.prog 124 1 := ⟨⟨_, Tryd.underlying124⟩, by kernel_rfl⟩
theorem bd124 : BD Tryd.prog 124 [(.string ⟨#[]⟩)] [(0, 1)] := ⟨Tryd.t124, _, (.agg #[(.string ⟨#[]⟩)]), by kernel_rfl, Tryd.underlying124, by kernel_rfl, rfl, by kernel_rfl⟩
theorem ze124 : ZE Tryd.prog 124 [(.string ⟨#[]⟩)] := ⟨Tryd.t124, (.agg #[(.string ⟨#[]⟩)]), by kernel_rfl, by kernel_rfl, rfl⟩
theorem fa125_0 : FA Tryd.prog 125 0 0 := ⟨_, _, Tryd.t9, Tryd.underlying125, rfl, by kernel_rfl, by kernel_rfl, rfl⟩
theorem ag125 : AG Tryd.prog 125 1 := ⟨⟨_, Tryd.underlying125⟩, by kernel_rfl⟩
theorem bd125 : BD Tryd.prog 125 [(.string ⟨#[]⟩)] [(0, 1)] := ⟨Tryd.t125, _, (.agg #[(.string ⟨#[]⟩)]), by kernel_rfl, Tryd.underlying125, by kernel_rfl, rfl, by kernel_rfl⟩
theorem ze125 : ZE Tryd.prog 125 [(.string ⟨#[]⟩)] := ⟨Tryd.t125, (.agg #[(.string ⟨#[]⟩)]), by kernel_rfl, by kernel_rfl, rfl⟩
theorem fa129_0 : FA Tryd.prog 129 0 0 := ⟨_, _, Tryd.t17, Tryd.underlying129, rfl, by kernel_rfl, by kernel_rfl, rfl⟩
theorem fa129_1 : FA Tryd.prog 129 1 1 := ⟨_, _, Tryd.t17, Tryd.underlying129, rfl, by kernel_rfl, by kernel_rfl, rfl⟩
theorem fa129_2 : FA Tryd.prog 129 2 2 := ⟨_, _, Tryd.t17, Tryd.underlying129, rfl, by kernel_rfl, by kernel_rfl, rfl⟩
theorem fa129_3 : FA Tryd.prog 129 3 3 := ⟨_, _, Tryd.t9, Tryd.underlying129, rfl, by kernel_rfl, by kernel_rfl, rfl⟩
theorem ag129 : AG Tryd.prog 129 4 := ⟨⟨_, Tryd.underlying129⟩, by kernel_rfl⟩
theorem bd129 : BD Tryd.prog 129 [(.pointer none), (.pointer none), (.pointer none), (.string ⟨#[]⟩)] [(0, 1), (1, 1), (2, 1), (3, 1)] := ⟨Tryd.t129, _, (.agg #[(.pointer none), (.pointer none), (.pointer none), (.string ⟨#[]⟩)]), by kernel_rfl, Tryd.underlying129, by kernel_rfl, rfl, by kernel_rfl⟩
theorem ze129 : ZE Tryd.prog 129 [(.pointer none), (.pointer none), (.pointer none), (.string ⟨#[]⟩)] := ⟨Tryd.t129, (.agg #[(.pointer none), (.pointer none), (.pointer none), (.string ⟨#[]⟩)]), by kernel_rfl, by kernel_rfl, rfl⟩
theorem fa130_0 : FA Tryd.prog 130 0 0 := ⟨_, _, Tryd.t17, Tryd.underlying130, rfl, by kernel_rfl, by kernel_rfl, rfl⟩
theorem fa130_1 : FA Tryd.prog 130 1 1 := ⟨_, _, Tryd.t17, Tryd.underlying130, rfl, by kernel_rfl, by kernel_rfl, rfl⟩
theorem fa130_2 : FA Tryd.prog 130 2 2 := ⟨_, _, Tryd.t17, Tryd.underlying130, rfl, by kernel_rfl, by kernel_rfl, rfl⟩
theorem fa130_3 : FA Tryd.prog 130 3 3 := ⟨_, _, Tryd.t9, Tryd.underlying130, rfl, by kernel_rfl, by kernel_rfl, rfl⟩
theorem ag130 : AG Tryd.prog 130 4 := ⟨⟨_, Tryd.underlying130⟩, by kernel_rfl⟩
theorem bd130 : BD Tryd.prog 130 [(.pointer none), (.pointer none), (.pointer none), (.string ⟨#[]⟩)] [(0, 1), (1, 1), (2, 1), (3, 1)] := ⟨Tryd.t130, _, (.agg #[(.pointer none), (.pointer none), (.pointer none), (.string ⟨#[]⟩)]), by kernel_rfl, Tryd.underlying130, by kernel_rfl, rfl, by kernel_rfl⟩
theorem ze130 : ZE Tryd.prog 130 [(.pointer none), (.pointer none), (.pointer none), (.string ⟨#[]⟩)] := ⟨Tryd.t130, (.agg #[(.pointer none), (.pointer none), (.pointer none), (.string ⟨#[]⟩)]), by kernel_rfl, by kernel_rfl, rfl⟩
theorem ag132 : AG Tryd.prog 132 0 := ⟨⟨_, Tryd.underlying132⟩, by kernel_rfl⟩
theorem ze132 : ZE Tryd.prog 132 [] := ⟨Tryd.t132, (.agg #[]), by kernel_rfl, by kernel_rfl, rfl⟩
theorem ag133 : AG Tryd.prog 133 0 := ⟨⟨_, Tryd.underlying133⟩, by kernel_rfl⟩
theorem ze133 : ZE Tryd.prog 133 [] := ⟨Tryd.t133, (.agg #[]), by kernel_rfl, by kernel_rfl, rfl⟩
theorem sc135 : ScalarT Tryd.prog 135 := fun w => Tryd.isAgg135 w
theorem ze135 : ZE Tryd.prog 135 [(.int .u8 0)] := ⟨Tryd.t135, (.int .u8 0), by kernel_rfl, by kernel_rfl, rfl⟩
theorem so135 : ∃ i, Tryd.prog.info? 135 = some i ∧ i.size = 1 := ⟨Tryd.t135, by kernel_rfl, by kernel_rfl⟩
theorem sc136 : ScalarT Tryd.prog 136 := fun w => Tryd.isAgg136 w
theorem ze136 : ZE Tryd.prog 136 [(.int .u8 0)] := ⟨Tryd.t136, (.int .u8 0), by kernel_rfl, by kernel_rfl, rfl⟩
theorem so136 : ∃ i, Tryd.prog.info? 136 = some i ∧ i.size = 1 := ⟨Tryd.t136, by kernel_rfl, by kernel_rfl⟩
theorem sc138 : ScalarT Tryd.prog 138 := fun w => Tryd.isAgg138 w
theorem ze138 : ZE Tryd.prog 138 [(.int .i32 0)] := ⟨Tryd.t138, (.int .i32 0), by kernel_rfl, by kernel_rfl, rfl⟩
theorem so138 : ∃ i, Tryd.prog.info? 138 = some i ∧ i.size = 1 := ⟨Tryd.t138, by kernel_rfl, by kernel_rfl⟩
theorem sc139 : ScalarT Tryd.prog 139 := fun w => Tryd.isAgg139 w
theorem ze139 : ZE Tryd.prog 139 [(.int .i32 0)] := ⟨Tryd.t139, (.int .i32 0), by kernel_rfl, by kernel_rfl, rfl⟩
theorem so139 : ∃ i, Tryd.prog.info? 139 = some i ∧ i.size = 1 := ⟨Tryd.t139, by kernel_rfl, by kernel_rfl⟩
theorem fa140_0 : FA Tryd.prog 140 0 0 := ⟨_, _, Tryd.t12, Tryd.underlying140, rfl, by kernel_rfl, by kernel_rfl, rfl⟩
theorem fa140_1 : FA Tryd.prog 140 1 1 := ⟨_, _, Tryd.t12, Tryd.underlying140, rfl, by kernel_rfl, by kernel_rfl, rfl⟩
theorem fa140_2 : FA Tryd.prog 140 2 2 := ⟨_, _, Tryd.t113, Tryd.underlying140, rfl, by kernel_rfl, by kernel_rfl, rfl⟩
theorem fa140_3 : FA Tryd.prog 140 3 3 := ⟨_, _, Tryd.t135, Tryd.underlying140, rfl, by kernel_rfl, by kernel_rfl, rfl⟩
theorem fa140_4 : FA Tryd.prog 140 4 4 := ⟨_, _, Tryd.t5, Tryd.underlying140, rfl, by kernel_rfl, by kernel_rfl, rfl⟩
theorem fa140_5 : FA Tryd.prog 140 5 5 := ⟨_, _, Tryd.t5, Tryd.underlying140, rfl, by kernel_rfl, by kernel_rfl, rfl⟩
theorem fa140_6 : FA Tryd.prog 140 6 6 := ⟨_, _, Tryd.t136, Tryd.underlying140, rfl, by kernel_rfl, by kernel_rfl, rfl⟩
theorem fa140_7 : FA Tryd.prog 140 7 7 := ⟨_, _, Tryd.t137, Tryd.underlying140, rfl, by kernel_rfl, by kernel_rfl, rfl⟩
theorem fa140_8 : FA Tryd.prog 140 8 8 := ⟨_, _, Tryd.t83, Tryd.underlying140, rfl, by kernel_rfl, by kernel_rfl, rfl⟩
theorem fa140_9 : FA Tryd.prog 140 9 9 := ⟨_, _, Tryd.t138, Tryd.underlying140, rfl, by kernel_rfl, by kernel_rfl, rfl⟩
theorem fa140_10 : FA Tryd.prog 140 10 10 := ⟨_, _, Tryd.t139, Tryd.underlying140, rfl, by kernel_rfl, by kernel_rfl, rfl⟩
theorem ag140 : AG Tryd.prog 140 11 := ⟨⟨_, Tryd.underlying140⟩, by kernel_rfl⟩
theorem bd140 : BD Tryd.prog 140 [(.int .u64 0), (.int .u64 0), (.int .u32 0), (.int .u8 0), (.int .u8 0), (.int .u8 0), (.int .u8 0), .nilFunc, (.pointer none), (.int .i32 0), (.int .i32 0)] [(0, 1), (1, 1), (2, 1), (3, 1), (4, 1), (5, 1), (6, 1), (7, 1), (8, 1), (9, 1), (10, 1)] := ⟨Tryd.t140, _, (.agg #[(.int .u64 0), (.int .u64 0), (.int .u32 0), (.int .u8 0), (.int .u8 0), (.int .u8 0), (.int .u8 0), .nilFunc, (.pointer none), (.int .i32 0), (.int .i32 0)]), by kernel_rfl, Tryd.underlying140, by kernel_rfl, rfl, by kernel_rfl⟩
theorem ze140 : ZE Tryd.prog 140 [(.int .u64 0), (.int .u64 0), (.int .u32 0), (.int .u8 0), (.int .u8 0), (.int .u8 0), (.int .u8 0), .nilFunc, (.pointer none), (.int .i32 0), (.int .i32 0)] := ⟨Tryd.t140, (.agg #[(.int .u64 0), (.int .u64 0), (.int .u32 0), (.int .u8 0), (.int .u8 0), (.int .u8 0), (.int .u8 0), .nilFunc, (.pointer none), (.int .i32 0), (.int .i32 0)]), by kernel_rfl, by kernel_rfl, rfl⟩
theorem fa141_0 : FA Tryd.prog 141 0 0 := ⟨_, _, Tryd.t12, Tryd.underlying141, rfl, by kernel_rfl, by kernel_rfl, rfl⟩
theorem fa141_1 : FA Tryd.prog 141 1 1 := ⟨_, _, Tryd.t12, Tryd.underlying141, rfl, by kernel_rfl, by kernel_rfl, rfl⟩
theorem fa141_2 : FA Tryd.prog 141 2 2 := ⟨_, _, Tryd.t113, Tryd.underlying141, rfl, by kernel_rfl, by kernel_rfl, rfl⟩
theorem fa141_3 : FA Tryd.prog 141 3 3 := ⟨_, _, Tryd.t135, Tryd.underlying141, rfl, by kernel_rfl, by kernel_rfl, rfl⟩
theorem fa141_4 : FA Tryd.prog 141 4 4 := ⟨_, _, Tryd.t5, Tryd.underlying141, rfl, by kernel_rfl, by kernel_rfl, rfl⟩
theorem fa141_5 : FA Tryd.prog 141 5 5 := ⟨_, _, Tryd.t5, Tryd.underlying141, rfl, by kernel_rfl, by kernel_rfl, rfl⟩
theorem fa141_6 : FA Tryd.prog 141 6 6 := ⟨_, _, Tryd.t136, Tryd.underlying141, rfl, by kernel_rfl, by kernel_rfl, rfl⟩
theorem fa141_7 : FA Tryd.prog 141 7 7 := ⟨_, _, Tryd.t137, Tryd.underlying141, rfl, by kernel_rfl, by kernel_rfl, rfl⟩
theorem fa141_8 : FA Tryd.prog 141 8 8 := ⟨_, _, Tryd.t83, Tryd.underlying141, rfl, by kernel_rfl, by kernel_rfl, rfl⟩
theorem fa141_9 : FA Tryd.prog 141 9 9 := ⟨_, _, Tryd.t138, Tryd.underlying141, rfl, by kernel_rfl, by kernel_rfl, rfl⟩
theorem fa141_10 : FA Tryd.prog 141 10 10 := ⟨_, _, Tryd.t139, Tryd.underlying141, rfl, by kernel_rfl, by kernel_rfl, rfl⟩
theorem ag141 : AG Tryd.prog 141 11 := ⟨⟨_, Tryd.underlying141⟩, by kernel_rfl⟩
theorem bd141 : BD Tryd.prog 141 [(.int .u64 0), (.int .u64 0), (.int .u32 0), (.int .u8 0), (.int .u8 0), (.int .u8 0), (.int .u8 0), .nilFunc, (.pointer none), (.int .i32 0), (.int .i32 0)] [(0, 1), (1, 1), (2, 1), (3, 1), (4, 1), (5, 1), (6, 1), (7, 1), (8, 1), (9, 1), (10, 1)] := ⟨Tryd.t141, _, (.agg #[(.int .u64 0), (.int .u64 0), (.int .u32 0), (.int .u8 0), (.int .u8 0), (.int .u8 0), (.int .u8 0), .nilFunc, (.pointer none), (.int .i32 0), (.int .i32 0)]), by kernel_rfl, Tryd.underlying141, by kernel_rfl, rfl, by kernel_rfl⟩
theorem ze141 : ZE Tryd.prog 141 [(.int .u64 0), (.int .u64 0), (.int .u32 0), (.int .u8 0), (.int .u8 0), (.int .u8 0), (.int .u8 0), .nilFunc, (.pointer none), (.int .i32 0), (.int .i32 0)] := ⟨Tryd.t141, (.agg #[(.int .u64 0), (.int .u64 0), (.int .u32 0), (.int .u8 0), (.int .u8 0), (.int .u8 0), (.int .u8 0), .nilFunc, (.pointer none), (.int .i32 0), (.int .i32 0)]), by kernel_rfl, by kernel_rfl, rfl⟩
end Go.Proofs.YtebegkegkdmbjaaDoor
