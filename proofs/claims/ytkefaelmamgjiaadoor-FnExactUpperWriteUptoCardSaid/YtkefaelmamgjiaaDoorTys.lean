/- The closed facts on the types of this translation, printed by a small program. -/
import Derived.Test.YtkefaelmamgjiaaDoorEng4
import Derived.Test.YtkefaelmamgjiaaDoorProg
namespace Go.Proofs.YtkefaelmamgjiaaDoor
open Go.RowKit
theorem ty2 : TyF Tryd.prog 2 false 1 8 (.int .i64 0) := ⟨by kernel_rfl, by kernel_rfl, by kernel_rfl⟩
theorem ty3 : TyF Tryd.prog 3 false 1 8 (.int .i64 0) := ⟨by kernel_rfl, by kernel_rfl, by kernel_rfl⟩
theorem ty4 : TyF Tryd.prog 4 false 1 1 (.bool false) := ⟨by kernel_rfl, by kernel_rfl, by kernel_rfl⟩
theorem ty5 : TyF Tryd.prog 5 false 1 1 (.int .u8 0) := ⟨by kernel_rfl, by kernel_rfl, by kernel_rfl⟩
theorem ty6 : TyF Tryd.prog 6 false 1 1 (.int .u8 0) := ⟨by kernel_rfl, by kernel_rfl, by kernel_rfl⟩
theorem ty7 : TyF Tryd.prog 7 true 4 24 (.agg #[.int .i64 0, .int .i64 0, .bool false, .int .u8 0]) := ⟨by kernel_rfl, by kernel_rfl, by kernel_rfl⟩
theorem fo7_0 : fieldOff Tryd.prog 7 0 = some 0 := by kernel_rfl
theorem fo7_1 : fieldOff Tryd.prog 7 1 = some 1 := by kernel_rfl
theorem fo7_2 : fieldOff Tryd.prog 7 2 = some 2 := by kernel_rfl
theorem fo7_3 : fieldOff Tryd.prog 7 3 = some 3 := by kernel_rfl
theorem st7 : StF Tryd.prog 7 [(0, 1), (1, 1), (2, 1), (3, 1)] := ⟨_, Tryd.underlying7, fun w => by kernel_rfl⟩
theorem ty8 : TyF Tryd.prog 8 true 4 24 (.agg #[.int .i64 0, .int .i64 0, .bool false, .int .u8 0]) := ⟨by kernel_rfl, by kernel_rfl, by kernel_rfl⟩
theorem fo8_0 : fieldOff Tryd.prog 8 0 = some 0 := by kernel_rfl
theorem fo8_1 : fieldOff Tryd.prog 8 1 = some 1 := by kernel_rfl
theorem fo8_2 : fieldOff Tryd.prog 8 2 = some 2 := by kernel_rfl
theorem fo8_3 : fieldOff Tryd.prog 8 3 = some 3 := by kernel_rfl
theorem st8 : StF Tryd.prog 8 [(0, 1), (1, 1), (2, 1), (3, 1)] := ⟨_, Tryd.underlying8, fun w => by kernel_rfl⟩
theorem ty9 : TyF Tryd.prog 9 false 1 16 (.string ⟨#[]⟩) := ⟨by kernel_rfl, by kernel_rfl, by kernel_rfl⟩
theorem ty10 : TyF Tryd.prog 10 false 1 16 (.string ⟨#[]⟩) := ⟨by kernel_rfl, by kernel_rfl, by kernel_rfl⟩
theorem ty11 : TyF Tryd.prog 11 false 1 16 (.string ⟨#[]⟩) := ⟨by kernel_rfl, by kernel_rfl, by kernel_rfl⟩
theorem ty12 : TyF Tryd.prog 12 false 1 8 (.int .u64 0) := ⟨by kernel_rfl, by kernel_rfl, by kernel_rfl⟩
theorem ty13 : TyF Tryd.prog 13 true 2 24 (.agg #[.string ⟨#[]⟩, .int .u64 0]) := ⟨by kernel_rfl, by kernel_rfl, by kernel_rfl⟩
theorem fo13_0 : fieldOff Tryd.prog 13 0 = some 0 := by kernel_rfl
theorem fo13_1 : fieldOff Tryd.prog 13 1 = some 1 := by kernel_rfl
theorem st13 : StF Tryd.prog 13 [(0, 1), (1, 1)] := ⟨_, Tryd.underlying13, fun w => by kernel_rfl⟩
theorem ty14 : TyF Tryd.prog 14 true 2 24 (.agg #[.string ⟨#[]⟩, .int .u64 0]) := ⟨by kernel_rfl, by kernel_rfl, by kernel_rfl⟩
theorem fo14_0 : fieldOff Tryd.prog 14 0 = some 0 := by kernel_rfl
theorem fo14_1 : fieldOff Tryd.prog 14 1 = some 1 := by kernel_rfl
theorem st14 : StF Tryd.prog 14 [(0, 1), (1, 1)] := ⟨_, Tryd.underlying14, fun w => by kernel_rfl⟩
theorem ty15 : TyF Tryd.prog 15 false 1 8 (.pointer none) := ⟨by kernel_rfl, by kernel_rfl, by kernel_rfl⟩
theorem ty16 : TyF Tryd.prog 16 false 1 8 (.pointer none) := ⟨by kernel_rfl, by kernel_rfl, by kernel_rfl⟩
theorem ty17 : TyF Tryd.prog 17 false 1 8 (.pointer none) := ⟨by kernel_rfl, by kernel_rfl, by kernel_rfl⟩
theorem ty18 : TyF Tryd.prog 18 true 1 8 (.agg #[.pointer none]) := ⟨by kernel_rfl, by kernel_rfl, by kernel_rfl⟩
theorem fo18_0 : fieldOff Tryd.prog 18 0 = some 0 := by kernel_rfl
theorem st18 : StF Tryd.prog 18 [(0, 1)] := ⟨_, Tryd.underlying18, fun w => by kernel_rfl⟩
theorem ty19 : TyF Tryd.prog 19 true 1 8 (.agg #[.pointer none]) := ⟨by kernel_rfl, by kernel_rfl, by kernel_rfl⟩
theorem fo19_0 : fieldOff Tryd.prog 19 0 = some 0 := by kernel_rfl
theorem st19 : StF Tryd.prog 19 [(0, 1)] := ⟨_, Tryd.underlying19, fun w => by kernel_rfl⟩
theorem ty21 : TyF Tryd.prog 21 false 1 4 (.int .i32 0) := ⟨by kernel_rfl, by kernel_rfl, by kernel_rfl⟩
theorem ty22 : TyF Tryd.prog 22 false 1 24 (.slice none 0 0) := ⟨by kernel_rfl, by kernel_rfl, by kernel_rfl⟩
theorem ty23 : TyF Tryd.prog 23 false 1 24 (.slice none 0 0) := ⟨by kernel_rfl, by kernel_rfl, by kernel_rfl⟩
theorem ty24 : TyF Tryd.prog 24 true 2 48 (.agg #[.slice none 0 0, .slice none 0 0]) := ⟨by kernel_rfl, by kernel_rfl, by kernel_rfl⟩
theorem fo24_0 : fieldOff Tryd.prog 24 0 = some 0 := by kernel_rfl
theorem fo24_1 : fieldOff Tryd.prog 24 1 = some 1 := by kernel_rfl
theorem st24 : StF Tryd.prog 24 [(0, 1), (1, 1)] := ⟨_, Tryd.underlying24, fun w => by kernel_rfl⟩
theorem ty25 : TyF Tryd.prog 25 true 2 48 (.agg #[.slice none 0 0, .slice none 0 0]) := ⟨by kernel_rfl, by kernel_rfl, by kernel_rfl⟩
theorem fo25_0 : fieldOff Tryd.prog 25 0 = some 0 := by kernel_rfl
theorem fo25_1 : fieldOff Tryd.prog 25 1 = some 1 := by kernel_rfl
theorem st25 : StF Tryd.prog 25 [(0, 1), (1, 1)] := ⟨_, Tryd.underlying25, fun w => by kernel_rfl⟩
theorem ty28 : TyF Tryd.prog 28 false 1 24 (.slice none 0 0) := ⟨by kernel_rfl, by kernel_rfl, by kernel_rfl⟩
theorem ty29 : TyF Tryd.prog 29 true 2 48 (.agg #[.slice none 0 0, .slice none 0 0]) := ⟨by kernel_rfl, by kernel_rfl, by kernel_rfl⟩
theorem fo29_0 : fieldOff Tryd.prog 29 0 = some 0 := by kernel_rfl
theorem fo29_1 : fieldOff Tryd.prog 29 1 = some 1 := by kernel_rfl
theorem st29 : StF Tryd.prog 29 [(0, 1), (1, 1)] := ⟨_, Tryd.underlying29, fun w => by kernel_rfl⟩
theorem ty30 : TyF Tryd.prog 30 true 2 48 (.agg #[.slice none 0 0, .slice none 0 0]) := ⟨by kernel_rfl, by kernel_rfl, by kernel_rfl⟩
theorem fo30_0 : fieldOff Tryd.prog 30 0 = some 0 := by kernel_rfl
theorem fo30_1 : fieldOff Tryd.prog 30 1 = some 1 := by kernel_rfl
theorem st30 : StF Tryd.prog 30 [(0, 1), (1, 1)] := ⟨_, Tryd.underlying30, fun w => by kernel_rfl⟩
theorem ty37 : TyF Tryd.prog 37 false 1 24 (.slice none 0 0) := ⟨by kernel_rfl, by kernel_rfl, by kernel_rfl⟩
theorem ty39 : TyF Tryd.prog 39 true 5 64 (.agg #[.slice none 0 0, .int .i64 0, .bool false, .int .i64 0, .string ⟨#[]⟩]) := ⟨by kernel_rfl, by kernel_rfl, by kernel_rfl⟩
theorem fo39_0 : fieldOff Tryd.prog 39 0 = some 0 := by kernel_rfl
theorem fo39_1 : fieldOff Tryd.prog 39 1 = some 1 := by kernel_rfl
theorem fo39_2 : fieldOff Tryd.prog 39 2 = some 2 := by kernel_rfl
theorem fo39_3 : fieldOff Tryd.prog 39 3 = some 3 := by kernel_rfl
theorem fo39_4 : fieldOff Tryd.prog 39 4 = some 4 := by kernel_rfl
theorem st39 : StF Tryd.prog 39 [(0, 1), (1, 1), (2, 1), (3, 1), (4, 1)] := ⟨_, Tryd.underlying39, fun w => by kernel_rfl⟩
theorem ty40 : TyF Tryd.prog 40 true 5 64 (.agg #[.slice none 0 0, .int .i64 0, .bool false, .int .i64 0, .string ⟨#[]⟩]) := ⟨by kernel_rfl, by kernel_rfl, by kernel_rfl⟩
theorem fo40_0 : fieldOff Tryd.prog 40 0 = some 0 := by kernel_rfl
theorem fo40_1 : fieldOff Tryd.prog 40 1 = some 1 := by kernel_rfl
theorem fo40_2 : fieldOff Tryd.prog 40 2 = some 2 := by kernel_rfl
theorem fo40_3 : fieldOff Tryd.prog 40 3 = some 3 := by kernel_rfl
theorem fo40_4 : fieldOff Tryd.prog 40 4 = some 4 := by kernel_rfl
theorem st40 : StF Tryd.prog 40 [(0, 1), (1, 1), (2, 1), (3, 1), (4, 1)] := ⟨_, Tryd.underlying40, fun w => by kernel_rfl⟩
theorem ty44 : TyF Tryd.prog 44 false 1 24 (.slice none 0 0) := ⟨by kernel_rfl, by kernel_rfl, by kernel_rfl⟩
theorem ty45 : TyF Tryd.prog 45 true 5 80 (.agg #[.bool false, .int .i64 0, .string ⟨#[]⟩, .slice none 0 0, .slice none 0 0]) := ⟨by kernel_rfl, by kernel_rfl, by kernel_rfl⟩
theorem fo45_0 : fieldOff Tryd.prog 45 0 = some 0 := by kernel_rfl
theorem fo45_1 : fieldOff Tryd.prog 45 1 = some 1 := by kernel_rfl
theorem fo45_2 : fieldOff Tryd.prog 45 2 = some 2 := by kernel_rfl
theorem fo45_3 : fieldOff Tryd.prog 45 3 = some 3 := by kernel_rfl
theorem fo45_4 : fieldOff Tryd.prog 45 4 = some 4 := by kernel_rfl
theorem st45 : StF Tryd.prog 45 [(0, 1), (1, 1), (2, 1), (3, 1), (4, 1)] := ⟨_, Tryd.underlying45, fun w => by kernel_rfl⟩
theorem ty46 : TyF Tryd.prog 46 true 5 80 (.agg #[.bool false, .int .i64 0, .string ⟨#[]⟩, .slice none 0 0, .slice none 0 0]) := ⟨by kernel_rfl, by kernel_rfl, by kernel_rfl⟩
theorem fo46_0 : fieldOff Tryd.prog 46 0 = some 0 := by kernel_rfl
theorem fo46_1 : fieldOff Tryd.prog 46 1 = some 1 := by kernel_rfl
theorem fo46_2 : fieldOff Tryd.prog 46 2 = some 2 := by kernel_rfl
theorem fo46_3 : fieldOff Tryd.prog 46 3 = some 3 := by kernel_rfl
theorem fo46_4 : fieldOff Tryd.prog 46 4 = some 4 := by kernel_rfl
theorem st46 : StF Tryd.prog 46 [(0, 1), (1, 1), (2, 1), (3, 1), (4, 1)] := ⟨_, Tryd.underlying46, fun w => by kernel_rfl⟩
theorem ty49 : TyF Tryd.prog 49 false 1 8 (.pointer none) := ⟨by kernel_rfl, by kernel_rfl, by kernel_rfl⟩
theorem ty50 : TyF Tryd.prog 50 false 1 24 (.slice none 0 0) := ⟨by kernel_rfl, by kernel_rfl, by kernel_rfl⟩
theorem ty51 : TyF Tryd.prog 51 true 2 32 (.agg #[.pointer none, .slice none 0 0]) := ⟨by kernel_rfl, by kernel_rfl, by kernel_rfl⟩
theorem fo51_0 : fieldOff Tryd.prog 51 0 = some 0 := by kernel_rfl
theorem fo51_1 : fieldOff Tryd.prog 51 1 = some 1 := by kernel_rfl
theorem st51 : StF Tryd.prog 51 [(0, 1), (1, 1)] := ⟨_, Tryd.underlying51, fun w => by kernel_rfl⟩
theorem ty52 : TyF Tryd.prog 52 true 2 32 (.agg #[.pointer none, .slice none 0 0]) := ⟨by kernel_rfl, by kernel_rfl, by kernel_rfl⟩
theorem fo52_0 : fieldOff Tryd.prog 52 0 = some 0 := by kernel_rfl
theorem fo52_1 : fieldOff Tryd.prog 52 1 = some 1 := by kernel_rfl
theorem st52 : StF Tryd.prog 52 [(0, 1), (1, 1)] := ⟨_, Tryd.underlying52, fun w => by kernel_rfl⟩
theorem ty65 : TyF Tryd.prog 65 true 5 64 (.agg #[.slice none 0 0, .int .i64 0, .bool false, .int .i64 0, .string ⟨#[]⟩]) := ⟨by kernel_rfl, by kernel_rfl, by kernel_rfl⟩
theorem fo65_0 : fieldOff Tryd.prog 65 0 = some 0 := by kernel_rfl
theorem fo65_1 : fieldOff Tryd.prog 65 1 = some 1 := by kernel_rfl
theorem fo65_2 : fieldOff Tryd.prog 65 2 = some 2 := by kernel_rfl
theorem fo65_3 : fieldOff Tryd.prog 65 3 = some 3 := by kernel_rfl
theorem fo65_4 : fieldOff Tryd.prog 65 4 = some 4 := by kernel_rfl
theorem st65 : StF Tryd.prog 65 [(0, 1), (1, 1), (2, 1), (3, 1), (4, 1)] := ⟨_, Tryd.underlying65, fun w => by kernel_rfl⟩
theorem ty72 : TyF Tryd.prog 72 false 1 8 (.pointer none) := ⟨by kernel_rfl, by kernel_rfl, by kernel_rfl⟩
theorem ty80 : TyF Tryd.prog 80 true 24 24 (.agg #[.int .u8 0, .int .u8 0, .int .u8 0, .int .u8 0, .int .u8 0, .int .u8 0, .int .u8 0, .int .u8 0, .int .u8 0, .int .u8 0, .int .u8 0, .int .u8 0, .int .u8 0, .int .u8 0, .int .u8 0, .int .u8 0, .int .u8 0, .int .u8 0, .int .u8 0, .int .u8 0, .int .u8 0, .int .u8 0, .int .u8 0, .int .u8 0]) := ⟨by kernel_rfl, by kernel_rfl, by kernel_rfl⟩
theorem ty81 : TyF Tryd.prog 81 false 1 8 (.int .u64 0) := ⟨by kernel_rfl, by kernel_rfl, by kernel_rfl⟩
theorem ty88 : TyF Tryd.prog 88 true 20 160 (.agg #[.int .u64 0, .int .u64 0, .int .u64 0, .int .u64 0, .int .u64 0, .int .u64 0, .int .u64 0, .int .u64 0, .int .u64 0, .int .u64 0, .int .u64 0, .int .u64 0, .int .u64 0, .int .u64 0, .int .u64 0, .int .u64 0, .int .u64 0, .int .u64 0, .int .u64 0, .int .u64 0]) := ⟨by kernel_rfl, by kernel_rfl, by kernel_rfl⟩
theorem ty89 : TyF Tryd.prog 89 false 1 4 (.int .u32 0) := ⟨by kernel_rfl, by kernel_rfl, by kernel_rfl⟩
theorem ty90 : TyF Tryd.prog 90 true 65 65 (.agg #[.int .u8 0, .int .u8 0, .int .u8 0, .int .u8 0, .int .u8 0, .int .u8 0, .int .u8 0, .int .u8 0, .int .u8 0, .int .u8 0, .int .u8 0, .int .u8 0, .int .u8 0, .int .u8 0, .int .u8 0, .int .u8 0, .int .u8 0, .int .u8 0, .int .u8 0, .int .u8 0, .int .u8 0, .int .u8 0, .int .u8 0, .int .u8 0, .int .u8 0, .int .u8 0, .int .u8 0, .int .u8 0, .int .u8 0, .int .u8 0, .int .u8 0, .int .u8 0, .int .u8 0, .int .u8 0, .int .u8 0, .int .u8 0, .int .u8 0, .int .u8 0, .int .u8 0, .int .u8 0, .int .u8 0, .int .u8 0, .int .u8 0, .int .u8 0, .int .u8 0, .int .u8 0, .int .u8 0, .int .u8 0, .int .u8 0, .int .u8 0, .int .u8 0, .int .u8 0, .int .u8 0, .int .u8 0, .int .u8 0, .int .u8 0, .int .u8 0, .int .u8 0, .int .u8 0, .int .u8 0, .int .u8 0, .int .u8 0, .int .u8 0, .int .u8 0, .int .u8 0]) := ⟨by kernel_rfl, by kernel_rfl, by kernel_rfl⟩
theorem ty91 : TyF Tryd.prog 91 false 1 8 (.int .u64 0) := ⟨by kernel_rfl, by kernel_rfl, by kernel_rfl⟩
theorem ty94 : TyF Tryd.prog 94 true 32 32 (.agg #[.int .u8 0, .int .u8 0, .int .u8 0, .int .u8 0, .int .u8 0, .int .u8 0, .int .u8 0, .int .u8 0, .int .u8 0, .int .u8 0, .int .u8 0, .int .u8 0, .int .u8 0, .int .u8 0, .int .u8 0, .int .u8 0, .int .u8 0, .int .u8 0, .int .u8 0, .int .u8 0, .int .u8 0, .int .u8 0, .int .u8 0, .int .u8 0, .int .u8 0, .int .u8 0, .int .u8 0, .int .u8 0, .int .u8 0, .int .u8 0, .int .u8 0, .int .u8 0]) := ⟨by kernel_rfl, by kernel_rfl, by kernel_rfl⟩
theorem ty95 : TyF Tryd.prog 95 true 64 64 (.agg #[.int .u8 0, .int .u8 0, .int .u8 0, .int .u8 0, .int .u8 0, .int .u8 0, .int .u8 0, .int .u8 0, .int .u8 0, .int .u8 0, .int .u8 0, .int .u8 0, .int .u8 0, .int .u8 0, .int .u8 0, .int .u8 0, .int .u8 0, .int .u8 0, .int .u8 0, .int .u8 0, .int .u8 0, .int .u8 0, .int .u8 0, .int .u8 0, .int .u8 0, .int .u8 0, .int .u8 0, .int .u8 0, .int .u8 0, .int .u8 0, .int .u8 0, .int .u8 0, .int .u8 0, .int .u8 0, .int .u8 0, .int .u8 0, .int .u8 0, .int .u8 0, .int .u8 0, .int .u8 0, .int .u8 0, .int .u8 0, .int .u8 0, .int .u8 0, .int .u8 0, .int .u8 0, .int .u8 0, .int .u8 0, .int .u8 0, .int .u8 0, .int .u8 0, .int .u8 0, .int .u8 0, .int .u8 0, .int .u8 0, .int .u8 0, .int .u8 0, .int .u8 0, .int .u8 0, .int .u8 0, .int .u8 0, .int .u8 0, .int .u8 0, .int .u8 0]) := ⟨by kernel_rfl, by kernel_rfl, by kernel_rfl⟩
theorem ty96 : TyF Tryd.prog 96 true 4 40 (.agg #[.pointer none, .pointer none, .pointer none, .string ⟨#[]⟩]) := ⟨by kernel_rfl, by kernel_rfl, by kernel_rfl⟩
theorem fo96_0 : fieldOff Tryd.prog 96 0 = some 0 := by kernel_rfl
theorem fo96_1 : fieldOff Tryd.prog 96 1 = some 1 := by kernel_rfl
theorem fo96_2 : fieldOff Tryd.prog 96 2 = some 2 := by kernel_rfl
theorem fo96_3 : fieldOff Tryd.prog 96 3 = some 3 := by kernel_rfl
theorem st96 : StF Tryd.prog 96 [(0, 1), (1, 1), (2, 1), (3, 1)] := ⟨_, Tryd.underlying96, fun w => by kernel_rfl⟩
theorem ty97 : TyF Tryd.prog 97 true 4 40 (.agg #[.pointer none, .pointer none, .pointer none, .string ⟨#[]⟩]) := ⟨by kernel_rfl, by kernel_rfl, by kernel_rfl⟩
theorem fo97_0 : fieldOff Tryd.prog 97 0 = some 0 := by kernel_rfl
theorem fo97_1 : fieldOff Tryd.prog 97 1 = some 1 := by kernel_rfl
theorem fo97_2 : fieldOff Tryd.prog 97 2 = some 2 := by kernel_rfl
theorem fo97_3 : fieldOff Tryd.prog 97 3 = some 3 := by kernel_rfl
theorem st97 : StF Tryd.prog 97 [(0, 1), (1, 1), (2, 1), (3, 1)] := ⟨_, Tryd.underlying97, fun w => by kernel_rfl⟩
theorem ty98 : TyF Tryd.prog 98 true 0 0 (.agg #[]) := ⟨by kernel_rfl, by kernel_rfl, by kernel_rfl⟩
theorem ty99 : TyF Tryd.prog 99 true 0 0 (.agg #[]) := ⟨by kernel_rfl, by kernel_rfl, by kernel_rfl⟩
theorem st99 : StF Tryd.prog 99 [(0, 0)] := ⟨_, Tryd.underlying99, fun w => by kernel_rfl⟩
theorem ty100 : TyF Tryd.prog 100 true 0 0 (.agg #[]) := ⟨by kernel_rfl, by kernel_rfl, by kernel_rfl⟩
theorem st100 : StF Tryd.prog 100 [(0, 0)] := ⟨_, Tryd.underlying100, fun w => by kernel_rfl⟩
theorem ty101 : TyF Tryd.prog 101 false 1 1 (.int .u8 0) := ⟨by kernel_rfl, by kernel_rfl, by kernel_rfl⟩
theorem ty102 : TyF Tryd.prog 102 false 1 1 (.int .u8 0) := ⟨by kernel_rfl, by kernel_rfl, by kernel_rfl⟩
theorem ty104 : TyF Tryd.prog 104 false 1 4 (.int .i32 0) := ⟨by kernel_rfl, by kernel_rfl, by kernel_rfl⟩
theorem ty105 : TyF Tryd.prog 105 false 1 4 (.int .i32 0) := ⟨by kernel_rfl, by kernel_rfl, by kernel_rfl⟩
theorem ty106 : TyF Tryd.prog 106 true 11 48 (.agg #[.int .u64 0, .int .u64 0, .int .u32 0, .int .u8 0, .int .u8 0, .int .u8 0, .int .u8 0, .nilFunc, .pointer none, .int .i32 0, .int .i32 0]) := ⟨by kernel_rfl, by kernel_rfl, by kernel_rfl⟩
theorem fo106_0 : fieldOff Tryd.prog 106 0 = some 0 := by kernel_rfl
theorem fo106_1 : fieldOff Tryd.prog 106 1 = some 1 := by kernel_rfl
theorem fo106_2 : fieldOff Tryd.prog 106 2 = some 2 := by kernel_rfl
theorem fo106_3 : fieldOff Tryd.prog 106 3 = some 3 := by kernel_rfl
theorem fo106_4 : fieldOff Tryd.prog 106 4 = some 4 := by kernel_rfl
theorem fo106_5 : fieldOff Tryd.prog 106 5 = some 5 := by kernel_rfl
theorem fo106_6 : fieldOff Tryd.prog 106 6 = some 6 := by kernel_rfl
theorem fo106_7 : fieldOff Tryd.prog 106 7 = some 7 := by kernel_rfl
theorem fo106_8 : fieldOff Tryd.prog 106 8 = some 8 := by kernel_rfl
theorem fo106_9 : fieldOff Tryd.prog 106 9 = some 9 := by kernel_rfl
theorem fo106_10 : fieldOff Tryd.prog 106 10 = some 10 := by kernel_rfl
theorem st106 : StF Tryd.prog 106 [(0, 1), (1, 1), (2, 1), (3, 1), (4, 1), (5, 1), (6, 1), (7, 1), (8, 1), (9, 1), (10, 1)] := ⟨_, Tryd.underlying106, fun w => by kernel_rfl⟩
theorem ty107 : TyF Tryd.prog 107 true 11 48 (.agg #[.int .u64 0, .int .u64 0, .int .u32 0, .int .u8 0, .int .u8 0, .int .u8 0, .int .u8 0, .nilFunc, .pointer none, .int .i32 0, .int .i32 0]) := ⟨by kernel_rfl, by kernel_rfl, by kernel_rfl⟩
theorem fo107_0 : fieldOff Tryd.prog 107 0 = some 0 := by kernel_rfl
theorem fo107_1 : fieldOff Tryd.prog 107 1 = some 1 := by kernel_rfl
theorem fo107_2 : fieldOff Tryd.prog 107 2 = some 2 := by kernel_rfl
theorem fo107_3 : fieldOff Tryd.prog 107 3 = some 3 := by kernel_rfl
theorem fo107_4 : fieldOff Tryd.prog 107 4 = some 4 := by kernel_rfl
theorem fo107_5 : fieldOff Tryd.prog 107 5 = some 5 := by kernel_rfl
theorem fo107_6 : fieldOff Tryd.prog 107 6 = some 6 := by kernel_rfl
theorem fo107_7 : fieldOff Tryd.prog 107 7 = some 7 := by kernel_rfl
theorem fo107_8 : fieldOff Tryd.prog 107 8 = some 8 := by kernel_rfl
theorem fo107_9 : fieldOff Tryd.prog 107 9 = some 9 := by kernel_rfl
theorem fo107_10 : fieldOff Tryd.prog 107 10 = some 10 := by kernel_rfl
theorem st107 : StF Tryd.prog 107 [(0, 1), (1, 1), (2, 1), (3, 1), (4, 1), (5, 1), (6, 1), (7, 1), (8, 1), (9, 1), (10, 1)] := ⟨_, Tryd.underlying107, fun w => by kernel_rfl⟩
theorem mixed : Tryd.prog.follows .mixedOrders = true := by kernel_rfl
end Go.Proofs.YtkefaelmamgjiaaDoor
