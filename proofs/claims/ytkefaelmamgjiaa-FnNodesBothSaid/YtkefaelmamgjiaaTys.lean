/- The closed facts on the types of this translation, printed by a small program. -/
import Derived.Test.YtkefaelmamgjiaaEng4
import Derived.Test.YtkefaelmamgjiaaProg
namespace Go.Proofs.Ytkefaelmamgjiaa
open Go.RowKit
theorem ty2 : TyF Try.prog 2 false 1 8 (.int .i64 0) := ⟨by kernel_rfl, by kernel_rfl, by kernel_rfl⟩
theorem ty3 : TyF Try.prog 3 false 1 8 (.int .i64 0) := ⟨by kernel_rfl, by kernel_rfl, by kernel_rfl⟩
theorem ty4 : TyF Try.prog 4 false 1 1 (.bool false) := ⟨by kernel_rfl, by kernel_rfl, by kernel_rfl⟩
theorem ty5 : TyF Try.prog 5 false 1 1 (.int .u8 0) := ⟨by kernel_rfl, by kernel_rfl, by kernel_rfl⟩
theorem ty6 : TyF Try.prog 6 false 1 1 (.int .u8 0) := ⟨by kernel_rfl, by kernel_rfl, by kernel_rfl⟩
theorem ty7 : TyF Try.prog 7 true 4 24 (.agg #[.int .i64 0, .int .i64 0, .bool false, .int .u8 0]) := ⟨by kernel_rfl, by kernel_rfl, by kernel_rfl⟩
theorem fo7_0 : fieldOff Try.prog 7 0 = some 0 := by kernel_rfl
theorem fo7_1 : fieldOff Try.prog 7 1 = some 1 := by kernel_rfl
theorem fo7_2 : fieldOff Try.prog 7 2 = some 2 := by kernel_rfl
theorem fo7_3 : fieldOff Try.prog 7 3 = some 3 := by kernel_rfl
theorem st7 : StF Try.prog 7 [(0, 1), (1, 1), (2, 1), (3, 1)] := ⟨_, Try.underlying7, fun w => by kernel_rfl⟩
theorem ty8 : TyF Try.prog 8 true 4 24 (.agg #[.int .i64 0, .int .i64 0, .bool false, .int .u8 0]) := ⟨by kernel_rfl, by kernel_rfl, by kernel_rfl⟩
theorem fo8_0 : fieldOff Try.prog 8 0 = some 0 := by kernel_rfl
theorem fo8_1 : fieldOff Try.prog 8 1 = some 1 := by kernel_rfl
theorem fo8_2 : fieldOff Try.prog 8 2 = some 2 := by kernel_rfl
theorem fo8_3 : fieldOff Try.prog 8 3 = some 3 := by kernel_rfl
theorem st8 : StF Try.prog 8 [(0, 1), (1, 1), (2, 1), (3, 1)] := ⟨_, Try.underlying8, fun w => by kernel_rfl⟩
theorem ty9 : TyF Try.prog 9 false 1 16 (.string ⟨#[]⟩) := ⟨by kernel_rfl, by kernel_rfl, by kernel_rfl⟩
theorem ty10 : TyF Try.prog 10 false 1 16 (.string ⟨#[]⟩) := ⟨by kernel_rfl, by kernel_rfl, by kernel_rfl⟩
theorem ty11 : TyF Try.prog 11 false 1 16 (.string ⟨#[]⟩) := ⟨by kernel_rfl, by kernel_rfl, by kernel_rfl⟩
theorem ty12 : TyF Try.prog 12 false 1 8 (.int .u64 0) := ⟨by kernel_rfl, by kernel_rfl, by kernel_rfl⟩
theorem ty13 : TyF Try.prog 13 true 2 24 (.agg #[.string ⟨#[]⟩, .int .u64 0]) := ⟨by kernel_rfl, by kernel_rfl, by kernel_rfl⟩
theorem fo13_0 : fieldOff Try.prog 13 0 = some 0 := by kernel_rfl
theorem fo13_1 : fieldOff Try.prog 13 1 = some 1 := by kernel_rfl
theorem st13 : StF Try.prog 13 [(0, 1), (1, 1)] := ⟨_, Try.underlying13, fun w => by kernel_rfl⟩
theorem ty14 : TyF Try.prog 14 true 2 24 (.agg #[.string ⟨#[]⟩, .int .u64 0]) := ⟨by kernel_rfl, by kernel_rfl, by kernel_rfl⟩
theorem fo14_0 : fieldOff Try.prog 14 0 = some 0 := by kernel_rfl
theorem fo14_1 : fieldOff Try.prog 14 1 = some 1 := by kernel_rfl
theorem st14 : StF Try.prog 14 [(0, 1), (1, 1)] := ⟨_, Try.underlying14, fun w => by kernel_rfl⟩
theorem ty15 : TyF Try.prog 15 false 1 8 (.pointer none) := ⟨by kernel_rfl, by kernel_rfl, by kernel_rfl⟩
theorem ty16 : TyF Try.prog 16 false 1 8 (.pointer none) := ⟨by kernel_rfl, by kernel_rfl, by kernel_rfl⟩
theorem ty17 : TyF Try.prog 17 false 1 8 (.pointer none) := ⟨by kernel_rfl, by kernel_rfl, by kernel_rfl⟩
theorem ty18 : TyF Try.prog 18 true 1 8 (.agg #[.pointer none]) := ⟨by kernel_rfl, by kernel_rfl, by kernel_rfl⟩
theorem fo18_0 : fieldOff Try.prog 18 0 = some 0 := by kernel_rfl
theorem st18 : StF Try.prog 18 [(0, 1)] := ⟨_, Try.underlying18, fun w => by kernel_rfl⟩
theorem ty19 : TyF Try.prog 19 true 1 8 (.agg #[.pointer none]) := ⟨by kernel_rfl, by kernel_rfl, by kernel_rfl⟩
theorem fo19_0 : fieldOff Try.prog 19 0 = some 0 := by kernel_rfl
theorem st19 : StF Try.prog 19 [(0, 1)] := ⟨_, Try.underlying19, fun w => by kernel_rfl⟩
theorem ty21 : TyF Try.prog 21 false 1 4 (.int .i32 0) := ⟨by kernel_rfl, by kernel_rfl, by kernel_rfl⟩
theorem ty22 : TyF Try.prog 22 false 1 24 (.slice none 0 0) := ⟨by kernel_rfl, by kernel_rfl, by kernel_rfl⟩
theorem ty23 : TyF Try.prog 23 false 1 24 (.slice none 0 0) := ⟨by kernel_rfl, by kernel_rfl, by kernel_rfl⟩
theorem ty24 : TyF Try.prog 24 false 1 24 (.slice none 0 0) := ⟨by kernel_rfl, by kernel_rfl, by kernel_rfl⟩
theorem ty25 : TyF Try.prog 25 true 5 80 (.agg #[.bool false, .int .i64 0, .string ⟨#[]⟩, .slice none 0 0, .slice none 0 0]) := ⟨by kernel_rfl, by kernel_rfl, by kernel_rfl⟩
theorem fo25_0 : fieldOff Try.prog 25 0 = some 0 := by kernel_rfl
theorem fo25_1 : fieldOff Try.prog 25 1 = some 1 := by kernel_rfl
theorem fo25_2 : fieldOff Try.prog 25 2 = some 2 := by kernel_rfl
theorem fo25_3 : fieldOff Try.prog 25 3 = some 3 := by kernel_rfl
theorem fo25_4 : fieldOff Try.prog 25 4 = some 4 := by kernel_rfl
theorem st25 : StF Try.prog 25 [(0, 1), (1, 1), (2, 1), (3, 1), (4, 1)] := ⟨_, Try.underlying25, fun w => by kernel_rfl⟩
theorem ty26 : TyF Try.prog 26 true 5 80 (.agg #[.bool false, .int .i64 0, .string ⟨#[]⟩, .slice none 0 0, .slice none 0 0]) := ⟨by kernel_rfl, by kernel_rfl, by kernel_rfl⟩
theorem fo26_0 : fieldOff Try.prog 26 0 = some 0 := by kernel_rfl
theorem fo26_1 : fieldOff Try.prog 26 1 = some 1 := by kernel_rfl
theorem fo26_2 : fieldOff Try.prog 26 2 = some 2 := by kernel_rfl
theorem fo26_3 : fieldOff Try.prog 26 3 = some 3 := by kernel_rfl
theorem fo26_4 : fieldOff Try.prog 26 4 = some 4 := by kernel_rfl
theorem st26 : StF Try.prog 26 [(0, 1), (1, 1), (2, 1), (3, 1), (4, 1)] := ⟨_, Try.underlying26, fun w => by kernel_rfl⟩
theorem ty28 : TyF Try.prog 28 false 1 24 (.slice none 0 0) := ⟨by kernel_rfl, by kernel_rfl, by kernel_rfl⟩
theorem ty29 : TyF Try.prog 29 true 2 32 (.agg #[.int .i64 0, .slice none 0 0]) := ⟨by kernel_rfl, by kernel_rfl, by kernel_rfl⟩
theorem fo29_0 : fieldOff Try.prog 29 0 = some 0 := by kernel_rfl
theorem fo29_1 : fieldOff Try.prog 29 1 = some 1 := by kernel_rfl
theorem st29 : StF Try.prog 29 [(0, 1), (1, 1)] := ⟨_, Try.underlying29, fun w => by kernel_rfl⟩
theorem ty30 : TyF Try.prog 30 true 2 32 (.agg #[.int .i64 0, .slice none 0 0]) := ⟨by kernel_rfl, by kernel_rfl, by kernel_rfl⟩
theorem fo30_0 : fieldOff Try.prog 30 0 = some 0 := by kernel_rfl
theorem fo30_1 : fieldOff Try.prog 30 1 = some 1 := by kernel_rfl
theorem st30 : StF Try.prog 30 [(0, 1), (1, 1)] := ⟨_, Try.underlying30, fun w => by kernel_rfl⟩
theorem ty36 : TyF Try.prog 36 true 2 32 (.agg #[.int .i64 0, .slice none 0 0]) := ⟨by kernel_rfl, by kernel_rfl, by kernel_rfl⟩
theorem fo36_0 : fieldOff Try.prog 36 0 = some 0 := by kernel_rfl
theorem fo36_1 : fieldOff Try.prog 36 1 = some 1 := by kernel_rfl
theorem st36 : StF Try.prog 36 [(0, 1), (1, 1)] := ⟨_, Try.underlying36, fun w => by kernel_rfl⟩
theorem ty37 : TyF Try.prog 37 true 2 32 (.agg #[.int .i64 0, .slice none 0 0]) := ⟨by kernel_rfl, by kernel_rfl, by kernel_rfl⟩
theorem fo37_0 : fieldOff Try.prog 37 0 = some 0 := by kernel_rfl
theorem fo37_1 : fieldOff Try.prog 37 1 = some 1 := by kernel_rfl
theorem st37 : StF Try.prog 37 [(0, 1), (1, 1)] := ⟨_, Try.underlying37, fun w => by kernel_rfl⟩
theorem ty48 : TyF Try.prog 48 false 1 24 (.slice none 0 0) := ⟨by kernel_rfl, by kernel_rfl, by kernel_rfl⟩
theorem ty49 : TyF Try.prog 49 true 5 80 (.agg #[.bool false, .int .i64 0, .string ⟨#[]⟩, .slice none 0 0, .slice none 0 0]) := ⟨by kernel_rfl, by kernel_rfl, by kernel_rfl⟩
theorem fo49_0 : fieldOff Try.prog 49 0 = some 0 := by kernel_rfl
theorem fo49_1 : fieldOff Try.prog 49 1 = some 1 := by kernel_rfl
theorem fo49_2 : fieldOff Try.prog 49 2 = some 2 := by kernel_rfl
theorem fo49_3 : fieldOff Try.prog 49 3 = some 3 := by kernel_rfl
theorem fo49_4 : fieldOff Try.prog 49 4 = some 4 := by kernel_rfl
theorem st49 : StF Try.prog 49 [(0, 1), (1, 1), (2, 1), (3, 1), (4, 1)] := ⟨_, Try.underlying49, fun w => by kernel_rfl⟩
theorem ty50 : TyF Try.prog 50 true 5 80 (.agg #[.bool false, .int .i64 0, .string ⟨#[]⟩, .slice none 0 0, .slice none 0 0]) := ⟨by kernel_rfl, by kernel_rfl, by kernel_rfl⟩
theorem fo50_0 : fieldOff Try.prog 50 0 = some 0 := by kernel_rfl
theorem fo50_1 : fieldOff Try.prog 50 1 = some 1 := by kernel_rfl
theorem fo50_2 : fieldOff Try.prog 50 2 = some 2 := by kernel_rfl
theorem fo50_3 : fieldOff Try.prog 50 3 = some 3 := by kernel_rfl
theorem fo50_4 : fieldOff Try.prog 50 4 = some 4 := by kernel_rfl
theorem st50 : StF Try.prog 50 [(0, 1), (1, 1), (2, 1), (3, 1), (4, 1)] := ⟨_, Try.underlying50, fun w => by kernel_rfl⟩
theorem ty51 : TyF Try.prog 51 false 1 24 (.slice none 0 0) := ⟨by kernel_rfl, by kernel_rfl, by kernel_rfl⟩
theorem ty57 : TyF Try.prog 57 false 1 24 (.slice none 0 0) := ⟨by kernel_rfl, by kernel_rfl, by kernel_rfl⟩
theorem ty64 : TyF Try.prog 64 false 1 24 (.slice none 0 0) := ⟨by kernel_rfl, by kernel_rfl, by kernel_rfl⟩
theorem ty69 : TyF Try.prog 69 true 5 80 (.agg #[.int .i64 0, .slice none 0 0, .slice none 0 0, .int .i64 0, .string ⟨#[]⟩]) := ⟨by kernel_rfl, by kernel_rfl, by kernel_rfl⟩
theorem fo69_0 : fieldOff Try.prog 69 0 = some 0 := by kernel_rfl
theorem fo69_1 : fieldOff Try.prog 69 1 = some 1 := by kernel_rfl
theorem fo69_2 : fieldOff Try.prog 69 2 = some 2 := by kernel_rfl
theorem fo69_3 : fieldOff Try.prog 69 3 = some 3 := by kernel_rfl
theorem fo69_4 : fieldOff Try.prog 69 4 = some 4 := by kernel_rfl
theorem st69 : StF Try.prog 69 [(0, 1), (1, 1), (2, 1), (3, 1), (4, 1)] := ⟨_, Try.underlying69, fun w => by kernel_rfl⟩
theorem ty70 : TyF Try.prog 70 true 5 80 (.agg #[.int .i64 0, .slice none 0 0, .slice none 0 0, .int .i64 0, .string ⟨#[]⟩]) := ⟨by kernel_rfl, by kernel_rfl, by kernel_rfl⟩
theorem fo70_0 : fieldOff Try.prog 70 0 = some 0 := by kernel_rfl
theorem fo70_1 : fieldOff Try.prog 70 1 = some 1 := by kernel_rfl
theorem fo70_2 : fieldOff Try.prog 70 2 = some 2 := by kernel_rfl
theorem fo70_3 : fieldOff Try.prog 70 3 = some 3 := by kernel_rfl
theorem fo70_4 : fieldOff Try.prog 70 4 = some 4 := by kernel_rfl
theorem st70 : StF Try.prog 70 [(0, 1), (1, 1), (2, 1), (3, 1), (4, 1)] := ⟨_, Try.underlying70, fun w => by kernel_rfl⟩
theorem ty74 : TyF Try.prog 74 false 1 24 (.slice none 0 0) := ⟨by kernel_rfl, by kernel_rfl, by kernel_rfl⟩
theorem ty77 : TyF Try.prog 77 true 5 80 (.agg #[.int .i64 0, .slice none 0 0, .slice none 0 0, .int .i64 0, .string ⟨#[]⟩]) := ⟨by kernel_rfl, by kernel_rfl, by kernel_rfl⟩
theorem fo77_0 : fieldOff Try.prog 77 0 = some 0 := by kernel_rfl
theorem fo77_1 : fieldOff Try.prog 77 1 = some 1 := by kernel_rfl
theorem fo77_2 : fieldOff Try.prog 77 2 = some 2 := by kernel_rfl
theorem fo77_3 : fieldOff Try.prog 77 3 = some 3 := by kernel_rfl
theorem fo77_4 : fieldOff Try.prog 77 4 = some 4 := by kernel_rfl
theorem st77 : StF Try.prog 77 [(0, 1), (1, 1), (2, 1), (3, 1), (4, 1)] := ⟨_, Try.underlying77, fun w => by kernel_rfl⟩
theorem ty83 : TyF Try.prog 83 false 1 8 (.pointer none) := ⟨by kernel_rfl, by kernel_rfl, by kernel_rfl⟩
theorem ty99 : TyF Try.prog 99 true 5 64 (.agg #[.slice none 0 0, .int .i64 0, .bool false, .int .i64 0, .string ⟨#[]⟩]) := ⟨by kernel_rfl, by kernel_rfl, by kernel_rfl⟩
theorem fo99_0 : fieldOff Try.prog 99 0 = some 0 := by kernel_rfl
theorem fo99_1 : fieldOff Try.prog 99 1 = some 1 := by kernel_rfl
theorem fo99_2 : fieldOff Try.prog 99 2 = some 2 := by kernel_rfl
theorem fo99_3 : fieldOff Try.prog 99 3 = some 3 := by kernel_rfl
theorem fo99_4 : fieldOff Try.prog 99 4 = some 4 := by kernel_rfl
theorem st99 : StF Try.prog 99 [(0, 1), (1, 1), (2, 1), (3, 1), (4, 1)] := ⟨_, Try.underlying99, fun w => by kernel_rfl⟩
theorem ty100 : TyF Try.prog 100 true 5 64 (.agg #[.slice none 0 0, .int .i64 0, .bool false, .int .i64 0, .string ⟨#[]⟩]) := ⟨by kernel_rfl, by kernel_rfl, by kernel_rfl⟩
theorem fo100_0 : fieldOff Try.prog 100 0 = some 0 := by kernel_rfl
theorem fo100_1 : fieldOff Try.prog 100 1 = some 1 := by kernel_rfl
theorem fo100_2 : fieldOff Try.prog 100 2 = some 2 := by kernel_rfl
theorem fo100_3 : fieldOff Try.prog 100 3 = some 3 := by kernel_rfl
theorem fo100_4 : fieldOff Try.prog 100 4 = some 4 := by kernel_rfl
theorem st100 : StF Try.prog 100 [(0, 1), (1, 1), (2, 1), (3, 1), (4, 1)] := ⟨_, Try.underlying100, fun w => by kernel_rfl⟩
theorem ty102 : TyF Try.prog 102 true 5 64 (.agg #[.slice none 0 0, .int .i64 0, .bool false, .int .i64 0, .string ⟨#[]⟩]) := ⟨by kernel_rfl, by kernel_rfl, by kernel_rfl⟩
theorem fo102_0 : fieldOff Try.prog 102 0 = some 0 := by kernel_rfl
theorem fo102_1 : fieldOff Try.prog 102 1 = some 1 := by kernel_rfl
theorem fo102_2 : fieldOff Try.prog 102 2 = some 2 := by kernel_rfl
theorem fo102_3 : fieldOff Try.prog 102 3 = some 3 := by kernel_rfl
theorem fo102_4 : fieldOff Try.prog 102 4 = some 4 := by kernel_rfl
theorem st102 : StF Try.prog 102 [(0, 1), (1, 1), (2, 1), (3, 1), (4, 1)] := ⟨_, Try.underlying102, fun w => by kernel_rfl⟩
theorem ty117 : TyF Try.prog 117 false 1 8 (.pointer none) := ⟨by kernel_rfl, by kernel_rfl, by kernel_rfl⟩
theorem ty120 : TyF Try.prog 120 true 2 32 (.agg #[.slice none 0 0, .int .i64 0]) := ⟨by kernel_rfl, by kernel_rfl, by kernel_rfl⟩
theorem fo120_0 : fieldOff Try.prog 120 0 = some 0 := by kernel_rfl
theorem fo120_1 : fieldOff Try.prog 120 1 = some 1 := by kernel_rfl
theorem st120 : StF Try.prog 120 [(0, 1), (1, 1)] := ⟨_, Try.underlying120, fun w => by kernel_rfl⟩
theorem ty121 : TyF Try.prog 121 true 2 32 (.agg #[.slice none 0 0, .int .i64 0]) := ⟨by kernel_rfl, by kernel_rfl, by kernel_rfl⟩
theorem fo121_0 : fieldOff Try.prog 121 0 = some 0 := by kernel_rfl
theorem fo121_1 : fieldOff Try.prog 121 1 = some 1 := by kernel_rfl
theorem st121 : StF Try.prog 121 [(0, 1), (1, 1)] := ⟨_, Try.underlying121, fun w => by kernel_rfl⟩
theorem ty140 : TyF Try.prog 140 false 1 24 (.slice none 0 0) := ⟨by kernel_rfl, by kernel_rfl, by kernel_rfl⟩
theorem ty160 : TyF Try.prog 160 false 1 8 (.int .u64 0) := ⟨by kernel_rfl, by kernel_rfl, by kernel_rfl⟩
theorem ty167 : TyF Try.prog 167 true 4 40 (.agg #[.pointer none, .pointer none, .pointer none, .string ⟨#[]⟩]) := ⟨by kernel_rfl, by kernel_rfl, by kernel_rfl⟩
theorem fo167_0 : fieldOff Try.prog 167 0 = some 0 := by kernel_rfl
theorem fo167_1 : fieldOff Try.prog 167 1 = some 1 := by kernel_rfl
theorem fo167_2 : fieldOff Try.prog 167 2 = some 2 := by kernel_rfl
theorem fo167_3 : fieldOff Try.prog 167 3 = some 3 := by kernel_rfl
theorem st167 : StF Try.prog 167 [(0, 1), (1, 1), (2, 1), (3, 1)] := ⟨_, Try.underlying167, fun w => by kernel_rfl⟩
theorem ty168 : TyF Try.prog 168 true 4 40 (.agg #[.pointer none, .pointer none, .pointer none, .string ⟨#[]⟩]) := ⟨by kernel_rfl, by kernel_rfl, by kernel_rfl⟩
theorem fo168_0 : fieldOff Try.prog 168 0 = some 0 := by kernel_rfl
theorem fo168_1 : fieldOff Try.prog 168 1 = some 1 := by kernel_rfl
theorem fo168_2 : fieldOff Try.prog 168 2 = some 2 := by kernel_rfl
theorem fo168_3 : fieldOff Try.prog 168 3 = some 3 := by kernel_rfl
theorem st168 : StF Try.prog 168 [(0, 1), (1, 1), (2, 1), (3, 1)] := ⟨_, Try.underlying168, fun w => by kernel_rfl⟩
theorem ty169 : TyF Try.prog 169 true 0 0 (.agg #[]) := ⟨by kernel_rfl, by kernel_rfl, by kernel_rfl⟩
theorem ty170 : TyF Try.prog 170 true 0 0 (.agg #[]) := ⟨by kernel_rfl, by kernel_rfl, by kernel_rfl⟩
theorem st170 : StF Try.prog 170 [(0, 0)] := ⟨_, Try.underlying170, fun w => by kernel_rfl⟩
theorem ty171 : TyF Try.prog 171 true 0 0 (.agg #[]) := ⟨by kernel_rfl, by kernel_rfl, by kernel_rfl⟩
theorem st171 : StF Try.prog 171 [(0, 0)] := ⟨_, Try.underlying171, fun w => by kernel_rfl⟩
theorem ty172 : TyF Try.prog 172 false 1 4 (.int .u32 0) := ⟨by kernel_rfl, by kernel_rfl, by kernel_rfl⟩
theorem ty173 : TyF Try.prog 173 false 1 1 (.int .u8 0) := ⟨by kernel_rfl, by kernel_rfl, by kernel_rfl⟩
theorem ty174 : TyF Try.prog 174 false 1 1 (.int .u8 0) := ⟨by kernel_rfl, by kernel_rfl, by kernel_rfl⟩
theorem ty176 : TyF Try.prog 176 false 1 8 (.pointer none) := ⟨by kernel_rfl, by kernel_rfl, by kernel_rfl⟩
theorem ty177 : TyF Try.prog 177 false 1 4 (.int .i32 0) := ⟨by kernel_rfl, by kernel_rfl, by kernel_rfl⟩
theorem ty178 : TyF Try.prog 178 false 1 4 (.int .i32 0) := ⟨by kernel_rfl, by kernel_rfl, by kernel_rfl⟩
theorem ty179 : TyF Try.prog 179 true 11 48 (.agg #[.int .u64 0, .int .u64 0, .int .u32 0, .int .u8 0, .int .u8 0, .int .u8 0, .int .u8 0, .nilFunc, .pointer none, .int .i32 0, .int .i32 0]) := ⟨by kernel_rfl, by kernel_rfl, by kernel_rfl⟩
theorem fo179_0 : fieldOff Try.prog 179 0 = some 0 := by kernel_rfl
theorem fo179_1 : fieldOff Try.prog 179 1 = some 1 := by kernel_rfl
theorem fo179_2 : fieldOff Try.prog 179 2 = some 2 := by kernel_rfl
theorem fo179_3 : fieldOff Try.prog 179 3 = some 3 := by kernel_rfl
theorem fo179_4 : fieldOff Try.prog 179 4 = some 4 := by kernel_rfl
theorem fo179_5 : fieldOff Try.prog 179 5 = some 5 := by kernel_rfl
theorem fo179_6 : fieldOff Try.prog 179 6 = some 6 := by kernel_rfl
theorem fo179_7 : fieldOff Try.prog 179 7 = some 7 := by kernel_rfl
theorem fo179_8 : fieldOff Try.prog 179 8 = some 8 := by kernel_rfl
theorem fo179_9 : fieldOff Try.prog 179 9 = some 9 := by kernel_rfl
theorem fo179_10 : fieldOff Try.prog 179 10 = some 10 := by kernel_rfl
theorem st179 : StF Try.prog 179 [(0, 1), (1, 1), (2, 1), (3, 1), (4, 1), (5, 1), (6, 1), (7, 1), (8, 1), (9, 1), (10, 1)] := ⟨_, Try.underlying179, fun w => by kernel_rfl⟩
theorem ty180 : TyF Try.prog 180 true 11 48 (.agg #[.int .u64 0, .int .u64 0, .int .u32 0, .int .u8 0, .int .u8 0, .int .u8 0, .int .u8 0, .nilFunc, .pointer none, .int .i32 0, .int .i32 0]) := ⟨by kernel_rfl, by kernel_rfl, by kernel_rfl⟩
theorem fo180_0 : fieldOff Try.prog 180 0 = some 0 := by kernel_rfl
theorem fo180_1 : fieldOff Try.prog 180 1 = some 1 := by kernel_rfl
theorem fo180_2 : fieldOff Try.prog 180 2 = some 2 := by kernel_rfl
theorem fo180_3 : fieldOff Try.prog 180 3 = some 3 := by kernel_rfl
theorem fo180_4 : fieldOff Try.prog 180 4 = some 4 := by kernel_rfl
theorem fo180_5 : fieldOff Try.prog 180 5 = some 5 := by kernel_rfl
theorem fo180_6 : fieldOff Try.prog 180 6 = some 6 := by kernel_rfl
theorem fo180_7 : fieldOff Try.prog 180 7 = some 7 := by kernel_rfl
theorem fo180_8 : fieldOff Try.prog 180 8 = some 8 := by kernel_rfl
theorem fo180_9 : fieldOff Try.prog 180 9 = some 9 := by kernel_rfl
theorem fo180_10 : fieldOff Try.prog 180 10 = some 10 := by kernel_rfl
theorem st180 : StF Try.prog 180 [(0, 1), (1, 1), (2, 1), (3, 1), (4, 1), (5, 1), (6, 1), (7, 1), (8, 1), (9, 1), (10, 1)] := ⟨_, Try.underlying180, fun w => by kernel_rfl⟩
theorem mixed : Try.prog.follows .mixedOrders = true := by kernel_rfl
end Go.Proofs.Ytkefaelmamgjiaa
