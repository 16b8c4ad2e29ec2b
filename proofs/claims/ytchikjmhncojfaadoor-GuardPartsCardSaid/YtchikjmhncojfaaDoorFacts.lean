/- Closed facts on the types and functions of this seat. Conditions: none. Written by program (wip/genfacts.py). -/
import Derived.Test.YtchikjmhncojfaaDoorMap
import Derived.Test.YtchikjmhncojfaaDoorChecked
namespace Go.Proofs.YtchikjmhncojfaaDoor.W
open Go Go.Proofs
theorem ae45 : arrElem Tryd.prog 45 = some (4, 1) := by kernel_rfl
theorem ae53 : arrElem Tryd.prog 53 = some (3, 1) := by kernel_rfl
theorem ae76 : arrElem Tryd.prog 76 = some (4, 1) := by kernel_rfl
theorem ae90 : arrElem Tryd.prog 90 = some (32, 1) := by kernel_rfl
theorem ap26 : appT Tryd.prog 26 = some (3, 1, 8) := by kernel_rfl
theorem ap69 : appT Tryd.prog 69 = some (56, 5, 40) := by kernel_rfl
theorem bp49 : buildT Tryd.prog 49 = some ([.map none], [(0, 1)]) := by kernel_rfl
theorem bp53 : buildT Tryd.prog 53 = some ([.int .i64 0, .int .i64 0, .int .i64 0], [(0, 1), (1, 1), (2, 1)]) := by kernel_rfl
theorem bp56 : buildT Tryd.prog 56 = some ([.bool false, .int .i64 0, .int .i64 0, .int .i64 0, .int .i64 0], [(0, 1), (1, 1), (2, 1), (3, 1), (4, 1)]) := by kernel_rfl
theorem bp64 : buildT Tryd.prog 64 = some ([], []) := by kernel_rfl
theorem bp71 : buildT Tryd.prog 71 = some ([.int .i64 0, .int .i64 0, .slice none 0 0, .map none], [(0, 1), (1, 1), (2, 1), (3, 1)]) := by kernel_rfl
theorem bp74 : buildT Tryd.prog 74 = some ([.pointer none, .pointer none, .int .i64 0, .nilFunc], [(0, 1), (1, 1), (2, 1), (3, 1)]) := by kernel_rfl
theorem bp76 : buildT Tryd.prog 76 = some ([.int .i64 0, .int .i64 0, .int .i64 0, .int .i64 0], [(0, 1), (1, 1), (2, 1), (3, 1)]) := by kernel_rfl
theorem bp90 : buildT Tryd.prog 90 = some ([.int .u8 0, .int .u8 0, .int .u8 0, .int .u8 0, .int .u8 0, .int .u8 0, .int .u8 0, .int .u8 0, .int .u8 0, .int .u8 0, .int .u8 0, .int .u8 0, .int .u8 0, .int .u8 0, .int .u8 0, .int .u8 0, .int .u8 0, .int .u8 0, .int .u8 0, .int .u8 0, .int .u8 0, .int .u8 0, .int .u8 0, .int .u8 0, .int .u8 0, .int .u8 0, .int .u8 0, .int .u8 0, .int .u8 0, .int .u8 0, .int .u8 0, .int .u8 0], [(0, 1), (1, 1), (2, 1), (3, 1), (4, 1), (5, 1), (6, 1), (7, 1), (8, 1), (9, 1), (10, 1), (11, 1), (12, 1), (13, 1), (14, 1), (15, 1), (16, 1), (17, 1), (18, 1), (19, 1), (20, 1), (21, 1), (22, 1), (23, 1), (24, 1), (25, 1), (26, 1), (27, 1), (28, 1), (29, 1), (30, 1), (31, 1)]) := by kernel_rfl
theorem bs26_1 : Tryd.prog.underlying 26 = some (.slice 3) ∧ sizeT Tryd.prog 3 = some 1 ∧ zeroT Tryd.prog 3 = some [.int .i64 0] ∧ ([.int .i64 0] : List Value).length = 1 ∧ 0 < 1 ∧ 0 < 1 ∧ 1 * 1 ≤ 2 ^ 24 := ⟨by kernel_rfl, by kernel_rfl, by kernel_rfl, rfl, by decide, by decide, by decide⟩
theorem bs69_1 : Tryd.prog.underlying 69 = some (.slice 56) ∧ sizeT Tryd.prog 56 = some 5 ∧ zeroT Tryd.prog 56 = some [.bool false, .int .i64 0, .int .i64 0, .int .i64 0, .int .i64 0] ∧ ([.bool false, .int .i64 0, .int .i64 0, .int .i64 0, .int .i64 0] : List Value).length = 5 ∧ 0 < 5 ∧ 0 < 1 ∧ 1 * 5 ≤ 2 ^ 24 := ⟨by kernel_rfl, by kernel_rfl, by kernel_rfl, rfl, by decide, by decide, by decide⟩
theorem c10 : callable Tryd.prog 10 = true := by kernel_rfl
theorem c11 : callable Tryd.prog 11 = true := by kernel_rfl
theorem c12 : callable Tryd.prog 12 = true := by kernel_rfl
theorem c13 : callable Tryd.prog 13 = true := by kernel_rfl
theorem c14 : callable Tryd.prog 14 = true := by kernel_rfl
theorem c15 : callable Tryd.prog 15 = true := by kernel_rfl
theorem c16 : callable Tryd.prog 16 = true := by kernel_rfl
theorem c17 : callable Tryd.prog 17 = true := by kernel_rfl
theorem c18 : callable Tryd.prog 18 = true := by kernel_rfl
theorem c19 : callable Tryd.prog 19 = true := by kernel_rfl
theorem c20 : callable Tryd.prog 20 = true := by kernel_rfl
theorem c21 : callable Tryd.prog 21 = true := by kernel_rfl
theorem c22 : callable Tryd.prog 22 = true := by kernel_rfl
theorem c23 : callable Tryd.prog 23 = true := by kernel_rfl
theorem c24 : callable Tryd.prog 24 = true := by kernel_rfl
theorem c25 : callable Tryd.prog 25 = true := by kernel_rfl
theorem c26 : callable Tryd.prog 26 = true := by kernel_rfl
theorem c27 : callable Tryd.prog 27 = true := by kernel_rfl
theorem c28 : callable Tryd.prog 28 = true := by kernel_rfl
theorem c29 : callable Tryd.prog 29 = true := by kernel_rfl
theorem c3 : callable Tryd.prog 3 = true := by kernel_rfl
theorem c30 : callable Tryd.prog 30 = true := by kernel_rfl
theorem c31 : callable Tryd.prog 31 = true := by kernel_rfl
theorem c32 : callable Tryd.prog 32 = true := by kernel_rfl
theorem c33 : callable Tryd.prog 33 = true := by kernel_rfl
theorem c34 : callable Tryd.prog 34 = true := by kernel_rfl
theorem c35 : callable Tryd.prog 35 = true := by kernel_rfl
theorem c36 : callable Tryd.prog 36 = true := by kernel_rfl
theorem c37 : callable Tryd.prog 37 = true := by kernel_rfl
theorem c38 : callable Tryd.prog 38 = true := by kernel_rfl
theorem c39 : callable Tryd.prog 39 = true := by kernel_rfl
theorem c4 : callable Tryd.prog 4 = true := by kernel_rfl
theorem c40 : callable Tryd.prog 40 = true := by kernel_rfl
theorem c41 : callable Tryd.prog 41 = true := by kernel_rfl
theorem c42 : callable Tryd.prog 42 = true := by kernel_rfl
theorem c43 : callable Tryd.prog 43 = true := by kernel_rfl
theorem c44 : callable Tryd.prog 44 = true := by kernel_rfl
theorem c45 : callable Tryd.prog 45 = true := by kernel_rfl
theorem c46 : callable Tryd.prog 46 = true := by kernel_rfl
theorem c47 : callable Tryd.prog 47 = true := by kernel_rfl
theorem c48 : callable Tryd.prog 48 = true := by kernel_rfl
theorem c5 : callable Tryd.prog 5 = true := by kernel_rfl
theorem c6 : callable Tryd.prog 6 = true := by kernel_rfl
theorem c69 : callable Tryd.prog 69 = true := by kernel_rfl
theorem c7 : callable Tryd.prog 7 = true := by kernel_rfl
theorem c8 : callable Tryd.prog 8 = true := by kernel_rfl
theorem c9 : callable Tryd.prog 9 = true := by kernel_rfl
theorem fo49_0 : fieldOff Tryd.prog 49 0 = some 0 := by kernel_rfl
theorem fo56_0 : fieldOff Tryd.prog 56 0 = some 0 := by kernel_rfl
theorem fo56_1 : fieldOff Tryd.prog 56 1 = some 1 := by kernel_rfl
theorem fo56_2 : fieldOff Tryd.prog 56 2 = some 2 := by kernel_rfl
theorem fo56_3 : fieldOff Tryd.prog 56 3 = some 3 := by kernel_rfl
theorem fo56_4 : fieldOff Tryd.prog 56 4 = some 4 := by kernel_rfl
theorem fo71_0 : fieldOff Tryd.prog 71 0 = some 0 := by kernel_rfl
theorem fo71_1 : fieldOff Tryd.prog 71 1 = some 1 := by kernel_rfl
theorem fo71_2 : fieldOff Tryd.prog 71 2 = some 2 := by kernel_rfl
theorem fo71_3 : fieldOff Tryd.prog 71 3 = some 3 := by kernel_rfl
theorem fo74_0 : fieldOff Tryd.prog 74 0 = some 0 := by kernel_rfl
theorem fo74_1 : fieldOff Tryd.prog 74 1 = some 1 := by kernel_rfl
theorem fo74_3 : fieldOff Tryd.prog 74 3 = some 3 := by kernel_rfl
theorem ib4 : isBool Tryd.prog 4 = true := by kernel_rfl
theorem ip25 : isPtr Tryd.prog 25 = true := by kernel_rfl
theorem ip29 : isPtr Tryd.prog 29 = true := by kernel_rfl
theorem ix53 : arrElem Tryd.prog 53 = some (3, 1) ∧ (∃ el, Tryd.prog.underlying 53 = some (.array 3 el) ∧ isCell Tryd.prog el = true) := ⟨by kernel_rfl, 3, by kernel_rfl, by kernel_rfl⟩
theorem se22 : sliceElem Tryd.prog 22 = some 4 := by kernel_rfl
theorem se26 : sliceElem Tryd.prog 26 = some 1 := by kernel_rfl
theorem se36 : sliceElem Tryd.prog 36 = some 1 := by kernel_rfl
theorem se69 : sliceElem Tryd.prog 69 = some 5 := by kernel_rfl
theorem sl22 : isSlice Tryd.prog 22 = true := by kernel_rfl
theorem sl26 : isSlice Tryd.prog 26 = true := by kernel_rfl
theorem sl69 : isSlice Tryd.prog 69 = true := by kernel_rfl
theorem ta45 : aggSize Tryd.prog 45 = some 4 := by kernel_rfl
theorem ta49 : aggSize Tryd.prog 49 = some 1 := by kernel_rfl
theorem ta53 : aggSize Tryd.prog 53 = some 3 := by kernel_rfl
theorem ta56 : aggSize Tryd.prog 56 = some 5 := by kernel_rfl
theorem ta64 : aggSize Tryd.prog 64 = some 0 := by kernel_rfl
theorem ta71 : aggSize Tryd.prog 71 = some 4 := by kernel_rfl
theorem ta74 : aggSize Tryd.prog 74 = some 4 := by kernel_rfl
theorem ta76 : aggSize Tryd.prog 76 = some 4 := by kernel_rfl
theorem tc25 : isCell Tryd.prog 25 = true := by kernel_rfl
theorem tc26 : isCell Tryd.prog 26 = true := by kernel_rfl
theorem tc29 : isCell Tryd.prog 29 = true := by kernel_rfl
theorem tc3 : isCell Tryd.prog 3 = true := by kernel_rfl
theorem tc4 : isCell Tryd.prog 4 = true := by kernel_rfl
theorem tc40 : isCell Tryd.prog 40 = true := by kernel_rfl
theorem tc47 : isCell Tryd.prog 47 = true := by kernel_rfl
theorem tc5 : isCell Tryd.prog 5 = true := by kernel_rfl
theorem tc54 : isCell Tryd.prog 54 = true := by kernel_rfl
theorem tc62 : isCell Tryd.prog 62 = true := by kernel_rfl
theorem tc63 : isCell Tryd.prog 63 = true := by kernel_rfl
theorem tc68 : isCell Tryd.prog 68 = true := by kernel_rfl
theorem tc69 : isCell Tryd.prog 69 = true := by kernel_rfl
theorem tc72 : isCell Tryd.prog 72 = true := by kernel_rfl
theorem ts25 : sizeT Tryd.prog 25 = some 1 := by kernel_rfl
theorem ts26 : sizeT Tryd.prog 26 = some 1 := by kernel_rfl
theorem ts29 : sizeT Tryd.prog 29 = some 1 := by kernel_rfl
theorem ts3 : sizeT Tryd.prog 3 = some 1 := by kernel_rfl
theorem ts4 : sizeT Tryd.prog 4 = some 1 := by kernel_rfl
theorem ts40 : sizeT Tryd.prog 40 = some 1 := by kernel_rfl
theorem ts45 : sizeT Tryd.prog 45 = some 4 := by kernel_rfl
theorem ts47 : sizeT Tryd.prog 47 = some 1 := by kernel_rfl
theorem ts5 : sizeT Tryd.prog 5 = some 1 := by kernel_rfl
theorem ts53 : sizeT Tryd.prog 53 = some 3 := by kernel_rfl
theorem ts54 : sizeT Tryd.prog 54 = some 1 := by kernel_rfl
theorem ts56 : sizeT Tryd.prog 56 = some 5 := by kernel_rfl
theorem ts62 : sizeT Tryd.prog 62 = some 1 := by kernel_rfl
theorem ts63 : sizeT Tryd.prog 63 = some 1 := by kernel_rfl
theorem ts64 : sizeT Tryd.prog 64 = some 0 := by kernel_rfl
theorem ts68 : sizeT Tryd.prog 68 = some 1 := by kernel_rfl
theorem ts69 : sizeT Tryd.prog 69 = some 1 := by kernel_rfl
theorem ts72 : sizeT Tryd.prog 72 = some 1 := by kernel_rfl
theorem ts74 : sizeT Tryd.prog 74 = some 4 := by kernel_rfl
theorem ts76 : sizeT Tryd.prog 76 = some 4 := by kernel_rfl
theorem ts90 : sizeT Tryd.prog 90 = some 32 := by kernel_rfl
theorem tz25 : zeroT Tryd.prog 25 = some [.pointer none] := by kernel_rfl
theorem tz26 : zeroT Tryd.prog 26 = some [.slice none 0 0] := by kernel_rfl
theorem tz3 : zeroT Tryd.prog 3 = some [.int .i64 0] := by kernel_rfl
theorem tz4 : zeroT Tryd.prog 4 = some [.bool false] := by kernel_rfl
theorem tz40 : zeroT Tryd.prog 40 = some [.nilFunc] := by kernel_rfl
theorem tz45 : zeroT Tryd.prog 45 = some [.int .i64 0, .int .i64 0, .int .i64 0, .int .i64 0] := by kernel_rfl
theorem tz49 : zeroT Tryd.prog 49 = some [.map none] := by kernel_rfl
theorem tz53 : zeroT Tryd.prog 53 = some [.int .i64 0, .int .i64 0, .int .i64 0] := by kernel_rfl
theorem tz54 : zeroT Tryd.prog 54 = some [.map none] := by kernel_rfl
theorem tz56 : zeroT Tryd.prog 56 = some [.bool false, .int .i64 0, .int .i64 0, .int .i64 0, .int .i64 0] := by kernel_rfl
theorem tz62 : zeroT Tryd.prog 62 = some [.map none] := by kernel_rfl
theorem tz63 : zeroT Tryd.prog 63 = some [.nilFunc] := by kernel_rfl
theorem tz64 : zeroT Tryd.prog 64 = some [] := by kernel_rfl
theorem tz71 : zeroT Tryd.prog 71 = some [.int .i64 0, .int .i64 0, .slice none 0 0, .map none] := by kernel_rfl
theorem tz74 : zeroT Tryd.prog 74 = some [.pointer none, .pointer none, .int .i64 0, .nilFunc] := by kernel_rfl
theorem tz76 : zeroT Tryd.prog 76 = some [.int .i64 0, .int .i64 0, .int .i64 0, .int .i64 0] := by kernel_rfl
theorem mixed : Tryd.prog.follows .mixedOrders = true := by kernel_rfl
end Go.Proofs.YtchikjmhncojfaaDoor.W
