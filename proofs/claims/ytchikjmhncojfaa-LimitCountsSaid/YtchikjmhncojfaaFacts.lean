/- Closed facts on the types and functions of this seat. Conditions: none. Written by program (wip/genfacts.py). -/
import Derived.Test.YtchikjmhncojfaaMap
import Derived.Test.YtchikjmhncojfaaChecked
namespace Go.Proofs.Ytchikjmhncojfaa.W
open Go Go.Proofs
theorem ae107 : arrElem Try.prog 107 = some (4, 1) := by kernel_rfl
theorem ae24 : arrElem Try.prog 24 = some (2, 1) := by kernel_rfl
theorem ae39 : arrElem Try.prog 39 = some (4, 1) := by kernel_rfl
theorem ae87 : arrElem Try.prog 87 = some (3, 1) := by kernel_rfl
theorem ap29 : appT Try.prog 29 = some (42, 5, 40) := by kernel_rfl
theorem ap40 : appT Try.prog 40 = some (3, 1, 8) := by kernel_rfl
theorem bp105 : buildT Try.prog 105 = some ([.pointer none, .pointer none, .int .i64 0, .nilFunc], [(0, 1), (1, 1), (2, 1), (3, 1)]) := by kernel_rfl
theorem bp107 : buildT Try.prog 107 = some ([.int .i64 0, .int .i64 0, .int .i64 0, .int .i64 0], [(0, 1), (1, 1), (2, 1), (3, 1)]) := by kernel_rfl
theorem bp24 : buildT Try.prog 24 = some ([.int .i64 0, .int .i64 0], [(0, 1), (1, 1)]) := by kernel_rfl
theorem bp31 : buildT Try.prog 31 = some ([.int .i64 0, .int .i64 0, .slice none 0 0], [(0, 1), (1, 1), (2, 1)]) := by kernel_rfl
theorem bp42 : buildT Try.prog 42 = some ([.bool false, .int .i64 0, .int .i64 0, .int .i64 0, .int .i64 0], [(0, 1), (1, 1), (2, 1), (3, 1), (4, 1)]) := by kernel_rfl
theorem bp74 : buildT Try.prog 74 = some ([.int .i64 0, .int .i64 0, .slice none 0 0, .map none], [(0, 1), (1, 1), (2, 1), (3, 1)]) := by kernel_rfl
theorem bp77 : buildT Try.prog 77 = some ([], []) := by kernel_rfl
theorem bp84 : buildT Try.prog 84 = some ([.map none], [(0, 1)]) := by kernel_rfl
theorem bp87 : buildT Try.prog 87 = some ([.int .i64 0, .int .i64 0, .int .i64 0], [(0, 1), (1, 1), (2, 1)]) := by kernel_rfl
theorem bp92 : buildT Try.prog 92 = some ([.pointer none, .map none], [(0, 1), (1, 1)]) := by kernel_rfl
theorem bp96 : buildT Try.prog 96 = some ([.pointer none, .int .i64 0, .map none, .map none], [(0, 1), (1, 1), (2, 1), (3, 1)]) := by kernel_rfl
theorem bp98 : buildT Try.prog 98 = some ([.int .i64 0, .int .i64 0, .int .i64 0], [(0, 1), (1, 1), (2, 1)]) := by kernel_rfl
theorem bs26_2 : Try.prog.underlying 26 = some (.slice 24) ∧ sizeT Try.prog 24 = some 2 ∧ zeroT Try.prog 24 = some [.int .i64 0, .int .i64 0] ∧ ([.int .i64 0, .int .i64 0] : List Value).length = 2 ∧ 0 < 2 ∧ 0 < 2 ∧ 2 * 2 ≤ 2 ^ 24 := ⟨by kernel_rfl, by kernel_rfl, by kernel_rfl, rfl, by decide, by decide, by decide⟩
theorem bs29_1 : Try.prog.underlying 29 = some (.slice 42) ∧ sizeT Try.prog 42 = some 5 ∧ zeroT Try.prog 42 = some [.bool false, .int .i64 0, .int .i64 0, .int .i64 0, .int .i64 0] ∧ ([.bool false, .int .i64 0, .int .i64 0, .int .i64 0, .int .i64 0] : List Value).length = 5 ∧ 0 < 5 ∧ 0 < 1 ∧ 1 * 5 ≤ 2 ^ 24 := ⟨by kernel_rfl, by kernel_rfl, by kernel_rfl, rfl, by decide, by decide, by decide⟩
theorem bs40_1 : Try.prog.underlying 40 = some (.slice 3) ∧ sizeT Try.prog 3 = some 1 ∧ zeroT Try.prog 3 = some [.int .i64 0] ∧ ([.int .i64 0] : List Value).length = 1 ∧ 0 < 1 ∧ 0 < 1 ∧ 1 * 1 ≤ 2 ^ 24 := ⟨by kernel_rfl, by kernel_rfl, by kernel_rfl, rfl, by decide, by decide, by decide⟩
theorem bs40_2 : Try.prog.underlying 40 = some (.slice 3) ∧ sizeT Try.prog 3 = some 1 ∧ zeroT Try.prog 3 = some [.int .i64 0] ∧ ([.int .i64 0] : List Value).length = 1 ∧ 0 < 1 ∧ 0 < 2 ∧ 2 * 1 ≤ 2 ^ 24 := ⟨by kernel_rfl, by kernel_rfl, by kernel_rfl, rfl, by decide, by decide, by decide⟩
theorem bs40_3 : Try.prog.underlying 40 = some (.slice 3) ∧ sizeT Try.prog 3 = some 1 ∧ zeroT Try.prog 3 = some [.int .i64 0] ∧ ([.int .i64 0] : List Value).length = 1 ∧ 0 < 1 ∧ 0 < 3 ∧ 3 * 1 ≤ 2 ^ 24 := ⟨by kernel_rfl, by kernel_rfl, by kernel_rfl, rfl, by decide, by decide, by decide⟩
theorem c10 : callable Try.prog 10 = true := by kernel_rfl
theorem c100 : callable Try.prog 100 = true := by kernel_rfl
theorem c101 : callable Try.prog 101 = true := by kernel_rfl
theorem c102 : callable Try.prog 102 = true := by kernel_rfl
theorem c103 : callable Try.prog 103 = true := by kernel_rfl
theorem c104 : callable Try.prog 104 = true := by kernel_rfl
theorem c105 : callable Try.prog 105 = true := by kernel_rfl
theorem c106 : callable Try.prog 106 = true := by kernel_rfl
theorem c107 : callable Try.prog 107 = true := by kernel_rfl
theorem c108 : callable Try.prog 108 = true := by kernel_rfl
theorem c109 : callable Try.prog 109 = true := by kernel_rfl
theorem c11 : callable Try.prog 11 = true := by kernel_rfl
theorem c12 : callable Try.prog 12 = true := by kernel_rfl
theorem c13 : callable Try.prog 13 = true := by kernel_rfl
theorem c14 : callable Try.prog 14 = true := by kernel_rfl
theorem c15 : callable Try.prog 15 = true := by kernel_rfl
theorem c16 : callable Try.prog 16 = true := by kernel_rfl
theorem c17 : callable Try.prog 17 = true := by kernel_rfl
theorem c18 : callable Try.prog 18 = true := by kernel_rfl
theorem c19 : callable Try.prog 19 = true := by kernel_rfl
theorem c20 : callable Try.prog 20 = true := by kernel_rfl
theorem c21 : callable Try.prog 21 = true := by kernel_rfl
theorem c22 : callable Try.prog 22 = true := by kernel_rfl
theorem c23 : callable Try.prog 23 = true := by kernel_rfl
theorem c24 : callable Try.prog 24 = true := by kernel_rfl
theorem c25 : callable Try.prog 25 = true := by kernel_rfl
theorem c26 : callable Try.prog 26 = true := by kernel_rfl
theorem c27 : callable Try.prog 27 = true := by kernel_rfl
theorem c28 : callable Try.prog 28 = true := by kernel_rfl
theorem c29 : callable Try.prog 29 = true := by kernel_rfl
theorem c3 : callable Try.prog 3 = true := by kernel_rfl
theorem c30 : callable Try.prog 30 = true := by kernel_rfl
theorem c31 : callable Try.prog 31 = true := by kernel_rfl
theorem c32 : callable Try.prog 32 = true := by kernel_rfl
theorem c33 : callable Try.prog 33 = true := by kernel_rfl
theorem c34 : callable Try.prog 34 = true := by kernel_rfl
theorem c35 : callable Try.prog 35 = true := by kernel_rfl
theorem c36 : callable Try.prog 36 = true := by kernel_rfl
theorem c37 : callable Try.prog 37 = true := by kernel_rfl
theorem c38 : callable Try.prog 38 = true := by kernel_rfl
theorem c39 : callable Try.prog 39 = true := by kernel_rfl
theorem c4 : callable Try.prog 4 = true := by kernel_rfl
theorem c40 : callable Try.prog 40 = true := by kernel_rfl
theorem c41 : callable Try.prog 41 = true := by kernel_rfl
theorem c42 : callable Try.prog 42 = true := by kernel_rfl
theorem c43 : callable Try.prog 43 = true := by kernel_rfl
theorem c44 : callable Try.prog 44 = true := by kernel_rfl
theorem c45 : callable Try.prog 45 = true := by kernel_rfl
theorem c46 : callable Try.prog 46 = true := by kernel_rfl
theorem c47 : callable Try.prog 47 = true := by kernel_rfl
theorem c48 : callable Try.prog 48 = true := by kernel_rfl
theorem c49 : callable Try.prog 49 = true := by kernel_rfl
theorem c5 : callable Try.prog 5 = true := by kernel_rfl
theorem c50 : callable Try.prog 50 = true := by kernel_rfl
theorem c51 : callable Try.prog 51 = true := by kernel_rfl
theorem c52 : callable Try.prog 52 = true := by kernel_rfl
theorem c53 : callable Try.prog 53 = true := by kernel_rfl
theorem c54 : callable Try.prog 54 = true := by kernel_rfl
theorem c55 : callable Try.prog 55 = true := by kernel_rfl
theorem c56 : callable Try.prog 56 = true := by kernel_rfl
theorem c57 : callable Try.prog 57 = true := by kernel_rfl
theorem c58 : callable Try.prog 58 = true := by kernel_rfl
theorem c59 : callable Try.prog 59 = true := by kernel_rfl
theorem c6 : callable Try.prog 6 = true := by kernel_rfl
theorem c60 : callable Try.prog 60 = true := by kernel_rfl
theorem c61 : callable Try.prog 61 = true := by kernel_rfl
theorem c62 : callable Try.prog 62 = true := by kernel_rfl
theorem c63 : callable Try.prog 63 = true := by kernel_rfl
theorem c64 : callable Try.prog 64 = true := by kernel_rfl
theorem c65 : callable Try.prog 65 = true := by kernel_rfl
theorem c66 : callable Try.prog 66 = true := by kernel_rfl
theorem c67 : callable Try.prog 67 = true := by kernel_rfl
theorem c68 : callable Try.prog 68 = true := by kernel_rfl
theorem c69 : callable Try.prog 69 = true := by kernel_rfl
theorem c7 : callable Try.prog 7 = true := by kernel_rfl
theorem c70 : callable Try.prog 70 = true := by kernel_rfl
theorem c71 : callable Try.prog 71 = true := by kernel_rfl
theorem c72 : callable Try.prog 72 = true := by kernel_rfl
theorem c73 : callable Try.prog 73 = true := by kernel_rfl
theorem c74 : callable Try.prog 74 = true := by kernel_rfl
theorem c75 : callable Try.prog 75 = true := by kernel_rfl
theorem c76 : callable Try.prog 76 = true := by kernel_rfl
theorem c77 : callable Try.prog 77 = true := by kernel_rfl
theorem c78 : callable Try.prog 78 = true := by kernel_rfl
theorem c79 : callable Try.prog 79 = true := by kernel_rfl
theorem c8 : callable Try.prog 8 = true := by kernel_rfl
theorem c80 : callable Try.prog 80 = true := by kernel_rfl
theorem c81 : callable Try.prog 81 = true := by kernel_rfl
theorem c82 : callable Try.prog 82 = true := by kernel_rfl
theorem c83 : callable Try.prog 83 = true := by kernel_rfl
theorem c84 : callable Try.prog 84 = true := by kernel_rfl
theorem c85 : callable Try.prog 85 = true := by kernel_rfl
theorem c86 : callable Try.prog 86 = true := by kernel_rfl
theorem c87 : callable Try.prog 87 = true := by kernel_rfl
theorem c88 : callable Try.prog 88 = true := by kernel_rfl
theorem c89 : callable Try.prog 89 = true := by kernel_rfl
theorem c9 : callable Try.prog 9 = true := by kernel_rfl
theorem c90 : callable Try.prog 90 = true := by kernel_rfl
theorem c91 : callable Try.prog 91 = true := by kernel_rfl
theorem c92 : callable Try.prog 92 = true := by kernel_rfl
theorem c93 : callable Try.prog 93 = true := by kernel_rfl
theorem c94 : callable Try.prog 94 = true := by kernel_rfl
theorem c95 : callable Try.prog 95 = true := by kernel_rfl
theorem c96 : callable Try.prog 96 = true := by kernel_rfl
theorem c97 : callable Try.prog 97 = true := by kernel_rfl
theorem c98 : callable Try.prog 98 = true := by kernel_rfl
theorem c99 : callable Try.prog 99 = true := by kernel_rfl
theorem fo105_0 : fieldOff Try.prog 105 0 = some 0 := by kernel_rfl
theorem fo105_1 : fieldOff Try.prog 105 1 = some 1 := by kernel_rfl
theorem fo105_3 : fieldOff Try.prog 105 3 = some 3 := by kernel_rfl
theorem fo31_0 : fieldOff Try.prog 31 0 = some 0 := by kernel_rfl
theorem fo31_1 : fieldOff Try.prog 31 1 = some 1 := by kernel_rfl
theorem fo31_2 : fieldOff Try.prog 31 2 = some 2 := by kernel_rfl
theorem fo42_0 : fieldOff Try.prog 42 0 = some 0 := by kernel_rfl
theorem fo42_1 : fieldOff Try.prog 42 1 = some 1 := by kernel_rfl
theorem fo42_2 : fieldOff Try.prog 42 2 = some 2 := by kernel_rfl
theorem fo42_3 : fieldOff Try.prog 42 3 = some 3 := by kernel_rfl
theorem fo42_4 : fieldOff Try.prog 42 4 = some 4 := by kernel_rfl
theorem fo74_0 : fieldOff Try.prog 74 0 = some 0 := by kernel_rfl
theorem fo74_1 : fieldOff Try.prog 74 1 = some 1 := by kernel_rfl
theorem fo74_2 : fieldOff Try.prog 74 2 = some 2 := by kernel_rfl
theorem fo74_3 : fieldOff Try.prog 74 3 = some 3 := by kernel_rfl
theorem fo84_0 : fieldOff Try.prog 84 0 = some 0 := by kernel_rfl
theorem fo92_0 : fieldOff Try.prog 92 0 = some 0 := by kernel_rfl
theorem fo92_1 : fieldOff Try.prog 92 1 = some 1 := by kernel_rfl
theorem fo96_0 : fieldOff Try.prog 96 0 = some 0 := by kernel_rfl
theorem fo96_1 : fieldOff Try.prog 96 1 = some 1 := by kernel_rfl
theorem fo96_2 : fieldOff Try.prog 96 2 = some 2 := by kernel_rfl
theorem fo98_0 : fieldOff Try.prog 98 0 = some 0 := by kernel_rfl
theorem fo98_1 : fieldOff Try.prog 98 1 = some 1 := by kernel_rfl
theorem fo98_2 : fieldOff Try.prog 98 2 = some 2 := by kernel_rfl
theorem ib4 : isBool Try.prog 4 = true := by kernel_rfl
theorem ip27 : isPtr Try.prog 27 = true := by kernel_rfl
theorem ip57 : isPtr Try.prog 57 = true := by kernel_rfl
theorem ix87 : arrElem Try.prog 87 = some (3, 1) ∧ (∃ el, Try.prog.underlying 87 = some (.array 3 el) ∧ isCell Try.prog el = true) := ⟨by kernel_rfl, 3, by kernel_rfl, by kernel_rfl⟩
theorem se22 : sliceElem Try.prog 22 = some 4 := by kernel_rfl
theorem se26 : sliceElem Try.prog 26 = some 2 := by kernel_rfl
theorem se29 : sliceElem Try.prog 29 = some 5 := by kernel_rfl
theorem se40 : sliceElem Try.prog 40 = some 1 := by kernel_rfl
theorem se80 : sliceElem Try.prog 80 = some 1 := by kernel_rfl
theorem sl22 : isSlice Try.prog 22 = true := by kernel_rfl
theorem sl26 : isSlice Try.prog 26 = true := by kernel_rfl
theorem sl29 : isSlice Try.prog 29 = true := by kernel_rfl
theorem sl40 : isSlice Try.prog 40 = true := by kernel_rfl
theorem ta105 : aggSize Try.prog 105 = some 4 := by kernel_rfl
theorem ta107 : aggSize Try.prog 107 = some 4 := by kernel_rfl
theorem ta24 : aggSize Try.prog 24 = some 2 := by kernel_rfl
theorem ta31 : aggSize Try.prog 31 = some 3 := by kernel_rfl
theorem ta39 : aggSize Try.prog 39 = some 4 := by kernel_rfl
theorem ta42 : aggSize Try.prog 42 = some 5 := by kernel_rfl
theorem ta74 : aggSize Try.prog 74 = some 4 := by kernel_rfl
theorem ta77 : aggSize Try.prog 77 = some 0 := by kernel_rfl
theorem ta84 : aggSize Try.prog 84 = some 1 := by kernel_rfl
theorem ta87 : aggSize Try.prog 87 = some 3 := by kernel_rfl
theorem ta92 : aggSize Try.prog 92 = some 2 := by kernel_rfl
theorem ta96 : aggSize Try.prog 96 = some 4 := by kernel_rfl
theorem ta98 : aggSize Try.prog 98 = some 3 := by kernel_rfl
theorem tc103 : isCell Try.prog 103 = true := by kernel_rfl
theorem tc25 : isCell Try.prog 25 = true := by kernel_rfl
theorem tc27 : isCell Try.prog 27 = true := by kernel_rfl
theorem tc29 : isCell Try.prog 29 = true := by kernel_rfl
theorem tc3 : isCell Try.prog 3 = true := by kernel_rfl
theorem tc4 : isCell Try.prog 4 = true := by kernel_rfl
theorem tc45 : isCell Try.prog 45 = true := by kernel_rfl
theorem tc57 : isCell Try.prog 57 = true := by kernel_rfl
theorem tc72 : isCell Try.prog 72 = true := by kernel_rfl
theorem tc82 : isCell Try.prog 82 = true := by kernel_rfl
theorem tc90 : isCell Try.prog 90 = true := by kernel_rfl
theorem tc94 : isCell Try.prog 94 = true := by kernel_rfl
theorem ts103 : sizeT Try.prog 103 = some 1 := by kernel_rfl
theorem ts105 : sizeT Try.prog 105 = some 4 := by kernel_rfl
theorem ts107 : sizeT Try.prog 107 = some 4 := by kernel_rfl
theorem ts24 : sizeT Try.prog 24 = some 2 := by kernel_rfl
theorem ts25 : sizeT Try.prog 25 = some 1 := by kernel_rfl
theorem ts27 : sizeT Try.prog 27 = some 1 := by kernel_rfl
theorem ts29 : sizeT Try.prog 29 = some 1 := by kernel_rfl
theorem ts3 : sizeT Try.prog 3 = some 1 := by kernel_rfl
theorem ts31 : sizeT Try.prog 31 = some 3 := by kernel_rfl
theorem ts39 : sizeT Try.prog 39 = some 4 := by kernel_rfl
theorem ts4 : sizeT Try.prog 4 = some 1 := by kernel_rfl
theorem ts42 : sizeT Try.prog 42 = some 5 := by kernel_rfl
theorem ts45 : sizeT Try.prog 45 = some 1 := by kernel_rfl
theorem ts57 : sizeT Try.prog 57 = some 1 := by kernel_rfl
theorem ts72 : sizeT Try.prog 72 = some 1 := by kernel_rfl
theorem ts77 : sizeT Try.prog 77 = some 0 := by kernel_rfl
theorem ts82 : sizeT Try.prog 82 = some 1 := by kernel_rfl
theorem ts87 : sizeT Try.prog 87 = some 3 := by kernel_rfl
theorem ts90 : sizeT Try.prog 90 = some 1 := by kernel_rfl
theorem ts92 : sizeT Try.prog 92 = some 2 := by kernel_rfl
theorem ts94 : sizeT Try.prog 94 = some 1 := by kernel_rfl
theorem ts96 : sizeT Try.prog 96 = some 4 := by kernel_rfl
theorem ts98 : sizeT Try.prog 98 = some 3 := by kernel_rfl
theorem tz105 : zeroT Try.prog 105 = some [.pointer none, .pointer none, .int .i64 0, .nilFunc] := by kernel_rfl
theorem tz107 : zeroT Try.prog 107 = some [.int .i64 0, .int .i64 0, .int .i64 0, .int .i64 0] := by kernel_rfl
theorem tz24 : zeroT Try.prog 24 = some [.int .i64 0, .int .i64 0] := by kernel_rfl
theorem tz25 : zeroT Try.prog 25 = some [.nilFunc] := by kernel_rfl
theorem tz31 : zeroT Try.prog 31 = some [.int .i64 0, .int .i64 0, .slice none 0 0] := by kernel_rfl
theorem tz39 : zeroT Try.prog 39 = some [.int .i64 0, .int .i64 0, .int .i64 0, .int .i64 0] := by kernel_rfl
theorem tz42 : zeroT Try.prog 42 = some [.bool false, .int .i64 0, .int .i64 0, .int .i64 0, .int .i64 0] := by kernel_rfl
theorem tz45 : zeroT Try.prog 45 = some [.nilFunc] := by kernel_rfl
theorem tz74 : zeroT Try.prog 74 = some [.int .i64 0, .int .i64 0, .slice none 0 0, .map none] := by kernel_rfl
theorem tz77 : zeroT Try.prog 77 = some [] := by kernel_rfl
theorem tz84 : zeroT Try.prog 84 = some [.map none] := by kernel_rfl
theorem tz87 : zeroT Try.prog 87 = some [.int .i64 0, .int .i64 0, .int .i64 0] := by kernel_rfl
theorem tz92 : zeroT Try.prog 92 = some [.pointer none, .map none] := by kernel_rfl
theorem tz96 : zeroT Try.prog 96 = some [.pointer none, .int .i64 0, .map none, .map none] := by kernel_rfl
theorem tz98 : zeroT Try.prog 98 = some [.int .i64 0, .int .i64 0, .int .i64 0] := by kernel_rfl
theorem mixed : Try.prog.follows .mixedOrders = true := by kernel_rfl
end Go.Proofs.Ytchikjmhncojfaa.W
