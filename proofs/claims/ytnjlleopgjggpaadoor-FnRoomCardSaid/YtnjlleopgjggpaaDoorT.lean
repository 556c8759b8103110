/- The texts of the functions, edges struck, and closed facts on functions and types: written by program (gen.py). -/
import Derived.Test.YtnjlleopgjggpaaDoorD
import Derived.Test.YtnjlleopgjggpaaDoorProg
import Derived.Test.YtnjlleopgjggpaaDoorTa
namespace Go.Proofs.YtnjlleopgjggpaaDoor
open Go Go.RowKit Go.Proofs
/-- loop.example/g01062/impl.inRange -/
def c_impl_inRange : Cd :=
 (.seq (.reg [⟨(some 6), (.assign (.const (.bool false))), none⟩])
 (.seq (.reg [⟨(some 7), (.move (.tmp 0)), none⟩,
   ⟨(some 8), (.move (.tmp 1)), none⟩,
   ⟨(some 9), (.binOp .geq 3 (.tmp 7) (.tmp 8) 3), none⟩,
   ⟨(some 10), (.move (.tmp 9)), none⟩,
   ⟨(some 11), (.move (.tmp 0)), (some (10, true))⟩,
   ⟨(some 12), (.move (.tmp 2)), (some (10, true))⟩,
   ⟨(some 13), (.binOp .leq 3 (.tmp 11) (.tmp 12) 3), (some (10, true))⟩,
   ⟨(some 14), (.pick (.tmp 10) (.tmp 13) (.const (.bool false))), none⟩,
   ⟨(some 6), (.assign (.tmp 14)), none⟩])
 .ret))
theorem x_impl_inRange : Txt Tryd.prog 97 c_impl_inRange [.tmp 6] 3 := ⟨by kernel_rfl, by kernel_rfl, _, _, Tryd.func97, rfl, by kernel_rfl, by kernel_rfl, by kernel_rfl, rfl, by decide⟩
/-- loop.example/g01062/spec.l1In -/
def c_spec_l1In : Cd :=
 (.seq (.reg [⟨(some 6), (.assign (.const (.bool false))), none⟩])
 (.seq (.reg [⟨(some 7), (.move (.tmp 0)), none⟩,
   ⟨(some 8), (.move (.tmp 1)), none⟩,
   ⟨(some 9), (.binOp .geq 3 (.tmp 7) (.tmp 8) 3), none⟩,
   ⟨(some 10), (.move (.tmp 9)), none⟩,
   ⟨(some 11), (.move (.tmp 0)), (some (10, true))⟩,
   ⟨(some 12), (.move (.tmp 2)), (some (10, true))⟩,
   ⟨(some 13), (.binOp .leq 3 (.tmp 11) (.tmp 12) 3), (some (10, true))⟩,
   ⟨(some 14), (.pick (.tmp 10) (.tmp 13) (.const (.bool false))), none⟩,
   ⟨(some 6), (.assign (.tmp 14)), none⟩])
 .ret))
theorem x_spec_l1In : Txt Tryd.prog 99 c_spec_l1In [.tmp 6] 3 := ⟨by kernel_rfl, by kernel_rfl, _, _, Tryd.func99, rfl, by kernel_rfl, by kernel_rfl, by kernel_rfl, rfl, by decide⟩
/-- (*loop.example/g01062/spec.l1Cur).next -/
def c_spec_l1Cur_next : Cd :=
 (.seq (.reg [⟨(some 2), (.assign (.const (.int .i64 0))), none⟩])
 (.seq (.reg [⟨(some 3), (.assign (.const (.int .i64 0))), none⟩])
 (.seq (.seq (.regq [⟨(some 4), (.move (.tmp 0)), none⟩,
   ⟨(some 5), (.nilCheck (.tmp 4)), none⟩,
   ⟨(some 6), (.fieldAddr 83 (.tmp 5) 1), none⟩,
   ⟨(some 7), (.load 3 (.tmp 6)), none⟩,
   ⟨(some 8), (.move (.tmp 0)), none⟩,
   ⟨(some 9), (.nilCheck (.tmp 8)), none⟩,
   ⟨(some 10), (.fieldAddr 83 (.tmp 9) 0), none⟩,
   ⟨(some 11), (.load 22 (.tmp 10)), none⟩,
   ⟨(some 12), (.call (.mk (.builtin .len) #[(.tmp 11)] #[22])), none⟩,
   ⟨(some 13), (.binOp .lss 3 (.tmp 7) (.tmp 12) 3), none⟩])
 (.cond (.tmp 13) (.regq [⟨(some 14), (.move (.tmp 0)), none⟩,
   ⟨(some 15), (.nilCheck (.tmp 14)), none⟩,
   ⟨(some 16), (.fieldAddr 83 (.tmp 15) 0), none⟩,
   ⟨(some 17), (.load 22 (.tmp 16)), none⟩,
   ⟨(some 18), (.move (.tmp 0)), none⟩,
   ⟨(some 19), (.nilCheck (.tmp 18)), none⟩,
   ⟨(some 20), (.fieldAddr 83 (.tmp 19) 1), none⟩,
   ⟨(some 21), (.load 3 (.tmp 20)), none⟩,
   ⟨(some 22), (.indexAddr 22 (.tmp 17) (.tmp 21)), none⟩,
   ⟨(some 23), (.load 5 (.tmp 22)), none⟩,
   ⟨(some 24), (.convert 5 3 (.tmp 23)), none⟩,
   ⟨(some 3), (.assign (.tmp 24)), none⟩]) .skip))
 (.seq (.reg [⟨(some 25), (.move (.tmp 0)), none⟩,
   ⟨(some 26), (.nilCheck (.tmp 25)), none⟩,
   ⟨(some 27), (.fieldAddr 83 (.tmp 26) 1), none⟩,
   ⟨(some 28), (.load 3 (.tmp 27)), none⟩,
   ⟨(some 29), (.binOp .add 3 (.tmp 28) (.const (.int .i64 1)) 3), none⟩,
   ⟨(some 30), (.nilCheck (.tmp 25)), none⟩,
   ⟨(some 31), (.fieldAddr 83 (.tmp 30) 1), none⟩,
   ⟨none, (.store 3 (.tmp 31) (.tmp 29)), none⟩])
 (.seq (.reg [⟨(some 32), (.move (.tmp 0)), none⟩,
   ⟨(some 33), (.move (.tmp 0)), none⟩,
   ⟨(some 34), (.nilCheck (.tmp 33)), none⟩,
   ⟨(some 35), (.fieldAddr 83 (.tmp 34) 2), none⟩,
   ⟨(some 36), (.load 81 (.tmp 35)), none⟩,
   ⟨(some 37), (.binOp .mul 81 (.tmp 36) (.const (.int .u64 6364136223846793005)) 81), none⟩,
   ⟨(some 38), (.move (.tmp 3)), none⟩,
   ⟨(some 39), (.convert 3 81 (.tmp 38)), none⟩,
   ⟨(some 40), (.binOp .add 81 (.tmp 37) (.tmp 39) 81), none⟩,
   ⟨(some 41), (.binOp .add 81 (.tmp 40) (.const (.int .u64 381907)) 81), none⟩,
   ⟨(some 42), (.nilCheck (.tmp 32)), none⟩,
   ⟨(some 43), (.fieldAddr 83 (.tmp 42) 2), none⟩,
   ⟨none, (.store 81 (.tmp 43) (.tmp 41)), none⟩])
 (.seq (.seq (.regq [⟨(some 44), (.move (.tmp 0)), none⟩,
   ⟨(some 45), (.nilCheck (.tmp 44)), none⟩,
   ⟨(some 46), (.fieldAddr 83 (.tmp 45) 1), none⟩,
   ⟨(some 47), (.load 3 (.tmp 46)), none⟩,
   ⟨(some 48), (.move (.tmp 0)), none⟩,
   ⟨(some 49), (.nilCheck (.tmp 48)), none⟩,
   ⟨(some 50), (.fieldAddr 83 (.tmp 49) 0), none⟩,
   ⟨(some 51), (.load 22 (.tmp 50)), none⟩,
   ⟨(some 52), (.call (.mk (.builtin .len) #[(.tmp 51)] #[22])), none⟩,
   ⟨(some 53), (.binOp .leq 3 (.tmp 47) (.tmp 52) 3), none⟩])
 (.cond (.tmp 53) (.seq (.reg [⟨(some 54), (.move (.tmp 3)), none⟩,
   ⟨(some 2), (.assign (.tmp 54)), none⟩])
 .ret) .skip))
 (.seq (.reg [⟨(some 55), (.move (.tmp 0)), none⟩,
   ⟨(some 56), (.nilCheck (.tmp 55)), none⟩,
   ⟨(some 57), (.fieldAddr 83 (.tmp 56) 2), none⟩,
   ⟨(some 58), (.load 81 (.tmp 57)), none⟩,
   ⟨(some 59), (.binOp .shr 81 (.tmp 58) (.const (.int .u64 40)) 138), none⟩,
   ⟨(some 60), (.binOp .and 81 (.tmp 59) (.const (.int .u64 255)) 81), none⟩,
   ⟨(some 61), (.convert 81 3 (.tmp 60)), none⟩,
   ⟨(some 2), (.assign (.tmp 61)), none⟩])
 .ret)))))))
theorem x_spec_l1Cur_next : Txt Tryd.prog 124 c_spec_l1Cur_next [.tmp 2] 1 := ⟨by kernel_rfl, by kernel_rfl, _, _, Tryd.func124, rfl, by kernel_rfl, by kernel_rfl, by kernel_rfl, rfl, by decide⟩
/-- slices.ContainsFunc[[]loop.example/g01062/impl.Absentee,loop.example/g01062/impl.Absentee] -/
def c_slices_ContainsFunc_Absentee : Cd :=
 (.seq (.reg [⟨(some 4), (.assign (.const (.bool false))), none⟩])
 (.seq (.reg [⟨(some 5), (.move (.tmp 0)), none⟩,
   ⟨(some 6), (.move (.tmp 1)), none⟩,
   ⟨(some 7), (.call (.mk (.value (.func 127)) #[(.tmp 5), (.tmp 6)] #[25, 125])), none⟩,
   ⟨(some 8), (.binOp .geq 3 (.tmp 7) (.const (.int .i64 0)) 3), none⟩,
   ⟨(some 4), (.assign (.tmp 8)), none⟩])
 .ret))
theorem x_slices_ContainsFunc_Absentee : Txt Tryd.prog 125 c_slices_ContainsFunc_Absentee [.tmp 4] 2 := ⟨by kernel_rfl, by kernel_rfl, _, _, Tryd.func125, rfl, by kernel_rfl, by kernel_rfl, by kernel_rfl, rfl, by decide⟩
/-- loop.example/g01062/impl.areAbsentees closure 1 -/
def c_impl_areAbsentees_1 : Cd :=
 (.seq (.reg [⟨(some 2), (.box 40 (.tmp 0)), none⟩,
   ⟨(some 3), (.assign (.const (.bool false))), none⟩])
 (.seq (.reg [⟨(some 4), (.fieldAddr 40 (.tmp 2) 0), none⟩,
   ⟨(some 5), (.load 3 (.tmp 4)), none⟩,
   ⟨(some 6), (.fieldAddr 40 (.tmp 1) 0), none⟩,
   ⟨(some 7), (.load 3 (.tmp 6)), none⟩,
   ⟨(some 8), (.binOp .eql 3 (.tmp 5) (.tmp 7) 3), none⟩,
   ⟨(some 3), (.assign (.tmp 8)), none⟩])
 .ret))
theorem x_impl_areAbsentees_1 : Txt Tryd.prog 126 c_impl_areAbsentees_1 [.tmp 3] 2 := ⟨by kernel_rfl, by kernel_rfl, _, _, Tryd.func126, rfl, by kernel_rfl, by kernel_rfl, by kernel_rfl, rfl, by decide⟩
/-- slices.IndexFunc[[]loop.example/g01062/impl.Absentee,loop.example/g01062/impl.Absentee] -/
def c_slices_IndexFunc_Absentee : Cd :=
 (.seq (.reg [⟨(some 4), (.assign (.const (.int .i64 0))), none⟩])
 (.seq (.seq (.reg [⟨(some 6), (.move (.tmp 0)), none⟩,
   ⟨(some 7), (.call (.mk (.builtin .len) #[(.tmp 6)] #[25])), none⟩,
   ⟨(some 8), (.move (.const (.int .i64 0))), none⟩])
 (.block 0 (.loop (.seq (.reg [⟨(some 9), (.binOp .lss 3 (.tmp 8) (.tmp 7) 3), none⟩])
 (.seq (.cond (.tmp 9) .skip (.exit 0))
 (.seq (.block 1 (.seq (.reg [⟨(some 10), (.move (.tmp 8)), none⟩,
   ⟨(some 5), (.assign (.tmp 10)), none⟩])
 (.seq (.reg [⟨(some 11), (.move (.tmp 1)), none⟩,
   ⟨(some 12), (.move (.tmp 0)), none⟩,
   ⟨(some 13), (.move (.tmp 5)), none⟩,
   ⟨(some 14), (.indexAddr 25 (.tmp 12) (.tmp 13)), none⟩,
   ⟨(some 15), (.load 40 (.tmp 14)), none⟩,
   ⟨(some 16), (.call (.mk (.value (.tmp 11)) #[(.tmp 15)] #[40])), none⟩])
 (.cond (.tmp 16) (.seq (.reg [⟨(some 17), (.move (.tmp 5)), none⟩,
   ⟨(some 4), (.assign (.tmp 17)), none⟩])
 .ret) .skip))))
 (.reg [⟨(some 18), (.binOp .add 3 (.tmp 8) (.const (.int .i64 1)) 3), none⟩,
   ⟨(some 8), (.move (.tmp 18)), none⟩])))))))
 (.seq (.reg [⟨(some 4), (.assign (.const (.int .i64 (-1)))), none⟩])
 .ret)))
theorem x_slices_IndexFunc_Absentee : Txt Tryd.prog 127 c_slices_IndexFunc_Absentee [.tmp 4] 2 := ⟨by kernel_rfl, by kernel_rfl, _, _, Tryd.func127, rfl, by kernel_rfl, by kernel_rfl, by kernel_rfl, rfl, by decide⟩
/-- loop.example/g01062/impl.roomBids closure 1 -/
def c_impl_roomBids_1 : Cd :=
 (.seq (.reg [⟨(some 3), (.box 40 (.tmp 0)), none⟩,
   ⟨(some 4), (.assign (.const (.bool false))), none⟩])
 (.seq (.regq [⟨(some 5), (.fieldAddr 40 (.tmp 3) 1), none⟩,
   ⟨(some 6), (.load 3 (.tmp 5)), none⟩,
   ⟨(some 7), (.load 3 (.tmp 1)), none⟩,
   ⟨(some 8), (.binOp .geq 3 (.tmp 6) (.tmp 7) 3), none⟩,
   ⟨(some 9), (.move (.tmp 8)), none⟩,
   ⟨(some 10), (.load 30 (.tmp 2)), (some (9, true))⟩,
   ⟨(some 11), (.call (.mk (.builtin .len) #[(.tmp 10)] #[30])), (some (9, true))⟩,
   ⟨(some 12), (.binOp .eql 3 (.tmp 11) (.const (.int .i64 0)) 3), (some (9, true))⟩,
   ⟨(some 13), (.move (.tmp 12)), (some (9, true))⟩,
   ⟨(some 14), (.load 30 (.tmp 2)), (some (13, false))⟩,
   ⟨(some 15), (.load 30 (.tmp 2)), (some (13, false))⟩,
   ⟨(some 16), (.call (.mk (.builtin .len) #[(.tmp 15)] #[30])), (some (13, false))⟩,
   ⟨(some 17), (.binOp .sub 3 (.tmp 16) (.const (.int .i64 1)) 3), (some (13, false))⟩,
   ⟨(some 18), (.indexAddr 30 (.tmp 14) (.tmp 17)), (some (13, false))⟩,
   ⟨(some 19), (.load 3 (.tmp 18)), (some (13, false))⟩,
   ⟨(some 20), (.fieldAddr 40 (.tmp 3) 0), (some (13, false))⟩,
   ⟨(some 21), (.load 3 (.tmp 20)), (some (13, false))⟩,
   ⟨(some 22), (.binOp .neq 3 (.tmp 19) (.tmp 21) 3), (some (13, false))⟩,
   ⟨(some 23), (.pick (.tmp 13) (.const (.bool true)) (.tmp 22)), (some (9, true))⟩,
   ⟨(some 24), (.pick (.tmp 9) (.tmp 23) (.const (.bool false))), none⟩,
   ⟨(some 4), (.assign (.tmp 24)), none⟩])
 .ret))
theorem x_impl_roomBids_1 : Txt Tryd.prog 128 c_impl_roomBids_1 [.tmp 4] 3 := ⟨by kernel_rfl, by kernel_rfl, _, _, Tryd.func128, rfl, by kernel_rfl, by kernel_rfl, by kernel_rfl, rfl, by decide⟩
/-- loop.example/g01062/spec.l22Bid -/
def c_spec_l22Bid : Cd :=
 (.seq (.reg [⟨(some 2), (.assign (.const (.bool false))), none⟩])
 (.seq (.reg [⟨(some 3), (.move (.tmp 0)), none⟩,
   ⟨(some 4), (.call (.mk (.value (.func 99)) #[(.tmp 3), (.const (.int .i64 0)), (.const (.int .i64 20000))] #[3, 3, 3])), none⟩,
   ⟨(some 2), (.assign (.tmp 4)), none⟩])
 .ret))
theorem x_spec_l22Bid : Txt Tryd.prog 129 c_spec_l22Bid [.tmp 2] 1 := ⟨by kernel_rfl, by kernel_rfl, _, _, Tryd.func129, rfl, by kernel_rfl, by kernel_rfl, by kernel_rfl, rfl, by decide⟩
/-- loop.example/g01062/impl.couldWin closure 1 -/
def c_impl_couldWin_1 : Cd :=
 (.seq (.reg [⟨(some 2), (.box 40 (.tmp 0)), none⟩,
   ⟨(some 3), (.assign (.const (.bool false))), none⟩])
 (.seq (.reg [⟨(some 4), (.fieldAddr 40 (.tmp 2) 0), none⟩,
   ⟨(some 5), (.load 3 (.tmp 4)), none⟩,
   ⟨(some 6), (.load 3 (.tmp 1)), none⟩,
   ⟨(some 7), (.binOp .eql 3 (.tmp 5) (.tmp 6) 3), none⟩,
   ⟨(some 3), (.assign (.tmp 7)), none⟩])
 .ret))
theorem x_impl_couldWin_1 : Txt Tryd.prog 130 c_impl_couldWin_1 [.tmp 3] 2 := ⟨by kernel_rfl, by kernel_rfl, _, _, Tryd.func130, rfl, by kernel_rfl, by kernel_rfl, by kernel_rfl, rfl, by decide⟩
/-- slices.Clone[[]loop.example/g01062/impl.Absentee,loop.example/g01062/impl.Absentee] -/
def c_slices_Clone_Absentee : Cd :=
 (.seq (.reg [⟨(some 2), (.assign (.const (.slice none 0 0))), none⟩])
 (.seq (.seq (.reg [⟨(some 3), (.move (.tmp 0)), none⟩,
   ⟨(some 4), (.binOp .eql 25 (.tmp 3) (.const (.slice none 0 0)) 25), none⟩])
 (.cond (.tmp 4) (.seq (.reg [⟨(some 2), (.assign (.const (.slice none 0 0))), none⟩])
 .ret) .skip))
 (.seq (.reg [⟨(some 5), (.buildSlice 25 0 #[]), none⟩,
   ⟨(some 6), (.move (.tmp 0)), none⟩,
   ⟨(some 7), (.call (.mk (.builtin .append) #[(.tmp 5), (.tmp 6)] #[25, 25])), none⟩,
   ⟨(some 2), (.assign (.tmp 7)), none⟩])
 .ret)))
theorem x_slices_Clone_Absentee : Txt Tryd.prog 131 c_slices_Clone_Absentee [.tmp 2] 1 := ⟨by kernel_rfl, by kernel_rfl, _, _, Tryd.func131, rfl, by kernel_rfl, by kernel_rfl, by kernel_rfl, rfl, by decide⟩
theorem qs2 : qSize Tryd.prog 2 = some 1 := by kernel_rfl
theorem qb2 : qBytes Tryd.prog 2 = some 8 := by kernel_rfl
theorem qa2 : qAgg Tryd.prog 2 = some false := by kernel_rfl
theorem qz2 : qZero Tryd.prog 2 = some (.int .i64 0) := by kernel_rfl
theorem qk2 : qKind Tryd.prog 2 = some .i64 := by kernel_rfl
theorem qui2 : (Tryd.prog.underlying 2).isSome = true := by kernel_rfl
theorem qs3 : qSize Tryd.prog 3 = some 1 := by kernel_rfl
theorem qb3 : qBytes Tryd.prog 3 = some 8 := by kernel_rfl
theorem qa3 : qAgg Tryd.prog 3 = some false := by kernel_rfl
theorem qz3 : qZero Tryd.prog 3 = some (.int .i64 0) := by kernel_rfl
theorem qk3 : qKind Tryd.prog 3 = some .i64 := by kernel_rfl
theorem qui3 : (Tryd.prog.underlying 3).isSome = true := by kernel_rfl
theorem qs4 : qSize Tryd.prog 4 = some 1 := by kernel_rfl
theorem qb4 : qBytes Tryd.prog 4 = some 1 := by kernel_rfl
theorem qa4 : qAgg Tryd.prog 4 = some false := by kernel_rfl
theorem qz4 : qZero Tryd.prog 4 = some (.bool false) := by kernel_rfl
theorem qo4 : qBool Tryd.prog 4 = true := by kernel_rfl
theorem qs5 : qSize Tryd.prog 5 = some 1 := by kernel_rfl
theorem qb5 : qBytes Tryd.prog 5 = some 1 := by kernel_rfl
theorem qa5 : qAgg Tryd.prog 5 = some false := by kernel_rfl
theorem qz5 : qZero Tryd.prog 5 = some (.int .u8 0) := by kernel_rfl
theorem qk5 : qKind Tryd.prog 5 = some .u8 := by kernel_rfl
theorem qui5 : (Tryd.prog.underlying 5).isSome = true := by kernel_rfl
theorem qs9 : qSize Tryd.prog 9 = some 1 := by kernel_rfl
theorem qb9 : qBytes Tryd.prog 9 = some 16 := by kernel_rfl
theorem qa9 : qAgg Tryd.prog 9 = some false := by kernel_rfl
theorem qz9 : qZero Tryd.prog 9 = some (.string ByteArray.empty) := by kernel_rfl
theorem qt9 : qStr Tryd.prog 9 = true := by kernel_rfl
theorem qs22 : qSize Tryd.prog 22 = some 1 := by kernel_rfl
theorem qb22 : qBytes Tryd.prog 22 = some 24 := by kernel_rfl
theorem qa22 : qAgg Tryd.prog 22 = some false := by kernel_rfl
theorem qz22 : qZero Tryd.prog 22 = some (.slice none 0 0) := by kernel_rfl
theorem qe22 : qElem Tryd.prog 22 = some 5 := by kernel_rfl
theorem qs24 : qSize Tryd.prog 24 = some 1 := by kernel_rfl
theorem qb24 : qBytes Tryd.prog 24 = some 24 := by kernel_rfl
theorem qa24 : qAgg Tryd.prog 24 = some false := by kernel_rfl
theorem qz24 : qZero Tryd.prog 24 = some (.slice none 0 0) := by kernel_rfl
theorem qe24 : qElem Tryd.prog 24 = some 95 := by kernel_rfl
theorem qs25 : qSize Tryd.prog 25 = some 1 := by kernel_rfl
theorem qb25 : qBytes Tryd.prog 25 = some 24 := by kernel_rfl
theorem qa25 : qAgg Tryd.prog 25 = some false := by kernel_rfl
theorem qz25 : qZero Tryd.prog 25 = some (.slice none 0 0) := by kernel_rfl
theorem qe25 : qElem Tryd.prog 25 = some 40 := by kernel_rfl
theorem qs30 : qSize Tryd.prog 30 = some 1 := by kernel_rfl
theorem qb30 : qBytes Tryd.prog 30 = some 24 := by kernel_rfl
theorem qa30 : qAgg Tryd.prog 30 = some false := by kernel_rfl
theorem qz30 : qZero Tryd.prog 30 = some (.slice none 0 0) := by kernel_rfl
theorem qe30 : qElem Tryd.prog 30 = some 3 := by kernel_rfl
theorem qs40 : qSize Tryd.prog 40 = some 2 := by kernel_rfl
theorem qb40 : qBytes Tryd.prog 40 = some 16 := by kernel_rfl
theorem qa40 : qAgg Tryd.prog 40 = some true := by kernel_rfl
theorem qz40 : qZero Tryd.prog 40 = some (.agg #[.int .i64 0, .int .i64 0]) := by kernel_rfl
theorem qg40 : qFields Tryd.prog 40 = some [(0, 1), (1, 1)] := by kernel_rfl
theorem qi40 : qEqS Tryd.prog 40 2 = true := by kernel_rfl
theorem qf40_0 : qField Tryd.prog 40 0 = some (0, 3) := by kernel_rfl
theorem qf40_1 : qField Tryd.prog 40 1 = some (1, 3) := by kernel_rfl
theorem qs48 : qSize Tryd.prog 48 = some 1 := by kernel_rfl
theorem qb48 : qBytes Tryd.prog 48 = some 24 := by kernel_rfl
theorem qa48 : qAgg Tryd.prog 48 = some false := by kernel_rfl
theorem qz48 : qZero Tryd.prog 48 = some (.slice none 0 0) := by kernel_rfl
theorem qe48 : qElem Tryd.prog 48 = some 63 := by kernel_rfl
theorem qs63 : qSize Tryd.prog 63 = some 3 := by kernel_rfl
theorem qb63 : qBytes Tryd.prog 63 = some 24 := by kernel_rfl
theorem qa63 : qAgg Tryd.prog 63 = some true := by kernel_rfl
theorem qz63 : qZero Tryd.prog 63 = some (.agg #[.int .i64 0, .int .i64 0, .int .i64 0]) := by kernel_rfl
theorem qg63 : qFields Tryd.prog 63 = some [(0, 1), (1, 1), (2, 1)] := by kernel_rfl
theorem qi63 : qEqS Tryd.prog 63 3 = true := by kernel_rfl
theorem qf63_0 : qField Tryd.prog 63 0 = some (0, 3) := by kernel_rfl
theorem qf63_1 : qField Tryd.prog 63 1 = some (1, 3) := by kernel_rfl
theorem qf63_2 : qField Tryd.prog 63 2 = some (2, 3) := by kernel_rfl
theorem qs66 : qSize Tryd.prog 66 = some 1 := by kernel_rfl
theorem qb66 : qBytes Tryd.prog 66 = some 24 := by kernel_rfl
theorem qa66 : qAgg Tryd.prog 66 = some false := by kernel_rfl
theorem qz66 : qZero Tryd.prog 66 = some (.slice none 0 0) := by kernel_rfl
theorem qe66 : qElem Tryd.prog 66 = some 72 := by kernel_rfl
theorem qs72 : qSize Tryd.prog 72 = some 4 := by kernel_rfl
theorem qb72 : qBytes Tryd.prog 72 = some 56 := by kernel_rfl
theorem qa72 : qAgg Tryd.prog 72 = some true := by kernel_rfl
theorem qz72 : qZero Tryd.prog 72 = some (.agg #[.int .i64 0, .string ByteArray.empty, .int .i64 0, .slice none 0 0]) := by kernel_rfl
theorem qg72 : qFields Tryd.prog 72 = some [(0, 1), (1, 1), (2, 1), (3, 1)] := by kernel_rfl
theorem qf72_0 : qField Tryd.prog 72 0 = some (0, 3) := by kernel_rfl
theorem qf72_1 : qField Tryd.prog 72 1 = some (1, 9) := by kernel_rfl
theorem qf72_2 : qField Tryd.prog 72 2 = some (2, 3) := by kernel_rfl
theorem qf72_3 : qField Tryd.prog 72 3 = some (3, 30) := by kernel_rfl
theorem qs80 : qSize Tryd.prog 80 = some 1 := by kernel_rfl
theorem qb80 : qBytes Tryd.prog 80 = some 8 := by kernel_rfl
theorem qa80 : qAgg Tryd.prog 80 = some false := by kernel_rfl
theorem qz80 : qZero Tryd.prog 80 = some (.pointer none) := by kernel_rfl
theorem qs81 : qSize Tryd.prog 81 = some 1 := by kernel_rfl
theorem qb81 : qBytes Tryd.prog 81 = some 8 := by kernel_rfl
theorem qa81 : qAgg Tryd.prog 81 = some false := by kernel_rfl
theorem qz81 : qZero Tryd.prog 81 = some (.int .u64 0) := by kernel_rfl
theorem qk81 : qKind Tryd.prog 81 = some .u64 := by kernel_rfl
theorem qui81 : (Tryd.prog.underlying 81).isSome = true := by kernel_rfl
theorem qs83 : qSize Tryd.prog 83 = some 3 := by kernel_rfl
theorem qb83 : qBytes Tryd.prog 83 = some 40 := by kernel_rfl
theorem qa83 : qAgg Tryd.prog 83 = some true := by kernel_rfl
theorem qz83 : qZero Tryd.prog 83 = some (.agg #[.slice none 0 0, .int .i64 0, .int .u64 0]) := by kernel_rfl
theorem qg83 : qFields Tryd.prog 83 = some [(0, 1), (1, 1), (2, 1)] := by kernel_rfl
theorem qf83_0 : qField Tryd.prog 83 0 = some (0, 22) := by kernel_rfl
theorem qf83_1 : qField Tryd.prog 83 1 = some (1, 3) := by kernel_rfl
theorem qf83_2 : qField Tryd.prog 83 2 = some (2, 81) := by kernel_rfl
theorem qs95 : qSize Tryd.prog 95 = some 2 := by kernel_rfl
theorem qb95 : qBytes Tryd.prog 95 = some 16 := by kernel_rfl
theorem qa95 : qAgg Tryd.prog 95 = some true := by kernel_rfl
theorem qz95 : qZero Tryd.prog 95 = some (.agg #[.int .i64 0, .int .i64 0]) := by kernel_rfl
theorem qg95 : qFields Tryd.prog 95 = some [(0, 1), (1, 1)] := by kernel_rfl
theorem qi95 : qEqS Tryd.prog 95 2 = true := by kernel_rfl
theorem qf95_0 : qField Tryd.prog 95 0 = some (0, 3) := by kernel_rfl
theorem qf95_1 : qField Tryd.prog 95 1 = some (1, 3) := by kernel_rfl
theorem qs110 : qSize Tryd.prog 110 = some 1 := by kernel_rfl
theorem qb110 : qBytes Tryd.prog 110 = some 8 := by kernel_rfl
theorem qa110 : qAgg Tryd.prog 110 = some false := by kernel_rfl
theorem qz110 : qZero Tryd.prog 110 = some (.pointer none) := by kernel_rfl
theorem qs121 : qSize Tryd.prog 121 = some 5 := by kernel_rfl
theorem qb121 : qBytes Tryd.prog 121 = some 80 := by kernel_rfl
theorem qa121 : qAgg Tryd.prog 121 = some true := by kernel_rfl
theorem qz121 : qZero Tryd.prog 121 = some (.agg #[.string ByteArray.empty, .string ByteArray.empty, .string ByteArray.empty, .string ByteArray.empty, .string ByteArray.empty]) := by kernel_rfl
theorem qg121 : qFields Tryd.prog 121 = some [(0, 1), (1, 1), (2, 1), (3, 1), (4, 1)] := by kernel_rfl
theorem qr121 : qArr Tryd.prog 121 = some (5, 9) := by kernel_rfl
theorem qs122 : qSize Tryd.prog 122 = some 1 := by kernel_rfl
theorem qb122 : qBytes Tryd.prog 122 = some 24 := by kernel_rfl
theorem qa122 : qAgg Tryd.prog 122 = some false := by kernel_rfl
theorem qz122 : qZero Tryd.prog 122 = some (.slice none 0 0) := by kernel_rfl
theorem qe122 : qElem Tryd.prog 122 = some 9 := by kernel_rfl
theorem qs138 : qSize Tryd.prog 138 = some 1 := by kernel_rfl
theorem qb138 : qBytes Tryd.prog 138 = some 8 := by kernel_rfl
theorem qa138 : qAgg Tryd.prog 138 = some false := by kernel_rfl
theorem qz138 : qZero Tryd.prog 138 = some (.int .u64 0) := by kernel_rfl
theorem qk138 : qKind Tryd.prog 138 = some .u64 := by kernel_rfl
theorem qui138 : (Tryd.prog.underlying 138).isSome = true := by kernel_rfl
theorem qs148 : qSize Tryd.prog 148 = some 20 := by kernel_rfl
theorem qb148 : qBytes Tryd.prog 148 = some 160 := by kernel_rfl
theorem qa148 : qAgg Tryd.prog 148 = some true := by kernel_rfl
theorem qz148 : qZero Tryd.prog 148 = some (.agg #[.int .u64 0, .int .u64 0, .int .u64 0, .int .u64 0, .int .u64 0, .int .u64 0, .int .u64 0, .int .u64 0, .int .u64 0, .int .u64 0, .int .u64 0, .int .u64 0, .int .u64 0, .int .u64 0, .int .u64 0, .int .u64 0, .int .u64 0, .int .u64 0, .int .u64 0, .int .u64 0]) := by kernel_rfl
theorem qg148 : qFields Tryd.prog 148 = some [(0, 1), (1, 1), (2, 1), (3, 1), (4, 1), (5, 1), (6, 1), (7, 1), (8, 1), (9, 1), (10, 1), (11, 1), (12, 1), (13, 1), (14, 1), (15, 1), (16, 1), (17, 1), (18, 1), (19, 1)] := by kernel_rfl
theorem qr148 : qArr Tryd.prog 148 = some (20, 81) := by kernel_rfl
theorem qs153 : qSize Tryd.prog 153 = some 32 := by kernel_rfl
theorem qb153 : qBytes Tryd.prog 153 = some 32 := by kernel_rfl
theorem qa153 : qAgg Tryd.prog 153 = some true := by kernel_rfl
theorem qz153 : qZero Tryd.prog 153 = some (.agg #[.int .u8 0, .int .u8 0, .int .u8 0, .int .u8 0, .int .u8 0, .int .u8 0, .int .u8 0, .int .u8 0, .int .u8 0, .int .u8 0, .int .u8 0, .int .u8 0, .int .u8 0, .int .u8 0, .int .u8 0, .int .u8 0, .int .u8 0, .int .u8 0, .int .u8 0, .int .u8 0, .int .u8 0, .int .u8 0, .int .u8 0, .int .u8 0, .int .u8 0, .int .u8 0, .int .u8 0, .int .u8 0, .int .u8 0, .int .u8 0, .int .u8 0, .int .u8 0]) := by kernel_rfl
theorem qg153 : qFields Tryd.prog 153 = some [(0, 1), (1, 1), (2, 1), (3, 1), (4, 1), (5, 1), (6, 1), (7, 1), (8, 1), (9, 1), (10, 1), (11, 1), (12, 1), (13, 1), (14, 1), (15, 1), (16, 1), (17, 1), (18, 1), (19, 1), (20, 1), (21, 1), (22, 1), (23, 1), (24, 1), (25, 1), (26, 1), (27, 1), (28, 1), (29, 1), (30, 1), (31, 1)] := by kernel_rfl
theorem qr153 : qArr Tryd.prog 153 = some (32, 5) := by kernel_rfl
theorem qs154 : qSize Tryd.prog 154 = some 64 := by kernel_rfl
theorem qb154 : qBytes Tryd.prog 154 = some 64 := by kernel_rfl
theorem qa154 : qAgg Tryd.prog 154 = some true := by kernel_rfl
theorem qg154 : qFields Tryd.prog 154 = some [(0, 1), (1, 1), (2, 1), (3, 1), (4, 1), (5, 1), (6, 1), (7, 1), (8, 1), (9, 1), (10, 1), (11, 1), (12, 1), (13, 1), (14, 1), (15, 1), (16, 1), (17, 1), (18, 1), (19, 1), (20, 1), (21, 1), (22, 1), (23, 1), (24, 1), (25, 1), (26, 1), (27, 1), (28, 1), (29, 1), (30, 1), (31, 1), (32, 1), (33, 1), (34, 1), (35, 1), (36, 1), (37, 1), (38, 1), (39, 1), (40, 1), (41, 1), (42, 1), (43, 1), (44, 1), (45, 1), (46, 1), (47, 1), (48, 1), (49, 1), (50, 1), (51, 1), (52, 1), (53, 1), (54, 1), (55, 1), (56, 1), (57, 1), (58, 1), (59, 1), (60, 1), (61, 1), (62, 1), (63, 1)] := by kernel_rfl
theorem qr154 : qArr Tryd.prog 154 = some (64, 5) := by kernel_rfl
set_option linter.defProp false
/-- The facts, in one name. -/
def fcT := And.intro @qs2 <| And.intro @qb2 <| And.intro @qa2 <| And.intro @qz2 <| And.intro @qk2 <| And.intro @qui2 <| And.intro @qs3 <| And.intro @qb3 <| And.intro @qa3 <| And.intro @qz3 <| And.intro @qk3 <| And.intro @qui3 <| And.intro @qs4 <| And.intro @qb4 <| And.intro @qa4 <| And.intro @qz4 <| And.intro @qo4 <| And.intro @qs5 <| And.intro @qb5 <| And.intro @qa5 <| And.intro @qz5 <| And.intro @qk5 <| And.intro @qui5 <| And.intro @qs9 <| And.intro @qb9 <| And.intro @qa9 <| And.intro @qz9 <| And.intro @qt9 <| And.intro @qs22 <| And.intro @qb22 <| And.intro @qa22 <| And.intro @qz22 <| And.intro @qe22 <| And.intro @qs24 <| And.intro @qb24 <| And.intro @qa24 <| And.intro @qz24 <| And.intro @qe24 <| And.intro @qs25 <| And.intro @qb25 <| And.intro @qa25 <| And.intro @qz25 <| And.intro @qe25 <| And.intro @qs30 <| And.intro @qb30 <| And.intro @qa30 <| And.intro @qz30 <| And.intro @qe30 <| And.intro @qs40 <| And.intro @qb40 <| And.intro @qa40 <| And.intro @qz40 <| And.intro @qg40 <| And.intro @qi40 <| And.intro @qf40_0 <| And.intro @qf40_1 <| And.intro @qs48 <| And.intro @qb48 <| And.intro @qa48 <| And.intro @qz48 <| And.intro @qe48 <| And.intro @qs63 <| And.intro @qb63 <| And.intro @qa63 <| And.intro @qz63 <| And.intro @qg63 <| And.intro @qi63 <| And.intro @qf63_0 <| And.intro @qf63_1 <| And.intro @qf63_2 <| And.intro @qs66 <| And.intro @qb66 <| And.intro @qa66 <| And.intro @qz66 <| And.intro @qe66 <| And.intro @qs72 <| And.intro @qb72 <| And.intro @qa72 <| And.intro @qz72 <| And.intro @qg72 <| And.intro @qf72_0 <| And.intro @qf72_1 <| And.intro @qf72_2 <| And.intro @qf72_3 <| And.intro @qs80 <| And.intro @qb80 <| And.intro @qa80 <| And.intro @qz80 <| And.intro @qs81 <| And.intro @qb81 <| And.intro @qa81 <| And.intro @qz81 <| And.intro @qk81 <| And.intro @qui81 <| And.intro @qs83 <| And.intro @qb83 <| And.intro @qa83 <| And.intro @qz83 <| And.intro @qg83 <| And.intro @qf83_0 <| And.intro @qf83_1 <| And.intro @qf83_2 <| And.intro @qs95 <| And.intro @qb95 <| And.intro @qa95 <| And.intro @qz95 <| And.intro @qg95 <| And.intro @qi95 <| And.intro @qf95_0 <| And.intro @qf95_1 <| And.intro @qs110 <| And.intro @qb110 <| And.intro @qa110 <| And.intro @qz110 <| And.intro @qs121 <| And.intro @qb121 <| And.intro @qa121 <| And.intro @qz121 <| And.intro @qg121 <| And.intro @qr121 <| And.intro @qs122 <| And.intro @qb122 <| And.intro @qa122 <| And.intro @qz122 <| And.intro @qe122 <| And.intro @qs138 <| And.intro @qb138 <| And.intro @qa138 <| And.intro @qz138 <| And.intro @qk138 <| And.intro @qui138 <| And.intro @qs148 <| And.intro @qb148 <| And.intro @qa148 <| And.intro @qz148 <| And.intro @qg148 <| And.intro @qr148 <| And.intro @qs153 <| And.intro @qb153 <| And.intro @qa153 <| And.intro @qz153 <| And.intro @qg153 <| And.intro @qr153 <| And.intro @qs154 <| And.intro @qb154 <| And.intro @qa154 <| And.intro @qg154 <| And.intro @qr154 <| True.intro
end Go.Proofs.YtnjlleopgjggpaaDoor
