/- The texts of the functions, edges struck, and closed facts on functions and types: written by program (gen.py). -/
import Derived.Test.YtmmbolempcpcjaaW
import Derived.Test.YtmmbolempcpcjaaProg
namespace Go.Proofs.Ytmmbolempcpcjaa
open Go Go.RowKit Go.Proofs
/-- loop.example/g01062/laws.FnExactWithoutJudge -/
def c_laws_FnExactWithoutJudge : Cd :=
 (.seq (.reg [⟨(some 4), (.assign (.const (.bool false))), none⟩])
 (.seq (.reg [⟨(some 5), (.assign (.const (.int .i64 1048576))), none⟩])
 (.seq (.reg [⟨(some 16), (.move (.tmp 0)), none⟩,
   ⟨(some 17), (.move (.tmp 5)), none⟩,
   ⟨(some 18), (.call (.mk (.value (.func 14)) #[(.tmp 16), (.tmp 17)] #[22, 3])), none⟩,
   ⟨(some 5), (.assign (.tmp 18)), none⟩])
 (.seq (.seq (.reg [⟨(some 19), (.move (.tmp 5)), none⟩,
   ⟨(some 20), (.binOp .lss 3 (.tmp 19) (.const (.int .i64 0)) 3), none⟩])
 (.cond (.tmp 20) (.seq (.reg [⟨(some 4), (.assign (.const (.bool true))), none⟩])
 .ret) .skip))
 (.seq (.reg [⟨(some 22), (.move (.tmp 0)), none⟩,
   ⟨(some 23), (.call (.mk (.value (.func 16)) #[(.tmp 22)] #[22])), none⟩,
   ⟨(some 24), (.move (.tmp 1)), none⟩,
   ⟨(some 25), (.call (.mk (.value (.func 32)) #[(.tmp 23), (.tmp 24)] #[25, 3])), none⟩,
   ⟨(some 21), (.move (.tmp 25)), none⟩,
   ⟨(some 26), (.extract (.tmp 21) 0), none⟩,
   ⟨(some 27), (.extract (.tmp 21) 1), none⟩,
   ⟨(some 6), (.assign (.tmp 26)), none⟩,
   ⟨(some 7), (.assign (.tmp 27)), none⟩])
 (.seq (.reg [⟨(some 28), (.move (.tmp 0)), none⟩,
   ⟨(some 29), (.call (.mk (.value (.func 16)) #[(.tmp 28)] #[22])), none⟩,
   ⟨(some 8), (.assign (.tmp 29)), none⟩])
 (.seq (.reg [⟨(some 31), (.move (.tmp 8)), none⟩,
   ⟨(some 32), (.move (.tmp 1)), none⟩,
   ⟨(some 33), (.call (.mk (.value (.func 33)) #[(.tmp 31), (.tmp 32)] #[25, 3])), none⟩,
   ⟨(some 30), (.move (.tmp 33)), none⟩,
   ⟨(some 34), (.extract (.tmp 30) 0), none⟩,
   ⟨(some 35), (.extract (.tmp 30) 1), none⟩,
   ⟨(some 9), (.assign (.tmp 34)), none⟩,
   ⟨(some 10), (.assign (.tmp 35)), none⟩])
 (.seq (.seq (.reg [⟨(some 36), (.move (.tmp 9)), none⟩,
   ⟨(some 37), (.move (.tmp 6)), none⟩,
   ⟨(some 38), (.call (.mk (.value (.func 18)) #[(.tmp 36), (.tmp 37)] #[25, 25])), none⟩,
   ⟨(some 39), (.unOp .not 4 (.tmp 38)), none⟩,
   ⟨(some 40), (.move (.tmp 39)), none⟩,
   ⟨(some 41), (.move (.tmp 10)), (some (40, false))⟩,
   ⟨(some 42), (.move (.tmp 7)), (some (40, false))⟩,
   ⟨(some 43), (.binOp .neq 4 (.tmp 41) (.tmp 42) 4), (some (40, false))⟩,
   ⟨(some 44), (.pick (.tmp 40) (.const (.bool true)) (.tmp 43)), none⟩])
 (.cond (.tmp 44) (.seq (.reg [⟨(some 4), (.assign (.const (.bool false))), none⟩])
 .ret) .skip))
 (.seq (.seq (.reg [⟨(some 45), (.move (.tmp 8)), none⟩,
   ⟨(some 46), (.move (.tmp 0)), none⟩,
   ⟨(some 47), (.call (.mk (.value (.func 16)) #[(.tmp 46)] #[22])), none⟩,
   ⟨(some 48), (.call (.mk (.value (.func 18)) #[(.tmp 45), (.tmp 47)] #[25, 25])), none⟩,
   ⟨(some 49), (.unOp .not 4 (.tmp 48)), none⟩])
 (.cond (.tmp 49) (.seq (.reg [⟨(some 4), (.assign (.const (.bool false))), none⟩])
 .ret) .skip))
 (.seq (.reg [⟨(some 11), (.assign (.const (.int .i64 1))), none⟩])
 (.seq (.reg [⟨(some 50), (.move (.tmp 8)), none⟩,
   ⟨(some 51), (.move (.tmp 11)), none⟩,
   ⟨(some 52), (.call (.mk (.value (.func 34)) #[(.tmp 50), (.tmp 51)] #[25, 3])), none⟩,
   ⟨(some 11), (.assign (.tmp 52)), none⟩])
 (.seq (.seq (.reg [⟨(some 53), (.move (.tmp 11)), none⟩,
   ⟨(some 54), (.binOp .lss 3 (.tmp 53) (.const (.int .i64 0)) 3), none⟩,
   ⟨(some 55), (.move (.tmp 54)), none⟩,
   ⟨(some 56), (.move (.tmp 9)), (some (55, false))⟩,
   ⟨(some 57), (.move (.tmp 6)), (some (55, false))⟩,
   ⟨(some 58), (.call (.mk (.value (.func 18)) #[(.tmp 56), (.tmp 57)] #[25, 25])), (some (55, false))⟩,
   ⟨(some 59), (.unOp .not 4 (.tmp 58)), (some (55, false))⟩,
   ⟨(some 60), (.pick (.tmp 55) (.const (.bool true)) (.tmp 59)), none⟩,
   ⟨(some 61), (.move (.tmp 60)), none⟩,
   ⟨(some 62), (.move (.tmp 10)), (some (61, false))⟩,
   ⟨(some 63), (.move (.tmp 7)), (some (61, false))⟩,
   ⟨(some 64), (.binOp .neq 4 (.tmp 62) (.tmp 63) 4), (some (61, false))⟩,
   ⟨(some 65), (.pick (.tmp 61) (.const (.bool true)) (.tmp 64)), none⟩])
 (.cond (.tmp 65) (.seq (.reg [⟨(some 4), (.assign (.const (.bool false))), none⟩])
 .ret) .skip))
 (.seq (.reg [⟨(some 12), (.assign (.const (.int .i64 1))), none⟩])
 (.seq (.reg [⟨(some 66), (.move (.tmp 9)), none⟩,
   ⟨(some 67), (.move (.tmp 12)), none⟩,
   ⟨(some 68), (.call (.mk (.value (.func 34)) #[(.tmp 66), (.tmp 67)] #[25, 3])), none⟩,
   ⟨(some 12), (.assign (.tmp 68)), none⟩])
 (.seq (.reg [⟨(some 13), (.assign (.const (.int .i64 1))), none⟩])
 (.seq (.reg [⟨(some 69), (.move (.tmp 9)), none⟩,
   ⟨(some 70), (.move (.tmp 13)), none⟩,
   ⟨(some 71), (.call (.mk (.value (.func 35)) #[(.tmp 69), (.tmp 70)] #[25, 3])), none⟩,
   ⟨(some 13), (.assign (.tmp 71)), none⟩])
 (.seq (.seq (.reg [⟨(some 72), (.move (.tmp 13)), none⟩,
   ⟨(some 73), (.binOp .lss 3 (.tmp 72) (.const (.int .i64 0)) 3), none⟩])
 (.cond (.tmp 73) (.seq (.reg [⟨(some 4), (.assign (.const (.bool false))), none⟩])
 .ret) .skip))
 (.seq (.seq (.reg [⟨(some 74), (.move (.tmp 13)), none⟩,
   ⟨(some 75), (.move (.tmp 12)), none⟩,
   ⟨(some 76), (.binOp .neq 3 (.tmp 74) (.tmp 75) 3), none⟩])
 (.cond (.tmp 76) (.seq (.reg [⟨(some 4), (.assign (.const (.bool false))), none⟩])
 .ret) .skip))
 (.seq (.reg [⟨(some 78), (.move (.tmp 0)), none⟩,
   ⟨(some 79), (.call (.mk (.value (.func 16)) #[(.tmp 78)] #[22])), none⟩,
   ⟨(some 80), (.move (.tmp 1)), none⟩,
   ⟨(some 81), (.call (.mk (.value (.func 33)) #[(.tmp 79), (.tmp 80)] #[25, 3])), none⟩,
   ⟨(some 77), (.move (.tmp 81)), none⟩,
   ⟨(some 82), (.extract (.tmp 77) 0), none⟩,
   ⟨(some 83), (.extract (.tmp 77) 1), none⟩,
   ⟨(some 14), (.assign (.tmp 82)), none⟩,
   ⟨(some 15), (.assign (.tmp 83)), none⟩])
 (.seq (.seq (.reg [⟨(some 84), (.move (.tmp 14)), none⟩,
   ⟨(some 85), (.move (.tmp 6)), none⟩,
   ⟨(some 86), (.call (.mk (.value (.func 18)) #[(.tmp 84), (.tmp 85)] #[25, 25])), none⟩,
   ⟨(some 87), (.unOp .not 4 (.tmp 86)), none⟩,
   ⟨(some 88), (.move (.tmp 87)), none⟩,
   ⟨(some 89), (.move (.tmp 15)), (some (88, false))⟩,
   ⟨(some 90), (.move (.tmp 7)), (some (88, false))⟩,
   ⟨(some 91), (.binOp .neq 4 (.tmp 89) (.tmp 90) 4), (some (88, false))⟩,
   ⟨(some 92), (.pick (.tmp 88) (.const (.bool true)) (.tmp 91)), none⟩])
 (.cond (.tmp 92) (.seq (.reg [⟨(some 4), (.assign (.const (.bool false))), none⟩])
 .ret) .skip))
 (.seq (.reg [⟨(some 13), (.assign (.const (.int .i64 1))), none⟩])
 (.seq (.reg [⟨(some 93), (.move (.tmp 9)), none⟩,
   ⟨(some 94), (.move (.tmp 13)), none⟩,
   ⟨(some 95), (.call (.mk (.value (.func 35)) #[(.tmp 93), (.tmp 94)] #[25, 3])), none⟩,
   ⟨(some 13), (.assign (.tmp 95)), none⟩])
 (.seq (.seq (.reg [⟨(some 96), (.move (.tmp 13)), none⟩,
   ⟨(some 97), (.binOp .lss 3 (.tmp 96) (.const (.int .i64 0)) 3), none⟩])
 (.cond (.tmp 97) (.seq (.reg [⟨(some 4), (.assign (.const (.bool false))), none⟩])
 .ret) .skip))
 (.seq (.seq (.reg [⟨(some 98), (.move (.tmp 13)), none⟩,
   ⟨(some 99), (.move (.tmp 12)), none⟩,
   ⟨(some 100), (.binOp .neq 3 (.tmp 98) (.tmp 99) 3), none⟩])
 (.cond (.tmp 100) (.seq (.reg [⟨(some 4), (.assign (.const (.bool false))), none⟩])
 .ret) .skip))
 (.seq (.reg [⟨(some 4), (.assign (.const (.bool true))), none⟩])
 .ret)))))))))))))))))))))))))
theorem x_laws_FnExactWithoutJudge : Txt Try.prog 9 c_laws_FnExactWithoutJudge [.tmp 4] 2 := ⟨by kernel_rfl, by kernel_rfl, _, _, Try.func9, rfl, by kernel_rfl, by kernel_rfl, by kernel_rfl, rfl, by decide⟩
/-- loop.example/g01062/laws.szShowFrameS -/
def c_laws_szShowFrameS : Cd :=
 (.seq (.reg [⟨(some 4), (.assign (.const (.int .i64 0))), none⟩])
 (.seq (.reg [⟨(some 6), (.move (.tmp 1)), none⟩,
   ⟨(some 7), (.move (.tmp 0)), none⟩,
   ⟨(some 8), (.call (.mk (.builtin .len) #[(.tmp 7)] #[22])), none⟩,
   ⟨(some 9), (.binOp .sub 3 (.tmp 6) (.tmp 8) 3), none⟩,
   ⟨(some 1), (.assign (.tmp 9)), none⟩])
 (.seq (.seq (.reg [⟨(some 10), (.move (.tmp 1)), none⟩,
   ⟨(some 11), (.binOp .lss 3 (.tmp 10) (.const (.int .i64 0)) 3), none⟩])
 (.cond (.tmp 11) (.seq (.reg [⟨(some 4), (.assign (.const (.int .i64 (-1)))), none⟩])
 .ret) .skip))
 (.seq (.seq (.reg [⟨(some 5), (.assign (.const (.int .i64 0))), none⟩])
 (.block 0 (.loop (.seq (.seq (.reg [⟨(some 12), (.move (.tmp 5)), none⟩,
   ⟨(some 13), (.move (.tmp 0)), none⟩,
   ⟨(some 14), (.call (.mk (.builtin .len) #[(.tmp 13)] #[22])), none⟩,
   ⟨(some 15), (.binOp .lss 3 (.tmp 12) (.tmp 14) 3), none⟩])
 (.cond (.tmp 15) .skip (.exit 0)))
 (.seq (.block 1 (.seq (.reg [⟨(some 18), (.move (.tmp 0)), none⟩,
   ⟨(some 19), (.move (.tmp 5)), none⟩,
   ⟨(some 20), (.indexAddr 22 (.tmp 18) (.tmp 19)), none⟩,
   ⟨(some 21), (.load 31 (.tmp 20)), none⟩,
   ⟨(some 22), (.move (.tmp 1)), none⟩,
   ⟨(some 23), (.call (.mk (.value (.func 19)) #[(.tmp 21), (.tmp 22)] #[31, 3])), none⟩,
   ⟨(some 1), (.assign (.tmp 23)), none⟩])
 (.seq (.reg [⟨(some 24), (.move (.tmp 1)), none⟩,
   ⟨(some 25), (.binOp .lss 3 (.tmp 24) (.const (.int .i64 0)) 3), none⟩])
 (.cond (.tmp 25) (.seq (.reg [⟨(some 4), (.assign (.const (.int .i64 (-1)))), none⟩])
 .ret) .skip))))
 (.reg [⟨(some 16), (.move (.tmp 5)), none⟩,
   ⟨(some 17), (.binOp .add 3 (.tmp 16) (.const (.int .i64 1)) 3), none⟩,
   ⟨(some 5), (.assign (.tmp 17)), none⟩]))))))
 (.seq (.reg [⟨(some 26), (.move (.tmp 1)), none⟩,
   ⟨(some 4), (.assign (.tmp 26)), none⟩])
 .ret)))))
theorem x_laws_szShowFrameS : Txt Try.prog 14 c_laws_szShowFrameS [.tmp 4] 2 := ⟨by kernel_rfl, by kernel_rfl, _, _, Try.func14, rfl, by kernel_rfl, by kernel_rfl, by kernel_rfl, rfl, by decide⟩
/-- loop.example/g01062/spec.AreExhibits -/
def c_spec_AreExhibits : Cd :=
 (.seq (.reg [⟨(some 2), (.assign (.const (.bool false))), none⟩])
 (.seq (.reg [⟨(some 3), (.move (.tmp 0)), none⟩,
   ⟨(some 4), (.call (.mk (.value (.func 47)) #[(.tmp 3)] #[25])), none⟩,
   ⟨(some 2), (.assign (.tmp 4)), none⟩])
 .ret))
theorem x_spec_AreExhibits : Txt Try.prog 15 c_spec_AreExhibits [.tmp 2] 1 := ⟨by kernel_rfl, by kernel_rfl, _, _, Try.func15, rfl, by kernel_rfl, by kernel_rfl, by kernel_rfl, rfl, by decide⟩
/-- loop.example/g01062/laws.toShowFrameS -/
def c_laws_toShowFrameS : Cd :=
 (.seq (.reg [⟨(some 2), (.assign (.const (.slice none 0 0))), none⟩])
 (.seq (.reg [⟨(some 5), (.move (.tmp 0)), none⟩,
   ⟨(some 6), (.call (.mk (.builtin .len) #[(.tmp 5)] #[22])), none⟩,
   ⟨(some 7), (.makeSlice 25 (.tmp 6) (.tmp 6)), none⟩,
   ⟨(some 3), (.assign (.tmp 7)), none⟩])
 (.seq (.seq (.reg [⟨(some 4), (.assign (.const (.int .i64 0))), none⟩])
 (.block 0 (.loop (.seq (.seq (.reg [⟨(some 8), (.move (.tmp 4)), none⟩,
   ⟨(some 9), (.move (.tmp 0)), none⟩,
   ⟨(some 10), (.call (.mk (.builtin .len) #[(.tmp 9)] #[22])), none⟩,
   ⟨(some 11), (.binOp .lss 3 (.tmp 8) (.tmp 10) 3), none⟩])
 (.cond (.tmp 11) .skip (.exit 0)))
 (.seq (.block 1 (.reg [⟨(some 14), (.move (.tmp 3)), none⟩,
   ⟨(some 15), (.move (.tmp 4)), none⟩,
   ⟨(some 16), (.move (.tmp 0)), none⟩,
   ⟨(some 17), (.move (.tmp 4)), none⟩,
   ⟨(some 18), (.indexAddr 22 (.tmp 16) (.tmp 17)), none⟩,
   ⟨(some 19), (.load 31 (.tmp 18)), none⟩,
   ⟨(some 20), (.call (.mk (.value (.func 21)) #[(.tmp 19)] #[31])), none⟩,
   ⟨(some 21), (.indexAddr 25 (.tmp 14) (.tmp 15)), none⟩,
   ⟨none, (.store 35 (.tmp 21) (.tmp 20)), none⟩]))
 (.reg [⟨(some 12), (.move (.tmp 4)), none⟩,
   ⟨(some 13), (.binOp .add 3 (.tmp 12) (.const (.int .i64 1)) 3), none⟩,
   ⟨(some 4), (.assign (.tmp 13)), none⟩]))))))
 (.seq (.reg [⟨(some 22), (.move (.tmp 3)), none⟩,
   ⟨(some 2), (.assign (.tmp 22)), none⟩])
 .ret))))
theorem x_laws_toShowFrameS : Txt Try.prog 16 c_laws_toShowFrameS [.tmp 2] 1 := ⟨by kernel_rfl, by kernel_rfl, _, _, Try.func16, rfl, by kernel_rfl, by kernel_rfl, by kernel_rfl, rfl, by decide⟩
/-- loop.example/g01062/impl.AreExhibits -/
def c_impl_AreExhibits : Cd :=
 (.seq (.reg [⟨(some 2), (.assign (.const (.bool false))), none⟩])
 (.seq (.reg [⟨(some 3), (.move (.tmp 0)), none⟩,
   ⟨(some 4), (.call (.mk (.value (.func 48)) #[(.tmp 3)] #[25])), none⟩,
   ⟨(some 2), (.assign (.tmp 4)), none⟩])
 .ret))
theorem x_impl_AreExhibits : Txt Try.prog 17 c_impl_AreExhibits [.tmp 2] 1 := ⟨by kernel_rfl, by kernel_rfl, _, _, Try.func17, rfl, by kernel_rfl, by kernel_rfl, by kernel_rfl, rfl, by decide⟩
/-- loop.example/g01062/laws.eqShowFrameS -/
def c_laws_eqShowFrameS : Cd :=
 (.seq (.reg [⟨(some 4), (.assign (.const (.bool false))), none⟩])
 (.seq (.seq (.reg [⟨(some 6), (.move (.tmp 0)), none⟩,
   ⟨(some 7), (.call (.mk (.builtin .len) #[(.tmp 6)] #[25])), none⟩,
   ⟨(some 8), (.move (.tmp 1)), none⟩,
   ⟨(some 9), (.call (.mk (.builtin .len) #[(.tmp 8)] #[25])), none⟩,
   ⟨(some 10), (.binOp .neq 3 (.tmp 7) (.tmp 9) 3), none⟩])
 (.cond (.tmp 10) (.seq (.reg [⟨(some 4), (.assign (.const (.bool false))), none⟩])
 .ret) .skip))
 (.seq (.seq (.reg [⟨(some 5), (.assign (.const (.int .i64 0))), none⟩])
 (.block 0 (.loop (.seq (.seq (.reg [⟨(some 11), (.move (.tmp 5)), none⟩,
   ⟨(some 12), (.move (.tmp 0)), none⟩,
   ⟨(some 13), (.call (.mk (.builtin .len) #[(.tmp 12)] #[25])), none⟩,
   ⟨(some 14), (.binOp .lss 3 (.tmp 11) (.tmp 13) 3), none⟩])
 (.cond (.tmp 14) .skip (.exit 0)))
 (.seq (.block 1 (.seq (.regq [⟨(some 17), (.move (.tmp 0)), none⟩,
   ⟨(some 18), (.move (.tmp 5)), none⟩,
   ⟨(some 19), (.indexAddr 25 (.tmp 17) (.tmp 18)), none⟩,
   ⟨(some 20), (.load 35 (.tmp 19)), none⟩,
   ⟨(some 21), (.move (.tmp 1)), none⟩,
   ⟨(some 22), (.move (.tmp 5)), none⟩,
   ⟨(some 23), (.indexAddr 25 (.tmp 21) (.tmp 22)), none⟩,
   ⟨(some 24), (.load 35 (.tmp 23)), none⟩,
   ⟨(some 25), (.call (.mk (.value (.func 23)) #[(.tmp 20), (.tmp 24)] #[35, 35])), none⟩,
   ⟨(some 26), (.unOp .not 4 (.tmp 25)), none⟩])
 (.cond (.tmp 26) (.seq (.reg [⟨(some 4), (.assign (.const (.bool false))), none⟩])
 .ret) .skip)))
 (.reg [⟨(some 15), (.move (.tmp 5)), none⟩,
   ⟨(some 16), (.binOp .add 3 (.tmp 15) (.const (.int .i64 1)) 3), none⟩,
   ⟨(some 5), (.assign (.tmp 16)), none⟩]))))))
 (.seq (.reg [⟨(some 4), (.assign (.const (.bool true))), none⟩])
 .ret))))
theorem x_laws_eqShowFrameS : Txt Try.prog 18 c_laws_eqShowFrameS [.tmp 4] 2 := ⟨by kernel_rfl, by kernel_rfl, _, _, Try.func18, rfl, by kernel_rfl, by kernel_rfl, by kernel_rfl, rfl, by decide⟩
/-- loop.example/g01062/laws.szShowFrame -/
def c_laws_szShowFrame : Cd :=
 (.seq (.reg [⟨(some 2), (.box 31 (.tmp 0)), none⟩,
   ⟨(some 4), (.assign (.const (.int .i64 0))), none⟩])
 (.seq (.reg [⟨(some 5), (.move (.tmp 1)), none⟩,
   ⟨(some 6), (.fieldAddr 31 (.tmp 2) 1), none⟩,
   ⟨(some 7), (.load 9 (.tmp 6)), none⟩,
   ⟨(some 8), (.call (.mk (.builtin .len) #[(.tmp 7)] #[9])), none⟩,
   ⟨(some 9), (.binOp .sub 3 (.tmp 5) (.tmp 8) 3), none⟩,
   ⟨(some 1), (.assign (.tmp 9)), none⟩])
 (.seq (.seq (.reg [⟨(some 10), (.move (.tmp 1)), none⟩,
   ⟨(some 11), (.binOp .lss 3 (.tmp 10) (.const (.int .i64 0)) 3), none⟩])
 (.cond (.tmp 11) (.seq (.reg [⟨(some 4), (.assign (.const (.int .i64 (-1)))), none⟩])
 .ret) .skip))
 (.seq (.reg [⟨(some 12), (.fieldAddr 31 (.tmp 2) 3), none⟩,
   ⟨(some 13), (.load 29 (.tmp 12)), none⟩,
   ⟨(some 14), (.move (.tmp 1)), none⟩,
   ⟨(some 15), (.call (.mk (.value (.func 49)) #[(.tmp 13), (.tmp 14)] #[29, 3])), none⟩,
   ⟨(some 1), (.assign (.tmp 15)), none⟩])
 (.seq (.seq (.reg [⟨(some 16), (.move (.tmp 1)), none⟩,
   ⟨(some 17), (.binOp .lss 3 (.tmp 16) (.const (.int .i64 0)) 3), none⟩])
 (.cond (.tmp 17) (.seq (.reg [⟨(some 4), (.assign (.const (.int .i64 (-1)))), none⟩])
 .ret) .skip))
 (.seq (.reg [⟨(some 18), (.move (.tmp 1)), none⟩,
   ⟨(some 4), (.assign (.tmp 18)), none⟩])
 .ret))))))
theorem x_laws_szShowFrame : Txt Try.prog 19 c_laws_szShowFrame [.tmp 4] 2 := ⟨by kernel_rfl, by kernel_rfl, _, _, Try.func19, rfl, by kernel_rfl, by kernel_rfl, by kernel_rfl, rfl, by decide⟩
/-- loop.example/g01062/laws.toShowFrame -/
def c_laws_toShowFrame : Cd :=
 (.seq (.reg [⟨(some 1), (.box 31 (.tmp 0)), none⟩,
   ⟨(some 2), (.alloc 35), none⟩])
 (.seq (.reg [⟨(some 3), (.alloc 35), none⟩])
 (.seq (.reg [⟨(some 4), (.fieldAddr 31 (.tmp 1) 0), none⟩,
   ⟨(some 5), (.load 3 (.tmp 4)), none⟩,
   ⟨(some 6), (.fieldAddr 35 (.tmp 3) 0), none⟩,
   ⟨none, (.store 3 (.tmp 6) (.tmp 5)), none⟩])
 (.seq (.reg [⟨(some 7), (.fieldAddr 31 (.tmp 1) 1), none⟩,
   ⟨(some 8), (.load 9 (.tmp 7)), none⟩,
   ⟨(some 9), (.fieldAddr 35 (.tmp 3) 1), none⟩,
   ⟨none, (.store 9 (.tmp 9) (.tmp 8)), none⟩])
 (.seq (.reg [⟨(some 10), (.fieldAddr 31 (.tmp 1) 2), none⟩,
   ⟨(some 11), (.load 3 (.tmp 10)), none⟩,
   ⟨(some 12), (.fieldAddr 35 (.tmp 3) 2), none⟩,
   ⟨none, (.store 3 (.tmp 12) (.tmp 11)), none⟩])
 (.seq (.reg [⟨(some 13), (.fieldAddr 31 (.tmp 1) 3), none⟩,
   ⟨(some 14), (.load 29 (.tmp 13)), none⟩,
   ⟨(some 15), (.call (.mk (.value (.func 53)) #[(.tmp 14)] #[29])), none⟩,
   ⟨(some 16), (.fieldAddr 35 (.tmp 3) 3), none⟩,
   ⟨none, (.store 29 (.tmp 16) (.tmp 15)), none⟩])
 (.seq (.reg [⟨(some 17), (.load 35 (.tmp 3)), none⟩,
   ⟨none, (.store 35 (.tmp 2) (.tmp 17)), none⟩])
 .ret)))))))
theorem x_laws_toShowFrame : Txt Try.prog 21 c_laws_toShowFrame [.cell 2 35] 1 := ⟨by kernel_rfl, by kernel_rfl, _, _, Try.func21, rfl, by kernel_rfl, by kernel_rfl, by kernel_rfl, rfl, by decide⟩
/-- loop.example/g01062/laws.eqShowFrame -/
def c_laws_eqShowFrame : Cd :=
 (.seq (.reg [⟨(some 2), (.box 35 (.tmp 0)), none⟩,
   ⟨(some 3), (.box 35 (.tmp 1)), none⟩,
   ⟨(some 4), (.assign (.const (.bool false))), none⟩])
 (.seq (.seq (.reg [⟨(some 5), (.fieldAddr 35 (.tmp 2) 0), none⟩,
   ⟨(some 6), (.load 3 (.tmp 5)), none⟩,
   ⟨(some 7), (.fieldAddr 35 (.tmp 3) 0), none⟩,
   ⟨(some 8), (.load 3 (.tmp 7)), none⟩,
   ⟨(some 9), (.binOp .neq 3 (.tmp 6) (.tmp 8) 3), none⟩])
 (.cond (.tmp 9) (.seq (.reg [⟨(some 4), (.assign (.const (.bool false))), none⟩])
 .ret) .skip))
 (.seq (.seq (.reg [⟨(some 10), (.fieldAddr 35 (.tmp 2) 1), none⟩,
   ⟨(some 11), (.load 9 (.tmp 10)), none⟩,
   ⟨(some 12), (.fieldAddr 35 (.tmp 3) 1), none⟩,
   ⟨(some 13), (.load 9 (.tmp 12)), none⟩,
   ⟨(some 14), (.binOp .neq 9 (.tmp 11) (.tmp 13) 9), none⟩])
 (.cond (.tmp 14) (.seq (.reg [⟨(some 4), (.assign (.const (.bool false))), none⟩])
 .ret) .skip))
 (.seq (.seq (.reg [⟨(some 15), (.fieldAddr 35 (.tmp 2) 2), none⟩,
   ⟨(some 16), (.load 3 (.tmp 15)), none⟩,
   ⟨(some 17), (.fieldAddr 35 (.tmp 3) 2), none⟩,
   ⟨(some 18), (.load 3 (.tmp 17)), none⟩,
   ⟨(some 19), (.binOp .neq 3 (.tmp 16) (.tmp 18) 3), none⟩])
 (.cond (.tmp 19) (.seq (.reg [⟨(some 4), (.assign (.const (.bool false))), none⟩])
 .ret) .skip))
 (.seq (.seq (.reg [⟨(some 20), (.fieldAddr 35 (.tmp 2) 3), none⟩,
   ⟨(some 21), (.load 29 (.tmp 20)), none⟩,
   ⟨(some 22), (.fieldAddr 35 (.tmp 3) 3), none⟩,
   ⟨(some 23), (.load 29 (.tmp 22)), none⟩,
   ⟨(some 24), (.call (.mk (.value (.func 42)) #[(.tmp 21), (.tmp 23)] #[29, 29])), none⟩,
   ⟨(some 25), (.unOp .not 4 (.tmp 24)), none⟩])
 (.cond (.tmp 25) (.seq (.reg [⟨(some 4), (.assign (.const (.bool false))), none⟩])
 .ret) .skip))
 (.seq (.reg [⟨(some 4), (.assign (.const (.bool true))), none⟩])
 .ret))))))
theorem x_laws_eqShowFrame : Txt Try.prog 23 c_laws_eqShowFrame [.tmp 4] 2 := ⟨by kernel_rfl, by kernel_rfl, _, _, Try.func23, rfl, by kernel_rfl, by kernel_rfl, by kernel_rfl, rfl, by decide⟩
/-- loop.example/g01062/spec.SpreadOf -/
def c_spec_SpreadOf : Cd :=
 (.seq (.reg [⟨(some 4), (.assign (.const (.int .i64 0))), none⟩,
   ⟨(some 5), (.assign (.const (.bool false))), none⟩])
 (.seq (.reg [⟨(some 9), (.move (.tmp 0)), none⟩,
   ⟨(some 10), (.move (.tmp 1)), none⟩,
   ⟨(some 11), (.call (.mk (.value (.func 61)) #[(.tmp 9), (.tmp 10)] #[25, 3])), none⟩,
   ⟨(some 6), (.assign (.tmp 11)), none⟩])
 (.seq (.seq (.reg [⟨(some 12), (.move (.tmp 0)), none⟩,
   ⟨(some 13), (.call (.mk (.value (.func 47)) #[(.tmp 12)] #[25])), none⟩,
   ⟨(some 14), (.unOp .not 4 (.tmp 13)), none⟩,
   ⟨(some 15), (.move (.tmp 14)), none⟩,
   ⟨(some 16), (.move (.tmp 6)), (some (15, false))⟩,
   ⟨(some 17), (.binOp .lss 3 (.tmp 16) (.const (.int .i64 0)) 3), (some (15, false))⟩,
   ⟨(some 18), (.pick (.tmp 15) (.const (.bool true)) (.tmp 17)), none⟩])
 (.cond (.tmp 18) (.seq (.reg [⟨(some 4), (.assign (.const (.int .i64 0))), none⟩,
   ⟨(some 5), (.assign (.const (.bool false))), none⟩])
 .ret) .skip))
 (.seq (.reg [⟨(some 20), (.move (.tmp 0)), none⟩,
   ⟨(some 21), (.move (.tmp 6)), none⟩,
   ⟨(some 22), (.indexAddr 25 (.tmp 20) (.tmp 21)), none⟩,
   ⟨(some 23), (.fieldAddr 35 (.tmp 22) 3), none⟩,
   ⟨(some 24), (.load 29 (.tmp 23)), none⟩,
   ⟨(some 25), (.call (.mk (.value (.func 62)) #[(.tmp 24)] #[29])), none⟩,
   ⟨(some 19), (.move (.tmp 25)), none⟩,
   ⟨(some 26), (.extract (.tmp 19) 0), none⟩,
   ⟨(some 27), (.extract (.tmp 19) 1), none⟩,
   ⟨(some 7), (.assign (.tmp 26)), none⟩,
   ⟨(some 8), (.assign (.tmp 27)), none⟩])
 (.seq (.reg [⟨(some 28), (.move (.tmp 8)), none⟩,
   ⟨(some 29), (.move (.tmp 7)), none⟩,
   ⟨(some 30), (.binOp .sub 3 (.tmp 28) (.tmp 29) 3), none⟩,
   ⟨(some 4), (.assign (.tmp 30)), none⟩,
   ⟨(some 5), (.assign (.const (.bool true))), none⟩])
 .ret)))))
theorem x_spec_SpreadOf : Txt Try.prog 28 c_spec_SpreadOf [.tmp 4, .tmp 5] 2 := ⟨by kernel_rfl, by kernel_rfl, _, _, Try.func28, rfl, by kernel_rfl, by kernel_rfl, by kernel_rfl, rfl, by decide⟩
/-- loop.example/g01062/impl.SpreadOf -/
def c_impl_SpreadOf : Cd :=
 (.seq (.reg [⟨(some 4), (.assign (.const (.int .i64 0))), none⟩,
   ⟨(some 5), (.assign (.const (.bool false))), none⟩])
 (.seq (.reg [⟨(some 7), (.move (.tmp 0)), none⟩,
   ⟨(some 8), (.move (.tmp 1)), none⟩,
   ⟨(some 9), (.call (.mk (.value (.func 63)) #[(.tmp 7), (.tmp 8)] #[25, 3])), none⟩,
   ⟨(some 6), (.assign (.tmp 9)), none⟩])
 (.seq (.seq (.reg [⟨(some 10), (.move (.tmp 0)), none⟩,
   ⟨(some 11), (.call (.mk (.value (.func 48)) #[(.tmp 10)] #[25])), none⟩,
   ⟨(some 12), (.unOp .not 4 (.tmp 11)), none⟩,
   ⟨(some 13), (.move (.tmp 12)), none⟩,
   ⟨(some 14), (.move (.tmp 6)), (some (13, false))⟩,
   ⟨(some 15), (.binOp .lss 3 (.tmp 14) (.const (.int .i64 0)) 3), (some (13, false))⟩,
   ⟨(some 16), (.pick (.tmp 13) (.const (.bool true)) (.tmp 15)), none⟩])
 (.cond (.tmp 16) (.seq (.reg [⟨(some 4), (.assign (.const (.int .i64 0))), none⟩,
   ⟨(some 5), (.assign (.const (.bool false))), none⟩])
 .ret) .skip))
 (.seq (.regq [⟨(some 17), (.move (.tmp 0)), none⟩,
   ⟨(some 18), (.move (.tmp 6)), none⟩,
   ⟨(some 19), (.indexAddr 25 (.tmp 17) (.tmp 18)), none⟩,
   ⟨(some 20), (.fieldAddr 35 (.tmp 19) 3), none⟩,
   ⟨(some 21), (.load 29 (.tmp 20)), none⟩,
   ⟨(some 22), (.call (.mk (.value (.func 64)) #[(.tmp 21)] #[29])), none⟩,
   ⟨(some 23), (.move (.tmp 0)), none⟩,
   ⟨(some 24), (.move (.tmp 6)), none⟩,
   ⟨(some 25), (.indexAddr 25 (.tmp 23) (.tmp 24)), none⟩,
   ⟨(some 26), (.fieldAddr 35 (.tmp 25) 3), none⟩,
   ⟨(some 27), (.load 29 (.tmp 26)), none⟩,
   ⟨(some 28), (.call (.mk (.value (.func 59)) #[(.tmp 27)] #[29])), none⟩,
   ⟨(some 29), (.binOp .sub 3 (.tmp 22) (.tmp 28) 3), none⟩,
   ⟨(some 4), (.assign (.tmp 29)), none⟩,
   ⟨(some 5), (.assign (.const (.bool true))), none⟩])
 .ret))))
theorem x_impl_SpreadOf : Txt Try.prog 29 c_impl_SpreadOf [.tmp 4, .tmp 5] 2 := ⟨by kernel_rfl, by kernel_rfl, _, _, Try.func29, rfl, by kernel_rfl, by kernel_rfl, by kernel_rfl, rfl, by decide⟩
/-- loop.example/g01062/spec.FramesWith -/
def c_spec_FramesWith : Cd :=
 (.seq (.reg [⟨(some 4), (.assign (.const (.int .i64 0))), none⟩,
   ⟨(some 5), (.assign (.const (.bool false))), none⟩])
 (.seq (.seq (.reg [⟨(some 8), (.move (.tmp 0)), none⟩,
   ⟨(some 9), (.call (.mk (.value (.func 47)) #[(.tmp 8)] #[25])), none⟩,
   ⟨(some 10), (.unOp .not 4 (.tmp 9)), none⟩,
   ⟨(some 11), (.move (.tmp 10)), none⟩,
   ⟨(some 12), (.move (.tmp 1)), (some (11, false))⟩,
   ⟨(some 13), (.call (.mk (.value (.func 65)) #[(.tmp 12), (.const (.int .i64 0)), (.const (.int .i64 4))] #[3, 3, 3])), (some (11, false))⟩,
   ⟨(some 14), (.unOp .not 4 (.tmp 13)), (some (11, false))⟩,
   ⟨(some 15), (.pick (.tmp 11) (.const (.bool true)) (.tmp 14)), none⟩])
 (.cond (.tmp 15) (.seq (.reg [⟨(some 4), (.assign (.const (.int .i64 0))), none⟩,
   ⟨(some 5), (.assign (.const (.bool false))), none⟩])
 .ret) .skip))
 (.seq (.reg [⟨(some 6), (.assign (.const (.int .i64 0))), none⟩])
 (.seq (.seq (.reg [⟨(some 7), (.assign (.const (.int .i64 0))), none⟩])
 (.block 0 (.loop (.seq (.seq (.reg [⟨(some 16), (.move (.tmp 7)), none⟩,
   ⟨(some 17), (.move (.tmp 0)), none⟩,
   ⟨(some 18), (.call (.mk (.builtin .len) #[(.tmp 17)] #[25])), none⟩,
   ⟨(some 19), (.binOp .lss 3 (.tmp 16) (.tmp 18) 3), none⟩])
 (.cond (.tmp 19) .skip (.exit 0)))
 (.seq (.block 1 (.seq (.reg [⟨(some 22), (.move (.tmp 0)), none⟩,
   ⟨(some 23), (.move (.tmp 7)), none⟩,
   ⟨(some 24), (.indexAddr 25 (.tmp 22) (.tmp 23)), none⟩,
   ⟨(some 25), (.fieldAddr 35 (.tmp 24) 3), none⟩,
   ⟨(some 26), (.load 29 (.tmp 25)), none⟩,
   ⟨(some 27), (.call (.mk (.value (.func 57)) #[(.tmp 26)] #[29])), none⟩,
   ⟨(some 28), (.move (.tmp 1)), none⟩,
   ⟨(some 29), (.binOp .geq 3 (.tmp 27) (.tmp 28) 3), none⟩])
 (.cond (.tmp 29) (.reg [⟨(some 30), (.move (.tmp 6)), none⟩,
   ⟨(some 31), (.move (.tmp 0)), none⟩,
   ⟨(some 32), (.move (.tmp 7)), none⟩,
   ⟨(some 33), (.indexAddr 25 (.tmp 31) (.tmp 32)), none⟩,
   ⟨(some 34), (.fieldAddr 35 (.tmp 33) 2), none⟩,
   ⟨(some 35), (.load 3 (.tmp 34)), none⟩,
   ⟨(some 36), (.binOp .add 3 (.tmp 30) (.tmp 35) 3), none⟩,
   ⟨(some 6), (.assign (.tmp 36)), none⟩]) .skip)))
 (.reg [⟨(some 20), (.move (.tmp 7)), none⟩,
   ⟨(some 21), (.binOp .add 3 (.tmp 20) (.const (.int .i64 1)) 3), none⟩,
   ⟨(some 7), (.assign (.tmp 21)), none⟩]))))))
 (.seq (.reg [⟨(some 37), (.move (.tmp 6)), none⟩,
   ⟨(some 4), (.assign (.tmp 37)), none⟩,
   ⟨(some 5), (.assign (.const (.bool true))), none⟩])
 .ret)))))
theorem x_spec_FramesWith : Txt Try.prog 30 c_spec_FramesWith [.tmp 4, .tmp 5] 2 := ⟨by kernel_rfl, by kernel_rfl, _, _, Try.func30, rfl, by kernel_rfl, by kernel_rfl, by kernel_rfl, rfl, by decide⟩
/-- loop.example/g01062/impl.FramesWith -/
def c_impl_FramesWith : Cd :=
 (.seq (.reg [⟨(some 4), (.assign (.const (.int .i64 0))), none⟩,
   ⟨(some 5), (.assign (.const (.bool false))), none⟩])
 (.seq (.seq (.reg [⟨(some 9), (.move (.tmp 0)), none⟩,
   ⟨(some 10), (.call (.mk (.value (.func 48)) #[(.tmp 9)] #[25])), none⟩,
   ⟨(some 11), (.unOp .not 4 (.tmp 10)), none⟩,
   ⟨(some 12), (.move (.tmp 11)), none⟩,
   ⟨(some 13), (.move (.tmp 1)), (some (12, false))⟩,
   ⟨(some 14), (.call (.mk (.value (.func 66)) #[(.tmp 13), (.const (.int .i64 0)), (.const (.int .i64 4))] #[3, 3, 3])), (some (12, false))⟩,
   ⟨(some 15), (.unOp .not 4 (.tmp 14)), (some (12, false))⟩,
   ⟨(some 16), (.pick (.tmp 12) (.const (.bool true)) (.tmp 15)), none⟩])
 (.cond (.tmp 16) (.seq (.reg [⟨(some 4), (.assign (.const (.int .i64 0))), none⟩,
   ⟨(some 5), (.assign (.const (.bool false))), none⟩])
 .ret) .skip))
 (.seq (.reg [⟨(some 6), (.assign (.const (.int .i64 0))), none⟩])
 (.seq (.seq (.reg [⟨(some 17), (.move (.tmp 0)), none⟩,
   ⟨(some 18), (.call (.mk (.builtin .len) #[(.tmp 17)] #[25])), none⟩,
   ⟨(some 19), (.move (.const (.int .i64 0))), none⟩])
 (.block 0 (.loop (.seq (.reg [⟨(some 20), (.binOp .lss 3 (.tmp 19) (.tmp 18) 3), none⟩])
 (.seq (.cond (.tmp 20) .skip (.exit 0))
 (.seq (.block 1 (.seq (.reg [⟨(some 21), (.indexAddr 25 (.tmp 17) (.tmp 19)), none⟩,
   ⟨(some 22), (.load 35 (.tmp 21)), none⟩,
   ⟨(some 8), (.alloc 35), none⟩,
   ⟨none, (.store 35 (.tmp 8) (.tmp 22)), none⟩])
 (.seq (.reg [⟨(some 23), (.fieldAddr 35 (.tmp 8) 3), none⟩,
   ⟨(some 24), (.load 29 (.tmp 23)), none⟩,
   ⟨(some 25), (.call (.mk (.value (.func 58)) #[(.tmp 24)] #[29])), none⟩,
   ⟨(some 26), (.move (.tmp 1)), none⟩,
   ⟨(some 27), (.binOp .geq 3 (.tmp 25) (.tmp 26) 3), none⟩])
 (.cond (.tmp 27) (.reg [⟨(some 28), (.move (.tmp 6)), none⟩,
   ⟨(some 29), (.fieldAddr 35 (.tmp 8) 2), none⟩,
   ⟨(some 30), (.load 3 (.tmp 29)), none⟩,
   ⟨(some 31), (.binOp .add 3 (.tmp 28) (.tmp 30) 3), none⟩,
   ⟨(some 6), (.assign (.tmp 31)), none⟩]) .skip))))
 (.reg [⟨(some 32), (.binOp .add 3 (.tmp 19) (.const (.int .i64 1)) 3), none⟩,
   ⟨(some 19), (.move (.tmp 32)), none⟩])))))))
 (.seq (.reg [⟨(some 33), (.move (.tmp 6)), none⟩,
   ⟨(some 4), (.assign (.tmp 33)), none⟩,
   ⟨(some 5), (.assign (.const (.bool true))), none⟩])
 .ret)))))
theorem x_impl_FramesWith : Txt Try.prog 31 c_impl_FramesWith [.tmp 4, .tmp 5] 2 := ⟨by kernel_rfl, by kernel_rfl, _, _, Try.func31, rfl, by kernel_rfl, by kernel_rfl, by kernel_rfl, rfl, by decide⟩
/-- loop.example/g01062/spec.WithoutJudge -/
def c_spec_WithoutJudge : Cd :=
 (.seq (.reg [⟨(some 4), (.assign (.const (.slice none 0 0))), none⟩,
   ⟨(some 5), (.assign (.const (.bool false))), none⟩])
 (.seq (.seq (.reg [⟨(some 9), (.move (.tmp 0)), none⟩,
   ⟨(some 10), (.call (.mk (.value (.func 47)) #[(.tmp 9)] #[25])), none⟩,
   ⟨(some 11), (.unOp .not 4 (.tmp 10)), none⟩,
   ⟨(some 12), (.move (.tmp 11)), none⟩,
   ⟨(some 13), (.move (.tmp 0)), (some (12, false))⟩,
   ⟨(some 14), (.call (.mk (.builtin .len) #[(.tmp 13)] #[25])), (some (12, false))⟩,
   ⟨(some 15), (.binOp .eql 3 (.tmp 14) (.const (.int .i64 0)) 3), (some (12, false))⟩,
   ⟨(some 16), (.pick (.tmp 12) (.const (.bool true)) (.tmp 15)), none⟩,
   ⟨(some 17), (.move (.tmp 16)), none⟩,
   ⟨(some 18), (.move (.tmp 1)), (some (17, false))⟩,
   ⟨(some 19), (.move (.tmp 0)), (some (17, false))⟩,
   ⟨(some 20), (.indexAddr 25 (.tmp 19) (.const (.int .i64 0))), (some (17, false))⟩,
   ⟨(some 21), (.fieldAddr 35 (.tmp 20) 3), (some (17, false))⟩,
   ⟨(some 22), (.load 29 (.tmp 21)), (some (17, false))⟩,
   ⟨(some 23), (.call (.mk (.builtin .len) #[(.tmp 22)] #[29])), (some (17, false))⟩,
   ⟨(some 24), (.binOp .sub 3 (.tmp 23) (.const (.int .i64 1)) 3), (some (17, false))⟩,
   ⟨(some 25), (.call (.mk (.value (.func 65)) #[(.tmp 18), (.const (.int .i64 0)), (.tmp 24)] #[3, 3, 3])), (some (17, false))⟩,
   ⟨(some 26), (.unOp .not 4 (.tmp 25)), (some (17, false))⟩,
   ⟨(some 27), (.pick (.tmp 17) (.const (.bool true)) (.tmp 26)), none⟩])
 (.cond (.tmp 27) (.seq (.reg [⟨(some 28), (.buildSlice 25 0 #[]), none⟩,
   ⟨(some 4), (.assign (.tmp 28)), none⟩,
   ⟨(some 5), (.assign (.const (.bool false))), none⟩])
 .ret) .skip))
 (.seq (.reg [⟨(some 29), (.buildSlice 25 0 #[]), none⟩,
   ⟨(some 6), (.assign (.tmp 29)), none⟩])
 (.seq (.seq (.reg [⟨(some 7), (.assign (.const (.int .i64 0))), none⟩])
 (.block 0 (.loop (.seq (.seq (.reg [⟨(some 30), (.move (.tmp 7)), none⟩,
   ⟨(some 31), (.move (.tmp 0)), none⟩,
   ⟨(some 32), (.call (.mk (.builtin .len) #[(.tmp 31)] #[25])), none⟩,
   ⟨(some 33), (.binOp .lss 3 (.tmp 30) (.tmp 32) 3), none⟩])
 (.cond (.tmp 33) .skip (.exit 0)))
 (.seq (.block 1 (.seq (.reg [⟨(some 36), (.move (.tmp 0)), none⟩,
   ⟨(some 37), (.move (.tmp 7)), none⟩,
   ⟨(some 38), (.indexAddr 25 (.tmp 36) (.tmp 37)), none⟩,
   ⟨(some 39), (.load 35 (.tmp 38)), none⟩,
   ⟨(some 8), (.alloc 35), none⟩,
   ⟨none, (.store 35 (.tmp 8) (.tmp 39)), none⟩])
 (.seq (.regt [⟨(some 40), (.fieldAddr 35 (.tmp 8) 3), none⟩,
   ⟨(some 41), (.load 29 (.tmp 40)), none⟩,
   ⟨(some 42), (.move (.tmp 1)), none⟩,
   ⟨(some 43), (.slice 29 (.tmp 41) none (some (.tmp 42)) none), none⟩,
   ⟨(some 45), (.fieldAddr 35 (.tmp 8) 3), none⟩,
   ⟨(some 46), (.load 29 (.tmp 45)), none⟩,
   ⟨(some 47), (.move (.tmp 1)), none⟩,
   ⟨(some 48), (.binOp .add 3 (.tmp 47) (.const (.int .i64 1)) 3), none⟩,
   ⟨(some 49), (.slice 29 (.tmp 46) (some (.tmp 48)) none none), none⟩] (.one true ⟨(some 44), (.call (.mk (.value (.func 67)) #[(.tmp 43)] #[29])), none⟩
   (.one false ⟨(some 50), (.call (.mk (.builtin .append) #[(.tmp 44), (.tmp 49)] #[29, 29])), none⟩
   (.one false ⟨(some 51), (.fieldAddr 35 (.tmp 8) 3), none⟩
   (.one false ⟨none, (.store 29 (.tmp 51) (.tmp 50)), none⟩
   .done)))) [])
 (.reg [⟨(some 52), (.move (.tmp 6)), none⟩,
   ⟨(some 53), (.load 35 (.tmp 8)), none⟩,
   ⟨(some 54), (.buildSlice 25 1 #[(0, (.tmp 53))]), none⟩,
   ⟨(some 55), (.call (.mk (.builtin .append) #[(.tmp 52), (.tmp 54)] #[25, 25])), none⟩,
   ⟨(some 6), (.assign (.tmp 55)), none⟩]))))
 (.reg [⟨(some 34), (.move (.tmp 7)), none⟩,
   ⟨(some 35), (.binOp .add 3 (.tmp 34) (.const (.int .i64 1)) 3), none⟩,
   ⟨(some 7), (.assign (.tmp 35)), none⟩]))))))
 (.seq (.seq (.reg [⟨(some 56), (.move (.tmp 6)), none⟩,
   ⟨(some 57), (.call (.mk (.value (.func 47)) #[(.tmp 56)] #[25])), none⟩,
   ⟨(some 58), (.unOp .not 4 (.tmp 57)), none⟩])
 (.cond (.tmp 58) (.seq (.reg [⟨(some 59), (.buildSlice 25 0 #[]), none⟩,
   ⟨(some 4), (.assign (.tmp 59)), none⟩,
   ⟨(some 5), (.assign (.const (.bool false))), none⟩])
 .ret) .skip))
 (.seq (.reg [⟨(some 60), (.move (.tmp 6)), none⟩,
   ⟨(some 4), (.assign (.tmp 60)), none⟩,
   ⟨(some 5), (.assign (.const (.bool true))), none⟩])
 .ret))))))
theorem x_spec_WithoutJudge : Txt Try.prog 32 c_spec_WithoutJudge [.tmp 4, .tmp 5] 2 := ⟨by kernel_rfl, by kernel_rfl, _, _, Try.func32, rfl, by kernel_rfl, by kernel_rfl, by kernel_rfl, rfl, by decide⟩
/-- loop.example/g01062/impl.WithoutJudge -/
def c_impl_WithoutJudge : Cd :=
 (.seq (.reg [⟨(some 4), (.assign (.const (.slice none 0 0))), none⟩,
   ⟨(some 5), (.assign (.const (.bool false))), none⟩])
 (.seq (.seq (.reg [⟨(some 9), (.move (.tmp 0)), none⟩,
   ⟨(some 10), (.call (.mk (.value (.func 48)) #[(.tmp 9)] #[25])), none⟩,
   ⟨(some 11), (.unOp .not 4 (.tmp 10)), none⟩,
   ⟨(some 12), (.move (.tmp 11)), none⟩,
   ⟨(some 13), (.move (.tmp 1)), (some (12, false))⟩,
   ⟨(some 14), (.binOp .lss 3 (.tmp 13) (.const (.int .i64 0)) 3), (some (12, false))⟩,
   ⟨(some 15), (.pick (.tmp 12) (.const (.bool true)) (.tmp 14)), none⟩])
 (.cond (.tmp 15) (.seq (.reg [⟨(some 4), (.assign (.const (.slice none 0 0))), none⟩,
   ⟨(some 5), (.assign (.const (.bool false))), none⟩])
 .ret) .skip))
 (.seq (.reg [⟨(some 6), (.assign (.const (.slice none 0 0))), none⟩])
 (.seq (.seq (.reg [⟨(some 16), (.move (.tmp 0)), none⟩,
   ⟨(some 17), (.call (.mk (.builtin .len) #[(.tmp 16)] #[25])), none⟩,
   ⟨(some 18), (.move (.const (.int .i64 0))), none⟩])
 (.block 0 (.loop (.seq (.reg [⟨(some 19), (.binOp .lss 3 (.tmp 18) (.tmp 17) 3), none⟩])
 (.seq (.cond (.tmp 19) .skip (.exit 0))
 (.seq (.block 1 (.seq (.reg [⟨(some 20), (.indexAddr 25 (.tmp 16) (.tmp 18)), none⟩,
   ⟨(some 21), (.load 35 (.tmp 20)), none⟩,
   ⟨(some 8), (.alloc 35), none⟩,
   ⟨none, (.store 35 (.tmp 8) (.tmp 21)), none⟩])
 (.seq (.seq (.reg [⟨(some 22), (.move (.tmp 1)), none⟩,
   ⟨(some 23), (.fieldAddr 35 (.tmp 8) 3), none⟩,
   ⟨(some 24), (.load 29 (.tmp 23)), none⟩,
   ⟨(some 25), (.call (.mk (.builtin .len) #[(.tmp 24)] #[29])), none⟩,
   ⟨(some 26), (.binOp .geq 3 (.tmp 22) (.tmp 25) 3), none⟩])
 (.cond (.tmp 26) (.seq (.reg [⟨(some 4), (.assign (.const (.slice none 0 0))), none⟩,
   ⟨(some 5), (.assign (.const (.bool false))), none⟩])
 .ret) .skip))
 (.seq (.reg [⟨(some 27), (.fieldAddr 35 (.tmp 8) 3), none⟩,
   ⟨(some 28), (.load 29 (.tmp 27)), none⟩,
   ⟨(some 29), (.call (.mk (.value (.func 69)) #[(.tmp 28)] #[29])), none⟩,
   ⟨(some 30), (.move (.tmp 1)), none⟩,
   ⟨(some 31), (.move (.tmp 1)), none⟩,
   ⟨(some 32), (.binOp .add 3 (.tmp 31) (.const (.int .i64 1)) 3), none⟩,
   ⟨(some 33), (.call (.mk (.value (.func 68)) #[(.tmp 29), (.tmp 30), (.tmp 32)] #[29, 3, 3])), none⟩,
   ⟨(some 34), (.fieldAddr 35 (.tmp 8) 3), none⟩,
   ⟨none, (.store 29 (.tmp 34) (.tmp 33)), none⟩])
 (.reg [⟨(some 35), (.move (.tmp 6)), none⟩,
   ⟨(some 36), (.load 35 (.tmp 8)), none⟩,
   ⟨(some 37), (.buildSlice 25 1 #[(0, (.tmp 36))]), none⟩,
   ⟨(some 38), (.call (.mk (.builtin .append) #[(.tmp 35), (.tmp 37)] #[25, 25])), none⟩,
   ⟨(some 6), (.assign (.tmp 38)), none⟩])))))
 (.reg [⟨(some 39), (.binOp .add 3 (.tmp 18) (.const (.int .i64 1)) 3), none⟩,
   ⟨(some 18), (.move (.tmp 39)), none⟩])))))))
 (.seq (.seq (.reg [⟨(some 40), (.move (.tmp 0)), none⟩,
   ⟨(some 41), (.call (.mk (.builtin .len) #[(.tmp 40)] #[25])), none⟩,
   ⟨(some 42), (.binOp .eql 3 (.tmp 41) (.const (.int .i64 0)) 3), none⟩,
   ⟨(some 43), (.move (.tmp 42)), none⟩,
   ⟨(some 44), (.move (.tmp 6)), (some (43, false))⟩,
   ⟨(some 45), (.call (.mk (.value (.func 48)) #[(.tmp 44)] #[25])), (some (43, false))⟩,
   ⟨(some 46), (.unOp .not 4 (.tmp 45)), (some (43, false))⟩,
   ⟨(some 47), (.pick (.tmp 43) (.const (.bool true)) (.tmp 46)), none⟩])
 (.cond (.tmp 47) (.seq (.reg [⟨(some 4), (.assign (.const (.slice none 0 0))), none⟩,
   ⟨(some 5), (.assign (.const (.bool false))), none⟩])
 .ret) .skip))
 (.seq (.reg [⟨(some 48), (.move (.tmp 6)), none⟩,
   ⟨(some 4), (.assign (.tmp 48)), none⟩,
   ⟨(some 5), (.assign (.const (.bool true))), none⟩])
 .ret))))))
theorem x_impl_WithoutJudge : Txt Try.prog 33 c_impl_WithoutJudge [.tmp 4, .tmp 5] 2 := ⟨by kernel_rfl, by kernel_rfl, _, _, Try.func33, rfl, by kernel_rfl, by kernel_rfl, by kernel_rfl, rfl, by decide⟩
/-- loop.example/g01062/laws.markShowFrameS -/
def c_laws_markShowFrameS : Cd :=
 (.seq (.reg [⟨(some 4), (.assign (.const (.int .i64 0))), none⟩])
 (.seq (.seq (.reg [⟨(some 5), (.assign (.const (.int .i64 0))), none⟩])
 (.block 0 (.loop (.seq (.seq (.reg [⟨(some 6), (.move (.tmp 5)), none⟩,
   ⟨(some 7), (.move (.tmp 0)), none⟩,
   ⟨(some 8), (.call (.mk (.builtin .len) #[(.tmp 7)] #[25])), none⟩,
   ⟨(some 9), (.binOp .lss 3 (.tmp 6) (.tmp 8) 3), none⟩])
 (.cond (.tmp 9) .skip (.exit 0)))
 (.seq (.block 1 (.seq (.reg [⟨(some 12), (.move (.tmp 0)), none⟩,
   ⟨(some 13), (.move (.tmp 5)), none⟩,
   ⟨(some 14), (.move (.tmp 1)), none⟩,
   ⟨(some 15), (.indexAddr 25 (.tmp 12) (.tmp 13)), none⟩,
   ⟨(some 16), (.fieldAddr 35 (.tmp 15) 0), none⟩,
   ⟨none, (.store 3 (.tmp 16) (.tmp 14)), none⟩])
 (.seq (.reg [⟨(some 17), (.move (.tmp 1)), none⟩,
   ⟨(some 18), (.binOp .add 3 (.tmp 17) (.const (.int .i64 1)) 3), none⟩,
   ⟨(some 1), (.assign (.tmp 18)), none⟩])
 (.seq (.reg [⟨(some 19), (.move (.tmp 0)), none⟩,
   ⟨(some 20), (.move (.tmp 5)), none⟩,
   ⟨(some 21), (.move (.tmp 1)), none⟩,
   ⟨(some 22), (.call (.mk (.value (.func 70)) #[(.tmp 21)] #[3])), none⟩,
   ⟨(some 23), (.indexAddr 25 (.tmp 19) (.tmp 20)), none⟩,
   ⟨(some 24), (.fieldAddr 35 (.tmp 23) 1), none⟩,
   ⟨none, (.store 9 (.tmp 24) (.tmp 22)), none⟩])
 (.seq (.reg [⟨(some 25), (.move (.tmp 1)), none⟩,
   ⟨(some 26), (.binOp .add 3 (.tmp 25) (.const (.int .i64 1)) 3), none⟩,
   ⟨(some 1), (.assign (.tmp 26)), none⟩])
 (.seq (.reg [⟨(some 27), (.move (.tmp 0)), none⟩,
   ⟨(some 28), (.move (.tmp 5)), none⟩,
   ⟨(some 29), (.move (.tmp 1)), none⟩,
   ⟨(some 30), (.indexAddr 25 (.tmp 27) (.tmp 28)), none⟩,
   ⟨(some 31), (.fieldAddr 35 (.tmp 30) 2), none⟩,
   ⟨none, (.store 3 (.tmp 31) (.tmp 29)), none⟩])
 (.seq (.reg [⟨(some 32), (.move (.tmp 1)), none⟩,
   ⟨(some 33), (.binOp .add 3 (.tmp 32) (.const (.int .i64 1)) 3), none⟩,
   ⟨(some 1), (.assign (.tmp 33)), none⟩])
 (.reg [⟨(some 34), (.move (.tmp 0)), none⟩,
   ⟨(some 35), (.move (.tmp 5)), none⟩,
   ⟨(some 36), (.indexAddr 25 (.tmp 34) (.tmp 35)), none⟩,
   ⟨(some 37), (.fieldAddr 35 (.tmp 36) 3), none⟩,
   ⟨(some 38), (.load 29 (.tmp 37)), none⟩,
   ⟨(some 39), (.move (.tmp 1)), none⟩,
   ⟨(some 40), (.call (.mk (.value (.func 43)) #[(.tmp 38), (.tmp 39)] #[29, 3])), none⟩,
   ⟨(some 1), (.assign (.tmp 40)), none⟩]))))))))
 (.reg [⟨(some 10), (.move (.tmp 5)), none⟩,
   ⟨(some 11), (.binOp .add 3 (.tmp 10) (.const (.int .i64 1)) 3), none⟩,
   ⟨(some 5), (.assign (.tmp 11)), none⟩]))))))
 (.seq (.reg [⟨(some 41), (.move (.tmp 1)), none⟩,
   ⟨(some 4), (.assign (.tmp 41)), none⟩])
 .ret)))
theorem x_laws_markShowFrameS : Txt Try.prog 34 c_laws_markShowFrameS [.tmp 4] 2 := ⟨by kernel_rfl, by kernel_rfl, _, _, Try.func34, rfl, by kernel_rfl, by kernel_rfl, by kernel_rfl, rfl, by decide⟩
/-- loop.example/g01062/laws.heldShowFrameS -/
def c_laws_heldShowFrameS : Cd :=
 (.seq (.reg [⟨(some 4), (.assign (.const (.int .i64 0))), none⟩])
 (.seq (.seq (.reg [⟨(some 5), (.assign (.const (.int .i64 0))), none⟩])
 (.block 0 (.loop (.seq (.seq (.reg [⟨(some 6), (.move (.tmp 5)), none⟩,
   ⟨(some 7), (.move (.tmp 0)), none⟩,
   ⟨(some 8), (.call (.mk (.builtin .len) #[(.tmp 7)] #[25])), none⟩,
   ⟨(some 9), (.binOp .lss 3 (.tmp 6) (.tmp 8) 3), none⟩])
 (.cond (.tmp 9) .skip (.exit 0)))
 (.seq (.block 1 (.seq (.seq (.reg [⟨(some 12), (.move (.tmp 0)), none⟩,
   ⟨(some 13), (.move (.tmp 5)), none⟩,
   ⟨(some 14), (.indexAddr 25 (.tmp 12) (.tmp 13)), none⟩,
   ⟨(some 15), (.fieldAddr 35 (.tmp 14) 0), none⟩,
   ⟨(some 16), (.load 3 (.tmp 15)), none⟩,
   ⟨(some 17), (.move (.tmp 1)), none⟩,
   ⟨(some 18), (.binOp .neq 3 (.tmp 16) (.tmp 17) 3), none⟩])
 (.cond (.tmp 18) (.seq (.reg [⟨(some 4), (.assign (.const (.int .i64 (-1)))), none⟩])
 .ret) .skip))
 (.seq (.reg [⟨(some 19), (.move (.tmp 1)), none⟩,
   ⟨(some 20), (.binOp .add 3 (.tmp 19) (.const (.int .i64 1)) 3), none⟩,
   ⟨(some 1), (.assign (.tmp 20)), none⟩])
 (.seq (.seq (.regq [⟨(some 21), (.move (.tmp 0)), none⟩,
   ⟨(some 22), (.move (.tmp 5)), none⟩,
   ⟨(some 23), (.indexAddr 25 (.tmp 21) (.tmp 22)), none⟩,
   ⟨(some 24), (.fieldAddr 35 (.tmp 23) 1), none⟩,
   ⟨(some 25), (.load 9 (.tmp 24)), none⟩,
   ⟨(some 26), (.move (.tmp 1)), none⟩,
   ⟨(some 27), (.call (.mk (.value (.func 70)) #[(.tmp 26)] #[3])), none⟩,
   ⟨(some 28), (.binOp .neq 9 (.tmp 25) (.tmp 27) 9), none⟩])
 (.cond (.tmp 28) (.seq (.reg [⟨(some 4), (.assign (.const (.int .i64 (-1)))), none⟩])
 .ret) .skip))
 (.seq (.reg [⟨(some 29), (.move (.tmp 1)), none⟩,
   ⟨(some 30), (.binOp .add 3 (.tmp 29) (.const (.int .i64 1)) 3), none⟩,
   ⟨(some 1), (.assign (.tmp 30)), none⟩])
 (.seq (.seq (.reg [⟨(some 31), (.move (.tmp 0)), none⟩,
   ⟨(some 32), (.move (.tmp 5)), none⟩,
   ⟨(some 33), (.indexAddr 25 (.tmp 31) (.tmp 32)), none⟩,
   ⟨(some 34), (.fieldAddr 35 (.tmp 33) 2), none⟩,
   ⟨(some 35), (.load 3 (.tmp 34)), none⟩,
   ⟨(some 36), (.move (.tmp 1)), none⟩,
   ⟨(some 37), (.binOp .neq 3 (.tmp 35) (.tmp 36) 3), none⟩])
 (.cond (.tmp 37) (.seq (.reg [⟨(some 4), (.assign (.const (.int .i64 (-1)))), none⟩])
 .ret) .skip))
 (.seq (.reg [⟨(some 38), (.move (.tmp 1)), none⟩,
   ⟨(some 39), (.binOp .add 3 (.tmp 38) (.const (.int .i64 1)) 3), none⟩,
   ⟨(some 1), (.assign (.tmp 39)), none⟩])
 (.seq (.reg [⟨(some 40), (.move (.tmp 0)), none⟩,
   ⟨(some 41), (.move (.tmp 5)), none⟩,
   ⟨(some 42), (.indexAddr 25 (.tmp 40) (.tmp 41)), none⟩,
   ⟨(some 43), (.fieldAddr 35 (.tmp 42) 3), none⟩,
   ⟨(some 44), (.load 29 (.tmp 43)), none⟩,
   ⟨(some 45), (.move (.tmp 1)), none⟩,
   ⟨(some 46), (.call (.mk (.value (.func 44)) #[(.tmp 44), (.tmp 45)] #[29, 3])), none⟩,
   ⟨(some 1), (.assign (.tmp 46)), none⟩])
 (.seq (.reg [⟨(some 47), (.move (.tmp 1)), none⟩,
   ⟨(some 48), (.binOp .lss 3 (.tmp 47) (.const (.int .i64 0)) 3), none⟩])
 (.cond (.tmp 48) (.seq (.reg [⟨(some 4), (.assign (.const (.int .i64 (-1)))), none⟩])
 .ret) .skip))))))))))
 (.reg [⟨(some 10), (.move (.tmp 5)), none⟩,
   ⟨(some 11), (.binOp .add 3 (.tmp 10) (.const (.int .i64 1)) 3), none⟩,
   ⟨(some 5), (.assign (.tmp 11)), none⟩]))))))
 (.seq (.reg [⟨(some 49), (.move (.tmp 1)), none⟩,
   ⟨(some 4), (.assign (.tmp 49)), none⟩])
 .ret)))
theorem x_laws_heldShowFrameS : Txt Try.prog 35 c_laws_heldShowFrameS [.tmp 4] 2 := ⟨by kernel_rfl, by kernel_rfl, _, _, Try.func35, rfl, by kernel_rfl, by kernel_rfl, by kernel_rfl, rfl, by decide⟩
/-- loop.example/g01062/spec.LeastMark -/
def c_spec_LeastMark : Cd :=
 (.seq (.reg [⟨(some 8), (.assign (.const (.int .i64 0))), none⟩,
   ⟨(some 9), (.assign (.const (.bool false))), none⟩])
 (.seq (.reg [⟨(some 13), (.move (.tmp 0)), none⟩,
   ⟨(some 14), (.move (.tmp 1)), none⟩,
   ⟨(some 15), (.call (.mk (.value (.func 61)) #[(.tmp 13), (.tmp 14)] #[25, 3])), none⟩,
   ⟨(some 10), (.assign (.tmp 15)), none⟩])
 (.seq (.seq (.reg [⟨(some 16), (.move (.tmp 0)), none⟩,
   ⟨(some 17), (.call (.mk (.value (.func 47)) #[(.tmp 16)] #[25])), none⟩,
   ⟨(some 18), (.unOp .not 4 (.tmp 17)), none⟩,
   ⟨(some 19), (.move (.tmp 18)), none⟩,
   ⟨(some 20), (.move (.tmp 10)), (some (19, false))⟩,
   ⟨(some 21), (.binOp .lss 3 (.tmp 20) (.const (.int .i64 0)) 3), (some (19, false))⟩,
   ⟨(some 22), (.pick (.tmp 19) (.const (.bool true)) (.tmp 21)), none⟩,
   ⟨(some 23), (.move (.tmp 22)), none⟩,
   ⟨(some 24), (.move (.tmp 2)), (some (23, false))⟩,
   ⟨(some 25), (.move (.tmp 0)), (some (23, false))⟩,
   ⟨(some 26), (.move (.tmp 10)), (some (23, false))⟩,
   ⟨(some 27), (.indexAddr 25 (.tmp 25) (.tmp 26)), (some (23, false))⟩,
   ⟨(some 28), (.fieldAddr 35 (.tmp 27) 3), (some (23, false))⟩,
   ⟨(some 29), (.load 29 (.tmp 28)), (some (23, false))⟩,
   ⟨(some 30), (.call (.mk (.builtin .len) #[(.tmp 29)] #[29])), (some (23, false))⟩,
   ⟨(some 31), (.binOp .sub 3 (.tmp 30) (.const (.int .i64 1)) 3), (some (23, false))⟩,
   ⟨(some 32), (.call (.mk (.value (.func 65)) #[(.tmp 24), (.const (.int .i64 0)), (.tmp 31)] #[3, 3, 3])), (some (23, false))⟩,
   ⟨(some 33), (.unOp .not 4 (.tmp 32)), (some (23, false))⟩,
   ⟨(some 34), (.pick (.tmp 23) (.const (.bool true)) (.tmp 33)), none⟩,
   ⟨(some 35), (.move (.tmp 34)), none⟩,
   ⟨(some 36), (.move (.tmp 3)), (some (35, false))⟩,
   ⟨(some 37), (.call (.mk (.value (.func 65)) #[(.tmp 36), (.const (.int .i64 0)), (.const (.int .i64 4))] #[3, 3, 3])), (some (35, false))⟩,
   ⟨(some 38), (.unOp .not 4 (.tmp 37)), (some (35, false))⟩,
   ⟨(some 39), (.pick (.tmp 35) (.const (.bool true)) (.tmp 38)), none⟩])
 (.cond (.tmp 39) (.seq (.reg [⟨(some 8), (.assign (.const (.int .i64 0))), none⟩,
   ⟨(some 9), (.assign (.const (.bool false))), none⟩])
 .ret) .skip))
 (.seq (.reg [⟨(some 40), (.move (.tmp 0)), none⟩,
   ⟨(some 41), (.move (.tmp 10)), none⟩,
   ⟨(some 42), (.indexAddr 25 (.tmp 40) (.tmp 41)), none⟩,
   ⟨(some 43), (.fieldAddr 35 (.tmp 42) 3), none⟩,
   ⟨(some 44), (.load 29 (.tmp 43)), none⟩,
   ⟨(some 45), (.call (.mk (.value (.func 67)) #[(.tmp 44)] #[29])), none⟩,
   ⟨(some 11), (.assign (.tmp 45)), none⟩])
 (.seq (.seq (.reg [⟨(some 12), (.assign (.const (.int .i64 0))), none⟩])
 (.block 0 (.loop (.seq (.seq (.reg [⟨(some 46), (.move (.tmp 12)), none⟩,
   ⟨(some 47), (.binOp .leq 3 (.tmp 46) (.const (.int .i64 100)) 3), none⟩])
 (.cond (.tmp 47) .skip (.exit 0)))
 (.seq (.block 1 (.seq (.reg [⟨(some 50), (.move (.tmp 11)), none⟩,
   ⟨(some 51), (.move (.tmp 2)), none⟩,
   ⟨(some 52), (.move (.tmp 12)), none⟩,
   ⟨(some 53), (.indexAddr 29 (.tmp 50) (.tmp 51)), none⟩,
   ⟨none, (.store 3 (.tmp 53) (.tmp 52)), none⟩])
 (.seq (.reg [⟨(some 54), (.move (.tmp 11)), none⟩,
   ⟨(some 55), (.call (.mk (.value (.func 57)) #[(.tmp 54)] #[29])), none⟩,
   ⟨(some 56), (.move (.tmp 3)), none⟩,
   ⟨(some 57), (.binOp .geq 3 (.tmp 55) (.tmp 56) 3), none⟩])
 (.cond (.tmp 57) (.seq (.reg [⟨(some 58), (.move (.tmp 12)), none⟩,
   ⟨(some 8), (.assign (.tmp 58)), none⟩,
   ⟨(some 9), (.assign (.const (.bool true))), none⟩])
 .ret) .skip))))
 (.reg [⟨(some 48), (.move (.tmp 12)), none⟩,
   ⟨(some 49), (.binOp .add 3 (.tmp 48) (.const (.int .i64 1)) 3), none⟩,
   ⟨(some 12), (.assign (.tmp 49)), none⟩]))))))
 (.seq (.reg [⟨(some 8), (.assign (.const (.int .i64 0))), none⟩,
   ⟨(some 9), (.assign (.const (.bool false))), none⟩])
 .ret))))))
theorem x_spec_LeastMark : Txt Try.prog 36 c_spec_LeastMark [.tmp 8, .tmp 9] 4 := ⟨by kernel_rfl, by kernel_rfl, _, _, Try.func36, rfl, by kernel_rfl, by kernel_rfl, by kernel_rfl, rfl, by decide⟩
/-- loop.example/g01062/impl.LeastMark -/
def c_impl_LeastMark : Cd :=
 (.seq (.reg [⟨(some 8), (.assign (.const (.int .i64 0))), none⟩,
   ⟨(some 9), (.assign (.const (.bool false))), none⟩])
 (.seq (.reg [⟨(some 13), (.move (.tmp 0)), none⟩,
   ⟨(some 14), (.move (.tmp 1)), none⟩,
   ⟨(some 15), (.call (.mk (.value (.func 63)) #[(.tmp 13), (.tmp 14)] #[25, 3])), none⟩,
   ⟨(some 10), (.assign (.tmp 15)), none⟩])
 (.seq (.seq (.reg [⟨(some 16), (.move (.tmp 0)), none⟩,
   ⟨(some 17), (.call (.mk (.value (.func 48)) #[(.tmp 16)] #[25])), none⟩,
   ⟨(some 18), (.unOp .not 4 (.tmp 17)), none⟩,
   ⟨(some 19), (.move (.tmp 18)), none⟩,
   ⟨(some 20), (.move (.tmp 10)), (some (19, false))⟩,
   ⟨(some 21), (.binOp .lss 3 (.tmp 20) (.const (.int .i64 0)) 3), (some (19, false))⟩,
   ⟨(some 22), (.pick (.tmp 19) (.const (.bool true)) (.tmp 21)), none⟩,
   ⟨(some 23), (.move (.tmp 22)), none⟩,
   ⟨(some 24), (.move (.tmp 2)), (some (23, false))⟩,
   ⟨(some 25), (.move (.tmp 0)), (some (23, false))⟩,
   ⟨(some 26), (.move (.tmp 10)), (some (23, false))⟩,
   ⟨(some 27), (.indexAddr 25 (.tmp 25) (.tmp 26)), (some (23, false))⟩,
   ⟨(some 28), (.fieldAddr 35 (.tmp 27) 3), (some (23, false))⟩,
   ⟨(some 29), (.load 29 (.tmp 28)), (some (23, false))⟩,
   ⟨(some 30), (.call (.mk (.builtin .len) #[(.tmp 29)] #[29])), (some (23, false))⟩,
   ⟨(some 31), (.binOp .sub 3 (.tmp 30) (.const (.int .i64 1)) 3), (some (23, false))⟩,
   ⟨(some 32), (.call (.mk (.value (.func 66)) #[(.tmp 24), (.const (.int .i64 0)), (.tmp 31)] #[3, 3, 3])), (some (23, false))⟩,
   ⟨(some 33), (.unOp .not 4 (.tmp 32)), (some (23, false))⟩,
   ⟨(some 34), (.pick (.tmp 23) (.const (.bool true)) (.tmp 33)), none⟩,
   ⟨(some 35), (.move (.tmp 34)), none⟩,
   ⟨(some 36), (.move (.tmp 3)), (some (35, false))⟩,
   ⟨(some 37), (.call (.mk (.value (.func 66)) #[(.tmp 36), (.const (.int .i64 0)), (.const (.int .i64 4))] #[3, 3, 3])), (some (35, false))⟩,
   ⟨(some 38), (.unOp .not 4 (.tmp 37)), (some (35, false))⟩,
   ⟨(some 39), (.pick (.tmp 35) (.const (.bool true)) (.tmp 38)), none⟩])
 (.cond (.tmp 39) (.seq (.reg [⟨(some 8), (.assign (.const (.int .i64 0))), none⟩,
   ⟨(some 9), (.assign (.const (.bool false))), none⟩])
 .ret) .skip))
 (.seq (.reg [⟨(some 40), (.move (.tmp 0)), none⟩,
   ⟨(some 41), (.move (.tmp 10)), none⟩,
   ⟨(some 42), (.indexAddr 25 (.tmp 40) (.tmp 41)), none⟩,
   ⟨(some 43), (.fieldAddr 35 (.tmp 42) 3), none⟩,
   ⟨(some 44), (.load 29 (.tmp 43)), none⟩,
   ⟨(some 45), (.call (.mk (.value (.func 69)) #[(.tmp 44)] #[29])), none⟩,
   ⟨(some 11), (.assign (.tmp 45)), none⟩])
 (.seq (.seq (.reg [⟨(some 46), (.move (.const (.int .i64 0))), none⟩])
 (.block 0 (.loop (.seq (.reg [⟨(some 47), (.binOp .lss 3 (.tmp 46) (.const (.int .i64 101)) 3), none⟩])
 (.seq (.cond (.tmp 47) .skip (.exit 0))
 (.seq (.block 1 (.seq (.reg [⟨(some 48), (.move (.tmp 46)), none⟩,
   ⟨(some 12), (.assign (.tmp 48)), none⟩])
 (.seq (.reg [⟨(some 49), (.move (.tmp 11)), none⟩,
   ⟨(some 50), (.move (.tmp 2)), none⟩,
   ⟨(some 51), (.move (.tmp 12)), none⟩,
   ⟨(some 52), (.indexAddr 29 (.tmp 49) (.tmp 50)), none⟩,
   ⟨none, (.store 3 (.tmp 52) (.tmp 51)), none⟩])
 (.seq (.reg [⟨(some 53), (.move (.tmp 11)), none⟩,
   ⟨(some 54), (.call (.mk (.value (.func 58)) #[(.tmp 53)] #[29])), none⟩,
   ⟨(some 55), (.move (.tmp 3)), none⟩,
   ⟨(some 56), (.binOp .geq 3 (.tmp 54) (.tmp 55) 3), none⟩])
 (.cond (.tmp 56) (.seq (.reg [⟨(some 57), (.move (.tmp 12)), none⟩,
   ⟨(some 8), (.assign (.tmp 57)), none⟩,
   ⟨(some 9), (.assign (.const (.bool true))), none⟩])
 .ret) .skip)))))
 (.reg [⟨(some 58), (.binOp .add 3 (.tmp 46) (.const (.int .i64 1)) 3), none⟩,
   ⟨(some 46), (.move (.tmp 58)), none⟩])))))))
 (.seq (.reg [⟨(some 8), (.assign (.const (.int .i64 0))), none⟩,
   ⟨(some 9), (.assign (.const (.bool false))), none⟩])
 .ret))))))
theorem x_impl_LeastMark : Txt Try.prog 37 c_impl_LeastMark [.tmp 8, .tmp 9] 4 := ⟨by kernel_rfl, by kernel_rfl, _, _, Try.func37, rfl, by kernel_rfl, by kernel_rfl, by kernel_rfl, rfl, by decide⟩
/-- loop.example/g01062/spec.PlaceOf -/
def c_spec_PlaceOf : Cd :=
 (.seq (.reg [⟨(some 4), (.assign (.const (.int .i64 0))), none⟩,
   ⟨(some 5), (.assign (.const (.bool false))), none⟩])
 (.seq (.reg [⟨(some 9), (.move (.tmp 0)), none⟩,
   ⟨(some 10), (.move (.tmp 1)), none⟩,
   ⟨(some 11), (.call (.mk (.value (.func 61)) #[(.tmp 9), (.tmp 10)] #[25, 3])), none⟩,
   ⟨(some 6), (.assign (.tmp 11)), none⟩])
 (.seq (.seq (.reg [⟨(some 12), (.move (.tmp 0)), none⟩,
   ⟨(some 13), (.call (.mk (.value (.func 47)) #[(.tmp 12)] #[25])), none⟩,
   ⟨(some 14), (.unOp .not 4 (.tmp 13)), none⟩,
   ⟨(some 15), (.move (.tmp 14)), none⟩,
   ⟨(some 16), (.move (.tmp 6)), (some (15, false))⟩,
   ⟨(some 17), (.binOp .lss 3 (.tmp 16) (.const (.int .i64 0)) 3), (some (15, false))⟩,
   ⟨(some 18), (.pick (.tmp 15) (.const (.bool true)) (.tmp 17)), none⟩])
 (.cond (.tmp 18) (.seq (.reg [⟨(some 4), (.assign (.const (.int .i64 0))), none⟩,
   ⟨(some 5), (.assign (.const (.bool false))), none⟩])
 .ret) .skip))
 (.seq (.reg [⟨(some 7), (.assign (.const (.int .i64 1))), none⟩])
 (.seq (.seq (.reg [⟨(some 8), (.assign (.const (.int .i64 0))), none⟩])
 (.block 0 (.loop (.seq (.seq (.reg [⟨(some 19), (.move (.tmp 8)), none⟩,
   ⟨(some 20), (.move (.tmp 0)), none⟩,
   ⟨(some 21), (.call (.mk (.builtin .len) #[(.tmp 20)] #[25])), none⟩,
   ⟨(some 22), (.binOp .lss 3 (.tmp 19) (.tmp 21) 3), none⟩])
 (.cond (.tmp 22) .skip (.exit 0)))
 (.seq (.block 1 (.seq (.regq [⟨(some 25), (.move (.tmp 0)), none⟩,
   ⟨(some 26), (.move (.tmp 8)), none⟩,
   ⟨(some 27), (.indexAddr 25 (.tmp 25) (.tmp 26)), none⟩,
   ⟨(some 28), (.load 35 (.tmp 27)), none⟩,
   ⟨(some 29), (.move (.tmp 0)), none⟩,
   ⟨(some 30), (.move (.tmp 6)), none⟩,
   ⟨(some 31), (.indexAddr 25 (.tmp 29) (.tmp 30)), none⟩,
   ⟨(some 32), (.load 35 (.tmp 31)), none⟩,
   ⟨(some 33), (.call (.mk (.value (.func 71)) #[(.tmp 28), (.tmp 32)] #[35, 35])), none⟩])
 (.cond (.tmp 33) (.reg [⟨(some 34), (.move (.tmp 7)), none⟩,
   ⟨(some 35), (.binOp .add 3 (.tmp 34) (.const (.int .i64 1)) 3), none⟩,
   ⟨(some 7), (.assign (.tmp 35)), none⟩]) .skip)))
 (.reg [⟨(some 23), (.move (.tmp 8)), none⟩,
   ⟨(some 24), (.binOp .add 3 (.tmp 23) (.const (.int .i64 1)) 3), none⟩,
   ⟨(some 8), (.assign (.tmp 24)), none⟩]))))))
 (.seq (.reg [⟨(some 36), (.move (.tmp 7)), none⟩,
   ⟨(some 4), (.assign (.tmp 36)), none⟩,
   ⟨(some 5), (.assign (.const (.bool true))), none⟩])
 .ret))))))
theorem x_spec_PlaceOf : Txt Try.prog 38 c_spec_PlaceOf [.tmp 4, .tmp 5] 2 := ⟨by kernel_rfl, by kernel_rfl, _, _, Try.func38, rfl, by kernel_rfl, by kernel_rfl, by kernel_rfl, rfl, by decide⟩
/-- loop.example/g01062/impl.PlaceOf -/
def c_impl_PlaceOf : Cd :=
 (.seq (.reg [⟨(some 4), (.assign (.const (.int .i64 0))), none⟩,
   ⟨(some 5), (.assign (.const (.bool false))), none⟩])
 (.seq (.reg [⟨(some 9), (.move (.tmp 0)), none⟩,
   ⟨(some 10), (.move (.tmp 1)), none⟩,
   ⟨(some 11), (.call (.mk (.value (.func 63)) #[(.tmp 9), (.tmp 10)] #[25, 3])), none⟩,
   ⟨(some 6), (.assign (.tmp 11)), none⟩])
 (.seq (.seq (.reg [⟨(some 12), (.move (.tmp 0)), none⟩,
   ⟨(some 13), (.call (.mk (.value (.func 48)) #[(.tmp 12)] #[25])), none⟩,
   ⟨(some 14), (.unOp .not 4 (.tmp 13)), none⟩,
   ⟨(some 15), (.move (.tmp 14)), none⟩,
   ⟨(some 16), (.move (.tmp 6)), (some (15, false))⟩,
   ⟨(some 17), (.binOp .lss 3 (.tmp 16) (.const (.int .i64 0)) 3), (some (15, false))⟩,
   ⟨(some 18), (.pick (.tmp 15) (.const (.bool true)) (.tmp 17)), none⟩])
 (.cond (.tmp 18) (.seq (.reg [⟨(some 4), (.assign (.const (.int .i64 0))), none⟩,
   ⟨(some 5), (.assign (.const (.bool false))), none⟩])
 .ret) .skip))
 (.seq (.reg [⟨(some 7), (.assign (.const (.int .i64 1))), none⟩])
 (.seq (.seq (.reg [⟨(some 19), (.move (.tmp 0)), none⟩,
   ⟨(some 20), (.call (.mk (.builtin .len) #[(.tmp 19)] #[25])), none⟩,
   ⟨(some 21), (.move (.const (.int .i64 0))), none⟩])
 (.block 0 (.loop (.seq (.reg [⟨(some 22), (.binOp .lss 3 (.tmp 21) (.tmp 20) 3), none⟩])
 (.seq (.cond (.tmp 22) .skip (.exit 0))
 (.seq (.block 1 (.seq (.reg [⟨(some 23), (.move (.tmp 21)), none⟩,
   ⟨(some 8), (.assign (.tmp 23)), none⟩])
 (.seq (.regq [⟨(some 24), (.move (.tmp 0)), none⟩,
   ⟨(some 25), (.move (.tmp 8)), none⟩,
   ⟨(some 26), (.indexAddr 25 (.tmp 24) (.tmp 25)), none⟩,
   ⟨(some 27), (.move (.tmp 0)), none⟩,
   ⟨(some 28), (.move (.tmp 6)), none⟩,
   ⟨(some 29), (.indexAddr 25 (.tmp 27) (.tmp 28)), none⟩,
   ⟨(some 30), (.call (.mk (.value (.func 72)) #[(.tmp 26), (.tmp 29)] #[59, 59])), none⟩,
   ⟨(some 31), (.binOp .gtr 3 (.tmp 30) (.const (.int .i64 0)) 3), none⟩])
 (.cond (.tmp 31) (.reg [⟨(some 32), (.move (.tmp 7)), none⟩,
   ⟨(some 33), (.binOp .add 3 (.tmp 32) (.const (.int .i64 1)) 3), none⟩,
   ⟨(some 7), (.assign (.tmp 33)), none⟩]) .skip))))
 (.reg [⟨(some 34), (.binOp .add 3 (.tmp 21) (.const (.int .i64 1)) 3), none⟩,
   ⟨(some 21), (.move (.tmp 34)), none⟩])))))))
 (.seq (.reg [⟨(some 35), (.move (.tmp 7)), none⟩,
   ⟨(some 4), (.assign (.tmp 35)), none⟩,
   ⟨(some 5), (.assign (.const (.bool true))), none⟩])
 .ret))))))
theorem x_impl_PlaceOf : Txt Try.prog 39 c_impl_PlaceOf [.tmp 4, .tmp 5] 2 := ⟨by kernel_rfl, by kernel_rfl, _, _, Try.func39, rfl, by kernel_rfl, by kernel_rfl, by kernel_rfl, rfl, by decide⟩
/-- loop.example/g01062/spec.MedalCounts -/
def c_spec_MedalCounts : Cd :=
 (.seq (.reg [⟨(some 2), (.assign (.const (.slice none 0 0))), none⟩,
   ⟨(some 3), (.assign (.const (.bool false))), none⟩])
 (.seq (.seq (.reg [⟨(some 7), (.move (.tmp 0)), none⟩,
   ⟨(some 8), (.call (.mk (.value (.func 47)) #[(.tmp 7)] #[25])), none⟩,
   ⟨(some 9), (.unOp .not 4 (.tmp 8)), none⟩])
 (.cond (.tmp 9) (.seq (.reg [⟨(some 10), (.buildSlice 29 0 #[]), none⟩,
   ⟨(some 2), (.assign (.tmp 10)), none⟩,
   ⟨(some 3), (.assign (.const (.bool false))), none⟩])
 .ret) .skip))
 (.seq (.reg [⟨(some 11), (.makeSlice 29 (.const (.int .i64 5)) (.const (.int .i64 5))), none⟩,
   ⟨(some 4), (.assign (.tmp 11)), none⟩])
 (.seq (.seq (.reg [⟨(some 5), (.assign (.const (.int .i64 0))), none⟩])
 (.block 0 (.loop (.seq (.seq (.reg [⟨(some 12), (.move (.tmp 5)), none⟩,
   ⟨(some 13), (.move (.tmp 0)), none⟩,
   ⟨(some 14), (.call (.mk (.builtin .len) #[(.tmp 13)] #[25])), none⟩,
   ⟨(some 15), (.binOp .lss 3 (.tmp 12) (.tmp 14) 3), none⟩])
 (.cond (.tmp 15) .skip (.exit 0)))
 (.seq (.block 1 (.seq (.reg [⟨(some 18), (.move (.tmp 0)), none⟩,
   ⟨(some 19), (.move (.tmp 5)), none⟩,
   ⟨(some 20), (.indexAddr 25 (.tmp 18) (.tmp 19)), none⟩,
   ⟨(some 21), (.fieldAddr 35 (.tmp 20) 3), none⟩,
   ⟨(some 22), (.load 29 (.tmp 21)), none⟩,
   ⟨(some 23), (.call (.mk (.value (.func 57)) #[(.tmp 22)] #[29])), none⟩,
   ⟨(some 6), (.assign (.tmp 23)), none⟩])
 (.reg [⟨(some 24), (.move (.tmp 4)), none⟩,
   ⟨(some 25), (.move (.tmp 6)), none⟩,
   ⟨(some 26), (.move (.tmp 4)), none⟩,
   ⟨(some 27), (.move (.tmp 6)), none⟩,
   ⟨(some 28), (.indexAddr 29 (.tmp 26) (.tmp 27)), none⟩,
   ⟨(some 29), (.load 3 (.tmp 28)), none⟩,
   ⟨(some 30), (.binOp .add 3 (.tmp 29) (.const (.int .i64 1)) 3), none⟩,
   ⟨(some 31), (.indexAddr 29 (.tmp 24) (.tmp 25)), none⟩,
   ⟨none, (.store 3 (.tmp 31) (.tmp 30)), none⟩])))
 (.reg [⟨(some 16), (.move (.tmp 5)), none⟩,
   ⟨(some 17), (.binOp .add 3 (.tmp 16) (.const (.int .i64 1)) 3), none⟩,
   ⟨(some 5), (.assign (.tmp 17)), none⟩]))))))
 (.seq (.reg [⟨(some 32), (.move (.tmp 4)), none⟩,
   ⟨(some 2), (.assign (.tmp 32)), none⟩,
   ⟨(some 3), (.assign (.const (.bool true))), none⟩])
 .ret)))))
theorem x_spec_MedalCounts : Txt Try.prog 40 c_spec_MedalCounts [.tmp 2, .tmp 3] 1 := ⟨by kernel_rfl, by kernel_rfl, _, _, Try.func40, rfl, by kernel_rfl, by kernel_rfl, by kernel_rfl, rfl, by decide⟩
/-- loop.example/g01062/impl.MedalCounts -/
def c_impl_MedalCounts : Cd :=
 (.seq (.reg [⟨(some 2), (.assign (.const (.slice none 0 0))), none⟩,
   ⟨(some 3), (.assign (.const (.bool false))), none⟩])
 (.seq (.seq (.reg [⟨(some 7), (.move (.tmp 0)), none⟩,
   ⟨(some 8), (.call (.mk (.value (.func 48)) #[(.tmp 7)] #[25])), none⟩,
   ⟨(some 9), (.unOp .not 4 (.tmp 8)), none⟩])
 (.cond (.tmp 9) (.seq (.reg [⟨(some 2), (.assign (.const (.slice none 0 0))), none⟩,
   ⟨(some 3), (.assign (.const (.bool false))), none⟩])
 .ret) .skip))
 (.seq (.reg [⟨(some 10), (.makeSlice 29 (.const (.int .i64 5)) (.const (.int .i64 5))), none⟩,
   ⟨(some 4), (.assign (.tmp 10)), none⟩])
 (.seq (.seq (.reg [⟨(some 11), (.move (.tmp 0)), none⟩,
   ⟨(some 12), (.call (.mk (.builtin .len) #[(.tmp 11)] #[25])), none⟩,
   ⟨(some 13), (.move (.const (.int .i64 0))), none⟩])
 (.block 0 (.loop (.seq (.reg [⟨(some 14), (.binOp .lss 3 (.tmp 13) (.tmp 12) 3), none⟩])
 (.seq (.cond (.tmp 14) .skip (.exit 0))
 (.seq (.block 1 (.seq (.reg [⟨(some 15), (.indexAddr 25 (.tmp 11) (.tmp 13)), none⟩,
   ⟨(some 16), (.load 35 (.tmp 15)), none⟩,
   ⟨(some 6), (.alloc 35), none⟩,
   ⟨none, (.store 35 (.tmp 6) (.tmp 16)), none⟩])
 (.reg [⟨(some 17), (.move (.tmp 4)), none⟩,
   ⟨(some 18), (.fieldAddr 35 (.tmp 6) 3), none⟩,
   ⟨(some 19), (.load 29 (.tmp 18)), none⟩,
   ⟨(some 20), (.call (.mk (.value (.func 58)) #[(.tmp 19)] #[29])), none⟩,
   ⟨(some 21), (.indexAddr 29 (.tmp 17) (.tmp 20)), none⟩,
   ⟨(some 22), (.load 3 (.tmp 21)), none⟩,
   ⟨(some 23), (.binOp .add 3 (.tmp 22) (.const (.int .i64 1)) 3), none⟩,
   ⟨(some 24), (.indexAddr 29 (.tmp 17) (.tmp 20)), none⟩,
   ⟨none, (.store 3 (.tmp 24) (.tmp 23)), none⟩])))
 (.reg [⟨(some 25), (.binOp .add 3 (.tmp 13) (.const (.int .i64 1)) 3), none⟩,
   ⟨(some 13), (.move (.tmp 25)), none⟩])))))))
 (.seq (.reg [⟨(some 26), (.move (.tmp 4)), none⟩,
   ⟨(some 2), (.assign (.tmp 26)), none⟩,
   ⟨(some 3), (.assign (.const (.bool true))), none⟩])
 .ret)))))
theorem x_impl_MedalCounts : Txt Try.prog 41 c_impl_MedalCounts [.tmp 2, .tmp 3] 1 := ⟨by kernel_rfl, by kernel_rfl, _, _, Try.func41, rfl, by kernel_rfl, by kernel_rfl, by kernel_rfl, rfl, by decide⟩
/-- loop.example/g01062/laws.eqIntS -/
def c_laws_eqIntS : Cd :=
 (.seq (.reg [⟨(some 4), (.assign (.const (.bool false))), none⟩])
 (.seq (.seq (.reg [⟨(some 6), (.move (.tmp 0)), none⟩,
   ⟨(some 7), (.call (.mk (.builtin .len) #[(.tmp 6)] #[29])), none⟩,
   ⟨(some 8), (.move (.tmp 1)), none⟩,
   ⟨(some 9), (.call (.mk (.builtin .len) #[(.tmp 8)] #[29])), none⟩,
   ⟨(some 10), (.binOp .neq 3 (.tmp 7) (.tmp 9) 3), none⟩])
 (.cond (.tmp 10) (.seq (.reg [⟨(some 4), (.assign (.const (.bool false))), none⟩])
 .ret) .skip))
 (.seq (.seq (.reg [⟨(some 5), (.assign (.const (.int .i64 0))), none⟩])
 (.block 0 (.loop (.seq (.seq (.reg [⟨(some 11), (.move (.tmp 5)), none⟩,
   ⟨(some 12), (.move (.tmp 0)), none⟩,
   ⟨(some 13), (.call (.mk (.builtin .len) #[(.tmp 12)] #[29])), none⟩,
   ⟨(some 14), (.binOp .lss 3 (.tmp 11) (.tmp 13) 3), none⟩])
 (.cond (.tmp 14) .skip (.exit 0)))
 (.seq (.block 1 (.seq (.regq [⟨(some 17), (.move (.tmp 0)), none⟩,
   ⟨(some 18), (.move (.tmp 5)), none⟩,
   ⟨(some 19), (.indexAddr 29 (.tmp 17) (.tmp 18)), none⟩,
   ⟨(some 20), (.load 3 (.tmp 19)), none⟩,
   ⟨(some 21), (.move (.tmp 1)), none⟩,
   ⟨(some 22), (.move (.tmp 5)), none⟩,
   ⟨(some 23), (.indexAddr 29 (.tmp 21) (.tmp 22)), none⟩,
   ⟨(some 24), (.load 3 (.tmp 23)), none⟩,
   ⟨(some 25), (.binOp .neq 3 (.tmp 20) (.tmp 24) 3), none⟩])
 (.cond (.tmp 25) (.seq (.reg [⟨(some 4), (.assign (.const (.bool false))), none⟩])
 .ret) .skip)))
 (.reg [⟨(some 15), (.move (.tmp 5)), none⟩,
   ⟨(some 16), (.binOp .add 3 (.tmp 15) (.const (.int .i64 1)) 3), none⟩,
   ⟨(some 5), (.assign (.tmp 16)), none⟩]))))))
 (.seq (.reg [⟨(some 4), (.assign (.const (.bool true))), none⟩])
 .ret))))
theorem x_laws_eqIntS : Txt Try.prog 42 c_laws_eqIntS [.tmp 4] 2 := ⟨by kernel_rfl, by kernel_rfl, _, _, Try.func42, rfl, by kernel_rfl, by kernel_rfl, by kernel_rfl, rfl, by decide⟩
/-- loop.example/g01062/laws.markIntS -/
def c_laws_markIntS : Cd :=
 (.seq (.reg [⟨(some 4), (.assign (.const (.int .i64 0))), none⟩])
 (.seq (.seq (.reg [⟨(some 5), (.assign (.const (.int .i64 0))), none⟩])
 (.block 0 (.loop (.seq (.seq (.reg [⟨(some 6), (.move (.tmp 5)), none⟩,
   ⟨(some 7), (.move (.tmp 0)), none⟩,
   ⟨(some 8), (.call (.mk (.builtin .len) #[(.tmp 7)] #[29])), none⟩,
   ⟨(some 9), (.binOp .lss 3 (.tmp 6) (.tmp 8) 3), none⟩])
 (.cond (.tmp 9) .skip (.exit 0)))
 (.seq (.block 1 (.seq (.reg [⟨(some 12), (.move (.tmp 0)), none⟩,
   ⟨(some 13), (.move (.tmp 5)), none⟩,
   ⟨(some 14), (.move (.tmp 1)), none⟩,
   ⟨(some 15), (.indexAddr 29 (.tmp 12) (.tmp 13)), none⟩,
   ⟨none, (.store 3 (.tmp 15) (.tmp 14)), none⟩])
 (.reg [⟨(some 16), (.move (.tmp 1)), none⟩,
   ⟨(some 17), (.binOp .add 3 (.tmp 16) (.const (.int .i64 1)) 3), none⟩,
   ⟨(some 1), (.assign (.tmp 17)), none⟩])))
 (.reg [⟨(some 10), (.move (.tmp 5)), none⟩,
   ⟨(some 11), (.binOp .add 3 (.tmp 10) (.const (.int .i64 1)) 3), none⟩,
   ⟨(some 5), (.assign (.tmp 11)), none⟩]))))))
 (.seq (.reg [⟨(some 18), (.move (.tmp 1)), none⟩,
   ⟨(some 4), (.assign (.tmp 18)), none⟩])
 .ret)))
theorem x_laws_markIntS : Txt Try.prog 43 c_laws_markIntS [.tmp 4] 2 := ⟨by kernel_rfl, by kernel_rfl, _, _, Try.func43, rfl, by kernel_rfl, by kernel_rfl, by kernel_rfl, rfl, by decide⟩
/-- loop.example/g01062/laws.heldIntS -/
def c_laws_heldIntS : Cd :=
 (.seq (.reg [⟨(some 4), (.assign (.const (.int .i64 0))), none⟩])
 (.seq (.seq (.reg [⟨(some 5), (.assign (.const (.int .i64 0))), none⟩])
 (.block 0 (.loop (.seq (.seq (.reg [⟨(some 6), (.move (.tmp 5)), none⟩,
   ⟨(some 7), (.move (.tmp 0)), none⟩,
   ⟨(some 8), (.call (.mk (.builtin .len) #[(.tmp 7)] #[29])), none⟩,
   ⟨(some 9), (.binOp .lss 3 (.tmp 6) (.tmp 8) 3), none⟩])
 (.cond (.tmp 9) .skip (.exit 0)))
 (.seq (.block 1 (.seq (.seq (.reg [⟨(some 12), (.move (.tmp 0)), none⟩,
   ⟨(some 13), (.move (.tmp 5)), none⟩,
   ⟨(some 14), (.indexAddr 29 (.tmp 12) (.tmp 13)), none⟩,
   ⟨(some 15), (.load 3 (.tmp 14)), none⟩,
   ⟨(some 16), (.move (.tmp 1)), none⟩,
   ⟨(some 17), (.binOp .neq 3 (.tmp 15) (.tmp 16) 3), none⟩])
 (.cond (.tmp 17) (.seq (.reg [⟨(some 4), (.assign (.const (.int .i64 (-1)))), none⟩])
 .ret) .skip))
 (.reg [⟨(some 18), (.move (.tmp 1)), none⟩,
   ⟨(some 19), (.binOp .add 3 (.tmp 18) (.const (.int .i64 1)) 3), none⟩,
   ⟨(some 1), (.assign (.tmp 19)), none⟩])))
 (.reg [⟨(some 10), (.move (.tmp 5)), none⟩,
   ⟨(some 11), (.binOp .add 3 (.tmp 10) (.const (.int .i64 1)) 3), none⟩,
   ⟨(some 5), (.assign (.tmp 11)), none⟩]))))))
 (.seq (.reg [⟨(some 20), (.move (.tmp 1)), none⟩,
   ⟨(some 4), (.assign (.tmp 20)), none⟩])
 .ret)))
theorem x_laws_heldIntS : Txt Try.prog 44 c_laws_heldIntS [.tmp 4] 2 := ⟨by kernel_rfl, by kernel_rfl, _, _, Try.func44, rfl, by kernel_rfl, by kernel_rfl, by kernel_rfl, rfl, by decide⟩
/-- loop.example/g01062/spec.l23Good -/
def c_spec_l23Good : Cd :=
 (.seq (.reg [⟨(some 2), (.assign (.const (.bool false))), none⟩])
 (.seq (.seq (.reg [⟨(some 3), (.assign (.const (.int .i64 0))), none⟩])
 (.block 0 (.loop (.seq (.seq (.reg [⟨(some 4), (.move (.tmp 3)), none⟩,
   ⟨(some 5), (.move (.tmp 0)), none⟩,
   ⟨(some 6), (.call (.mk (.builtin .len) #[(.tmp 5)] #[25])), none⟩,
   ⟨(some 7), (.binOp .lss 3 (.tmp 4) (.tmp 6) 3), none⟩])
 (.cond (.tmp 7) .skip (.exit 0)))
 (.seq (.block 1 (.seq (.regq [⟨(some 10), (.move (.tmp 0)), none⟩,
   ⟨(some 11), (.move (.tmp 3)), none⟩,
   ⟨(some 12), (.indexAddr 25 (.tmp 10) (.tmp 11)), none⟩,
   ⟨(some 13), (.load 35 (.tmp 12)), none⟩,
   ⟨(some 14), (.call (.mk (.value (.func 50)) #[(.tmp 13)] #[35])), none⟩,
   ⟨(some 15), (.unOp .not 4 (.tmp 14)), none⟩,
   ⟨(some 16), (.move (.tmp 15)), none⟩,
   ⟨(some 17), (.move (.tmp 0)), (some (16, false))⟩,
   ⟨(some 18), (.move (.tmp 3)), (some (16, false))⟩,
   ⟨(some 19), (.indexAddr 25 (.tmp 17) (.tmp 18)), (some (16, false))⟩,
   ⟨(some 20), (.fieldAddr 35 (.tmp 19) 3), (some (16, false))⟩,
   ⟨(some 21), (.load 29 (.tmp 20)), (some (16, false))⟩,
   ⟨(some 22), (.call (.mk (.builtin .len) #[(.tmp 21)] #[29])), (some (16, false))⟩,
   ⟨(some 23), (.move (.tmp 0)), (some (16, false))⟩,
   ⟨(some 24), (.indexAddr 25 (.tmp 23) (.const (.int .i64 0))), (some (16, false))⟩,
   ⟨(some 25), (.fieldAddr 35 (.tmp 24) 3), (some (16, false))⟩,
   ⟨(some 26), (.load 29 (.tmp 25)), (some (16, false))⟩,
   ⟨(some 27), (.call (.mk (.builtin .len) #[(.tmp 26)] #[29])), (some (16, false))⟩,
   ⟨(some 28), (.binOp .neq 3 (.tmp 22) (.tmp 27) 3), (some (16, false))⟩,
   ⟨(some 29), (.pick (.tmp 16) (.const (.bool true)) (.tmp 28)), none⟩,
   ⟨(some 30), (.move (.tmp 29)), none⟩,
   ⟨(some 31), (.move (.tmp 3)), (some (30, false))⟩,
   ⟨(some 32), (.binOp .gtr 3 (.tmp 31) (.const (.int .i64 0)) 3), (some (30, false))⟩,
   ⟨(some 33), (.move (.tmp 32)), (some (30, false))⟩,
   ⟨(some 34), (.move (.tmp 0)), (some (33, true))⟩,
   ⟨(some 35), (.move (.tmp 3)), (some (33, true))⟩,
   ⟨(some 36), (.binOp .sub 3 (.tmp 35) (.const (.int .i64 1)) 3), (some (33, true))⟩,
   ⟨(some 37), (.indexAddr 25 (.tmp 34) (.tmp 36)), (some (33, true))⟩,
   ⟨(some 38), (.fieldAddr 35 (.tmp 37) 0), (some (33, true))⟩,
   ⟨(some 39), (.load 3 (.tmp 38)), (some (33, true))⟩,
   ⟨(some 40), (.move (.tmp 0)), (some (33, true))⟩,
   ⟨(some 41), (.move (.tmp 3)), (some (33, true))⟩,
   ⟨(some 42), (.indexAddr 25 (.tmp 40) (.tmp 41)), (some (33, true))⟩,
   ⟨(some 43), (.fieldAddr 35 (.tmp 42) 0), (some (33, true))⟩,
   ⟨(some 44), (.load 3 (.tmp 43)), (some (33, true))⟩,
   ⟨(some 45), (.binOp .geq 3 (.tmp 39) (.tmp 44) 3), (some (33, true))⟩,
   ⟨(some 46), (.pick (.tmp 33) (.tmp 45) (.const (.bool false))), (some (30, false))⟩,
   ⟨(some 47), (.pick (.tmp 30) (.const (.bool true)) (.tmp 46)), none⟩])
 (.cond (.tmp 47) (.seq (.reg [⟨(some 2), (.assign (.const (.bool false))), none⟩])
 .ret) .skip)))
 (.reg [⟨(some 8), (.move (.tmp 3)), none⟩,
   ⟨(some 9), (.binOp .add 3 (.tmp 8) (.const (.int .i64 1)) 3), none⟩,
   ⟨(some 3), (.assign (.tmp 9)), none⟩]))))))
 (.seq (.reg [⟨(some 48), (.move (.tmp 0)), none⟩,
   ⟨(some 49), (.call (.mk (.builtin .len) #[(.tmp 48)] #[25])), none⟩,
   ⟨(some 50), (.binOp .leq 3 (.tmp 49) (.const (.int .i64 10)) 3), none⟩,
   ⟨(some 2), (.assign (.tmp 50)), none⟩])
 .ret)))
theorem x_spec_l23Good : Txt Try.prog 47 c_spec_l23Good [.tmp 2] 1 := ⟨by kernel_rfl, by kernel_rfl, _, _, Try.func47, rfl, by kernel_rfl, by kernel_rfl, by kernel_rfl, rfl, by decide⟩
/-- loop.example/g01062/impl.areExhibits -/
def c_impl_areExhibits : Cd :=
 (.seq (.reg [⟨(some 2), (.assign (.const (.bool false))), none⟩])
 (.seq (.seq (.reg [⟨(some 4), (.move (.tmp 0)), none⟩,
   ⟨(some 5), (.call (.mk (.builtin .len) #[(.tmp 4)] #[25])), none⟩,
   ⟨(some 6), (.move (.const (.int .i64 0))), none⟩])
 (.block 0 (.loop (.seq (.reg [⟨(some 7), (.binOp .lss 3 (.tmp 6) (.tmp 5) 3), none⟩])
 (.seq (.cond (.tmp 7) .skip (.exit 0))
 (.seq (.block 1 (.seq (.reg [⟨(some 8), (.move (.tmp 6)), none⟩,
   ⟨(some 3), (.assign (.tmp 8)), none⟩])
 (.seq (.regq [⟨(some 9), (.move (.tmp 0)), none⟩,
   ⟨(some 10), (.move (.tmp 3)), none⟩,
   ⟨(some 11), (.indexAddr 25 (.tmp 9) (.tmp 10)), none⟩,
   ⟨(some 12), (.call (.mk (.value (.func 54)) #[(.tmp 11)] #[59])), none⟩,
   ⟨(some 13), (.unOp .not 4 (.tmp 12)), none⟩,
   ⟨(some 14), (.move (.tmp 13)), none⟩,
   ⟨(some 15), (.move (.tmp 0)), (some (14, false))⟩,
   ⟨(some 16), (.move (.tmp 3)), (some (14, false))⟩,
   ⟨(some 17), (.indexAddr 25 (.tmp 15) (.tmp 16)), (some (14, false))⟩,
   ⟨(some 18), (.fieldAddr 35 (.tmp 17) 3), (some (14, false))⟩,
   ⟨(some 19), (.load 29 (.tmp 18)), (some (14, false))⟩,
   ⟨(some 20), (.call (.mk (.builtin .len) #[(.tmp 19)] #[29])), (some (14, false))⟩,
   ⟨(some 21), (.move (.tmp 0)), (some (14, false))⟩,
   ⟨(some 22), (.indexAddr 25 (.tmp 21) (.const (.int .i64 0))), (some (14, false))⟩,
   ⟨(some 23), (.fieldAddr 35 (.tmp 22) 3), (some (14, false))⟩,
   ⟨(some 24), (.load 29 (.tmp 23)), (some (14, false))⟩,
   ⟨(some 25), (.call (.mk (.builtin .len) #[(.tmp 24)] #[29])), (some (14, false))⟩,
   ⟨(some 26), (.binOp .neq 3 (.tmp 20) (.tmp 25) 3), (some (14, false))⟩,
   ⟨(some 27), (.pick (.tmp 14) (.const (.bool true)) (.tmp 26)), none⟩,
   ⟨(some 28), (.move (.tmp 27)), none⟩,
   ⟨(some 29), (.move (.tmp 3)), (some (28, false))⟩,
   ⟨(some 30), (.binOp .gtr 3 (.tmp 29) (.const (.int .i64 0)) 3), (some (28, false))⟩,
   ⟨(some 31), (.move (.tmp 30)), (some (28, false))⟩,
   ⟨(some 32), (.move (.tmp 0)), (some (31, true))⟩,
   ⟨(some 33), (.move (.tmp 3)), (some (31, true))⟩,
   ⟨(some 34), (.binOp .sub 3 (.tmp 33) (.const (.int .i64 1)) 3), (some (31, true))⟩,
   ⟨(some 35), (.indexAddr 25 (.tmp 32) (.tmp 34)), (some (31, true))⟩,
   ⟨(some 36), (.fieldAddr 35 (.tmp 35) 0), (some (31, true))⟩,
   ⟨(some 37), (.load 3 (.tmp 36)), (some (31, true))⟩,
   ⟨(some 38), (.move (.tmp 0)), (some (31, true))⟩,
   ⟨(some 39), (.move (.tmp 3)), (some (31, true))⟩,
   ⟨(some 40), (.indexAddr 25 (.tmp 38) (.tmp 39)), (some (31, true))⟩,
   ⟨(some 41), (.fieldAddr 35 (.tmp 40) 0), (some (31, true))⟩,
   ⟨(some 42), (.load 3 (.tmp 41)), (some (31, true))⟩,
   ⟨(some 43), (.binOp .geq 3 (.tmp 37) (.tmp 42) 3), (some (31, true))⟩,
   ⟨(some 44), (.pick (.tmp 31) (.tmp 43) (.const (.bool false))), (some (28, false))⟩,
   ⟨(some 45), (.pick (.tmp 28) (.const (.bool true)) (.tmp 44)), none⟩])
 (.cond (.tmp 45) (.seq (.reg [⟨(some 2), (.assign (.const (.bool false))), none⟩])
 .ret) .skip))))
 (.reg [⟨(some 46), (.binOp .add 3 (.tmp 6) (.const (.int .i64 1)) 3), none⟩,
   ⟨(some 6), (.move (.tmp 46)), none⟩])))))))
 (.seq (.reg [⟨(some 47), (.move (.tmp 0)), none⟩,
   ⟨(some 48), (.call (.mk (.builtin .len) #[(.tmp 47)] #[25])), none⟩,
   ⟨(some 49), (.binOp .leq 3 (.tmp 48) (.const (.int .i64 10)) 3), none⟩,
   ⟨(some 2), (.assign (.tmp 49)), none⟩])
 .ret)))
theorem x_impl_areExhibits : Txt Try.prog 48 c_impl_areExhibits [.tmp 2] 1 := ⟨by kernel_rfl, by kernel_rfl, _, _, Try.func48, rfl, by kernel_rfl, by kernel_rfl, by kernel_rfl, rfl, by decide⟩
/-- loop.example/g01062/laws.szIntS -/
def c_laws_szIntS : Cd :=
 (.seq (.reg [⟨(some 4), (.assign (.const (.int .i64 0))), none⟩])
 (.seq (.reg [⟨(some 5), (.move (.tmp 1)), none⟩,
   ⟨(some 6), (.move (.tmp 0)), none⟩,
   ⟨(some 7), (.call (.mk (.builtin .len) #[(.tmp 6)] #[29])), none⟩,
   ⟨(some 8), (.binOp .sub 3 (.tmp 5) (.tmp 7) 3), none⟩,
   ⟨(some 1), (.assign (.tmp 8)), none⟩])
 (.seq (.seq (.reg [⟨(some 9), (.move (.tmp 1)), none⟩,
   ⟨(some 10), (.binOp .lss 3 (.tmp 9) (.const (.int .i64 0)) 3), none⟩])
 (.cond (.tmp 10) (.seq (.reg [⟨(some 4), (.assign (.const (.int .i64 (-1)))), none⟩])
 .ret) .skip))
 (.seq (.reg [⟨(some 11), (.move (.tmp 1)), none⟩,
   ⟨(some 4), (.assign (.tmp 11)), none⟩])
 .ret))))
theorem x_laws_szIntS : Txt Try.prog 49 c_laws_szIntS [.tmp 4] 2 := ⟨by kernel_rfl, by kernel_rfl, _, _, Try.func49, rfl, by kernel_rfl, by kernel_rfl, by kernel_rfl, rfl, by decide⟩
/-- loop.example/g01062/spec.l23One -/
def c_spec_l23One : Cd :=
 (.seq (.reg [⟨(some 1), (.box 35 (.tmp 0)), none⟩,
   ⟨(some 2), (.assign (.const (.bool false))), none⟩])
 (.seq (.seq (.reg [⟨(some 4), (.fieldAddr 35 (.tmp 1) 0), none⟩,
   ⟨(some 5), (.load 3 (.tmp 4)), none⟩,
   ⟨(some 6), (.call (.mk (.value (.func 65)) #[(.tmp 5), (.const (.int .i64 1)), (.const (.int .i64 99))] #[3, 3, 3])), none⟩,
   ⟨(some 7), (.unOp .not 4 (.tmp 6)), none⟩,
   ⟨(some 8), (.move (.tmp 7)), none⟩,
   ⟨(some 9), (.fieldAddr 35 (.tmp 1) 1), (some (8, false))⟩,
   ⟨(some 10), (.load 9 (.tmp 9)), (some (8, false))⟩,
   ⟨(some 11), (.call (.mk (.value (.func 75)) #[(.tmp 10)] #[9])), (some (8, false))⟩,
   ⟨(some 12), (.unOp .not 4 (.tmp 11)), (some (8, false))⟩,
   ⟨(some 13), (.pick (.tmp 8) (.const (.bool true)) (.tmp 12)), none⟩,
   ⟨(some 14), (.move (.tmp 13)), none⟩,
   ⟨(some 15), (.fieldAddr 35 (.tmp 1) 2), (some (14, false))⟩,
   ⟨(some 16), (.load 3 (.tmp 15)), (some (14, false))⟩,
   ⟨(some 17), (.call (.mk (.value (.func 65)) #[(.tmp 16), (.const (.int .i64 1)), (.const (.int .i64 16))] #[3, 3, 3])), (some (14, false))⟩,
   ⟨(some 18), (.unOp .not 4 (.tmp 17)), (some (14, false))⟩,
   ⟨(some 19), (.pick (.tmp 14) (.const (.bool true)) (.tmp 18)), none⟩,
   ⟨(some 20), (.move (.tmp 19)), none⟩,
   ⟨(some 21), (.fieldAddr 35 (.tmp 1) 3), (some (20, false))⟩,
   ⟨(some 22), (.load 29 (.tmp 21)), (some (20, false))⟩,
   ⟨(some 23), (.call (.mk (.builtin .len) #[(.tmp 22)] #[29])), (some (20, false))⟩,
   ⟨(some 24), (.call (.mk (.value (.func 65)) #[(.tmp 23), (.const (.int .i64 3)), (.const (.int .i64 7))] #[3, 3, 3])), (some (20, false))⟩,
   ⟨(some 25), (.unOp .not 4 (.tmp 24)), (some (20, false))⟩,
   ⟨(some 26), (.pick (.tmp 20) (.const (.bool true)) (.tmp 25)), none⟩])
 (.cond (.tmp 26) (.seq (.reg [⟨(some 2), (.assign (.const (.bool false))), none⟩])
 .ret) .skip))
 (.seq (.seq (.reg [⟨(some 3), (.assign (.const (.int .i64 0))), none⟩])
 (.block 0 (.loop (.seq (.seq (.reg [⟨(some 27), (.move (.tmp 3)), none⟩,
   ⟨(some 28), (.fieldAddr 35 (.tmp 1) 3), none⟩,
   ⟨(some 29), (.load 29 (.tmp 28)), none⟩,
   ⟨(some 30), (.call (.mk (.builtin .len) #[(.tmp 29)] #[29])), none⟩,
   ⟨(some 31), (.binOp .lss 3 (.tmp 27) (.tmp 30) 3), none⟩])
 (.cond (.tmp 31) .skip (.exit 0)))
 (.seq (.block 1 (.seq (.reg [⟨(some 34), (.fieldAddr 35 (.tmp 1) 3), none⟩,
   ⟨(some 35), (.load 29 (.tmp 34)), none⟩,
   ⟨(some 36), (.move (.tmp 3)), none⟩,
   ⟨(some 37), (.indexAddr 29 (.tmp 35) (.tmp 36)), none⟩,
   ⟨(some 38), (.load 3 (.tmp 37)), none⟩,
   ⟨(some 39), (.call (.mk (.value (.func 65)) #[(.tmp 38), (.const (.int .i64 0)), (.const (.int .i64 100))] #[3, 3, 3])), none⟩,
   ⟨(some 40), (.unOp .not 4 (.tmp 39)), none⟩])
 (.cond (.tmp 40) (.seq (.reg [⟨(some 2), (.assign (.const (.bool false))), none⟩])
 .ret) .skip)))
 (.reg [⟨(some 32), (.move (.tmp 3)), none⟩,
   ⟨(some 33), (.binOp .add 3 (.tmp 32) (.const (.int .i64 1)) 3), none⟩,
   ⟨(some 3), (.assign (.tmp 33)), none⟩]))))))
 (.seq (.reg [⟨(some 2), (.assign (.const (.bool true))), none⟩])
 .ret))))
theorem x_spec_l23One : Txt Try.prog 50 c_spec_l23One [.tmp 2] 1 := ⟨by kernel_rfl, by kernel_rfl, _, _, Try.func50, rfl, by kernel_rfl, by kernel_rfl, by kernel_rfl, rfl, by decide⟩
/-- loop.example/g01062/spec.l2Reduce -/
def c_spec_l2Reduce : Cd :=
 (.seq (.reg [⟨(some 4), (.assign (.const (.int .i64 0))), none⟩,
   ⟨(some 5), (.assign (.const (.int .i64 0))), none⟩])
 (.seq (.reg [⟨(some 9), (.move (.tmp 0)), none⟩,
   ⟨(some 10), (.move (.tmp 0)), none⟩,
   ⟨(some 11), (.unOp .neg 3 (.tmp 10)), none⟩,
   ⟨(some 12), (.call (.mk (.value (.func 76)) #[(.tmp 9), (.tmp 11)] #[3, 3])), none⟩,
   ⟨(some 13), (.move (.tmp 1)), none⟩,
   ⟨(some 6), (.assign (.tmp 12)), none⟩,
   ⟨(some 7), (.assign (.tmp 13)), none⟩])
 (.seq (.block 0 (.loop (.seq (.seq (.reg [⟨(some 14), (.move (.tmp 7)), none⟩,
   ⟨(some 15), (.binOp .neq 3 (.tmp 14) (.const (.int .i64 0)) 3), none⟩])
 (.cond (.tmp 15) .skip (.exit 0)))
 (.block 1 (.seq (.reg [⟨(some 16), (.move (.tmp 6)), none⟩,
   ⟨(some 17), (.move (.tmp 7)), none⟩,
   ⟨(some 18), (.binOp .rem 3 (.tmp 16) (.tmp 17) 3), none⟩,
   ⟨(some 8), (.assign (.tmp 18)), none⟩])
 (.seq (.reg [⟨(some 19), (.move (.tmp 7)), none⟩,
   ⟨(some 6), (.assign (.tmp 19)), none⟩])
 (.reg [⟨(some 20), (.move (.tmp 8)), none⟩,
   ⟨(some 7), (.assign (.tmp 20)), none⟩])))))))
 (.seq (.regq [⟨(some 21), (.move (.tmp 0)), none⟩,
   ⟨(some 22), (.move (.tmp 6)), none⟩,
   ⟨(some 23), (.binOp .quo 3 (.tmp 21) (.tmp 22) 3), none⟩,
   ⟨(some 24), (.move (.tmp 1)), none⟩,
   ⟨(some 25), (.move (.tmp 6)), none⟩,
   ⟨(some 26), (.binOp .quo 3 (.tmp 24) (.tmp 25) 3), none⟩,
   ⟨(some 4), (.assign (.tmp 23)), none⟩,
   ⟨(some 5), (.assign (.tmp 26)), none⟩])
 .ret))))
theorem x_spec_l2Reduce : Txt Try.prog 51 c_spec_l2Reduce [.tmp 4, .tmp 5] 2 := ⟨by kernel_rfl, by kernel_rfl, _, _, Try.func51, rfl, by kernel_rfl, by kernel_rfl, by kernel_rfl, rfl, by decide⟩
/-- loop.example/g01062/spec.l23Sum -/
def c_spec_l23Sum : Cd :=
 (.seq (.reg [⟨(some 2), (.assign (.const (.int .i64 0))), none⟩])
 (.seq (.reg [⟨(some 8), (.move (.tmp 0)), none⟩,
   ⟨(some 9), (.call (.mk (.value (.func 62)) #[(.tmp 8)] #[29])), none⟩,
   ⟨(some 7), (.move (.tmp 9)), none⟩,
   ⟨(some 10), (.extract (.tmp 7) 0), none⟩,
   ⟨(some 11), (.extract (.tmp 7) 1), none⟩,
   ⟨(some 3), (.assign (.tmp 10)), none⟩,
   ⟨(some 4), (.assign (.tmp 11)), none⟩])
 (.seq (.reg [⟨(some 12), (.move (.tmp 3)), none⟩,
   ⟨(some 13), (.unOp .neg 3 (.tmp 12)), none⟩,
   ⟨(some 14), (.move (.tmp 4)), none⟩,
   ⟨(some 15), (.binOp .sub 3 (.tmp 13) (.tmp 14) 3), none⟩,
   ⟨(some 5), (.assign (.tmp 15)), none⟩])
 (.seq (.seq (.reg [⟨(some 6), (.assign (.const (.int .i64 0))), none⟩])
 (.block 0 (.loop (.seq (.seq (.reg [⟨(some 16), (.move (.tmp 6)), none⟩,
   ⟨(some 17), (.move (.tmp 0)), none⟩,
   ⟨(some 18), (.call (.mk (.builtin .len) #[(.tmp 17)] #[29])), none⟩,
   ⟨(some 19), (.binOp .lss 3 (.tmp 16) (.tmp 18) 3), none⟩])
 (.cond (.tmp 19) .skip (.exit 0)))
 (.seq (.block 1 (.reg [⟨(some 22), (.move (.tmp 5)), none⟩,
   ⟨(some 23), (.move (.tmp 0)), none⟩,
   ⟨(some 24), (.move (.tmp 6)), none⟩,
   ⟨(some 25), (.indexAddr 29 (.tmp 23) (.tmp 24)), none⟩,
   ⟨(some 26), (.load 3 (.tmp 25)), none⟩,
   ⟨(some 27), (.binOp .add 3 (.tmp 22) (.tmp 26) 3), none⟩,
   ⟨(some 5), (.assign (.tmp 27)), none⟩]))
 (.reg [⟨(some 20), (.move (.tmp 6)), none⟩,
   ⟨(some 21), (.binOp .add 3 (.tmp 20) (.const (.int .i64 1)) 3), none⟩,
   ⟨(some 6), (.assign (.tmp 21)), none⟩]))))))
 (.seq (.reg [⟨(some 28), (.move (.tmp 5)), none⟩,
   ⟨(some 2), (.assign (.tmp 28)), none⟩])
 .ret)))))
theorem x_spec_l23Sum : Txt Try.prog 52 c_spec_l23Sum [.tmp 2] 1 := ⟨by kernel_rfl, by kernel_rfl, _, _, Try.func52, rfl, by kernel_rfl, by kernel_rfl, by kernel_rfl, rfl, by decide⟩
/-- loop.example/g01062/laws.toIntS -/
def c_laws_toIntS : Cd :=
 (.seq (.reg [⟨(some 2), (.assign (.const (.slice none 0 0))), none⟩])
 (.seq (.reg [⟨(some 5), (.move (.tmp 0)), none⟩,
   ⟨(some 6), (.call (.mk (.builtin .len) #[(.tmp 5)] #[29])), none⟩,
   ⟨(some 7), (.makeSlice 29 (.tmp 6) (.tmp 6)), none⟩,
   ⟨(some 3), (.assign (.tmp 7)), none⟩])
 (.seq (.seq (.reg [⟨(some 4), (.assign (.const (.int .i64 0))), none⟩])
 (.block 0 (.loop (.seq (.seq (.reg [⟨(some 8), (.move (.tmp 4)), none⟩,
   ⟨(some 9), (.move (.tmp 0)), none⟩,
   ⟨(some 10), (.call (.mk (.builtin .len) #[(.tmp 9)] #[29])), none⟩,
   ⟨(some 11), (.binOp .lss 3 (.tmp 8) (.tmp 10) 3), none⟩])
 (.cond (.tmp 11) .skip (.exit 0)))
 (.seq (.block 1 (.reg [⟨(some 14), (.move (.tmp 3)), none⟩,
   ⟨(some 15), (.move (.tmp 4)), none⟩,
   ⟨(some 16), (.move (.tmp 0)), none⟩,
   ⟨(some 17), (.move (.tmp 4)), none⟩,
   ⟨(some 18), (.indexAddr 29 (.tmp 16) (.tmp 17)), none⟩,
   ⟨(some 19), (.load 3 (.tmp 18)), none⟩,
   ⟨(some 20), (.indexAddr 29 (.tmp 14) (.tmp 15)), none⟩,
   ⟨none, (.store 3 (.tmp 20) (.tmp 19)), none⟩]))
 (.reg [⟨(some 12), (.move (.tmp 4)), none⟩,
   ⟨(some 13), (.binOp .add 3 (.tmp 12) (.const (.int .i64 1)) 3), none⟩,
   ⟨(some 4), (.assign (.tmp 13)), none⟩]))))))
 (.seq (.reg [⟨(some 21), (.move (.tmp 3)), none⟩,
   ⟨(some 2), (.assign (.tmp 21)), none⟩])
 .ret))))
theorem x_laws_toIntS : Txt Try.prog 53 c_laws_toIntS [.tmp 2] 1 := ⟨by kernel_rfl, by kernel_rfl, _, _, Try.func53, rfl, by kernel_rfl, by kernel_rfl, by kernel_rfl, rfl, by decide⟩
/-- loop.example/g01062/impl.isExhibit -/
def c_impl_isExhibit : Cd :=
 (.seq (.reg [⟨(some 2), (.assign (.const (.bool false))), none⟩])
 (.seq (.reg [⟨(some 3), (.move (.tmp 0)), none⟩,
   ⟨(some 4), (.nilCheck (.tmp 3)), none⟩,
   ⟨(some 5), (.fieldAddr 35 (.tmp 4) 0), none⟩,
   ⟨(some 6), (.load 3 (.tmp 5)), none⟩,
   ⟨(some 7), (.call (.mk (.value (.func 66)) #[(.tmp 6), (.const (.int .i64 1)), (.const (.int .i64 99))] #[3, 3, 3])), none⟩,
   ⟨(some 8), (.move (.tmp 7)), none⟩,
   ⟨(some 9), (.move (.tmp 0)), (some (8, true))⟩,
   ⟨(some 10), (.nilCheck (.tmp 9)), (some (8, true))⟩,
   ⟨(some 11), (.fieldAddr 35 (.tmp 10) 1), (some (8, true))⟩,
   ⟨(some 12), (.load 9 (.tmp 11)), (some (8, true))⟩,
   ⟨(some 13), (.call (.mk (.value (.func 77)) #[(.tmp 12)] #[9])), (some (8, true))⟩,
   ⟨(some 14), (.pick (.tmp 8) (.tmp 13) (.const (.bool false))), none⟩,
   ⟨(some 15), (.move (.tmp 14)), none⟩,
   ⟨(some 16), (.move (.tmp 0)), (some (15, true))⟩,
   ⟨(some 17), (.nilCheck (.tmp 16)), (some (15, true))⟩,
   ⟨(some 18), (.fieldAddr 35 (.tmp 17) 2), (some (15, true))⟩,
   ⟨(some 19), (.load 3 (.tmp 18)), (some (15, true))⟩,
   ⟨(some 20), (.call (.mk (.value (.func 66)) #[(.tmp 19), (.const (.int .i64 1)), (.const (.int .i64 16))] #[3, 3, 3])), (some (15, true))⟩,
   ⟨(some 21), (.pick (.tmp 15) (.tmp 20) (.const (.bool false))), none⟩,
   ⟨(some 22), (.move (.tmp 21)), none⟩,
   ⟨(some 23), (.move (.tmp 0)), (some (22, true))⟩,
   ⟨(some 24), (.nilCheck (.tmp 23)), (some (22, true))⟩,
   ⟨(some 25), (.fieldAddr 35 (.tmp 24) 3), (some (22, true))⟩,
   ⟨(some 26), (.load 29 (.tmp 25)), (some (22, true))⟩,
   ⟨(some 27), (.call (.mk (.builtin .len) #[(.tmp 26)] #[29])), (some (22, true))⟩,
   ⟨(some 28), (.call (.mk (.value (.func 66)) #[(.tmp 27), (.const (.int .i64 3)), (.const (.int .i64 7))] #[3, 3, 3])), (some (22, true))⟩,
   ⟨(some 29), (.pick (.tmp 22) (.tmp 28) (.const (.bool false))), none⟩,
   ⟨(some 30), (.move (.tmp 29)), none⟩,
   ⟨(some 31), (.move (.tmp 0)), (some (30, true))⟩,
   ⟨(some 32), (.nilCheck (.tmp 31)), (some (30, true))⟩,
   ⟨(some 33), (.fieldAddr 35 (.tmp 32) 3), (some (30, true))⟩,
   ⟨(some 34), (.load 29 (.tmp 33)), (some (30, true))⟩,
   ⟨(some 35), (.call (.mk (.value (.func 78)) #[(.tmp 34), (.func 79)] #[29, 69])), (some (30, true))⟩,
   ⟨(some 36), (.unOp .not 4 (.tmp 35)), (some (30, true))⟩,
   ⟨(some 37), (.pick (.tmp 30) (.tmp 36) (.const (.bool false))), none⟩,
   ⟨(some 2), (.assign (.tmp 37)), none⟩])
 .ret))
theorem x_impl_isExhibit : Txt Try.prog 54 c_impl_isExhibit [.tmp 2] 1 := ⟨by kernel_rfl, by kernel_rfl, _, _, Try.func54, rfl, by kernel_rfl, by kernel_rfl, by kernel_rfl, rfl, by decide⟩
/-- loop.example/g01062/impl.fraction -/
def c_impl_fraction : Cd :=
 (.seq (.reg [⟨(some 4), (.assign (.const (.int .i64 0))), none⟩,
   ⟨(some 5), (.assign (.const (.int .i64 0))), none⟩])
 (.seq (.reg [⟨(some 7), (.move (.tmp 0)), none⟩,
   ⟨(some 8), (.move (.tmp 0)), none⟩,
   ⟨(some 9), (.unOp .neg 3 (.tmp 8)), none⟩,
   ⟨(some 10), (.call (.mk (.builtin .max) #[(.tmp 7), (.tmp 9)] #[3, 3])), none⟩,
   ⟨(some 11), (.move (.tmp 1)), none⟩,
   ⟨(some 12), (.call (.mk (.value (.func 80)) #[(.tmp 10), (.tmp 11)] #[3, 3])), none⟩,
   ⟨(some 6), (.assign (.tmp 12)), none⟩])
 (.seq (.regq [⟨(some 13), (.move (.tmp 0)), none⟩,
   ⟨(some 14), (.move (.tmp 6)), none⟩,
   ⟨(some 15), (.binOp .quo 3 (.tmp 13) (.tmp 14) 3), none⟩,
   ⟨(some 16), (.move (.tmp 1)), none⟩,
   ⟨(some 17), (.move (.tmp 6)), none⟩,
   ⟨(some 18), (.binOp .quo 3 (.tmp 16) (.tmp 17) 3), none⟩,
   ⟨(some 4), (.assign (.tmp 15)), none⟩,
   ⟨(some 5), (.assign (.tmp 18)), none⟩])
 .ret)))
theorem x_impl_fraction : Txt Try.prog 55 c_impl_fraction [.tmp 4, .tmp 5] 2 := ⟨by kernel_rfl, by kernel_rfl, _, _, Try.func55, rfl, by kernel_rfl, by kernel_rfl, by kernel_rfl, rfl, by decide⟩
/-- loop.example/g01062/impl.scoreOf -/
def c_impl_scoreOf : Cd :=
 (.seq (.reg [⟨(some 2), (.assign (.const (.int .i64 0))), none⟩])
 (.seq (.reg [⟨(some 6), (.move (.tmp 0)), none⟩,
   ⟨(some 7), (.call (.mk (.value (.func 64)) #[(.tmp 6)] #[29])), none⟩,
   ⟨(some 8), (.unOp .neg 3 (.tmp 7)), none⟩,
   ⟨(some 9), (.move (.tmp 0)), none⟩,
   ⟨(some 10), (.call (.mk (.value (.func 59)) #[(.tmp 9)] #[29])), none⟩,
   ⟨(some 11), (.binOp .sub 3 (.tmp 8) (.tmp 10) 3), none⟩,
   ⟨(some 3), (.assign (.tmp 11)), none⟩])
 (.seq (.seq (.reg [⟨(some 12), (.move (.tmp 0)), none⟩,
   ⟨(some 13), (.call (.mk (.builtin .len) #[(.tmp 12)] #[29])), none⟩,
   ⟨(some 14), (.move (.const (.int .i64 0))), none⟩])
 (.block 0 (.loop (.seq (.reg [⟨(some 15), (.binOp .lss 3 (.tmp 14) (.tmp 13) 3), none⟩])
 (.seq (.cond (.tmp 15) .skip (.exit 0))
 (.seq (.block 1 (.seq (.reg [⟨(some 16), (.indexAddr 29 (.tmp 12) (.tmp 14)), none⟩,
   ⟨(some 17), (.load 3 (.tmp 16)), none⟩,
   ⟨(some 5), (.assign (.tmp 17)), none⟩])
 (.reg [⟨(some 18), (.move (.tmp 3)), none⟩,
   ⟨(some 19), (.move (.tmp 5)), none⟩,
   ⟨(some 20), (.binOp .add 3 (.tmp 18) (.tmp 19) 3), none⟩,
   ⟨(some 3), (.assign (.tmp 20)), none⟩])))
 (.reg [⟨(some 21), (.binOp .add 3 (.tmp 14) (.const (.int .i64 1)) 3), none⟩,
   ⟨(some 14), (.move (.tmp 21)), none⟩])))))))
 (.seq (.reg [⟨(some 22), (.move (.tmp 3)), none⟩,
   ⟨(some 2), (.assign (.tmp 22)), none⟩])
 .ret))))
theorem x_impl_scoreOf : Txt Try.prog 56 c_impl_scoreOf [.tmp 2] 1 := ⟨by kernel_rfl, by kernel_rfl, _, _, Try.func56, rfl, by kernel_rfl, by kernel_rfl, by kernel_rfl, rfl, by decide⟩
/-- loop.example/g01062/spec.l23Medal -/
def c_spec_l23Medal : Cd :=
 (.seq (.reg [⟨(some 2), (.assign (.const (.int .i64 0))), none⟩])
 (.seq (.reg [⟨(some 5), (.move (.tmp 0)), none⟩,
   ⟨(some 6), (.call (.mk (.value (.func 52)) #[(.tmp 5)] #[29])), none⟩,
   ⟨(some 7), (.move (.tmp 0)), none⟩,
   ⟨(some 8), (.call (.mk (.builtin .len) #[(.tmp 7)] #[29])), none⟩,
   ⟨(some 9), (.binOp .sub 3 (.tmp 8) (.const (.int .i64 2)) 3), none⟩,
   ⟨(some 3), (.assign (.tmp 6)), none⟩,
   ⟨(some 4), (.assign (.tmp 9)), none⟩])
 (.seq (.seq (.reg [⟨(some 10), (.move (.tmp 3)), none⟩,
   ⟨(some 11), (.move (.tmp 4)), none⟩,
   ⟨(some 12), (.binOp .mul 3 (.const (.int .i64 85)) (.tmp 11) 3), none⟩,
   ⟨(some 13), (.binOp .geq 3 (.tmp 10) (.tmp 12) 3), none⟩])
 (.cond (.tmp 13) (.seq (.reg [⟨(some 2), (.assign (.const (.int .i64 4))), none⟩])
 .ret) .skip))
 (.seq (.seq (.reg [⟨(some 14), (.move (.tmp 3)), none⟩,
   ⟨(some 15), (.move (.tmp 4)), none⟩,
   ⟨(some 16), (.binOp .mul 3 (.const (.int .i64 70)) (.tmp 15) 3), none⟩,
   ⟨(some 17), (.binOp .geq 3 (.tmp 14) (.tmp 16) 3), none⟩])
 (.cond (.tmp 17) (.seq (.reg [⟨(some 2), (.assign (.const (.int .i64 3))), none⟩])
 .ret) .skip))
 (.seq (.seq (.reg [⟨(some 18), (.move (.tmp 3)), none⟩,
   ⟨(some 19), (.move (.tmp 4)), none⟩,
   ⟨(some 20), (.binOp .mul 3 (.const (.int .i64 55)) (.tmp 19) 3), none⟩,
   ⟨(some 21), (.binOp .geq 3 (.tmp 18) (.tmp 20) 3), none⟩])
 (.cond (.tmp 21) (.seq (.reg [⟨(some 2), (.assign (.const (.int .i64 2))), none⟩])
 .ret) .skip))
 (.seq (.seq (.reg [⟨(some 22), (.move (.tmp 3)), none⟩,
   ⟨(some 23), (.move (.tmp 4)), none⟩,
   ⟨(some 24), (.binOp .mul 3 (.const (.int .i64 40)) (.tmp 23) 3), none⟩,
   ⟨(some 25), (.binOp .geq 3 (.tmp 22) (.tmp 24) 3), none⟩])
 (.cond (.tmp 25) (.seq (.reg [⟨(some 2), (.assign (.const (.int .i64 1))), none⟩])
 .ret) .skip))
 (.seq (.reg [⟨(some 2), (.assign (.const (.int .i64 0))), none⟩])
 .ret)))))))
theorem x_spec_l23Medal : Txt Try.prog 57 c_spec_l23Medal [.tmp 2] 1 := ⟨by kernel_rfl, by kernel_rfl, _, _, Try.func57, rfl, by kernel_rfl, by kernel_rfl, by kernel_rfl, rfl, by decide⟩
/-- loop.example/g01062/impl.medalOf -/
def c_impl_medalOf : Cd :=
 (.seq (.reg [⟨(some 2), (.assign (.const (.int .i64 0))), none⟩])
 (.seq (.reg [⟨(some 3), (.assign (.const (.int .i64 0))), none⟩])
 (.seq (.seq (.reg [⟨(some 6), (.buildSlice 29 4 #[(0, (.const (.int .i64 40))), (1, (.const (.int .i64 55))), (2, (.const (.int .i64 70))), (3, (.const (.int .i64 85)))]), none⟩,
   ⟨(some 7), (.call (.mk (.builtin .len) #[(.tmp 6)] #[29])), none⟩,
   ⟨(some 8), (.move (.const (.int .i64 0))), none⟩])
 (.block 0 (.loop (.seq (.reg [⟨(some 9), (.binOp .lss 3 (.tmp 8) (.tmp 7) 3), none⟩])
 (.seq (.cond (.tmp 9) .skip (.exit 0))
 (.seq (.block 1 (.seq (.reg [⟨(some 10), (.indexAddr 29 (.tmp 6) (.tmp 8)), none⟩,
   ⟨(some 11), (.load 3 (.tmp 10)), none⟩,
   ⟨(some 5), (.assign (.tmp 11)), none⟩])
 (.seq (.reg [⟨(some 12), (.move (.tmp 0)), none⟩,
   ⟨(some 13), (.call (.mk (.value (.func 56)) #[(.tmp 12)] #[29])), none⟩,
   ⟨(some 14), (.move (.tmp 5)), none⟩,
   ⟨(some 15), (.move (.tmp 0)), none⟩,
   ⟨(some 16), (.call (.mk (.builtin .len) #[(.tmp 15)] #[29])), none⟩,
   ⟨(some 17), (.binOp .sub 3 (.tmp 16) (.const (.int .i64 2)) 3), none⟩,
   ⟨(some 18), (.binOp .mul 3 (.tmp 14) (.tmp 17) 3), none⟩,
   ⟨(some 19), (.binOp .geq 3 (.tmp 13) (.tmp 18) 3), none⟩])
 (.cond (.tmp 19) (.reg [⟨(some 20), (.move (.tmp 3)), none⟩,
   ⟨(some 21), (.binOp .add 3 (.tmp 20) (.const (.int .i64 1)) 3), none⟩,
   ⟨(some 3), (.assign (.tmp 21)), none⟩]) .skip))))
 (.reg [⟨(some 22), (.binOp .add 3 (.tmp 8) (.const (.int .i64 1)) 3), none⟩,
   ⟨(some 8), (.move (.tmp 22)), none⟩])))))))
 (.seq (.reg [⟨(some 23), (.move (.tmp 3)), none⟩,
   ⟨(some 2), (.assign (.tmp 23)), none⟩])
 .ret))))
theorem x_impl_medalOf : Txt Try.prog 58 c_impl_medalOf [.tmp 2] 1 := ⟨by kernel_rfl, by kernel_rfl, _, _, Try.func58, rfl, by kernel_rfl, by kernel_rfl, by kernel_rfl, rfl, by decide⟩
/-- slices.Min[[]int,int] -/
def c_slices_Min_int : Cd :=
 (.seq (.reg [⟨(some 2), (.assign (.const (.int .i64 0))), none⟩])
 (.seq (.seq (.reg [⟨(some 5), (.move (.tmp 0)), none⟩,
   ⟨(some 6), (.call (.mk (.builtin .len) #[(.tmp 5)] #[29])), none⟩,
   ⟨(some 7), (.binOp .lss 3 (.tmp 6) (.const (.int .i64 1)) 3), none⟩])
 (.cond (.tmp 7) (.reg [⟨(some 8), (.makeInterface 9 (.const (.string (ByteArray.mk #[115, 108, 105, 99, 101, 115, 46, 77, 105, 110, 58, 32, 101, 109, 112, 116, 121, 32, 108, 105, 115, 116])))), none⟩,
   ⟨none, (.panic (.tmp 8)), none⟩]) .skip))
 (.seq (.reg [⟨(some 9), (.move (.tmp 0)), none⟩,
   ⟨(some 10), (.indexAddr 29 (.tmp 9) (.const (.int .i64 0))), none⟩,
   ⟨(some 11), (.load 3 (.tmp 10)), none⟩,
   ⟨(some 3), (.assign (.tmp 11)), none⟩])
 (.seq (.seq (.reg [⟨(some 4), (.assign (.const (.int .i64 1))), none⟩])
 (.block 0 (.loop (.seq (.seq (.reg [⟨(some 12), (.move (.tmp 4)), none⟩,
   ⟨(some 13), (.move (.tmp 0)), none⟩,
   ⟨(some 14), (.call (.mk (.builtin .len) #[(.tmp 13)] #[29])), none⟩,
   ⟨(some 15), (.binOp .lss 3 (.tmp 12) (.tmp 14) 3), none⟩])
 (.cond (.tmp 15) .skip (.exit 0)))
 (.seq (.block 1 (.reg [⟨(some 18), (.move (.tmp 3)), none⟩,
   ⟨(some 19), (.move (.tmp 0)), none⟩,
   ⟨(some 20), (.move (.tmp 4)), none⟩,
   ⟨(some 21), (.indexAddr 29 (.tmp 19) (.tmp 20)), none⟩,
   ⟨(some 22), (.load 3 (.tmp 21)), none⟩,
   ⟨(some 23), (.call (.mk (.builtin .min) #[(.tmp 18), (.tmp 22)] #[3, 3])), none⟩,
   ⟨(some 3), (.assign (.tmp 23)), none⟩]))
 (.reg [⟨(some 16), (.move (.tmp 4)), none⟩,
   ⟨(some 17), (.binOp .add 3 (.tmp 16) (.const (.int .i64 1)) 3), none⟩,
   ⟨(some 4), (.assign (.tmp 17)), none⟩]))))))
 (.seq (.reg [⟨(some 24), (.move (.tmp 3)), none⟩,
   ⟨(some 2), (.assign (.tmp 24)), none⟩])
 .ret)))))
theorem x_slices_Min_int : Txt Try.prog 59 c_slices_Min_int [.tmp 2] 1 := ⟨by kernel_rfl, by kernel_rfl, _, _, Try.func59, rfl, by kernel_rfl, by kernel_rfl, by kernel_rfl, rfl, by decide⟩
/-- loop.example/g01062/spec.l23Find -/
def c_spec_l23Find : Cd :=
 (.seq (.reg [⟨(some 4), (.assign (.const (.int .i64 0))), none⟩])
 (.seq (.seq (.reg [⟨(some 5), (.assign (.const (.int .i64 0))), none⟩])
 (.block 0 (.loop (.seq (.seq (.reg [⟨(some 6), (.move (.tmp 5)), none⟩,
   ⟨(some 7), (.move (.tmp 0)), none⟩,
   ⟨(some 8), (.call (.mk (.builtin .len) #[(.tmp 7)] #[25])), none⟩,
   ⟨(some 9), (.binOp .lss 3 (.tmp 6) (.tmp 8) 3), none⟩])
 (.cond (.tmp 9) .skip (.exit 0)))
 (.seq (.block 1 (.seq (.reg [⟨(some 12), (.move (.tmp 0)), none⟩,
   ⟨(some 13), (.move (.tmp 5)), none⟩,
   ⟨(some 14), (.indexAddr 25 (.tmp 12) (.tmp 13)), none⟩,
   ⟨(some 15), (.fieldAddr 35 (.tmp 14) 0), none⟩,
   ⟨(some 16), (.load 3 (.tmp 15)), none⟩,
   ⟨(some 17), (.move (.tmp 1)), none⟩,
   ⟨(some 18), (.binOp .eql 3 (.tmp 16) (.tmp 17) 3), none⟩])
 (.cond (.tmp 18) (.seq (.reg [⟨(some 19), (.move (.tmp 5)), none⟩,
   ⟨(some 4), (.assign (.tmp 19)), none⟩])
 .ret) .skip)))
 (.reg [⟨(some 10), (.move (.tmp 5)), none⟩,
   ⟨(some 11), (.binOp .add 3 (.tmp 10) (.const (.int .i64 1)) 3), none⟩,
   ⟨(some 5), (.assign (.tmp 11)), none⟩]))))))
 (.seq (.reg [⟨(some 4), (.assign (.const (.int .i64 (-1)))), none⟩])
 .ret)))
theorem x_spec_l23Find : Txt Try.prog 61 c_spec_l23Find [.tmp 4] 2 := ⟨by kernel_rfl, by kernel_rfl, _, _, Try.func61, rfl, by kernel_rfl, by kernel_rfl, by kernel_rfl, rfl, by decide⟩
/-- loop.example/g01062/spec.l23Bounds -/
def c_spec_l23Bounds : Cd :=
 (.seq (.reg [⟨(some 2), (.assign (.const (.int .i64 0))), none⟩,
   ⟨(some 3), (.assign (.const (.int .i64 0))), none⟩])
 (.seq (.regq [⟨(some 7), (.move (.tmp 0)), none⟩,
   ⟨(some 8), (.indexAddr 29 (.tmp 7) (.const (.int .i64 0))), none⟩,
   ⟨(some 9), (.load 3 (.tmp 8)), none⟩,
   ⟨(some 10), (.move (.tmp 0)), none⟩,
   ⟨(some 11), (.indexAddr 29 (.tmp 10) (.const (.int .i64 0))), none⟩,
   ⟨(some 12), (.load 3 (.tmp 11)), none⟩,
   ⟨(some 4), (.assign (.tmp 9)), none⟩,
   ⟨(some 5), (.assign (.tmp 12)), none⟩])
 (.seq (.seq (.reg [⟨(some 6), (.assign (.const (.int .i64 0))), none⟩])
 (.block 0 (.loop (.seq (.seq (.reg [⟨(some 13), (.move (.tmp 6)), none⟩,
   ⟨(some 14), (.move (.tmp 0)), none⟩,
   ⟨(some 15), (.call (.mk (.builtin .len) #[(.tmp 14)] #[29])), none⟩,
   ⟨(some 16), (.binOp .lss 3 (.tmp 13) (.tmp 15) 3), none⟩])
 (.cond (.tmp 16) .skip (.exit 0)))
 (.seq (.block 1 (.seq (.reg [⟨(some 19), (.move (.tmp 4)), none⟩,
   ⟨(some 20), (.move (.tmp 0)), none⟩,
   ⟨(some 21), (.move (.tmp 6)), none⟩,
   ⟨(some 22), (.indexAddr 29 (.tmp 20) (.tmp 21)), none⟩,
   ⟨(some 23), (.load 3 (.tmp 22)), none⟩,
   ⟨(some 24), (.call (.mk (.value (.func 81)) #[(.tmp 19), (.tmp 23)] #[3, 3])), none⟩,
   ⟨(some 4), (.assign (.tmp 24)), none⟩])
 (.reg [⟨(some 25), (.move (.tmp 5)), none⟩,
   ⟨(some 26), (.move (.tmp 0)), none⟩,
   ⟨(some 27), (.move (.tmp 6)), none⟩,
   ⟨(some 28), (.indexAddr 29 (.tmp 26) (.tmp 27)), none⟩,
   ⟨(some 29), (.load 3 (.tmp 28)), none⟩,
   ⟨(some 30), (.call (.mk (.value (.func 76)) #[(.tmp 25), (.tmp 29)] #[3, 3])), none⟩,
   ⟨(some 5), (.assign (.tmp 30)), none⟩])))
 (.reg [⟨(some 17), (.move (.tmp 6)), none⟩,
   ⟨(some 18), (.binOp .add 3 (.tmp 17) (.const (.int .i64 1)) 3), none⟩,
   ⟨(some 6), (.assign (.tmp 18)), none⟩]))))))
 (.seq (.reg [⟨(some 31), (.move (.tmp 4)), none⟩,
   ⟨(some 32), (.move (.tmp 5)), none⟩,
   ⟨(some 2), (.assign (.tmp 31)), none⟩,
   ⟨(some 3), (.assign (.tmp 32)), none⟩])
 .ret))))
theorem x_spec_l23Bounds : Txt Try.prog 62 c_spec_l23Bounds [.tmp 2, .tmp 3] 1 := ⟨by kernel_rfl, by kernel_rfl, _, _, Try.func62, rfl, by kernel_rfl, by kernel_rfl, by kernel_rfl, rfl, by decide⟩
/-- loop.example/g01062/impl.exhibitAt -/
def c_impl_exhibitAt : Cd :=
 (.seq (.reg [⟨(some 3), (.box 3 (.tmp 1)), none⟩,
   ⟨(some 4), (.assign (.const (.int .i64 0))), none⟩])
 (.seq (.reg [⟨(some 5), (.move (.tmp 0)), none⟩,
   ⟨(some 6), (.makeFunc (.func 83) #[] #[(.tmp 3)]), none⟩,
   ⟨(some 7), (.call (.mk (.value (.func 82)) #[(.tmp 5), (.tmp 6)] #[25, 53])), none⟩,
   ⟨(some 4), (.assign (.tmp 7)), none⟩])
 .ret))
theorem x_impl_exhibitAt : Txt Try.prog 63 c_impl_exhibitAt [.tmp 4] 2 := ⟨by kernel_rfl, by kernel_rfl, _, _, Try.func63, rfl, by kernel_rfl, by kernel_rfl, by kernel_rfl, rfl, by decide⟩
/-- slices.Max[[]int,int] -/
def c_slices_Max_int : Cd :=
 (.seq (.reg [⟨(some 2), (.assign (.const (.int .i64 0))), none⟩])
 (.seq (.seq (.reg [⟨(some 5), (.move (.tmp 0)), none⟩,
   ⟨(some 6), (.call (.mk (.builtin .len) #[(.tmp 5)] #[29])), none⟩,
   ⟨(some 7), (.binOp .lss 3 (.tmp 6) (.const (.int .i64 1)) 3), none⟩])
 (.cond (.tmp 7) (.reg [⟨(some 8), (.makeInterface 9 (.const (.string (ByteArray.mk #[115, 108, 105, 99, 101, 115, 46, 77, 97, 120, 58, 32, 101, 109, 112, 116, 121, 32, 108, 105, 115, 116])))), none⟩,
   ⟨none, (.panic (.tmp 8)), none⟩]) .skip))
 (.seq (.reg [⟨(some 9), (.move (.tmp 0)), none⟩,
   ⟨(some 10), (.indexAddr 29 (.tmp 9) (.const (.int .i64 0))), none⟩,
   ⟨(some 11), (.load 3 (.tmp 10)), none⟩,
   ⟨(some 3), (.assign (.tmp 11)), none⟩])
 (.seq (.seq (.reg [⟨(some 4), (.assign (.const (.int .i64 1))), none⟩])
 (.block 0 (.loop (.seq (.seq (.reg [⟨(some 12), (.move (.tmp 4)), none⟩,
   ⟨(some 13), (.move (.tmp 0)), none⟩,
   ⟨(some 14), (.call (.mk (.builtin .len) #[(.tmp 13)] #[29])), none⟩,
   ⟨(some 15), (.binOp .lss 3 (.tmp 12) (.tmp 14) 3), none⟩])
 (.cond (.tmp 15) .skip (.exit 0)))
 (.seq (.block 1 (.reg [⟨(some 18), (.move (.tmp 3)), none⟩,
   ⟨(some 19), (.move (.tmp 0)), none⟩,
   ⟨(some 20), (.move (.tmp 4)), none⟩,
   ⟨(some 21), (.indexAddr 29 (.tmp 19) (.tmp 20)), none⟩,
   ⟨(some 22), (.load 3 (.tmp 21)), none⟩,
   ⟨(some 23), (.call (.mk (.builtin .max) #[(.tmp 18), (.tmp 22)] #[3, 3])), none⟩,
   ⟨(some 3), (.assign (.tmp 23)), none⟩]))
 (.reg [⟨(some 16), (.move (.tmp 4)), none⟩,
   ⟨(some 17), (.binOp .add 3 (.tmp 16) (.const (.int .i64 1)) 3), none⟩,
   ⟨(some 4), (.assign (.tmp 17)), none⟩]))))))
 (.seq (.reg [⟨(some 24), (.move (.tmp 3)), none⟩,
   ⟨(some 2), (.assign (.tmp 24)), none⟩])
 .ret)))))
theorem x_slices_Max_int : Txt Try.prog 64 c_slices_Max_int [.tmp 2] 1 := ⟨by kernel_rfl, by kernel_rfl, _, _, Try.func64, rfl, by kernel_rfl, by kernel_rfl, by kernel_rfl, rfl, by decide⟩
/-- loop.example/g01062/spec.l1In -/
def c_spec_l1In : Cd :=
 (.seq (.reg [⟨(some 6), (.assign (.const (.bool false))), none⟩])
 (.seq (.reg [⟨(some 7), (.move (.tmp 0)), none⟩,
   ⟨(some 8), (.move (.tmp 1)), none⟩,
   ⟨(some 9), (.binOp .geq 3 (.tmp 7) (.tmp 8) 3), none⟩,
   ⟨(some 10), (.move (.tmp 9)), none⟩,
   ⟨(some 11), (.move (.tmp 0)), (some (10, true))⟩,
   ⟨(some 12), (.move (.tmp 2)), (some (10, true))⟩,
   ⟨(some 13), (.binOp .leq 3 (.tmp 11) (.tmp 12) 3), (some (10, true))⟩,
   ⟨(some 14), (.pick (.tmp 10) (.tmp 13) (.const (.bool false))), none⟩,
   ⟨(some 6), (.assign (.tmp 14)), none⟩])
 .ret))
theorem x_spec_l1In : Txt Try.prog 65 c_spec_l1In [.tmp 6] 3 := ⟨by kernel_rfl, by kernel_rfl, _, _, Try.func65, rfl, by kernel_rfl, by kernel_rfl, by kernel_rfl, rfl, by decide⟩
/-- loop.example/g01062/impl.inRange -/
def c_impl_inRange : Cd :=
 (.seq (.reg [⟨(some 6), (.assign (.const (.bool false))), none⟩])
 (.seq (.reg [⟨(some 7), (.move (.tmp 0)), none⟩,
   ⟨(some 8), (.move (.tmp 1)), none⟩,
   ⟨(some 9), (.binOp .geq 3 (.tmp 7) (.tmp 8) 3), none⟩,
   ⟨(some 10), (.move (.tmp 9)), none⟩,
   ⟨(some 11), (.move (.tmp 0)), (some (10, true))⟩,
   ⟨(some 12), (.move (.tmp 2)), (some (10, true))⟩,
   ⟨(some 13), (.binOp .leq 3 (.tmp 11) (.tmp 12) 3), (some (10, true))⟩,
   ⟨(some 14), (.pick (.tmp 10) (.tmp 13) (.const (.bool false))), none⟩,
   ⟨(some 6), (.assign (.tmp 14)), none⟩])
 .ret))
theorem x_impl_inRange : Txt Try.prog 66 c_impl_inRange [.tmp 6] 3 := ⟨by kernel_rfl, by kernel_rfl, _, _, Try.func66, rfl, by kernel_rfl, by kernel_rfl, by kernel_rfl, rfl, by decide⟩
/-- loop.example/g01062/spec.l1Own -/
def c_spec_l1Own : Cd :=
 (.seq (.reg [⟨(some 2), (.assign (.const (.slice none 0 0))), none⟩])
 (.seq (.reg [⟨(some 3), (.buildSlice 29 0 #[]), none⟩,
   ⟨(some 4), (.move (.tmp 0)), none⟩,
   ⟨(some 5), (.call (.mk (.builtin .append) #[(.tmp 3), (.tmp 4)] #[29, 29])), none⟩,
   ⟨(some 2), (.assign (.tmp 5)), none⟩])
 .ret))
theorem x_spec_l1Own : Txt Try.prog 67 c_spec_l1Own [.tmp 2] 1 := ⟨by kernel_rfl, by kernel_rfl, _, _, Try.func67, rfl, by kernel_rfl, by kernel_rfl, by kernel_rfl, rfl, by decide⟩
/-- slices.Delete[[]int,int] -/
def c_slices_Delete_int : Cd :=
 (.seq (.reg [⟨(some 6), (.assign (.const (.slice none 0 0))), none⟩])
 (.seq (.reg [⟨(some 8), (.move (.tmp 0)), none⟩,
   ⟨(some 9), (.move (.tmp 1)), none⟩,
   ⟨(some 10), (.move (.tmp 2)), none⟩,
   ⟨(some 11), (.move (.tmp 0)), none⟩,
   ⟨(some 12), (.call (.mk (.builtin .len) #[(.tmp 11)] #[29])), none⟩,
   ⟨(some 13), (.slice 29 (.tmp 8) (some (.tmp 9)) (some (.tmp 10)) (some (.tmp 12))), none⟩])
 (.seq (.seq (.reg [⟨(some 14), (.move (.tmp 1)), none⟩,
   ⟨(some 15), (.move (.tmp 2)), none⟩,
   ⟨(some 16), (.binOp .eql 3 (.tmp 14) (.tmp 15) 3), none⟩])
 (.cond (.tmp 16) (.seq (.reg [⟨(some 17), (.move (.tmp 0)), none⟩,
   ⟨(some 6), (.assign (.tmp 17)), none⟩])
 .ret) .skip))
 (.seq (.reg [⟨(some 18), (.move (.tmp 0)), none⟩,
   ⟨(some 19), (.call (.mk (.builtin .len) #[(.tmp 18)] #[29])), none⟩,
   ⟨(some 7), (.assign (.tmp 19)), none⟩])
 (.seq (.regt [⟨(some 20), (.move (.tmp 0)), none⟩,
   ⟨(some 21), (.move (.tmp 1)), none⟩,
   ⟨(some 22), (.slice 29 (.tmp 20) none (some (.tmp 21)) none), none⟩,
   ⟨(some 23), (.move (.tmp 0)), none⟩,
   ⟨(some 24), (.move (.tmp 2)), none⟩,
   ⟨(some 25), (.slice 29 (.tmp 23) (some (.tmp 24)) none none), none⟩] (.one false ⟨(some 26), (.call (.mk (.builtin .append) #[(.tmp 22), (.tmp 25)] #[29, 29])), none⟩
   (.one false ⟨(some 0), (.assign (.tmp 26)), none⟩
   .done)) [])
 (.seq (.reg [⟨(some 27), (.move (.tmp 0)), none⟩,
   ⟨(some 28), (.move (.tmp 0)), none⟩,
   ⟨(some 29), (.call (.mk (.builtin .len) #[(.tmp 28)] #[29])), none⟩,
   ⟨(some 30), (.move (.tmp 7)), none⟩,
   ⟨(some 31), (.slice 29 (.tmp 27) (some (.tmp 29)) (some (.tmp 30)) none), none⟩,
   ⟨none, (.call (.mk (.builtin .clear) #[(.tmp 31)] #[29])), none⟩])
 (.seq (.reg [⟨(some 32), (.move (.tmp 0)), none⟩,
   ⟨(some 6), (.assign (.tmp 32)), none⟩])
 .ret)))))))
theorem x_slices_Delete_int : Txt Try.prog 68 c_slices_Delete_int [.tmp 6] 3 := ⟨by kernel_rfl, by kernel_rfl, _, _, Try.func68, rfl, by kernel_rfl, by kernel_rfl, by kernel_rfl, rfl, by decide⟩
/-- slices.Clone[[]int,int] -/
def c_slices_Clone_int : Cd :=
 (.seq (.reg [⟨(some 2), (.assign (.const (.slice none 0 0))), none⟩])
 (.seq (.seq (.reg [⟨(some 3), (.move (.tmp 0)), none⟩,
   ⟨(some 4), (.binOp .eql 29 (.tmp 3) (.const (.slice none 0 0)) 29), none⟩])
 (.cond (.tmp 4) (.seq (.reg [⟨(some 2), (.assign (.const (.slice none 0 0))), none⟩])
 .ret) .skip))
 (.seq (.reg [⟨(some 5), (.buildSlice 29 0 #[]), none⟩,
   ⟨(some 6), (.move (.tmp 0)), none⟩,
   ⟨(some 7), (.call (.mk (.builtin .append) #[(.tmp 5), (.tmp 6)] #[29, 29])), none⟩,
   ⟨(some 2), (.assign (.tmp 7)), none⟩])
 .ret)))
theorem x_slices_Clone_int : Txt Try.prog 69 c_slices_Clone_int [.tmp 2] 1 := ⟨by kernel_rfl, by kernel_rfl, _, _, Try.func69, rfl, by kernel_rfl, by kernel_rfl, by kernel_rfl, rfl, by decide⟩
/-- loop.example/g01062/laws.markText -/
def c_laws_markText : Cd :=
 (.seq (.reg [⟨(some 2), (.assign (.const (.string (ByteArray.mk #[])))), none⟩])
 (.seq (.seq (.reg [⟨(some 4), (.move (.tmp 0)), none⟩,
   ⟨(some 5), (.binOp .leq 3 (.tmp 4) (.const (.int .i64 0)) 3), none⟩])
 (.cond (.tmp 5) (.seq (.reg [⟨(some 2), (.assign (.const (.string (ByteArray.mk #[109, 48])))), none⟩])
 .ret) .skip))
 (.seq (.reg [⟨(some 3), (.assign (.const (.string (ByteArray.mk #[])))), none⟩])
 (.seq (.block 0 (.loop (.seq (.seq (.reg [⟨(some 6), (.move (.tmp 0)), none⟩,
   ⟨(some 7), (.binOp .gtr 3 (.tmp 6) (.const (.int .i64 0)) 3), none⟩])
 (.cond (.tmp 7) .skip (.exit 0)))
 (.block 1 (.seq (.reg [⟨(some 8), (.move (.tmp 0)), none⟩,
   ⟨(some 9), (.binOp .rem 3 (.tmp 8) (.const (.int .i64 10)) 3), none⟩,
   ⟨(some 10), (.binOp .add 3 (.const (.int .i64 48)) (.tmp 9) 3), none⟩,
   ⟨(some 11), (.convert 3 5 (.tmp 10)), none⟩,
   ⟨(some 12), (.buildSlice 71 1 #[(0, (.tmp 11))]), none⟩,
   ⟨(some 13), (.convert 71 9 (.tmp 12)), none⟩,
   ⟨(some 14), (.move (.tmp 3)), none⟩,
   ⟨(some 15), (.binOp .add 9 (.tmp 13) (.tmp 14) 9), none⟩,
   ⟨(some 3), (.assign (.tmp 15)), none⟩])
 (.reg [⟨(some 16), (.move (.tmp 0)), none⟩,
   ⟨(some 17), (.binOp .quo 3 (.tmp 16) (.const (.int .i64 10)) 3), none⟩,
   ⟨(some 0), (.assign (.tmp 17)), none⟩]))))))
 (.seq (.reg [⟨(some 18), (.move (.tmp 3)), none⟩,
   ⟨(some 19), (.binOp .add 9 (.const (.string (ByteArray.mk #[109]))) (.tmp 18) 9), none⟩,
   ⟨(some 2), (.assign (.tmp 19)), none⟩])
 .ret)))))
theorem x_laws_markText : Txt Try.prog 70 c_laws_markText [.tmp 2] 1 := ⟨by kernel_rfl, by kernel_rfl, _, _, Try.func70, rfl, by kernel_rfl, by kernel_rfl, by kernel_rfl, rfl, by decide⟩
/-- loop.example/g01062/spec.l23Better -/
def c_spec_l23Better : Cd :=
 (.seq (.reg [⟨(some 2), (.box 35 (.tmp 0)), none⟩,
   ⟨(some 3), (.box 35 (.tmp 1)), none⟩,
   ⟨(some 4), (.assign (.const (.bool false))), none⟩])
 (.seq (.regq [⟨(some 11), (.fieldAddr 35 (.tmp 2) 3), none⟩,
   ⟨(some 12), (.load 29 (.tmp 11)), none⟩,
   ⟨(some 13), (.call (.mk (.value (.func 52)) #[(.tmp 12)] #[29])), none⟩,
   ⟨(some 14), (.fieldAddr 35 (.tmp 3) 3), none⟩,
   ⟨(some 15), (.load 29 (.tmp 14)), none⟩,
   ⟨(some 16), (.call (.mk (.value (.func 52)) #[(.tmp 15)] #[29])), none⟩,
   ⟨(some 5), (.assign (.tmp 13)), none⟩,
   ⟨(some 6), (.assign (.tmp 16)), none⟩])
 (.seq (.reg [⟨(some 18), (.fieldAddr 35 (.tmp 2) 3), none⟩,
   ⟨(some 19), (.load 29 (.tmp 18)), none⟩,
   ⟨(some 20), (.call (.mk (.value (.func 62)) #[(.tmp 19)] #[29])), none⟩,
   ⟨(some 17), (.move (.tmp 20)), none⟩,
   ⟨(some 21), (.extract (.tmp 17) 0), none⟩,
   ⟨(some 22), (.extract (.tmp 17) 1), none⟩,
   ⟨(some 7), (.assign (.tmp 21)), none⟩,
   ⟨(some 8), (.assign (.tmp 22)), none⟩])
 (.seq (.reg [⟨(some 24), (.fieldAddr 35 (.tmp 3) 3), none⟩,
   ⟨(some 25), (.load 29 (.tmp 24)), none⟩,
   ⟨(some 26), (.call (.mk (.value (.func 62)) #[(.tmp 25)] #[29])), none⟩,
   ⟨(some 23), (.move (.tmp 26)), none⟩,
   ⟨(some 27), (.extract (.tmp 23) 0), none⟩,
   ⟨(some 28), (.extract (.tmp 23) 1), none⟩,
   ⟨(some 9), (.assign (.tmp 27)), none⟩,
   ⟨(some 10), (.assign (.tmp 28)), none⟩])
 (.seq (.reg [⟨(some 29), (.move (.tmp 5)), none⟩,
   ⟨(some 30), (.move (.tmp 6)), none⟩,
   ⟨(some 31), (.binOp .gtr 3 (.tmp 29) (.tmp 30) 3), none⟩,
   ⟨(some 32), (.move (.tmp 31)), none⟩,
   ⟨(some 33), (.move (.tmp 5)), (some (32, false))⟩,
   ⟨(some 34), (.move (.tmp 6)), (some (32, false))⟩,
   ⟨(some 35), (.binOp .eql 3 (.tmp 33) (.tmp 34) 3), (some (32, false))⟩,
   ⟨(some 36), (.move (.tmp 35)), (some (32, false))⟩,
   ⟨(some 37), (.move (.tmp 8)), (some (36, true))⟩,
   ⟨(some 38), (.move (.tmp 10)), (some (36, true))⟩,
   ⟨(some 39), (.binOp .gtr 3 (.tmp 37) (.tmp 38) 3), (some (36, true))⟩,
   ⟨(some 40), (.pick (.tmp 36) (.tmp 39) (.const (.bool false))), (some (32, false))⟩,
   ⟨(some 41), (.pick (.tmp 32) (.const (.bool true)) (.tmp 40)), none⟩,
   ⟨(some 4), (.assign (.tmp 41)), none⟩])
 .ret)))))
theorem x_spec_l23Better : Txt Try.prog 71 c_spec_l23Better [.tmp 4] 2 := ⟨by kernel_rfl, by kernel_rfl, _, _, Try.func71, rfl, by kernel_rfl, by kernel_rfl, by kernel_rfl, rfl, by decide⟩
/-- loop.example/g01062/impl.compareExhibits -/
def c_impl_compareExhibits : Cd :=
 (.seq (.reg [⟨(some 4), (.assign (.const (.int .i64 0))), none⟩])
 (.seq (.regt [⟨(some 5), (.move (.tmp 0)), none⟩,
   ⟨(some 6), (.nilCheck (.tmp 5)), none⟩,
   ⟨(some 7), (.fieldAddr 35 (.tmp 6) 3), none⟩,
   ⟨(some 8), (.load 29 (.tmp 7)), none⟩,
   ⟨(some 10), (.move (.tmp 1)), none⟩,
   ⟨(some 11), (.nilCheck (.tmp 10)), none⟩,
   ⟨(some 12), (.fieldAddr 35 (.tmp 11) 3), none⟩,
   ⟨(some 13), (.load 29 (.tmp 12)), none⟩,
   ⟨(some 14), (.call (.mk (.builtin .len) #[(.tmp 13)] #[29])), none⟩,
   ⟨(some 15), (.binOp .sub 3 (.tmp 14) (.const (.int .i64 2)) 3), none⟩,
   ⟨(some 17), (.move (.tmp 1)), none⟩,
   ⟨(some 18), (.nilCheck (.tmp 17)), none⟩,
   ⟨(some 19), (.fieldAddr 35 (.tmp 18) 3), none⟩,
   ⟨(some 20), (.load 29 (.tmp 19)), none⟩,
   ⟨(some 22), (.move (.tmp 0)), none⟩,
   ⟨(some 23), (.nilCheck (.tmp 22)), none⟩,
   ⟨(some 24), (.fieldAddr 35 (.tmp 23) 3), none⟩,
   ⟨(some 25), (.load 29 (.tmp 24)), none⟩,
   ⟨(some 26), (.call (.mk (.builtin .len) #[(.tmp 25)] #[29])), none⟩,
   ⟨(some 27), (.binOp .sub 3 (.tmp 26) (.const (.int .i64 2)) 3), none⟩,
   ⟨(some 30), (.move (.tmp 0)), none⟩,
   ⟨(some 31), (.nilCheck (.tmp 30)), none⟩,
   ⟨(some 32), (.fieldAddr 35 (.tmp 31) 3), none⟩,
   ⟨(some 33), (.load 29 (.tmp 32)), none⟩,
   ⟨(some 35), (.move (.tmp 1)), none⟩,
   ⟨(some 36), (.nilCheck (.tmp 35)), none⟩,
   ⟨(some 37), (.fieldAddr 35 (.tmp 36) 3), none⟩,
   ⟨(some 38), (.load 29 (.tmp 37)), none⟩] (.one true ⟨(some 9), (.call (.mk (.value (.func 56)) #[(.tmp 8)] #[29])), none⟩
   (.now ⟨(some 16), (.binOp .mul 3 (.tmp 9) (.tmp 15) 3), none⟩
   (.one true ⟨(some 21), (.call (.mk (.value (.func 56)) #[(.tmp 20)] #[29])), none⟩
   (.one true ⟨(some 28), (.binOp .mul 3 (.tmp 21) (.tmp 27) 3), none⟩
   (.one true ⟨(some 29), (.call (.mk (.value (.func 85)) #[(.tmp 16), (.tmp 28)] #[3, 3])), none⟩
   (.one true ⟨(some 34), (.call (.mk (.value (.func 64)) #[(.tmp 33)] #[29])), none⟩
   (.one false ⟨(some 39), (.call (.mk (.value (.func 64)) #[(.tmp 38)] #[29])), none⟩
   (.one false ⟨(some 40), (.call (.mk (.value (.func 85)) #[(.tmp 34), (.tmp 39)] #[3, 3])), none⟩
   (.one false ⟨(some 41), (.buildSlice 29 2 #[(0, (.tmp 29)), (1, (.tmp 40))]), none⟩
   (.one false ⟨(some 42), (.call (.mk (.value (.func 84)) #[(.tmp 41)] #[29])), none⟩
   (.one false ⟨(some 4), (.assign (.tmp 42)), none⟩
   .done))))))))))) [])
 .ret))
theorem x_impl_compareExhibits : Txt Try.prog 72 c_impl_compareExhibits [.tmp 4] 2 := ⟨by kernel_rfl, by kernel_rfl, _, _, Try.func72, rfl, by kernel_rfl, by kernel_rfl, by kernel_rfl, rfl, by decide⟩
/-- slices.SortStableFunc[[]int,int] -/
def c_slices_SortStableFunc_int : Cd :=
 (.reg [⟨(some 4), (.move (.tmp 0)), none⟩,
   ⟨(some 5), (.move (.tmp 0)), none⟩,
   ⟨(some 6), (.call (.mk (.builtin .len) #[(.tmp 5)] #[29])), none⟩,
   ⟨(some 7), (.move (.tmp 1)), none⟩,
   ⟨(some 8), (.call (.mk (.value (.func 86)) #[(.tmp 4), (.tmp 6), (.tmp 7)] #[29, 3, 66])), none⟩])
theorem x_slices_SortStableFunc_int : Txt Try.prog 73 c_slices_SortStableFunc_int [] 2 := ⟨by kernel_rfl, by kernel_rfl, _, _, Try.func73, rfl, by kernel_rfl, by kernel_rfl, by kernel_rfl, rfl, by decide⟩
/-- loop.example/g01062/spec.l2Word -/
def c_spec_l2Word : Cd :=
 (.seq (.reg [⟨(some 2), (.assign (.const (.bool false))), none⟩])
 (.seq (.seq (.reg [⟨(some 3), (.assign (.const (.int .i64 0))), none⟩])
 (.block 0 (.loop (.seq (.seq (.reg [⟨(some 4), (.move (.tmp 3)), none⟩,
   ⟨(some 5), (.move (.tmp 0)), none⟩,
   ⟨(some 6), (.call (.mk (.builtin .len) #[(.tmp 5)] #[9])), none⟩,
   ⟨(some 7), (.binOp .lss 3 (.tmp 4) (.tmp 6) 3), none⟩])
 (.cond (.tmp 7) .skip (.exit 0)))
 (.seq (.block 1 (.seq (.reg [⟨(some 10), (.move (.tmp 0)), none⟩,
   ⟨(some 11), (.move (.tmp 3)), none⟩,
   ⟨(some 12), (.index 9 (.tmp 10) (.tmp 11)), none⟩,
   ⟨(some 13), (.binOp .lss 5 (.tmp 12) (.const (.int .u8 97)) 5), none⟩,
   ⟨(some 14), (.move (.tmp 13)), none⟩,
   ⟨(some 15), (.move (.tmp 0)), (some (14, false))⟩,
   ⟨(some 16), (.move (.tmp 3)), (some (14, false))⟩,
   ⟨(some 17), (.index 9 (.tmp 15) (.tmp 16)), (some (14, false))⟩,
   ⟨(some 18), (.binOp .gtr 5 (.tmp 17) (.const (.int .u8 122)) 5), (some (14, false))⟩,
   ⟨(some 19), (.pick (.tmp 14) (.const (.bool true)) (.tmp 18)), none⟩])
 (.cond (.tmp 19) (.seq (.reg [⟨(some 2), (.assign (.const (.bool false))), none⟩])
 .ret) .skip)))
 (.reg [⟨(some 8), (.move (.tmp 3)), none⟩,
   ⟨(some 9), (.binOp .add 3 (.tmp 8) (.const (.int .i64 1)) 3), none⟩,
   ⟨(some 3), (.assign (.tmp 9)), none⟩]))))))
 (.seq (.reg [⟨(some 20), (.move (.tmp 0)), none⟩,
   ⟨(some 21), (.call (.mk (.builtin .len) #[(.tmp 20)] #[9])), none⟩,
   ⟨(some 22), (.call (.mk (.value (.func 65)) #[(.tmp 21), (.const (.int .i64 1)), (.const (.int .i64 10))] #[3, 3, 3])), none⟩,
   ⟨(some 2), (.assign (.tmp 22)), none⟩])
 .ret)))
theorem x_spec_l2Word : Txt Try.prog 75 c_spec_l2Word [.tmp 2] 1 := ⟨by kernel_rfl, by kernel_rfl, _, _, Try.func75, rfl, by kernel_rfl, by kernel_rfl, by kernel_rfl, rfl, by decide⟩
/-- loop.example/g01062/spec.l1Most -/
def c_spec_l1Most : Cd :=
 (.seq (.reg [⟨(some 4), (.assign (.const (.int .i64 0))), none⟩])
 (.seq (.seq (.reg [⟨(some 5), (.move (.tmp 0)), none⟩,
   ⟨(some 6), (.move (.tmp 1)), none⟩,
   ⟨(some 7), (.binOp .gtr 3 (.tmp 5) (.tmp 6) 3), none⟩])
 (.cond (.tmp 7) (.seq (.reg [⟨(some 8), (.move (.tmp 0)), none⟩,
   ⟨(some 4), (.assign (.tmp 8)), none⟩])
 .ret) .skip))
 (.seq (.reg [⟨(some 9), (.move (.tmp 1)), none⟩,
   ⟨(some 4), (.assign (.tmp 9)), none⟩])
 .ret)))
theorem x_spec_l1Most : Txt Try.prog 76 c_spec_l1Most [.tmp 4] 2 := ⟨by kernel_rfl, by kernel_rfl, _, _, Try.func76, rfl, by kernel_rfl, by kernel_rfl, by kernel_rfl, rfl, by decide⟩
/-- loop.example/g01062/impl.isWord -/
def c_impl_isWord : Cd :=
 (.seq (.reg [⟨(some 2), (.assign (.const (.bool false))), none⟩])
 (.seq (.seq (.reg [⟨(some 4), (.move (.tmp 0)), none⟩,
   ⟨(some 5), (.call (.mk (.builtin .len) #[(.tmp 4)] #[9])), none⟩,
   ⟨(some 6), (.move (.const (.int .i64 0))), none⟩])
 (.block 0 (.loop (.seq (.reg [⟨(some 7), (.binOp .lss 3 (.tmp 6) (.tmp 5) 3), none⟩])
 (.seq (.cond (.tmp 7) .skip (.exit 0))
 (.seq (.block 1 (.seq (.reg [⟨(some 8), (.move (.tmp 6)), none⟩,
   ⟨(some 3), (.assign (.tmp 8)), none⟩])
 (.seq (.reg [⟨(some 9), (.move (.tmp 0)), none⟩,
   ⟨(some 10), (.move (.tmp 3)), none⟩,
   ⟨(some 11), (.index 9 (.tmp 9) (.tmp 10)), none⟩,
   ⟨(some 12), (.binOp .lss 5 (.tmp 11) (.const (.int .u8 97)) 5), none⟩,
   ⟨(some 13), (.move (.tmp 12)), none⟩,
   ⟨(some 14), (.move (.tmp 0)), (some (13, false))⟩,
   ⟨(some 15), (.move (.tmp 3)), (some (13, false))⟩,
   ⟨(some 16), (.index 9 (.tmp 14) (.tmp 15)), (some (13, false))⟩,
   ⟨(some 17), (.binOp .gtr 5 (.tmp 16) (.const (.int .u8 122)) 5), (some (13, false))⟩,
   ⟨(some 18), (.pick (.tmp 13) (.const (.bool true)) (.tmp 17)), none⟩])
 (.cond (.tmp 18) (.seq (.reg [⟨(some 2), (.assign (.const (.bool false))), none⟩])
 .ret) .skip))))
 (.reg [⟨(some 19), (.binOp .add 3 (.tmp 6) (.const (.int .i64 1)) 3), none⟩,
   ⟨(some 6), (.move (.tmp 19)), none⟩])))))))
 (.seq (.reg [⟨(some 20), (.move (.tmp 0)), none⟩,
   ⟨(some 21), (.call (.mk (.builtin .len) #[(.tmp 20)] #[9])), none⟩,
   ⟨(some 22), (.call (.mk (.value (.func 66)) #[(.tmp 21), (.const (.int .i64 1)), (.const (.int .i64 10))] #[3, 3, 3])), none⟩,
   ⟨(some 2), (.assign (.tmp 22)), none⟩])
 .ret)))
theorem x_impl_isWord : Txt Try.prog 77 c_impl_isWord [.tmp 2] 1 := ⟨by kernel_rfl, by kernel_rfl, _, _, Try.func77, rfl, by kernel_rfl, by kernel_rfl, by kernel_rfl, rfl, by decide⟩
/-- slices.ContainsFunc[[]int,int] -/
def c_slices_ContainsFunc_int : Cd :=
 (.seq (.reg [⟨(some 4), (.assign (.const (.bool false))), none⟩])
 (.seq (.reg [⟨(some 5), (.move (.tmp 0)), none⟩,
   ⟨(some 6), (.move (.tmp 1)), none⟩,
   ⟨(some 7), (.call (.mk (.value (.func 87)) #[(.tmp 5), (.tmp 6)] #[29, 69])), none⟩,
   ⟨(some 8), (.binOp .geq 3 (.tmp 7) (.const (.int .i64 0)) 3), none⟩,
   ⟨(some 4), (.assign (.tmp 8)), none⟩])
 .ret))
theorem x_slices_ContainsFunc_int : Txt Try.prog 78 c_slices_ContainsFunc_int [.tmp 4] 2 := ⟨by kernel_rfl, by kernel_rfl, _, _, Try.func78, rfl, by kernel_rfl, by kernel_rfl, by kernel_rfl, rfl, by decide⟩
/-- loop.example/g01062/impl.isExhibit closure 1 -/
def c_impl_isExhibit_1 : Cd :=
 (.seq (.reg [⟨(some 2), (.assign (.const (.bool false))), none⟩])
 (.seq (.reg [⟨(some 3), (.move (.tmp 0)), none⟩,
   ⟨(some 4), (.call (.mk (.value (.func 66)) #[(.tmp 3), (.const (.int .i64 0)), (.const (.int .i64 100))] #[3, 3, 3])), none⟩,
   ⟨(some 5), (.unOp .not 4 (.tmp 4)), none⟩,
   ⟨(some 2), (.assign (.tmp 5)), none⟩])
 .ret))
theorem x_impl_isExhibit_1 : Txt Try.prog 79 c_impl_isExhibit_1 [.tmp 2] 1 := ⟨by kernel_rfl, by kernel_rfl, _, _, Try.func79, rfl, by kernel_rfl, by kernel_rfl, by kernel_rfl, rfl, by decide⟩
/-- loop.example/g01062/impl.gcd -/
def c_impl_gcd : Cd :=
 (.seq (.reg [⟨(some 4), (.assign (.const (.int .i64 0))), none⟩])
 (.seq (.block 0 (.loop (.seq (.seq (.reg [⟨(some 5), (.move (.tmp 1)), none⟩,
   ⟨(some 6), (.binOp .neq 3 (.tmp 5) (.const (.int .i64 0)) 3), none⟩])
 (.cond (.tmp 6) .skip (.exit 0)))
 (.block 1 (.regq [⟨(some 7), (.move (.tmp 1)), none⟩,
   ⟨(some 8), (.move (.tmp 0)), none⟩,
   ⟨(some 9), (.move (.tmp 1)), none⟩,
   ⟨(some 10), (.binOp .rem 3 (.tmp 8) (.tmp 9) 3), none⟩,
   ⟨(some 0), (.assign (.tmp 7)), none⟩,
   ⟨(some 1), (.assign (.tmp 10)), none⟩])))))
 (.seq (.reg [⟨(some 11), (.move (.tmp 0)), none⟩,
   ⟨(some 4), (.assign (.tmp 11)), none⟩])
 .ret)))
theorem x_impl_gcd : Txt Try.prog 80 c_impl_gcd [.tmp 4] 2 := ⟨by kernel_rfl, by kernel_rfl, _, _, Try.func80, rfl, by kernel_rfl, by kernel_rfl, by kernel_rfl, rfl, by decide⟩
/-- loop.example/g01062/spec.l1Least -/
def c_spec_l1Least : Cd :=
 (.seq (.reg [⟨(some 4), (.assign (.const (.int .i64 0))), none⟩])
 (.seq (.seq (.reg [⟨(some 5), (.move (.tmp 0)), none⟩,
   ⟨(some 6), (.move (.tmp 1)), none⟩,
   ⟨(some 7), (.binOp .lss 3 (.tmp 5) (.tmp 6) 3), none⟩])
 (.cond (.tmp 7) (.seq (.reg [⟨(some 8), (.move (.tmp 0)), none⟩,
   ⟨(some 4), (.assign (.tmp 8)), none⟩])
 .ret) .skip))
 (.seq (.reg [⟨(some 9), (.move (.tmp 1)), none⟩,
   ⟨(some 4), (.assign (.tmp 9)), none⟩])
 .ret)))
theorem x_spec_l1Least : Txt Try.prog 81 c_spec_l1Least [.tmp 4] 2 := ⟨by kernel_rfl, by kernel_rfl, _, _, Try.func81, rfl, by kernel_rfl, by kernel_rfl, by kernel_rfl, rfl, by decide⟩
/-- slices.IndexFunc[[]loop.example/g01062/impl.ShowFrame,loop.example/g01062/impl.ShowFrame] -/
def c_slices_IndexFunc_ShowFrame : Cd :=
 (.seq (.reg [⟨(some 4), (.assign (.const (.int .i64 0))), none⟩])
 (.seq (.seq (.reg [⟨(some 6), (.move (.tmp 0)), none⟩,
   ⟨(some 7), (.call (.mk (.builtin .len) #[(.tmp 6)] #[25])), none⟩,
   ⟨(some 8), (.move (.const (.int .i64 0))), none⟩])
 (.block 0 (.loop (.seq (.reg [⟨(some 9), (.binOp .lss 3 (.tmp 8) (.tmp 7) 3), none⟩])
 (.seq (.cond (.tmp 9) .skip (.exit 0))
 (.seq (.block 1 (.seq (.reg [⟨(some 10), (.move (.tmp 8)), none⟩,
   ⟨(some 5), (.assign (.tmp 10)), none⟩])
 (.seq (.reg [⟨(some 11), (.move (.tmp 1)), none⟩,
   ⟨(some 12), (.move (.tmp 0)), none⟩,
   ⟨(some 13), (.move (.tmp 5)), none⟩,
   ⟨(some 14), (.indexAddr 25 (.tmp 12) (.tmp 13)), none⟩,
   ⟨(some 15), (.load 35 (.tmp 14)), none⟩,
   ⟨(some 16), (.call (.mk (.value (.tmp 11)) #[(.tmp 15)] #[35])), none⟩])
 (.cond (.tmp 16) (.seq (.reg [⟨(some 17), (.move (.tmp 5)), none⟩,
   ⟨(some 4), (.assign (.tmp 17)), none⟩])
 .ret) .skip))))
 (.reg [⟨(some 18), (.binOp .add 3 (.tmp 8) (.const (.int .i64 1)) 3), none⟩,
   ⟨(some 8), (.move (.tmp 18)), none⟩])))))))
 (.seq (.reg [⟨(some 4), (.assign (.const (.int .i64 (-1)))), none⟩])
 .ret)))
theorem x_slices_IndexFunc_ShowFrame : Txt Try.prog 82 c_slices_IndexFunc_ShowFrame [.tmp 4] 2 := ⟨by kernel_rfl, by kernel_rfl, _, _, Try.func82, rfl, by kernel_rfl, by kernel_rfl, by kernel_rfl, rfl, by decide⟩
/-- loop.example/g01062/impl.exhibitAt closure 1 -/
def c_impl_exhibitAt_1 : Cd :=
 (.seq (.reg [⟨(some 2), (.box 35 (.tmp 0)), none⟩,
   ⟨(some 3), (.assign (.const (.bool false))), none⟩])
 (.seq (.reg [⟨(some 4), (.fieldAddr 35 (.tmp 2) 0), none⟩,
   ⟨(some 5), (.load 3 (.tmp 4)), none⟩,
   ⟨(some 6), (.load 3 (.tmp 1)), none⟩,
   ⟨(some 7), (.binOp .eql 3 (.tmp 5) (.tmp 6) 3), none⟩,
   ⟨(some 3), (.assign (.tmp 7)), none⟩])
 .ret))
theorem x_impl_exhibitAt_1 : Txt Try.prog 83 c_impl_exhibitAt_1 [.tmp 3] 2 := ⟨by kernel_rfl, by kernel_rfl, _, _, Try.func83, rfl, by kernel_rfl, by kernel_rfl, by kernel_rfl, rfl, by decide⟩
/-- cmp.Or[int] -/
def c_cmp_Or_int : Cd :=
 (.seq (.reg [⟨(some 2), (.assign (.const (.int .i64 0))), none⟩])
 (.seq (.reg [⟨(some 3), (.assign (.const (.int .i64 0))), none⟩])
 (.seq (.seq (.reg [⟨(some 6), (.move (.tmp 0)), none⟩,
   ⟨(some 7), (.call (.mk (.builtin .len) #[(.tmp 6)] #[29])), none⟩,
   ⟨(some 8), (.move (.const (.int .i64 0))), none⟩])
 (.block 0 (.loop (.seq (.reg [⟨(some 9), (.binOp .lss 3 (.tmp 8) (.tmp 7) 3), none⟩])
 (.seq (.cond (.tmp 9) .skip (.exit 0))
 (.seq (.block 1 (.seq (.reg [⟨(some 10), (.indexAddr 29 (.tmp 6) (.tmp 8)), none⟩,
   ⟨(some 11), (.load 3 (.tmp 10)), none⟩,
   ⟨(some 5), (.assign (.tmp 11)), none⟩])
 (.seq (.reg [⟨(some 12), (.move (.tmp 5)), none⟩,
   ⟨(some 13), (.move (.tmp 3)), none⟩,
   ⟨(some 14), (.binOp .neq 3 (.tmp 12) (.tmp 13) 3), none⟩])
 (.cond (.tmp 14) (.seq (.reg [⟨(some 15), (.move (.tmp 5)), none⟩,
   ⟨(some 2), (.assign (.tmp 15)), none⟩])
 .ret) .skip))))
 (.reg [⟨(some 16), (.binOp .add 3 (.tmp 8) (.const (.int .i64 1)) 3), none⟩,
   ⟨(some 8), (.move (.tmp 16)), none⟩])))))))
 (.seq (.reg [⟨(some 17), (.move (.tmp 3)), none⟩,
   ⟨(some 2), (.assign (.tmp 17)), none⟩])
 .ret))))
theorem x_cmp_Or_int : Txt Try.prog 84 c_cmp_Or_int [.tmp 2] 1 := ⟨by kernel_rfl, by kernel_rfl, _, _, Try.func84, rfl, by kernel_rfl, by kernel_rfl, by kernel_rfl, rfl, by decide⟩
/-- cmp.Compare[int] -/
def c_cmp_Compare_int : Cd :=
 (.seq (.reg [⟨(some 4), (.assign (.const (.int .i64 0))), none⟩])
 (.seq (.reg [⟨(some 7), (.move (.tmp 0)), none⟩,
   ⟨(some 8), (.call (.mk (.value (.func 88)) #[(.tmp 7)] #[3])), none⟩,
   ⟨(some 5), (.assign (.tmp 8)), none⟩])
 (.seq (.reg [⟨(some 9), (.move (.tmp 1)), none⟩,
   ⟨(some 10), (.call (.mk (.value (.func 88)) #[(.tmp 9)] #[3])), none⟩,
   ⟨(some 6), (.assign (.tmp 10)), none⟩])
 (.seq (.seq (.reg [⟨(some 11), (.move (.tmp 5)), none⟩])
 (.cond (.tmp 11) (.seq (.seq (.reg [⟨(some 12), (.move (.tmp 6)), none⟩])
 (.cond (.tmp 12) (.seq (.reg [⟨(some 4), (.assign (.const (.int .i64 0))), none⟩])
 .ret) .skip))
 (.seq (.reg [⟨(some 4), (.assign (.const (.int .i64 (-1)))), none⟩])
 .ret)) .skip))
 (.seq (.seq (.reg [⟨(some 13), (.move (.tmp 6)), none⟩])
 (.cond (.tmp 13) (.seq (.reg [⟨(some 4), (.assign (.const (.int .i64 1))), none⟩])
 .ret) .skip))
 (.seq (.seq (.reg [⟨(some 14), (.move (.tmp 0)), none⟩,
   ⟨(some 15), (.move (.tmp 1)), none⟩,
   ⟨(some 16), (.binOp .lss 3 (.tmp 14) (.tmp 15) 3), none⟩])
 (.cond (.tmp 16) (.seq (.reg [⟨(some 4), (.assign (.const (.int .i64 (-1)))), none⟩])
 .ret) .skip))
 (.seq (.seq (.reg [⟨(some 17), (.move (.tmp 0)), none⟩,
   ⟨(some 18), (.move (.tmp 1)), none⟩,
   ⟨(some 19), (.binOp .gtr 3 (.tmp 17) (.tmp 18) 3), none⟩])
 (.cond (.tmp 19) (.seq (.reg [⟨(some 4), (.assign (.const (.int .i64 1))), none⟩])
 .ret) .skip))
 (.seq (.reg [⟨(some 4), (.assign (.const (.int .i64 0))), none⟩])
 .ret))))))))
theorem x_cmp_Compare_int : Txt Try.prog 85 c_cmp_Compare_int [.tmp 4] 2 := ⟨by kernel_rfl, by kernel_rfl, _, _, Try.func85, rfl, by kernel_rfl, by kernel_rfl, by kernel_rfl, rfl, by decide⟩
/-- slices.stableCmpFunc[int] -/
def c_slices_stableCmpFunc_int : Cd :=
 (.seq (.reg [⟨(some 6), (.assign (.const (.int .i64 20))), none⟩])
 (.seq (.reg [⟨(some 10), (.move (.tmp 6)), none⟩,
   ⟨(some 7), (.assign (.const (.int .i64 0))), none⟩,
   ⟨(some 8), (.assign (.tmp 10)), none⟩])
 (.seq (.block 0 (.loop (.seq (.seq (.reg [⟨(some 11), (.move (.tmp 8)), none⟩,
   ⟨(some 12), (.move (.tmp 1)), none⟩,
   ⟨(some 13), (.binOp .leq 3 (.tmp 11) (.tmp 12) 3), none⟩])
 (.cond (.tmp 13) .skip (.exit 0)))
 (.block 1 (.seq (.reg [⟨(some 14), (.move (.tmp 0)), none⟩,
   ⟨(some 15), (.move (.tmp 7)), none⟩,
   ⟨(some 16), (.move (.tmp 8)), none⟩,
   ⟨(some 17), (.move (.tmp 2)), none⟩,
   ⟨(some 18), (.call (.mk (.value (.func 89)) #[(.tmp 14), (.tmp 15), (.tmp 16), (.tmp 17)] #[29, 3, 3, 66])), none⟩])
 (.seq (.reg [⟨(some 19), (.move (.tmp 8)), none⟩,
   ⟨(some 7), (.assign (.tmp 19)), none⟩])
 (.reg [⟨(some 20), (.move (.tmp 8)), none⟩,
   ⟨(some 21), (.move (.tmp 6)), none⟩,
   ⟨(some 22), (.binOp .add 3 (.tmp 20) (.tmp 21) 3), none⟩,
   ⟨(some 8), (.assign (.tmp 22)), none⟩])))))))
 (.seq (.reg [⟨(some 23), (.move (.tmp 0)), none⟩,
   ⟨(some 24), (.move (.tmp 7)), none⟩,
   ⟨(some 25), (.move (.tmp 1)), none⟩,
   ⟨(some 26), (.move (.tmp 2)), none⟩,
   ⟨(some 27), (.call (.mk (.value (.func 89)) #[(.tmp 23), (.tmp 24), (.tmp 25), (.tmp 26)] #[29, 3, 3, 66])), none⟩])
 (.block 2 (.loop (.seq (.seq (.reg [⟨(some 28), (.move (.tmp 6)), none⟩,
   ⟨(some 29), (.move (.tmp 1)), none⟩,
   ⟨(some 30), (.binOp .lss 3 (.tmp 28) (.tmp 29) 3), none⟩])
 (.cond (.tmp 30) .skip (.exit 2)))
 (.block 3 (.seq (.reg [⟨(some 31), (.move (.tmp 6)), none⟩,
   ⟨(some 32), (.binOp .mul 3 (.const (.int .i64 2)) (.tmp 31) 3), none⟩,
   ⟨(some 7), (.assign (.const (.int .i64 0))), none⟩,
   ⟨(some 8), (.assign (.tmp 32)), none⟩])
 (.seq (.block 4 (.loop (.seq (.seq (.reg [⟨(some 33), (.move (.tmp 8)), none⟩,
   ⟨(some 34), (.move (.tmp 1)), none⟩,
   ⟨(some 35), (.binOp .leq 3 (.tmp 33) (.tmp 34) 3), none⟩])
 (.cond (.tmp 35) .skip (.exit 4)))
 (.block 5 (.seq (.reg [⟨(some 36), (.move (.tmp 0)), none⟩,
   ⟨(some 37), (.move (.tmp 7)), none⟩,
   ⟨(some 38), (.move (.tmp 7)), none⟩,
   ⟨(some 39), (.move (.tmp 6)), none⟩,
   ⟨(some 40), (.binOp .add 3 (.tmp 38) (.tmp 39) 3), none⟩,
   ⟨(some 41), (.move (.tmp 8)), none⟩,
   ⟨(some 42), (.move (.tmp 2)), none⟩,
   ⟨(some 43), (.call (.mk (.value (.func 90)) #[(.tmp 36), (.tmp 37), (.tmp 40), (.tmp 41), (.tmp 42)] #[29, 3, 3, 3, 66])), none⟩])
 (.seq (.reg [⟨(some 44), (.move (.tmp 8)), none⟩,
   ⟨(some 7), (.assign (.tmp 44)), none⟩])
 (.reg [⟨(some 45), (.move (.tmp 8)), none⟩,
   ⟨(some 46), (.move (.tmp 6)), none⟩,
   ⟨(some 47), (.binOp .mul 3 (.const (.int .i64 2)) (.tmp 46) 3), none⟩,
   ⟨(some 48), (.binOp .add 3 (.tmp 45) (.tmp 47) 3), none⟩,
   ⟨(some 8), (.assign (.tmp 48)), none⟩])))))))
 (.seq (.seq (.reg [⟨(some 49), (.move (.tmp 7)), none⟩,
   ⟨(some 50), (.move (.tmp 6)), none⟩,
   ⟨(some 51), (.binOp .add 3 (.tmp 49) (.tmp 50) 3), none⟩,
   ⟨(some 9), (.assign (.tmp 51)), none⟩])
 (.seq (.reg [⟨(some 52), (.move (.tmp 9)), none⟩,
   ⟨(some 53), (.move (.tmp 1)), none⟩,
   ⟨(some 54), (.binOp .lss 3 (.tmp 52) (.tmp 53) 3), none⟩])
 (.cond (.tmp 54) (.reg [⟨(some 55), (.move (.tmp 0)), none⟩,
   ⟨(some 56), (.move (.tmp 7)), none⟩,
   ⟨(some 57), (.move (.tmp 9)), none⟩,
   ⟨(some 58), (.move (.tmp 1)), none⟩,
   ⟨(some 59), (.move (.tmp 2)), none⟩,
   ⟨(some 60), (.call (.mk (.value (.func 90)) #[(.tmp 55), (.tmp 56), (.tmp 57), (.tmp 58), (.tmp 59)] #[29, 3, 3, 3, 66])), none⟩]) .skip)))
 (.reg [⟨(some 61), (.move (.tmp 6)), none⟩,
   ⟨(some 62), (.binOp .mul 3 (.tmp 61) (.const (.int .i64 2)) 3), none⟩,
   ⟨(some 6), (.assign (.tmp 62)), none⟩]))))))))))))
theorem x_slices_stableCmpFunc_int : Txt Try.prog 86 c_slices_stableCmpFunc_int [] 3 := ⟨by kernel_rfl, by kernel_rfl, _, _, Try.func86, rfl, by kernel_rfl, by kernel_rfl, by kernel_rfl, rfl, by decide⟩
/-- slices.IndexFunc[[]int,int] -/
def c_slices_IndexFunc_int : Cd :=
 (.seq (.reg [⟨(some 4), (.assign (.const (.int .i64 0))), none⟩])
 (.seq (.seq (.reg [⟨(some 6), (.move (.tmp 0)), none⟩,
   ⟨(some 7), (.call (.mk (.builtin .len) #[(.tmp 6)] #[29])), none⟩,
   ⟨(some 8), (.move (.const (.int .i64 0))), none⟩])
 (.block 0 (.loop (.seq (.reg [⟨(some 9), (.binOp .lss 3 (.tmp 8) (.tmp 7) 3), none⟩])
 (.seq (.cond (.tmp 9) .skip (.exit 0))
 (.seq (.block 1 (.seq (.reg [⟨(some 10), (.move (.tmp 8)), none⟩,
   ⟨(some 5), (.assign (.tmp 10)), none⟩])
 (.seq (.reg [⟨(some 11), (.move (.tmp 1)), none⟩,
   ⟨(some 12), (.move (.tmp 0)), none⟩,
   ⟨(some 13), (.move (.tmp 5)), none⟩,
   ⟨(some 14), (.indexAddr 29 (.tmp 12) (.tmp 13)), none⟩,
   ⟨(some 15), (.load 3 (.tmp 14)), none⟩,
   ⟨(some 16), (.call (.mk (.value (.tmp 11)) #[(.tmp 15)] #[3])), none⟩])
 (.cond (.tmp 16) (.seq (.reg [⟨(some 17), (.move (.tmp 5)), none⟩,
   ⟨(some 4), (.assign (.tmp 17)), none⟩])
 .ret) .skip))))
 (.reg [⟨(some 18), (.binOp .add 3 (.tmp 8) (.const (.int .i64 1)) 3), none⟩,
   ⟨(some 8), (.move (.tmp 18)), none⟩])))))))
 (.seq (.reg [⟨(some 4), (.assign (.const (.int .i64 (-1)))), none⟩])
 .ret)))
theorem x_slices_IndexFunc_int : Txt Try.prog 87 c_slices_IndexFunc_int [.tmp 4] 2 := ⟨by kernel_rfl, by kernel_rfl, _, _, Try.func87, rfl, by kernel_rfl, by kernel_rfl, by kernel_rfl, rfl, by decide⟩
/-- cmp.isNaN[int] -/
def c_cmp_isNaN_int : Cd :=
 (.seq (.reg [⟨(some 2), (.assign (.const (.bool false))), none⟩])
 (.seq (.reg [⟨(some 3), (.move (.tmp 0)), none⟩,
   ⟨(some 4), (.move (.tmp 0)), none⟩,
   ⟨(some 5), (.binOp .neq 3 (.tmp 3) (.tmp 4) 3), none⟩,
   ⟨(some 2), (.assign (.tmp 5)), none⟩])
 .ret))
theorem x_cmp_isNaN_int : Txt Try.prog 88 c_cmp_isNaN_int [.tmp 2] 1 := ⟨by kernel_rfl, by kernel_rfl, _, _, Try.func88, rfl, by kernel_rfl, by kernel_rfl, by kernel_rfl, rfl, by decide⟩
/-- slices.insertionSortCmpFunc[int] -/
def c_slices_insertionSortCmpFunc_int : Cd :=
 (.seq (.reg [⟨(some 10), (.move (.tmp 1)), none⟩,
   ⟨(some 11), (.binOp .add 3 (.tmp 10) (.const (.int .i64 1)) 3), none⟩,
   ⟨(some 8), (.assign (.tmp 11)), none⟩])
 (.block 0 (.loop (.seq (.seq (.reg [⟨(some 12), (.move (.tmp 8)), none⟩,
   ⟨(some 13), (.move (.tmp 2)), none⟩,
   ⟨(some 14), (.binOp .lss 3 (.tmp 12) (.tmp 13) 3), none⟩])
 (.cond (.tmp 14) .skip (.exit 0)))
 (.seq (.block 1 (.seq (.reg [⟨(some 17), (.move (.tmp 8)), none⟩,
   ⟨(some 9), (.assign (.tmp 17)), none⟩])
 (.block 2 (.loop (.seq (.seq (.regq [⟨(some 18), (.move (.tmp 9)), none⟩,
   ⟨(some 19), (.move (.tmp 1)), none⟩,
   ⟨(some 20), (.binOp .gtr 3 (.tmp 18) (.tmp 19) 3), none⟩,
   ⟨(some 21), (.move (.tmp 20)), none⟩,
   ⟨(some 22), (.move (.tmp 3)), (some (21, true))⟩,
   ⟨(some 23), (.move (.tmp 0)), (some (21, true))⟩,
   ⟨(some 24), (.move (.tmp 9)), (some (21, true))⟩,
   ⟨(some 25), (.indexAddr 29 (.tmp 23) (.tmp 24)), (some (21, true))⟩,
   ⟨(some 26), (.load 3 (.tmp 25)), (some (21, true))⟩,
   ⟨(some 27), (.move (.tmp 0)), (some (21, true))⟩,
   ⟨(some 28), (.move (.tmp 9)), (some (21, true))⟩,
   ⟨(some 29), (.binOp .sub 3 (.tmp 28) (.const (.int .i64 1)) 3), (some (21, true))⟩,
   ⟨(some 30), (.indexAddr 29 (.tmp 27) (.tmp 29)), (some (21, true))⟩,
   ⟨(some 31), (.load 3 (.tmp 30)), (some (21, true))⟩,
   ⟨(some 32), (.call (.mk (.value (.tmp 22)) #[(.tmp 26), (.tmp 31)] #[3, 3])), (some (21, true))⟩,
   ⟨(some 33), (.binOp .lss 3 (.tmp 32) (.const (.int .i64 0)) 3), (some (21, true))⟩,
   ⟨(some 34), (.pick (.tmp 21) (.tmp 33) (.const (.bool false))), none⟩])
 (.cond (.tmp 34) .skip (.exit 2)))
 (.seq (.block 3 (.regt [⟨(some 37), (.move (.tmp 0)), none⟩,
   ⟨(some 38), (.move (.tmp 9)), none⟩,
   ⟨(some 39), (.move (.tmp 0)), none⟩,
   ⟨(some 40), (.move (.tmp 9)), none⟩,
   ⟨(some 41), (.binOp .sub 3 (.tmp 40) (.const (.int .i64 1)) 3), none⟩,
   ⟨(some 42), (.move (.tmp 0)), none⟩,
   ⟨(some 43), (.move (.tmp 9)), none⟩,
   ⟨(some 44), (.binOp .sub 3 (.tmp 43) (.const (.int .i64 1)) 3), none⟩,
   ⟨(some 45), (.indexAddr 29 (.tmp 42) (.tmp 44)), none⟩,
   ⟨(some 46), (.load 3 (.tmp 45)), none⟩,
   ⟨(some 47), (.move (.tmp 0)), none⟩,
   ⟨(some 48), (.move (.tmp 9)), none⟩,
   ⟨(some 49), (.indexAddr 29 (.tmp 47) (.tmp 48)), none⟩,
   ⟨(some 50), (.load 3 (.tmp 49)), none⟩,
   ⟨(some 51), (.indexAddr 29 (.tmp 37) (.tmp 38)), none⟩] (.one false ⟨none, (.store 3 (.tmp 51) (.tmp 46)), none⟩
   (.one false ⟨(some 52), (.indexAddr 29 (.tmp 39) (.tmp 41)), none⟩
   (.one false ⟨none, (.store 3 (.tmp 52) (.tmp 50)), none⟩
   .done))) []))
 (.reg [⟨(some 35), (.move (.tmp 9)), none⟩,
   ⟨(some 36), (.binOp .sub 3 (.tmp 35) (.const (.int .i64 1)) 3), none⟩,
   ⟨(some 9), (.assign (.tmp 36)), none⟩])))))))
 (.reg [⟨(some 15), (.move (.tmp 8)), none⟩,
   ⟨(some 16), (.binOp .add 3 (.tmp 15) (.const (.int .i64 1)) 3), none⟩,
   ⟨(some 8), (.assign (.tmp 16)), none⟩]))))))
theorem x_slices_insertionSortCmpFunc_int : Txt Try.prog 89 c_slices_insertionSortCmpFunc_int [] 4 := ⟨by kernel_rfl, by kernel_rfl, _, _, Try.func89, rfl, by kernel_rfl, by kernel_rfl, by kernel_rfl, rfl, by decide⟩
theorem qs3 : qSize Try.prog 3 = some 1 := by kernel_rfl
theorem qb3 : qBytes Try.prog 3 = some 8 := by kernel_rfl
theorem qa3 : qAgg Try.prog 3 = some false := by kernel_rfl
theorem qz3 : qZero Try.prog 3 = some (.int .i64 0) := by kernel_rfl
theorem qk3 : qKind Try.prog 3 = some .i64 := by kernel_rfl
theorem qui3 : (Try.prog.underlying 3).isSome = true := by kernel_rfl
theorem qs4 : qSize Try.prog 4 = some 1 := by kernel_rfl
theorem qb4 : qBytes Try.prog 4 = some 1 := by kernel_rfl
theorem qa4 : qAgg Try.prog 4 = some false := by kernel_rfl
theorem qz4 : qZero Try.prog 4 = some (.bool false) := by kernel_rfl
theorem qo4 : qBool Try.prog 4 = true := by kernel_rfl
theorem qs5 : qSize Try.prog 5 = some 1 := by kernel_rfl
theorem qb5 : qBytes Try.prog 5 = some 1 := by kernel_rfl
theorem qa5 : qAgg Try.prog 5 = some false := by kernel_rfl
theorem qz5 : qZero Try.prog 5 = some (.int .u8 0) := by kernel_rfl
theorem qk5 : qKind Try.prog 5 = some .u8 := by kernel_rfl
theorem qui5 : (Try.prog.underlying 5).isSome = true := by kernel_rfl
theorem qs9 : qSize Try.prog 9 = some 1 := by kernel_rfl
theorem qb9 : qBytes Try.prog 9 = some 16 := by kernel_rfl
theorem qa9 : qAgg Try.prog 9 = some false := by kernel_rfl
theorem qz9 : qZero Try.prog 9 = some (.string ByteArray.empty) := by kernel_rfl
theorem qt9 : qStr Try.prog 9 = true := by kernel_rfl
theorem qs22 : qSize Try.prog 22 = some 1 := by kernel_rfl
theorem qb22 : qBytes Try.prog 22 = some 24 := by kernel_rfl
theorem qa22 : qAgg Try.prog 22 = some false := by kernel_rfl
theorem qz22 : qZero Try.prog 22 = some (.slice none 0 0) := by kernel_rfl
theorem qe22 : qElem Try.prog 22 = some 31 := by kernel_rfl
theorem qs25 : qSize Try.prog 25 = some 1 := by kernel_rfl
theorem qb25 : qBytes Try.prog 25 = some 24 := by kernel_rfl
theorem qa25 : qAgg Try.prog 25 = some false := by kernel_rfl
theorem qz25 : qZero Try.prog 25 = some (.slice none 0 0) := by kernel_rfl
theorem qe25 : qElem Try.prog 25 = some 35 := by kernel_rfl
theorem qs29 : qSize Try.prog 29 = some 1 := by kernel_rfl
theorem qb29 : qBytes Try.prog 29 = some 24 := by kernel_rfl
theorem qa29 : qAgg Try.prog 29 = some false := by kernel_rfl
theorem qz29 : qZero Try.prog 29 = some (.slice none 0 0) := by kernel_rfl
theorem qe29 : qElem Try.prog 29 = some 3 := by kernel_rfl
theorem qs31 : qSize Try.prog 31 = some 4 := by kernel_rfl
theorem qb31 : qBytes Try.prog 31 = some 56 := by kernel_rfl
theorem qa31 : qAgg Try.prog 31 = some true := by kernel_rfl
theorem qz31 : qZero Try.prog 31 = some (.agg #[.int .i64 0, .string ByteArray.empty, .int .i64 0, .slice none 0 0]) := by kernel_rfl
theorem qg31 : qFields Try.prog 31 = some [(0, 1), (1, 1), (2, 1), (3, 1)] := by kernel_rfl
theorem qf31_0 : qField Try.prog 31 0 = some (0, 3) := by kernel_rfl
theorem qf31_1 : qField Try.prog 31 1 = some (1, 9) := by kernel_rfl
theorem qf31_2 : qField Try.prog 31 2 = some (2, 3) := by kernel_rfl
theorem qf31_3 : qField Try.prog 31 3 = some (3, 29) := by kernel_rfl
theorem qs35 : qSize Try.prog 35 = some 4 := by kernel_rfl
theorem qb35 : qBytes Try.prog 35 = some 56 := by kernel_rfl
theorem qa35 : qAgg Try.prog 35 = some true := by kernel_rfl
theorem qz35 : qZero Try.prog 35 = some (.agg #[.int .i64 0, .string ByteArray.empty, .int .i64 0, .slice none 0 0]) := by kernel_rfl
theorem qg35 : qFields Try.prog 35 = some [(0, 1), (1, 1), (2, 1), (3, 1)] := by kernel_rfl
theorem qf35_0 : qField Try.prog 35 0 = some (0, 3) := by kernel_rfl
theorem qf35_1 : qField Try.prog 35 1 = some (1, 9) := by kernel_rfl
theorem qf35_2 : qField Try.prog 35 2 = some (2, 3) := by kernel_rfl
theorem qf35_3 : qField Try.prog 35 3 = some (3, 29) := by kernel_rfl
theorem qs59 : qSize Try.prog 59 = some 1 := by kernel_rfl
theorem qb59 : qBytes Try.prog 59 = some 8 := by kernel_rfl
theorem qa59 : qAgg Try.prog 59 = some false := by kernel_rfl
theorem qz59 : qZero Try.prog 59 = some (.pointer none) := by kernel_rfl
theorem qs71 : qSize Try.prog 71 = some 1 := by kernel_rfl
theorem qb71 : qBytes Try.prog 71 = some 24 := by kernel_rfl
theorem qa71 : qAgg Try.prog 71 = some false := by kernel_rfl
theorem qz71 : qZero Try.prog 71 = some (.slice none 0 0) := by kernel_rfl
theorem qe71 : qElem Try.prog 71 = some 5 := by kernel_rfl
theorem qs77 : qSize Try.prog 77 = some 1 := by kernel_rfl
theorem qb77 : qBytes Try.prog 77 = some 8 := by kernel_rfl
theorem qa77 : qAgg Try.prog 77 = some false := by kernel_rfl
theorem qz77 : qZero Try.prog 77 = some (.int .u64 0) := by kernel_rfl
theorem qk77 : qKind Try.prog 77 = some .u64 := by kernel_rfl
theorem qui77 : (Try.prog.underlying 77).isSome = true := by kernel_rfl
set_option linter.defProp false
/-- The facts, in one name. -/
def fcT := And.intro @qs3 <| And.intro @qb3 <| And.intro @qa3 <| And.intro @qz3 <| And.intro @qk3 <| And.intro @qui3 <| And.intro @qs4 <| And.intro @qb4 <| And.intro @qa4 <| And.intro @qz4 <| And.intro @qo4 <| And.intro @qs5 <| And.intro @qb5 <| And.intro @qa5 <| And.intro @qz5 <| And.intro @qk5 <| And.intro @qui5 <| And.intro @qs9 <| And.intro @qb9 <| And.intro @qa9 <| And.intro @qz9 <| And.intro @qt9 <| And.intro @qs22 <| And.intro @qb22 <| And.intro @qa22 <| And.intro @qz22 <| And.intro @qe22 <| And.intro @qs25 <| And.intro @qb25 <| And.intro @qa25 <| And.intro @qz25 <| And.intro @qe25 <| And.intro @qs29 <| And.intro @qb29 <| And.intro @qa29 <| And.intro @qz29 <| And.intro @qe29 <| And.intro @qs31 <| And.intro @qb31 <| And.intro @qa31 <| And.intro @qz31 <| And.intro @qg31 <| And.intro @qf31_0 <| And.intro @qf31_1 <| And.intro @qf31_2 <| And.intro @qf31_3 <| And.intro @qs35 <| And.intro @qb35 <| And.intro @qa35 <| And.intro @qz35 <| And.intro @qg35 <| And.intro @qf35_0 <| And.intro @qf35_1 <| And.intro @qf35_2 <| And.intro @qf35_3 <| And.intro @qs59 <| And.intro @qb59 <| And.intro @qa59 <| And.intro @qz59 <| And.intro @qs71 <| And.intro @qb71 <| And.intro @qa71 <| And.intro @qz71 <| And.intro @qe71 <| And.intro @qs77 <| And.intro @qb77 <| And.intro @qa77 <| And.intro @qz77 <| And.intro @qk77 <| And.intro @qui77 <| True.intro
end Go.Proofs.Ytmmbolempcpcjaa
