/- The texts of the functions, edges struck, and closed facts on functions and types: written by program (gen.py). -/
import Derived.Test.YtnaldmmdhpobgaaDoorW
import Derived.Test.YtnaldmmdhpobgaaDoorProg
namespace Go.Proofs.YtnaldmmdhpobgaaDoor
open Go Go.RowKit Go.Proofs
/-- loop.example/g01062/laws.FnExactCircleText -/
def c_laws_FnExactCircleText : Cd :=
 (.seq (.reg [⟨(some 2), (.assign (.const (.bool false))), none⟩])
 (.seq (.seq (.reg [⟨(some 8), (.move (.tmp 0)), none⟩,
   ⟨(some 9), (.call (.mk (.builtin .len) #[(.tmp 8)] #[22])), none⟩,
   ⟨(some 10), (.binOp .gtr 3 (.tmp 9) (.const (.int .i64 1048576)) 3), none⟩])
 (.cond (.tmp 10) (.seq (.reg [⟨(some 2), (.assign (.const (.bool true))), none⟩])
 .ret) .skip))
 (.seq (.reg [⟨(some 12), (.move (.tmp 0)), none⟩,
   ⟨(some 13), (.call (.mk (.value (.func 6)) #[(.tmp 12)] #[22])), none⟩,
   ⟨(some 14), (.call (.mk (.value (.func 5)) #[(.tmp 13)] #[22])), none⟩,
   ⟨(some 11), (.move (.tmp 14)), none⟩,
   ⟨(some 15), (.extract (.tmp 11) 0), none⟩,
   ⟨(some 16), (.extract (.tmp 11) 1), none⟩,
   ⟨(some 3), (.assign (.tmp 15)), none⟩,
   ⟨(some 4), (.assign (.tmp 16)), none⟩])
 (.seq (.reg [⟨(some 17), (.move (.tmp 0)), none⟩,
   ⟨(some 18), (.call (.mk (.value (.func 6)) #[(.tmp 17)] #[22])), none⟩,
   ⟨(some 5), (.assign (.tmp 18)), none⟩])
 (.seq (.reg [⟨(some 20), (.move (.tmp 5)), none⟩,
   ⟨(some 21), (.call (.mk (.value (.func 7)) #[(.tmp 20)] #[22])), none⟩,
   ⟨(some 19), (.move (.tmp 21)), none⟩,
   ⟨(some 22), (.extract (.tmp 19) 0), none⟩,
   ⟨(some 23), (.extract (.tmp 19) 1), none⟩,
   ⟨(some 6), (.assign (.tmp 22)), none⟩,
   ⟨(some 7), (.assign (.tmp 23)), none⟩])
 (.seq (.seq (.reg [⟨(some 24), (.move (.tmp 6)), none⟩,
   ⟨(some 25), (.move (.tmp 3)), none⟩,
   ⟨(some 26), (.binOp .neq 9 (.tmp 24) (.tmp 25) 9), none⟩,
   ⟨(some 27), (.move (.tmp 26)), none⟩,
   ⟨(some 28), (.move (.tmp 7)), (some (27, false))⟩,
   ⟨(some 29), (.move (.tmp 4)), (some (27, false))⟩,
   ⟨(some 30), (.binOp .neq 4 (.tmp 28) (.tmp 29) 4), (some (27, false))⟩,
   ⟨(some 31), (.pick (.tmp 27) (.const (.bool true)) (.tmp 30)), none⟩])
 (.cond (.tmp 31) (.seq (.reg [⟨(some 2), (.assign (.const (.bool false))), none⟩])
 .ret) .skip))
 (.seq (.seq (.reg [⟨(some 32), (.move (.tmp 5)), none⟩,
   ⟨(some 33), (.move (.tmp 0)), none⟩,
   ⟨(some 34), (.call (.mk (.value (.func 6)) #[(.tmp 33)] #[22])), none⟩,
   ⟨(some 35), (.call (.mk (.value (.func 8)) #[(.tmp 32), (.tmp 34)] #[22, 22])), none⟩,
   ⟨(some 36), (.unOp .not 4 (.tmp 35)), none⟩])
 (.cond (.tmp 36) (.seq (.reg [⟨(some 2), (.assign (.const (.bool false))), none⟩])
 .ret) .skip))
 (.seq (.reg [⟨(some 2), (.assign (.const (.bool true))), none⟩])
 .ret))))))))
theorem x_laws_FnExactCircleText : Txt Tryd.prog 3 c_laws_FnExactCircleText [.tmp 2] 1 := ⟨by kernel_rfl, by kernel_rfl, _, _, Tryd.func3, rfl, by kernel_rfl, by kernel_rfl, by kernel_rfl, rfl, by decide⟩
/-- loop.example/g01062/spec.CircleText -/
def c_spec_CircleText : Cd :=
 (.seq (.reg [⟨(some 2), (.assign (.const (.string (ByteArray.mk #[])))), none⟩,
   ⟨(some 3), (.assign (.const (.bool false))), none⟩])
 (.seq (.seq (.reg [⟨(some 6), (.move (.tmp 0)), none⟩,
   ⟨(some 7), (.call (.mk (.value (.func 30)) #[(.const (.int .i64 8)), (.tmp 6)] #[3, 22])), none⟩,
   ⟨(some 8), (.unOp .not 4 (.tmp 7)), none⟩])
 (.cond (.tmp 8) (.seq (.reg [⟨(some 2), (.assign (.const (.string (ByteArray.mk #[])))), none⟩,
   ⟨(some 3), (.assign (.const (.bool false))), none⟩])
 .ret) .skip))
 (.seq (.reg [⟨(some 4), (.assign (.const (.string (ByteArray.mk #[])))), none⟩])
 (.seq (.seq (.reg [⟨(some 5), (.assign (.const (.int .i64 0))), none⟩])
 (.block 0 (.loop (.seq (.seq (.reg [⟨(some 9), (.move (.tmp 5)), none⟩,
   ⟨(some 10), (.move (.tmp 0)), none⟩,
   ⟨(some 11), (.call (.mk (.builtin .len) #[(.tmp 10)] #[22])), none⟩,
   ⟨(some 12), (.binOp .lss 3 (.tmp 9) (.tmp 11) 3), none⟩])
 (.cond (.tmp 12) .skip (.exit 0)))
 (.seq (.block 1 (.reg [⟨(some 15), (.move (.tmp 4)), none⟩,
   ⟨(some 16), (.move (.tmp 0)), none⟩,
   ⟨(some 17), (.move (.tmp 5)), none⟩,
   ⟨(some 18), (.indexAddr 22 (.tmp 16) (.tmp 17)), none⟩,
   ⟨(some 19), (.load 3 (.tmp 18)), none⟩,
   ⟨(some 20), (.call (.mk (.value (.func 31)) #[(.tmp 19)] #[3])), none⟩,
   ⟨(some 21), (.binOp .add 9 (.tmp 15) (.tmp 20) 9), none⟩,
   ⟨(some 22), (.binOp .add 9 (.tmp 21) (.const (.string (ByteArray.mk #[62]))) 9), none⟩,
   ⟨(some 4), (.assign (.tmp 22)), none⟩]))
 (.reg [⟨(some 13), (.move (.tmp 5)), none⟩,
   ⟨(some 14), (.binOp .add 3 (.tmp 13) (.const (.int .i64 1)) 3), none⟩,
   ⟨(some 5), (.assign (.tmp 14)), none⟩]))))))
 (.seq (.reg [⟨(some 23), (.move (.tmp 4)), none⟩,
   ⟨(some 24), (.move (.tmp 0)), none⟩,
   ⟨(some 25), (.indexAddr 22 (.tmp 24) (.const (.int .i64 0))), none⟩,
   ⟨(some 26), (.load 3 (.tmp 25)), none⟩,
   ⟨(some 27), (.call (.mk (.value (.func 31)) #[(.tmp 26)] #[3])), none⟩,
   ⟨(some 28), (.binOp .add 9 (.tmp 23) (.tmp 27) 9), none⟩,
   ⟨(some 2), (.assign (.tmp 28)), none⟩,
   ⟨(some 3), (.assign (.const (.bool true))), none⟩])
 .ret)))))
theorem x_spec_CircleText : Txt Tryd.prog 5 c_spec_CircleText [.tmp 2, .tmp 3] 1 := ⟨by kernel_rfl, by kernel_rfl, _, _, Tryd.func5, rfl, by kernel_rfl, by kernel_rfl, by kernel_rfl, rfl, by decide⟩
/-- loop.example/g01062/laws.toIntS -/
def c_laws_toIntS : Cd :=
 (.seq (.reg [⟨(some 2), (.assign (.const (.slice none 0 0))), none⟩])
 (.seq (.reg [⟨(some 5), (.move (.tmp 0)), none⟩,
   ⟨(some 6), (.call (.mk (.builtin .len) #[(.tmp 5)] #[22])), none⟩,
   ⟨(some 7), (.makeSlice 22 (.tmp 6) (.tmp 6)), none⟩,
   ⟨(some 3), (.assign (.tmp 7)), none⟩])
 (.seq (.seq (.reg [⟨(some 4), (.assign (.const (.int .i64 0))), none⟩])
 (.block 0 (.loop (.seq (.seq (.reg [⟨(some 8), (.move (.tmp 4)), none⟩,
   ⟨(some 9), (.move (.tmp 0)), none⟩,
   ⟨(some 10), (.call (.mk (.builtin .len) #[(.tmp 9)] #[22])), none⟩,
   ⟨(some 11), (.binOp .lss 3 (.tmp 8) (.tmp 10) 3), none⟩])
 (.cond (.tmp 11) .skip (.exit 0)))
 (.seq (.block 1 (.reg [⟨(some 14), (.move (.tmp 3)), none⟩,
   ⟨(some 15), (.move (.tmp 4)), none⟩,
   ⟨(some 16), (.move (.tmp 0)), none⟩,
   ⟨(some 17), (.move (.tmp 4)), none⟩,
   ⟨(some 18), (.indexAddr 22 (.tmp 16) (.tmp 17)), none⟩,
   ⟨(some 19), (.load 3 (.tmp 18)), none⟩,
   ⟨(some 20), (.indexAddr 22 (.tmp 14) (.tmp 15)), none⟩,
   ⟨none, (.store 3 (.tmp 20) (.tmp 19)), none⟩]))
 (.reg [⟨(some 12), (.move (.tmp 4)), none⟩,
   ⟨(some 13), (.binOp .add 3 (.tmp 12) (.const (.int .i64 1)) 3), none⟩,
   ⟨(some 4), (.assign (.tmp 13)), none⟩]))))))
 (.seq (.reg [⟨(some 21), (.move (.tmp 3)), none⟩,
   ⟨(some 2), (.assign (.tmp 21)), none⟩])
 .ret))))
theorem x_laws_toIntS : Txt Tryd.prog 6 c_laws_toIntS [.tmp 2] 1 := ⟨by kernel_rfl, by kernel_rfl, _, _, Tryd.func6, rfl, by kernel_rfl, by kernel_rfl, by kernel_rfl, rfl, by decide⟩
/-- loop.example/g01062/impl.CircleText -/
def c_impl_CircleText : Cd :=
 (.seq (.reg [⟨(some 2), (.assign (.const (.string (ByteArray.mk #[])))), none⟩,
   ⟨(some 3), (.assign (.const (.bool false))), none⟩])
 (.seq (.seq (.reg [⟨(some 4), (.move (.tmp 0)), none⟩,
   ⟨(some 5), (.call (.mk (.value (.func 32)) #[(.const (.int .i64 8)), (.tmp 4)] #[3, 22])), none⟩,
   ⟨(some 6), (.unOp .not 4 (.tmp 5)), none⟩])
 (.cond (.tmp 6) (.seq (.reg [⟨(some 2), (.assign (.const (.string (ByteArray.mk #[])))), none⟩,
   ⟨(some 3), (.assign (.const (.bool false))), none⟩])
 .ret) .skip))
 (.seq (.regq [⟨(some 7), (.move (.tmp 0)), none⟩,
   ⟨(some 8), (.call (.mk (.value (.func 33)) #[(.tmp 7), (.const (.string (ByteArray.mk #[62])))] #[22, 9])), none⟩,
   ⟨(some 9), (.binOp .add 9 (.tmp 8) (.const (.string (ByteArray.mk #[62]))) 9), none⟩,
   ⟨(some 10), (.move (.tmp 0)), none⟩,
   ⟨(some 11), (.indexAddr 22 (.tmp 10) (.const (.int .i64 0))), none⟩,
   ⟨(some 12), (.load 3 (.tmp 11)), none⟩,
   ⟨(some 13), (.call (.mk (.value (.func 34)) #[(.tmp 12)] #[3])), none⟩,
   ⟨(some 14), (.binOp .add 9 (.tmp 9) (.tmp 13) 9), none⟩,
   ⟨(some 2), (.assign (.tmp 14)), none⟩,
   ⟨(some 3), (.assign (.const (.bool true))), none⟩])
 .ret)))
theorem x_impl_CircleText : Txt Tryd.prog 7 c_impl_CircleText [.tmp 2, .tmp 3] 1 := ⟨by kernel_rfl, by kernel_rfl, _, _, Tryd.func7, rfl, by kernel_rfl, by kernel_rfl, by kernel_rfl, rfl, by decide⟩
/-- loop.example/g01062/laws.eqIntS -/
def c_laws_eqIntS : Cd :=
 (.seq (.reg [⟨(some 4), (.assign (.const (.bool false))), none⟩])
 (.seq (.seq (.reg [⟨(some 6), (.move (.tmp 0)), none⟩,
   ⟨(some 7), (.call (.mk (.builtin .len) #[(.tmp 6)] #[22])), none⟩,
   ⟨(some 8), (.move (.tmp 1)), none⟩,
   ⟨(some 9), (.call (.mk (.builtin .len) #[(.tmp 8)] #[22])), none⟩,
   ⟨(some 10), (.binOp .neq 3 (.tmp 7) (.tmp 9) 3), none⟩])
 (.cond (.tmp 10) (.seq (.reg [⟨(some 4), (.assign (.const (.bool false))), none⟩])
 .ret) .skip))
 (.seq (.seq (.reg [⟨(some 5), (.assign (.const (.int .i64 0))), none⟩])
 (.block 0 (.loop (.seq (.seq (.reg [⟨(some 11), (.move (.tmp 5)), none⟩,
   ⟨(some 12), (.move (.tmp 0)), none⟩,
   ⟨(some 13), (.call (.mk (.builtin .len) #[(.tmp 12)] #[22])), none⟩,
   ⟨(some 14), (.binOp .lss 3 (.tmp 11) (.tmp 13) 3), none⟩])
 (.cond (.tmp 14) .skip (.exit 0)))
 (.seq (.block 1 (.seq (.regq [⟨(some 17), (.move (.tmp 0)), none⟩,
   ⟨(some 18), (.move (.tmp 5)), none⟩,
   ⟨(some 19), (.indexAddr 22 (.tmp 17) (.tmp 18)), none⟩,
   ⟨(some 20), (.load 3 (.tmp 19)), none⟩,
   ⟨(some 21), (.move (.tmp 1)), none⟩,
   ⟨(some 22), (.move (.tmp 5)), none⟩,
   ⟨(some 23), (.indexAddr 22 (.tmp 21) (.tmp 22)), none⟩,
   ⟨(some 24), (.load 3 (.tmp 23)), none⟩,
   ⟨(some 25), (.binOp .neq 3 (.tmp 20) (.tmp 24) 3), none⟩])
 (.cond (.tmp 25) (.seq (.reg [⟨(some 4), (.assign (.const (.bool false))), none⟩])
 .ret) .skip)))
 (.reg [⟨(some 15), (.move (.tmp 5)), none⟩,
   ⟨(some 16), (.binOp .add 3 (.tmp 15) (.const (.int .i64 1)) 3), none⟩,
   ⟨(some 5), (.assign (.tmp 16)), none⟩]))))))
 (.seq (.reg [⟨(some 4), (.assign (.const (.bool true))), none⟩])
 .ret))))
theorem x_laws_eqIntS : Txt Tryd.prog 8 c_laws_eqIntS [.tmp 4] 2 := ⟨by kernel_rfl, by kernel_rfl, _, _, Tryd.func8, rfl, by kernel_rfl, by kernel_rfl, by kernel_rfl, rfl, by decide⟩
/-- loop.example/g01062/spec.l20Ring -/
def c_spec_l20Ring : Cd :=
 (.seq (.reg [⟨(some 4), (.assign (.const (.bool false))), none⟩])
 (.seq (.seq (.reg [⟨(some 5), (.assign (.const (.int .i64 0))), none⟩])
 (.block 0 (.loop (.seq (.seq (.reg [⟨(some 7), (.move (.tmp 5)), none⟩,
   ⟨(some 8), (.move (.tmp 1)), none⟩,
   ⟨(some 9), (.call (.mk (.builtin .len) #[(.tmp 8)] #[22])), none⟩,
   ⟨(some 10), (.binOp .lss 3 (.tmp 7) (.tmp 9) 3), none⟩,
   ⟨(some 11), (.move (.tmp 10)), none⟩,
   ⟨(some 12), (.move (.tmp 5)), (some (11, true))⟩,
   ⟨(some 13), (.move (.tmp 0)), (some (11, true))⟩,
   ⟨(some 14), (.binOp .leq 3 (.tmp 12) (.tmp 13) 3), (some (11, true))⟩,
   ⟨(some 15), (.pick (.tmp 11) (.tmp 14) (.const (.bool false))), none⟩])
 (.cond (.tmp 15) .skip (.exit 0)))
 (.seq (.block 1 (.seq (.seq (.regq [⟨(some 18), (.move (.tmp 0)), none⟩,
   ⟨(some 19), (.move (.tmp 1)), none⟩,
   ⟨(some 20), (.move (.tmp 5)), none⟩,
   ⟨(some 21), (.indexAddr 22 (.tmp 19) (.tmp 20)), none⟩,
   ⟨(some 22), (.load 3 (.tmp 21)), none⟩,
   ⟨(some 23), (.call (.mk (.value (.func 41)) #[(.tmp 18), (.tmp 22)] #[3, 3])), none⟩,
   ⟨(some 24), (.unOp .not 4 (.tmp 23)), none⟩,
   ⟨(some 25), (.move (.tmp 24)), none⟩,
   ⟨(some 26), (.move (.tmp 1)), (some (25, false))⟩,
   ⟨(some 27), (.move (.tmp 5)), (some (25, false))⟩,
   ⟨(some 28), (.indexAddr 22 (.tmp 26) (.tmp 27)), (some (25, false))⟩,
   ⟨(some 29), (.load 3 (.tmp 28)), (some (25, false))⟩,
   ⟨(some 30), (.move (.tmp 1)), (some (25, false))⟩,
   ⟨(some 31), (.indexAddr 22 (.tmp 30) (.const (.int .i64 0))), (some (25, false))⟩,
   ⟨(some 32), (.load 3 (.tmp 31)), (some (25, false))⟩,
   ⟨(some 33), (.binOp .lss 3 (.tmp 29) (.tmp 32) 3), (some (25, false))⟩,
   ⟨(some 34), (.pick (.tmp 25) (.const (.bool true)) (.tmp 33)), none⟩])
 (.cond (.tmp 34) (.seq (.reg [⟨(some 4), (.assign (.const (.bool false))), none⟩])
 .ret) .skip))
 (.seq (.reg [⟨(some 6), (.assign (.const (.int .i64 0))), none⟩])
 (.block 2 (.loop (.seq (.seq (.reg [⟨(some 35), (.move (.tmp 6)), none⟩,
   ⟨(some 36), (.move (.tmp 5)), none⟩,
   ⟨(some 37), (.binOp .lss 3 (.tmp 35) (.tmp 36) 3), none⟩])
 (.cond (.tmp 37) .skip (.exit 2)))
 (.seq (.block 3 (.seq (.regq [⟨(some 40), (.move (.tmp 1)), none⟩,
   ⟨(some 41), (.move (.tmp 6)), none⟩,
   ⟨(some 42), (.indexAddr 22 (.tmp 40) (.tmp 41)), none⟩,
   ⟨(some 43), (.load 3 (.tmp 42)), none⟩,
   ⟨(some 44), (.move (.tmp 1)), none⟩,
   ⟨(some 45), (.move (.tmp 5)), none⟩,
   ⟨(some 46), (.indexAddr 22 (.tmp 44) (.tmp 45)), none⟩,
   ⟨(some 47), (.load 3 (.tmp 46)), none⟩,
   ⟨(some 48), (.binOp .eql 3 (.tmp 43) (.tmp 47) 3), none⟩])
 (.cond (.tmp 48) (.seq (.reg [⟨(some 4), (.assign (.const (.bool false))), none⟩])
 .ret) .skip)))
 (.reg [⟨(some 38), (.move (.tmp 6)), none⟩,
   ⟨(some 39), (.binOp .add 3 (.tmp 38) (.const (.int .i64 1)) 3), none⟩,
   ⟨(some 6), (.assign (.tmp 39)), none⟩]))))))))
 (.reg [⟨(some 16), (.move (.tmp 5)), none⟩,
   ⟨(some 17), (.binOp .add 3 (.tmp 16) (.const (.int .i64 1)) 3), none⟩,
   ⟨(some 5), (.assign (.tmp 17)), none⟩]))))))
 (.seq (.reg [⟨(some 49), (.move (.tmp 1)), none⟩,
   ⟨(some 50), (.call (.mk (.builtin .len) #[(.tmp 49)] #[22])), none⟩,
   ⟨(some 51), (.move (.tmp 0)), none⟩,
   ⟨(some 52), (.call (.mk (.value (.func 50)) #[(.tmp 50), (.const (.int .i64 2)), (.tmp 51)] #[3, 3, 3])), none⟩,
   ⟨(some 4), (.assign (.tmp 52)), none⟩])
 .ret)))
theorem x_spec_l20Ring : Txt Tryd.prog 30 c_spec_l20Ring [.tmp 4] 2 := ⟨by kernel_rfl, by kernel_rfl, _, _, Tryd.func30, rfl, by kernel_rfl, by kernel_rfl, by kernel_rfl, rfl, by decide⟩
/-- loop.example/g01062/spec.l1Num -/
def c_spec_l1Num : Cd :=
 (.seq (.reg [⟨(some 2), (.assign (.const (.string (ByteArray.mk #[])))), none⟩])
 (.seq (.seq (.reg [⟨(some 3), (.move (.tmp 0)), none⟩,
   ⟨(some 4), (.binOp .lss 3 (.tmp 3) (.const (.int .i64 0)) 3), none⟩])
 (.cond (.tmp 4) (.seq (.reg [⟨(some 5), (.move (.tmp 0)), none⟩,
   ⟨(some 6), (.unOp .neg 3 (.tmp 5)), none⟩,
   ⟨(some 7), (.call (.mk (.value (.func 31)) #[(.tmp 6)] #[3])), none⟩,
   ⟨(some 8), (.binOp .add 9 (.const (.string (ByteArray.mk #[45]))) (.tmp 7) 9), none⟩,
   ⟨(some 2), (.assign (.tmp 8)), none⟩])
 .ret) .skip))
 (.seq (.seq (.reg [⟨(some 9), (.move (.tmp 0)), none⟩,
   ⟨(some 10), (.binOp .lss 3 (.tmp 9) (.const (.int .i64 10)) 3), none⟩])
 (.cond (.tmp 10) (.seq (.reg [⟨(some 11), (.move (.tmp 0)), none⟩,
   ⟨(some 12), (.move (.tmp 0)), none⟩,
   ⟨(some 13), (.binOp .add 3 (.tmp 12) (.const (.int .i64 1)) 3), none⟩,
   ⟨(some 14), (.slice 9 (.const (.string (ByteArray.mk #[48, 49, 50, 51, 52, 53, 54, 55, 56, 57]))) (some (.tmp 11)) (some (.tmp 13)) none), none⟩,
   ⟨(some 2), (.assign (.tmp 14)), none⟩])
 .ret) .skip))
 (.seq (.regq [⟨(some 15), (.move (.tmp 0)), none⟩,
   ⟨(some 16), (.binOp .quo 3 (.tmp 15) (.const (.int .i64 10)) 3), none⟩,
   ⟨(some 17), (.call (.mk (.value (.func 31)) #[(.tmp 16)] #[3])), none⟩,
   ⟨(some 18), (.move (.tmp 0)), none⟩,
   ⟨(some 19), (.binOp .rem 3 (.tmp 18) (.const (.int .i64 10)) 3), none⟩,
   ⟨(some 20), (.move (.tmp 0)), none⟩,
   ⟨(some 21), (.binOp .rem 3 (.tmp 20) (.const (.int .i64 10)) 3), none⟩,
   ⟨(some 22), (.binOp .add 3 (.tmp 21) (.const (.int .i64 1)) 3), none⟩,
   ⟨(some 23), (.slice 9 (.const (.string (ByteArray.mk #[48, 49, 50, 51, 52, 53, 54, 55, 56, 57]))) (some (.tmp 19)) (some (.tmp 22)) none), none⟩,
   ⟨(some 24), (.binOp .add 9 (.tmp 17) (.tmp 23) 9), none⟩,
   ⟨(some 2), (.assign (.tmp 24)), none⟩])
 .ret))))
theorem x_spec_l1Num : Txt Tryd.prog 31 c_spec_l1Num [.tmp 2] 1 := ⟨by kernel_rfl, by kernel_rfl, _, _, Tryd.func31, rfl, by kernel_rfl, by kernel_rfl, by kernel_rfl, rfl, by decide⟩
/-- loop.example/g01062/impl.arePeople -/
def c_impl_arePeople : Cd :=
 (.seq (.reg [⟨(some 4), (.assign (.const (.bool false))), none⟩])
 (.seq (.seq (.reg [⟨(some 7), (.move (.tmp 1)), none⟩,
   ⟨(some 8), (.call (.mk (.builtin .len) #[(.tmp 7)] #[22])), none⟩,
   ⟨(some 9), (.move (.const (.int .i64 0))), none⟩])
 (.block 0 (.loop (.seq (.reg [⟨(some 10), (.binOp .lss 3 (.tmp 9) (.tmp 8) 3), none⟩])
 (.seq (.cond (.tmp 10) .skip (.exit 0))
 (.seq (.block 1 (.seq (.reg [⟨(some 11), (.move (.tmp 9)), none⟩,
   ⟨(some 12), (.indexAddr 22 (.tmp 7) (.tmp 9)), none⟩,
   ⟨(some 13), (.load 3 (.tmp 12)), none⟩,
   ⟨(some 5), (.assign (.tmp 11)), none⟩,
   ⟨(some 6), (.assign (.tmp 13)), none⟩])
 (.seq (.reg [⟨(some 14), (.move (.tmp 6)), none⟩,
   ⟨(some 15), (.move (.tmp 1)), none⟩,
   ⟨(some 16), (.indexAddr 22 (.tmp 15) (.const (.int .i64 0))), none⟩,
   ⟨(some 17), (.load 3 (.tmp 16)), none⟩,
   ⟨(some 18), (.move (.tmp 0)), none⟩,
   ⟨(some 19), (.binOp .sub 3 (.tmp 18) (.const (.int .i64 1)) 3), none⟩,
   ⟨(some 20), (.call (.mk (.value (.func 38)) #[(.tmp 14), (.tmp 17), (.tmp 19)] #[3, 3, 3])), none⟩,
   ⟨(some 21), (.unOp .not 4 (.tmp 20)), none⟩,
   ⟨(some 22), (.move (.tmp 21)), none⟩,
   ⟨(some 23), (.move (.tmp 1)), (some (22, false))⟩,
   ⟨(some 24), (.move (.tmp 5)), (some (22, false))⟩,
   ⟨(some 25), (.slice 22 (.tmp 23) none (some (.tmp 24)) none), (some (22, false))⟩,
   ⟨(some 26), (.move (.tmp 6)), (some (22, false))⟩,
   ⟨(some 27), (.call (.mk (.value (.func 51)) #[(.tmp 25), (.tmp 26)] #[22, 3])), (some (22, false))⟩,
   ⟨(some 28), (.pick (.tmp 22) (.const (.bool true)) (.tmp 27)), none⟩])
 (.cond (.tmp 28) (.seq (.reg [⟨(some 4), (.assign (.const (.bool false))), none⟩])
 .ret) .skip))))
 (.reg [⟨(some 29), (.binOp .add 3 (.tmp 9) (.const (.int .i64 1)) 3), none⟩,
   ⟨(some 9), (.move (.tmp 29)), none⟩])))))))
 (.seq (.reg [⟨(some 30), (.move (.tmp 1)), none⟩,
   ⟨(some 31), (.call (.mk (.builtin .len) #[(.tmp 30)] #[22])), none⟩,
   ⟨(some 32), (.move (.tmp 0)), none⟩,
   ⟨(some 33), (.call (.mk (.value (.func 38)) #[(.tmp 31), (.const (.int .i64 2)), (.tmp 32)] #[3, 3, 3])), none⟩,
   ⟨(some 34), (.move (.tmp 33)), none⟩,
   ⟨(some 35), (.move (.tmp 1)), (some (34, true))⟩,
   ⟨(some 36), (.indexAddr 22 (.tmp 35) (.const (.int .i64 0))), (some (34, true))⟩,
   ⟨(some 37), (.load 3 (.tmp 36)), (some (34, true))⟩,
   ⟨(some 38), (.binOp .geq 3 (.tmp 37) (.const (.int .i64 0)) 3), (some (34, true))⟩,
   ⟨(some 39), (.pick (.tmp 34) (.tmp 38) (.const (.bool false))), none⟩,
   ⟨(some 4), (.assign (.tmp 39)), none⟩])
 .ret)))
theorem x_impl_arePeople : Txt Tryd.prog 32 c_impl_arePeople [.tmp 4] 2 := ⟨by kernel_rfl, by kernel_rfl, _, _, Tryd.func32, rfl, by kernel_rfl, by kernel_rfl, by kernel_rfl, rfl, by decide⟩
/-- loop.example/g01062/impl.joinInts -/
def c_impl_joinInts : Cd :=
 (.seq (.reg [⟨(some 4), (.assign (.const (.string (ByteArray.mk #[])))), none⟩])
 (.seq (.reg [⟨(some 5), (.assign (.const (.slice none 0 0))), none⟩])
 (.seq (.seq (.reg [⟨(some 8), (.move (.tmp 0)), none⟩,
   ⟨(some 9), (.call (.mk (.builtin .len) #[(.tmp 8)] #[22])), none⟩,
   ⟨(some 10), (.move (.const (.int .i64 0))), none⟩])
 (.block 0 (.loop (.seq (.reg [⟨(some 11), (.binOp .lss 3 (.tmp 10) (.tmp 9) 3), none⟩])
 (.seq (.cond (.tmp 11) .skip (.exit 0))
 (.seq (.block 1 (.seq (.reg [⟨(some 12), (.indexAddr 22 (.tmp 8) (.tmp 10)), none⟩,
   ⟨(some 13), (.load 3 (.tmp 12)), none⟩,
   ⟨(some 7), (.assign (.tmp 13)), none⟩])
 (.reg [⟨(some 14), (.move (.tmp 5)), none⟩,
   ⟨(some 15), (.move (.tmp 7)), none⟩,
   ⟨(some 16), (.call (.mk (.value (.func 34)) #[(.tmp 15)] #[3])), none⟩,
   ⟨(some 17), (.buildSlice 70 1 #[(0, (.tmp 16))]), none⟩,
   ⟨(some 18), (.call (.mk (.builtin .append) #[(.tmp 14), (.tmp 17)] #[70, 70])), none⟩,
   ⟨(some 5), (.assign (.tmp 18)), none⟩])))
 (.reg [⟨(some 19), (.binOp .add 3 (.tmp 10) (.const (.int .i64 1)) 3), none⟩,
   ⟨(some 10), (.move (.tmp 19)), none⟩])))))))
 (.seq (.reg [⟨(some 20), (.move (.tmp 5)), none⟩,
   ⟨(some 21), (.move (.tmp 1)), none⟩,
   ⟨(some 22), (.call (.mk (.value (.func 52)) #[(.tmp 20), (.tmp 21)] #[70, 9])), none⟩,
   ⟨(some 4), (.assign (.tmp 22)), none⟩])
 .ret))))
theorem x_impl_joinInts : Txt Tryd.prog 33 c_impl_joinInts [.tmp 4] 2 := ⟨by kernel_rfl, by kernel_rfl, _, _, Tryd.func33, rfl, by kernel_rfl, by kernel_rfl, by kernel_rfl, rfl, by decide⟩
/-- loop.example/g01062/impl.inRange -/
def c_impl_inRange : Cd :=
 (.seq (.reg [⟨(some 6), (.assign (.const (.bool false))), none⟩])
 (.seq (.reg [⟨(some 7), (.move (.tmp 0)), none⟩,
   ⟨(some 8), (.move (.tmp 1)), none⟩,
   ⟨(some 9), (.binOp .geq 3 (.tmp 7) (.tmp 8) 3), none⟩,
   ⟨(some 10), (.move (.tmp 9)), none⟩,
   ⟨(some 11), (.move (.tmp 0)), (some (10, true))⟩,
   ⟨(some 12), (.move (.tmp 2)), (some (10, true))⟩,
   ⟨(some 13), (.binOp .leq 3 (.tmp 11) (.tmp 12) 3), (some (10, true))⟩,
   ⟨(some 14), (.pick (.tmp 10) (.tmp 13) (.const (.bool false))), none⟩,
   ⟨(some 6), (.assign (.tmp 14)), none⟩])
 .ret))
theorem x_impl_inRange : Txt Tryd.prog 38 c_impl_inRange [.tmp 6] 3 := ⟨by kernel_rfl, by kernel_rfl, _, _, Tryd.func38, rfl, by kernel_rfl, by kernel_rfl, by kernel_rfl, rfl, by decide⟩
/-- loop.example/g01062/spec.l20Person -/
def c_spec_l20Person : Cd :=
 (.seq (.reg [⟨(some 4), (.assign (.const (.bool false))), none⟩])
 (.seq (.reg [⟨(some 5), (.move (.tmp 1)), none⟩,
   ⟨(some 6), (.binOp .geq 3 (.tmp 5) (.const (.int .i64 0)) 3), none⟩,
   ⟨(some 7), (.move (.tmp 6)), none⟩,
   ⟨(some 8), (.move (.tmp 1)), (some (7, true))⟩,
   ⟨(some 9), (.move (.tmp 0)), (some (7, true))⟩,
   ⟨(some 10), (.binOp .lss 3 (.tmp 8) (.tmp 9) 3), (some (7, true))⟩,
   ⟨(some 11), (.pick (.tmp 7) (.tmp 10) (.const (.bool false))), none⟩,
   ⟨(some 4), (.assign (.tmp 11)), none⟩])
 .ret))
theorem x_spec_l20Person : Txt Tryd.prog 41 c_spec_l20Person [.tmp 4] 2 := ⟨by kernel_rfl, by kernel_rfl, _, _, Tryd.func41, rfl, by kernel_rfl, by kernel_rfl, by kernel_rfl, rfl, by decide⟩
/-- loop.example/g01062/spec.l1Has -/
def c_spec_l1Has : Cd :=
 (.seq (.reg [⟨(some 4), (.assign (.const (.bool false))), none⟩])
 (.seq (.seq (.reg [⟨(some 5), (.assign (.const (.int .i64 0))), none⟩])
 (.block 0 (.loop (.seq (.seq (.reg [⟨(some 6), (.move (.tmp 5)), none⟩,
   ⟨(some 7), (.move (.tmp 0)), none⟩,
   ⟨(some 8), (.call (.mk (.builtin .len) #[(.tmp 7)] #[22])), none⟩,
   ⟨(some 9), (.binOp .lss 3 (.tmp 6) (.tmp 8) 3), none⟩])
 (.cond (.tmp 9) .skip (.exit 0)))
 (.seq (.block 1 (.seq (.reg [⟨(some 12), (.move (.tmp 0)), none⟩,
   ⟨(some 13), (.move (.tmp 5)), none⟩,
   ⟨(some 14), (.indexAddr 22 (.tmp 12) (.tmp 13)), none⟩,
   ⟨(some 15), (.load 3 (.tmp 14)), none⟩,
   ⟨(some 16), (.move (.tmp 1)), none⟩,
   ⟨(some 17), (.binOp .eql 3 (.tmp 15) (.tmp 16) 3), none⟩])
 (.cond (.tmp 17) (.seq (.reg [⟨(some 4), (.assign (.const (.bool true))), none⟩])
 .ret) .skip)))
 (.reg [⟨(some 10), (.move (.tmp 5)), none⟩,
   ⟨(some 11), (.binOp .add 3 (.tmp 10) (.const (.int .i64 1)) 3), none⟩,
   ⟨(some 5), (.assign (.tmp 11)), none⟩]))))))
 (.seq (.reg [⟨(some 4), (.assign (.const (.bool false))), none⟩])
 .ret)))
theorem x_spec_l1Has : Txt Tryd.prog 48 c_spec_l1Has [.tmp 4] 2 := ⟨by kernel_rfl, by kernel_rfl, _, _, Tryd.func48, rfl, by kernel_rfl, by kernel_rfl, by kernel_rfl, rfl, by decide⟩
/-- loop.example/g01062/spec.l1In -/
def c_spec_l1In : Cd :=
 (.seq (.reg [⟨(some 6), (.assign (.const (.bool false))), none⟩])
 (.seq (.reg [⟨(some 7), (.move (.tmp 0)), none⟩,
   ⟨(some 8), (.move (.tmp 1)), none⟩,
   ⟨(some 9), (.binOp .geq 3 (.tmp 7) (.tmp 8) 3), none⟩,
   ⟨(some 10), (.move (.tmp 9)), none⟩,
   ⟨(some 11), (.move (.tmp 0)), (some (10, true))⟩,
   ⟨(some 12), (.move (.tmp 2)), (some (10, true))⟩,
   ⟨(some 13), (.binOp .leq 3 (.tmp 11) (.tmp 12) 3), (some (10, true))⟩,
   ⟨(some 14), (.pick (.tmp 10) (.tmp 13) (.const (.bool false))), none⟩,
   ⟨(some 6), (.assign (.tmp 14)), none⟩])
 .ret))
theorem x_spec_l1In : Txt Tryd.prog 50 c_spec_l1In [.tmp 6] 3 := ⟨by kernel_rfl, by kernel_rfl, _, _, Tryd.func50, rfl, by kernel_rfl, by kernel_rfl, by kernel_rfl, rfl, by decide⟩
/-- slices.Contains[[]int,int] -/
def c_slices_Contains_int : Cd :=
 (.seq (.reg [⟨(some 4), (.assign (.const (.bool false))), none⟩])
 (.seq (.reg [⟨(some 5), (.move (.tmp 0)), none⟩,
   ⟨(some 6), (.move (.tmp 1)), none⟩,
   ⟨(some 7), (.call (.mk (.value (.func 64)) #[(.tmp 5), (.tmp 6)] #[22, 3])), none⟩,
   ⟨(some 8), (.binOp .geq 3 (.tmp 7) (.const (.int .i64 0)) 3), none⟩,
   ⟨(some 4), (.assign (.tmp 8)), none⟩])
 .ret))
theorem x_slices_Contains_int : Txt Tryd.prog 51 c_slices_Contains_int [.tmp 4] 2 := ⟨by kernel_rfl, by kernel_rfl, _, _, Tryd.func51, rfl, by kernel_rfl, by kernel_rfl, by kernel_rfl, rfl, by decide⟩
/-- cmp.Or[int] -/
def c_cmp_Or_int : Cd :=
 (.seq (.reg [⟨(some 2), (.assign (.const (.int .i64 0))), none⟩])
 (.seq (.reg [⟨(some 3), (.assign (.const (.int .i64 0))), none⟩])
 (.seq (.seq (.reg [⟨(some 6), (.move (.tmp 0)), none⟩,
   ⟨(some 7), (.call (.mk (.builtin .len) #[(.tmp 6)] #[22])), none⟩,
   ⟨(some 8), (.move (.const (.int .i64 0))), none⟩])
 (.block 0 (.loop (.seq (.reg [⟨(some 9), (.binOp .lss 3 (.tmp 8) (.tmp 7) 3), none⟩])
 (.seq (.cond (.tmp 9) .skip (.exit 0))
 (.seq (.block 1 (.seq (.reg [⟨(some 10), (.indexAddr 22 (.tmp 6) (.tmp 8)), none⟩,
   ⟨(some 11), (.load 3 (.tmp 10)), none⟩,
   ⟨(some 5), (.assign (.tmp 11)), none⟩])
 (.seq (.reg [⟨(some 12), (.move (.tmp 5)), none⟩,
   ⟨(some 13), (.move (.tmp 3)), none⟩,
   ⟨(some 14), (.binOp .neq 3 (.tmp 12) (.tmp 13) 3), none⟩])
 (.cond (.tmp 14) (.seq (.reg [⟨(some 15), (.move (.tmp 5)), none⟩,
   ⟨(some 2), (.assign (.tmp 15)), none⟩])
 .ret) .skip))))
 (.reg [⟨(some 16), (.binOp .add 3 (.tmp 8) (.const (.int .i64 1)) 3), none⟩,
   ⟨(some 8), (.move (.tmp 16)), none⟩])))))))
 (.seq (.reg [⟨(some 17), (.move (.tmp 3)), none⟩,
   ⟨(some 2), (.assign (.tmp 17)), none⟩])
 .ret))))
theorem x_cmp_Or_int : Txt Tryd.prog 57 c_cmp_Or_int [.tmp 2] 1 := ⟨by kernel_rfl, by kernel_rfl, _, _, Tryd.func57, rfl, by kernel_rfl, by kernel_rfl, by kernel_rfl, rfl, by decide⟩
/-- cmp.Compare[int] -/
def c_cmp_Compare_int : Cd :=
 (.seq (.reg [⟨(some 4), (.assign (.const (.int .i64 0))), none⟩])
 (.seq (.reg [⟨(some 7), (.move (.tmp 0)), none⟩,
   ⟨(some 8), (.call (.mk (.value (.func 69)) #[(.tmp 7)] #[3])), none⟩,
   ⟨(some 5), (.assign (.tmp 8)), none⟩])
 (.seq (.reg [⟨(some 9), (.move (.tmp 1)), none⟩,
   ⟨(some 10), (.call (.mk (.value (.func 69)) #[(.tmp 9)] #[3])), none⟩,
   ⟨(some 6), (.assign (.tmp 10)), none⟩])
 (.seq (.seq (.reg [⟨(some 11), (.move (.tmp 5)), none⟩])
 (.cond (.tmp 11) (.seq (.seq (.reg [⟨(some 12), (.move (.tmp 6)), none⟩])
 (.cond (.tmp 12) (.seq (.reg [⟨(some 4), (.assign (.const (.int .i64 0))), none⟩])
 .ret) .skip))
 (.seq (.reg [⟨(some 4), (.assign (.const (.int .i64 (-1)))), none⟩])
 .ret)) .skip))
 (.seq (.seq (.reg [⟨(some 13), (.move (.tmp 6)), none⟩])
 (.cond (.tmp 13) (.seq (.reg [⟨(some 4), (.assign (.const (.int .i64 1))), none⟩])
 .ret) .skip))
 (.seq (.seq (.reg [⟨(some 14), (.move (.tmp 0)), none⟩,
   ⟨(some 15), (.move (.tmp 1)), none⟩,
   ⟨(some 16), (.binOp .lss 3 (.tmp 14) (.tmp 15) 3), none⟩])
 (.cond (.tmp 16) (.seq (.reg [⟨(some 4), (.assign (.const (.int .i64 (-1)))), none⟩])
 .ret) .skip))
 (.seq (.seq (.reg [⟨(some 17), (.move (.tmp 0)), none⟩,
   ⟨(some 18), (.move (.tmp 1)), none⟩,
   ⟨(some 19), (.binOp .gtr 3 (.tmp 17) (.tmp 18) 3), none⟩])
 (.cond (.tmp 19) (.seq (.reg [⟨(some 4), (.assign (.const (.int .i64 1))), none⟩])
 .ret) .skip))
 (.seq (.reg [⟨(some 4), (.assign (.const (.int .i64 0))), none⟩])
 .ret))))))))
theorem x_cmp_Compare_int : Txt Tryd.prog 58 c_cmp_Compare_int [.tmp 4] 2 := ⟨by kernel_rfl, by kernel_rfl, _, _, Tryd.func58, rfl, by kernel_rfl, by kernel_rfl, by kernel_rfl, rfl, by decide⟩
/-- loop.example/g01062/impl.gainBetween -/
def c_impl_gainBetween : Cd :=
 (.seq (.reg [⟨(some 6), (.assign (.const (.int .i64 0))), none⟩])
 (.seq (.seq (.reg [⟨(some 9), (.move (.tmp 0)), none⟩,
   ⟨(some 10), (.call (.mk (.builtin .len) #[(.tmp 9)] #[30])), none⟩,
   ⟨(some 11), (.move (.const (.int .i64 0))), none⟩])
 (.block 0 (.loop (.seq (.reg [⟨(some 12), (.binOp .lss 3 (.tmp 11) (.tmp 10) 3), none⟩])
 (.seq (.cond (.tmp 12) .skip (.exit 0))
 (.seq (.block 1 (.seq (.reg [⟨(some 13), (.indexAddr 30 (.tmp 9) (.tmp 11)), none⟩,
   ⟨(some 14), (.load 75 (.tmp 13)), none⟩,
   ⟨(some 8), (.alloc 75), none⟩,
   ⟨none, (.store 75 (.tmp 8) (.tmp 14)), none⟩])
 (.seq (.reg [⟨(some 15), (.fieldAddr 75 (.tmp 8) 0), none⟩,
   ⟨(some 16), (.load 3 (.tmp 15)), none⟩,
   ⟨(some 17), (.move (.tmp 1)), none⟩,
   ⟨(some 18), (.binOp .eql 3 (.tmp 16) (.tmp 17) 3), none⟩,
   ⟨(some 19), (.move (.tmp 18)), none⟩,
   ⟨(some 20), (.fieldAddr 75 (.tmp 8) 1), (some (19, true))⟩,
   ⟨(some 21), (.load 3 (.tmp 20)), (some (19, true))⟩,
   ⟨(some 22), (.move (.tmp 2)), (some (19, true))⟩,
   ⟨(some 23), (.binOp .eql 3 (.tmp 21) (.tmp 22) 3), (some (19, true))⟩,
   ⟨(some 24), (.pick (.tmp 19) (.tmp 23) (.const (.bool false))), none⟩])
 (.cond (.tmp 24) (.seq (.reg [⟨(some 25), (.fieldAddr 75 (.tmp 8) 2), none⟩,
   ⟨(some 26), (.load 3 (.tmp 25)), none⟩,
   ⟨(some 6), (.assign (.tmp 26)), none⟩])
 .ret) .skip))))
 (.reg [⟨(some 27), (.binOp .add 3 (.tmp 11) (.const (.int .i64 1)) 3), none⟩,
   ⟨(some 11), (.move (.tmp 27)), none⟩])))))))
 (.seq (.reg [⟨(some 6), (.assign (.const (.int .i64 0))), none⟩])
 .ret)))
theorem x_impl_gainBetween : Txt Tryd.prog 60 c_impl_gainBetween [.tmp 6] 3 := ⟨by kernel_rfl, by kernel_rfl, _, _, Tryd.func60, rfl, by kernel_rfl, by kernel_rfl, by kernel_rfl, rfl, by decide⟩
/-- loop.example/g01062/spec.l20Gain -/
def c_spec_l20Gain : Cd :=
 (.seq (.reg [⟨(some 6), (.assign (.const (.int .i64 0))), none⟩])
 (.seq (.seq (.reg [⟨(some 7), (.assign (.const (.int .i64 0))), none⟩])
 (.block 0 (.loop (.seq (.seq (.reg [⟨(some 8), (.move (.tmp 7)), none⟩,
   ⟨(some 9), (.move (.tmp 0)), none⟩,
   ⟨(some 10), (.call (.mk (.builtin .len) #[(.tmp 9)] #[30])), none⟩,
   ⟨(some 11), (.binOp .lss 3 (.tmp 8) (.tmp 10) 3), none⟩])
 (.cond (.tmp 11) .skip (.exit 0)))
 (.seq (.block 1 (.seq (.reg [⟨(some 14), (.move (.tmp 0)), none⟩,
   ⟨(some 15), (.move (.tmp 7)), none⟩,
   ⟨(some 16), (.indexAddr 30 (.tmp 14) (.tmp 15)), none⟩,
   ⟨(some 17), (.fieldAddr 75 (.tmp 16) 0), none⟩,
   ⟨(some 18), (.load 3 (.tmp 17)), none⟩,
   ⟨(some 19), (.move (.tmp 1)), none⟩,
   ⟨(some 20), (.binOp .eql 3 (.tmp 18) (.tmp 19) 3), none⟩,
   ⟨(some 21), (.move (.tmp 20)), none⟩,
   ⟨(some 22), (.move (.tmp 0)), (some (21, true))⟩,
   ⟨(some 23), (.move (.tmp 7)), (some (21, true))⟩,
   ⟨(some 24), (.indexAddr 30 (.tmp 22) (.tmp 23)), (some (21, true))⟩,
   ⟨(some 25), (.fieldAddr 75 (.tmp 24) 1), (some (21, true))⟩,
   ⟨(some 26), (.load 3 (.tmp 25)), (some (21, true))⟩,
   ⟨(some 27), (.move (.tmp 2)), (some (21, true))⟩,
   ⟨(some 28), (.binOp .eql 3 (.tmp 26) (.tmp 27) 3), (some (21, true))⟩,
   ⟨(some 29), (.pick (.tmp 21) (.tmp 28) (.const (.bool false))), none⟩])
 (.cond (.tmp 29) (.seq (.reg [⟨(some 30), (.move (.tmp 0)), none⟩,
   ⟨(some 31), (.move (.tmp 7)), none⟩,
   ⟨(some 32), (.indexAddr 30 (.tmp 30) (.tmp 31)), none⟩,
   ⟨(some 33), (.fieldAddr 75 (.tmp 32) 2), none⟩,
   ⟨(some 34), (.load 3 (.tmp 33)), none⟩,
   ⟨(some 6), (.assign (.tmp 34)), none⟩])
 .ret) .skip)))
 (.reg [⟨(some 12), (.move (.tmp 7)), none⟩,
   ⟨(some 13), (.binOp .add 3 (.tmp 12) (.const (.int .i64 1)) 3), none⟩,
   ⟨(some 7), (.assign (.tmp 13)), none⟩]))))))
 (.seq (.reg [⟨(some 6), (.assign (.const (.int .i64 0))), none⟩])
 .ret)))
theorem x_spec_l20Gain : Txt Tryd.prog 62 c_spec_l20Gain [.tmp 6] 3 := ⟨by kernel_rfl, by kernel_rfl, _, _, Tryd.func62, rfl, by kernel_rfl, by kernel_rfl, by kernel_rfl, rfl, by decide⟩
/-- slices.Index[[]int,int] -/
def c_slices_Index_int : Cd :=
 (.seq (.reg [⟨(some 4), (.assign (.const (.int .i64 0))), none⟩])
 (.seq (.seq (.reg [⟨(some 6), (.move (.tmp 0)), none⟩,
   ⟨(some 7), (.call (.mk (.builtin .len) #[(.tmp 6)] #[22])), none⟩,
   ⟨(some 8), (.move (.const (.int .i64 0))), none⟩])
 (.block 0 (.loop (.seq (.reg [⟨(some 9), (.binOp .lss 3 (.tmp 8) (.tmp 7) 3), none⟩])
 (.seq (.cond (.tmp 9) .skip (.exit 0))
 (.seq (.block 1 (.seq (.reg [⟨(some 10), (.move (.tmp 8)), none⟩,
   ⟨(some 5), (.assign (.tmp 10)), none⟩])
 (.seq (.reg [⟨(some 11), (.move (.tmp 1)), none⟩,
   ⟨(some 12), (.move (.tmp 0)), none⟩,
   ⟨(some 13), (.move (.tmp 5)), none⟩,
   ⟨(some 14), (.indexAddr 22 (.tmp 12) (.tmp 13)), none⟩,
   ⟨(some 15), (.load 3 (.tmp 14)), none⟩,
   ⟨(some 16), (.binOp .eql 3 (.tmp 11) (.tmp 15) 3), none⟩])
 (.cond (.tmp 16) (.seq (.reg [⟨(some 17), (.move (.tmp 5)), none⟩,
   ⟨(some 4), (.assign (.tmp 17)), none⟩])
 .ret) .skip))))
 (.reg [⟨(some 18), (.binOp .add 3 (.tmp 8) (.const (.int .i64 1)) 3), none⟩,
   ⟨(some 8), (.move (.tmp 18)), none⟩])))))))
 (.seq (.reg [⟨(some 4), (.assign (.const (.int .i64 (-1)))), none⟩])
 .ret)))
theorem x_slices_Index_int : Txt Tryd.prog 64 c_slices_Index_int [.tmp 4] 2 := ⟨by kernel_rfl, by kernel_rfl, _, _, Tryd.func64, rfl, by kernel_rfl, by kernel_rfl, by kernel_rfl, rfl, by decide⟩
/-- cmp.isNaN[int] -/
def c_cmp_isNaN_int : Cd :=
 (.seq (.reg [⟨(some 2), (.assign (.const (.bool false))), none⟩])
 (.seq (.reg [⟨(some 3), (.move (.tmp 0)), none⟩,
   ⟨(some 4), (.move (.tmp 0)), none⟩,
   ⟨(some 5), (.binOp .neq 3 (.tmp 3) (.tmp 4) 3), none⟩,
   ⟨(some 2), (.assign (.tmp 5)), none⟩])
 .ret))
theorem x_cmp_isNaN_int : Txt Tryd.prog 69 c_cmp_isNaN_int [.tmp 2] 1 := ⟨by kernel_rfl, by kernel_rfl, _, _, Tryd.func69, rfl, by kernel_rfl, by kernel_rfl, by kernel_rfl, rfl, by decide⟩
theorem qs3 : qSize Tryd.prog 3 = some 1 := by kernel_rfl
theorem qb3 : qBytes Tryd.prog 3 = some 8 := by kernel_rfl
theorem qa3 : qAgg Tryd.prog 3 = some false := by kernel_rfl
theorem qz3 : qZero Tryd.prog 3 = some (.int .i64 0) := by kernel_rfl
theorem qk3 : qKind Tryd.prog 3 = some .i64 := by kernel_rfl
theorem qui3 : (Tryd.prog.underlying 3).isSome = true := by kernel_rfl
theorem qs4 : qSize Tryd.prog 4 = some 1 := by kernel_rfl
theorem qb4 : qBytes Tryd.prog 4 = some 1 := by kernel_rfl
theorem qa4 : qAgg Tryd.prog 4 = some false := by kernel_rfl
theorem qz4 : qZero Tryd.prog 4 = some (.bool false) := by kernel_rfl
theorem qo4 : qBool Tryd.prog 4 = true := by kernel_rfl
theorem qs5 : qSize Tryd.prog 5 = some 1 := by kernel_rfl
theorem qb5 : qBytes Tryd.prog 5 = some 1 := by kernel_rfl
theorem qa5 : qAgg Tryd.prog 5 = some false := by kernel_rfl
theorem qz5 : qZero Tryd.prog 5 = some (.int .u8 0) := by kernel_rfl
theorem qk5 : qKind Tryd.prog 5 = some .u8 := by kernel_rfl
theorem qui5 : (Tryd.prog.underlying 5).isSome = true := by kernel_rfl
theorem qs9 : qSize Tryd.prog 9 = some 1 := by kernel_rfl
theorem qb9 : qBytes Tryd.prog 9 = some 16 := by kernel_rfl
theorem qa9 : qAgg Tryd.prog 9 = some false := by kernel_rfl
theorem qz9 : qZero Tryd.prog 9 = some (.string ByteArray.empty) := by kernel_rfl
theorem qt9 : qStr Tryd.prog 9 = true := by kernel_rfl
theorem qs22 : qSize Tryd.prog 22 = some 1 := by kernel_rfl
theorem qb22 : qBytes Tryd.prog 22 = some 24 := by kernel_rfl
theorem qa22 : qAgg Tryd.prog 22 = some false := by kernel_rfl
theorem qz22 : qZero Tryd.prog 22 = some (.slice none 0 0) := by kernel_rfl
theorem qe22 : qElem Tryd.prog 22 = some 3 := by kernel_rfl
theorem qs28 : qSize Tryd.prog 28 = some 1 := by kernel_rfl
theorem qb28 : qBytes Tryd.prog 28 = some 24 := by kernel_rfl
theorem qa28 : qAgg Tryd.prog 28 = some false := by kernel_rfl
theorem qz28 : qZero Tryd.prog 28 = some (.slice none 0 0) := by kernel_rfl
theorem qe28 : qElem Tryd.prog 28 = some 5 := by kernel_rfl
theorem qs30 : qSize Tryd.prog 30 = some 1 := by kernel_rfl
theorem qb30 : qBytes Tryd.prog 30 = some 24 := by kernel_rfl
theorem qa30 : qAgg Tryd.prog 30 = some false := by kernel_rfl
theorem qz30 : qZero Tryd.prog 30 = some (.slice none 0 0) := by kernel_rfl
theorem qe30 : qElem Tryd.prog 30 = some 75 := by kernel_rfl
theorem qs33 : qSize Tryd.prog 33 = some 1 := by kernel_rfl
theorem qb33 : qBytes Tryd.prog 33 = some 24 := by kernel_rfl
theorem qa33 : qAgg Tryd.prog 33 = some false := by kernel_rfl
theorem qz33 : qZero Tryd.prog 33 = some (.slice none 0 0) := by kernel_rfl
theorem qe33 : qElem Tryd.prog 33 = some 22 := by kernel_rfl
theorem qs53 : qSize Tryd.prog 53 = some 1 := by kernel_rfl
theorem qb53 : qBytes Tryd.prog 53 = some 8 := by kernel_rfl
theorem qa53 : qAgg Tryd.prog 53 = some false := by kernel_rfl
theorem qz53 : qZero Tryd.prog 53 = some (.pointer none) := by kernel_rfl
theorem qs54 : qSize Tryd.prog 54 = some 1 := by kernel_rfl
theorem qb54 : qBytes Tryd.prog 54 = some 8 := by kernel_rfl
theorem qa54 : qAgg Tryd.prog 54 = some false := by kernel_rfl
theorem qz54 : qZero Tryd.prog 54 = some (.int .u64 0) := by kernel_rfl
theorem qk54 : qKind Tryd.prog 54 = some .u64 := by kernel_rfl
theorem qui54 : (Tryd.prog.underlying 54).isSome = true := by kernel_rfl
theorem qs56 : qSize Tryd.prog 56 = some 3 := by kernel_rfl
theorem qb56 : qBytes Tryd.prog 56 = some 40 := by kernel_rfl
theorem qa56 : qAgg Tryd.prog 56 = some true := by kernel_rfl
theorem qz56 : qZero Tryd.prog 56 = some (.agg #[.slice none 0 0, .int .i64 0, .int .u64 0]) := by kernel_rfl
theorem qg56 : qFields Tryd.prog 56 = some [(0, 1), (1, 1), (2, 1)] := by kernel_rfl
theorem qf56_0 : qField Tryd.prog 56 0 = some (0, 28) := by kernel_rfl
theorem qf56_1 : qField Tryd.prog 56 1 = some (1, 3) := by kernel_rfl
theorem qf56_2 : qField Tryd.prog 56 2 = some (2, 54) := by kernel_rfl
theorem qs68 : qSize Tryd.prog 68 = some 1 := by kernel_rfl
theorem qb68 : qBytes Tryd.prog 68 = some 24 := by kernel_rfl
theorem qa68 : qAgg Tryd.prog 68 = some false := by kernel_rfl
theorem qz68 : qZero Tryd.prog 68 = some (.slice none 0 0) := by kernel_rfl
theorem qe68 : qElem Tryd.prog 68 = some 4 := by kernel_rfl
theorem qs70 : qSize Tryd.prog 70 = some 1 := by kernel_rfl
theorem qb70 : qBytes Tryd.prog 70 = some 24 := by kernel_rfl
theorem qa70 : qAgg Tryd.prog 70 = some false := by kernel_rfl
theorem qz70 : qZero Tryd.prog 70 = some (.slice none 0 0) := by kernel_rfl
theorem qe70 : qElem Tryd.prog 70 = some 9 := by kernel_rfl
theorem qs75 : qSize Tryd.prog 75 = some 3 := by kernel_rfl
theorem qb75 : qBytes Tryd.prog 75 = some 24 := by kernel_rfl
theorem qa75 : qAgg Tryd.prog 75 = some true := by kernel_rfl
theorem qz75 : qZero Tryd.prog 75 = some (.agg #[.int .i64 0, .int .i64 0, .int .i64 0]) := by kernel_rfl
theorem qg75 : qFields Tryd.prog 75 = some [(0, 1), (1, 1), (2, 1)] := by kernel_rfl
theorem qf75_0 : qField Tryd.prog 75 0 = some (0, 3) := by kernel_rfl
theorem qf75_1 : qField Tryd.prog 75 1 = some (1, 3) := by kernel_rfl
theorem qf75_2 : qField Tryd.prog 75 2 = some (2, 3) := by kernel_rfl
theorem qs82 : qSize Tryd.prog 82 = some 1 := by kernel_rfl
theorem qb82 : qBytes Tryd.prog 82 = some 8 := by kernel_rfl
theorem qa82 : qAgg Tryd.prog 82 = some false := by kernel_rfl
theorem qz82 : qZero Tryd.prog 82 = some (.pointer none) := by kernel_rfl
theorem qs84 : qSize Tryd.prog 84 = some 2 := by kernel_rfl
theorem qb84 : qBytes Tryd.prog 84 = some 32 := by kernel_rfl
theorem qa84 : qAgg Tryd.prog 84 = some true := by kernel_rfl
theorem qz84 : qZero Tryd.prog 84 = some (.agg #[.pointer none, .slice none 0 0]) := by kernel_rfl
theorem qg84 : qFields Tryd.prog 84 = some [(0, 1), (1, 1)] := by kernel_rfl
theorem qf84_0 : qField Tryd.prog 84 0 = some (0, 82) := by kernel_rfl
theorem qf84_1 : qField Tryd.prog 84 1 = some (1, 28) := by kernel_rfl
set_option linter.defProp false
/-- The facts, in one name. -/
def fcT := And.intro @qs3 <| And.intro @qb3 <| And.intro @qa3 <| And.intro @qz3 <| And.intro @qk3 <| And.intro @qui3 <| And.intro @qs4 <| And.intro @qb4 <| And.intro @qa4 <| And.intro @qz4 <| And.intro @qo4 <| And.intro @qs5 <| And.intro @qb5 <| And.intro @qa5 <| And.intro @qz5 <| And.intro @qk5 <| And.intro @qui5 <| And.intro @qs9 <| And.intro @qb9 <| And.intro @qa9 <| And.intro @qz9 <| And.intro @qt9 <| And.intro @qs22 <| And.intro @qb22 <| And.intro @qa22 <| And.intro @qz22 <| And.intro @qe22 <| And.intro @qs28 <| And.intro @qb28 <| And.intro @qa28 <| And.intro @qz28 <| And.intro @qe28 <| And.intro @qs30 <| And.intro @qb30 <| And.intro @qa30 <| And.intro @qz30 <| And.intro @qe30 <| And.intro @qs33 <| And.intro @qb33 <| And.intro @qa33 <| And.intro @qz33 <| And.intro @qe33 <| And.intro @qs53 <| And.intro @qb53 <| And.intro @qa53 <| And.intro @qz53 <| And.intro @qs54 <| And.intro @qb54 <| And.intro @qa54 <| And.intro @qz54 <| And.intro @qk54 <| And.intro @qui54 <| And.intro @qs56 <| And.intro @qb56 <| And.intro @qa56 <| And.intro @qz56 <| And.intro @qg56 <| And.intro @qf56_0 <| And.intro @qf56_1 <| And.intro @qf56_2 <| And.intro @qs68 <| And.intro @qb68 <| And.intro @qa68 <| And.intro @qz68 <| And.intro @qe68 <| And.intro @qs70 <| And.intro @qb70 <| And.intro @qa70 <| And.intro @qz70 <| And.intro @qe70 <| And.intro @qs75 <| And.intro @qb75 <| And.intro @qa75 <| And.intro @qz75 <| And.intro @qg75 <| And.intro @qf75_0 <| And.intro @qf75_1 <| And.intro @qf75_2 <| And.intro @qs82 <| And.intro @qb82 <| And.intro @qa82 <| And.intro @qz82 <| And.intro @qs84 <| And.intro @qb84 <| And.intro @qa84 <| And.intro @qz84 <| And.intro @qg84 <| And.intro @qf84_0 <| And.intro @qf84_1 <| True.intro
end Go.Proofs.YtnaldmmdhpobgaaDoor
