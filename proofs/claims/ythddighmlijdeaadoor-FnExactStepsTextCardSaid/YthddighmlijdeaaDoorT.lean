/- The texts of the functions, edges struck, and closed facts on functions and types: written by program (gen.py). -/
import Derived.Test.YthddighmlijdeaaDoorW
import Derived.Test.YthddighmlijdeaaDoorProg
namespace Go.Proofs.YthddighmlijdeaaDoor
open Go Go.RowKit Go.Proofs
/-- loop.example/g01062/laws.FnExactStepsText -/
def c_laws_FnExactStepsText : Cd :=
 (.seq (.reg [⟨(some 2), (.assign (.const (.bool false))), none⟩])
 (.seq (.reg [⟨(some 3), (.assign (.const (.int .i64 1048576))), none⟩])
 (.seq (.reg [⟨(some 9), (.move (.tmp 0)), none⟩,
   ⟨(some 10), (.move (.tmp 3)), none⟩,
   ⟨(some 11), (.call (.mk (.value (.func 4)) #[(.tmp 9), (.tmp 10)] #[22, 3])), none⟩,
   ⟨(some 3), (.assign (.tmp 11)), none⟩])
 (.seq (.seq (.reg [⟨(some 12), (.move (.tmp 3)), none⟩,
   ⟨(some 13), (.binOp .lss 3 (.tmp 12) (.const (.int .i64 0)) 3), none⟩])
 (.cond (.tmp 13) (.seq (.reg [⟨(some 2), (.assign (.const (.bool true))), none⟩])
 .ret) .skip))
 (.seq (.reg [⟨(some 15), (.move (.tmp 0)), none⟩,
   ⟨(some 16), (.call (.mk (.value (.func 6)) #[(.tmp 15)] #[22])), none⟩,
   ⟨(some 17), (.call (.mk (.value (.func 5)) #[(.tmp 16)] #[26])), none⟩,
   ⟨(some 14), (.move (.tmp 17)), none⟩,
   ⟨(some 18), (.extract (.tmp 14) 0), none⟩,
   ⟨(some 19), (.extract (.tmp 14) 1), none⟩,
   ⟨(some 4), (.assign (.tmp 18)), none⟩,
   ⟨(some 5), (.assign (.tmp 19)), none⟩])
 (.seq (.reg [⟨(some 20), (.move (.tmp 0)), none⟩,
   ⟨(some 21), (.call (.mk (.value (.func 6)) #[(.tmp 20)] #[22])), none⟩,
   ⟨(some 6), (.assign (.tmp 21)), none⟩])
 (.seq (.reg [⟨(some 23), (.move (.tmp 6)), none⟩,
   ⟨(some 24), (.call (.mk (.value (.func 7)) #[(.tmp 23)] #[26])), none⟩,
   ⟨(some 22), (.move (.tmp 24)), none⟩,
   ⟨(some 25), (.extract (.tmp 22) 0), none⟩,
   ⟨(some 26), (.extract (.tmp 22) 1), none⟩,
   ⟨(some 7), (.assign (.tmp 25)), none⟩,
   ⟨(some 8), (.assign (.tmp 26)), none⟩])
 (.seq (.seq (.reg [⟨(some 27), (.move (.tmp 7)), none⟩,
   ⟨(some 28), (.move (.tmp 4)), none⟩,
   ⟨(some 29), (.binOp .neq 9 (.tmp 27) (.tmp 28) 9), none⟩,
   ⟨(some 30), (.move (.tmp 29)), none⟩,
   ⟨(some 31), (.move (.tmp 8)), (some (30, false))⟩,
   ⟨(some 32), (.move (.tmp 5)), (some (30, false))⟩,
   ⟨(some 33), (.binOp .neq 4 (.tmp 31) (.tmp 32) 4), (some (30, false))⟩,
   ⟨(some 34), (.pick (.tmp 30) (.const (.bool true)) (.tmp 33)), none⟩])
 (.cond (.tmp 34) (.seq (.reg [⟨(some 2), (.assign (.const (.bool false))), none⟩])
 .ret) .skip))
 (.seq (.seq (.reg [⟨(some 35), (.move (.tmp 6)), none⟩,
   ⟨(some 36), (.move (.tmp 0)), none⟩,
   ⟨(some 37), (.call (.mk (.value (.func 6)) #[(.tmp 36)] #[22])), none⟩,
   ⟨(some 38), (.call (.mk (.value (.func 8)) #[(.tmp 35), (.tmp 37)] #[26, 26])), none⟩,
   ⟨(some 39), (.unOp .not 4 (.tmp 38)), none⟩])
 (.cond (.tmp 39) (.seq (.reg [⟨(some 2), (.assign (.const (.bool false))), none⟩])
 .ret) .skip))
 (.seq (.reg [⟨(some 2), (.assign (.const (.bool true))), none⟩])
 .ret))))))))))
theorem x_laws_FnExactStepsText : Txt Tryd.prog 3 c_laws_FnExactStepsText [.tmp 2] 1 := ⟨by kernel_rfl, by kernel_rfl, _, _, Tryd.func3, rfl, by kernel_rfl, by kernel_rfl, by kernel_rfl, rfl, by decide⟩
/-- loop.example/g01062/laws.szBidStepS -/
def c_laws_szBidStepS : Cd :=
 (.seq (.reg [⟨(some 4), (.assign (.const (.int .i64 0))), none⟩])
 (.seq (.reg [⟨(some 5), (.move (.tmp 1)), none⟩,
   ⟨(some 6), (.move (.tmp 0)), none⟩,
   ⟨(some 7), (.call (.mk (.builtin .len) #[(.tmp 6)] #[22])), none⟩,
   ⟨(some 8), (.binOp .sub 3 (.tmp 5) (.tmp 7) 3), none⟩,
   ⟨(some 1), (.assign (.tmp 8)), none⟩])
 (.seq (.seq (.reg [⟨(some 9), (.move (.tmp 1)), none⟩,
   ⟨(some 10), (.binOp .lss 3 (.tmp 9) (.const (.int .i64 0)) 3), none⟩])
 (.cond (.tmp 10) (.seq (.reg [⟨(some 4), (.assign (.const (.int .i64 (-1)))), none⟩])
 .ret) .skip))
 (.seq (.reg [⟨(some 11), (.move (.tmp 1)), none⟩,
   ⟨(some 4), (.assign (.tmp 11)), none⟩])
 .ret))))
theorem x_laws_szBidStepS : Txt Tryd.prog 4 c_laws_szBidStepS [.tmp 4] 2 := ⟨by kernel_rfl, by kernel_rfl, _, _, Tryd.func4, rfl, by kernel_rfl, by kernel_rfl, by kernel_rfl, rfl, by decide⟩
/-- loop.example/g01062/spec.StepsText -/
def c_spec_StepsText : Cd :=
 (.seq (.reg [⟨(some 2), (.assign (.const (.string (ByteArray.mk #[])))), none⟩,
   ⟨(some 3), (.assign (.const (.bool false))), none⟩])
 (.seq (.seq (.reg [⟨(some 6), (.move (.tmp 0)), none⟩,
   ⟨(some 7), (.call (.mk (.value (.func 9)) #[(.tmp 6)] #[26])), none⟩,
   ⟨(some 8), (.unOp .not 4 (.tmp 7)), none⟩])
 (.cond (.tmp 8) (.seq (.reg [⟨(some 2), (.assign (.const (.string (ByteArray.mk #[])))), none⟩,
   ⟨(some 3), (.assign (.const (.bool false))), none⟩])
 .ret) .skip))
 (.seq (.reg [⟨(some 4), (.assign (.const (.string (ByteArray.mk #[])))), none⟩])
 (.seq (.seq (.reg [⟨(some 5), (.assign (.const (.int .i64 0))), none⟩])
 (.block 0 (.loop (.seq (.seq (.reg [⟨(some 9), (.move (.tmp 5)), none⟩,
   ⟨(some 10), (.move (.tmp 0)), none⟩,
   ⟨(some 11), (.call (.mk (.builtin .len) #[(.tmp 10)] #[26])), none⟩,
   ⟨(some 12), (.binOp .lss 3 (.tmp 9) (.tmp 11) 3), none⟩])
 (.cond (.tmp 12) .skip (.exit 0)))
 (.seq (.block 1 (.regq [⟨(some 15), (.move (.tmp 4)), none⟩,
   ⟨(some 16), (.move (.tmp 0)), none⟩,
   ⟨(some 17), (.move (.tmp 5)), none⟩,
   ⟨(some 18), (.indexAddr 26 (.tmp 16) (.tmp 17)), none⟩,
   ⟨(some 19), (.fieldAddr 33 (.tmp 18) 0), none⟩,
   ⟨(some 20), (.load 3 (.tmp 19)), none⟩,
   ⟨(some 21), (.call (.mk (.value (.func 10)) #[(.tmp 20)] #[3])), none⟩,
   ⟨(some 22), (.binOp .add 9 (.tmp 15) (.tmp 21) 9), none⟩,
   ⟨(some 23), (.binOp .add 9 (.tmp 22) (.const (.string (ByteArray.mk #[43]))) 9), none⟩,
   ⟨(some 24), (.move (.tmp 0)), none⟩,
   ⟨(some 25), (.move (.tmp 5)), none⟩,
   ⟨(some 26), (.indexAddr 26 (.tmp 24) (.tmp 25)), none⟩,
   ⟨(some 27), (.fieldAddr 33 (.tmp 26) 1), none⟩,
   ⟨(some 28), (.load 3 (.tmp 27)), none⟩,
   ⟨(some 29), (.call (.mk (.value (.func 10)) #[(.tmp 28)] #[3])), none⟩,
   ⟨(some 30), (.binOp .add 9 (.tmp 23) (.tmp 29) 9), none⟩,
   ⟨(some 31), (.binOp .add 9 (.tmp 30) (.const (.string (ByteArray.mk #[59]))) 9), none⟩,
   ⟨(some 4), (.assign (.tmp 31)), none⟩]))
 (.reg [⟨(some 13), (.move (.tmp 5)), none⟩,
   ⟨(some 14), (.binOp .add 3 (.tmp 13) (.const (.int .i64 1)) 3), none⟩,
   ⟨(some 5), (.assign (.tmp 14)), none⟩]))))))
 (.seq (.reg [⟨(some 32), (.move (.tmp 4)), none⟩,
   ⟨(some 2), (.assign (.tmp 32)), none⟩,
   ⟨(some 3), (.assign (.const (.bool true))), none⟩])
 .ret)))))
theorem x_spec_StepsText : Txt Tryd.prog 5 c_spec_StepsText [.tmp 2, .tmp 3] 1 := ⟨by kernel_rfl, by kernel_rfl, _, _, Tryd.func5, rfl, by kernel_rfl, by kernel_rfl, by kernel_rfl, rfl, by decide⟩
/-- loop.example/g01062/laws.toBidStepS -/
def c_laws_toBidStepS : Cd :=
 (.seq (.reg [⟨(some 2), (.assign (.const (.slice none 0 0))), none⟩])
 (.seq (.reg [⟨(some 5), (.move (.tmp 0)), none⟩,
   ⟨(some 6), (.call (.mk (.builtin .len) #[(.tmp 5)] #[22])), none⟩,
   ⟨(some 7), (.makeSlice 26 (.tmp 6) (.tmp 6)), none⟩,
   ⟨(some 3), (.assign (.tmp 7)), none⟩])
 (.seq (.seq (.reg [⟨(some 4), (.assign (.const (.int .i64 0))), none⟩])
 (.block 0 (.loop (.seq (.seq (.reg [⟨(some 8), (.move (.tmp 4)), none⟩,
   ⟨(some 9), (.move (.tmp 0)), none⟩,
   ⟨(some 10), (.call (.mk (.builtin .len) #[(.tmp 9)] #[22])), none⟩,
   ⟨(some 11), (.binOp .lss 3 (.tmp 8) (.tmp 10) 3), none⟩])
 (.cond (.tmp 11) .skip (.exit 0)))
 (.seq (.block 1 (.reg [⟨(some 14), (.move (.tmp 3)), none⟩,
   ⟨(some 15), (.move (.tmp 4)), none⟩,
   ⟨(some 16), (.move (.tmp 0)), none⟩,
   ⟨(some 17), (.move (.tmp 4)), none⟩,
   ⟨(some 18), (.indexAddr 22 (.tmp 16) (.tmp 17)), none⟩,
   ⟨(some 19), (.load 35 (.tmp 18)), none⟩,
   ⟨(some 20), (.call (.mk (.value (.func 11)) #[(.tmp 19)] #[35])), none⟩,
   ⟨(some 21), (.indexAddr 26 (.tmp 14) (.tmp 15)), none⟩,
   ⟨none, (.store 33 (.tmp 21) (.tmp 20)), none⟩]))
 (.reg [⟨(some 12), (.move (.tmp 4)), none⟩,
   ⟨(some 13), (.binOp .add 3 (.tmp 12) (.const (.int .i64 1)) 3), none⟩,
   ⟨(some 4), (.assign (.tmp 13)), none⟩]))))))
 (.seq (.reg [⟨(some 22), (.move (.tmp 3)), none⟩,
   ⟨(some 2), (.assign (.tmp 22)), none⟩])
 .ret))))
theorem x_laws_toBidStepS : Txt Tryd.prog 6 c_laws_toBidStepS [.tmp 2] 1 := ⟨by kernel_rfl, by kernel_rfl, _, _, Tryd.func6, rfl, by kernel_rfl, by kernel_rfl, by kernel_rfl, rfl, by decide⟩
/-- loop.example/g01062/impl.StepsText -/
def c_impl_StepsText : Cd :=
 (.seq (.reg [⟨(some 2), (.assign (.const (.string (ByteArray.mk #[])))), none⟩,
   ⟨(some 3), (.assign (.const (.bool false))), none⟩])
 (.seq (.seq (.reg [⟨(some 7), (.move (.tmp 0)), none⟩,
   ⟨(some 8), (.call (.mk (.value (.func 12)) #[(.tmp 7)] #[26])), none⟩,
   ⟨(some 9), (.unOp .not 4 (.tmp 8)), none⟩])
 (.cond (.tmp 9) (.seq (.reg [⟨(some 2), (.assign (.const (.string (ByteArray.mk #[])))), none⟩,
   ⟨(some 3), (.assign (.const (.bool false))), none⟩])
 .ret) .skip))
 (.seq (.reg [⟨(some 4), (.assign (.const (.string (ByteArray.mk #[])))), none⟩])
 (.seq (.seq (.reg [⟨(some 10), (.move (.tmp 0)), none⟩,
   ⟨(some 11), (.call (.mk (.builtin .len) #[(.tmp 10)] #[26])), none⟩,
   ⟨(some 12), (.move (.const (.int .i64 0))), none⟩])
 (.block 0 (.loop (.seq (.reg [⟨(some 13), (.binOp .lss 3 (.tmp 12) (.tmp 11) 3), none⟩])
 (.seq (.cond (.tmp 13) .skip (.exit 0))
 (.seq (.block 1 (.seq (.reg [⟨(some 14), (.indexAddr 26 (.tmp 10) (.tmp 12)), none⟩,
   ⟨(some 15), (.load 33 (.tmp 14)), none⟩,
   ⟨(some 6), (.alloc 33), none⟩,
   ⟨none, (.store 33 (.tmp 6) (.tmp 15)), none⟩])
 (.regq [⟨(some 16), (.move (.tmp 4)), none⟩,
   ⟨(some 17), (.fieldAddr 33 (.tmp 6) 0), none⟩,
   ⟨(some 18), (.load 3 (.tmp 17)), none⟩,
   ⟨(some 19), (.call (.mk (.value (.func 13)) #[(.tmp 18)] #[3])), none⟩,
   ⟨(some 20), (.binOp .add 9 (.tmp 19) (.const (.string (ByteArray.mk #[43]))) 9), none⟩,
   ⟨(some 21), (.fieldAddr 33 (.tmp 6) 1), none⟩,
   ⟨(some 22), (.load 3 (.tmp 21)), none⟩,
   ⟨(some 23), (.call (.mk (.value (.func 13)) #[(.tmp 22)] #[3])), none⟩,
   ⟨(some 24), (.binOp .add 9 (.tmp 20) (.tmp 23) 9), none⟩,
   ⟨(some 25), (.binOp .add 9 (.tmp 24) (.const (.string (ByteArray.mk #[59]))) 9), none⟩,
   ⟨(some 26), (.binOp .add 9 (.tmp 16) (.tmp 25) 9), none⟩,
   ⟨(some 4), (.assign (.tmp 26)), none⟩])))
 (.reg [⟨(some 27), (.binOp .add 3 (.tmp 12) (.const (.int .i64 1)) 3), none⟩,
   ⟨(some 12), (.move (.tmp 27)), none⟩])))))))
 (.seq (.reg [⟨(some 28), (.move (.tmp 4)), none⟩,
   ⟨(some 2), (.assign (.tmp 28)), none⟩,
   ⟨(some 3), (.assign (.const (.bool true))), none⟩])
 .ret)))))
theorem x_impl_StepsText : Txt Tryd.prog 7 c_impl_StepsText [.tmp 2, .tmp 3] 1 := ⟨by kernel_rfl, by kernel_rfl, _, _, Tryd.func7, rfl, by kernel_rfl, by kernel_rfl, by kernel_rfl, rfl, by decide⟩
/-- loop.example/g01062/laws.eqBidStepS -/
def c_laws_eqBidStepS : Cd :=
 (.seq (.reg [⟨(some 4), (.assign (.const (.bool false))), none⟩])
 (.seq (.seq (.reg [⟨(some 6), (.move (.tmp 0)), none⟩,
   ⟨(some 7), (.call (.mk (.builtin .len) #[(.tmp 6)] #[26])), none⟩,
   ⟨(some 8), (.move (.tmp 1)), none⟩,
   ⟨(some 9), (.call (.mk (.builtin .len) #[(.tmp 8)] #[26])), none⟩,
   ⟨(some 10), (.binOp .neq 3 (.tmp 7) (.tmp 9) 3), none⟩])
 (.cond (.tmp 10) (.seq (.reg [⟨(some 4), (.assign (.const (.bool false))), none⟩])
 .ret) .skip))
 (.seq (.seq (.reg [⟨(some 5), (.assign (.const (.int .i64 0))), none⟩])
 (.block 0 (.loop (.seq (.seq (.reg [⟨(some 11), (.move (.tmp 5)), none⟩,
   ⟨(some 12), (.move (.tmp 0)), none⟩,
   ⟨(some 13), (.call (.mk (.builtin .len) #[(.tmp 12)] #[26])), none⟩,
   ⟨(some 14), (.binOp .lss 3 (.tmp 11) (.tmp 13) 3), none⟩])
 (.cond (.tmp 14) .skip (.exit 0)))
 (.seq (.block 1 (.seq (.regq [⟨(some 17), (.move (.tmp 0)), none⟩,
   ⟨(some 18), (.move (.tmp 5)), none⟩,
   ⟨(some 19), (.indexAddr 26 (.tmp 17) (.tmp 18)), none⟩,
   ⟨(some 20), (.load 33 (.tmp 19)), none⟩,
   ⟨(some 21), (.move (.tmp 1)), none⟩,
   ⟨(some 22), (.move (.tmp 5)), none⟩,
   ⟨(some 23), (.indexAddr 26 (.tmp 21) (.tmp 22)), none⟩,
   ⟨(some 24), (.load 33 (.tmp 23)), none⟩,
   ⟨(some 25), (.call (.mk (.value (.func 14)) #[(.tmp 20), (.tmp 24)] #[33, 33])), none⟩,
   ⟨(some 26), (.unOp .not 4 (.tmp 25)), none⟩])
 (.cond (.tmp 26) (.seq (.reg [⟨(some 4), (.assign (.const (.bool false))), none⟩])
 .ret) .skip)))
 (.reg [⟨(some 15), (.move (.tmp 5)), none⟩,
   ⟨(some 16), (.binOp .add 3 (.tmp 15) (.const (.int .i64 1)) 3), none⟩,
   ⟨(some 5), (.assign (.tmp 16)), none⟩]))))))
 (.seq (.reg [⟨(some 4), (.assign (.const (.bool true))), none⟩])
 .ret))))
theorem x_laws_eqBidStepS : Txt Tryd.prog 8 c_laws_eqBidStepS [.tmp 4] 2 := ⟨by kernel_rfl, by kernel_rfl, _, _, Tryd.func8, rfl, by kernel_rfl, by kernel_rfl, by kernel_rfl, rfl, by decide⟩
/-- loop.example/g01062/spec.l22Steps -/
def c_spec_l22Steps : Cd :=
 (.seq (.reg [⟨(some 2), (.assign (.const (.bool false))), none⟩])
 (.seq (.seq (.reg [⟨(some 3), (.assign (.const (.int .i64 0))), none⟩])
 (.block 0 (.loop (.seq (.seq (.reg [⟨(some 4), (.move (.tmp 3)), none⟩,
   ⟨(some 5), (.move (.tmp 0)), none⟩,
   ⟨(some 6), (.call (.mk (.builtin .len) #[(.tmp 5)] #[26])), none⟩,
   ⟨(some 7), (.binOp .lss 3 (.tmp 4) (.tmp 6) 3), none⟩])
 (.cond (.tmp 7) .skip (.exit 0)))
 (.seq (.block 1 (.seq (.regq [⟨(some 10), (.move (.tmp 0)), none⟩,
   ⟨(some 11), (.move (.tmp 3)), none⟩,
   ⟨(some 12), (.indexAddr 26 (.tmp 10) (.tmp 11)), none⟩,
   ⟨(some 13), (.fieldAddr 33 (.tmp 12) 0), none⟩,
   ⟨(some 14), (.load 3 (.tmp 13)), none⟩,
   ⟨(some 15), (.call (.mk (.value (.func 15)) #[(.tmp 14)] #[3])), none⟩,
   ⟨(some 16), (.unOp .not 4 (.tmp 15)), none⟩,
   ⟨(some 17), (.move (.tmp 16)), none⟩,
   ⟨(some 18), (.move (.tmp 0)), (some (17, false))⟩,
   ⟨(some 19), (.move (.tmp 3)), (some (17, false))⟩,
   ⟨(some 20), (.indexAddr 26 (.tmp 18) (.tmp 19)), (some (17, false))⟩,
   ⟨(some 21), (.fieldAddr 33 (.tmp 20) 1), (some (17, false))⟩,
   ⟨(some 22), (.load 3 (.tmp 21)), (some (17, false))⟩,
   ⟨(some 23), (.call (.mk (.value (.func 16)) #[(.tmp 22), (.const (.int .i64 200)), (.const (.int .i64 5000))] #[3, 3, 3])), (some (17, false))⟩,
   ⟨(some 24), (.unOp .not 4 (.tmp 23)), (some (17, false))⟩,
   ⟨(some 25), (.pick (.tmp 17) (.const (.bool true)) (.tmp 24)), none⟩,
   ⟨(some 26), (.move (.tmp 25)), none⟩,
   ⟨(some 27), (.move (.tmp 3)), (some (26, false))⟩,
   ⟨(some 28), (.binOp .gtr 3 (.tmp 27) (.const (.int .i64 0)) 3), (some (26, false))⟩,
   ⟨(some 29), (.move (.tmp 28)), (some (26, false))⟩,
   ⟨(some 30), (.move (.tmp 0)), (some (29, true))⟩,
   ⟨(some 31), (.move (.tmp 3)), (some (29, true))⟩,
   ⟨(some 32), (.binOp .sub 3 (.tmp 31) (.const (.int .i64 1)) 3), (some (29, true))⟩,
   ⟨(some 33), (.indexAddr 26 (.tmp 30) (.tmp 32)), (some (29, true))⟩,
   ⟨(some 34), (.fieldAddr 33 (.tmp 33) 0), (some (29, true))⟩,
   ⟨(some 35), (.load 3 (.tmp 34)), (some (29, true))⟩,
   ⟨(some 36), (.move (.tmp 0)), (some (29, true))⟩,
   ⟨(some 37), (.move (.tmp 3)), (some (29, true))⟩,
   ⟨(some 38), (.indexAddr 26 (.tmp 36) (.tmp 37)), (some (29, true))⟩,
   ⟨(some 39), (.fieldAddr 33 (.tmp 38) 0), (some (29, true))⟩,
   ⟨(some 40), (.load 3 (.tmp 39)), (some (29, true))⟩,
   ⟨(some 41), (.binOp .geq 3 (.tmp 35) (.tmp 40) 3), (some (29, true))⟩,
   ⟨(some 42), (.pick (.tmp 29) (.tmp 41) (.const (.bool false))), (some (26, false))⟩,
   ⟨(some 43), (.pick (.tmp 26) (.const (.bool true)) (.tmp 42)), none⟩])
 (.cond (.tmp 43) (.seq (.reg [⟨(some 2), (.assign (.const (.bool false))), none⟩])
 .ret) .skip)))
 (.reg [⟨(some 8), (.move (.tmp 3)), none⟩,
   ⟨(some 9), (.binOp .add 3 (.tmp 8) (.const (.int .i64 1)) 3), none⟩,
   ⟨(some 3), (.assign (.tmp 9)), none⟩]))))))
 (.seq (.reg [⟨(some 44), (.move (.tmp 0)), none⟩,
   ⟨(some 45), (.call (.mk (.builtin .len) #[(.tmp 44)] #[26])), none⟩,
   ⟨(some 46), (.call (.mk (.value (.func 16)) #[(.tmp 45), (.const (.int .i64 1)), (.const (.int .i64 8))] #[3, 3, 3])), none⟩,
   ⟨(some 47), (.move (.tmp 46)), none⟩,
   ⟨(some 48), (.move (.tmp 0)), (some (47, true))⟩,
   ⟨(some 49), (.indexAddr 26 (.tmp 48) (.const (.int .i64 0))), (some (47, true))⟩,
   ⟨(some 50), (.fieldAddr 33 (.tmp 49) 0), (some (47, true))⟩,
   ⟨(some 51), (.load 3 (.tmp 50)), (some (47, true))⟩,
   ⟨(some 52), (.binOp .eql 3 (.tmp 51) (.const (.int .i64 0)) 3), (some (47, true))⟩,
   ⟨(some 53), (.pick (.tmp 47) (.tmp 52) (.const (.bool false))), none⟩,
   ⟨(some 2), (.assign (.tmp 53)), none⟩])
 .ret)))
theorem x_spec_l22Steps : Txt Tryd.prog 9 c_spec_l22Steps [.tmp 2] 1 := ⟨by kernel_rfl, by kernel_rfl, _, _, Tryd.func9, rfl, by kernel_rfl, by kernel_rfl, by kernel_rfl, rfl, by decide⟩
/-- loop.example/g01062/spec.l1Num -/
def c_spec_l1Num : Cd :=
 (.seq (.reg [⟨(some 2), (.assign (.const (.string (ByteArray.mk #[])))), none⟩])
 (.seq (.seq (.reg [⟨(some 3), (.move (.tmp 0)), none⟩,
   ⟨(some 4), (.binOp .lss 3 (.tmp 3) (.const (.int .i64 0)) 3), none⟩])
 (.cond (.tmp 4) (.seq (.reg [⟨(some 5), (.move (.tmp 0)), none⟩,
   ⟨(some 6), (.unOp .neg 3 (.tmp 5)), none⟩,
   ⟨(some 7), (.call (.mk (.value (.func 10)) #[(.tmp 6)] #[3])), none⟩,
   ⟨(some 8), (.binOp .add 9 (.const (.string (ByteArray.mk #[45]))) (.tmp 7) 9), none⟩,
   ⟨(some 2), (.assign (.tmp 8)), none⟩])
 .ret) .skip))
 (.seq (.seq (.reg [⟨(some 9), (.move (.tmp 0)), none⟩,
   ⟨(some 10), (.binOp .lss 3 (.tmp 9) (.const (.int .i64 10)) 3), none⟩])
 (.cond (.tmp 10) (.seq (.reg [⟨(some 11), (.move (.tmp 0)), none⟩,
   ⟨(some 12), (.move (.tmp 0)), none⟩,
   ⟨(some 13), (.binOp .add 3 (.tmp 12) (.const (.int .i64 1)) 3), none⟩,
   ⟨(some 14), (.slice 9 (.const (.string (ByteArray.mk #[48, 49, 50, 51, 52, 53, 54, 55, 56, 57]))) (some (.tmp 11)) (some (.tmp 13)) none), none⟩,
   ⟨(some 2), (.assign (.tmp 14)), none⟩])
 .ret) .skip))
 (.seq (.regq [⟨(some 15), (.move (.tmp 0)), none⟩,
   ⟨(some 16), (.binOp .quo 3 (.tmp 15) (.const (.int .i64 10)) 3), none⟩,
   ⟨(some 17), (.call (.mk (.value (.func 10)) #[(.tmp 16)] #[3])), none⟩,
   ⟨(some 18), (.move (.tmp 0)), none⟩,
   ⟨(some 19), (.binOp .rem 3 (.tmp 18) (.const (.int .i64 10)) 3), none⟩,
   ⟨(some 20), (.move (.tmp 0)), none⟩,
   ⟨(some 21), (.binOp .rem 3 (.tmp 20) (.const (.int .i64 10)) 3), none⟩,
   ⟨(some 22), (.binOp .add 3 (.tmp 21) (.const (.int .i64 1)) 3), none⟩,
   ⟨(some 23), (.slice 9 (.const (.string (ByteArray.mk #[48, 49, 50, 51, 52, 53, 54, 55, 56, 57]))) (some (.tmp 19)) (some (.tmp 22)) none), none⟩,
   ⟨(some 24), (.binOp .add 9 (.tmp 17) (.tmp 23) 9), none⟩,
   ⟨(some 2), (.assign (.tmp 24)), none⟩])
 .ret))))
theorem x_spec_l1Num : Txt Tryd.prog 10 c_spec_l1Num [.tmp 2] 1 := ⟨by kernel_rfl, by kernel_rfl, _, _, Tryd.func10, rfl, by kernel_rfl, by kernel_rfl, by kernel_rfl, rfl, by decide⟩
/-- loop.example/g01062/laws.toBidStep -/
def c_laws_toBidStep : Cd :=
 (.seq (.reg [⟨(some 1), (.box 35 (.tmp 0)), none⟩,
   ⟨(some 2), (.alloc 33), none⟩])
 (.seq (.reg [⟨(some 3), (.alloc 33), none⟩])
 (.seq (.reg [⟨(some 4), (.fieldAddr 35 (.tmp 1) 0), none⟩,
   ⟨(some 5), (.load 3 (.tmp 4)), none⟩,
   ⟨(some 6), (.fieldAddr 33 (.tmp 3) 0), none⟩,
   ⟨none, (.store 3 (.tmp 6) (.tmp 5)), none⟩])
 (.seq (.reg [⟨(some 7), (.fieldAddr 35 (.tmp 1) 1), none⟩,
   ⟨(some 8), (.load 3 (.tmp 7)), none⟩,
   ⟨(some 9), (.fieldAddr 33 (.tmp 3) 1), none⟩,
   ⟨none, (.store 3 (.tmp 9) (.tmp 8)), none⟩])
 (.seq (.reg [⟨(some 10), (.load 33 (.tmp 3)), none⟩,
   ⟨none, (.store 33 (.tmp 2) (.tmp 10)), none⟩])
 .ret)))))
theorem x_laws_toBidStep : Txt Tryd.prog 11 c_laws_toBidStep [.cell 2 33] 1 := ⟨by kernel_rfl, by kernel_rfl, _, _, Tryd.func11, rfl, by kernel_rfl, by kernel_rfl, by kernel_rfl, rfl, by decide⟩
/-- loop.example/g01062/impl.areSteps -/
def c_impl_areSteps : Cd :=
 (.seq (.reg [⟨(some 2), (.assign (.const (.bool false))), none⟩])
 (.seq (.seq (.reg [⟨(some 5), (.move (.tmp 0)), none⟩,
   ⟨(some 6), (.call (.mk (.builtin .len) #[(.tmp 5)] #[26])), none⟩,
   ⟨(some 7), (.move (.const (.int .i64 0))), none⟩])
 (.block 0 (.loop (.seq (.reg [⟨(some 8), (.binOp .lss 3 (.tmp 7) (.tmp 6) 3), none⟩])
 (.seq (.cond (.tmp 8) .skip (.exit 0))
 (.seq (.block 1 (.seq (.reg [⟨(some 9), (.move (.tmp 7)), none⟩,
   ⟨(some 10), (.indexAddr 26 (.tmp 5) (.tmp 7)), none⟩,
   ⟨(some 11), (.load 33 (.tmp 10)), none⟩,
   ⟨(some 4), (.alloc 33), none⟩,
   ⟨(some 3), (.assign (.tmp 9)), none⟩,
   ⟨none, (.store 33 (.tmp 4) (.tmp 11)), none⟩])
 (.seq (.regq [⟨(some 12), (.fieldAddr 33 (.tmp 4) 0), none⟩,
   ⟨(some 13), (.load 3 (.tmp 12)), none⟩,
   ⟨(some 14), (.call (.mk (.value (.func 17)) #[(.tmp 13)] #[3])), none⟩,
   ⟨(some 15), (.unOp .not 4 (.tmp 14)), none⟩,
   ⟨(some 16), (.move (.tmp 15)), none⟩,
   ⟨(some 17), (.fieldAddr 33 (.tmp 4) 1), (some (16, false))⟩,
   ⟨(some 18), (.load 3 (.tmp 17)), (some (16, false))⟩,
   ⟨(some 19), (.call (.mk (.value (.func 18)) #[(.tmp 18), (.const (.int .i64 200)), (.const (.int .i64 5000))] #[3, 3, 3])), (some (16, false))⟩,
   ⟨(some 20), (.unOp .not 4 (.tmp 19)), (some (16, false))⟩,
   ⟨(some 21), (.pick (.tmp 16) (.const (.bool true)) (.tmp 20)), none⟩,
   ⟨(some 22), (.move (.tmp 21)), none⟩,
   ⟨(some 23), (.move (.tmp 3)), (some (22, false))⟩,
   ⟨(some 24), (.binOp .eql 3 (.tmp 23) (.const (.int .i64 0)) 3), (some (22, false))⟩,
   ⟨(some 25), (.move (.tmp 24)), (some (22, false))⟩,
   ⟨(some 26), (.fieldAddr 33 (.tmp 4) 0), (some (25, true))⟩,
   ⟨(some 27), (.load 3 (.tmp 26)), (some (25, true))⟩,
   ⟨(some 28), (.binOp .neq 3 (.tmp 27) (.const (.int .i64 0)) 3), (some (25, true))⟩,
   ⟨(some 29), (.pick (.tmp 25) (.tmp 28) (.const (.bool false))), (some (22, false))⟩,
   ⟨(some 30), (.pick (.tmp 22) (.const (.bool true)) (.tmp 29)), none⟩,
   ⟨(some 31), (.move (.tmp 30)), none⟩,
   ⟨(some 32), (.move (.tmp 3)), (some (31, false))⟩,
   ⟨(some 33), (.binOp .gtr 3 (.tmp 32) (.const (.int .i64 0)) 3), (some (31, false))⟩,
   ⟨(some 34), (.move (.tmp 33)), (some (31, false))⟩,
   ⟨(some 35), (.move (.tmp 0)), (some (34, true))⟩,
   ⟨(some 36), (.move (.tmp 3)), (some (34, true))⟩,
   ⟨(some 37), (.binOp .sub 3 (.tmp 36) (.const (.int .i64 1)) 3), (some (34, true))⟩,
   ⟨(some 38), (.indexAddr 26 (.tmp 35) (.tmp 37)), (some (34, true))⟩,
   ⟨(some 39), (.fieldAddr 33 (.tmp 38) 0), (some (34, true))⟩,
   ⟨(some 40), (.load 3 (.tmp 39)), (some (34, true))⟩,
   ⟨(some 41), (.fieldAddr 33 (.tmp 4) 0), (some (34, true))⟩,
   ⟨(some 42), (.load 3 (.tmp 41)), (some (34, true))⟩,
   ⟨(some 43), (.binOp .geq 3 (.tmp 40) (.tmp 42) 3), (some (34, true))⟩,
   ⟨(some 44), (.pick (.tmp 34) (.tmp 43) (.const (.bool false))), (some (31, false))⟩,
   ⟨(some 45), (.pick (.tmp 31) (.const (.bool true)) (.tmp 44)), none⟩])
 (.cond (.tmp 45) (.seq (.reg [⟨(some 2), (.assign (.const (.bool false))), none⟩])
 .ret) .skip))))
 (.reg [⟨(some 46), (.binOp .add 3 (.tmp 7) (.const (.int .i64 1)) 3), none⟩,
   ⟨(some 7), (.move (.tmp 46)), none⟩])))))))
 (.seq (.reg [⟨(some 47), (.move (.tmp 0)), none⟩,
   ⟨(some 48), (.call (.mk (.builtin .len) #[(.tmp 47)] #[26])), none⟩,
   ⟨(some 49), (.call (.mk (.value (.func 18)) #[(.tmp 48), (.const (.int .i64 1)), (.const (.int .i64 8))] #[3, 3, 3])), none⟩,
   ⟨(some 2), (.assign (.tmp 49)), none⟩])
 .ret)))
theorem x_impl_areSteps : Txt Tryd.prog 12 c_impl_areSteps [.tmp 2] 1 := ⟨by kernel_rfl, by kernel_rfl, _, _, Tryd.func12, rfl, by kernel_rfl, by kernel_rfl, by kernel_rfl, rfl, by decide⟩
/-- loop.example/g01062/laws.eqBidStep -/
def c_laws_eqBidStep : Cd :=
 (.seq (.reg [⟨(some 2), (.box 33 (.tmp 0)), none⟩,
   ⟨(some 3), (.box 33 (.tmp 1)), none⟩,
   ⟨(some 4), (.assign (.const (.bool false))), none⟩])
 (.seq (.seq (.reg [⟨(some 5), (.fieldAddr 33 (.tmp 2) 0), none⟩,
   ⟨(some 6), (.load 3 (.tmp 5)), none⟩,
   ⟨(some 7), (.fieldAddr 33 (.tmp 3) 0), none⟩,
   ⟨(some 8), (.load 3 (.tmp 7)), none⟩,
   ⟨(some 9), (.binOp .neq 3 (.tmp 6) (.tmp 8) 3), none⟩])
 (.cond (.tmp 9) (.seq (.reg [⟨(some 4), (.assign (.const (.bool false))), none⟩])
 .ret) .skip))
 (.seq (.seq (.reg [⟨(some 10), (.fieldAddr 33 (.tmp 2) 1), none⟩,
   ⟨(some 11), (.load 3 (.tmp 10)), none⟩,
   ⟨(some 12), (.fieldAddr 33 (.tmp 3) 1), none⟩,
   ⟨(some 13), (.load 3 (.tmp 12)), none⟩,
   ⟨(some 14), (.binOp .neq 3 (.tmp 11) (.tmp 13) 3), none⟩])
 (.cond (.tmp 14) (.seq (.reg [⟨(some 4), (.assign (.const (.bool false))), none⟩])
 .ret) .skip))
 (.seq (.reg [⟨(some 4), (.assign (.const (.bool true))), none⟩])
 .ret))))
theorem x_laws_eqBidStep : Txt Tryd.prog 14 c_laws_eqBidStep [.tmp 4] 2 := ⟨by kernel_rfl, by kernel_rfl, _, _, Tryd.func14, rfl, by kernel_rfl, by kernel_rfl, by kernel_rfl, rfl, by decide⟩
/-- loop.example/g01062/spec.l22Bid -/
def c_spec_l22Bid : Cd :=
 (.seq (.reg [⟨(some 2), (.assign (.const (.bool false))), none⟩])
 (.seq (.reg [⟨(some 3), (.move (.tmp 0)), none⟩,
   ⟨(some 4), (.call (.mk (.value (.func 16)) #[(.tmp 3), (.const (.int .i64 0)), (.const (.int .i64 20000))] #[3, 3, 3])), none⟩,
   ⟨(some 2), (.assign (.tmp 4)), none⟩])
 .ret))
theorem x_spec_l22Bid : Txt Tryd.prog 15 c_spec_l22Bid [.tmp 2] 1 := ⟨by kernel_rfl, by kernel_rfl, _, _, Tryd.func15, rfl, by kernel_rfl, by kernel_rfl, by kernel_rfl, rfl, by decide⟩
/-- loop.example/g01062/spec.l1In -/
def c_spec_l1In : Cd :=
 (.seq (.reg [⟨(some 6), (.assign (.const (.bool false))), none⟩])
 (.seq (.reg [⟨(some 7), (.move (.tmp 0)), none⟩,
   ⟨(some 8), (.move (.tmp 1)), none⟩,
   ⟨(some 9), (.binOp .geq 3 (.tmp 7) (.tmp 8) 3), none⟩,
   ⟨(some 10), (.move (.tmp 9)), none⟩,
   ⟨(some 11), (.move (.tmp 0)), (some (10, true))⟩,
   ⟨(some 12), (.move (.tmp 2)), (some (10, true))⟩,
   ⟨(some 13), (.binOp .leq 3 (.tmp 11) (.tmp 12) 3), (some (10, true))⟩,
   ⟨(some 14), (.pick (.tmp 10) (.tmp 13) (.const (.bool false))), none⟩,
   ⟨(some 6), (.assign (.tmp 14)), none⟩])
 .ret))
theorem x_spec_l1In : Txt Tryd.prog 16 c_spec_l1In [.tmp 6] 3 := ⟨by kernel_rfl, by kernel_rfl, _, _, Tryd.func16, rfl, by kernel_rfl, by kernel_rfl, by kernel_rfl, rfl, by decide⟩
/-- loop.example/g01062/impl.isBid -/
def c_impl_isBid : Cd :=
 (.seq (.reg [⟨(some 2), (.assign (.const (.bool false))), none⟩])
 (.seq (.reg [⟨(some 3), (.move (.tmp 0)), none⟩,
   ⟨(some 4), (.call (.mk (.value (.func 18)) #[(.tmp 3), (.const (.int .i64 0)), (.const (.int .i64 20000))] #[3, 3, 3])), none⟩,
   ⟨(some 2), (.assign (.tmp 4)), none⟩])
 .ret))
theorem x_impl_isBid : Txt Tryd.prog 17 c_impl_isBid [.tmp 2] 1 := ⟨by kernel_rfl, by kernel_rfl, _, _, Tryd.func17, rfl, by kernel_rfl, by kernel_rfl, by kernel_rfl, rfl, by decide⟩
/-- loop.example/g01062/impl.inRange -/
def c_impl_inRange : Cd :=
 (.seq (.reg [⟨(some 6), (.assign (.const (.bool false))), none⟩])
 (.seq (.reg [⟨(some 7), (.move (.tmp 0)), none⟩,
   ⟨(some 8), (.move (.tmp 1)), none⟩,
   ⟨(some 9), (.binOp .geq 3 (.tmp 7) (.tmp 8) 3), none⟩,
   ⟨(some 10), (.move (.tmp 9)), none⟩,
   ⟨(some 11), (.move (.tmp 0)), (some (10, true))⟩,
   ⟨(some 12), (.move (.tmp 2)), (some (10, true))⟩,
   ⟨(some 13), (.binOp .leq 3 (.tmp 11) (.tmp 12) 3), (some (10, true))⟩,
   ⟨(some 14), (.pick (.tmp 10) (.tmp 13) (.const (.bool false))), none⟩,
   ⟨(some 6), (.assign (.tmp 14)), none⟩])
 .ret))
theorem x_impl_inRange : Txt Tryd.prog 18 c_impl_inRange [.tmp 6] 3 := ⟨by kernel_rfl, by kernel_rfl, _, _, Tryd.func18, rfl, by kernel_rfl, by kernel_rfl, by kernel_rfl, rfl, by decide⟩
theorem qs2 : qSize Tryd.prog 2 = some 1 := by kernel_rfl
theorem qb2 : qBytes Tryd.prog 2 = some 8 := by kernel_rfl
theorem qa2 : qAgg Tryd.prog 2 = some false := by kernel_rfl
theorem qz2 : qZero Tryd.prog 2 = some (.int .i64 0) := by kernel_rfl
theorem qk2 : qKind Tryd.prog 2 = some .i64 := by kernel_rfl
theorem qui2 : (Tryd.prog.underlying 2).isSome = true := by kernel_rfl
theorem qs3 : qSize Tryd.prog 3 = some 1 := by kernel_rfl
theorem qb3 : qBytes Tryd.prog 3 = some 8 := by kernel_rfl
theorem qa3 : qAgg Tryd.prog 3 = some false := by kernel_rfl
theorem qz3 : qZero Tryd.prog 3 = some (.int .i64 0) := by kernel_rfl
theorem qk3 : qKind Tryd.prog 3 = some .i64 := by kernel_rfl
theorem qui3 : (Tryd.prog.underlying 3).isSome = true := by kernel_rfl
theorem qs4 : qSize Tryd.prog 4 = some 1 := by kernel_rfl
theorem qb4 : qBytes Tryd.prog 4 = some 1 := by kernel_rfl
theorem qa4 : qAgg Tryd.prog 4 = some false := by kernel_rfl
theorem qz4 : qZero Tryd.prog 4 = some (.bool false) := by kernel_rfl
theorem qo4 : qBool Tryd.prog 4 = true := by kernel_rfl
theorem qs9 : qSize Tryd.prog 9 = some 1 := by kernel_rfl
theorem qb9 : qBytes Tryd.prog 9 = some 16 := by kernel_rfl
theorem qa9 : qAgg Tryd.prog 9 = some false := by kernel_rfl
theorem qz9 : qZero Tryd.prog 9 = some (.string ByteArray.empty) := by kernel_rfl
theorem qt9 : qStr Tryd.prog 9 = true := by kernel_rfl
theorem qs22 : qSize Tryd.prog 22 = some 1 := by kernel_rfl
theorem qb22 : qBytes Tryd.prog 22 = some 24 := by kernel_rfl
theorem qa22 : qAgg Tryd.prog 22 = some false := by kernel_rfl
theorem qz22 : qZero Tryd.prog 22 = some (.slice none 0 0) := by kernel_rfl
theorem qe22 : qElem Tryd.prog 22 = some 35 := by kernel_rfl
theorem qs26 : qSize Tryd.prog 26 = some 1 := by kernel_rfl
theorem qb26 : qBytes Tryd.prog 26 = some 24 := by kernel_rfl
theorem qa26 : qAgg Tryd.prog 26 = some false := by kernel_rfl
theorem qz26 : qZero Tryd.prog 26 = some (.slice none 0 0) := by kernel_rfl
theorem qe26 : qElem Tryd.prog 26 = some 33 := by kernel_rfl
theorem qs33 : qSize Tryd.prog 33 = some 2 := by kernel_rfl
theorem qb33 : qBytes Tryd.prog 33 = some 16 := by kernel_rfl
theorem qa33 : qAgg Tryd.prog 33 = some true := by kernel_rfl
theorem qz33 : qZero Tryd.prog 33 = some (.agg #[.int .i64 0, .int .i64 0]) := by kernel_rfl
theorem qg33 : qFields Tryd.prog 33 = some [(0, 1), (1, 1)] := by kernel_rfl
theorem qf33_0 : qField Tryd.prog 33 0 = some (0, 3) := by kernel_rfl
theorem qf33_1 : qField Tryd.prog 33 1 = some (1, 3) := by kernel_rfl
theorem qs35 : qSize Tryd.prog 35 = some 2 := by kernel_rfl
theorem qb35 : qBytes Tryd.prog 35 = some 16 := by kernel_rfl
theorem qa35 : qAgg Tryd.prog 35 = some true := by kernel_rfl
theorem qz35 : qZero Tryd.prog 35 = some (.agg #[.int .i64 0, .int .i64 0]) := by kernel_rfl
theorem qg35 : qFields Tryd.prog 35 = some [(0, 1), (1, 1)] := by kernel_rfl
theorem qf35_0 : qField Tryd.prog 35 0 = some (0, 3) := by kernel_rfl
theorem qf35_1 : qField Tryd.prog 35 1 = some (1, 3) := by kernel_rfl
set_option linter.defProp false
/-- The facts, in one name. -/
def fcT := And.intro @qs2 <| And.intro @qb2 <| And.intro @qa2 <| And.intro @qz2 <| And.intro @qk2 <| And.intro @qui2 <| And.intro @qs3 <| And.intro @qb3 <| And.intro @qa3 <| And.intro @qz3 <| And.intro @qk3 <| And.intro @qui3 <| And.intro @qs4 <| And.intro @qb4 <| And.intro @qa4 <| And.intro @qz4 <| And.intro @qo4 <| And.intro @qs9 <| And.intro @qb9 <| And.intro @qa9 <| And.intro @qz9 <| And.intro @qt9 <| And.intro @qs22 <| And.intro @qb22 <| And.intro @qa22 <| And.intro @qz22 <| And.intro @qe22 <| And.intro @qs26 <| And.intro @qb26 <| And.intro @qa26 <| And.intro @qz26 <| And.intro @qe26 <| And.intro @qs33 <| And.intro @qb33 <| And.intro @qa33 <| And.intro @qz33 <| And.intro @qg33 <| And.intro @qf33_0 <| And.intro @qf33_1 <| And.intro @qs35 <| And.intro @qb35 <| And.intro @qa35 <| And.intro @qz35 <| And.intro @qg35 <| And.intro @qf35_0 <| And.intro @qf35_1 <| True.intro
end Go.Proofs.YthddighmlijdeaaDoor
