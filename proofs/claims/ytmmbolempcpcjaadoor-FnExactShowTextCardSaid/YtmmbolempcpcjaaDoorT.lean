/- The texts of the functions, edges struck, and closed facts on functions and types: written by program (gen.py). -/
import Derived.Test.YtmmbolempcpcjaaDoorD
import Derived.Test.YtmmbolempcpcjaaDoorProg
namespace Go.Proofs.YtmmbolempcpcjaaDoor
open Go Go.RowKit Go.Proofs
/-- loop.example/g01062/laws.FnExactShowText -/
def c_laws_FnExactShowText : Cd :=
 (.seq (.reg [⟨(some 1), (.box 24 (.tmp 0)), none⟩,
   ⟨(some 2), (.assign (.const (.bool false))), none⟩])
 (.seq (.reg [⟨(some 3), (.assign (.const (.int .i64 1048576))), none⟩])
 (.seq (.reg [⟨(some 9), (.load 24 (.tmp 1)), none⟩,
   ⟨(some 10), (.move (.tmp 3)), none⟩,
   ⟨(some 11), (.call (.mk (.value (.func 4)) #[(.tmp 9), (.tmp 10)] #[24, 3])), none⟩,
   ⟨(some 3), (.assign (.tmp 11)), none⟩])
 (.seq (.seq (.reg [⟨(some 12), (.move (.tmp 3)), none⟩,
   ⟨(some 13), (.binOp .lss 3 (.tmp 12) (.const (.int .i64 0)) 3), none⟩])
 (.cond (.tmp 13) (.seq (.reg [⟨(some 2), (.assign (.const (.bool true))), none⟩])
 .ret) .skip))
 (.seq (.reg [⟨(some 15), (.load 24 (.tmp 1)), none⟩,
   ⟨(some 16), (.call (.mk (.value (.func 6)) #[(.tmp 15)] #[24])), none⟩,
   ⟨(some 17), (.call (.mk (.value (.func 5)) #[(.tmp 16)] #[28])), none⟩,
   ⟨(some 14), (.move (.tmp 17)), none⟩,
   ⟨(some 18), (.extract (.tmp 14) 0), none⟩,
   ⟨(some 19), (.extract (.tmp 14) 1), none⟩,
   ⟨(some 4), (.assign (.tmp 18)), none⟩,
   ⟨(some 5), (.assign (.tmp 19)), none⟩])
 (.seq (.reg [⟨(some 20), (.load 24 (.tmp 1)), none⟩,
   ⟨(some 21), (.call (.mk (.value (.func 6)) #[(.tmp 20)] #[24])), none⟩,
   ⟨(some 6), (.alloc 28), none⟩,
   ⟨none, (.store 28 (.tmp 6) (.tmp 21)), none⟩])
 (.seq (.reg [⟨(some 23), (.load 28 (.tmp 6)), none⟩,
   ⟨(some 24), (.call (.mk (.value (.func 7)) #[(.tmp 23)] #[28])), none⟩,
   ⟨(some 22), (.move (.tmp 24)), none⟩,
   ⟨(some 25), (.extract (.tmp 22) 0), none⟩,
   ⟨(some 26), (.extract (.tmp 22) 1), none⟩,
   ⟨(some 7), (.assign (.tmp 25)), none⟩,
   ⟨(some 8), (.assign (.tmp 26)), none⟩])
 (.seq (.seq (.reg [⟨(some 27), (.move (.tmp 7)), none⟩,
   ⟨(some 28), (.move (.tmp 4)), none⟩,
   ⟨(some 29), (.binOp .neq 9 (.tmp 27) (.tmp 28) 9), none⟩,
   ⟨(some 30), (.move (.tmp 29)), none⟩,
   ⟨(some 31), (.move (.tmp 8)), (some (30, false))⟩,
   ⟨(some 32), (.move (.tmp 5)), (some (30, false))⟩,
   ⟨(some 33), (.binOp .neq 4 (.tmp 31) (.tmp 32) 4), (some (30, false))⟩,
   ⟨(some 34), (.pick (.tmp 30) (.const (.bool true)) (.tmp 33)), none⟩])
 (.cond (.tmp 34) (.seq (.reg [⟨(some 2), (.assign (.const (.bool false))), none⟩])
 .ret) .skip))
 (.seq (.seq (.regt [⟨(some 35), (.load 28 (.tmp 6)), none⟩,
   ⟨(some 36), (.load 24 (.tmp 1)), none⟩] (.one true ⟨(some 37), (.call (.mk (.value (.func 6)) #[(.tmp 36)] #[24])), none⟩
   (.one false ⟨(some 38), (.call (.mk (.value (.func 8)) #[(.tmp 35), (.tmp 37)] #[28, 28])), none⟩
   (.one false ⟨(some 39), (.unOp .not 4 (.tmp 38)), none⟩
   .done))) [])
 (.cond (.tmp 39) (.seq (.reg [⟨(some 2), (.assign (.const (.bool false))), none⟩])
 .ret) .skip))
 (.seq (.reg [⟨(some 2), (.assign (.const (.bool true))), none⟩])
 .ret))))))))))
theorem x_laws_FnExactShowText : Txt Tryd.prog 3 c_laws_FnExactShowText [.tmp 2] 1 := ⟨by kernel_rfl, by kernel_rfl, _, _, Tryd.func3, rfl, by kernel_rfl, by kernel_rfl, by kernel_rfl, rfl, by decide⟩
/-- loop.example/g01062/laws.szShowFrame -/
def c_laws_szShowFrame : Cd :=
 (.seq (.reg [⟨(some 2), (.box 24 (.tmp 0)), none⟩,
   ⟨(some 4), (.assign (.const (.int .i64 0))), none⟩])
 (.seq (.reg [⟨(some 5), (.move (.tmp 1)), none⟩,
   ⟨(some 6), (.fieldAddr 24 (.tmp 2) 1), none⟩,
   ⟨(some 7), (.load 9 (.tmp 6)), none⟩,
   ⟨(some 8), (.call (.mk (.builtin .len) #[(.tmp 7)] #[9])), none⟩,
   ⟨(some 9), (.binOp .sub 3 (.tmp 5) (.tmp 8) 3), none⟩,
   ⟨(some 1), (.assign (.tmp 9)), none⟩])
 (.seq (.seq (.reg [⟨(some 10), (.move (.tmp 1)), none⟩,
   ⟨(some 11), (.binOp .lss 3 (.tmp 10) (.const (.int .i64 0)) 3), none⟩])
 (.cond (.tmp 11) (.seq (.reg [⟨(some 4), (.assign (.const (.int .i64 (-1)))), none⟩])
 .ret) .skip))
 (.seq (.reg [⟨(some 12), (.fieldAddr 24 (.tmp 2) 3), none⟩,
   ⟨(some 13), (.load 22 (.tmp 12)), none⟩,
   ⟨(some 14), (.move (.tmp 1)), none⟩,
   ⟨(some 15), (.call (.mk (.value (.func 9)) #[(.tmp 13), (.tmp 14)] #[22, 3])), none⟩,
   ⟨(some 1), (.assign (.tmp 15)), none⟩])
 (.seq (.seq (.reg [⟨(some 16), (.move (.tmp 1)), none⟩,
   ⟨(some 17), (.binOp .lss 3 (.tmp 16) (.const (.int .i64 0)) 3), none⟩])
 (.cond (.tmp 17) (.seq (.reg [⟨(some 4), (.assign (.const (.int .i64 (-1)))), none⟩])
 .ret) .skip))
 (.seq (.reg [⟨(some 18), (.move (.tmp 1)), none⟩,
   ⟨(some 4), (.assign (.tmp 18)), none⟩])
 .ret))))))
theorem x_laws_szShowFrame : Txt Tryd.prog 4 c_laws_szShowFrame [.tmp 4] 2 := ⟨by kernel_rfl, by kernel_rfl, _, _, Tryd.func4, rfl, by kernel_rfl, by kernel_rfl, by kernel_rfl, rfl, by decide⟩
/-- loop.example/g01062/spec.ShowText -/
def c_spec_ShowText : Cd :=
 (.seq (.reg [⟨(some 1), (.box 28 (.tmp 0)), none⟩,
   ⟨(some 2), (.assign (.const (.string (ByteArray.mk #[])))), none⟩,
   ⟨(some 3), (.assign (.const (.bool false))), none⟩])
 (.seq (.seq (.reg [⟨(some 4), (.load 28 (.tmp 1)), none⟩,
   ⟨(some 5), (.call (.mk (.value (.func 10)) #[(.tmp 4)] #[28])), none⟩,
   ⟨(some 6), (.unOp .not 4 (.tmp 5)), none⟩])
 (.cond (.tmp 6) (.seq (.reg [⟨(some 2), (.assign (.const (.string (ByteArray.mk #[])))), none⟩,
   ⟨(some 3), (.assign (.const (.bool false))), none⟩])
 .ret) .skip))
 (.seq (.regt [⟨(some 7), (.fieldAddr 28 (.tmp 1) 0), none⟩,
   ⟨(some 8), (.load 3 (.tmp 7)), none⟩,
   ⟨(some 11), (.fieldAddr 28 (.tmp 1) 1), none⟩,
   ⟨(some 12), (.load 9 (.tmp 11)), none⟩,
   ⟨(some 15), (.fieldAddr 28 (.tmp 1) 2), none⟩,
   ⟨(some 16), (.load 3 (.tmp 15)), none⟩,
   ⟨(some 21), (.fieldAddr 28 (.tmp 1) 3), none⟩,
   ⟨(some 22), (.load 22 (.tmp 21)), none⟩] (.alt true ⟨(some 9), (.call (.mk (.value (.func 11)) #[(.tmp 8)] #[3])), none⟩
   (.now ⟨(some 10), (.binOp .add 9 (.tmp 9) (.const (.string (ByteArray.mk #[32]))) 9), none⟩
   (.now ⟨(some 13), (.binOp .add 9 (.tmp 10) (.tmp 12) 9), none⟩
   (.now ⟨(some 14), (.binOp .add 9 (.tmp 13) (.const (.string (ByteArray.mk #[32, 40]))) 9), none⟩
   (.alt true ⟨(some 17), (.call (.mk (.value (.func 11)) #[(.tmp 16)] #[3])), none⟩
   (.now ⟨(some 18), (.binOp .add 9 (.tmp 14) (.tmp 17) 9), none⟩
   (.now ⟨(some 19), (.binOp .add 9 (.tmp 18) (.const (.string (ByteArray.mk #[102, 41, 58, 32]))) 9), none⟩
   (.alt true ⟨(some 20), (.buildSlice 35 5 #[(0, (.const (.string (ByteArray.mk #[116, 104, 97, 110, 107, 115])))), (1, (.const (.string (ByteArray.mk #[100, 105, 112, 108, 111, 109, 97])))), (2, (.const (.string (ByteArray.mk #[98, 114, 111, 110, 122, 101])))), (3, (.const (.string (ByteArray.mk #[115, 105, 108, 118, 101, 114])))), (4, (.const (.string (ByteArray.mk #[103, 111, 108, 100]))))]), none⟩
   (.one true ⟨(some 23), (.call (.mk (.value (.func 12)) #[(.tmp 22)] #[22])), none⟩
   (.one true ⟨(some 24), (.indexAddr 35 (.tmp 20) (.tmp 23)), none⟩
   (.one true ⟨(some 25), (.load 9 (.tmp 24)), none⟩
   (.one false ⟨(some 26), (.binOp .add 9 (.tmp 19) (.tmp 25) 9), none⟩
   (.one false ⟨(some 2), (.assign (.tmp 26)), none⟩
   (.one false ⟨(some 3), (.assign (.const (.bool true))), none⟩
   .done))))))
   (.one true ⟨(some 23), (.call (.mk (.value (.func 12)) #[(.tmp 22)] #[22])), none⟩
   (.one true ⟨(some 20), (.buildSlice 35 5 #[(0, (.const (.string (ByteArray.mk #[116, 104, 97, 110, 107, 115])))), (1, (.const (.string (ByteArray.mk #[100, 105, 112, 108, 111, 109, 97])))), (2, (.const (.string (ByteArray.mk #[98, 114, 111, 110, 122, 101])))), (3, (.const (.string (ByteArray.mk #[115, 105, 108, 118, 101, 114])))), (4, (.const (.string (ByteArray.mk #[103, 111, 108, 100]))))]), none⟩
   (.one true ⟨(some 24), (.indexAddr 35 (.tmp 20) (.tmp 23)), none⟩
   (.one true ⟨(some 25), (.load 9 (.tmp 24)), none⟩
   (.one false ⟨(some 26), (.binOp .add 9 (.tmp 19) (.tmp 25) 9), none⟩
   (.one false ⟨(some 2), (.assign (.tmp 26)), none⟩
   (.one false ⟨(some 3), (.assign (.const (.bool true))), none⟩
   .done))))))))))
   (.one true ⟨(some 20), (.buildSlice 35 5 #[(0, (.const (.string (ByteArray.mk #[116, 104, 97, 110, 107, 115])))), (1, (.const (.string (ByteArray.mk #[100, 105, 112, 108, 111, 109, 97])))), (2, (.const (.string (ByteArray.mk #[98, 114, 111, 110, 122, 101])))), (3, (.const (.string (ByteArray.mk #[115, 105, 108, 118, 101, 114])))), (4, (.const (.string (ByteArray.mk #[103, 111, 108, 100]))))]), none⟩
   (.one true ⟨(some 17), (.call (.mk (.value (.func 11)) #[(.tmp 16)] #[3])), none⟩
   (.now ⟨(some 18), (.binOp .add 9 (.tmp 14) (.tmp 17) 9), none⟩
   (.now ⟨(some 19), (.binOp .add 9 (.tmp 18) (.const (.string (ByteArray.mk #[102, 41, 58, 32]))) 9), none⟩
   (.one true ⟨(some 23), (.call (.mk (.value (.func 12)) #[(.tmp 22)] #[22])), none⟩
   (.one true ⟨(some 24), (.indexAddr 35 (.tmp 20) (.tmp 23)), none⟩
   (.one true ⟨(some 25), (.load 9 (.tmp 24)), none⟩
   (.one false ⟨(some 26), (.binOp .add 9 (.tmp 19) (.tmp 25) 9), none⟩
   (.one false ⟨(some 2), (.assign (.tmp 26)), none⟩
   (.one false ⟨(some 3), (.assign (.const (.bool true))), none⟩
   .done))))))))))))))
   (.one true ⟨(some 20), (.buildSlice 35 5 #[(0, (.const (.string (ByteArray.mk #[116, 104, 97, 110, 107, 115])))), (1, (.const (.string (ByteArray.mk #[100, 105, 112, 108, 111, 109, 97])))), (2, (.const (.string (ByteArray.mk #[98, 114, 111, 110, 122, 101])))), (3, (.const (.string (ByteArray.mk #[115, 105, 108, 118, 101, 114])))), (4, (.const (.string (ByteArray.mk #[103, 111, 108, 100]))))]), none⟩
   (.one true ⟨(some 9), (.call (.mk (.value (.func 11)) #[(.tmp 8)] #[3])), none⟩
   (.now ⟨(some 10), (.binOp .add 9 (.tmp 9) (.const (.string (ByteArray.mk #[32]))) 9), none⟩
   (.now ⟨(some 13), (.binOp .add 9 (.tmp 10) (.tmp 12) 9), none⟩
   (.now ⟨(some 14), (.binOp .add 9 (.tmp 13) (.const (.string (ByteArray.mk #[32, 40]))) 9), none⟩
   (.one true ⟨(some 17), (.call (.mk (.value (.func 11)) #[(.tmp 16)] #[3])), none⟩
   (.now ⟨(some 18), (.binOp .add 9 (.tmp 14) (.tmp 17) 9), none⟩
   (.now ⟨(some 19), (.binOp .add 9 (.tmp 18) (.const (.string (ByteArray.mk #[102, 41, 58, 32]))) 9), none⟩
   (.one true ⟨(some 23), (.call (.mk (.value (.func 12)) #[(.tmp 22)] #[22])), none⟩
   (.one true ⟨(some 24), (.indexAddr 35 (.tmp 20) (.tmp 23)), none⟩
   (.one true ⟨(some 25), (.load 9 (.tmp 24)), none⟩
   (.one false ⟨(some 26), (.binOp .add 9 (.tmp 19) (.tmp 25) 9), none⟩
   (.one false ⟨(some 2), (.assign (.tmp 26)), none⟩
   (.one false ⟨(some 3), (.assign (.const (.bool true))), none⟩
   .done))))))))))))))) [])
 .ret)))
theorem x_spec_ShowText : Txt Tryd.prog 5 c_spec_ShowText [.tmp 2, .tmp 3] 1 := ⟨by kernel_rfl, by kernel_rfl, _, _, Tryd.func5, rfl, by kernel_rfl, by kernel_rfl, by kernel_rfl, rfl, by decide⟩
/-- loop.example/g01062/laws.toShowFrame -/
def c_laws_toShowFrame : Cd :=
 (.seq (.reg [⟨(some 1), (.box 24 (.tmp 0)), none⟩,
   ⟨(some 2), (.alloc 28), none⟩])
 (.seq (.reg [⟨(some 3), (.alloc 28), none⟩])
 (.seq (.reg [⟨(some 4), (.fieldAddr 24 (.tmp 1) 0), none⟩,
   ⟨(some 5), (.load 3 (.tmp 4)), none⟩,
   ⟨(some 6), (.fieldAddr 28 (.tmp 3) 0), none⟩,
   ⟨none, (.store 3 (.tmp 6) (.tmp 5)), none⟩])
 (.seq (.reg [⟨(some 7), (.fieldAddr 24 (.tmp 1) 1), none⟩,
   ⟨(some 8), (.load 9 (.tmp 7)), none⟩,
   ⟨(some 9), (.fieldAddr 28 (.tmp 3) 1), none⟩,
   ⟨none, (.store 9 (.tmp 9) (.tmp 8)), none⟩])
 (.seq (.reg [⟨(some 10), (.fieldAddr 24 (.tmp 1) 2), none⟩,
   ⟨(some 11), (.load 3 (.tmp 10)), none⟩,
   ⟨(some 12), (.fieldAddr 28 (.tmp 3) 2), none⟩,
   ⟨none, (.store 3 (.tmp 12) (.tmp 11)), none⟩])
 (.seq (.reg [⟨(some 13), (.fieldAddr 24 (.tmp 1) 3), none⟩,
   ⟨(some 14), (.load 22 (.tmp 13)), none⟩,
   ⟨(some 15), (.call (.mk (.value (.func 13)) #[(.tmp 14)] #[22])), none⟩,
   ⟨(some 16), (.fieldAddr 28 (.tmp 3) 3), none⟩,
   ⟨none, (.store 22 (.tmp 16) (.tmp 15)), none⟩])
 (.seq (.reg [⟨(some 17), (.load 28 (.tmp 3)), none⟩,
   ⟨none, (.store 28 (.tmp 2) (.tmp 17)), none⟩])
 .ret)))))))
theorem x_laws_toShowFrame : Txt Tryd.prog 6 c_laws_toShowFrame [.cell 2 28] 1 := ⟨by kernel_rfl, by kernel_rfl, _, _, Tryd.func6, rfl, by kernel_rfl, by kernel_rfl, by kernel_rfl, rfl, by decide⟩
/-- loop.example/g01062/impl.ShowText -/
def c_impl_ShowText : Cd :=
 (.seq (.reg [⟨(some 1), (.box 28 (.tmp 0)), none⟩,
   ⟨(some 2), (.assign (.const (.string (ByteArray.mk #[])))), none⟩,
   ⟨(some 3), (.assign (.const (.bool false))), none⟩])
 (.seq (.seq (.reg [⟨(some 4), (.call (.mk (.value (.func 14)) #[(.tmp 1)] #[39])), none⟩,
   ⟨(some 5), (.unOp .not 4 (.tmp 4)), none⟩])
 (.cond (.tmp 5) (.seq (.reg [⟨(some 2), (.assign (.const (.string (ByteArray.mk #[])))), none⟩,
   ⟨(some 3), (.assign (.const (.bool false))), none⟩])
 .ret) .skip))
 (.seq (.regq [⟨(some 6), (.fieldAddr 28 (.tmp 1) 0), none⟩,
   ⟨(some 7), (.load 3 (.tmp 6)), none⟩,
   ⟨(some 8), (.call (.mk (.value (.func 15)) #[(.tmp 7)] #[3])), none⟩,
   ⟨(some 9), (.binOp .add 9 (.tmp 8) (.const (.string (ByteArray.mk #[32]))) 9), none⟩,
   ⟨(some 10), (.fieldAddr 28 (.tmp 1) 1), none⟩,
   ⟨(some 11), (.load 9 (.tmp 10)), none⟩,
   ⟨(some 12), (.binOp .add 9 (.tmp 9) (.tmp 11) 9), none⟩,
   ⟨(some 13), (.binOp .add 9 (.tmp 12) (.const (.string (ByteArray.mk #[32, 40]))) 9), none⟩,
   ⟨(some 14), (.fieldAddr 28 (.tmp 1) 2), none⟩,
   ⟨(some 15), (.load 3 (.tmp 14)), none⟩,
   ⟨(some 16), (.call (.mk (.value (.func 15)) #[(.tmp 15)] #[3])), none⟩,
   ⟨(some 17), (.binOp .add 9 (.tmp 13) (.tmp 16) 9), none⟩,
   ⟨(some 18), (.binOp .add 9 (.tmp 17) (.const (.string (ByteArray.mk #[102, 41, 58, 32]))) 9), none⟩,
   ⟨(some 19), (.build 40 #[(0, (.const (.string (ByteArray.mk #[116, 104, 97, 110, 107, 115])))), (1, (.const (.string (ByteArray.mk #[100, 105, 112, 108, 111, 109, 97])))), (2, (.const (.string (ByteArray.mk #[98, 114, 111, 110, 122, 101])))), (3, (.const (.string (ByteArray.mk #[115, 105, 108, 118, 101, 114])))), (4, (.const (.string (ByteArray.mk #[103, 111, 108, 100]))))]), none⟩,
   ⟨(some 20), (.fieldAddr 28 (.tmp 1) 3), none⟩,
   ⟨(some 21), (.load 22 (.tmp 20)), none⟩,
   ⟨(some 22), (.call (.mk (.value (.func 16)) #[(.tmp 21)] #[22])), none⟩,
   ⟨(some 23), (.index 40 (.tmp 19) (.tmp 22)), none⟩,
   ⟨(some 24), (.binOp .add 9 (.tmp 18) (.tmp 23) 9), none⟩,
   ⟨(some 2), (.assign (.tmp 24)), none⟩,
   ⟨(some 3), (.assign (.const (.bool true))), none⟩])
 .ret)))
theorem x_impl_ShowText : Txt Tryd.prog 7 c_impl_ShowText [.tmp 2, .tmp 3] 1 := ⟨by kernel_rfl, by kernel_rfl, _, _, Tryd.func7, rfl, by kernel_rfl, by kernel_rfl, by kernel_rfl, rfl, by decide⟩
/-- loop.example/g01062/laws.eqShowFrame -/
def c_laws_eqShowFrame : Cd :=
 (.seq (.reg [⟨(some 2), (.box 28 (.tmp 0)), none⟩,
   ⟨(some 3), (.box 28 (.tmp 1)), none⟩,
   ⟨(some 4), (.assign (.const (.bool false))), none⟩])
 (.seq (.seq (.reg [⟨(some 5), (.fieldAddr 28 (.tmp 2) 0), none⟩,
   ⟨(some 6), (.load 3 (.tmp 5)), none⟩,
   ⟨(some 7), (.fieldAddr 28 (.tmp 3) 0), none⟩,
   ⟨(some 8), (.load 3 (.tmp 7)), none⟩,
   ⟨(some 9), (.binOp .neq 3 (.tmp 6) (.tmp 8) 3), none⟩])
 (.cond (.tmp 9) (.seq (.reg [⟨(some 4), (.assign (.const (.bool false))), none⟩])
 .ret) .skip))
 (.seq (.seq (.reg [⟨(some 10), (.fieldAddr 28 (.tmp 2) 1), none⟩,
   ⟨(some 11), (.load 9 (.tmp 10)), none⟩,
   ⟨(some 12), (.fieldAddr 28 (.tmp 3) 1), none⟩,
   ⟨(some 13), (.load 9 (.tmp 12)), none⟩,
   ⟨(some 14), (.binOp .neq 9 (.tmp 11) (.tmp 13) 9), none⟩])
 (.cond (.tmp 14) (.seq (.reg [⟨(some 4), (.assign (.const (.bool false))), none⟩])
 .ret) .skip))
 (.seq (.seq (.reg [⟨(some 15), (.fieldAddr 28 (.tmp 2) 2), none⟩,
   ⟨(some 16), (.load 3 (.tmp 15)), none⟩,
   ⟨(some 17), (.fieldAddr 28 (.tmp 3) 2), none⟩,
   ⟨(some 18), (.load 3 (.tmp 17)), none⟩,
   ⟨(some 19), (.binOp .neq 3 (.tmp 16) (.tmp 18) 3), none⟩])
 (.cond (.tmp 19) (.seq (.reg [⟨(some 4), (.assign (.const (.bool false))), none⟩])
 .ret) .skip))
 (.seq (.seq (.reg [⟨(some 20), (.fieldAddr 28 (.tmp 2) 3), none⟩,
   ⟨(some 21), (.load 22 (.tmp 20)), none⟩,
   ⟨(some 22), (.fieldAddr 28 (.tmp 3) 3), none⟩,
   ⟨(some 23), (.load 22 (.tmp 22)), none⟩,
   ⟨(some 24), (.call (.mk (.value (.func 17)) #[(.tmp 21), (.tmp 23)] #[22, 22])), none⟩,
   ⟨(some 25), (.unOp .not 4 (.tmp 24)), none⟩])
 (.cond (.tmp 25) (.seq (.reg [⟨(some 4), (.assign (.const (.bool false))), none⟩])
 .ret) .skip))
 (.seq (.reg [⟨(some 4), (.assign (.const (.bool true))), none⟩])
 .ret))))))
theorem x_laws_eqShowFrame : Txt Tryd.prog 8 c_laws_eqShowFrame [.tmp 4] 2 := ⟨by kernel_rfl, by kernel_rfl, _, _, Tryd.func8, rfl, by kernel_rfl, by kernel_rfl, by kernel_rfl, rfl, by decide⟩
/-- loop.example/g01062/laws.szIntS -/
def c_laws_szIntS : Cd :=
 (.seq (.reg [⟨(some 4), (.assign (.const (.int .i64 0))), none⟩])
 (.seq (.reg [⟨(some 5), (.move (.tmp 1)), none⟩,
   ⟨(some 6), (.move (.tmp 0)), none⟩,
   ⟨(some 7), (.call (.mk (.builtin .len) #[(.tmp 6)] #[22])), none⟩,
   ⟨(some 8), (.binOp .sub 3 (.tmp 5) (.tmp 7) 3), none⟩,
   ⟨(some 1), (.assign (.tmp 8)), none⟩])
 (.seq (.seq (.reg [⟨(some 9), (.move (.tmp 1)), none⟩,
   ⟨(some 10), (.binOp .lss 3 (.tmp 9) (.const (.int .i64 0)) 3), none⟩])
 (.cond (.tmp 10) (.seq (.reg [⟨(some 4), (.assign (.const (.int .i64 (-1)))), none⟩])
 .ret) .skip))
 (.seq (.reg [⟨(some 11), (.move (.tmp 1)), none⟩,
   ⟨(some 4), (.assign (.tmp 11)), none⟩])
 .ret))))
theorem x_laws_szIntS : Txt Tryd.prog 9 c_laws_szIntS [.tmp 4] 2 := ⟨by kernel_rfl, by kernel_rfl, _, _, Tryd.func9, rfl, by kernel_rfl, by kernel_rfl, by kernel_rfl, rfl, by decide⟩
/-- loop.example/g01062/spec.l23One -/
def c_spec_l23One : Cd :=
 (.seq (.reg [⟨(some 1), (.box 28 (.tmp 0)), none⟩,
   ⟨(some 2), (.assign (.const (.bool false))), none⟩])
 (.seq (.seq (.reg [⟨(some 4), (.fieldAddr 28 (.tmp 1) 0), none⟩,
   ⟨(some 5), (.load 3 (.tmp 4)), none⟩,
   ⟨(some 6), (.call (.mk (.value (.func 18)) #[(.tmp 5), (.const (.int .i64 1)), (.const (.int .i64 99))] #[3, 3, 3])), none⟩,
   ⟨(some 7), (.unOp .not 4 (.tmp 6)), none⟩,
   ⟨(some 8), (.move (.tmp 7)), none⟩,
   ⟨(some 9), (.fieldAddr 28 (.tmp 1) 1), (some (8, false))⟩,
   ⟨(some 10), (.load 9 (.tmp 9)), (some (8, false))⟩,
   ⟨(some 11), (.call (.mk (.value (.func 19)) #[(.tmp 10)] #[9])), (some (8, false))⟩,
   ⟨(some 12), (.unOp .not 4 (.tmp 11)), (some (8, false))⟩,
   ⟨(some 13), (.pick (.tmp 8) (.const (.bool true)) (.tmp 12)), none⟩,
   ⟨(some 14), (.move (.tmp 13)), none⟩,
   ⟨(some 15), (.fieldAddr 28 (.tmp 1) 2), (some (14, false))⟩,
   ⟨(some 16), (.load 3 (.tmp 15)), (some (14, false))⟩,
   ⟨(some 17), (.call (.mk (.value (.func 18)) #[(.tmp 16), (.const (.int .i64 1)), (.const (.int .i64 16))] #[3, 3, 3])), (some (14, false))⟩,
   ⟨(some 18), (.unOp .not 4 (.tmp 17)), (some (14, false))⟩,
   ⟨(some 19), (.pick (.tmp 14) (.const (.bool true)) (.tmp 18)), none⟩,
   ⟨(some 20), (.move (.tmp 19)), none⟩,
   ⟨(some 21), (.fieldAddr 28 (.tmp 1) 3), (some (20, false))⟩,
   ⟨(some 22), (.load 22 (.tmp 21)), (some (20, false))⟩,
   ⟨(some 23), (.call (.mk (.builtin .len) #[(.tmp 22)] #[22])), (some (20, false))⟩,
   ⟨(some 24), (.call (.mk (.value (.func 18)) #[(.tmp 23), (.const (.int .i64 3)), (.const (.int .i64 7))] #[3, 3, 3])), (some (20, false))⟩,
   ⟨(some 25), (.unOp .not 4 (.tmp 24)), (some (20, false))⟩,
   ⟨(some 26), (.pick (.tmp 20) (.const (.bool true)) (.tmp 25)), none⟩])
 (.cond (.tmp 26) (.seq (.reg [⟨(some 2), (.assign (.const (.bool false))), none⟩])
 .ret) .skip))
 (.seq (.seq (.reg [⟨(some 3), (.assign (.const (.int .i64 0))), none⟩])
 (.block 0 (.loop (.seq (.seq (.reg [⟨(some 27), (.move (.tmp 3)), none⟩,
   ⟨(some 28), (.fieldAddr 28 (.tmp 1) 3), none⟩,
   ⟨(some 29), (.load 22 (.tmp 28)), none⟩,
   ⟨(some 30), (.call (.mk (.builtin .len) #[(.tmp 29)] #[22])), none⟩,
   ⟨(some 31), (.binOp .lss 3 (.tmp 27) (.tmp 30) 3), none⟩])
 (.cond (.tmp 31) .skip (.exit 0)))
 (.seq (.block 1 (.seq (.reg [⟨(some 34), (.fieldAddr 28 (.tmp 1) 3), none⟩,
   ⟨(some 35), (.load 22 (.tmp 34)), none⟩,
   ⟨(some 36), (.move (.tmp 3)), none⟩,
   ⟨(some 37), (.indexAddr 22 (.tmp 35) (.tmp 36)), none⟩,
   ⟨(some 38), (.load 3 (.tmp 37)), none⟩,
   ⟨(some 39), (.call (.mk (.value (.func 18)) #[(.tmp 38), (.const (.int .i64 0)), (.const (.int .i64 100))] #[3, 3, 3])), none⟩,
   ⟨(some 40), (.unOp .not 4 (.tmp 39)), none⟩])
 (.cond (.tmp 40) (.seq (.reg [⟨(some 2), (.assign (.const (.bool false))), none⟩])
 .ret) .skip)))
 (.reg [⟨(some 32), (.move (.tmp 3)), none⟩,
   ⟨(some 33), (.binOp .add 3 (.tmp 32) (.const (.int .i64 1)) 3), none⟩,
   ⟨(some 3), (.assign (.tmp 33)), none⟩]))))))
 (.seq (.reg [⟨(some 2), (.assign (.const (.bool true))), none⟩])
 .ret))))
theorem x_spec_l23One : Txt Tryd.prog 10 c_spec_l23One [.tmp 2] 1 := ⟨by kernel_rfl, by kernel_rfl, _, _, Tryd.func10, rfl, by kernel_rfl, by kernel_rfl, by kernel_rfl, rfl, by decide⟩
/-- loop.example/g01062/spec.l1Num -/
def c_spec_l1Num : Cd :=
 (.seq (.reg [⟨(some 2), (.assign (.const (.string (ByteArray.mk #[])))), none⟩])
 (.seq (.seq (.reg [⟨(some 3), (.move (.tmp 0)), none⟩,
   ⟨(some 4), (.binOp .lss 3 (.tmp 3) (.const (.int .i64 0)) 3), none⟩])
 (.cond (.tmp 4) (.seq (.reg [⟨(some 5), (.move (.tmp 0)), none⟩,
   ⟨(some 6), (.unOp .neg 3 (.tmp 5)), none⟩,
   ⟨(some 7), (.call (.mk (.value (.func 11)) #[(.tmp 6)] #[3])), none⟩,
   ⟨(some 8), (.binOp .add 9 (.const (.string (ByteArray.mk #[45]))) (.tmp 7) 9), none⟩,
   ⟨(some 2), (.assign (.tmp 8)), none⟩])
 .ret) .skip))
 (.seq (.seq (.reg [⟨(some 9), (.move (.tmp 0)), none⟩,
   ⟨(some 10), (.binOp .lss 3 (.tmp 9) (.const (.int .i64 10)) 3), none⟩])
 (.cond (.tmp 10) (.seq (.reg [⟨(some 11), (.move (.tmp 0)), none⟩,
   ⟨(some 12), (.move (.tmp 0)), none⟩,
   ⟨(some 13), (.binOp .add 3 (.tmp 12) (.const (.int .i64 1)) 3), none⟩,
   ⟨(some 14), (.slice 9 (.const (.string (ByteArray.mk #[48, 49, 50, 51, 52, 53, 54, 55, 56, 57]))) (some (.tmp 11)) (some (.tmp 13)) none), none⟩,
   ⟨(some 2), (.assign (.tmp 14)), none⟩])
 .ret) .skip))
 (.seq (.regq [⟨(some 15), (.move (.tmp 0)), none⟩,
   ⟨(some 16), (.binOp .quo 3 (.tmp 15) (.const (.int .i64 10)) 3), none⟩,
   ⟨(some 17), (.call (.mk (.value (.func 11)) #[(.tmp 16)] #[3])), none⟩,
   ⟨(some 18), (.move (.tmp 0)), none⟩,
   ⟨(some 19), (.binOp .rem 3 (.tmp 18) (.const (.int .i64 10)) 3), none⟩,
   ⟨(some 20), (.move (.tmp 0)), none⟩,
   ⟨(some 21), (.binOp .rem 3 (.tmp 20) (.const (.int .i64 10)) 3), none⟩,
   ⟨(some 22), (.binOp .add 3 (.tmp 21) (.const (.int .i64 1)) 3), none⟩,
   ⟨(some 23), (.slice 9 (.const (.string (ByteArray.mk #[48, 49, 50, 51, 52, 53, 54, 55, 56, 57]))) (some (.tmp 19)) (some (.tmp 22)) none), none⟩,
   ⟨(some 24), (.binOp .add 9 (.tmp 17) (.tmp 23) 9), none⟩,
   ⟨(some 2), (.assign (.tmp 24)), none⟩])
 .ret))))
theorem x_spec_l1Num : Txt Tryd.prog 11 c_spec_l1Num [.tmp 2] 1 := ⟨by kernel_rfl, by kernel_rfl, _, _, Tryd.func11, rfl, by kernel_rfl, by kernel_rfl, by kernel_rfl, rfl, by decide⟩
/-- loop.example/g01062/spec.l23Medal -/
def c_spec_l23Medal : Cd :=
 (.seq (.reg [⟨(some 2), (.assign (.const (.int .i64 0))), none⟩])
 (.seq (.reg [⟨(some 5), (.move (.tmp 0)), none⟩,
   ⟨(some 6), (.call (.mk (.value (.func 20)) #[(.tmp 5)] #[22])), none⟩,
   ⟨(some 7), (.move (.tmp 0)), none⟩,
   ⟨(some 8), (.call (.mk (.builtin .len) #[(.tmp 7)] #[22])), none⟩,
   ⟨(some 9), (.binOp .sub 3 (.tmp 8) (.const (.int .i64 2)) 3), none⟩,
   ⟨(some 3), (.assign (.tmp 6)), none⟩,
   ⟨(some 4), (.assign (.tmp 9)), none⟩])
 (.seq (.seq (.reg [⟨(some 10), (.move (.tmp 3)), none⟩,
   ⟨(some 11), (.move (.tmp 4)), none⟩,
   ⟨(some 12), (.binOp .mul 3 (.const (.int .i64 85)) (.tmp 11) 3), none⟩,
   ⟨(some 13), (.binOp .geq 3 (.tmp 10) (.tmp 12) 3), none⟩])
 (.cond (.tmp 13) (.seq (.reg [⟨(some 2), (.assign (.const (.int .i64 4))), none⟩])
 .ret) .skip))
 (.seq (.seq (.reg [⟨(some 14), (.move (.tmp 3)), none⟩,
   ⟨(some 15), (.move (.tmp 4)), none⟩,
   ⟨(some 16), (.binOp .mul 3 (.const (.int .i64 70)) (.tmp 15) 3), none⟩,
   ⟨(some 17), (.binOp .geq 3 (.tmp 14) (.tmp 16) 3), none⟩])
 (.cond (.tmp 17) (.seq (.reg [⟨(some 2), (.assign (.const (.int .i64 3))), none⟩])
 .ret) .skip))
 (.seq (.seq (.reg [⟨(some 18), (.move (.tmp 3)), none⟩,
   ⟨(some 19), (.move (.tmp 4)), none⟩,
   ⟨(some 20), (.binOp .mul 3 (.const (.int .i64 55)) (.tmp 19) 3), none⟩,
   ⟨(some 21), (.binOp .geq 3 (.tmp 18) (.tmp 20) 3), none⟩])
 (.cond (.tmp 21) (.seq (.reg [⟨(some 2), (.assign (.const (.int .i64 2))), none⟩])
 .ret) .skip))
 (.seq (.seq (.reg [⟨(some 22), (.move (.tmp 3)), none⟩,
   ⟨(some 23), (.move (.tmp 4)), none⟩,
   ⟨(some 24), (.binOp .mul 3 (.const (.int .i64 40)) (.tmp 23) 3), none⟩,
   ⟨(some 25), (.binOp .geq 3 (.tmp 22) (.tmp 24) 3), none⟩])
 (.cond (.tmp 25) (.seq (.reg [⟨(some 2), (.assign (.const (.int .i64 1))), none⟩])
 .ret) .skip))
 (.seq (.reg [⟨(some 2), (.assign (.const (.int .i64 0))), none⟩])
 .ret)))))))
theorem x_spec_l23Medal : Txt Tryd.prog 12 c_spec_l23Medal [.tmp 2] 1 := ⟨by kernel_rfl, by kernel_rfl, _, _, Tryd.func12, rfl, by kernel_rfl, by kernel_rfl, by kernel_rfl, rfl, by decide⟩
/-- loop.example/g01062/laws.toIntS -/
def c_laws_toIntS : Cd :=
 (.seq (.reg [⟨(some 2), (.assign (.const (.slice none 0 0))), none⟩])
 (.seq (.reg [⟨(some 5), (.move (.tmp 0)), none⟩,
   ⟨(some 6), (.call (.mk (.builtin .len) #[(.tmp 5)] #[22])), none⟩,
   ⟨(some 7), (.makeSlice 22 (.tmp 6) (.tmp 6)), none⟩,
   ⟨(some 3), (.assign (.tmp 7)), none⟩])
 (.seq (.seq (.reg [⟨(some 4), (.assign (.const (.int .i64 0))), none⟩])
 (.block 0 (.loop (.seq (.seq (.reg [⟨(some 8), (.move (.tmp 4)), none⟩,
   ⟨(some 9), (.move (.tmp 0)), none⟩,
   ⟨(some 10), (.call (.mk (.builtin .len) #[(.tmp 9)] #[22])), none⟩,
   ⟨(some 11), (.binOp .lss 3 (.tmp 8) (.tmp 10) 3), none⟩])
 (.cond (.tmp 11) .skip (.exit 0)))
 (.seq (.block 1 (.reg [⟨(some 14), (.move (.tmp 3)), none⟩,
   ⟨(some 15), (.move (.tmp 4)), none⟩,
   ⟨(some 16), (.move (.tmp 0)), none⟩,
   ⟨(some 17), (.move (.tmp 4)), none⟩,
   ⟨(some 18), (.indexAddr 22 (.tmp 16) (.tmp 17)), none⟩,
   ⟨(some 19), (.load 3 (.tmp 18)), none⟩,
   ⟨(some 20), (.indexAddr 22 (.tmp 14) (.tmp 15)), none⟩,
   ⟨none, (.store 3 (.tmp 20) (.tmp 19)), none⟩]))
 (.reg [⟨(some 12), (.move (.tmp 4)), none⟩,
   ⟨(some 13), (.binOp .add 3 (.tmp 12) (.const (.int .i64 1)) 3), none⟩,
   ⟨(some 4), (.assign (.tmp 13)), none⟩]))))))
 (.seq (.reg [⟨(some 21), (.move (.tmp 3)), none⟩,
   ⟨(some 2), (.assign (.tmp 21)), none⟩])
 .ret))))
theorem x_laws_toIntS : Txt Tryd.prog 13 c_laws_toIntS [.tmp 2] 1 := ⟨by kernel_rfl, by kernel_rfl, _, _, Tryd.func13, rfl, by kernel_rfl, by kernel_rfl, by kernel_rfl, rfl, by decide⟩
/-- loop.example/g01062/impl.isExhibit -/
def c_impl_isExhibit : Cd :=
 (.seq (.reg [⟨(some 2), (.assign (.const (.bool false))), none⟩])
 (.seq (.reg [⟨(some 3), (.move (.tmp 0)), none⟩,
   ⟨(some 4), (.nilCheck (.tmp 3)), none⟩,
   ⟨(some 5), (.fieldAddr 28 (.tmp 4) 0), none⟩,
   ⟨(some 6), (.load 3 (.tmp 5)), none⟩,
   ⟨(some 7), (.call (.mk (.value (.func 21)) #[(.tmp 6), (.const (.int .i64 1)), (.const (.int .i64 99))] #[3, 3, 3])), none⟩,
   ⟨(some 8), (.move (.tmp 7)), none⟩,
   ⟨(some 9), (.move (.tmp 0)), (some (8, true))⟩,
   ⟨(some 10), (.nilCheck (.tmp 9)), (some (8, true))⟩,
   ⟨(some 11), (.fieldAddr 28 (.tmp 10) 1), (some (8, true))⟩,
   ⟨(some 12), (.load 9 (.tmp 11)), (some (8, true))⟩,
   ⟨(some 13), (.call (.mk (.value (.func 22)) #[(.tmp 12)] #[9])), (some (8, true))⟩,
   ⟨(some 14), (.pick (.tmp 8) (.tmp 13) (.const (.bool false))), none⟩,
   ⟨(some 15), (.move (.tmp 14)), none⟩,
   ⟨(some 16), (.move (.tmp 0)), (some (15, true))⟩,
   ⟨(some 17), (.nilCheck (.tmp 16)), (some (15, true))⟩,
   ⟨(some 18), (.fieldAddr 28 (.tmp 17) 2), (some (15, true))⟩,
   ⟨(some 19), (.load 3 (.tmp 18)), (some (15, true))⟩,
   ⟨(some 20), (.call (.mk (.value (.func 21)) #[(.tmp 19), (.const (.int .i64 1)), (.const (.int .i64 16))] #[3, 3, 3])), (some (15, true))⟩,
   ⟨(some 21), (.pick (.tmp 15) (.tmp 20) (.const (.bool false))), none⟩,
   ⟨(some 22), (.move (.tmp 21)), none⟩,
   ⟨(some 23), (.move (.tmp 0)), (some (22, true))⟩,
   ⟨(some 24), (.nilCheck (.tmp 23)), (some (22, true))⟩,
   ⟨(some 25), (.fieldAddr 28 (.tmp 24) 3), (some (22, true))⟩,
   ⟨(some 26), (.load 22 (.tmp 25)), (some (22, true))⟩,
   ⟨(some 27), (.call (.mk (.builtin .len) #[(.tmp 26)] #[22])), (some (22, true))⟩,
   ⟨(some 28), (.call (.mk (.value (.func 21)) #[(.tmp 27), (.const (.int .i64 3)), (.const (.int .i64 7))] #[3, 3, 3])), (some (22, true))⟩,
   ⟨(some 29), (.pick (.tmp 22) (.tmp 28) (.const (.bool false))), none⟩,
   ⟨(some 30), (.move (.tmp 29)), none⟩,
   ⟨(some 31), (.move (.tmp 0)), (some (30, true))⟩,
   ⟨(some 32), (.nilCheck (.tmp 31)), (some (30, true))⟩,
   ⟨(some 33), (.fieldAddr 28 (.tmp 32) 3), (some (30, true))⟩,
   ⟨(some 34), (.load 22 (.tmp 33)), (some (30, true))⟩,
   ⟨(some 35), (.call (.mk (.value (.func 23)) #[(.tmp 34), (.func 24)] #[22, 45])), (some (30, true))⟩,
   ⟨(some 36), (.unOp .not 4 (.tmp 35)), (some (30, true))⟩,
   ⟨(some 37), (.pick (.tmp 30) (.tmp 36) (.const (.bool false))), none⟩,
   ⟨(some 2), (.assign (.tmp 37)), none⟩])
 .ret))
theorem x_impl_isExhibit : Txt Tryd.prog 14 c_impl_isExhibit [.tmp 2] 1 := ⟨by kernel_rfl, by kernel_rfl, _, _, Tryd.func14, rfl, by kernel_rfl, by kernel_rfl, by kernel_rfl, rfl, by decide⟩
/-- loop.example/g01062/impl.medalOf -/
def c_impl_medalOf : Cd :=
 (.seq (.reg [⟨(some 2), (.assign (.const (.int .i64 0))), none⟩])
 (.seq (.reg [⟨(some 3), (.assign (.const (.int .i64 0))), none⟩])
 (.seq (.seq (.reg [⟨(some 6), (.buildSlice 22 4 #[(0, (.const (.int .i64 40))), (1, (.const (.int .i64 55))), (2, (.const (.int .i64 70))), (3, (.const (.int .i64 85)))]), none⟩,
   ⟨(some 7), (.call (.mk (.builtin .len) #[(.tmp 6)] #[22])), none⟩,
   ⟨(some 8), (.move (.const (.int .i64 0))), none⟩])
 (.block 0 (.loop (.seq (.reg [⟨(some 9), (.binOp .lss 3 (.tmp 8) (.tmp 7) 3), none⟩])
 (.seq (.cond (.tmp 9) .skip (.exit 0))
 (.seq (.block 1 (.seq (.reg [⟨(some 10), (.indexAddr 22 (.tmp 6) (.tmp 8)), none⟩,
   ⟨(some 11), (.load 3 (.tmp 10)), none⟩,
   ⟨(some 5), (.assign (.tmp 11)), none⟩])
 (.seq (.reg [⟨(some 12), (.move (.tmp 0)), none⟩,
   ⟨(some 13), (.call (.mk (.value (.func 26)) #[(.tmp 12)] #[22])), none⟩,
   ⟨(some 14), (.move (.tmp 5)), none⟩,
   ⟨(some 15), (.move (.tmp 0)), none⟩,
   ⟨(some 16), (.call (.mk (.builtin .len) #[(.tmp 15)] #[22])), none⟩,
   ⟨(some 17), (.binOp .sub 3 (.tmp 16) (.const (.int .i64 2)) 3), none⟩,
   ⟨(some 18), (.binOp .mul 3 (.tmp 14) (.tmp 17) 3), none⟩,
   ⟨(some 19), (.binOp .geq 3 (.tmp 13) (.tmp 18) 3), none⟩])
 (.cond (.tmp 19) (.reg [⟨(some 20), (.move (.tmp 3)), none⟩,
   ⟨(some 21), (.binOp .add 3 (.tmp 20) (.const (.int .i64 1)) 3), none⟩,
   ⟨(some 3), (.assign (.tmp 21)), none⟩]) .skip))))
 (.reg [⟨(some 22), (.binOp .add 3 (.tmp 8) (.const (.int .i64 1)) 3), none⟩,
   ⟨(some 8), (.move (.tmp 22)), none⟩])))))))
 (.seq (.reg [⟨(some 23), (.move (.tmp 3)), none⟩,
   ⟨(some 2), (.assign (.tmp 23)), none⟩])
 .ret))))
theorem x_impl_medalOf : Txt Tryd.prog 16 c_impl_medalOf [.tmp 2] 1 := ⟨by kernel_rfl, by kernel_rfl, _, _, Tryd.func16, rfl, by kernel_rfl, by kernel_rfl, by kernel_rfl, rfl, by decide⟩
/-- loop.example/g01062/laws.eqIntS -/
def c_laws_eqIntS : Cd :=
 (.seq (.reg [⟨(some 4), (.assign (.const (.bool false))), none⟩])
 (.seq (.seq (.reg [⟨(some 6), (.move (.tmp 0)), none⟩,
   ⟨(some 7), (.call (.mk (.builtin .len) #[(.tmp 6)] #[22])), none⟩,
   ⟨(some 8), (.move (.tmp 1)), none⟩,
   ⟨(some 9), (.call (.mk (.builtin .len) #[(.tmp 8)] #[22])), none⟩,
   ⟨(some 10), (.binOp .neq 3 (.tmp 7) (.tmp 9) 3), none⟩])
 (.cond (.tmp 10) (.seq (.reg [⟨(some 4), (.assign (.const (.bool false))), none⟩])
 .ret) .skip))
 (.seq (.seq (.reg [⟨(some 5), (.assign (.const (.int .i64 0))), none⟩])
 (.block 0 (.loop (.seq (.seq (.reg [⟨(some 11), (.move (.tmp 5)), none⟩,
   ⟨(some 12), (.move (.tmp 0)), none⟩,
   ⟨(some 13), (.call (.mk (.builtin .len) #[(.tmp 12)] #[22])), none⟩,
   ⟨(some 14), (.binOp .lss 3 (.tmp 11) (.tmp 13) 3), none⟩])
 (.cond (.tmp 14) .skip (.exit 0)))
 (.seq (.block 1 (.seq (.regq [⟨(some 17), (.move (.tmp 0)), none⟩,
   ⟨(some 18), (.move (.tmp 5)), none⟩,
   ⟨(some 19), (.indexAddr 22 (.tmp 17) (.tmp 18)), none⟩,
   ⟨(some 20), (.load 3 (.tmp 19)), none⟩,
   ⟨(some 21), (.move (.tmp 1)), none⟩,
   ⟨(some 22), (.move (.tmp 5)), none⟩,
   ⟨(some 23), (.indexAddr 22 (.tmp 21) (.tmp 22)), none⟩,
   ⟨(some 24), (.load 3 (.tmp 23)), none⟩,
   ⟨(some 25), (.binOp .neq 3 (.tmp 20) (.tmp 24) 3), none⟩])
 (.cond (.tmp 25) (.seq (.reg [⟨(some 4), (.assign (.const (.bool false))), none⟩])
 .ret) .skip)))
 (.reg [⟨(some 15), (.move (.tmp 5)), none⟩,
   ⟨(some 16), (.binOp .add 3 (.tmp 15) (.const (.int .i64 1)) 3), none⟩,
   ⟨(some 5), (.assign (.tmp 16)), none⟩]))))))
 (.seq (.reg [⟨(some 4), (.assign (.const (.bool true))), none⟩])
 .ret))))
theorem x_laws_eqIntS : Txt Tryd.prog 17 c_laws_eqIntS [.tmp 4] 2 := ⟨by kernel_rfl, by kernel_rfl, _, _, Tryd.func17, rfl, by kernel_rfl, by kernel_rfl, by kernel_rfl, rfl, by decide⟩
/-- loop.example/g01062/spec.l1In -/
def c_spec_l1In : Cd :=
 (.seq (.reg [⟨(some 6), (.assign (.const (.bool false))), none⟩])
 (.seq (.reg [⟨(some 7), (.move (.tmp 0)), none⟩,
   ⟨(some 8), (.move (.tmp 1)), none⟩,
   ⟨(some 9), (.binOp .geq 3 (.tmp 7) (.tmp 8) 3), none⟩,
   ⟨(some 10), (.move (.tmp 9)), none⟩,
   ⟨(some 11), (.move (.tmp 0)), (some (10, true))⟩,
   ⟨(some 12), (.move (.tmp 2)), (some (10, true))⟩,
   ⟨(some 13), (.binOp .leq 3 (.tmp 11) (.tmp 12) 3), (some (10, true))⟩,
   ⟨(some 14), (.pick (.tmp 10) (.tmp 13) (.const (.bool false))), none⟩,
   ⟨(some 6), (.assign (.tmp 14)), none⟩])
 .ret))
theorem x_spec_l1In : Txt Tryd.prog 18 c_spec_l1In [.tmp 6] 3 := ⟨by kernel_rfl, by kernel_rfl, _, _, Tryd.func18, rfl, by kernel_rfl, by kernel_rfl, by kernel_rfl, rfl, by decide⟩
/-- loop.example/g01062/spec.l2Word -/
def c_spec_l2Word : Cd :=
 (.seq (.reg [⟨(some 2), (.assign (.const (.bool false))), none⟩])
 (.seq (.seq (.reg [⟨(some 3), (.assign (.const (.int .i64 0))), none⟩])
 (.block 0 (.loop (.seq (.seq (.reg [⟨(some 4), (.move (.tmp 3)), none⟩,
   ⟨(some 5), (.move (.tmp 0)), none⟩,
   ⟨(some 6), (.call (.mk (.builtin .len) #[(.tmp 5)] #[9])), none⟩,
   ⟨(some 7), (.binOp .lss 3 (.tmp 4) (.tmp 6) 3), none⟩])
 (.cond (.tmp 7) .skip (.exit 0)))
 (.seq (.block 1 (.seq (.reg [⟨(some 10), (.move (.tmp 0)), none⟩,
   ⟨(some 11), (.move (.tmp 3)), none⟩,
   ⟨(some 12), (.index 9 (.tmp 10) (.tmp 11)), none⟩,
   ⟨(some 13), (.binOp .lss 5 (.tmp 12) (.const (.int .u8 97)) 5), none⟩,
   ⟨(some 14), (.move (.tmp 13)), none⟩,
   ⟨(some 15), (.move (.tmp 0)), (some (14, false))⟩,
   ⟨(some 16), (.move (.tmp 3)), (some (14, false))⟩,
   ⟨(some 17), (.index 9 (.tmp 15) (.tmp 16)), (some (14, false))⟩,
   ⟨(some 18), (.binOp .gtr 5 (.tmp 17) (.const (.int .u8 122)) 5), (some (14, false))⟩,
   ⟨(some 19), (.pick (.tmp 14) (.const (.bool true)) (.tmp 18)), none⟩])
 (.cond (.tmp 19) (.seq (.reg [⟨(some 2), (.assign (.const (.bool false))), none⟩])
 .ret) .skip)))
 (.reg [⟨(some 8), (.move (.tmp 3)), none⟩,
   ⟨(some 9), (.binOp .add 3 (.tmp 8) (.const (.int .i64 1)) 3), none⟩,
   ⟨(some 3), (.assign (.tmp 9)), none⟩]))))))
 (.seq (.reg [⟨(some 20), (.move (.tmp 0)), none⟩,
   ⟨(some 21), (.call (.mk (.builtin .len) #[(.tmp 20)] #[9])), none⟩,
   ⟨(some 22), (.call (.mk (.value (.func 18)) #[(.tmp 21), (.const (.int .i64 1)), (.const (.int .i64 10))] #[3, 3, 3])), none⟩,
   ⟨(some 2), (.assign (.tmp 22)), none⟩])
 .ret)))
theorem x_spec_l2Word : Txt Tryd.prog 19 c_spec_l2Word [.tmp 2] 1 := ⟨by kernel_rfl, by kernel_rfl, _, _, Tryd.func19, rfl, by kernel_rfl, by kernel_rfl, by kernel_rfl, rfl, by decide⟩
/-- loop.example/g01062/spec.l23Sum -/
def c_spec_l23Sum : Cd :=
 (.seq (.reg [⟨(some 2), (.assign (.const (.int .i64 0))), none⟩])
 (.seq (.reg [⟨(some 8), (.move (.tmp 0)), none⟩,
   ⟨(some 9), (.call (.mk (.value (.func 27)) #[(.tmp 8)] #[22])), none⟩,
   ⟨(some 7), (.move (.tmp 9)), none⟩,
   ⟨(some 10), (.extract (.tmp 7) 0), none⟩,
   ⟨(some 11), (.extract (.tmp 7) 1), none⟩,
   ⟨(some 3), (.assign (.tmp 10)), none⟩,
   ⟨(some 4), (.assign (.tmp 11)), none⟩])
 (.seq (.reg [⟨(some 12), (.move (.tmp 3)), none⟩,
   ⟨(some 13), (.unOp .neg 3 (.tmp 12)), none⟩,
   ⟨(some 14), (.move (.tmp 4)), none⟩,
   ⟨(some 15), (.binOp .sub 3 (.tmp 13) (.tmp 14) 3), none⟩,
   ⟨(some 5), (.assign (.tmp 15)), none⟩])
 (.seq (.seq (.reg [⟨(some 6), (.assign (.const (.int .i64 0))), none⟩])
 (.block 0 (.loop (.seq (.seq (.reg [⟨(some 16), (.move (.tmp 6)), none⟩,
   ⟨(some 17), (.move (.tmp 0)), none⟩,
   ⟨(some 18), (.call (.mk (.builtin .len) #[(.tmp 17)] #[22])), none⟩,
   ⟨(some 19), (.binOp .lss 3 (.tmp 16) (.tmp 18) 3), none⟩])
 (.cond (.tmp 19) .skip (.exit 0)))
 (.seq (.block 1 (.reg [⟨(some 22), (.move (.tmp 5)), none⟩,
   ⟨(some 23), (.move (.tmp 0)), none⟩,
   ⟨(some 24), (.move (.tmp 6)), none⟩,
   ⟨(some 25), (.indexAddr 22 (.tmp 23) (.tmp 24)), none⟩,
   ⟨(some 26), (.load 3 (.tmp 25)), none⟩,
   ⟨(some 27), (.binOp .add 3 (.tmp 22) (.tmp 26) 3), none⟩,
   ⟨(some 5), (.assign (.tmp 27)), none⟩]))
 (.reg [⟨(some 20), (.move (.tmp 6)), none⟩,
   ⟨(some 21), (.binOp .add 3 (.tmp 20) (.const (.int .i64 1)) 3), none⟩,
   ⟨(some 6), (.assign (.tmp 21)), none⟩]))))))
 (.seq (.reg [⟨(some 28), (.move (.tmp 5)), none⟩,
   ⟨(some 2), (.assign (.tmp 28)), none⟩])
 .ret)))))
theorem x_spec_l23Sum : Txt Tryd.prog 20 c_spec_l23Sum [.tmp 2] 1 := ⟨by kernel_rfl, by kernel_rfl, _, _, Tryd.func20, rfl, by kernel_rfl, by kernel_rfl, by kernel_rfl, rfl, by decide⟩
/-- loop.example/g01062/impl.inRange -/
def c_impl_inRange : Cd :=
 (.seq (.reg [⟨(some 6), (.assign (.const (.bool false))), none⟩])
 (.seq (.reg [⟨(some 7), (.move (.tmp 0)), none⟩,
   ⟨(some 8), (.move (.tmp 1)), none⟩,
   ⟨(some 9), (.binOp .geq 3 (.tmp 7) (.tmp 8) 3), none⟩,
   ⟨(some 10), (.move (.tmp 9)), none⟩,
   ⟨(some 11), (.move (.tmp 0)), (some (10, true))⟩,
   ⟨(some 12), (.move (.tmp 2)), (some (10, true))⟩,
   ⟨(some 13), (.binOp .leq 3 (.tmp 11) (.tmp 12) 3), (some (10, true))⟩,
   ⟨(some 14), (.pick (.tmp 10) (.tmp 13) (.const (.bool false))), none⟩,
   ⟨(some 6), (.assign (.tmp 14)), none⟩])
 .ret))
theorem x_impl_inRange : Txt Tryd.prog 21 c_impl_inRange [.tmp 6] 3 := ⟨by kernel_rfl, by kernel_rfl, _, _, Tryd.func21, rfl, by kernel_rfl, by kernel_rfl, by kernel_rfl, rfl, by decide⟩
/-- loop.example/g01062/impl.isWord -/
def c_impl_isWord : Cd :=
 (.seq (.reg [⟨(some 2), (.assign (.const (.bool false))), none⟩])
 (.seq (.seq (.reg [⟨(some 4), (.move (.tmp 0)), none⟩,
   ⟨(some 5), (.call (.mk (.builtin .len) #[(.tmp 4)] #[9])), none⟩,
   ⟨(some 6), (.move (.const (.int .i64 0))), none⟩])
 (.block 0 (.loop (.seq (.reg [⟨(some 7), (.binOp .lss 3 (.tmp 6) (.tmp 5) 3), none⟩])
 (.seq (.cond (.tmp 7) .skip (.exit 0))
 (.seq (.block 1 (.seq (.reg [⟨(some 8), (.move (.tmp 6)), none⟩,
   ⟨(some 3), (.assign (.tmp 8)), none⟩])
 (.seq (.reg [⟨(some 9), (.move (.tmp 0)), none⟩,
   ⟨(some 10), (.move (.tmp 3)), none⟩,
   ⟨(some 11), (.index 9 (.tmp 9) (.tmp 10)), none⟩,
   ⟨(some 12), (.binOp .lss 5 (.tmp 11) (.const (.int .u8 97)) 5), none⟩,
   ⟨(some 13), (.move (.tmp 12)), none⟩,
   ⟨(some 14), (.move (.tmp 0)), (some (13, false))⟩,
   ⟨(some 15), (.move (.tmp 3)), (some (13, false))⟩,
   ⟨(some 16), (.index 9 (.tmp 14) (.tmp 15)), (some (13, false))⟩,
   ⟨(some 17), (.binOp .gtr 5 (.tmp 16) (.const (.int .u8 122)) 5), (some (13, false))⟩,
   ⟨(some 18), (.pick (.tmp 13) (.const (.bool true)) (.tmp 17)), none⟩])
 (.cond (.tmp 18) (.seq (.reg [⟨(some 2), (.assign (.const (.bool false))), none⟩])
 .ret) .skip))))
 (.reg [⟨(some 19), (.binOp .add 3 (.tmp 6) (.const (.int .i64 1)) 3), none⟩,
   ⟨(some 6), (.move (.tmp 19)), none⟩])))))))
 (.seq (.reg [⟨(some 20), (.move (.tmp 0)), none⟩,
   ⟨(some 21), (.call (.mk (.builtin .len) #[(.tmp 20)] #[9])), none⟩,
   ⟨(some 22), (.call (.mk (.value (.func 21)) #[(.tmp 21), (.const (.int .i64 1)), (.const (.int .i64 10))] #[3, 3, 3])), none⟩,
   ⟨(some 2), (.assign (.tmp 22)), none⟩])
 .ret)))
theorem x_impl_isWord : Txt Tryd.prog 22 c_impl_isWord [.tmp 2] 1 := ⟨by kernel_rfl, by kernel_rfl, _, _, Tryd.func22, rfl, by kernel_rfl, by kernel_rfl, by kernel_rfl, rfl, by decide⟩
/-- slices.ContainsFunc[[]int,int] -/
def c_slices_ContainsFunc_int : Cd :=
 (.seq (.reg [⟨(some 4), (.assign (.const (.bool false))), none⟩])
 (.seq (.reg [⟨(some 5), (.move (.tmp 0)), none⟩,
   ⟨(some 6), (.move (.tmp 1)), none⟩,
   ⟨(some 7), (.call (.mk (.value (.func 28)) #[(.tmp 5), (.tmp 6)] #[22, 45])), none⟩,
   ⟨(some 8), (.binOp .geq 3 (.tmp 7) (.const (.int .i64 0)) 3), none⟩,
   ⟨(some 4), (.assign (.tmp 8)), none⟩])
 .ret))
theorem x_slices_ContainsFunc_int : Txt Tryd.prog 23 c_slices_ContainsFunc_int [.tmp 4] 2 := ⟨by kernel_rfl, by kernel_rfl, _, _, Tryd.func23, rfl, by kernel_rfl, by kernel_rfl, by kernel_rfl, rfl, by decide⟩
/-- loop.example/g01062/impl.isExhibit closure 1 -/
def c_impl_isExhibit_1 : Cd :=
 (.seq (.reg [⟨(some 2), (.assign (.const (.bool false))), none⟩])
 (.seq (.reg [⟨(some 3), (.move (.tmp 0)), none⟩,
   ⟨(some 4), (.call (.mk (.value (.func 21)) #[(.tmp 3), (.const (.int .i64 0)), (.const (.int .i64 100))] #[3, 3, 3])), none⟩,
   ⟨(some 5), (.unOp .not 4 (.tmp 4)), none⟩,
   ⟨(some 2), (.assign (.tmp 5)), none⟩])
 .ret))
theorem x_impl_isExhibit_1 : Txt Tryd.prog 24 c_impl_isExhibit_1 [.tmp 2] 1 := ⟨by kernel_rfl, by kernel_rfl, _, _, Tryd.func24, rfl, by kernel_rfl, by kernel_rfl, by kernel_rfl, rfl, by decide⟩
/-- loop.example/g01062/impl.scoreOf -/
def c_impl_scoreOf : Cd :=
 (.seq (.reg [⟨(some 2), (.assign (.const (.int .i64 0))), none⟩])
 (.seq (.reg [⟨(some 6), (.move (.tmp 0)), none⟩,
   ⟨(some 7), (.call (.mk (.value (.func 30)) #[(.tmp 6)] #[22])), none⟩,
   ⟨(some 8), (.unOp .neg 3 (.tmp 7)), none⟩,
   ⟨(some 9), (.move (.tmp 0)), none⟩,
   ⟨(some 10), (.call (.mk (.value (.func 31)) #[(.tmp 9)] #[22])), none⟩,
   ⟨(some 11), (.binOp .sub 3 (.tmp 8) (.tmp 10) 3), none⟩,
   ⟨(some 3), (.assign (.tmp 11)), none⟩])
 (.seq (.seq (.reg [⟨(some 12), (.move (.tmp 0)), none⟩,
   ⟨(some 13), (.call (.mk (.builtin .len) #[(.tmp 12)] #[22])), none⟩,
   ⟨(some 14), (.move (.const (.int .i64 0))), none⟩])
 (.block 0 (.loop (.seq (.reg [⟨(some 15), (.binOp .lss 3 (.tmp 14) (.tmp 13) 3), none⟩])
 (.seq (.cond (.tmp 15) .skip (.exit 0))
 (.seq (.block 1 (.seq (.reg [⟨(some 16), (.indexAddr 22 (.tmp 12) (.tmp 14)), none⟩,
   ⟨(some 17), (.load 3 (.tmp 16)), none⟩,
   ⟨(some 5), (.assign (.tmp 17)), none⟩])
 (.reg [⟨(some 18), (.move (.tmp 3)), none⟩,
   ⟨(some 19), (.move (.tmp 5)), none⟩,
   ⟨(some 20), (.binOp .add 3 (.tmp 18) (.tmp 19) 3), none⟩,
   ⟨(some 3), (.assign (.tmp 20)), none⟩])))
 (.reg [⟨(some 21), (.binOp .add 3 (.tmp 14) (.const (.int .i64 1)) 3), none⟩,
   ⟨(some 14), (.move (.tmp 21)), none⟩])))))))
 (.seq (.reg [⟨(some 22), (.move (.tmp 3)), none⟩,
   ⟨(some 2), (.assign (.tmp 22)), none⟩])
 .ret))))
theorem x_impl_scoreOf : Txt Tryd.prog 26 c_impl_scoreOf [.tmp 2] 1 := ⟨by kernel_rfl, by kernel_rfl, _, _, Tryd.func26, rfl, by kernel_rfl, by kernel_rfl, by kernel_rfl, rfl, by decide⟩
/-- loop.example/g01062/spec.l23Bounds -/
def c_spec_l23Bounds : Cd :=
 (.seq (.reg [⟨(some 2), (.assign (.const (.int .i64 0))), none⟩,
   ⟨(some 3), (.assign (.const (.int .i64 0))), none⟩])
 (.seq (.regq [⟨(some 7), (.move (.tmp 0)), none⟩,
   ⟨(some 8), (.indexAddr 22 (.tmp 7) (.const (.int .i64 0))), none⟩,
   ⟨(some 9), (.load 3 (.tmp 8)), none⟩,
   ⟨(some 10), (.move (.tmp 0)), none⟩,
   ⟨(some 11), (.indexAddr 22 (.tmp 10) (.const (.int .i64 0))), none⟩,
   ⟨(some 12), (.load 3 (.tmp 11)), none⟩,
   ⟨(some 4), (.assign (.tmp 9)), none⟩,
   ⟨(some 5), (.assign (.tmp 12)), none⟩])
 (.seq (.seq (.reg [⟨(some 6), (.assign (.const (.int .i64 0))), none⟩])
 (.block 0 (.loop (.seq (.seq (.reg [⟨(some 13), (.move (.tmp 6)), none⟩,
   ⟨(some 14), (.move (.tmp 0)), none⟩,
   ⟨(some 15), (.call (.mk (.builtin .len) #[(.tmp 14)] #[22])), none⟩,
   ⟨(some 16), (.binOp .lss 3 (.tmp 13) (.tmp 15) 3), none⟩])
 (.cond (.tmp 16) .skip (.exit 0)))
 (.seq (.block 1 (.seq (.reg [⟨(some 19), (.move (.tmp 4)), none⟩,
   ⟨(some 20), (.move (.tmp 0)), none⟩,
   ⟨(some 21), (.move (.tmp 6)), none⟩,
   ⟨(some 22), (.indexAddr 22 (.tmp 20) (.tmp 21)), none⟩,
   ⟨(some 23), (.load 3 (.tmp 22)), none⟩,
   ⟨(some 24), (.call (.mk (.value (.func 32)) #[(.tmp 19), (.tmp 23)] #[3, 3])), none⟩,
   ⟨(some 4), (.assign (.tmp 24)), none⟩])
 (.reg [⟨(some 25), (.move (.tmp 5)), none⟩,
   ⟨(some 26), (.move (.tmp 0)), none⟩,
   ⟨(some 27), (.move (.tmp 6)), none⟩,
   ⟨(some 28), (.indexAddr 22 (.tmp 26) (.tmp 27)), none⟩,
   ⟨(some 29), (.load 3 (.tmp 28)), none⟩,
   ⟨(some 30), (.call (.mk (.value (.func 33)) #[(.tmp 25), (.tmp 29)] #[3, 3])), none⟩,
   ⟨(some 5), (.assign (.tmp 30)), none⟩])))
 (.reg [⟨(some 17), (.move (.tmp 6)), none⟩,
   ⟨(some 18), (.binOp .add 3 (.tmp 17) (.const (.int .i64 1)) 3), none⟩,
   ⟨(some 6), (.assign (.tmp 18)), none⟩]))))))
 (.seq (.reg [⟨(some 31), (.move (.tmp 4)), none⟩,
   ⟨(some 32), (.move (.tmp 5)), none⟩,
   ⟨(some 2), (.assign (.tmp 31)), none⟩,
   ⟨(some 3), (.assign (.tmp 32)), none⟩])
 .ret))))
theorem x_spec_l23Bounds : Txt Tryd.prog 27 c_spec_l23Bounds [.tmp 2, .tmp 3] 1 := ⟨by kernel_rfl, by kernel_rfl, _, _, Tryd.func27, rfl, by kernel_rfl, by kernel_rfl, by kernel_rfl, rfl, by decide⟩
/-- slices.IndexFunc[[]int,int] -/
def c_slices_IndexFunc_int : Cd :=
 (.seq (.reg [⟨(some 4), (.assign (.const (.int .i64 0))), none⟩])
 (.seq (.seq (.reg [⟨(some 6), (.move (.tmp 0)), none⟩,
   ⟨(some 7), (.call (.mk (.builtin .len) #[(.tmp 6)] #[22])), none⟩,
   ⟨(some 8), (.move (.const (.int .i64 0))), none⟩])
 (.block 0 (.loop (.seq (.reg [⟨(some 9), (.binOp .lss 3 (.tmp 8) (.tmp 7) 3), none⟩])
 (.seq (.cond (.tmp 9) .skip (.exit 0))
 (.seq (.block 1 (.seq (.reg [⟨(some 10), (.move (.tmp 8)), none⟩,
   ⟨(some 5), (.assign (.tmp 10)), none⟩])
 (.seq (.reg [⟨(some 11), (.move (.tmp 1)), none⟩,
   ⟨(some 12), (.move (.tmp 0)), none⟩,
   ⟨(some 13), (.move (.tmp 5)), none⟩,
   ⟨(some 14), (.indexAddr 22 (.tmp 12) (.tmp 13)), none⟩,
   ⟨(some 15), (.load 3 (.tmp 14)), none⟩,
   ⟨(some 16), (.call (.mk (.value (.tmp 11)) #[(.tmp 15)] #[3])), none⟩])
 (.cond (.tmp 16) (.seq (.reg [⟨(some 17), (.move (.tmp 5)), none⟩,
   ⟨(some 4), (.assign (.tmp 17)), none⟩])
 .ret) .skip))))
 (.reg [⟨(some 18), (.binOp .add 3 (.tmp 8) (.const (.int .i64 1)) 3), none⟩,
   ⟨(some 8), (.move (.tmp 18)), none⟩])))))))
 (.seq (.reg [⟨(some 4), (.assign (.const (.int .i64 (-1)))), none⟩])
 .ret)))
theorem x_slices_IndexFunc_int : Txt Tryd.prog 28 c_slices_IndexFunc_int [.tmp 4] 2 := ⟨by kernel_rfl, by kernel_rfl, _, _, Tryd.func28, rfl, by kernel_rfl, by kernel_rfl, by kernel_rfl, rfl, by decide⟩
/-- slices.Max[[]int,int] -/
def c_slices_Max_int : Cd :=
 (.seq (.reg [⟨(some 2), (.assign (.const (.int .i64 0))), none⟩])
 (.seq (.seq (.reg [⟨(some 5), (.move (.tmp 0)), none⟩,
   ⟨(some 6), (.call (.mk (.builtin .len) #[(.tmp 5)] #[22])), none⟩,
   ⟨(some 7), (.binOp .lss 3 (.tmp 6) (.const (.int .i64 1)) 3), none⟩])
 (.cond (.tmp 7) (.reg [⟨(some 8), (.makeInterface 9 (.const (.string (ByteArray.mk #[115, 108, 105, 99, 101, 115, 46, 77, 97, 120, 58, 32, 101, 109, 112, 116, 121, 32, 108, 105, 115, 116])))), none⟩,
   ⟨none, (.panic (.tmp 8)), none⟩]) .skip))
 (.seq (.reg [⟨(some 9), (.move (.tmp 0)), none⟩,
   ⟨(some 10), (.indexAddr 22 (.tmp 9) (.const (.int .i64 0))), none⟩,
   ⟨(some 11), (.load 3 (.tmp 10)), none⟩,
   ⟨(some 3), (.assign (.tmp 11)), none⟩])
 (.seq (.seq (.reg [⟨(some 4), (.assign (.const (.int .i64 1))), none⟩])
 (.block 0 (.loop (.seq (.seq (.reg [⟨(some 12), (.move (.tmp 4)), none⟩,
   ⟨(some 13), (.move (.tmp 0)), none⟩,
   ⟨(some 14), (.call (.mk (.builtin .len) #[(.tmp 13)] #[22])), none⟩,
   ⟨(some 15), (.binOp .lss 3 (.tmp 12) (.tmp 14) 3), none⟩])
 (.cond (.tmp 15) .skip (.exit 0)))
 (.seq (.block 1 (.reg [⟨(some 18), (.move (.tmp 3)), none⟩,
   ⟨(some 19), (.move (.tmp 0)), none⟩,
   ⟨(some 20), (.move (.tmp 4)), none⟩,
   ⟨(some 21), (.indexAddr 22 (.tmp 19) (.tmp 20)), none⟩,
   ⟨(some 22), (.load 3 (.tmp 21)), none⟩,
   ⟨(some 23), (.call (.mk (.builtin .max) #[(.tmp 18), (.tmp 22)] #[3, 3])), none⟩,
   ⟨(some 3), (.assign (.tmp 23)), none⟩]))
 (.reg [⟨(some 16), (.move (.tmp 4)), none⟩,
   ⟨(some 17), (.binOp .add 3 (.tmp 16) (.const (.int .i64 1)) 3), none⟩,
   ⟨(some 4), (.assign (.tmp 17)), none⟩]))))))
 (.seq (.reg [⟨(some 24), (.move (.tmp 3)), none⟩,
   ⟨(some 2), (.assign (.tmp 24)), none⟩])
 .ret)))))
theorem x_slices_Max_int : Txt Tryd.prog 30 c_slices_Max_int [.tmp 2] 1 := ⟨by kernel_rfl, by kernel_rfl, _, _, Tryd.func30, rfl, by kernel_rfl, by kernel_rfl, by kernel_rfl, rfl, by decide⟩
/-- slices.Min[[]int,int] -/
def c_slices_Min_int : Cd :=
 (.seq (.reg [⟨(some 2), (.assign (.const (.int .i64 0))), none⟩])
 (.seq (.seq (.reg [⟨(some 5), (.move (.tmp 0)), none⟩,
   ⟨(some 6), (.call (.mk (.builtin .len) #[(.tmp 5)] #[22])), none⟩,
   ⟨(some 7), (.binOp .lss 3 (.tmp 6) (.const (.int .i64 1)) 3), none⟩])
 (.cond (.tmp 7) (.reg [⟨(some 8), (.makeInterface 9 (.const (.string (ByteArray.mk #[115, 108, 105, 99, 101, 115, 46, 77, 105, 110, 58, 32, 101, 109, 112, 116, 121, 32, 108, 105, 115, 116])))), none⟩,
   ⟨none, (.panic (.tmp 8)), none⟩]) .skip))
 (.seq (.reg [⟨(some 9), (.move (.tmp 0)), none⟩,
   ⟨(some 10), (.indexAddr 22 (.tmp 9) (.const (.int .i64 0))), none⟩,
   ⟨(some 11), (.load 3 (.tmp 10)), none⟩,
   ⟨(some 3), (.assign (.tmp 11)), none⟩])
 (.seq (.seq (.reg [⟨(some 4), (.assign (.const (.int .i64 1))), none⟩])
 (.block 0 (.loop (.seq (.seq (.reg [⟨(some 12), (.move (.tmp 4)), none⟩,
   ⟨(some 13), (.move (.tmp 0)), none⟩,
   ⟨(some 14), (.call (.mk (.builtin .len) #[(.tmp 13)] #[22])), none⟩,
   ⟨(some 15), (.binOp .lss 3 (.tmp 12) (.tmp 14) 3), none⟩])
 (.cond (.tmp 15) .skip (.exit 0)))
 (.seq (.block 1 (.reg [⟨(some 18), (.move (.tmp 3)), none⟩,
   ⟨(some 19), (.move (.tmp 0)), none⟩,
   ⟨(some 20), (.move (.tmp 4)), none⟩,
   ⟨(some 21), (.indexAddr 22 (.tmp 19) (.tmp 20)), none⟩,
   ⟨(some 22), (.load 3 (.tmp 21)), none⟩,
   ⟨(some 23), (.call (.mk (.builtin .min) #[(.tmp 18), (.tmp 22)] #[3, 3])), none⟩,
   ⟨(some 3), (.assign (.tmp 23)), none⟩]))
 (.reg [⟨(some 16), (.move (.tmp 4)), none⟩,
   ⟨(some 17), (.binOp .add 3 (.tmp 16) (.const (.int .i64 1)) 3), none⟩,
   ⟨(some 4), (.assign (.tmp 17)), none⟩]))))))
 (.seq (.reg [⟨(some 24), (.move (.tmp 3)), none⟩,
   ⟨(some 2), (.assign (.tmp 24)), none⟩])
 .ret)))))
theorem x_slices_Min_int : Txt Tryd.prog 31 c_slices_Min_int [.tmp 2] 1 := ⟨by kernel_rfl, by kernel_rfl, _, _, Tryd.func31, rfl, by kernel_rfl, by kernel_rfl, by kernel_rfl, rfl, by decide⟩
/-- loop.example/g01062/spec.l1Least -/
def c_spec_l1Least : Cd :=
 (.seq (.reg [⟨(some 4), (.assign (.const (.int .i64 0))), none⟩])
 (.seq (.seq (.reg [⟨(some 5), (.move (.tmp 0)), none⟩,
   ⟨(some 6), (.move (.tmp 1)), none⟩,
   ⟨(some 7), (.binOp .lss 3 (.tmp 5) (.tmp 6) 3), none⟩])
 (.cond (.tmp 7) (.seq (.reg [⟨(some 8), (.move (.tmp 0)), none⟩,
   ⟨(some 4), (.assign (.tmp 8)), none⟩])
 .ret) .skip))
 (.seq (.reg [⟨(some 9), (.move (.tmp 1)), none⟩,
   ⟨(some 4), (.assign (.tmp 9)), none⟩])
 .ret)))
theorem x_spec_l1Least : Txt Tryd.prog 32 c_spec_l1Least [.tmp 4] 2 := ⟨by kernel_rfl, by kernel_rfl, _, _, Tryd.func32, rfl, by kernel_rfl, by kernel_rfl, by kernel_rfl, rfl, by decide⟩
/-- loop.example/g01062/spec.l1Most -/
def c_spec_l1Most : Cd :=
 (.seq (.reg [⟨(some 4), (.assign (.const (.int .i64 0))), none⟩])
 (.seq (.seq (.reg [⟨(some 5), (.move (.tmp 0)), none⟩,
   ⟨(some 6), (.move (.tmp 1)), none⟩,
   ⟨(some 7), (.binOp .gtr 3 (.tmp 5) (.tmp 6) 3), none⟩])
 (.cond (.tmp 7) (.seq (.reg [⟨(some 8), (.move (.tmp 0)), none⟩,
   ⟨(some 4), (.assign (.tmp 8)), none⟩])
 .ret) .skip))
 (.seq (.reg [⟨(some 9), (.move (.tmp 1)), none⟩,
   ⟨(some 4), (.assign (.tmp 9)), none⟩])
 .ret)))
theorem x_spec_l1Most : Txt Tryd.prog 33 c_spec_l1Most [.tmp 4] 2 := ⟨by kernel_rfl, by kernel_rfl, _, _, Tryd.func33, rfl, by kernel_rfl, by kernel_rfl, by kernel_rfl, rfl, by decide⟩
theorem qs2 : qSize Tryd.prog 2 = some 1 := by kernel_rfl
theorem qb2 : qBytes Tryd.prog 2 = some 8 := by kernel_rfl
theorem qa2 : qAgg Tryd.prog 2 = some false := by kernel_rfl
theorem qz2 : qZero Tryd.prog 2 = some (.int .i64 0) := by kernel_rfl
theorem qk2 : qKind Tryd.prog 2 = some .i64 := by kernel_rfl
theorem qui2 : (Tryd.prog.underlying 2).isSome = true := by kernel_rfl
theorem qs3 : qSize Tryd.prog 3 = some 1 := by kernel_rfl
theorem qb3 : qBytes Tryd.prog 3 = some 8 := by kernel_rfl
theorem qa3 : qAgg Tryd.prog 3 = some false := by kernel_rfl
theorem qz3 : qZero Tryd.prog 3 = some (.int .i64 0) := by kernel_rfl
theorem qk3 : qKind Tryd.prog 3 = some .i64 := by kernel_rfl
theorem qui3 : (Tryd.prog.underlying 3).isSome = true := by kernel_rfl
theorem qs4 : qSize Tryd.prog 4 = some 1 := by kernel_rfl
theorem qb4 : qBytes Tryd.prog 4 = some 1 := by kernel_rfl
theorem qa4 : qAgg Tryd.prog 4 = some false := by kernel_rfl
theorem qz4 : qZero Tryd.prog 4 = some (.bool false) := by kernel_rfl
theorem qo4 : qBool Tryd.prog 4 = true := by kernel_rfl
theorem qs5 : qSize Tryd.prog 5 = some 1 := by kernel_rfl
theorem qb5 : qBytes Tryd.prog 5 = some 1 := by kernel_rfl
theorem qa5 : qAgg Tryd.prog 5 = some false := by kernel_rfl
theorem qz5 : qZero Tryd.prog 5 = some (.int .u8 0) := by kernel_rfl
theorem qk5 : qKind Tryd.prog 5 = some .u8 := by kernel_rfl
theorem qui5 : (Tryd.prog.underlying 5).isSome = true := by kernel_rfl
theorem qs9 : qSize Tryd.prog 9 = some 1 := by kernel_rfl
theorem qb9 : qBytes Tryd.prog 9 = some 16 := by kernel_rfl
theorem qa9 : qAgg Tryd.prog 9 = some false := by kernel_rfl
theorem qz9 : qZero Tryd.prog 9 = some (.string ByteArray.empty) := by kernel_rfl
theorem qt9 : qStr Tryd.prog 9 = true := by kernel_rfl
theorem qs22 : qSize Tryd.prog 22 = some 1 := by kernel_rfl
theorem qb22 : qBytes Tryd.prog 22 = some 24 := by kernel_rfl
theorem qa22 : qAgg Tryd.prog 22 = some false := by kernel_rfl
theorem qz22 : qZero Tryd.prog 22 = some (.slice none 0 0) := by kernel_rfl
theorem qe22 : qElem Tryd.prog 22 = some 3 := by kernel_rfl
theorem qs24 : qSize Tryd.prog 24 = some 4 := by kernel_rfl
theorem qb24 : qBytes Tryd.prog 24 = some 56 := by kernel_rfl
theorem qa24 : qAgg Tryd.prog 24 = some true := by kernel_rfl
theorem qz24 : qZero Tryd.prog 24 = some (.agg #[.int .i64 0, .string ByteArray.empty, .int .i64 0, .slice none 0 0]) := by kernel_rfl
theorem qg24 : qFields Tryd.prog 24 = some [(0, 1), (1, 1), (2, 1), (3, 1)] := by kernel_rfl
theorem qf24_0 : qField Tryd.prog 24 0 = some (0, 3) := by kernel_rfl
theorem qf24_1 : qField Tryd.prog 24 1 = some (1, 9) := by kernel_rfl
theorem qf24_2 : qField Tryd.prog 24 2 = some (2, 3) := by kernel_rfl
theorem qf24_3 : qField Tryd.prog 24 3 = some (3, 22) := by kernel_rfl
theorem qs28 : qSize Tryd.prog 28 = some 4 := by kernel_rfl
theorem qb28 : qBytes Tryd.prog 28 = some 56 := by kernel_rfl
theorem qa28 : qAgg Tryd.prog 28 = some true := by kernel_rfl
theorem qz28 : qZero Tryd.prog 28 = some (.agg #[.int .i64 0, .string ByteArray.empty, .int .i64 0, .slice none 0 0]) := by kernel_rfl
theorem qg28 : qFields Tryd.prog 28 = some [(0, 1), (1, 1), (2, 1), (3, 1)] := by kernel_rfl
theorem qf28_0 : qField Tryd.prog 28 0 = some (0, 3) := by kernel_rfl
theorem qf28_1 : qField Tryd.prog 28 1 = some (1, 9) := by kernel_rfl
theorem qf28_2 : qField Tryd.prog 28 2 = some (2, 3) := by kernel_rfl
theorem qf28_3 : qField Tryd.prog 28 3 = some (3, 22) := by kernel_rfl
theorem qs35 : qSize Tryd.prog 35 = some 1 := by kernel_rfl
theorem qb35 : qBytes Tryd.prog 35 = some 24 := by kernel_rfl
theorem qa35 : qAgg Tryd.prog 35 = some false := by kernel_rfl
theorem qz35 : qZero Tryd.prog 35 = some (.slice none 0 0) := by kernel_rfl
theorem qe35 : qElem Tryd.prog 35 = some 9 := by kernel_rfl
theorem qs39 : qSize Tryd.prog 39 = some 1 := by kernel_rfl
theorem qb39 : qBytes Tryd.prog 39 = some 8 := by kernel_rfl
theorem qa39 : qAgg Tryd.prog 39 = some false := by kernel_rfl
theorem qz39 : qZero Tryd.prog 39 = some (.pointer none) := by kernel_rfl
theorem qs40 : qSize Tryd.prog 40 = some 5 := by kernel_rfl
theorem qb40 : qBytes Tryd.prog 40 = some 80 := by kernel_rfl
theorem qa40 : qAgg Tryd.prog 40 = some true := by kernel_rfl
theorem qz40 : qZero Tryd.prog 40 = some (.agg #[.string ByteArray.empty, .string ByteArray.empty, .string ByteArray.empty, .string ByteArray.empty, .string ByteArray.empty]) := by kernel_rfl
theorem qg40 : qFields Tryd.prog 40 = some [(0, 1), (1, 1), (2, 1), (3, 1), (4, 1)] := by kernel_rfl
theorem qr40 : qArr Tryd.prog 40 = some (5, 9) := by kernel_rfl
theorem qs52 : qSize Tryd.prog 52 = some 1 := by kernel_rfl
theorem qb52 : qBytes Tryd.prog 52 = some 8 := by kernel_rfl
theorem qa52 : qAgg Tryd.prog 52 = some false := by kernel_rfl
theorem qz52 : qZero Tryd.prog 52 = some (.int .u64 0) := by kernel_rfl
theorem qk52 : qKind Tryd.prog 52 = some .u64 := by kernel_rfl
theorem qui52 : (Tryd.prog.underlying 52).isSome = true := by kernel_rfl
theorem qs60 : qSize Tryd.prog 60 = some 20 := by kernel_rfl
theorem qb60 : qBytes Tryd.prog 60 = some 160 := by kernel_rfl
theorem qa60 : qAgg Tryd.prog 60 = some true := by kernel_rfl
theorem qz60 : qZero Tryd.prog 60 = some (.agg #[.int .u64 0, .int .u64 0, .int .u64 0, .int .u64 0, .int .u64 0, .int .u64 0, .int .u64 0, .int .u64 0, .int .u64 0, .int .u64 0, .int .u64 0, .int .u64 0, .int .u64 0, .int .u64 0, .int .u64 0, .int .u64 0, .int .u64 0, .int .u64 0, .int .u64 0, .int .u64 0]) := by kernel_rfl
theorem qg60 : qFields Tryd.prog 60 = some [(0, 1), (1, 1), (2, 1), (3, 1), (4, 1), (5, 1), (6, 1), (7, 1), (8, 1), (9, 1), (10, 1), (11, 1), (12, 1), (13, 1), (14, 1), (15, 1), (16, 1), (17, 1), (18, 1), (19, 1)] := by kernel_rfl
theorem qr60 : qArr Tryd.prog 60 = some (20, 52) := by kernel_rfl
theorem qs66 : qSize Tryd.prog 66 = some 32 := by kernel_rfl
theorem qb66 : qBytes Tryd.prog 66 = some 32 := by kernel_rfl
theorem qa66 : qAgg Tryd.prog 66 = some true := by kernel_rfl
theorem qz66 : qZero Tryd.prog 66 = some (.agg #[.int .u8 0, .int .u8 0, .int .u8 0, .int .u8 0, .int .u8 0, .int .u8 0, .int .u8 0, .int .u8 0, .int .u8 0, .int .u8 0, .int .u8 0, .int .u8 0, .int .u8 0, .int .u8 0, .int .u8 0, .int .u8 0, .int .u8 0, .int .u8 0, .int .u8 0, .int .u8 0, .int .u8 0, .int .u8 0, .int .u8 0, .int .u8 0, .int .u8 0, .int .u8 0, .int .u8 0, .int .u8 0, .int .u8 0, .int .u8 0, .int .u8 0, .int .u8 0]) := by kernel_rfl
theorem qg66 : qFields Tryd.prog 66 = some [(0, 1), (1, 1), (2, 1), (3, 1), (4, 1), (5, 1), (6, 1), (7, 1), (8, 1), (9, 1), (10, 1), (11, 1), (12, 1), (13, 1), (14, 1), (15, 1), (16, 1), (17, 1), (18, 1), (19, 1), (20, 1), (21, 1), (22, 1), (23, 1), (24, 1), (25, 1), (26, 1), (27, 1), (28, 1), (29, 1), (30, 1), (31, 1)] := by kernel_rfl
theorem qr66 : qArr Tryd.prog 66 = some (32, 5) := by kernel_rfl
theorem qs67 : qSize Tryd.prog 67 = some 64 := by kernel_rfl
theorem qb67 : qBytes Tryd.prog 67 = some 64 := by kernel_rfl
theorem qa67 : qAgg Tryd.prog 67 = some true := by kernel_rfl
theorem qg67 : qFields Tryd.prog 67 = some [(0, 1), (1, 1), (2, 1), (3, 1), (4, 1), (5, 1), (6, 1), (7, 1), (8, 1), (9, 1), (10, 1), (11, 1), (12, 1), (13, 1), (14, 1), (15, 1), (16, 1), (17, 1), (18, 1), (19, 1), (20, 1), (21, 1), (22, 1), (23, 1), (24, 1), (25, 1), (26, 1), (27, 1), (28, 1), (29, 1), (30, 1), (31, 1), (32, 1), (33, 1), (34, 1), (35, 1), (36, 1), (37, 1), (38, 1), (39, 1), (40, 1), (41, 1), (42, 1), (43, 1), (44, 1), (45, 1), (46, 1), (47, 1), (48, 1), (49, 1), (50, 1), (51, 1), (52, 1), (53, 1), (54, 1), (55, 1), (56, 1), (57, 1), (58, 1), (59, 1), (60, 1), (61, 1), (62, 1), (63, 1)] := by kernel_rfl
theorem qr67 : qArr Tryd.prog 67 = some (64, 5) := by kernel_rfl
set_option linter.defProp false
/-- The facts, in one name. -/
def fcT := And.intro @qs2 <| And.intro @qb2 <| And.intro @qa2 <| And.intro @qz2 <| And.intro @qk2 <| And.intro @qui2 <| And.intro @qs3 <| And.intro @qb3 <| And.intro @qa3 <| And.intro @qz3 <| And.intro @qk3 <| And.intro @qui3 <| And.intro @qs4 <| And.intro @qb4 <| And.intro @qa4 <| And.intro @qz4 <| And.intro @qo4 <| And.intro @qs5 <| And.intro @qb5 <| And.intro @qa5 <| And.intro @qz5 <| And.intro @qk5 <| And.intro @qui5 <| And.intro @qs9 <| And.intro @qb9 <| And.intro @qa9 <| And.intro @qz9 <| And.intro @qt9 <| And.intro @qs22 <| And.intro @qb22 <| And.intro @qa22 <| And.intro @qz22 <| And.intro @qe22 <| And.intro @qs24 <| And.intro @qb24 <| And.intro @qa24 <| And.intro @qz24 <| And.intro @qg24 <| And.intro @qf24_0 <| And.intro @qf24_1 <| And.intro @qf24_2 <| And.intro @qf24_3 <| And.intro @qs28 <| And.intro @qb28 <| And.intro @qa28 <| And.intro @qz28 <| And.intro @qg28 <| And.intro @qf28_0 <| And.intro @qf28_1 <| And.intro @qf28_2 <| And.intro @qf28_3 <| And.intro @qs35 <| And.intro @qb35 <| And.intro @qa35 <| And.intro @qz35 <| And.intro @qe35 <| And.intro @qs39 <| And.intro @qb39 <| And.intro @qa39 <| And.intro @qz39 <| And.intro @qs40 <| And.intro @qb40 <| And.intro @qa40 <| And.intro @qz40 <| And.intro @qg40 <| And.intro @qr40 <| And.intro @qs52 <| And.intro @qb52 <| And.intro @qa52 <| And.intro @qz52 <| And.intro @qk52 <| And.intro @qui52 <| And.intro @qs60 <| And.intro @qb60 <| And.intro @qa60 <| And.intro @qz60 <| And.intro @qg60 <| And.intro @qr60 <| And.intro @qs66 <| And.intro @qb66 <| And.intro @qa66 <| And.intro @qz66 <| And.intro @qg66 <| And.intro @qr66 <| And.intro @qs67 <| And.intro @qb67 <| And.intro @qa67 <| And.intro @qg67 <| And.intro @qr67 <| True.intro
end Go.Proofs.YtmmbolempcpcjaaDoor
