/- The texts of the functions, edges struck, and closed facts on functions and types: written by program (gen.py). -/
import Derived.Test.YtnjlleopgjggpaaDoorD
import Derived.Test.YtnjlleopgjggpaaDoorProg
import Derived.Test.YtnjlleopgjggpaaDoorTa
namespace Go.Proofs.YtnjlleopgjggpaaDoor
open Go Go.RowKit Go.Proofs
/-- (*loop.example/g01062/spec.l1Cur).prices24 -/
def c_spec_l1Cur_prices24 : Cd :=
 (.seq (.reg [⟨(some 2), (.assign (.const (.slice none 0 0))), none⟩])
 (.seq (.reg [⟨(some 9), (.buildSlice 48 0 #[]), none⟩,
   ⟨(some 3), (.assign (.tmp 9)), none⟩])
 (.seq (.reg [⟨(some 4), (.assign (.const (.int .i64 0))), none⟩])
 (.seq (.seq (.reg [⟨(some 10), (.move (.tmp 0)), none⟩,
   ⟨(some 11), (.call (.mk (.value (.func 65)) #[(.tmp 10), (.const (.int .i64 5))] #[80, 3])), none⟩,
   ⟨(some 5), (.assign (.tmp 11)), none⟩])
 (.block 0 (.loop (.seq (.seq (.reg [⟨(some 12), (.move (.tmp 5)), none⟩,
   ⟨(some 13), (.binOp .gtr 3 (.tmp 12) (.const (.int .i64 0)) 3), none⟩])
 (.cond (.tmp 13) .skip (.exit 0)))
 (.seq (.block 1 (.seq (.reg [⟨(some 16), (.move (.tmp 4)), none⟩,
   ⟨(some 17), (.binOp .add 3 (.tmp 16) (.const (.int .i64 1)) 3), none⟩,
   ⟨(some 18), (.move (.tmp 0)), none⟩,
   ⟨(some 19), (.call (.mk (.value (.func 65)) #[(.tmp 18), (.const (.int .i64 2))] #[80, 3])), none⟩,
   ⟨(some 20), (.binOp .add 3 (.tmp 17) (.tmp 19) 3), none⟩,
   ⟨(some 21), (.move (.tmp 0)), none⟩,
   ⟨(some 22), (.call (.mk (.value (.func 65)) #[(.tmp 21), (.const (.int .i64 150))] #[80, 3])), none⟩,
   ⟨(some 23), (.binOp .quo 3 (.tmp 22) (.const (.int .i64 149)) 3), none⟩,
   ⟨(some 24), (.binOp .sub 3 (.tmp 20) (.tmp 23) 3), none⟩,
   ⟨(some 4), (.assign (.tmp 24)), none⟩])
 (.seq (.reg [⟨(some 25), (.move (.tmp 0)), none⟩,
   ⟨(some 26), (.buildSlice 30 5 #[(0, (.const (.int .i64 1840))), (1, (.const (.int .i64 1900))), (2, (.const (.int .i64 1950))), (3, (.const (.int .i64 1950))), (4, (.const (.int .i64 2090)))]), none⟩,
   ⟨(some 27), (.call (.mk (.value (.func 64)) #[(.tmp 25), (.tmp 26)] #[80, 30])), none⟩,
   ⟨(some 6), (.assign (.tmp 27)), none⟩])
 (.seq (.reg [⟨(some 28), (.move (.tmp 0)), none⟩,
   ⟨(some 29), (.call (.mk (.value (.func 65)) #[(.tmp 28), (.const (.int .i64 3))] #[80, 3])), none⟩,
   ⟨(some 30), (.binOp .add 3 (.const (.int .i64 1)) (.tmp 29) 3), none⟩,
   ⟨(some 7), (.assign (.tmp 30)), none⟩])
 (.block 2 (.loop (.seq (.seq (.reg [⟨(some 31), (.move (.tmp 7)), none⟩,
   ⟨(some 32), (.binOp .gtr 3 (.tmp 31) (.const (.int .i64 0)) 3), none⟩])
 (.cond (.tmp 32) .skip (.exit 2)))
 (.seq (.block 3 (.seq (.reg [⟨(some 35), (.move (.tmp 3)), none⟩,
   ⟨(some 36), (.move (.tmp 0)), none⟩,
   ⟨(some 37), (.move (.tmp 4)), none⟩,
   ⟨(some 38), (.move (.tmp 6)), none⟩,
   ⟨(some 39), (.call (.mk (.value (.func 100)) #[(.tmp 36), (.tmp 37), (.tmp 38)] #[80, 3, 3])), none⟩,
   ⟨(some 40), (.buildSlice 48 1 #[(0, (.tmp 39))]), none⟩,
   ⟨(some 41), (.call (.mk (.builtin .append) #[(.tmp 35), (.tmp 40)] #[48, 48])), none⟩,
   ⟨(some 3), (.assign (.tmp 41)), none⟩])
 (.reg [⟨(some 42), (.move (.tmp 6)), none⟩,
   ⟨(some 43), (.move (.tmp 0)), none⟩,
   ⟨(some 44), (.buildSlice 30 5 #[(0, (.const (.int .i64 1))), (1, (.const (.int .i64 2))), (2, (.const (.int .i64 3))), (3, (.const (.int .i64 10))), (4, (.const (.int .i64 50)))]), none⟩,
   ⟨(some 45), (.call (.mk (.value (.func 64)) #[(.tmp 43), (.tmp 44)] #[80, 30])), none⟩,
   ⟨(some 46), (.binOp .add 3 (.tmp 42) (.tmp 45) 3), none⟩,
   ⟨(some 47), (.call (.mk (.value (.func 133)) #[(.const (.int .i64 2100)), (.tmp 46)] #[3, 3])), none⟩,
   ⟨(some 6), (.assign (.tmp 47)), none⟩])))
 (.reg [⟨(some 33), (.move (.tmp 7)), none⟩,
   ⟨(some 34), (.binOp .sub 3 (.tmp 33) (.const (.int .i64 1)) 3), none⟩,
   ⟨(some 7), (.assign (.tmp 34)), none⟩])))))))))
 (.reg [⟨(some 14), (.move (.tmp 5)), none⟩,
   ⟨(some 15), (.binOp .sub 3 (.tmp 14) (.const (.int .i64 1)) 3), none⟩,
   ⟨(some 5), (.assign (.tmp 15)), none⟩]))))))
 (.seq (.seq (.reg [⟨(some 48), (.move (.tmp 0)), none⟩,
   ⟨(some 49), (.call (.mk (.value (.func 73)) #[(.tmp 48), (.const (.int .i64 24))] #[80, 3])), none⟩])
 (.cond (.tmp 49) (.seq (.reg [⟨(some 50), (.buildSlice 48 0 #[]), none⟩,
   ⟨(some 3), (.assign (.tmp 50)), none⟩])
 (.seq (.reg [⟨(some 8), (.assign (.const (.int .i64 0))), none⟩])
 (.block 4 (.loop (.seq (.seq (.reg [⟨(some 51), (.move (.tmp 8)), none⟩,
   ⟨(some 52), (.move (.tmp 0)), none⟩,
   ⟨(some 53), (.call (.mk (.value (.func 65)) #[(.tmp 52), (.const (.int .i64 2))] #[80, 3])), none⟩,
   ⟨(some 54), (.binOp .add 3 (.const (.int .i64 15)) (.tmp 53) 3), none⟩,
   ⟨(some 55), (.binOp .lss 3 (.tmp 51) (.tmp 54) 3), none⟩])
 (.cond (.tmp 55) .skip (.exit 4)))
 (.seq (.block 5 (.reg [⟨(some 58), (.move (.tmp 3)), none⟩,
   ⟨(some 59), (.move (.tmp 8)), none⟩,
   ⟨(some 60), (.binOp .quo 3 (.tmp 59) (.const (.int .i64 4)) 3), none⟩,
   ⟨(some 61), (.binOp .add 3 (.const (.int .i64 1)) (.tmp 60) 3), none⟩,
   ⟨(some 62), (.move (.tmp 8)), none⟩,
   ⟨(some 63), (.binOp .rem 3 (.tmp 62) (.const (.int .i64 4)) 3), none⟩,
   ⟨(some 64), (.binOp .mul 3 (.const (.int .i64 10)) (.tmp 63) 3), none⟩,
   ⟨(some 65), (.binOp .add 3 (.const (.int .i64 1900)) (.tmp 64) 3), none⟩,
   ⟨(some 66), (.move (.tmp 8)), none⟩,
   ⟨(some 67), (.binOp .rem 3 (.tmp 66) (.const (.int .i64 5)) 3), none⟩,
   ⟨(some 68), (.binOp .add 3 (.const (.int .i64 1)) (.tmp 67) 3), none⟩,
   ⟨(some 69), (.binOp .mul 3 (.const (.int .i64 100)) (.tmp 68) 3), none⟩,
   ⟨(some 70), (.build 63 #[(0, (.tmp 61)), (1, (.tmp 65)), (2, (.tmp 69))]), none⟩,
   ⟨(some 71), (.buildSlice 48 1 #[(0, (.tmp 70))]), none⟩,
   ⟨(some 72), (.call (.mk (.builtin .append) #[(.tmp 58), (.tmp 71)] #[48, 48])), none⟩,
   ⟨(some 3), (.assign (.tmp 72)), none⟩]))
 (.reg [⟨(some 56), (.move (.tmp 8)), none⟩,
   ⟨(some 57), (.binOp .add 3 (.tmp 56) (.const (.int .i64 1)) 3), none⟩,
   ⟨(some 8), (.assign (.tmp 57)), none⟩]))))))) .skip))
 (.seq (.reg [⟨(some 73), (.move (.tmp 3)), none⟩,
   ⟨(some 2), (.assign (.tmp 73)), none⟩])
 .ret))))))
theorem x_spec_l1Cur_prices24 : Txt Tryd.prog 82 c_spec_l1Cur_prices24 [.tmp 2] 1 := ⟨by kernel_rfl, by kernel_rfl, _, _, Tryd.func82, rfl, by kernel_rfl, by kernel_rfl, by kernel_rfl, rfl, by decide⟩
def c_spec_l1Cur_year24_r0 : Cd :=
 (.regt [⟨(some 20), (.move (.tmp 1)), none⟩,
   ⟨(some 21), (.move (.tmp 0)), none⟩,
   ⟨(some 22), (.move (.tmp 1)), none⟩,
   ⟨(some 23), (.call (.mk (.builtin .len) #[(.tmp 22)] #[48])), none⟩,
   ⟨(some 28), (.move (.tmp 0)), none⟩] (.alt false ⟨(some 24), (.call (.mk (.value (.func 65)) #[(.tmp 21), (.tmp 23)] #[80, 3])), none⟩
   (.now ⟨(some 25), (.indexAddr 48 (.tmp 20) (.tmp 24)), none⟩
   (.now ⟨(some 26), (.fieldAddr 63 (.tmp 25) 1), none⟩
   (.alt false ⟨(some 27), (.load 3 (.tmp 26)), none⟩
   (.one true ⟨(some 29), (.buildSlice 30 6 #[(0, (.const (.int .i64 (-1)))), (1, (.const (.int .i64 0))), (2, (.const (.int .i64 0))), (3, (.const (.int .i64 1))), (4, (.const (.int .i64 2))), (5, (.const (.int .i64 5)))]), none⟩
   (.one false ⟨(some 30), (.call (.mk (.value (.func 64)) #[(.tmp 28), (.tmp 29)] #[80, 30])), none⟩
   (.one false ⟨(some 31), (.binOp .add 3 (.tmp 27) (.tmp 30) 3), none⟩
   (.one false ⟨(some 4), (.assign (.tmp 31)), none⟩
   .done))))
   (.one true ⟨(some 29), (.buildSlice 30 6 #[(0, (.const (.int .i64 (-1)))), (1, (.const (.int .i64 0))), (2, (.const (.int .i64 0))), (3, (.const (.int .i64 1))), (4, (.const (.int .i64 2))), (5, (.const (.int .i64 5)))]), none⟩
   (.alt false ⟨(some 27), (.load 3 (.tmp 26)), none⟩
   (.one false ⟨(some 30), (.call (.mk (.value (.func 64)) #[(.tmp 28), (.tmp 29)] #[80, 30])), none⟩
   (.one false ⟨(some 31), (.binOp .add 3 (.tmp 27) (.tmp 30) 3), none⟩
   (.one false ⟨(some 4), (.assign (.tmp 31)), none⟩
   .done)))
   (.one false ⟨(some 30), (.call (.mk (.value (.func 64)) #[(.tmp 28), (.tmp 29)] #[80, 30])), none⟩
   (.one false ⟨(some 27), (.load 3 (.tmp 26)), none⟩
   (.one false ⟨(some 31), (.binOp .add 3 (.tmp 27) (.tmp 30) 3), none⟩
   (.one false ⟨(some 4), (.assign (.tmp 31)), none⟩
   .done)))))))))
   (.one true ⟨(some 29), (.buildSlice 30 6 #[(0, (.const (.int .i64 (-1)))), (1, (.const (.int .i64 0))), (2, (.const (.int .i64 0))), (3, (.const (.int .i64 1))), (4, (.const (.int .i64 2))), (5, (.const (.int .i64 5)))]), none⟩
   (.one false ⟨(some 24), (.call (.mk (.value (.func 65)) #[(.tmp 21), (.tmp 23)] #[80, 3])), none⟩
   (.now ⟨(some 25), (.indexAddr 48 (.tmp 20) (.tmp 24)), none⟩
   (.now ⟨(some 26), (.fieldAddr 63 (.tmp 25) 1), none⟩
   (.alt false ⟨(some 27), (.load 3 (.tmp 26)), none⟩
   (.one false ⟨(some 30), (.call (.mk (.value (.func 64)) #[(.tmp 28), (.tmp 29)] #[80, 30])), none⟩
   (.one false ⟨(some 31), (.binOp .add 3 (.tmp 27) (.tmp 30) 3), none⟩
   (.one false ⟨(some 4), (.assign (.tmp 31)), none⟩
   .done)))
   (.one false ⟨(some 30), (.call (.mk (.value (.func 64)) #[(.tmp 28), (.tmp 29)] #[80, 30])), none⟩
   (.one false ⟨(some 27), (.load 3 (.tmp 26)), none⟩
   (.one false ⟨(some 31), (.binOp .add 3 (.tmp 27) (.tmp 30) 3), none⟩
   (.one false ⟨(some 4), (.assign (.tmp 31)), none⟩
   .done)))))))))) [])
/-- (*loop.example/g01062/spec.l1Cur).year24 -/
def c_spec_l1Cur_year24 : Cd :=
 (.seq (.reg [⟨(some 4), (.assign (.const (.int .i64 0))), none⟩])
 (.seq (.seq (.reg [⟨(some 5), (.move (.tmp 1)), none⟩,
   ⟨(some 6), (.call (.mk (.builtin .len) #[(.tmp 5)] #[48])), none⟩,
   ⟨(some 7), (.binOp .eql 3 (.tmp 6) (.const (.int .i64 0)) 3), none⟩,
   ⟨(some 8), (.move (.tmp 7)), none⟩,
   ⟨(some 9), (.move (.tmp 0)), (some (8, false))⟩,
   ⟨(some 10), (.call (.mk (.value (.func 73)) #[(.tmp 9), (.const (.int .i64 6))] #[80, 3])), (some (8, false))⟩,
   ⟨(some 11), (.pick (.tmp 8) (.const (.bool true)) (.tmp 10)), none⟩])
 (.cond (.tmp 11) (.seq (.reg [⟨(some 12), (.move (.tmp 0)), none⟩,
   ⟨(some 13), (.buildSlice 30 5 #[(0, (.const (.int .i64 1840))), (1, (.const (.int .i64 1925))), (2, (.const (.int .i64 2100))), (3, (.const (.int .i64 1839))), (4, (.const (.int .i64 2101)))]), none⟩,
   ⟨(some 14), (.move (.tmp 0)), none⟩,
   ⟨(some 15), (.call (.mk (.value (.func 65)) #[(.tmp 14), (.const (.int .i64 24))] #[80, 3])), none⟩,
   ⟨(some 16), (.binOp .quo 3 (.tmp 15) (.const (.int .i64 11)) 3), none⟩,
   ⟨(some 17), (.binOp .add 3 (.const (.int .i64 3)) (.tmp 16) 3), none⟩,
   ⟨(some 18), (.slice 30 (.tmp 13) none (some (.tmp 17)) none), none⟩,
   ⟨(some 19), (.call (.mk (.value (.func 64)) #[(.tmp 12), (.tmp 18)] #[80, 30])), none⟩,
   ⟨(some 4), (.assign (.tmp 19)), none⟩])
 .ret) .skip))
 (.seq c_spec_l1Cur_year24_r0
 .ret)))
theorem x_spec_l1Cur_year24 : Txt Tryd.prog 83 c_spec_l1Cur_year24 [.tmp 4] 2 := ⟨by kernel_rfl, by kernel_rfl, _, _, Tryd.func83, rfl, by kernel_rfl, by kernel_rfl, by kernel_rfl, rfl, by decide⟩
/-- loop.example/g01062/impl.arePrices -/
def c_impl_arePrices : Cd :=
 (.seq (.reg [⟨(some 2), (.assign (.const (.bool false))), none⟩])
 (.seq (.seq (.reg [⟨(some 5), (.move (.tmp 0)), none⟩,
   ⟨(some 6), (.call (.mk (.builtin .len) #[(.tmp 5)] #[48])), none⟩,
   ⟨(some 7), (.move (.const (.int .i64 0))), none⟩])
 (.block 0 (.loop (.seq (.reg [⟨(some 8), (.binOp .lss 3 (.tmp 7) (.tmp 6) 3), none⟩])
 (.seq (.cond (.tmp 8) .skip (.exit 0))
 (.seq (.block 1 (.seq (.reg [⟨(some 9), (.move (.tmp 7)), none⟩,
   ⟨(some 10), (.indexAddr 48 (.tmp 5) (.tmp 7)), none⟩,
   ⟨(some 11), (.load 63 (.tmp 10)), none⟩,
   ⟨(some 4), (.alloc 63), none⟩,
   ⟨(some 3), (.assign (.tmp 9)), none⟩,
   ⟨none, (.store 63 (.tmp 4) (.tmp 11)), none⟩])
 (.seq (.regq [⟨(some 12), (.load 63 (.tmp 4)), none⟩,
   ⟨(some 13), (.call (.mk (.value (.func 101)) #[(.tmp 12)] #[63])), none⟩,
   ⟨(some 14), (.unOp .not 4 (.tmp 13)), none⟩,
   ⟨(some 15), (.move (.tmp 14)), none⟩,
   ⟨(some 16), (.move (.tmp 3)), (some (15, false))⟩,
   ⟨(some 17), (.binOp .gtr 3 (.tmp 16) (.const (.int .i64 0)) 3), (some (15, false))⟩,
   ⟨(some 18), (.move (.tmp 17)), (some (15, false))⟩,
   ⟨(some 19), (.move (.tmp 0)), (some (18, true))⟩,
   ⟨(some 20), (.move (.tmp 3)), (some (18, true))⟩,
   ⟨(some 21), (.binOp .sub 3 (.tmp 20) (.const (.int .i64 1)) 3), (some (18, true))⟩,
   ⟨(some 22), (.indexAddr 48 (.tmp 19) (.tmp 21)), (some (18, true))⟩,
   ⟨(some 23), (.load 63 (.tmp 22)), (some (18, true))⟩,
   ⟨(some 24), (.load 63 (.tmp 4)), (some (18, true))⟩,
   ⟨(some 25), (.call (.mk (.value (.func 134)) #[(.tmp 23), (.tmp 24)] #[63, 63])), (some (18, true))⟩,
   ⟨(some 26), (.binOp .geq 3 (.tmp 25) (.const (.int .i64 0)) 3), (some (18, true))⟩,
   ⟨(some 27), (.pick (.tmp 18) (.tmp 26) (.const (.bool false))), (some (15, false))⟩,
   ⟨(some 28), (.pick (.tmp 15) (.const (.bool true)) (.tmp 27)), none⟩])
 (.cond (.tmp 28) (.seq (.reg [⟨(some 2), (.assign (.const (.bool false))), none⟩])
 .ret) .skip))))
 (.reg [⟨(some 29), (.binOp .add 3 (.tmp 7) (.const (.int .i64 1)) 3), none⟩,
   ⟨(some 7), (.move (.tmp 29)), none⟩])))))))
 (.seq (.reg [⟨(some 30), (.move (.tmp 0)), none⟩,
   ⟨(some 31), (.call (.mk (.builtin .len) #[(.tmp 30)] #[48])), none⟩,
   ⟨(some 32), (.binOp .leq 3 (.tmp 31) (.const (.int .i64 15)) 3), none⟩,
   ⟨(some 2), (.assign (.tmp 32)), none⟩])
 .ret)))
theorem x_impl_arePrices : Txt Tryd.prog 84 c_impl_arePrices [.tmp 2] 1 := ⟨by kernel_rfl, by kernel_rfl, _, _, Tryd.func84, rfl, by kernel_rfl, by kernel_rfl, by kernel_rfl, rfl, by decide⟩
/-- loop.example/g01062/impl.isYear -/
def c_impl_isYear : Cd :=
 (.seq (.reg [⟨(some 2), (.assign (.const (.bool false))), none⟩])
 (.seq (.reg [⟨(some 3), (.move (.tmp 0)), none⟩,
   ⟨(some 4), (.call (.mk (.value (.func 97)) #[(.tmp 3), (.const (.int .i64 1840)), (.const (.int .i64 2100))] #[3, 3, 3])), none⟩,
   ⟨(some 2), (.assign (.tmp 4)), none⟩])
 .ret))
theorem x_impl_isYear : Txt Tryd.prog 85 c_impl_isYear [.tmp 2] 1 := ⟨by kernel_rfl, by kernel_rfl, _, _, Tryd.func85, rfl, by kernel_rfl, by kernel_rfl, by kernel_rfl, rfl, by decide⟩
/-- loop.example/g01062/impl.itemsPriced -/
def c_impl_itemsPriced : Cd :=
 (.seq (.reg [⟨(some 4), (.assign (.const (.slice none 0 0))), none⟩])
 (.seq (.reg [⟨(some 5), (.assign (.const (.slice none 0 0))), none⟩])
 (.seq (.seq (.reg [⟨(some 10), (.move (.tmp 0)), none⟩,
   ⟨(some 11), (.call (.mk (.builtin .len) #[(.tmp 10)] #[48])), none⟩,
   ⟨(some 12), (.move (.const (.int .i64 0))), none⟩])
 (.block 0 (.loop (.seq (.reg [⟨(some 13), (.binOp .lss 3 (.tmp 12) (.tmp 11) 3), none⟩])
 (.seq (.cond (.tmp 13) .skip (.exit 0))
 (.seq (.block 1 (.seq (.reg [⟨(some 14), (.indexAddr 48 (.tmp 10) (.tmp 12)), none⟩,
   ⟨(some 15), (.load 63 (.tmp 14)), none⟩,
   ⟨(some 7), (.alloc 63), none⟩,
   ⟨none, (.store 63 (.tmp 7) (.tmp 15)), none⟩])
 (.seq (.reg [⟨(some 17), (.move (.tmp 0)), none⟩,
   ⟨(some 18), (.fieldAddr 63 (.tmp 7) 0), none⟩,
   ⟨(some 19), (.load 3 (.tmp 18)), none⟩,
   ⟨(some 20), (.move (.tmp 1)), none⟩,
   ⟨(some 21), (.call (.mk (.value (.func 91)) #[(.tmp 17), (.tmp 19), (.tmp 20)] #[48, 3, 3])), none⟩,
   ⟨(some 16), (.move (.tmp 21)), none⟩,
   ⟨(some 22), (.extract (.tmp 16) 0), none⟩,
   ⟨(some 23), (.extract (.tmp 16) 1), none⟩,
   ⟨(some 8), (.assign (.tmp 22)), none⟩,
   ⟨(some 9), (.assign (.tmp 23)), none⟩])
 (.seq (.reg [⟨(some 24), (.move (.tmp 9)), none⟩])
 (.cond (.tmp 24) (.reg [⟨(some 25), (.move (.tmp 5)), none⟩,
   ⟨(some 26), (.fieldAddr 63 (.tmp 7) 0), none⟩,
   ⟨(some 27), (.load 3 (.tmp 26)), none⟩,
   ⟨(some 28), (.buildSlice 30 1 #[(0, (.tmp 27))]), none⟩,
   ⟨(some 29), (.call (.mk (.builtin .append) #[(.tmp 25), (.tmp 28)] #[30, 30])), none⟩,
   ⟨(some 5), (.assign (.tmp 29)), none⟩]) .skip)))))
 (.reg [⟨(some 30), (.binOp .add 3 (.tmp 12) (.const (.int .i64 1)) 3), none⟩,
   ⟨(some 12), (.move (.tmp 30)), none⟩])))))))
 (.seq (.reg [⟨(some 31), (.move (.tmp 5)), none⟩,
   ⟨(some 32), (.call (.mk (.value (.func 135)) #[(.tmp 31)] #[30])), none⟩,
   ⟨(some 4), (.assign (.tmp 32)), none⟩])
 .ret))))
theorem x_impl_itemsPriced : Txt Tryd.prog 86 c_impl_itemsPriced [.tmp 4] 2 := ⟨by kernel_rfl, by kernel_rfl, _, _, Tryd.func86, rfl, by kernel_rfl, by kernel_rfl, by kernel_rfl, rfl, by decide⟩
/-- loop.example/g01062/spec.l24Good -/
def c_spec_l24Good : Cd :=
 (.seq (.reg [⟨(some 2), (.assign (.const (.bool false))), none⟩])
 (.seq (.seq (.reg [⟨(some 3), (.assign (.const (.int .i64 0))), none⟩])
 (.block 0 (.loop (.seq (.seq (.reg [⟨(some 4), (.move (.tmp 3)), none⟩,
   ⟨(some 5), (.move (.tmp 0)), none⟩,
   ⟨(some 6), (.call (.mk (.builtin .len) #[(.tmp 5)] #[48])), none⟩,
   ⟨(some 7), (.binOp .lss 3 (.tmp 4) (.tmp 6) 3), none⟩])
 (.cond (.tmp 7) .skip (.exit 0)))
 (.seq (.block 1 (.seq (.regq [⟨(some 10), (.move (.tmp 0)), none⟩,
   ⟨(some 11), (.move (.tmp 3)), none⟩,
   ⟨(some 12), (.indexAddr 48 (.tmp 10) (.tmp 11)), none⟩,
   ⟨(some 13), (.load 63 (.tmp 12)), none⟩,
   ⟨(some 14), (.call (.mk (.value (.func 103)) #[(.tmp 13)] #[63])), none⟩,
   ⟨(some 15), (.unOp .not 4 (.tmp 14)), none⟩,
   ⟨(some 16), (.move (.tmp 15)), none⟩,
   ⟨(some 17), (.move (.tmp 3)), (some (16, false))⟩,
   ⟨(some 18), (.binOp .gtr 3 (.tmp 17) (.const (.int .i64 0)) 3), (some (16, false))⟩,
   ⟨(some 19), (.move (.tmp 18)), (some (16, false))⟩,
   ⟨(some 20), (.move (.tmp 0)), (some (19, true))⟩,
   ⟨(some 21), (.move (.tmp 3)), (some (19, true))⟩,
   ⟨(some 22), (.binOp .sub 3 (.tmp 21) (.const (.int .i64 1)) 3), (some (19, true))⟩,
   ⟨(some 23), (.indexAddr 48 (.tmp 20) (.tmp 22)), (some (19, true))⟩,
   ⟨(some 24), (.load 63 (.tmp 23)), (some (19, true))⟩,
   ⟨(some 25), (.move (.tmp 0)), (some (19, true))⟩,
   ⟨(some 26), (.move (.tmp 3)), (some (19, true))⟩,
   ⟨(some 27), (.indexAddr 48 (.tmp 25) (.tmp 26)), (some (19, true))⟩,
   ⟨(some 28), (.fieldAddr 63 (.tmp 27) 0), (some (19, true))⟩,
   ⟨(some 29), (.load 3 (.tmp 28)), (some (19, true))⟩,
   ⟨(some 30), (.move (.tmp 0)), (some (19, true))⟩,
   ⟨(some 31), (.move (.tmp 3)), (some (19, true))⟩,
   ⟨(some 32), (.indexAddr 48 (.tmp 30) (.tmp 31)), (some (19, true))⟩,
   ⟨(some 33), (.fieldAddr 63 (.tmp 32) 1), (some (19, true))⟩,
   ⟨(some 34), (.load 3 (.tmp 33)), (some (19, true))⟩,
   ⟨(some 35), (.call (.mk (.value (.func 136)) #[(.tmp 24), (.tmp 29), (.tmp 34)] #[63, 3, 3])), (some (19, true))⟩,
   ⟨(some 36), (.unOp .not 4 (.tmp 35)), (some (19, true))⟩,
   ⟨(some 37), (.pick (.tmp 19) (.tmp 36) (.const (.bool false))), (some (16, false))⟩,
   ⟨(some 38), (.pick (.tmp 16) (.const (.bool true)) (.tmp 37)), none⟩])
 (.cond (.tmp 38) (.seq (.reg [⟨(some 2), (.assign (.const (.bool false))), none⟩])
 .ret) .skip)))
 (.reg [⟨(some 8), (.move (.tmp 3)), none⟩,
   ⟨(some 9), (.binOp .add 3 (.tmp 8) (.const (.int .i64 1)) 3), none⟩,
   ⟨(some 3), (.assign (.tmp 9)), none⟩]))))))
 (.seq (.reg [⟨(some 39), (.move (.tmp 0)), none⟩,
   ⟨(some 40), (.call (.mk (.builtin .len) #[(.tmp 39)] #[48])), none⟩,
   ⟨(some 41), (.binOp .leq 3 (.tmp 40) (.const (.int .i64 15)) 3), none⟩,
   ⟨(some 2), (.assign (.tmp 41)), none⟩])
 .ret)))
theorem x_spec_l24Good : Txt Tryd.prog 87 c_spec_l24Good [.tmp 2] 1 := ⟨by kernel_rfl, by kernel_rfl, _, _, Tryd.func87, rfl, by kernel_rfl, by kernel_rfl, by kernel_rfl, rfl, by decide⟩
/-- loop.example/g01062/spec.l24Year -/
def c_spec_l24Year : Cd :=
 (.seq (.reg [⟨(some 2), (.assign (.const (.bool false))), none⟩])
 (.seq (.reg [⟨(some 3), (.move (.tmp 0)), none⟩,
   ⟨(some 4), (.call (.mk (.value (.func 99)) #[(.tmp 3), (.const (.int .i64 1840)), (.const (.int .i64 2100))] #[3, 3, 3])), none⟩,
   ⟨(some 2), (.assign (.tmp 4)), none⟩])
 .ret))
theorem x_spec_l24Year : Txt Tryd.prog 88 c_spec_l24Year [.tmp 2] 1 := ⟨by kernel_rfl, by kernel_rfl, _, _, Tryd.func88, rfl, by kernel_rfl, by kernel_rfl, by kernel_rfl, rfl, by decide⟩
/-- loop.example/g01062/spec.l24Price -/
def c_spec_l24Price : Cd :=
 (.seq (.reg [⟨(some 6), (.assign (.const (.int .i64 0))), none⟩])
 (.seq (.seq (.reg [⟨(some 7), (.assign (.const (.int .i64 0))), none⟩])
 (.block 0 (.loop (.seq (.seq (.reg [⟨(some 13), (.move (.tmp 7)), none⟩,
   ⟨(some 14), (.move (.tmp 0)), none⟩,
   ⟨(some 15), (.call (.mk (.builtin .len) #[(.tmp 14)] #[48])), none⟩,
   ⟨(some 16), (.binOp .lss 3 (.tmp 13) (.tmp 15) 3), none⟩])
 (.cond (.tmp 16) .skip (.exit 0)))
 (.seq (.block 1 (.seq (.reg [⟨(some 19), (.move (.tmp 0)), none⟩,
   ⟨(some 20), (.move (.tmp 7)), none⟩,
   ⟨(some 21), (.indexAddr 48 (.tmp 19) (.tmp 20)), none⟩,
   ⟨(some 22), (.load 63 (.tmp 21)), none⟩,
   ⟨(some 8), (.alloc 63), none⟩,
   ⟨none, (.store 63 (.tmp 8) (.tmp 22)), none⟩])
 (.seq (.seq (.reg [⟨(some 23), (.fieldAddr 63 (.tmp 8) 0), none⟩,
   ⟨(some 24), (.load 3 (.tmp 23)), none⟩,
   ⟨(some 25), (.move (.tmp 1)), none⟩,
   ⟨(some 26), (.binOp .neq 3 (.tmp 24) (.tmp 25) 3), none⟩,
   ⟨(some 27), (.move (.tmp 26)), none⟩,
   ⟨(some 28), (.fieldAddr 63 (.tmp 8) 1), (some (27, false))⟩,
   ⟨(some 29), (.load 3 (.tmp 28)), (some (27, false))⟩,
   ⟨(some 30), (.move (.tmp 2)), (some (27, false))⟩,
   ⟨(some 31), (.binOp .lss 3 (.tmp 29) (.tmp 30) 3), (some (27, false))⟩,
   ⟨(some 32), (.pick (.tmp 27) (.const (.bool true)) (.tmp 31)), none⟩])
 (.cond (.tmp 32) (.exit 1) .skip))
 (.seq (.seq (.reg [⟨(some 33), (.fieldAddr 63 (.tmp 8) 1), none⟩,
   ⟨(some 34), (.load 3 (.tmp 33)), none⟩,
   ⟨(some 35), (.move (.tmp 2)), none⟩,
   ⟨(some 36), (.binOp .eql 3 (.tmp 34) (.tmp 35) 3), none⟩])
 (.cond (.tmp 36) (.seq (.reg [⟨(some 37), (.fieldAddr 63 (.tmp 8) 2), none⟩,
   ⟨(some 38), (.load 3 (.tmp 37)), none⟩,
   ⟨(some 6), (.assign (.tmp 38)), none⟩])
 .ret) .skip))
 (.seq (.seq (.reg [⟨(some 39), (.move (.tmp 7)), none⟩,
   ⟨(some 40), (.binOp .eql 3 (.tmp 39) (.const (.int .i64 0)) 3), none⟩,
   ⟨(some 41), (.move (.tmp 40)), none⟩,
   ⟨(some 42), (.move (.tmp 0)), (some (41, false))⟩,
   ⟨(some 43), (.move (.tmp 7)), (some (41, false))⟩,
   ⟨(some 44), (.binOp .sub 3 (.tmp 43) (.const (.int .i64 1)) 3), (some (41, false))⟩,
   ⟨(some 45), (.indexAddr 48 (.tmp 42) (.tmp 44)), (some (41, false))⟩,
   ⟨(some 46), (.fieldAddr 63 (.tmp 45) 0), (some (41, false))⟩,
   ⟨(some 47), (.load 3 (.tmp 46)), (some (41, false))⟩,
   ⟨(some 48), (.move (.tmp 1)), (some (41, false))⟩,
   ⟨(some 49), (.binOp .neq 3 (.tmp 47) (.tmp 48) 3), (some (41, false))⟩,
   ⟨(some 50), (.pick (.tmp 41) (.const (.bool true)) (.tmp 49)), none⟩])
 (.cond (.tmp 50) (.seq (.reg [⟨(some 6), (.assign (.const (.int .i64 0))), none⟩])
 .ret) .skip))
 (.seq (.reg [⟨(some 51), (.move (.tmp 0)), none⟩,
   ⟨(some 52), (.move (.tmp 7)), none⟩,
   ⟨(some 53), (.binOp .sub 3 (.tmp 52) (.const (.int .i64 1)) 3), none⟩,
   ⟨(some 54), (.indexAddr 48 (.tmp 51) (.tmp 53)), none⟩,
   ⟨(some 55), (.load 63 (.tmp 54)), none⟩,
   ⟨(some 9), (.alloc 63), none⟩,
   ⟨none, (.store 63 (.tmp 9) (.tmp 55)), none⟩])
 (.seq (.regq [⟨(some 56), (.fieldAddr 63 (.tmp 8) 2), none⟩,
   ⟨(some 57), (.load 3 (.tmp 56)), none⟩,
   ⟨(some 58), (.fieldAddr 63 (.tmp 9) 2), none⟩,
   ⟨(some 59), (.load 3 (.tmp 58)), none⟩,
   ⟨(some 60), (.binOp .sub 3 (.tmp 57) (.tmp 59) 3), none⟩,
   ⟨(some 61), (.fieldAddr 63 (.tmp 8) 1), none⟩,
   ⟨(some 62), (.load 3 (.tmp 61)), none⟩,
   ⟨(some 63), (.fieldAddr 63 (.tmp 9) 1), none⟩,
   ⟨(some 64), (.load 3 (.tmp 63)), none⟩,
   ⟨(some 65), (.binOp .sub 3 (.tmp 62) (.tmp 64) 3), none⟩,
   ⟨(some 66), (.move (.tmp 2)), none⟩,
   ⟨(some 67), (.fieldAddr 63 (.tmp 9) 1), none⟩,
   ⟨(some 68), (.load 3 (.tmp 67)), none⟩,
   ⟨(some 69), (.binOp .sub 3 (.tmp 66) (.tmp 68) 3), none⟩,
   ⟨(some 10), (.assign (.tmp 60)), none⟩,
   ⟨(some 11), (.assign (.tmp 65)), none⟩,
   ⟨(some 12), (.assign (.tmp 69)), none⟩])
 (.seq (.seq (.reg [⟨(some 70), (.move (.tmp 10)), none⟩,
   ⟨(some 71), (.binOp .lss 3 (.tmp 70) (.const (.int .i64 0)) 3), none⟩])
 (.cond (.tmp 71) (.seq (.regq [⟨(some 72), (.fieldAddr 63 (.tmp 9) 2), none⟩,
   ⟨(some 73), (.load 3 (.tmp 72)), none⟩,
   ⟨(some 74), (.move (.tmp 10)), none⟩,
   ⟨(some 75), (.unOp .neg 3 (.tmp 74)), none⟩,
   ⟨(some 76), (.move (.tmp 12)), none⟩,
   ⟨(some 77), (.binOp .mul 3 (.tmp 75) (.tmp 76) 3), none⟩,
   ⟨(some 78), (.move (.tmp 11)), none⟩,
   ⟨(some 79), (.binOp .add 3 (.tmp 77) (.tmp 78) 3), none⟩,
   ⟨(some 80), (.binOp .sub 3 (.tmp 79) (.const (.int .i64 1)) 3), none⟩,
   ⟨(some 81), (.move (.tmp 11)), none⟩,
   ⟨(some 82), (.binOp .quo 3 (.tmp 80) (.tmp 81) 3), none⟩,
   ⟨(some 83), (.binOp .sub 3 (.tmp 73) (.tmp 82) 3), none⟩,
   ⟨(some 6), (.assign (.tmp 83)), none⟩])
 .ret) .skip))
 (.seq (.regq [⟨(some 84), (.fieldAddr 63 (.tmp 9) 2), none⟩,
   ⟨(some 85), (.load 3 (.tmp 84)), none⟩,
   ⟨(some 86), (.move (.tmp 10)), none⟩,
   ⟨(some 87), (.move (.tmp 12)), none⟩,
   ⟨(some 88), (.binOp .mul 3 (.tmp 86) (.tmp 87) 3), none⟩,
   ⟨(some 89), (.move (.tmp 11)), none⟩,
   ⟨(some 90), (.binOp .quo 3 (.tmp 88) (.tmp 89) 3), none⟩,
   ⟨(some 91), (.binOp .add 3 (.tmp 85) (.tmp 90) 3), none⟩,
   ⟨(some 6), (.assign (.tmp 91)), none⟩])
 .ret)))))))))
 (.reg [⟨(some 17), (.move (.tmp 7)), none⟩,
   ⟨(some 18), (.binOp .add 3 (.tmp 17) (.const (.int .i64 1)) 3), none⟩,
   ⟨(some 7), (.assign (.tmp 18)), none⟩]))))))
 (.seq (.reg [⟨(some 6), (.assign (.const (.int .i64 0))), none⟩])
 .ret)))
theorem x_spec_l24Price : Txt Tryd.prog 89 c_spec_l24Price [.tmp 6] 3 := ⟨by kernel_rfl, by kernel_rfl, _, _, Tryd.func89, rfl, by kernel_rfl, by kernel_rfl, by kernel_rfl, rfl, by decide⟩
/-- loop.example/g01062/spec.l1Put -/
def c_spec_l1Put : Cd :=
 (.seq (.reg [⟨(some 4), (.assign (.const (.slice none 0 0))), none⟩])
 (.seq (.reg [⟨(some 5), (.assign (.const (.int .i64 0))), none⟩])
 (.seq (.block 0 (.loop (.seq (.seq (.reg [⟨(some 6), (.move (.tmp 5)), none⟩,
   ⟨(some 7), (.move (.tmp 0)), none⟩,
   ⟨(some 8), (.call (.mk (.builtin .len) #[(.tmp 7)] #[30])), none⟩,
   ⟨(some 9), (.binOp .lss 3 (.tmp 6) (.tmp 8) 3), none⟩,
   ⟨(some 10), (.move (.tmp 9)), none⟩,
   ⟨(some 11), (.move (.tmp 0)), (some (10, true))⟩,
   ⟨(some 12), (.move (.tmp 5)), (some (10, true))⟩,
   ⟨(some 13), (.indexAddr 30 (.tmp 11) (.tmp 12)), (some (10, true))⟩,
   ⟨(some 14), (.load 3 (.tmp 13)), (some (10, true))⟩,
   ⟨(some 15), (.move (.tmp 1)), (some (10, true))⟩,
   ⟨(some 16), (.binOp .lss 3 (.tmp 14) (.tmp 15) 3), (some (10, true))⟩,
   ⟨(some 17), (.pick (.tmp 10) (.tmp 16) (.const (.bool false))), none⟩])
 (.cond (.tmp 17) .skip (.exit 0)))
 (.block 1 (.reg [⟨(some 18), (.move (.tmp 5)), none⟩,
   ⟨(some 19), (.binOp .add 3 (.tmp 18) (.const (.int .i64 1)) 3), none⟩,
   ⟨(some 5), (.assign (.tmp 19)), none⟩])))))
 (.seq (.seq (.reg [⟨(some 20), (.move (.tmp 5)), none⟩,
   ⟨(some 21), (.move (.tmp 0)), none⟩,
   ⟨(some 22), (.call (.mk (.builtin .len) #[(.tmp 21)] #[30])), none⟩,
   ⟨(some 23), (.binOp .lss 3 (.tmp 20) (.tmp 22) 3), none⟩,
   ⟨(some 24), (.move (.tmp 23)), none⟩,
   ⟨(some 25), (.move (.tmp 0)), (some (24, true))⟩,
   ⟨(some 26), (.move (.tmp 5)), (some (24, true))⟩,
   ⟨(some 27), (.indexAddr 30 (.tmp 25) (.tmp 26)), (some (24, true))⟩,
   ⟨(some 28), (.load 3 (.tmp 27)), (some (24, true))⟩,
   ⟨(some 29), (.move (.tmp 1)), (some (24, true))⟩,
   ⟨(some 30), (.binOp .eql 3 (.tmp 28) (.tmp 29) 3), (some (24, true))⟩,
   ⟨(some 31), (.pick (.tmp 24) (.tmp 30) (.const (.bool false))), none⟩])
 (.cond (.tmp 31) (.seq (.reg [⟨(some 32), (.move (.tmp 0)), none⟩,
   ⟨(some 4), (.assign (.tmp 32)), none⟩])
 .ret) .skip))
 (.seq (.regt [⟨(some 34), (.move (.tmp 0)), none⟩,
   ⟨(some 35), (.move (.tmp 5)), none⟩,
   ⟨(some 36), (.slice 30 (.tmp 34) none (some (.tmp 35)) none), none⟩,
   ⟨(some 38), (.move (.tmp 1)), none⟩,
   ⟨(some 41), (.move (.tmp 0)), none⟩,
   ⟨(some 42), (.move (.tmp 5)), none⟩,
   ⟨(some 43), (.slice 30 (.tmp 41) (some (.tmp 42)) none none), none⟩] (.alt false ⟨(some 33), (.buildSlice 30 0 #[]), none⟩
   (.alt false ⟨(some 37), (.call (.mk (.builtin .append) #[(.tmp 33), (.tmp 36)] #[30, 30])), none⟩
   (.one false ⟨(some 39), (.buildSlice 30 1 #[(0, (.tmp 38))]), none⟩
   (.one false ⟨(some 40), (.call (.mk (.builtin .append) #[(.tmp 37), (.tmp 39)] #[30, 30])), none⟩
   (.one false ⟨(some 44), (.call (.mk (.builtin .append) #[(.tmp 40), (.tmp 43)] #[30, 30])), none⟩
   (.one false ⟨(some 4), (.assign (.tmp 44)), none⟩
   .done))))
   (.one false ⟨(some 39), (.buildSlice 30 1 #[(0, (.tmp 38))]), none⟩
   (.one false ⟨(some 37), (.call (.mk (.builtin .append) #[(.tmp 33), (.tmp 36)] #[30, 30])), none⟩
   (.one false ⟨(some 40), (.call (.mk (.builtin .append) #[(.tmp 37), (.tmp 39)] #[30, 30])), none⟩
   (.one false ⟨(some 44), (.call (.mk (.builtin .append) #[(.tmp 40), (.tmp 43)] #[30, 30])), none⟩
   (.one false ⟨(some 4), (.assign (.tmp 44)), none⟩
   .done))))))
   (.one false ⟨(some 39), (.buildSlice 30 1 #[(0, (.tmp 38))]), none⟩
   (.one false ⟨(some 33), (.buildSlice 30 0 #[]), none⟩
   (.one false ⟨(some 37), (.call (.mk (.builtin .append) #[(.tmp 33), (.tmp 36)] #[30, 30])), none⟩
   (.one false ⟨(some 40), (.call (.mk (.builtin .append) #[(.tmp 37), (.tmp 39)] #[30, 30])), none⟩
   (.one false ⟨(some 44), (.call (.mk (.builtin .append) #[(.tmp 40), (.tmp 43)] #[30, 30])), none⟩
   (.one false ⟨(some 4), (.assign (.tmp 44)), none⟩
   .done))))))) [])
 .ret)))))
theorem x_spec_l1Put : Txt Tryd.prog 90 c_spec_l1Put [.tmp 4] 2 := ⟨by kernel_rfl, by kernel_rfl, _, _, Tryd.func90, rfl, by kernel_rfl, by kernel_rfl, by kernel_rfl, rfl, by decide⟩
/-- loop.example/g01062/impl.priceIn -/
def c_impl_priceIn : Cd :=
 (.seq (.reg [⟨(some 6), (.assign (.const (.int .i64 0))), none⟩,
   ⟨(some 7), (.assign (.const (.bool false))), none⟩])
 (.seq (.seq (.reg [⟨(some 13), (.move (.tmp 0)), none⟩,
   ⟨(some 14), (.call (.mk (.builtin .len) #[(.tmp 13)] #[48])), none⟩,
   ⟨(some 15), (.move (.const (.int .i64 0))), none⟩])
 (.block 0 (.loop (.seq (.reg [⟨(some 16), (.binOp .lss 3 (.tmp 15) (.tmp 14) 3), none⟩])
 (.seq (.cond (.tmp 16) .skip (.exit 0))
 (.seq (.block 1 (.seq (.reg [⟨(some 17), (.move (.tmp 15)), none⟩,
   ⟨(some 18), (.indexAddr 48 (.tmp 13) (.tmp 15)), none⟩,
   ⟨(some 19), (.load 63 (.tmp 18)), none⟩,
   ⟨(some 9), (.alloc 63), none⟩,
   ⟨(some 8), (.assign (.tmp 17)), none⟩,
   ⟨none, (.store 63 (.tmp 9) (.tmp 19)), none⟩])
 (.seq (.seq (.reg [⟨(some 20), (.fieldAddr 63 (.tmp 9) 0), none⟩,
   ⟨(some 21), (.load 3 (.tmp 20)), none⟩,
   ⟨(some 22), (.move (.tmp 1)), none⟩,
   ⟨(some 23), (.binOp .neq 3 (.tmp 21) (.tmp 22) 3), none⟩])
 (.cond (.tmp 23) (.exit 1) .skip))
 (.seq (.seq (.reg [⟨(some 24), (.fieldAddr 63 (.tmp 9) 1), none⟩,
   ⟨(some 25), (.load 3 (.tmp 24)), none⟩,
   ⟨(some 26), (.move (.tmp 2)), none⟩,
   ⟨(some 27), (.binOp .eql 3 (.tmp 25) (.tmp 26) 3), none⟩])
 (.cond (.tmp 27) (.seq (.reg [⟨(some 28), (.fieldAddr 63 (.tmp 9) 2), none⟩,
   ⟨(some 29), (.load 3 (.tmp 28)), none⟩,
   ⟨(some 6), (.assign (.tmp 29)), none⟩,
   ⟨(some 7), (.assign (.const (.bool true))), none⟩])
 .ret) .skip))
 (.seq (.reg [⟨(some 30), (.move (.tmp 8)), none⟩,
   ⟨(some 31), (.binOp .add 3 (.tmp 30) (.const (.int .i64 1)) 3), none⟩,
   ⟨(some 32), (.move (.tmp 0)), none⟩,
   ⟨(some 33), (.call (.mk (.builtin .len) #[(.tmp 32)] #[48])), none⟩,
   ⟨(some 34), (.binOp .lss 3 (.tmp 31) (.tmp 33) 3), none⟩,
   ⟨(some 35), (.move (.tmp 34)), none⟩,
   ⟨(some 36), (.move (.tmp 0)), (some (35, true))⟩,
   ⟨(some 37), (.move (.tmp 8)), (some (35, true))⟩,
   ⟨(some 38), (.binOp .add 3 (.tmp 37) (.const (.int .i64 1)) 3), (some (35, true))⟩,
   ⟨(some 39), (.indexAddr 48 (.tmp 36) (.tmp 38)), (some (35, true))⟩,
   ⟨(some 40), (.fieldAddr 63 (.tmp 39) 0), (some (35, true))⟩,
   ⟨(some 41), (.load 3 (.tmp 40)), (some (35, true))⟩,
   ⟨(some 42), (.move (.tmp 1)), (some (35, true))⟩,
   ⟨(some 43), (.binOp .eql 3 (.tmp 41) (.tmp 42) 3), (some (35, true))⟩,
   ⟨(some 44), (.pick (.tmp 35) (.tmp 43) (.const (.bool false))), none⟩,
   ⟨(some 45), (.move (.tmp 44)), none⟩,
   ⟨(some 46), (.fieldAddr 63 (.tmp 9) 1), (some (45, true))⟩,
   ⟨(some 47), (.load 3 (.tmp 46)), (some (45, true))⟩,
   ⟨(some 48), (.move (.tmp 2)), (some (45, true))⟩,
   ⟨(some 49), (.binOp .lss 3 (.tmp 47) (.tmp 48) 3), (some (45, true))⟩,
   ⟨(some 50), (.pick (.tmp 45) (.tmp 49) (.const (.bool false))), none⟩,
   ⟨(some 51), (.move (.tmp 50)), none⟩,
   ⟨(some 52), (.move (.tmp 2)), (some (51, true))⟩,
   ⟨(some 53), (.move (.tmp 0)), (some (51, true))⟩,
   ⟨(some 54), (.move (.tmp 8)), (some (51, true))⟩,
   ⟨(some 55), (.binOp .add 3 (.tmp 54) (.const (.int .i64 1)) 3), (some (51, true))⟩,
   ⟨(some 56), (.indexAddr 48 (.tmp 53) (.tmp 55)), (some (51, true))⟩,
   ⟨(some 57), (.fieldAddr 63 (.tmp 56) 1), (some (51, true))⟩,
   ⟨(some 58), (.load 3 (.tmp 57)), (some (51, true))⟩,
   ⟨(some 59), (.binOp .lss 3 (.tmp 52) (.tmp 58) 3), (some (51, true))⟩,
   ⟨(some 60), (.pick (.tmp 51) (.tmp 59) (.const (.bool false))), none⟩])
 (.cond (.tmp 60) (.seq (.regq [⟨(some 61), (.move (.tmp 0)), none⟩,
   ⟨(some 62), (.move (.tmp 8)), none⟩,
   ⟨(some 63), (.binOp .add 3 (.tmp 62) (.const (.int .i64 1)) 3), none⟩,
   ⟨(some 64), (.indexAddr 48 (.tmp 61) (.tmp 63)), none⟩,
   ⟨(some 65), (.fieldAddr 63 (.tmp 64) 2), none⟩,
   ⟨(some 66), (.load 3 (.tmp 65)), none⟩,
   ⟨(some 67), (.fieldAddr 63 (.tmp 9) 2), none⟩,
   ⟨(some 68), (.load 3 (.tmp 67)), none⟩,
   ⟨(some 69), (.binOp .sub 3 (.tmp 66) (.tmp 68) 3), none⟩,
   ⟨(some 70), (.move (.tmp 2)), none⟩,
   ⟨(some 71), (.fieldAddr 63 (.tmp 9) 1), none⟩,
   ⟨(some 72), (.load 3 (.tmp 71)), none⟩,
   ⟨(some 73), (.binOp .sub 3 (.tmp 70) (.tmp 72) 3), none⟩,
   ⟨(some 74), (.binOp .mul 3 (.tmp 69) (.tmp 73) 3), none⟩,
   ⟨(some 75), (.move (.tmp 0)), none⟩,
   ⟨(some 76), (.move (.tmp 8)), none⟩,
   ⟨(some 77), (.binOp .add 3 (.tmp 76) (.const (.int .i64 1)) 3), none⟩,
   ⟨(some 78), (.indexAddr 48 (.tmp 75) (.tmp 77)), none⟩,
   ⟨(some 79), (.fieldAddr 63 (.tmp 78) 1), none⟩,
   ⟨(some 80), (.load 3 (.tmp 79)), none⟩,
   ⟨(some 81), (.fieldAddr 63 (.tmp 9) 1), none⟩,
   ⟨(some 82), (.load 3 (.tmp 81)), none⟩,
   ⟨(some 83), (.binOp .sub 3 (.tmp 80) (.tmp 82) 3), none⟩,
   ⟨(some 10), (.assign (.tmp 74)), none⟩,
   ⟨(some 11), (.assign (.tmp 83)), none⟩])
 (.seq (.reg [⟨(some 84), (.move (.tmp 10)), none⟩,
   ⟨(some 85), (.move (.tmp 11)), none⟩,
   ⟨(some 86), (.binOp .quo 3 (.tmp 84) (.tmp 85) 3), none⟩,
   ⟨(some 12), (.assign (.tmp 86)), none⟩])
 (.seq (.seq (.reg [⟨(some 87), (.move (.tmp 10)), none⟩,
   ⟨(some 88), (.move (.tmp 11)), none⟩,
   ⟨(some 89), (.binOp .rem 3 (.tmp 87) (.tmp 88) 3), none⟩,
   ⟨(some 90), (.binOp .lss 3 (.tmp 89) (.const (.int .i64 0)) 3), none⟩])
 (.cond (.tmp 90) (.reg [⟨(some 91), (.move (.tmp 12)), none⟩,
   ⟨(some 92), (.binOp .sub 3 (.tmp 91) (.const (.int .i64 1)) 3), none⟩,
   ⟨(some 12), (.assign (.tmp 92)), none⟩]) .skip))
 (.seq (.reg [⟨(some 93), (.fieldAddr 63 (.tmp 9) 2), none⟩,
   ⟨(some 94), (.load 3 (.tmp 93)), none⟩,
   ⟨(some 95), (.move (.tmp 12)), none⟩,
   ⟨(some 96), (.binOp .add 3 (.tmp 94) (.tmp 95) 3), none⟩,
   ⟨(some 6), (.assign (.tmp 96)), none⟩,
   ⟨(some 7), (.assign (.const (.bool true))), none⟩])
 .ret)))) .skip))))))
 (.reg [⟨(some 97), (.binOp .add 3 (.tmp 15) (.const (.int .i64 1)) 3), none⟩,
   ⟨(some 15), (.move (.tmp 97)), none⟩])))))))
 (.seq (.reg [⟨(some 6), (.assign (.const (.int .i64 0))), none⟩,
   ⟨(some 7), (.assign (.const (.bool false))), none⟩])
 .ret)))
theorem x_impl_priceIn : Txt Tryd.prog 91 c_impl_priceIn [.tmp 6, .tmp 7] 3 := ⟨by kernel_rfl, by kernel_rfl, _, _, Tryd.func91, rfl, by kernel_rfl, by kernel_rfl, by kernel_rfl, rfl, by decide⟩
/-- loop.example/g01062/impl.isItem -/
def c_impl_isItem : Cd :=
 (.seq (.reg [⟨(some 2), (.assign (.const (.bool false))), none⟩])
 (.seq (.reg [⟨(some 3), (.move (.tmp 0)), none⟩,
   ⟨(some 4), (.call (.mk (.value (.func 97)) #[(.tmp 3), (.const (.int .i64 1)), (.const (.int .i64 999))] #[3, 3, 3])), none⟩,
   ⟨(some 2), (.assign (.tmp 4)), none⟩])
 .ret))
theorem x_impl_isItem : Txt Tryd.prog 92 c_impl_isItem [.tmp 2] 1 := ⟨by kernel_rfl, by kernel_rfl, _, _, Tryd.func92, rfl, by kernel_rfl, by kernel_rfl, by kernel_rfl, rfl, by decide⟩
/-- slices.ContainsFunc[[]int,int] -/
def c_slices_ContainsFunc_int : Cd :=
 (.seq (.reg [⟨(some 4), (.assign (.const (.bool false))), none⟩])
 (.seq (.reg [⟨(some 5), (.move (.tmp 0)), none⟩,
   ⟨(some 6), (.move (.tmp 1)), none⟩,
   ⟨(some 7), (.call (.mk (.value (.func 137)) #[(.tmp 5), (.tmp 6)] #[30, 88])), none⟩,
   ⟨(some 8), (.binOp .geq 3 (.tmp 7) (.const (.int .i64 0)) 3), none⟩,
   ⟨(some 4), (.assign (.tmp 8)), none⟩])
 .ret))
theorem x_slices_ContainsFunc_int : Txt Tryd.prog 93 c_slices_ContainsFunc_int [.tmp 4] 2 := ⟨by kernel_rfl, by kernel_rfl, _, _, Tryd.func93, rfl, by kernel_rfl, by kernel_rfl, by kernel_rfl, rfl, by decide⟩
/-- loop.example/g01062/impl.BasketIn closure 1 -/
def c_impl_BasketIn_1 : Cd :=
 (.seq (.reg [⟨(some 2), (.assign (.const (.bool false))), none⟩])
 (.seq (.reg [⟨(some 3), (.move (.tmp 0)), none⟩,
   ⟨(some 4), (.call (.mk (.value (.func 92)) #[(.tmp 3)] #[3])), none⟩,
   ⟨(some 5), (.unOp .not 4 (.tmp 4)), none⟩,
   ⟨(some 2), (.assign (.tmp 5)), none⟩])
 .ret))
theorem x_impl_BasketIn_1 : Txt Tryd.prog 94 c_impl_BasketIn_1 [.tmp 2] 1 := ⟨by kernel_rfl, by kernel_rfl, _, _, Tryd.func94, rfl, by kernel_rfl, by kernel_rfl, by kernel_rfl, rfl, by decide⟩
/-- (*loop.example/g01062/spec.l1Cur).item24 -/
def c_spec_l1Cur_item24 : Cd :=
 (.seq (.reg [⟨(some 4), (.assign (.const (.int .i64 0))), none⟩])
 (.seq (.seq (.reg [⟨(some 5), (.move (.tmp 1)), none⟩,
   ⟨(some 6), (.call (.mk (.builtin .len) #[(.tmp 5)] #[48])), none⟩,
   ⟨(some 7), (.binOp .eql 3 (.tmp 6) (.const (.int .i64 0)) 3), none⟩,
   ⟨(some 8), (.move (.tmp 7)), none⟩,
   ⟨(some 9), (.move (.tmp 0)), (some (8, false))⟩,
   ⟨(some 10), (.call (.mk (.value (.func 73)) #[(.tmp 9), (.const (.int .i64 8))] #[80, 3])), (some (8, false))⟩,
   ⟨(some 11), (.pick (.tmp 8) (.const (.bool true)) (.tmp 10)), none⟩])
 (.cond (.tmp 11) (.seq (.reg [⟨(some 12), (.move (.tmp 0)), none⟩,
   ⟨(some 13), (.buildSlice 30 5 #[(0, (.const (.int .i64 1))), (1, (.const (.int .i64 5))), (2, (.const (.int .i64 999))), (3, (.const (.int .i64 0))), (4, (.const (.int .i64 1000)))]), none⟩,
   ⟨(some 14), (.move (.tmp 0)), none⟩,
   ⟨(some 15), (.call (.mk (.value (.func 65)) #[(.tmp 14), (.const (.int .i64 24))] #[80, 3])), none⟩,
   ⟨(some 16), (.binOp .quo 3 (.tmp 15) (.const (.int .i64 11)) 3), none⟩,
   ⟨(some 17), (.binOp .add 3 (.const (.int .i64 3)) (.tmp 16) 3), none⟩,
   ⟨(some 18), (.slice 30 (.tmp 13) none (some (.tmp 17)) none), none⟩,
   ⟨(some 19), (.call (.mk (.value (.func 64)) #[(.tmp 12), (.tmp 18)] #[80, 30])), none⟩,
   ⟨(some 4), (.assign (.tmp 19)), none⟩])
 .ret) .skip))
 (.seq (.reg [⟨(some 20), (.move (.tmp 1)), none⟩,
   ⟨(some 21), (.move (.tmp 0)), none⟩,
   ⟨(some 22), (.move (.tmp 1)), none⟩,
   ⟨(some 23), (.call (.mk (.builtin .len) #[(.tmp 22)] #[48])), none⟩,
   ⟨(some 24), (.call (.mk (.value (.func 65)) #[(.tmp 21), (.tmp 23)] #[80, 3])), none⟩,
   ⟨(some 25), (.indexAddr 48 (.tmp 20) (.tmp 24)), none⟩,
   ⟨(some 26), (.fieldAddr 63 (.tmp 25) 0), none⟩,
   ⟨(some 27), (.load 3 (.tmp 26)), none⟩,
   ⟨(some 4), (.assign (.tmp 27)), none⟩])
 .ret)))
theorem x_spec_l1Cur_item24 : Txt Tryd.prog 95 c_spec_l1Cur_item24 [.tmp 4] 2 := ⟨by kernel_rfl, by kernel_rfl, _, _, Tryd.func95, rfl, by kernel_rfl, by kernel_rfl, by kernel_rfl, rfl, by decide⟩
/-- loop.example/g01062/spec.l24Item -/
def c_spec_l24Item : Cd :=
 (.seq (.reg [⟨(some 2), (.assign (.const (.bool false))), none⟩])
 (.seq (.reg [⟨(some 3), (.move (.tmp 0)), none⟩,
   ⟨(some 4), (.call (.mk (.value (.func 99)) #[(.tmp 3), (.const (.int .i64 1)), (.const (.int .i64 999))] #[3, 3, 3])), none⟩,
   ⟨(some 2), (.assign (.tmp 4)), none⟩])
 .ret))
theorem x_spec_l24Item : Txt Tryd.prog 96 c_spec_l24Item [.tmp 2] 1 := ⟨by kernel_rfl, by kernel_rfl, _, _, Tryd.func96, rfl, by kernel_rfl, by kernel_rfl, by kernel_rfl, rfl, by decide⟩
/-- loop.example/g01062/impl.inRange -/
def c_impl_inRange : Cd :=
 (.seq (.reg [⟨(some 6), (.assign (.const (.bool false))), none⟩])
 (.seq (.reg [⟨(some 7), (.move (.tmp 0)), none⟩,
   ⟨(some 8), (.move (.tmp 1)), none⟩,
   ⟨(some 9), (.binOp .geq 3 (.tmp 7) (.tmp 8) 3), none⟩,
   ⟨(some 10), (.move (.tmp 9)), none⟩,
   ⟨(some 11), (.move (.tmp 0)), (some (10, true))⟩,
   ⟨(some 12), (.move (.tmp 2)), (some (10, true))⟩,
   ⟨(some 13), (.binOp .leq 3 (.tmp 11) (.tmp 12) 3), (some (10, true))⟩,
   ⟨(some 14), (.pick (.tmp 10) (.tmp 13) (.const (.bool false))), none⟩,
   ⟨(some 6), (.assign (.tmp 14)), none⟩])
 .ret))
theorem x_impl_inRange : Txt Tryd.prog 97 c_impl_inRange [.tmp 6] 3 := ⟨by kernel_rfl, by kernel_rfl, _, _, Tryd.func97, rfl, by kernel_rfl, by kernel_rfl, by kernel_rfl, rfl, by decide⟩
/-- slices.Clone[[]loop.example/g01062/impl.PriceRow,loop.example/g01062/impl.PriceRow] -/
def c_slices_Clone_PriceRow : Cd :=
 (.seq (.reg [⟨(some 2), (.assign (.const (.slice none 0 0))), none⟩])
 (.seq (.seq (.reg [⟨(some 3), (.move (.tmp 0)), none⟩,
   ⟨(some 4), (.binOp .eql 48 (.tmp 3) (.const (.slice none 0 0)) 48), none⟩])
 (.cond (.tmp 4) (.seq (.reg [⟨(some 2), (.assign (.const (.slice none 0 0))), none⟩])
 .ret) .skip))
 (.seq (.reg [⟨(some 5), (.buildSlice 48 0 #[]), none⟩,
   ⟨(some 6), (.move (.tmp 0)), none⟩,
   ⟨(some 7), (.call (.mk (.builtin .append) #[(.tmp 5), (.tmp 6)] #[48, 48])), none⟩,
   ⟨(some 2), (.assign (.tmp 7)), none⟩])
 .ret)))
theorem x_slices_Clone_PriceRow : Txt Tryd.prog 98 c_slices_Clone_PriceRow [.tmp 2] 1 := ⟨by kernel_rfl, by kernel_rfl, _, _, Tryd.func98, rfl, by kernel_rfl, by kernel_rfl, by kernel_rfl, rfl, by decide⟩
/-- loop.example/g01062/spec.l1In -/
def c_spec_l1In : Cd :=
 (.seq (.reg [⟨(some 6), (.assign (.const (.bool false))), none⟩])
 (.seq (.reg [⟨(some 7), (.move (.tmp 0)), none⟩,
   ⟨(some 8), (.move (.tmp 1)), none⟩,
   ⟨(some 9), (.binOp .geq 3 (.tmp 7) (.tmp 8) 3), none⟩,
   ⟨(some 10), (.move (.tmp 9)), none⟩,
   ⟨(some 11), (.move (.tmp 0)), (some (10, true))⟩,
   ⟨(some 12), (.move (.tmp 2)), (some (10, true))⟩,
   ⟨(some 13), (.binOp .leq 3 (.tmp 11) (.tmp 12) 3), (some (10, true))⟩,
   ⟨(some 14), (.pick (.tmp 10) (.tmp 13) (.const (.bool false))), none⟩,
   ⟨(some 6), (.assign (.tmp 14)), none⟩])
 .ret))
theorem x_spec_l1In : Txt Tryd.prog 99 c_spec_l1In [.tmp 6] 3 := ⟨by kernel_rfl, by kernel_rfl, _, _, Tryd.func99, rfl, by kernel_rfl, by kernel_rfl, by kernel_rfl, rfl, by decide⟩
/-- (*loop.example/g01062/spec.l1Cur).price24 -/
def c_spec_l1Cur_price24 : Cd :=
 (.seq (.reg [⟨(some 6), (.alloc 63), none⟩])
 (.seq (.reg [⟨(some 8), (.move (.tmp 1)), none⟩,
   ⟨(some 9), (.move (.tmp 2)), none⟩,
   ⟨(some 10), (.move (.tmp 0)), none⟩,
   ⟨(some 11), (.buildSlice 30 7 #[(0, (.const (.int .i64 1))), (1, (.const (.int .i64 5))), (2, (.const (.int .i64 100))), (3, (.const (.int .i64 100))), (4, (.const (.int .i64 250))), (5, (.const (.int .i64 1000))), (6, (.const (.int .i64 10000000)))]), none⟩,
   ⟨(some 12), (.call (.mk (.value (.func 64)) #[(.tmp 10), (.tmp 11)] #[80, 30])), none⟩,
   ⟨(some 13), (.build 63 #[(0, (.tmp 8)), (1, (.tmp 9)), (2, (.tmp 12))]), none⟩,
   ⟨(some 7), (.alloc 63), none⟩,
   ⟨none, (.store 63 (.tmp 7) (.tmp 13)), none⟩])
 (.seq (.seq (.reg [⟨(some 14), (.move (.tmp 0)), none⟩,
   ⟨(some 15), (.call (.mk (.value (.func 65)) #[(.tmp 14), (.const (.int .i64 120))] #[80, 3])), none⟩])
 (.block 0 (.seq (.reg [⟨(some 17), (.binOp .eql 3 (.tmp 15) (.const (.int .i64 0)) 3), none⟩,
   ⟨(some 16), (.assign (.tmp 17)), none⟩])
 (.cond (.tmp 16) (.reg [⟨(some 18), (.move (.tmp 0)), none⟩,
   ⟨(some 19), (.buildSlice 30 3 #[(0, (.const (.int .i64 0))), (1, (.const (.int .i64 999))), (2, (.const (.int .i64 1000)))]), none⟩,
   ⟨(some 20), (.call (.mk (.value (.func 64)) #[(.tmp 18), (.tmp 19)] #[80, 30])), none⟩,
   ⟨(some 21), (.fieldAddr 63 (.tmp 7) 0), none⟩,
   ⟨none, (.store 3 (.tmp 21) (.tmp 20)), none⟩]) (.seq (.reg [⟨(some 23), (.binOp .eql 3 (.tmp 15) (.const (.int .i64 1)) 3), none⟩,
   ⟨(some 22), (.assign (.tmp 23)), none⟩])
 (.cond (.tmp 22) (.reg [⟨(some 24), (.move (.tmp 0)), none⟩,
   ⟨(some 25), (.buildSlice 30 2 #[(0, (.const (.int .i64 1839))), (1, (.const (.int .i64 2101)))]), none⟩,
   ⟨(some 26), (.call (.mk (.value (.func 64)) #[(.tmp 24), (.tmp 25)] #[80, 30])), none⟩,
   ⟨(some 27), (.fieldAddr 63 (.tmp 7) 1), none⟩,
   ⟨none, (.store 3 (.tmp 27) (.tmp 26)), none⟩]) (.seq (.reg [⟨(some 29), (.binOp .eql 3 (.tmp 15) (.const (.int .i64 2)) 3), none⟩,
   ⟨(some 28), (.assign (.tmp 29)), none⟩])
 (.cond (.tmp 28) (.reg [⟨(some 30), (.move (.tmp 0)), none⟩,
   ⟨(some 31), (.buildSlice 30 2 #[(0, (.const (.int .i64 0))), (1, (.const (.int .i64 10000001)))]), none⟩,
   ⟨(some 32), (.call (.mk (.value (.func 64)) #[(.tmp 30), (.tmp 31)] #[80, 30])), none⟩,
   ⟨(some 33), (.fieldAddr 63 (.tmp 7) 2), none⟩,
   ⟨none, (.store 3 (.tmp 33) (.tmp 32)), none⟩]) .skip))))))))
 (.seq (.reg [⟨(some 34), (.load 63 (.tmp 7)), none⟩,
   ⟨none, (.store 63 (.tmp 6) (.tmp 34)), none⟩])
 .ret))))
theorem x_spec_l1Cur_price24 : Txt Tryd.prog 100 c_spec_l1Cur_price24 [.cell 6 63] 3 := ⟨by kernel_rfl, by kernel_rfl, _, _, Tryd.func100, rfl, by kernel_rfl, by kernel_rfl, by kernel_rfl, rfl, by decide⟩
/-- loop.example/g01062/impl.isPrice -/
def c_impl_isPrice : Cd :=
 (.seq (.reg [⟨(some 1), (.box 63 (.tmp 0)), none⟩,
   ⟨(some 2), (.assign (.const (.bool false))), none⟩])
 (.seq (.reg [⟨(some 3), (.fieldAddr 63 (.tmp 1) 0), none⟩,
   ⟨(some 4), (.load 3 (.tmp 3)), none⟩,
   ⟨(some 5), (.call (.mk (.value (.func 92)) #[(.tmp 4)] #[3])), none⟩,
   ⟨(some 6), (.move (.tmp 5)), none⟩,
   ⟨(some 7), (.fieldAddr 63 (.tmp 1) 1), (some (6, true))⟩,
   ⟨(some 8), (.load 3 (.tmp 7)), (some (6, true))⟩,
   ⟨(some 9), (.call (.mk (.value (.func 85)) #[(.tmp 8)] #[3])), (some (6, true))⟩,
   ⟨(some 10), (.pick (.tmp 6) (.tmp 9) (.const (.bool false))), none⟩,
   ⟨(some 11), (.move (.tmp 10)), none⟩,
   ⟨(some 12), (.fieldAddr 63 (.tmp 1) 2), (some (11, true))⟩,
   ⟨(some 13), (.load 3 (.tmp 12)), (some (11, true))⟩,
   ⟨(some 14), (.call (.mk (.value (.func 97)) #[(.tmp 13), (.const (.int .i64 1)), (.const (.int .i64 10000000))] #[3, 3, 3])), (some (11, true))⟩,
   ⟨(some 15), (.pick (.tmp 11) (.tmp 14) (.const (.bool false))), none⟩,
   ⟨(some 2), (.assign (.tmp 15)), none⟩])
 .ret))
theorem x_impl_isPrice : Txt Tryd.prog 101 c_impl_isPrice [.tmp 2] 1 := ⟨by kernel_rfl, by kernel_rfl, _, _, Tryd.func101, rfl, by kernel_rfl, by kernel_rfl, by kernel_rfl, rfl, by decide⟩
/-- loop.example/g01062/impl.hundredths -/
def c_impl_hundredths : Cd :=
 (.seq (.reg [⟨(some 2), (.assign (.const (.string (ByteArray.mk #[])))), none⟩])
 (.seq (.reg [⟨(some 4), (.move (.tmp 0)), none⟩,
   ⟨(some 5), (.binOp .quo 3 (.tmp 4) (.const (.int .i64 100)) 3), none⟩,
   ⟨(some 6), (.call (.mk (.value (.func 79)) #[(.tmp 5)] #[3])), none⟩,
   ⟨(some 3), (.assign (.tmp 6)), none⟩])
 (.seq (.seq (.reg [⟨(some 7), (.move (.tmp 0)), none⟩,
   ⟨(some 8), (.binOp .rem 3 (.tmp 7) (.const (.int .i64 100)) 3), none⟩,
   ⟨(some 9), (.binOp .lss 3 (.tmp 8) (.const (.int .i64 10)) 3), none⟩])
 (.cond (.tmp 9) (.seq (.reg [⟨(some 10), (.move (.tmp 3)), none⟩,
   ⟨(some 11), (.binOp .add 9 (.tmp 10) (.const (.string (ByteArray.mk #[46, 48]))) 9), none⟩,
   ⟨(some 12), (.move (.tmp 0)), none⟩,
   ⟨(some 13), (.binOp .rem 3 (.tmp 12) (.const (.int .i64 100)) 3), none⟩,
   ⟨(some 14), (.call (.mk (.value (.func 79)) #[(.tmp 13)] #[3])), none⟩,
   ⟨(some 15), (.binOp .add 9 (.tmp 11) (.tmp 14) 9), none⟩,
   ⟨(some 2), (.assign (.tmp 15)), none⟩])
 .ret) .skip))
 (.seq (.reg [⟨(some 16), (.move (.tmp 3)), none⟩,
   ⟨(some 17), (.binOp .add 9 (.tmp 16) (.const (.string (ByteArray.mk #[46]))) 9), none⟩,
   ⟨(some 18), (.move (.tmp 0)), none⟩,
   ⟨(some 19), (.binOp .rem 3 (.tmp 18) (.const (.int .i64 100)) 3), none⟩,
   ⟨(some 20), (.call (.mk (.value (.func 79)) #[(.tmp 19)] #[3])), none⟩,
   ⟨(some 21), (.binOp .add 9 (.tmp 17) (.tmp 20) 9), none⟩,
   ⟨(some 2), (.assign (.tmp 21)), none⟩])
 .ret))))
theorem x_impl_hundredths : Txt Tryd.prog 102 c_impl_hundredths [.tmp 2] 1 := ⟨by kernel_rfl, by kernel_rfl, _, _, Tryd.func102, rfl, by kernel_rfl, by kernel_rfl, by kernel_rfl, rfl, by decide⟩
/-- loop.example/g01062/spec.l24One -/
def c_spec_l24One : Cd :=
 (.seq (.reg [⟨(some 1), (.box 63 (.tmp 0)), none⟩,
   ⟨(some 2), (.assign (.const (.bool false))), none⟩])
 (.seq (.reg [⟨(some 3), (.fieldAddr 63 (.tmp 1) 0), none⟩,
   ⟨(some 4), (.load 3 (.tmp 3)), none⟩,
   ⟨(some 5), (.call (.mk (.value (.func 96)) #[(.tmp 4)] #[3])), none⟩,
   ⟨(some 6), (.move (.tmp 5)), none⟩,
   ⟨(some 7), (.fieldAddr 63 (.tmp 1) 1), (some (6, true))⟩,
   ⟨(some 8), (.load 3 (.tmp 7)), (some (6, true))⟩,
   ⟨(some 9), (.call (.mk (.value (.func 88)) #[(.tmp 8)] #[3])), (some (6, true))⟩,
   ⟨(some 10), (.pick (.tmp 6) (.tmp 9) (.const (.bool false))), none⟩,
   ⟨(some 11), (.move (.tmp 10)), none⟩,
   ⟨(some 12), (.fieldAddr 63 (.tmp 1) 2), (some (11, true))⟩,
   ⟨(some 13), (.load 3 (.tmp 12)), (some (11, true))⟩,
   ⟨(some 14), (.call (.mk (.value (.func 138)) #[(.tmp 13)] #[3])), (some (11, true))⟩,
   ⟨(some 15), (.pick (.tmp 11) (.tmp 14) (.const (.bool false))), none⟩,
   ⟨(some 2), (.assign (.tmp 15)), none⟩])
 .ret))
theorem x_spec_l24One : Txt Tryd.prog 103 c_spec_l24One [.tmp 2] 1 := ⟨by kernel_rfl, by kernel_rfl, _, _, Tryd.func103, rfl, by kernel_rfl, by kernel_rfl, by kernel_rfl, rfl, by decide⟩
/-- loop.example/g01062/impl.fraction -/
def c_impl_fraction : Cd :=
 (.seq (.reg [⟨(some 4), (.assign (.const (.int .i64 0))), none⟩,
   ⟨(some 5), (.assign (.const (.int .i64 0))), none⟩])
 (.seq (.reg [⟨(some 7), (.move (.tmp 0)), none⟩,
   ⟨(some 8), (.move (.tmp 0)), none⟩,
   ⟨(some 9), (.unOp .neg 3 (.tmp 8)), none⟩,
   ⟨(some 10), (.call (.mk (.builtin .max) #[(.tmp 7), (.tmp 9)] #[3, 3])), none⟩,
   ⟨(some 11), (.move (.tmp 1)), none⟩,
   ⟨(some 12), (.call (.mk (.value (.func 150)) #[(.tmp 10), (.tmp 11)] #[3, 3])), none⟩,
   ⟨(some 6), (.assign (.tmp 12)), none⟩])
 (.seq (.regq [⟨(some 13), (.move (.tmp 0)), none⟩,
   ⟨(some 14), (.move (.tmp 6)), none⟩,
   ⟨(some 15), (.binOp .quo 3 (.tmp 13) (.tmp 14) 3), none⟩,
   ⟨(some 16), (.move (.tmp 1)), none⟩,
   ⟨(some 17), (.move (.tmp 6)), none⟩,
   ⟨(some 18), (.binOp .quo 3 (.tmp 16) (.tmp 17) 3), none⟩,
   ⟨(some 4), (.assign (.tmp 15)), none⟩,
   ⟨(some 5), (.assign (.tmp 18)), none⟩])
 .ret)))
theorem x_impl_fraction : Txt Tryd.prog 116 c_impl_fraction [.tmp 4, .tmp 5] 2 := ⟨by kernel_rfl, by kernel_rfl, _, _, Tryd.func116, rfl, by kernel_rfl, by kernel_rfl, by kernel_rfl, rfl, by decide⟩
/-- loop.example/g01062/spec.l2Reduce -/
def c_spec_l2Reduce : Cd :=
 (.seq (.reg [⟨(some 4), (.assign (.const (.int .i64 0))), none⟩,
   ⟨(some 5), (.assign (.const (.int .i64 0))), none⟩])
 (.seq (.reg [⟨(some 9), (.move (.tmp 0)), none⟩,
   ⟨(some 10), (.move (.tmp 0)), none⟩,
   ⟨(some 11), (.unOp .neg 3 (.tmp 10)), none⟩,
   ⟨(some 12), (.call (.mk (.value (.func 153)) #[(.tmp 9), (.tmp 11)] #[3, 3])), none⟩,
   ⟨(some 13), (.move (.tmp 1)), none⟩,
   ⟨(some 6), (.assign (.tmp 12)), none⟩,
   ⟨(some 7), (.assign (.tmp 13)), none⟩])
 (.seq (.block 0 (.loop (.seq (.seq (.reg [⟨(some 14), (.move (.tmp 7)), none⟩,
   ⟨(some 15), (.binOp .neq 3 (.tmp 14) (.const (.int .i64 0)) 3), none⟩])
 (.cond (.tmp 15) .skip (.exit 0)))
 (.block 1 (.seq (.reg [⟨(some 16), (.move (.tmp 6)), none⟩,
   ⟨(some 17), (.move (.tmp 7)), none⟩,
   ⟨(some 18), (.binOp .rem 3 (.tmp 16) (.tmp 17) 3), none⟩,
   ⟨(some 8), (.assign (.tmp 18)), none⟩])
 (.seq (.reg [⟨(some 19), (.move (.tmp 7)), none⟩,
   ⟨(some 6), (.assign (.tmp 19)), none⟩])
 (.reg [⟨(some 20), (.move (.tmp 8)), none⟩,
   ⟨(some 7), (.assign (.tmp 20)), none⟩])))))))
 (.seq (.regq [⟨(some 21), (.move (.tmp 0)), none⟩,
   ⟨(some 22), (.move (.tmp 6)), none⟩,
   ⟨(some 23), (.binOp .quo 3 (.tmp 21) (.tmp 22) 3), none⟩,
   ⟨(some 24), (.move (.tmp 1)), none⟩,
   ⟨(some 25), (.move (.tmp 6)), none⟩,
   ⟨(some 26), (.binOp .quo 3 (.tmp 24) (.tmp 25) 3), none⟩,
   ⟨(some 4), (.assign (.tmp 23)), none⟩,
   ⟨(some 5), (.assign (.tmp 26)), none⟩])
 .ret))))
theorem x_spec_l2Reduce : Txt Tryd.prog 119 c_spec_l2Reduce [.tmp 4, .tmp 5] 2 := ⟨by kernel_rfl, by kernel_rfl, _, _, Tryd.func119, rfl, by kernel_rfl, by kernel_rfl, by kernel_rfl, rfl, by decide⟩
/-- (*loop.example/g01062/spec.l1Cur).next -/
def c_spec_l1Cur_next : Cd :=
 (.seq (.reg [⟨(some 2), (.assign (.const (.int .i64 0))), none⟩])
 (.seq (.reg [⟨(some 3), (.assign (.const (.int .i64 0))), none⟩])
 (.seq (.seq (.regq [⟨(some 4), (.move (.tmp 0)), none⟩,
   ⟨(some 5), (.nilCheck (.tmp 4)), none⟩,
   ⟨(some 6), (.fieldAddr 83 (.tmp 5) 1), none⟩,
   ⟨(some 7), (.load 3 (.tmp 6)), none⟩,
   ⟨(some 8), (.move (.tmp 0)), none⟩,
   ⟨(some 9), (.nilCheck (.tmp 8)), none⟩,
   ⟨(some 10), (.fieldAddr 83 (.tmp 9) 0), none⟩,
   ⟨(some 11), (.load 22 (.tmp 10)), none⟩,
   ⟨(some 12), (.call (.mk (.builtin .len) #[(.tmp 11)] #[22])), none⟩,
   ⟨(some 13), (.binOp .lss 3 (.tmp 7) (.tmp 12) 3), none⟩])
 (.cond (.tmp 13) (.regq [⟨(some 14), (.move (.tmp 0)), none⟩,
   ⟨(some 15), (.nilCheck (.tmp 14)), none⟩,
   ⟨(some 16), (.fieldAddr 83 (.tmp 15) 0), none⟩,
   ⟨(some 17), (.load 22 (.tmp 16)), none⟩,
   ⟨(some 18), (.move (.tmp 0)), none⟩,
   ⟨(some 19), (.nilCheck (.tmp 18)), none⟩,
   ⟨(some 20), (.fieldAddr 83 (.tmp 19) 1), none⟩,
   ⟨(some 21), (.load 3 (.tmp 20)), none⟩,
   ⟨(some 22), (.indexAddr 22 (.tmp 17) (.tmp 21)), none⟩,
   ⟨(some 23), (.load 5 (.tmp 22)), none⟩,
   ⟨(some 24), (.convert 5 3 (.tmp 23)), none⟩,
   ⟨(some 3), (.assign (.tmp 24)), none⟩]) .skip))
 (.seq (.reg [⟨(some 25), (.move (.tmp 0)), none⟩,
   ⟨(some 26), (.nilCheck (.tmp 25)), none⟩,
   ⟨(some 27), (.fieldAddr 83 (.tmp 26) 1), none⟩,
   ⟨(some 28), (.load 3 (.tmp 27)), none⟩,
   ⟨(some 29), (.binOp .add 3 (.tmp 28) (.const (.int .i64 1)) 3), none⟩,
   ⟨(some 30), (.nilCheck (.tmp 25)), none⟩,
   ⟨(some 31), (.fieldAddr 83 (.tmp 30) 1), none⟩,
   ⟨none, (.store 3 (.tmp 31) (.tmp 29)), none⟩])
 (.seq (.reg [⟨(some 32), (.move (.tmp 0)), none⟩,
   ⟨(some 33), (.move (.tmp 0)), none⟩,
   ⟨(some 34), (.nilCheck (.tmp 33)), none⟩,
   ⟨(some 35), (.fieldAddr 83 (.tmp 34) 2), none⟩,
   ⟨(some 36), (.load 81 (.tmp 35)), none⟩,
   ⟨(some 37), (.binOp .mul 81 (.tmp 36) (.const (.int .u64 6364136223846793005)) 81), none⟩,
   ⟨(some 38), (.move (.tmp 3)), none⟩,
   ⟨(some 39), (.convert 3 81 (.tmp 38)), none⟩,
   ⟨(some 40), (.binOp .add 81 (.tmp 37) (.tmp 39) 81), none⟩,
   ⟨(some 41), (.binOp .add 81 (.tmp 40) (.const (.int .u64 381907)) 81), none⟩,
   ⟨(some 42), (.nilCheck (.tmp 32)), none⟩,
   ⟨(some 43), (.fieldAddr 83 (.tmp 42) 2), none⟩,
   ⟨none, (.store 81 (.tmp 43) (.tmp 41)), none⟩])
 (.seq (.seq (.regq [⟨(some 44), (.move (.tmp 0)), none⟩,
   ⟨(some 45), (.nilCheck (.tmp 44)), none⟩,
   ⟨(some 46), (.fieldAddr 83 (.tmp 45) 1), none⟩,
   ⟨(some 47), (.load 3 (.tmp 46)), none⟩,
   ⟨(some 48), (.move (.tmp 0)), none⟩,
   ⟨(some 49), (.nilCheck (.tmp 48)), none⟩,
   ⟨(some 50), (.fieldAddr 83 (.tmp 49) 0), none⟩,
   ⟨(some 51), (.load 22 (.tmp 50)), none⟩,
   ⟨(some 52), (.call (.mk (.builtin .len) #[(.tmp 51)] #[22])), none⟩,
   ⟨(some 53), (.binOp .leq 3 (.tmp 47) (.tmp 52) 3), none⟩])
 (.cond (.tmp 53) (.seq (.reg [⟨(some 54), (.move (.tmp 3)), none⟩,
   ⟨(some 2), (.assign (.tmp 54)), none⟩])
 .ret) .skip))
 (.seq (.reg [⟨(some 55), (.move (.tmp 0)), none⟩,
   ⟨(some 56), (.nilCheck (.tmp 55)), none⟩,
   ⟨(some 57), (.fieldAddr 83 (.tmp 56) 2), none⟩,
   ⟨(some 58), (.load 81 (.tmp 57)), none⟩,
   ⟨(some 59), (.binOp .shr 81 (.tmp 58) (.const (.int .u64 40)) 138), none⟩,
   ⟨(some 60), (.binOp .and 81 (.tmp 59) (.const (.int .u64 255)) 81), none⟩,
   ⟨(some 61), (.convert 81 3 (.tmp 60)), none⟩,
   ⟨(some 2), (.assign (.tmp 61)), none⟩])
 .ret)))))))
theorem x_spec_l1Cur_next : Txt Tryd.prog 124 c_spec_l1Cur_next [.tmp 2] 1 := ⟨by kernel_rfl, by kernel_rfl, _, _, Tryd.func124, rfl, by kernel_rfl, by kernel_rfl, by kernel_rfl, rfl, by decide⟩
/-- loop.example/g01062/spec.l1Least -/
def c_spec_l1Least : Cd :=
 (.seq (.reg [⟨(some 4), (.assign (.const (.int .i64 0))), none⟩])
 (.seq (.seq (.reg [⟨(some 5), (.move (.tmp 0)), none⟩,
   ⟨(some 6), (.move (.tmp 1)), none⟩,
   ⟨(some 7), (.binOp .lss 3 (.tmp 5) (.tmp 6) 3), none⟩])
 (.cond (.tmp 7) (.seq (.reg [⟨(some 8), (.move (.tmp 0)), none⟩,
   ⟨(some 4), (.assign (.tmp 8)), none⟩])
 .ret) .skip))
 (.seq (.reg [⟨(some 9), (.move (.tmp 1)), none⟩,
   ⟨(some 4), (.assign (.tmp 9)), none⟩])
 .ret)))
theorem x_spec_l1Least : Txt Tryd.prog 133 c_spec_l1Least [.tmp 4] 2 := ⟨by kernel_rfl, by kernel_rfl, _, _, Tryd.func133, rfl, by kernel_rfl, by kernel_rfl, by kernel_rfl, rfl, by decide⟩
/-- loop.example/g01062/impl.comparePrices -/
def c_impl_comparePrices : Cd :=
 (.seq (.reg [⟨(some 2), (.box 63 (.tmp 0)), none⟩,
   ⟨(some 3), (.box 63 (.tmp 1)), none⟩,
   ⟨(some 4), (.assign (.const (.int .i64 0))), none⟩])
 (.seq (.regt [⟨(some 5), (.fieldAddr 63 (.tmp 2) 0), none⟩,
   ⟨(some 6), (.load 3 (.tmp 5)), none⟩,
   ⟨(some 7), (.fieldAddr 63 (.tmp 3) 0), none⟩,
   ⟨(some 8), (.load 3 (.tmp 7)), none⟩,
   ⟨(some 10), (.fieldAddr 63 (.tmp 2) 1), none⟩,
   ⟨(some 11), (.load 3 (.tmp 10)), none⟩,
   ⟨(some 12), (.fieldAddr 63 (.tmp 3) 1), none⟩,
   ⟨(some 13), (.load 3 (.tmp 12)), none⟩] (.one true ⟨(some 9), (.call (.mk (.value (.func 141)) #[(.tmp 6), (.tmp 8)] #[3, 3])), none⟩
   (.one false ⟨(some 14), (.call (.mk (.value (.func 141)) #[(.tmp 11), (.tmp 13)] #[3, 3])), none⟩
   (.one false ⟨(some 15), (.buildSlice 30 2 #[(0, (.tmp 9)), (1, (.tmp 14))]), none⟩
   (.one false ⟨(some 16), (.call (.mk (.value (.func 140)) #[(.tmp 15)] #[30])), none⟩
   (.one false ⟨(some 4), (.assign (.tmp 16)), none⟩
   .done))))) [])
 .ret))
theorem x_impl_comparePrices : Txt Tryd.prog 134 c_impl_comparePrices [.tmp 4] 2 := ⟨by kernel_rfl, by kernel_rfl, _, _, Tryd.func134, rfl, by kernel_rfl, by kernel_rfl, by kernel_rfl, rfl, by decide⟩
/-- slices.Compact[[]int,int] -/
def c_slices_Compact_int : Cd :=
 (.seq (.reg [⟨(some 2), (.assign (.const (.slice none 0 0))), none⟩])
 (.seq (.seq (.reg [⟨(some 6), (.move (.tmp 0)), none⟩,
   ⟨(some 7), (.call (.mk (.builtin .len) #[(.tmp 6)] #[30])), none⟩,
   ⟨(some 8), (.binOp .lss 3 (.tmp 7) (.const (.int .i64 2)) 3), none⟩])
 (.cond (.tmp 8) (.seq (.reg [⟨(some 9), (.move (.tmp 0)), none⟩,
   ⟨(some 2), (.assign (.tmp 9)), none⟩])
 .ret) .skip))
 (.seq (.seq (.reg [⟨(some 3), (.assign (.const (.int .i64 1))), none⟩])
 (.block 0 (.loop (.seq (.seq (.reg [⟨(some 10), (.move (.tmp 3)), none⟩,
   ⟨(some 11), (.move (.tmp 0)), none⟩,
   ⟨(some 12), (.call (.mk (.builtin .len) #[(.tmp 11)] #[30])), none⟩,
   ⟨(some 13), (.binOp .lss 3 (.tmp 10) (.tmp 12) 3), none⟩])
 (.cond (.tmp 13) .skip (.exit 0)))
 (.seq (.block 1 (.seq (.regq [⟨(some 16), (.move (.tmp 0)), none⟩,
   ⟨(some 17), (.move (.tmp 3)), none⟩,
   ⟨(some 18), (.indexAddr 30 (.tmp 16) (.tmp 17)), none⟩,
   ⟨(some 19), (.load 3 (.tmp 18)), none⟩,
   ⟨(some 20), (.move (.tmp 0)), none⟩,
   ⟨(some 21), (.move (.tmp 3)), none⟩,
   ⟨(some 22), (.binOp .sub 3 (.tmp 21) (.const (.int .i64 1)) 3), none⟩,
   ⟨(some 23), (.indexAddr 30 (.tmp 20) (.tmp 22)), none⟩,
   ⟨(some 24), (.load 3 (.tmp 23)), none⟩,
   ⟨(some 25), (.binOp .eql 3 (.tmp 19) (.tmp 24) 3), none⟩])
 (.cond (.tmp 25) (.seq (.reg [⟨(some 26), (.move (.tmp 0)), none⟩,
   ⟨(some 27), (.move (.tmp 3)), none⟩,
   ⟨(some 28), (.slice 30 (.tmp 26) (some (.tmp 27)) none none), none⟩,
   ⟨(some 4), (.assign (.tmp 28)), none⟩])
 (.seq (.seq (.reg [⟨(some 5), (.assign (.const (.int .i64 1))), none⟩])
 (.block 2 (.loop (.seq (.seq (.reg [⟨(some 29), (.move (.tmp 5)), none⟩,
   ⟨(some 30), (.move (.tmp 4)), none⟩,
   ⟨(some 31), (.call (.mk (.builtin .len) #[(.tmp 30)] #[30])), none⟩,
   ⟨(some 32), (.binOp .lss 3 (.tmp 29) (.tmp 31) 3), none⟩])
 (.cond (.tmp 32) .skip (.exit 2)))
 (.seq (.block 3 (.seq (.regq [⟨(some 35), (.move (.tmp 4)), none⟩,
   ⟨(some 36), (.move (.tmp 5)), none⟩,
   ⟨(some 37), (.indexAddr 30 (.tmp 35) (.tmp 36)), none⟩,
   ⟨(some 38), (.load 3 (.tmp 37)), none⟩,
   ⟨(some 39), (.move (.tmp 4)), none⟩,
   ⟨(some 40), (.move (.tmp 5)), none⟩,
   ⟨(some 41), (.binOp .sub 3 (.tmp 40) (.const (.int .i64 1)) 3), none⟩,
   ⟨(some 42), (.indexAddr 30 (.tmp 39) (.tmp 41)), none⟩,
   ⟨(some 43), (.load 3 (.tmp 42)), none⟩,
   ⟨(some 44), (.binOp .neq 3 (.tmp 38) (.tmp 43) 3), none⟩])
 (.cond (.tmp 44) (.seq (.reg [⟨(some 45), (.move (.tmp 0)), none⟩,
   ⟨(some 46), (.move (.tmp 3)), none⟩,
   ⟨(some 47), (.move (.tmp 4)), none⟩,
   ⟨(some 48), (.move (.tmp 5)), none⟩,
   ⟨(some 49), (.indexAddr 30 (.tmp 47) (.tmp 48)), none⟩,
   ⟨(some 50), (.load 3 (.tmp 49)), none⟩,
   ⟨(some 51), (.indexAddr 30 (.tmp 45) (.tmp 46)), none⟩,
   ⟨none, (.store 3 (.tmp 51) (.tmp 50)), none⟩])
 (.reg [⟨(some 52), (.move (.tmp 3)), none⟩,
   ⟨(some 53), (.binOp .add 3 (.tmp 52) (.const (.int .i64 1)) 3), none⟩,
   ⟨(some 3), (.assign (.tmp 53)), none⟩])) .skip)))
 (.reg [⟨(some 33), (.move (.tmp 5)), none⟩,
   ⟨(some 34), (.binOp .add 3 (.tmp 33) (.const (.int .i64 1)) 3), none⟩,
   ⟨(some 5), (.assign (.tmp 34)), none⟩]))))))
 (.seq (.reg [⟨(some 54), (.move (.tmp 0)), none⟩,
   ⟨(some 55), (.move (.tmp 3)), none⟩,
   ⟨(some 56), (.slice 30 (.tmp 54) (some (.tmp 55)) none none), none⟩,
   ⟨none, (.call (.mk (.builtin .clear) #[(.tmp 56)] #[30])), none⟩])
 (.seq (.reg [⟨(some 57), (.move (.tmp 0)), none⟩,
   ⟨(some 58), (.move (.tmp 3)), none⟩,
   ⟨(some 59), (.slice 30 (.tmp 57) none (some (.tmp 58)) none), none⟩,
   ⟨(some 2), (.assign (.tmp 59)), none⟩])
 .ret)))) .skip)))
 (.reg [⟨(some 14), (.move (.tmp 3)), none⟩,
   ⟨(some 15), (.binOp .add 3 (.tmp 14) (.const (.int .i64 1)) 3), none⟩,
   ⟨(some 3), (.assign (.tmp 15)), none⟩]))))))
 (.seq (.reg [⟨(some 60), (.move (.tmp 0)), none⟩,
   ⟨(some 2), (.assign (.tmp 60)), none⟩])
 .ret))))
theorem x_slices_Compact_int : Txt Tryd.prog 135 c_slices_Compact_int [.tmp 2] 1 := ⟨by kernel_rfl, by kernel_rfl, _, _, Tryd.func135, rfl, by kernel_rfl, by kernel_rfl, by kernel_rfl, rfl, by decide⟩
/-- loop.example/g01062/spec.l24Before -/
def c_spec_l24Before : Cd :=
 (.seq (.reg [⟨(some 3), (.box 63 (.tmp 0)), none⟩,
   ⟨(some 6), (.assign (.const (.bool false))), none⟩])
 (.seq (.reg [⟨(some 7), (.fieldAddr 63 (.tmp 3) 0), none⟩,
   ⟨(some 8), (.load 3 (.tmp 7)), none⟩,
   ⟨(some 9), (.move (.tmp 1)), none⟩,
   ⟨(some 10), (.binOp .lss 3 (.tmp 8) (.tmp 9) 3), none⟩,
   ⟨(some 11), (.move (.tmp 10)), none⟩,
   ⟨(some 12), (.fieldAddr 63 (.tmp 3) 0), (some (11, false))⟩,
   ⟨(some 13), (.load 3 (.tmp 12)), (some (11, false))⟩,
   ⟨(some 14), (.move (.tmp 1)), (some (11, false))⟩,
   ⟨(some 15), (.binOp .eql 3 (.tmp 13) (.tmp 14) 3), (some (11, false))⟩,
   ⟨(some 16), (.move (.tmp 15)), (some (11, false))⟩,
   ⟨(some 17), (.fieldAddr 63 (.tmp 3) 1), (some (16, true))⟩,
   ⟨(some 18), (.load 3 (.tmp 17)), (some (16, true))⟩,
   ⟨(some 19), (.move (.tmp 2)), (some (16, true))⟩,
   ⟨(some 20), (.binOp .lss 3 (.tmp 18) (.tmp 19) 3), (some (16, true))⟩,
   ⟨(some 21), (.pick (.tmp 16) (.tmp 20) (.const (.bool false))), (some (11, false))⟩,
   ⟨(some 22), (.pick (.tmp 11) (.const (.bool true)) (.tmp 21)), none⟩,
   ⟨(some 6), (.assign (.tmp 22)), none⟩])
 .ret))
theorem x_spec_l24Before : Txt Tryd.prog 136 c_spec_l24Before [.tmp 6] 3 := ⟨by kernel_rfl, by kernel_rfl, _, _, Tryd.func136, rfl, by kernel_rfl, by kernel_rfl, by kernel_rfl, rfl, by decide⟩
/-- slices.IndexFunc[[]int,int] -/
def c_slices_IndexFunc_int : Cd :=
 (.seq (.reg [⟨(some 4), (.assign (.const (.int .i64 0))), none⟩])
 (.seq (.seq (.reg [⟨(some 6), (.move (.tmp 0)), none⟩,
   ⟨(some 7), (.call (.mk (.builtin .len) #[(.tmp 6)] #[30])), none⟩,
   ⟨(some 8), (.move (.const (.int .i64 0))), none⟩])
 (.block 0 (.loop (.seq (.reg [⟨(some 9), (.binOp .lss 3 (.tmp 8) (.tmp 7) 3), none⟩])
 (.seq (.cond (.tmp 9) .skip (.exit 0))
 (.seq (.block 1 (.seq (.reg [⟨(some 10), (.move (.tmp 8)), none⟩,
   ⟨(some 5), (.assign (.tmp 10)), none⟩])
 (.seq (.reg [⟨(some 11), (.move (.tmp 1)), none⟩,
   ⟨(some 12), (.move (.tmp 0)), none⟩,
   ⟨(some 13), (.move (.tmp 5)), none⟩,
   ⟨(some 14), (.indexAddr 30 (.tmp 12) (.tmp 13)), none⟩,
   ⟨(some 15), (.load 3 (.tmp 14)), none⟩,
   ⟨(some 16), (.call (.mk (.value (.tmp 11)) #[(.tmp 15)] #[3])), none⟩])
 (.cond (.tmp 16) (.seq (.reg [⟨(some 17), (.move (.tmp 5)), none⟩,
   ⟨(some 4), (.assign (.tmp 17)), none⟩])
 .ret) .skip))))
 (.reg [⟨(some 18), (.binOp .add 3 (.tmp 8) (.const (.int .i64 1)) 3), none⟩,
   ⟨(some 8), (.move (.tmp 18)), none⟩])))))))
 (.seq (.reg [⟨(some 4), (.assign (.const (.int .i64 (-1)))), none⟩])
 .ret)))
theorem x_slices_IndexFunc_int : Txt Tryd.prog 137 c_slices_IndexFunc_int [.tmp 4] 2 := ⟨by kernel_rfl, by kernel_rfl, _, _, Tryd.func137, rfl, by kernel_rfl, by kernel_rfl, by kernel_rfl, rfl, by decide⟩
/-- loop.example/g01062/spec.l24Cents -/
def c_spec_l24Cents : Cd :=
 (.seq (.reg [⟨(some 2), (.assign (.const (.bool false))), none⟩])
 (.seq (.reg [⟨(some 3), (.move (.tmp 0)), none⟩,
   ⟨(some 4), (.call (.mk (.value (.func 99)) #[(.tmp 3), (.const (.int .i64 1)), (.const (.int .i64 10000000))] #[3, 3, 3])), none⟩,
   ⟨(some 2), (.assign (.tmp 4)), none⟩])
 .ret))
theorem x_spec_l24Cents : Txt Tryd.prog 138 c_spec_l24Cents [.tmp 2] 1 := ⟨by kernel_rfl, by kernel_rfl, _, _, Tryd.func138, rfl, by kernel_rfl, by kernel_rfl, by kernel_rfl, rfl, by decide⟩
/-- cmp.Or[int] -/
def c_cmp_Or_int : Cd :=
 (.seq (.reg [⟨(some 2), (.assign (.const (.int .i64 0))), none⟩])
 (.seq (.reg [⟨(some 3), (.assign (.const (.int .i64 0))), none⟩])
 (.seq (.seq (.reg [⟨(some 6), (.move (.tmp 0)), none⟩,
   ⟨(some 7), (.call (.mk (.builtin .len) #[(.tmp 6)] #[30])), none⟩,
   ⟨(some 8), (.move (.const (.int .i64 0))), none⟩])
 (.block 0 (.loop (.seq (.reg [⟨(some 9), (.binOp .lss 3 (.tmp 8) (.tmp 7) 3), none⟩])
 (.seq (.cond (.tmp 9) .skip (.exit 0))
 (.seq (.block 1 (.seq (.reg [⟨(some 10), (.indexAddr 30 (.tmp 6) (.tmp 8)), none⟩,
   ⟨(some 11), (.load 3 (.tmp 10)), none⟩,
   ⟨(some 5), (.assign (.tmp 11)), none⟩])
 (.seq (.reg [⟨(some 12), (.move (.tmp 5)), none⟩,
   ⟨(some 13), (.move (.tmp 3)), none⟩,
   ⟨(some 14), (.binOp .neq 3 (.tmp 12) (.tmp 13) 3), none⟩])
 (.cond (.tmp 14) (.seq (.reg [⟨(some 15), (.move (.tmp 5)), none⟩,
   ⟨(some 2), (.assign (.tmp 15)), none⟩])
 .ret) .skip))))
 (.reg [⟨(some 16), (.binOp .add 3 (.tmp 8) (.const (.int .i64 1)) 3), none⟩,
   ⟨(some 8), (.move (.tmp 16)), none⟩])))))))
 (.seq (.reg [⟨(some 17), (.move (.tmp 3)), none⟩,
   ⟨(some 2), (.assign (.tmp 17)), none⟩])
 .ret))))
theorem x_cmp_Or_int : Txt Tryd.prog 140 c_cmp_Or_int [.tmp 2] 1 := ⟨by kernel_rfl, by kernel_rfl, _, _, Tryd.func140, rfl, by kernel_rfl, by kernel_rfl, by kernel_rfl, rfl, by decide⟩
/-- cmp.Compare[int] -/
def c_cmp_Compare_int : Cd :=
 (.seq (.reg [⟨(some 4), (.assign (.const (.int .i64 0))), none⟩])
 (.seq (.reg [⟨(some 7), (.move (.tmp 0)), none⟩,
   ⟨(some 8), (.call (.mk (.value (.func 157)) #[(.tmp 7)] #[3])), none⟩,
   ⟨(some 5), (.assign (.tmp 8)), none⟩])
 (.seq (.reg [⟨(some 9), (.move (.tmp 1)), none⟩,
   ⟨(some 10), (.call (.mk (.value (.func 157)) #[(.tmp 9)] #[3])), none⟩,
   ⟨(some 6), (.assign (.tmp 10)), none⟩])
 (.seq (.seq (.reg [⟨(some 11), (.move (.tmp 5)), none⟩])
 (.cond (.tmp 11) (.seq (.seq (.reg [⟨(some 12), (.move (.tmp 6)), none⟩])
 (.cond (.tmp 12) (.seq (.reg [⟨(some 4), (.assign (.const (.int .i64 0))), none⟩])
 .ret) .skip))
 (.seq (.reg [⟨(some 4), (.assign (.const (.int .i64 (-1)))), none⟩])
 .ret)) .skip))
 (.seq (.seq (.reg [⟨(some 13), (.move (.tmp 6)), none⟩])
 (.cond (.tmp 13) (.seq (.reg [⟨(some 4), (.assign (.const (.int .i64 1))), none⟩])
 .ret) .skip))
 (.seq (.seq (.reg [⟨(some 14), (.move (.tmp 0)), none⟩,
   ⟨(some 15), (.move (.tmp 1)), none⟩,
   ⟨(some 16), (.binOp .lss 3 (.tmp 14) (.tmp 15) 3), none⟩])
 (.cond (.tmp 16) (.seq (.reg [⟨(some 4), (.assign (.const (.int .i64 (-1)))), none⟩])
 .ret) .skip))
 (.seq (.seq (.reg [⟨(some 17), (.move (.tmp 0)), none⟩,
   ⟨(some 18), (.move (.tmp 1)), none⟩,
   ⟨(some 19), (.binOp .gtr 3 (.tmp 17) (.tmp 18) 3), none⟩])
 (.cond (.tmp 19) (.seq (.reg [⟨(some 4), (.assign (.const (.int .i64 1))), none⟩])
 .ret) .skip))
 (.seq (.reg [⟨(some 4), (.assign (.const (.int .i64 0))), none⟩])
 .ret))))))))
theorem x_cmp_Compare_int : Txt Tryd.prog 141 c_cmp_Compare_int [.tmp 4] 2 := ⟨by kernel_rfl, by kernel_rfl, _, _, Tryd.func141, rfl, by kernel_rfl, by kernel_rfl, by kernel_rfl, rfl, by decide⟩
/-- loop.example/g01062/impl.gcd -/
def c_impl_gcd : Cd :=
 (.seq (.reg [⟨(some 4), (.assign (.const (.int .i64 0))), none⟩])
 (.seq (.block 0 (.loop (.seq (.seq (.reg [⟨(some 5), (.move (.tmp 1)), none⟩,
   ⟨(some 6), (.binOp .neq 3 (.tmp 5) (.const (.int .i64 0)) 3), none⟩])
 (.cond (.tmp 6) .skip (.exit 0)))
 (.block 1 (.regq [⟨(some 7), (.move (.tmp 1)), none⟩,
   ⟨(some 8), (.move (.tmp 0)), none⟩,
   ⟨(some 9), (.move (.tmp 1)), none⟩,
   ⟨(some 10), (.binOp .rem 3 (.tmp 8) (.tmp 9) 3), none⟩,
   ⟨(some 0), (.assign (.tmp 7)), none⟩,
   ⟨(some 1), (.assign (.tmp 10)), none⟩])))))
 (.seq (.reg [⟨(some 11), (.move (.tmp 0)), none⟩,
   ⟨(some 4), (.assign (.tmp 11)), none⟩])
 .ret)))
theorem x_impl_gcd : Txt Tryd.prog 150 c_impl_gcd [.tmp 4] 2 := ⟨by kernel_rfl, by kernel_rfl, _, _, Tryd.func150, rfl, by kernel_rfl, by kernel_rfl, by kernel_rfl, rfl, by decide⟩
/-- loop.example/g01062/spec.l1Most -/
def c_spec_l1Most : Cd :=
 (.seq (.reg [⟨(some 4), (.assign (.const (.int .i64 0))), none⟩])
 (.seq (.seq (.reg [⟨(some 5), (.move (.tmp 0)), none⟩,
   ⟨(some 6), (.move (.tmp 1)), none⟩,
   ⟨(some 7), (.binOp .gtr 3 (.tmp 5) (.tmp 6) 3), none⟩])
 (.cond (.tmp 7) (.seq (.reg [⟨(some 8), (.move (.tmp 0)), none⟩,
   ⟨(some 4), (.assign (.tmp 8)), none⟩])
 .ret) .skip))
 (.seq (.reg [⟨(some 9), (.move (.tmp 1)), none⟩,
   ⟨(some 4), (.assign (.tmp 9)), none⟩])
 .ret)))
theorem x_spec_l1Most : Txt Tryd.prog 153 c_spec_l1Most [.tmp 4] 2 := ⟨by kernel_rfl, by kernel_rfl, _, _, Tryd.func153, rfl, by kernel_rfl, by kernel_rfl, by kernel_rfl, rfl, by decide⟩
/-- cmp.isNaN[int] -/
def c_cmp_isNaN_int : Cd :=
 (.seq (.reg [⟨(some 2), (.assign (.const (.bool false))), none⟩])
 (.seq (.reg [⟨(some 3), (.move (.tmp 0)), none⟩,
   ⟨(some 4), (.move (.tmp 0)), none⟩,
   ⟨(some 5), (.binOp .neq 3 (.tmp 3) (.tmp 4) 3), none⟩,
   ⟨(some 2), (.assign (.tmp 5)), none⟩])
 .ret))
theorem x_cmp_isNaN_int : Txt Tryd.prog 157 c_cmp_isNaN_int [.tmp 2] 1 := ⟨by kernel_rfl, by kernel_rfl, _, _, Tryd.func157, rfl, by kernel_rfl, by kernel_rfl, by kernel_rfl, rfl, by decide⟩
theorem qs2 : qSize Tryd.prog 2 = some 1 := by kernel_rfl
theorem qb2 : qBytes Tryd.prog 2 = some 8 := by kernel_rfl
theorem qa2 : qAgg Tryd.prog 2 = some false := by kernel_rfl
theorem qz2 : qZero Tryd.prog 2 = some (.int .i64 0) := by kernel_rfl
theorem qk2 : qKind Tryd.prog 2 = some .i64 := by kernel_rfl
theorem qui2 : (Tryd.prog.underlying 2).isSome = true := by kernel_rfl
theorem qs3 : qSize Tryd.prog 3 = some 1 := by kernel_rfl
theorem qb3 : qBytes Tryd.prog 3 = some 8 := by kernel_rfl
theorem qa3 : qAgg Tryd.prog 3 = some false := by kernel_rfl
theorem qz3 : qZero Tryd.prog 3 = some (.int .i64 0) := by kernel_rfl
theorem qk3 : qKind Tryd.prog 3 = some .i64 := by kernel_rfl
theorem qui3 : (Tryd.prog.underlying 3).isSome = true := by kernel_rfl
theorem qs4 : qSize Tryd.prog 4 = some 1 := by kernel_rfl
theorem qb4 : qBytes Tryd.prog 4 = some 1 := by kernel_rfl
theorem qa4 : qAgg Tryd.prog 4 = some false := by kernel_rfl
theorem qz4 : qZero Tryd.prog 4 = some (.bool false) := by kernel_rfl
theorem qo4 : qBool Tryd.prog 4 = true := by kernel_rfl
theorem qs5 : qSize Tryd.prog 5 = some 1 := by kernel_rfl
theorem qb5 : qBytes Tryd.prog 5 = some 1 := by kernel_rfl
theorem qa5 : qAgg Tryd.prog 5 = some false := by kernel_rfl
theorem qz5 : qZero Tryd.prog 5 = some (.int .u8 0) := by kernel_rfl
theorem qk5 : qKind Tryd.prog 5 = some .u8 := by kernel_rfl
theorem qui5 : (Tryd.prog.underlying 5).isSome = true := by kernel_rfl
theorem qs9 : qSize Tryd.prog 9 = some 1 := by kernel_rfl
theorem qb9 : qBytes Tryd.prog 9 = some 16 := by kernel_rfl
theorem qa9 : qAgg Tryd.prog 9 = some false := by kernel_rfl
theorem qz9 : qZero Tryd.prog 9 = some (.string ByteArray.empty) := by kernel_rfl
theorem qt9 : qStr Tryd.prog 9 = true := by kernel_rfl
theorem qs22 : qSize Tryd.prog 22 = some 1 := by kernel_rfl
theorem qb22 : qBytes Tryd.prog 22 = some 24 := by kernel_rfl
theorem qa22 : qAgg Tryd.prog 22 = some false := by kernel_rfl
theorem qz22 : qZero Tryd.prog 22 = some (.slice none 0 0) := by kernel_rfl
theorem qe22 : qElem Tryd.prog 22 = some 5 := by kernel_rfl
theorem qs24 : qSize Tryd.prog 24 = some 1 := by kernel_rfl
theorem qb24 : qBytes Tryd.prog 24 = some 24 := by kernel_rfl
theorem qa24 : qAgg Tryd.prog 24 = some false := by kernel_rfl
theorem qz24 : qZero Tryd.prog 24 = some (.slice none 0 0) := by kernel_rfl
theorem qe24 : qElem Tryd.prog 24 = some 95 := by kernel_rfl
theorem qs25 : qSize Tryd.prog 25 = some 1 := by kernel_rfl
theorem qb25 : qBytes Tryd.prog 25 = some 24 := by kernel_rfl
theorem qa25 : qAgg Tryd.prog 25 = some false := by kernel_rfl
theorem qz25 : qZero Tryd.prog 25 = some (.slice none 0 0) := by kernel_rfl
theorem qe25 : qElem Tryd.prog 25 = some 40 := by kernel_rfl
theorem qs30 : qSize Tryd.prog 30 = some 1 := by kernel_rfl
theorem qb30 : qBytes Tryd.prog 30 = some 24 := by kernel_rfl
theorem qa30 : qAgg Tryd.prog 30 = some false := by kernel_rfl
theorem qz30 : qZero Tryd.prog 30 = some (.slice none 0 0) := by kernel_rfl
theorem qe30 : qElem Tryd.prog 30 = some 3 := by kernel_rfl
theorem qs40 : qSize Tryd.prog 40 = some 2 := by kernel_rfl
theorem qb40 : qBytes Tryd.prog 40 = some 16 := by kernel_rfl
theorem qa40 : qAgg Tryd.prog 40 = some true := by kernel_rfl
theorem qz40 : qZero Tryd.prog 40 = some (.agg #[.int .i64 0, .int .i64 0]) := by kernel_rfl
theorem qg40 : qFields Tryd.prog 40 = some [(0, 1), (1, 1)] := by kernel_rfl
theorem qi40 : qEqS Tryd.prog 40 2 = true := by kernel_rfl
theorem qf40_0 : qField Tryd.prog 40 0 = some (0, 3) := by kernel_rfl
theorem qf40_1 : qField Tryd.prog 40 1 = some (1, 3) := by kernel_rfl
theorem qs48 : qSize Tryd.prog 48 = some 1 := by kernel_rfl
theorem qb48 : qBytes Tryd.prog 48 = some 24 := by kernel_rfl
theorem qa48 : qAgg Tryd.prog 48 = some false := by kernel_rfl
theorem qz48 : qZero Tryd.prog 48 = some (.slice none 0 0) := by kernel_rfl
theorem qe48 : qElem Tryd.prog 48 = some 63 := by kernel_rfl
theorem qs63 : qSize Tryd.prog 63 = some 3 := by kernel_rfl
theorem qb63 : qBytes Tryd.prog 63 = some 24 := by kernel_rfl
theorem qa63 : qAgg Tryd.prog 63 = some true := by kernel_rfl
theorem qz63 : qZero Tryd.prog 63 = some (.agg #[.int .i64 0, .int .i64 0, .int .i64 0]) := by kernel_rfl
theorem qg63 : qFields Tryd.prog 63 = some [(0, 1), (1, 1), (2, 1)] := by kernel_rfl
theorem qi63 : qEqS Tryd.prog 63 3 = true := by kernel_rfl
theorem qf63_0 : qField Tryd.prog 63 0 = some (0, 3) := by kernel_rfl
theorem qf63_1 : qField Tryd.prog 63 1 = some (1, 3) := by kernel_rfl
theorem qf63_2 : qField Tryd.prog 63 2 = some (2, 3) := by kernel_rfl
theorem qs66 : qSize Tryd.prog 66 = some 1 := by kernel_rfl
theorem qb66 : qBytes Tryd.prog 66 = some 24 := by kernel_rfl
theorem qa66 : qAgg Tryd.prog 66 = some false := by kernel_rfl
theorem qz66 : qZero Tryd.prog 66 = some (.slice none 0 0) := by kernel_rfl
theorem qe66 : qElem Tryd.prog 66 = some 72 := by kernel_rfl
theorem qs72 : qSize Tryd.prog 72 = some 4 := by kernel_rfl
theorem qb72 : qBytes Tryd.prog 72 = some 56 := by kernel_rfl
theorem qa72 : qAgg Tryd.prog 72 = some true := by kernel_rfl
theorem qz72 : qZero Tryd.prog 72 = some (.agg #[.int .i64 0, .string ByteArray.empty, .int .i64 0, .slice none 0 0]) := by kernel_rfl
theorem qg72 : qFields Tryd.prog 72 = some [(0, 1), (1, 1), (2, 1), (3, 1)] := by kernel_rfl
theorem qf72_0 : qField Tryd.prog 72 0 = some (0, 3) := by kernel_rfl
theorem qf72_1 : qField Tryd.prog 72 1 = some (1, 9) := by kernel_rfl
theorem qf72_2 : qField Tryd.prog 72 2 = some (2, 3) := by kernel_rfl
theorem qf72_3 : qField Tryd.prog 72 3 = some (3, 30) := by kernel_rfl
theorem qs80 : qSize Tryd.prog 80 = some 1 := by kernel_rfl
theorem qb80 : qBytes Tryd.prog 80 = some 8 := by kernel_rfl
theorem qa80 : qAgg Tryd.prog 80 = some false := by kernel_rfl
theorem qz80 : qZero Tryd.prog 80 = some (.pointer none) := by kernel_rfl
theorem qs81 : qSize Tryd.prog 81 = some 1 := by kernel_rfl
theorem qb81 : qBytes Tryd.prog 81 = some 8 := by kernel_rfl
theorem qa81 : qAgg Tryd.prog 81 = some false := by kernel_rfl
theorem qz81 : qZero Tryd.prog 81 = some (.int .u64 0) := by kernel_rfl
theorem qk81 : qKind Tryd.prog 81 = some .u64 := by kernel_rfl
theorem qui81 : (Tryd.prog.underlying 81).isSome = true := by kernel_rfl
theorem qs83 : qSize Tryd.prog 83 = some 3 := by kernel_rfl
theorem qb83 : qBytes Tryd.prog 83 = some 40 := by kernel_rfl
theorem qa83 : qAgg Tryd.prog 83 = some true := by kernel_rfl
theorem qz83 : qZero Tryd.prog 83 = some (.agg #[.slice none 0 0, .int .i64 0, .int .u64 0]) := by kernel_rfl
theorem qg83 : qFields Tryd.prog 83 = some [(0, 1), (1, 1), (2, 1)] := by kernel_rfl
theorem qf83_0 : qField Tryd.prog 83 0 = some (0, 22) := by kernel_rfl
theorem qf83_1 : qField Tryd.prog 83 1 = some (1, 3) := by kernel_rfl
theorem qf83_2 : qField Tryd.prog 83 2 = some (2, 81) := by kernel_rfl
theorem qs95 : qSize Tryd.prog 95 = some 2 := by kernel_rfl
theorem qb95 : qBytes Tryd.prog 95 = some 16 := by kernel_rfl
theorem qa95 : qAgg Tryd.prog 95 = some true := by kernel_rfl
theorem qz95 : qZero Tryd.prog 95 = some (.agg #[.int .i64 0, .int .i64 0]) := by kernel_rfl
theorem qg95 : qFields Tryd.prog 95 = some [(0, 1), (1, 1)] := by kernel_rfl
theorem qi95 : qEqS Tryd.prog 95 2 = true := by kernel_rfl
theorem qf95_0 : qField Tryd.prog 95 0 = some (0, 3) := by kernel_rfl
theorem qf95_1 : qField Tryd.prog 95 1 = some (1, 3) := by kernel_rfl
theorem qs110 : qSize Tryd.prog 110 = some 1 := by kernel_rfl
theorem qb110 : qBytes Tryd.prog 110 = some 8 := by kernel_rfl
theorem qa110 : qAgg Tryd.prog 110 = some false := by kernel_rfl
theorem qz110 : qZero Tryd.prog 110 = some (.pointer none) := by kernel_rfl
theorem qs121 : qSize Tryd.prog 121 = some 5 := by kernel_rfl
theorem qb121 : qBytes Tryd.prog 121 = some 80 := by kernel_rfl
theorem qa121 : qAgg Tryd.prog 121 = some true := by kernel_rfl
theorem qz121 : qZero Tryd.prog 121 = some (.agg #[.string ByteArray.empty, .string ByteArray.empty, .string ByteArray.empty, .string ByteArray.empty, .string ByteArray.empty]) := by kernel_rfl
theorem qg121 : qFields Tryd.prog 121 = some [(0, 1), (1, 1), (2, 1), (3, 1), (4, 1)] := by kernel_rfl
theorem qr121 : qArr Tryd.prog 121 = some (5, 9) := by kernel_rfl
theorem qs122 : qSize Tryd.prog 122 = some 1 := by kernel_rfl
theorem qb122 : qBytes Tryd.prog 122 = some 24 := by kernel_rfl
theorem qa122 : qAgg Tryd.prog 122 = some false := by kernel_rfl
theorem qz122 : qZero Tryd.prog 122 = some (.slice none 0 0) := by kernel_rfl
theorem qe122 : qElem Tryd.prog 122 = some 9 := by kernel_rfl
theorem qs138 : qSize Tryd.prog 138 = some 1 := by kernel_rfl
theorem qb138 : qBytes Tryd.prog 138 = some 8 := by kernel_rfl
theorem qa138 : qAgg Tryd.prog 138 = some false := by kernel_rfl
theorem qz138 : qZero Tryd.prog 138 = some (.int .u64 0) := by kernel_rfl
theorem qk138 : qKind Tryd.prog 138 = some .u64 := by kernel_rfl
theorem qui138 : (Tryd.prog.underlying 138).isSome = true := by kernel_rfl
theorem qs148 : qSize Tryd.prog 148 = some 20 := by kernel_rfl
theorem qb148 : qBytes Tryd.prog 148 = some 160 := by kernel_rfl
theorem qa148 : qAgg Tryd.prog 148 = some true := by kernel_rfl
theorem qz148 : qZero Tryd.prog 148 = some (.agg #[.int .u64 0, .int .u64 0, .int .u64 0, .int .u64 0, .int .u64 0, .int .u64 0, .int .u64 0, .int .u64 0, .int .u64 0, .int .u64 0, .int .u64 0, .int .u64 0, .int .u64 0, .int .u64 0, .int .u64 0, .int .u64 0, .int .u64 0, .int .u64 0, .int .u64 0, .int .u64 0]) := by kernel_rfl
theorem qg148 : qFields Tryd.prog 148 = some [(0, 1), (1, 1), (2, 1), (3, 1), (4, 1), (5, 1), (6, 1), (7, 1), (8, 1), (9, 1), (10, 1), (11, 1), (12, 1), (13, 1), (14, 1), (15, 1), (16, 1), (17, 1), (18, 1), (19, 1)] := by kernel_rfl
theorem qr148 : qArr Tryd.prog 148 = some (20, 81) := by kernel_rfl
theorem qs153 : qSize Tryd.prog 153 = some 32 := by kernel_rfl
theorem qb153 : qBytes Tryd.prog 153 = some 32 := by kernel_rfl
theorem qa153 : qAgg Tryd.prog 153 = some true := by kernel_rfl
theorem qz153 : qZero Tryd.prog 153 = some (.agg #[.int .u8 0, .int .u8 0, .int .u8 0, .int .u8 0, .int .u8 0, .int .u8 0, .int .u8 0, .int .u8 0, .int .u8 0, .int .u8 0, .int .u8 0, .int .u8 0, .int .u8 0, .int .u8 0, .int .u8 0, .int .u8 0, .int .u8 0, .int .u8 0, .int .u8 0, .int .u8 0, .int .u8 0, .int .u8 0, .int .u8 0, .int .u8 0, .int .u8 0, .int .u8 0, .int .u8 0, .int .u8 0, .int .u8 0, .int .u8 0, .int .u8 0, .int .u8 0]) := by kernel_rfl
theorem qg153 : qFields Tryd.prog 153 = some [(0, 1), (1, 1), (2, 1), (3, 1), (4, 1), (5, 1), (6, 1), (7, 1), (8, 1), (9, 1), (10, 1), (11, 1), (12, 1), (13, 1), (14, 1), (15, 1), (16, 1), (17, 1), (18, 1), (19, 1), (20, 1), (21, 1), (22, 1), (23, 1), (24, 1), (25, 1), (26, 1), (27, 1), (28, 1), (29, 1), (30, 1), (31, 1)] := by kernel_rfl
theorem qr153 : qArr Tryd.prog 153 = some (32, 5) := by kernel_rfl
theorem qs154 : qSize Tryd.prog 154 = some 64 := by kernel_rfl
theorem qb154 : qBytes Tryd.prog 154 = some 64 := by kernel_rfl
theorem qa154 : qAgg Tryd.prog 154 = some true := by kernel_rfl
theorem qg154 : qFields Tryd.prog 154 = some [(0, 1), (1, 1), (2, 1), (3, 1), (4, 1), (5, 1), (6, 1), (7, 1), (8, 1), (9, 1), (10, 1), (11, 1), (12, 1), (13, 1), (14, 1), (15, 1), (16, 1), (17, 1), (18, 1), (19, 1), (20, 1), (21, 1), (22, 1), (23, 1), (24, 1), (25, 1), (26, 1), (27, 1), (28, 1), (29, 1), (30, 1), (31, 1), (32, 1), (33, 1), (34, 1), (35, 1), (36, 1), (37, 1), (38, 1), (39, 1), (40, 1), (41, 1), (42, 1), (43, 1), (44, 1), (45, 1), (46, 1), (47, 1), (48, 1), (49, 1), (50, 1), (51, 1), (52, 1), (53, 1), (54, 1), (55, 1), (56, 1), (57, 1), (58, 1), (59, 1), (60, 1), (61, 1), (62, 1), (63, 1)] := by kernel_rfl
theorem qr154 : qArr Tryd.prog 154 = some (64, 5) := by kernel_rfl
set_option linter.defProp false
/-- The facts, in one name. -/
def fcT := And.intro @qs2 <| And.intro @qb2 <| And.intro @qa2 <| And.intro @qz2 <| And.intro @qk2 <| And.intro @qui2 <| And.intro @qs3 <| And.intro @qb3 <| And.intro @qa3 <| And.intro @qz3 <| And.intro @qk3 <| And.intro @qui3 <| And.intro @qs4 <| And.intro @qb4 <| And.intro @qa4 <| And.intro @qz4 <| And.intro @qo4 <| And.intro @qs5 <| And.intro @qb5 <| And.intro @qa5 <| And.intro @qz5 <| And.intro @qk5 <| And.intro @qui5 <| And.intro @qs9 <| And.intro @qb9 <| And.intro @qa9 <| And.intro @qz9 <| And.intro @qt9 <| And.intro @qs22 <| And.intro @qb22 <| And.intro @qa22 <| And.intro @qz22 <| And.intro @qe22 <| And.intro @qs24 <| And.intro @qb24 <| And.intro @qa24 <| And.intro @qz24 <| And.intro @qe24 <| And.intro @qs25 <| And.intro @qb25 <| And.intro @qa25 <| And.intro @qz25 <| And.intro @qe25 <| And.intro @qs30 <| And.intro @qb30 <| And.intro @qa30 <| And.intro @qz30 <| And.intro @qe30 <| And.intro @qs40 <| And.intro @qb40 <| And.intro @qa40 <| And.intro @qz40 <| And.intro @qg40 <| And.intro @qi40 <| And.intro @qf40_0 <| And.intro @qf40_1 <| And.intro @qs48 <| And.intro @qb48 <| And.intro @qa48 <| And.intro @qz48 <| And.intro @qe48 <| And.intro @qs63 <| And.intro @qb63 <| And.intro @qa63 <| And.intro @qz63 <| And.intro @qg63 <| And.intro @qi63 <| And.intro @qf63_0 <| And.intro @qf63_1 <| And.intro @qf63_2 <| And.intro @qs66 <| And.intro @qb66 <| And.intro @qa66 <| And.intro @qz66 <| And.intro @qe66 <| And.intro @qs72 <| And.intro @qb72 <| And.intro @qa72 <| And.intro @qz72 <| And.intro @qg72 <| And.intro @qf72_0 <| And.intro @qf72_1 <| And.intro @qf72_2 <| And.intro @qf72_3 <| And.intro @qs80 <| And.intro @qb80 <| And.intro @qa80 <| And.intro @qz80 <| And.intro @qs81 <| And.intro @qb81 <| And.intro @qa81 <| And.intro @qz81 <| And.intro @qk81 <| And.intro @qui81 <| And.intro @qs83 <| And.intro @qb83 <| And.intro @qa83 <| And.intro @qz83 <| And.intro @qg83 <| And.intro @qf83_0 <| And.intro @qf83_1 <| And.intro @qf83_2 <| And.intro @qs95 <| And.intro @qb95 <| And.intro @qa95 <| And.intro @qz95 <| And.intro @qg95 <| And.intro @qi95 <| And.intro @qf95_0 <| And.intro @qf95_1 <| And.intro @qs110 <| And.intro @qb110 <| And.intro @qa110 <| And.intro @qz110 <| And.intro @qs121 <| And.intro @qb121 <| And.intro @qa121 <| And.intro @qz121 <| And.intro @qg121 <| And.intro @qr121 <| And.intro @qs122 <| And.intro @qb122 <| And.intro @qa122 <| And.intro @qz122 <| And.intro @qe122 <| And.intro @qs138 <| And.intro @qb138 <| And.intro @qa138 <| And.intro @qz138 <| And.intro @qk138 <| And.intro @qui138 <| And.intro @qs148 <| And.intro @qb148 <| And.intro @qa148 <| And.intro @qz148 <| And.intro @qg148 <| And.intro @qr148 <| And.intro @qs153 <| And.intro @qb153 <| And.intro @qa153 <| And.intro @qz153 <| And.intro @qg153 <| And.intro @qr153 <| And.intro @qs154 <| And.intro @qb154 <| And.intro @qa154 <| And.intro @qg154 <| And.intro @qr154 <| True.intro
end Go.Proofs.YtnjlleopgjggpaaDoor
