/- The texts of the functions, edges struck, and closed facts on functions and types: written by program (gen.py). -/
import Derived.Test.YtgjkjibllgpnjaaW
import Derived.Test.YtgjkjibllgpnjaaProg
namespace Go.Proofs.Ytgjkjibllgpnjaa
open Go Go.RowKit Go.Proofs
/-- loop.example/g01062/laws.FnExactSetPrice -/
def c_laws_FnExactSetPrice : Cd :=
 (.seq (.reg [⟨(some 8), (.assign (.const (.bool false))), none⟩])
 (.seq (.reg [⟨(some 9), (.assign (.const (.int .i64 1048576))), none⟩])
 (.seq (.reg [⟨(some 20), (.move (.tmp 0)), none⟩,
   ⟨(some 21), (.move (.tmp 9)), none⟩,
   ⟨(some 22), (.call (.mk (.value (.func 14)) #[(.tmp 20), (.tmp 21)] #[22, 3])), none⟩,
   ⟨(some 9), (.assign (.tmp 22)), none⟩])
 (.seq (.seq (.reg [⟨(some 23), (.move (.tmp 9)), none⟩,
   ⟨(some 24), (.binOp .lss 3 (.tmp 23) (.const (.int .i64 0)) 3), none⟩])
 (.cond (.tmp 24) (.seq (.reg [⟨(some 8), (.assign (.const (.bool true))), none⟩])
 .ret) .skip))
 (.seq (.reg [⟨(some 26), (.move (.tmp 0)), none⟩,
   ⟨(some 27), (.call (.mk (.value (.func 16)) #[(.tmp 26)] #[22])), none⟩,
   ⟨(some 28), (.move (.tmp 1)), none⟩,
   ⟨(some 29), (.move (.tmp 2)), none⟩,
   ⟨(some 30), (.move (.tmp 3)), none⟩,
   ⟨(some 31), (.call (.mk (.value (.func 41)) #[(.tmp 27), (.tmp 28), (.tmp 29), (.tmp 30)] #[25, 3, 3, 3])), none⟩,
   ⟨(some 25), (.move (.tmp 31)), none⟩,
   ⟨(some 32), (.extract (.tmp 25) 0), none⟩,
   ⟨(some 33), (.extract (.tmp 25) 1), none⟩,
   ⟨(some 10), (.assign (.tmp 32)), none⟩,
   ⟨(some 11), (.assign (.tmp 33)), none⟩])
 (.seq (.reg [⟨(some 34), (.move (.tmp 0)), none⟩,
   ⟨(some 35), (.call (.mk (.value (.func 16)) #[(.tmp 34)] #[22])), none⟩,
   ⟨(some 12), (.assign (.tmp 35)), none⟩])
 (.seq (.reg [⟨(some 37), (.move (.tmp 12)), none⟩,
   ⟨(some 38), (.move (.tmp 1)), none⟩,
   ⟨(some 39), (.move (.tmp 2)), none⟩,
   ⟨(some 40), (.move (.tmp 3)), none⟩,
   ⟨(some 41), (.call (.mk (.value (.func 42)) #[(.tmp 37), (.tmp 38), (.tmp 39), (.tmp 40)] #[25, 3, 3, 3])), none⟩,
   ⟨(some 36), (.move (.tmp 41)), none⟩,
   ⟨(some 42), (.extract (.tmp 36) 0), none⟩,
   ⟨(some 43), (.extract (.tmp 36) 1), none⟩,
   ⟨(some 13), (.assign (.tmp 42)), none⟩,
   ⟨(some 14), (.assign (.tmp 43)), none⟩])
 (.seq (.seq (.reg [⟨(some 44), (.move (.tmp 13)), none⟩,
   ⟨(some 45), (.move (.tmp 10)), none⟩,
   ⟨(some 46), (.call (.mk (.value (.func 18)) #[(.tmp 44), (.tmp 45)] #[25, 25])), none⟩,
   ⟨(some 47), (.unOp .not 4 (.tmp 46)), none⟩,
   ⟨(some 48), (.move (.tmp 47)), none⟩,
   ⟨(some 49), (.move (.tmp 14)), (some (48, false))⟩,
   ⟨(some 50), (.move (.tmp 11)), (some (48, false))⟩,
   ⟨(some 51), (.binOp .neq 4 (.tmp 49) (.tmp 50) 4), (some (48, false))⟩,
   ⟨(some 52), (.pick (.tmp 48) (.const (.bool true)) (.tmp 51)), none⟩])
 (.cond (.tmp 52) (.seq (.reg [⟨(some 8), (.assign (.const (.bool false))), none⟩])
 .ret) .skip))
 (.seq (.seq (.reg [⟨(some 53), (.move (.tmp 12)), none⟩,
   ⟨(some 54), (.move (.tmp 0)), none⟩,
   ⟨(some 55), (.call (.mk (.value (.func 16)) #[(.tmp 54)] #[22])), none⟩,
   ⟨(some 56), (.call (.mk (.value (.func 18)) #[(.tmp 53), (.tmp 55)] #[25, 25])), none⟩,
   ⟨(some 57), (.unOp .not 4 (.tmp 56)), none⟩])
 (.cond (.tmp 57) (.seq (.reg [⟨(some 8), (.assign (.const (.bool false))), none⟩])
 .ret) .skip))
 (.seq (.reg [⟨(some 15), (.assign (.const (.int .i64 1))), none⟩])
 (.seq (.reg [⟨(some 58), (.move (.tmp 12)), none⟩,
   ⟨(some 59), (.move (.tmp 15)), none⟩,
   ⟨(some 60), (.call (.mk (.value (.func 27)) #[(.tmp 58), (.tmp 59)] #[25, 3])), none⟩,
   ⟨(some 15), (.assign (.tmp 60)), none⟩])
 (.seq (.seq (.reg [⟨(some 61), (.move (.tmp 15)), none⟩,
   ⟨(some 62), (.binOp .lss 3 (.tmp 61) (.const (.int .i64 0)) 3), none⟩,
   ⟨(some 63), (.move (.tmp 62)), none⟩,
   ⟨(some 64), (.move (.tmp 13)), (some (63, false))⟩,
   ⟨(some 65), (.move (.tmp 10)), (some (63, false))⟩,
   ⟨(some 66), (.call (.mk (.value (.func 18)) #[(.tmp 64), (.tmp 65)] #[25, 25])), (some (63, false))⟩,
   ⟨(some 67), (.unOp .not 4 (.tmp 66)), (some (63, false))⟩,
   ⟨(some 68), (.pick (.tmp 63) (.const (.bool true)) (.tmp 67)), none⟩,
   ⟨(some 69), (.move (.tmp 68)), none⟩,
   ⟨(some 70), (.move (.tmp 14)), (some (69, false))⟩,
   ⟨(some 71), (.move (.tmp 11)), (some (69, false))⟩,
   ⟨(some 72), (.binOp .neq 4 (.tmp 70) (.tmp 71) 4), (some (69, false))⟩,
   ⟨(some 73), (.pick (.tmp 69) (.const (.bool true)) (.tmp 72)), none⟩])
 (.cond (.tmp 73) (.seq (.reg [⟨(some 8), (.assign (.const (.bool false))), none⟩])
 .ret) .skip))
 (.seq (.reg [⟨(some 16), (.assign (.const (.int .i64 1))), none⟩])
 (.seq (.reg [⟨(some 74), (.move (.tmp 13)), none⟩,
   ⟨(some 75), (.move (.tmp 16)), none⟩,
   ⟨(some 76), (.call (.mk (.value (.func 27)) #[(.tmp 74), (.tmp 75)] #[25, 3])), none⟩,
   ⟨(some 16), (.assign (.tmp 76)), none⟩])
 (.seq (.reg [⟨(some 17), (.assign (.const (.int .i64 1))), none⟩])
 (.seq (.reg [⟨(some 77), (.move (.tmp 13)), none⟩,
   ⟨(some 78), (.move (.tmp 17)), none⟩,
   ⟨(some 79), (.call (.mk (.value (.func 28)) #[(.tmp 77), (.tmp 78)] #[25, 3])), none⟩,
   ⟨(some 17), (.assign (.tmp 79)), none⟩])
 (.seq (.seq (.reg [⟨(some 80), (.move (.tmp 17)), none⟩,
   ⟨(some 81), (.binOp .lss 3 (.tmp 80) (.const (.int .i64 0)) 3), none⟩])
 (.cond (.tmp 81) (.seq (.reg [⟨(some 8), (.assign (.const (.bool false))), none⟩])
 .ret) .skip))
 (.seq (.seq (.reg [⟨(some 82), (.move (.tmp 17)), none⟩,
   ⟨(some 83), (.move (.tmp 16)), none⟩,
   ⟨(some 84), (.binOp .neq 3 (.tmp 82) (.tmp 83) 3), none⟩])
 (.cond (.tmp 84) (.seq (.reg [⟨(some 8), (.assign (.const (.bool false))), none⟩])
 .ret) .skip))
 (.seq (.reg [⟨(some 86), (.move (.tmp 0)), none⟩,
   ⟨(some 87), (.call (.mk (.value (.func 16)) #[(.tmp 86)] #[22])), none⟩,
   ⟨(some 88), (.move (.tmp 1)), none⟩,
   ⟨(some 89), (.move (.tmp 2)), none⟩,
   ⟨(some 90), (.move (.tmp 3)), none⟩,
   ⟨(some 91), (.call (.mk (.value (.func 42)) #[(.tmp 87), (.tmp 88), (.tmp 89), (.tmp 90)] #[25, 3, 3, 3])), none⟩,
   ⟨(some 85), (.move (.tmp 91)), none⟩,
   ⟨(some 92), (.extract (.tmp 85) 0), none⟩,
   ⟨(some 93), (.extract (.tmp 85) 1), none⟩,
   ⟨(some 18), (.assign (.tmp 92)), none⟩,
   ⟨(some 19), (.assign (.tmp 93)), none⟩])
 (.seq (.seq (.reg [⟨(some 94), (.move (.tmp 18)), none⟩,
   ⟨(some 95), (.move (.tmp 10)), none⟩,
   ⟨(some 96), (.call (.mk (.value (.func 18)) #[(.tmp 94), (.tmp 95)] #[25, 25])), none⟩,
   ⟨(some 97), (.unOp .not 4 (.tmp 96)), none⟩,
   ⟨(some 98), (.move (.tmp 97)), none⟩,
   ⟨(some 99), (.move (.tmp 19)), (some (98, false))⟩,
   ⟨(some 100), (.move (.tmp 11)), (some (98, false))⟩,
   ⟨(some 101), (.binOp .neq 4 (.tmp 99) (.tmp 100) 4), (some (98, false))⟩,
   ⟨(some 102), (.pick (.tmp 98) (.const (.bool true)) (.tmp 101)), none⟩])
 (.cond (.tmp 102) (.seq (.reg [⟨(some 8), (.assign (.const (.bool false))), none⟩])
 .ret) .skip))
 (.seq (.reg [⟨(some 17), (.assign (.const (.int .i64 1))), none⟩])
 (.seq (.reg [⟨(some 103), (.move (.tmp 13)), none⟩,
   ⟨(some 104), (.move (.tmp 17)), none⟩,
   ⟨(some 105), (.call (.mk (.value (.func 28)) #[(.tmp 103), (.tmp 104)] #[25, 3])), none⟩,
   ⟨(some 17), (.assign (.tmp 105)), none⟩])
 (.seq (.seq (.reg [⟨(some 106), (.move (.tmp 17)), none⟩,
   ⟨(some 107), (.binOp .lss 3 (.tmp 106) (.const (.int .i64 0)) 3), none⟩])
 (.cond (.tmp 107) (.seq (.reg [⟨(some 8), (.assign (.const (.bool false))), none⟩])
 .ret) .skip))
 (.seq (.seq (.reg [⟨(some 108), (.move (.tmp 17)), none⟩,
   ⟨(some 109), (.move (.tmp 16)), none⟩,
   ⟨(some 110), (.binOp .neq 3 (.tmp 108) (.tmp 109) 3), none⟩])
 (.cond (.tmp 110) (.seq (.reg [⟨(some 8), (.assign (.const (.bool false))), none⟩])
 .ret) .skip))
 (.seq (.reg [⟨(some 8), (.assign (.const (.bool true))), none⟩])
 .ret)))))))))))))))))))))))))
theorem x_laws_FnExactSetPrice : Txt Try.prog 12 c_laws_FnExactSetPrice [.tmp 8] 4 := ⟨by kernel_rfl, by kernel_rfl, _, _, Try.func12, rfl, by kernel_rfl, by kernel_rfl, by kernel_rfl, rfl, by decide⟩
/-- loop.example/g01062/laws.szPriceRowS -/
def c_laws_szPriceRowS : Cd :=
 (.seq (.reg [⟨(some 4), (.assign (.const (.int .i64 0))), none⟩])
 (.seq (.reg [⟨(some 5), (.move (.tmp 1)), none⟩,
   ⟨(some 6), (.move (.tmp 0)), none⟩,
   ⟨(some 7), (.call (.mk (.builtin .len) #[(.tmp 6)] #[22])), none⟩,
   ⟨(some 8), (.binOp .sub 3 (.tmp 5) (.tmp 7) 3), none⟩,
   ⟨(some 1), (.assign (.tmp 8)), none⟩])
 (.seq (.seq (.reg [⟨(some 9), (.move (.tmp 1)), none⟩,
   ⟨(some 10), (.binOp .lss 3 (.tmp 9) (.const (.int .i64 0)) 3), none⟩])
 (.cond (.tmp 10) (.seq (.reg [⟨(some 4), (.assign (.const (.int .i64 (-1)))), none⟩])
 .ret) .skip))
 (.seq (.reg [⟨(some 11), (.move (.tmp 1)), none⟩,
   ⟨(some 4), (.assign (.tmp 11)), none⟩])
 .ret))))
theorem x_laws_szPriceRowS : Txt Try.prog 14 c_laws_szPriceRowS [.tmp 4] 2 := ⟨by kernel_rfl, by kernel_rfl, _, _, Try.func14, rfl, by kernel_rfl, by kernel_rfl, by kernel_rfl, rfl, by decide⟩
/-- loop.example/g01062/spec.ArePrices -/
def c_spec_ArePrices : Cd :=
 (.seq (.reg [⟨(some 2), (.assign (.const (.bool false))), none⟩])
 (.seq (.reg [⟨(some 3), (.move (.tmp 0)), none⟩,
   ⟨(some 4), (.call (.mk (.value (.func 49)) #[(.tmp 3)] #[25])), none⟩,
   ⟨(some 2), (.assign (.tmp 4)), none⟩])
 .ret))
theorem x_spec_ArePrices : Txt Try.prog 15 c_spec_ArePrices [.tmp 2] 1 := ⟨by kernel_rfl, by kernel_rfl, _, _, Try.func15, rfl, by kernel_rfl, by kernel_rfl, by kernel_rfl, rfl, by decide⟩
/-- loop.example/g01062/laws.toPriceRowS -/
def c_laws_toPriceRowS : Cd :=
 (.seq (.reg [⟨(some 2), (.assign (.const (.slice none 0 0))), none⟩])
 (.seq (.reg [⟨(some 5), (.move (.tmp 0)), none⟩,
   ⟨(some 6), (.call (.mk (.builtin .len) #[(.tmp 5)] #[22])), none⟩,
   ⟨(some 7), (.makeSlice 25 (.tmp 6) (.tmp 6)), none⟩,
   ⟨(some 3), (.assign (.tmp 7)), none⟩])
 (.seq (.seq (.reg [⟨(some 4), (.assign (.const (.int .i64 0))), none⟩])
 (.block 0 (.loop (.seq (.seq (.reg [⟨(some 8), (.move (.tmp 4)), none⟩,
   ⟨(some 9), (.move (.tmp 0)), none⟩,
   ⟨(some 10), (.call (.mk (.builtin .len) #[(.tmp 9)] #[22])), none⟩,
   ⟨(some 11), (.binOp .lss 3 (.tmp 8) (.tmp 10) 3), none⟩])
 (.cond (.tmp 11) .skip (.exit 0)))
 (.seq (.block 1 (.reg [⟨(some 14), (.move (.tmp 3)), none⟩,
   ⟨(some 15), (.move (.tmp 4)), none⟩,
   ⟨(some 16), (.move (.tmp 0)), none⟩,
   ⟨(some 17), (.move (.tmp 4)), none⟩,
   ⟨(some 18), (.indexAddr 22 (.tmp 16) (.tmp 17)), none⟩,
   ⟨(some 19), (.load 58 (.tmp 18)), none⟩,
   ⟨(some 20), (.call (.mk (.value (.func 50)) #[(.tmp 19)] #[58])), none⟩,
   ⟨(some 21), (.indexAddr 25 (.tmp 14) (.tmp 15)), none⟩,
   ⟨none, (.store 56 (.tmp 21) (.tmp 20)), none⟩]))
 (.reg [⟨(some 12), (.move (.tmp 4)), none⟩,
   ⟨(some 13), (.binOp .add 3 (.tmp 12) (.const (.int .i64 1)) 3), none⟩,
   ⟨(some 4), (.assign (.tmp 13)), none⟩]))))))
 (.seq (.reg [⟨(some 22), (.move (.tmp 3)), none⟩,
   ⟨(some 2), (.assign (.tmp 22)), none⟩])
 .ret))))
theorem x_laws_toPriceRowS : Txt Try.prog 16 c_laws_toPriceRowS [.tmp 2] 1 := ⟨by kernel_rfl, by kernel_rfl, _, _, Try.func16, rfl, by kernel_rfl, by kernel_rfl, by kernel_rfl, rfl, by decide⟩
/-- loop.example/g01062/impl.ArePrices -/
def c_impl_ArePrices : Cd :=
 (.seq (.reg [⟨(some 2), (.assign (.const (.bool false))), none⟩])
 (.seq (.reg [⟨(some 3), (.move (.tmp 0)), none⟩,
   ⟨(some 4), (.call (.mk (.value (.func 51)) #[(.tmp 3)] #[25])), none⟩,
   ⟨(some 2), (.assign (.tmp 4)), none⟩])
 .ret))
theorem x_impl_ArePrices : Txt Try.prog 17 c_impl_ArePrices [.tmp 2] 1 := ⟨by kernel_rfl, by kernel_rfl, _, _, Try.func17, rfl, by kernel_rfl, by kernel_rfl, by kernel_rfl, rfl, by decide⟩
/-- loop.example/g01062/laws.eqPriceRowS -/
def c_laws_eqPriceRowS : Cd :=
 (.seq (.reg [⟨(some 4), (.assign (.const (.bool false))), none⟩])
 (.seq (.seq (.reg [⟨(some 6), (.move (.tmp 0)), none⟩,
   ⟨(some 7), (.call (.mk (.builtin .len) #[(.tmp 6)] #[25])), none⟩,
   ⟨(some 8), (.move (.tmp 1)), none⟩,
   ⟨(some 9), (.call (.mk (.builtin .len) #[(.tmp 8)] #[25])), none⟩,
   ⟨(some 10), (.binOp .neq 3 (.tmp 7) (.tmp 9) 3), none⟩])
 (.cond (.tmp 10) (.seq (.reg [⟨(some 4), (.assign (.const (.bool false))), none⟩])
 .ret) .skip))
 (.seq (.seq (.reg [⟨(some 5), (.assign (.const (.int .i64 0))), none⟩])
 (.block 0 (.loop (.seq (.seq (.reg [⟨(some 11), (.move (.tmp 5)), none⟩,
   ⟨(some 12), (.move (.tmp 0)), none⟩,
   ⟨(some 13), (.call (.mk (.builtin .len) #[(.tmp 12)] #[25])), none⟩,
   ⟨(some 14), (.binOp .lss 3 (.tmp 11) (.tmp 13) 3), none⟩])
 (.cond (.tmp 14) .skip (.exit 0)))
 (.seq (.block 1 (.seq (.regq [⟨(some 17), (.move (.tmp 0)), none⟩,
   ⟨(some 18), (.move (.tmp 5)), none⟩,
   ⟨(some 19), (.indexAddr 25 (.tmp 17) (.tmp 18)), none⟩,
   ⟨(some 20), (.load 56 (.tmp 19)), none⟩,
   ⟨(some 21), (.move (.tmp 1)), none⟩,
   ⟨(some 22), (.move (.tmp 5)), none⟩,
   ⟨(some 23), (.indexAddr 25 (.tmp 21) (.tmp 22)), none⟩,
   ⟨(some 24), (.load 56 (.tmp 23)), none⟩,
   ⟨(some 25), (.call (.mk (.value (.func 52)) #[(.tmp 20), (.tmp 24)] #[56, 56])), none⟩,
   ⟨(some 26), (.unOp .not 4 (.tmp 25)), none⟩])
 (.cond (.tmp 26) (.seq (.reg [⟨(some 4), (.assign (.const (.bool false))), none⟩])
 .ret) .skip)))
 (.reg [⟨(some 15), (.move (.tmp 5)), none⟩,
   ⟨(some 16), (.binOp .add 3 (.tmp 15) (.const (.int .i64 1)) 3), none⟩,
   ⟨(some 5), (.assign (.tmp 16)), none⟩]))))))
 (.seq (.reg [⟨(some 4), (.assign (.const (.bool true))), none⟩])
 .ret))))
theorem x_laws_eqPriceRowS : Txt Try.prog 18 c_laws_eqPriceRowS [.tmp 4] 2 := ⟨by kernel_rfl, by kernel_rfl, _, _, Try.func18, rfl, by kernel_rfl, by kernel_rfl, by kernel_rfl, rfl, by decide⟩
/-- loop.example/g01062/spec.RaiseAll -/
def c_spec_RaiseAll : Cd :=
 (.seq (.reg [⟨(some 6), (.assign (.const (.slice none 0 0))), none⟩,
   ⟨(some 7), (.assign (.const (.bool false))), none⟩])
 (.seq (.seq (.reg [⟨(some 11), (.move (.tmp 0)), none⟩,
   ⟨(some 12), (.call (.mk (.value (.func 49)) #[(.tmp 11)] #[25])), none⟩,
   ⟨(some 13), (.unOp .not 4 (.tmp 12)), none⟩,
   ⟨(some 14), (.move (.tmp 13)), none⟩,
   ⟨(some 15), (.move (.tmp 1)), (some (14, false))⟩,
   ⟨(some 16), (.call (.mk (.value (.func 55)) #[(.tmp 15)] #[3])), (some (14, false))⟩,
   ⟨(some 17), (.unOp .not 4 (.tmp 16)), (some (14, false))⟩,
   ⟨(some 18), (.pick (.tmp 14) (.const (.bool true)) (.tmp 17)), none⟩,
   ⟨(some 19), (.move (.tmp 18)), none⟩,
   ⟨(some 20), (.move (.tmp 2)), (some (19, false))⟩,
   ⟨(some 21), (.call (.mk (.value (.func 61)) #[(.tmp 20), (.const (.int .i64 0)), (.const (.int .i64 100))] #[3, 3, 3])), (some (19, false))⟩,
   ⟨(some 22), (.unOp .not 4 (.tmp 21)), (some (19, false))⟩,
   ⟨(some 23), (.pick (.tmp 19) (.const (.bool true)) (.tmp 22)), none⟩])
 (.cond (.tmp 23) (.seq (.reg [⟨(some 24), (.buildSlice 25 0 #[]), none⟩,
   ⟨(some 6), (.assign (.tmp 24)), none⟩,
   ⟨(some 7), (.assign (.const (.bool false))), none⟩])
 .ret) .skip))
 (.seq (.reg [⟨(some 25), (.buildSlice 25 0 #[]), none⟩,
   ⟨(some 8), (.assign (.tmp 25)), none⟩])
 (.seq (.seq (.reg [⟨(some 9), (.assign (.const (.int .i64 0))), none⟩])
 (.block 0 (.loop (.seq (.seq (.reg [⟨(some 26), (.move (.tmp 9)), none⟩,
   ⟨(some 27), (.move (.tmp 0)), none⟩,
   ⟨(some 28), (.call (.mk (.builtin .len) #[(.tmp 27)] #[25])), none⟩,
   ⟨(some 29), (.binOp .lss 3 (.tmp 26) (.tmp 28) 3), none⟩])
 (.cond (.tmp 29) .skip (.exit 0)))
 (.seq (.block 1 (.seq (.reg [⟨(some 32), (.move (.tmp 0)), none⟩,
   ⟨(some 33), (.move (.tmp 9)), none⟩,
   ⟨(some 34), (.indexAddr 25 (.tmp 32) (.tmp 33)), none⟩,
   ⟨(some 35), (.load 56 (.tmp 34)), none⟩,
   ⟨(some 10), (.alloc 56), none⟩,
   ⟨none, (.store 56 (.tmp 10) (.tmp 35)), none⟩])
 (.seq (.seq (.reg [⟨(some 36), (.fieldAddr 56 (.tmp 10) 1), none⟩,
   ⟨(some 37), (.load 3 (.tmp 36)), none⟩,
   ⟨(some 38), (.move (.tmp 1)), none⟩,
   ⟨(some 39), (.binOp .eql 3 (.tmp 37) (.tmp 38) 3), none⟩])
 (.cond (.tmp 39) (.reg [⟨(some 40), (.fieldAddr 56 (.tmp 10) 2), none⟩,
   ⟨(some 41), (.load 3 (.tmp 40)), none⟩,
   ⟨(some 42), (.move (.tmp 2)), none⟩,
   ⟨(some 43), (.binOp .add 3 (.const (.int .i64 100)) (.tmp 42) 3), none⟩,
   ⟨(some 44), (.binOp .mul 3 (.tmp 41) (.tmp 43) 3), none⟩,
   ⟨(some 45), (.binOp .add 3 (.tmp 44) (.const (.int .i64 99)) 3), none⟩,
   ⟨(some 46), (.binOp .quo 3 (.tmp 45) (.const (.int .i64 100)) 3), none⟩,
   ⟨(some 47), (.fieldAddr 56 (.tmp 10) 2), none⟩,
   ⟨none, (.store 3 (.tmp 47) (.tmp 46)), none⟩]) .skip))
 (.reg [⟨(some 48), (.move (.tmp 8)), none⟩,
   ⟨(some 49), (.load 56 (.tmp 10)), none⟩,
   ⟨(some 50), (.buildSlice 25 1 #[(0, (.tmp 49))]), none⟩,
   ⟨(some 51), (.call (.mk (.builtin .append) #[(.tmp 48), (.tmp 50)] #[25, 25])), none⟩,
   ⟨(some 8), (.assign (.tmp 51)), none⟩]))))
 (.reg [⟨(some 30), (.move (.tmp 9)), none⟩,
   ⟨(some 31), (.binOp .add 3 (.tmp 30) (.const (.int .i64 1)) 3), none⟩,
   ⟨(some 9), (.assign (.tmp 31)), none⟩]))))))
 (.seq (.seq (.reg [⟨(some 52), (.move (.tmp 8)), none⟩,
   ⟨(some 53), (.call (.mk (.value (.func 49)) #[(.tmp 52)] #[25])), none⟩,
   ⟨(some 54), (.unOp .not 4 (.tmp 53)), none⟩])
 (.cond (.tmp 54) (.seq (.reg [⟨(some 55), (.buildSlice 25 0 #[]), none⟩,
   ⟨(some 6), (.assign (.tmp 55)), none⟩,
   ⟨(some 7), (.assign (.const (.bool false))), none⟩])
 .ret) .skip))
 (.seq (.reg [⟨(some 56), (.move (.tmp 8)), none⟩,
   ⟨(some 6), (.assign (.tmp 56)), none⟩,
   ⟨(some 7), (.assign (.const (.bool true))), none⟩])
 .ret))))))
theorem x_spec_RaiseAll : Txt Try.prog 25 c_spec_RaiseAll [.tmp 6, .tmp 7] 3 := ⟨by kernel_rfl, by kernel_rfl, _, _, Try.func25, rfl, by kernel_rfl, by kernel_rfl, by kernel_rfl, rfl, by decide⟩
/-- loop.example/g01062/impl.RaiseAll -/
def c_impl_RaiseAll : Cd :=
 (.seq (.reg [⟨(some 6), (.assign (.const (.slice none 0 0))), none⟩,
   ⟨(some 7), (.assign (.const (.bool false))), none⟩])
 (.seq (.seq (.reg [⟨(some 11), (.move (.tmp 0)), none⟩,
   ⟨(some 12), (.call (.mk (.value (.func 51)) #[(.tmp 11)] #[25])), none⟩,
   ⟨(some 13), (.unOp .not 4 (.tmp 12)), none⟩,
   ⟨(some 14), (.move (.tmp 13)), none⟩,
   ⟨(some 15), (.move (.tmp 1)), (some (14, false))⟩,
   ⟨(some 16), (.call (.mk (.value (.func 57)) #[(.tmp 15)] #[3])), (some (14, false))⟩,
   ⟨(some 17), (.unOp .not 4 (.tmp 16)), (some (14, false))⟩,
   ⟨(some 18), (.pick (.tmp 14) (.const (.bool true)) (.tmp 17)), none⟩,
   ⟨(some 19), (.move (.tmp 18)), none⟩,
   ⟨(some 20), (.move (.tmp 2)), (some (19, false))⟩,
   ⟨(some 21), (.call (.mk (.value (.func 60)) #[(.tmp 20), (.const (.int .i64 0)), (.const (.int .i64 100))] #[3, 3, 3])), (some (19, false))⟩,
   ⟨(some 22), (.unOp .not 4 (.tmp 21)), (some (19, false))⟩,
   ⟨(some 23), (.pick (.tmp 19) (.const (.bool true)) (.tmp 22)), none⟩])
 (.cond (.tmp 23) (.seq (.reg [⟨(some 6), (.assign (.const (.slice none 0 0))), none⟩,
   ⟨(some 7), (.assign (.const (.bool false))), none⟩])
 .ret) .skip))
 (.seq (.reg [⟨(some 24), (.move (.tmp 0)), none⟩,
   ⟨(some 25), (.call (.mk (.value (.func 62)) #[(.tmp 24)] #[25])), none⟩,
   ⟨(some 8), (.assign (.tmp 25)), none⟩])
 (.seq (.seq (.reg [⟨(some 26), (.move (.tmp 8)), none⟩,
   ⟨(some 27), (.call (.mk (.builtin .len) #[(.tmp 26)] #[25])), none⟩,
   ⟨(some 28), (.move (.const (.int .i64 0))), none⟩])
 (.block 0 (.loop (.seq (.reg [⟨(some 29), (.binOp .lss 3 (.tmp 28) (.tmp 27) 3), none⟩])
 (.seq (.cond (.tmp 29) .skip (.exit 0))
 (.seq (.block 1 (.seq (.reg [⟨(some 30), (.move (.tmp 28)), none⟩,
   ⟨(some 31), (.indexAddr 25 (.tmp 26) (.tmp 28)), none⟩,
   ⟨(some 32), (.load 56 (.tmp 31)), none⟩,
   ⟨(some 10), (.alloc 56), none⟩,
   ⟨(some 9), (.assign (.tmp 30)), none⟩,
   ⟨none, (.store 56 (.tmp 10) (.tmp 32)), none⟩])
 (.seq (.reg [⟨(some 33), (.fieldAddr 56 (.tmp 10) 1), none⟩,
   ⟨(some 34), (.load 3 (.tmp 33)), none⟩,
   ⟨(some 35), (.move (.tmp 1)), none⟩,
   ⟨(some 36), (.binOp .eql 3 (.tmp 34) (.tmp 35) 3), none⟩])
 (.cond (.tmp 36) (.reg [⟨(some 37), (.move (.tmp 8)), none⟩,
   ⟨(some 38), (.move (.tmp 9)), none⟩,
   ⟨(some 39), (.fieldAddr 56 (.tmp 10) 2), none⟩,
   ⟨(some 40), (.load 3 (.tmp 39)), none⟩,
   ⟨(some 41), (.move (.tmp 2)), none⟩,
   ⟨(some 42), (.binOp .add 3 (.const (.int .i64 100)) (.tmp 41) 3), none⟩,
   ⟨(some 43), (.binOp .mul 3 (.tmp 40) (.tmp 42) 3), none⟩,
   ⟨(some 44), (.binOp .add 3 (.tmp 43) (.const (.int .i64 99)) 3), none⟩,
   ⟨(some 45), (.binOp .quo 3 (.tmp 44) (.const (.int .i64 100)) 3), none⟩,
   ⟨(some 46), (.indexAddr 25 (.tmp 37) (.tmp 38)), none⟩,
   ⟨(some 47), (.fieldAddr 56 (.tmp 46) 2), none⟩,
   ⟨none, (.store 3 (.tmp 47) (.tmp 45)), none⟩]) .skip))))
 (.reg [⟨(some 48), (.binOp .add 3 (.tmp 28) (.const (.int .i64 1)) 3), none⟩,
   ⟨(some 28), (.move (.tmp 48)), none⟩])))))))
 (.seq (.seq (.reg [⟨(some 49), (.move (.tmp 8)), none⟩,
   ⟨(some 50), (.call (.mk (.value (.func 51)) #[(.tmp 49)] #[25])), none⟩,
   ⟨(some 51), (.unOp .not 4 (.tmp 50)), none⟩])
 (.cond (.tmp 51) (.seq (.reg [⟨(some 6), (.assign (.const (.slice none 0 0))), none⟩,
   ⟨(some 7), (.assign (.const (.bool false))), none⟩])
 .ret) .skip))
 (.seq (.reg [⟨(some 52), (.move (.tmp 8)), none⟩,
   ⟨(some 6), (.assign (.tmp 52)), none⟩,
   ⟨(some 7), (.assign (.const (.bool true))), none⟩])
 .ret))))))
theorem x_impl_RaiseAll : Txt Try.prog 26 c_impl_RaiseAll [.tmp 6, .tmp 7] 3 := ⟨by kernel_rfl, by kernel_rfl, _, _, Try.func26, rfl, by kernel_rfl, by kernel_rfl, by kernel_rfl, rfl, by decide⟩
/-- loop.example/g01062/laws.markPriceRowS -/
def c_laws_markPriceRowS : Cd :=
 (.seq (.reg [⟨(some 4), (.assign (.const (.int .i64 0))), none⟩])
 (.seq (.seq (.reg [⟨(some 5), (.assign (.const (.int .i64 0))), none⟩])
 (.block 0 (.loop (.seq (.seq (.reg [⟨(some 6), (.move (.tmp 5)), none⟩,
   ⟨(some 7), (.move (.tmp 0)), none⟩,
   ⟨(some 8), (.call (.mk (.builtin .len) #[(.tmp 7)] #[25])), none⟩,
   ⟨(some 9), (.binOp .lss 3 (.tmp 6) (.tmp 8) 3), none⟩])
 (.cond (.tmp 9) .skip (.exit 0)))
 (.seq (.block 1 (.seq (.reg [⟨(some 12), (.move (.tmp 0)), none⟩,
   ⟨(some 13), (.move (.tmp 5)), none⟩,
   ⟨(some 14), (.move (.tmp 1)), none⟩,
   ⟨(some 15), (.indexAddr 25 (.tmp 12) (.tmp 13)), none⟩,
   ⟨(some 16), (.fieldAddr 56 (.tmp 15) 0), none⟩,
   ⟨none, (.store 3 (.tmp 16) (.tmp 14)), none⟩])
 (.seq (.reg [⟨(some 17), (.move (.tmp 1)), none⟩,
   ⟨(some 18), (.binOp .add 3 (.tmp 17) (.const (.int .i64 1)) 3), none⟩,
   ⟨(some 1), (.assign (.tmp 18)), none⟩])
 (.seq (.reg [⟨(some 19), (.move (.tmp 0)), none⟩,
   ⟨(some 20), (.move (.tmp 5)), none⟩,
   ⟨(some 21), (.move (.tmp 1)), none⟩,
   ⟨(some 22), (.indexAddr 25 (.tmp 19) (.tmp 20)), none⟩,
   ⟨(some 23), (.fieldAddr 56 (.tmp 22) 1), none⟩,
   ⟨none, (.store 3 (.tmp 23) (.tmp 21)), none⟩])
 (.seq (.reg [⟨(some 24), (.move (.tmp 1)), none⟩,
   ⟨(some 25), (.binOp .add 3 (.tmp 24) (.const (.int .i64 1)) 3), none⟩,
   ⟨(some 1), (.assign (.tmp 25)), none⟩])
 (.seq (.reg [⟨(some 26), (.move (.tmp 0)), none⟩,
   ⟨(some 27), (.move (.tmp 5)), none⟩,
   ⟨(some 28), (.move (.tmp 1)), none⟩,
   ⟨(some 29), (.indexAddr 25 (.tmp 26) (.tmp 27)), none⟩,
   ⟨(some 30), (.fieldAddr 56 (.tmp 29) 2), none⟩,
   ⟨none, (.store 3 (.tmp 30) (.tmp 28)), none⟩])
 (.reg [⟨(some 31), (.move (.tmp 1)), none⟩,
   ⟨(some 32), (.binOp .add 3 (.tmp 31) (.const (.int .i64 1)) 3), none⟩,
   ⟨(some 1), (.assign (.tmp 32)), none⟩])))))))
 (.reg [⟨(some 10), (.move (.tmp 5)), none⟩,
   ⟨(some 11), (.binOp .add 3 (.tmp 10) (.const (.int .i64 1)) 3), none⟩,
   ⟨(some 5), (.assign (.tmp 11)), none⟩]))))))
 (.seq (.reg [⟨(some 33), (.move (.tmp 1)), none⟩,
   ⟨(some 4), (.assign (.tmp 33)), none⟩])
 .ret)))
theorem x_laws_markPriceRowS : Txt Try.prog 27 c_laws_markPriceRowS [.tmp 4] 2 := ⟨by kernel_rfl, by kernel_rfl, _, _, Try.func27, rfl, by kernel_rfl, by kernel_rfl, by kernel_rfl, rfl, by decide⟩
/-- loop.example/g01062/laws.heldPriceRowS -/
def c_laws_heldPriceRowS : Cd :=
 (.seq (.reg [⟨(some 4), (.assign (.const (.int .i64 0))), none⟩])
 (.seq (.seq (.reg [⟨(some 5), (.assign (.const (.int .i64 0))), none⟩])
 (.block 0 (.loop (.seq (.seq (.reg [⟨(some 6), (.move (.tmp 5)), none⟩,
   ⟨(some 7), (.move (.tmp 0)), none⟩,
   ⟨(some 8), (.call (.mk (.builtin .len) #[(.tmp 7)] #[25])), none⟩,
   ⟨(some 9), (.binOp .lss 3 (.tmp 6) (.tmp 8) 3), none⟩])
 (.cond (.tmp 9) .skip (.exit 0)))
 (.seq (.block 1 (.seq (.seq (.reg [⟨(some 12), (.move (.tmp 0)), none⟩,
   ⟨(some 13), (.move (.tmp 5)), none⟩,
   ⟨(some 14), (.indexAddr 25 (.tmp 12) (.tmp 13)), none⟩,
   ⟨(some 15), (.fieldAddr 56 (.tmp 14) 0), none⟩,
   ⟨(some 16), (.load 3 (.tmp 15)), none⟩,
   ⟨(some 17), (.move (.tmp 1)), none⟩,
   ⟨(some 18), (.binOp .neq 3 (.tmp 16) (.tmp 17) 3), none⟩])
 (.cond (.tmp 18) (.seq (.reg [⟨(some 4), (.assign (.const (.int .i64 (-1)))), none⟩])
 .ret) .skip))
 (.seq (.reg [⟨(some 19), (.move (.tmp 1)), none⟩,
   ⟨(some 20), (.binOp .add 3 (.tmp 19) (.const (.int .i64 1)) 3), none⟩,
   ⟨(some 1), (.assign (.tmp 20)), none⟩])
 (.seq (.seq (.reg [⟨(some 21), (.move (.tmp 0)), none⟩,
   ⟨(some 22), (.move (.tmp 5)), none⟩,
   ⟨(some 23), (.indexAddr 25 (.tmp 21) (.tmp 22)), none⟩,
   ⟨(some 24), (.fieldAddr 56 (.tmp 23) 1), none⟩,
   ⟨(some 25), (.load 3 (.tmp 24)), none⟩,
   ⟨(some 26), (.move (.tmp 1)), none⟩,
   ⟨(some 27), (.binOp .neq 3 (.tmp 25) (.tmp 26) 3), none⟩])
 (.cond (.tmp 27) (.seq (.reg [⟨(some 4), (.assign (.const (.int .i64 (-1)))), none⟩])
 .ret) .skip))
 (.seq (.reg [⟨(some 28), (.move (.tmp 1)), none⟩,
   ⟨(some 29), (.binOp .add 3 (.tmp 28) (.const (.int .i64 1)) 3), none⟩,
   ⟨(some 1), (.assign (.tmp 29)), none⟩])
 (.seq (.seq (.reg [⟨(some 30), (.move (.tmp 0)), none⟩,
   ⟨(some 31), (.move (.tmp 5)), none⟩,
   ⟨(some 32), (.indexAddr 25 (.tmp 30) (.tmp 31)), none⟩,
   ⟨(some 33), (.fieldAddr 56 (.tmp 32) 2), none⟩,
   ⟨(some 34), (.load 3 (.tmp 33)), none⟩,
   ⟨(some 35), (.move (.tmp 1)), none⟩,
   ⟨(some 36), (.binOp .neq 3 (.tmp 34) (.tmp 35) 3), none⟩])
 (.cond (.tmp 36) (.seq (.reg [⟨(some 4), (.assign (.const (.int .i64 (-1)))), none⟩])
 .ret) .skip))
 (.reg [⟨(some 37), (.move (.tmp 1)), none⟩,
   ⟨(some 38), (.binOp .add 3 (.tmp 37) (.const (.int .i64 1)) 3), none⟩,
   ⟨(some 1), (.assign (.tmp 38)), none⟩])))))))
 (.reg [⟨(some 10), (.move (.tmp 5)), none⟩,
   ⟨(some 11), (.binOp .add 3 (.tmp 10) (.const (.int .i64 1)) 3), none⟩,
   ⟨(some 5), (.assign (.tmp 11)), none⟩]))))))
 (.seq (.reg [⟨(some 39), (.move (.tmp 1)), none⟩,
   ⟨(some 4), (.assign (.tmp 39)), none⟩])
 .ret)))
theorem x_laws_heldPriceRowS : Txt Try.prog 28 c_laws_heldPriceRowS [.tmp 4] 2 := ⟨by kernel_rfl, by kernel_rfl, _, _, Try.func28, rfl, by kernel_rfl, by kernel_rfl, by kernel_rfl, rfl, by decide⟩
/-- loop.example/g01062/laws.toIntS -/
def c_laws_toIntS : Cd :=
 (.seq (.reg [⟨(some 2), (.assign (.const (.slice none 0 0))), none⟩])
 (.seq (.reg [⟨(some 5), (.move (.tmp 0)), none⟩,
   ⟨(some 6), (.call (.mk (.builtin .len) #[(.tmp 5)] #[40])), none⟩,
   ⟨(some 7), (.makeSlice 40 (.tmp 6) (.tmp 6)), none⟩,
   ⟨(some 3), (.assign (.tmp 7)), none⟩])
 (.seq (.seq (.reg [⟨(some 4), (.assign (.const (.int .i64 0))), none⟩])
 (.block 0 (.loop (.seq (.seq (.reg [⟨(some 8), (.move (.tmp 4)), none⟩,
   ⟨(some 9), (.move (.tmp 0)), none⟩,
   ⟨(some 10), (.call (.mk (.builtin .len) #[(.tmp 9)] #[40])), none⟩,
   ⟨(some 11), (.binOp .lss 3 (.tmp 8) (.tmp 10) 3), none⟩])
 (.cond (.tmp 11) .skip (.exit 0)))
 (.seq (.block 1 (.reg [⟨(some 14), (.move (.tmp 3)), none⟩,
   ⟨(some 15), (.move (.tmp 4)), none⟩,
   ⟨(some 16), (.move (.tmp 0)), none⟩,
   ⟨(some 17), (.move (.tmp 4)), none⟩,
   ⟨(some 18), (.indexAddr 40 (.tmp 16) (.tmp 17)), none⟩,
   ⟨(some 19), (.load 3 (.tmp 18)), none⟩,
   ⟨(some 20), (.indexAddr 40 (.tmp 14) (.tmp 15)), none⟩,
   ⟨none, (.store 3 (.tmp 20) (.tmp 19)), none⟩]))
 (.reg [⟨(some 12), (.move (.tmp 4)), none⟩,
   ⟨(some 13), (.binOp .add 3 (.tmp 12) (.const (.int .i64 1)) 3), none⟩,
   ⟨(some 4), (.assign (.tmp 13)), none⟩]))))))
 (.seq (.reg [⟨(some 21), (.move (.tmp 3)), none⟩,
   ⟨(some 2), (.assign (.tmp 21)), none⟩])
 .ret))))
theorem x_laws_toIntS : Txt Try.prog 34 c_laws_toIntS [.tmp 2] 1 := ⟨by kernel_rfl, by kernel_rfl, _, _, Try.func34, rfl, by kernel_rfl, by kernel_rfl, by kernel_rfl, rfl, by decide⟩
/-- loop.example/g01062/laws.eqIntS -/
def c_laws_eqIntS : Cd :=
 (.seq (.reg [⟨(some 4), (.assign (.const (.bool false))), none⟩])
 (.seq (.seq (.reg [⟨(some 6), (.move (.tmp 0)), none⟩,
   ⟨(some 7), (.call (.mk (.builtin .len) #[(.tmp 6)] #[40])), none⟩,
   ⟨(some 8), (.move (.tmp 1)), none⟩,
   ⟨(some 9), (.call (.mk (.builtin .len) #[(.tmp 8)] #[40])), none⟩,
   ⟨(some 10), (.binOp .neq 3 (.tmp 7) (.tmp 9) 3), none⟩])
 (.cond (.tmp 10) (.seq (.reg [⟨(some 4), (.assign (.const (.bool false))), none⟩])
 .ret) .skip))
 (.seq (.seq (.reg [⟨(some 5), (.assign (.const (.int .i64 0))), none⟩])
 (.block 0 (.loop (.seq (.seq (.reg [⟨(some 11), (.move (.tmp 5)), none⟩,
   ⟨(some 12), (.move (.tmp 0)), none⟩,
   ⟨(some 13), (.call (.mk (.builtin .len) #[(.tmp 12)] #[40])), none⟩,
   ⟨(some 14), (.binOp .lss 3 (.tmp 11) (.tmp 13) 3), none⟩])
 (.cond (.tmp 14) .skip (.exit 0)))
 (.seq (.block 1 (.seq (.regq [⟨(some 17), (.move (.tmp 0)), none⟩,
   ⟨(some 18), (.move (.tmp 5)), none⟩,
   ⟨(some 19), (.indexAddr 40 (.tmp 17) (.tmp 18)), none⟩,
   ⟨(some 20), (.load 3 (.tmp 19)), none⟩,
   ⟨(some 21), (.move (.tmp 1)), none⟩,
   ⟨(some 22), (.move (.tmp 5)), none⟩,
   ⟨(some 23), (.indexAddr 40 (.tmp 21) (.tmp 22)), none⟩,
   ⟨(some 24), (.load 3 (.tmp 23)), none⟩,
   ⟨(some 25), (.binOp .neq 3 (.tmp 20) (.tmp 24) 3), none⟩])
 (.cond (.tmp 25) (.seq (.reg [⟨(some 4), (.assign (.const (.bool false))), none⟩])
 .ret) .skip)))
 (.reg [⟨(some 15), (.move (.tmp 5)), none⟩,
   ⟨(some 16), (.binOp .add 3 (.tmp 15) (.const (.int .i64 1)) 3), none⟩,
   ⟨(some 5), (.assign (.tmp 16)), none⟩]))))))
 (.seq (.reg [⟨(some 4), (.assign (.const (.bool true))), none⟩])
 .ret))))
theorem x_laws_eqIntS : Txt Try.prog 36 c_laws_eqIntS [.tmp 4] 2 := ⟨by kernel_rfl, by kernel_rfl, _, _, Try.func36, rfl, by kernel_rfl, by kernel_rfl, by kernel_rfl, rfl, by decide⟩
/-- loop.example/g01062/laws.markIntS -/
def c_laws_markIntS : Cd :=
 (.seq (.reg [⟨(some 4), (.assign (.const (.int .i64 0))), none⟩])
 (.seq (.seq (.reg [⟨(some 5), (.assign (.const (.int .i64 0))), none⟩])
 (.block 0 (.loop (.seq (.seq (.reg [⟨(some 6), (.move (.tmp 5)), none⟩,
   ⟨(some 7), (.move (.tmp 0)), none⟩,
   ⟨(some 8), (.call (.mk (.builtin .len) #[(.tmp 7)] #[40])), none⟩,
   ⟨(some 9), (.binOp .lss 3 (.tmp 6) (.tmp 8) 3), none⟩])
 (.cond (.tmp 9) .skip (.exit 0)))
 (.seq (.block 1 (.seq (.reg [⟨(some 12), (.move (.tmp 0)), none⟩,
   ⟨(some 13), (.move (.tmp 5)), none⟩,
   ⟨(some 14), (.move (.tmp 1)), none⟩,
   ⟨(some 15), (.indexAddr 40 (.tmp 12) (.tmp 13)), none⟩,
   ⟨none, (.store 3 (.tmp 15) (.tmp 14)), none⟩])
 (.reg [⟨(some 16), (.move (.tmp 1)), none⟩,
   ⟨(some 17), (.binOp .add 3 (.tmp 16) (.const (.int .i64 1)) 3), none⟩,
   ⟨(some 1), (.assign (.tmp 17)), none⟩])))
 (.reg [⟨(some 10), (.move (.tmp 5)), none⟩,
   ⟨(some 11), (.binOp .add 3 (.tmp 10) (.const (.int .i64 1)) 3), none⟩,
   ⟨(some 5), (.assign (.tmp 11)), none⟩]))))))
 (.seq (.reg [⟨(some 18), (.move (.tmp 1)), none⟩,
   ⟨(some 4), (.assign (.tmp 18)), none⟩])
 .ret)))
theorem x_laws_markIntS : Txt Try.prog 39 c_laws_markIntS [.tmp 4] 2 := ⟨by kernel_rfl, by kernel_rfl, _, _, Try.func39, rfl, by kernel_rfl, by kernel_rfl, by kernel_rfl, rfl, by decide⟩
/-- loop.example/g01062/laws.heldIntS -/
def c_laws_heldIntS : Cd :=
 (.seq (.reg [⟨(some 4), (.assign (.const (.int .i64 0))), none⟩])
 (.seq (.seq (.reg [⟨(some 5), (.assign (.const (.int .i64 0))), none⟩])
 (.block 0 (.loop (.seq (.seq (.reg [⟨(some 6), (.move (.tmp 5)), none⟩,
   ⟨(some 7), (.move (.tmp 0)), none⟩,
   ⟨(some 8), (.call (.mk (.builtin .len) #[(.tmp 7)] #[40])), none⟩,
   ⟨(some 9), (.binOp .lss 3 (.tmp 6) (.tmp 8) 3), none⟩])
 (.cond (.tmp 9) .skip (.exit 0)))
 (.seq (.block 1 (.seq (.seq (.reg [⟨(some 12), (.move (.tmp 0)), none⟩,
   ⟨(some 13), (.move (.tmp 5)), none⟩,
   ⟨(some 14), (.indexAddr 40 (.tmp 12) (.tmp 13)), none⟩,
   ⟨(some 15), (.load 3 (.tmp 14)), none⟩,
   ⟨(some 16), (.move (.tmp 1)), none⟩,
   ⟨(some 17), (.binOp .neq 3 (.tmp 15) (.tmp 16) 3), none⟩])
 (.cond (.tmp 17) (.seq (.reg [⟨(some 4), (.assign (.const (.int .i64 (-1)))), none⟩])
 .ret) .skip))
 (.reg [⟨(some 18), (.move (.tmp 1)), none⟩,
   ⟨(some 19), (.binOp .add 3 (.tmp 18) (.const (.int .i64 1)) 3), none⟩,
   ⟨(some 1), (.assign (.tmp 19)), none⟩])))
 (.reg [⟨(some 10), (.move (.tmp 5)), none⟩,
   ⟨(some 11), (.binOp .add 3 (.tmp 10) (.const (.int .i64 1)) 3), none⟩,
   ⟨(some 5), (.assign (.tmp 11)), none⟩]))))))
 (.seq (.reg [⟨(some 20), (.move (.tmp 1)), none⟩,
   ⟨(some 4), (.assign (.tmp 20)), none⟩])
 .ret)))
theorem x_laws_heldIntS : Txt Try.prog 40 c_laws_heldIntS [.tmp 4] 2 := ⟨by kernel_rfl, by kernel_rfl, _, _, Try.func40, rfl, by kernel_rfl, by kernel_rfl, by kernel_rfl, rfl, by decide⟩
/-- loop.example/g01062/spec.SetPrice -/
def c_spec_SetPrice : Cd :=
 (.seq (.reg [⟨(some 8), (.assign (.const (.slice none 0 0))), none⟩,
   ⟨(some 9), (.assign (.const (.bool false))), none⟩])
 (.seq (.seq (.reg [⟨(some 13), (.move (.tmp 0)), none⟩,
   ⟨(some 14), (.call (.mk (.value (.func 49)) #[(.tmp 13)] #[25])), none⟩,
   ⟨(some 15), (.unOp .not 4 (.tmp 14)), none⟩])
 (.cond (.tmp 15) (.seq (.reg [⟨(some 16), (.buildSlice 25 0 #[]), none⟩,
   ⟨(some 8), (.assign (.tmp 16)), none⟩,
   ⟨(some 9), (.assign (.const (.bool false))), none⟩])
 .ret) .skip))
 (.seq (.reg [⟨(some 17), (.buildSlice 25 0 #[]), none⟩,
   ⟨(some 10), (.assign (.tmp 17)), none⟩])
 (.seq (.seq (.reg [⟨(some 11), (.assign (.const (.int .i64 0))), none⟩])
 (.block 0 (.loop (.seq (.seq (.reg [⟨(some 18), (.move (.tmp 11)), none⟩,
   ⟨(some 19), (.move (.tmp 0)), none⟩,
   ⟨(some 20), (.call (.mk (.builtin .len) #[(.tmp 19)] #[25])), none⟩,
   ⟨(some 21), (.binOp .lss 3 (.tmp 18) (.tmp 20) 3), none⟩])
 (.cond (.tmp 21) .skip (.exit 0)))
 (.seq (.block 1 (.seq (.reg [⟨(some 24), (.move (.tmp 0)), none⟩,
   ⟨(some 25), (.move (.tmp 11)), none⟩,
   ⟨(some 26), (.indexAddr 25 (.tmp 24) (.tmp 25)), none⟩,
   ⟨(some 27), (.load 56 (.tmp 26)), none⟩,
   ⟨(some 28), (.move (.tmp 1)), none⟩,
   ⟨(some 29), (.move (.tmp 2)), none⟩,
   ⟨(some 30), (.call (.mk (.value (.func 69)) #[(.tmp 27), (.tmp 28), (.tmp 29)] #[56, 3, 3])), none⟩])
 (.cond (.tmp 30) (.reg [⟨(some 31), (.move (.tmp 10)), none⟩,
   ⟨(some 32), (.move (.tmp 0)), none⟩,
   ⟨(some 33), (.move (.tmp 11)), none⟩,
   ⟨(some 34), (.indexAddr 25 (.tmp 32) (.tmp 33)), none⟩,
   ⟨(some 35), (.load 56 (.tmp 34)), none⟩,
   ⟨(some 36), (.buildSlice 25 1 #[(0, (.tmp 35))]), none⟩,
   ⟨(some 37), (.call (.mk (.builtin .append) #[(.tmp 31), (.tmp 36)] #[25, 25])), none⟩,
   ⟨(some 10), (.assign (.tmp 37)), none⟩]) .skip)))
 (.reg [⟨(some 22), (.move (.tmp 11)), none⟩,
   ⟨(some 23), (.binOp .add 3 (.tmp 22) (.const (.int .i64 1)) 3), none⟩,
   ⟨(some 11), (.assign (.tmp 23)), none⟩]))))))
 (.seq (.reg [⟨(some 38), (.move (.tmp 10)), none⟩,
   ⟨(some 39), (.move (.tmp 1)), none⟩,
   ⟨(some 40), (.move (.tmp 2)), none⟩,
   ⟨(some 41), (.move (.tmp 3)), none⟩,
   ⟨(some 42), (.build 56 #[(0, (.tmp 39)), (1, (.tmp 40)), (2, (.tmp 41))]), none⟩,
   ⟨(some 43), (.buildSlice 25 1 #[(0, (.tmp 42))]), none⟩,
   ⟨(some 44), (.call (.mk (.builtin .append) #[(.tmp 38), (.tmp 43)] #[25, 25])), none⟩,
   ⟨(some 10), (.assign (.tmp 44)), none⟩])
 (.seq (.seq (.reg [⟨(some 12), (.assign (.const (.int .i64 0))), none⟩])
 (.block 2 (.loop (.seq (.seq (.reg [⟨(some 45), (.move (.tmp 12)), none⟩,
   ⟨(some 46), (.move (.tmp 0)), none⟩,
   ⟨(some 47), (.call (.mk (.builtin .len) #[(.tmp 46)] #[25])), none⟩,
   ⟨(some 48), (.binOp .lss 3 (.tmp 45) (.tmp 47) 3), none⟩])
 (.cond (.tmp 48) .skip (.exit 2)))
 (.seq (.block 3 (.seq (.reg [⟨(some 51), (.move (.tmp 0)), none⟩,
   ⟨(some 52), (.move (.tmp 12)), none⟩,
   ⟨(some 53), (.indexAddr 25 (.tmp 51) (.tmp 52)), none⟩,
   ⟨(some 54), (.load 56 (.tmp 53)), none⟩,
   ⟨(some 55), (.move (.tmp 1)), none⟩,
   ⟨(some 56), (.move (.tmp 2)), none⟩,
   ⟨(some 57), (.call (.mk (.value (.func 69)) #[(.tmp 54), (.tmp 55), (.tmp 56)] #[56, 3, 3])), none⟩,
   ⟨(some 58), (.unOp .not 4 (.tmp 57)), none⟩,
   ⟨(some 59), (.move (.tmp 58)), none⟩,
   ⟨(some 60), (.move (.tmp 0)), (some (59, true))⟩,
   ⟨(some 61), (.move (.tmp 12)), (some (59, true))⟩,
   ⟨(some 62), (.indexAddr 25 (.tmp 60) (.tmp 61)), (some (59, true))⟩,
   ⟨(some 63), (.fieldAddr 56 (.tmp 62) 0), (some (59, true))⟩,
   ⟨(some 64), (.load 3 (.tmp 63)), (some (59, true))⟩,
   ⟨(some 65), (.move (.tmp 1)), (some (59, true))⟩,
   ⟨(some 66), (.binOp .neq 3 (.tmp 64) (.tmp 65) 3), (some (59, true))⟩,
   ⟨(some 67), (.move (.tmp 66)), (some (59, true))⟩,
   ⟨(some 68), (.move (.tmp 0)), (some (67, false))⟩,
   ⟨(some 69), (.move (.tmp 12)), (some (67, false))⟩,
   ⟨(some 70), (.indexAddr 25 (.tmp 68) (.tmp 69)), (some (67, false))⟩,
   ⟨(some 71), (.fieldAddr 56 (.tmp 70) 1), (some (67, false))⟩,
   ⟨(some 72), (.load 3 (.tmp 71)), (some (67, false))⟩,
   ⟨(some 73), (.move (.tmp 2)), (some (67, false))⟩,
   ⟨(some 74), (.binOp .neq 3 (.tmp 72) (.tmp 73) 3), (some (67, false))⟩,
   ⟨(some 75), (.pick (.tmp 67) (.const (.bool true)) (.tmp 74)), (some (59, true))⟩,
   ⟨(some 76), (.pick (.tmp 59) (.tmp 75) (.const (.bool false))), none⟩])
 (.cond (.tmp 76) (.reg [⟨(some 77), (.move (.tmp 10)), none⟩,
   ⟨(some 78), (.move (.tmp 0)), none⟩,
   ⟨(some 79), (.move (.tmp 12)), none⟩,
   ⟨(some 80), (.indexAddr 25 (.tmp 78) (.tmp 79)), none⟩,
   ⟨(some 81), (.load 56 (.tmp 80)), none⟩,
   ⟨(some 82), (.buildSlice 25 1 #[(0, (.tmp 81))]), none⟩,
   ⟨(some 83), (.call (.mk (.builtin .append) #[(.tmp 77), (.tmp 82)] #[25, 25])), none⟩,
   ⟨(some 10), (.assign (.tmp 83)), none⟩]) .skip)))
 (.reg [⟨(some 49), (.move (.tmp 12)), none⟩,
   ⟨(some 50), (.binOp .add 3 (.tmp 49) (.const (.int .i64 1)) 3), none⟩,
   ⟨(some 12), (.assign (.tmp 50)), none⟩]))))))
 (.seq (.seq (.reg [⟨(some 84), (.move (.tmp 10)), none⟩,
   ⟨(some 85), (.call (.mk (.value (.func 49)) #[(.tmp 84)] #[25])), none⟩,
   ⟨(some 86), (.unOp .not 4 (.tmp 85)), none⟩])
 (.cond (.tmp 86) (.seq (.reg [⟨(some 87), (.buildSlice 25 0 #[]), none⟩,
   ⟨(some 8), (.assign (.tmp 87)), none⟩,
   ⟨(some 9), (.assign (.const (.bool false))), none⟩])
 .ret) .skip))
 (.seq (.reg [⟨(some 88), (.move (.tmp 10)), none⟩,
   ⟨(some 8), (.assign (.tmp 88)), none⟩,
   ⟨(some 9), (.assign (.const (.bool true))), none⟩])
 .ret))))))))
theorem x_spec_SetPrice : Txt Try.prog 41 c_spec_SetPrice [.tmp 8, .tmp 9] 4 := ⟨by kernel_rfl, by kernel_rfl, _, _, Try.func41, rfl, by kernel_rfl, by kernel_rfl, by kernel_rfl, rfl, by decide⟩
/-- loop.example/g01062/impl.SetPrice -/
def c_impl_SetPrice : Cd :=
 (.seq (.reg [⟨(some 8), (.assign (.const (.slice none 0 0))), none⟩,
   ⟨(some 9), (.assign (.const (.bool false))), none⟩])
 (.seq (.reg [⟨(some 14), (.move (.tmp 1)), none⟩,
   ⟨(some 15), (.move (.tmp 2)), none⟩,
   ⟨(some 16), (.move (.tmp 3)), none⟩,
   ⟨(some 17), (.build 56 #[(0, (.tmp 14)), (1, (.tmp 15)), (2, (.tmp 16))]), none⟩,
   ⟨(some 10), (.alloc 56), none⟩,
   ⟨none, (.store 56 (.tmp 10) (.tmp 17)), none⟩])
 (.seq (.seq (.reg [⟨(some 18), (.move (.tmp 0)), none⟩,
   ⟨(some 19), (.call (.mk (.value (.func 51)) #[(.tmp 18)] #[25])), none⟩,
   ⟨(some 20), (.unOp .not 4 (.tmp 19)), none⟩,
   ⟨(some 21), (.move (.tmp 20)), none⟩,
   ⟨(some 22), (.load 56 (.tmp 10)), (some (21, false))⟩,
   ⟨(some 23), (.call (.mk (.value (.func 70)) #[(.tmp 22)] #[56])), (some (21, false))⟩,
   ⟨(some 24), (.unOp .not 4 (.tmp 23)), (some (21, false))⟩,
   ⟨(some 25), (.pick (.tmp 21) (.const (.bool true)) (.tmp 24)), none⟩])
 (.cond (.tmp 25) (.seq (.reg [⟨(some 8), (.assign (.const (.slice none 0 0))), none⟩,
   ⟨(some 9), (.assign (.const (.bool false))), none⟩])
 .ret) .skip))
 (.seq (.reg [⟨(some 27), (.move (.tmp 0)), none⟩,
   ⟨(some 28), (.load 56 (.tmp 10)), none⟩,
   ⟨(some 29), (.call (.mk (.value (.func 71)) #[(.tmp 27), (.tmp 28), (.func 72)] #[25, 56, 72])), none⟩,
   ⟨(some 26), (.move (.tmp 29)), none⟩,
   ⟨(some 30), (.extract (.tmp 26) 0), none⟩,
   ⟨(some 31), (.extract (.tmp 26) 1), none⟩,
   ⟨(some 11), (.assign (.tmp 30)), none⟩,
   ⟨(some 12), (.assign (.tmp 31)), none⟩])
 (.seq (.reg [⟨(some 32), (.move (.tmp 0)), none⟩,
   ⟨(some 33), (.call (.mk (.value (.func 62)) #[(.tmp 32)] #[25])), none⟩,
   ⟨(some 13), (.assign (.tmp 33)), none⟩])
 (.seq (.seq (.reg [⟨(some 34), (.move (.tmp 12)), none⟩])
 (.cond (.tmp 34) (.reg [⟨(some 35), (.move (.tmp 13)), none⟩,
   ⟨(some 36), (.move (.tmp 11)), none⟩,
   ⟨(some 37), (.load 56 (.tmp 10)), none⟩,
   ⟨(some 38), (.indexAddr 25 (.tmp 35) (.tmp 36)), none⟩,
   ⟨none, (.store 56 (.tmp 38) (.tmp 37)), none⟩]) (.reg [⟨(some 39), (.move (.tmp 13)), none⟩,
   ⟨(some 40), (.move (.tmp 11)), none⟩,
   ⟨(some 41), (.load 56 (.tmp 10)), none⟩,
   ⟨(some 42), (.buildSlice 25 1 #[(0, (.tmp 41))]), none⟩,
   ⟨(some 43), (.call (.mk (.value (.func 73)) #[(.tmp 39), (.tmp 40), (.tmp 42)] #[25, 3, 25])), none⟩,
   ⟨(some 13), (.assign (.tmp 43)), none⟩])))
 (.seq (.seq (.reg [⟨(some 44), (.move (.tmp 13)), none⟩,
   ⟨(some 45), (.call (.mk (.value (.func 51)) #[(.tmp 44)] #[25])), none⟩,
   ⟨(some 46), (.unOp .not 4 (.tmp 45)), none⟩])
 (.cond (.tmp 46) (.seq (.reg [⟨(some 8), (.assign (.const (.slice none 0 0))), none⟩,
   ⟨(some 9), (.assign (.const (.bool false))), none⟩])
 .ret) .skip))
 (.seq (.reg [⟨(some 47), (.move (.tmp 13)), none⟩,
   ⟨(some 8), (.assign (.tmp 47)), none⟩,
   ⟨(some 9), (.assign (.const (.bool true))), none⟩])
 .ret))))))))
theorem x_impl_SetPrice : Txt Try.prog 42 c_impl_SetPrice [.tmp 8, .tmp 9] 4 := ⟨by kernel_rfl, by kernel_rfl, _, _, Try.func42, rfl, by kernel_rfl, by kernel_rfl, by kernel_rfl, rfl, by decide⟩
/-- loop.example/g01062/spec.l24Good -/
def c_spec_l24Good : Cd :=
 (.seq (.reg [⟨(some 2), (.assign (.const (.bool false))), none⟩])
 (.seq (.seq (.reg [⟨(some 3), (.assign (.const (.int .i64 0))), none⟩])
 (.block 0 (.loop (.seq (.seq (.reg [⟨(some 4), (.move (.tmp 3)), none⟩,
   ⟨(some 5), (.move (.tmp 0)), none⟩,
   ⟨(some 6), (.call (.mk (.builtin .len) #[(.tmp 5)] #[25])), none⟩,
   ⟨(some 7), (.binOp .lss 3 (.tmp 4) (.tmp 6) 3), none⟩])
 (.cond (.tmp 7) .skip (.exit 0)))
 (.seq (.block 1 (.seq (.regq [⟨(some 10), (.move (.tmp 0)), none⟩,
   ⟨(some 11), (.move (.tmp 3)), none⟩,
   ⟨(some 12), (.indexAddr 25 (.tmp 10) (.tmp 11)), none⟩,
   ⟨(some 13), (.load 56 (.tmp 12)), none⟩,
   ⟨(some 14), (.call (.mk (.value (.func 79)) #[(.tmp 13)] #[56])), none⟩,
   ⟨(some 15), (.unOp .not 4 (.tmp 14)), none⟩,
   ⟨(some 16), (.move (.tmp 15)), none⟩,
   ⟨(some 17), (.move (.tmp 3)), (some (16, false))⟩,
   ⟨(some 18), (.binOp .gtr 3 (.tmp 17) (.const (.int .i64 0)) 3), (some (16, false))⟩,
   ⟨(some 19), (.move (.tmp 18)), (some (16, false))⟩,
   ⟨(some 20), (.move (.tmp 0)), (some (19, true))⟩,
   ⟨(some 21), (.move (.tmp 3)), (some (19, true))⟩,
   ⟨(some 22), (.binOp .sub 3 (.tmp 21) (.const (.int .i64 1)) 3), (some (19, true))⟩,
   ⟨(some 23), (.indexAddr 25 (.tmp 20) (.tmp 22)), (some (19, true))⟩,
   ⟨(some 24), (.load 56 (.tmp 23)), (some (19, true))⟩,
   ⟨(some 25), (.move (.tmp 0)), (some (19, true))⟩,
   ⟨(some 26), (.move (.tmp 3)), (some (19, true))⟩,
   ⟨(some 27), (.indexAddr 25 (.tmp 25) (.tmp 26)), (some (19, true))⟩,
   ⟨(some 28), (.fieldAddr 56 (.tmp 27) 0), (some (19, true))⟩,
   ⟨(some 29), (.load 3 (.tmp 28)), (some (19, true))⟩,
   ⟨(some 30), (.move (.tmp 0)), (some (19, true))⟩,
   ⟨(some 31), (.move (.tmp 3)), (some (19, true))⟩,
   ⟨(some 32), (.indexAddr 25 (.tmp 30) (.tmp 31)), (some (19, true))⟩,
   ⟨(some 33), (.fieldAddr 56 (.tmp 32) 1), (some (19, true))⟩,
   ⟨(some 34), (.load 3 (.tmp 33)), (some (19, true))⟩,
   ⟨(some 35), (.call (.mk (.value (.func 69)) #[(.tmp 24), (.tmp 29), (.tmp 34)] #[56, 3, 3])), (some (19, true))⟩,
   ⟨(some 36), (.unOp .not 4 (.tmp 35)), (some (19, true))⟩,
   ⟨(some 37), (.pick (.tmp 19) (.tmp 36) (.const (.bool false))), (some (16, false))⟩,
   ⟨(some 38), (.pick (.tmp 16) (.const (.bool true)) (.tmp 37)), none⟩])
 (.cond (.tmp 38) (.seq (.reg [⟨(some 2), (.assign (.const (.bool false))), none⟩])
 .ret) .skip)))
 (.reg [⟨(some 8), (.move (.tmp 3)), none⟩,
   ⟨(some 9), (.binOp .add 3 (.tmp 8) (.const (.int .i64 1)) 3), none⟩,
   ⟨(some 3), (.assign (.tmp 9)), none⟩]))))))
 (.seq (.reg [⟨(some 39), (.move (.tmp 0)), none⟩,
   ⟨(some 40), (.call (.mk (.builtin .len) #[(.tmp 39)] #[25])), none⟩,
   ⟨(some 41), (.binOp .leq 3 (.tmp 40) (.const (.int .i64 15)) 3), none⟩,
   ⟨(some 2), (.assign (.tmp 41)), none⟩])
 .ret)))
theorem x_spec_l24Good : Txt Try.prog 49 c_spec_l24Good [.tmp 2] 1 := ⟨by kernel_rfl, by kernel_rfl, _, _, Try.func49, rfl, by kernel_rfl, by kernel_rfl, by kernel_rfl, rfl, by decide⟩
/-- loop.example/g01062/laws.toPriceRow -/
def c_laws_toPriceRow : Cd :=
 (.seq (.reg [⟨(some 1), (.box 58 (.tmp 0)), none⟩,
   ⟨(some 2), (.alloc 56), none⟩])
 (.seq (.reg [⟨(some 3), (.alloc 56), none⟩])
 (.seq (.reg [⟨(some 4), (.fieldAddr 58 (.tmp 1) 0), none⟩,
   ⟨(some 5), (.load 3 (.tmp 4)), none⟩,
   ⟨(some 6), (.fieldAddr 56 (.tmp 3) 0), none⟩,
   ⟨none, (.store 3 (.tmp 6) (.tmp 5)), none⟩])
 (.seq (.reg [⟨(some 7), (.fieldAddr 58 (.tmp 1) 1), none⟩,
   ⟨(some 8), (.load 3 (.tmp 7)), none⟩,
   ⟨(some 9), (.fieldAddr 56 (.tmp 3) 1), none⟩,
   ⟨none, (.store 3 (.tmp 9) (.tmp 8)), none⟩])
 (.seq (.reg [⟨(some 10), (.fieldAddr 58 (.tmp 1) 2), none⟩,
   ⟨(some 11), (.load 3 (.tmp 10)), none⟩,
   ⟨(some 12), (.fieldAddr 56 (.tmp 3) 2), none⟩,
   ⟨none, (.store 3 (.tmp 12) (.tmp 11)), none⟩])
 (.seq (.reg [⟨(some 13), (.load 56 (.tmp 3)), none⟩,
   ⟨none, (.store 56 (.tmp 2) (.tmp 13)), none⟩])
 .ret))))))
theorem x_laws_toPriceRow : Txt Try.prog 50 c_laws_toPriceRow [.cell 2 56] 1 := ⟨by kernel_rfl, by kernel_rfl, _, _, Try.func50, rfl, by kernel_rfl, by kernel_rfl, by kernel_rfl, rfl, by decide⟩
/-- loop.example/g01062/impl.arePrices -/
def c_impl_arePrices : Cd :=
 (.seq (.reg [⟨(some 2), (.assign (.const (.bool false))), none⟩])
 (.seq (.seq (.reg [⟨(some 5), (.move (.tmp 0)), none⟩,
   ⟨(some 6), (.call (.mk (.builtin .len) #[(.tmp 5)] #[25])), none⟩,
   ⟨(some 7), (.move (.const (.int .i64 0))), none⟩])
 (.block 0 (.loop (.seq (.reg [⟨(some 8), (.binOp .lss 3 (.tmp 7) (.tmp 6) 3), none⟩])
 (.seq (.cond (.tmp 8) .skip (.exit 0))
 (.seq (.block 1 (.seq (.reg [⟨(some 9), (.move (.tmp 7)), none⟩,
   ⟨(some 10), (.indexAddr 25 (.tmp 5) (.tmp 7)), none⟩,
   ⟨(some 11), (.load 56 (.tmp 10)), none⟩,
   ⟨(some 4), (.alloc 56), none⟩,
   ⟨(some 3), (.assign (.tmp 9)), none⟩,
   ⟨none, (.store 56 (.tmp 4) (.tmp 11)), none⟩])
 (.seq (.regq [⟨(some 12), (.load 56 (.tmp 4)), none⟩,
   ⟨(some 13), (.call (.mk (.value (.func 70)) #[(.tmp 12)] #[56])), none⟩,
   ⟨(some 14), (.unOp .not 4 (.tmp 13)), none⟩,
   ⟨(some 15), (.move (.tmp 14)), none⟩,
   ⟨(some 16), (.move (.tmp 3)), (some (15, false))⟩,
   ⟨(some 17), (.binOp .gtr 3 (.tmp 16) (.const (.int .i64 0)) 3), (some (15, false))⟩,
   ⟨(some 18), (.move (.tmp 17)), (some (15, false))⟩,
   ⟨(some 19), (.move (.tmp 0)), (some (18, true))⟩,
   ⟨(some 20), (.move (.tmp 3)), (some (18, true))⟩,
   ⟨(some 21), (.binOp .sub 3 (.tmp 20) (.const (.int .i64 1)) 3), (some (18, true))⟩,
   ⟨(some 22), (.indexAddr 25 (.tmp 19) (.tmp 21)), (some (18, true))⟩,
   ⟨(some 23), (.load 56 (.tmp 22)), (some (18, true))⟩,
   ⟨(some 24), (.load 56 (.tmp 4)), (some (18, true))⟩,
   ⟨(some 25), (.call (.mk (.value (.func 72)) #[(.tmp 23), (.tmp 24)] #[56, 56])), (some (18, true))⟩,
   ⟨(some 26), (.binOp .geq 3 (.tmp 25) (.const (.int .i64 0)) 3), (some (18, true))⟩,
   ⟨(some 27), (.pick (.tmp 18) (.tmp 26) (.const (.bool false))), (some (15, false))⟩,
   ⟨(some 28), (.pick (.tmp 15) (.const (.bool true)) (.tmp 27)), none⟩])
 (.cond (.tmp 28) (.seq (.reg [⟨(some 2), (.assign (.const (.bool false))), none⟩])
 .ret) .skip))))
 (.reg [⟨(some 29), (.binOp .add 3 (.tmp 7) (.const (.int .i64 1)) 3), none⟩,
   ⟨(some 7), (.move (.tmp 29)), none⟩])))))))
 (.seq (.reg [⟨(some 30), (.move (.tmp 0)), none⟩,
   ⟨(some 31), (.call (.mk (.builtin .len) #[(.tmp 30)] #[25])), none⟩,
   ⟨(some 32), (.binOp .leq 3 (.tmp 31) (.const (.int .i64 15)) 3), none⟩,
   ⟨(some 2), (.assign (.tmp 32)), none⟩])
 .ret)))
theorem x_impl_arePrices : Txt Try.prog 51 c_impl_arePrices [.tmp 2] 1 := ⟨by kernel_rfl, by kernel_rfl, _, _, Try.func51, rfl, by kernel_rfl, by kernel_rfl, by kernel_rfl, rfl, by decide⟩
/-- loop.example/g01062/laws.eqPriceRow -/
def c_laws_eqPriceRow : Cd :=
 (.seq (.reg [⟨(some 2), (.box 56 (.tmp 0)), none⟩,
   ⟨(some 3), (.box 56 (.tmp 1)), none⟩,
   ⟨(some 4), (.assign (.const (.bool false))), none⟩])
 (.seq (.seq (.reg [⟨(some 5), (.fieldAddr 56 (.tmp 2) 0), none⟩,
   ⟨(some 6), (.load 3 (.tmp 5)), none⟩,
   ⟨(some 7), (.fieldAddr 56 (.tmp 3) 0), none⟩,
   ⟨(some 8), (.load 3 (.tmp 7)), none⟩,
   ⟨(some 9), (.binOp .neq 3 (.tmp 6) (.tmp 8) 3), none⟩])
 (.cond (.tmp 9) (.seq (.reg [⟨(some 4), (.assign (.const (.bool false))), none⟩])
 .ret) .skip))
 (.seq (.seq (.reg [⟨(some 10), (.fieldAddr 56 (.tmp 2) 1), none⟩,
   ⟨(some 11), (.load 3 (.tmp 10)), none⟩,
   ⟨(some 12), (.fieldAddr 56 (.tmp 3) 1), none⟩,
   ⟨(some 13), (.load 3 (.tmp 12)), none⟩,
   ⟨(some 14), (.binOp .neq 3 (.tmp 11) (.tmp 13) 3), none⟩])
 (.cond (.tmp 14) (.seq (.reg [⟨(some 4), (.assign (.const (.bool false))), none⟩])
 .ret) .skip))
 (.seq (.seq (.reg [⟨(some 15), (.fieldAddr 56 (.tmp 2) 2), none⟩,
   ⟨(some 16), (.load 3 (.tmp 15)), none⟩,
   ⟨(some 17), (.fieldAddr 56 (.tmp 3) 2), none⟩,
   ⟨(some 18), (.load 3 (.tmp 17)), none⟩,
   ⟨(some 19), (.binOp .neq 3 (.tmp 16) (.tmp 18) 3), none⟩])
 (.cond (.tmp 19) (.seq (.reg [⟨(some 4), (.assign (.const (.bool false))), none⟩])
 .ret) .skip))
 (.seq (.reg [⟨(some 4), (.assign (.const (.bool true))), none⟩])
 .ret)))))
theorem x_laws_eqPriceRow : Txt Try.prog 52 c_laws_eqPriceRow [.tmp 4] 2 := ⟨by kernel_rfl, by kernel_rfl, _, _, Try.func52, rfl, by kernel_rfl, by kernel_rfl, by kernel_rfl, rfl, by decide⟩
/-- loop.example/g01062/spec.l24Item -/
def c_spec_l24Item : Cd :=
 (.seq (.reg [⟨(some 2), (.assign (.const (.bool false))), none⟩])
 (.seq (.reg [⟨(some 3), (.move (.tmp 0)), none⟩,
   ⟨(some 4), (.call (.mk (.value (.func 61)) #[(.tmp 3), (.const (.int .i64 1)), (.const (.int .i64 999))] #[3, 3, 3])), none⟩,
   ⟨(some 2), (.assign (.tmp 4)), none⟩])
 .ret))
theorem x_spec_l24Item : Txt Try.prog 53 c_spec_l24Item [.tmp 2] 1 := ⟨by kernel_rfl, by kernel_rfl, _, _, Try.func53, rfl, by kernel_rfl, by kernel_rfl, by kernel_rfl, rfl, by decide⟩
/-- loop.example/g01062/impl.isItem -/
def c_impl_isItem : Cd :=
 (.seq (.reg [⟨(some 2), (.assign (.const (.bool false))), none⟩])
 (.seq (.reg [⟨(some 3), (.move (.tmp 0)), none⟩,
   ⟨(some 4), (.call (.mk (.value (.func 60)) #[(.tmp 3), (.const (.int .i64 1)), (.const (.int .i64 999))] #[3, 3, 3])), none⟩,
   ⟨(some 2), (.assign (.tmp 4)), none⟩])
 .ret))
theorem x_impl_isItem : Txt Try.prog 54 c_impl_isItem [.tmp 2] 1 := ⟨by kernel_rfl, by kernel_rfl, _, _, Try.func54, rfl, by kernel_rfl, by kernel_rfl, by kernel_rfl, rfl, by decide⟩
/-- loop.example/g01062/spec.l24Year -/
def c_spec_l24Year : Cd :=
 (.seq (.reg [⟨(some 2), (.assign (.const (.bool false))), none⟩])
 (.seq (.reg [⟨(some 3), (.move (.tmp 0)), none⟩,
   ⟨(some 4), (.call (.mk (.value (.func 61)) #[(.tmp 3), (.const (.int .i64 1840)), (.const (.int .i64 2100))] #[3, 3, 3])), none⟩,
   ⟨(some 2), (.assign (.tmp 4)), none⟩])
 .ret))
theorem x_spec_l24Year : Txt Try.prog 55 c_spec_l24Year [.tmp 2] 1 := ⟨by kernel_rfl, by kernel_rfl, _, _, Try.func55, rfl, by kernel_rfl, by kernel_rfl, by kernel_rfl, rfl, by decide⟩
/-- loop.example/g01062/impl.isYear -/
def c_impl_isYear : Cd :=
 (.seq (.reg [⟨(some 2), (.assign (.const (.bool false))), none⟩])
 (.seq (.reg [⟨(some 3), (.move (.tmp 0)), none⟩,
   ⟨(some 4), (.call (.mk (.value (.func 60)) #[(.tmp 3), (.const (.int .i64 1840)), (.const (.int .i64 2100))] #[3, 3, 3])), none⟩,
   ⟨(some 2), (.assign (.tmp 4)), none⟩])
 .ret))
theorem x_impl_isYear : Txt Try.prog 57 c_impl_isYear [.tmp 2] 1 := ⟨by kernel_rfl, by kernel_rfl, _, _, Try.func57, rfl, by kernel_rfl, by kernel_rfl, by kernel_rfl, rfl, by decide⟩
/-- loop.example/g01062/spec.l24Cents -/
def c_spec_l24Cents : Cd :=
 (.seq (.reg [⟨(some 2), (.assign (.const (.bool false))), none⟩])
 (.seq (.reg [⟨(some 3), (.move (.tmp 0)), none⟩,
   ⟨(some 4), (.call (.mk (.value (.func 61)) #[(.tmp 3), (.const (.int .i64 1)), (.const (.int .i64 10000000))] #[3, 3, 3])), none⟩,
   ⟨(some 2), (.assign (.tmp 4)), none⟩])
 .ret))
theorem x_spec_l24Cents : Txt Try.prog 59 c_spec_l24Cents [.tmp 2] 1 := ⟨by kernel_rfl, by kernel_rfl, _, _, Try.func59, rfl, by kernel_rfl, by kernel_rfl, by kernel_rfl, rfl, by decide⟩
/-- loop.example/g01062/impl.inRange -/
def c_impl_inRange : Cd :=
 (.seq (.reg [⟨(some 6), (.assign (.const (.bool false))), none⟩])
 (.seq (.reg [⟨(some 7), (.move (.tmp 0)), none⟩,
   ⟨(some 8), (.move (.tmp 1)), none⟩,
   ⟨(some 9), (.binOp .geq 3 (.tmp 7) (.tmp 8) 3), none⟩,
   ⟨(some 10), (.move (.tmp 9)), none⟩,
   ⟨(some 11), (.move (.tmp 0)), (some (10, true))⟩,
   ⟨(some 12), (.move (.tmp 2)), (some (10, true))⟩,
   ⟨(some 13), (.binOp .leq 3 (.tmp 11) (.tmp 12) 3), (some (10, true))⟩,
   ⟨(some 14), (.pick (.tmp 10) (.tmp 13) (.const (.bool false))), none⟩,
   ⟨(some 6), (.assign (.tmp 14)), none⟩])
 .ret))
theorem x_impl_inRange : Txt Try.prog 60 c_impl_inRange [.tmp 6] 3 := ⟨by kernel_rfl, by kernel_rfl, _, _, Try.func60, rfl, by kernel_rfl, by kernel_rfl, by kernel_rfl, rfl, by decide⟩
/-- loop.example/g01062/spec.l1In -/
def c_spec_l1In : Cd :=
 (.seq (.reg [⟨(some 6), (.assign (.const (.bool false))), none⟩])
 (.seq (.reg [⟨(some 7), (.move (.tmp 0)), none⟩,
   ⟨(some 8), (.move (.tmp 1)), none⟩,
   ⟨(some 9), (.binOp .geq 3 (.tmp 7) (.tmp 8) 3), none⟩,
   ⟨(some 10), (.move (.tmp 9)), none⟩,
   ⟨(some 11), (.move (.tmp 0)), (some (10, true))⟩,
   ⟨(some 12), (.move (.tmp 2)), (some (10, true))⟩,
   ⟨(some 13), (.binOp .leq 3 (.tmp 11) (.tmp 12) 3), (some (10, true))⟩,
   ⟨(some 14), (.pick (.tmp 10) (.tmp 13) (.const (.bool false))), none⟩,
   ⟨(some 6), (.assign (.tmp 14)), none⟩])
 .ret))
theorem x_spec_l1In : Txt Try.prog 61 c_spec_l1In [.tmp 6] 3 := ⟨by kernel_rfl, by kernel_rfl, _, _, Try.func61, rfl, by kernel_rfl, by kernel_rfl, by kernel_rfl, rfl, by decide⟩
/-- slices.Clone[[]loop.example/g01062/impl.PriceRow,loop.example/g01062/impl.PriceRow] -/
def c_slices_Clone_PriceRow : Cd :=
 (.seq (.reg [⟨(some 2), (.assign (.const (.slice none 0 0))), none⟩])
 (.seq (.seq (.reg [⟨(some 3), (.move (.tmp 0)), none⟩,
   ⟨(some 4), (.binOp .eql 25 (.tmp 3) (.const (.slice none 0 0)) 25), none⟩])
 (.cond (.tmp 4) (.seq (.reg [⟨(some 2), (.assign (.const (.slice none 0 0))), none⟩])
 .ret) .skip))
 (.seq (.reg [⟨(some 5), (.buildSlice 25 0 #[]), none⟩,
   ⟨(some 6), (.move (.tmp 0)), none⟩,
   ⟨(some 7), (.call (.mk (.builtin .append) #[(.tmp 5), (.tmp 6)] #[25, 25])), none⟩,
   ⟨(some 2), (.assign (.tmp 7)), none⟩])
 .ret)))
theorem x_slices_Clone_PriceRow : Txt Try.prog 62 c_slices_Clone_PriceRow [.tmp 2] 1 := ⟨by kernel_rfl, by kernel_rfl, _, _, Try.func62, rfl, by kernel_rfl, by kernel_rfl, by kernel_rfl, rfl, by decide⟩
/-- loop.example/g01062/spec.l24Before -/
def c_spec_l24Before : Cd :=
 (.seq (.reg [⟨(some 3), (.box 56 (.tmp 0)), none⟩,
   ⟨(some 6), (.assign (.const (.bool false))), none⟩])
 (.seq (.reg [⟨(some 7), (.fieldAddr 56 (.tmp 3) 0), none⟩,
   ⟨(some 8), (.load 3 (.tmp 7)), none⟩,
   ⟨(some 9), (.move (.tmp 1)), none⟩,
   ⟨(some 10), (.binOp .lss 3 (.tmp 8) (.tmp 9) 3), none⟩,
   ⟨(some 11), (.move (.tmp 10)), none⟩,
   ⟨(some 12), (.fieldAddr 56 (.tmp 3) 0), (some (11, false))⟩,
   ⟨(some 13), (.load 3 (.tmp 12)), (some (11, false))⟩,
   ⟨(some 14), (.move (.tmp 1)), (some (11, false))⟩,
   ⟨(some 15), (.binOp .eql 3 (.tmp 13) (.tmp 14) 3), (some (11, false))⟩,
   ⟨(some 16), (.move (.tmp 15)), (some (11, false))⟩,
   ⟨(some 17), (.fieldAddr 56 (.tmp 3) 1), (some (16, true))⟩,
   ⟨(some 18), (.load 3 (.tmp 17)), (some (16, true))⟩,
   ⟨(some 19), (.move (.tmp 2)), (some (16, true))⟩,
   ⟨(some 20), (.binOp .lss 3 (.tmp 18) (.tmp 19) 3), (some (16, true))⟩,
   ⟨(some 21), (.pick (.tmp 16) (.tmp 20) (.const (.bool false))), (some (11, false))⟩,
   ⟨(some 22), (.pick (.tmp 11) (.const (.bool true)) (.tmp 21)), none⟩,
   ⟨(some 6), (.assign (.tmp 22)), none⟩])
 .ret))
theorem x_spec_l24Before : Txt Try.prog 69 c_spec_l24Before [.tmp 6] 3 := ⟨by kernel_rfl, by kernel_rfl, _, _, Try.func69, rfl, by kernel_rfl, by kernel_rfl, by kernel_rfl, rfl, by decide⟩
/-- loop.example/g01062/impl.isPrice -/
def c_impl_isPrice : Cd :=
 (.seq (.reg [⟨(some 1), (.box 56 (.tmp 0)), none⟩,
   ⟨(some 2), (.assign (.const (.bool false))), none⟩])
 (.seq (.reg [⟨(some 3), (.fieldAddr 56 (.tmp 1) 0), none⟩,
   ⟨(some 4), (.load 3 (.tmp 3)), none⟩,
   ⟨(some 5), (.call (.mk (.value (.func 54)) #[(.tmp 4)] #[3])), none⟩,
   ⟨(some 6), (.move (.tmp 5)), none⟩,
   ⟨(some 7), (.fieldAddr 56 (.tmp 1) 1), (some (6, true))⟩,
   ⟨(some 8), (.load 3 (.tmp 7)), (some (6, true))⟩,
   ⟨(some 9), (.call (.mk (.value (.func 57)) #[(.tmp 8)] #[3])), (some (6, true))⟩,
   ⟨(some 10), (.pick (.tmp 6) (.tmp 9) (.const (.bool false))), none⟩,
   ⟨(some 11), (.move (.tmp 10)), none⟩,
   ⟨(some 12), (.fieldAddr 56 (.tmp 1) 2), (some (11, true))⟩,
   ⟨(some 13), (.load 3 (.tmp 12)), (some (11, true))⟩,
   ⟨(some 14), (.call (.mk (.value (.func 60)) #[(.tmp 13), (.const (.int .i64 1)), (.const (.int .i64 10000000))] #[3, 3, 3])), (some (11, true))⟩,
   ⟨(some 15), (.pick (.tmp 11) (.tmp 14) (.const (.bool false))), none⟩,
   ⟨(some 2), (.assign (.tmp 15)), none⟩])
 .ret))
theorem x_impl_isPrice : Txt Try.prog 70 c_impl_isPrice [.tmp 2] 1 := ⟨by kernel_rfl, by kernel_rfl, _, _, Try.func70, rfl, by kernel_rfl, by kernel_rfl, by kernel_rfl, rfl, by decide⟩
/-- slices.BinarySearchFunc[[]loop.example/g01062/impl.PriceRow,loop.example/g01062/impl.PriceRow,loop.example/g01062/impl.PriceRow] -/
def c_slices_BinarySearchFunc_PriceRow : Cd :=
 (.seq (.reg [⟨(some 4), (.box 56 (.tmp 1)), none⟩,
   ⟨(some 6), (.assign (.const (.int .i64 0))), none⟩,
   ⟨(some 7), (.assign (.const (.bool false))), none⟩])
 (.seq (.reg [⟨(some 12), (.move (.tmp 0)), none⟩,
   ⟨(some 13), (.call (.mk (.builtin .len) #[(.tmp 12)] #[25])), none⟩,
   ⟨(some 8), (.assign (.tmp 13)), none⟩])
 (.seq (.reg [⟨(some 14), (.move (.tmp 8)), none⟩,
   ⟨(some 9), (.assign (.const (.int .i64 0))), none⟩,
   ⟨(some 10), (.assign (.tmp 14)), none⟩])
 (.seq (.block 0 (.loop (.seq (.seq (.reg [⟨(some 15), (.move (.tmp 9)), none⟩,
   ⟨(some 16), (.move (.tmp 10)), none⟩,
   ⟨(some 17), (.binOp .lss 3 (.tmp 15) (.tmp 16) 3), none⟩])
 (.cond (.tmp 17) .skip (.exit 0)))
 (.block 1 (.seq (.reg [⟨(some 18), (.move (.tmp 9)), none⟩,
   ⟨(some 19), (.move (.tmp 10)), none⟩,
   ⟨(some 20), (.binOp .add 3 (.tmp 18) (.tmp 19) 3), none⟩,
   ⟨(some 21), (.convert 3 84 (.tmp 20)), none⟩,
   ⟨(some 22), (.binOp .shr 84 (.tmp 21) (.const (.int .u64 1)) 84), none⟩,
   ⟨(some 23), (.convert 84 3 (.tmp 22)), none⟩,
   ⟨(some 11), (.assign (.tmp 23)), none⟩])
 (.seq (.regq [⟨(some 24), (.move (.tmp 2)), none⟩,
   ⟨(some 25), (.move (.tmp 0)), none⟩,
   ⟨(some 26), (.move (.tmp 11)), none⟩,
   ⟨(some 27), (.indexAddr 25 (.tmp 25) (.tmp 26)), none⟩,
   ⟨(some 28), (.load 56 (.tmp 27)), none⟩,
   ⟨(some 29), (.load 56 (.tmp 4)), none⟩,
   ⟨(some 30), (.call (.mk (.value (.tmp 24)) #[(.tmp 28), (.tmp 29)] #[56, 56])), none⟩,
   ⟨(some 31), (.binOp .lss 3 (.tmp 30) (.const (.int .i64 0)) 3), none⟩])
 (.cond (.tmp 31) (.reg [⟨(some 32), (.move (.tmp 11)), none⟩,
   ⟨(some 33), (.binOp .add 3 (.tmp 32) (.const (.int .i64 1)) 3), none⟩,
   ⟨(some 9), (.assign (.tmp 33)), none⟩]) (.reg [⟨(some 34), (.move (.tmp 11)), none⟩,
   ⟨(some 10), (.assign (.tmp 34)), none⟩]))))))))
 (.seq (.regq [⟨(some 35), (.move (.tmp 9)), none⟩,
   ⟨(some 36), (.move (.tmp 9)), none⟩,
   ⟨(some 37), (.move (.tmp 8)), none⟩,
   ⟨(some 38), (.binOp .lss 3 (.tmp 36) (.tmp 37) 3), none⟩,
   ⟨(some 39), (.move (.tmp 38)), none⟩,
   ⟨(some 40), (.move (.tmp 2)), (some (39, true))⟩,
   ⟨(some 41), (.move (.tmp 0)), (some (39, true))⟩,
   ⟨(some 42), (.move (.tmp 9)), (some (39, true))⟩,
   ⟨(some 43), (.indexAddr 25 (.tmp 41) (.tmp 42)), (some (39, true))⟩,
   ⟨(some 44), (.load 56 (.tmp 43)), (some (39, true))⟩,
   ⟨(some 45), (.load 56 (.tmp 4)), (some (39, true))⟩,
   ⟨(some 46), (.call (.mk (.value (.tmp 40)) #[(.tmp 44), (.tmp 45)] #[56, 56])), (some (39, true))⟩,
   ⟨(some 47), (.binOp .eql 3 (.tmp 46) (.const (.int .i64 0)) 3), (some (39, true))⟩,
   ⟨(some 48), (.pick (.tmp 39) (.tmp 47) (.const (.bool false))), none⟩,
   ⟨(some 6), (.assign (.tmp 35)), none⟩,
   ⟨(some 7), (.assign (.tmp 48)), none⟩])
 .ret)))))
theorem x_slices_BinarySearchFunc_PriceRow : Txt Try.prog 71 c_slices_BinarySearchFunc_PriceRow [.tmp 6, .tmp 7] 3 := ⟨by kernel_rfl, by kernel_rfl, _, _, Try.func71, rfl, by kernel_rfl, by kernel_rfl, by kernel_rfl, rfl, by decide⟩
/-- loop.example/g01062/impl.comparePrices -/
def c_impl_comparePrices : Cd :=
 (.seq (.reg [⟨(some 2), (.box 56 (.tmp 0)), none⟩,
   ⟨(some 3), (.box 56 (.tmp 1)), none⟩,
   ⟨(some 4), (.assign (.const (.int .i64 0))), none⟩])
 (.seq (.regt [⟨(some 5), (.fieldAddr 56 (.tmp 2) 0), none⟩,
   ⟨(some 6), (.load 3 (.tmp 5)), none⟩,
   ⟨(some 7), (.fieldAddr 56 (.tmp 3) 0), none⟩,
   ⟨(some 8), (.load 3 (.tmp 7)), none⟩,
   ⟨(some 10), (.fieldAddr 56 (.tmp 2) 1), none⟩,
   ⟨(some 11), (.load 3 (.tmp 10)), none⟩,
   ⟨(some 12), (.fieldAddr 56 (.tmp 3) 1), none⟩,
   ⟨(some 13), (.load 3 (.tmp 12)), none⟩] (.one true ⟨(some 9), (.call (.mk (.value (.func 85)) #[(.tmp 6), (.tmp 8)] #[3, 3])), none⟩
   (.one false ⟨(some 14), (.call (.mk (.value (.func 85)) #[(.tmp 11), (.tmp 13)] #[3, 3])), none⟩
   (.one false ⟨(some 15), (.buildSlice 40 2 #[(0, (.tmp 9)), (1, (.tmp 14))]), none⟩
   (.one false ⟨(some 16), (.call (.mk (.value (.func 84)) #[(.tmp 15)] #[40])), none⟩
   (.one false ⟨(some 4), (.assign (.tmp 16)), none⟩
   .done))))) [])
 .ret))
theorem x_impl_comparePrices : Txt Try.prog 72 c_impl_comparePrices [.tmp 4] 2 := ⟨by kernel_rfl, by kernel_rfl, _, _, Try.func72, rfl, by kernel_rfl, by kernel_rfl, by kernel_rfl, rfl, by decide⟩
/-- slices.Insert[[]loop.example/g01062/impl.PriceRow,loop.example/g01062/impl.PriceRow] -/
def c_slices_Insert_PriceRow : Cd :=
 (.seq (.reg [⟨(some 6), (.assign (.const (.slice none 0 0))), none⟩])
 (.seq (.reg [⟨(some 10), (.move (.tmp 0)), none⟩,
   ⟨(some 11), (.move (.tmp 1)), none⟩,
   ⟨(some 12), (.slice 25 (.tmp 10) (some (.tmp 11)) none none), none⟩])
 (.seq (.reg [⟨(some 13), (.move (.tmp 2)), none⟩,
   ⟨(some 14), (.call (.mk (.builtin .len) #[(.tmp 13)] #[25])), none⟩,
   ⟨(some 7), (.assign (.tmp 14)), none⟩])
 (.seq (.seq (.reg [⟨(some 15), (.move (.tmp 7)), none⟩,
   ⟨(some 16), (.binOp .eql 3 (.tmp 15) (.const (.int .i64 0)) 3), none⟩])
 (.cond (.tmp 16) (.seq (.reg [⟨(some 17), (.move (.tmp 0)), none⟩,
   ⟨(some 6), (.assign (.tmp 17)), none⟩])
 .ret) .skip))
 (.seq (.reg [⟨(some 18), (.move (.tmp 0)), none⟩,
   ⟨(some 19), (.call (.mk (.builtin .len) #[(.tmp 18)] #[25])), none⟩,
   ⟨(some 8), (.assign (.tmp 19)), none⟩])
 (.seq (.seq (.reg [⟨(some 20), (.move (.tmp 1)), none⟩,
   ⟨(some 21), (.move (.tmp 8)), none⟩,
   ⟨(some 22), (.binOp .eql 3 (.tmp 20) (.tmp 21) 3), none⟩])
 (.cond (.tmp 22) (.seq (.reg [⟨(some 23), (.move (.tmp 0)), none⟩,
   ⟨(some 24), (.move (.tmp 2)), none⟩,
   ⟨(some 25), (.call (.mk (.builtin .append) #[(.tmp 23), (.tmp 24)] #[25, 25])), none⟩,
   ⟨(some 6), (.assign (.tmp 25)), none⟩])
 .ret) .skip))
 (.seq (.seq (.reg [⟨(some 26), (.move (.tmp 8)), none⟩,
   ⟨(some 27), (.move (.tmp 7)), none⟩,
   ⟨(some 28), (.binOp .add 3 (.tmp 26) (.tmp 27) 3), none⟩,
   ⟨(some 29), (.move (.tmp 0)), none⟩,
   ⟨(some 30), (.call (.mk (.builtin .cap) #[(.tmp 29)] #[25])), none⟩,
   ⟨(some 31), (.binOp .gtr 3 (.tmp 28) (.tmp 30) 3), none⟩])
 (.cond (.tmp 31) (.seq (.reg [⟨(some 32), (.move (.tmp 0)), none⟩,
   ⟨(some 33), (.move (.tmp 1)), none⟩,
   ⟨(some 34), (.slice 25 (.tmp 32) none (some (.tmp 33)) none), none⟩,
   ⟨(some 35), (.move (.tmp 8)), none⟩,
   ⟨(some 36), (.move (.tmp 7)), none⟩,
   ⟨(some 37), (.binOp .add 3 (.tmp 35) (.tmp 36) 3), none⟩,
   ⟨(some 38), (.move (.tmp 1)), none⟩,
   ⟨(some 39), (.binOp .sub 3 (.tmp 37) (.tmp 38) 3), none⟩,
   ⟨(some 40), (.call (.mk (.builtin .append) #[(.tmp 34), (.tmp 39)] #[25, 3])), none⟩,
   ⟨(some 9), (.assign (.tmp 40)), none⟩])
 (.seq (.reg [⟨(some 41), (.move (.tmp 9)), none⟩,
   ⟨(some 42), (.move (.tmp 1)), none⟩,
   ⟨(some 43), (.slice 25 (.tmp 41) (some (.tmp 42)) none none), none⟩,
   ⟨(some 44), (.move (.tmp 2)), none⟩,
   ⟨(some 45), (.call (.mk (.builtin .copy) #[(.tmp 43), (.tmp 44)] #[25, 25])), none⟩])
 (.seq (.regt [⟨(some 46), (.move (.tmp 9)), none⟩,
   ⟨(some 47), (.move (.tmp 1)), none⟩,
   ⟨(some 48), (.move (.tmp 7)), none⟩,
   ⟨(some 49), (.binOp .add 3 (.tmp 47) (.tmp 48) 3), none⟩,
   ⟨(some 50), (.slice 25 (.tmp 46) (some (.tmp 49)) none none), none⟩,
   ⟨(some 51), (.move (.tmp 0)), none⟩,
   ⟨(some 52), (.move (.tmp 1)), none⟩,
   ⟨(some 53), (.slice 25 (.tmp 51) (some (.tmp 52)) none none), none⟩] (.one false ⟨(some 54), (.call (.mk (.builtin .copy) #[(.tmp 50), (.tmp 53)] #[25, 25])), none⟩
   .done) [])
 (.seq (.reg [⟨(some 55), (.move (.tmp 9)), none⟩,
   ⟨(some 6), (.assign (.tmp 55)), none⟩])
 .ret)))) .skip))
 (.seq (.reg [⟨(some 56), (.move (.tmp 0)), none⟩,
   ⟨(some 57), (.move (.tmp 8)), none⟩,
   ⟨(some 58), (.move (.tmp 7)), none⟩,
   ⟨(some 59), (.binOp .add 3 (.tmp 57) (.tmp 58) 3), none⟩,
   ⟨(some 60), (.slice 25 (.tmp 56) none (some (.tmp 59)) none), none⟩,
   ⟨(some 0), (.assign (.tmp 60)), none⟩])
 (.seq (.seq (.reg [⟨(some 61), (.move (.tmp 2)), none⟩,
   ⟨(some 62), (.move (.tmp 0)), none⟩,
   ⟨(some 63), (.move (.tmp 1)), none⟩,
   ⟨(some 64), (.move (.tmp 7)), none⟩,
   ⟨(some 65), (.binOp .add 3 (.tmp 63) (.tmp 64) 3), none⟩,
   ⟨(some 66), (.slice 25 (.tmp 62) (some (.tmp 65)) none none), none⟩,
   ⟨(some 67), (.call (.mk (.value (.func 86)) #[(.tmp 61), (.tmp 66)] #[25, 25])), none⟩,
   ⟨(some 68), (.unOp .not 4 (.tmp 67)), none⟩])
 (.cond (.tmp 68) (.seq (.regt [⟨(some 69), (.move (.tmp 0)), none⟩,
   ⟨(some 70), (.move (.tmp 1)), none⟩,
   ⟨(some 71), (.move (.tmp 7)), none⟩,
   ⟨(some 72), (.binOp .add 3 (.tmp 70) (.tmp 71) 3), none⟩,
   ⟨(some 73), (.slice 25 (.tmp 69) (some (.tmp 72)) none none), none⟩,
   ⟨(some 74), (.move (.tmp 0)), none⟩,
   ⟨(some 75), (.move (.tmp 1)), none⟩,
   ⟨(some 76), (.slice 25 (.tmp 74) (some (.tmp 75)) none none), none⟩] (.one false ⟨(some 77), (.call (.mk (.builtin .copy) #[(.tmp 73), (.tmp 76)] #[25, 25])), none⟩
   .done) [])
 (.seq (.reg [⟨(some 78), (.move (.tmp 0)), none⟩,
   ⟨(some 79), (.move (.tmp 1)), none⟩,
   ⟨(some 80), (.slice 25 (.tmp 78) (some (.tmp 79)) none none), none⟩,
   ⟨(some 81), (.move (.tmp 2)), none⟩,
   ⟨(some 82), (.call (.mk (.builtin .copy) #[(.tmp 80), (.tmp 81)] #[25, 25])), none⟩])
 (.seq (.reg [⟨(some 83), (.move (.tmp 0)), none⟩,
   ⟨(some 6), (.assign (.tmp 83)), none⟩])
 .ret))) .skip))
 (.seq (.reg [⟨(some 84), (.move (.tmp 0)), none⟩,
   ⟨(some 85), (.move (.tmp 8)), none⟩,
   ⟨(some 86), (.slice 25 (.tmp 84) (some (.tmp 85)) none none), none⟩,
   ⟨(some 87), (.move (.tmp 2)), none⟩,
   ⟨(some 88), (.call (.mk (.builtin .copy) #[(.tmp 86), (.tmp 87)] #[25, 25])), none⟩])
 (.seq (.reg [⟨(some 89), (.move (.tmp 0)), none⟩,
   ⟨(some 90), (.move (.tmp 1)), none⟩,
   ⟨(some 91), (.slice 25 (.tmp 89) (some (.tmp 90)) none none), none⟩,
   ⟨(some 92), (.move (.tmp 7)), none⟩,
   ⟨(some 93), (.call (.mk (.value (.func 87)) #[(.tmp 91), (.tmp 92)] #[25, 3])), none⟩])
 (.seq (.reg [⟨(some 94), (.move (.tmp 0)), none⟩,
   ⟨(some 6), (.assign (.tmp 94)), none⟩])
 .ret))))))))))))
theorem x_slices_Insert_PriceRow : Txt Try.prog 73 c_slices_Insert_PriceRow [.tmp 6] 3 := ⟨by kernel_rfl, by kernel_rfl, _, _, Try.func73, rfl, by kernel_rfl, by kernel_rfl, by kernel_rfl, rfl, by decide⟩
/-- loop.example/g01062/spec.l24One -/
def c_spec_l24One : Cd :=
 (.seq (.reg [⟨(some 1), (.box 56 (.tmp 0)), none⟩,
   ⟨(some 2), (.assign (.const (.bool false))), none⟩])
 (.seq (.reg [⟨(some 3), (.fieldAddr 56 (.tmp 1) 0), none⟩,
   ⟨(some 4), (.load 3 (.tmp 3)), none⟩,
   ⟨(some 5), (.call (.mk (.value (.func 53)) #[(.tmp 4)] #[3])), none⟩,
   ⟨(some 6), (.move (.tmp 5)), none⟩,
   ⟨(some 7), (.fieldAddr 56 (.tmp 1) 1), (some (6, true))⟩,
   ⟨(some 8), (.load 3 (.tmp 7)), (some (6, true))⟩,
   ⟨(some 9), (.call (.mk (.value (.func 55)) #[(.tmp 8)] #[3])), (some (6, true))⟩,
   ⟨(some 10), (.pick (.tmp 6) (.tmp 9) (.const (.bool false))), none⟩,
   ⟨(some 11), (.move (.tmp 10)), none⟩,
   ⟨(some 12), (.fieldAddr 56 (.tmp 1) 2), (some (11, true))⟩,
   ⟨(some 13), (.load 3 (.tmp 12)), (some (11, true))⟩,
   ⟨(some 14), (.call (.mk (.value (.func 59)) #[(.tmp 13)] #[3])), (some (11, true))⟩,
   ⟨(some 15), (.pick (.tmp 11) (.tmp 14) (.const (.bool false))), none⟩,
   ⟨(some 2), (.assign (.tmp 15)), none⟩])
 .ret))
theorem x_spec_l24One : Txt Try.prog 79 c_spec_l24One [.tmp 2] 1 := ⟨by kernel_rfl, by kernel_rfl, _, _, Try.func79, rfl, by kernel_rfl, by kernel_rfl, by kernel_rfl, rfl, by decide⟩
/-- cmp.Or[int] -/
def c_cmp_Or_int : Cd :=
 (.seq (.reg [⟨(some 2), (.assign (.const (.int .i64 0))), none⟩])
 (.seq (.reg [⟨(some 3), (.assign (.const (.int .i64 0))), none⟩])
 (.seq (.seq (.reg [⟨(some 6), (.move (.tmp 0)), none⟩,
   ⟨(some 7), (.call (.mk (.builtin .len) #[(.tmp 6)] #[40])), none⟩,
   ⟨(some 8), (.move (.const (.int .i64 0))), none⟩])
 (.block 0 (.loop (.seq (.reg [⟨(some 9), (.binOp .lss 3 (.tmp 8) (.tmp 7) 3), none⟩])
 (.seq (.cond (.tmp 9) .skip (.exit 0))
 (.seq (.block 1 (.seq (.reg [⟨(some 10), (.indexAddr 40 (.tmp 6) (.tmp 8)), none⟩,
   ⟨(some 11), (.load 3 (.tmp 10)), none⟩,
   ⟨(some 5), (.assign (.tmp 11)), none⟩])
 (.seq (.reg [⟨(some 12), (.move (.tmp 5)), none⟩,
   ⟨(some 13), (.move (.tmp 3)), none⟩,
   ⟨(some 14), (.binOp .neq 3 (.tmp 12) (.tmp 13) 3), none⟩])
 (.cond (.tmp 14) (.seq (.reg [⟨(some 15), (.move (.tmp 5)), none⟩,
   ⟨(some 2), (.assign (.tmp 15)), none⟩])
 .ret) .skip))))
 (.reg [⟨(some 16), (.binOp .add 3 (.tmp 8) (.const (.int .i64 1)) 3), none⟩,
   ⟨(some 8), (.move (.tmp 16)), none⟩])))))))
 (.seq (.reg [⟨(some 17), (.move (.tmp 3)), none⟩,
   ⟨(some 2), (.assign (.tmp 17)), none⟩])
 .ret))))
theorem x_cmp_Or_int : Txt Try.prog 84 c_cmp_Or_int [.tmp 2] 1 := ⟨by kernel_rfl, by kernel_rfl, _, _, Try.func84, rfl, by kernel_rfl, by kernel_rfl, by kernel_rfl, rfl, by decide⟩
/-- cmp.Compare[int] -/
def c_cmp_Compare_int : Cd :=
 (.seq (.reg [⟨(some 4), (.assign (.const (.int .i64 0))), none⟩])
 (.seq (.reg [⟨(some 7), (.move (.tmp 0)), none⟩,
   ⟨(some 8), (.call (.mk (.value (.func 92)) #[(.tmp 7)] #[3])), none⟩,
   ⟨(some 5), (.assign (.tmp 8)), none⟩])
 (.seq (.reg [⟨(some 9), (.move (.tmp 1)), none⟩,
   ⟨(some 10), (.call (.mk (.value (.func 92)) #[(.tmp 9)] #[3])), none⟩,
   ⟨(some 6), (.assign (.tmp 10)), none⟩])
 (.seq (.seq (.reg [⟨(some 11), (.move (.tmp 5)), none⟩])
 (.cond (.tmp 11) (.seq (.seq (.reg [⟨(some 12), (.move (.tmp 6)), none⟩])
 (.cond (.tmp 12) (.seq (.reg [⟨(some 4), (.assign (.const (.int .i64 0))), none⟩])
 .ret) .skip))
 (.seq (.reg [⟨(some 4), (.assign (.const (.int .i64 (-1)))), none⟩])
 .ret)) .skip))
 (.seq (.seq (.reg [⟨(some 13), (.move (.tmp 6)), none⟩])
 (.cond (.tmp 13) (.seq (.reg [⟨(some 4), (.assign (.const (.int .i64 1))), none⟩])
 .ret) .skip))
 (.seq (.seq (.reg [⟨(some 14), (.move (.tmp 0)), none⟩,
   ⟨(some 15), (.move (.tmp 1)), none⟩,
   ⟨(some 16), (.binOp .lss 3 (.tmp 14) (.tmp 15) 3), none⟩])
 (.cond (.tmp 16) (.seq (.reg [⟨(some 4), (.assign (.const (.int .i64 (-1)))), none⟩])
 .ret) .skip))
 (.seq (.seq (.reg [⟨(some 17), (.move (.tmp 0)), none⟩,
   ⟨(some 18), (.move (.tmp 1)), none⟩,
   ⟨(some 19), (.binOp .gtr 3 (.tmp 17) (.tmp 18) 3), none⟩])
 (.cond (.tmp 19) (.seq (.reg [⟨(some 4), (.assign (.const (.int .i64 1))), none⟩])
 .ret) .skip))
 (.seq (.reg [⟨(some 4), (.assign (.const (.int .i64 0))), none⟩])
 .ret))))))))
theorem x_cmp_Compare_int : Txt Try.prog 85 c_cmp_Compare_int [.tmp 4] 2 := ⟨by kernel_rfl, by kernel_rfl, _, _, Try.func85, rfl, by kernel_rfl, by kernel_rfl, by kernel_rfl, rfl, by decide⟩
/-- cmp.isNaN[int] -/
def c_cmp_isNaN_int : Cd :=
 (.seq (.reg [⟨(some 2), (.assign (.const (.bool false))), none⟩])
 (.seq (.reg [⟨(some 3), (.move (.tmp 0)), none⟩,
   ⟨(some 4), (.move (.tmp 0)), none⟩,
   ⟨(some 5), (.binOp .neq 3 (.tmp 3) (.tmp 4) 3), none⟩,
   ⟨(some 2), (.assign (.tmp 5)), none⟩])
 .ret))
theorem x_cmp_isNaN_int : Txt Try.prog 92 c_cmp_isNaN_int [.tmp 2] 1 := ⟨by kernel_rfl, by kernel_rfl, _, _, Try.func92, rfl, by kernel_rfl, by kernel_rfl, by kernel_rfl, rfl, by decide⟩
theorem qs3 : qSize Try.prog 3 = some 1 := by kernel_rfl
theorem qb3 : qBytes Try.prog 3 = some 8 := by kernel_rfl
theorem qa3 : qAgg Try.prog 3 = some false := by kernel_rfl
theorem qz3 : qZero Try.prog 3 = some (.int .i64 0) := by kernel_rfl
theorem qk3 : qKind Try.prog 3 = some .i64 := by kernel_rfl
theorem qui3 : (Try.prog.underlying 3).isSome = true := by kernel_rfl
theorem qs4 : qSize Try.prog 4 = some 1 := by kernel_rfl
theorem qb4 : qBytes Try.prog 4 = some 1 := by kernel_rfl
theorem qa4 : qAgg Try.prog 4 = some false := by kernel_rfl
theorem qz4 : qZero Try.prog 4 = some (.bool false) := by kernel_rfl
theorem qo4 : qBool Try.prog 4 = true := by kernel_rfl
theorem qs5 : qSize Try.prog 5 = some 1 := by kernel_rfl
theorem qb5 : qBytes Try.prog 5 = some 1 := by kernel_rfl
theorem qa5 : qAgg Try.prog 5 = some false := by kernel_rfl
theorem qz5 : qZero Try.prog 5 = some (.int .u8 0) := by kernel_rfl
theorem qk5 : qKind Try.prog 5 = some .u8 := by kernel_rfl
theorem qui5 : (Try.prog.underlying 5).isSome = true := by kernel_rfl
theorem qs22 : qSize Try.prog 22 = some 1 := by kernel_rfl
theorem qb22 : qBytes Try.prog 22 = some 24 := by kernel_rfl
theorem qa22 : qAgg Try.prog 22 = some false := by kernel_rfl
theorem qz22 : qZero Try.prog 22 = some (.slice none 0 0) := by kernel_rfl
theorem qe22 : qElem Try.prog 22 = some 58 := by kernel_rfl
theorem qs25 : qSize Try.prog 25 = some 1 := by kernel_rfl
theorem qb25 : qBytes Try.prog 25 = some 24 := by kernel_rfl
theorem qa25 : qAgg Try.prog 25 = some false := by kernel_rfl
theorem qz25 : qZero Try.prog 25 = some (.slice none 0 0) := by kernel_rfl
theorem qe25 : qElem Try.prog 25 = some 56 := by kernel_rfl
theorem qs40 : qSize Try.prog 40 = some 1 := by kernel_rfl
theorem qb40 : qBytes Try.prog 40 = some 24 := by kernel_rfl
theorem qa40 : qAgg Try.prog 40 = some false := by kernel_rfl
theorem qz40 : qZero Try.prog 40 = some (.slice none 0 0) := by kernel_rfl
theorem qe40 : qElem Try.prog 40 = some 3 := by kernel_rfl
theorem qs49 : qSize Try.prog 49 = some 1 := by kernel_rfl
theorem qb49 : qBytes Try.prog 49 = some 24 := by kernel_rfl
theorem qa49 : qAgg Try.prog 49 = some false := by kernel_rfl
theorem qz49 : qZero Try.prog 49 = some (.slice none 0 0) := by kernel_rfl
theorem qe49 : qElem Try.prog 49 = some 5 := by kernel_rfl
theorem qs56 : qSize Try.prog 56 = some 3 := by kernel_rfl
theorem qb56 : qBytes Try.prog 56 = some 24 := by kernel_rfl
theorem qa56 : qAgg Try.prog 56 = some true := by kernel_rfl
theorem qz56 : qZero Try.prog 56 = some (.agg #[.int .i64 0, .int .i64 0, .int .i64 0]) := by kernel_rfl
theorem qg56 : qFields Try.prog 56 = some [(0, 1), (1, 1), (2, 1)] := by kernel_rfl
theorem qf56_0 : qField Try.prog 56 0 = some (0, 3) := by kernel_rfl
theorem qf56_1 : qField Try.prog 56 1 = some (1, 3) := by kernel_rfl
theorem qf56_2 : qField Try.prog 56 2 = some (2, 3) := by kernel_rfl
theorem qs58 : qSize Try.prog 58 = some 3 := by kernel_rfl
theorem qb58 : qBytes Try.prog 58 = some 24 := by kernel_rfl
theorem qa58 : qAgg Try.prog 58 = some true := by kernel_rfl
theorem qz58 : qZero Try.prog 58 = some (.agg #[.int .i64 0, .int .i64 0, .int .i64 0]) := by kernel_rfl
theorem qg58 : qFields Try.prog 58 = some [(0, 1), (1, 1), (2, 1)] := by kernel_rfl
theorem qf58_0 : qField Try.prog 58 0 = some (0, 3) := by kernel_rfl
theorem qf58_1 : qField Try.prog 58 1 = some (1, 3) := by kernel_rfl
theorem qf58_2 : qField Try.prog 58 2 = some (2, 3) := by kernel_rfl
theorem qs74 : qSize Try.prog 74 = some 1 := by kernel_rfl
theorem qb74 : qBytes Try.prog 74 = some 8 := by kernel_rfl
theorem qa74 : qAgg Try.prog 74 = some false := by kernel_rfl
theorem qz74 : qZero Try.prog 74 = some (.pointer none) := by kernel_rfl
theorem qs75 : qSize Try.prog 75 = some 1 := by kernel_rfl
theorem qb75 : qBytes Try.prog 75 = some 8 := by kernel_rfl
theorem qa75 : qAgg Try.prog 75 = some false := by kernel_rfl
theorem qz75 : qZero Try.prog 75 = some (.int .u64 0) := by kernel_rfl
theorem qk75 : qKind Try.prog 75 = some .u64 := by kernel_rfl
theorem qui75 : (Try.prog.underlying 75).isSome = true := by kernel_rfl
theorem qs77 : qSize Try.prog 77 = some 3 := by kernel_rfl
theorem qb77 : qBytes Try.prog 77 = some 40 := by kernel_rfl
theorem qa77 : qAgg Try.prog 77 = some true := by kernel_rfl
theorem qz77 : qZero Try.prog 77 = some (.agg #[.slice none 0 0, .int .i64 0, .int .u64 0]) := by kernel_rfl
theorem qg77 : qFields Try.prog 77 = some [(0, 1), (1, 1), (2, 1)] := by kernel_rfl
theorem qf77_0 : qField Try.prog 77 0 = some (0, 49) := by kernel_rfl
theorem qf77_1 : qField Try.prog 77 1 = some (1, 3) := by kernel_rfl
theorem qf77_2 : qField Try.prog 77 2 = some (2, 75) := by kernel_rfl
theorem qs84 : qSize Try.prog 84 = some 1 := by kernel_rfl
theorem qb84 : qBytes Try.prog 84 = some 8 := by kernel_rfl
theorem qa84 : qAgg Try.prog 84 = some false := by kernel_rfl
theorem qz84 : qZero Try.prog 84 = some (.int .u64 0) := by kernel_rfl
theorem qk84 : qKind Try.prog 84 = some .u64 := by kernel_rfl
theorem qui84 : (Try.prog.underlying 84).isSome = true := by kernel_rfl
set_option linter.defProp false
/-- The facts, in one name. -/
def fcT := And.intro @qs3 <| And.intro @qb3 <| And.intro @qa3 <| And.intro @qz3 <| And.intro @qk3 <| And.intro @qui3 <| And.intro @qs4 <| And.intro @qb4 <| And.intro @qa4 <| And.intro @qz4 <| And.intro @qo4 <| And.intro @qs5 <| And.intro @qb5 <| And.intro @qa5 <| And.intro @qz5 <| And.intro @qk5 <| And.intro @qui5 <| And.intro @qs22 <| And.intro @qb22 <| And.intro @qa22 <| And.intro @qz22 <| And.intro @qe22 <| And.intro @qs25 <| And.intro @qb25 <| And.intro @qa25 <| And.intro @qz25 <| And.intro @qe25 <| And.intro @qs40 <| And.intro @qb40 <| And.intro @qa40 <| And.intro @qz40 <| And.intro @qe40 <| And.intro @qs49 <| And.intro @qb49 <| And.intro @qa49 <| And.intro @qz49 <| And.intro @qe49 <| And.intro @qs56 <| And.intro @qb56 <| And.intro @qa56 <| And.intro @qz56 <| And.intro @qg56 <| And.intro @qf56_0 <| And.intro @qf56_1 <| And.intro @qf56_2 <| And.intro @qs58 <| And.intro @qb58 <| And.intro @qa58 <| And.intro @qz58 <| And.intro @qg58 <| And.intro @qf58_0 <| And.intro @qf58_1 <| And.intro @qf58_2 <| And.intro @qs74 <| And.intro @qb74 <| And.intro @qa74 <| And.intro @qz74 <| And.intro @qs75 <| And.intro @qb75 <| And.intro @qa75 <| And.intro @qz75 <| And.intro @qk75 <| And.intro @qui75 <| And.intro @qs77 <| And.intro @qb77 <| And.intro @qa77 <| And.intro @qz77 <| And.intro @qg77 <| And.intro @qf77_0 <| And.intro @qf77_1 <| And.intro @qf77_2 <| And.intro @qs84 <| And.intro @qb84 <| And.intro @qa84 <| And.intro @qz84 <| And.intro @qk84 <| And.intro @qui84 <| True.intro
end Go.Proofs.Ytgjkjibllgpnjaa
