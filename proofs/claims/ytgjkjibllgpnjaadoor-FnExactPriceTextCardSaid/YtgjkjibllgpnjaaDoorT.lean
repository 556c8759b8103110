/- The texts of the functions, edges struck, and closed facts on functions and types: written by program (gen.py). -/
import Derived.Test.YtgjkjibllgpnjaaDoorW
import Derived.Test.YtgjkjibllgpnjaaDoorProg
namespace Go.Proofs.YtgjkjibllgpnjaaDoor
open Go Go.RowKit Go.Proofs
/-- loop.example/g01062/laws.FnExactPriceText -/
def c_laws_FnExactPriceText : Cd :=
 (.seq (.reg [⟨(some 1), (.box 23 (.tmp 0)), none⟩,
   ⟨(some 2), (.assign (.const (.bool false))), none⟩])
 (.seq (.reg [⟨(some 8), (.load 23 (.tmp 1)), none⟩,
   ⟨(some 9), (.call (.mk (.value (.func 5)) #[(.tmp 8)] #[23])), none⟩,
   ⟨(some 10), (.call (.mk (.value (.func 4)) #[(.tmp 9)] #[26])), none⟩,
   ⟨(some 7), (.move (.tmp 10)), none⟩,
   ⟨(some 11), (.extract (.tmp 7) 0), none⟩,
   ⟨(some 12), (.extract (.tmp 7) 1), none⟩,
   ⟨(some 3), (.assign (.tmp 11)), none⟩,
   ⟨(some 4), (.assign (.tmp 12)), none⟩])
 (.seq (.reg [⟨(some 14), (.load 23 (.tmp 1)), none⟩,
   ⟨(some 15), (.call (.mk (.value (.func 5)) #[(.tmp 14)] #[23])), none⟩,
   ⟨(some 16), (.call (.mk (.value (.func 6)) #[(.tmp 15)] #[26])), none⟩,
   ⟨(some 13), (.move (.tmp 16)), none⟩,
   ⟨(some 17), (.extract (.tmp 13) 0), none⟩,
   ⟨(some 18), (.extract (.tmp 13) 1), none⟩,
   ⟨(some 5), (.assign (.tmp 17)), none⟩,
   ⟨(some 6), (.assign (.tmp 18)), none⟩])
 (.seq (.seq (.reg [⟨(some 19), (.move (.tmp 5)), none⟩,
   ⟨(some 20), (.move (.tmp 3)), none⟩,
   ⟨(some 21), (.binOp .neq 9 (.tmp 19) (.tmp 20) 9), none⟩,
   ⟨(some 22), (.move (.tmp 21)), none⟩,
   ⟨(some 23), (.move (.tmp 6)), (some (22, false))⟩,
   ⟨(some 24), (.move (.tmp 4)), (some (22, false))⟩,
   ⟨(some 25), (.binOp .neq 4 (.tmp 23) (.tmp 24) 4), (some (22, false))⟩,
   ⟨(some 26), (.pick (.tmp 22) (.const (.bool true)) (.tmp 25)), none⟩])
 (.cond (.tmp 26) (.seq (.reg [⟨(some 2), (.assign (.const (.bool false))), none⟩])
 .ret) .skip))
 (.seq (.reg [⟨(some 2), (.assign (.const (.bool true))), none⟩])
 .ret)))))
theorem x_laws_FnExactPriceText : Txt Tryd.prog 3 c_laws_FnExactPriceText [.tmp 2] 1 := ⟨by kernel_rfl, by kernel_rfl, _, _, Tryd.func3, rfl, by kernel_rfl, by kernel_rfl, by kernel_rfl, rfl, by decide⟩
/-- loop.example/g01062/spec.PriceText -/
def c_spec_PriceText : Cd :=
 (.seq (.reg [⟨(some 1), (.box 26 (.tmp 0)), none⟩,
   ⟨(some 2), (.assign (.const (.string (ByteArray.mk #[])))), none⟩,
   ⟨(some 3), (.assign (.const (.bool false))), none⟩])
 (.seq (.seq (.reg [⟨(some 4), (.load 26 (.tmp 1)), none⟩,
   ⟨(some 5), (.call (.mk (.value (.func 7)) #[(.tmp 4)] #[26])), none⟩,
   ⟨(some 6), (.unOp .not 4 (.tmp 5)), none⟩])
 (.cond (.tmp 6) (.seq (.reg [⟨(some 2), (.assign (.const (.string (ByteArray.mk #[])))), none⟩,
   ⟨(some 3), (.assign (.const (.bool false))), none⟩])
 .ret) .skip))
 (.seq (.regq [⟨(some 7), (.fieldAddr 26 (.tmp 1) 0), none⟩,
   ⟨(some 8), (.load 3 (.tmp 7)), none⟩,
   ⟨(some 9), (.call (.mk (.value (.func 8)) #[(.tmp 8)] #[3])), none⟩,
   ⟨(some 10), (.binOp .add 9 (.const (.string (ByteArray.mk #[105]))) (.tmp 9) 9), none⟩,
   ⟨(some 11), (.binOp .add 9 (.tmp 10) (.const (.string (ByteArray.mk #[32]))) 9), none⟩,
   ⟨(some 12), (.fieldAddr 26 (.tmp 1) 1), none⟩,
   ⟨(some 13), (.load 3 (.tmp 12)), none⟩,
   ⟨(some 14), (.call (.mk (.value (.func 8)) #[(.tmp 13)] #[3])), none⟩,
   ⟨(some 15), (.binOp .add 9 (.tmp 11) (.tmp 14) 9), none⟩,
   ⟨(some 16), (.binOp .add 9 (.tmp 15) (.const (.string (ByteArray.mk #[58, 32]))) 9), none⟩,
   ⟨(some 17), (.fieldAddr 26 (.tmp 1) 2), none⟩,
   ⟨(some 18), (.load 3 (.tmp 17)), none⟩,
   ⟨(some 19), (.binOp .quo 3 (.tmp 18) (.const (.int .i64 100)) 3), none⟩,
   ⟨(some 20), (.call (.mk (.value (.func 8)) #[(.tmp 19)] #[3])), none⟩,
   ⟨(some 21), (.binOp .add 9 (.tmp 16) (.tmp 20) 9), none⟩,
   ⟨(some 22), (.binOp .add 9 (.tmp 21) (.const (.string (ByteArray.mk #[46]))) 9), none⟩,
   ⟨(some 23), (.fieldAddr 26 (.tmp 1) 2), none⟩,
   ⟨(some 24), (.load 3 (.tmp 23)), none⟩,
   ⟨(some 25), (.binOp .quo 3 (.tmp 24) (.const (.int .i64 10)) 3), none⟩,
   ⟨(some 26), (.binOp .rem 3 (.tmp 25) (.const (.int .i64 10)) 3), none⟩,
   ⟨(some 27), (.call (.mk (.value (.func 8)) #[(.tmp 26)] #[3])), none⟩,
   ⟨(some 28), (.binOp .add 9 (.tmp 22) (.tmp 27) 9), none⟩,
   ⟨(some 29), (.fieldAddr 26 (.tmp 1) 2), none⟩,
   ⟨(some 30), (.load 3 (.tmp 29)), none⟩,
   ⟨(some 31), (.binOp .rem 3 (.tmp 30) (.const (.int .i64 10)) 3), none⟩,
   ⟨(some 32), (.call (.mk (.value (.func 8)) #[(.tmp 31)] #[3])), none⟩,
   ⟨(some 33), (.binOp .add 9 (.tmp 28) (.tmp 32) 9), none⟩,
   ⟨(some 2), (.assign (.tmp 33)), none⟩,
   ⟨(some 3), (.assign (.const (.bool true))), none⟩])
 .ret)))
theorem x_spec_PriceText : Txt Tryd.prog 4 c_spec_PriceText [.tmp 2, .tmp 3] 1 := ⟨by kernel_rfl, by kernel_rfl, _, _, Tryd.func4, rfl, by kernel_rfl, by kernel_rfl, by kernel_rfl, rfl, by decide⟩
/-- loop.example/g01062/laws.toPriceRow -/
def c_laws_toPriceRow : Cd :=
 (.seq (.reg [⟨(some 1), (.box 23 (.tmp 0)), none⟩,
   ⟨(some 2), (.alloc 26), none⟩])
 (.seq (.reg [⟨(some 3), (.alloc 26), none⟩])
 (.seq (.reg [⟨(some 4), (.fieldAddr 23 (.tmp 1) 0), none⟩,
   ⟨(some 5), (.load 3 (.tmp 4)), none⟩,
   ⟨(some 6), (.fieldAddr 26 (.tmp 3) 0), none⟩,
   ⟨none, (.store 3 (.tmp 6) (.tmp 5)), none⟩])
 (.seq (.reg [⟨(some 7), (.fieldAddr 23 (.tmp 1) 1), none⟩,
   ⟨(some 8), (.load 3 (.tmp 7)), none⟩,
   ⟨(some 9), (.fieldAddr 26 (.tmp 3) 1), none⟩,
   ⟨none, (.store 3 (.tmp 9) (.tmp 8)), none⟩])
 (.seq (.reg [⟨(some 10), (.fieldAddr 23 (.tmp 1) 2), none⟩,
   ⟨(some 11), (.load 3 (.tmp 10)), none⟩,
   ⟨(some 12), (.fieldAddr 26 (.tmp 3) 2), none⟩,
   ⟨none, (.store 3 (.tmp 12) (.tmp 11)), none⟩])
 (.seq (.reg [⟨(some 13), (.load 26 (.tmp 3)), none⟩,
   ⟨none, (.store 26 (.tmp 2) (.tmp 13)), none⟩])
 .ret))))))
theorem x_laws_toPriceRow : Txt Tryd.prog 5 c_laws_toPriceRow [.cell 2 26] 1 := ⟨by kernel_rfl, by kernel_rfl, _, _, Tryd.func5, rfl, by kernel_rfl, by kernel_rfl, by kernel_rfl, rfl, by decide⟩
/-- loop.example/g01062/impl.PriceText -/
def c_impl_PriceText : Cd :=
 (.seq (.reg [⟨(some 1), (.box 26 (.tmp 0)), none⟩,
   ⟨(some 2), (.assign (.const (.string (ByteArray.mk #[])))), none⟩,
   ⟨(some 3), (.assign (.const (.bool false))), none⟩])
 (.seq (.seq (.reg [⟨(some 4), (.load 26 (.tmp 1)), none⟩,
   ⟨(some 5), (.call (.mk (.value (.func 9)) #[(.tmp 4)] #[26])), none⟩,
   ⟨(some 6), (.unOp .not 4 (.tmp 5)), none⟩])
 (.cond (.tmp 6) (.seq (.reg [⟨(some 2), (.assign (.const (.string (ByteArray.mk #[])))), none⟩,
   ⟨(some 3), (.assign (.const (.bool false))), none⟩])
 .ret) .skip))
 (.seq (.regq [⟨(some 7), (.fieldAddr 26 (.tmp 1) 0), none⟩,
   ⟨(some 8), (.load 3 (.tmp 7)), none⟩,
   ⟨(some 9), (.call (.mk (.value (.func 10)) #[(.tmp 8)] #[3])), none⟩,
   ⟨(some 10), (.binOp .add 9 (.const (.string (ByteArray.mk #[105]))) (.tmp 9) 9), none⟩,
   ⟨(some 11), (.binOp .add 9 (.tmp 10) (.const (.string (ByteArray.mk #[32]))) 9), none⟩,
   ⟨(some 12), (.fieldAddr 26 (.tmp 1) 1), none⟩,
   ⟨(some 13), (.load 3 (.tmp 12)), none⟩,
   ⟨(some 14), (.call (.mk (.value (.func 10)) #[(.tmp 13)] #[3])), none⟩,
   ⟨(some 15), (.binOp .add 9 (.tmp 11) (.tmp 14) 9), none⟩,
   ⟨(some 16), (.binOp .add 9 (.tmp 15) (.const (.string (ByteArray.mk #[58, 32]))) 9), none⟩,
   ⟨(some 17), (.fieldAddr 26 (.tmp 1) 2), none⟩,
   ⟨(some 18), (.load 3 (.tmp 17)), none⟩,
   ⟨(some 19), (.call (.mk (.value (.func 11)) #[(.tmp 18)] #[3])), none⟩,
   ⟨(some 20), (.binOp .add 9 (.tmp 16) (.tmp 19) 9), none⟩,
   ⟨(some 2), (.assign (.tmp 20)), none⟩,
   ⟨(some 3), (.assign (.const (.bool true))), none⟩])
 .ret)))
theorem x_impl_PriceText : Txt Tryd.prog 6 c_impl_PriceText [.tmp 2, .tmp 3] 1 := ⟨by kernel_rfl, by kernel_rfl, _, _, Tryd.func6, rfl, by kernel_rfl, by kernel_rfl, by kernel_rfl, rfl, by decide⟩
/-- loop.example/g01062/spec.l24One -/
def c_spec_l24One : Cd :=
 (.seq (.reg [⟨(some 1), (.box 26 (.tmp 0)), none⟩,
   ⟨(some 2), (.assign (.const (.bool false))), none⟩])
 (.seq (.reg [⟨(some 3), (.fieldAddr 26 (.tmp 1) 0), none⟩,
   ⟨(some 4), (.load 3 (.tmp 3)), none⟩,
   ⟨(some 5), (.call (.mk (.value (.func 12)) #[(.tmp 4)] #[3])), none⟩,
   ⟨(some 6), (.move (.tmp 5)), none⟩,
   ⟨(some 7), (.fieldAddr 26 (.tmp 1) 1), (some (6, true))⟩,
   ⟨(some 8), (.load 3 (.tmp 7)), (some (6, true))⟩,
   ⟨(some 9), (.call (.mk (.value (.func 13)) #[(.tmp 8)] #[3])), (some (6, true))⟩,
   ⟨(some 10), (.pick (.tmp 6) (.tmp 9) (.const (.bool false))), none⟩,
   ⟨(some 11), (.move (.tmp 10)), none⟩,
   ⟨(some 12), (.fieldAddr 26 (.tmp 1) 2), (some (11, true))⟩,
   ⟨(some 13), (.load 3 (.tmp 12)), (some (11, true))⟩,
   ⟨(some 14), (.call (.mk (.value (.func 14)) #[(.tmp 13)] #[3])), (some (11, true))⟩,
   ⟨(some 15), (.pick (.tmp 11) (.tmp 14) (.const (.bool false))), none⟩,
   ⟨(some 2), (.assign (.tmp 15)), none⟩])
 .ret))
theorem x_spec_l24One : Txt Tryd.prog 7 c_spec_l24One [.tmp 2] 1 := ⟨by kernel_rfl, by kernel_rfl, _, _, Tryd.func7, rfl, by kernel_rfl, by kernel_rfl, by kernel_rfl, rfl, by decide⟩
/-- loop.example/g01062/spec.l1Num -/
def c_spec_l1Num : Cd :=
 (.seq (.reg [⟨(some 2), (.assign (.const (.string (ByteArray.mk #[])))), none⟩])
 (.seq (.seq (.reg [⟨(some 3), (.move (.tmp 0)), none⟩,
   ⟨(some 4), (.binOp .lss 3 (.tmp 3) (.const (.int .i64 0)) 3), none⟩])
 (.cond (.tmp 4) (.seq (.reg [⟨(some 5), (.move (.tmp 0)), none⟩,
   ⟨(some 6), (.unOp .neg 3 (.tmp 5)), none⟩,
   ⟨(some 7), (.call (.mk (.value (.func 8)) #[(.tmp 6)] #[3])), none⟩,
   ⟨(some 8), (.binOp .add 9 (.const (.string (ByteArray.mk #[45]))) (.tmp 7) 9), none⟩,
   ⟨(some 2), (.assign (.tmp 8)), none⟩])
 .ret) .skip))
 (.seq (.seq (.reg [⟨(some 9), (.move (.tmp 0)), none⟩,
   ⟨(some 10), (.binOp .lss 3 (.tmp 9) (.const (.int .i64 10)) 3), none⟩])
 (.cond (.tmp 10) (.seq (.reg [⟨(some 11), (.move (.tmp 0)), none⟩,
   ⟨(some 12), (.move (.tmp 0)), none⟩,
   ⟨(some 13), (.binOp .add 3 (.tmp 12) (.const (.int .i64 1)) 3), none⟩,
   ⟨(some 14), (.slice 9 (.const (.string (ByteArray.mk #[48, 49, 50, 51, 52, 53, 54, 55, 56, 57]))) (some (.tmp 11)) (some (.tmp 13)) none), none⟩,
   ⟨(some 2), (.assign (.tmp 14)), none⟩])
 .ret) .skip))
 (.seq (.regq [⟨(some 15), (.move (.tmp 0)), none⟩,
   ⟨(some 16), (.binOp .quo 3 (.tmp 15) (.const (.int .i64 10)) 3), none⟩,
   ⟨(some 17), (.call (.mk (.value (.func 8)) #[(.tmp 16)] #[3])), none⟩,
   ⟨(some 18), (.move (.tmp 0)), none⟩,
   ⟨(some 19), (.binOp .rem 3 (.tmp 18) (.const (.int .i64 10)) 3), none⟩,
   ⟨(some 20), (.move (.tmp 0)), none⟩,
   ⟨(some 21), (.binOp .rem 3 (.tmp 20) (.const (.int .i64 10)) 3), none⟩,
   ⟨(some 22), (.binOp .add 3 (.tmp 21) (.const (.int .i64 1)) 3), none⟩,
   ⟨(some 23), (.slice 9 (.const (.string (ByteArray.mk #[48, 49, 50, 51, 52, 53, 54, 55, 56, 57]))) (some (.tmp 19)) (some (.tmp 22)) none), none⟩,
   ⟨(some 24), (.binOp .add 9 (.tmp 17) (.tmp 23) 9), none⟩,
   ⟨(some 2), (.assign (.tmp 24)), none⟩])
 .ret))))
theorem x_spec_l1Num : Txt Tryd.prog 8 c_spec_l1Num [.tmp 2] 1 := ⟨by kernel_rfl, by kernel_rfl, _, _, Tryd.func8, rfl, by kernel_rfl, by kernel_rfl, by kernel_rfl, rfl, by decide⟩
/-- loop.example/g01062/impl.isPrice -/
def c_impl_isPrice : Cd :=
 (.seq (.reg [⟨(some 1), (.box 26 (.tmp 0)), none⟩,
   ⟨(some 2), (.assign (.const (.bool false))), none⟩])
 (.seq (.reg [⟨(some 3), (.fieldAddr 26 (.tmp 1) 0), none⟩,
   ⟨(some 4), (.load 3 (.tmp 3)), none⟩,
   ⟨(some 5), (.call (.mk (.value (.func 15)) #[(.tmp 4)] #[3])), none⟩,
   ⟨(some 6), (.move (.tmp 5)), none⟩,
   ⟨(some 7), (.fieldAddr 26 (.tmp 1) 1), (some (6, true))⟩,
   ⟨(some 8), (.load 3 (.tmp 7)), (some (6, true))⟩,
   ⟨(some 9), (.call (.mk (.value (.func 16)) #[(.tmp 8)] #[3])), (some (6, true))⟩,
   ⟨(some 10), (.pick (.tmp 6) (.tmp 9) (.const (.bool false))), none⟩,
   ⟨(some 11), (.move (.tmp 10)), none⟩,
   ⟨(some 12), (.fieldAddr 26 (.tmp 1) 2), (some (11, true))⟩,
   ⟨(some 13), (.load 3 (.tmp 12)), (some (11, true))⟩,
   ⟨(some 14), (.call (.mk (.value (.func 17)) #[(.tmp 13), (.const (.int .i64 1)), (.const (.int .i64 10000000))] #[3, 3, 3])), (some (11, true))⟩,
   ⟨(some 15), (.pick (.tmp 11) (.tmp 14) (.const (.bool false))), none⟩,
   ⟨(some 2), (.assign (.tmp 15)), none⟩])
 .ret))
theorem x_impl_isPrice : Txt Tryd.prog 9 c_impl_isPrice [.tmp 2] 1 := ⟨by kernel_rfl, by kernel_rfl, _, _, Tryd.func9, rfl, by kernel_rfl, by kernel_rfl, by kernel_rfl, rfl, by decide⟩
/-- loop.example/g01062/impl.hundredths -/
def c_impl_hundredths : Cd :=
 (.seq (.reg [⟨(some 2), (.assign (.const (.string (ByteArray.mk #[])))), none⟩])
 (.seq (.reg [⟨(some 4), (.move (.tmp 0)), none⟩,
   ⟨(some 5), (.binOp .quo 3 (.tmp 4) (.const (.int .i64 100)) 3), none⟩,
   ⟨(some 6), (.call (.mk (.value (.func 10)) #[(.tmp 5)] #[3])), none⟩,
   ⟨(some 3), (.assign (.tmp 6)), none⟩])
 (.seq (.seq (.reg [⟨(some 7), (.move (.tmp 0)), none⟩,
   ⟨(some 8), (.binOp .rem 3 (.tmp 7) (.const (.int .i64 100)) 3), none⟩,
   ⟨(some 9), (.binOp .lss 3 (.tmp 8) (.const (.int .i64 10)) 3), none⟩])
 (.cond (.tmp 9) (.seq (.reg [⟨(some 10), (.move (.tmp 3)), none⟩,
   ⟨(some 11), (.binOp .add 9 (.tmp 10) (.const (.string (ByteArray.mk #[46, 48]))) 9), none⟩,
   ⟨(some 12), (.move (.tmp 0)), none⟩,
   ⟨(some 13), (.binOp .rem 3 (.tmp 12) (.const (.int .i64 100)) 3), none⟩,
   ⟨(some 14), (.call (.mk (.value (.func 10)) #[(.tmp 13)] #[3])), none⟩,
   ⟨(some 15), (.binOp .add 9 (.tmp 11) (.tmp 14) 9), none⟩,
   ⟨(some 2), (.assign (.tmp 15)), none⟩])
 .ret) .skip))
 (.seq (.reg [⟨(some 16), (.move (.tmp 3)), none⟩,
   ⟨(some 17), (.binOp .add 9 (.tmp 16) (.const (.string (ByteArray.mk #[46]))) 9), none⟩,
   ⟨(some 18), (.move (.tmp 0)), none⟩,
   ⟨(some 19), (.binOp .rem 3 (.tmp 18) (.const (.int .i64 100)) 3), none⟩,
   ⟨(some 20), (.call (.mk (.value (.func 10)) #[(.tmp 19)] #[3])), none⟩,
   ⟨(some 21), (.binOp .add 9 (.tmp 17) (.tmp 20) 9), none⟩,
   ⟨(some 2), (.assign (.tmp 21)), none⟩])
 .ret))))
theorem x_impl_hundredths : Txt Tryd.prog 11 c_impl_hundredths [.tmp 2] 1 := ⟨by kernel_rfl, by kernel_rfl, _, _, Tryd.func11, rfl, by kernel_rfl, by kernel_rfl, by kernel_rfl, rfl, by decide⟩
/-- loop.example/g01062/spec.l24Item -/
def c_spec_l24Item : Cd :=
 (.seq (.reg [⟨(some 2), (.assign (.const (.bool false))), none⟩])
 (.seq (.reg [⟨(some 3), (.move (.tmp 0)), none⟩,
   ⟨(some 4), (.call (.mk (.value (.func 19)) #[(.tmp 3), (.const (.int .i64 1)), (.const (.int .i64 999))] #[3, 3, 3])), none⟩,
   ⟨(some 2), (.assign (.tmp 4)), none⟩])
 .ret))
theorem x_spec_l24Item : Txt Tryd.prog 12 c_spec_l24Item [.tmp 2] 1 := ⟨by kernel_rfl, by kernel_rfl, _, _, Tryd.func12, rfl, by kernel_rfl, by kernel_rfl, by kernel_rfl, rfl, by decide⟩
/-- loop.example/g01062/spec.l24Year -/
def c_spec_l24Year : Cd :=
 (.seq (.reg [⟨(some 2), (.assign (.const (.bool false))), none⟩])
 (.seq (.reg [⟨(some 3), (.move (.tmp 0)), none⟩,
   ⟨(some 4), (.call (.mk (.value (.func 19)) #[(.tmp 3), (.const (.int .i64 1840)), (.const (.int .i64 2100))] #[3, 3, 3])), none⟩,
   ⟨(some 2), (.assign (.tmp 4)), none⟩])
 .ret))
theorem x_spec_l24Year : Txt Tryd.prog 13 c_spec_l24Year [.tmp 2] 1 := ⟨by kernel_rfl, by kernel_rfl, _, _, Tryd.func13, rfl, by kernel_rfl, by kernel_rfl, by kernel_rfl, rfl, by decide⟩
/-- loop.example/g01062/spec.l24Cents -/
def c_spec_l24Cents : Cd :=
 (.seq (.reg [⟨(some 2), (.assign (.const (.bool false))), none⟩])
 (.seq (.reg [⟨(some 3), (.move (.tmp 0)), none⟩,
   ⟨(some 4), (.call (.mk (.value (.func 19)) #[(.tmp 3), (.const (.int .i64 1)), (.const (.int .i64 10000000))] #[3, 3, 3])), none⟩,
   ⟨(some 2), (.assign (.tmp 4)), none⟩])
 .ret))
theorem x_spec_l24Cents : Txt Tryd.prog 14 c_spec_l24Cents [.tmp 2] 1 := ⟨by kernel_rfl, by kernel_rfl, _, _, Tryd.func14, rfl, by kernel_rfl, by kernel_rfl, by kernel_rfl, rfl, by decide⟩
/-- loop.example/g01062/impl.isItem -/
def c_impl_isItem : Cd :=
 (.seq (.reg [⟨(some 2), (.assign (.const (.bool false))), none⟩])
 (.seq (.reg [⟨(some 3), (.move (.tmp 0)), none⟩,
   ⟨(some 4), (.call (.mk (.value (.func 17)) #[(.tmp 3), (.const (.int .i64 1)), (.const (.int .i64 999))] #[3, 3, 3])), none⟩,
   ⟨(some 2), (.assign (.tmp 4)), none⟩])
 .ret))
theorem x_impl_isItem : Txt Tryd.prog 15 c_impl_isItem [.tmp 2] 1 := ⟨by kernel_rfl, by kernel_rfl, _, _, Tryd.func15, rfl, by kernel_rfl, by kernel_rfl, by kernel_rfl, rfl, by decide⟩
/-- loop.example/g01062/impl.isYear -/
def c_impl_isYear : Cd :=
 (.seq (.reg [⟨(some 2), (.assign (.const (.bool false))), none⟩])
 (.seq (.reg [⟨(some 3), (.move (.tmp 0)), none⟩,
   ⟨(some 4), (.call (.mk (.value (.func 17)) #[(.tmp 3), (.const (.int .i64 1840)), (.const (.int .i64 2100))] #[3, 3, 3])), none⟩,
   ⟨(some 2), (.assign (.tmp 4)), none⟩])
 .ret))
theorem x_impl_isYear : Txt Tryd.prog 16 c_impl_isYear [.tmp 2] 1 := ⟨by kernel_rfl, by kernel_rfl, _, _, Tryd.func16, rfl, by kernel_rfl, by kernel_rfl, by kernel_rfl, rfl, by decide⟩
/-- loop.example/g01062/impl.inRange -/
def c_impl_inRange : Cd :=
 (.seq (.reg [⟨(some 6), (.assign (.const (.bool false))), none⟩])
 (.seq (.reg [⟨(some 7), (.move (.tmp 0)), none⟩,
   ⟨(some 8), (.move (.tmp 1)), none⟩,
   ⟨(some 9), (.binOp .geq 3 (.tmp 7) (.tmp 8) 3), none⟩,
   ⟨(some 10), (.move (.tmp 9)), none⟩,
   ⟨(some 11), (.move (.tmp 0)), (some (10, true))⟩,
   ⟨(some 12), (.move (.tmp 2)), (some (10, true))⟩,
   ⟨(some 13), (.binOp .leq 3 (.tmp 11) (.tmp 12) 3), (some (10, true))⟩,
   ⟨(some 14), (.pick (.tmp 10) (.tmp 13) (.const (.bool false))), none⟩,
   ⟨(some 6), (.assign (.tmp 14)), none⟩])
 .ret))
theorem x_impl_inRange : Txt Tryd.prog 17 c_impl_inRange [.tmp 6] 3 := ⟨by kernel_rfl, by kernel_rfl, _, _, Tryd.func17, rfl, by kernel_rfl, by kernel_rfl, by kernel_rfl, rfl, by decide⟩
/-- loop.example/g01062/spec.l1In -/
def c_spec_l1In : Cd :=
 (.seq (.reg [⟨(some 6), (.assign (.const (.bool false))), none⟩])
 (.seq (.reg [⟨(some 7), (.move (.tmp 0)), none⟩,
   ⟨(some 8), (.move (.tmp 1)), none⟩,
   ⟨(some 9), (.binOp .geq 3 (.tmp 7) (.tmp 8) 3), none⟩,
   ⟨(some 10), (.move (.tmp 9)), none⟩,
   ⟨(some 11), (.move (.tmp 0)), (some (10, true))⟩,
   ⟨(some 12), (.move (.tmp 2)), (some (10, true))⟩,
   ⟨(some 13), (.binOp .leq 3 (.tmp 11) (.tmp 12) 3), (some (10, true))⟩,
   ⟨(some 14), (.pick (.tmp 10) (.tmp 13) (.const (.bool false))), none⟩,
   ⟨(some 6), (.assign (.tmp 14)), none⟩])
 .ret))
theorem x_spec_l1In : Txt Tryd.prog 19 c_spec_l1In [.tmp 6] 3 := ⟨by kernel_rfl, by kernel_rfl, _, _, Tryd.func19, rfl, by kernel_rfl, by kernel_rfl, by kernel_rfl, rfl, by decide⟩
theorem qs2 : qSize Tryd.prog 2 = some 1 := by kernel_rfl
theorem qb2 : qBytes Tryd.prog 2 = some 8 := by kernel_rfl
theorem qa2 : qAgg Tryd.prog 2 = some false := by kernel_rfl
theorem qz2 : qZero Tryd.prog 2 = some (.int .i64 0) := by kernel_rfl
theorem qk2 : qKind Tryd.prog 2 = some .i64 := by kernel_rfl
theorem qui2 : (Tryd.prog.underlying 2).isSome = true := by kernel_rfl
theorem qs3 : qSize Tryd.prog 3 = some 1 := by kernel_rfl
theorem qb3 : qBytes Tryd.prog 3 = some 8 := by kernel_rfl
theorem qa3 : qAgg Tryd.prog 3 = some false := by kernel_rfl
theorem qz3 : qZero Tryd.prog 3 = some (.int .i64 0) := by kernel_rfl
theorem qk3 : qKind Tryd.prog 3 = some .i64 := by kernel_rfl
theorem qui3 : (Tryd.prog.underlying 3).isSome = true := by kernel_rfl
theorem qs4 : qSize Tryd.prog 4 = some 1 := by kernel_rfl
theorem qb4 : qBytes Tryd.prog 4 = some 1 := by kernel_rfl
theorem qa4 : qAgg Tryd.prog 4 = some false := by kernel_rfl
theorem qz4 : qZero Tryd.prog 4 = some (.bool false) := by kernel_rfl
theorem qo4 : qBool Tryd.prog 4 = true := by kernel_rfl
theorem qs9 : qSize Tryd.prog 9 = some 1 := by kernel_rfl
theorem qb9 : qBytes Tryd.prog 9 = some 16 := by kernel_rfl
theorem qa9 : qAgg Tryd.prog 9 = some false := by kernel_rfl
theorem qz9 : qZero Tryd.prog 9 = some (.string ByteArray.empty) := by kernel_rfl
theorem qt9 : qStr Tryd.prog 9 = true := by kernel_rfl
theorem qs23 : qSize Tryd.prog 23 = some 3 := by kernel_rfl
theorem qb23 : qBytes Tryd.prog 23 = some 24 := by kernel_rfl
theorem qa23 : qAgg Tryd.prog 23 = some true := by kernel_rfl
theorem qz23 : qZero Tryd.prog 23 = some (.agg #[.int .i64 0, .int .i64 0, .int .i64 0]) := by kernel_rfl
theorem qg23 : qFields Tryd.prog 23 = some [(0, 1), (1, 1), (2, 1)] := by kernel_rfl
theorem qf23_0 : qField Tryd.prog 23 0 = some (0, 3) := by kernel_rfl
theorem qf23_1 : qField Tryd.prog 23 1 = some (1, 3) := by kernel_rfl
theorem qf23_2 : qField Tryd.prog 23 2 = some (2, 3) := by kernel_rfl
theorem qs26 : qSize Tryd.prog 26 = some 3 := by kernel_rfl
theorem qb26 : qBytes Tryd.prog 26 = some 24 := by kernel_rfl
theorem qa26 : qAgg Tryd.prog 26 = some true := by kernel_rfl
theorem qz26 : qZero Tryd.prog 26 = some (.agg #[.int .i64 0, .int .i64 0, .int .i64 0]) := by kernel_rfl
theorem qg26 : qFields Tryd.prog 26 = some [(0, 1), (1, 1), (2, 1)] := by kernel_rfl
theorem qf26_0 : qField Tryd.prog 26 0 = some (0, 3) := by kernel_rfl
theorem qf26_1 : qField Tryd.prog 26 1 = some (1, 3) := by kernel_rfl
theorem qf26_2 : qField Tryd.prog 26 2 = some (2, 3) := by kernel_rfl
set_option linter.defProp false
/-- The facts, in one name. -/
def fcT := And.intro @qs2 <| And.intro @qb2 <| And.intro @qa2 <| And.intro @qz2 <| And.intro @qk2 <| And.intro @qui2 <| And.intro @qs3 <| And.intro @qb3 <| And.intro @qa3 <| And.intro @qz3 <| And.intro @qk3 <| And.intro @qui3 <| And.intro @qs4 <| And.intro @qb4 <| And.intro @qa4 <| And.intro @qz4 <| And.intro @qo4 <| And.intro @qs9 <| And.intro @qb9 <| And.intro @qa9 <| And.intro @qz9 <| And.intro @qt9 <| And.intro @qs23 <| And.intro @qb23 <| And.intro @qa23 <| And.intro @qz23 <| And.intro @qg23 <| And.intro @qf23_0 <| And.intro @qf23_1 <| And.intro @qf23_2 <| And.intro @qs26 <| And.intro @qb26 <| And.intro @qa26 <| And.intro @qz26 <| And.intro @qg26 <| And.intro @qf26_0 <| And.intro @qf26_1 <| And.intro @qf26_2 <| True.intro
end Go.Proofs.YtgjkjibllgpnjaaDoor
