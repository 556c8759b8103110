/- The texts of the functions, edges struck, and closed facts on functions and types: written by program (gen.py). -/
import Derived.Test.YtnjlleopgjggpaaDoorD
import Derived.Test.YtnjlleopgjggpaaDoorProg
import Derived.Test.YtnjlleopgjggpaaDoorTa
namespace Go.Proofs.YtnjlleopgjggpaaDoor
open Go Go.RowKit Go.Proofs
/-- slices.ContainsFunc[[]int,int] -/
def c_slices_ContainsFunc_int : Cd :=
 (.seq (.reg [⟨(some 4), (.assign (.const (.bool false))), none⟩])
 (.seq (.reg [⟨(some 5), (.move (.tmp 0)), none⟩,
   ⟨(some 6), (.move (.tmp 1)), none⟩,
   ⟨(some 7), (.call (.mk (.value (.func 137)) #[(.tmp 5), (.tmp 6)] #[30, 88])), none⟩,
   ⟨(some 8), (.binOp .geq 3 (.tmp 7) (.const (.int .i64 0)) 3), none⟩,
   ⟨(some 4), (.assign (.tmp 8)), none⟩])
 .ret))
theorem x_slices_ContainsFunc_int : Txt Tryd.prog 93 c_slices_ContainsFunc_int [.tmp 4] 2 := ⟨by kernel_rfl, by kernel_rfl, _, _, Tryd.func93, rfl, by kernel_rfl, by kernel_rfl, by kernel_rfl, rfl, by decide⟩
/-- loop.example/g01062/impl.inRange -/
def c_impl_inRange : Cd :=
 (.seq (.reg [⟨(some 6), (.assign (.const (.bool false))), none⟩])
 (.seq (.reg [⟨(some 7), (.move (.tmp 0)), none⟩,
   ⟨(some 8), (.move (.tmp 1)), none⟩,
   ⟨(some 9), (.binOp .geq 3 (.tmp 7) (.tmp 8) 3), none⟩,
   ⟨(some 10), (.move (.tmp 9)), none⟩,
   ⟨(some 11), (.move (.tmp 0)), (some (10, true))⟩,
   ⟨(some 12), (.move (.tmp 2)), (some (10, true))⟩,
   ⟨(some 13), (.binOp .leq 3 (.tmp 11) (.tmp 12) 3), (some (10, true))⟩,
   ⟨(some 14), (.pick (.tmp 10) (.tmp 13) (.const (.bool false))), none⟩,
   ⟨(some 6), (.assign (.tmp 14)), none⟩])
 .ret))
theorem x_impl_inRange : Txt Tryd.prog 97 c_impl_inRange [.tmp 6] 3 := ⟨by kernel_rfl, by kernel_rfl, _, _, Tryd.func97, rfl, by kernel_rfl, by kernel_rfl, by kernel_rfl, rfl, by decide⟩
/-- loop.example/g01062/spec.l1In -/
def c_spec_l1In : Cd :=
 (.seq (.reg [⟨(some 6), (.assign (.const (.bool false))), none⟩])
 (.seq (.reg [⟨(some 7), (.move (.tmp 0)), none⟩,
   ⟨(some 8), (.move (.tmp 1)), none⟩,
   ⟨(some 9), (.binOp .geq 3 (.tmp 7) (.tmp 8) 3), none⟩,
   ⟨(some 10), (.move (.tmp 9)), none⟩,
   ⟨(some 11), (.move (.tmp 0)), (some (10, true))⟩,
   ⟨(some 12), (.move (.tmp 2)), (some (10, true))⟩,
   ⟨(some 13), (.binOp .leq 3 (.tmp 11) (.tmp 12) 3), (some (10, true))⟩,
   ⟨(some 14), (.pick (.tmp 10) (.tmp 13) (.const (.bool false))), none⟩,
   ⟨(some 6), (.assign (.tmp 14)), none⟩])
 .ret))
theorem x_spec_l1In : Txt Tryd.prog 99 c_spec_l1In [.tmp 6] 3 := ⟨by kernel_rfl, by kernel_rfl, _, _, Tryd.func99, rfl, by kernel_rfl, by kernel_rfl, by kernel_rfl, rfl, by decide⟩
/-- loop.example/g01062/spec.DrawAreExhibits -/
def c_spec_DrawAreExhibits : Cd :=
 (.seq (.reg [⟨(some 2), (.assign (.const (.slice none 0 0))), none⟩])
 (.seq (.reg [⟨(some 4), (.move (.tmp 0)), none⟩,
   ⟨(some 5), (.build 83 #[(0, (.tmp 4))]), none⟩,
   ⟨(some 6), (.box 83 (.tmp 5)), none⟩,
   ⟨(some 3), (.assign (.tmp 6)), none⟩])
 (.seq (.reg [⟨(some 7), (.move (.tmp 3)), none⟩,
   ⟨(some 8), (.call (.mk (.value (.func 121)) #[(.tmp 7)] #[80])), none⟩,
   ⟨(some 2), (.assign (.tmp 8)), none⟩])
 .ret)))
theorem x_spec_DrawAreExhibits : Txt Tryd.prog 104 c_spec_DrawAreExhibits [.tmp 2] 1 := ⟨by kernel_rfl, by kernel_rfl, _, _, Tryd.func104, rfl, by kernel_rfl, by kernel_rfl, by kernel_rfl, rfl, by decide⟩
/-- loop.example/g01062/impl.areExhibits -/
def c_impl_areExhibits : Cd :=
 (.seq (.reg [⟨(some 2), (.assign (.const (.bool false))), none⟩])
 (.seq (.seq (.reg [⟨(some 4), (.move (.tmp 0)), none⟩,
   ⟨(some 5), (.call (.mk (.builtin .len) #[(.tmp 4)] #[66])), none⟩,
   ⟨(some 6), (.move (.const (.int .i64 0))), none⟩])
 (.block 0 (.loop (.seq (.reg [⟨(some 7), (.binOp .lss 3 (.tmp 6) (.tmp 5) 3), none⟩])
 (.seq (.cond (.tmp 7) .skip (.exit 0))
 (.seq (.block 1 (.seq (.reg [⟨(some 8), (.move (.tmp 6)), none⟩,
   ⟨(some 3), (.assign (.tmp 8)), none⟩])
 (.seq (.regq [⟨(some 9), (.move (.tmp 0)), none⟩,
   ⟨(some 10), (.move (.tmp 3)), none⟩,
   ⟨(some 11), (.indexAddr 66 (.tmp 9) (.tmp 10)), none⟩,
   ⟨(some 12), (.call (.mk (.value (.func 115)) #[(.tmp 11)] #[110])), none⟩,
   ⟨(some 13), (.unOp .not 4 (.tmp 12)), none⟩,
   ⟨(some 14), (.move (.tmp 13)), none⟩,
   ⟨(some 15), (.move (.tmp 0)), (some (14, false))⟩,
   ⟨(some 16), (.move (.tmp 3)), (some (14, false))⟩,
   ⟨(some 17), (.indexAddr 66 (.tmp 15) (.tmp 16)), (some (14, false))⟩,
   ⟨(some 18), (.fieldAddr 72 (.tmp 17) 3), (some (14, false))⟩,
   ⟨(some 19), (.load 30 (.tmp 18)), (some (14, false))⟩,
   ⟨(some 20), (.call (.mk (.builtin .len) #[(.tmp 19)] #[30])), (some (14, false))⟩,
   ⟨(some 21), (.move (.tmp 0)), (some (14, false))⟩,
   ⟨(some 22), (.indexAddr 66 (.tmp 21) (.const (.int .i64 0))), (some (14, false))⟩,
   ⟨(some 23), (.fieldAddr 72 (.tmp 22) 3), (some (14, false))⟩,
   ⟨(some 24), (.load 30 (.tmp 23)), (some (14, false))⟩,
   ⟨(some 25), (.call (.mk (.builtin .len) #[(.tmp 24)] #[30])), (some (14, false))⟩,
   ⟨(some 26), (.binOp .neq 3 (.tmp 20) (.tmp 25) 3), (some (14, false))⟩,
   ⟨(some 27), (.pick (.tmp 14) (.const (.bool true)) (.tmp 26)), none⟩,
   ⟨(some 28), (.move (.tmp 27)), none⟩,
   ⟨(some 29), (.move (.tmp 3)), (some (28, false))⟩,
   ⟨(some 30), (.binOp .gtr 3 (.tmp 29) (.const (.int .i64 0)) 3), (some (28, false))⟩,
   ⟨(some 31), (.move (.tmp 30)), (some (28, false))⟩,
   ⟨(some 32), (.move (.tmp 0)), (some (31, true))⟩,
   ⟨(some 33), (.move (.tmp 3)), (some (31, true))⟩,
   ⟨(some 34), (.binOp .sub 3 (.tmp 33) (.const (.int .i64 1)) 3), (some (31, true))⟩,
   ⟨(some 35), (.indexAddr 66 (.tmp 32) (.tmp 34)), (some (31, true))⟩,
   ⟨(some 36), (.fieldAddr 72 (.tmp 35) 0), (some (31, true))⟩,
   ⟨(some 37), (.load 3 (.tmp 36)), (some (31, true))⟩,
   ⟨(some 38), (.move (.tmp 0)), (some (31, true))⟩,
   ⟨(some 39), (.move (.tmp 3)), (some (31, true))⟩,
   ⟨(some 40), (.indexAddr 66 (.tmp 38) (.tmp 39)), (some (31, true))⟩,
   ⟨(some 41), (.fieldAddr 72 (.tmp 40) 0), (some (31, true))⟩,
   ⟨(some 42), (.load 3 (.tmp 41)), (some (31, true))⟩,
   ⟨(some 43), (.binOp .geq 3 (.tmp 37) (.tmp 42) 3), (some (31, true))⟩,
   ⟨(some 44), (.pick (.tmp 31) (.tmp 43) (.const (.bool false))), (some (28, false))⟩,
   ⟨(some 45), (.pick (.tmp 28) (.const (.bool true)) (.tmp 44)), none⟩])
 (.cond (.tmp 45) (.seq (.reg [⟨(some 2), (.assign (.const (.bool false))), none⟩])
 .ret) .skip))))
 (.reg [⟨(some 46), (.binOp .add 3 (.tmp 6) (.const (.int .i64 1)) 3), none⟩,
   ⟨(some 6), (.move (.tmp 46)), none⟩])))))))
 (.seq (.reg [⟨(some 47), (.move (.tmp 0)), none⟩,
   ⟨(some 48), (.call (.mk (.builtin .len) #[(.tmp 47)] #[66])), none⟩,
   ⟨(some 49), (.binOp .leq 3 (.tmp 48) (.const (.int .i64 10)) 3), none⟩,
   ⟨(some 2), (.assign (.tmp 49)), none⟩])
 .ret)))
theorem x_impl_areExhibits : Txt Tryd.prog 105 c_impl_areExhibits [.tmp 2] 1 := ⟨by kernel_rfl, by kernel_rfl, _, _, Tryd.func105, rfl, by kernel_rfl, by kernel_rfl, by kernel_rfl, rfl, by decide⟩
/-- slices.SortStableFunc[[]int,int] -/
def c_slices_SortStableFunc_int : Cd :=
 (.reg [⟨(some 4), (.move (.tmp 0)), none⟩,
   ⟨(some 5), (.move (.tmp 0)), none⟩,
   ⟨(some 6), (.call (.mk (.builtin .len) #[(.tmp 5)] #[30])), none⟩,
   ⟨(some 7), (.move (.tmp 1)), none⟩,
   ⟨(some 8), (.call (.mk (.value (.func 139)) #[(.tmp 4), (.tmp 6), (.tmp 7)] #[30, 3, 111])), none⟩])
theorem x_slices_SortStableFunc_int : Txt Tryd.prog 106 c_slices_SortStableFunc_int [] 2 := ⟨by kernel_rfl, by kernel_rfl, _, _, Tryd.func106, rfl, by kernel_rfl, by kernel_rfl, by kernel_rfl, rfl, by decide⟩
/-- loop.example/g01062/impl.RankShow closure 1 -/
def c_impl_RankShow_1 : Cd :=
 (.seq (.reg [⟨(some 5), (.assign (.const (.int .i64 0))), none⟩])
 (.seq (.regq [⟨(some 6), (.load 66 (.tmp 2)), none⟩,
   ⟨(some 7), (.move (.tmp 1)), none⟩,
   ⟨(some 8), (.indexAddr 66 (.tmp 6) (.tmp 7)), none⟩,
   ⟨(some 9), (.load 66 (.tmp 2)), none⟩,
   ⟨(some 10), (.move (.tmp 0)), none⟩,
   ⟨(some 11), (.indexAddr 66 (.tmp 9) (.tmp 10)), none⟩,
   ⟨(some 12), (.call (.mk (.value (.func 108)) #[(.tmp 8), (.tmp 11)] #[110, 110])), none⟩,
   ⟨(some 5), (.assign (.tmp 12)), none⟩])
 .ret))
theorem x_impl_RankShow_1 : Txt Tryd.prog 107 c_impl_RankShow_1 [.tmp 5] 3 := ⟨by kernel_rfl, by kernel_rfl, _, _, Tryd.func107, rfl, by kernel_rfl, by kernel_rfl, by kernel_rfl, rfl, by decide⟩
/-- loop.example/g01062/impl.compareExhibits -/
def c_impl_compareExhibits : Cd :=
 (.seq (.reg [⟨(some 4), (.assign (.const (.int .i64 0))), none⟩])
 (.seq (.regt [⟨(some 5), (.move (.tmp 0)), none⟩,
   ⟨(some 6), (.nilCheck (.tmp 5)), none⟩,
   ⟨(some 7), (.fieldAddr 72 (.tmp 6) 3), none⟩,
   ⟨(some 8), (.load 30 (.tmp 7)), none⟩,
   ⟨(some 10), (.move (.tmp 1)), none⟩,
   ⟨(some 11), (.nilCheck (.tmp 10)), none⟩,
   ⟨(some 12), (.fieldAddr 72 (.tmp 11) 3), none⟩,
   ⟨(some 13), (.load 30 (.tmp 12)), none⟩,
   ⟨(some 14), (.call (.mk (.builtin .len) #[(.tmp 13)] #[30])), none⟩,
   ⟨(some 15), (.binOp .sub 3 (.tmp 14) (.const (.int .i64 2)) 3), none⟩,
   ⟨(some 17), (.move (.tmp 1)), none⟩,
   ⟨(some 18), (.nilCheck (.tmp 17)), none⟩,
   ⟨(some 19), (.fieldAddr 72 (.tmp 18) 3), none⟩,
   ⟨(some 20), (.load 30 (.tmp 19)), none⟩,
   ⟨(some 22), (.move (.tmp 0)), none⟩,
   ⟨(some 23), (.nilCheck (.tmp 22)), none⟩,
   ⟨(some 24), (.fieldAddr 72 (.tmp 23) 3), none⟩,
   ⟨(some 25), (.load 30 (.tmp 24)), none⟩,
   ⟨(some 26), (.call (.mk (.builtin .len) #[(.tmp 25)] #[30])), none⟩,
   ⟨(some 27), (.binOp .sub 3 (.tmp 26) (.const (.int .i64 2)) 3), none⟩,
   ⟨(some 30), (.move (.tmp 0)), none⟩,
   ⟨(some 31), (.nilCheck (.tmp 30)), none⟩,
   ⟨(some 32), (.fieldAddr 72 (.tmp 31) 3), none⟩,
   ⟨(some 33), (.load 30 (.tmp 32)), none⟩,
   ⟨(some 35), (.move (.tmp 1)), none⟩,
   ⟨(some 36), (.nilCheck (.tmp 35)), none⟩,
   ⟨(some 37), (.fieldAddr 72 (.tmp 36) 3), none⟩,
   ⟨(some 38), (.load 30 (.tmp 37)), none⟩] (.one true ⟨(some 9), (.call (.mk (.value (.func 117)) #[(.tmp 8)] #[30])), none⟩
   (.now ⟨(some 16), (.binOp .mul 3 (.tmp 9) (.tmp 15) 3), none⟩
   (.one true ⟨(some 21), (.call (.mk (.value (.func 117)) #[(.tmp 20)] #[30])), none⟩
   (.one true ⟨(some 28), (.binOp .mul 3 (.tmp 21) (.tmp 27) 3), none⟩
   (.one true ⟨(some 29), (.call (.mk (.value (.func 141)) #[(.tmp 16), (.tmp 28)] #[3, 3])), none⟩
   (.one true ⟨(some 34), (.call (.mk (.value (.func 142)) #[(.tmp 33)] #[30])), none⟩
   (.one false ⟨(some 39), (.call (.mk (.value (.func 142)) #[(.tmp 38)] #[30])), none⟩
   (.one false ⟨(some 40), (.call (.mk (.value (.func 141)) #[(.tmp 34), (.tmp 39)] #[3, 3])), none⟩
   (.one false ⟨(some 41), (.buildSlice 30 2 #[(0, (.tmp 29)), (1, (.tmp 40))]), none⟩
   (.one false ⟨(some 42), (.call (.mk (.value (.func 140)) #[(.tmp 41)] #[30])), none⟩
   (.one false ⟨(some 4), (.assign (.tmp 42)), none⟩
   .done))))))))))) [])
 .ret))
theorem x_impl_compareExhibits : Txt Tryd.prog 108 c_impl_compareExhibits [.tmp 4] 2 := ⟨by kernel_rfl, by kernel_rfl, _, _, Tryd.func108, rfl, by kernel_rfl, by kernel_rfl, by kernel_rfl, rfl, by decide⟩
/-- loop.example/g01062/spec.l23Good -/
def c_spec_l23Good : Cd :=
 (.seq (.reg [⟨(some 2), (.assign (.const (.bool false))), none⟩])
 (.seq (.seq (.reg [⟨(some 3), (.assign (.const (.int .i64 0))), none⟩])
 (.block 0 (.loop (.seq (.seq (.reg [⟨(some 4), (.move (.tmp 3)), none⟩,
   ⟨(some 5), (.move (.tmp 0)), none⟩,
   ⟨(some 6), (.call (.mk (.builtin .len) #[(.tmp 5)] #[66])), none⟩,
   ⟨(some 7), (.binOp .lss 3 (.tmp 4) (.tmp 6) 3), none⟩])
 (.cond (.tmp 7) .skip (.exit 0)))
 (.seq (.block 1 (.seq (.regq [⟨(some 10), (.move (.tmp 0)), none⟩,
   ⟨(some 11), (.move (.tmp 3)), none⟩,
   ⟨(some 12), (.indexAddr 66 (.tmp 10) (.tmp 11)), none⟩,
   ⟨(some 13), (.load 72 (.tmp 12)), none⟩,
   ⟨(some 14), (.call (.mk (.value (.func 118)) #[(.tmp 13)] #[72])), none⟩,
   ⟨(some 15), (.unOp .not 4 (.tmp 14)), none⟩,
   ⟨(some 16), (.move (.tmp 15)), none⟩,
   ⟨(some 17), (.move (.tmp 0)), (some (16, false))⟩,
   ⟨(some 18), (.move (.tmp 3)), (some (16, false))⟩,
   ⟨(some 19), (.indexAddr 66 (.tmp 17) (.tmp 18)), (some (16, false))⟩,
   ⟨(some 20), (.fieldAddr 72 (.tmp 19) 3), (some (16, false))⟩,
   ⟨(some 21), (.load 30 (.tmp 20)), (some (16, false))⟩,
   ⟨(some 22), (.call (.mk (.builtin .len) #[(.tmp 21)] #[30])), (some (16, false))⟩,
   ⟨(some 23), (.move (.tmp 0)), (some (16, false))⟩,
   ⟨(some 24), (.indexAddr 66 (.tmp 23) (.const (.int .i64 0))), (some (16, false))⟩,
   ⟨(some 25), (.fieldAddr 72 (.tmp 24) 3), (some (16, false))⟩,
   ⟨(some 26), (.load 30 (.tmp 25)), (some (16, false))⟩,
   ⟨(some 27), (.call (.mk (.builtin .len) #[(.tmp 26)] #[30])), (some (16, false))⟩,
   ⟨(some 28), (.binOp .neq 3 (.tmp 22) (.tmp 27) 3), (some (16, false))⟩,
   ⟨(some 29), (.pick (.tmp 16) (.const (.bool true)) (.tmp 28)), none⟩,
   ⟨(some 30), (.move (.tmp 29)), none⟩,
   ⟨(some 31), (.move (.tmp 3)), (some (30, false))⟩,
   ⟨(some 32), (.binOp .gtr 3 (.tmp 31) (.const (.int .i64 0)) 3), (some (30, false))⟩,
   ⟨(some 33), (.move (.tmp 32)), (some (30, false))⟩,
   ⟨(some 34), (.move (.tmp 0)), (some (33, true))⟩,
   ⟨(some 35), (.move (.tmp 3)), (some (33, true))⟩,
   ⟨(some 36), (.binOp .sub 3 (.tmp 35) (.const (.int .i64 1)) 3), (some (33, true))⟩,
   ⟨(some 37), (.indexAddr 66 (.tmp 34) (.tmp 36)), (some (33, true))⟩,
   ⟨(some 38), (.fieldAddr 72 (.tmp 37) 0), (some (33, true))⟩,
   ⟨(some 39), (.load 3 (.tmp 38)), (some (33, true))⟩,
   ⟨(some 40), (.move (.tmp 0)), (some (33, true))⟩,
   ⟨(some 41), (.move (.tmp 3)), (some (33, true))⟩,
   ⟨(some 42), (.indexAddr 66 (.tmp 40) (.tmp 41)), (some (33, true))⟩,
   ⟨(some 43), (.fieldAddr 72 (.tmp 42) 0), (some (33, true))⟩,
   ⟨(some 44), (.load 3 (.tmp 43)), (some (33, true))⟩,
   ⟨(some 45), (.binOp .geq 3 (.tmp 39) (.tmp 44) 3), (some (33, true))⟩,
   ⟨(some 46), (.pick (.tmp 33) (.tmp 45) (.const (.bool false))), (some (30, false))⟩,
   ⟨(some 47), (.pick (.tmp 30) (.const (.bool true)) (.tmp 46)), none⟩])
 (.cond (.tmp 47) (.seq (.reg [⟨(some 2), (.assign (.const (.bool false))), none⟩])
 .ret) .skip)))
 (.reg [⟨(some 8), (.move (.tmp 3)), none⟩,
   ⟨(some 9), (.binOp .add 3 (.tmp 8) (.const (.int .i64 1)) 3), none⟩,
   ⟨(some 3), (.assign (.tmp 9)), none⟩]))))))
 (.seq (.reg [⟨(some 48), (.move (.tmp 0)), none⟩,
   ⟨(some 49), (.call (.mk (.builtin .len) #[(.tmp 48)] #[66])), none⟩,
   ⟨(some 50), (.binOp .leq 3 (.tmp 49) (.const (.int .i64 10)) 3), none⟩,
   ⟨(some 2), (.assign (.tmp 50)), none⟩])
 .ret)))
theorem x_spec_l23Good : Txt Tryd.prog 109 c_spec_l23Good [.tmp 2] 1 := ⟨by kernel_rfl, by kernel_rfl, _, _, Tryd.func109, rfl, by kernel_rfl, by kernel_rfl, by kernel_rfl, rfl, by decide⟩
/-- loop.example/g01062/spec.l23Better -/
def c_spec_l23Better : Cd :=
 (.seq (.reg [⟨(some 2), (.box 72 (.tmp 0)), none⟩,
   ⟨(some 3), (.box 72 (.tmp 1)), none⟩,
   ⟨(some 4), (.assign (.const (.bool false))), none⟩])
 (.seq (.regq [⟨(some 11), (.fieldAddr 72 (.tmp 2) 3), none⟩,
   ⟨(some 12), (.load 30 (.tmp 11)), none⟩,
   ⟨(some 13), (.call (.mk (.value (.func 120)) #[(.tmp 12)] #[30])), none⟩,
   ⟨(some 14), (.fieldAddr 72 (.tmp 3) 3), none⟩,
   ⟨(some 15), (.load 30 (.tmp 14)), none⟩,
   ⟨(some 16), (.call (.mk (.value (.func 120)) #[(.tmp 15)] #[30])), none⟩,
   ⟨(some 5), (.assign (.tmp 13)), none⟩,
   ⟨(some 6), (.assign (.tmp 16)), none⟩])
 (.seq (.reg [⟨(some 18), (.fieldAddr 72 (.tmp 2) 3), none⟩,
   ⟨(some 19), (.load 30 (.tmp 18)), none⟩,
   ⟨(some 20), (.call (.mk (.value (.func 143)) #[(.tmp 19)] #[30])), none⟩,
   ⟨(some 17), (.move (.tmp 20)), none⟩,
   ⟨(some 21), (.extract (.tmp 17) 0), none⟩,
   ⟨(some 22), (.extract (.tmp 17) 1), none⟩,
   ⟨(some 7), (.assign (.tmp 21)), none⟩,
   ⟨(some 8), (.assign (.tmp 22)), none⟩])
 (.seq (.reg [⟨(some 24), (.fieldAddr 72 (.tmp 3) 3), none⟩,
   ⟨(some 25), (.load 30 (.tmp 24)), none⟩,
   ⟨(some 26), (.call (.mk (.value (.func 143)) #[(.tmp 25)] #[30])), none⟩,
   ⟨(some 23), (.move (.tmp 26)), none⟩,
   ⟨(some 27), (.extract (.tmp 23) 0), none⟩,
   ⟨(some 28), (.extract (.tmp 23) 1), none⟩,
   ⟨(some 9), (.assign (.tmp 27)), none⟩,
   ⟨(some 10), (.assign (.tmp 28)), none⟩])
 (.seq (.reg [⟨(some 29), (.move (.tmp 5)), none⟩,
   ⟨(some 30), (.move (.tmp 6)), none⟩,
   ⟨(some 31), (.binOp .gtr 3 (.tmp 29) (.tmp 30) 3), none⟩,
   ⟨(some 32), (.move (.tmp 31)), none⟩,
   ⟨(some 33), (.move (.tmp 5)), (some (32, false))⟩,
   ⟨(some 34), (.move (.tmp 6)), (some (32, false))⟩,
   ⟨(some 35), (.binOp .eql 3 (.tmp 33) (.tmp 34) 3), (some (32, false))⟩,
   ⟨(some 36), (.move (.tmp 35)), (some (32, false))⟩,
   ⟨(some 37), (.move (.tmp 8)), (some (36, true))⟩,
   ⟨(some 38), (.move (.tmp 10)), (some (36, true))⟩,
   ⟨(some 39), (.binOp .gtr 3 (.tmp 37) (.tmp 38) 3), (some (36, true))⟩,
   ⟨(some 40), (.pick (.tmp 36) (.tmp 39) (.const (.bool false))), (some (32, false))⟩,
   ⟨(some 41), (.pick (.tmp 32) (.const (.bool true)) (.tmp 40)), none⟩,
   ⟨(some 4), (.assign (.tmp 41)), none⟩])
 .ret)))))
theorem x_spec_l23Better : Txt Tryd.prog 110 c_spec_l23Better [.tmp 4] 2 := ⟨by kernel_rfl, by kernel_rfl, _, _, Tryd.func110, rfl, by kernel_rfl, by kernel_rfl, by kernel_rfl, rfl, by decide⟩
/-- loop.example/g01062/impl.exhibitAt -/
def c_impl_exhibitAt : Cd :=
 (.seq (.reg [⟨(some 3), (.box 3 (.tmp 1)), none⟩,
   ⟨(some 4), (.assign (.const (.int .i64 0))), none⟩])
 (.seq (.reg [⟨(some 5), (.move (.tmp 0)), none⟩,
   ⟨(some 6), (.makeFunc (.func 145) #[] #[(.tmp 3)]), none⟩,
   ⟨(some 7), (.call (.mk (.value (.func 144)) #[(.tmp 5), (.tmp 6)] #[66, 118])), none⟩,
   ⟨(some 4), (.assign (.tmp 7)), none⟩])
 .ret))
theorem x_impl_exhibitAt : Txt Tryd.prog 111 c_impl_exhibitAt [.tmp 4] 2 := ⟨by kernel_rfl, by kernel_rfl, _, _, Tryd.func111, rfl, by kernel_rfl, by kernel_rfl, by kernel_rfl, rfl, by decide⟩
/-- loop.example/g01062/impl.medalOf -/
def c_impl_medalOf : Cd :=
 (.seq (.reg [⟨(some 2), (.assign (.const (.int .i64 0))), none⟩])
 (.seq (.reg [⟨(some 3), (.assign (.const (.int .i64 0))), none⟩])
 (.seq (.seq (.reg [⟨(some 6), (.buildSlice 30 4 #[(0, (.const (.int .i64 40))), (1, (.const (.int .i64 55))), (2, (.const (.int .i64 70))), (3, (.const (.int .i64 85)))]), none⟩,
   ⟨(some 7), (.call (.mk (.builtin .len) #[(.tmp 6)] #[30])), none⟩,
   ⟨(some 8), (.move (.const (.int .i64 0))), none⟩])
 (.block 0 (.loop (.seq (.reg [⟨(some 9), (.binOp .lss 3 (.tmp 8) (.tmp 7) 3), none⟩])
 (.seq (.cond (.tmp 9) .skip (.exit 0))
 (.seq (.block 1 (.seq (.reg [⟨(some 10), (.indexAddr 30 (.tmp 6) (.tmp 8)), none⟩,
   ⟨(some 11), (.load 3 (.tmp 10)), none⟩,
   ⟨(some 5), (.assign (.tmp 11)), none⟩])
 (.seq (.reg [⟨(some 12), (.move (.tmp 0)), none⟩,
   ⟨(some 13), (.call (.mk (.value (.func 117)) #[(.tmp 12)] #[30])), none⟩,
   ⟨(some 14), (.move (.tmp 5)), none⟩,
   ⟨(some 15), (.move (.tmp 0)), none⟩,
   ⟨(some 16), (.call (.mk (.builtin .len) #[(.tmp 15)] #[30])), none⟩,
   ⟨(some 17), (.binOp .sub 3 (.tmp 16) (.const (.int .i64 2)) 3), none⟩,
   ⟨(some 18), (.binOp .mul 3 (.tmp 14) (.tmp 17) 3), none⟩,
   ⟨(some 19), (.binOp .geq 3 (.tmp 13) (.tmp 18) 3), none⟩])
 (.cond (.tmp 19) (.reg [⟨(some 20), (.move (.tmp 3)), none⟩,
   ⟨(some 21), (.binOp .add 3 (.tmp 20) (.const (.int .i64 1)) 3), none⟩,
   ⟨(some 3), (.assign (.tmp 21)), none⟩]) .skip))))
 (.reg [⟨(some 22), (.binOp .add 3 (.tmp 8) (.const (.int .i64 1)) 3), none⟩,
   ⟨(some 8), (.move (.tmp 22)), none⟩])))))))
 (.seq (.reg [⟨(some 23), (.move (.tmp 3)), none⟩,
   ⟨(some 2), (.assign (.tmp 23)), none⟩])
 .ret))))
theorem x_impl_medalOf : Txt Tryd.prog 112 c_impl_medalOf [.tmp 2] 1 := ⟨by kernel_rfl, by kernel_rfl, _, _, Tryd.func112, rfl, by kernel_rfl, by kernel_rfl, by kernel_rfl, rfl, by decide⟩
/-- loop.example/g01062/spec.l23Medal -/
def c_spec_l23Medal : Cd :=
 (.seq (.reg [⟨(some 2), (.assign (.const (.int .i64 0))), none⟩])
 (.seq (.reg [⟨(some 5), (.move (.tmp 0)), none⟩,
   ⟨(some 6), (.call (.mk (.value (.func 120)) #[(.tmp 5)] #[30])), none⟩,
   ⟨(some 7), (.move (.tmp 0)), none⟩,
   ⟨(some 8), (.call (.mk (.builtin .len) #[(.tmp 7)] #[30])), none⟩,
   ⟨(some 9), (.binOp .sub 3 (.tmp 8) (.const (.int .i64 2)) 3), none⟩,
   ⟨(some 3), (.assign (.tmp 6)), none⟩,
   ⟨(some 4), (.assign (.tmp 9)), none⟩])
 (.seq (.seq (.reg [⟨(some 10), (.move (.tmp 3)), none⟩,
   ⟨(some 11), (.move (.tmp 4)), none⟩,
   ⟨(some 12), (.binOp .mul 3 (.const (.int .i64 85)) (.tmp 11) 3), none⟩,
   ⟨(some 13), (.binOp .geq 3 (.tmp 10) (.tmp 12) 3), none⟩])
 (.cond (.tmp 13) (.seq (.reg [⟨(some 2), (.assign (.const (.int .i64 4))), none⟩])
 .ret) .skip))
 (.seq (.seq (.reg [⟨(some 14), (.move (.tmp 3)), none⟩,
   ⟨(some 15), (.move (.tmp 4)), none⟩,
   ⟨(some 16), (.binOp .mul 3 (.const (.int .i64 70)) (.tmp 15) 3), none⟩,
   ⟨(some 17), (.binOp .geq 3 (.tmp 14) (.tmp 16) 3), none⟩])
 (.cond (.tmp 17) (.seq (.reg [⟨(some 2), (.assign (.const (.int .i64 3))), none⟩])
 .ret) .skip))
 (.seq (.seq (.reg [⟨(some 18), (.move (.tmp 3)), none⟩,
   ⟨(some 19), (.move (.tmp 4)), none⟩,
   ⟨(some 20), (.binOp .mul 3 (.const (.int .i64 55)) (.tmp 19) 3), none⟩,
   ⟨(some 21), (.binOp .geq 3 (.tmp 18) (.tmp 20) 3), none⟩])
 (.cond (.tmp 21) (.seq (.reg [⟨(some 2), (.assign (.const (.int .i64 2))), none⟩])
 .ret) .skip))
 (.seq (.seq (.reg [⟨(some 22), (.move (.tmp 3)), none⟩,
   ⟨(some 23), (.move (.tmp 4)), none⟩,
   ⟨(some 24), (.binOp .mul 3 (.const (.int .i64 40)) (.tmp 23) 3), none⟩,
   ⟨(some 25), (.binOp .geq 3 (.tmp 22) (.tmp 24) 3), none⟩])
 (.cond (.tmp 25) (.seq (.reg [⟨(some 2), (.assign (.const (.int .i64 1))), none⟩])
 .ret) .skip))
 (.seq (.reg [⟨(some 2), (.assign (.const (.int .i64 0))), none⟩])
 .ret)))))))
theorem x_spec_l23Medal : Txt Tryd.prog 113 c_spec_l23Medal [.tmp 2] 1 := ⟨by kernel_rfl, by kernel_rfl, _, _, Tryd.func113, rfl, by kernel_rfl, by kernel_rfl, by kernel_rfl, rfl, by decide⟩
/-- (*loop.example/g01062/spec.l1Cur).show23 -/
def c_spec_l1Cur_show23 : Cd :=
 (.seq (.reg [⟨(some 6), (.alloc 72), none⟩])
 (.seq (.reg [⟨(some 10), (.move (.tmp 1)), none⟩,
   ⟨(some 11), (.move (.tmp 0)), none⟩,
   ⟨(some 12), (.buildSlice 122 3 #[(0, (.const (.string (ByteArray.mk #[98, 101, 114, 110])))), (1, (.const (.string (ByteArray.mk #[99, 111, 105, 108, 115])))), (2, (.const (.string (ByteArray.mk #[115, 104, 105, 112, 115]))))]), none⟩,
   ⟨(some 13), (.call (.mk (.value (.func 146)) #[(.tmp 11), (.tmp 12)] #[80, 122])), none⟩,
   ⟨(some 14), (.move (.tmp 0)), none⟩,
   ⟨(some 15), (.buildSlice 30 4 #[(0, (.const (.int .i64 1))), (1, (.const (.int .i64 5))), (2, (.const (.int .i64 8))), (3, (.const (.int .i64 16)))]), none⟩,
   ⟨(some 16), (.call (.mk (.value (.func 64)) #[(.tmp 14), (.tmp 15)] #[80, 30])), none⟩,
   ⟨(some 17), (.build 72 #[(0, (.tmp 10)), (1, (.tmp 13)), (2, (.tmp 16))]), none⟩,
   ⟨(some 7), (.alloc 72), none⟩,
   ⟨none, (.store 72 (.tmp 7) (.tmp 17)), none⟩])
 (.seq (.reg [⟨(some 18), (.move (.tmp 0)), none⟩,
   ⟨(some 19), (.buildSlice 30 6 #[(0, (.const (.int .i64 10))), (1, (.const (.int .i64 40))), (2, (.const (.int .i64 55))), (3, (.const (.int .i64 70))), (4, (.const (.int .i64 85))), (5, (.const (.int .i64 90)))]), none⟩,
   ⟨(some 20), (.call (.mk (.value (.func 64)) #[(.tmp 18), (.tmp 19)] #[80, 30])), none⟩,
   ⟨(some 8), (.assign (.tmp 20)), none⟩])
 (.seq (.seq (.reg [⟨(some 9), (.assign (.const (.int .i64 0))), none⟩])
 (.block 0 (.loop (.seq (.seq (.reg [⟨(some 21), (.move (.tmp 9)), none⟩,
   ⟨(some 22), (.move (.tmp 2)), none⟩,
   ⟨(some 23), (.binOp .lss 3 (.tmp 21) (.tmp 22) 3), none⟩])
 (.cond (.tmp 23) .skip (.exit 0)))
 (.seq (.block 1 (.regt [⟨(some 26), (.fieldAddr 72 (.tmp 7) 3), none⟩,
   ⟨(some 27), (.load 30 (.tmp 26)), none⟩,
   ⟨(some 28), (.move (.tmp 8)), none⟩,
   ⟨(some 29), (.move (.tmp 0)), none⟩] (.one true ⟨(some 30), (.buildSlice 30 7 #[(0, (.const (.int .i64 (-10)))), (1, (.const (.int .i64 (-1)))), (2, (.const (.int .i64 0))), (3, (.const (.int .i64 0))), (4, (.const (.int .i64 0))), (5, (.const (.int .i64 1))), (6, (.const (.int .i64 10)))]), none⟩
   (.one true ⟨(some 31), (.call (.mk (.value (.func 64)) #[(.tmp 29), (.tmp 30)] #[80, 30])), none⟩
   (.one true ⟨(some 32), (.binOp .add 3 (.tmp 28) (.tmp 31) 3), none⟩
   (.one true ⟨(some 33), (.buildSlice 30 1 #[(0, (.tmp 32))]), none⟩
   (.one false ⟨(some 34), (.call (.mk (.builtin .append) #[(.tmp 27), (.tmp 33)] #[30, 30])), none⟩
   (.one false ⟨(some 35), (.fieldAddr 72 (.tmp 7) 3), none⟩
   (.one false ⟨none, (.store 30 (.tmp 35) (.tmp 34)), none⟩
   .done))))))) []))
 (.reg [⟨(some 24), (.move (.tmp 9)), none⟩,
   ⟨(some 25), (.binOp .add 3 (.tmp 24) (.const (.int .i64 1)) 3), none⟩,
   ⟨(some 9), (.assign (.tmp 25)), none⟩]))))))
 (.seq (.seq (.reg [⟨(some 36), (.move (.tmp 0)), none⟩,
   ⟨(some 37), (.call (.mk (.value (.func 65)) #[(.tmp 36), (.const (.int .i64 100))] #[80, 3])), none⟩])
 (.block 2 (.seq (.reg [⟨(some 39), (.binOp .eql 3 (.tmp 37) (.const (.int .i64 0)) 3), none⟩,
   ⟨(some 38), (.assign (.tmp 39)), none⟩])
 (.cond (.tmp 38) (.reg [⟨(some 40), (.move (.tmp 0)), none⟩,
   ⟨(some 41), (.buildSlice 30 3 #[(0, (.const (.int .i64 0))), (1, (.const (.int .i64 99))), (2, (.const (.int .i64 100)))]), none⟩,
   ⟨(some 42), (.call (.mk (.value (.func 64)) #[(.tmp 40), (.tmp 41)] #[80, 30])), none⟩,
   ⟨(some 43), (.fieldAddr 72 (.tmp 7) 0), none⟩,
   ⟨none, (.store 3 (.tmp 43) (.tmp 42)), none⟩]) (.seq (.reg [⟨(some 45), (.binOp .eql 3 (.tmp 37) (.const (.int .i64 1)) 3), none⟩,
   ⟨(some 44), (.assign (.tmp 45)), none⟩])
 (.cond (.tmp 44) (.reg [⟨(some 46), (.move (.tmp 0)), none⟩,
   ⟨(some 47), (.buildSlice 122 2 #[(0, (.const (.string (ByteArray.mk #[])))), (1, (.const (.string (ByteArray.mk #[66, 101, 114, 110]))))]), none⟩,
   ⟨(some 48), (.call (.mk (.value (.func 146)) #[(.tmp 46), (.tmp 47)] #[80, 122])), none⟩,
   ⟨(some 49), (.fieldAddr 72 (.tmp 7) 1), none⟩,
   ⟨none, (.store 9 (.tmp 49) (.tmp 48)), none⟩]) (.seq (.reg [⟨(some 51), (.binOp .eql 3 (.tmp 37) (.const (.int .i64 2)) 3), none⟩,
   ⟨(some 50), (.assign (.tmp 51)), none⟩])
 (.cond (.tmp 50) (.reg [⟨(some 52), (.move (.tmp 0)), none⟩,
   ⟨(some 53), (.buildSlice 30 2 #[(0, (.const (.int .i64 0))), (1, (.const (.int .i64 17)))]), none⟩,
   ⟨(some 54), (.call (.mk (.value (.func 64)) #[(.tmp 52), (.tmp 53)] #[80, 30])), none⟩,
   ⟨(some 55), (.fieldAddr 72 (.tmp 7) 2), none⟩,
   ⟨none, (.store 3 (.tmp 55) (.tmp 54)), none⟩]) (.seq (.reg [⟨(some 57), (.binOp .eql 3 (.tmp 37) (.const (.int .i64 3)) 3), none⟩,
   ⟨(some 56), (.assign (.tmp 57)), none⟩])
 (.cond (.tmp 56) (.reg [⟨(some 58), (.fieldAddr 72 (.tmp 7) 3), none⟩,
   ⟨(some 59), (.load 30 (.tmp 58)), none⟩,
   ⟨(some 60), (.call (.mk (.value (.func 147)) #[(.tmp 59)] #[30])), none⟩,
   ⟨(some 61), (.buildSlice 30 1 #[(0, (.const (.int .i64 50)))]), none⟩,
   ⟨(some 62), (.call (.mk (.builtin .append) #[(.tmp 60), (.tmp 61)] #[30, 30])), none⟩,
   ⟨(some 63), (.fieldAddr 72 (.tmp 7) 3), none⟩,
   ⟨none, (.store 30 (.tmp 63) (.tmp 62)), none⟩]) (.seq (.reg [⟨(some 65), (.binOp .eql 3 (.tmp 37) (.const (.int .i64 4)) 3), none⟩,
   ⟨(some 64), (.assign (.tmp 65)), none⟩])
 (.cond (.tmp 64) (.regt [⟨(some 66), (.fieldAddr 72 (.tmp 7) 3), none⟩,
   ⟨(some 67), (.load 30 (.tmp 66)), none⟩,
   ⟨(some 68), (.move (.tmp 0)), none⟩] (.one true ⟨(some 69), (.buildSlice 30 2 #[(0, (.const (.int .i64 (-1)))), (1, (.const (.int .i64 101)))]), none⟩
   (.one true ⟨(some 70), (.call (.mk (.value (.func 64)) #[(.tmp 68), (.tmp 69)] #[80, 30])), none⟩
   (.one false ⟨(some 71), (.indexAddr 30 (.tmp 67) (.const (.int .i64 0))), none⟩
   (.one false ⟨none, (.store 3 (.tmp 71) (.tmp 70)), none⟩
   .done)))) []) .skip))))))))))))
 (.seq (.reg [⟨(some 72), (.load 72 (.tmp 7)), none⟩,
   ⟨none, (.store 72 (.tmp 6) (.tmp 72)), none⟩])
 .ret))))))
theorem x_spec_l1Cur_show23 : Txt Tryd.prog 114 c_spec_l1Cur_show23 [.cell 6 72] 3 := ⟨by kernel_rfl, by kernel_rfl, _, _, Tryd.func114, rfl, by kernel_rfl, by kernel_rfl, by kernel_rfl, rfl, by decide⟩
/-- loop.example/g01062/impl.isExhibit -/
def c_impl_isExhibit : Cd :=
 (.seq (.reg [⟨(some 2), (.assign (.const (.bool false))), none⟩])
 (.seq (.reg [⟨(some 3), (.move (.tmp 0)), none⟩,
   ⟨(some 4), (.nilCheck (.tmp 3)), none⟩,
   ⟨(some 5), (.fieldAddr 72 (.tmp 4) 0), none⟩,
   ⟨(some 6), (.load 3 (.tmp 5)), none⟩,
   ⟨(some 7), (.call (.mk (.value (.func 97)) #[(.tmp 6), (.const (.int .i64 1)), (.const (.int .i64 99))] #[3, 3, 3])), none⟩,
   ⟨(some 8), (.move (.tmp 7)), none⟩,
   ⟨(some 9), (.move (.tmp 0)), (some (8, true))⟩,
   ⟨(some 10), (.nilCheck (.tmp 9)), (some (8, true))⟩,
   ⟨(some 11), (.fieldAddr 72 (.tmp 10) 1), (some (8, true))⟩,
   ⟨(some 12), (.load 9 (.tmp 11)), (some (8, true))⟩,
   ⟨(some 13), (.call (.mk (.value (.func 148)) #[(.tmp 12)] #[9])), (some (8, true))⟩,
   ⟨(some 14), (.pick (.tmp 8) (.tmp 13) (.const (.bool false))), none⟩,
   ⟨(some 15), (.move (.tmp 14)), none⟩,
   ⟨(some 16), (.move (.tmp 0)), (some (15, true))⟩,
   ⟨(some 17), (.nilCheck (.tmp 16)), (some (15, true))⟩,
   ⟨(some 18), (.fieldAddr 72 (.tmp 17) 2), (some (15, true))⟩,
   ⟨(some 19), (.load 3 (.tmp 18)), (some (15, true))⟩,
   ⟨(some 20), (.call (.mk (.value (.func 97)) #[(.tmp 19), (.const (.int .i64 1)), (.const (.int .i64 16))] #[3, 3, 3])), (some (15, true))⟩,
   ⟨(some 21), (.pick (.tmp 15) (.tmp 20) (.const (.bool false))), none⟩,
   ⟨(some 22), (.move (.tmp 21)), none⟩,
   ⟨(some 23), (.move (.tmp 0)), (some (22, true))⟩,
   ⟨(some 24), (.nilCheck (.tmp 23)), (some (22, true))⟩,
   ⟨(some 25), (.fieldAddr 72 (.tmp 24) 3), (some (22, true))⟩,
   ⟨(some 26), (.load 30 (.tmp 25)), (some (22, true))⟩,
   ⟨(some 27), (.call (.mk (.builtin .len) #[(.tmp 26)] #[30])), (some (22, true))⟩,
   ⟨(some 28), (.call (.mk (.value (.func 97)) #[(.tmp 27), (.const (.int .i64 3)), (.const (.int .i64 7))] #[3, 3, 3])), (some (22, true))⟩,
   ⟨(some 29), (.pick (.tmp 22) (.tmp 28) (.const (.bool false))), none⟩,
   ⟨(some 30), (.move (.tmp 29)), none⟩,
   ⟨(some 31), (.move (.tmp 0)), (some (30, true))⟩,
   ⟨(some 32), (.nilCheck (.tmp 31)), (some (30, true))⟩,
   ⟨(some 33), (.fieldAddr 72 (.tmp 32) 3), (some (30, true))⟩,
   ⟨(some 34), (.load 30 (.tmp 33)), (some (30, true))⟩,
   ⟨(some 35), (.call (.mk (.value (.func 93)) #[(.tmp 34), (.func 149)] #[30, 88])), (some (30, true))⟩,
   ⟨(some 36), (.unOp .not 4 (.tmp 35)), (some (30, true))⟩,
   ⟨(some 37), (.pick (.tmp 30) (.tmp 36) (.const (.bool false))), none⟩,
   ⟨(some 2), (.assign (.tmp 37)), none⟩])
 .ret))
theorem x_impl_isExhibit : Txt Tryd.prog 115 c_impl_isExhibit [.tmp 2] 1 := ⟨by kernel_rfl, by kernel_rfl, _, _, Tryd.func115, rfl, by kernel_rfl, by kernel_rfl, by kernel_rfl, rfl, by decide⟩
/-- loop.example/g01062/impl.fraction -/
def c_impl_fraction : Cd :=
 (.seq (.reg [⟨(some 4), (.assign (.const (.int .i64 0))), none⟩,
   ⟨(some 5), (.assign (.const (.int .i64 0))), none⟩])
 (.seq (.reg [⟨(some 7), (.move (.tmp 0)), none⟩,
   ⟨(some 8), (.move (.tmp 0)), none⟩,
   ⟨(some 9), (.unOp .neg 3 (.tmp 8)), none⟩,
   ⟨(some 10), (.call (.mk (.builtin .max) #[(.tmp 7), (.tmp 9)] #[3, 3])), none⟩,
   ⟨(some 11), (.move (.tmp 1)), none⟩,
   ⟨(some 12), (.call (.mk (.value (.func 150)) #[(.tmp 10), (.tmp 11)] #[3, 3])), none⟩,
   ⟨(some 6), (.assign (.tmp 12)), none⟩])
 (.seq (.regq [⟨(some 13), (.move (.tmp 0)), none⟩,
   ⟨(some 14), (.move (.tmp 6)), none⟩,
   ⟨(some 15), (.binOp .quo 3 (.tmp 13) (.tmp 14) 3), none⟩,
   ⟨(some 16), (.move (.tmp 1)), none⟩,
   ⟨(some 17), (.move (.tmp 6)), none⟩,
   ⟨(some 18), (.binOp .quo 3 (.tmp 16) (.tmp 17) 3), none⟩,
   ⟨(some 4), (.assign (.tmp 15)), none⟩,
   ⟨(some 5), (.assign (.tmp 18)), none⟩])
 .ret)))
theorem x_impl_fraction : Txt Tryd.prog 116 c_impl_fraction [.tmp 4, .tmp 5] 2 := ⟨by kernel_rfl, by kernel_rfl, _, _, Tryd.func116, rfl, by kernel_rfl, by kernel_rfl, by kernel_rfl, rfl, by decide⟩
/-- loop.example/g01062/impl.scoreOf -/
def c_impl_scoreOf : Cd :=
 (.seq (.reg [⟨(some 2), (.assign (.const (.int .i64 0))), none⟩])
 (.seq (.reg [⟨(some 6), (.move (.tmp 0)), none⟩,
   ⟨(some 7), (.call (.mk (.value (.func 142)) #[(.tmp 6)] #[30])), none⟩,
   ⟨(some 8), (.unOp .neg 3 (.tmp 7)), none⟩,
   ⟨(some 9), (.move (.tmp 0)), none⟩,
   ⟨(some 10), (.call (.mk (.value (.func 151)) #[(.tmp 9)] #[30])), none⟩,
   ⟨(some 11), (.binOp .sub 3 (.tmp 8) (.tmp 10) 3), none⟩,
   ⟨(some 3), (.assign (.tmp 11)), none⟩])
 (.seq (.seq (.reg [⟨(some 12), (.move (.tmp 0)), none⟩,
   ⟨(some 13), (.call (.mk (.builtin .len) #[(.tmp 12)] #[30])), none⟩,
   ⟨(some 14), (.move (.const (.int .i64 0))), none⟩])
 (.block 0 (.loop (.seq (.reg [⟨(some 15), (.binOp .lss 3 (.tmp 14) (.tmp 13) 3), none⟩])
 (.seq (.cond (.tmp 15) .skip (.exit 0))
 (.seq (.block 1 (.seq (.reg [⟨(some 16), (.indexAddr 30 (.tmp 12) (.tmp 14)), none⟩,
   ⟨(some 17), (.load 3 (.tmp 16)), none⟩,
   ⟨(some 5), (.assign (.tmp 17)), none⟩])
 (.reg [⟨(some 18), (.move (.tmp 3)), none⟩,
   ⟨(some 19), (.move (.tmp 5)), none⟩,
   ⟨(some 20), (.binOp .add 3 (.tmp 18) (.tmp 19) 3), none⟩,
   ⟨(some 3), (.assign (.tmp 20)), none⟩])))
 (.reg [⟨(some 21), (.binOp .add 3 (.tmp 14) (.const (.int .i64 1)) 3), none⟩,
   ⟨(some 14), (.move (.tmp 21)), none⟩])))))))
 (.seq (.reg [⟨(some 22), (.move (.tmp 3)), none⟩,
   ⟨(some 2), (.assign (.tmp 22)), none⟩])
 .ret))))
theorem x_impl_scoreOf : Txt Tryd.prog 117 c_impl_scoreOf [.tmp 2] 1 := ⟨by kernel_rfl, by kernel_rfl, _, _, Tryd.func117, rfl, by kernel_rfl, by kernel_rfl, by kernel_rfl, rfl, by decide⟩
/-- loop.example/g01062/spec.l23One -/
def c_spec_l23One : Cd :=
 (.seq (.reg [⟨(some 1), (.box 72 (.tmp 0)), none⟩,
   ⟨(some 2), (.assign (.const (.bool false))), none⟩])
 (.seq (.seq (.reg [⟨(some 4), (.fieldAddr 72 (.tmp 1) 0), none⟩,
   ⟨(some 5), (.load 3 (.tmp 4)), none⟩,
   ⟨(some 6), (.call (.mk (.value (.func 99)) #[(.tmp 5), (.const (.int .i64 1)), (.const (.int .i64 99))] #[3, 3, 3])), none⟩,
   ⟨(some 7), (.unOp .not 4 (.tmp 6)), none⟩,
   ⟨(some 8), (.move (.tmp 7)), none⟩,
   ⟨(some 9), (.fieldAddr 72 (.tmp 1) 1), (some (8, false))⟩,
   ⟨(some 10), (.load 9 (.tmp 9)), (some (8, false))⟩,
   ⟨(some 11), (.call (.mk (.value (.func 152)) #[(.tmp 10)] #[9])), (some (8, false))⟩,
   ⟨(some 12), (.unOp .not 4 (.tmp 11)), (some (8, false))⟩,
   ⟨(some 13), (.pick (.tmp 8) (.const (.bool true)) (.tmp 12)), none⟩,
   ⟨(some 14), (.move (.tmp 13)), none⟩,
   ⟨(some 15), (.fieldAddr 72 (.tmp 1) 2), (some (14, false))⟩,
   ⟨(some 16), (.load 3 (.tmp 15)), (some (14, false))⟩,
   ⟨(some 17), (.call (.mk (.value (.func 99)) #[(.tmp 16), (.const (.int .i64 1)), (.const (.int .i64 16))] #[3, 3, 3])), (some (14, false))⟩,
   ⟨(some 18), (.unOp .not 4 (.tmp 17)), (some (14, false))⟩,
   ⟨(some 19), (.pick (.tmp 14) (.const (.bool true)) (.tmp 18)), none⟩,
   ⟨(some 20), (.move (.tmp 19)), none⟩,
   ⟨(some 21), (.fieldAddr 72 (.tmp 1) 3), (some (20, false))⟩,
   ⟨(some 22), (.load 30 (.tmp 21)), (some (20, false))⟩,
   ⟨(some 23), (.call (.mk (.builtin .len) #[(.tmp 22)] #[30])), (some (20, false))⟩,
   ⟨(some 24), (.call (.mk (.value (.func 99)) #[(.tmp 23), (.const (.int .i64 3)), (.const (.int .i64 7))] #[3, 3, 3])), (some (20, false))⟩,
   ⟨(some 25), (.unOp .not 4 (.tmp 24)), (some (20, false))⟩,
   ⟨(some 26), (.pick (.tmp 20) (.const (.bool true)) (.tmp 25)), none⟩])
 (.cond (.tmp 26) (.seq (.reg [⟨(some 2), (.assign (.const (.bool false))), none⟩])
 .ret) .skip))
 (.seq (.seq (.reg [⟨(some 3), (.assign (.const (.int .i64 0))), none⟩])
 (.block 0 (.loop (.seq (.seq (.reg [⟨(some 27), (.move (.tmp 3)), none⟩,
   ⟨(some 28), (.fieldAddr 72 (.tmp 1) 3), none⟩,
   ⟨(some 29), (.load 30 (.tmp 28)), none⟩,
   ⟨(some 30), (.call (.mk (.builtin .len) #[(.tmp 29)] #[30])), none⟩,
   ⟨(some 31), (.binOp .lss 3 (.tmp 27) (.tmp 30) 3), none⟩])
 (.cond (.tmp 31) .skip (.exit 0)))
 (.seq (.block 1 (.seq (.reg [⟨(some 34), (.fieldAddr 72 (.tmp 1) 3), none⟩,
   ⟨(some 35), (.load 30 (.tmp 34)), none⟩,
   ⟨(some 36), (.move (.tmp 3)), none⟩,
   ⟨(some 37), (.indexAddr 30 (.tmp 35) (.tmp 36)), none⟩,
   ⟨(some 38), (.load 3 (.tmp 37)), none⟩,
   ⟨(some 39), (.call (.mk (.value (.func 99)) #[(.tmp 38), (.const (.int .i64 0)), (.const (.int .i64 100))] #[3, 3, 3])), none⟩,
   ⟨(some 40), (.unOp .not 4 (.tmp 39)), none⟩])
 (.cond (.tmp 40) (.seq (.reg [⟨(some 2), (.assign (.const (.bool false))), none⟩])
 .ret) .skip)))
 (.reg [⟨(some 32), (.move (.tmp 3)), none⟩,
   ⟨(some 33), (.binOp .add 3 (.tmp 32) (.const (.int .i64 1)) 3), none⟩,
   ⟨(some 3), (.assign (.tmp 33)), none⟩]))))))
 (.seq (.reg [⟨(some 2), (.assign (.const (.bool true))), none⟩])
 .ret))))
theorem x_spec_l23One : Txt Tryd.prog 118 c_spec_l23One [.tmp 2] 1 := ⟨by kernel_rfl, by kernel_rfl, _, _, Tryd.func118, rfl, by kernel_rfl, by kernel_rfl, by kernel_rfl, rfl, by decide⟩
/-- loop.example/g01062/spec.l2Reduce -/
def c_spec_l2Reduce : Cd :=
 (.seq (.reg [⟨(some 4), (.assign (.const (.int .i64 0))), none⟩,
   ⟨(some 5), (.assign (.const (.int .i64 0))), none⟩])
 (.seq (.reg [⟨(some 9), (.move (.tmp 0)), none⟩,
   ⟨(some 10), (.move (.tmp 0)), none⟩,
   ⟨(some 11), (.unOp .neg 3 (.tmp 10)), none⟩,
   ⟨(some 12), (.call (.mk (.value (.func 153)) #[(.tmp 9), (.tmp 11)] #[3, 3])), none⟩,
   ⟨(some 13), (.move (.tmp 1)), none⟩,
   ⟨(some 6), (.assign (.tmp 12)), none⟩,
   ⟨(some 7), (.assign (.tmp 13)), none⟩])
 (.seq (.block 0 (.loop (.seq (.seq (.reg [⟨(some 14), (.move (.tmp 7)), none⟩,
   ⟨(some 15), (.binOp .neq 3 (.tmp 14) (.const (.int .i64 0)) 3), none⟩])
 (.cond (.tmp 15) .skip (.exit 0)))
 (.block 1 (.seq (.reg [⟨(some 16), (.move (.tmp 6)), none⟩,
   ⟨(some 17), (.move (.tmp 7)), none⟩,
   ⟨(some 18), (.binOp .rem 3 (.tmp 16) (.tmp 17) 3), none⟩,
   ⟨(some 8), (.assign (.tmp 18)), none⟩])
 (.seq (.reg [⟨(some 19), (.move (.tmp 7)), none⟩,
   ⟨(some 6), (.assign (.tmp 19)), none⟩])
 (.reg [⟨(some 20), (.move (.tmp 8)), none⟩,
   ⟨(some 7), (.assign (.tmp 20)), none⟩])))))))
 (.seq (.regq [⟨(some 21), (.move (.tmp 0)), none⟩,
   ⟨(some 22), (.move (.tmp 6)), none⟩,
   ⟨(some 23), (.binOp .quo 3 (.tmp 21) (.tmp 22) 3), none⟩,
   ⟨(some 24), (.move (.tmp 1)), none⟩,
   ⟨(some 25), (.move (.tmp 6)), none⟩,
   ⟨(some 26), (.binOp .quo 3 (.tmp 24) (.tmp 25) 3), none⟩,
   ⟨(some 4), (.assign (.tmp 23)), none⟩,
   ⟨(some 5), (.assign (.tmp 26)), none⟩])
 .ret))))
theorem x_spec_l2Reduce : Txt Tryd.prog 119 c_spec_l2Reduce [.tmp 4, .tmp 5] 2 := ⟨by kernel_rfl, by kernel_rfl, _, _, Tryd.func119, rfl, by kernel_rfl, by kernel_rfl, by kernel_rfl, rfl, by decide⟩
/-- loop.example/g01062/spec.l23Sum -/
def c_spec_l23Sum : Cd :=
 (.seq (.reg [⟨(some 2), (.assign (.const (.int .i64 0))), none⟩])
 (.seq (.reg [⟨(some 8), (.move (.tmp 0)), none⟩,
   ⟨(some 9), (.call (.mk (.value (.func 143)) #[(.tmp 8)] #[30])), none⟩,
   ⟨(some 7), (.move (.tmp 9)), none⟩,
   ⟨(some 10), (.extract (.tmp 7) 0), none⟩,
   ⟨(some 11), (.extract (.tmp 7) 1), none⟩,
   ⟨(some 3), (.assign (.tmp 10)), none⟩,
   ⟨(some 4), (.assign (.tmp 11)), none⟩])
 (.seq (.reg [⟨(some 12), (.move (.tmp 3)), none⟩,
   ⟨(some 13), (.unOp .neg 3 (.tmp 12)), none⟩,
   ⟨(some 14), (.move (.tmp 4)), none⟩,
   ⟨(some 15), (.binOp .sub 3 (.tmp 13) (.tmp 14) 3), none⟩,
   ⟨(some 5), (.assign (.tmp 15)), none⟩])
 (.seq (.seq (.reg [⟨(some 6), (.assign (.const (.int .i64 0))), none⟩])
 (.block 0 (.loop (.seq (.seq (.reg [⟨(some 16), (.move (.tmp 6)), none⟩,
   ⟨(some 17), (.move (.tmp 0)), none⟩,
   ⟨(some 18), (.call (.mk (.builtin .len) #[(.tmp 17)] #[30])), none⟩,
   ⟨(some 19), (.binOp .lss 3 (.tmp 16) (.tmp 18) 3), none⟩])
 (.cond (.tmp 19) .skip (.exit 0)))
 (.seq (.block 1 (.reg [⟨(some 22), (.move (.tmp 5)), none⟩,
   ⟨(some 23), (.move (.tmp 0)), none⟩,
   ⟨(some 24), (.move (.tmp 6)), none⟩,
   ⟨(some 25), (.indexAddr 30 (.tmp 23) (.tmp 24)), none⟩,
   ⟨(some 26), (.load 3 (.tmp 25)), none⟩,
   ⟨(some 27), (.binOp .add 3 (.tmp 22) (.tmp 26) 3), none⟩,
   ⟨(some 5), (.assign (.tmp 27)), none⟩]))
 (.reg [⟨(some 20), (.move (.tmp 6)), none⟩,
   ⟨(some 21), (.binOp .add 3 (.tmp 20) (.const (.int .i64 1)) 3), none⟩,
   ⟨(some 6), (.assign (.tmp 21)), none⟩]))))))
 (.seq (.reg [⟨(some 28), (.move (.tmp 5)), none⟩,
   ⟨(some 2), (.assign (.tmp 28)), none⟩])
 .ret)))))
theorem x_spec_l23Sum : Txt Tryd.prog 120 c_spec_l23Sum [.tmp 2] 1 := ⟨by kernel_rfl, by kernel_rfl, _, _, Tryd.func120, rfl, by kernel_rfl, by kernel_rfl, by kernel_rfl, rfl, by decide⟩
/-- (*loop.example/g01062/spec.l1Cur).shows23 -/
def c_spec_l1Cur_shows23 : Cd :=
 (.seq (.reg [⟨(some 2), (.assign (.const (.slice none 0 0))), none⟩])
 (.seq (.reg [⟨(some 8), (.buildSlice 66 0 #[]), none⟩,
   ⟨(some 3), (.assign (.tmp 8)), none⟩])
 (.seq (.reg [⟨(some 9), (.move (.tmp 0)), none⟩,
   ⟨(some 10), (.buildSlice 30 7 #[(0, (.const (.int .i64 3))), (1, (.const (.int .i64 3))), (2, (.const (.int .i64 4))), (3, (.const (.int .i64 5))), (4, (.const (.int .i64 7))), (5, (.const (.int .i64 2))), (6, (.const (.int .i64 8)))]), none⟩,
   ⟨(some 11), (.move (.tmp 0)), none⟩,
   ⟨(some 12), (.call (.mk (.value (.func 65)) #[(.tmp 11), (.const (.int .i64 24))] #[80, 3])), none⟩,
   ⟨(some 13), (.binOp .quo 3 (.tmp 12) (.const (.int .i64 11)) 3), none⟩,
   ⟨(some 14), (.binOp .add 3 (.const (.int .i64 5)) (.tmp 13) 3), none⟩,
   ⟨(some 15), (.slice 30 (.tmp 10) none (some (.tmp 14)) none), none⟩,
   ⟨(some 16), (.call (.mk (.value (.func 64)) #[(.tmp 9), (.tmp 15)] #[80, 30])), none⟩,
   ⟨(some 4), (.assign (.tmp 16)), none⟩])
 (.seq (.reg [⟨(some 5), (.assign (.const (.int .i64 0))), none⟩])
 (.seq (.seq (.reg [⟨(some 17), (.move (.tmp 0)), none⟩,
   ⟨(some 18), (.call (.mk (.value (.func 65)) #[(.tmp 17), (.const (.int .i64 6))] #[80, 3])), none⟩,
   ⟨(some 6), (.assign (.tmp 18)), none⟩])
 (.block 0 (.loop (.seq (.seq (.reg [⟨(some 19), (.move (.tmp 6)), none⟩,
   ⟨(some 20), (.binOp .gtr 3 (.tmp 19) (.const (.int .i64 0)) 3), none⟩])
 (.cond (.tmp 20) .skip (.exit 0)))
 (.seq (.block 1 (.seq (.reg [⟨(some 23), (.move (.tmp 5)), none⟩,
   ⟨(some 24), (.binOp .add 3 (.tmp 23) (.const (.int .i64 1)) 3), none⟩,
   ⟨(some 25), (.move (.tmp 0)), none⟩,
   ⟨(some 26), (.call (.mk (.value (.func 65)) #[(.tmp 25), (.const (.int .i64 3))] #[80, 3])), none⟩,
   ⟨(some 27), (.binOp .add 3 (.tmp 24) (.tmp 26) 3), none⟩,
   ⟨(some 28), (.move (.tmp 0)), none⟩,
   ⟨(some 29), (.call (.mk (.value (.func 65)) #[(.tmp 28), (.const (.int .i64 150))] #[80, 3])), none⟩,
   ⟨(some 30), (.binOp .quo 3 (.tmp 29) (.const (.int .i64 149)) 3), none⟩,
   ⟨(some 31), (.binOp .sub 3 (.tmp 27) (.tmp 30) 3), none⟩,
   ⟨(some 5), (.assign (.tmp 31)), none⟩])
 (.reg [⟨(some 32), (.move (.tmp 3)), none⟩,
   ⟨(some 33), (.move (.tmp 0)), none⟩,
   ⟨(some 34), (.move (.tmp 5)), none⟩,
   ⟨(some 35), (.move (.tmp 4)), none⟩,
   ⟨(some 36), (.call (.mk (.value (.func 114)) #[(.tmp 33), (.tmp 34), (.tmp 35)] #[80, 3, 3])), none⟩,
   ⟨(some 37), (.buildSlice 66 1 #[(0, (.tmp 36))]), none⟩,
   ⟨(some 38), (.call (.mk (.builtin .append) #[(.tmp 32), (.tmp 37)] #[66, 66])), none⟩,
   ⟨(some 3), (.assign (.tmp 38)), none⟩])))
 (.reg [⟨(some 21), (.move (.tmp 6)), none⟩,
   ⟨(some 22), (.binOp .sub 3 (.tmp 21) (.const (.int .i64 1)) 3), none⟩,
   ⟨(some 6), (.assign (.tmp 22)), none⟩]))))))
 (.seq (.seq (.reg [⟨(some 39), (.move (.tmp 0)), none⟩,
   ⟨(some 40), (.call (.mk (.value (.func 73)) #[(.tmp 39), (.const (.int .i64 24))] #[80, 3])), none⟩])
 (.cond (.tmp 40) (.seq (.reg [⟨(some 41), (.buildSlice 66 0 #[]), none⟩,
   ⟨(some 3), (.assign (.tmp 41)), none⟩])
 (.seq (.reg [⟨(some 7), (.assign (.const (.int .i64 0))), none⟩])
 (.block 2 (.loop (.seq (.seq (.reg [⟨(some 42), (.move (.tmp 7)), none⟩,
   ⟨(some 43), (.move (.tmp 0)), none⟩,
   ⟨(some 44), (.call (.mk (.value (.func 65)) #[(.tmp 43), (.const (.int .i64 2))] #[80, 3])), none⟩,
   ⟨(some 45), (.binOp .add 3 (.const (.int .i64 10)) (.tmp 44) 3), none⟩,
   ⟨(some 46), (.binOp .lss 3 (.tmp 42) (.tmp 45) 3), none⟩])
 (.cond (.tmp 46) .skip (.exit 2)))
 (.seq (.block 3 (.reg [⟨(some 49), (.move (.tmp 3)), none⟩,
   ⟨(some 50), (.move (.tmp 7)), none⟩,
   ⟨(some 51), (.binOp .add 3 (.tmp 50) (.const (.int .i64 1)) 3), none⟩,
   ⟨(some 52), (.move (.tmp 7)), none⟩,
   ⟨(some 53), (.binOp .mul 3 (.const (.int .i64 10)) (.tmp 52) 3), none⟩,
   ⟨(some 54), (.buildSlice 30 3 #[(0, (.tmp 53)), (1, (.const (.int .i64 50))), (2, (.const (.int .i64 90)))]), none⟩,
   ⟨(some 55), (.build 72 #[(0, (.tmp 51)), (1, (.const (.string (ByteArray.mk #[98, 101, 114, 110])))), (2, (.const (.int .i64 5))), (3, (.tmp 54))]), none⟩,
   ⟨(some 56), (.buildSlice 66 1 #[(0, (.tmp 55))]), none⟩,
   ⟨(some 57), (.call (.mk (.builtin .append) #[(.tmp 49), (.tmp 56)] #[66, 66])), none⟩,
   ⟨(some 3), (.assign (.tmp 57)), none⟩]))
 (.reg [⟨(some 47), (.move (.tmp 7)), none⟩,
   ⟨(some 48), (.binOp .add 3 (.tmp 47) (.const (.int .i64 1)) 3), none⟩,
   ⟨(some 7), (.assign (.tmp 48)), none⟩]))))))) .skip))
 (.seq (.reg [⟨(some 58), (.move (.tmp 3)), none⟩,
   ⟨(some 2), (.assign (.tmp 58)), none⟩])
 .ret)))))))
theorem x_spec_l1Cur_shows23 : Txt Tryd.prog 121 c_spec_l1Cur_shows23 [.tmp 2] 1 := ⟨by kernel_rfl, by kernel_rfl, _, _, Tryd.func121, rfl, by kernel_rfl, by kernel_rfl, by kernel_rfl, rfl, by decide⟩
/-- (*loop.example/g01062/spec.l1Cur).showId -/
def c_spec_l1Cur_showId : Cd :=
 (.seq (.reg [⟨(some 4), (.assign (.const (.int .i64 0))), none⟩])
 (.seq (.seq (.reg [⟨(some 5), (.move (.tmp 1)), none⟩,
   ⟨(some 6), (.call (.mk (.builtin .len) #[(.tmp 5)] #[66])), none⟩,
   ⟨(some 7), (.binOp .eql 3 (.tmp 6) (.const (.int .i64 0)) 3), none⟩,
   ⟨(some 8), (.move (.tmp 7)), none⟩,
   ⟨(some 9), (.move (.tmp 0)), (some (8, false))⟩,
   ⟨(some 10), (.call (.mk (.value (.func 73)) #[(.tmp 9), (.const (.int .i64 10))] #[80, 3])), (some (8, false))⟩,
   ⟨(some 11), (.pick (.tmp 8) (.const (.bool true)) (.tmp 10)), none⟩])
 (.cond (.tmp 11) (.seq (.reg [⟨(some 12), (.move (.tmp 0)), none⟩,
   ⟨(some 13), (.buildSlice 30 3 #[(0, (.const (.int .i64 0))), (1, (.const (.int .i64 1))), (2, (.const (.int .i64 50)))]), none⟩,
   ⟨(some 14), (.call (.mk (.value (.func 64)) #[(.tmp 12), (.tmp 13)] #[80, 30])), none⟩,
   ⟨(some 4), (.assign (.tmp 14)), none⟩])
 .ret) .skip))
 (.seq (.reg [⟨(some 15), (.move (.tmp 1)), none⟩,
   ⟨(some 16), (.move (.tmp 0)), none⟩,
   ⟨(some 17), (.move (.tmp 1)), none⟩,
   ⟨(some 18), (.call (.mk (.builtin .len) #[(.tmp 17)] #[66])), none⟩,
   ⟨(some 19), (.call (.mk (.value (.func 65)) #[(.tmp 16), (.tmp 18)] #[80, 3])), none⟩,
   ⟨(some 20), (.indexAddr 66 (.tmp 15) (.tmp 19)), none⟩,
   ⟨(some 21), (.fieldAddr 72 (.tmp 20) 0), none⟩,
   ⟨(some 22), (.load 3 (.tmp 21)), none⟩,
   ⟨(some 4), (.assign (.tmp 22)), none⟩])
 .ret)))
theorem x_spec_l1Cur_showId : Txt Tryd.prog 122 c_spec_l1Cur_showId [.tmp 4] 2 := ⟨by kernel_rfl, by kernel_rfl, _, _, Tryd.func122, rfl, by kernel_rfl, by kernel_rfl, by kernel_rfl, rfl, by decide⟩
/-- loop.example/g01062/spec.l23Find -/
def c_spec_l23Find : Cd :=
 (.seq (.reg [⟨(some 4), (.assign (.const (.int .i64 0))), none⟩])
 (.seq (.seq (.reg [⟨(some 5), (.assign (.const (.int .i64 0))), none⟩])
 (.block 0 (.loop (.seq (.seq (.reg [⟨(some 6), (.move (.tmp 5)), none⟩,
   ⟨(some 7), (.move (.tmp 0)), none⟩,
   ⟨(some 8), (.call (.mk (.builtin .len) #[(.tmp 7)] #[66])), none⟩,
   ⟨(some 9), (.binOp .lss 3 (.tmp 6) (.tmp 8) 3), none⟩])
 (.cond (.tmp 9) .skip (.exit 0)))
 (.seq (.block 1 (.seq (.reg [⟨(some 12), (.move (.tmp 0)), none⟩,
   ⟨(some 13), (.move (.tmp 5)), none⟩,
   ⟨(some 14), (.indexAddr 66 (.tmp 12) (.tmp 13)), none⟩,
   ⟨(some 15), (.fieldAddr 72 (.tmp 14) 0), none⟩,
   ⟨(some 16), (.load 3 (.tmp 15)), none⟩,
   ⟨(some 17), (.move (.tmp 1)), none⟩,
   ⟨(some 18), (.binOp .eql 3 (.tmp 16) (.tmp 17) 3), none⟩])
 (.cond (.tmp 18) (.seq (.reg [⟨(some 19), (.move (.tmp 5)), none⟩,
   ⟨(some 4), (.assign (.tmp 19)), none⟩])
 .ret) .skip)))
 (.reg [⟨(some 10), (.move (.tmp 5)), none⟩,
   ⟨(some 11), (.binOp .add 3 (.tmp 10) (.const (.int .i64 1)) 3), none⟩,
   ⟨(some 5), (.assign (.tmp 11)), none⟩]))))))
 (.seq (.reg [⟨(some 4), (.assign (.const (.int .i64 (-1)))), none⟩])
 .ret)))
theorem x_spec_l23Find : Txt Tryd.prog 123 c_spec_l23Find [.tmp 4] 2 := ⟨by kernel_rfl, by kernel_rfl, _, _, Tryd.func123, rfl, by kernel_rfl, by kernel_rfl, by kernel_rfl, rfl, by decide⟩
/-- (*loop.example/g01062/spec.l1Cur).next -/
def c_spec_l1Cur_next : Cd :=
 (.seq (.reg [⟨(some 2), (.assign (.const (.int .i64 0))), none⟩])
 (.seq (.reg [⟨(some 3), (.assign (.const (.int .i64 0))), none⟩])
 (.seq (.seq (.regq [⟨(some 4), (.move (.tmp 0)), none⟩,
   ⟨(some 5), (.nilCheck (.tmp 4)), none⟩,
   ⟨(some 6), (.fieldAddr 83 (.tmp 5) 1), none⟩,
   ⟨(some 7), (.load 3 (.tmp 6)), none⟩,
   ⟨(some 8), (.move (.tmp 0)), none⟩,
   ⟨(some 9), (.nilCheck (.tmp 8)), none⟩,
   ⟨(some 10), (.fieldAddr 83 (.tmp 9) 0), none⟩,
   ⟨(some 11), (.load 22 (.tmp 10)), none⟩,
   ⟨(some 12), (.call (.mk (.builtin .len) #[(.tmp 11)] #[22])), none⟩,
   ⟨(some 13), (.binOp .lss 3 (.tmp 7) (.tmp 12) 3), none⟩])
 (.cond (.tmp 13) (.regq [⟨(some 14), (.move (.tmp 0)), none⟩,
   ⟨(some 15), (.nilCheck (.tmp 14)), none⟩,
   ⟨(some 16), (.fieldAddr 83 (.tmp 15) 0), none⟩,
   ⟨(some 17), (.load 22 (.tmp 16)), none⟩,
   ⟨(some 18), (.move (.tmp 0)), none⟩,
   ⟨(some 19), (.nilCheck (.tmp 18)), none⟩,
   ⟨(some 20), (.fieldAddr 83 (.tmp 19) 1), none⟩,
   ⟨(some 21), (.load 3 (.tmp 20)), none⟩,
   ⟨(some 22), (.indexAddr 22 (.tmp 17) (.tmp 21)), none⟩,
   ⟨(some 23), (.load 5 (.tmp 22)), none⟩,
   ⟨(some 24), (.convert 5 3 (.tmp 23)), none⟩,
   ⟨(some 3), (.assign (.tmp 24)), none⟩]) .skip))
 (.seq (.reg [⟨(some 25), (.move (.tmp 0)), none⟩,
   ⟨(some 26), (.nilCheck (.tmp 25)), none⟩,
   ⟨(some 27), (.fieldAddr 83 (.tmp 26) 1), none⟩,
   ⟨(some 28), (.load 3 (.tmp 27)), none⟩,
   ⟨(some 29), (.binOp .add 3 (.tmp 28) (.const (.int .i64 1)) 3), none⟩,
   ⟨(some 30), (.nilCheck (.tmp 25)), none⟩,
   ⟨(some 31), (.fieldAddr 83 (.tmp 30) 1), none⟩,
   ⟨none, (.store 3 (.tmp 31) (.tmp 29)), none⟩])
 (.seq (.reg [⟨(some 32), (.move (.tmp 0)), none⟩,
   ⟨(some 33), (.move (.tmp 0)), none⟩,
   ⟨(some 34), (.nilCheck (.tmp 33)), none⟩,
   ⟨(some 35), (.fieldAddr 83 (.tmp 34) 2), none⟩,
   ⟨(some 36), (.load 81 (.tmp 35)), none⟩,
   ⟨(some 37), (.binOp .mul 81 (.tmp 36) (.const (.int .u64 6364136223846793005)) 81), none⟩,
   ⟨(some 38), (.move (.tmp 3)), none⟩,
   ⟨(some 39), (.convert 3 81 (.tmp 38)), none⟩,
   ⟨(some 40), (.binOp .add 81 (.tmp 37) (.tmp 39) 81), none⟩,
   ⟨(some 41), (.binOp .add 81 (.tmp 40) (.const (.int .u64 381907)) 81), none⟩,
   ⟨(some 42), (.nilCheck (.tmp 32)), none⟩,
   ⟨(some 43), (.fieldAddr 83 (.tmp 42) 2), none⟩,
   ⟨none, (.store 81 (.tmp 43) (.tmp 41)), none⟩])
 (.seq (.seq (.regq [⟨(some 44), (.move (.tmp 0)), none⟩,
   ⟨(some 45), (.nilCheck (.tmp 44)), none⟩,
   ⟨(some 46), (.fieldAddr 83 (.tmp 45) 1), none⟩,
   ⟨(some 47), (.load 3 (.tmp 46)), none⟩,
   ⟨(some 48), (.move (.tmp 0)), none⟩,
   ⟨(some 49), (.nilCheck (.tmp 48)), none⟩,
   ⟨(some 50), (.fieldAddr 83 (.tmp 49) 0), none⟩,
   ⟨(some 51), (.load 22 (.tmp 50)), none⟩,
   ⟨(some 52), (.call (.mk (.builtin .len) #[(.tmp 51)] #[22])), none⟩,
   ⟨(some 53), (.binOp .leq 3 (.tmp 47) (.tmp 52) 3), none⟩])
 (.cond (.tmp 53) (.seq (.reg [⟨(some 54), (.move (.tmp 3)), none⟩,
   ⟨(some 2), (.assign (.tmp 54)), none⟩])
 .ret) .skip))
 (.seq (.reg [⟨(some 55), (.move (.tmp 0)), none⟩,
   ⟨(some 56), (.nilCheck (.tmp 55)), none⟩,
   ⟨(some 57), (.fieldAddr 83 (.tmp 56) 2), none⟩,
   ⟨(some 58), (.load 81 (.tmp 57)), none⟩,
   ⟨(some 59), (.binOp .shr 81 (.tmp 58) (.const (.int .u64 40)) 138), none⟩,
   ⟨(some 60), (.binOp .and 81 (.tmp 59) (.const (.int .u64 255)) 81), none⟩,
   ⟨(some 61), (.convert 81 3 (.tmp 60)), none⟩,
   ⟨(some 2), (.assign (.tmp 61)), none⟩])
 .ret)))))))
theorem x_spec_l1Cur_next : Txt Tryd.prog 124 c_spec_l1Cur_next [.tmp 2] 1 := ⟨by kernel_rfl, by kernel_rfl, _, _, Tryd.func124, rfl, by kernel_rfl, by kernel_rfl, by kernel_rfl, rfl, by decide⟩
/-- loop.example/g01062/spec.l1Least -/
def c_spec_l1Least : Cd :=
 (.seq (.reg [⟨(some 4), (.assign (.const (.int .i64 0))), none⟩])
 (.seq (.seq (.reg [⟨(some 5), (.move (.tmp 0)), none⟩,
   ⟨(some 6), (.move (.tmp 1)), none⟩,
   ⟨(some 7), (.binOp .lss 3 (.tmp 5) (.tmp 6) 3), none⟩])
 (.cond (.tmp 7) (.seq (.reg [⟨(some 8), (.move (.tmp 0)), none⟩,
   ⟨(some 4), (.assign (.tmp 8)), none⟩])
 .ret) .skip))
 (.seq (.reg [⟨(some 9), (.move (.tmp 1)), none⟩,
   ⟨(some 4), (.assign (.tmp 9)), none⟩])
 .ret)))
theorem x_spec_l1Least : Txt Tryd.prog 133 c_spec_l1Least [.tmp 4] 2 := ⟨by kernel_rfl, by kernel_rfl, _, _, Tryd.func133, rfl, by kernel_rfl, by kernel_rfl, by kernel_rfl, rfl, by decide⟩
/-- slices.IndexFunc[[]int,int] -/
def c_slices_IndexFunc_int : Cd :=
 (.seq (.reg [⟨(some 4), (.assign (.const (.int .i64 0))), none⟩])
 (.seq (.seq (.reg [⟨(some 6), (.move (.tmp 0)), none⟩,
   ⟨(some 7), (.call (.mk (.builtin .len) #[(.tmp 6)] #[30])), none⟩,
   ⟨(some 8), (.move (.const (.int .i64 0))), none⟩])
 (.block 0 (.loop (.seq (.reg [⟨(some 9), (.binOp .lss 3 (.tmp 8) (.tmp 7) 3), none⟩])
 (.seq (.cond (.tmp 9) .skip (.exit 0))
 (.seq (.block 1 (.seq (.reg [⟨(some 10), (.move (.tmp 8)), none⟩,
   ⟨(some 5), (.assign (.tmp 10)), none⟩])
 (.seq (.reg [⟨(some 11), (.move (.tmp 1)), none⟩,
   ⟨(some 12), (.move (.tmp 0)), none⟩,
   ⟨(some 13), (.move (.tmp 5)), none⟩,
   ⟨(some 14), (.indexAddr 30 (.tmp 12) (.tmp 13)), none⟩,
   ⟨(some 15), (.load 3 (.tmp 14)), none⟩,
   ⟨(some 16), (.call (.mk (.value (.tmp 11)) #[(.tmp 15)] #[3])), none⟩])
 (.cond (.tmp 16) (.seq (.reg [⟨(some 17), (.move (.tmp 5)), none⟩,
   ⟨(some 4), (.assign (.tmp 17)), none⟩])
 .ret) .skip))))
 (.reg [⟨(some 18), (.binOp .add 3 (.tmp 8) (.const (.int .i64 1)) 3), none⟩,
   ⟨(some 8), (.move (.tmp 18)), none⟩])))))))
 (.seq (.reg [⟨(some 4), (.assign (.const (.int .i64 (-1)))), none⟩])
 .ret)))
theorem x_slices_IndexFunc_int : Txt Tryd.prog 137 c_slices_IndexFunc_int [.tmp 4] 2 := ⟨by kernel_rfl, by kernel_rfl, _, _, Tryd.func137, rfl, by kernel_rfl, by kernel_rfl, by kernel_rfl, rfl, by decide⟩
/-- slices.stableCmpFunc[int] -/
def c_slices_stableCmpFunc_int : Cd :=
 (.seq (.reg [⟨(some 6), (.assign (.const (.int .i64 20))), none⟩])
 (.seq (.reg [⟨(some 10), (.move (.tmp 6)), none⟩,
   ⟨(some 7), (.assign (.const (.int .i64 0))), none⟩,
   ⟨(some 8), (.assign (.tmp 10)), none⟩])
 (.seq (.block 0 (.loop (.seq (.seq (.reg [⟨(some 11), (.move (.tmp 8)), none⟩,
   ⟨(some 12), (.move (.tmp 1)), none⟩,
   ⟨(some 13), (.binOp .leq 3 (.tmp 11) (.tmp 12) 3), none⟩])
 (.cond (.tmp 13) .skip (.exit 0)))
 (.block 1 (.seq (.reg [⟨(some 14), (.move (.tmp 0)), none⟩,
   ⟨(some 15), (.move (.tmp 7)), none⟩,
   ⟨(some 16), (.move (.tmp 8)), none⟩,
   ⟨(some 17), (.move (.tmp 2)), none⟩,
   ⟨(some 18), (.call (.mk (.value (.func 155)) #[(.tmp 14), (.tmp 15), (.tmp 16), (.tmp 17)] #[30, 3, 3, 111])), none⟩])
 (.seq (.reg [⟨(some 19), (.move (.tmp 8)), none⟩,
   ⟨(some 7), (.assign (.tmp 19)), none⟩])
 (.reg [⟨(some 20), (.move (.tmp 8)), none⟩,
   ⟨(some 21), (.move (.tmp 6)), none⟩,
   ⟨(some 22), (.binOp .add 3 (.tmp 20) (.tmp 21) 3), none⟩,
   ⟨(some 8), (.assign (.tmp 22)), none⟩])))))))
 (.seq (.reg [⟨(some 23), (.move (.tmp 0)), none⟩,
   ⟨(some 24), (.move (.tmp 7)), none⟩,
   ⟨(some 25), (.move (.tmp 1)), none⟩,
   ⟨(some 26), (.move (.tmp 2)), none⟩,
   ⟨(some 27), (.call (.mk (.value (.func 155)) #[(.tmp 23), (.tmp 24), (.tmp 25), (.tmp 26)] #[30, 3, 3, 111])), none⟩])
 (.block 2 (.loop (.seq (.seq (.reg [⟨(some 28), (.move (.tmp 6)), none⟩,
   ⟨(some 29), (.move (.tmp 1)), none⟩,
   ⟨(some 30), (.binOp .lss 3 (.tmp 28) (.tmp 29) 3), none⟩])
 (.cond (.tmp 30) .skip (.exit 2)))
 (.block 3 (.seq (.reg [⟨(some 31), (.move (.tmp 6)), none⟩,
   ⟨(some 32), (.binOp .mul 3 (.const (.int .i64 2)) (.tmp 31) 3), none⟩,
   ⟨(some 7), (.assign (.const (.int .i64 0))), none⟩,
   ⟨(some 8), (.assign (.tmp 32)), none⟩])
 (.seq (.block 4 (.loop (.seq (.seq (.reg [⟨(some 33), (.move (.tmp 8)), none⟩,
   ⟨(some 34), (.move (.tmp 1)), none⟩,
   ⟨(some 35), (.binOp .leq 3 (.tmp 33) (.tmp 34) 3), none⟩])
 (.cond (.tmp 35) .skip (.exit 4)))
 (.block 5 (.seq (.reg [⟨(some 36), (.move (.tmp 0)), none⟩,
   ⟨(some 37), (.move (.tmp 7)), none⟩,
   ⟨(some 38), (.move (.tmp 7)), none⟩,
   ⟨(some 39), (.move (.tmp 6)), none⟩,
   ⟨(some 40), (.binOp .add 3 (.tmp 38) (.tmp 39) 3), none⟩,
   ⟨(some 41), (.move (.tmp 8)), none⟩,
   ⟨(some 42), (.move (.tmp 2)), none⟩,
   ⟨(some 43), (.call (.mk (.value (.func 156)) #[(.tmp 36), (.tmp 37), (.tmp 40), (.tmp 41), (.tmp 42)] #[30, 3, 3, 3, 111])), none⟩])
 (.seq (.reg [⟨(some 44), (.move (.tmp 8)), none⟩,
   ⟨(some 7), (.assign (.tmp 44)), none⟩])
 (.reg [⟨(some 45), (.move (.tmp 8)), none⟩,
   ⟨(some 46), (.move (.tmp 6)), none⟩,
   ⟨(some 47), (.binOp .mul 3 (.const (.int .i64 2)) (.tmp 46) 3), none⟩,
   ⟨(some 48), (.binOp .add 3 (.tmp 45) (.tmp 47) 3), none⟩,
   ⟨(some 8), (.assign (.tmp 48)), none⟩])))))))
 (.seq (.seq (.reg [⟨(some 49), (.move (.tmp 7)), none⟩,
   ⟨(some 50), (.move (.tmp 6)), none⟩,
   ⟨(some 51), (.binOp .add 3 (.tmp 49) (.tmp 50) 3), none⟩,
   ⟨(some 9), (.assign (.tmp 51)), none⟩])
 (.seq (.reg [⟨(some 52), (.move (.tmp 9)), none⟩,
   ⟨(some 53), (.move (.tmp 1)), none⟩,
   ⟨(some 54), (.binOp .lss 3 (.tmp 52) (.tmp 53) 3), none⟩])
 (.cond (.tmp 54) (.reg [⟨(some 55), (.move (.tmp 0)), none⟩,
   ⟨(some 56), (.move (.tmp 7)), none⟩,
   ⟨(some 57), (.move (.tmp 9)), none⟩,
   ⟨(some 58), (.move (.tmp 1)), none⟩,
   ⟨(some 59), (.move (.tmp 2)), none⟩,
   ⟨(some 60), (.call (.mk (.value (.func 156)) #[(.tmp 55), (.tmp 56), (.tmp 57), (.tmp 58), (.tmp 59)] #[30, 3, 3, 3, 111])), none⟩]) .skip)))
 (.reg [⟨(some 61), (.move (.tmp 6)), none⟩,
   ⟨(some 62), (.binOp .mul 3 (.tmp 61) (.const (.int .i64 2)) 3), none⟩,
   ⟨(some 6), (.assign (.tmp 62)), none⟩]))))))))))))
theorem x_slices_stableCmpFunc_int : Txt Tryd.prog 139 c_slices_stableCmpFunc_int [] 3 := ⟨by kernel_rfl, by kernel_rfl, _, _, Tryd.func139, rfl, by kernel_rfl, by kernel_rfl, by kernel_rfl, rfl, by decide⟩
/-- cmp.Or[int] -/
def c_cmp_Or_int : Cd :=
 (.seq (.reg [⟨(some 2), (.assign (.const (.int .i64 0))), none⟩])
 (.seq (.reg [⟨(some 3), (.assign (.const (.int .i64 0))), none⟩])
 (.seq (.seq (.reg [⟨(some 6), (.move (.tmp 0)), none⟩,
   ⟨(some 7), (.call (.mk (.builtin .len) #[(.tmp 6)] #[30])), none⟩,
   ⟨(some 8), (.move (.const (.int .i64 0))), none⟩])
 (.block 0 (.loop (.seq (.reg [⟨(some 9), (.binOp .lss 3 (.tmp 8) (.tmp 7) 3), none⟩])
 (.seq (.cond (.tmp 9) .skip (.exit 0))
 (.seq (.block 1 (.seq (.reg [⟨(some 10), (.indexAddr 30 (.tmp 6) (.tmp 8)), none⟩,
   ⟨(some 11), (.load 3 (.tmp 10)), none⟩,
   ⟨(some 5), (.assign (.tmp 11)), none⟩])
 (.seq (.reg [⟨(some 12), (.move (.tmp 5)), none⟩,
   ⟨(some 13), (.move (.tmp 3)), none⟩,
   ⟨(some 14), (.binOp .neq 3 (.tmp 12) (.tmp 13) 3), none⟩])
 (.cond (.tmp 14) (.seq (.reg [⟨(some 15), (.move (.tmp 5)), none⟩,
   ⟨(some 2), (.assign (.tmp 15)), none⟩])
 .ret) .skip))))
 (.reg [⟨(some 16), (.binOp .add 3 (.tmp 8) (.const (.int .i64 1)) 3), none⟩,
   ⟨(some 8), (.move (.tmp 16)), none⟩])))))))
 (.seq (.reg [⟨(some 17), (.move (.tmp 3)), none⟩,
   ⟨(some 2), (.assign (.tmp 17)), none⟩])
 .ret))))
theorem x_cmp_Or_int : Txt Tryd.prog 140 c_cmp_Or_int [.tmp 2] 1 := ⟨by kernel_rfl, by kernel_rfl, _, _, Tryd.func140, rfl, by kernel_rfl, by kernel_rfl, by kernel_rfl, rfl, by decide⟩
/-- cmp.Compare[int] -/
def c_cmp_Compare_int : Cd :=
 (.seq (.reg [⟨(some 4), (.assign (.const (.int .i64 0))), none⟩])
 (.seq (.reg [⟨(some 7), (.move (.tmp 0)), none⟩,
   ⟨(some 8), (.call (.mk (.value (.func 157)) #[(.tmp 7)] #[3])), none⟩,
   ⟨(some 5), (.assign (.tmp 8)), none⟩])
 (.seq (.reg [⟨(some 9), (.move (.tmp 1)), none⟩,
   ⟨(some 10), (.call (.mk (.value (.func 157)) #[(.tmp 9)] #[3])), none⟩,
   ⟨(some 6), (.assign (.tmp 10)), none⟩])
 (.seq (.seq (.reg [⟨(some 11), (.move (.tmp 5)), none⟩])
 (.cond (.tmp 11) (.seq (.seq (.reg [⟨(some 12), (.move (.tmp 6)), none⟩])
 (.cond (.tmp 12) (.seq (.reg [⟨(some 4), (.assign (.const (.int .i64 0))), none⟩])
 .ret) .skip))
 (.seq (.reg [⟨(some 4), (.assign (.const (.int .i64 (-1)))), none⟩])
 .ret)) .skip))
 (.seq (.seq (.reg [⟨(some 13), (.move (.tmp 6)), none⟩])
 (.cond (.tmp 13) (.seq (.reg [⟨(some 4), (.assign (.const (.int .i64 1))), none⟩])
 .ret) .skip))
 (.seq (.seq (.reg [⟨(some 14), (.move (.tmp 0)), none⟩,
   ⟨(some 15), (.move (.tmp 1)), none⟩,
   ⟨(some 16), (.binOp .lss 3 (.tmp 14) (.tmp 15) 3), none⟩])
 (.cond (.tmp 16) (.seq (.reg [⟨(some 4), (.assign (.const (.int .i64 (-1)))), none⟩])
 .ret) .skip))
 (.seq (.seq (.reg [⟨(some 17), (.move (.tmp 0)), none⟩,
   ⟨(some 18), (.move (.tmp 1)), none⟩,
   ⟨(some 19), (.binOp .gtr 3 (.tmp 17) (.tmp 18) 3), none⟩])
 (.cond (.tmp 19) (.seq (.reg [⟨(some 4), (.assign (.const (.int .i64 1))), none⟩])
 .ret) .skip))
 (.seq (.reg [⟨(some 4), (.assign (.const (.int .i64 0))), none⟩])
 .ret))))))))
theorem x_cmp_Compare_int : Txt Tryd.prog 141 c_cmp_Compare_int [.tmp 4] 2 := ⟨by kernel_rfl, by kernel_rfl, _, _, Tryd.func141, rfl, by kernel_rfl, by kernel_rfl, by kernel_rfl, rfl, by decide⟩
/-- slices.Max[[]int,int] -/
def c_slices_Max_int : Cd :=
 (.seq (.reg [⟨(some 2), (.assign (.const (.int .i64 0))), none⟩])
 (.seq (.seq (.reg [⟨(some 5), (.move (.tmp 0)), none⟩,
   ⟨(some 6), (.call (.mk (.builtin .len) #[(.tmp 5)] #[30])), none⟩,
   ⟨(some 7), (.binOp .lss 3 (.tmp 6) (.const (.int .i64 1)) 3), none⟩])
 (.cond (.tmp 7) (.reg [⟨(some 8), (.makeInterface 9 (.const (.string (ByteArray.mk #[115, 108, 105, 99, 101, 115, 46, 77, 97, 120, 58, 32, 101, 109, 112, 116, 121, 32, 108, 105, 115, 116])))), none⟩,
   ⟨none, (.panic (.tmp 8)), none⟩]) .skip))
 (.seq (.reg [⟨(some 9), (.move (.tmp 0)), none⟩,
   ⟨(some 10), (.indexAddr 30 (.tmp 9) (.const (.int .i64 0))), none⟩,
   ⟨(some 11), (.load 3 (.tmp 10)), none⟩,
   ⟨(some 3), (.assign (.tmp 11)), none⟩])
 (.seq (.seq (.reg [⟨(some 4), (.assign (.const (.int .i64 1))), none⟩])
 (.block 0 (.loop (.seq (.seq (.reg [⟨(some 12), (.move (.tmp 4)), none⟩,
   ⟨(some 13), (.move (.tmp 0)), none⟩,
   ⟨(some 14), (.call (.mk (.builtin .len) #[(.tmp 13)] #[30])), none⟩,
   ⟨(some 15), (.binOp .lss 3 (.tmp 12) (.tmp 14) 3), none⟩])
 (.cond (.tmp 15) .skip (.exit 0)))
 (.seq (.block 1 (.reg [⟨(some 18), (.move (.tmp 3)), none⟩,
   ⟨(some 19), (.move (.tmp 0)), none⟩,
   ⟨(some 20), (.move (.tmp 4)), none⟩,
   ⟨(some 21), (.indexAddr 30 (.tmp 19) (.tmp 20)), none⟩,
   ⟨(some 22), (.load 3 (.tmp 21)), none⟩,
   ⟨(some 23), (.call (.mk (.builtin .max) #[(.tmp 18), (.tmp 22)] #[3, 3])), none⟩,
   ⟨(some 3), (.assign (.tmp 23)), none⟩]))
 (.reg [⟨(some 16), (.move (.tmp 4)), none⟩,
   ⟨(some 17), (.binOp .add 3 (.tmp 16) (.const (.int .i64 1)) 3), none⟩,
   ⟨(some 4), (.assign (.tmp 17)), none⟩]))))))
 (.seq (.reg [⟨(some 24), (.move (.tmp 3)), none⟩,
   ⟨(some 2), (.assign (.tmp 24)), none⟩])
 .ret)))))
theorem x_slices_Max_int : Txt Tryd.prog 142 c_slices_Max_int [.tmp 2] 1 := ⟨by kernel_rfl, by kernel_rfl, _, _, Tryd.func142, rfl, by kernel_rfl, by kernel_rfl, by kernel_rfl, rfl, by decide⟩
/-- loop.example/g01062/spec.l23Bounds -/
def c_spec_l23Bounds : Cd :=
 (.seq (.reg [⟨(some 2), (.assign (.const (.int .i64 0))), none⟩,
   ⟨(some 3), (.assign (.const (.int .i64 0))), none⟩])
 (.seq (.regq [⟨(some 7), (.move (.tmp 0)), none⟩,
   ⟨(some 8), (.indexAddr 30 (.tmp 7) (.const (.int .i64 0))), none⟩,
   ⟨(some 9), (.load 3 (.tmp 8)), none⟩,
   ⟨(some 10), (.move (.tmp 0)), none⟩,
   ⟨(some 11), (.indexAddr 30 (.tmp 10) (.const (.int .i64 0))), none⟩,
   ⟨(some 12), (.load 3 (.tmp 11)), none⟩,
   ⟨(some 4), (.assign (.tmp 9)), none⟩,
   ⟨(some 5), (.assign (.tmp 12)), none⟩])
 (.seq (.seq (.reg [⟨(some 6), (.assign (.const (.int .i64 0))), none⟩])
 (.block 0 (.loop (.seq (.seq (.reg [⟨(some 13), (.move (.tmp 6)), none⟩,
   ⟨(some 14), (.move (.tmp 0)), none⟩,
   ⟨(some 15), (.call (.mk (.builtin .len) #[(.tmp 14)] #[30])), none⟩,
   ⟨(some 16), (.binOp .lss 3 (.tmp 13) (.tmp 15) 3), none⟩])
 (.cond (.tmp 16) .skip (.exit 0)))
 (.seq (.block 1 (.seq (.reg [⟨(some 19), (.move (.tmp 4)), none⟩,
   ⟨(some 20), (.move (.tmp 0)), none⟩,
   ⟨(some 21), (.move (.tmp 6)), none⟩,
   ⟨(some 22), (.indexAddr 30 (.tmp 20) (.tmp 21)), none⟩,
   ⟨(some 23), (.load 3 (.tmp 22)), none⟩,
   ⟨(some 24), (.call (.mk (.value (.func 133)) #[(.tmp 19), (.tmp 23)] #[3, 3])), none⟩,
   ⟨(some 4), (.assign (.tmp 24)), none⟩])
 (.reg [⟨(some 25), (.move (.tmp 5)), none⟩,
   ⟨(some 26), (.move (.tmp 0)), none⟩,
   ⟨(some 27), (.move (.tmp 6)), none⟩,
   ⟨(some 28), (.indexAddr 30 (.tmp 26) (.tmp 27)), none⟩,
   ⟨(some 29), (.load 3 (.tmp 28)), none⟩,
   ⟨(some 30), (.call (.mk (.value (.func 153)) #[(.tmp 25), (.tmp 29)] #[3, 3])), none⟩,
   ⟨(some 5), (.assign (.tmp 30)), none⟩])))
 (.reg [⟨(some 17), (.move (.tmp 6)), none⟩,
   ⟨(some 18), (.binOp .add 3 (.tmp 17) (.const (.int .i64 1)) 3), none⟩,
   ⟨(some 6), (.assign (.tmp 18)), none⟩]))))))
 (.seq (.reg [⟨(some 31), (.move (.tmp 4)), none⟩,
   ⟨(some 32), (.move (.tmp 5)), none⟩,
   ⟨(some 2), (.assign (.tmp 31)), none⟩,
   ⟨(some 3), (.assign (.tmp 32)), none⟩])
 .ret))))
theorem x_spec_l23Bounds : Txt Tryd.prog 143 c_spec_l23Bounds [.tmp 2, .tmp 3] 1 := ⟨by kernel_rfl, by kernel_rfl, _, _, Tryd.func143, rfl, by kernel_rfl, by kernel_rfl, by kernel_rfl, rfl, by decide⟩
/-- slices.IndexFunc[[]loop.example/g01062/impl.ShowFrame,loop.example/g01062/impl.ShowFrame] -/
def c_slices_IndexFunc_ShowFrame : Cd :=
 (.seq (.reg [⟨(some 4), (.assign (.const (.int .i64 0))), none⟩])
 (.seq (.seq (.reg [⟨(some 6), (.move (.tmp 0)), none⟩,
   ⟨(some 7), (.call (.mk (.builtin .len) #[(.tmp 6)] #[66])), none⟩,
   ⟨(some 8), (.move (.const (.int .i64 0))), none⟩])
 (.block 0 (.loop (.seq (.reg [⟨(some 9), (.binOp .lss 3 (.tmp 8) (.tmp 7) 3), none⟩])
 (.seq (.cond (.tmp 9) .skip (.exit 0))
 (.seq (.block 1 (.seq (.reg [⟨(some 10), (.move (.tmp 8)), none⟩,
   ⟨(some 5), (.assign (.tmp 10)), none⟩])
 (.seq (.reg [⟨(some 11), (.move (.tmp 1)), none⟩,
   ⟨(some 12), (.move (.tmp 0)), none⟩,
   ⟨(some 13), (.move (.tmp 5)), none⟩,
   ⟨(some 14), (.indexAddr 66 (.tmp 12) (.tmp 13)), none⟩,
   ⟨(some 15), (.load 72 (.tmp 14)), none⟩,
   ⟨(some 16), (.call (.mk (.value (.tmp 11)) #[(.tmp 15)] #[72])), none⟩])
 (.cond (.tmp 16) (.seq (.reg [⟨(some 17), (.move (.tmp 5)), none⟩,
   ⟨(some 4), (.assign (.tmp 17)), none⟩])
 .ret) .skip))))
 (.reg [⟨(some 18), (.binOp .add 3 (.tmp 8) (.const (.int .i64 1)) 3), none⟩,
   ⟨(some 8), (.move (.tmp 18)), none⟩])))))))
 (.seq (.reg [⟨(some 4), (.assign (.const (.int .i64 (-1)))), none⟩])
 .ret)))
theorem x_slices_IndexFunc_ShowFrame : Txt Tryd.prog 144 c_slices_IndexFunc_ShowFrame [.tmp 4] 2 := ⟨by kernel_rfl, by kernel_rfl, _, _, Tryd.func144, rfl, by kernel_rfl, by kernel_rfl, by kernel_rfl, rfl, by decide⟩
/-- loop.example/g01062/impl.exhibitAt closure 1 -/
def c_impl_exhibitAt_1 : Cd :=
 (.seq (.reg [⟨(some 2), (.box 72 (.tmp 0)), none⟩,
   ⟨(some 3), (.assign (.const (.bool false))), none⟩])
 (.seq (.reg [⟨(some 4), (.fieldAddr 72 (.tmp 2) 0), none⟩,
   ⟨(some 5), (.load 3 (.tmp 4)), none⟩,
   ⟨(some 6), (.load 3 (.tmp 1)), none⟩,
   ⟨(some 7), (.binOp .eql 3 (.tmp 5) (.tmp 6) 3), none⟩,
   ⟨(some 3), (.assign (.tmp 7)), none⟩])
 .ret))
theorem x_impl_exhibitAt_1 : Txt Tryd.prog 145 c_impl_exhibitAt_1 [.tmp 3] 2 := ⟨by kernel_rfl, by kernel_rfl, _, _, Tryd.func145, rfl, by kernel_rfl, by kernel_rfl, by kernel_rfl, rfl, by decide⟩
/-- (*loop.example/g01062/spec.l1Cur).of -/
def c_spec_l1Cur_of : Cd :=
 (.seq (.reg [⟨(some 4), (.assign (.const (.string (ByteArray.mk #[])))), none⟩])
 (.seq (.reg [⟨(some 5), (.move (.tmp 1)), none⟩,
   ⟨(some 6), (.move (.tmp 0)), none⟩,
   ⟨(some 7), (.move (.tmp 1)), none⟩,
   ⟨(some 8), (.call (.mk (.builtin .len) #[(.tmp 7)] #[122])), none⟩,
   ⟨(some 9), (.call (.mk (.value (.func 65)) #[(.tmp 6), (.tmp 8)] #[80, 3])), none⟩,
   ⟨(some 10), (.indexAddr 122 (.tmp 5) (.tmp 9)), none⟩,
   ⟨(some 11), (.load 9 (.tmp 10)), none⟩,
   ⟨(some 4), (.assign (.tmp 11)), none⟩])
 .ret))
theorem x_spec_l1Cur_of : Txt Tryd.prog 146 c_spec_l1Cur_of [.tmp 4] 2 := ⟨by kernel_rfl, by kernel_rfl, _, _, Tryd.func146, rfl, by kernel_rfl, by kernel_rfl, by kernel_rfl, rfl, by decide⟩
/-- loop.example/g01062/spec.l1Own -/
def c_spec_l1Own : Cd :=
 (.seq (.reg [⟨(some 2), (.assign (.const (.slice none 0 0))), none⟩])
 (.seq (.reg [⟨(some 3), (.buildSlice 30 0 #[]), none⟩,
   ⟨(some 4), (.move (.tmp 0)), none⟩,
   ⟨(some 5), (.call (.mk (.builtin .append) #[(.tmp 3), (.tmp 4)] #[30, 30])), none⟩,
   ⟨(some 2), (.assign (.tmp 5)), none⟩])
 .ret))
theorem x_spec_l1Own : Txt Tryd.prog 147 c_spec_l1Own [.tmp 2] 1 := ⟨by kernel_rfl, by kernel_rfl, _, _, Tryd.func147, rfl, by kernel_rfl, by kernel_rfl, by kernel_rfl, rfl, by decide⟩
/-- loop.example/g01062/impl.isWord -/
def c_impl_isWord : Cd :=
 (.seq (.reg [⟨(some 2), (.assign (.const (.bool false))), none⟩])
 (.seq (.seq (.reg [⟨(some 4), (.move (.tmp 0)), none⟩,
   ⟨(some 5), (.call (.mk (.builtin .len) #[(.tmp 4)] #[9])), none⟩,
   ⟨(some 6), (.move (.const (.int .i64 0))), none⟩])
 (.block 0 (.loop (.seq (.reg [⟨(some 7), (.binOp .lss 3 (.tmp 6) (.tmp 5) 3), none⟩])
 (.seq (.cond (.tmp 7) .skip (.exit 0))
 (.seq (.block 1 (.seq (.reg [⟨(some 8), (.move (.tmp 6)), none⟩,
   ⟨(some 3), (.assign (.tmp 8)), none⟩])
 (.seq (.reg [⟨(some 9), (.move (.tmp 0)), none⟩,
   ⟨(some 10), (.move (.tmp 3)), none⟩,
   ⟨(some 11), (.index 9 (.tmp 9) (.tmp 10)), none⟩,
   ⟨(some 12), (.binOp .lss 5 (.tmp 11) (.const (.int .u8 97)) 5), none⟩,
   ⟨(some 13), (.move (.tmp 12)), none⟩,
   ⟨(some 14), (.move (.tmp 0)), (some (13, false))⟩,
   ⟨(some 15), (.move (.tmp 3)), (some (13, false))⟩,
   ⟨(some 16), (.index 9 (.tmp 14) (.tmp 15)), (some (13, false))⟩,
   ⟨(some 17), (.binOp .gtr 5 (.tmp 16) (.const (.int .u8 122)) 5), (some (13, false))⟩,
   ⟨(some 18), (.pick (.tmp 13) (.const (.bool true)) (.tmp 17)), none⟩])
 (.cond (.tmp 18) (.seq (.reg [⟨(some 2), (.assign (.const (.bool false))), none⟩])
 .ret) .skip))))
 (.reg [⟨(some 19), (.binOp .add 3 (.tmp 6) (.const (.int .i64 1)) 3), none⟩,
   ⟨(some 6), (.move (.tmp 19)), none⟩])))))))
 (.seq (.reg [⟨(some 20), (.move (.tmp 0)), none⟩,
   ⟨(some 21), (.call (.mk (.builtin .len) #[(.tmp 20)] #[9])), none⟩,
   ⟨(some 22), (.call (.mk (.value (.func 97)) #[(.tmp 21), (.const (.int .i64 1)), (.const (.int .i64 10))] #[3, 3, 3])), none⟩,
   ⟨(some 2), (.assign (.tmp 22)), none⟩])
 .ret)))
theorem x_impl_isWord : Txt Tryd.prog 148 c_impl_isWord [.tmp 2] 1 := ⟨by kernel_rfl, by kernel_rfl, _, _, Tryd.func148, rfl, by kernel_rfl, by kernel_rfl, by kernel_rfl, rfl, by decide⟩
/-- loop.example/g01062/impl.isExhibit closure 1 -/
def c_impl_isExhibit_1 : Cd :=
 (.seq (.reg [⟨(some 2), (.assign (.const (.bool false))), none⟩])
 (.seq (.reg [⟨(some 3), (.move (.tmp 0)), none⟩,
   ⟨(some 4), (.call (.mk (.value (.func 97)) #[(.tmp 3), (.const (.int .i64 0)), (.const (.int .i64 100))] #[3, 3, 3])), none⟩,
   ⟨(some 5), (.unOp .not 4 (.tmp 4)), none⟩,
   ⟨(some 2), (.assign (.tmp 5)), none⟩])
 .ret))
theorem x_impl_isExhibit_1 : Txt Tryd.prog 149 c_impl_isExhibit_1 [.tmp 2] 1 := ⟨by kernel_rfl, by kernel_rfl, _, _, Tryd.func149, rfl, by kernel_rfl, by kernel_rfl, by kernel_rfl, rfl, by decide⟩
/-- loop.example/g01062/impl.gcd -/
def c_impl_gcd : Cd :=
 (.seq (.reg [⟨(some 4), (.assign (.const (.int .i64 0))), none⟩])
 (.seq (.block 0 (.loop (.seq (.seq (.reg [⟨(some 5), (.move (.tmp 1)), none⟩,
   ⟨(some 6), (.binOp .neq 3 (.tmp 5) (.const (.int .i64 0)) 3), none⟩])
 (.cond (.tmp 6) .skip (.exit 0)))
 (.block 1 (.regq [⟨(some 7), (.move (.tmp 1)), none⟩,
   ⟨(some 8), (.move (.tmp 0)), none⟩,
   ⟨(some 9), (.move (.tmp 1)), none⟩,
   ⟨(some 10), (.binOp .rem 3 (.tmp 8) (.tmp 9) 3), none⟩,
   ⟨(some 0), (.assign (.tmp 7)), none⟩,
   ⟨(some 1), (.assign (.tmp 10)), none⟩])))))
 (.seq (.reg [⟨(some 11), (.move (.tmp 0)), none⟩,
   ⟨(some 4), (.assign (.tmp 11)), none⟩])
 .ret)))
theorem x_impl_gcd : Txt Tryd.prog 150 c_impl_gcd [.tmp 4] 2 := ⟨by kernel_rfl, by kernel_rfl, _, _, Tryd.func150, rfl, by kernel_rfl, by kernel_rfl, by kernel_rfl, rfl, by decide⟩
/-- slices.Min[[]int,int] -/
def c_slices_Min_int : Cd :=
 (.seq (.reg [⟨(some 2), (.assign (.const (.int .i64 0))), none⟩])
 (.seq (.seq (.reg [⟨(some 5), (.move (.tmp 0)), none⟩,
   ⟨(some 6), (.call (.mk (.builtin .len) #[(.tmp 5)] #[30])), none⟩,
   ⟨(some 7), (.binOp .lss 3 (.tmp 6) (.const (.int .i64 1)) 3), none⟩])
 (.cond (.tmp 7) (.reg [⟨(some 8), (.makeInterface 9 (.const (.string (ByteArray.mk #[115, 108, 105, 99, 101, 115, 46, 77, 105, 110, 58, 32, 101, 109, 112, 116, 121, 32, 108, 105, 115, 116])))), none⟩,
   ⟨none, (.panic (.tmp 8)), none⟩]) .skip))
 (.seq (.reg [⟨(some 9), (.move (.tmp 0)), none⟩,
   ⟨(some 10), (.indexAddr 30 (.tmp 9) (.const (.int .i64 0))), none⟩,
   ⟨(some 11), (.load 3 (.tmp 10)), none⟩,
   ⟨(some 3), (.assign (.tmp 11)), none⟩])
 (.seq (.seq (.reg [⟨(some 4), (.assign (.const (.int .i64 1))), none⟩])
 (.block 0 (.loop (.seq (.seq (.reg [⟨(some 12), (.move (.tmp 4)), none⟩,
   ⟨(some 13), (.move (.tmp 0)), none⟩,
   ⟨(some 14), (.call (.mk (.builtin .len) #[(.tmp 13)] #[30])), none⟩,
   ⟨(some 15), (.binOp .lss 3 (.tmp 12) (.tmp 14) 3), none⟩])
 (.cond (.tmp 15) .skip (.exit 0)))
 (.seq (.block 1 (.reg [⟨(some 18), (.move (.tmp 3)), none⟩,
   ⟨(some 19), (.move (.tmp 0)), none⟩,
   ⟨(some 20), (.move (.tmp 4)), none⟩,
   ⟨(some 21), (.indexAddr 30 (.tmp 19) (.tmp 20)), none⟩,
   ⟨(some 22), (.load 3 (.tmp 21)), none⟩,
   ⟨(some 23), (.call (.mk (.builtin .min) #[(.tmp 18), (.tmp 22)] #[3, 3])), none⟩,
   ⟨(some 3), (.assign (.tmp 23)), none⟩]))
 (.reg [⟨(some 16), (.move (.tmp 4)), none⟩,
   ⟨(some 17), (.binOp .add 3 (.tmp 16) (.const (.int .i64 1)) 3), none⟩,
   ⟨(some 4), (.assign (.tmp 17)), none⟩]))))))
 (.seq (.reg [⟨(some 24), (.move (.tmp 3)), none⟩,
   ⟨(some 2), (.assign (.tmp 24)), none⟩])
 .ret)))))
theorem x_slices_Min_int : Txt Tryd.prog 151 c_slices_Min_int [.tmp 2] 1 := ⟨by kernel_rfl, by kernel_rfl, _, _, Tryd.func151, rfl, by kernel_rfl, by kernel_rfl, by kernel_rfl, rfl, by decide⟩
/-- loop.example/g01062/spec.l2Word -/
def c_spec_l2Word : Cd :=
 (.seq (.reg [⟨(some 2), (.assign (.const (.bool false))), none⟩])
 (.seq (.seq (.reg [⟨(some 3), (.assign (.const (.int .i64 0))), none⟩])
 (.block 0 (.loop (.seq (.seq (.reg [⟨(some 4), (.move (.tmp 3)), none⟩,
   ⟨(some 5), (.move (.tmp 0)), none⟩,
   ⟨(some 6), (.call (.mk (.builtin .len) #[(.tmp 5)] #[9])), none⟩,
   ⟨(some 7), (.binOp .lss 3 (.tmp 4) (.tmp 6) 3), none⟩])
 (.cond (.tmp 7) .skip (.exit 0)))
 (.seq (.block 1 (.seq (.reg [⟨(some 10), (.move (.tmp 0)), none⟩,
   ⟨(some 11), (.move (.tmp 3)), none⟩,
   ⟨(some 12), (.index 9 (.tmp 10) (.tmp 11)), none⟩,
   ⟨(some 13), (.binOp .lss 5 (.tmp 12) (.const (.int .u8 97)) 5), none⟩,
   ⟨(some 14), (.move (.tmp 13)), none⟩,
   ⟨(some 15), (.move (.tmp 0)), (some (14, false))⟩,
   ⟨(some 16), (.move (.tmp 3)), (some (14, false))⟩,
   ⟨(some 17), (.index 9 (.tmp 15) (.tmp 16)), (some (14, false))⟩,
   ⟨(some 18), (.binOp .gtr 5 (.tmp 17) (.const (.int .u8 122)) 5), (some (14, false))⟩,
   ⟨(some 19), (.pick (.tmp 14) (.const (.bool true)) (.tmp 18)), none⟩])
 (.cond (.tmp 19) (.seq (.reg [⟨(some 2), (.assign (.const (.bool false))), none⟩])
 .ret) .skip)))
 (.reg [⟨(some 8), (.move (.tmp 3)), none⟩,
   ⟨(some 9), (.binOp .add 3 (.tmp 8) (.const (.int .i64 1)) 3), none⟩,
   ⟨(some 3), (.assign (.tmp 9)), none⟩]))))))
 (.seq (.reg [⟨(some 20), (.move (.tmp 0)), none⟩,
   ⟨(some 21), (.call (.mk (.builtin .len) #[(.tmp 20)] #[9])), none⟩,
   ⟨(some 22), (.call (.mk (.value (.func 99)) #[(.tmp 21), (.const (.int .i64 1)), (.const (.int .i64 10))] #[3, 3, 3])), none⟩,
   ⟨(some 2), (.assign (.tmp 22)), none⟩])
 .ret)))
theorem x_spec_l2Word : Txt Tryd.prog 152 c_spec_l2Word [.tmp 2] 1 := ⟨by kernel_rfl, by kernel_rfl, _, _, Tryd.func152, rfl, by kernel_rfl, by kernel_rfl, by kernel_rfl, rfl, by decide⟩
/-- loop.example/g01062/spec.l1Most -/
def c_spec_l1Most : Cd :=
 (.seq (.reg [⟨(some 4), (.assign (.const (.int .i64 0))), none⟩])
 (.seq (.seq (.reg [⟨(some 5), (.move (.tmp 0)), none⟩,
   ⟨(some 6), (.move (.tmp 1)), none⟩,
   ⟨(some 7), (.binOp .gtr 3 (.tmp 5) (.tmp 6) 3), none⟩])
 (.cond (.tmp 7) (.seq (.reg [⟨(some 8), (.move (.tmp 0)), none⟩,
   ⟨(some 4), (.assign (.tmp 8)), none⟩])
 .ret) .skip))
 (.seq (.reg [⟨(some 9), (.move (.tmp 1)), none⟩,
   ⟨(some 4), (.assign (.tmp 9)), none⟩])
 .ret)))
theorem x_spec_l1Most : Txt Tryd.prog 153 c_spec_l1Most [.tmp 4] 2 := ⟨by kernel_rfl, by kernel_rfl, _, _, Tryd.func153, rfl, by kernel_rfl, by kernel_rfl, by kernel_rfl, rfl, by decide⟩
/-- slices.insertionSortCmpFunc[int] -/
def c_slices_insertionSortCmpFunc_int : Cd :=
 (.seq (.reg [⟨(some 10), (.move (.tmp 1)), none⟩,
   ⟨(some 11), (.binOp .add 3 (.tmp 10) (.const (.int .i64 1)) 3), none⟩,
   ⟨(some 8), (.assign (.tmp 11)), none⟩])
 (.block 0 (.loop (.seq (.seq (.reg [⟨(some 12), (.move (.tmp 8)), none⟩,
   ⟨(some 13), (.move (.tmp 2)), none⟩,
   ⟨(some 14), (.binOp .lss 3 (.tmp 12) (.tmp 13) 3), none⟩])
 (.cond (.tmp 14) .skip (.exit 0)))
 (.seq (.block 1 (.seq (.reg [⟨(some 17), (.move (.tmp 8)), none⟩,
   ⟨(some 9), (.assign (.tmp 17)), none⟩])
 (.block 2 (.loop (.seq (.seq (.regq [⟨(some 18), (.move (.tmp 9)), none⟩,
   ⟨(some 19), (.move (.tmp 1)), none⟩,
   ⟨(some 20), (.binOp .gtr 3 (.tmp 18) (.tmp 19) 3), none⟩,
   ⟨(some 21), (.move (.tmp 20)), none⟩,
   ⟨(some 22), (.move (.tmp 3)), (some (21, true))⟩,
   ⟨(some 23), (.move (.tmp 0)), (some (21, true))⟩,
   ⟨(some 24), (.move (.tmp 9)), (some (21, true))⟩,
   ⟨(some 25), (.indexAddr 30 (.tmp 23) (.tmp 24)), (some (21, true))⟩,
   ⟨(some 26), (.load 3 (.tmp 25)), (some (21, true))⟩,
   ⟨(some 27), (.move (.tmp 0)), (some (21, true))⟩,
   ⟨(some 28), (.move (.tmp 9)), (some (21, true))⟩,
   ⟨(some 29), (.binOp .sub 3 (.tmp 28) (.const (.int .i64 1)) 3), (some (21, true))⟩,
   ⟨(some 30), (.indexAddr 30 (.tmp 27) (.tmp 29)), (some (21, true))⟩,
   ⟨(some 31), (.load 3 (.tmp 30)), (some (21, true))⟩,
   ⟨(some 32), (.call (.mk (.value (.tmp 22)) #[(.tmp 26), (.tmp 31)] #[3, 3])), (some (21, true))⟩,
   ⟨(some 33), (.binOp .lss 3 (.tmp 32) (.const (.int .i64 0)) 3), (some (21, true))⟩,
   ⟨(some 34), (.pick (.tmp 21) (.tmp 33) (.const (.bool false))), none⟩])
 (.cond (.tmp 34) .skip (.exit 2)))
 (.seq (.block 3 (.regt [⟨(some 37), (.move (.tmp 0)), none⟩,
   ⟨(some 38), (.move (.tmp 9)), none⟩,
   ⟨(some 39), (.move (.tmp 0)), none⟩,
   ⟨(some 40), (.move (.tmp 9)), none⟩,
   ⟨(some 41), (.binOp .sub 3 (.tmp 40) (.const (.int .i64 1)) 3), none⟩,
   ⟨(some 42), (.move (.tmp 0)), none⟩,
   ⟨(some 43), (.move (.tmp 9)), none⟩,
   ⟨(some 44), (.binOp .sub 3 (.tmp 43) (.const (.int .i64 1)) 3), none⟩,
   ⟨(some 45), (.indexAddr 30 (.tmp 42) (.tmp 44)), none⟩,
   ⟨(some 46), (.load 3 (.tmp 45)), none⟩,
   ⟨(some 47), (.move (.tmp 0)), none⟩,
   ⟨(some 48), (.move (.tmp 9)), none⟩,
   ⟨(some 49), (.indexAddr 30 (.tmp 47) (.tmp 48)), none⟩,
   ⟨(some 50), (.load 3 (.tmp 49)), none⟩,
   ⟨(some 51), (.indexAddr 30 (.tmp 37) (.tmp 38)), none⟩] (.one false ⟨none, (.store 3 (.tmp 51) (.tmp 46)), none⟩
   (.one false ⟨(some 52), (.indexAddr 30 (.tmp 39) (.tmp 41)), none⟩
   (.one false ⟨none, (.store 3 (.tmp 52) (.tmp 50)), none⟩
   .done))) []))
 (.reg [⟨(some 35), (.move (.tmp 9)), none⟩,
   ⟨(some 36), (.binOp .sub 3 (.tmp 35) (.const (.int .i64 1)) 3), none⟩,
   ⟨(some 9), (.assign (.tmp 36)), none⟩])))))))
 (.reg [⟨(some 15), (.move (.tmp 8)), none⟩,
   ⟨(some 16), (.binOp .add 3 (.tmp 15) (.const (.int .i64 1)) 3), none⟩,
   ⟨(some 8), (.assign (.tmp 16)), none⟩]))))))
theorem x_slices_insertionSortCmpFunc_int : Txt Tryd.prog 155 c_slices_insertionSortCmpFunc_int [] 4 := ⟨by kernel_rfl, by kernel_rfl, _, _, Tryd.func155, rfl, by kernel_rfl, by kernel_rfl, by kernel_rfl, rfl, by decide⟩
/-- cmp.isNaN[int] -/
def c_cmp_isNaN_int : Cd :=
 (.seq (.reg [⟨(some 2), (.assign (.const (.bool false))), none⟩])
 (.seq (.reg [⟨(some 3), (.move (.tmp 0)), none⟩,
   ⟨(some 4), (.move (.tmp 0)), none⟩,
   ⟨(some 5), (.binOp .neq 3 (.tmp 3) (.tmp 4) 3), none⟩,
   ⟨(some 2), (.assign (.tmp 5)), none⟩])
 .ret))
theorem x_cmp_isNaN_int : Txt Tryd.prog 157 c_cmp_isNaN_int [.tmp 2] 1 := ⟨by kernel_rfl, by kernel_rfl, _, _, Tryd.func157, rfl, by kernel_rfl, by kernel_rfl, by kernel_rfl, rfl, by decide⟩
theorem qs2 : qSize Tryd.prog 2 = some 1 := by kernel_rfl
theorem qb2 : qBytes Tryd.prog 2 = some 8 := by kernel_rfl
theorem qa2 : qAgg Tryd.prog 2 = some false := by kernel_rfl
theorem qz2 : qZero Tryd.prog 2 = some (.int .i64 0) := by kernel_rfl
theorem qk2 : qKind Tryd.prog 2 = some .i64 := by kernel_rfl
theorem qui2 : (Tryd.prog.underlying 2).isSome = true := by kernel_rfl
theorem qs3 : qSize Tryd.prog 3 = some 1 := by kernel_rfl
theorem qb3 : qBytes Tryd.prog 3 = some 8 := by kernel_rfl
theorem qa3 : qAgg Tryd.prog 3 = some false := by kernel_rfl
theorem qz3 : qZero Tryd.prog 3 = some (.int .i64 0) := by kernel_rfl
theorem qk3 : qKind Tryd.prog 3 = some .i64 := by kernel_rfl
theorem qui3 : (Tryd.prog.underlying 3).isSome = true := by kernel_rfl
theorem qs4 : qSize Tryd.prog 4 = some 1 := by kernel_rfl
theorem qb4 : qBytes Tryd.prog 4 = some 1 := by kernel_rfl
theorem qa4 : qAgg Tryd.prog 4 = some false := by kernel_rfl
theorem qz4 : qZero Tryd.prog 4 = some (.bool false) := by kernel_rfl
theorem qo4 : qBool Tryd.prog 4 = true := by kernel_rfl
theorem qs5 : qSize Tryd.prog 5 = some 1 := by kernel_rfl
theorem qb5 : qBytes Tryd.prog 5 = some 1 := by kernel_rfl
theorem qa5 : qAgg Tryd.prog 5 = some false := by kernel_rfl
theorem qz5 : qZero Tryd.prog 5 = some (.int .u8 0) := by kernel_rfl
theorem qk5 : qKind Tryd.prog 5 = some .u8 := by kernel_rfl
theorem qui5 : (Tryd.prog.underlying 5).isSome = true := by kernel_rfl
theorem qs9 : qSize Tryd.prog 9 = some 1 := by kernel_rfl
theorem qb9 : qBytes Tryd.prog 9 = some 16 := by kernel_rfl
theorem qa9 : qAgg Tryd.prog 9 = some false := by kernel_rfl
theorem qz9 : qZero Tryd.prog 9 = some (.string ByteArray.empty) := by kernel_rfl
theorem qt9 : qStr Tryd.prog 9 = true := by kernel_rfl
theorem qs22 : qSize Tryd.prog 22 = some 1 := by kernel_rfl
theorem qb22 : qBytes Tryd.prog 22 = some 24 := by kernel_rfl
theorem qa22 : qAgg Tryd.prog 22 = some false := by kernel_rfl
theorem qz22 : qZero Tryd.prog 22 = some (.slice none 0 0) := by kernel_rfl
theorem qe22 : qElem Tryd.prog 22 = some 5 := by kernel_rfl
theorem qs24 : qSize Tryd.prog 24 = some 1 := by kernel_rfl
theorem qb24 : qBytes Tryd.prog 24 = some 24 := by kernel_rfl
theorem qa24 : qAgg Tryd.prog 24 = some false := by kernel_rfl
theorem qz24 : qZero Tryd.prog 24 = some (.slice none 0 0) := by kernel_rfl
theorem qe24 : qElem Tryd.prog 24 = some 95 := by kernel_rfl
theorem qs25 : qSize Tryd.prog 25 = some 1 := by kernel_rfl
theorem qb25 : qBytes Tryd.prog 25 = some 24 := by kernel_rfl
theorem qa25 : qAgg Tryd.prog 25 = some false := by kernel_rfl
theorem qz25 : qZero Tryd.prog 25 = some (.slice none 0 0) := by kernel_rfl
theorem qe25 : qElem Tryd.prog 25 = some 40 := by kernel_rfl
theorem qs30 : qSize Tryd.prog 30 = some 1 := by kernel_rfl
theorem qb30 : qBytes Tryd.prog 30 = some 24 := by kernel_rfl
theorem qa30 : qAgg Tryd.prog 30 = some false := by kernel_rfl
theorem qz30 : qZero Tryd.prog 30 = some (.slice none 0 0) := by kernel_rfl
theorem qe30 : qElem Tryd.prog 30 = some 3 := by kernel_rfl
theorem qs40 : qSize Tryd.prog 40 = some 2 := by kernel_rfl
theorem qb40 : qBytes Tryd.prog 40 = some 16 := by kernel_rfl
theorem qa40 : qAgg Tryd.prog 40 = some true := by kernel_rfl
theorem qz40 : qZero Tryd.prog 40 = some (.agg #[.int .i64 0, .int .i64 0]) := by kernel_rfl
theorem qg40 : qFields Tryd.prog 40 = some [(0, 1), (1, 1)] := by kernel_rfl
theorem qi40 : qEqS Tryd.prog 40 2 = true := by kernel_rfl
theorem qf40_0 : qField Tryd.prog 40 0 = some (0, 3) := by kernel_rfl
theorem qf40_1 : qField Tryd.prog 40 1 = some (1, 3) := by kernel_rfl
theorem qs48 : qSize Tryd.prog 48 = some 1 := by kernel_rfl
theorem qb48 : qBytes Tryd.prog 48 = some 24 := by kernel_rfl
theorem qa48 : qAgg Tryd.prog 48 = some false := by kernel_rfl
theorem qz48 : qZero Tryd.prog 48 = some (.slice none 0 0) := by kernel_rfl
theorem qe48 : qElem Tryd.prog 48 = some 63 := by kernel_rfl
theorem qs63 : qSize Tryd.prog 63 = some 3 := by kernel_rfl
theorem qb63 : qBytes Tryd.prog 63 = some 24 := by kernel_rfl
theorem qa63 : qAgg Tryd.prog 63 = some true := by kernel_rfl
theorem qz63 : qZero Tryd.prog 63 = some (.agg #[.int .i64 0, .int .i64 0, .int .i64 0]) := by kernel_rfl
theorem qg63 : qFields Tryd.prog 63 = some [(0, 1), (1, 1), (2, 1)] := by kernel_rfl
theorem qi63 : qEqS Tryd.prog 63 3 = true := by kernel_rfl
theorem qf63_0 : qField Tryd.prog 63 0 = some (0, 3) := by kernel_rfl
theorem qf63_1 : qField Tryd.prog 63 1 = some (1, 3) := by kernel_rfl
theorem qf63_2 : qField Tryd.prog 63 2 = some (2, 3) := by kernel_rfl
theorem qs66 : qSize Tryd.prog 66 = some 1 := by kernel_rfl
theorem qb66 : qBytes Tryd.prog 66 = some 24 := by kernel_rfl
theorem qa66 : qAgg Tryd.prog 66 = some false := by kernel_rfl
theorem qz66 : qZero Tryd.prog 66 = some (.slice none 0 0) := by kernel_rfl
theorem qe66 : qElem Tryd.prog 66 = some 72 := by kernel_rfl
theorem qs72 : qSize Tryd.prog 72 = some 4 := by kernel_rfl
theorem qb72 : qBytes Tryd.prog 72 = some 56 := by kernel_rfl
theorem qa72 : qAgg Tryd.prog 72 = some true := by kernel_rfl
theorem qz72 : qZero Tryd.prog 72 = some (.agg #[.int .i64 0, .string ByteArray.empty, .int .i64 0, .slice none 0 0]) := by kernel_rfl
theorem qg72 : qFields Tryd.prog 72 = some [(0, 1), (1, 1), (2, 1), (3, 1)] := by kernel_rfl
theorem qf72_0 : qField Tryd.prog 72 0 = some (0, 3) := by kernel_rfl
theorem qf72_1 : qField Tryd.prog 72 1 = some (1, 9) := by kernel_rfl
theorem qf72_2 : qField Tryd.prog 72 2 = some (2, 3) := by kernel_rfl
theorem qf72_3 : qField Tryd.prog 72 3 = some (3, 30) := by kernel_rfl
theorem qs80 : qSize Tryd.prog 80 = some 1 := by kernel_rfl
theorem qb80 : qBytes Tryd.prog 80 = some 8 := by kernel_rfl
theorem qa80 : qAgg Tryd.prog 80 = some false := by kernel_rfl
theorem qz80 : qZero Tryd.prog 80 = some (.pointer none) := by kernel_rfl
theorem qs81 : qSize Tryd.prog 81 = some 1 := by kernel_rfl
theorem qb81 : qBytes Tryd.prog 81 = some 8 := by kernel_rfl
theorem qa81 : qAgg Tryd.prog 81 = some false := by kernel_rfl
theorem qz81 : qZero Tryd.prog 81 = some (.int .u64 0) := by kernel_rfl
theorem qk81 : qKind Tryd.prog 81 = some .u64 := by kernel_rfl
theorem qui81 : (Tryd.prog.underlying 81).isSome = true := by kernel_rfl
theorem qs83 : qSize Tryd.prog 83 = some 3 := by kernel_rfl
theorem qb83 : qBytes Tryd.prog 83 = some 40 := by kernel_rfl
theorem qa83 : qAgg Tryd.prog 83 = some true := by kernel_rfl
theorem qz83 : qZero Tryd.prog 83 = some (.agg #[.slice none 0 0, .int .i64 0, .int .u64 0]) := by kernel_rfl
theorem qg83 : qFields Tryd.prog 83 = some [(0, 1), (1, 1), (2, 1)] := by kernel_rfl
theorem qf83_0 : qField Tryd.prog 83 0 = some (0, 22) := by kernel_rfl
theorem qf83_1 : qField Tryd.prog 83 1 = some (1, 3) := by kernel_rfl
theorem qf83_2 : qField Tryd.prog 83 2 = some (2, 81) := by kernel_rfl
theorem qs95 : qSize Tryd.prog 95 = some 2 := by kernel_rfl
theorem qb95 : qBytes Tryd.prog 95 = some 16 := by kernel_rfl
theorem qa95 : qAgg Tryd.prog 95 = some true := by kernel_rfl
theorem qz95 : qZero Tryd.prog 95 = some (.agg #[.int .i64 0, .int .i64 0]) := by kernel_rfl
theorem qg95 : qFields Tryd.prog 95 = some [(0, 1), (1, 1)] := by kernel_rfl
theorem qi95 : qEqS Tryd.prog 95 2 = true := by kernel_rfl
theorem qf95_0 : qField Tryd.prog 95 0 = some (0, 3) := by kernel_rfl
theorem qf95_1 : qField Tryd.prog 95 1 = some (1, 3) := by kernel_rfl
theorem qs110 : qSize Tryd.prog 110 = some 1 := by kernel_rfl
theorem qb110 : qBytes Tryd.prog 110 = some 8 := by kernel_rfl
theorem qa110 : qAgg Tryd.prog 110 = some false := by kernel_rfl
theorem qz110 : qZero Tryd.prog 110 = some (.pointer none) := by kernel_rfl
theorem qs121 : qSize Tryd.prog 121 = some 5 := by kernel_rfl
theorem qb121 : qBytes Tryd.prog 121 = some 80 := by kernel_rfl
theorem qa121 : qAgg Tryd.prog 121 = some true := by kernel_rfl
theorem qz121 : qZero Tryd.prog 121 = some (.agg #[.string ByteArray.empty, .string ByteArray.empty, .string ByteArray.empty, .string ByteArray.empty, .string ByteArray.empty]) := by kernel_rfl
theorem qg121 : qFields Tryd.prog 121 = some [(0, 1), (1, 1), (2, 1), (3, 1), (4, 1)] := by kernel_rfl
theorem qr121 : qArr Tryd.prog 121 = some (5, 9) := by kernel_rfl
theorem qs122 : qSize Tryd.prog 122 = some 1 := by kernel_rfl
theorem qb122 : qBytes Tryd.prog 122 = some 24 := by kernel_rfl
theorem qa122 : qAgg Tryd.prog 122 = some false := by kernel_rfl
theorem qz122 : qZero Tryd.prog 122 = some (.slice none 0 0) := by kernel_rfl
theorem qe122 : qElem Tryd.prog 122 = some 9 := by kernel_rfl
theorem qs138 : qSize Tryd.prog 138 = some 1 := by kernel_rfl
theorem qb138 : qBytes Tryd.prog 138 = some 8 := by kernel_rfl
theorem qa138 : qAgg Tryd.prog 138 = some false := by kernel_rfl
theorem qz138 : qZero Tryd.prog 138 = some (.int .u64 0) := by kernel_rfl
theorem qk138 : qKind Tryd.prog 138 = some .u64 := by kernel_rfl
theorem qui138 : (Tryd.prog.underlying 138).isSome = true := by kernel_rfl
theorem qs148 : qSize Tryd.prog 148 = some 20 := by kernel_rfl
theorem qb148 : qBytes Tryd.prog 148 = some 160 := by kernel_rfl
theorem qa148 : qAgg Tryd.prog 148 = some true := by kernel_rfl
theorem qz148 : qZero Tryd.prog 148 = some (.agg #[.int .u64 0, .int .u64 0, .int .u64 0, .int .u64 0, .int .u64 0, .int .u64 0, .int .u64 0, .int .u64 0, .int .u64 0, .int .u64 0, .int .u64 0, .int .u64 0, .int .u64 0, .int .u64 0, .int .u64 0, .int .u64 0, .int .u64 0, .int .u64 0, .int .u64 0, .int .u64 0]) := by kernel_rfl
theorem qg148 : qFields Tryd.prog 148 = some [(0, 1), (1, 1), (2, 1), (3, 1), (4, 1), (5, 1), (6, 1), (7, 1), (8, 1), (9, 1), (10, 1), (11, 1), (12, 1), (13, 1), (14, 1), (15, 1), (16, 1), (17, 1), (18, 1), (19, 1)] := by kernel_rfl
theorem qr148 : qArr Tryd.prog 148 = some (20, 81) := by kernel_rfl
theorem qs153 : qSize Tryd.prog 153 = some 32 := by kernel_rfl
theorem qb153 : qBytes Tryd.prog 153 = some 32 := by kernel_rfl
theorem qa153 : qAgg Tryd.prog 153 = some true := by kernel_rfl
theorem qz153 : qZero Tryd.prog 153 = some (.agg #[.int .u8 0, .int .u8 0, .int .u8 0, .int .u8 0, .int .u8 0, .int .u8 0, .int .u8 0, .int .u8 0, .int .u8 0, .int .u8 0, .int .u8 0, .int .u8 0, .int .u8 0, .int .u8 0, .int .u8 0, .int .u8 0, .int .u8 0, .int .u8 0, .int .u8 0, .int .u8 0, .int .u8 0, .int .u8 0, .int .u8 0, .int .u8 0, .int .u8 0, .int .u8 0, .int .u8 0, .int .u8 0, .int .u8 0, .int .u8 0, .int .u8 0, .int .u8 0]) := by kernel_rfl
theorem qg153 : qFields Tryd.prog 153 = some [(0, 1), (1, 1), (2, 1), (3, 1), (4, 1), (5, 1), (6, 1), (7, 1), (8, 1), (9, 1), (10, 1), (11, 1), (12, 1), (13, 1), (14, 1), (15, 1), (16, 1), (17, 1), (18, 1), (19, 1), (20, 1), (21, 1), (22, 1), (23, 1), (24, 1), (25, 1), (26, 1), (27, 1), (28, 1), (29, 1), (30, 1), (31, 1)] := by kernel_rfl
theorem qr153 : qArr Tryd.prog 153 = some (32, 5) := by kernel_rfl
theorem qs154 : qSize Tryd.prog 154 = some 64 := by kernel_rfl
theorem qb154 : qBytes Tryd.prog 154 = some 64 := by kernel_rfl
theorem qa154 : qAgg Tryd.prog 154 = some true := by kernel_rfl
theorem qg154 : qFields Tryd.prog 154 = some [(0, 1), (1, 1), (2, 1), (3, 1), (4, 1), (5, 1), (6, 1), (7, 1), (8, 1), (9, 1), (10, 1), (11, 1), (12, 1), (13, 1), (14, 1), (15, 1), (16, 1), (17, 1), (18, 1), (19, 1), (20, 1), (21, 1), (22, 1), (23, 1), (24, 1), (25, 1), (26, 1), (27, 1), (28, 1), (29, 1), (30, 1), (31, 1), (32, 1), (33, 1), (34, 1), (35, 1), (36, 1), (37, 1), (38, 1), (39, 1), (40, 1), (41, 1), (42, 1), (43, 1), (44, 1), (45, 1), (46, 1), (47, 1), (48, 1), (49, 1), (50, 1), (51, 1), (52, 1), (53, 1), (54, 1), (55, 1), (56, 1), (57, 1), (58, 1), (59, 1), (60, 1), (61, 1), (62, 1), (63, 1)] := by kernel_rfl
theorem qr154 : qArr Tryd.prog 154 = some (64, 5) := by kernel_rfl
set_option linter.defProp false
/-- The facts, in one name. -/
def fcT := And.intro @qs2 <| And.intro @qb2 <| And.intro @qa2 <| And.intro @qz2 <| And.intro @qk2 <| And.intro @qui2 <| And.intro @qs3 <| And.intro @qb3 <| And.intro @qa3 <| And.intro @qz3 <| And.intro @qk3 <| And.intro @qui3 <| And.intro @qs4 <| And.intro @qb4 <| And.intro @qa4 <| And.intro @qz4 <| And.intro @qo4 <| And.intro @qs5 <| And.intro @qb5 <| And.intro @qa5 <| And.intro @qz5 <| And.intro @qk5 <| And.intro @qui5 <| And.intro @qs9 <| And.intro @qb9 <| And.intro @qa9 <| And.intro @qz9 <| And.intro @qt9 <| And.intro @qs22 <| And.intro @qb22 <| And.intro @qa22 <| And.intro @qz22 <| And.intro @qe22 <| And.intro @qs24 <| And.intro @qb24 <| And.intro @qa24 <| And.intro @qz24 <| And.intro @qe24 <| And.intro @qs25 <| And.intro @qb25 <| And.intro @qa25 <| And.intro @qz25 <| And.intro @qe25 <| And.intro @qs30 <| And.intro @qb30 <| And.intro @qa30 <| And.intro @qz30 <| And.intro @qe30 <| And.intro @qs40 <| And.intro @qb40 <| And.intro @qa40 <| And.intro @qz40 <| And.intro @qg40 <| And.intro @qi40 <| And.intro @qf40_0 <| And.intro @qf40_1 <| And.intro @qs48 <| And.intro @qb48 <| And.intro @qa48 <| And.intro @qz48 <| And.intro @qe48 <| And.intro @qs63 <| And.intro @qb63 <| And.intro @qa63 <| And.intro @qz63 <| And.intro @qg63 <| And.intro @qi63 <| And.intro @qf63_0 <| And.intro @qf63_1 <| And.intro @qf63_2 <| And.intro @qs66 <| And.intro @qb66 <| And.intro @qa66 <| And.intro @qz66 <| And.intro @qe66 <| And.intro @qs72 <| And.intro @qb72 <| And.intro @qa72 <| And.intro @qz72 <| And.intro @qg72 <| And.intro @qf72_0 <| And.intro @qf72_1 <| And.intro @qf72_2 <| And.intro @qf72_3 <| And.intro @qs80 <| And.intro @qb80 <| And.intro @qa80 <| And.intro @qz80 <| And.intro @qs81 <| And.intro @qb81 <| And.intro @qa81 <| And.intro @qz81 <| And.intro @qk81 <| And.intro @qui81 <| And.intro @qs83 <| And.intro @qb83 <| And.intro @qa83 <| And.intro @qz83 <| And.intro @qg83 <| And.intro @qf83_0 <| And.intro @qf83_1 <| And.intro @qf83_2 <| And.intro @qs95 <| And.intro @qb95 <| And.intro @qa95 <| And.intro @qz95 <| And.intro @qg95 <| And.intro @qi95 <| And.intro @qf95_0 <| And.intro @qf95_1 <| And.intro @qs110 <| And.intro @qb110 <| And.intro @qa110 <| And.intro @qz110 <| And.intro @qs121 <| And.intro @qb121 <| And.intro @qa121 <| And.intro @qz121 <| And.intro @qg121 <| And.intro @qr121 <| And.intro @qs122 <| And.intro @qb122 <| And.intro @qa122 <| And.intro @qz122 <| And.intro @qe122 <| And.intro @qs138 <| And.intro @qb138 <| And.intro @qa138 <| And.intro @qz138 <| And.intro @qk138 <| And.intro @qui138 <| And.intro @qs148 <| And.intro @qb148 <| And.intro @qa148 <| And.intro @qz148 <| And.intro @qg148 <| And.intro @qr148 <| And.intro @qs153 <| And.intro @qb153 <| And.intro @qa153 <| And.intro @qz153 <| And.intro @qg153 <| And.intro @qr153 <| And.intro @qs154 <| And.intro @qb154 <| And.intro @qa154 <| And.intro @qg154 <| And.intro @qr154 <| True.intro
end Go.Proofs.YtnjlleopgjggpaaDoor
