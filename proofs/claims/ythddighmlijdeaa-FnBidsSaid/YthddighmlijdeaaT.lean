/- The texts of the functions, edges struck, and closed facts on functions and types: written by program (gen.py). -/
import Derived.Test.YthddighmlijdeaaW
import Derived.Test.YthddighmlijdeaaProg
namespace Go.Proofs.Ythddighmlijdeaa
open Go Go.RowKit Go.Proofs
/-- loop.example/g01062/laws.FnBids -/
def c_laws_FnBids : Cd :=
 (.seq (.reg [⟨(some 2), (.assign (.const (.bool false))), none⟩])
 (.seq (.seq (.reg [⟨(some 33), (.move (.tmp 0)), none⟩,
   ⟨(some 34), (.call (.mk (.value (.func 36)) #[(.tmp 33)] #[46])), none⟩])
 (.cond (.tmp 34) (.seq (.reg [⟨(some 2), (.assign (.const (.bool true))), none⟩])
 .ret) .skip))
 (.seq (.reg [⟨(some 36), (.move (.tmp 0)), none⟩,
   ⟨(some 37), (.call (.mk (.value (.func 37)) #[(.tmp 36)] #[46])), none⟩,
   ⟨(some 35), (.move (.tmp 37)), none⟩,
   ⟨(some 38), (.extract (.tmp 35) 0), none⟩,
   ⟨(some 39), (.extract (.tmp 35) 1), none⟩,
   ⟨(some 40), (.extract (.tmp 35) 2), none⟩,
   ⟨(some 3), (.assign (.tmp 38)), none⟩,
   ⟨(some 4), (.assign (.tmp 39)), none⟩,
   ⟨(some 5), (.assign (.tmp 40)), none⟩])
 (.seq (.reg [⟨(some 42), (.move (.tmp 3)), none⟩,
   ⟨(some 43), (.move (.tmp 4)), none⟩,
   ⟨(some 44), (.move (.tmp 5)), none⟩,
   ⟨(some 45), (.call (.mk (.value (.func 31)) #[(.tmp 42), (.tmp 43), (.tmp 44)] #[25, 3, 3])), none⟩,
   ⟨(some 41), (.move (.tmp 45)), none⟩,
   ⟨(some 46), (.extract (.tmp 41) 0), none⟩,
   ⟨(some 47), (.extract (.tmp 41) 1), none⟩,
   ⟨(some 6), (.assign (.tmp 46)), none⟩,
   ⟨(some 7), (.assign (.tmp 47)), none⟩])
 (.seq (.seq (.reg [⟨(some 49), (.move (.tmp 3)), none⟩,
   ⟨(some 50), (.move (.tmp 4)), none⟩,
   ⟨(some 51), (.move (.tmp 5)), none⟩,
   ⟨(some 52), (.call (.mk (.value (.func 30)) #[(.tmp 49), (.tmp 50), (.tmp 51)] #[25, 3, 3])), none⟩,
   ⟨(some 48), (.move (.tmp 52)), none⟩,
   ⟨(some 53), (.extract (.tmp 48) 0), none⟩,
   ⟨(some 54), (.extract (.tmp 48) 1), none⟩,
   ⟨(some 8), (.assign (.tmp 53)), none⟩,
   ⟨(some 9), (.assign (.tmp 54)), none⟩])
 (.seq (.reg [⟨(some 55), (.move (.tmp 6)), none⟩,
   ⟨(some 56), (.move (.tmp 8)), none⟩,
   ⟨(some 57), (.binOp .neq 3 (.tmp 55) (.tmp 56) 3), none⟩,
   ⟨(some 58), (.move (.tmp 57)), none⟩,
   ⟨(some 59), (.move (.tmp 7)), (some (58, false))⟩,
   ⟨(some 60), (.move (.tmp 9)), (some (58, false))⟩,
   ⟨(some 61), (.binOp .neq 4 (.tmp 59) (.tmp 60) 4), (some (58, false))⟩,
   ⟨(some 62), (.pick (.tmp 58) (.const (.bool true)) (.tmp 61)), none⟩])
 (.cond (.tmp 62) (.seq (.reg [⟨(some 2), (.assign (.const (.bool false))), none⟩])
 .ret) .skip)))
 (.seq (.reg [⟨(some 64), (.move (.tmp 3)), none⟩,
   ⟨(some 65), (.move (.tmp 4)), none⟩,
   ⟨(some 66), (.move (.tmp 5)), none⟩,
   ⟨(some 67), (.call (.mk (.value (.func 27)) #[(.tmp 64), (.tmp 65), (.tmp 66)] #[25, 3, 3])), none⟩,
   ⟨(some 63), (.move (.tmp 67)), none⟩,
   ⟨(some 68), (.extract (.tmp 63) 0), none⟩,
   ⟨(some 69), (.extract (.tmp 63) 1), none⟩,
   ⟨(some 10), (.assign (.tmp 68)), none⟩,
   ⟨(some 11), (.assign (.tmp 69)), none⟩])
 (.seq (.seq (.reg [⟨(some 71), (.move (.tmp 3)), none⟩,
   ⟨(some 72), (.move (.tmp 4)), none⟩,
   ⟨(some 73), (.move (.tmp 5)), none⟩,
   ⟨(some 74), (.call (.mk (.value (.func 26)) #[(.tmp 71), (.tmp 72), (.tmp 73)] #[25, 3, 3])), none⟩,
   ⟨(some 70), (.move (.tmp 74)), none⟩,
   ⟨(some 75), (.extract (.tmp 70) 0), none⟩,
   ⟨(some 76), (.extract (.tmp 70) 1), none⟩,
   ⟨(some 12), (.assign (.tmp 75)), none⟩,
   ⟨(some 13), (.assign (.tmp 76)), none⟩])
 (.seq (.reg [⟨(some 77), (.move (.tmp 10)), none⟩,
   ⟨(some 78), (.move (.tmp 12)), none⟩,
   ⟨(some 79), (.binOp .neq 3 (.tmp 77) (.tmp 78) 3), none⟩,
   ⟨(some 80), (.move (.tmp 79)), none⟩,
   ⟨(some 81), (.move (.tmp 11)), (some (80, false))⟩,
   ⟨(some 82), (.move (.tmp 13)), (some (80, false))⟩,
   ⟨(some 83), (.binOp .neq 4 (.tmp 81) (.tmp 82) 4), (some (80, false))⟩,
   ⟨(some 84), (.pick (.tmp 80) (.const (.bool true)) (.tmp 83)), none⟩])
 (.cond (.tmp 84) (.seq (.reg [⟨(some 2), (.assign (.const (.bool false))), none⟩])
 .ret) .skip)))
 (.seq (.seq (.reg [⟨(some 85), (.move (.tmp 7)), none⟩])
 (.cond (.tmp 85) (.seq (.reg [⟨(some 87), (.move (.tmp 3)), none⟩,
   ⟨(some 88), (.move (.tmp 4)), none⟩,
   ⟨(some 89), (.move (.tmp 6)), none⟩,
   ⟨(some 90), (.call (.mk (.value (.func 29)) #[(.tmp 87), (.tmp 88), (.tmp 89)] #[25, 3, 3])), none⟩,
   ⟨(some 86), (.move (.tmp 90)), none⟩,
   ⟨(some 91), (.extract (.tmp 86) 0), none⟩,
   ⟨(some 92), (.extract (.tmp 86) 1), none⟩,
   ⟨(some 14), (.assign (.tmp 91)), none⟩,
   ⟨(some 15), (.assign (.tmp 92)), none⟩])
 (.seq (.reg [⟨(some 94), (.move (.tmp 3)), none⟩,
   ⟨(some 95), (.move (.tmp 6)), none⟩,
   ⟨(some 96), (.call (.mk (.value (.func 25)) #[(.tmp 94), (.tmp 95)] #[25, 3])), none⟩,
   ⟨(some 93), (.move (.tmp 96)), none⟩,
   ⟨(some 97), (.extract (.tmp 93) 0), none⟩,
   ⟨(some 98), (.extract (.tmp 93) 1), none⟩,
   ⟨(some 16), (.assign (.tmp 97)), none⟩,
   ⟨(some 17), (.assign (.tmp 98)), none⟩])
 (.seq (.reg [⟨(some 100), (.move (.tmp 3)), none⟩,
   ⟨(some 101), (.move (.tmp 4)), none⟩,
   ⟨(some 102), (.move (.tmp 6)), none⟩,
   ⟨(some 103), (.call (.mk (.value (.func 27)) #[(.tmp 100), (.tmp 101), (.tmp 102)] #[25, 3, 3])), none⟩,
   ⟨(some 99), (.move (.tmp 103)), none⟩,
   ⟨(some 104), (.extract (.tmp 99) 0), none⟩,
   ⟨(some 105), (.extract (.tmp 99) 1), none⟩,
   ⟨(some 18), (.assign (.tmp 104)), none⟩,
   ⟨(some 19), (.assign (.tmp 105)), none⟩])
 (.seq (.reg [⟨(some 106), (.move (.tmp 15)), none⟩,
   ⟨(some 107), (.unOp .not 4 (.tmp 106)), none⟩,
   ⟨(some 108), (.move (.tmp 107)), none⟩,
   ⟨(some 109), (.move (.tmp 17)), (some (108, false))⟩,
   ⟨(some 110), (.unOp .not 4 (.tmp 109)), (some (108, false))⟩,
   ⟨(some 111), (.pick (.tmp 108) (.const (.bool true)) (.tmp 110)), none⟩,
   ⟨(some 112), (.move (.tmp 111)), none⟩,
   ⟨(some 113), (.move (.tmp 19)), (some (112, false))⟩,
   ⟨(some 114), (.unOp .not 4 (.tmp 113)), (some (112, false))⟩,
   ⟨(some 115), (.pick (.tmp 112) (.const (.bool true)) (.tmp 114)), none⟩,
   ⟨(some 116), (.move (.tmp 115)), none⟩,
   ⟨(some 117), (.move (.tmp 14)), (some (116, false))⟩,
   ⟨(some 118), (.unOp .not 4 (.tmp 117)), (some (116, false))⟩,
   ⟨(some 119), (.pick (.tmp 116) (.const (.bool true)) (.tmp 118)), none⟩,
   ⟨(some 120), (.move (.tmp 119)), none⟩,
   ⟨(some 121), (.move (.tmp 16)), (some (120, false))⟩,
   ⟨(some 122), (.move (.tmp 5)), (some (120, false))⟩,
   ⟨(some 123), (.binOp .leq 3 (.tmp 121) (.tmp 122) 3), (some (120, false))⟩,
   ⟨(some 124), (.pick (.tmp 120) (.const (.bool true)) (.tmp 123)), none⟩,
   ⟨(some 125), (.move (.tmp 124)), none⟩,
   ⟨(some 126), (.move (.tmp 18)), (some (125, false))⟩,
   ⟨(some 127), (.move (.tmp 10)), (some (125, false))⟩,
   ⟨(some 128), (.binOp .neq 3 (.tmp 126) (.tmp 127) 3), (some (125, false))⟩,
   ⟨(some 129), (.pick (.tmp 125) (.const (.bool true)) (.tmp 128)), none⟩,
   ⟨(some 130), (.move (.tmp 129)), none⟩,
   ⟨(some 131), (.move (.tmp 10)), (some (130, false))⟩,
   ⟨(some 132), (.binOp .eql 3 (.tmp 131) (.const (.int .i64 0)) 3), (some (130, false))⟩,
   ⟨(some 133), (.pick (.tmp 130) (.const (.bool true)) (.tmp 132)), none⟩])
 (.cond (.tmp 133) (.seq (.reg [⟨(some 2), (.assign (.const (.bool false))), none⟩])
 .ret) .skip))))) .skip))
 (.seq (.seq (.reg [⟨(some 134), (.move (.tmp 11)), none⟩,
   ⟨(some 135), (.move (.tmp 134)), none⟩,
   ⟨(some 136), (.move (.tmp 7)), (some (135, true))⟩,
   ⟨(some 137), (.move (.tmp 10)), (some (135, true))⟩,
   ⟨(some 138), (.binOp .gtr 3 (.tmp 137) (.const (.int .i64 0)) 3), (some (135, true))⟩,
   ⟨(some 139), (.binOp .neq 4 (.tmp 136) (.tmp 138) 4), (some (135, true))⟩,
   ⟨(some 140), (.pick (.tmp 135) (.tmp 139) (.const (.bool false))), none⟩])
 (.cond (.tmp 140) (.seq (.reg [⟨(some 2), (.assign (.const (.bool false))), none⟩])
 .ret) .skip))
 (.seq (.reg [⟨(some 142), (.move (.tmp 0)), none⟩,
   ⟨(some 143), (.call (.mk (.value (.func 38)) #[(.tmp 142)] #[46])), none⟩,
   ⟨(some 141), (.move (.tmp 143)), none⟩,
   ⟨(some 144), (.extract (.tmp 141) 0), none⟩,
   ⟨(some 145), (.extract (.tmp 141) 1), none⟩,
   ⟨(some 146), (.extract (.tmp 141) 2), none⟩,
   ⟨(some 20), (.assign (.tmp 144)), none⟩,
   ⟨(some 21), (.assign (.tmp 145)), none⟩,
   ⟨(some 22), (.assign (.tmp 146)), none⟩])
 (.seq (.reg [⟨(some 148), (.move (.tmp 20)), none⟩,
   ⟨(some 149), (.move (.tmp 21)), none⟩,
   ⟨(some 150), (.move (.tmp 22)), none⟩,
   ⟨(some 151), (.call (.mk (.value (.func 29)) #[(.tmp 148), (.tmp 149), (.tmp 150)] #[25, 3, 3])), none⟩,
   ⟨(some 147), (.move (.tmp 151)), none⟩,
   ⟨(some 152), (.extract (.tmp 147) 0), none⟩,
   ⟨(some 153), (.extract (.tmp 147) 1), none⟩,
   ⟨(some 23), (.assign (.tmp 152)), none⟩,
   ⟨(some 24), (.assign (.tmp 153)), none⟩])
 (.seq (.reg [⟨(some 155), (.move (.tmp 20)), none⟩,
   ⟨(some 156), (.move (.tmp 21)), none⟩,
   ⟨(some 157), (.move (.tmp 22)), none⟩,
   ⟨(some 158), (.call (.mk (.value (.func 28)) #[(.tmp 155), (.tmp 156), (.tmp 157)] #[25, 3, 3])), none⟩,
   ⟨(some 154), (.move (.tmp 158)), none⟩,
   ⟨(some 159), (.extract (.tmp 154) 0), none⟩,
   ⟨(some 160), (.extract (.tmp 154) 1), none⟩,
   ⟨(some 25), (.assign (.tmp 159)), none⟩,
   ⟨(some 26), (.assign (.tmp 160)), none⟩])
 (.seq (.reg [⟨(some 162), (.move (.tmp 0)), none⟩,
   ⟨(some 163), (.call (.mk (.value (.func 39)) #[(.tmp 162)] #[46])), none⟩,
   ⟨(some 161), (.move (.tmp 163)), none⟩,
   ⟨(some 164), (.extract (.tmp 161) 0), none⟩,
   ⟨(some 165), (.extract (.tmp 161) 1), none⟩,
   ⟨(some 27), (.assign (.tmp 164)), none⟩,
   ⟨(some 28), (.assign (.tmp 165)), none⟩])
 (.seq (.reg [⟨(some 167), (.move (.tmp 27)), none⟩,
   ⟨(some 168), (.move (.tmp 28)), none⟩,
   ⟨(some 169), (.call (.mk (.value (.func 25)) #[(.tmp 167), (.tmp 168)] #[25, 3])), none⟩,
   ⟨(some 166), (.move (.tmp 169)), none⟩,
   ⟨(some 170), (.extract (.tmp 166) 0), none⟩,
   ⟨(some 171), (.extract (.tmp 166) 1), none⟩,
   ⟨(some 29), (.assign (.tmp 170)), none⟩,
   ⟨(some 30), (.assign (.tmp 171)), none⟩])
 (.seq (.reg [⟨(some 173), (.move (.tmp 27)), none⟩,
   ⟨(some 174), (.move (.tmp 28)), none⟩,
   ⟨(some 175), (.call (.mk (.value (.func 24)) #[(.tmp 173), (.tmp 174)] #[25, 3])), none⟩,
   ⟨(some 172), (.move (.tmp 175)), none⟩,
   ⟨(some 176), (.extract (.tmp 172) 0), none⟩,
   ⟨(some 177), (.extract (.tmp 172) 1), none⟩,
   ⟨(some 31), (.assign (.tmp 176)), none⟩,
   ⟨(some 32), (.assign (.tmp 177)), none⟩])
 (.seq (.reg [⟨(some 178), (.move (.tmp 23)), none⟩,
   ⟨(some 179), (.move (.tmp 25)), none⟩,
   ⟨(some 180), (.binOp .eql 4 (.tmp 178) (.tmp 179) 4), none⟩,
   ⟨(some 181), (.move (.tmp 180)), none⟩,
   ⟨(some 182), (.move (.tmp 24)), (some (181, true))⟩,
   ⟨(some 183), (.move (.tmp 26)), (some (181, true))⟩,
   ⟨(some 184), (.binOp .eql 4 (.tmp 182) (.tmp 183) 4), (some (181, true))⟩,
   ⟨(some 185), (.pick (.tmp 181) (.tmp 184) (.const (.bool false))), none⟩,
   ⟨(some 186), (.move (.tmp 185)), none⟩,
   ⟨(some 187), (.move (.tmp 29)), (some (186, true))⟩,
   ⟨(some 188), (.move (.tmp 31)), (some (186, true))⟩,
   ⟨(some 189), (.binOp .eql 3 (.tmp 187) (.tmp 188) 3), (some (186, true))⟩,
   ⟨(some 190), (.pick (.tmp 186) (.tmp 189) (.const (.bool false))), none⟩,
   ⟨(some 191), (.move (.tmp 190)), none⟩,
   ⟨(some 192), (.move (.tmp 30)), (some (191, true))⟩,
   ⟨(some 193), (.move (.tmp 32)), (some (191, true))⟩,
   ⟨(some 194), (.binOp .eql 4 (.tmp 192) (.tmp 193) 4), (some (191, true))⟩,
   ⟨(some 195), (.pick (.tmp 191) (.tmp 194) (.const (.bool false))), none⟩,
   ⟨(some 196), (.move (.tmp 195)), none⟩,
   ⟨(some 197), (.move (.tmp 30)), (some (196, true))⟩,
   ⟨(some 198), (.unOp .not 4 (.tmp 197)), (some (196, true))⟩,
   ⟨(some 199), (.move (.tmp 198)), (some (196, true))⟩,
   ⟨(some 200), (.move (.tmp 29)), (some (199, false))⟩,
   ⟨(some 201), (.move (.tmp 28)), (some (199, false))⟩,
   ⟨(some 202), (.binOp .gtr 3 (.tmp 200) (.tmp 201) 3), (some (199, false))⟩,
   ⟨(some 203), (.pick (.tmp 199) (.const (.bool true)) (.tmp 202)), (some (196, true))⟩,
   ⟨(some 204), (.pick (.tmp 196) (.tmp 203) (.const (.bool false))), none⟩,
   ⟨(some 205), (.move (.tmp 204)), none⟩,
   ⟨(some 206), (.move (.tmp 20)), (some (205, true))⟩,
   ⟨(some 207), (.call (.mk (.value (.func 17)) #[(.tmp 206)] #[25])), (some (205, true))⟩,
   ⟨(some 208), (.move (.tmp 20)), (some (205, true))⟩,
   ⟨(some 209), (.call (.mk (.value (.func 15)) #[(.tmp 208)] #[25])), (some (205, true))⟩,
   ⟨(some 210), (.binOp .eql 4 (.tmp 207) (.tmp 209) 4), (some (205, true))⟩,
   ⟨(some 211), (.pick (.tmp 205) (.tmp 210) (.const (.bool false))), none⟩,
   ⟨(some 2), (.assign (.tmp 211)), none⟩])
 .ret))))))))))))))))
theorem x_laws_FnBids : Txt Try.prog 10 c_laws_FnBids [.tmp 2] 1 := ⟨by kernel_rfl, by kernel_rfl, _, _, Try.func10, rfl, by kernel_rfl, by kernel_rfl, by kernel_rfl, rfl, by decide⟩
/-- loop.example/g01062/laws.szBidStepS -/
def c_laws_szBidStepS : Cd :=
 (.seq (.reg [⟨(some 4), (.assign (.const (.int .i64 0))), none⟩])
 (.seq (.reg [⟨(some 5), (.move (.tmp 1)), none⟩,
   ⟨(some 6), (.move (.tmp 0)), none⟩,
   ⟨(some 7), (.call (.mk (.builtin .len) #[(.tmp 6)] #[22])), none⟩,
   ⟨(some 8), (.binOp .sub 3 (.tmp 5) (.tmp 7) 3), none⟩,
   ⟨(some 1), (.assign (.tmp 8)), none⟩])
 (.seq (.seq (.reg [⟨(some 9), (.move (.tmp 1)), none⟩,
   ⟨(some 10), (.binOp .lss 3 (.tmp 9) (.const (.int .i64 0)) 3), none⟩])
 (.cond (.tmp 10) (.seq (.reg [⟨(some 4), (.assign (.const (.int .i64 (-1)))), none⟩])
 .ret) .skip))
 (.seq (.reg [⟨(some 11), (.move (.tmp 1)), none⟩,
   ⟨(some 4), (.assign (.tmp 11)), none⟩])
 .ret))))
theorem x_laws_szBidStepS : Txt Try.prog 14 c_laws_szBidStepS [.tmp 4] 2 := ⟨by kernel_rfl, by kernel_rfl, _, _, Try.func14, rfl, by kernel_rfl, by kernel_rfl, by kernel_rfl, rfl, by decide⟩
/-- loop.example/g01062/spec.AreSteps -/
def c_spec_AreSteps : Cd :=
 (.seq (.reg [⟨(some 2), (.assign (.const (.bool false))), none⟩])
 (.seq (.reg [⟨(some 3), (.move (.tmp 0)), none⟩,
   ⟨(some 4), (.call (.mk (.value (.func 50)) #[(.tmp 3)] #[25])), none⟩,
   ⟨(some 2), (.assign (.tmp 4)), none⟩])
 .ret))
theorem x_spec_AreSteps : Txt Try.prog 15 c_spec_AreSteps [.tmp 2] 1 := ⟨by kernel_rfl, by kernel_rfl, _, _, Try.func15, rfl, by kernel_rfl, by kernel_rfl, by kernel_rfl, rfl, by decide⟩
/-- loop.example/g01062/laws.toBidStepS -/
def c_laws_toBidStepS : Cd :=
 (.seq (.reg [⟨(some 2), (.assign (.const (.slice none 0 0))), none⟩])
 (.seq (.reg [⟨(some 5), (.move (.tmp 0)), none⟩,
   ⟨(some 6), (.call (.mk (.builtin .len) #[(.tmp 5)] #[22])), none⟩,
   ⟨(some 7), (.makeSlice 25 (.tmp 6) (.tmp 6)), none⟩,
   ⟨(some 3), (.assign (.tmp 7)), none⟩])
 (.seq (.seq (.reg [⟨(some 4), (.assign (.const (.int .i64 0))), none⟩])
 (.block 0 (.loop (.seq (.seq (.reg [⟨(some 8), (.move (.tmp 4)), none⟩,
   ⟨(some 9), (.move (.tmp 0)), none⟩,
   ⟨(some 10), (.call (.mk (.builtin .len) #[(.tmp 9)] #[22])), none⟩,
   ⟨(some 11), (.binOp .lss 3 (.tmp 8) (.tmp 10) 3), none⟩])
 (.cond (.tmp 11) .skip (.exit 0)))
 (.seq (.block 1 (.reg [⟨(some 14), (.move (.tmp 3)), none⟩,
   ⟨(some 15), (.move (.tmp 4)), none⟩,
   ⟨(some 16), (.move (.tmp 0)), none⟩,
   ⟨(some 17), (.move (.tmp 4)), none⟩,
   ⟨(some 18), (.indexAddr 22 (.tmp 16) (.tmp 17)), none⟩,
   ⟨(some 19), (.load 66 (.tmp 18)), none⟩,
   ⟨(some 20), (.call (.mk (.value (.func 51)) #[(.tmp 19)] #[66])), none⟩,
   ⟨(some 21), (.indexAddr 25 (.tmp 14) (.tmp 15)), none⟩,
   ⟨none, (.store 64 (.tmp 21) (.tmp 20)), none⟩]))
 (.reg [⟨(some 12), (.move (.tmp 4)), none⟩,
   ⟨(some 13), (.binOp .add 3 (.tmp 12) (.const (.int .i64 1)) 3), none⟩,
   ⟨(some 4), (.assign (.tmp 13)), none⟩]))))))
 (.seq (.reg [⟨(some 22), (.move (.tmp 3)), none⟩,
   ⟨(some 2), (.assign (.tmp 22)), none⟩])
 .ret))))
theorem x_laws_toBidStepS : Txt Try.prog 16 c_laws_toBidStepS [.tmp 2] 1 := ⟨by kernel_rfl, by kernel_rfl, _, _, Try.func16, rfl, by kernel_rfl, by kernel_rfl, by kernel_rfl, rfl, by decide⟩
/-- loop.example/g01062/impl.AreSteps -/
def c_impl_AreSteps : Cd :=
 (.seq (.reg [⟨(some 2), (.assign (.const (.bool false))), none⟩])
 (.seq (.reg [⟨(some 3), (.move (.tmp 0)), none⟩,
   ⟨(some 4), (.call (.mk (.value (.func 52)) #[(.tmp 3)] #[25])), none⟩,
   ⟨(some 2), (.assign (.tmp 4)), none⟩])
 .ret))
theorem x_impl_AreSteps : Txt Try.prog 17 c_impl_AreSteps [.tmp 2] 1 := ⟨by kernel_rfl, by kernel_rfl, _, _, Try.func17, rfl, by kernel_rfl, by kernel_rfl, by kernel_rfl, rfl, by decide⟩
/-- loop.example/g01062/laws.eqBidStepS -/
def c_laws_eqBidStepS : Cd :=
 (.seq (.reg [⟨(some 4), (.assign (.const (.bool false))), none⟩])
 (.seq (.seq (.reg [⟨(some 6), (.move (.tmp 0)), none⟩,
   ⟨(some 7), (.call (.mk (.builtin .len) #[(.tmp 6)] #[25])), none⟩,
   ⟨(some 8), (.move (.tmp 1)), none⟩,
   ⟨(some 9), (.call (.mk (.builtin .len) #[(.tmp 8)] #[25])), none⟩,
   ⟨(some 10), (.binOp .neq 3 (.tmp 7) (.tmp 9) 3), none⟩])
 (.cond (.tmp 10) (.seq (.reg [⟨(some 4), (.assign (.const (.bool false))), none⟩])
 .ret) .skip))
 (.seq (.seq (.reg [⟨(some 5), (.assign (.const (.int .i64 0))), none⟩])
 (.block 0 (.loop (.seq (.seq (.reg [⟨(some 11), (.move (.tmp 5)), none⟩,
   ⟨(some 12), (.move (.tmp 0)), none⟩,
   ⟨(some 13), (.call (.mk (.builtin .len) #[(.tmp 12)] #[25])), none⟩,
   ⟨(some 14), (.binOp .lss 3 (.tmp 11) (.tmp 13) 3), none⟩])
 (.cond (.tmp 14) .skip (.exit 0)))
 (.seq (.block 1 (.seq (.regq [⟨(some 17), (.move (.tmp 0)), none⟩,
   ⟨(some 18), (.move (.tmp 5)), none⟩,
   ⟨(some 19), (.indexAddr 25 (.tmp 17) (.tmp 18)), none⟩,
   ⟨(some 20), (.load 64 (.tmp 19)), none⟩,
   ⟨(some 21), (.move (.tmp 1)), none⟩,
   ⟨(some 22), (.move (.tmp 5)), none⟩,
   ⟨(some 23), (.indexAddr 25 (.tmp 21) (.tmp 22)), none⟩,
   ⟨(some 24), (.load 64 (.tmp 23)), none⟩,
   ⟨(some 25), (.call (.mk (.value (.func 53)) #[(.tmp 20), (.tmp 24)] #[64, 64])), none⟩,
   ⟨(some 26), (.unOp .not 4 (.tmp 25)), none⟩])
 (.cond (.tmp 26) (.seq (.reg [⟨(some 4), (.assign (.const (.bool false))), none⟩])
 .ret) .skip)))
 (.reg [⟨(some 15), (.move (.tmp 5)), none⟩,
   ⟨(some 16), (.binOp .add 3 (.tmp 15) (.const (.int .i64 1)) 3), none⟩,
   ⟨(some 5), (.assign (.tmp 16)), none⟩]))))))
 (.seq (.reg [⟨(some 4), (.assign (.const (.bool true))), none⟩])
 .ret))))
theorem x_laws_eqBidStepS : Txt Try.prog 18 c_laws_eqBidStepS [.tmp 4] 2 := ⟨by kernel_rfl, by kernel_rfl, _, _, Try.func18, rfl, by kernel_rfl, by kernel_rfl, by kernel_rfl, rfl, by decide⟩
/-- loop.example/g01062/laws.szAbsenteeS -/
def c_laws_szAbsenteeS : Cd :=
 (.seq (.reg [⟨(some 4), (.assign (.const (.int .i64 0))), none⟩])
 (.seq (.reg [⟨(some 5), (.move (.tmp 1)), none⟩,
   ⟨(some 6), (.move (.tmp 0)), none⟩,
   ⟨(some 7), (.call (.mk (.builtin .len) #[(.tmp 6)] #[29])), none⟩,
   ⟨(some 8), (.binOp .sub 3 (.tmp 5) (.tmp 7) 3), none⟩,
   ⟨(some 1), (.assign (.tmp 8)), none⟩])
 (.seq (.seq (.reg [⟨(some 9), (.move (.tmp 1)), none⟩,
   ⟨(some 10), (.binOp .lss 3 (.tmp 9) (.const (.int .i64 0)) 3), none⟩])
 (.cond (.tmp 10) (.seq (.reg [⟨(some 4), (.assign (.const (.int .i64 (-1)))), none⟩])
 .ret) .skip))
 (.seq (.reg [⟨(some 11), (.move (.tmp 1)), none⟩,
   ⟨(some 4), (.assign (.tmp 11)), none⟩])
 .ret))))
theorem x_laws_szAbsenteeS : Txt Try.prog 19 c_laws_szAbsenteeS [.tmp 4] 2 := ⟨by kernel_rfl, by kernel_rfl, _, _, Try.func19, rfl, by kernel_rfl, by kernel_rfl, by kernel_rfl, rfl, by decide⟩
/-- loop.example/g01062/laws.toAbsenteeS -/
def c_laws_toAbsenteeS : Cd :=
 (.seq (.reg [⟨(some 2), (.assign (.const (.slice none 0 0))), none⟩])
 (.seq (.reg [⟨(some 5), (.move (.tmp 0)), none⟩,
   ⟨(some 6), (.call (.mk (.builtin .len) #[(.tmp 5)] #[29])), none⟩,
   ⟨(some 7), (.makeSlice 32 (.tmp 6) (.tmp 6)), none⟩,
   ⟨(some 3), (.assign (.tmp 7)), none⟩])
 (.seq (.seq (.reg [⟨(some 4), (.assign (.const (.int .i64 0))), none⟩])
 (.block 0 (.loop (.seq (.seq (.reg [⟨(some 8), (.move (.tmp 4)), none⟩,
   ⟨(some 9), (.move (.tmp 0)), none⟩,
   ⟨(some 10), (.call (.mk (.builtin .len) #[(.tmp 9)] #[29])), none⟩,
   ⟨(some 11), (.binOp .lss 3 (.tmp 8) (.tmp 10) 3), none⟩])
 (.cond (.tmp 11) .skip (.exit 0)))
 (.seq (.block 1 (.reg [⟨(some 14), (.move (.tmp 3)), none⟩,
   ⟨(some 15), (.move (.tmp 4)), none⟩,
   ⟨(some 16), (.move (.tmp 0)), none⟩,
   ⟨(some 17), (.move (.tmp 4)), none⟩,
   ⟨(some 18), (.indexAddr 29 (.tmp 16) (.tmp 17)), none⟩,
   ⟨(some 19), (.load 71 (.tmp 18)), none⟩,
   ⟨(some 20), (.call (.mk (.value (.func 55)) #[(.tmp 19)] #[71])), none⟩,
   ⟨(some 21), (.indexAddr 32 (.tmp 14) (.tmp 15)), none⟩,
   ⟨none, (.store 69 (.tmp 21) (.tmp 20)), none⟩]))
 (.reg [⟨(some 12), (.move (.tmp 4)), none⟩,
   ⟨(some 13), (.binOp .add 3 (.tmp 12) (.const (.int .i64 1)) 3), none⟩,
   ⟨(some 4), (.assign (.tmp 13)), none⟩]))))))
 (.seq (.reg [⟨(some 22), (.move (.tmp 3)), none⟩,
   ⟨(some 2), (.assign (.tmp 22)), none⟩])
 .ret))))
theorem x_laws_toAbsenteeS : Txt Try.prog 21 c_laws_toAbsenteeS [.tmp 2] 1 := ⟨by kernel_rfl, by kernel_rfl, _, _, Try.func21, rfl, by kernel_rfl, by kernel_rfl, by kernel_rfl, rfl, by decide⟩
/-- loop.example/g01062/laws.eqAbsenteeS -/
def c_laws_eqAbsenteeS : Cd :=
 (.seq (.reg [⟨(some 4), (.assign (.const (.bool false))), none⟩])
 (.seq (.seq (.reg [⟨(some 6), (.move (.tmp 0)), none⟩,
   ⟨(some 7), (.call (.mk (.builtin .len) #[(.tmp 6)] #[32])), none⟩,
   ⟨(some 8), (.move (.tmp 1)), none⟩,
   ⟨(some 9), (.call (.mk (.builtin .len) #[(.tmp 8)] #[32])), none⟩,
   ⟨(some 10), (.binOp .neq 3 (.tmp 7) (.tmp 9) 3), none⟩])
 (.cond (.tmp 10) (.seq (.reg [⟨(some 4), (.assign (.const (.bool false))), none⟩])
 .ret) .skip))
 (.seq (.seq (.reg [⟨(some 5), (.assign (.const (.int .i64 0))), none⟩])
 (.block 0 (.loop (.seq (.seq (.reg [⟨(some 11), (.move (.tmp 5)), none⟩,
   ⟨(some 12), (.move (.tmp 0)), none⟩,
   ⟨(some 13), (.call (.mk (.builtin .len) #[(.tmp 12)] #[32])), none⟩,
   ⟨(some 14), (.binOp .lss 3 (.tmp 11) (.tmp 13) 3), none⟩])
 (.cond (.tmp 14) .skip (.exit 0)))
 (.seq (.block 1 (.seq (.regq [⟨(some 17), (.move (.tmp 0)), none⟩,
   ⟨(some 18), (.move (.tmp 5)), none⟩,
   ⟨(some 19), (.indexAddr 32 (.tmp 17) (.tmp 18)), none⟩,
   ⟨(some 20), (.load 69 (.tmp 19)), none⟩,
   ⟨(some 21), (.move (.tmp 1)), none⟩,
   ⟨(some 22), (.move (.tmp 5)), none⟩,
   ⟨(some 23), (.indexAddr 32 (.tmp 21) (.tmp 22)), none⟩,
   ⟨(some 24), (.load 69 (.tmp 23)), none⟩,
   ⟨(some 25), (.call (.mk (.value (.func 57)) #[(.tmp 20), (.tmp 24)] #[69, 69])), none⟩,
   ⟨(some 26), (.unOp .not 4 (.tmp 25)), none⟩])
 (.cond (.tmp 26) (.seq (.reg [⟨(some 4), (.assign (.const (.bool false))), none⟩])
 .ret) .skip)))
 (.reg [⟨(some 15), (.move (.tmp 5)), none⟩,
   ⟨(some 16), (.binOp .add 3 (.tmp 15) (.const (.int .i64 1)) 3), none⟩,
   ⟨(some 5), (.assign (.tmp 16)), none⟩]))))))
 (.seq (.reg [⟨(some 4), (.assign (.const (.bool true))), none⟩])
 .ret))))
theorem x_laws_eqAbsenteeS : Txt Try.prog 23 c_laws_eqAbsenteeS [.tmp 4] 2 := ⟨by kernel_rfl, by kernel_rfl, _, _, Try.func23, rfl, by kernel_rfl, by kernel_rfl, by kernel_rfl, rfl, by decide⟩
/-- loop.example/g01062/spec.NextBid -/
def c_spec_NextBid : Cd :=
 (.seq (.reg [⟨(some 4), (.assign (.const (.int .i64 0))), none⟩,
   ⟨(some 5), (.assign (.const (.bool false))), none⟩])
 (.seq (.seq (.reg [⟨(some 6), (.move (.tmp 0)), none⟩,
   ⟨(some 7), (.call (.mk (.value (.func 50)) #[(.tmp 6)] #[25])), none⟩,
   ⟨(some 8), (.unOp .not 4 (.tmp 7)), none⟩,
   ⟨(some 9), (.move (.tmp 8)), none⟩,
   ⟨(some 10), (.move (.tmp 1)), (some (9, false))⟩,
   ⟨(some 11), (.call (.mk (.value (.func 58)) #[(.tmp 10)] #[3])), (some (9, false))⟩,
   ⟨(some 12), (.unOp .not 4 (.tmp 11)), (some (9, false))⟩,
   ⟨(some 13), (.pick (.tmp 9) (.const (.bool true)) (.tmp 12)), none⟩])
 (.cond (.tmp 13) (.seq (.reg [⟨(some 4), (.assign (.const (.int .i64 0))), none⟩,
   ⟨(some 5), (.assign (.const (.bool false))), none⟩])
 .ret) .skip))
 (.seq (.reg [⟨(some 14), (.move (.tmp 0)), none⟩,
   ⟨(some 15), (.move (.tmp 1)), none⟩,
   ⟨(some 16), (.call (.mk (.value (.func 59)) #[(.tmp 14), (.tmp 15)] #[25, 3])), none⟩,
   ⟨(some 4), (.assign (.tmp 16)), none⟩,
   ⟨(some 5), (.assign (.const (.bool true))), none⟩])
 .ret)))
theorem x_spec_NextBid : Txt Try.prog 24 c_spec_NextBid [.tmp 4, .tmp 5] 2 := ⟨by kernel_rfl, by kernel_rfl, _, _, Try.func24, rfl, by kernel_rfl, by kernel_rfl, by kernel_rfl, rfl, by decide⟩
/-- loop.example/g01062/impl.NextBid -/
def c_impl_NextBid : Cd :=
 (.seq (.reg [⟨(some 4), (.assign (.const (.int .i64 0))), none⟩,
   ⟨(some 5), (.assign (.const (.bool false))), none⟩])
 (.seq (.seq (.reg [⟨(some 6), (.move (.tmp 0)), none⟩,
   ⟨(some 7), (.call (.mk (.value (.func 52)) #[(.tmp 6)] #[25])), none⟩,
   ⟨(some 8), (.unOp .not 4 (.tmp 7)), none⟩,
   ⟨(some 9), (.move (.tmp 8)), none⟩,
   ⟨(some 10), (.move (.tmp 1)), (some (9, false))⟩,
   ⟨(some 11), (.call (.mk (.value (.func 60)) #[(.tmp 10)] #[3])), (some (9, false))⟩,
   ⟨(some 12), (.unOp .not 4 (.tmp 11)), (some (9, false))⟩,
   ⟨(some 13), (.pick (.tmp 9) (.const (.bool true)) (.tmp 12)), none⟩])
 (.cond (.tmp 13) (.seq (.reg [⟨(some 4), (.assign (.const (.int .i64 0))), none⟩,
   ⟨(some 5), (.assign (.const (.bool false))), none⟩])
 .ret) .skip))
 (.seq (.reg [⟨(some 14), (.move (.tmp 0)), none⟩,
   ⟨(some 15), (.move (.tmp 1)), none⟩,
   ⟨(some 16), (.call (.mk (.value (.func 61)) #[(.tmp 14), (.tmp 15)] #[25, 3])), none⟩,
   ⟨(some 4), (.assign (.tmp 16)), none⟩,
   ⟨(some 5), (.assign (.const (.bool true))), none⟩])
 .ret)))
theorem x_impl_NextBid : Txt Try.prog 25 c_impl_NextBid [.tmp 4, .tmp 5] 2 := ⟨by kernel_rfl, by kernel_rfl, _, _, Try.func25, rfl, by kernel_rfl, by kernel_rfl, by kernel_rfl, rfl, by decide⟩
/-- loop.example/g01062/spec.CountBids -/
def c_spec_CountBids : Cd :=
 (.seq (.reg [⟨(some 6), (.assign (.const (.int .i64 0))), none⟩,
   ⟨(some 7), (.assign (.const (.bool false))), none⟩])
 (.seq (.seq (.reg [⟨(some 10), (.move (.tmp 0)), none⟩,
   ⟨(some 11), (.call (.mk (.value (.func 50)) #[(.tmp 10)] #[25])), none⟩,
   ⟨(some 12), (.unOp .not 4 (.tmp 11)), none⟩,
   ⟨(some 13), (.move (.tmp 12)), none⟩,
   ⟨(some 14), (.move (.tmp 1)), (some (13, false))⟩,
   ⟨(some 15), (.call (.mk (.value (.func 58)) #[(.tmp 14)] #[3])), (some (13, false))⟩,
   ⟨(some 16), (.unOp .not 4 (.tmp 15)), (some (13, false))⟩,
   ⟨(some 17), (.pick (.tmp 13) (.const (.bool true)) (.tmp 16)), none⟩,
   ⟨(some 18), (.move (.tmp 17)), none⟩,
   ⟨(some 19), (.move (.tmp 2)), (some (18, false))⟩,
   ⟨(some 20), (.call (.mk (.value (.func 58)) #[(.tmp 19)] #[3])), (some (18, false))⟩,
   ⟨(some 21), (.unOp .not 4 (.tmp 20)), (some (18, false))⟩,
   ⟨(some 22), (.pick (.tmp 18) (.const (.bool true)) (.tmp 21)), none⟩])
 (.cond (.tmp 22) (.seq (.reg [⟨(some 6), (.assign (.const (.int .i64 0))), none⟩,
   ⟨(some 7), (.assign (.const (.bool false))), none⟩])
 .ret) .skip))
 (.seq (.reg [⟨(some 8), (.assign (.const (.int .i64 0))), none⟩])
 (.seq (.seq (.reg [⟨(some 23), (.move (.tmp 1)), none⟩,
   ⟨(some 9), (.assign (.tmp 23)), none⟩])
 (.block 0 (.loop (.seq (.seq (.reg [⟨(some 24), (.move (.tmp 9)), none⟩,
   ⟨(some 25), (.move (.tmp 2)), none⟩,
   ⟨(some 26), (.binOp .leq 3 (.tmp 24) (.tmp 25) 3), none⟩])
 (.cond (.tmp 26) .skip (.exit 0)))
 (.seq (.block 1 (.reg [⟨(some 30), (.move (.tmp 8)), none⟩,
   ⟨(some 31), (.binOp .add 3 (.tmp 30) (.const (.int .i64 1)) 3), none⟩,
   ⟨(some 8), (.assign (.tmp 31)), none⟩]))
 (.reg [⟨(some 27), (.move (.tmp 0)), none⟩,
   ⟨(some 28), (.move (.tmp 9)), none⟩,
   ⟨(some 29), (.call (.mk (.value (.func 59)) #[(.tmp 27), (.tmp 28)] #[25, 3])), none⟩,
   ⟨(some 9), (.assign (.tmp 29)), none⟩]))))))
 (.seq (.reg [⟨(some 32), (.move (.tmp 8)), none⟩,
   ⟨(some 6), (.assign (.tmp 32)), none⟩,
   ⟨(some 7), (.assign (.const (.bool true))), none⟩])
 .ret)))))
theorem x_spec_CountBids : Txt Try.prog 26 c_spec_CountBids [.tmp 6, .tmp 7] 3 := ⟨by kernel_rfl, by kernel_rfl, _, _, Try.func26, rfl, by kernel_rfl, by kernel_rfl, by kernel_rfl, rfl, by decide⟩
/-- loop.example/g01062/impl.CountBids -/
def c_impl_CountBids : Cd :=
 (.seq (.reg [⟨(some 6), (.assign (.const (.int .i64 0))), none⟩,
   ⟨(some 7), (.assign (.const (.bool false))), none⟩])
 (.seq (.seq (.reg [⟨(some 10), (.move (.tmp 0)), none⟩,
   ⟨(some 11), (.call (.mk (.value (.func 52)) #[(.tmp 10)] #[25])), none⟩,
   ⟨(some 12), (.unOp .not 4 (.tmp 11)), none⟩,
   ⟨(some 13), (.move (.tmp 12)), none⟩,
   ⟨(some 14), (.move (.tmp 1)), (some (13, false))⟩,
   ⟨(some 15), (.call (.mk (.value (.func 60)) #[(.tmp 14)] #[3])), (some (13, false))⟩,
   ⟨(some 16), (.unOp .not 4 (.tmp 15)), (some (13, false))⟩,
   ⟨(some 17), (.pick (.tmp 13) (.const (.bool true)) (.tmp 16)), none⟩,
   ⟨(some 18), (.move (.tmp 17)), none⟩,
   ⟨(some 19), (.move (.tmp 2)), (some (18, false))⟩,
   ⟨(some 20), (.call (.mk (.value (.func 60)) #[(.tmp 19)] #[3])), (some (18, false))⟩,
   ⟨(some 21), (.unOp .not 4 (.tmp 20)), (some (18, false))⟩,
   ⟨(some 22), (.pick (.tmp 18) (.const (.bool true)) (.tmp 21)), none⟩])
 (.cond (.tmp 22) (.seq (.reg [⟨(some 6), (.assign (.const (.int .i64 0))), none⟩,
   ⟨(some 7), (.assign (.const (.bool false))), none⟩])
 .ret) .skip))
 (.seq (.reg [⟨(some 8), (.assign (.const (.int .i64 0))), none⟩])
 (.seq (.seq (.reg [⟨(some 23), (.move (.tmp 1)), none⟩,
   ⟨(some 9), (.assign (.tmp 23)), none⟩])
 (.block 0 (.loop (.seq (.seq (.reg [⟨(some 24), (.move (.tmp 9)), none⟩,
   ⟨(some 25), (.move (.tmp 2)), none⟩,
   ⟨(some 26), (.binOp .leq 3 (.tmp 24) (.tmp 25) 3), none⟩])
 (.cond (.tmp 26) .skip (.exit 0)))
 (.seq (.block 1 (.reg [⟨(some 30), (.move (.tmp 8)), none⟩,
   ⟨(some 31), (.binOp .add 3 (.tmp 30) (.const (.int .i64 1)) 3), none⟩,
   ⟨(some 8), (.assign (.tmp 31)), none⟩]))
 (.reg [⟨(some 27), (.move (.tmp 0)), none⟩,
   ⟨(some 28), (.move (.tmp 9)), none⟩,
   ⟨(some 29), (.call (.mk (.value (.func 61)) #[(.tmp 27), (.tmp 28)] #[25, 3])), none⟩,
   ⟨(some 9), (.assign (.tmp 29)), none⟩]))))))
 (.seq (.reg [⟨(some 32), (.move (.tmp 8)), none⟩,
   ⟨(some 6), (.assign (.tmp 32)), none⟩,
   ⟨(some 7), (.assign (.const (.bool true))), none⟩])
 .ret)))))
theorem x_impl_CountBids : Txt Try.prog 27 c_impl_CountBids [.tmp 6, .tmp 7] 3 := ⟨by kernel_rfl, by kernel_rfl, _, _, Try.func27, rfl, by kernel_rfl, by kernel_rfl, by kernel_rfl, rfl, by decide⟩
/-- loop.example/g01062/spec.IsABid -/
def c_spec_IsABid : Cd :=
 (.seq (.reg [⟨(some 6), (.assign (.const (.bool false))), none⟩,
   ⟨(some 7), (.assign (.const (.bool false))), none⟩])
 (.seq (.seq (.reg [⟨(some 9), (.move (.tmp 0)), none⟩,
   ⟨(some 10), (.call (.mk (.value (.func 50)) #[(.tmp 9)] #[25])), none⟩,
   ⟨(some 11), (.unOp .not 4 (.tmp 10)), none⟩,
   ⟨(some 12), (.move (.tmp 11)), none⟩,
   ⟨(some 13), (.move (.tmp 1)), (some (12, false))⟩,
   ⟨(some 14), (.call (.mk (.value (.func 58)) #[(.tmp 13)] #[3])), (some (12, false))⟩,
   ⟨(some 15), (.unOp .not 4 (.tmp 14)), (some (12, false))⟩,
   ⟨(some 16), (.pick (.tmp 12) (.const (.bool true)) (.tmp 15)), none⟩,
   ⟨(some 17), (.move (.tmp 16)), none⟩,
   ⟨(some 18), (.move (.tmp 2)), (some (17, false))⟩,
   ⟨(some 19), (.call (.mk (.value (.func 58)) #[(.tmp 18)] #[3])), (some (17, false))⟩,
   ⟨(some 20), (.unOp .not 4 (.tmp 19)), (some (17, false))⟩,
   ⟨(some 21), (.pick (.tmp 17) (.const (.bool true)) (.tmp 20)), none⟩])
 (.cond (.tmp 21) (.seq (.reg [⟨(some 6), (.assign (.const (.bool false))), none⟩,
   ⟨(some 7), (.assign (.const (.bool false))), none⟩])
 .ret) .skip))
 (.seq (.reg [⟨(some 22), (.move (.tmp 1)), none⟩,
   ⟨(some 8), (.assign (.tmp 22)), none⟩])
 (.seq (.block 0 (.loop (.seq (.seq (.reg [⟨(some 23), (.move (.tmp 8)), none⟩,
   ⟨(some 24), (.move (.tmp 2)), none⟩,
   ⟨(some 25), (.binOp .lss 3 (.tmp 23) (.tmp 24) 3), none⟩])
 (.cond (.tmp 25) .skip (.exit 0)))
 (.block 1 (.reg [⟨(some 26), (.move (.tmp 0)), none⟩,
   ⟨(some 27), (.move (.tmp 8)), none⟩,
   ⟨(some 28), (.call (.mk (.value (.func 59)) #[(.tmp 26), (.tmp 27)] #[25, 3])), none⟩,
   ⟨(some 8), (.assign (.tmp 28)), none⟩])))))
 (.seq (.reg [⟨(some 29), (.move (.tmp 8)), none⟩,
   ⟨(some 30), (.move (.tmp 2)), none⟩,
   ⟨(some 31), (.binOp .eql 3 (.tmp 29) (.tmp 30) 3), none⟩,
   ⟨(some 6), (.assign (.tmp 31)), none⟩,
   ⟨(some 7), (.assign (.const (.bool true))), none⟩])
 .ret)))))
theorem x_spec_IsABid : Txt Try.prog 28 c_spec_IsABid [.tmp 6, .tmp 7] 3 := ⟨by kernel_rfl, by kernel_rfl, _, _, Try.func28, rfl, by kernel_rfl, by kernel_rfl, by kernel_rfl, rfl, by decide⟩
/-- loop.example/g01062/impl.IsABid -/
def c_impl_IsABid : Cd :=
 (.seq (.reg [⟨(some 6), (.assign (.const (.bool false))), none⟩,
   ⟨(some 7), (.assign (.const (.bool false))), none⟩])
 (.seq (.seq (.reg [⟨(some 9), (.move (.tmp 0)), none⟩,
   ⟨(some 10), (.call (.mk (.value (.func 52)) #[(.tmp 9)] #[25])), none⟩,
   ⟨(some 11), (.unOp .not 4 (.tmp 10)), none⟩,
   ⟨(some 12), (.move (.tmp 11)), none⟩,
   ⟨(some 13), (.move (.tmp 1)), (some (12, false))⟩,
   ⟨(some 14), (.call (.mk (.value (.func 60)) #[(.tmp 13)] #[3])), (some (12, false))⟩,
   ⟨(some 15), (.unOp .not 4 (.tmp 14)), (some (12, false))⟩,
   ⟨(some 16), (.pick (.tmp 12) (.const (.bool true)) (.tmp 15)), none⟩,
   ⟨(some 17), (.move (.tmp 16)), none⟩,
   ⟨(some 18), (.move (.tmp 2)), (some (17, false))⟩,
   ⟨(some 19), (.call (.mk (.value (.func 60)) #[(.tmp 18)] #[3])), (some (17, false))⟩,
   ⟨(some 20), (.unOp .not 4 (.tmp 19)), (some (17, false))⟩,
   ⟨(some 21), (.pick (.tmp 17) (.const (.bool true)) (.tmp 20)), none⟩])
 (.cond (.tmp 21) (.seq (.reg [⟨(some 6), (.assign (.const (.bool false))), none⟩,
   ⟨(some 7), (.assign (.const (.bool false))), none⟩])
 .ret) .skip))
 (.seq (.reg [⟨(some 22), (.move (.tmp 1)), none⟩,
   ⟨(some 8), (.assign (.tmp 22)), none⟩])
 (.seq (.block 0 (.loop (.seq (.seq (.reg [⟨(some 23), (.move (.tmp 8)), none⟩,
   ⟨(some 24), (.move (.tmp 2)), none⟩,
   ⟨(some 25), (.binOp .lss 3 (.tmp 23) (.tmp 24) 3), none⟩])
 (.cond (.tmp 25) .skip (.exit 0)))
 (.block 1 (.reg [⟨(some 26), (.move (.tmp 0)), none⟩,
   ⟨(some 27), (.move (.tmp 8)), none⟩,
   ⟨(some 28), (.call (.mk (.value (.func 61)) #[(.tmp 26), (.tmp 27)] #[25, 3])), none⟩,
   ⟨(some 8), (.assign (.tmp 28)), none⟩])))))
 (.seq (.reg [⟨(some 29), (.move (.tmp 8)), none⟩,
   ⟨(some 30), (.move (.tmp 2)), none⟩,
   ⟨(some 31), (.binOp .eql 3 (.tmp 29) (.tmp 30) 3), none⟩,
   ⟨(some 6), (.assign (.tmp 31)), none⟩,
   ⟨(some 7), (.assign (.const (.bool true))), none⟩])
 .ret)))))
theorem x_impl_IsABid : Txt Try.prog 29 c_impl_IsABid [.tmp 6, .tmp 7] 3 := ⟨by kernel_rfl, by kernel_rfl, _, _, Try.func29, rfl, by kernel_rfl, by kernel_rfl, by kernel_rfl, rfl, by decide⟩
/-- loop.example/g01062/spec.LastBid -/
def c_spec_LastBid : Cd :=
 (.seq (.reg [⟨(some 6), (.assign (.const (.int .i64 0))), none⟩,
   ⟨(some 7), (.assign (.const (.bool false))), none⟩])
 (.seq (.seq (.reg [⟨(some 9), (.move (.tmp 0)), none⟩,
   ⟨(some 10), (.call (.mk (.value (.func 50)) #[(.tmp 9)] #[25])), none⟩,
   ⟨(some 11), (.unOp .not 4 (.tmp 10)), none⟩,
   ⟨(some 12), (.move (.tmp 11)), none⟩,
   ⟨(some 13), (.move (.tmp 1)), (some (12, false))⟩,
   ⟨(some 14), (.call (.mk (.value (.func 58)) #[(.tmp 13)] #[3])), (some (12, false))⟩,
   ⟨(some 15), (.unOp .not 4 (.tmp 14)), (some (12, false))⟩,
   ⟨(some 16), (.pick (.tmp 12) (.const (.bool true)) (.tmp 15)), none⟩,
   ⟨(some 17), (.move (.tmp 16)), none⟩,
   ⟨(some 18), (.move (.tmp 2)), (some (17, false))⟩,
   ⟨(some 19), (.call (.mk (.value (.func 58)) #[(.tmp 18)] #[3])), (some (17, false))⟩,
   ⟨(some 20), (.unOp .not 4 (.tmp 19)), (some (17, false))⟩,
   ⟨(some 21), (.pick (.tmp 17) (.const (.bool true)) (.tmp 20)), none⟩,
   ⟨(some 22), (.move (.tmp 21)), none⟩,
   ⟨(some 23), (.move (.tmp 1)), (some (22, false))⟩,
   ⟨(some 24), (.move (.tmp 2)), (some (22, false))⟩,
   ⟨(some 25), (.binOp .gtr 3 (.tmp 23) (.tmp 24) 3), (some (22, false))⟩,
   ⟨(some 26), (.pick (.tmp 22) (.const (.bool true)) (.tmp 25)), none⟩])
 (.cond (.tmp 26) (.seq (.reg [⟨(some 6), (.assign (.const (.int .i64 0))), none⟩,
   ⟨(some 7), (.assign (.const (.bool false))), none⟩])
 .ret) .skip))
 (.seq (.reg [⟨(some 27), (.move (.tmp 1)), none⟩,
   ⟨(some 8), (.assign (.tmp 27)), none⟩])
 (.seq (.block 0 (.loop (.seq (.seq (.reg [⟨(some 28), (.move (.tmp 0)), none⟩,
   ⟨(some 29), (.move (.tmp 8)), none⟩,
   ⟨(some 30), (.call (.mk (.value (.func 59)) #[(.tmp 28), (.tmp 29)] #[25, 3])), none⟩,
   ⟨(some 31), (.move (.tmp 2)), none⟩,
   ⟨(some 32), (.binOp .leq 3 (.tmp 30) (.tmp 31) 3), none⟩])
 (.cond (.tmp 32) .skip (.exit 0)))
 (.block 1 (.reg [⟨(some 33), (.move (.tmp 0)), none⟩,
   ⟨(some 34), (.move (.tmp 8)), none⟩,
   ⟨(some 35), (.call (.mk (.value (.func 59)) #[(.tmp 33), (.tmp 34)] #[25, 3])), none⟩,
   ⟨(some 8), (.assign (.tmp 35)), none⟩])))))
 (.seq (.reg [⟨(some 36), (.move (.tmp 8)), none⟩,
   ⟨(some 6), (.assign (.tmp 36)), none⟩,
   ⟨(some 7), (.assign (.const (.bool true))), none⟩])
 .ret)))))
theorem x_spec_LastBid : Txt Try.prog 30 c_spec_LastBid [.tmp 6, .tmp 7] 3 := ⟨by kernel_rfl, by kernel_rfl, _, _, Try.func30, rfl, by kernel_rfl, by kernel_rfl, by kernel_rfl, rfl, by decide⟩
/-- loop.example/g01062/impl.LastBid -/
def c_impl_LastBid : Cd :=
 (.seq (.reg [⟨(some 6), (.assign (.const (.int .i64 0))), none⟩,
   ⟨(some 7), (.assign (.const (.bool false))), none⟩])
 (.seq (.seq (.reg [⟨(some 10), (.move (.tmp 0)), none⟩,
   ⟨(some 11), (.call (.mk (.value (.func 52)) #[(.tmp 10)] #[25])), none⟩,
   ⟨(some 12), (.unOp .not 4 (.tmp 11)), none⟩,
   ⟨(some 13), (.move (.tmp 12)), none⟩,
   ⟨(some 14), (.move (.tmp 1)), (some (13, false))⟩,
   ⟨(some 15), (.call (.mk (.value (.func 60)) #[(.tmp 14)] #[3])), (some (13, false))⟩,
   ⟨(some 16), (.unOp .not 4 (.tmp 15)), (some (13, false))⟩,
   ⟨(some 17), (.pick (.tmp 13) (.const (.bool true)) (.tmp 16)), none⟩,
   ⟨(some 18), (.move (.tmp 17)), none⟩,
   ⟨(some 19), (.move (.tmp 2)), (some (18, false))⟩,
   ⟨(some 20), (.call (.mk (.value (.func 60)) #[(.tmp 19)] #[3])), (some (18, false))⟩,
   ⟨(some 21), (.unOp .not 4 (.tmp 20)), (some (18, false))⟩,
   ⟨(some 22), (.pick (.tmp 18) (.const (.bool true)) (.tmp 21)), none⟩,
   ⟨(some 23), (.move (.tmp 22)), none⟩,
   ⟨(some 24), (.move (.tmp 1)), (some (23, false))⟩,
   ⟨(some 25), (.move (.tmp 2)), (some (23, false))⟩,
   ⟨(some 26), (.binOp .gtr 3 (.tmp 24) (.tmp 25) 3), (some (23, false))⟩,
   ⟨(some 27), (.pick (.tmp 23) (.const (.bool true)) (.tmp 26)), none⟩])
 (.cond (.tmp 27) (.seq (.reg [⟨(some 6), (.assign (.const (.int .i64 0))), none⟩,
   ⟨(some 7), (.assign (.const (.bool false))), none⟩])
 .ret) .skip))
 (.seq (.reg [⟨(some 28), (.move (.tmp 1)), none⟩,
   ⟨(some 8), (.assign (.tmp 28)), none⟩])
 (.seq (.seq (.reg [⟨(some 29), (.move (.tmp 0)), none⟩,
   ⟨(some 30), (.move (.tmp 8)), none⟩,
   ⟨(some 31), (.call (.mk (.value (.func 61)) #[(.tmp 29), (.tmp 30)] #[25, 3])), none⟩,
   ⟨(some 9), (.assign (.tmp 31)), none⟩])
 (.block 0 (.loop (.seq (.seq (.reg [⟨(some 32), (.move (.tmp 9)), none⟩,
   ⟨(some 33), (.move (.tmp 2)), none⟩,
   ⟨(some 34), (.binOp .leq 3 (.tmp 32) (.tmp 33) 3), none⟩])
 (.cond (.tmp 34) .skip (.exit 0)))
 (.seq (.block 1 (.reg [⟨(some 38), (.move (.tmp 9)), none⟩,
   ⟨(some 8), (.assign (.tmp 38)), none⟩]))
 (.reg [⟨(some 35), (.move (.tmp 0)), none⟩,
   ⟨(some 36), (.move (.tmp 8)), none⟩,
   ⟨(some 37), (.call (.mk (.value (.func 61)) #[(.tmp 35), (.tmp 36)] #[25, 3])), none⟩,
   ⟨(some 9), (.assign (.tmp 37)), none⟩]))))))
 (.seq (.reg [⟨(some 39), (.move (.tmp 8)), none⟩,
   ⟨(some 6), (.assign (.tmp 39)), none⟩,
   ⟨(some 7), (.assign (.const (.bool true))), none⟩])
 .ret)))))
theorem x_impl_LastBid : Txt Try.prog 31 c_impl_LastBid [.tmp 6, .tmp 7] 3 := ⟨by kernel_rfl, by kernel_rfl, _, _, Try.func31, rfl, by kernel_rfl, by kernel_rfl, by kernel_rfl, rfl, by decide⟩
/-- loop.example/g01062/laws.rBig -/
def c_laws_rBig : Cd :=
 (.seq (.reg [⟨(some 2), (.assign (.const (.bool false))), none⟩])
 (.seq (.reg [⟨(some 3), (.move (.tmp 0)), none⟩,
   ⟨(some 4), (.call (.mk (.builtin .len) #[(.tmp 3)] #[46])), none⟩,
   ⟨(some 5), (.binOp .gtr 3 (.tmp 4) (.const (.int .i64 65536)) 3), none⟩,
   ⟨(some 2), (.assign (.tmp 5)), none⟩])
 .ret))
theorem x_laws_rBig : Txt Try.prog 36 c_laws_rBig [.tmp 2] 1 := ⟨by kernel_rfl, by kernel_rfl, _, _, Try.func36, rfl, by kernel_rfl, by kernel_rfl, by kernel_rfl, rfl, by decide⟩
/-- loop.example/g01062/spec.DrawLastBid -/
def c_spec_DrawLastBid : Cd :=
 (.seq (.reg [⟨(some 2), (.assign (.const (.slice none 0 0))), none⟩,
   ⟨(some 3), (.assign (.const (.int .i64 0))), none⟩,
   ⟨(some 4), (.assign (.const (.int .i64 0))), none⟩])
 (.seq (.reg [⟨(some 5), (.move (.tmp 0)), none⟩,
   ⟨(some 6), (.call (.mk (.value (.func 62)) #[(.tmp 5)] #[46])), none⟩,
   ⟨(some 7), (.extract (.tmp 6) 0), none⟩,
   ⟨(some 8), (.extract (.tmp 6) 1), none⟩,
   ⟨(some 9), (.extract (.tmp 6) 2), none⟩,
   ⟨(some 2), (.assign (.tmp 7)), none⟩,
   ⟨(some 3), (.assign (.tmp 8)), none⟩,
   ⟨(some 4), (.assign (.tmp 9)), none⟩])
 .ret))
theorem x_spec_DrawLastBid : Txt Try.prog 37 c_spec_DrawLastBid [.tmp 2, .tmp 3, .tmp 4] 1 := ⟨by kernel_rfl, by kernel_rfl, _, _, Try.func37, rfl, by kernel_rfl, by kernel_rfl, by kernel_rfl, rfl, by decide⟩
/-- loop.example/g01062/spec.DrawIsABid -/
def c_spec_DrawIsABid : Cd :=
 (.seq (.reg [⟨(some 2), (.assign (.const (.slice none 0 0))), none⟩,
   ⟨(some 3), (.assign (.const (.int .i64 0))), none⟩,
   ⟨(some 4), (.assign (.const (.int .i64 0))), none⟩])
 (.seq (.reg [⟨(some 10), (.move (.tmp 0)), none⟩,
   ⟨(some 11), (.build 77 #[(0, (.tmp 10))]), none⟩,
   ⟨(some 12), (.box 77 (.tmp 11)), none⟩,
   ⟨(some 5), (.assign (.tmp 12)), none⟩])
 (.seq (.reg [⟨(some 13), (.move (.tmp 5)), none⟩,
   ⟨(some 14), (.call (.mk (.value (.func 63)) #[(.tmp 13)] #[74])), none⟩,
   ⟨(some 6), (.assign (.tmp 14)), none⟩])
 (.seq (.reg [⟨(some 15), (.move (.tmp 5)), none⟩,
   ⟨(some 16), (.call (.mk (.value (.func 64)) #[(.tmp 15)] #[74])), none⟩,
   ⟨(some 7), (.assign (.tmp 16)), none⟩])
 (.seq (.seq (.reg [⟨(some 17), (.move (.tmp 6)), none⟩,
   ⟨(some 18), (.call (.mk (.value (.func 50)) #[(.tmp 17)] #[25])), none⟩,
   ⟨(some 19), (.unOp .not 4 (.tmp 18)), none⟩,
   ⟨(some 20), (.move (.tmp 19)), none⟩,
   ⟨(some 21), (.move (.tmp 5)), (some (20, false))⟩,
   ⟨(some 22), (.call (.mk (.value (.func 65)) #[(.tmp 21), (.const (.int .i64 3))] #[74, 3])), (some (20, false))⟩,
   ⟨(some 23), (.pick (.tmp 20) (.const (.bool true)) (.tmp 22)), none⟩])
 (.cond (.tmp 23) (.seq (.reg [⟨(some 24), (.move (.tmp 6)), none⟩,
   ⟨(some 25), (.move (.tmp 7)), none⟩,
   ⟨(some 26), (.move (.tmp 5)), none⟩,
   ⟨(some 27), (.call (.mk (.value (.func 64)) #[(.tmp 26)] #[74])), none⟩,
   ⟨(some 2), (.assign (.tmp 24)), none⟩,
   ⟨(some 3), (.assign (.tmp 25)), none⟩,
   ⟨(some 4), (.assign (.tmp 27)), none⟩])
 .ret) .skip))
 (.seq (.reg [⟨(some 28), (.move (.tmp 7)), none⟩,
   ⟨(some 8), (.assign (.tmp 28)), none⟩])
 (.seq (.seq (.reg [⟨(some 29), (.move (.tmp 5)), none⟩,
   ⟨(some 30), (.call (.mk (.value (.func 66)) #[(.tmp 29), (.const (.int .i64 5))] #[74, 3])), none⟩,
   ⟨(some 9), (.assign (.tmp 30)), none⟩])
 (.block 0 (.loop (.seq (.seq (.reg [⟨(some 31), (.move (.tmp 9)), none⟩,
   ⟨(some 32), (.binOp .gtr 3 (.tmp 31) (.const (.int .i64 0)) 3), none⟩])
 (.cond (.tmp 32) .skip (.exit 0)))
 (.seq (.block 1 (.reg [⟨(some 35), (.move (.tmp 6)), none⟩,
   ⟨(some 36), (.move (.tmp 8)), none⟩,
   ⟨(some 37), (.call (.mk (.value (.func 59)) #[(.tmp 35), (.tmp 36)] #[25, 3])), none⟩,
   ⟨(some 8), (.assign (.tmp 37)), none⟩]))
 (.reg [⟨(some 33), (.move (.tmp 9)), none⟩,
   ⟨(some 34), (.binOp .sub 3 (.tmp 33) (.const (.int .i64 1)) 3), none⟩,
   ⟨(some 9), (.assign (.tmp 34)), none⟩]))))))
 (.seq (.reg [⟨(some 38), (.move (.tmp 6)), none⟩,
   ⟨(some 39), (.move (.tmp 7)), none⟩,
   ⟨(some 40), (.move (.tmp 8)), none⟩,
   ⟨(some 2), (.assign (.tmp 38)), none⟩,
   ⟨(some 3), (.assign (.tmp 39)), none⟩,
   ⟨(some 4), (.assign (.tmp 40)), none⟩])
 .ret))))))))
theorem x_spec_DrawIsABid : Txt Try.prog 38 c_spec_DrawIsABid [.tmp 2, .tmp 3, .tmp 4] 1 := ⟨by kernel_rfl, by kernel_rfl, _, _, Try.func38, rfl, by kernel_rfl, by kernel_rfl, by kernel_rfl, rfl, by decide⟩
/-- loop.example/g01062/spec.DrawNextBid -/
def c_spec_DrawNextBid : Cd :=
 (.seq (.reg [⟨(some 2), (.assign (.const (.slice none 0 0))), none⟩,
   ⟨(some 3), (.assign (.const (.int .i64 0))), none⟩])
 (.seq (.reg [⟨(some 5), (.move (.tmp 0)), none⟩,
   ⟨(some 6), (.build 77 #[(0, (.tmp 5))]), none⟩,
   ⟨(some 7), (.box 77 (.tmp 6)), none⟩,
   ⟨(some 4), (.assign (.tmp 7)), none⟩])
 (.seq (.reg [⟨(some 8), (.move (.tmp 4)), none⟩,
   ⟨(some 9), (.call (.mk (.value (.func 63)) #[(.tmp 8)] #[74])), none⟩,
   ⟨(some 10), (.move (.tmp 4)), none⟩,
   ⟨(some 11), (.call (.mk (.value (.func 64)) #[(.tmp 10)] #[74])), none⟩,
   ⟨(some 2), (.assign (.tmp 9)), none⟩,
   ⟨(some 3), (.assign (.tmp 11)), none⟩])
 .ret)))
theorem x_spec_DrawNextBid : Txt Try.prog 39 c_spec_DrawNextBid [.tmp 2, .tmp 3] 1 := ⟨by kernel_rfl, by kernel_rfl, _, _, Try.func39, rfl, by kernel_rfl, by kernel_rfl, by kernel_rfl, rfl, by decide⟩
/-- loop.example/g01062/spec.l22Steps -/
def c_spec_l22Steps : Cd :=
 (.seq (.reg [⟨(some 2), (.assign (.const (.bool false))), none⟩])
 (.seq (.seq (.reg [⟨(some 3), (.assign (.const (.int .i64 0))), none⟩])
 (.block 0 (.loop (.seq (.seq (.reg [⟨(some 4), (.move (.tmp 3)), none⟩,
   ⟨(some 5), (.move (.tmp 0)), none⟩,
   ⟨(some 6), (.call (.mk (.builtin .len) #[(.tmp 5)] #[25])), none⟩,
   ⟨(some 7), (.binOp .lss 3 (.tmp 4) (.tmp 6) 3), none⟩])
 (.cond (.tmp 7) .skip (.exit 0)))
 (.seq (.block 1 (.seq (.regq [⟨(some 10), (.move (.tmp 0)), none⟩,
   ⟨(some 11), (.move (.tmp 3)), none⟩,
   ⟨(some 12), (.indexAddr 25 (.tmp 10) (.tmp 11)), none⟩,
   ⟨(some 13), (.fieldAddr 64 (.tmp 12) 0), none⟩,
   ⟨(some 14), (.load 3 (.tmp 13)), none⟩,
   ⟨(some 15), (.call (.mk (.value (.func 58)) #[(.tmp 14)] #[3])), none⟩,
   ⟨(some 16), (.unOp .not 4 (.tmp 15)), none⟩,
   ⟨(some 17), (.move (.tmp 16)), none⟩,
   ⟨(some 18), (.move (.tmp 0)), (some (17, false))⟩,
   ⟨(some 19), (.move (.tmp 3)), (some (17, false))⟩,
   ⟨(some 20), (.indexAddr 25 (.tmp 18) (.tmp 19)), (some (17, false))⟩,
   ⟨(some 21), (.fieldAddr 64 (.tmp 20) 1), (some (17, false))⟩,
   ⟨(some 22), (.load 3 (.tmp 21)), (some (17, false))⟩,
   ⟨(some 23), (.call (.mk (.value (.func 72)) #[(.tmp 22), (.const (.int .i64 200)), (.const (.int .i64 5000))] #[3, 3, 3])), (some (17, false))⟩,
   ⟨(some 24), (.unOp .not 4 (.tmp 23)), (some (17, false))⟩,
   ⟨(some 25), (.pick (.tmp 17) (.const (.bool true)) (.tmp 24)), none⟩,
   ⟨(some 26), (.move (.tmp 25)), none⟩,
   ⟨(some 27), (.move (.tmp 3)), (some (26, false))⟩,
   ⟨(some 28), (.binOp .gtr 3 (.tmp 27) (.const (.int .i64 0)) 3), (some (26, false))⟩,
   ⟨(some 29), (.move (.tmp 28)), (some (26, false))⟩,
   ⟨(some 30), (.move (.tmp 0)), (some (29, true))⟩,
   ⟨(some 31), (.move (.tmp 3)), (some (29, true))⟩,
   ⟨(some 32), (.binOp .sub 3 (.tmp 31) (.const (.int .i64 1)) 3), (some (29, true))⟩,
   ⟨(some 33), (.indexAddr 25 (.tmp 30) (.tmp 32)), (some (29, true))⟩,
   ⟨(some 34), (.fieldAddr 64 (.tmp 33) 0), (some (29, true))⟩,
   ⟨(some 35), (.load 3 (.tmp 34)), (some (29, true))⟩,
   ⟨(some 36), (.move (.tmp 0)), (some (29, true))⟩,
   ⟨(some 37), (.move (.tmp 3)), (some (29, true))⟩,
   ⟨(some 38), (.indexAddr 25 (.tmp 36) (.tmp 37)), (some (29, true))⟩,
   ⟨(some 39), (.fieldAddr 64 (.tmp 38) 0), (some (29, true))⟩,
   ⟨(some 40), (.load 3 (.tmp 39)), (some (29, true))⟩,
   ⟨(some 41), (.binOp .geq 3 (.tmp 35) (.tmp 40) 3), (some (29, true))⟩,
   ⟨(some 42), (.pick (.tmp 29) (.tmp 41) (.const (.bool false))), (some (26, false))⟩,
   ⟨(some 43), (.pick (.tmp 26) (.const (.bool true)) (.tmp 42)), none⟩])
 (.cond (.tmp 43) (.seq (.reg [⟨(some 2), (.assign (.const (.bool false))), none⟩])
 .ret) .skip)))
 (.reg [⟨(some 8), (.move (.tmp 3)), none⟩,
   ⟨(some 9), (.binOp .add 3 (.tmp 8) (.const (.int .i64 1)) 3), none⟩,
   ⟨(some 3), (.assign (.tmp 9)), none⟩]))))))
 (.seq (.reg [⟨(some 44), (.move (.tmp 0)), none⟩,
   ⟨(some 45), (.call (.mk (.builtin .len) #[(.tmp 44)] #[25])), none⟩,
   ⟨(some 46), (.call (.mk (.value (.func 72)) #[(.tmp 45), (.const (.int .i64 1)), (.const (.int .i64 8))] #[3, 3, 3])), none⟩,
   ⟨(some 47), (.move (.tmp 46)), none⟩,
   ⟨(some 48), (.move (.tmp 0)), (some (47, true))⟩,
   ⟨(some 49), (.indexAddr 25 (.tmp 48) (.const (.int .i64 0))), (some (47, true))⟩,
   ⟨(some 50), (.fieldAddr 64 (.tmp 49) 0), (some (47, true))⟩,
   ⟨(some 51), (.load 3 (.tmp 50)), (some (47, true))⟩,
   ⟨(some 52), (.binOp .eql 3 (.tmp 51) (.const (.int .i64 0)) 3), (some (47, true))⟩,
   ⟨(some 53), (.pick (.tmp 47) (.tmp 52) (.const (.bool false))), none⟩,
   ⟨(some 2), (.assign (.tmp 53)), none⟩])
 .ret)))
theorem x_spec_l22Steps : Txt Try.prog 50 c_spec_l22Steps [.tmp 2] 1 := ⟨by kernel_rfl, by kernel_rfl, _, _, Try.func50, rfl, by kernel_rfl, by kernel_rfl, by kernel_rfl, rfl, by decide⟩
/-- loop.example/g01062/laws.toBidStep -/
def c_laws_toBidStep : Cd :=
 (.seq (.reg [⟨(some 1), (.box 66 (.tmp 0)), none⟩,
   ⟨(some 2), (.alloc 64), none⟩])
 (.seq (.reg [⟨(some 3), (.alloc 64), none⟩])
 (.seq (.reg [⟨(some 4), (.fieldAddr 66 (.tmp 1) 0), none⟩,
   ⟨(some 5), (.load 3 (.tmp 4)), none⟩,
   ⟨(some 6), (.fieldAddr 64 (.tmp 3) 0), none⟩,
   ⟨none, (.store 3 (.tmp 6) (.tmp 5)), none⟩])
 (.seq (.reg [⟨(some 7), (.fieldAddr 66 (.tmp 1) 1), none⟩,
   ⟨(some 8), (.load 3 (.tmp 7)), none⟩,
   ⟨(some 9), (.fieldAddr 64 (.tmp 3) 1), none⟩,
   ⟨none, (.store 3 (.tmp 9) (.tmp 8)), none⟩])
 (.seq (.reg [⟨(some 10), (.load 64 (.tmp 3)), none⟩,
   ⟨none, (.store 64 (.tmp 2) (.tmp 10)), none⟩])
 .ret)))))
theorem x_laws_toBidStep : Txt Try.prog 51 c_laws_toBidStep [.cell 2 64] 1 := ⟨by kernel_rfl, by kernel_rfl, _, _, Try.func51, rfl, by kernel_rfl, by kernel_rfl, by kernel_rfl, rfl, by decide⟩
/-- loop.example/g01062/impl.areSteps -/
def c_impl_areSteps : Cd :=
 (.seq (.reg [⟨(some 2), (.assign (.const (.bool false))), none⟩])
 (.seq (.seq (.reg [⟨(some 5), (.move (.tmp 0)), none⟩,
   ⟨(some 6), (.call (.mk (.builtin .len) #[(.tmp 5)] #[25])), none⟩,
   ⟨(some 7), (.move (.const (.int .i64 0))), none⟩])
 (.block 0 (.loop (.seq (.reg [⟨(some 8), (.binOp .lss 3 (.tmp 7) (.tmp 6) 3), none⟩])
 (.seq (.cond (.tmp 8) .skip (.exit 0))
 (.seq (.block 1 (.seq (.reg [⟨(some 9), (.move (.tmp 7)), none⟩,
   ⟨(some 10), (.indexAddr 25 (.tmp 5) (.tmp 7)), none⟩,
   ⟨(some 11), (.load 64 (.tmp 10)), none⟩,
   ⟨(some 4), (.alloc 64), none⟩,
   ⟨(some 3), (.assign (.tmp 9)), none⟩,
   ⟨none, (.store 64 (.tmp 4) (.tmp 11)), none⟩])
 (.seq (.regq [⟨(some 12), (.fieldAddr 64 (.tmp 4) 0), none⟩,
   ⟨(some 13), (.load 3 (.tmp 12)), none⟩,
   ⟨(some 14), (.call (.mk (.value (.func 60)) #[(.tmp 13)] #[3])), none⟩,
   ⟨(some 15), (.unOp .not 4 (.tmp 14)), none⟩,
   ⟨(some 16), (.move (.tmp 15)), none⟩,
   ⟨(some 17), (.fieldAddr 64 (.tmp 4) 1), (some (16, false))⟩,
   ⟨(some 18), (.load 3 (.tmp 17)), (some (16, false))⟩,
   ⟨(some 19), (.call (.mk (.value (.func 73)) #[(.tmp 18), (.const (.int .i64 200)), (.const (.int .i64 5000))] #[3, 3, 3])), (some (16, false))⟩,
   ⟨(some 20), (.unOp .not 4 (.tmp 19)), (some (16, false))⟩,
   ⟨(some 21), (.pick (.tmp 16) (.const (.bool true)) (.tmp 20)), none⟩,
   ⟨(some 22), (.move (.tmp 21)), none⟩,
   ⟨(some 23), (.move (.tmp 3)), (some (22, false))⟩,
   ⟨(some 24), (.binOp .eql 3 (.tmp 23) (.const (.int .i64 0)) 3), (some (22, false))⟩,
   ⟨(some 25), (.move (.tmp 24)), (some (22, false))⟩,
   ⟨(some 26), (.fieldAddr 64 (.tmp 4) 0), (some (25, true))⟩,
   ⟨(some 27), (.load 3 (.tmp 26)), (some (25, true))⟩,
   ⟨(some 28), (.binOp .neq 3 (.tmp 27) (.const (.int .i64 0)) 3), (some (25, true))⟩,
   ⟨(some 29), (.pick (.tmp 25) (.tmp 28) (.const (.bool false))), (some (22, false))⟩,
   ⟨(some 30), (.pick (.tmp 22) (.const (.bool true)) (.tmp 29)), none⟩,
   ⟨(some 31), (.move (.tmp 30)), none⟩,
   ⟨(some 32), (.move (.tmp 3)), (some (31, false))⟩,
   ⟨(some 33), (.binOp .gtr 3 (.tmp 32) (.const (.int .i64 0)) 3), (some (31, false))⟩,
   ⟨(some 34), (.move (.tmp 33)), (some (31, false))⟩,
   ⟨(some 35), (.move (.tmp 0)), (some (34, true))⟩,
   ⟨(some 36), (.move (.tmp 3)), (some (34, true))⟩,
   ⟨(some 37), (.binOp .sub 3 (.tmp 36) (.const (.int .i64 1)) 3), (some (34, true))⟩,
   ⟨(some 38), (.indexAddr 25 (.tmp 35) (.tmp 37)), (some (34, true))⟩,
   ⟨(some 39), (.fieldAddr 64 (.tmp 38) 0), (some (34, true))⟩,
   ⟨(some 40), (.load 3 (.tmp 39)), (some (34, true))⟩,
   ⟨(some 41), (.fieldAddr 64 (.tmp 4) 0), (some (34, true))⟩,
   ⟨(some 42), (.load 3 (.tmp 41)), (some (34, true))⟩,
   ⟨(some 43), (.binOp .geq 3 (.tmp 40) (.tmp 42) 3), (some (34, true))⟩,
   ⟨(some 44), (.pick (.tmp 34) (.tmp 43) (.const (.bool false))), (some (31, false))⟩,
   ⟨(some 45), (.pick (.tmp 31) (.const (.bool true)) (.tmp 44)), none⟩])
 (.cond (.tmp 45) (.seq (.reg [⟨(some 2), (.assign (.const (.bool false))), none⟩])
 .ret) .skip))))
 (.reg [⟨(some 46), (.binOp .add 3 (.tmp 7) (.const (.int .i64 1)) 3), none⟩,
   ⟨(some 7), (.move (.tmp 46)), none⟩])))))))
 (.seq (.reg [⟨(some 47), (.move (.tmp 0)), none⟩,
   ⟨(some 48), (.call (.mk (.builtin .len) #[(.tmp 47)] #[25])), none⟩,
   ⟨(some 49), (.call (.mk (.value (.func 73)) #[(.tmp 48), (.const (.int .i64 1)), (.const (.int .i64 8))] #[3, 3, 3])), none⟩,
   ⟨(some 2), (.assign (.tmp 49)), none⟩])
 .ret)))
theorem x_impl_areSteps : Txt Try.prog 52 c_impl_areSteps [.tmp 2] 1 := ⟨by kernel_rfl, by kernel_rfl, _, _, Try.func52, rfl, by kernel_rfl, by kernel_rfl, by kernel_rfl, rfl, by decide⟩
/-- loop.example/g01062/laws.eqBidStep -/
def c_laws_eqBidStep : Cd :=
 (.seq (.reg [⟨(some 2), (.box 64 (.tmp 0)), none⟩,
   ⟨(some 3), (.box 64 (.tmp 1)), none⟩,
   ⟨(some 4), (.assign (.const (.bool false))), none⟩])
 (.seq (.seq (.reg [⟨(some 5), (.fieldAddr 64 (.tmp 2) 0), none⟩,
   ⟨(some 6), (.load 3 (.tmp 5)), none⟩,
   ⟨(some 7), (.fieldAddr 64 (.tmp 3) 0), none⟩,
   ⟨(some 8), (.load 3 (.tmp 7)), none⟩,
   ⟨(some 9), (.binOp .neq 3 (.tmp 6) (.tmp 8) 3), none⟩])
 (.cond (.tmp 9) (.seq (.reg [⟨(some 4), (.assign (.const (.bool false))), none⟩])
 .ret) .skip))
 (.seq (.seq (.reg [⟨(some 10), (.fieldAddr 64 (.tmp 2) 1), none⟩,
   ⟨(some 11), (.load 3 (.tmp 10)), none⟩,
   ⟨(some 12), (.fieldAddr 64 (.tmp 3) 1), none⟩,
   ⟨(some 13), (.load 3 (.tmp 12)), none⟩,
   ⟨(some 14), (.binOp .neq 3 (.tmp 11) (.tmp 13) 3), none⟩])
 (.cond (.tmp 14) (.seq (.reg [⟨(some 4), (.assign (.const (.bool false))), none⟩])
 .ret) .skip))
 (.seq (.reg [⟨(some 4), (.assign (.const (.bool true))), none⟩])
 .ret))))
theorem x_laws_eqBidStep : Txt Try.prog 53 c_laws_eqBidStep [.tmp 4] 2 := ⟨by kernel_rfl, by kernel_rfl, _, _, Try.func53, rfl, by kernel_rfl, by kernel_rfl, by kernel_rfl, rfl, by decide⟩
/-- loop.example/g01062/laws.toAbsentee -/
def c_laws_toAbsentee : Cd :=
 (.seq (.reg [⟨(some 1), (.box 71 (.tmp 0)), none⟩,
   ⟨(some 2), (.alloc 69), none⟩])
 (.seq (.reg [⟨(some 3), (.alloc 69), none⟩])
 (.seq (.reg [⟨(some 4), (.fieldAddr 71 (.tmp 1) 0), none⟩,
   ⟨(some 5), (.load 3 (.tmp 4)), none⟩,
   ⟨(some 6), (.fieldAddr 69 (.tmp 3) 0), none⟩,
   ⟨none, (.store 3 (.tmp 6) (.tmp 5)), none⟩])
 (.seq (.reg [⟨(some 7), (.fieldAddr 71 (.tmp 1) 1), none⟩,
   ⟨(some 8), (.load 3 (.tmp 7)), none⟩,
   ⟨(some 9), (.fieldAddr 69 (.tmp 3) 1), none⟩,
   ⟨none, (.store 3 (.tmp 9) (.tmp 8)), none⟩])
 (.seq (.reg [⟨(some 10), (.load 69 (.tmp 3)), none⟩,
   ⟨none, (.store 69 (.tmp 2) (.tmp 10)), none⟩])
 .ret)))))
theorem x_laws_toAbsentee : Txt Try.prog 55 c_laws_toAbsentee [.cell 2 69] 1 := ⟨by kernel_rfl, by kernel_rfl, _, _, Try.func55, rfl, by kernel_rfl, by kernel_rfl, by kernel_rfl, rfl, by decide⟩
/-- loop.example/g01062/laws.eqAbsentee -/
def c_laws_eqAbsentee : Cd :=
 (.seq (.reg [⟨(some 2), (.box 69 (.tmp 0)), none⟩,
   ⟨(some 3), (.box 69 (.tmp 1)), none⟩,
   ⟨(some 4), (.assign (.const (.bool false))), none⟩])
 (.seq (.seq (.reg [⟨(some 5), (.fieldAddr 69 (.tmp 2) 0), none⟩,
   ⟨(some 6), (.load 3 (.tmp 5)), none⟩,
   ⟨(some 7), (.fieldAddr 69 (.tmp 3) 0), none⟩,
   ⟨(some 8), (.load 3 (.tmp 7)), none⟩,
   ⟨(some 9), (.binOp .neq 3 (.tmp 6) (.tmp 8) 3), none⟩])
 (.cond (.tmp 9) (.seq (.reg [⟨(some 4), (.assign (.const (.bool false))), none⟩])
 .ret) .skip))
 (.seq (.seq (.reg [⟨(some 10), (.fieldAddr 69 (.tmp 2) 1), none⟩,
   ⟨(some 11), (.load 3 (.tmp 10)), none⟩,
   ⟨(some 12), (.fieldAddr 69 (.tmp 3) 1), none⟩,
   ⟨(some 13), (.load 3 (.tmp 12)), none⟩,
   ⟨(some 14), (.binOp .neq 3 (.tmp 11) (.tmp 13) 3), none⟩])
 (.cond (.tmp 14) (.seq (.reg [⟨(some 4), (.assign (.const (.bool false))), none⟩])
 .ret) .skip))
 (.seq (.reg [⟨(some 4), (.assign (.const (.bool true))), none⟩])
 .ret))))
theorem x_laws_eqAbsentee : Txt Try.prog 57 c_laws_eqAbsentee [.tmp 4] 2 := ⟨by kernel_rfl, by kernel_rfl, _, _, Try.func57, rfl, by kernel_rfl, by kernel_rfl, by kernel_rfl, rfl, by decide⟩
/-- loop.example/g01062/spec.l22Bid -/
def c_spec_l22Bid : Cd :=
 (.seq (.reg [⟨(some 2), (.assign (.const (.bool false))), none⟩])
 (.seq (.reg [⟨(some 3), (.move (.tmp 0)), none⟩,
   ⟨(some 4), (.call (.mk (.value (.func 72)) #[(.tmp 3), (.const (.int .i64 0)), (.const (.int .i64 20000))] #[3, 3, 3])), none⟩,
   ⟨(some 2), (.assign (.tmp 4)), none⟩])
 .ret))
theorem x_spec_l22Bid : Txt Try.prog 58 c_spec_l22Bid [.tmp 2] 1 := ⟨by kernel_rfl, by kernel_rfl, _, _, Try.func58, rfl, by kernel_rfl, by kernel_rfl, by kernel_rfl, rfl, by decide⟩
/-- loop.example/g01062/spec.l22Next -/
def c_spec_l22Next : Cd :=
 (.seq (.reg [⟨(some 4), (.assign (.const (.int .i64 0))), none⟩])
 (.seq (.reg [⟨(some 5), (.assign (.const (.int .i64 0))), none⟩])
 (.seq (.seq (.reg [⟨(some 6), (.assign (.const (.int .i64 0))), none⟩])
 (.block 0 (.loop (.seq (.seq (.reg [⟨(some 7), (.move (.tmp 6)), none⟩,
   ⟨(some 8), (.move (.tmp 0)), none⟩,
   ⟨(some 9), (.call (.mk (.builtin .len) #[(.tmp 8)] #[25])), none⟩,
   ⟨(some 10), (.binOp .lss 3 (.tmp 7) (.tmp 9) 3), none⟩])
 (.cond (.tmp 10) .skip (.exit 0)))
 (.seq (.block 1 (.seq (.reg [⟨(some 13), (.move (.tmp 0)), none⟩,
   ⟨(some 14), (.move (.tmp 6)), none⟩,
   ⟨(some 15), (.indexAddr 25 (.tmp 13) (.tmp 14)), none⟩,
   ⟨(some 16), (.fieldAddr 64 (.tmp 15) 0), none⟩,
   ⟨(some 17), (.load 3 (.tmp 16)), none⟩,
   ⟨(some 18), (.move (.tmp 1)), none⟩,
   ⟨(some 19), (.binOp .leq 3 (.tmp 17) (.tmp 18) 3), none⟩])
 (.cond (.tmp 19) (.reg [⟨(some 20), (.move (.tmp 0)), none⟩,
   ⟨(some 21), (.move (.tmp 6)), none⟩,
   ⟨(some 22), (.indexAddr 25 (.tmp 20) (.tmp 21)), none⟩,
   ⟨(some 23), (.fieldAddr 64 (.tmp 22) 1), none⟩,
   ⟨(some 24), (.load 3 (.tmp 23)), none⟩,
   ⟨(some 5), (.assign (.tmp 24)), none⟩]) .skip)))
 (.reg [⟨(some 11), (.move (.tmp 6)), none⟩,
   ⟨(some 12), (.binOp .add 3 (.tmp 11) (.const (.int .i64 1)) 3), none⟩,
   ⟨(some 6), (.assign (.tmp 12)), none⟩]))))))
 (.seq (.reg [⟨(some 25), (.move (.tmp 1)), none⟩,
   ⟨(some 26), (.move (.tmp 5)), none⟩,
   ⟨(some 27), (.binOp .add 3 (.tmp 25) (.tmp 26) 3), none⟩,
   ⟨(some 4), (.assign (.tmp 27)), none⟩])
 .ret))))
theorem x_spec_l22Next : Txt Try.prog 59 c_spec_l22Next [.tmp 4] 2 := ⟨by kernel_rfl, by kernel_rfl, _, _, Try.func59, rfl, by kernel_rfl, by kernel_rfl, by kernel_rfl, rfl, by decide⟩
/-- loop.example/g01062/impl.isBid -/
def c_impl_isBid : Cd :=
 (.seq (.reg [⟨(some 2), (.assign (.const (.bool false))), none⟩])
 (.seq (.reg [⟨(some 3), (.move (.tmp 0)), none⟩,
   ⟨(some 4), (.call (.mk (.value (.func 73)) #[(.tmp 3), (.const (.int .i64 0)), (.const (.int .i64 20000))] #[3, 3, 3])), none⟩,
   ⟨(some 2), (.assign (.tmp 4)), none⟩])
 .ret))
theorem x_impl_isBid : Txt Try.prog 60 c_impl_isBid [.tmp 2] 1 := ⟨by kernel_rfl, by kernel_rfl, _, _, Try.func60, rfl, by kernel_rfl, by kernel_rfl, by kernel_rfl, rfl, by decide⟩
/-- loop.example/g01062/impl.nextBid -/
def c_impl_nextBid : Cd :=
 (.seq (.reg [⟨(some 4), (.assign (.const (.int .i64 0))), none⟩])
 (.seq (.reg [⟨(some 5), (.assign (.const (.int .i64 0))), none⟩])
 (.seq (.seq (.reg [⟨(some 8), (.move (.tmp 0)), none⟩,
   ⟨(some 9), (.call (.mk (.builtin .len) #[(.tmp 8)] #[25])), none⟩,
   ⟨(some 10), (.move (.const (.int .i64 0))), none⟩])
 (.block 0 (.loop (.seq (.reg [⟨(some 11), (.binOp .lss 3 (.tmp 10) (.tmp 9) 3), none⟩])
 (.seq (.cond (.tmp 11) .skip (.exit 0))
 (.seq (.block 1 (.seq (.reg [⟨(some 12), (.indexAddr 25 (.tmp 8) (.tmp 10)), none⟩,
   ⟨(some 13), (.load 64 (.tmp 12)), none⟩,
   ⟨(some 7), (.alloc 64), none⟩,
   ⟨none, (.store 64 (.tmp 7) (.tmp 13)), none⟩])
 (.seq (.reg [⟨(some 14), (.fieldAddr 64 (.tmp 7) 0), none⟩,
   ⟨(some 15), (.load 3 (.tmp 14)), none⟩,
   ⟨(some 16), (.move (.tmp 1)), none⟩,
   ⟨(some 17), (.binOp .leq 3 (.tmp 15) (.tmp 16) 3), none⟩])
 (.cond (.tmp 17) (.reg [⟨(some 18), (.fieldAddr 64 (.tmp 7) 1), none⟩,
   ⟨(some 19), (.load 3 (.tmp 18)), none⟩,
   ⟨(some 5), (.assign (.tmp 19)), none⟩]) .skip))))
 (.reg [⟨(some 20), (.binOp .add 3 (.tmp 10) (.const (.int .i64 1)) 3), none⟩,
   ⟨(some 10), (.move (.tmp 20)), none⟩])))))))
 (.seq (.reg [⟨(some 21), (.move (.tmp 1)), none⟩,
   ⟨(some 22), (.move (.tmp 5)), none⟩,
   ⟨(some 23), (.binOp .add 3 (.tmp 21) (.tmp 22) 3), none⟩,
   ⟨(some 4), (.assign (.tmp 23)), none⟩])
 .ret))))
theorem x_impl_nextBid : Txt Try.prog 61 c_impl_nextBid [.tmp 4] 2 := ⟨by kernel_rfl, by kernel_rfl, _, _, Try.func61, rfl, by kernel_rfl, by kernel_rfl, by kernel_rfl, rfl, by decide⟩
/-- loop.example/g01062/spec.DrawCountBids -/
def c_spec_DrawCountBids : Cd :=
 (.seq (.reg [⟨(some 2), (.assign (.const (.slice none 0 0))), none⟩,
   ⟨(some 3), (.assign (.const (.int .i64 0))), none⟩,
   ⟨(some 4), (.assign (.const (.int .i64 0))), none⟩])
 (.seq (.reg [⟨(some 6), (.move (.tmp 0)), none⟩,
   ⟨(some 7), (.build 77 #[(0, (.tmp 6))]), none⟩,
   ⟨(some 8), (.box 77 (.tmp 7)), none⟩,
   ⟨(some 5), (.assign (.tmp 8)), none⟩])
 (.seq (.reg [⟨(some 9), (.move (.tmp 5)), none⟩,
   ⟨(some 10), (.call (.mk (.value (.func 63)) #[(.tmp 9)] #[74])), none⟩,
   ⟨(some 11), (.move (.tmp 5)), none⟩,
   ⟨(some 12), (.call (.mk (.value (.func 64)) #[(.tmp 11)] #[74])), none⟩,
   ⟨(some 13), (.move (.tmp 5)), none⟩,
   ⟨(some 14), (.call (.mk (.value (.func 64)) #[(.tmp 13)] #[74])), none⟩,
   ⟨(some 2), (.assign (.tmp 10)), none⟩,
   ⟨(some 3), (.assign (.tmp 12)), none⟩,
   ⟨(some 4), (.assign (.tmp 14)), none⟩])
 .ret)))
theorem x_spec_DrawCountBids : Txt Try.prog 62 c_spec_DrawCountBids [.tmp 2, .tmp 3, .tmp 4] 1 := ⟨by kernel_rfl, by kernel_rfl, _, _, Try.func62, rfl, by kernel_rfl, by kernel_rfl, by kernel_rfl, rfl, by decide⟩
/-- (*loop.example/g01062/spec.l1Cur).steps22 -/
def c_spec_l1Cur_steps22 : Cd :=
 (.seq (.reg [⟨(some 2), (.assign (.const (.slice none 0 0))), none⟩])
 (.seq (.reg [⟨(some 7), (.buildSlice 25 0 #[]), none⟩,
   ⟨(some 3), (.assign (.tmp 7)), none⟩])
 (.seq (.reg [⟨(some 4), (.assign (.const (.int .i64 0))), none⟩])
 (.seq (.seq (.reg [⟨(some 8), (.move (.tmp 0)), none⟩,
   ⟨(some 9), (.call (.mk (.value (.func 66)) #[(.tmp 8), (.const (.int .i64 4))] #[74, 3])), none⟩,
   ⟨(some 10), (.binOp .add 3 (.const (.int .i64 1)) (.tmp 9) 3), none⟩,
   ⟨(some 5), (.assign (.tmp 10)), none⟩])
 (.block 0 (.loop (.seq (.seq (.reg [⟨(some 11), (.move (.tmp 5)), none⟩,
   ⟨(some 12), (.binOp .gtr 3 (.tmp 11) (.const (.int .i64 0)) 3), none⟩])
 (.cond (.tmp 12) .skip (.exit 0)))
 (.seq (.block 1 (.seq (.reg [⟨(some 15), (.move (.tmp 3)), none⟩,
   ⟨(some 16), (.move (.tmp 4)), none⟩,
   ⟨(some 17), (.move (.tmp 0)), none⟩,
   ⟨(some 18), (.buildSlice 57 6 #[(0, (.const (.int .i64 200))), (1, (.const (.int .i64 250))), (2, (.const (.int .i64 500))), (3, (.const (.int .i64 500))), (4, (.const (.int .i64 1000))), (5, (.const (.int .i64 5000)))]), none⟩,
   ⟨(some 19), (.call (.mk (.value (.func 76)) #[(.tmp 17), (.tmp 18)] #[74, 57])), none⟩,
   ⟨(some 20), (.build 64 #[(0, (.tmp 16)), (1, (.tmp 19))]), none⟩,
   ⟨(some 21), (.buildSlice 25 1 #[(0, (.tmp 20))]), none⟩,
   ⟨(some 22), (.call (.mk (.builtin .append) #[(.tmp 15), (.tmp 21)] #[25, 25])), none⟩,
   ⟨(some 3), (.assign (.tmp 22)), none⟩])
 (.reg [⟨(some 23), (.move (.tmp 4)), none⟩,
   ⟨(some 24), (.move (.tmp 0)), none⟩,
   ⟨(some 25), (.buildSlice 57 5 #[(0, (.const (.int .i64 1))), (1, (.const (.int .i64 500))), (2, (.const (.int .i64 1000))), (3, (.const (.int .i64 1100))), (4, (.const (.int .i64 5000)))]), none⟩,
   ⟨(some 26), (.call (.mk (.value (.func 76)) #[(.tmp 24), (.tmp 25)] #[74, 57])), none⟩,
   ⟨(some 27), (.binOp .add 3 (.tmp 23) (.tmp 26) 3), none⟩,
   ⟨(some 4), (.assign (.tmp 27)), none⟩])))
 (.reg [⟨(some 13), (.move (.tmp 5)), none⟩,
   ⟨(some 14), (.binOp .sub 3 (.tmp 13) (.const (.int .i64 1)) 3), none⟩,
   ⟨(some 5), (.assign (.tmp 14)), none⟩]))))))
 (.seq (.seq (.reg [⟨(some 28), (.move (.tmp 0)), none⟩,
   ⟨(some 29), (.call (.mk (.value (.func 66)) #[(.tmp 28), (.const (.int .i64 40))] #[74, 3])), none⟩])
 (.block 2 (.seq (.reg [⟨(some 31), (.binOp .eql 3 (.tmp 29) (.const (.int .i64 0)) 3), none⟩,
   ⟨(some 30), (.assign (.tmp 31)), none⟩])
 (.cond (.tmp 30) (.reg [⟨(some 32), (.buildSlice 25 0 #[]), none⟩,
   ⟨(some 3), (.assign (.tmp 32)), none⟩]) (.seq (.reg [⟨(some 34), (.binOp .eql 3 (.tmp 29) (.const (.int .i64 1)) 3), none⟩,
   ⟨(some 33), (.assign (.tmp 34)), none⟩])
 (.cond (.tmp 33) (.reg [⟨(some 35), (.move (.tmp 3)), none⟩,
   ⟨(some 36), (.indexAddr 25 (.tmp 35) (.const (.int .i64 0))), none⟩,
   ⟨(some 37), (.fieldAddr 64 (.tmp 36) 0), none⟩,
   ⟨none, (.store 3 (.tmp 37) (.const (.int .i64 1))), none⟩]) (.seq (.reg [⟨(some 39), (.binOp .eql 3 (.tmp 29) (.const (.int .i64 2)) 3), none⟩,
   ⟨(some 38), (.assign (.tmp 39)), none⟩])
 (.cond (.tmp 38) (.reg [⟨(some 40), (.move (.tmp 3)), none⟩,
   ⟨(some 41), (.move (.tmp 0)), none⟩,
   ⟨(some 42), (.buildSlice 57 2 #[(0, (.const (.int .i64 199))), (1, (.const (.int .i64 5001)))]), none⟩,
   ⟨(some 43), (.call (.mk (.value (.func 76)) #[(.tmp 41), (.tmp 42)] #[74, 57])), none⟩,
   ⟨(some 44), (.indexAddr 25 (.tmp 40) (.const (.int .i64 0))), none⟩,
   ⟨(some 45), (.fieldAddr 64 (.tmp 44) 1), none⟩,
   ⟨none, (.store 3 (.tmp 45) (.tmp 43)), none⟩]) (.seq (.reg [⟨(some 47), (.binOp .eql 3 (.tmp 29) (.const (.int .i64 3)) 3), none⟩,
   ⟨(some 46), (.assign (.tmp 47)), none⟩])
 (.cond (.tmp 46) (.reg [⟨(some 48), (.move (.tmp 3)), none⟩,
   ⟨(some 49), (.move (.tmp 0)), none⟩,
   ⟨(some 50), (.buildSlice 57 3 #[(0, (.const (.int .i64 0))), (1, (.const (.int .i64 20001))), (2, (.const (.int .i64 20000)))]), none⟩,
   ⟨(some 51), (.call (.mk (.value (.func 76)) #[(.tmp 49), (.tmp 50)] #[74, 57])), none⟩,
   ⟨(some 52), (.build 64 #[(0, (.tmp 51)), (1, (.const (.int .i64 700)))]), none⟩,
   ⟨(some 53), (.buildSlice 25 1 #[(0, (.tmp 52))]), none⟩,
   ⟨(some 54), (.call (.mk (.builtin .append) #[(.tmp 48), (.tmp 53)] #[25, 25])), none⟩,
   ⟨(some 3), (.assign (.tmp 54)), none⟩]) (.seq (.reg [⟨(some 56), (.binOp .eql 3 (.tmp 29) (.const (.int .i64 4)) 3), none⟩,
   ⟨(some 55), (.assign (.tmp 56)), none⟩])
 (.cond (.tmp 55) (.seq (.reg [⟨(some 57), (.buildSlice 25 0 #[]), none⟩,
   ⟨(some 3), (.assign (.tmp 57)), none⟩])
 (.seq (.reg [⟨(some 6), (.assign (.const (.int .i64 0))), none⟩])
 (.block 3 (.loop (.seq (.seq (.reg [⟨(some 58), (.move (.tmp 6)), none⟩,
   ⟨(some 59), (.move (.tmp 0)), none⟩,
   ⟨(some 60), (.call (.mk (.value (.func 66)) #[(.tmp 59), (.const (.int .i64 2))] #[74, 3])), none⟩,
   ⟨(some 61), (.binOp .add 3 (.const (.int .i64 8)) (.tmp 60) 3), none⟩,
   ⟨(some 62), (.binOp .lss 3 (.tmp 58) (.tmp 61) 3), none⟩])
 (.cond (.tmp 62) .skip (.exit 3)))
 (.seq (.block 4 (.reg [⟨(some 65), (.move (.tmp 3)), none⟩,
   ⟨(some 66), (.move (.tmp 6)), none⟩,
   ⟨(some 67), (.binOp .mul 3 (.const (.int .i64 1000)) (.tmp 66) 3), none⟩,
   ⟨(some 68), (.move (.tmp 6)), none⟩,
   ⟨(some 69), (.binOp .quo 3 (.tmp 68) (.const (.int .i64 2)) 3), none⟩,
   ⟨(some 70), (.binOp .mul 3 (.const (.int .i64 100)) (.tmp 69) 3), none⟩,
   ⟨(some 71), (.binOp .add 3 (.const (.int .i64 200)) (.tmp 70) 3), none⟩,
   ⟨(some 72), (.build 64 #[(0, (.tmp 67)), (1, (.tmp 71))]), none⟩,
   ⟨(some 73), (.buildSlice 25 1 #[(0, (.tmp 72))]), none⟩,
   ⟨(some 74), (.call (.mk (.builtin .append) #[(.tmp 65), (.tmp 73)] #[25, 25])), none⟩,
   ⟨(some 3), (.assign (.tmp 74)), none⟩]))
 (.reg [⟨(some 63), (.move (.tmp 6)), none⟩,
   ⟨(some 64), (.binOp .add 3 (.tmp 63) (.const (.int .i64 1)) 3), none⟩,
   ⟨(some 6), (.assign (.tmp 64)), none⟩]))))))) .skip))))))))))))
 (.seq (.reg [⟨(some 75), (.move (.tmp 3)), none⟩,
   ⟨(some 2), (.assign (.tmp 75)), none⟩])
 .ret))))))
theorem x_spec_l1Cur_steps22 : Txt Try.prog 63 c_spec_l1Cur_steps22 [.tmp 2] 1 := ⟨by kernel_rfl, by kernel_rfl, _, _, Try.func63, rfl, by kernel_rfl, by kernel_rfl, by kernel_rfl, rfl, by decide⟩
/-- (*loop.example/g01062/spec.l1Cur).bid22 -/
def c_spec_l1Cur_bid22 : Cd :=
 (.seq (.reg [⟨(some 2), (.assign (.const (.int .i64 0))), none⟩])
 (.seq (.reg [⟨(some 3), (.move (.tmp 0)), none⟩,
   ⟨(some 4), (.buildSlice 57 11 #[(0, (.const (.int .i64 0))), (1, (.const (.int .i64 100))), (2, (.const (.int .i64 500))), (3, (.const (.int .i64 1000))), (4, (.const (.int .i64 1100))), (5, (.const (.int .i64 1500))), (6, (.const (.int .i64 3000))), (7, (.const (.int .i64 7000))), (8, (.const (.int .i64 20000))), (9, (.const (.int .i64 (-1)))), (10, (.const (.int .i64 20001)))]), none⟩,
   ⟨(some 5), (.move (.tmp 0)), none⟩,
   ⟨(some 6), (.call (.mk (.value (.func 66)) #[(.tmp 5), (.const (.int .i64 24))] #[74, 3])), none⟩,
   ⟨(some 7), (.binOp .quo 3 (.tmp 6) (.const (.int .i64 11)) 3), none⟩,
   ⟨(some 8), (.binOp .add 3 (.const (.int .i64 9)) (.tmp 7) 3), none⟩,
   ⟨(some 9), (.slice 57 (.tmp 4) none (some (.tmp 8)) none), none⟩,
   ⟨(some 10), (.call (.mk (.value (.func 76)) #[(.tmp 3), (.tmp 9)] #[74, 57])), none⟩,
   ⟨(some 2), (.assign (.tmp 10)), none⟩])
 .ret))
theorem x_spec_l1Cur_bid22 : Txt Try.prog 64 c_spec_l1Cur_bid22 [.tmp 2] 1 := ⟨by kernel_rfl, by kernel_rfl, _, _, Try.func64, rfl, by kernel_rfl, by kernel_rfl, by kernel_rfl, rfl, by decide⟩
/-- (*loop.example/g01062/spec.l1Cur).one -/
def c_spec_l1Cur_one : Cd :=
 (.seq (.reg [⟨(some 4), (.assign (.const (.bool false))), none⟩])
 (.seq (.reg [⟨(some 5), (.move (.tmp 0)), none⟩,
   ⟨(some 6), (.move (.tmp 1)), none⟩,
   ⟨(some 7), (.call (.mk (.value (.func 66)) #[(.tmp 5), (.tmp 6)] #[74, 3])), none⟩,
   ⟨(some 8), (.binOp .eql 3 (.tmp 7) (.const (.int .i64 0)) 3), none⟩,
   ⟨(some 4), (.assign (.tmp 8)), none⟩])
 .ret))
theorem x_spec_l1Cur_one : Txt Try.prog 65 c_spec_l1Cur_one [.tmp 4] 2 := ⟨by kernel_rfl, by kernel_rfl, _, _, Try.func65, rfl, by kernel_rfl, by kernel_rfl, by kernel_rfl, rfl, by decide⟩
/-- (*loop.example/g01062/spec.l1Cur).pick -/
def c_spec_l1Cur_pick : Cd :=
 (.seq (.reg [⟨(some 4), (.assign (.const (.int .i64 0))), none⟩])
 (.seq (.seq (.reg [⟨(some 6), (.move (.tmp 1)), none⟩,
   ⟨(some 7), (.binOp .leq 3 (.tmp 6) (.const (.int .i64 1)) 3), none⟩])
 (.cond (.tmp 7) (.seq (.reg [⟨(some 4), (.assign (.const (.int .i64 0))), none⟩])
 .ret) .skip))
 (.seq (.reg [⟨(some 8), (.move (.tmp 0)), none⟩,
   ⟨(some 9), (.call (.mk (.value (.func 77)) #[(.tmp 8)] #[74])), none⟩,
   ⟨(some 5), (.assign (.tmp 9)), none⟩])
 (.seq (.seq (.reg [⟨(some 10), (.move (.tmp 1)), none⟩,
   ⟨(some 11), (.binOp .gtr 3 (.tmp 10) (.const (.int .i64 200)) 3), none⟩])
 (.cond (.tmp 11) (.reg [⟨(some 12), (.move (.tmp 5)), none⟩,
   ⟨(some 13), (.binOp .mul 3 (.tmp 12) (.const (.int .i64 256)) 3), none⟩,
   ⟨(some 14), (.move (.tmp 0)), none⟩,
   ⟨(some 15), (.call (.mk (.value (.func 77)) #[(.tmp 14)] #[74])), none⟩,
   ⟨(some 16), (.binOp .add 3 (.tmp 13) (.tmp 15) 3), none⟩,
   ⟨(some 5), (.assign (.tmp 16)), none⟩]) .skip))
 (.seq (.reg [⟨(some 17), (.move (.tmp 5)), none⟩,
   ⟨(some 18), (.move (.tmp 1)), none⟩,
   ⟨(some 19), (.binOp .rem 3 (.tmp 17) (.tmp 18) 3), none⟩,
   ⟨(some 4), (.assign (.tmp 19)), none⟩])
 .ret)))))
theorem x_spec_l1Cur_pick : Txt Try.prog 66 c_spec_l1Cur_pick [.tmp 4] 2 := ⟨by kernel_rfl, by kernel_rfl, _, _, Try.func66, rfl, by kernel_rfl, by kernel_rfl, by kernel_rfl, rfl, by decide⟩
/-- loop.example/g01062/spec.l1In -/
def c_spec_l1In : Cd :=
 (.seq (.reg [⟨(some 6), (.assign (.const (.bool false))), none⟩])
 (.seq (.reg [⟨(some 7), (.move (.tmp 0)), none⟩,
   ⟨(some 8), (.move (.tmp 1)), none⟩,
   ⟨(some 9), (.binOp .geq 3 (.tmp 7) (.tmp 8) 3), none⟩,
   ⟨(some 10), (.move (.tmp 9)), none⟩,
   ⟨(some 11), (.move (.tmp 0)), (some (10, true))⟩,
   ⟨(some 12), (.move (.tmp 2)), (some (10, true))⟩,
   ⟨(some 13), (.binOp .leq 3 (.tmp 11) (.tmp 12) 3), (some (10, true))⟩,
   ⟨(some 14), (.pick (.tmp 10) (.tmp 13) (.const (.bool false))), none⟩,
   ⟨(some 6), (.assign (.tmp 14)), none⟩])
 .ret))
theorem x_spec_l1In : Txt Try.prog 72 c_spec_l1In [.tmp 6] 3 := ⟨by kernel_rfl, by kernel_rfl, _, _, Try.func72, rfl, by kernel_rfl, by kernel_rfl, by kernel_rfl, rfl, by decide⟩
/-- loop.example/g01062/impl.inRange -/
def c_impl_inRange : Cd :=
 (.seq (.reg [⟨(some 6), (.assign (.const (.bool false))), none⟩])
 (.seq (.reg [⟨(some 7), (.move (.tmp 0)), none⟩,
   ⟨(some 8), (.move (.tmp 1)), none⟩,
   ⟨(some 9), (.binOp .geq 3 (.tmp 7) (.tmp 8) 3), none⟩,
   ⟨(some 10), (.move (.tmp 9)), none⟩,
   ⟨(some 11), (.move (.tmp 0)), (some (10, true))⟩,
   ⟨(some 12), (.move (.tmp 2)), (some (10, true))⟩,
   ⟨(some 13), (.binOp .leq 3 (.tmp 11) (.tmp 12) 3), (some (10, true))⟩,
   ⟨(some 14), (.pick (.tmp 10) (.tmp 13) (.const (.bool false))), none⟩,
   ⟨(some 6), (.assign (.tmp 14)), none⟩])
 .ret))
theorem x_impl_inRange : Txt Try.prog 73 c_impl_inRange [.tmp 6] 3 := ⟨by kernel_rfl, by kernel_rfl, _, _, Try.func73, rfl, by kernel_rfl, by kernel_rfl, by kernel_rfl, rfl, by decide⟩
/-- (*loop.example/g01062/spec.l1Cur).among -/
def c_spec_l1Cur_among : Cd :=
 (.seq (.reg [⟨(some 4), (.assign (.const (.int .i64 0))), none⟩])
 (.seq (.reg [⟨(some 5), (.move (.tmp 1)), none⟩,
   ⟨(some 6), (.move (.tmp 0)), none⟩,
   ⟨(some 7), (.move (.tmp 1)), none⟩,
   ⟨(some 8), (.call (.mk (.builtin .len) #[(.tmp 7)] #[57])), none⟩,
   ⟨(some 9), (.call (.mk (.value (.func 66)) #[(.tmp 6), (.tmp 8)] #[74, 3])), none⟩,
   ⟨(some 10), (.indexAddr 57 (.tmp 5) (.tmp 9)), none⟩,
   ⟨(some 11), (.load 3 (.tmp 10)), none⟩,
   ⟨(some 4), (.assign (.tmp 11)), none⟩])
 .ret))
theorem x_spec_l1Cur_among : Txt Try.prog 76 c_spec_l1Cur_among [.tmp 4] 2 := ⟨by kernel_rfl, by kernel_rfl, _, _, Try.func76, rfl, by kernel_rfl, by kernel_rfl, by kernel_rfl, rfl, by decide⟩
/-- (*loop.example/g01062/spec.l1Cur).next -/
def c_spec_l1Cur_next : Cd :=
 (.seq (.reg [⟨(some 2), (.assign (.const (.int .i64 0))), none⟩])
 (.seq (.reg [⟨(some 3), (.assign (.const (.int .i64 0))), none⟩])
 (.seq (.seq (.regq [⟨(some 4), (.move (.tmp 0)), none⟩,
   ⟨(some 5), (.nilCheck (.tmp 4)), none⟩,
   ⟨(some 6), (.fieldAddr 77 (.tmp 5) 1), none⟩,
   ⟨(some 7), (.load 3 (.tmp 6)), none⟩,
   ⟨(some 8), (.move (.tmp 0)), none⟩,
   ⟨(some 9), (.nilCheck (.tmp 8)), none⟩,
   ⟨(some 10), (.fieldAddr 77 (.tmp 9) 0), none⟩,
   ⟨(some 11), (.load 46 (.tmp 10)), none⟩,
   ⟨(some 12), (.call (.mk (.builtin .len) #[(.tmp 11)] #[46])), none⟩,
   ⟨(some 13), (.binOp .lss 3 (.tmp 7) (.tmp 12) 3), none⟩])
 (.cond (.tmp 13) (.regq [⟨(some 14), (.move (.tmp 0)), none⟩,
   ⟨(some 15), (.nilCheck (.tmp 14)), none⟩,
   ⟨(some 16), (.fieldAddr 77 (.tmp 15) 0), none⟩,
   ⟨(some 17), (.load 46 (.tmp 16)), none⟩,
   ⟨(some 18), (.move (.tmp 0)), none⟩,
   ⟨(some 19), (.nilCheck (.tmp 18)), none⟩,
   ⟨(some 20), (.fieldAddr 77 (.tmp 19) 1), none⟩,
   ⟨(some 21), (.load 3 (.tmp 20)), none⟩,
   ⟨(some 22), (.indexAddr 46 (.tmp 17) (.tmp 21)), none⟩,
   ⟨(some 23), (.load 5 (.tmp 22)), none⟩,
   ⟨(some 24), (.convert 5 3 (.tmp 23)), none⟩,
   ⟨(some 3), (.assign (.tmp 24)), none⟩]) .skip))
 (.seq (.reg [⟨(some 25), (.move (.tmp 0)), none⟩,
   ⟨(some 26), (.nilCheck (.tmp 25)), none⟩,
   ⟨(some 27), (.fieldAddr 77 (.tmp 26) 1), none⟩,
   ⟨(some 28), (.load 3 (.tmp 27)), none⟩,
   ⟨(some 29), (.binOp .add 3 (.tmp 28) (.const (.int .i64 1)) 3), none⟩,
   ⟨(some 30), (.nilCheck (.tmp 25)), none⟩,
   ⟨(some 31), (.fieldAddr 77 (.tmp 30) 1), none⟩,
   ⟨none, (.store 3 (.tmp 31) (.tmp 29)), none⟩])
 (.seq (.reg [⟨(some 32), (.move (.tmp 0)), none⟩,
   ⟨(some 33), (.move (.tmp 0)), none⟩,
   ⟨(some 34), (.nilCheck (.tmp 33)), none⟩,
   ⟨(some 35), (.fieldAddr 77 (.tmp 34) 2), none⟩,
   ⟨(some 36), (.load 75 (.tmp 35)), none⟩,
   ⟨(some 37), (.binOp .mul 75 (.tmp 36) (.const (.int .u64 6364136223846793005)) 75), none⟩,
   ⟨(some 38), (.move (.tmp 3)), none⟩,
   ⟨(some 39), (.convert 3 75 (.tmp 38)), none⟩,
   ⟨(some 40), (.binOp .add 75 (.tmp 37) (.tmp 39) 75), none⟩,
   ⟨(some 41), (.binOp .add 75 (.tmp 40) (.const (.int .u64 381907)) 75), none⟩,
   ⟨(some 42), (.nilCheck (.tmp 32)), none⟩,
   ⟨(some 43), (.fieldAddr 77 (.tmp 42) 2), none⟩,
   ⟨none, (.store 75 (.tmp 43) (.tmp 41)), none⟩])
 (.seq (.seq (.regq [⟨(some 44), (.move (.tmp 0)), none⟩,
   ⟨(some 45), (.nilCheck (.tmp 44)), none⟩,
   ⟨(some 46), (.fieldAddr 77 (.tmp 45) 1), none⟩,
   ⟨(some 47), (.load 3 (.tmp 46)), none⟩,
   ⟨(some 48), (.move (.tmp 0)), none⟩,
   ⟨(some 49), (.nilCheck (.tmp 48)), none⟩,
   ⟨(some 50), (.fieldAddr 77 (.tmp 49) 0), none⟩,
   ⟨(some 51), (.load 46 (.tmp 50)), none⟩,
   ⟨(some 52), (.call (.mk (.builtin .len) #[(.tmp 51)] #[46])), none⟩,
   ⟨(some 53), (.binOp .leq 3 (.tmp 47) (.tmp 52) 3), none⟩])
 (.cond (.tmp 53) (.seq (.reg [⟨(some 54), (.move (.tmp 3)), none⟩,
   ⟨(some 2), (.assign (.tmp 54)), none⟩])
 .ret) .skip))
 (.seq (.reg [⟨(some 55), (.move (.tmp 0)), none⟩,
   ⟨(some 56), (.nilCheck (.tmp 55)), none⟩,
   ⟨(some 57), (.fieldAddr 77 (.tmp 56) 2), none⟩,
   ⟨(some 58), (.load 75 (.tmp 57)), none⟩,
   ⟨(some 59), (.binOp .shr 75 (.tmp 58) (.const (.int .u64 40)) 91), none⟩,
   ⟨(some 60), (.binOp .and 75 (.tmp 59) (.const (.int .u64 255)) 75), none⟩,
   ⟨(some 61), (.convert 75 3 (.tmp 60)), none⟩,
   ⟨(some 2), (.assign (.tmp 61)), none⟩])
 .ret)))))))
theorem x_spec_l1Cur_next : Txt Try.prog 77 c_spec_l1Cur_next [.tmp 2] 1 := ⟨by kernel_rfl, by kernel_rfl, _, _, Try.func77, rfl, by kernel_rfl, by kernel_rfl, by kernel_rfl, rfl, by decide⟩
theorem qs3 : qSize Try.prog 3 = some 1 := by kernel_rfl
theorem qb3 : qBytes Try.prog 3 = some 8 := by kernel_rfl
theorem qa3 : qAgg Try.prog 3 = some false := by kernel_rfl
theorem qz3 : qZero Try.prog 3 = some (.int .i64 0) := by kernel_rfl
theorem qk3 : qKind Try.prog 3 = some .i64 := by kernel_rfl
theorem qui3 : (Try.prog.underlying 3).isSome = true := by kernel_rfl
theorem qs4 : qSize Try.prog 4 = some 1 := by kernel_rfl
theorem qb4 : qBytes Try.prog 4 = some 1 := by kernel_rfl
theorem qa4 : qAgg Try.prog 4 = some false := by kernel_rfl
theorem qz4 : qZero Try.prog 4 = some (.bool false) := by kernel_rfl
theorem qo4 : qBool Try.prog 4 = true := by kernel_rfl
theorem qs5 : qSize Try.prog 5 = some 1 := by kernel_rfl
theorem qb5 : qBytes Try.prog 5 = some 1 := by kernel_rfl
theorem qa5 : qAgg Try.prog 5 = some false := by kernel_rfl
theorem qz5 : qZero Try.prog 5 = some (.int .u8 0) := by kernel_rfl
theorem qk5 : qKind Try.prog 5 = some .u8 := by kernel_rfl
theorem qui5 : (Try.prog.underlying 5).isSome = true := by kernel_rfl
theorem qs22 : qSize Try.prog 22 = some 1 := by kernel_rfl
theorem qb22 : qBytes Try.prog 22 = some 24 := by kernel_rfl
theorem qa22 : qAgg Try.prog 22 = some false := by kernel_rfl
theorem qz22 : qZero Try.prog 22 = some (.slice none 0 0) := by kernel_rfl
theorem qe22 : qElem Try.prog 22 = some 66 := by kernel_rfl
theorem qs25 : qSize Try.prog 25 = some 1 := by kernel_rfl
theorem qb25 : qBytes Try.prog 25 = some 24 := by kernel_rfl
theorem qa25 : qAgg Try.prog 25 = some false := by kernel_rfl
theorem qz25 : qZero Try.prog 25 = some (.slice none 0 0) := by kernel_rfl
theorem qe25 : qElem Try.prog 25 = some 64 := by kernel_rfl
theorem qs29 : qSize Try.prog 29 = some 1 := by kernel_rfl
theorem qb29 : qBytes Try.prog 29 = some 24 := by kernel_rfl
theorem qa29 : qAgg Try.prog 29 = some false := by kernel_rfl
theorem qz29 : qZero Try.prog 29 = some (.slice none 0 0) := by kernel_rfl
theorem qe29 : qElem Try.prog 29 = some 71 := by kernel_rfl
theorem qs32 : qSize Try.prog 32 = some 1 := by kernel_rfl
theorem qb32 : qBytes Try.prog 32 = some 24 := by kernel_rfl
theorem qa32 : qAgg Try.prog 32 = some false := by kernel_rfl
theorem qz32 : qZero Try.prog 32 = some (.slice none 0 0) := by kernel_rfl
theorem qe32 : qElem Try.prog 32 = some 69 := by kernel_rfl
theorem qs46 : qSize Try.prog 46 = some 1 := by kernel_rfl
theorem qb46 : qBytes Try.prog 46 = some 24 := by kernel_rfl
theorem qa46 : qAgg Try.prog 46 = some false := by kernel_rfl
theorem qz46 : qZero Try.prog 46 = some (.slice none 0 0) := by kernel_rfl
theorem qe46 : qElem Try.prog 46 = some 5 := by kernel_rfl
theorem qs57 : qSize Try.prog 57 = some 1 := by kernel_rfl
theorem qb57 : qBytes Try.prog 57 = some 24 := by kernel_rfl
theorem qa57 : qAgg Try.prog 57 = some false := by kernel_rfl
theorem qz57 : qZero Try.prog 57 = some (.slice none 0 0) := by kernel_rfl
theorem qe57 : qElem Try.prog 57 = some 3 := by kernel_rfl
theorem qs64 : qSize Try.prog 64 = some 2 := by kernel_rfl
theorem qb64 : qBytes Try.prog 64 = some 16 := by kernel_rfl
theorem qa64 : qAgg Try.prog 64 = some true := by kernel_rfl
theorem qz64 : qZero Try.prog 64 = some (.agg #[.int .i64 0, .int .i64 0]) := by kernel_rfl
theorem qg64 : qFields Try.prog 64 = some [(0, 1), (1, 1)] := by kernel_rfl
theorem qf64_0 : qField Try.prog 64 0 = some (0, 3) := by kernel_rfl
theorem qf64_1 : qField Try.prog 64 1 = some (1, 3) := by kernel_rfl
theorem qs66 : qSize Try.prog 66 = some 2 := by kernel_rfl
theorem qb66 : qBytes Try.prog 66 = some 16 := by kernel_rfl
theorem qa66 : qAgg Try.prog 66 = some true := by kernel_rfl
theorem qz66 : qZero Try.prog 66 = some (.agg #[.int .i64 0, .int .i64 0]) := by kernel_rfl
theorem qg66 : qFields Try.prog 66 = some [(0, 1), (1, 1)] := by kernel_rfl
theorem qf66_0 : qField Try.prog 66 0 = some (0, 3) := by kernel_rfl
theorem qf66_1 : qField Try.prog 66 1 = some (1, 3) := by kernel_rfl
theorem qs69 : qSize Try.prog 69 = some 2 := by kernel_rfl
theorem qb69 : qBytes Try.prog 69 = some 16 := by kernel_rfl
theorem qa69 : qAgg Try.prog 69 = some true := by kernel_rfl
theorem qz69 : qZero Try.prog 69 = some (.agg #[.int .i64 0, .int .i64 0]) := by kernel_rfl
theorem qg69 : qFields Try.prog 69 = some [(0, 1), (1, 1)] := by kernel_rfl
theorem qf69_0 : qField Try.prog 69 0 = some (0, 3) := by kernel_rfl
theorem qf69_1 : qField Try.prog 69 1 = some (1, 3) := by kernel_rfl
theorem qs71 : qSize Try.prog 71 = some 2 := by kernel_rfl
theorem qb71 : qBytes Try.prog 71 = some 16 := by kernel_rfl
theorem qa71 : qAgg Try.prog 71 = some true := by kernel_rfl
theorem qz71 : qZero Try.prog 71 = some (.agg #[.int .i64 0, .int .i64 0]) := by kernel_rfl
theorem qg71 : qFields Try.prog 71 = some [(0, 1), (1, 1)] := by kernel_rfl
theorem qf71_0 : qField Try.prog 71 0 = some (0, 3) := by kernel_rfl
theorem qf71_1 : qField Try.prog 71 1 = some (1, 3) := by kernel_rfl
theorem qs74 : qSize Try.prog 74 = some 1 := by kernel_rfl
theorem qb74 : qBytes Try.prog 74 = some 8 := by kernel_rfl
theorem qa74 : qAgg Try.prog 74 = some false := by kernel_rfl
theorem qz74 : qZero Try.prog 74 = some (.pointer none) := by kernel_rfl
theorem qs75 : qSize Try.prog 75 = some 1 := by kernel_rfl
theorem qb75 : qBytes Try.prog 75 = some 8 := by kernel_rfl
theorem qa75 : qAgg Try.prog 75 = some false := by kernel_rfl
theorem qz75 : qZero Try.prog 75 = some (.int .u64 0) := by kernel_rfl
theorem qk75 : qKind Try.prog 75 = some .u64 := by kernel_rfl
theorem qui75 : (Try.prog.underlying 75).isSome = true := by kernel_rfl
theorem qs77 : qSize Try.prog 77 = some 3 := by kernel_rfl
theorem qb77 : qBytes Try.prog 77 = some 40 := by kernel_rfl
theorem qa77 : qAgg Try.prog 77 = some true := by kernel_rfl
theorem qz77 : qZero Try.prog 77 = some (.agg #[.slice none 0 0, .int .i64 0, .int .u64 0]) := by kernel_rfl
theorem qg77 : qFields Try.prog 77 = some [(0, 1), (1, 1), (2, 1)] := by kernel_rfl
theorem qf77_0 : qField Try.prog 77 0 = some (0, 46) := by kernel_rfl
theorem qf77_1 : qField Try.prog 77 1 = some (1, 3) := by kernel_rfl
theorem qf77_2 : qField Try.prog 77 2 = some (2, 75) := by kernel_rfl
set_option linter.defProp false
/-- The facts, in one name. -/
def fcT := And.intro @qs3 <| And.intro @qb3 <| And.intro @qa3 <| And.intro @qz3 <| And.intro @qk3 <| And.intro @qui3 <| And.intro @qs4 <| And.intro @qb4 <| And.intro @qa4 <| And.intro @qz4 <| And.intro @qo4 <| And.intro @qs5 <| And.intro @qb5 <| And.intro @qa5 <| And.intro @qz5 <| And.intro @qk5 <| And.intro @qui5 <| And.intro @qs22 <| And.intro @qb22 <| And.intro @qa22 <| And.intro @qz22 <| And.intro @qe22 <| And.intro @qs25 <| And.intro @qb25 <| And.intro @qa25 <| And.intro @qz25 <| And.intro @qe25 <| And.intro @qs29 <| And.intro @qb29 <| And.intro @qa29 <| And.intro @qz29 <| And.intro @qe29 <| And.intro @qs32 <| And.intro @qb32 <| And.intro @qa32 <| And.intro @qz32 <| And.intro @qe32 <| And.intro @qs46 <| And.intro @qb46 <| And.intro @qa46 <| And.intro @qz46 <| And.intro @qe46 <| And.intro @qs57 <| And.intro @qb57 <| And.intro @qa57 <| And.intro @qz57 <| And.intro @qe57 <| And.intro @qs64 <| And.intro @qb64 <| And.intro @qa64 <| And.intro @qz64 <| And.intro @qg64 <| And.intro @qf64_0 <| And.intro @qf64_1 <| And.intro @qs66 <| And.intro @qb66 <| And.intro @qa66 <| And.intro @qz66 <| And.intro @qg66 <| And.intro @qf66_0 <| And.intro @qf66_1 <| And.intro @qs69 <| And.intro @qb69 <| And.intro @qa69 <| And.intro @qz69 <| And.intro @qg69 <| And.intro @qf69_0 <| And.intro @qf69_1 <| And.intro @qs71 <| And.intro @qb71 <| And.intro @qa71 <| And.intro @qz71 <| And.intro @qg71 <| And.intro @qf71_0 <| And.intro @qf71_1 <| And.intro @qs74 <| And.intro @qb74 <| And.intro @qa74 <| And.intro @qz74 <| And.intro @qs75 <| And.intro @qb75 <| And.intro @qa75 <| And.intro @qz75 <| And.intro @qk75 <| And.intro @qui75 <| And.intro @qs77 <| And.intro @qb77 <| And.intro @qa77 <| And.intro @qz77 <| And.intro @qg77 <| And.intro @qf77_0 <| And.intro @qf77_1 <| And.intro @qf77_2 <| True.intro
end Go.Proofs.Ythddighmlijdeaa
