/- The texts of the functions, edges struck, and closed facts on functions and types: written by program (gen.py). -/
import Derived.Test.YtnjlleopgjggpaaDoorD
import Derived.Test.YtnjlleopgjggpaaDoorProg
namespace Go.Proofs.YtnjlleopgjggpaaDoor
open Go Go.RowKit Go.Proofs
/-- loop.example/g01062/laws.FnRoom -/
def c_laws_FnRoom : Cd :=
 (.seq (.reg [⟨(some 2), (.assign (.const (.bool false))), none⟩])
 (.seq (.seq (.reg [⟨(some 45), (.move (.tmp 0)), none⟩,
   ⟨(some 46), (.call (.mk (.value (.func 6)) #[(.tmp 45)] #[22])), none⟩])
 (.cond (.tmp 46) (.seq (.reg [⟨(some 2), (.assign (.const (.bool true))), none⟩])
 .ret) .skip))
 (.seq (.reg [⟨(some 48), (.move (.tmp 0)), none⟩,
   ⟨(some 49), (.call (.mk (.value (.func 7)) #[(.tmp 48)] #[22])), none⟩,
   ⟨(some 47), (.move (.tmp 49)), none⟩,
   ⟨(some 50), (.extract (.tmp 47) 0), none⟩,
   ⟨(some 51), (.extract (.tmp 47) 1), none⟩,
   ⟨(some 52), (.extract (.tmp 47) 2), none⟩,
   ⟨(some 3), (.assign (.tmp 50)), none⟩,
   ⟨(some 4), (.assign (.tmp 51)), none⟩,
   ⟨(some 5), (.assign (.tmp 52)), none⟩])
 (.seq (.reg [⟨(some 54), (.move (.tmp 3)), none⟩,
   ⟨(some 55), (.move (.tmp 4)), none⟩,
   ⟨(some 56), (.move (.tmp 5)), none⟩,
   ⟨(some 57), (.call (.mk (.value (.func 8)) #[(.tmp 54), (.tmp 55), (.tmp 56)] #[24, 25, 3])), none⟩,
   ⟨(some 53), (.move (.tmp 57)), none⟩,
   ⟨(some 58), (.extract (.tmp 53) 0), none⟩,
   ⟨(some 59), (.extract (.tmp 53) 1), none⟩,
   ⟨(some 60), (.extract (.tmp 53) 2), none⟩,
   ⟨(some 6), (.assign (.tmp 58)), none⟩,
   ⟨(some 7), (.assign (.tmp 59)), none⟩,
   ⟨(some 8), (.assign (.tmp 60)), none⟩])
 (.seq (.seq (.reg [⟨(some 62), (.move (.tmp 3)), none⟩,
   ⟨(some 63), (.move (.tmp 4)), none⟩,
   ⟨(some 64), (.move (.tmp 5)), none⟩,
   ⟨(some 65), (.call (.mk (.value (.func 9)) #[(.tmp 62), (.tmp 63), (.tmp 64)] #[24, 25, 3])), none⟩,
   ⟨(some 61), (.move (.tmp 65)), none⟩,
   ⟨(some 66), (.extract (.tmp 61) 0), none⟩,
   ⟨(some 67), (.extract (.tmp 61) 1), none⟩,
   ⟨(some 68), (.extract (.tmp 61) 2), none⟩,
   ⟨(some 9), (.assign (.tmp 66)), none⟩,
   ⟨(some 10), (.assign (.tmp 67)), none⟩,
   ⟨(some 11), (.assign (.tmp 68)), none⟩])
 (.seq (.reg [⟨(some 69), (.move (.tmp 6)), none⟩,
   ⟨(some 70), (.move (.tmp 9)), none⟩,
   ⟨(some 71), (.binOp .neq 3 (.tmp 69) (.tmp 70) 3), none⟩,
   ⟨(some 72), (.move (.tmp 71)), none⟩,
   ⟨(some 73), (.move (.tmp 7)), (some (72, false))⟩,
   ⟨(some 74), (.move (.tmp 10)), (some (72, false))⟩,
   ⟨(some 75), (.binOp .neq 3 (.tmp 73) (.tmp 74) 3), (some (72, false))⟩,
   ⟨(some 76), (.pick (.tmp 72) (.const (.bool true)) (.tmp 75)), none⟩,
   ⟨(some 77), (.move (.tmp 76)), none⟩,
   ⟨(some 78), (.move (.tmp 8)), (some (77, false))⟩,
   ⟨(some 79), (.move (.tmp 11)), (some (77, false))⟩,
   ⟨(some 80), (.binOp .neq 4 (.tmp 78) (.tmp 79) 4), (some (77, false))⟩,
   ⟨(some 81), (.pick (.tmp 77) (.const (.bool true)) (.tmp 80)), none⟩])
 (.cond (.tmp 81) (.seq (.reg [⟨(some 2), (.assign (.const (.bool false))), none⟩])
 .ret) .skip)))
 (.seq (.reg [⟨(some 83), (.move (.tmp 3)), none⟩,
   ⟨(some 84), (.move (.tmp 4)), none⟩,
   ⟨(some 85), (.move (.tmp 5)), none⟩,
   ⟨(some 86), (.call (.mk (.value (.func 10)) #[(.tmp 83), (.tmp 84), (.tmp 85)] #[24, 25, 3])), none⟩,
   ⟨(some 82), (.move (.tmp 86)), none⟩,
   ⟨(some 87), (.extract (.tmp 82) 0), none⟩,
   ⟨(some 88), (.extract (.tmp 82) 1), none⟩,
   ⟨(some 12), (.assign (.tmp 87)), none⟩,
   ⟨(some 13), (.assign (.tmp 88)), none⟩])
 (.seq (.seq (.reg [⟨(some 90), (.move (.tmp 3)), none⟩,
   ⟨(some 91), (.move (.tmp 4)), none⟩,
   ⟨(some 92), (.move (.tmp 5)), none⟩,
   ⟨(some 93), (.call (.mk (.value (.func 11)) #[(.tmp 90), (.tmp 91), (.tmp 92)] #[24, 25, 3])), none⟩,
   ⟨(some 89), (.move (.tmp 93)), none⟩,
   ⟨(some 94), (.extract (.tmp 89) 0), none⟩,
   ⟨(some 95), (.extract (.tmp 89) 1), none⟩,
   ⟨(some 14), (.assign (.tmp 94)), none⟩,
   ⟨(some 15), (.assign (.tmp 95)), none⟩])
 (.seq (.reg [⟨(some 96), (.move (.tmp 13)), none⟩,
   ⟨(some 97), (.move (.tmp 15)), none⟩,
   ⟨(some 98), (.binOp .neq 4 (.tmp 96) (.tmp 97) 4), none⟩,
   ⟨(some 99), (.move (.tmp 98)), none⟩,
   ⟨(some 100), (.move (.tmp 12)), (some (99, false))⟩,
   ⟨(some 101), (.move (.tmp 14)), (some (99, false))⟩,
   ⟨(some 102), (.call (.mk (.value (.func 12)) #[(.tmp 100), (.tmp 101)] #[30, 30])), (some (99, false))⟩,
   ⟨(some 103), (.unOp .not 4 (.tmp 102)), (some (99, false))⟩,
   ⟨(some 104), (.pick (.tmp 99) (.const (.bool true)) (.tmp 103)), none⟩])
 (.cond (.tmp 104) (.seq (.reg [⟨(some 2), (.assign (.const (.bool false))), none⟩])
 .ret) .skip)))
 (.seq (.seq (.reg [⟨(some 105), (.move (.tmp 8)), none⟩,
   ⟨(some 106), (.move (.tmp 13)), none⟩,
   ⟨(some 107), (.move (.tmp 106)), none⟩,
   ⟨(some 108), (.move (.tmp 12)), (some (107, true))⟩,
   ⟨(some 109), (.call (.mk (.builtin .len) #[(.tmp 108)] #[30])), (some (107, true))⟩,
   ⟨(some 110), (.binOp .gtr 3 (.tmp 109) (.const (.int .i64 0)) 3), (some (107, true))⟩,
   ⟨(some 111), (.pick (.tmp 107) (.tmp 110) (.const (.bool false))), none⟩,
   ⟨(some 112), (.binOp .neq 4 (.tmp 105) (.tmp 111) 4), none⟩,
   ⟨(some 113), (.move (.tmp 112)), none⟩,
   ⟨(some 114), (.move (.tmp 8)), (some (113, false))⟩,
   ⟨(some 115), (.move (.tmp 114)), (some (113, false))⟩,
   ⟨(some 116), (.move (.tmp 12)), (some (115, true))⟩,
   ⟨(some 117), (.move (.tmp 12)), (some (115, true))⟩,
   ⟨(some 118), (.call (.mk (.builtin .len) #[(.tmp 117)] #[30])), (some (115, true))⟩,
   ⟨(some 119), (.binOp .sub 3 (.tmp 118) (.const (.int .i64 1)) 3), (some (115, true))⟩,
   ⟨(some 120), (.indexAddr 30 (.tmp 116) (.tmp 119)), (some (115, true))⟩,
   ⟨(some 121), (.load 3 (.tmp 120)), (some (115, true))⟩,
   ⟨(some 122), (.move (.tmp 6)), (some (115, true))⟩,
   ⟨(some 123), (.binOp .neq 3 (.tmp 121) (.tmp 122) 3), (some (115, true))⟩,
   ⟨(some 124), (.pick (.tmp 115) (.tmp 123) (.const (.bool false))), (some (113, false))⟩,
   ⟨(some 125), (.pick (.tmp 113) (.const (.bool true)) (.tmp 124)), none⟩])
 (.cond (.tmp 125) (.seq (.reg [⟨(some 2), (.assign (.const (.bool false))), none⟩])
 .ret) .skip))
 (.seq (.seq (.reg [⟨(some 16), (.assign (.const (.int .i64 1))), none⟩])
 (.block 0 (.loop (.seq (.seq (.reg [⟨(some 126), (.move (.tmp 16)), none⟩,
   ⟨(some 127), (.move (.tmp 12)), none⟩,
   ⟨(some 128), (.call (.mk (.builtin .len) #[(.tmp 127)] #[30])), none⟩,
   ⟨(some 129), (.binOp .lss 3 (.tmp 126) (.tmp 128) 3), none⟩])
 (.cond (.tmp 129) .skip (.exit 0)))
 (.seq (.block 1 (.seq (.regq [⟨(some 132), (.move (.tmp 12)), none⟩,
   ⟨(some 133), (.move (.tmp 16)), none⟩,
   ⟨(some 134), (.indexAddr 30 (.tmp 132) (.tmp 133)), none⟩,
   ⟨(some 135), (.load 3 (.tmp 134)), none⟩,
   ⟨(some 136), (.move (.tmp 12)), none⟩,
   ⟨(some 137), (.move (.tmp 16)), none⟩,
   ⟨(some 138), (.binOp .sub 3 (.tmp 137) (.const (.int .i64 1)) 3), none⟩,
   ⟨(some 139), (.indexAddr 30 (.tmp 136) (.tmp 138)), none⟩,
   ⟨(some 140), (.load 3 (.tmp 139)), none⟩,
   ⟨(some 141), (.binOp .eql 3 (.tmp 135) (.tmp 140) 3), none⟩])
 (.cond (.tmp 141) (.seq (.reg [⟨(some 2), (.assign (.const (.bool false))), none⟩])
 .ret) .skip)))
 (.reg [⟨(some 130), (.move (.tmp 16)), none⟩,
   ⟨(some 131), (.binOp .add 3 (.tmp 130) (.const (.int .i64 1)) 3), none⟩,
   ⟨(some 16), (.assign (.tmp 131)), none⟩]))))))
 (.seq (.seq (.reg [⟨(some 142), (.move (.tmp 8)), none⟩])
 (.cond (.tmp 142) (.seq (.reg [⟨(some 144), (.move (.tmp 3)), none⟩,
   ⟨(some 145), (.move (.tmp 5)), none⟩,
   ⟨(some 146), (.move (.tmp 7)), none⟩,
   ⟨(some 147), (.call (.mk (.value (.func 13)) #[(.tmp 144), (.tmp 145), (.tmp 146)] #[24, 3, 3])), none⟩,
   ⟨(some 143), (.move (.tmp 147)), none⟩,
   ⟨(some 148), (.extract (.tmp 143) 0), none⟩,
   ⟨(some 149), (.extract (.tmp 143) 1), none⟩,
   ⟨(some 17), (.assign (.tmp 148)), none⟩,
   ⟨(some 18), (.assign (.tmp 149)), none⟩])
 (.seq (.reg [⟨(some 150), (.move (.tmp 18)), none⟩,
   ⟨(some 151), (.unOp .not 4 (.tmp 150)), none⟩,
   ⟨(some 152), (.move (.tmp 151)), none⟩,
   ⟨(some 153), (.move (.tmp 17)), (some (152, false))⟩,
   ⟨(some 154), (.move (.tmp 12)), (some (152, false))⟩,
   ⟨(some 155), (.call (.mk (.builtin .len) #[(.tmp 154)] #[30])), (some (152, false))⟩,
   ⟨(some 156), (.binOp .neq 3 (.tmp 153) (.tmp 155) 3), (some (152, false))⟩,
   ⟨(some 157), (.pick (.tmp 152) (.const (.bool true)) (.tmp 156)), none⟩])
 (.cond (.tmp 157) (.seq (.reg [⟨(some 2), (.assign (.const (.bool false))), none⟩])
 .ret) .skip))) .skip))
 (.seq (.reg [⟨(some 159), (.move (.tmp 0)), none⟩,
   ⟨(some 160), (.call (.mk (.value (.func 14)) #[(.tmp 159)] #[22])), none⟩,
   ⟨(some 158), (.move (.tmp 160)), none⟩,
   ⟨(some 161), (.extract (.tmp 158) 0), none⟩,
   ⟨(some 162), (.extract (.tmp 158) 1), none⟩,
   ⟨(some 163), (.extract (.tmp 158) 2), none⟩,
   ⟨(some 164), (.extract (.tmp 158) 3), none⟩,
   ⟨(some 19), (.assign (.tmp 161)), none⟩,
   ⟨(some 20), (.assign (.tmp 162)), none⟩,
   ⟨(some 21), (.assign (.tmp 163)), none⟩,
   ⟨(some 22), (.assign (.tmp 164)), none⟩])
 (.seq (.reg [⟨(some 166), (.move (.tmp 19)), none⟩,
   ⟨(some 167), (.move (.tmp 20)), none⟩,
   ⟨(some 168), (.move (.tmp 21)), none⟩,
   ⟨(some 169), (.move (.tmp 22)), none⟩,
   ⟨(some 170), (.call (.mk (.value (.func 15)) #[(.tmp 166), (.tmp 167), (.tmp 168), (.tmp 169)] #[24, 25, 3, 3])), none⟩,
   ⟨(some 165), (.move (.tmp 170)), none⟩,
   ⟨(some 171), (.extract (.tmp 165) 0), none⟩,
   ⟨(some 172), (.extract (.tmp 165) 1), none⟩,
   ⟨(some 23), (.assign (.tmp 171)), none⟩,
   ⟨(some 24), (.assign (.tmp 172)), none⟩])
 (.seq (.seq (.reg [⟨(some 174), (.move (.tmp 19)), none⟩,
   ⟨(some 175), (.move (.tmp 20)), none⟩,
   ⟨(some 176), (.move (.tmp 21)), none⟩,
   ⟨(some 177), (.move (.tmp 22)), none⟩,
   ⟨(some 178), (.call (.mk (.value (.func 16)) #[(.tmp 174), (.tmp 175), (.tmp 176), (.tmp 177)] #[24, 25, 3, 3])), none⟩,
   ⟨(some 173), (.move (.tmp 178)), none⟩,
   ⟨(some 179), (.extract (.tmp 173) 0), none⟩,
   ⟨(some 180), (.extract (.tmp 173) 1), none⟩,
   ⟨(some 25), (.assign (.tmp 179)), none⟩,
   ⟨(some 26), (.assign (.tmp 180)), none⟩])
 (.seq (.reg [⟨(some 181), (.move (.tmp 23)), none⟩,
   ⟨(some 182), (.move (.tmp 25)), none⟩,
   ⟨(some 183), (.binOp .neq 3 (.tmp 181) (.tmp 182) 3), none⟩,
   ⟨(some 184), (.move (.tmp 183)), none⟩,
   ⟨(some 185), (.move (.tmp 24)), (some (184, false))⟩,
   ⟨(some 186), (.move (.tmp 26)), (some (184, false))⟩,
   ⟨(some 187), (.binOp .neq 4 (.tmp 185) (.tmp 186) 4), (some (184, false))⟩,
   ⟨(some 188), (.pick (.tmp 184) (.const (.bool true)) (.tmp 187)), none⟩])
 (.cond (.tmp 188) (.seq (.reg [⟨(some 2), (.assign (.const (.bool false))), none⟩])
 .ret) .skip)))
 (.seq (.seq (.reg [⟨(some 189), (.move (.tmp 24)), none⟩])
 (.cond (.tmp 189) (.seq (.reg [⟨(some 190), (.buildSlice 25 0 #[]), none⟩,
   ⟨(some 191), (.move (.tmp 20)), none⟩,
   ⟨(some 192), (.call (.mk (.builtin .append) #[(.tmp 190), (.tmp 191)] #[25, 25])), none⟩,
   ⟨(some 27), (.assign (.tmp 192)), none⟩])
 (.seq (.reg [⟨(some 193), (.buildSlice 25 0 #[]), none⟩,
   ⟨(some 194), (.move (.tmp 20)), none⟩,
   ⟨(some 195), (.call (.mk (.builtin .append) #[(.tmp 193), (.tmp 194)] #[25, 25])), none⟩,
   ⟨(some 28), (.assign (.tmp 195)), none⟩])
 (.seq (.seq (.reg [⟨(some 29), (.assign (.const (.int .i64 0))), none⟩])
 (.block 2 (.loop (.seq (.seq (.reg [⟨(some 196), (.move (.tmp 29)), none⟩,
   ⟨(some 197), (.move (.tmp 20)), none⟩,
   ⟨(some 198), (.call (.mk (.builtin .len) #[(.tmp 197)] #[25])), none⟩,
   ⟨(some 199), (.binOp .lss 3 (.tmp 196) (.tmp 198) 3), none⟩])
 (.cond (.tmp 199) .skip (.exit 2)))
 (.seq (.block 3 (.seq (.reg [⟨(some 202), (.move (.tmp 20)), none⟩,
   ⟨(some 203), (.move (.tmp 29)), none⟩,
   ⟨(some 204), (.indexAddr 25 (.tmp 202) (.tmp 203)), none⟩,
   ⟨(some 205), (.fieldAddr 40 (.tmp 204) 0), none⟩,
   ⟨(some 206), (.load 3 (.tmp 205)), none⟩,
   ⟨(some 207), (.move (.tmp 22)), none⟩,
   ⟨(some 208), (.binOp .eql 3 (.tmp 206) (.tmp 207) 3), none⟩])
 (.cond (.tmp 208) (.seq (.reg [⟨(some 209), (.move (.tmp 27)), none⟩,
   ⟨(some 210), (.move (.tmp 29)), none⟩,
   ⟨(some 211), (.move (.tmp 23)), none⟩,
   ⟨(some 212), (.indexAddr 25 (.tmp 209) (.tmp 210)), none⟩,
   ⟨(some 213), (.fieldAddr 40 (.tmp 212) 1), none⟩,
   ⟨none, (.store 3 (.tmp 213) (.tmp 211)), none⟩])
 (.reg [⟨(some 214), (.move (.tmp 28)), none⟩,
   ⟨(some 215), (.move (.tmp 29)), none⟩,
   ⟨(some 216), (.move (.tmp 23)), none⟩,
   ⟨(some 217), (.binOp .sub 3 (.tmp 216) (.const (.int .i64 1)) 3), none⟩,
   ⟨(some 218), (.indexAddr 25 (.tmp 214) (.tmp 215)), none⟩,
   ⟨(some 219), (.fieldAddr 40 (.tmp 218) 1), none⟩,
   ⟨none, (.store 3 (.tmp 219) (.tmp 217)), none⟩])) .skip)))
 (.reg [⟨(some 200), (.move (.tmp 29)), none⟩,
   ⟨(some 201), (.binOp .add 3 (.tmp 200) (.const (.int .i64 1)) 3), none⟩,
   ⟨(some 29), (.assign (.tmp 201)), none⟩]))))))
 (.seq (.reg [⟨(some 221), (.move (.tmp 19)), none⟩,
   ⟨(some 222), (.move (.tmp 27)), none⟩,
   ⟨(some 223), (.move (.tmp 21)), none⟩,
   ⟨(some 224), (.call (.mk (.value (.func 8)) #[(.tmp 221), (.tmp 222), (.tmp 223)] #[24, 25, 3])), none⟩,
   ⟨(some 220), (.move (.tmp 224)), none⟩,
   ⟨(some 225), (.extract (.tmp 220) 0), none⟩,
   ⟨(some 226), (.extract (.tmp 220) 1), none⟩,
   ⟨(some 227), (.extract (.tmp 220) 2), none⟩,
   ⟨(some 30), (.assign (.tmp 225)), none⟩,
   ⟨(some 31), (.assign (.tmp 226)), none⟩,
   ⟨(some 32), (.assign (.tmp 227)), none⟩])
 (.seq (.seq (.reg [⟨(some 228), (.move (.tmp 32)), none⟩,
   ⟨(some 229), (.unOp .not 4 (.tmp 228)), none⟩,
   ⟨(some 230), (.move (.tmp 229)), none⟩,
   ⟨(some 231), (.move (.tmp 30)), (some (230, false))⟩,
   ⟨(some 232), (.move (.tmp 22)), (some (230, false))⟩,
   ⟨(some 233), (.binOp .neq 3 (.tmp 231) (.tmp 232) 3), (some (230, false))⟩,
   ⟨(some 234), (.pick (.tmp 230) (.const (.bool true)) (.tmp 233)), none⟩])
 (.cond (.tmp 234) (.seq (.reg [⟨(some 2), (.assign (.const (.bool false))), none⟩])
 .ret) .skip))
 (.seq (.reg [⟨(some 235), (.move (.tmp 23)), none⟩,
   ⟨(some 236), (.binOp .gtr 3 (.tmp 235) (.const (.int .i64 0)) 3), none⟩])
 (.cond (.tmp 236) (.seq (.reg [⟨(some 238), (.move (.tmp 19)), none⟩,
   ⟨(some 239), (.move (.tmp 28)), none⟩,
   ⟨(some 240), (.move (.tmp 21)), none⟩,
   ⟨(some 241), (.call (.mk (.value (.func 8)) #[(.tmp 238), (.tmp 239), (.tmp 240)] #[24, 25, 3])), none⟩,
   ⟨(some 237), (.move (.tmp 241)), none⟩,
   ⟨(some 242), (.extract (.tmp 237) 0), none⟩,
   ⟨(some 243), (.extract (.tmp 237) 1), none⟩,
   ⟨(some 244), (.extract (.tmp 237) 2), none⟩,
   ⟨(some 33), (.assign (.tmp 242)), none⟩,
   ⟨(some 34), (.assign (.tmp 243)), none⟩,
   ⟨(some 35), (.assign (.tmp 244)), none⟩])
 (.seq (.reg [⟨(some 245), (.move (.tmp 35)), none⟩,
   ⟨(some 246), (.move (.tmp 245)), none⟩,
   ⟨(some 247), (.move (.tmp 33)), (some (246, true))⟩,
   ⟨(some 248), (.move (.tmp 22)), (some (246, true))⟩,
   ⟨(some 249), (.binOp .eql 3 (.tmp 247) (.tmp 248) 3), (some (246, true))⟩,
   ⟨(some 250), (.pick (.tmp 246) (.tmp 249) (.const (.bool false))), none⟩])
 (.cond (.tmp 250) (.seq (.reg [⟨(some 2), (.assign (.const (.bool false))), none⟩])
 .ret) .skip))) .skip))))))) .skip))
 (.seq (.reg [⟨(some 251), (.move (.tmp 0)), none⟩,
   ⟨(some 252), (.call (.mk (.value (.func 17)) #[(.tmp 251)] #[22])), none⟩,
   ⟨(some 36), (.assign (.tmp 252)), none⟩])
 (.seq (.reg [⟨(some 254), (.move (.tmp 36)), none⟩,
   ⟨(some 255), (.call (.mk (.value (.func 18)) #[(.tmp 254)] #[24])), none⟩,
   ⟨(some 253), (.move (.tmp 255)), none⟩,
   ⟨(some 256), (.extract (.tmp 253) 0), none⟩,
   ⟨(some 257), (.extract (.tmp 253) 1), none⟩,
   ⟨(some 37), (.assign (.tmp 256)), none⟩,
   ⟨(some 38), (.assign (.tmp 257)), none⟩])
 (.seq (.seq (.reg [⟨(some 259), (.move (.tmp 36)), none⟩,
   ⟨(some 260), (.call (.mk (.value (.func 19)) #[(.tmp 259)] #[24])), none⟩,
   ⟨(some 258), (.move (.tmp 260)), none⟩,
   ⟨(some 261), (.extract (.tmp 258) 0), none⟩,
   ⟨(some 262), (.extract (.tmp 258) 1), none⟩,
   ⟨(some 39), (.assign (.tmp 261)), none⟩,
   ⟨(some 40), (.assign (.tmp 262)), none⟩])
 (.seq (.reg [⟨(some 263), (.move (.tmp 38)), none⟩,
   ⟨(some 264), (.move (.tmp 40)), none⟩,
   ⟨(some 265), (.binOp .neq 4 (.tmp 263) (.tmp 264) 4), none⟩,
   ⟨(some 266), (.move (.tmp 265)), none⟩,
   ⟨(some 267), (.move (.tmp 37)), (some (266, false))⟩,
   ⟨(some 268), (.move (.tmp 39)), (some (266, false))⟩,
   ⟨(some 269), (.call (.mk (.value (.func 20)) #[(.tmp 267), (.tmp 268)] #[24, 24])), (some (266, false))⟩,
   ⟨(some 270), (.unOp .not 4 (.tmp 269)), (some (266, false))⟩,
   ⟨(some 271), (.pick (.tmp 266) (.const (.bool true)) (.tmp 270)), none⟩])
 (.cond (.tmp 271) (.seq (.reg [⟨(some 2), (.assign (.const (.bool false))), none⟩])
 .ret) .skip)))
 (.seq (.reg [⟨(some 273), (.move (.tmp 36)), none⟩,
   ⟨(some 274), (.call (.mk (.value (.func 21)) #[(.tmp 273)] #[24])), none⟩,
   ⟨(some 272), (.move (.tmp 274)), none⟩,
   ⟨(some 275), (.extract (.tmp 272) 0), none⟩,
   ⟨(some 276), (.extract (.tmp 272) 1), none⟩,
   ⟨(some 41), (.assign (.tmp 275)), none⟩,
   ⟨(some 42), (.assign (.tmp 276)), none⟩])
 (.seq (.reg [⟨(some 278), (.move (.tmp 36)), none⟩,
   ⟨(some 279), (.call (.mk (.value (.func 22)) #[(.tmp 278)] #[24])), none⟩,
   ⟨(some 277), (.move (.tmp 279)), none⟩,
   ⟨(some 280), (.extract (.tmp 277) 0), none⟩,
   ⟨(some 281), (.extract (.tmp 277) 1), none⟩,
   ⟨(some 43), (.assign (.tmp 280)), none⟩,
   ⟨(some 44), (.assign (.tmp 281)), none⟩])
 (.seq (.reg [⟨(some 282), (.move (.tmp 41)), none⟩,
   ⟨(some 283), (.move (.tmp 43)), none⟩,
   ⟨(some 284), (.binOp .eql 9 (.tmp 282) (.tmp 283) 9), none⟩,
   ⟨(some 285), (.move (.tmp 284)), none⟩,
   ⟨(some 286), (.move (.tmp 42)), (some (285, true))⟩,
   ⟨(some 287), (.move (.tmp 44)), (some (285, true))⟩,
   ⟨(some 288), (.binOp .eql 4 (.tmp 286) (.tmp 287) 4), (some (285, true))⟩,
   ⟨(some 289), (.pick (.tmp 285) (.tmp 288) (.const (.bool false))), none⟩,
   ⟨(some 290), (.move (.tmp 289)), none⟩,
   ⟨(some 291), (.move (.tmp 20)), (some (290, true))⟩,
   ⟨(some 292), (.call (.mk (.value (.func 23)) #[(.tmp 291)] #[25])), (some (290, true))⟩,
   ⟨(some 293), (.move (.tmp 20)), (some (290, true))⟩,
   ⟨(some 294), (.call (.mk (.value (.func 24)) #[(.tmp 293)] #[25])), (some (290, true))⟩,
   ⟨(some 295), (.binOp .eql 4 (.tmp 292) (.tmp 294) 4), (some (290, true))⟩,
   ⟨(some 296), (.pick (.tmp 290) (.tmp 295) (.const (.bool false))), none⟩,
   ⟨(some 2), (.assign (.tmp 296)), none⟩])
 .ret))))))))))))))))))))
theorem x_laws_FnRoom : Txt Tryd.prog 3 c_laws_FnRoom [.tmp 2] 1 := ⟨by kernel_rfl, by kernel_rfl, _, _, Tryd.func3, rfl, by kernel_rfl, by kernel_rfl, by kernel_rfl, rfl, by decide⟩
/-- loop.example/g01062/laws.rBig -/
def c_laws_rBig : Cd :=
 (.seq (.reg [⟨(some 2), (.assign (.const (.bool false))), none⟩])
 (.seq (.reg [⟨(some 3), (.move (.tmp 0)), none⟩,
   ⟨(some 4), (.call (.mk (.builtin .len) #[(.tmp 3)] #[22])), none⟩,
   ⟨(some 5), (.binOp .gtr 3 (.tmp 4) (.const (.int .i64 65536)) 3), none⟩,
   ⟨(some 2), (.assign (.tmp 5)), none⟩])
 .ret))
theorem x_laws_rBig : Txt Tryd.prog 6 c_laws_rBig [.tmp 2] 1 := ⟨by kernel_rfl, by kernel_rfl, _, _, Tryd.func6, rfl, by kernel_rfl, by kernel_rfl, by kernel_rfl, rfl, by decide⟩
/-- loop.example/g01062/spec.DrawRoomWinner -/
def c_spec_DrawRoomWinner : Cd :=
 (.seq (.reg [⟨(some 2), (.assign (.const (.slice none 0 0))), none⟩,
   ⟨(some 3), (.assign (.const (.slice none 0 0))), none⟩,
   ⟨(some 4), (.assign (.const (.int .i64 0))), none⟩])
 (.seq (.reg [⟨(some 7), (.move (.tmp 0)), none⟩,
   ⟨(some 8), (.build 83 #[(0, (.tmp 7))]), none⟩,
   ⟨(some 9), (.box 83 (.tmp 8)), none⟩,
   ⟨(some 5), (.assign (.tmp 9)), none⟩])
 (.seq (.reg [⟨(some 10), (.move (.tmp 5)), none⟩,
   ⟨(some 11), (.call (.mk (.value (.func 62)) #[(.tmp 10)] #[80])), none⟩,
   ⟨(some 6), (.assign (.tmp 11)), none⟩])
 (.seq (.reg [⟨(some 12), (.move (.tmp 6)), none⟩,
   ⟨(some 13), (.move (.tmp 5)), none⟩,
   ⟨(some 14), (.call (.mk (.value (.func 63)) #[(.tmp 13)] #[80])), none⟩,
   ⟨(some 15), (.move (.tmp 5)), none⟩,
   ⟨(some 16), (.buildSlice 30 9 #[(0, (.const (.int .i64 0))), (1, (.const (.int .i64 0))), (2, (.const (.int .i64 100))), (3, (.const (.int .i64 500))), (4, (.const (.int .i64 1000))), (5, (.const (.int .i64 7000))), (6, (.const (.int .i64 20000))), (7, (.const (.int .i64 (-1)))), (8, (.const (.int .i64 20001)))]), none⟩,
   ⟨(some 17), (.move (.tmp 5)), none⟩,
   ⟨(some 18), (.call (.mk (.value (.func 65)) #[(.tmp 17), (.const (.int .i64 24))] #[80, 3])), none⟩,
   ⟨(some 19), (.binOp .quo 3 (.tmp 18) (.const (.int .i64 11)) 3), none⟩,
   ⟨(some 20), (.binOp .add 3 (.const (.int .i64 7)) (.tmp 19) 3), none⟩,
   ⟨(some 21), (.slice 30 (.tmp 16) none (some (.tmp 20)) none), none⟩,
   ⟨(some 22), (.call (.mk (.value (.func 64)) #[(.tmp 15), (.tmp 21)] #[80, 30])), none⟩,
   ⟨(some 2), (.assign (.tmp 12)), none⟩,
   ⟨(some 3), (.assign (.tmp 14)), none⟩,
   ⟨(some 4), (.assign (.tmp 22)), none⟩])
 .ret))))
theorem x_spec_DrawRoomWinner : Txt Tryd.prog 7 c_spec_DrawRoomWinner [.tmp 2, .tmp 3, .tmp 4] 1 := ⟨by kernel_rfl, by kernel_rfl, _, _, Tryd.func7, rfl, by kernel_rfl, by kernel_rfl, by kernel_rfl, rfl, by decide⟩
/-- loop.example/g01062/impl.RoomWinner -/
def c_impl_RoomWinner : Cd :=
 (.seq (.reg [⟨(some 6), (.assign (.const (.int .i64 0))), none⟩,
   ⟨(some 7), (.assign (.const (.int .i64 0))), none⟩,
   ⟨(some 8), (.assign (.const (.bool false))), none⟩])
 (.seq (.seq (.reg [⟨(some 11), (.move (.tmp 0)), none⟩,
   ⟨(some 12), (.call (.mk (.value (.func 66)) #[(.tmp 11)] #[24])), none⟩,
   ⟨(some 13), (.unOp .not 4 (.tmp 12)), none⟩,
   ⟨(some 14), (.move (.tmp 13)), none⟩,
   ⟨(some 15), (.move (.tmp 1)), (some (14, false))⟩,
   ⟨(some 16), (.call (.mk (.value (.func 67)) #[(.tmp 15)] #[25])), (some (14, false))⟩,
   ⟨(some 17), (.unOp .not 4 (.tmp 16)), (some (14, false))⟩,
   ⟨(some 18), (.pick (.tmp 14) (.const (.bool true)) (.tmp 17)), none⟩,
   ⟨(some 19), (.move (.tmp 18)), none⟩,
   ⟨(some 20), (.move (.tmp 2)), (some (19, false))⟩,
   ⟨(some 21), (.call (.mk (.value (.func 68)) #[(.tmp 20)] #[3])), (some (19, false))⟩,
   ⟨(some 22), (.unOp .not 4 (.tmp 21)), (some (19, false))⟩,
   ⟨(some 23), (.pick (.tmp 19) (.const (.bool true)) (.tmp 22)), none⟩])
 (.cond (.tmp 23) (.seq (.reg [⟨(some 6), (.assign (.const (.int .i64 0))), none⟩,
   ⟨(some 7), (.assign (.const (.int .i64 0))), none⟩,
   ⟨(some 8), (.assign (.const (.bool false))), none⟩])
 .ret) .skip))
 (.seq (.reg [⟨(some 25), (.move (.tmp 0)), none⟩,
   ⟨(some 26), (.move (.tmp 1)), none⟩,
   ⟨(some 27), (.move (.tmp 2)), none⟩,
   ⟨(some 28), (.call (.mk (.value (.func 69)) #[(.tmp 25), (.tmp 26), (.tmp 27)] #[24, 25, 3])), none⟩,
   ⟨(some 24), (.move (.tmp 28)), none⟩,
   ⟨(some 29), (.extract (.tmp 24) 0), none⟩,
   ⟨(some 30), (.extract (.tmp 24) 1), none⟩,
   ⟨(some 9), (.assign (.tmp 29)), none⟩,
   ⟨(some 10), (.assign (.tmp 30)), none⟩])
 (.seq (.seq (.reg [⟨(some 31), (.move (.tmp 9)), none⟩,
   ⟨(some 32), (.call (.mk (.builtin .len) #[(.tmp 31)] #[30])), none⟩,
   ⟨(some 33), (.binOp .eql 3 (.tmp 32) (.const (.int .i64 0)) 3), none⟩])
 (.cond (.tmp 33) (.seq (.reg [⟨(some 6), (.assign (.const (.int .i64 0))), none⟩,
   ⟨(some 7), (.assign (.const (.int .i64 0))), none⟩,
   ⟨(some 8), (.assign (.const (.bool false))), none⟩])
 .ret) .skip))
 (.seq (.reg [⟨(some 34), (.move (.tmp 9)), none⟩,
   ⟨(some 35), (.move (.tmp 9)), none⟩,
   ⟨(some 36), (.call (.mk (.builtin .len) #[(.tmp 35)] #[30])), none⟩,
   ⟨(some 37), (.binOp .sub 3 (.tmp 36) (.const (.int .i64 1)) 3), none⟩,
   ⟨(some 38), (.indexAddr 30 (.tmp 34) (.tmp 37)), none⟩,
   ⟨(some 39), (.load 3 (.tmp 38)), none⟩,
   ⟨(some 40), (.move (.tmp 10)), none⟩,
   ⟨(some 6), (.assign (.tmp 39)), none⟩,
   ⟨(some 7), (.assign (.tmp 40)), none⟩,
   ⟨(some 8), (.assign (.const (.bool true))), none⟩])
 .ret)))))
theorem x_impl_RoomWinner : Txt Tryd.prog 8 c_impl_RoomWinner [.tmp 6, .tmp 7, .tmp 8] 3 := ⟨by kernel_rfl, by kernel_rfl, _, _, Tryd.func8, rfl, by kernel_rfl, by kernel_rfl, by kernel_rfl, rfl, by decide⟩
/-- loop.example/g01062/spec.RoomWinner -/
def c_spec_RoomWinner : Cd :=
 (.seq (.reg [⟨(some 6), (.assign (.const (.int .i64 0))), none⟩,
   ⟨(some 7), (.assign (.const (.int .i64 0))), none⟩,
   ⟨(some 8), (.assign (.const (.bool false))), none⟩])
 (.seq (.seq (.reg [⟨(some 11), (.move (.tmp 0)), none⟩,
   ⟨(some 12), (.move (.tmp 1)), none⟩,
   ⟨(some 13), (.move (.tmp 2)), none⟩,
   ⟨(some 14), (.call (.mk (.value (.func 70)) #[(.tmp 11), (.tmp 12), (.tmp 13)] #[24, 25, 3])), none⟩,
   ⟨(some 15), (.unOp .not 4 (.tmp 14)), none⟩])
 (.cond (.tmp 15) (.seq (.reg [⟨(some 6), (.assign (.const (.int .i64 0))), none⟩,
   ⟨(some 7), (.assign (.const (.int .i64 0))), none⟩,
   ⟨(some 8), (.assign (.const (.bool false))), none⟩])
 .ret) .skip))
 (.seq (.reg [⟨(some 17), (.move (.tmp 0)), none⟩,
   ⟨(some 18), (.move (.tmp 1)), none⟩,
   ⟨(some 19), (.move (.tmp 2)), none⟩,
   ⟨(some 20), (.call (.mk (.value (.func 71)) #[(.tmp 17), (.tmp 18), (.tmp 19)] #[24, 25, 3])), none⟩,
   ⟨(some 16), (.move (.tmp 20)), none⟩,
   ⟨(some 21), (.extract (.tmp 16) 0), none⟩,
   ⟨(some 22), (.extract (.tmp 16) 1), none⟩,
   ⟨(some 9), (.assign (.tmp 21)), none⟩,
   ⟨(some 10), (.assign (.tmp 22)), none⟩])
 (.seq (.seq (.reg [⟨(some 23), (.move (.tmp 9)), none⟩,
   ⟨(some 24), (.call (.mk (.builtin .len) #[(.tmp 23)] #[30])), none⟩,
   ⟨(some 25), (.binOp .eql 3 (.tmp 24) (.const (.int .i64 0)) 3), none⟩])
 (.cond (.tmp 25) (.seq (.reg [⟨(some 6), (.assign (.const (.int .i64 0))), none⟩,
   ⟨(some 7), (.assign (.const (.int .i64 0))), none⟩,
   ⟨(some 8), (.assign (.const (.bool false))), none⟩])
 .ret) .skip))
 (.seq (.reg [⟨(some 26), (.move (.tmp 9)), none⟩,
   ⟨(some 27), (.move (.tmp 9)), none⟩,
   ⟨(some 28), (.call (.mk (.builtin .len) #[(.tmp 27)] #[30])), none⟩,
   ⟨(some 29), (.binOp .sub 3 (.tmp 28) (.const (.int .i64 1)) 3), none⟩,
   ⟨(some 30), (.indexAddr 30 (.tmp 26) (.tmp 29)), none⟩,
   ⟨(some 31), (.load 3 (.tmp 30)), none⟩,
   ⟨(some 32), (.move (.tmp 10)), none⟩,
   ⟨(some 6), (.assign (.tmp 31)), none⟩,
   ⟨(some 7), (.assign (.tmp 32)), none⟩,
   ⟨(some 8), (.assign (.const (.bool true))), none⟩])
 .ret)))))
theorem x_spec_RoomWinner : Txt Tryd.prog 9 c_spec_RoomWinner [.tmp 6, .tmp 7, .tmp 8] 3 := ⟨by kernel_rfl, by kernel_rfl, _, _, Tryd.func9, rfl, by kernel_rfl, by kernel_rfl, by kernel_rfl, rfl, by decide⟩
/-- loop.example/g01062/impl.RoomBids -/
def c_impl_RoomBids : Cd :=
 (.seq (.reg [⟨(some 6), (.assign (.const (.slice none 0 0))), none⟩,
   ⟨(some 7), (.assign (.const (.bool false))), none⟩])
 (.seq (.seq (.reg [⟨(some 10), (.move (.tmp 0)), none⟩,
   ⟨(some 11), (.call (.mk (.value (.func 66)) #[(.tmp 10)] #[24])), none⟩,
   ⟨(some 12), (.unOp .not 4 (.tmp 11)), none⟩,
   ⟨(some 13), (.move (.tmp 12)), none⟩,
   ⟨(some 14), (.move (.tmp 1)), (some (13, false))⟩,
   ⟨(some 15), (.call (.mk (.value (.func 67)) #[(.tmp 14)] #[25])), (some (13, false))⟩,
   ⟨(some 16), (.unOp .not 4 (.tmp 15)), (some (13, false))⟩,
   ⟨(some 17), (.pick (.tmp 13) (.const (.bool true)) (.tmp 16)), none⟩,
   ⟨(some 18), (.move (.tmp 17)), none⟩,
   ⟨(some 19), (.move (.tmp 2)), (some (18, false))⟩,
   ⟨(some 20), (.call (.mk (.value (.func 68)) #[(.tmp 19)] #[3])), (some (18, false))⟩,
   ⟨(some 21), (.unOp .not 4 (.tmp 20)), (some (18, false))⟩,
   ⟨(some 22), (.pick (.tmp 18) (.const (.bool true)) (.tmp 21)), none⟩])
 (.cond (.tmp 22) (.seq (.reg [⟨(some 6), (.assign (.const (.slice none 0 0))), none⟩,
   ⟨(some 7), (.assign (.const (.bool false))), none⟩])
 .ret) .skip))
 (.seq (.reg [⟨(some 24), (.move (.tmp 0)), none⟩,
   ⟨(some 25), (.move (.tmp 1)), none⟩,
   ⟨(some 26), (.move (.tmp 2)), none⟩,
   ⟨(some 27), (.call (.mk (.value (.func 69)) #[(.tmp 24), (.tmp 25), (.tmp 26)] #[24, 25, 3])), none⟩,
   ⟨(some 23), (.move (.tmp 27)), none⟩,
   ⟨(some 28), (.extract (.tmp 23) 0), none⟩,
   ⟨(some 29), (.extract (.tmp 23) 1), none⟩,
   ⟨(some 8), (.assign (.tmp 28)), none⟩,
   ⟨(some 9), (.assign (.tmp 29)), none⟩])
 (.seq (.reg [⟨(some 30), (.move (.tmp 8)), none⟩,
   ⟨(some 6), (.assign (.tmp 30)), none⟩,
   ⟨(some 7), (.assign (.const (.bool true))), none⟩])
 .ret))))
theorem x_impl_RoomBids : Txt Tryd.prog 10 c_impl_RoomBids [.tmp 6, .tmp 7] 3 := ⟨by kernel_rfl, by kernel_rfl, _, _, Tryd.func10, rfl, by kernel_rfl, by kernel_rfl, by kernel_rfl, rfl, by decide⟩
/-- loop.example/g01062/spec.RoomBids -/
def c_spec_RoomBids : Cd :=
 (.seq (.reg [⟨(some 6), (.assign (.const (.slice none 0 0))), none⟩,
   ⟨(some 7), (.assign (.const (.bool false))), none⟩])
 (.seq (.seq (.reg [⟨(some 10), (.move (.tmp 0)), none⟩,
   ⟨(some 11), (.move (.tmp 1)), none⟩,
   ⟨(some 12), (.move (.tmp 2)), none⟩,
   ⟨(some 13), (.call (.mk (.value (.func 70)) #[(.tmp 10), (.tmp 11), (.tmp 12)] #[24, 25, 3])), none⟩,
   ⟨(some 14), (.unOp .not 4 (.tmp 13)), none⟩])
 (.cond (.tmp 14) (.seq (.reg [⟨(some 15), (.buildSlice 30 0 #[]), none⟩,
   ⟨(some 6), (.assign (.tmp 15)), none⟩,
   ⟨(some 7), (.assign (.const (.bool false))), none⟩])
 .ret) .skip))
 (.seq (.reg [⟨(some 17), (.move (.tmp 0)), none⟩,
   ⟨(some 18), (.move (.tmp 1)), none⟩,
   ⟨(some 19), (.move (.tmp 2)), none⟩,
   ⟨(some 20), (.call (.mk (.value (.func 71)) #[(.tmp 17), (.tmp 18), (.tmp 19)] #[24, 25, 3])), none⟩,
   ⟨(some 16), (.move (.tmp 20)), none⟩,
   ⟨(some 21), (.extract (.tmp 16) 0), none⟩,
   ⟨(some 22), (.extract (.tmp 16) 1), none⟩,
   ⟨(some 8), (.assign (.tmp 21)), none⟩,
   ⟨(some 9), (.assign (.tmp 22)), none⟩])
 (.seq (.reg [⟨(some 23), (.move (.tmp 8)), none⟩,
   ⟨(some 6), (.assign (.tmp 23)), none⟩,
   ⟨(some 7), (.assign (.const (.bool true))), none⟩])
 .ret))))
theorem x_spec_RoomBids : Txt Tryd.prog 11 c_spec_RoomBids [.tmp 6, .tmp 7] 3 := ⟨by kernel_rfl, by kernel_rfl, _, _, Tryd.func11, rfl, by kernel_rfl, by kernel_rfl, by kernel_rfl, rfl, by decide⟩
/-- loop.example/g01062/laws.rInts -/
def c_laws_rInts : Cd :=
 (.seq (.reg [⟨(some 4), (.assign (.const (.bool false))), none⟩])
 (.seq (.seq (.reg [⟨(some 6), (.move (.tmp 0)), none⟩,
   ⟨(some 7), (.call (.mk (.builtin .len) #[(.tmp 6)] #[30])), none⟩,
   ⟨(some 8), (.move (.tmp 1)), none⟩,
   ⟨(some 9), (.call (.mk (.builtin .len) #[(.tmp 8)] #[30])), none⟩,
   ⟨(some 10), (.binOp .neq 3 (.tmp 7) (.tmp 9) 3), none⟩])
 (.cond (.tmp 10) (.seq (.reg [⟨(some 4), (.assign (.const (.bool false))), none⟩])
 .ret) .skip))
 (.seq (.seq (.reg [⟨(some 5), (.assign (.const (.int .i64 0))), none⟩])
 (.block 0 (.loop (.seq (.seq (.reg [⟨(some 11), (.move (.tmp 5)), none⟩,
   ⟨(some 12), (.move (.tmp 0)), none⟩,
   ⟨(some 13), (.call (.mk (.builtin .len) #[(.tmp 12)] #[30])), none⟩,
   ⟨(some 14), (.binOp .lss 3 (.tmp 11) (.tmp 13) 3), none⟩])
 (.cond (.tmp 14) .skip (.exit 0)))
 (.seq (.block 1 (.seq (.regq [⟨(some 17), (.move (.tmp 0)), none⟩,
   ⟨(some 18), (.move (.tmp 5)), none⟩,
   ⟨(some 19), (.indexAddr 30 (.tmp 17) (.tmp 18)), none⟩,
   ⟨(some 20), (.load 3 (.tmp 19)), none⟩,
   ⟨(some 21), (.move (.tmp 1)), none⟩,
   ⟨(some 22), (.move (.tmp 5)), none⟩,
   ⟨(some 23), (.indexAddr 30 (.tmp 21) (.tmp 22)), none⟩,
   ⟨(some 24), (.load 3 (.tmp 23)), none⟩,
   ⟨(some 25), (.binOp .neq 3 (.tmp 20) (.tmp 24) 3), none⟩])
 (.cond (.tmp 25) (.seq (.reg [⟨(some 4), (.assign (.const (.bool false))), none⟩])
 .ret) .skip)))
 (.reg [⟨(some 15), (.move (.tmp 5)), none⟩,
   ⟨(some 16), (.binOp .add 3 (.tmp 15) (.const (.int .i64 1)) 3), none⟩,
   ⟨(some 5), (.assign (.tmp 16)), none⟩]))))))
 (.seq (.reg [⟨(some 4), (.assign (.const (.bool true))), none⟩])
 .ret))))
theorem x_laws_rInts : Txt Tryd.prog 12 c_laws_rInts [.tmp 4] 2 := ⟨by kernel_rfl, by kernel_rfl, _, _, Tryd.func12, rfl, by kernel_rfl, by kernel_rfl, by kernel_rfl, rfl, by decide⟩
/-- loop.example/g01062/impl.CountBids -/
def c_impl_CountBids : Cd :=
 (.seq (.reg [⟨(some 6), (.assign (.const (.int .i64 0))), none⟩,
   ⟨(some 7), (.assign (.const (.bool false))), none⟩])
 (.seq (.seq (.reg [⟨(some 10), (.move (.tmp 0)), none⟩,
   ⟨(some 11), (.call (.mk (.value (.func 66)) #[(.tmp 10)] #[24])), none⟩,
   ⟨(some 12), (.unOp .not 4 (.tmp 11)), none⟩,
   ⟨(some 13), (.move (.tmp 12)), none⟩,
   ⟨(some 14), (.move (.tmp 1)), (some (13, false))⟩,
   ⟨(some 15), (.call (.mk (.value (.func 68)) #[(.tmp 14)] #[3])), (some (13, false))⟩,
   ⟨(some 16), (.unOp .not 4 (.tmp 15)), (some (13, false))⟩,
   ⟨(some 17), (.pick (.tmp 13) (.const (.bool true)) (.tmp 16)), none⟩,
   ⟨(some 18), (.move (.tmp 17)), none⟩,
   ⟨(some 19), (.move (.tmp 2)), (some (18, false))⟩,
   ⟨(some 20), (.call (.mk (.value (.func 68)) #[(.tmp 19)] #[3])), (some (18, false))⟩,
   ⟨(some 21), (.unOp .not 4 (.tmp 20)), (some (18, false))⟩,
   ⟨(some 22), (.pick (.tmp 18) (.const (.bool true)) (.tmp 21)), none⟩])
 (.cond (.tmp 22) (.seq (.reg [⟨(some 6), (.assign (.const (.int .i64 0))), none⟩,
   ⟨(some 7), (.assign (.const (.bool false))), none⟩])
 .ret) .skip))
 (.seq (.reg [⟨(some 8), (.assign (.const (.int .i64 0))), none⟩])
 (.seq (.seq (.reg [⟨(some 23), (.move (.tmp 1)), none⟩,
   ⟨(some 9), (.assign (.tmp 23)), none⟩])
 (.block 0 (.loop (.seq (.seq (.reg [⟨(some 24), (.move (.tmp 9)), none⟩,
   ⟨(some 25), (.move (.tmp 2)), none⟩,
   ⟨(some 26), (.binOp .leq 3 (.tmp 24) (.tmp 25) 3), none⟩])
 (.cond (.tmp 26) .skip (.exit 0)))
 (.seq (.block 1 (.reg [⟨(some 30), (.move (.tmp 8)), none⟩,
   ⟨(some 31), (.binOp .add 3 (.tmp 30) (.const (.int .i64 1)) 3), none⟩,
   ⟨(some 8), (.assign (.tmp 31)), none⟩]))
 (.reg [⟨(some 27), (.move (.tmp 0)), none⟩,
   ⟨(some 28), (.move (.tmp 9)), none⟩,
   ⟨(some 29), (.call (.mk (.value (.func 72)) #[(.tmp 27), (.tmp 28)] #[24, 3])), none⟩,
   ⟨(some 9), (.assign (.tmp 29)), none⟩]))))))
 (.seq (.reg [⟨(some 32), (.move (.tmp 8)), none⟩,
   ⟨(some 6), (.assign (.tmp 32)), none⟩,
   ⟨(some 7), (.assign (.const (.bool true))), none⟩])
 .ret)))))
theorem x_impl_CountBids : Txt Tryd.prog 13 c_impl_CountBids [.tmp 6, .tmp 7] 3 := ⟨by kernel_rfl, by kernel_rfl, _, _, Tryd.func13, rfl, by kernel_rfl, by kernel_rfl, by kernel_rfl, rfl, by decide⟩
/-- loop.example/g01062/spec.DrawCouldWin -/
def c_spec_DrawCouldWin : Cd :=
 (.seq (.reg [⟨(some 2), (.assign (.const (.slice none 0 0))), none⟩,
   ⟨(some 3), (.assign (.const (.slice none 0 0))), none⟩,
   ⟨(some 4), (.assign (.const (.int .i64 0))), none⟩,
   ⟨(some 5), (.assign (.const (.int .i64 0))), none⟩])
 (.seq (.reg [⟨(some 11), (.move (.tmp 0)), none⟩,
   ⟨(some 12), (.build 83 #[(0, (.tmp 11))]), none⟩,
   ⟨(some 13), (.box 83 (.tmp 12)), none⟩,
   ⟨(some 6), (.assign (.tmp 13)), none⟩])
 (.seq (.reg [⟨(some 14), (.move (.tmp 6)), none⟩,
   ⟨(some 15), (.call (.mk (.value (.func 62)) #[(.tmp 14)] #[80])), none⟩,
   ⟨(some 7), (.assign (.tmp 15)), none⟩])
 (.seq (.reg [⟨(some 16), (.move (.tmp 6)), none⟩,
   ⟨(some 17), (.call (.mk (.value (.func 63)) #[(.tmp 16)] #[80])), none⟩,
   ⟨(some 8), (.assign (.tmp 17)), none⟩])
 (.seq (.reg [⟨(some 18), (.move (.tmp 6)), none⟩,
   ⟨(some 19), (.buildSlice 30 3 #[(0, (.const (.int .i64 0))), (1, (.const (.int .i64 1))), (2, (.const (.int .i64 50)))]), none⟩,
   ⟨(some 20), (.call (.mk (.value (.func 64)) #[(.tmp 18), (.tmp 19)] #[80, 30])), none⟩,
   ⟨(some 9), (.assign (.tmp 20)), none⟩])
 (.seq (.seq (.reg [⟨(some 21), (.move (.tmp 8)), none⟩,
   ⟨(some 22), (.call (.mk (.builtin .len) #[(.tmp 21)] #[25])), none⟩,
   ⟨(some 10), (.assign (.tmp 22)), none⟩])
 (.seq (.reg [⟨(some 23), (.move (.tmp 10)), none⟩,
   ⟨(some 24), (.binOp .gtr 3 (.tmp 23) (.const (.int .i64 0)) 3), none⟩,
   ⟨(some 25), (.move (.tmp 24)), none⟩,
   ⟨(some 26), (.move (.tmp 6)), (some (25, true))⟩,
   ⟨(some 27), (.call (.mk (.value (.func 73)) #[(.tmp 26), (.const (.int .i64 8))] #[80, 3])), (some (25, true))⟩,
   ⟨(some 28), (.unOp .not 4 (.tmp 27)), (some (25, true))⟩,
   ⟨(some 29), (.pick (.tmp 25) (.tmp 28) (.const (.bool false))), none⟩])
 (.cond (.tmp 29) (.reg [⟨(some 30), (.move (.tmp 8)), none⟩,
   ⟨(some 31), (.move (.tmp 6)), none⟩,
   ⟨(some 32), (.move (.tmp 10)), none⟩,
   ⟨(some 33), (.call (.mk (.value (.func 65)) #[(.tmp 31), (.tmp 32)] #[80, 3])), none⟩,
   ⟨(some 34), (.indexAddr 25 (.tmp 30) (.tmp 33)), none⟩,
   ⟨(some 35), (.fieldAddr 40 (.tmp 34) 0), none⟩,
   ⟨(some 36), (.load 3 (.tmp 35)), none⟩,
   ⟨(some 9), (.assign (.tmp 36)), none⟩]) .skip)))
 (.seq (.reg [⟨(some 37), (.move (.tmp 7)), none⟩,
   ⟨(some 38), (.move (.tmp 8)), none⟩,
   ⟨(some 39), (.move (.tmp 6)), none⟩,
   ⟨(some 40), (.buildSlice 30 7 #[(0, (.const (.int .i64 0))), (1, (.const (.int .i64 100))), (2, (.const (.int .i64 500))), (3, (.const (.int .i64 1000))), (4, (.const (.int .i64 7000))), (5, (.const (.int .i64 (-1)))), (6, (.const (.int .i64 20001)))]), none⟩,
   ⟨(some 41), (.move (.tmp 6)), none⟩,
   ⟨(some 42), (.call (.mk (.value (.func 65)) #[(.tmp 41), (.const (.int .i64 24))] #[80, 3])), none⟩,
   ⟨(some 43), (.binOp .quo 3 (.tmp 42) (.const (.int .i64 11)) 3), none⟩,
   ⟨(some 44), (.binOp .add 3 (.const (.int .i64 5)) (.tmp 43) 3), none⟩,
   ⟨(some 45), (.slice 30 (.tmp 40) none (some (.tmp 44)) none), none⟩,
   ⟨(some 46), (.call (.mk (.value (.func 64)) #[(.tmp 39), (.tmp 45)] #[80, 30])), none⟩,
   ⟨(some 47), (.move (.tmp 9)), none⟩,
   ⟨(some 2), (.assign (.tmp 37)), none⟩,
   ⟨(some 3), (.assign (.tmp 38)), none⟩,
   ⟨(some 4), (.assign (.tmp 46)), none⟩,
   ⟨(some 5), (.assign (.tmp 47)), none⟩])
 .ret)))))))
theorem x_spec_DrawCouldWin : Txt Tryd.prog 14 c_spec_DrawCouldWin [.tmp 2, .tmp 3, .tmp 4, .tmp 5] 1 := ⟨by kernel_rfl, by kernel_rfl, _, _, Tryd.func14, rfl, by kernel_rfl, by kernel_rfl, by kernel_rfl, rfl, by decide⟩
/-- loop.example/g01062/impl.CouldWin -/
def c_impl_CouldWin : Cd :=
 (.seq (.reg [⟨(some 8), (.assign (.const (.int .i64 0))), none⟩,
   ⟨(some 9), (.assign (.const (.bool false))), none⟩])
 (.seq (.seq (.reg [⟨(some 10), (.move (.tmp 0)), none⟩,
   ⟨(some 11), (.call (.mk (.value (.func 66)) #[(.tmp 10)] #[24])), none⟩,
   ⟨(some 12), (.unOp .not 4 (.tmp 11)), none⟩,
   ⟨(some 13), (.move (.tmp 12)), none⟩,
   ⟨(some 14), (.move (.tmp 1)), (some (13, false))⟩,
   ⟨(some 15), (.call (.mk (.value (.func 67)) #[(.tmp 14)] #[25])), (some (13, false))⟩,
   ⟨(some 16), (.unOp .not 4 (.tmp 15)), (some (13, false))⟩,
   ⟨(some 17), (.pick (.tmp 13) (.const (.bool true)) (.tmp 16)), none⟩,
   ⟨(some 18), (.move (.tmp 17)), none⟩,
   ⟨(some 19), (.move (.tmp 2)), (some (18, false))⟩,
   ⟨(some 20), (.call (.mk (.value (.func 68)) #[(.tmp 19)] #[3])), (some (18, false))⟩,
   ⟨(some 21), (.unOp .not 4 (.tmp 20)), (some (18, false))⟩,
   ⟨(some 22), (.pick (.tmp 18) (.const (.bool true)) (.tmp 21)), none⟩])
 (.cond (.tmp 22) (.seq (.reg [⟨(some 8), (.assign (.const (.int .i64 0))), none⟩,
   ⟨(some 9), (.assign (.const (.bool false))), none⟩])
 .ret) .skip))
 (.seq (.reg [⟨(some 23), (.move (.tmp 0)), none⟩,
   ⟨(some 24), (.move (.tmp 1)), none⟩,
   ⟨(some 25), (.move (.tmp 2)), none⟩,
   ⟨(some 26), (.move (.tmp 3)), none⟩,
   ⟨(some 27), (.call (.mk (.value (.func 74)) #[(.tmp 23), (.tmp 24), (.tmp 25), (.tmp 26)] #[24, 25, 3, 3])), none⟩,
   ⟨(some 28), (.extract (.tmp 27) 0), none⟩,
   ⟨(some 29), (.extract (.tmp 27) 1), none⟩,
   ⟨(some 8), (.assign (.tmp 28)), none⟩,
   ⟨(some 9), (.assign (.tmp 29)), none⟩])
 .ret)))
theorem x_impl_CouldWin : Txt Tryd.prog 15 c_impl_CouldWin [.tmp 8, .tmp 9] 4 := ⟨by kernel_rfl, by kernel_rfl, _, _, Tryd.func15, rfl, by kernel_rfl, by kernel_rfl, by kernel_rfl, rfl, by decide⟩
/-- loop.example/g01062/spec.CouldWin -/
def c_spec_CouldWin : Cd :=
 (.seq (.reg [⟨(some 8), (.assign (.const (.int .i64 0))), none⟩,
   ⟨(some 9), (.assign (.const (.bool false))), none⟩])
 (.seq (.reg [⟨(some 10), (.assign (.const (.int .i64 (-1)))), none⟩])
 (.seq (.seq (.reg [⟨(some 11), (.assign (.const (.int .i64 0))), none⟩])
 (.block 0 (.loop (.seq (.seq (.reg [⟨(some 13), (.move (.tmp 11)), none⟩,
   ⟨(some 14), (.move (.tmp 1)), none⟩,
   ⟨(some 15), (.call (.mk (.builtin .len) #[(.tmp 14)] #[25])), none⟩,
   ⟨(some 16), (.binOp .lss 3 (.tmp 13) (.tmp 15) 3), none⟩])
 (.cond (.tmp 16) .skip (.exit 0)))
 (.seq (.block 1 (.seq (.reg [⟨(some 19), (.move (.tmp 1)), none⟩,
   ⟨(some 20), (.move (.tmp 11)), none⟩,
   ⟨(some 21), (.indexAddr 25 (.tmp 19) (.tmp 20)), none⟩,
   ⟨(some 22), (.fieldAddr 40 (.tmp 21) 0), none⟩,
   ⟨(some 23), (.load 3 (.tmp 22)), none⟩,
   ⟨(some 24), (.move (.tmp 3)), none⟩,
   ⟨(some 25), (.binOp .eql 3 (.tmp 23) (.tmp 24) 3), none⟩])
 (.cond (.tmp 25) (.reg [⟨(some 26), (.move (.tmp 11)), none⟩,
   ⟨(some 10), (.assign (.tmp 26)), none⟩]) .skip)))
 (.reg [⟨(some 17), (.move (.tmp 11)), none⟩,
   ⟨(some 18), (.binOp .add 3 (.tmp 17) (.const (.int .i64 1)) 3), none⟩,
   ⟨(some 11), (.assign (.tmp 18)), none⟩]))))))
 (.seq (.seq (.reg [⟨(some 27), (.move (.tmp 0)), none⟩,
   ⟨(some 28), (.move (.tmp 1)), none⟩,
   ⟨(some 29), (.move (.tmp 2)), none⟩,
   ⟨(some 30), (.call (.mk (.value (.func 70)) #[(.tmp 27), (.tmp 28), (.tmp 29)] #[24, 25, 3])), none⟩,
   ⟨(some 31), (.unOp .not 4 (.tmp 30)), none⟩,
   ⟨(some 32), (.move (.tmp 31)), none⟩,
   ⟨(some 33), (.move (.tmp 10)), (some (32, false))⟩,
   ⟨(some 34), (.binOp .lss 3 (.tmp 33) (.const (.int .i64 0)) 3), (some (32, false))⟩,
   ⟨(some 35), (.pick (.tmp 32) (.const (.bool true)) (.tmp 34)), none⟩])
 (.cond (.tmp 35) (.seq (.reg [⟨(some 8), (.assign (.const (.int .i64 0))), none⟩,
   ⟨(some 9), (.assign (.const (.bool false))), none⟩])
 .ret) .skip))
 (.seq (.seq (.reg [⟨(some 36), (.move (.tmp 2)), none⟩,
   ⟨(some 12), (.assign (.tmp 36)), none⟩])
 (.block 2 (.loop (.seq (.seq (.reg [⟨(some 37), (.move (.tmp 12)), none⟩,
   ⟨(some 38), (.binOp .leq 3 (.tmp 37) (.const (.int .i64 20000)) 3), none⟩])
 (.cond (.tmp 38) .skip (.exit 2)))
 (.seq (.block 3 (.seq (.reg [⟨(some 42), (.move (.tmp 0)), none⟩,
   ⟨(some 43), (.move (.tmp 1)), none⟩,
   ⟨(some 44), (.move (.tmp 2)), none⟩,
   ⟨(some 45), (.move (.tmp 10)), none⟩,
   ⟨(some 46), (.move (.tmp 12)), none⟩,
   ⟨(some 47), (.call (.mk (.value (.func 76)) #[(.tmp 42), (.tmp 43), (.tmp 44), (.tmp 45), (.tmp 46)] #[24, 25, 3, 3, 3])), none⟩])
 (.cond (.tmp 47) (.seq (.reg [⟨(some 48), (.move (.tmp 12)), none⟩,
   ⟨(some 8), (.assign (.tmp 48)), none⟩,
   ⟨(some 9), (.assign (.const (.bool true))), none⟩])
 .ret) .skip)))
 (.reg [⟨(some 39), (.move (.tmp 0)), none⟩,
   ⟨(some 40), (.move (.tmp 12)), none⟩,
   ⟨(some 41), (.call (.mk (.value (.func 75)) #[(.tmp 39), (.tmp 40)] #[24, 3])), none⟩,
   ⟨(some 12), (.assign (.tmp 41)), none⟩]))))))
 (.seq (.reg [⟨(some 8), (.assign (.const (.int .i64 0))), none⟩,
   ⟨(some 9), (.assign (.const (.bool false))), none⟩])
 .ret))))))
theorem x_spec_CouldWin : Txt Tryd.prog 16 c_spec_CouldWin [.tmp 8, .tmp 9] 4 := ⟨by kernel_rfl, by kernel_rfl, _, _, Tryd.func16, rfl, by kernel_rfl, by kernel_rfl, by kernel_rfl, rfl, by decide⟩
/-- loop.example/g01062/spec.DrawMergeSteps -/
def c_spec_DrawMergeSteps : Cd :=
 (.seq (.reg [⟨(some 2), (.assign (.const (.slice none 0 0))), none⟩])
 (.seq (.reg [⟨(some 3), (.move (.tmp 0)), none⟩,
   ⟨(some 4), (.call (.mk (.value (.func 77)) #[(.tmp 3)] #[22])), none⟩,
   ⟨(some 2), (.assign (.tmp 4)), none⟩])
 .ret))
theorem x_spec_DrawMergeSteps : Txt Tryd.prog 17 c_spec_DrawMergeSteps [.tmp 2] 1 := ⟨by kernel_rfl, by kernel_rfl, _, _, Tryd.func17, rfl, by kernel_rfl, by kernel_rfl, by kernel_rfl, rfl, by decide⟩
/-- loop.example/g01062/impl.MergeSteps -/
def c_impl_MergeSteps : Cd :=
 (.seq (.reg [⟨(some 2), (.assign (.const (.slice none 0 0))), none⟩,
   ⟨(some 3), (.assign (.const (.bool false))), none⟩])
 (.seq (.seq (.reg [⟨(some 7), (.move (.tmp 0)), none⟩,
   ⟨(some 8), (.call (.mk (.value (.func 66)) #[(.tmp 7)] #[24])), none⟩,
   ⟨(some 9), (.unOp .not 4 (.tmp 8)), none⟩])
 (.cond (.tmp 9) (.seq (.reg [⟨(some 2), (.assign (.const (.slice none 0 0))), none⟩,
   ⟨(some 3), (.assign (.const (.bool false))), none⟩])
 .ret) .skip))
 (.seq (.reg [⟨(some 4), (.assign (.const (.slice none 0 0))), none⟩])
 (.seq (.seq (.reg [⟨(some 10), (.move (.tmp 0)), none⟩,
   ⟨(some 11), (.call (.mk (.builtin .len) #[(.tmp 10)] #[24])), none⟩,
   ⟨(some 12), (.move (.const (.int .i64 0))), none⟩])
 (.block 0 (.loop (.seq (.reg [⟨(some 13), (.binOp .lss 3 (.tmp 12) (.tmp 11) 3), none⟩])
 (.seq (.cond (.tmp 13) .skip (.exit 0))
 (.seq (.block 1 (.seq (.reg [⟨(some 14), (.move (.tmp 12)), none⟩,
   ⟨(some 15), (.indexAddr 24 (.tmp 10) (.tmp 12)), none⟩,
   ⟨(some 16), (.load 95 (.tmp 15)), none⟩,
   ⟨(some 6), (.alloc 95), none⟩,
   ⟨(some 5), (.assign (.tmp 14)), none⟩,
   ⟨none, (.store 95 (.tmp 6) (.tmp 16)), none⟩])
 (.seq (.regq [⟨(some 17), (.move (.tmp 5)), none⟩,
   ⟨(some 18), (.binOp .eql 3 (.tmp 17) (.const (.int .i64 0)) 3), none⟩,
   ⟨(some 19), (.move (.tmp 18)), none⟩,
   ⟨(some 20), (.move (.tmp 0)), (some (19, false))⟩,
   ⟨(some 21), (.move (.tmp 5)), (some (19, false))⟩,
   ⟨(some 22), (.binOp .sub 3 (.tmp 21) (.const (.int .i64 1)) 3), (some (19, false))⟩,
   ⟨(some 23), (.indexAddr 24 (.tmp 20) (.tmp 22)), (some (19, false))⟩,
   ⟨(some 24), (.fieldAddr 95 (.tmp 23) 1), (some (19, false))⟩,
   ⟨(some 25), (.load 3 (.tmp 24)), (some (19, false))⟩,
   ⟨(some 26), (.fieldAddr 95 (.tmp 6) 1), (some (19, false))⟩,
   ⟨(some 27), (.load 3 (.tmp 26)), (some (19, false))⟩,
   ⟨(some 28), (.binOp .neq 3 (.tmp 25) (.tmp 27) 3), (some (19, false))⟩,
   ⟨(some 29), (.pick (.tmp 19) (.const (.bool true)) (.tmp 28)), none⟩])
 (.cond (.tmp 29) (.reg [⟨(some 30), (.move (.tmp 4)), none⟩,
   ⟨(some 31), (.load 95 (.tmp 6)), none⟩,
   ⟨(some 32), (.buildSlice 24 1 #[(0, (.tmp 31))]), none⟩,
   ⟨(some 33), (.call (.mk (.builtin .append) #[(.tmp 30), (.tmp 32)] #[24, 24])), none⟩,
   ⟨(some 4), (.assign (.tmp 33)), none⟩]) .skip))))
 (.reg [⟨(some 34), (.binOp .add 3 (.tmp 12) (.const (.int .i64 1)) 3), none⟩,
   ⟨(some 12), (.move (.tmp 34)), none⟩])))))))
 (.seq (.reg [⟨(some 35), (.move (.tmp 4)), none⟩,
   ⟨(some 2), (.assign (.tmp 35)), none⟩,
   ⟨(some 3), (.assign (.const (.bool true))), none⟩])
 .ret)))))
theorem x_impl_MergeSteps : Txt Tryd.prog 18 c_impl_MergeSteps [.tmp 2, .tmp 3] 1 := ⟨by kernel_rfl, by kernel_rfl, _, _, Tryd.func18, rfl, by kernel_rfl, by kernel_rfl, by kernel_rfl, rfl, by decide⟩
/-- loop.example/g01062/spec.MergeSteps -/
def c_spec_MergeSteps : Cd :=
 (.seq (.reg [⟨(some 2), (.assign (.const (.slice none 0 0))), none⟩,
   ⟨(some 3), (.assign (.const (.bool false))), none⟩])
 (.seq (.reg [⟨(some 7), (.buildSlice 24 0 #[]), none⟩,
   ⟨(some 4), (.assign (.tmp 7)), none⟩])
 (.seq (.seq (.reg [⟨(some 8), (.move (.tmp 0)), none⟩,
   ⟨(some 9), (.call (.mk (.value (.func 78)) #[(.tmp 8)] #[24])), none⟩,
   ⟨(some 10), (.unOp .not 4 (.tmp 9)), none⟩])
 (.cond (.tmp 10) (.seq (.reg [⟨(some 11), (.move (.tmp 4)), none⟩,
   ⟨(some 2), (.assign (.tmp 11)), none⟩,
   ⟨(some 3), (.assign (.const (.bool false))), none⟩])
 .ret) .skip))
 (.seq (.seq (.reg [⟨(some 5), (.assign (.const (.int .i64 0))), none⟩])
 (.block 0 (.loop (.seq (.seq (.reg [⟨(some 12), (.move (.tmp 5)), none⟩,
   ⟨(some 13), (.move (.tmp 0)), none⟩,
   ⟨(some 14), (.call (.mk (.builtin .len) #[(.tmp 13)] #[24])), none⟩,
   ⟨(some 15), (.binOp .lss 3 (.tmp 12) (.tmp 14) 3), none⟩])
 (.cond (.tmp 15) .skip (.exit 0)))
 (.seq (.block 1 (.seq (.reg [⟨(some 18), (.move (.tmp 4)), none⟩,
   ⟨(some 19), (.call (.mk (.builtin .len) #[(.tmp 18)] #[24])), none⟩,
   ⟨(some 6), (.assign (.tmp 19)), none⟩])
 (.seq (.regq [⟨(some 20), (.move (.tmp 6)), none⟩,
   ⟨(some 21), (.binOp .eql 3 (.tmp 20) (.const (.int .i64 0)) 3), none⟩,
   ⟨(some 22), (.move (.tmp 21)), none⟩,
   ⟨(some 23), (.move (.tmp 4)), (some (22, false))⟩,
   ⟨(some 24), (.move (.tmp 6)), (some (22, false))⟩,
   ⟨(some 25), (.binOp .sub 3 (.tmp 24) (.const (.int .i64 1)) 3), (some (22, false))⟩,
   ⟨(some 26), (.indexAddr 24 (.tmp 23) (.tmp 25)), (some (22, false))⟩,
   ⟨(some 27), (.fieldAddr 95 (.tmp 26) 1), (some (22, false))⟩,
   ⟨(some 28), (.load 3 (.tmp 27)), (some (22, false))⟩,
   ⟨(some 29), (.move (.tmp 0)), (some (22, false))⟩,
   ⟨(some 30), (.move (.tmp 5)), (some (22, false))⟩,
   ⟨(some 31), (.indexAddr 24 (.tmp 29) (.tmp 30)), (some (22, false))⟩,
   ⟨(some 32), (.fieldAddr 95 (.tmp 31) 1), (some (22, false))⟩,
   ⟨(some 33), (.load 3 (.tmp 32)), (some (22, false))⟩,
   ⟨(some 34), (.binOp .neq 3 (.tmp 28) (.tmp 33) 3), (some (22, false))⟩,
   ⟨(some 35), (.pick (.tmp 22) (.const (.bool true)) (.tmp 34)), none⟩])
 (.cond (.tmp 35) (.reg [⟨(some 36), (.move (.tmp 4)), none⟩,
   ⟨(some 37), (.move (.tmp 0)), none⟩,
   ⟨(some 38), (.move (.tmp 5)), none⟩,
   ⟨(some 39), (.indexAddr 24 (.tmp 37) (.tmp 38)), none⟩,
   ⟨(some 40), (.load 95 (.tmp 39)), none⟩,
   ⟨(some 41), (.buildSlice 24 1 #[(0, (.tmp 40))]), none⟩,
   ⟨(some 42), (.call (.mk (.builtin .append) #[(.tmp 36), (.tmp 41)] #[24, 24])), none⟩,
   ⟨(some 4), (.assign (.tmp 42)), none⟩]) .skip))))
 (.reg [⟨(some 16), (.move (.tmp 5)), none⟩,
   ⟨(some 17), (.binOp .add 3 (.tmp 16) (.const (.int .i64 1)) 3), none⟩,
   ⟨(some 5), (.assign (.tmp 17)), none⟩]))))))
 (.seq (.reg [⟨(some 43), (.move (.tmp 4)), none⟩,
   ⟨(some 2), (.assign (.tmp 43)), none⟩,
   ⟨(some 3), (.assign (.const (.bool true))), none⟩])
 .ret)))))
theorem x_spec_MergeSteps : Txt Tryd.prog 19 c_spec_MergeSteps [.tmp 2, .tmp 3] 1 := ⟨by kernel_rfl, by kernel_rfl, _, _, Tryd.func19, rfl, by kernel_rfl, by kernel_rfl, by kernel_rfl, rfl, by decide⟩
/-- loop.example/g01062/laws.rSteps -/
def c_laws_rSteps : Cd :=
 (.seq (.reg [⟨(some 4), (.assign (.const (.bool false))), none⟩])
 (.seq (.seq (.reg [⟨(some 6), (.move (.tmp 0)), none⟩,
   ⟨(some 7), (.call (.mk (.builtin .len) #[(.tmp 6)] #[24])), none⟩,
   ⟨(some 8), (.move (.tmp 1)), none⟩,
   ⟨(some 9), (.call (.mk (.builtin .len) #[(.tmp 8)] #[24])), none⟩,
   ⟨(some 10), (.binOp .neq 3 (.tmp 7) (.tmp 9) 3), none⟩])
 (.cond (.tmp 10) (.seq (.reg [⟨(some 4), (.assign (.const (.bool false))), none⟩])
 .ret) .skip))
 (.seq (.seq (.reg [⟨(some 5), (.assign (.const (.int .i64 0))), none⟩])
 (.block 0 (.loop (.seq (.seq (.reg [⟨(some 11), (.move (.tmp 5)), none⟩,
   ⟨(some 12), (.move (.tmp 0)), none⟩,
   ⟨(some 13), (.call (.mk (.builtin .len) #[(.tmp 12)] #[24])), none⟩,
   ⟨(some 14), (.binOp .lss 3 (.tmp 11) (.tmp 13) 3), none⟩])
 (.cond (.tmp 14) .skip (.exit 0)))
 (.seq (.block 1 (.seq (.regq [⟨(some 17), (.move (.tmp 0)), none⟩,
   ⟨(some 18), (.move (.tmp 5)), none⟩,
   ⟨(some 19), (.indexAddr 24 (.tmp 17) (.tmp 18)), none⟩,
   ⟨(some 20), (.load 95 (.tmp 19)), none⟩,
   ⟨(some 21), (.move (.tmp 1)), none⟩,
   ⟨(some 22), (.move (.tmp 5)), none⟩,
   ⟨(some 23), (.indexAddr 24 (.tmp 21) (.tmp 22)), none⟩,
   ⟨(some 24), (.load 95 (.tmp 23)), none⟩,
   ⟨(some 25), (.binOp .neq 95 (.tmp 20) (.tmp 24) 95), none⟩])
 (.cond (.tmp 25) (.seq (.reg [⟨(some 4), (.assign (.const (.bool false))), none⟩])
 .ret) .skip)))
 (.reg [⟨(some 15), (.move (.tmp 5)), none⟩,
   ⟨(some 16), (.binOp .add 3 (.tmp 15) (.const (.int .i64 1)) 3), none⟩,
   ⟨(some 5), (.assign (.tmp 16)), none⟩]))))))
 (.seq (.reg [⟨(some 4), (.assign (.const (.bool true))), none⟩])
 .ret))))
theorem x_laws_rSteps : Txt Tryd.prog 20 c_laws_rSteps [.tmp 4] 2 := ⟨by kernel_rfl, by kernel_rfl, _, _, Tryd.func20, rfl, by kernel_rfl, by kernel_rfl, by kernel_rfl, rfl, by decide⟩
/-- loop.example/g01062/impl.StepsText -/
def c_impl_StepsText : Cd :=
 (.seq (.reg [⟨(some 2), (.assign (.const (.string (ByteArray.mk #[])))), none⟩,
   ⟨(some 3), (.assign (.const (.bool false))), none⟩])
 (.seq (.seq (.reg [⟨(some 7), (.move (.tmp 0)), none⟩,
   ⟨(some 8), (.call (.mk (.value (.func 66)) #[(.tmp 7)] #[24])), none⟩,
   ⟨(some 9), (.unOp .not 4 (.tmp 8)), none⟩])
 (.cond (.tmp 9) (.seq (.reg [⟨(some 2), (.assign (.const (.string (ByteArray.mk #[])))), none⟩,
   ⟨(some 3), (.assign (.const (.bool false))), none⟩])
 .ret) .skip))
 (.seq (.reg [⟨(some 4), (.assign (.const (.string (ByteArray.mk #[])))), none⟩])
 (.seq (.seq (.reg [⟨(some 10), (.move (.tmp 0)), none⟩,
   ⟨(some 11), (.call (.mk (.builtin .len) #[(.tmp 10)] #[24])), none⟩,
   ⟨(some 12), (.move (.const (.int .i64 0))), none⟩])
 (.block 0 (.loop (.seq (.reg [⟨(some 13), (.binOp .lss 3 (.tmp 12) (.tmp 11) 3), none⟩])
 (.seq (.cond (.tmp 13) .skip (.exit 0))
 (.seq (.block 1 (.seq (.reg [⟨(some 14), (.indexAddr 24 (.tmp 10) (.tmp 12)), none⟩,
   ⟨(some 15), (.load 95 (.tmp 14)), none⟩,
   ⟨(some 6), (.alloc 95), none⟩,
   ⟨none, (.store 95 (.tmp 6) (.tmp 15)), none⟩])
 (.regq [⟨(some 16), (.move (.tmp 4)), none⟩,
   ⟨(some 17), (.fieldAddr 95 (.tmp 6) 0), none⟩,
   ⟨(some 18), (.load 3 (.tmp 17)), none⟩,
   ⟨(some 19), (.call (.mk (.value (.func 79)) #[(.tmp 18)] #[3])), none⟩,
   ⟨(some 20), (.binOp .add 9 (.tmp 19) (.const (.string (ByteArray.mk #[43]))) 9), none⟩,
   ⟨(some 21), (.fieldAddr 95 (.tmp 6) 1), none⟩,
   ⟨(some 22), (.load 3 (.tmp 21)), none⟩,
   ⟨(some 23), (.call (.mk (.value (.func 79)) #[(.tmp 22)] #[3])), none⟩,
   ⟨(some 24), (.binOp .add 9 (.tmp 20) (.tmp 23) 9), none⟩,
   ⟨(some 25), (.binOp .add 9 (.tmp 24) (.const (.string (ByteArray.mk #[59]))) 9), none⟩,
   ⟨(some 26), (.binOp .add 9 (.tmp 16) (.tmp 25) 9), none⟩,
   ⟨(some 4), (.assign (.tmp 26)), none⟩])))
 (.reg [⟨(some 27), (.binOp .add 3 (.tmp 12) (.const (.int .i64 1)) 3), none⟩,
   ⟨(some 12), (.move (.tmp 27)), none⟩])))))))
 (.seq (.reg [⟨(some 28), (.move (.tmp 4)), none⟩,
   ⟨(some 2), (.assign (.tmp 28)), none⟩,
   ⟨(some 3), (.assign (.const (.bool true))), none⟩])
 .ret)))))
theorem x_impl_StepsText : Txt Tryd.prog 21 c_impl_StepsText [.tmp 2, .tmp 3] 1 := ⟨by kernel_rfl, by kernel_rfl, _, _, Tryd.func21, rfl, by kernel_rfl, by kernel_rfl, by kernel_rfl, rfl, by decide⟩
/-- loop.example/g01062/spec.StepsText -/
def c_spec_StepsText : Cd :=
 (.seq (.reg [⟨(some 2), (.assign (.const (.string (ByteArray.mk #[])))), none⟩,
   ⟨(some 3), (.assign (.const (.bool false))), none⟩])
 (.seq (.seq (.reg [⟨(some 6), (.move (.tmp 0)), none⟩,
   ⟨(some 7), (.call (.mk (.value (.func 78)) #[(.tmp 6)] #[24])), none⟩,
   ⟨(some 8), (.unOp .not 4 (.tmp 7)), none⟩])
 (.cond (.tmp 8) (.seq (.reg [⟨(some 2), (.assign (.const (.string (ByteArray.mk #[])))), none⟩,
   ⟨(some 3), (.assign (.const (.bool false))), none⟩])
 .ret) .skip))
 (.seq (.reg [⟨(some 4), (.assign (.const (.string (ByteArray.mk #[])))), none⟩])
 (.seq (.seq (.reg [⟨(some 5), (.assign (.const (.int .i64 0))), none⟩])
 (.block 0 (.loop (.seq (.seq (.reg [⟨(some 9), (.move (.tmp 5)), none⟩,
   ⟨(some 10), (.move (.tmp 0)), none⟩,
   ⟨(some 11), (.call (.mk (.builtin .len) #[(.tmp 10)] #[24])), none⟩,
   ⟨(some 12), (.binOp .lss 3 (.tmp 9) (.tmp 11) 3), none⟩])
 (.cond (.tmp 12) .skip (.exit 0)))
 (.seq (.block 1 (.regq [⟨(some 15), (.move (.tmp 4)), none⟩,
   ⟨(some 16), (.move (.tmp 0)), none⟩,
   ⟨(some 17), (.move (.tmp 5)), none⟩,
   ⟨(some 18), (.indexAddr 24 (.tmp 16) (.tmp 17)), none⟩,
   ⟨(some 19), (.fieldAddr 95 (.tmp 18) 0), none⟩,
   ⟨(some 20), (.load 3 (.tmp 19)), none⟩,
   ⟨(some 21), (.call (.mk (.value (.func 80)) #[(.tmp 20)] #[3])), none⟩,
   ⟨(some 22), (.binOp .add 9 (.tmp 15) (.tmp 21) 9), none⟩,
   ⟨(some 23), (.binOp .add 9 (.tmp 22) (.const (.string (ByteArray.mk #[43]))) 9), none⟩,
   ⟨(some 24), (.move (.tmp 0)), none⟩,
   ⟨(some 25), (.move (.tmp 5)), none⟩,
   ⟨(some 26), (.indexAddr 24 (.tmp 24) (.tmp 25)), none⟩,
   ⟨(some 27), (.fieldAddr 95 (.tmp 26) 1), none⟩,
   ⟨(some 28), (.load 3 (.tmp 27)), none⟩,
   ⟨(some 29), (.call (.mk (.value (.func 80)) #[(.tmp 28)] #[3])), none⟩,
   ⟨(some 30), (.binOp .add 9 (.tmp 23) (.tmp 29) 9), none⟩,
   ⟨(some 31), (.binOp .add 9 (.tmp 30) (.const (.string (ByteArray.mk #[59]))) 9), none⟩,
   ⟨(some 4), (.assign (.tmp 31)), none⟩]))
 (.reg [⟨(some 13), (.move (.tmp 5)), none⟩,
   ⟨(some 14), (.binOp .add 3 (.tmp 13) (.const (.int .i64 1)) 3), none⟩,
   ⟨(some 5), (.assign (.tmp 14)), none⟩]))))))
 (.seq (.reg [⟨(some 32), (.move (.tmp 4)), none⟩,
   ⟨(some 2), (.assign (.tmp 32)), none⟩,
   ⟨(some 3), (.assign (.const (.bool true))), none⟩])
 .ret)))))
theorem x_spec_StepsText : Txt Tryd.prog 22 c_spec_StepsText [.tmp 2, .tmp 3] 1 := ⟨by kernel_rfl, by kernel_rfl, _, _, Tryd.func22, rfl, by kernel_rfl, by kernel_rfl, by kernel_rfl, rfl, by decide⟩
/-- loop.example/g01062/impl.AreAbsentees -/
def c_impl_AreAbsentees : Cd :=
 (.seq (.reg [⟨(some 2), (.assign (.const (.bool false))), none⟩])
 (.seq (.reg [⟨(some 3), (.move (.tmp 0)), none⟩,
   ⟨(some 4), (.call (.mk (.value (.func 67)) #[(.tmp 3)] #[25])), none⟩,
   ⟨(some 2), (.assign (.tmp 4)), none⟩])
 .ret))
theorem x_impl_AreAbsentees : Txt Tryd.prog 23 c_impl_AreAbsentees [.tmp 2] 1 := ⟨by kernel_rfl, by kernel_rfl, _, _, Tryd.func23, rfl, by kernel_rfl, by kernel_rfl, by kernel_rfl, rfl, by decide⟩
/-- loop.example/g01062/spec.AreAbsentees -/
def c_spec_AreAbsentees : Cd :=
 (.seq (.reg [⟨(some 2), (.assign (.const (.bool false))), none⟩])
 (.seq (.reg [⟨(some 3), (.move (.tmp 0)), none⟩,
   ⟨(some 4), (.call (.mk (.value (.func 81)) #[(.tmp 3)] #[25])), none⟩,
   ⟨(some 2), (.assign (.tmp 4)), none⟩])
 .ret))
theorem x_spec_AreAbsentees : Txt Tryd.prog 24 c_spec_AreAbsentees [.tmp 2] 1 := ⟨by kernel_rfl, by kernel_rfl, _, _, Tryd.func24, rfl, by kernel_rfl, by kernel_rfl, by kernel_rfl, rfl, by decide⟩
/-- (*loop.example/g01062/spec.l1Cur).steps22 -/
def c_spec_l1Cur_steps22 : Cd :=
 (.seq (.reg [⟨(some 2), (.assign (.const (.slice none 0 0))), none⟩])
 (.seq (.reg [⟨(some 7), (.buildSlice 24 0 #[]), none⟩,
   ⟨(some 3), (.assign (.tmp 7)), none⟩])
 (.seq (.reg [⟨(some 4), (.assign (.const (.int .i64 0))), none⟩])
 (.seq (.seq (.reg [⟨(some 8), (.move (.tmp 0)), none⟩,
   ⟨(some 9), (.call (.mk (.value (.func 65)) #[(.tmp 8), (.const (.int .i64 4))] #[80, 3])), none⟩,
   ⟨(some 10), (.binOp .add 3 (.const (.int .i64 1)) (.tmp 9) 3), none⟩,
   ⟨(some 5), (.assign (.tmp 10)), none⟩])
 (.block 0 (.loop (.seq (.seq (.reg [⟨(some 11), (.move (.tmp 5)), none⟩,
   ⟨(some 12), (.binOp .gtr 3 (.tmp 11) (.const (.int .i64 0)) 3), none⟩])
 (.cond (.tmp 12) .skip (.exit 0)))
 (.seq (.block 1 (.seq (.reg [⟨(some 15), (.move (.tmp 3)), none⟩,
   ⟨(some 16), (.move (.tmp 4)), none⟩,
   ⟨(some 17), (.move (.tmp 0)), none⟩,
   ⟨(some 18), (.buildSlice 30 6 #[(0, (.const (.int .i64 200))), (1, (.const (.int .i64 250))), (2, (.const (.int .i64 500))), (3, (.const (.int .i64 500))), (4, (.const (.int .i64 1000))), (5, (.const (.int .i64 5000)))]), none⟩,
   ⟨(some 19), (.call (.mk (.value (.func 64)) #[(.tmp 17), (.tmp 18)] #[80, 30])), none⟩,
   ⟨(some 20), (.build 95 #[(0, (.tmp 16)), (1, (.tmp 19))]), none⟩,
   ⟨(some 21), (.buildSlice 24 1 #[(0, (.tmp 20))]), none⟩,
   ⟨(some 22), (.call (.mk (.builtin .append) #[(.tmp 15), (.tmp 21)] #[24, 24])), none⟩,
   ⟨(some 3), (.assign (.tmp 22)), none⟩])
 (.reg [⟨(some 23), (.move (.tmp 4)), none⟩,
   ⟨(some 24), (.move (.tmp 0)), none⟩,
   ⟨(some 25), (.buildSlice 30 5 #[(0, (.const (.int .i64 1))), (1, (.const (.int .i64 500))), (2, (.const (.int .i64 1000))), (3, (.const (.int .i64 1100))), (4, (.const (.int .i64 5000)))]), none⟩,
   ⟨(some 26), (.call (.mk (.value (.func 64)) #[(.tmp 24), (.tmp 25)] #[80, 30])), none⟩,
   ⟨(some 27), (.binOp .add 3 (.tmp 23) (.tmp 26) 3), none⟩,
   ⟨(some 4), (.assign (.tmp 27)), none⟩])))
 (.reg [⟨(some 13), (.move (.tmp 5)), none⟩,
   ⟨(some 14), (.binOp .sub 3 (.tmp 13) (.const (.int .i64 1)) 3), none⟩,
   ⟨(some 5), (.assign (.tmp 14)), none⟩]))))))
 (.seq (.seq (.reg [⟨(some 28), (.move (.tmp 0)), none⟩,
   ⟨(some 29), (.call (.mk (.value (.func 65)) #[(.tmp 28), (.const (.int .i64 40))] #[80, 3])), none⟩])
 (.block 2 (.seq (.reg [⟨(some 31), (.binOp .eql 3 (.tmp 29) (.const (.int .i64 0)) 3), none⟩,
   ⟨(some 30), (.assign (.tmp 31)), none⟩])
 (.cond (.tmp 30) (.reg [⟨(some 32), (.buildSlice 24 0 #[]), none⟩,
   ⟨(some 3), (.assign (.tmp 32)), none⟩]) (.seq (.reg [⟨(some 34), (.binOp .eql 3 (.tmp 29) (.const (.int .i64 1)) 3), none⟩,
   ⟨(some 33), (.assign (.tmp 34)), none⟩])
 (.cond (.tmp 33) (.reg [⟨(some 35), (.move (.tmp 3)), none⟩,
   ⟨(some 36), (.indexAddr 24 (.tmp 35) (.const (.int .i64 0))), none⟩,
   ⟨(some 37), (.fieldAddr 95 (.tmp 36) 0), none⟩,
   ⟨none, (.store 3 (.tmp 37) (.const (.int .i64 1))), none⟩]) (.seq (.reg [⟨(some 39), (.binOp .eql 3 (.tmp 29) (.const (.int .i64 2)) 3), none⟩,
   ⟨(some 38), (.assign (.tmp 39)), none⟩])
 (.cond (.tmp 38) (.reg [⟨(some 40), (.move (.tmp 3)), none⟩,
   ⟨(some 41), (.move (.tmp 0)), none⟩,
   ⟨(some 42), (.buildSlice 30 2 #[(0, (.const (.int .i64 199))), (1, (.const (.int .i64 5001)))]), none⟩,
   ⟨(some 43), (.call (.mk (.value (.func 64)) #[(.tmp 41), (.tmp 42)] #[80, 30])), none⟩,
   ⟨(some 44), (.indexAddr 24 (.tmp 40) (.const (.int .i64 0))), none⟩,
   ⟨(some 45), (.fieldAddr 95 (.tmp 44) 1), none⟩,
   ⟨none, (.store 3 (.tmp 45) (.tmp 43)), none⟩]) (.seq (.reg [⟨(some 47), (.binOp .eql 3 (.tmp 29) (.const (.int .i64 3)) 3), none⟩,
   ⟨(some 46), (.assign (.tmp 47)), none⟩])
 (.cond (.tmp 46) (.reg [⟨(some 48), (.move (.tmp 3)), none⟩,
   ⟨(some 49), (.move (.tmp 0)), none⟩,
   ⟨(some 50), (.buildSlice 30 3 #[(0, (.const (.int .i64 0))), (1, (.const (.int .i64 20001))), (2, (.const (.int .i64 20000)))]), none⟩,
   ⟨(some 51), (.call (.mk (.value (.func 64)) #[(.tmp 49), (.tmp 50)] #[80, 30])), none⟩,
   ⟨(some 52), (.build 95 #[(0, (.tmp 51)), (1, (.const (.int .i64 700)))]), none⟩,
   ⟨(some 53), (.buildSlice 24 1 #[(0, (.tmp 52))]), none⟩,
   ⟨(some 54), (.call (.mk (.builtin .append) #[(.tmp 48), (.tmp 53)] #[24, 24])), none⟩,
   ⟨(some 3), (.assign (.tmp 54)), none⟩]) (.seq (.reg [⟨(some 56), (.binOp .eql 3 (.tmp 29) (.const (.int .i64 4)) 3), none⟩,
   ⟨(some 55), (.assign (.tmp 56)), none⟩])
 (.cond (.tmp 55) (.seq (.reg [⟨(some 57), (.buildSlice 24 0 #[]), none⟩,
   ⟨(some 3), (.assign (.tmp 57)), none⟩])
 (.seq (.reg [⟨(some 6), (.assign (.const (.int .i64 0))), none⟩])
 (.block 3 (.loop (.seq (.seq (.reg [⟨(some 58), (.move (.tmp 6)), none⟩,
   ⟨(some 59), (.move (.tmp 0)), none⟩,
   ⟨(some 60), (.call (.mk (.value (.func 65)) #[(.tmp 59), (.const (.int .i64 2))] #[80, 3])), none⟩,
   ⟨(some 61), (.binOp .add 3 (.const (.int .i64 8)) (.tmp 60) 3), none⟩,
   ⟨(some 62), (.binOp .lss 3 (.tmp 58) (.tmp 61) 3), none⟩])
 (.cond (.tmp 62) .skip (.exit 3)))
 (.seq (.block 4 (.reg [⟨(some 65), (.move (.tmp 3)), none⟩,
   ⟨(some 66), (.move (.tmp 6)), none⟩,
   ⟨(some 67), (.binOp .mul 3 (.const (.int .i64 1000)) (.tmp 66) 3), none⟩,
   ⟨(some 68), (.move (.tmp 6)), none⟩,
   ⟨(some 69), (.binOp .quo 3 (.tmp 68) (.const (.int .i64 2)) 3), none⟩,
   ⟨(some 70), (.binOp .mul 3 (.const (.int .i64 100)) (.tmp 69) 3), none⟩,
   ⟨(some 71), (.binOp .add 3 (.const (.int .i64 200)) (.tmp 70) 3), none⟩,
   ⟨(some 72), (.build 95 #[(0, (.tmp 67)), (1, (.tmp 71))]), none⟩,
   ⟨(some 73), (.buildSlice 24 1 #[(0, (.tmp 72))]), none⟩,
   ⟨(some 74), (.call (.mk (.builtin .append) #[(.tmp 65), (.tmp 73)] #[24, 24])), none⟩,
   ⟨(some 3), (.assign (.tmp 74)), none⟩]))
 (.reg [⟨(some 63), (.move (.tmp 6)), none⟩,
   ⟨(some 64), (.binOp .add 3 (.tmp 63) (.const (.int .i64 1)) 3), none⟩,
   ⟨(some 6), (.assign (.tmp 64)), none⟩]))))))) .skip))))))))))))
 (.seq (.reg [⟨(some 75), (.move (.tmp 3)), none⟩,
   ⟨(some 2), (.assign (.tmp 75)), none⟩])
 .ret))))))
theorem x_spec_l1Cur_steps22 : Txt Tryd.prog 62 c_spec_l1Cur_steps22 [.tmp 2] 1 := ⟨by kernel_rfl, by kernel_rfl, _, _, Tryd.func62, rfl, by kernel_rfl, by kernel_rfl, by kernel_rfl, rfl, by decide⟩
/-- (*loop.example/g01062/spec.l1Cur).absentees22 -/
def c_spec_l1Cur_absentees22 : Cd :=
 (.seq (.reg [⟨(some 2), (.assign (.const (.slice none 0 0))), none⟩])
 (.seq (.reg [⟨(some 8), (.buildSlice 25 0 #[]), none⟩,
   ⟨(some 3), (.assign (.tmp 8)), none⟩])
 (.seq (.seq (.reg [⟨(some 9), (.move (.tmp 0)), none⟩,
   ⟨(some 10), (.call (.mk (.value (.func 65)) #[(.tmp 9), (.const (.int .i64 6))] #[80, 3])), none⟩,
   ⟨(some 4), (.assign (.tmp 10)), none⟩])
 (.block 0 (.loop (.seq (.seq (.reg [⟨(some 11), (.move (.tmp 4)), none⟩,
   ⟨(some 12), (.binOp .gtr 3 (.tmp 11) (.const (.int .i64 0)) 3), none⟩])
 (.cond (.tmp 12) .skip (.exit 0)))
 (.seq (.block 1 (.reg [⟨(some 15), (.move (.tmp 3)), none⟩,
   ⟨(some 16), (.move (.tmp 3)), none⟩,
   ⟨(some 17), (.call (.mk (.builtin .len) #[(.tmp 16)] #[25])), none⟩,
   ⟨(some 18), (.binOp .mul 3 (.const (.int .i64 7)) (.tmp 17) 3), none⟩,
   ⟨(some 19), (.binOp .add 3 (.tmp 18) (.const (.int .i64 1)) 3), none⟩,
   ⟨(some 20), (.move (.tmp 0)), none⟩,
   ⟨(some 21), (.buildSlice 30 8 #[(0, (.const (.int .i64 0))), (1, (.const (.int .i64 500))), (2, (.const (.int .i64 1000))), (3, (.const (.int .i64 1000))), (4, (.const (.int .i64 1500))), (5, (.const (.int .i64 2600))), (6, (.const (.int .i64 7000))), (7, (.const (.int .i64 20000)))]), none⟩,
   ⟨(some 22), (.call (.mk (.value (.func 64)) #[(.tmp 20), (.tmp 21)] #[80, 30])), none⟩,
   ⟨(some 23), (.build 40 #[(0, (.tmp 19)), (1, (.tmp 22))]), none⟩,
   ⟨(some 24), (.buildSlice 25 1 #[(0, (.tmp 23))]), none⟩,
   ⟨(some 25), (.call (.mk (.builtin .append) #[(.tmp 15), (.tmp 24)] #[25, 25])), none⟩,
   ⟨(some 3), (.assign (.tmp 25)), none⟩]))
 (.reg [⟨(some 13), (.move (.tmp 4)), none⟩,
   ⟨(some 14), (.binOp .sub 3 (.tmp 13) (.const (.int .i64 1)) 3), none⟩,
   ⟨(some 4), (.assign (.tmp 14)), none⟩]))))))
 (.seq (.seq (.reg [⟨(some 26), (.move (.tmp 3)), none⟩,
   ⟨(some 27), (.call (.mk (.builtin .len) #[(.tmp 26)] #[25])), none⟩,
   ⟨(some 5), (.assign (.tmp 27)), none⟩])
 (.seq (.reg [⟨(some 28), (.move (.tmp 5)), none⟩,
   ⟨(some 29), (.binOp .gtr 3 (.tmp 28) (.const (.int .i64 0)) 3), none⟩,
   ⟨(some 30), (.move (.tmp 29)), none⟩,
   ⟨(some 31), (.move (.tmp 0)), (some (30, true))⟩,
   ⟨(some 32), (.call (.mk (.value (.func 73)) #[(.tmp 31), (.const (.int .i64 16))] #[80, 3])), (some (30, true))⟩,
   ⟨(some 33), (.pick (.tmp 30) (.tmp 32) (.const (.bool false))), none⟩])
 (.cond (.tmp 33) (.seq (.reg [⟨(some 34), (.move (.tmp 3)), none⟩,
   ⟨(some 35), (.move (.tmp 5)), none⟩,
   ⟨(some 36), (.binOp .sub 3 (.tmp 35) (.const (.int .i64 1)) 3), none⟩,
   ⟨(some 37), (.indexAddr 25 (.tmp 34) (.tmp 36)), none⟩,
   ⟨(some 38), (.load 40 (.tmp 37)), none⟩,
   ⟨(some 6), (.alloc 40), none⟩,
   ⟨none, (.store 40 (.tmp 6) (.tmp 38)), none⟩])
 (.seq (.seq (.reg [⟨(some 39), (.move (.tmp 0)), none⟩,
   ⟨(some 40), (.call (.mk (.value (.func 65)) #[(.tmp 39), (.const (.int .i64 3))] #[80, 3])), none⟩])
 (.block 2 (.seq (.reg [⟨(some 42), (.binOp .eql 3 (.tmp 40) (.const (.int .i64 0)) 3), none⟩,
   ⟨(some 41), (.assign (.tmp 42)), none⟩])
 (.cond (.tmp 41) (.reg [⟨(some 43), (.move (.tmp 0)), none⟩,
   ⟨(some 44), (.buildSlice 30 4 #[(0, (.const (.int .i64 0))), (1, (.const (.int .i64 1))), (2, (.const (.int .i64 99))), (3, (.const (.int .i64 100)))]), none⟩,
   ⟨(some 45), (.call (.mk (.value (.func 64)) #[(.tmp 43), (.tmp 44)] #[80, 30])), none⟩,
   ⟨(some 46), (.fieldAddr 40 (.tmp 6) 0), none⟩,
   ⟨none, (.store 3 (.tmp 46) (.tmp 45)), none⟩]) (.seq (.reg [⟨(some 48), (.binOp .eql 3 (.tmp 40) (.const (.int .i64 1)) 3), none⟩,
   ⟨(some 47), (.assign (.tmp 48)), none⟩])
 (.cond (.tmp 47) (.reg [⟨(some 49), (.move (.tmp 0)), none⟩,
   ⟨(some 50), (.buildSlice 30 2 #[(0, (.const (.int .i64 (-1)))), (1, (.const (.int .i64 20001)))]), none⟩,
   ⟨(some 51), (.call (.mk (.value (.func 64)) #[(.tmp 49), (.tmp 50)] #[80, 30])), none⟩,
   ⟨(some 52), (.fieldAddr 40 (.tmp 6) 1), none⟩,
   ⟨none, (.store 3 (.tmp 52) (.tmp 51)), none⟩]) (.seq (.reg [⟨(some 54), (.binOp .eql 3 (.tmp 40) (.const (.int .i64 2)) 3), none⟩,
   ⟨(some 53), (.assign (.tmp 54)), none⟩])
 (.cond (.tmp 53) (.reg [⟨(some 55), (.move (.tmp 3)), none⟩,
   ⟨(some 56), (.indexAddr 25 (.tmp 55) (.const (.int .i64 0))), none⟩,
   ⟨(some 57), (.fieldAddr 40 (.tmp 56) 0), none⟩,
   ⟨(some 58), (.load 3 (.tmp 57)), none⟩,
   ⟨(some 59), (.fieldAddr 40 (.tmp 6) 0), none⟩,
   ⟨none, (.store 3 (.tmp 59) (.tmp 58)), none⟩]) .skip))))))))
 (.reg [⟨(some 60), (.move (.tmp 3)), none⟩,
   ⟨(some 61), (.move (.tmp 5)), none⟩,
   ⟨(some 62), (.binOp .sub 3 (.tmp 61) (.const (.int .i64 1)) 3), none⟩,
   ⟨(some 63), (.load 40 (.tmp 6)), none⟩,
   ⟨(some 64), (.indexAddr 25 (.tmp 60) (.tmp 62)), none⟩,
   ⟨none, (.store 40 (.tmp 64) (.tmp 63)), none⟩]))) .skip)))
 (.seq (.seq (.reg [⟨(some 65), (.move (.tmp 0)), none⟩,
   ⟨(some 66), (.call (.mk (.value (.func 73)) #[(.tmp 65), (.const (.int .i64 24))] #[80, 3])), none⟩])
 (.cond (.tmp 66) (.seq (.reg [⟨(some 67), (.buildSlice 25 0 #[]), none⟩,
   ⟨(some 3), (.assign (.tmp 67)), none⟩])
 (.seq (.reg [⟨(some 7), (.assign (.const (.int .i64 0))), none⟩])
 (.block 3 (.loop (.seq (.seq (.reg [⟨(some 68), (.move (.tmp 7)), none⟩,
   ⟨(some 69), (.move (.tmp 0)), none⟩,
   ⟨(some 70), (.call (.mk (.value (.func 65)) #[(.tmp 69), (.const (.int .i64 2))] #[80, 3])), none⟩,
   ⟨(some 71), (.binOp .add 3 (.const (.int .i64 12)) (.tmp 70) 3), none⟩,
   ⟨(some 72), (.binOp .lss 3 (.tmp 68) (.tmp 71) 3), none⟩])
 (.cond (.tmp 72) .skip (.exit 3)))
 (.seq (.block 4 (.reg [⟨(some 75), (.move (.tmp 3)), none⟩,
   ⟨(some 76), (.move (.tmp 7)), none⟩,
   ⟨(some 77), (.binOp .add 3 (.tmp 76) (.const (.int .i64 1)) 3), none⟩,
   ⟨(some 78), (.move (.tmp 7)), none⟩,
   ⟨(some 79), (.binOp .mul 3 (.const (.int .i64 300)) (.tmp 78) 3), none⟩,
   ⟨(some 80), (.build 40 #[(0, (.tmp 77)), (1, (.tmp 79))]), none⟩,
   ⟨(some 81), (.buildSlice 25 1 #[(0, (.tmp 80))]), none⟩,
   ⟨(some 82), (.call (.mk (.builtin .append) #[(.tmp 75), (.tmp 81)] #[25, 25])), none⟩,
   ⟨(some 3), (.assign (.tmp 82)), none⟩]))
 (.reg [⟨(some 73), (.move (.tmp 7)), none⟩,
   ⟨(some 74), (.binOp .add 3 (.tmp 73) (.const (.int .i64 1)) 3), none⟩,
   ⟨(some 7), (.assign (.tmp 74)), none⟩]))))))) .skip))
 (.seq (.reg [⟨(some 83), (.move (.tmp 3)), none⟩,
   ⟨(some 2), (.assign (.tmp 83)), none⟩])
 .ret))))))
theorem x_spec_l1Cur_absentees22 : Txt Tryd.prog 63 c_spec_l1Cur_absentees22 [.tmp 2] 1 := ⟨by kernel_rfl, by kernel_rfl, _, _, Tryd.func63, rfl, by kernel_rfl, by kernel_rfl, by kernel_rfl, rfl, by decide⟩
/-- (*loop.example/g01062/spec.l1Cur).among -/
def c_spec_l1Cur_among : Cd :=
 (.seq (.reg [⟨(some 4), (.assign (.const (.int .i64 0))), none⟩])
 (.seq (.reg [⟨(some 5), (.move (.tmp 1)), none⟩,
   ⟨(some 6), (.move (.tmp 0)), none⟩,
   ⟨(some 7), (.move (.tmp 1)), none⟩,
   ⟨(some 8), (.call (.mk (.builtin .len) #[(.tmp 7)] #[30])), none⟩,
   ⟨(some 9), (.call (.mk (.value (.func 65)) #[(.tmp 6), (.tmp 8)] #[80, 3])), none⟩,
   ⟨(some 10), (.indexAddr 30 (.tmp 5) (.tmp 9)), none⟩,
   ⟨(some 11), (.load 3 (.tmp 10)), none⟩,
   ⟨(some 4), (.assign (.tmp 11)), none⟩])
 .ret))
theorem x_spec_l1Cur_among : Txt Tryd.prog 64 c_spec_l1Cur_among [.tmp 4] 2 := ⟨by kernel_rfl, by kernel_rfl, _, _, Tryd.func64, rfl, by kernel_rfl, by kernel_rfl, by kernel_rfl, rfl, by decide⟩
/-- (*loop.example/g01062/spec.l1Cur).pick -/
def c_spec_l1Cur_pick : Cd :=
 (.seq (.reg [⟨(some 4), (.assign (.const (.int .i64 0))), none⟩])
 (.seq (.seq (.reg [⟨(some 6), (.move (.tmp 1)), none⟩,
   ⟨(some 7), (.binOp .leq 3 (.tmp 6) (.const (.int .i64 1)) 3), none⟩])
 (.cond (.tmp 7) (.seq (.reg [⟨(some 4), (.assign (.const (.int .i64 0))), none⟩])
 .ret) .skip))
 (.seq (.reg [⟨(some 8), (.move (.tmp 0)), none⟩,
   ⟨(some 9), (.call (.mk (.value (.func 124)) #[(.tmp 8)] #[80])), none⟩,
   ⟨(some 5), (.assign (.tmp 9)), none⟩])
 (.seq (.seq (.reg [⟨(some 10), (.move (.tmp 1)), none⟩,
   ⟨(some 11), (.binOp .gtr 3 (.tmp 10) (.const (.int .i64 200)) 3), none⟩])
 (.cond (.tmp 11) (.reg [⟨(some 12), (.move (.tmp 5)), none⟩,
   ⟨(some 13), (.binOp .mul 3 (.tmp 12) (.const (.int .i64 256)) 3), none⟩,
   ⟨(some 14), (.move (.tmp 0)), none⟩,
   ⟨(some 15), (.call (.mk (.value (.func 124)) #[(.tmp 14)] #[80])), none⟩,
   ⟨(some 16), (.binOp .add 3 (.tmp 13) (.tmp 15) 3), none⟩,
   ⟨(some 5), (.assign (.tmp 16)), none⟩]) .skip))
 (.seq (.reg [⟨(some 17), (.move (.tmp 5)), none⟩,
   ⟨(some 18), (.move (.tmp 1)), none⟩,
   ⟨(some 19), (.binOp .rem 3 (.tmp 17) (.tmp 18) 3), none⟩,
   ⟨(some 4), (.assign (.tmp 19)), none⟩])
 .ret)))))
theorem x_spec_l1Cur_pick : Txt Tryd.prog 65 c_spec_l1Cur_pick [.tmp 4] 2 := ⟨by kernel_rfl, by kernel_rfl, _, _, Tryd.func65, rfl, by kernel_rfl, by kernel_rfl, by kernel_rfl, rfl, by decide⟩
/-- loop.example/g01062/impl.areSteps -/
def c_impl_areSteps : Cd :=
 (.seq (.reg [⟨(some 2), (.assign (.const (.bool false))), none⟩])
 (.seq (.seq (.reg [⟨(some 5), (.move (.tmp 0)), none⟩,
   ⟨(some 6), (.call (.mk (.builtin .len) #[(.tmp 5)] #[24])), none⟩,
   ⟨(some 7), (.move (.const (.int .i64 0))), none⟩])
 (.block 0 (.loop (.seq (.reg [⟨(some 8), (.binOp .lss 3 (.tmp 7) (.tmp 6) 3), none⟩])
 (.seq (.cond (.tmp 8) .skip (.exit 0))
 (.seq (.block 1 (.seq (.reg [⟨(some 9), (.move (.tmp 7)), none⟩,
   ⟨(some 10), (.indexAddr 24 (.tmp 5) (.tmp 7)), none⟩,
   ⟨(some 11), (.load 95 (.tmp 10)), none⟩,
   ⟨(some 4), (.alloc 95), none⟩,
   ⟨(some 3), (.assign (.tmp 9)), none⟩,
   ⟨none, (.store 95 (.tmp 4) (.tmp 11)), none⟩])
 (.seq (.regq [⟨(some 12), (.fieldAddr 95 (.tmp 4) 0), none⟩,
   ⟨(some 13), (.load 3 (.tmp 12)), none⟩,
   ⟨(some 14), (.call (.mk (.value (.func 68)) #[(.tmp 13)] #[3])), none⟩,
   ⟨(some 15), (.unOp .not 4 (.tmp 14)), none⟩,
   ⟨(some 16), (.move (.tmp 15)), none⟩,
   ⟨(some 17), (.fieldAddr 95 (.tmp 4) 1), (some (16, false))⟩,
   ⟨(some 18), (.load 3 (.tmp 17)), (some (16, false))⟩,
   ⟨(some 19), (.call (.mk (.value (.func 97)) #[(.tmp 18), (.const (.int .i64 200)), (.const (.int .i64 5000))] #[3, 3, 3])), (some (16, false))⟩,
   ⟨(some 20), (.unOp .not 4 (.tmp 19)), (some (16, false))⟩,
   ⟨(some 21), (.pick (.tmp 16) (.const (.bool true)) (.tmp 20)), none⟩,
   ⟨(some 22), (.move (.tmp 21)), none⟩,
   ⟨(some 23), (.move (.tmp 3)), (some (22, false))⟩,
   ⟨(some 24), (.binOp .eql 3 (.tmp 23) (.const (.int .i64 0)) 3), (some (22, false))⟩,
   ⟨(some 25), (.move (.tmp 24)), (some (22, false))⟩,
   ⟨(some 26), (.fieldAddr 95 (.tmp 4) 0), (some (25, true))⟩,
   ⟨(some 27), (.load 3 (.tmp 26)), (some (25, true))⟩,
   ⟨(some 28), (.binOp .neq 3 (.tmp 27) (.const (.int .i64 0)) 3), (some (25, true))⟩,
   ⟨(some 29), (.pick (.tmp 25) (.tmp 28) (.const (.bool false))), (some (22, false))⟩,
   ⟨(some 30), (.pick (.tmp 22) (.const (.bool true)) (.tmp 29)), none⟩,
   ⟨(some 31), (.move (.tmp 30)), none⟩,
   ⟨(some 32), (.move (.tmp 3)), (some (31, false))⟩,
   ⟨(some 33), (.binOp .gtr 3 (.tmp 32) (.const (.int .i64 0)) 3), (some (31, false))⟩,
   ⟨(some 34), (.move (.tmp 33)), (some (31, false))⟩,
   ⟨(some 35), (.move (.tmp 0)), (some (34, true))⟩,
   ⟨(some 36), (.move (.tmp 3)), (some (34, true))⟩,
   ⟨(some 37), (.binOp .sub 3 (.tmp 36) (.const (.int .i64 1)) 3), (some (34, true))⟩,
   ⟨(some 38), (.indexAddr 24 (.tmp 35) (.tmp 37)), (some (34, true))⟩,
   ⟨(some 39), (.fieldAddr 95 (.tmp 38) 0), (some (34, true))⟩,
   ⟨(some 40), (.load 3 (.tmp 39)), (some (34, true))⟩,
   ⟨(some 41), (.fieldAddr 95 (.tmp 4) 0), (some (34, true))⟩,
   ⟨(some 42), (.load 3 (.tmp 41)), (some (34, true))⟩,
   ⟨(some 43), (.binOp .geq 3 (.tmp 40) (.tmp 42) 3), (some (34, true))⟩,
   ⟨(some 44), (.pick (.tmp 34) (.tmp 43) (.const (.bool false))), (some (31, false))⟩,
   ⟨(some 45), (.pick (.tmp 31) (.const (.bool true)) (.tmp 44)), none⟩])
 (.cond (.tmp 45) (.seq (.reg [⟨(some 2), (.assign (.const (.bool false))), none⟩])
 .ret) .skip))))
 (.reg [⟨(some 46), (.binOp .add 3 (.tmp 7) (.const (.int .i64 1)) 3), none⟩,
   ⟨(some 7), (.move (.tmp 46)), none⟩])))))))
 (.seq (.reg [⟨(some 47), (.move (.tmp 0)), none⟩,
   ⟨(some 48), (.call (.mk (.builtin .len) #[(.tmp 47)] #[24])), none⟩,
   ⟨(some 49), (.call (.mk (.value (.func 97)) #[(.tmp 48), (.const (.int .i64 1)), (.const (.int .i64 8))] #[3, 3, 3])), none⟩,
   ⟨(some 2), (.assign (.tmp 49)), none⟩])
 .ret)))
theorem x_impl_areSteps : Txt Tryd.prog 66 c_impl_areSteps [.tmp 2] 1 := ⟨by kernel_rfl, by kernel_rfl, _, _, Tryd.func66, rfl, by kernel_rfl, by kernel_rfl, by kernel_rfl, rfl, by decide⟩
/-- loop.example/g01062/impl.areAbsentees -/
def c_impl_areAbsentees : Cd :=
 (.seq (.reg [⟨(some 2), (.assign (.const (.bool false))), none⟩])
 (.seq (.seq (.reg [⟨(some 5), (.move (.tmp 0)), none⟩,
   ⟨(some 6), (.call (.mk (.builtin .len) #[(.tmp 5)] #[25])), none⟩,
   ⟨(some 7), (.move (.const (.int .i64 0))), none⟩])
 (.block 0 (.loop (.seq (.reg [⟨(some 8), (.binOp .lss 3 (.tmp 7) (.tmp 6) 3), none⟩])
 (.seq (.cond (.tmp 8) .skip (.exit 0))
 (.seq (.block 1 (.seq (.reg [⟨(some 9), (.move (.tmp 7)), none⟩,
   ⟨(some 10), (.indexAddr 25 (.tmp 5) (.tmp 7)), none⟩,
   ⟨(some 11), (.load 40 (.tmp 10)), none⟩,
   ⟨(some 4), (.alloc 40), none⟩,
   ⟨(some 3), (.assign (.tmp 9)), none⟩,
   ⟨none, (.store 40 (.tmp 4) (.tmp 11)), none⟩])
 (.seq (.reg [⟨(some 12), (.fieldAddr 40 (.tmp 4) 0), none⟩,
   ⟨(some 13), (.load 3 (.tmp 12)), none⟩,
   ⟨(some 14), (.call (.mk (.value (.func 97)) #[(.tmp 13), (.const (.int .i64 1)), (.const (.int .i64 99))] #[3, 3, 3])), none⟩,
   ⟨(some 15), (.unOp .not 4 (.tmp 14)), none⟩,
   ⟨(some 16), (.move (.tmp 15)), none⟩,
   ⟨(some 17), (.fieldAddr 40 (.tmp 4) 1), (some (16, false))⟩,
   ⟨(some 18), (.load 3 (.tmp 17)), (some (16, false))⟩,
   ⟨(some 19), (.call (.mk (.value (.func 68)) #[(.tmp 18)] #[3])), (some (16, false))⟩,
   ⟨(some 20), (.unOp .not 4 (.tmp 19)), (some (16, false))⟩,
   ⟨(some 21), (.pick (.tmp 16) (.const (.bool true)) (.tmp 20)), none⟩,
   ⟨(some 22), (.move (.tmp 21)), none⟩,
   ⟨(some 23), (.move (.tmp 0)), (some (22, false))⟩,
   ⟨(some 24), (.move (.tmp 3)), (some (22, false))⟩,
   ⟨(some 25), (.slice 25 (.tmp 23) none (some (.tmp 24)) none), (some (22, false))⟩,
   ⟨(some 26), (.makeFunc (.func 126) #[] #[(.tmp 4)]), (some (22, false))⟩,
   ⟨(some 27), (.call (.mk (.value (.func 125)) #[(.tmp 25), (.tmp 26)] #[25, 125])), (some (22, false))⟩,
   ⟨(some 28), (.pick (.tmp 22) (.const (.bool true)) (.tmp 27)), none⟩])
 (.cond (.tmp 28) (.seq (.reg [⟨(some 2), (.assign (.const (.bool false))), none⟩])
 .ret) .skip))))
 (.reg [⟨(some 29), (.binOp .add 3 (.tmp 7) (.const (.int .i64 1)) 3), none⟩,
   ⟨(some 7), (.move (.tmp 29)), none⟩])))))))
 (.seq (.reg [⟨(some 30), (.move (.tmp 0)), none⟩,
   ⟨(some 31), (.call (.mk (.builtin .len) #[(.tmp 30)] #[25])), none⟩,
   ⟨(some 32), (.binOp .leq 3 (.tmp 31) (.const (.int .i64 12)) 3), none⟩,
   ⟨(some 2), (.assign (.tmp 32)), none⟩])
 .ret)))
theorem x_impl_areAbsentees : Txt Tryd.prog 67 c_impl_areAbsentees [.tmp 2] 1 := ⟨by kernel_rfl, by kernel_rfl, _, _, Tryd.func67, rfl, by kernel_rfl, by kernel_rfl, by kernel_rfl, rfl, by decide⟩
/-- loop.example/g01062/impl.isBid -/
def c_impl_isBid : Cd :=
 (.seq (.reg [⟨(some 2), (.assign (.const (.bool false))), none⟩])
 (.seq (.reg [⟨(some 3), (.move (.tmp 0)), none⟩,
   ⟨(some 4), (.call (.mk (.value (.func 97)) #[(.tmp 3), (.const (.int .i64 0)), (.const (.int .i64 20000))] #[3, 3, 3])), none⟩,
   ⟨(some 2), (.assign (.tmp 4)), none⟩])
 .ret))
theorem x_impl_isBid : Txt Tryd.prog 68 c_impl_isBid [.tmp 2] 1 := ⟨by kernel_rfl, by kernel_rfl, _, _, Tryd.func68, rfl, by kernel_rfl, by kernel_rfl, by kernel_rfl, rfl, by decide⟩
/-- loop.example/g01062/impl.roomBids -/
def c_impl_roomBids : Cd :=
 (.seq (.reg [⟨(some 6), (.assign (.const (.slice none 0 0))), none⟩,
   ⟨(some 7), (.assign (.const (.int .i64 0))), none⟩])
 (.seq (.reg [⟨(some 8), (.alloc 30), none⟩])
 (.seq (.reg [⟨(some 9), (.assign (.const (.int .i64 0))), none⟩])
 (.seq (.reg [⟨(some 12), (.move (.tmp 2)), none⟩,
   ⟨(some 10), (.alloc 3), none⟩,
   ⟨none, (.store 3 (.tmp 10) (.tmp 12)), none⟩])
 (.block 0 (.loop (.seq (.block 1 (.seq (.reg [⟨(some 16), (.move (.tmp 1)), none⟩,
   ⟨(some 17), (.makeFunc (.func 128) #[] #[(.tmp 10), (.tmp 8)]), none⟩,
   ⟨(some 18), (.call (.mk (.value (.func 127)) #[(.tmp 16), (.tmp 17)] #[25, 125])), none⟩,
   ⟨(some 11), (.assign (.tmp 18)), none⟩])
 (.seq (.seq (.reg [⟨(some 19), (.move (.tmp 11)), none⟩,
   ⟨(some 20), (.binOp .lss 3 (.tmp 19) (.const (.int .i64 0)) 3), none⟩])
 (.cond (.tmp 20) (.seq (.reg [⟨(some 21), (.load 30 (.tmp 8)), none⟩,
   ⟨(some 22), (.move (.tmp 9)), none⟩,
   ⟨(some 6), (.assign (.tmp 21)), none⟩,
   ⟨(some 7), (.assign (.tmp 22)), none⟩])
 .ret) .skip))
 (.seq (.regt [⟨(some 23), (.load 30 (.tmp 8)), none⟩,
   ⟨(some 24), (.move (.tmp 1)), none⟩,
   ⟨(some 25), (.move (.tmp 11)), none⟩,
   ⟨(some 26), (.indexAddr 25 (.tmp 24) (.tmp 25)), none⟩,
   ⟨(some 27), (.fieldAddr 40 (.tmp 26) 0), none⟩,
   ⟨(some 28), (.load 3 (.tmp 27)), none⟩] (.one true ⟨(some 29), (.buildSlice 30 1 #[(0, (.tmp 28))]), none⟩
   (.one false ⟨(some 30), (.call (.mk (.builtin .append) #[(.tmp 23), (.tmp 29)] #[30, 30])), none⟩
   (.one false ⟨none, (.store 30 (.tmp 8) (.tmp 30)), none⟩
   .done))) [(.tmp 8)])
 (.reg [⟨(some 31), (.load 3 (.tmp 10)), none⟩,
   ⟨(some 9), (.assign (.tmp 31)), none⟩])))))
 (.seq (.seq (.reg [⟨(some 32), (.load 3 (.tmp 10)), none⟩])
 (.reg [⟨(some 10), (.alloc 3), none⟩,
   ⟨none, (.store 3 (.tmp 10) (.tmp 32)), none⟩]))
 (.reg [⟨(some 13), (.move (.tmp 0)), none⟩,
   ⟨(some 14), (.load 3 (.tmp 10)), none⟩,
   ⟨(some 15), (.call (.mk (.value (.func 72)) #[(.tmp 13), (.tmp 14)] #[24, 3])), none⟩,
   ⟨none, (.store 3 (.tmp 10) (.tmp 15)), none⟩])))))))))
theorem x_impl_roomBids : Txt Tryd.prog 69 c_impl_roomBids [.tmp 6, .tmp 7] 3 := ⟨by kernel_rfl, by kernel_rfl, _, _, Tryd.func69, rfl, by kernel_rfl, by kernel_rfl, by kernel_rfl, rfl, by decide⟩
/-- loop.example/g01062/spec.l22Asked -/
def c_spec_l22Asked : Cd :=
 (.seq (.reg [⟨(some 6), (.assign (.const (.bool false))), none⟩])
 (.seq (.reg [⟨(some 7), (.move (.tmp 0)), none⟩,
   ⟨(some 8), (.call (.mk (.value (.func 78)) #[(.tmp 7)] #[24])), none⟩,
   ⟨(some 9), (.move (.tmp 8)), none⟩,
   ⟨(some 10), (.move (.tmp 1)), (some (9, true))⟩,
   ⟨(some 11), (.call (.mk (.value (.func 81)) #[(.tmp 10)] #[25])), (some (9, true))⟩,
   ⟨(some 12), (.pick (.tmp 9) (.tmp 11) (.const (.bool false))), none⟩,
   ⟨(some 13), (.move (.tmp 12)), none⟩,
   ⟨(some 14), (.move (.tmp 2)), (some (13, true))⟩,
   ⟨(some 15), (.call (.mk (.value (.func 129)) #[(.tmp 14)] #[3])), (some (13, true))⟩,
   ⟨(some 16), (.pick (.tmp 13) (.tmp 15) (.const (.bool false))), none⟩,
   ⟨(some 6), (.assign (.tmp 16)), none⟩])
 .ret))
theorem x_spec_l22Asked : Txt Tryd.prog 70 c_spec_l22Asked [.tmp 6] 3 := ⟨by kernel_rfl, by kernel_rfl, _, _, Tryd.func70, rfl, by kernel_rfl, by kernel_rfl, by kernel_rfl, rfl, by decide⟩
/-- loop.example/g01062/spec.l22Room -/
def c_spec_l22Room : Cd :=
 (.seq (.reg [⟨(some 6), (.assign (.const (.slice none 0 0))), none⟩,
   ⟨(some 7), (.assign (.const (.int .i64 0))), none⟩])
 (.seq (.reg [⟨(some 14), (.buildSlice 30 0 #[]), none⟩,
   ⟨(some 8), (.assign (.tmp 14)), none⟩])
 (.seq (.reg [⟨(some 15), (.move (.tmp 2)), none⟩,
   ⟨(some 9), (.assign (.tmp 15)), none⟩,
   ⟨(some 10), (.assign (.const (.int .i64 0))), none⟩,
   ⟨(some 11), (.assign (.const (.int .i64 0))), none⟩])
 (.block 0 (.loop (.block 1 (.seq (.reg [⟨(some 12), (.assign (.const (.int .i64 0))), none⟩])
 (.seq (.seq (.reg [⟨(some 16), (.move (.tmp 1)), none⟩,
   ⟨(some 17), (.call (.mk (.builtin .len) #[(.tmp 16)] #[25])), none⟩,
   ⟨(some 18), (.binOp .sub 3 (.tmp 17) (.const (.int .i64 1)) 3), none⟩,
   ⟨(some 13), (.assign (.tmp 18)), none⟩])
 (.block 2 (.loop (.seq (.seq (.reg [⟨(some 19), (.move (.tmp 13)), none⟩,
   ⟨(some 20), (.binOp .geq 3 (.tmp 19) (.const (.int .i64 0)) 3), none⟩])
 (.cond (.tmp 20) .skip (.exit 2)))
 (.seq (.block 3 (.seq (.reg [⟨(some 23), (.move (.tmp 1)), none⟩,
   ⟨(some 24), (.move (.tmp 13)), none⟩,
   ⟨(some 25), (.indexAddr 25 (.tmp 23) (.tmp 24)), none⟩,
   ⟨(some 26), (.fieldAddr 40 (.tmp 25) 1), none⟩,
   ⟨(some 27), (.load 3 (.tmp 26)), none⟩,
   ⟨(some 28), (.move (.tmp 9)), none⟩,
   ⟨(some 29), (.binOp .geq 3 (.tmp 27) (.tmp 28) 3), none⟩,
   ⟨(some 30), (.move (.tmp 29)), none⟩,
   ⟨(some 31), (.move (.tmp 1)), (some (30, true))⟩,
   ⟨(some 32), (.move (.tmp 13)), (some (30, true))⟩,
   ⟨(some 33), (.indexAddr 25 (.tmp 31) (.tmp 32)), (some (30, true))⟩,
   ⟨(some 34), (.fieldAddr 40 (.tmp 33) 0), (some (30, true))⟩,
   ⟨(some 35), (.load 3 (.tmp 34)), (some (30, true))⟩,
   ⟨(some 36), (.move (.tmp 11)), (some (30, true))⟩,
   ⟨(some 37), (.binOp .neq 3 (.tmp 35) (.tmp 36) 3), (some (30, true))⟩,
   ⟨(some 38), (.pick (.tmp 30) (.tmp 37) (.const (.bool false))), none⟩])
 (.cond (.tmp 38) (.reg [⟨(some 39), (.move (.tmp 1)), none⟩,
   ⟨(some 40), (.move (.tmp 13)), none⟩,
   ⟨(some 41), (.indexAddr 25 (.tmp 39) (.tmp 40)), none⟩,
   ⟨(some 42), (.fieldAddr 40 (.tmp 41) 0), none⟩,
   ⟨(some 43), (.load 3 (.tmp 42)), none⟩,
   ⟨(some 12), (.assign (.tmp 43)), none⟩]) .skip)))
 (.reg [⟨(some 21), (.move (.tmp 13)), none⟩,
   ⟨(some 22), (.binOp .sub 3 (.tmp 21) (.const (.int .i64 1)) 3), none⟩,
   ⟨(some 13), (.assign (.tmp 22)), none⟩]))))))
 (.seq (.seq (.reg [⟨(some 44), (.move (.tmp 12)), none⟩,
   ⟨(some 45), (.binOp .eql 3 (.tmp 44) (.const (.int .i64 0)) 3), none⟩])
 (.cond (.tmp 45) (.seq (.reg [⟨(some 46), (.move (.tmp 8)), none⟩,
   ⟨(some 47), (.move (.tmp 10)), none⟩,
   ⟨(some 6), (.assign (.tmp 46)), none⟩,
   ⟨(some 7), (.assign (.tmp 47)), none⟩])
 .ret) .skip))
 (.seq (.reg [⟨(some 48), (.move (.tmp 8)), none⟩,
   ⟨(some 49), (.move (.tmp 12)), none⟩,
   ⟨(some 50), (.buildSlice 30 1 #[(0, (.tmp 49))]), none⟩,
   ⟨(some 51), (.call (.mk (.builtin .append) #[(.tmp 48), (.tmp 50)] #[30, 30])), none⟩,
   ⟨(some 8), (.assign (.tmp 51)), none⟩])
 (.seq (.reg [⟨(some 52), (.move (.tmp 12)), none⟩,
   ⟨(some 11), (.assign (.tmp 52)), none⟩])
 (.seq (.reg [⟨(some 53), (.move (.tmp 9)), none⟩,
   ⟨(some 10), (.assign (.tmp 53)), none⟩])
 (.reg [⟨(some 54), (.move (.tmp 0)), none⟩,
   ⟨(some 55), (.move (.tmp 9)), none⟩,
   ⟨(some 56), (.call (.mk (.value (.func 75)) #[(.tmp 54), (.tmp 55)] #[24, 3])), none⟩,
   ⟨(some 9), (.assign (.tmp 56)), none⟩])))))))))))))
theorem x_spec_l22Room : Txt Tryd.prog 71 c_spec_l22Room [.tmp 6, .tmp 7] 3 := ⟨by kernel_rfl, by kernel_rfl, _, _, Tryd.func71, rfl, by kernel_rfl, by kernel_rfl, by kernel_rfl, rfl, by decide⟩
/-- loop.example/g01062/impl.nextBid -/
def c_impl_nextBid : Cd :=
 (.seq (.reg [⟨(some 4), (.assign (.const (.int .i64 0))), none⟩])
 (.seq (.reg [⟨(some 5), (.assign (.const (.int .i64 0))), none⟩])
 (.seq (.seq (.reg [⟨(some 8), (.move (.tmp 0)), none⟩,
   ⟨(some 9), (.call (.mk (.builtin .len) #[(.tmp 8)] #[24])), none⟩,
   ⟨(some 10), (.move (.const (.int .i64 0))), none⟩])
 (.block 0 (.loop (.seq (.reg [⟨(some 11), (.binOp .lss 3 (.tmp 10) (.tmp 9) 3), none⟩])
 (.seq (.cond (.tmp 11) .skip (.exit 0))
 (.seq (.block 1 (.seq (.reg [⟨(some 12), (.indexAddr 24 (.tmp 8) (.tmp 10)), none⟩,
   ⟨(some 13), (.load 95 (.tmp 12)), none⟩,
   ⟨(some 7), (.alloc 95), none⟩,
   ⟨none, (.store 95 (.tmp 7) (.tmp 13)), none⟩])
 (.seq (.reg [⟨(some 14), (.fieldAddr 95 (.tmp 7) 0), none⟩,
   ⟨(some 15), (.load 3 (.tmp 14)), none⟩,
   ⟨(some 16), (.move (.tmp 1)), none⟩,
   ⟨(some 17), (.binOp .leq 3 (.tmp 15) (.tmp 16) 3), none⟩])
 (.cond (.tmp 17) (.reg [⟨(some 18), (.fieldAddr 95 (.tmp 7) 1), none⟩,
   ⟨(some 19), (.load 3 (.tmp 18)), none⟩,
   ⟨(some 5), (.assign (.tmp 19)), none⟩]) .skip))))
 (.reg [⟨(some 20), (.binOp .add 3 (.tmp 10) (.const (.int .i64 1)) 3), none⟩,
   ⟨(some 10), (.move (.tmp 20)), none⟩])))))))
 (.seq (.reg [⟨(some 21), (.move (.tmp 1)), none⟩,
   ⟨(some 22), (.move (.tmp 5)), none⟩,
   ⟨(some 23), (.binOp .add 3 (.tmp 21) (.tmp 22) 3), none⟩,
   ⟨(some 4), (.assign (.tmp 23)), none⟩])
 .ret))))
theorem x_impl_nextBid : Txt Tryd.prog 72 c_impl_nextBid [.tmp 4] 2 := ⟨by kernel_rfl, by kernel_rfl, _, _, Tryd.func72, rfl, by kernel_rfl, by kernel_rfl, by kernel_rfl, rfl, by decide⟩
/-- (*loop.example/g01062/spec.l1Cur).one -/
def c_spec_l1Cur_one : Cd :=
 (.seq (.reg [⟨(some 4), (.assign (.const (.bool false))), none⟩])
 (.seq (.reg [⟨(some 5), (.move (.tmp 0)), none⟩,
   ⟨(some 6), (.move (.tmp 1)), none⟩,
   ⟨(some 7), (.call (.mk (.value (.func 65)) #[(.tmp 5), (.tmp 6)] #[80, 3])), none⟩,
   ⟨(some 8), (.binOp .eql 3 (.tmp 7) (.const (.int .i64 0)) 3), none⟩,
   ⟨(some 4), (.assign (.tmp 8)), none⟩])
 .ret))
theorem x_spec_l1Cur_one : Txt Tryd.prog 73 c_spec_l1Cur_one [.tmp 4] 2 := ⟨by kernel_rfl, by kernel_rfl, _, _, Tryd.func73, rfl, by kernel_rfl, by kernel_rfl, by kernel_rfl, rfl, by decide⟩
/-- loop.example/g01062/impl.couldWin -/
def c_impl_couldWin : Cd :=
 (.seq (.reg [⟨(some 7), (.box 3 (.tmp 3)), none⟩,
   ⟨(some 8), (.assign (.const (.int .i64 0))), none⟩,
   ⟨(some 9), (.assign (.const (.bool false))), none⟩])
 (.seq (.reg [⟨(some 15), (.move (.tmp 1)), none⟩,
   ⟨(some 16), (.makeFunc (.func 130) #[] #[(.tmp 7)]), none⟩,
   ⟨(some 17), (.call (.mk (.value (.func 127)) #[(.tmp 15), (.tmp 16)] #[25, 125])), none⟩,
   ⟨(some 10), (.assign (.tmp 17)), none⟩])
 (.seq (.seq (.reg [⟨(some 18), (.move (.tmp 10)), none⟩,
   ⟨(some 19), (.binOp .lss 3 (.tmp 18) (.const (.int .i64 0)) 3), none⟩])
 (.cond (.tmp 19) (.seq (.reg [⟨(some 8), (.assign (.const (.int .i64 0))), none⟩,
   ⟨(some 9), (.assign (.const (.bool false))), none⟩])
 .ret) .skip))
 (.seq (.reg [⟨(some 20), (.move (.tmp 1)), none⟩,
   ⟨(some 21), (.call (.mk (.value (.func 131)) #[(.tmp 20)] #[25])), none⟩,
   ⟨(some 11), (.assign (.tmp 21)), none⟩])
 (.seq (.seq (.reg [⟨(some 22), (.move (.tmp 2)), none⟩,
   ⟨(some 12), (.assign (.tmp 22)), none⟩])
 (.block 0 (.loop (.seq (.seq (.reg [⟨(some 23), (.move (.tmp 12)), none⟩,
   ⟨(some 24), (.binOp .leq 3 (.tmp 23) (.const (.int .i64 20000)) 3), none⟩])
 (.cond (.tmp 24) .skip (.exit 0)))
 (.seq (.block 1 (.seq (.reg [⟨(some 28), (.move (.tmp 11)), none⟩,
   ⟨(some 29), (.move (.tmp 10)), none⟩,
   ⟨(some 30), (.move (.tmp 12)), none⟩,
   ⟨(some 31), (.indexAddr 25 (.tmp 28) (.tmp 29)), none⟩,
   ⟨(some 32), (.fieldAddr 40 (.tmp 31) 1), none⟩,
   ⟨none, (.store 3 (.tmp 32) (.tmp 30)), none⟩])
 (.seq (.reg [⟨(some 34), (.move (.tmp 0)), none⟩,
   ⟨(some 35), (.move (.tmp 11)), none⟩,
   ⟨(some 36), (.move (.tmp 2)), none⟩,
   ⟨(some 37), (.call (.mk (.value (.func 69)) #[(.tmp 34), (.tmp 35), (.tmp 36)] #[24, 25, 3])), none⟩,
   ⟨(some 33), (.move (.tmp 37)), none⟩,
   ⟨(some 38), (.extract (.tmp 33) 0), none⟩,
   ⟨(some 39), (.extract (.tmp 33) 1), none⟩,
   ⟨(some 13), (.assign (.tmp 38)), none⟩,
   ⟨(some 14), (.assign (.tmp 39)), none⟩])
 (.seq (.regq [⟨(some 40), (.move (.tmp 13)), none⟩,
   ⟨(some 41), (.call (.mk (.builtin .len) #[(.tmp 40)] #[30])), none⟩,
   ⟨(some 42), (.binOp .gtr 3 (.tmp 41) (.const (.int .i64 0)) 3), none⟩,
   ⟨(some 43), (.move (.tmp 42)), none⟩,
   ⟨(some 44), (.move (.tmp 13)), (some (43, true))⟩,
   ⟨(some 45), (.move (.tmp 13)), (some (43, true))⟩,
   ⟨(some 46), (.call (.mk (.builtin .len) #[(.tmp 45)] #[30])), (some (43, true))⟩,
   ⟨(some 47), (.binOp .sub 3 (.tmp 46) (.const (.int .i64 1)) 3), (some (43, true))⟩,
   ⟨(some 48), (.indexAddr 30 (.tmp 44) (.tmp 47)), (some (43, true))⟩,
   ⟨(some 49), (.load 3 (.tmp 48)), (some (43, true))⟩,
   ⟨(some 50), (.load 3 (.tmp 7)), (some (43, true))⟩,
   ⟨(some 51), (.binOp .eql 3 (.tmp 49) (.tmp 50) 3), (some (43, true))⟩,
   ⟨(some 52), (.pick (.tmp 43) (.tmp 51) (.const (.bool false))), none⟩])
 (.cond (.tmp 52) (.seq (.reg [⟨(some 53), (.move (.tmp 12)), none⟩,
   ⟨(some 8), (.assign (.tmp 53)), none⟩,
   ⟨(some 9), (.assign (.const (.bool true))), none⟩])
 .ret) .skip)))))
 (.reg [⟨(some 25), (.move (.tmp 0)), none⟩,
   ⟨(some 26), (.move (.tmp 12)), none⟩,
   ⟨(some 27), (.call (.mk (.value (.func 72)) #[(.tmp 25), (.tmp 26)] #[24, 3])), none⟩,
   ⟨(some 12), (.assign (.tmp 27)), none⟩]))))))
 (.seq (.reg [⟨(some 8), (.assign (.const (.int .i64 0))), none⟩,
   ⟨(some 9), (.assign (.const (.bool false))), none⟩])
 .ret))))))
theorem x_impl_couldWin : Txt Tryd.prog 74 c_impl_couldWin [.tmp 8, .tmp 9] 4 := ⟨by kernel_rfl, by kernel_rfl, _, _, Tryd.func74, rfl, by kernel_rfl, by kernel_rfl, by kernel_rfl, rfl, by decide⟩
/-- loop.example/g01062/spec.l22Next -/
def c_spec_l22Next : Cd :=
 (.seq (.reg [⟨(some 4), (.assign (.const (.int .i64 0))), none⟩])
 (.seq (.reg [⟨(some 5), (.assign (.const (.int .i64 0))), none⟩])
 (.seq (.seq (.reg [⟨(some 6), (.assign (.const (.int .i64 0))), none⟩])
 (.block 0 (.loop (.seq (.seq (.reg [⟨(some 7), (.move (.tmp 6)), none⟩,
   ⟨(some 8), (.move (.tmp 0)), none⟩,
   ⟨(some 9), (.call (.mk (.builtin .len) #[(.tmp 8)] #[24])), none⟩,
   ⟨(some 10), (.binOp .lss 3 (.tmp 7) (.tmp 9) 3), none⟩])
 (.cond (.tmp 10) .skip (.exit 0)))
 (.seq (.block 1 (.seq (.reg [⟨(some 13), (.move (.tmp 0)), none⟩,
   ⟨(some 14), (.move (.tmp 6)), none⟩,
   ⟨(some 15), (.indexAddr 24 (.tmp 13) (.tmp 14)), none⟩,
   ⟨(some 16), (.fieldAddr 95 (.tmp 15) 0), none⟩,
   ⟨(some 17), (.load 3 (.tmp 16)), none⟩,
   ⟨(some 18), (.move (.tmp 1)), none⟩,
   ⟨(some 19), (.binOp .leq 3 (.tmp 17) (.tmp 18) 3), none⟩])
 (.cond (.tmp 19) (.reg [⟨(some 20), (.move (.tmp 0)), none⟩,
   ⟨(some 21), (.move (.tmp 6)), none⟩,
   ⟨(some 22), (.indexAddr 24 (.tmp 20) (.tmp 21)), none⟩,
   ⟨(some 23), (.fieldAddr 95 (.tmp 22) 1), none⟩,
   ⟨(some 24), (.load 3 (.tmp 23)), none⟩,
   ⟨(some 5), (.assign (.tmp 24)), none⟩]) .skip)))
 (.reg [⟨(some 11), (.move (.tmp 6)), none⟩,
   ⟨(some 12), (.binOp .add 3 (.tmp 11) (.const (.int .i64 1)) 3), none⟩,
   ⟨(some 6), (.assign (.tmp 12)), none⟩]))))))
 (.seq (.reg [⟨(some 25), (.move (.tmp 1)), none⟩,
   ⟨(some 26), (.move (.tmp 5)), none⟩,
   ⟨(some 27), (.binOp .add 3 (.tmp 25) (.tmp 26) 3), none⟩,
   ⟨(some 4), (.assign (.tmp 27)), none⟩])
 .ret))))
theorem x_spec_l22Next : Txt Tryd.prog 75 c_spec_l22Next [.tmp 4] 2 := ⟨by kernel_rfl, by kernel_rfl, _, _, Tryd.func75, rfl, by kernel_rfl, by kernel_rfl, by kernel_rfl, rfl, by decide⟩
/-- loop.example/g01062/spec.l22Wins -/
def c_spec_l22Wins : Cd :=
 (.seq (.reg [⟨(some 10), (.assign (.const (.bool false))), none⟩])
 (.seq (.reg [⟨(some 15), (.buildSlice 25 0 #[]), none⟩,
   ⟨(some 16), (.move (.tmp 1)), none⟩,
   ⟨(some 17), (.call (.mk (.builtin .append) #[(.tmp 15), (.tmp 16)] #[25, 25])), none⟩,
   ⟨(some 11), (.assign (.tmp 17)), none⟩])
 (.seq (.reg [⟨(some 18), (.move (.tmp 11)), none⟩,
   ⟨(some 19), (.move (.tmp 3)), none⟩,
   ⟨(some 20), (.indexAddr 25 (.tmp 18) (.tmp 19)), none⟩,
   ⟨(some 21), (.load 40 (.tmp 20)), none⟩,
   ⟨(some 12), (.alloc 40), none⟩,
   ⟨none, (.store 40 (.tmp 12) (.tmp 21)), none⟩])
 (.seq (.reg [⟨(some 22), (.move (.tmp 4)), none⟩,
   ⟨(some 23), (.fieldAddr 40 (.tmp 12) 1), none⟩,
   ⟨none, (.store 3 (.tmp 23) (.tmp 22)), none⟩])
 (.seq (.reg [⟨(some 24), (.move (.tmp 11)), none⟩,
   ⟨(some 25), (.move (.tmp 3)), none⟩,
   ⟨(some 26), (.load 40 (.tmp 12)), none⟩,
   ⟨(some 27), (.indexAddr 25 (.tmp 24) (.tmp 25)), none⟩,
   ⟨none, (.store 40 (.tmp 27) (.tmp 26)), none⟩])
 (.seq (.reg [⟨(some 29), (.move (.tmp 0)), none⟩,
   ⟨(some 30), (.move (.tmp 11)), none⟩,
   ⟨(some 31), (.move (.tmp 2)), none⟩,
   ⟨(some 32), (.call (.mk (.value (.func 71)) #[(.tmp 29), (.tmp 30), (.tmp 31)] #[24, 25, 3])), none⟩,
   ⟨(some 28), (.move (.tmp 32)), none⟩,
   ⟨(some 33), (.extract (.tmp 28) 0), none⟩,
   ⟨(some 34), (.extract (.tmp 28) 1), none⟩,
   ⟨(some 13), (.assign (.tmp 33)), none⟩,
   ⟨(some 14), (.assign (.tmp 34)), none⟩])
 (.seq (.regq [⟨(some 35), (.move (.tmp 13)), none⟩,
   ⟨(some 36), (.call (.mk (.builtin .len) #[(.tmp 35)] #[30])), none⟩,
   ⟨(some 37), (.binOp .gtr 3 (.tmp 36) (.const (.int .i64 0)) 3), none⟩,
   ⟨(some 38), (.move (.tmp 37)), none⟩,
   ⟨(some 39), (.move (.tmp 13)), (some (38, true))⟩,
   ⟨(some 40), (.move (.tmp 13)), (some (38, true))⟩,
   ⟨(some 41), (.call (.mk (.builtin .len) #[(.tmp 40)] #[30])), (some (38, true))⟩,
   ⟨(some 42), (.binOp .sub 3 (.tmp 41) (.const (.int .i64 1)) 3), (some (38, true))⟩,
   ⟨(some 43), (.indexAddr 30 (.tmp 39) (.tmp 42)), (some (38, true))⟩,
   ⟨(some 44), (.load 3 (.tmp 43)), (some (38, true))⟩,
   ⟨(some 45), (.fieldAddr 40 (.tmp 12) 0), (some (38, true))⟩,
   ⟨(some 46), (.load 3 (.tmp 45)), (some (38, true))⟩,
   ⟨(some 47), (.binOp .eql 3 (.tmp 44) (.tmp 46) 3), (some (38, true))⟩,
   ⟨(some 48), (.pick (.tmp 38) (.tmp 47) (.const (.bool false))), none⟩,
   ⟨(some 10), (.assign (.tmp 48)), none⟩])
 .ret)))))))
theorem x_spec_l22Wins : Txt Tryd.prog 76 c_spec_l22Wins [.tmp 10] 5 := ⟨by kernel_rfl, by kernel_rfl, _, _, Tryd.func76, rfl, by kernel_rfl, by kernel_rfl, by kernel_rfl, rfl, by decide⟩
/-- loop.example/g01062/spec.DrawAreSteps -/
def c_spec_DrawAreSteps : Cd :=
 (.seq (.reg [⟨(some 2), (.assign (.const (.slice none 0 0))), none⟩])
 (.seq (.reg [⟨(some 4), (.move (.tmp 0)), none⟩,
   ⟨(some 5), (.build 83 #[(0, (.tmp 4))]), none⟩,
   ⟨(some 6), (.box 83 (.tmp 5)), none⟩,
   ⟨(some 3), (.assign (.tmp 6)), none⟩])
 (.seq (.reg [⟨(some 7), (.move (.tmp 3)), none⟩,
   ⟨(some 8), (.call (.mk (.value (.func 62)) #[(.tmp 7)] #[80])), none⟩,
   ⟨(some 2), (.assign (.tmp 8)), none⟩])
 .ret)))
theorem x_spec_DrawAreSteps : Txt Tryd.prog 77 c_spec_DrawAreSteps [.tmp 2] 1 := ⟨by kernel_rfl, by kernel_rfl, _, _, Tryd.func77, rfl, by kernel_rfl, by kernel_rfl, by kernel_rfl, rfl, by decide⟩
/-- loop.example/g01062/spec.l22Steps -/
def c_spec_l22Steps : Cd :=
 (.seq (.reg [⟨(some 2), (.assign (.const (.bool false))), none⟩])
 (.seq (.seq (.reg [⟨(some 3), (.assign (.const (.int .i64 0))), none⟩])
 (.block 0 (.loop (.seq (.seq (.reg [⟨(some 4), (.move (.tmp 3)), none⟩,
   ⟨(some 5), (.move (.tmp 0)), none⟩,
   ⟨(some 6), (.call (.mk (.builtin .len) #[(.tmp 5)] #[24])), none⟩,
   ⟨(some 7), (.binOp .lss 3 (.tmp 4) (.tmp 6) 3), none⟩])
 (.cond (.tmp 7) .skip (.exit 0)))
 (.seq (.block 1 (.seq (.regq [⟨(some 10), (.move (.tmp 0)), none⟩,
   ⟨(some 11), (.move (.tmp 3)), none⟩,
   ⟨(some 12), (.indexAddr 24 (.tmp 10) (.tmp 11)), none⟩,
   ⟨(some 13), (.fieldAddr 95 (.tmp 12) 0), none⟩,
   ⟨(some 14), (.load 3 (.tmp 13)), none⟩,
   ⟨(some 15), (.call (.mk (.value (.func 129)) #[(.tmp 14)] #[3])), none⟩,
   ⟨(some 16), (.unOp .not 4 (.tmp 15)), none⟩,
   ⟨(some 17), (.move (.tmp 16)), none⟩,
   ⟨(some 18), (.move (.tmp 0)), (some (17, false))⟩,
   ⟨(some 19), (.move (.tmp 3)), (some (17, false))⟩,
   ⟨(some 20), (.indexAddr 24 (.tmp 18) (.tmp 19)), (some (17, false))⟩,
   ⟨(some 21), (.fieldAddr 95 (.tmp 20) 1), (some (17, false))⟩,
   ⟨(some 22), (.load 3 (.tmp 21)), (some (17, false))⟩,
   ⟨(some 23), (.call (.mk (.value (.func 99)) #[(.tmp 22), (.const (.int .i64 200)), (.const (.int .i64 5000))] #[3, 3, 3])), (some (17, false))⟩,
   ⟨(some 24), (.unOp .not 4 (.tmp 23)), (some (17, false))⟩,
   ⟨(some 25), (.pick (.tmp 17) (.const (.bool true)) (.tmp 24)), none⟩,
   ⟨(some 26), (.move (.tmp 25)), none⟩,
   ⟨(some 27), (.move (.tmp 3)), (some (26, false))⟩,
   ⟨(some 28), (.binOp .gtr 3 (.tmp 27) (.const (.int .i64 0)) 3), (some (26, false))⟩,
   ⟨(some 29), (.move (.tmp 28)), (some (26, false))⟩,
   ⟨(some 30), (.move (.tmp 0)), (some (29, true))⟩,
   ⟨(some 31), (.move (.tmp 3)), (some (29, true))⟩,
   ⟨(some 32), (.binOp .sub 3 (.tmp 31) (.const (.int .i64 1)) 3), (some (29, true))⟩,
   ⟨(some 33), (.indexAddr 24 (.tmp 30) (.tmp 32)), (some (29, true))⟩,
   ⟨(some 34), (.fieldAddr 95 (.tmp 33) 0), (some (29, true))⟩,
   ⟨(some 35), (.load 3 (.tmp 34)), (some (29, true))⟩,
   ⟨(some 36), (.move (.tmp 0)), (some (29, true))⟩,
   ⟨(some 37), (.move (.tmp 3)), (some (29, true))⟩,
   ⟨(some 38), (.indexAddr 24 (.tmp 36) (.tmp 37)), (some (29, true))⟩,
   ⟨(some 39), (.fieldAddr 95 (.tmp 38) 0), (some (29, true))⟩,
   ⟨(some 40), (.load 3 (.tmp 39)), (some (29, true))⟩,
   ⟨(some 41), (.binOp .geq 3 (.tmp 35) (.tmp 40) 3), (some (29, true))⟩,
   ⟨(some 42), (.pick (.tmp 29) (.tmp 41) (.const (.bool false))), (some (26, false))⟩,
   ⟨(some 43), (.pick (.tmp 26) (.const (.bool true)) (.tmp 42)), none⟩])
 (.cond (.tmp 43) (.seq (.reg [⟨(some 2), (.assign (.const (.bool false))), none⟩])
 .ret) .skip)))
 (.reg [⟨(some 8), (.move (.tmp 3)), none⟩,
   ⟨(some 9), (.binOp .add 3 (.tmp 8) (.const (.int .i64 1)) 3), none⟩,
   ⟨(some 3), (.assign (.tmp 9)), none⟩]))))))
 (.seq (.reg [⟨(some 44), (.move (.tmp 0)), none⟩,
   ⟨(some 45), (.call (.mk (.builtin .len) #[(.tmp 44)] #[24])), none⟩,
   ⟨(some 46), (.call (.mk (.value (.func 99)) #[(.tmp 45), (.const (.int .i64 1)), (.const (.int .i64 8))] #[3, 3, 3])), none⟩,
   ⟨(some 47), (.move (.tmp 46)), none⟩,
   ⟨(some 48), (.move (.tmp 0)), (some (47, true))⟩,
   ⟨(some 49), (.indexAddr 24 (.tmp 48) (.const (.int .i64 0))), (some (47, true))⟩,
   ⟨(some 50), (.fieldAddr 95 (.tmp 49) 0), (some (47, true))⟩,
   ⟨(some 51), (.load 3 (.tmp 50)), (some (47, true))⟩,
   ⟨(some 52), (.binOp .eql 3 (.tmp 51) (.const (.int .i64 0)) 3), (some (47, true))⟩,
   ⟨(some 53), (.pick (.tmp 47) (.tmp 52) (.const (.bool false))), none⟩,
   ⟨(some 2), (.assign (.tmp 53)), none⟩])
 .ret)))
theorem x_spec_l22Steps : Txt Tryd.prog 78 c_spec_l22Steps [.tmp 2] 1 := ⟨by kernel_rfl, by kernel_rfl, _, _, Tryd.func78, rfl, by kernel_rfl, by kernel_rfl, by kernel_rfl, rfl, by decide⟩
/-- loop.example/g01062/spec.l1Num -/
def c_spec_l1Num : Cd :=
 (.seq (.reg [⟨(some 2), (.assign (.const (.string (ByteArray.mk #[])))), none⟩])
 (.seq (.seq (.reg [⟨(some 3), (.move (.tmp 0)), none⟩,
   ⟨(some 4), (.binOp .lss 3 (.tmp 3) (.const (.int .i64 0)) 3), none⟩])
 (.cond (.tmp 4) (.seq (.reg [⟨(some 5), (.move (.tmp 0)), none⟩,
   ⟨(some 6), (.unOp .neg 3 (.tmp 5)), none⟩,
   ⟨(some 7), (.call (.mk (.value (.func 80)) #[(.tmp 6)] #[3])), none⟩,
   ⟨(some 8), (.binOp .add 9 (.const (.string (ByteArray.mk #[45]))) (.tmp 7) 9), none⟩,
   ⟨(some 2), (.assign (.tmp 8)), none⟩])
 .ret) .skip))
 (.seq (.seq (.reg [⟨(some 9), (.move (.tmp 0)), none⟩,
   ⟨(some 10), (.binOp .lss 3 (.tmp 9) (.const (.int .i64 10)) 3), none⟩])
 (.cond (.tmp 10) (.seq (.reg [⟨(some 11), (.move (.tmp 0)), none⟩,
   ⟨(some 12), (.move (.tmp 0)), none⟩,
   ⟨(some 13), (.binOp .add 3 (.tmp 12) (.const (.int .i64 1)) 3), none⟩,
   ⟨(some 14), (.slice 9 (.const (.string (ByteArray.mk #[48, 49, 50, 51, 52, 53, 54, 55, 56, 57]))) (some (.tmp 11)) (some (.tmp 13)) none), none⟩,
   ⟨(some 2), (.assign (.tmp 14)), none⟩])
 .ret) .skip))
 (.seq (.regq [⟨(some 15), (.move (.tmp 0)), none⟩,
   ⟨(some 16), (.binOp .quo 3 (.tmp 15) (.const (.int .i64 10)) 3), none⟩,
   ⟨(some 17), (.call (.mk (.value (.func 80)) #[(.tmp 16)] #[3])), none⟩,
   ⟨(some 18), (.move (.tmp 0)), none⟩,
   ⟨(some 19), (.binOp .rem 3 (.tmp 18) (.const (.int .i64 10)) 3), none⟩,
   ⟨(some 20), (.move (.tmp 0)), none⟩,
   ⟨(some 21), (.binOp .rem 3 (.tmp 20) (.const (.int .i64 10)) 3), none⟩,
   ⟨(some 22), (.binOp .add 3 (.tmp 21) (.const (.int .i64 1)) 3), none⟩,
   ⟨(some 23), (.slice 9 (.const (.string (ByteArray.mk #[48, 49, 50, 51, 52, 53, 54, 55, 56, 57]))) (some (.tmp 19)) (some (.tmp 22)) none), none⟩,
   ⟨(some 24), (.binOp .add 9 (.tmp 17) (.tmp 23) 9), none⟩,
   ⟨(some 2), (.assign (.tmp 24)), none⟩])
 .ret))))
theorem x_spec_l1Num : Txt Tryd.prog 80 c_spec_l1Num [.tmp 2] 1 := ⟨by kernel_rfl, by kernel_rfl, _, _, Tryd.func80, rfl, by kernel_rfl, by kernel_rfl, by kernel_rfl, rfl, by decide⟩
/-- loop.example/g01062/spec.l22Good -/
def c_spec_l22Good : Cd :=
 (.seq (.reg [⟨(some 2), (.assign (.const (.bool false))), none⟩])
 (.seq (.seq (.reg [⟨(some 3), (.assign (.const (.int .i64 0))), none⟩])
 (.block 0 (.loop (.seq (.seq (.reg [⟨(some 5), (.move (.tmp 3)), none⟩,
   ⟨(some 6), (.move (.tmp 0)), none⟩,
   ⟨(some 7), (.call (.mk (.builtin .len) #[(.tmp 6)] #[25])), none⟩,
   ⟨(some 8), (.binOp .lss 3 (.tmp 5) (.tmp 7) 3), none⟩,
   ⟨(some 9), (.move (.tmp 8)), none⟩,
   ⟨(some 10), (.move (.tmp 3)), (some (9, true))⟩,
   ⟨(some 11), (.binOp .leq 3 (.tmp 10) (.const (.int .i64 12)) 3), (some (9, true))⟩,
   ⟨(some 12), (.pick (.tmp 9) (.tmp 11) (.const (.bool false))), none⟩])
 (.cond (.tmp 12) .skip (.exit 0)))
 (.seq (.block 1 (.seq (.seq (.reg [⟨(some 15), (.move (.tmp 0)), none⟩,
   ⟨(some 16), (.move (.tmp 3)), none⟩,
   ⟨(some 17), (.indexAddr 25 (.tmp 15) (.tmp 16)), none⟩,
   ⟨(some 18), (.fieldAddr 40 (.tmp 17) 0), none⟩,
   ⟨(some 19), (.load 3 (.tmp 18)), none⟩,
   ⟨(some 20), (.call (.mk (.value (.func 99)) #[(.tmp 19), (.const (.int .i64 1)), (.const (.int .i64 99))] #[3, 3, 3])), none⟩,
   ⟨(some 21), (.unOp .not 4 (.tmp 20)), none⟩,
   ⟨(some 22), (.move (.tmp 21)), none⟩,
   ⟨(some 23), (.move (.tmp 0)), (some (22, false))⟩,
   ⟨(some 24), (.move (.tmp 3)), (some (22, false))⟩,
   ⟨(some 25), (.indexAddr 25 (.tmp 23) (.tmp 24)), (some (22, false))⟩,
   ⟨(some 26), (.fieldAddr 40 (.tmp 25) 1), (some (22, false))⟩,
   ⟨(some 27), (.load 3 (.tmp 26)), (some (22, false))⟩,
   ⟨(some 28), (.call (.mk (.value (.func 129)) #[(.tmp 27)] #[3])), (some (22, false))⟩,
   ⟨(some 29), (.unOp .not 4 (.tmp 28)), (some (22, false))⟩,
   ⟨(some 30), (.pick (.tmp 22) (.const (.bool true)) (.tmp 29)), none⟩])
 (.cond (.tmp 30) (.seq (.reg [⟨(some 2), (.assign (.const (.bool false))), none⟩])
 .ret) .skip))
 (.seq (.reg [⟨(some 4), (.assign (.const (.int .i64 0))), none⟩])
 (.block 2 (.loop (.seq (.seq (.reg [⟨(some 31), (.move (.tmp 4)), none⟩,
   ⟨(some 32), (.move (.tmp 3)), none⟩,
   ⟨(some 33), (.binOp .lss 3 (.tmp 31) (.tmp 32) 3), none⟩])
 (.cond (.tmp 33) .skip (.exit 2)))
 (.seq (.block 3 (.seq (.regq [⟨(some 36), (.move (.tmp 0)), none⟩,
   ⟨(some 37), (.move (.tmp 4)), none⟩,
   ⟨(some 38), (.indexAddr 25 (.tmp 36) (.tmp 37)), none⟩,
   ⟨(some 39), (.fieldAddr 40 (.tmp 38) 0), none⟩,
   ⟨(some 40), (.load 3 (.tmp 39)), none⟩,
   ⟨(some 41), (.move (.tmp 0)), none⟩,
   ⟨(some 42), (.move (.tmp 3)), none⟩,
   ⟨(some 43), (.indexAddr 25 (.tmp 41) (.tmp 42)), none⟩,
   ⟨(some 44), (.fieldAddr 40 (.tmp 43) 0), none⟩,
   ⟨(some 45), (.load 3 (.tmp 44)), none⟩,
   ⟨(some 46), (.binOp .eql 3 (.tmp 40) (.tmp 45) 3), none⟩])
 (.cond (.tmp 46) (.seq (.reg [⟨(some 2), (.assign (.const (.bool false))), none⟩])
 .ret) .skip)))
 (.reg [⟨(some 34), (.move (.tmp 4)), none⟩,
   ⟨(some 35), (.binOp .add 3 (.tmp 34) (.const (.int .i64 1)) 3), none⟩,
   ⟨(some 4), (.assign (.tmp 35)), none⟩]))))))))
 (.reg [⟨(some 13), (.move (.tmp 3)), none⟩,
   ⟨(some 14), (.binOp .add 3 (.tmp 13) (.const (.int .i64 1)) 3), none⟩,
   ⟨(some 3), (.assign (.tmp 14)), none⟩]))))))
 (.seq (.reg [⟨(some 47), (.move (.tmp 0)), none⟩,
   ⟨(some 48), (.call (.mk (.builtin .len) #[(.tmp 47)] #[25])), none⟩,
   ⟨(some 49), (.binOp .leq 3 (.tmp 48) (.const (.int .i64 12)) 3), none⟩,
   ⟨(some 2), (.assign (.tmp 49)), none⟩])
 .ret)))
theorem x_spec_l22Good : Txt Tryd.prog 81 c_spec_l22Good [.tmp 2] 1 := ⟨by kernel_rfl, by kernel_rfl, _, _, Tryd.func81, rfl, by kernel_rfl, by kernel_rfl, by kernel_rfl, rfl, by decide⟩
end Go.Proofs.YtnjlleopgjggpaaDoor
