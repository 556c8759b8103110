/- The texts of the functions, edges struck, and closed facts on functions and types: written by program (gen.py). -/
import Derived.Test.YtgjkjibllgpnjaaD
import Derived.Test.YtgjkjibllgpnjaaProg
namespace Go.Proofs.Ytgjkjibllgpnjaa
open Go Go.RowKit Go.Proofs
/-- loop.example/g01062/laws.FnPrices -/
def c_laws_FnPrices : Cd :=
 (.seq (.reg [⟨(some 2), (.assign (.const (.bool false))), none⟩])
 (.seq (.seq (.reg [⟨(some 48), (.move (.tmp 0)), none⟩,
   ⟨(some 49), (.call (.mk (.value (.func 43)) #[(.tmp 48)] #[49])), none⟩])
 (.cond (.tmp 49) (.seq (.reg [⟨(some 2), (.assign (.const (.bool true))), none⟩])
 .ret) .skip))
 (.seq (.reg [⟨(some 51), (.move (.tmp 0)), none⟩,
   ⟨(some 52), (.call (.mk (.value (.func 44)) #[(.tmp 51)] #[49])), none⟩,
   ⟨(some 50), (.move (.tmp 52)), none⟩,
   ⟨(some 53), (.extract (.tmp 50) 0), none⟩,
   ⟨(some 54), (.extract (.tmp 50) 1), none⟩,
   ⟨(some 55), (.extract (.tmp 50) 2), none⟩,
   ⟨(some 56), (.extract (.tmp 50) 3), none⟩,
   ⟨(some 3), (.assign (.tmp 53)), none⟩,
   ⟨(some 4), (.assign (.tmp 54)), none⟩,
   ⟨(some 5), (.assign (.tmp 55)), none⟩,
   ⟨(some 6), (.assign (.tmp 56)), none⟩])
 (.seq (.reg [⟨(some 58), (.move (.tmp 3)), none⟩,
   ⟨(some 59), (.move (.tmp 4)), none⟩,
   ⟨(some 60), (.move (.tmp 5)), none⟩,
   ⟨(some 61), (.move (.tmp 6)), none⟩,
   ⟨(some 62), (.call (.mk (.value (.func 42)) #[(.tmp 58), (.tmp 59), (.tmp 60), (.tmp 61)] #[25, 3, 3, 3])), none⟩,
   ⟨(some 57), (.move (.tmp 62)), none⟩,
   ⟨(some 63), (.extract (.tmp 57) 0), none⟩,
   ⟨(some 64), (.extract (.tmp 57) 1), none⟩,
   ⟨(some 7), (.assign (.tmp 63)), none⟩,
   ⟨(some 8), (.assign (.tmp 64)), none⟩])
 (.seq (.seq (.reg [⟨(some 66), (.move (.tmp 3)), none⟩,
   ⟨(some 67), (.move (.tmp 4)), none⟩,
   ⟨(some 68), (.move (.tmp 5)), none⟩,
   ⟨(some 69), (.move (.tmp 6)), none⟩,
   ⟨(some 70), (.call (.mk (.value (.func 41)) #[(.tmp 66), (.tmp 67), (.tmp 68), (.tmp 69)] #[25, 3, 3, 3])), none⟩,
   ⟨(some 65), (.move (.tmp 70)), none⟩,
   ⟨(some 71), (.extract (.tmp 65) 0), none⟩,
   ⟨(some 72), (.extract (.tmp 65) 1), none⟩,
   ⟨(some 9), (.assign (.tmp 71)), none⟩,
   ⟨(some 10), (.assign (.tmp 72)), none⟩])
 (.seq (.reg [⟨(some 73), (.move (.tmp 8)), none⟩,
   ⟨(some 74), (.move (.tmp 10)), none⟩,
   ⟨(some 75), (.binOp .neq 4 (.tmp 73) (.tmp 74) 4), none⟩,
   ⟨(some 76), (.move (.tmp 75)), none⟩,
   ⟨(some 77), (.move (.tmp 7)), (some (76, false))⟩,
   ⟨(some 78), (.move (.tmp 9)), (some (76, false))⟩,
   ⟨(some 79), (.call (.mk (.value (.func 45)) #[(.tmp 77), (.tmp 78)] #[25, 25])), (some (76, false))⟩,
   ⟨(some 80), (.unOp .not 4 (.tmp 79)), (some (76, false))⟩,
   ⟨(some 81), (.pick (.tmp 76) (.const (.bool true)) (.tmp 80)), none⟩])
 (.cond (.tmp 81) (.seq (.reg [⟨(some 2), (.assign (.const (.bool false))), none⟩])
 .ret) .skip)))
 (.seq (.seq (.reg [⟨(some 82), (.move (.tmp 8)), none⟩])
 (.cond (.tmp 82) (.seq (.reg [⟨(some 84), (.move (.tmp 7)), none⟩,
   ⟨(some 85), (.move (.tmp 4)), none⟩,
   ⟨(some 86), (.move (.tmp 5)), none⟩,
   ⟨(some 87), (.call (.mk (.value (.func 22)) #[(.tmp 84), (.tmp 85), (.tmp 86)] #[25, 3, 3])), none⟩,
   ⟨(some 83), (.move (.tmp 87)), none⟩,
   ⟨(some 88), (.extract (.tmp 83) 0), none⟩,
   ⟨(some 89), (.extract (.tmp 83) 1), none⟩,
   ⟨(some 11), (.assign (.tmp 88)), none⟩,
   ⟨(some 12), (.assign (.tmp 89)), none⟩])
 (.seq (.reg [⟨(some 90), (.move (.tmp 12)), none⟩,
   ⟨(some 91), (.unOp .not 4 (.tmp 90)), none⟩,
   ⟨(some 92), (.move (.tmp 91)), none⟩,
   ⟨(some 93), (.move (.tmp 11)), (some (92, false))⟩,
   ⟨(some 94), (.move (.tmp 6)), (some (92, false))⟩,
   ⟨(some 95), (.binOp .neq 3 (.tmp 93) (.tmp 94) 3), (some (92, false))⟩,
   ⟨(some 96), (.pick (.tmp 92) (.const (.bool true)) (.tmp 95)), none⟩])
 (.cond (.tmp 96) (.seq (.reg [⟨(some 2), (.assign (.const (.bool false))), none⟩])
 .ret) .skip))) .skip))
 (.seq (.reg [⟨(some 98), (.move (.tmp 0)), none⟩,
   ⟨(some 99), (.call (.mk (.value (.func 46)) #[(.tmp 98)] #[49])), none⟩,
   ⟨(some 97), (.move (.tmp 99)), none⟩,
   ⟨(some 100), (.extract (.tmp 97) 0), none⟩,
   ⟨(some 101), (.extract (.tmp 97) 1), none⟩,
   ⟨(some 102), (.extract (.tmp 97) 2), none⟩,
   ⟨(some 13), (.assign (.tmp 100)), none⟩,
   ⟨(some 14), (.assign (.tmp 101)), none⟩,
   ⟨(some 15), (.assign (.tmp 102)), none⟩])
 (.seq (.reg [⟨(some 104), (.move (.tmp 13)), none⟩,
   ⟨(some 105), (.move (.tmp 14)), none⟩,
   ⟨(some 106), (.move (.tmp 15)), none⟩,
   ⟨(some 107), (.call (.mk (.value (.func 22)) #[(.tmp 104), (.tmp 105), (.tmp 106)] #[25, 3, 3])), none⟩,
   ⟨(some 103), (.move (.tmp 107)), none⟩,
   ⟨(some 108), (.extract (.tmp 103) 0), none⟩,
   ⟨(some 109), (.extract (.tmp 103) 1), none⟩,
   ⟨(some 16), (.assign (.tmp 108)), none⟩,
   ⟨(some 17), (.assign (.tmp 109)), none⟩])
 (.seq (.seq (.reg [⟨(some 111), (.move (.tmp 13)), none⟩,
   ⟨(some 112), (.move (.tmp 14)), none⟩,
   ⟨(some 113), (.move (.tmp 15)), none⟩,
   ⟨(some 114), (.call (.mk (.value (.func 21)) #[(.tmp 111), (.tmp 112), (.tmp 113)] #[25, 3, 3])), none⟩,
   ⟨(some 110), (.move (.tmp 114)), none⟩,
   ⟨(some 115), (.extract (.tmp 110) 0), none⟩,
   ⟨(some 116), (.extract (.tmp 110) 1), none⟩,
   ⟨(some 18), (.assign (.tmp 115)), none⟩,
   ⟨(some 19), (.assign (.tmp 116)), none⟩])
 (.seq (.reg [⟨(some 117), (.move (.tmp 16)), none⟩,
   ⟨(some 118), (.move (.tmp 18)), none⟩,
   ⟨(some 119), (.binOp .neq 3 (.tmp 117) (.tmp 118) 3), none⟩,
   ⟨(some 120), (.move (.tmp 119)), none⟩,
   ⟨(some 121), (.move (.tmp 17)), (some (120, false))⟩,
   ⟨(some 122), (.move (.tmp 19)), (some (120, false))⟩,
   ⟨(some 123), (.binOp .neq 4 (.tmp 121) (.tmp 122) 4), (some (120, false))⟩,
   ⟨(some 124), (.pick (.tmp 120) (.const (.bool true)) (.tmp 123)), none⟩])
 (.cond (.tmp 124) (.seq (.reg [⟨(some 2), (.assign (.const (.bool false))), none⟩])
 .ret) .skip)))
 (.seq (.seq (.reg [⟨(some 125), (.move (.tmp 17)), none⟩])
 (.cond (.tmp 125) (.seq (.reg [⟨(some 20), (.assign (.const (.int .i64 10000000))), none⟩,
   ⟨(some 21), (.assign (.const (.int .i64 0))), none⟩])
 (.seq (.seq (.reg [⟨(some 22), (.assign (.const (.int .i64 0))), none⟩])
 (.block 0 (.loop (.seq (.seq (.reg [⟨(some 126), (.move (.tmp 22)), none⟩,
   ⟨(some 127), (.move (.tmp 13)), none⟩,
   ⟨(some 128), (.call (.mk (.builtin .len) #[(.tmp 127)] #[25])), none⟩,
   ⟨(some 129), (.binOp .lss 3 (.tmp 126) (.tmp 128) 3), none⟩])
 (.cond (.tmp 129) .skip (.exit 0)))
 (.seq (.block 1 (.seq (.seq (.reg [⟨(some 132), (.move (.tmp 13)), none⟩,
   ⟨(some 133), (.move (.tmp 22)), none⟩,
   ⟨(some 134), (.indexAddr 25 (.tmp 132) (.tmp 133)), none⟩,
   ⟨(some 135), (.fieldAddr 56 (.tmp 134) 0), none⟩,
   ⟨(some 136), (.load 3 (.tmp 135)), none⟩,
   ⟨(some 137), (.move (.tmp 14)), none⟩,
   ⟨(some 138), (.binOp .eql 3 (.tmp 136) (.tmp 137) 3), none⟩,
   ⟨(some 139), (.move (.tmp 138)), none⟩,
   ⟨(some 140), (.move (.tmp 13)), (some (139, true))⟩,
   ⟨(some 141), (.move (.tmp 22)), (some (139, true))⟩,
   ⟨(some 142), (.indexAddr 25 (.tmp 140) (.tmp 141)), (some (139, true))⟩,
   ⟨(some 143), (.fieldAddr 56 (.tmp 142) 2), (some (139, true))⟩,
   ⟨(some 144), (.load 3 (.tmp 143)), (some (139, true))⟩,
   ⟨(some 145), (.move (.tmp 20)), (some (139, true))⟩,
   ⟨(some 146), (.binOp .lss 3 (.tmp 144) (.tmp 145) 3), (some (139, true))⟩,
   ⟨(some 147), (.pick (.tmp 139) (.tmp 146) (.const (.bool false))), none⟩])
 (.cond (.tmp 147) (.reg [⟨(some 148), (.move (.tmp 13)), none⟩,
   ⟨(some 149), (.move (.tmp 22)), none⟩,
   ⟨(some 150), (.indexAddr 25 (.tmp 148) (.tmp 149)), none⟩,
   ⟨(some 151), (.fieldAddr 56 (.tmp 150) 2), none⟩,
   ⟨(some 152), (.load 3 (.tmp 151)), none⟩,
   ⟨(some 20), (.assign (.tmp 152)), none⟩]) .skip))
 (.seq (.reg [⟨(some 153), (.move (.tmp 13)), none⟩,
   ⟨(some 154), (.move (.tmp 22)), none⟩,
   ⟨(some 155), (.indexAddr 25 (.tmp 153) (.tmp 154)), none⟩,
   ⟨(some 156), (.fieldAddr 56 (.tmp 155) 0), none⟩,
   ⟨(some 157), (.load 3 (.tmp 156)), none⟩,
   ⟨(some 158), (.move (.tmp 14)), none⟩,
   ⟨(some 159), (.binOp .eql 3 (.tmp 157) (.tmp 158) 3), none⟩,
   ⟨(some 160), (.move (.tmp 159)), none⟩,
   ⟨(some 161), (.move (.tmp 13)), (some (160, true))⟩,
   ⟨(some 162), (.move (.tmp 22)), (some (160, true))⟩,
   ⟨(some 163), (.indexAddr 25 (.tmp 161) (.tmp 162)), (some (160, true))⟩,
   ⟨(some 164), (.fieldAddr 56 (.tmp 163) 2), (some (160, true))⟩,
   ⟨(some 165), (.load 3 (.tmp 164)), (some (160, true))⟩,
   ⟨(some 166), (.move (.tmp 21)), (some (160, true))⟩,
   ⟨(some 167), (.binOp .gtr 3 (.tmp 165) (.tmp 166) 3), (some (160, true))⟩,
   ⟨(some 168), (.pick (.tmp 160) (.tmp 167) (.const (.bool false))), none⟩])
 (.cond (.tmp 168) (.reg [⟨(some 169), (.move (.tmp 13)), none⟩,
   ⟨(some 170), (.move (.tmp 22)), none⟩,
   ⟨(some 171), (.indexAddr 25 (.tmp 169) (.tmp 170)), none⟩,
   ⟨(some 172), (.fieldAddr 56 (.tmp 171) 2), none⟩,
   ⟨(some 173), (.load 3 (.tmp 172)), none⟩,
   ⟨(some 21), (.assign (.tmp 173)), none⟩]) .skip))))
 (.reg [⟨(some 130), (.move (.tmp 22)), none⟩,
   ⟨(some 131), (.binOp .add 3 (.tmp 130) (.const (.int .i64 1)) 3), none⟩,
   ⟨(some 22), (.assign (.tmp 131)), none⟩]))))))
 (.seq (.reg [⟨(some 174), (.move (.tmp 16)), none⟩,
   ⟨(some 175), (.move (.tmp 20)), none⟩,
   ⟨(some 176), (.binOp .lss 3 (.tmp 174) (.tmp 175) 3), none⟩,
   ⟨(some 177), (.move (.tmp 176)), none⟩,
   ⟨(some 178), (.move (.tmp 16)), (some (177, false))⟩,
   ⟨(some 179), (.move (.tmp 21)), (some (177, false))⟩,
   ⟨(some 180), (.binOp .gtr 3 (.tmp 178) (.tmp 179) 3), (some (177, false))⟩,
   ⟨(some 181), (.pick (.tmp 177) (.const (.bool true)) (.tmp 180)), none⟩])
 (.cond (.tmp 181) (.seq (.reg [⟨(some 2), (.assign (.const (.bool false))), none⟩])
 .ret) .skip)))) .skip))
 (.seq (.reg [⟨(some 183), (.move (.tmp 0)), none⟩,
   ⟨(some 184), (.call (.mk (.value (.func 47)) #[(.tmp 183)] #[49])), none⟩,
   ⟨(some 182), (.move (.tmp 184)), none⟩,
   ⟨(some 185), (.extract (.tmp 182) 0), none⟩,
   ⟨(some 186), (.extract (.tmp 182) 1), none⟩,
   ⟨(some 187), (.extract (.tmp 182) 2), none⟩,
   ⟨(some 23), (.assign (.tmp 185)), none⟩,
   ⟨(some 24), (.assign (.tmp 186)), none⟩,
   ⟨(some 25), (.assign (.tmp 187)), none⟩])
 (.seq (.reg [⟨(some 189), (.move (.tmp 23)), none⟩,
   ⟨(some 190), (.move (.tmp 24)), none⟩,
   ⟨(some 191), (.move (.tmp 25)), none⟩,
   ⟨(some 192), (.call (.mk (.value (.func 24)) #[(.tmp 189), (.tmp 190), (.tmp 191)] #[25, 3, 3])), none⟩,
   ⟨(some 188), (.move (.tmp 192)), none⟩,
   ⟨(some 193), (.extract (.tmp 188) 0), none⟩,
   ⟨(some 194), (.extract (.tmp 188) 1), none⟩,
   ⟨(some 26), (.assign (.tmp 193)), none⟩,
   ⟨(some 27), (.assign (.tmp 194)), none⟩])
 (.seq (.seq (.reg [⟨(some 196), (.move (.tmp 23)), none⟩,
   ⟨(some 197), (.move (.tmp 24)), none⟩,
   ⟨(some 198), (.move (.tmp 25)), none⟩,
   ⟨(some 199), (.call (.mk (.value (.func 23)) #[(.tmp 196), (.tmp 197), (.tmp 198)] #[25, 3, 3])), none⟩,
   ⟨(some 195), (.move (.tmp 199)), none⟩,
   ⟨(some 200), (.extract (.tmp 195) 0), none⟩,
   ⟨(some 201), (.extract (.tmp 195) 1), none⟩,
   ⟨(some 28), (.assign (.tmp 200)), none⟩,
   ⟨(some 29), (.assign (.tmp 201)), none⟩])
 (.seq (.reg [⟨(some 202), (.move (.tmp 26)), none⟩,
   ⟨(some 203), (.move (.tmp 28)), none⟩,
   ⟨(some 204), (.binOp .neq 3 (.tmp 202) (.tmp 203) 3), none⟩,
   ⟨(some 205), (.move (.tmp 204)), none⟩,
   ⟨(some 206), (.move (.tmp 27)), (some (205, false))⟩,
   ⟨(some 207), (.move (.tmp 29)), (some (205, false))⟩,
   ⟨(some 208), (.binOp .neq 4 (.tmp 206) (.tmp 207) 4), (some (205, false))⟩,
   ⟨(some 209), (.pick (.tmp 205) (.const (.bool true)) (.tmp 208)), none⟩])
 (.cond (.tmp 209) (.seq (.reg [⟨(some 2), (.assign (.const (.bool false))), none⟩])
 .ret) .skip)))
 (.seq (.seq (.reg [⟨(some 210), (.move (.tmp 27)), none⟩])
 (.cond (.tmp 210) (.seq (.reg [⟨(some 212), (.move (.tmp 23)), none⟩,
   ⟨(some 213), (.move (.tmp 24)), none⟩,
   ⟨(some 214), (.move (.tmp 26)), none⟩,
   ⟨(some 215), (.call (.mk (.value (.func 22)) #[(.tmp 212), (.tmp 213), (.tmp 214)] #[25, 3, 3])), none⟩,
   ⟨(some 211), (.move (.tmp 215)), none⟩,
   ⟨(some 216), (.extract (.tmp 211) 0), none⟩,
   ⟨(some 217), (.extract (.tmp 211) 1), none⟩,
   ⟨(some 30), (.assign (.tmp 216)), none⟩,
   ⟨(some 31), (.assign (.tmp 217)), none⟩])
 (.seq (.reg [⟨(some 219), (.move (.tmp 23)), none⟩,
   ⟨(some 220), (.move (.tmp 24)), none⟩,
   ⟨(some 221), (.move (.tmp 26)), none⟩,
   ⟨(some 222), (.binOp .sub 3 (.tmp 221) (.const (.int .i64 1)) 3), none⟩,
   ⟨(some 223), (.call (.mk (.value (.func 22)) #[(.tmp 219), (.tmp 220), (.tmp 222)] #[25, 3, 3])), none⟩,
   ⟨(some 218), (.move (.tmp 223)), none⟩,
   ⟨(some 224), (.extract (.tmp 218) 0), none⟩,
   ⟨(some 225), (.extract (.tmp 218) 1), none⟩,
   ⟨(some 32), (.assign (.tmp 224)), none⟩,
   ⟨(some 33), (.assign (.tmp 225)), none⟩])
 (.seq (.reg [⟨(some 226), (.move (.tmp 31)), none⟩,
   ⟨(some 227), (.unOp .not 4 (.tmp 226)), none⟩,
   ⟨(some 228), (.move (.tmp 227)), none⟩,
   ⟨(some 229), (.move (.tmp 30)), (some (228, false))⟩,
   ⟨(some 230), (.move (.tmp 25)), (some (228, false))⟩,
   ⟨(some 231), (.binOp .lss 3 (.tmp 229) (.tmp 230) 3), (some (228, false))⟩,
   ⟨(some 232), (.pick (.tmp 228) (.const (.bool true)) (.tmp 231)), none⟩,
   ⟨(some 233), (.move (.tmp 232)), none⟩,
   ⟨(some 234), (.move (.tmp 33)), (some (233, false))⟩,
   ⟨(some 235), (.move (.tmp 234)), (some (233, false))⟩,
   ⟨(some 236), (.move (.tmp 32)), (some (235, true))⟩,
   ⟨(some 237), (.move (.tmp 25)), (some (235, true))⟩,
   ⟨(some 238), (.binOp .geq 3 (.tmp 236) (.tmp 237) 3), (some (235, true))⟩,
   ⟨(some 239), (.pick (.tmp 235) (.tmp 238) (.const (.bool false))), (some (233, false))⟩,
   ⟨(some 240), (.pick (.tmp 233) (.const (.bool true)) (.tmp 239)), none⟩])
 (.cond (.tmp 240) (.seq (.reg [⟨(some 2), (.assign (.const (.bool false))), none⟩])
 .ret) .skip)))) .skip))
 (.seq (.reg [⟨(some 242), (.move (.tmp 0)), none⟩,
   ⟨(some 243), (.call (.mk (.value (.func 48)) #[(.tmp 242)] #[49])), none⟩,
   ⟨(some 241), (.move (.tmp 243)), none⟩,
   ⟨(some 244), (.extract (.tmp 241) 0), none⟩,
   ⟨(some 245), (.extract (.tmp 241) 1), none⟩,
   ⟨(some 246), (.extract (.tmp 241) 2), none⟩,
   ⟨(some 247), (.extract (.tmp 241) 3), none⟩,
   ⟨(some 34), (.assign (.tmp 244)), none⟩,
   ⟨(some 35), (.assign (.tmp 245)), none⟩,
   ⟨(some 36), (.assign (.tmp 246)), none⟩,
   ⟨(some 37), (.assign (.tmp 247)), none⟩])
 (.seq (.reg [⟨(some 249), (.move (.tmp 34)), none⟩,
   ⟨(some 250), (.move (.tmp 35)), none⟩,
   ⟨(some 251), (.move (.tmp 36)), none⟩,
   ⟨(some 252), (.move (.tmp 37)), none⟩,
   ⟨(some 253), (.call (.mk (.value (.func 30)) #[(.tmp 249), (.tmp 250), (.tmp 251), (.tmp 252)] #[25, 3, 3, 3])), none⟩,
   ⟨(some 248), (.move (.tmp 253)), none⟩,
   ⟨(some 254), (.extract (.tmp 248) 0), none⟩,
   ⟨(some 255), (.extract (.tmp 248) 1), none⟩,
   ⟨(some 256), (.extract (.tmp 248) 2), none⟩,
   ⟨(some 38), (.assign (.tmp 254)), none⟩,
   ⟨(some 39), (.assign (.tmp 255)), none⟩,
   ⟨(some 40), (.assign (.tmp 256)), none⟩])
 (.seq (.seq (.reg [⟨(some 258), (.move (.tmp 34)), none⟩,
   ⟨(some 259), (.move (.tmp 35)), none⟩,
   ⟨(some 260), (.move (.tmp 36)), none⟩,
   ⟨(some 261), (.move (.tmp 37)), none⟩,
   ⟨(some 262), (.call (.mk (.value (.func 29)) #[(.tmp 258), (.tmp 259), (.tmp 260), (.tmp 261)] #[25, 3, 3, 3])), none⟩,
   ⟨(some 257), (.move (.tmp 262)), none⟩,
   ⟨(some 263), (.extract (.tmp 257) 0), none⟩,
   ⟨(some 264), (.extract (.tmp 257) 1), none⟩,
   ⟨(some 265), (.extract (.tmp 257) 2), none⟩,
   ⟨(some 41), (.assign (.tmp 263)), none⟩,
   ⟨(some 42), (.assign (.tmp 264)), none⟩,
   ⟨(some 43), (.assign (.tmp 265)), none⟩])
 (.seq (.reg [⟨(some 266), (.move (.tmp 38)), none⟩,
   ⟨(some 267), (.move (.tmp 41)), none⟩,
   ⟨(some 268), (.binOp .neq 3 (.tmp 266) (.tmp 267) 3), none⟩,
   ⟨(some 269), (.move (.tmp 268)), none⟩,
   ⟨(some 270), (.move (.tmp 39)), (some (269, false))⟩,
   ⟨(some 271), (.move (.tmp 42)), (some (269, false))⟩,
   ⟨(some 272), (.binOp .neq 3 (.tmp 270) (.tmp 271) 3), (some (269, false))⟩,
   ⟨(some 273), (.pick (.tmp 269) (.const (.bool true)) (.tmp 272)), none⟩,
   ⟨(some 274), (.move (.tmp 273)), none⟩,
   ⟨(some 275), (.move (.tmp 40)), (some (274, false))⟩,
   ⟨(some 276), (.move (.tmp 43)), (some (274, false))⟩,
   ⟨(some 277), (.binOp .neq 4 (.tmp 275) (.tmp 276) 4), (some (274, false))⟩,
   ⟨(some 278), (.pick (.tmp 274) (.const (.bool true)) (.tmp 277)), none⟩])
 (.cond (.tmp 278) (.seq (.reg [⟨(some 2), (.assign (.const (.bool false))), none⟩])
 .ret) .skip)))
 (.seq (.seq (.reg [⟨(some 279), (.move (.tmp 40)), none⟩])
 (.cond (.tmp 279) (.seq (.reg [⟨(some 281), (.move (.tmp 34)), none⟩,
   ⟨(some 282), (.move (.tmp 35)), none⟩,
   ⟨(some 283), (.move (.tmp 36)), none⟩,
   ⟨(some 284), (.call (.mk (.value (.func 22)) #[(.tmp 281), (.tmp 282), (.tmp 283)] #[25, 3, 3])), none⟩,
   ⟨(some 280), (.move (.tmp 284)), none⟩,
   ⟨(some 285), (.extract (.tmp 280) 0), none⟩,
   ⟨(some 286), (.extract (.tmp 280) 1), none⟩,
   ⟨(some 44), (.assign (.tmp 285)), none⟩,
   ⟨(some 45), (.assign (.tmp 286)), none⟩])
 (.seq (.reg [⟨(some 288), (.move (.tmp 34)), none⟩,
   ⟨(some 289), (.move (.tmp 35)), none⟩,
   ⟨(some 290), (.move (.tmp 37)), none⟩,
   ⟨(some 291), (.call (.mk (.value (.func 22)) #[(.tmp 288), (.tmp 289), (.tmp 290)] #[25, 3, 3])), none⟩,
   ⟨(some 287), (.move (.tmp 291)), none⟩,
   ⟨(some 292), (.extract (.tmp 287) 0), none⟩,
   ⟨(some 293), (.extract (.tmp 287) 1), none⟩,
   ⟨(some 46), (.assign (.tmp 292)), none⟩,
   ⟨(some 47), (.assign (.tmp 293)), none⟩])
 (.seq (.reg [⟨(some 294), (.move (.tmp 45)), none⟩,
   ⟨(some 295), (.unOp .not 4 (.tmp 294)), none⟩,
   ⟨(some 296), (.move (.tmp 295)), none⟩,
   ⟨(some 297), (.move (.tmp 47)), (some (296, false))⟩,
   ⟨(some 298), (.unOp .not 4 (.tmp 297)), (some (296, false))⟩,
   ⟨(some 299), (.pick (.tmp 296) (.const (.bool true)) (.tmp 298)), none⟩,
   ⟨(some 300), (.move (.tmp 299)), none⟩,
   ⟨(some 301), (.move (.tmp 38)), (some (300, false))⟩,
   ⟨(some 302), (.move (.tmp 44)), (some (300, false))⟩,
   ⟨(some 303), (.binOp .mul 3 (.tmp 301) (.tmp 302) 3), (some (300, false))⟩,
   ⟨(some 304), (.move (.tmp 39)), (some (300, false))⟩,
   ⟨(some 305), (.move (.tmp 46)), (some (300, false))⟩,
   ⟨(some 306), (.binOp .mul 3 (.tmp 304) (.tmp 305) 3), (some (300, false))⟩,
   ⟨(some 307), (.binOp .neq 3 (.tmp 303) (.tmp 306) 3), (some (300, false))⟩,
   ⟨(some 308), (.pick (.tmp 300) (.const (.bool true)) (.tmp 307)), none⟩])
 (.cond (.tmp 308) (.seq (.reg [⟨(some 2), (.assign (.const (.bool false))), none⟩])
 .ret) .skip)))) .skip))
 (.seq (.reg [⟨(some 309), (.move (.tmp 3)), none⟩,
   ⟨(some 310), (.call (.mk (.value (.func 17)) #[(.tmp 309)] #[25])), none⟩,
   ⟨(some 311), (.move (.tmp 3)), none⟩,
   ⟨(some 312), (.call (.mk (.value (.func 15)) #[(.tmp 311)] #[25])), none⟩,
   ⟨(some 313), (.binOp .eql 4 (.tmp 310) (.tmp 312) 4), none⟩,
   ⟨(some 2), (.assign (.tmp 313)), none⟩])
 .ret)))))))))))))))))))
theorem x_laws_FnPrices : Txt Try.prog 13 c_laws_FnPrices [.tmp 2] 1 := ⟨by kernel_rfl, by kernel_rfl, _, _, Try.func13, rfl, by kernel_rfl, by kernel_rfl, by kernel_rfl, rfl, by decide⟩
/-- loop.example/g01062/spec.ArePrices -/
def c_spec_ArePrices : Cd :=
 (.seq (.reg [⟨(some 2), (.assign (.const (.bool false))), none⟩])
 (.seq (.reg [⟨(some 3), (.move (.tmp 0)), none⟩,
   ⟨(some 4), (.call (.mk (.value (.func 49)) #[(.tmp 3)] #[25])), none⟩,
   ⟨(some 2), (.assign (.tmp 4)), none⟩])
 .ret))
theorem x_spec_ArePrices : Txt Try.prog 15 c_spec_ArePrices [.tmp 2] 1 := ⟨by kernel_rfl, by kernel_rfl, _, _, Try.func15, rfl, by kernel_rfl, by kernel_rfl, by kernel_rfl, rfl, by decide⟩
/-- loop.example/g01062/impl.ArePrices -/
def c_impl_ArePrices : Cd :=
 (.seq (.reg [⟨(some 2), (.assign (.const (.bool false))), none⟩])
 (.seq (.reg [⟨(some 3), (.move (.tmp 0)), none⟩,
   ⟨(some 4), (.call (.mk (.value (.func 51)) #[(.tmp 3)] #[25])), none⟩,
   ⟨(some 2), (.assign (.tmp 4)), none⟩])
 .ret))
theorem x_impl_ArePrices : Txt Try.prog 17 c_impl_ArePrices [.tmp 2] 1 := ⟨by kernel_rfl, by kernel_rfl, _, _, Try.func17, rfl, by kernel_rfl, by kernel_rfl, by kernel_rfl, rfl, by decide⟩
/-- loop.example/g01062/spec.PriceIn -/
def c_spec_PriceIn : Cd :=
 (.seq (.reg [⟨(some 6), (.assign (.const (.int .i64 0))), none⟩,
   ⟨(some 7), (.assign (.const (.bool false))), none⟩])
 (.seq (.seq (.reg [⟨(some 9), (.move (.tmp 0)), none⟩,
   ⟨(some 10), (.call (.mk (.value (.func 49)) #[(.tmp 9)] #[25])), none⟩,
   ⟨(some 11), (.unOp .not 4 (.tmp 10)), none⟩,
   ⟨(some 12), (.move (.tmp 11)), none⟩,
   ⟨(some 13), (.move (.tmp 1)), (some (12, false))⟩,
   ⟨(some 14), (.call (.mk (.value (.func 53)) #[(.tmp 13)] #[3])), (some (12, false))⟩,
   ⟨(some 15), (.unOp .not 4 (.tmp 14)), (some (12, false))⟩,
   ⟨(some 16), (.pick (.tmp 12) (.const (.bool true)) (.tmp 15)), none⟩,
   ⟨(some 17), (.move (.tmp 16)), none⟩,
   ⟨(some 18), (.move (.tmp 2)), (some (17, false))⟩,
   ⟨(some 19), (.call (.mk (.value (.func 55)) #[(.tmp 18)] #[3])), (some (17, false))⟩,
   ⟨(some 20), (.unOp .not 4 (.tmp 19)), (some (17, false))⟩,
   ⟨(some 21), (.pick (.tmp 17) (.const (.bool true)) (.tmp 20)), none⟩])
 (.cond (.tmp 21) (.seq (.reg [⟨(some 6), (.assign (.const (.int .i64 0))), none⟩,
   ⟨(some 7), (.assign (.const (.bool false))), none⟩])
 .ret) .skip))
 (.seq (.reg [⟨(some 22), (.move (.tmp 0)), none⟩,
   ⟨(some 23), (.move (.tmp 1)), none⟩,
   ⟨(some 24), (.move (.tmp 2)), none⟩,
   ⟨(some 25), (.call (.mk (.value (.func 56)) #[(.tmp 22), (.tmp 23), (.tmp 24)] #[25, 3, 3])), none⟩,
   ⟨(some 8), (.assign (.tmp 25)), none⟩])
 (.seq (.reg [⟨(some 26), (.move (.tmp 8)), none⟩,
   ⟨(some 27), (.move (.tmp 8)), none⟩,
   ⟨(some 28), (.binOp .gtr 3 (.tmp 27) (.const (.int .i64 0)) 3), none⟩,
   ⟨(some 6), (.assign (.tmp 26)), none⟩,
   ⟨(some 7), (.assign (.tmp 28)), none⟩])
 .ret))))
theorem x_spec_PriceIn : Txt Try.prog 21 c_spec_PriceIn [.tmp 6, .tmp 7] 3 := ⟨by kernel_rfl, by kernel_rfl, _, _, Try.func21, rfl, by kernel_rfl, by kernel_rfl, by kernel_rfl, rfl, by decide⟩
/-- loop.example/g01062/impl.PriceIn -/
def c_impl_PriceIn : Cd :=
 (.seq (.reg [⟨(some 6), (.assign (.const (.int .i64 0))), none⟩,
   ⟨(some 7), (.assign (.const (.bool false))), none⟩])
 (.seq (.seq (.reg [⟨(some 8), (.move (.tmp 0)), none⟩,
   ⟨(some 9), (.call (.mk (.value (.func 51)) #[(.tmp 8)] #[25])), none⟩,
   ⟨(some 10), (.unOp .not 4 (.tmp 9)), none⟩,
   ⟨(some 11), (.move (.tmp 10)), none⟩,
   ⟨(some 12), (.move (.tmp 1)), (some (11, false))⟩,
   ⟨(some 13), (.call (.mk (.value (.func 54)) #[(.tmp 12)] #[3])), (some (11, false))⟩,
   ⟨(some 14), (.unOp .not 4 (.tmp 13)), (some (11, false))⟩,
   ⟨(some 15), (.pick (.tmp 11) (.const (.bool true)) (.tmp 14)), none⟩,
   ⟨(some 16), (.move (.tmp 15)), none⟩,
   ⟨(some 17), (.move (.tmp 2)), (some (16, false))⟩,
   ⟨(some 18), (.call (.mk (.value (.func 57)) #[(.tmp 17)] #[3])), (some (16, false))⟩,
   ⟨(some 19), (.unOp .not 4 (.tmp 18)), (some (16, false))⟩,
   ⟨(some 20), (.pick (.tmp 16) (.const (.bool true)) (.tmp 19)), none⟩])
 (.cond (.tmp 20) (.seq (.reg [⟨(some 6), (.assign (.const (.int .i64 0))), none⟩,
   ⟨(some 7), (.assign (.const (.bool false))), none⟩])
 .ret) .skip))
 (.seq (.reg [⟨(some 21), (.move (.tmp 0)), none⟩,
   ⟨(some 22), (.move (.tmp 1)), none⟩,
   ⟨(some 23), (.move (.tmp 2)), none⟩,
   ⟨(some 24), (.call (.mk (.value (.func 58)) #[(.tmp 21), (.tmp 22), (.tmp 23)] #[25, 3, 3])), none⟩,
   ⟨(some 25), (.extract (.tmp 24) 0), none⟩,
   ⟨(some 26), (.extract (.tmp 24) 1), none⟩,
   ⟨(some 6), (.assign (.tmp 25)), none⟩,
   ⟨(some 7), (.assign (.tmp 26)), none⟩])
 .ret)))
theorem x_impl_PriceIn : Txt Try.prog 22 c_impl_PriceIn [.tmp 6, .tmp 7] 3 := ⟨by kernel_rfl, by kernel_rfl, _, _, Try.func22, rfl, by kernel_rfl, by kernel_rfl, by kernel_rfl, rfl, by decide⟩
/-- loop.example/g01062/spec.FirstAbove -/
def c_spec_FirstAbove : Cd :=
 (.seq (.reg [⟨(some 6), (.assign (.const (.int .i64 0))), none⟩,
   ⟨(some 7), (.assign (.const (.bool false))), none⟩])
 (.seq (.seq (.reg [⟨(some 9), (.move (.tmp 0)), none⟩,
   ⟨(some 10), (.call (.mk (.value (.func 49)) #[(.tmp 9)] #[25])), none⟩,
   ⟨(some 11), (.unOp .not 4 (.tmp 10)), none⟩,
   ⟨(some 12), (.move (.tmp 11)), none⟩,
   ⟨(some 13), (.move (.tmp 1)), (some (12, false))⟩,
   ⟨(some 14), (.call (.mk (.value (.func 53)) #[(.tmp 13)] #[3])), (some (12, false))⟩,
   ⟨(some 15), (.unOp .not 4 (.tmp 14)), (some (12, false))⟩,
   ⟨(some 16), (.pick (.tmp 12) (.const (.bool true)) (.tmp 15)), none⟩,
   ⟨(some 17), (.move (.tmp 16)), none⟩,
   ⟨(some 18), (.move (.tmp 2)), (some (17, false))⟩,
   ⟨(some 19), (.call (.mk (.value (.func 59)) #[(.tmp 18)] #[3])), (some (17, false))⟩,
   ⟨(some 20), (.unOp .not 4 (.tmp 19)), (some (17, false))⟩,
   ⟨(some 21), (.pick (.tmp 17) (.const (.bool true)) (.tmp 20)), none⟩])
 (.cond (.tmp 21) (.seq (.reg [⟨(some 6), (.assign (.const (.int .i64 0))), none⟩,
   ⟨(some 7), (.assign (.const (.bool false))), none⟩])
 .ret) .skip))
 (.seq (.seq (.reg [⟨(some 8), (.assign (.const (.int .i64 1840))), none⟩])
 (.block 0 (.loop (.seq (.seq (.reg [⟨(some 22), (.move (.tmp 8)), none⟩,
   ⟨(some 23), (.binOp .leq 3 (.tmp 22) (.const (.int .i64 2100)) 3), none⟩])
 (.cond (.tmp 23) .skip (.exit 0)))
 (.seq (.block 1 (.seq (.reg [⟨(some 26), (.move (.tmp 0)), none⟩,
   ⟨(some 27), (.move (.tmp 1)), none⟩,
   ⟨(some 28), (.move (.tmp 8)), none⟩,
   ⟨(some 29), (.call (.mk (.value (.func 56)) #[(.tmp 26), (.tmp 27), (.tmp 28)] #[25, 3, 3])), none⟩,
   ⟨(some 30), (.move (.tmp 2)), none⟩,
   ⟨(some 31), (.binOp .geq 3 (.tmp 29) (.tmp 30) 3), none⟩])
 (.cond (.tmp 31) (.seq (.reg [⟨(some 32), (.move (.tmp 8)), none⟩,
   ⟨(some 6), (.assign (.tmp 32)), none⟩,
   ⟨(some 7), (.assign (.const (.bool true))), none⟩])
 .ret) .skip)))
 (.reg [⟨(some 24), (.move (.tmp 8)), none⟩,
   ⟨(some 25), (.binOp .add 3 (.tmp 24) (.const (.int .i64 1)) 3), none⟩,
   ⟨(some 8), (.assign (.tmp 25)), none⟩]))))))
 (.seq (.reg [⟨(some 6), (.assign (.const (.int .i64 0))), none⟩,
   ⟨(some 7), (.assign (.const (.bool false))), none⟩])
 .ret))))
theorem x_spec_FirstAbove : Txt Try.prog 23 c_spec_FirstAbove [.tmp 6, .tmp 7] 3 := ⟨by kernel_rfl, by kernel_rfl, _, _, Try.func23, rfl, by kernel_rfl, by kernel_rfl, by kernel_rfl, rfl, by decide⟩
/-- loop.example/g01062/impl.FirstAbove -/
def c_impl_FirstAbove : Cd :=
 (.seq (.reg [⟨(some 6), (.assign (.const (.int .i64 0))), none⟩,
   ⟨(some 7), (.assign (.const (.bool false))), none⟩])
 (.seq (.seq (.reg [⟨(some 11), (.move (.tmp 0)), none⟩,
   ⟨(some 12), (.call (.mk (.value (.func 51)) #[(.tmp 11)] #[25])), none⟩,
   ⟨(some 13), (.unOp .not 4 (.tmp 12)), none⟩,
   ⟨(some 14), (.move (.tmp 13)), none⟩,
   ⟨(some 15), (.move (.tmp 1)), (some (14, false))⟩,
   ⟨(some 16), (.call (.mk (.value (.func 54)) #[(.tmp 15)] #[3])), (some (14, false))⟩,
   ⟨(some 17), (.unOp .not 4 (.tmp 16)), (some (14, false))⟩,
   ⟨(some 18), (.pick (.tmp 14) (.const (.bool true)) (.tmp 17)), none⟩,
   ⟨(some 19), (.move (.tmp 18)), none⟩,
   ⟨(some 20), (.move (.tmp 2)), (some (19, false))⟩,
   ⟨(some 21), (.call (.mk (.value (.func 60)) #[(.tmp 20), (.const (.int .i64 1)), (.const (.int .i64 10000000))] #[3, 3, 3])), (some (19, false))⟩,
   ⟨(some 22), (.unOp .not 4 (.tmp 21)), (some (19, false))⟩,
   ⟨(some 23), (.pick (.tmp 19) (.const (.bool true)) (.tmp 22)), none⟩])
 (.cond (.tmp 23) (.seq (.reg [⟨(some 6), (.assign (.const (.int .i64 0))), none⟩,
   ⟨(some 7), (.assign (.const (.bool false))), none⟩])
 .ret) .skip))
 (.seq (.seq (.reg [⟨(some 8), (.assign (.const (.int .i64 1840))), none⟩])
 (.block 0 (.loop (.seq (.seq (.reg [⟨(some 24), (.move (.tmp 8)), none⟩,
   ⟨(some 25), (.binOp .leq 3 (.tmp 24) (.const (.int .i64 2100)) 3), none⟩])
 (.cond (.tmp 25) .skip (.exit 0)))
 (.seq (.block 1 (.seq (.reg [⟨(some 29), (.move (.tmp 0)), none⟩,
   ⟨(some 30), (.move (.tmp 1)), none⟩,
   ⟨(some 31), (.move (.tmp 8)), none⟩,
   ⟨(some 32), (.call (.mk (.value (.func 58)) #[(.tmp 29), (.tmp 30), (.tmp 31)] #[25, 3, 3])), none⟩,
   ⟨(some 28), (.move (.tmp 32)), none⟩,
   ⟨(some 33), (.extract (.tmp 28) 0), none⟩,
   ⟨(some 34), (.extract (.tmp 28) 1), none⟩,
   ⟨(some 9), (.assign (.tmp 33)), none⟩,
   ⟨(some 10), (.assign (.tmp 34)), none⟩])
 (.seq (.reg [⟨(some 35), (.move (.tmp 10)), none⟩,
   ⟨(some 36), (.move (.tmp 35)), none⟩,
   ⟨(some 37), (.move (.tmp 9)), (some (36, true))⟩,
   ⟨(some 38), (.move (.tmp 2)), (some (36, true))⟩,
   ⟨(some 39), (.binOp .geq 3 (.tmp 37) (.tmp 38) 3), (some (36, true))⟩,
   ⟨(some 40), (.pick (.tmp 36) (.tmp 39) (.const (.bool false))), none⟩])
 (.cond (.tmp 40) (.seq (.reg [⟨(some 41), (.move (.tmp 8)), none⟩,
   ⟨(some 6), (.assign (.tmp 41)), none⟩,
   ⟨(some 7), (.assign (.const (.bool true))), none⟩])
 .ret) .skip))))
 (.reg [⟨(some 26), (.move (.tmp 8)), none⟩,
   ⟨(some 27), (.binOp .add 3 (.tmp 26) (.const (.int .i64 1)) 3), none⟩,
   ⟨(some 8), (.assign (.tmp 27)), none⟩]))))))
 (.seq (.reg [⟨(some 6), (.assign (.const (.int .i64 0))), none⟩,
   ⟨(some 7), (.assign (.const (.bool false))), none⟩])
 .ret))))
theorem x_impl_FirstAbove : Txt Try.prog 24 c_impl_FirstAbove [.tmp 6, .tmp 7] 3 := ⟨by kernel_rfl, by kernel_rfl, _, _, Try.func24, rfl, by kernel_rfl, by kernel_rfl, by kernel_rfl, rfl, by decide⟩
/-- loop.example/g01062/spec.RaiseAll -/
def c_spec_RaiseAll : Cd :=
 (.seq (.reg [⟨(some 6), (.assign (.const (.slice none 0 0))), none⟩,
   ⟨(some 7), (.assign (.const (.bool false))), none⟩])
 (.seq (.seq (.reg [⟨(some 11), (.move (.tmp 0)), none⟩,
   ⟨(some 12), (.call (.mk (.value (.func 49)) #[(.tmp 11)] #[25])), none⟩,
   ⟨(some 13), (.unOp .not 4 (.tmp 12)), none⟩,
   ⟨(some 14), (.move (.tmp 13)), none⟩,
   ⟨(some 15), (.move (.tmp 1)), (some (14, false))⟩,
   ⟨(some 16), (.call (.mk (.value (.func 55)) #[(.tmp 15)] #[3])), (some (14, false))⟩,
   ⟨(some 17), (.unOp .not 4 (.tmp 16)), (some (14, false))⟩,
   ⟨(some 18), (.pick (.tmp 14) (.const (.bool true)) (.tmp 17)), none⟩,
   ⟨(some 19), (.move (.tmp 18)), none⟩,
   ⟨(some 20), (.move (.tmp 2)), (some (19, false))⟩,
   ⟨(some 21), (.call (.mk (.value (.func 61)) #[(.tmp 20), (.const (.int .i64 0)), (.const (.int .i64 100))] #[3, 3, 3])), (some (19, false))⟩,
   ⟨(some 22), (.unOp .not 4 (.tmp 21)), (some (19, false))⟩,
   ⟨(some 23), (.pick (.tmp 19) (.const (.bool true)) (.tmp 22)), none⟩])
 (.cond (.tmp 23) (.seq (.reg [⟨(some 24), (.buildSlice 25 0 #[]), none⟩,
   ⟨(some 6), (.assign (.tmp 24)), none⟩,
   ⟨(some 7), (.assign (.const (.bool false))), none⟩])
 .ret) .skip))
 (.seq (.reg [⟨(some 25), (.buildSlice 25 0 #[]), none⟩,
   ⟨(some 8), (.assign (.tmp 25)), none⟩])
 (.seq (.seq (.reg [⟨(some 9), (.assign (.const (.int .i64 0))), none⟩])
 (.block 0 (.loop (.seq (.seq (.reg [⟨(some 26), (.move (.tmp 9)), none⟩,
   ⟨(some 27), (.move (.tmp 0)), none⟩,
   ⟨(some 28), (.call (.mk (.builtin .len) #[(.tmp 27)] #[25])), none⟩,
   ⟨(some 29), (.binOp .lss 3 (.tmp 26) (.tmp 28) 3), none⟩])
 (.cond (.tmp 29) .skip (.exit 0)))
 (.seq (.block 1 (.seq (.reg [⟨(some 32), (.move (.tmp 0)), none⟩,
   ⟨(some 33), (.move (.tmp 9)), none⟩,
   ⟨(some 34), (.indexAddr 25 (.tmp 32) (.tmp 33)), none⟩,
   ⟨(some 35), (.load 56 (.tmp 34)), none⟩,
   ⟨(some 10), (.alloc 56), none⟩,
   ⟨none, (.store 56 (.tmp 10) (.tmp 35)), none⟩])
 (.seq (.seq (.reg [⟨(some 36), (.fieldAddr 56 (.tmp 10) 1), none⟩,
   ⟨(some 37), (.load 3 (.tmp 36)), none⟩,
   ⟨(some 38), (.move (.tmp 1)), none⟩,
   ⟨(some 39), (.binOp .eql 3 (.tmp 37) (.tmp 38) 3), none⟩])
 (.cond (.tmp 39) (.reg [⟨(some 40), (.fieldAddr 56 (.tmp 10) 2), none⟩,
   ⟨(some 41), (.load 3 (.tmp 40)), none⟩,
   ⟨(some 42), (.move (.tmp 2)), none⟩,
   ⟨(some 43), (.binOp .add 3 (.const (.int .i64 100)) (.tmp 42) 3), none⟩,
   ⟨(some 44), (.binOp .mul 3 (.tmp 41) (.tmp 43) 3), none⟩,
   ⟨(some 45), (.binOp .add 3 (.tmp 44) (.const (.int .i64 99)) 3), none⟩,
   ⟨(some 46), (.binOp .quo 3 (.tmp 45) (.const (.int .i64 100)) 3), none⟩,
   ⟨(some 47), (.fieldAddr 56 (.tmp 10) 2), none⟩,
   ⟨none, (.store 3 (.tmp 47) (.tmp 46)), none⟩]) .skip))
 (.reg [⟨(some 48), (.move (.tmp 8)), none⟩,
   ⟨(some 49), (.load 56 (.tmp 10)), none⟩,
   ⟨(some 50), (.buildSlice 25 1 #[(0, (.tmp 49))]), none⟩,
   ⟨(some 51), (.call (.mk (.builtin .append) #[(.tmp 48), (.tmp 50)] #[25, 25])), none⟩,
   ⟨(some 8), (.assign (.tmp 51)), none⟩]))))
 (.reg [⟨(some 30), (.move (.tmp 9)), none⟩,
   ⟨(some 31), (.binOp .add 3 (.tmp 30) (.const (.int .i64 1)) 3), none⟩,
   ⟨(some 9), (.assign (.tmp 31)), none⟩]))))))
 (.seq (.seq (.reg [⟨(some 52), (.move (.tmp 8)), none⟩,
   ⟨(some 53), (.call (.mk (.value (.func 49)) #[(.tmp 52)] #[25])), none⟩,
   ⟨(some 54), (.unOp .not 4 (.tmp 53)), none⟩])
 (.cond (.tmp 54) (.seq (.reg [⟨(some 55), (.buildSlice 25 0 #[]), none⟩,
   ⟨(some 6), (.assign (.tmp 55)), none⟩,
   ⟨(some 7), (.assign (.const (.bool false))), none⟩])
 .ret) .skip))
 (.seq (.reg [⟨(some 56), (.move (.tmp 8)), none⟩,
   ⟨(some 6), (.assign (.tmp 56)), none⟩,
   ⟨(some 7), (.assign (.const (.bool true))), none⟩])
 .ret))))))
theorem x_spec_RaiseAll : Txt Try.prog 25 c_spec_RaiseAll [.tmp 6, .tmp 7] 3 := ⟨by kernel_rfl, by kernel_rfl, _, _, Try.func25, rfl, by kernel_rfl, by kernel_rfl, by kernel_rfl, rfl, by decide⟩
/-- loop.example/g01062/impl.RaiseAll -/
def c_impl_RaiseAll : Cd :=
 (.seq (.reg [⟨(some 6), (.assign (.const (.slice none 0 0))), none⟩,
   ⟨(some 7), (.assign (.const (.bool false))), none⟩])
 (.seq (.seq (.reg [⟨(some 11), (.move (.tmp 0)), none⟩,
   ⟨(some 12), (.call (.mk (.value (.func 51)) #[(.tmp 11)] #[25])), none⟩,
   ⟨(some 13), (.unOp .not 4 (.tmp 12)), none⟩,
   ⟨(some 14), (.move (.tmp 13)), none⟩,
   ⟨(some 15), (.move (.tmp 1)), (some (14, false))⟩,
   ⟨(some 16), (.call (.mk (.value (.func 57)) #[(.tmp 15)] #[3])), (some (14, false))⟩,
   ⟨(some 17), (.unOp .not 4 (.tmp 16)), (some (14, false))⟩,
   ⟨(some 18), (.pick (.tmp 14) (.const (.bool true)) (.tmp 17)), none⟩,
   ⟨(some 19), (.move (.tmp 18)), none⟩,
   ⟨(some 20), (.move (.tmp 2)), (some (19, false))⟩,
   ⟨(some 21), (.call (.mk (.value (.func 60)) #[(.tmp 20), (.const (.int .i64 0)), (.const (.int .i64 100))] #[3, 3, 3])), (some (19, false))⟩,
   ⟨(some 22), (.unOp .not 4 (.tmp 21)), (some (19, false))⟩,
   ⟨(some 23), (.pick (.tmp 19) (.const (.bool true)) (.tmp 22)), none⟩])
 (.cond (.tmp 23) (.seq (.reg [⟨(some 6), (.assign (.const (.slice none 0 0))), none⟩,
   ⟨(some 7), (.assign (.const (.bool false))), none⟩])
 .ret) .skip))
 (.seq (.reg [⟨(some 24), (.move (.tmp 0)), none⟩,
   ⟨(some 25), (.call (.mk (.value (.func 62)) #[(.tmp 24)] #[25])), none⟩,
   ⟨(some 8), (.assign (.tmp 25)), none⟩])
 (.seq (.seq (.reg [⟨(some 26), (.move (.tmp 8)), none⟩,
   ⟨(some 27), (.call (.mk (.builtin .len) #[(.tmp 26)] #[25])), none⟩,
   ⟨(some 28), (.move (.const (.int .i64 0))), none⟩])
 (.block 0 (.loop (.seq (.reg [⟨(some 29), (.binOp .lss 3 (.tmp 28) (.tmp 27) 3), none⟩])
 (.seq (.cond (.tmp 29) .skip (.exit 0))
 (.seq (.block 1 (.seq (.reg [⟨(some 30), (.move (.tmp 28)), none⟩,
   ⟨(some 31), (.indexAddr 25 (.tmp 26) (.tmp 28)), none⟩,
   ⟨(some 32), (.load 56 (.tmp 31)), none⟩,
   ⟨(some 10), (.alloc 56), none⟩,
   ⟨(some 9), (.assign (.tmp 30)), none⟩,
   ⟨none, (.store 56 (.tmp 10) (.tmp 32)), none⟩])
 (.seq (.reg [⟨(some 33), (.fieldAddr 56 (.tmp 10) 1), none⟩,
   ⟨(some 34), (.load 3 (.tmp 33)), none⟩,
   ⟨(some 35), (.move (.tmp 1)), none⟩,
   ⟨(some 36), (.binOp .eql 3 (.tmp 34) (.tmp 35) 3), none⟩])
 (.cond (.tmp 36) (.reg [⟨(some 37), (.move (.tmp 8)), none⟩,
   ⟨(some 38), (.move (.tmp 9)), none⟩,
   ⟨(some 39), (.fieldAddr 56 (.tmp 10) 2), none⟩,
   ⟨(some 40), (.load 3 (.tmp 39)), none⟩,
   ⟨(some 41), (.move (.tmp 2)), none⟩,
   ⟨(some 42), (.binOp .add 3 (.const (.int .i64 100)) (.tmp 41) 3), none⟩,
   ⟨(some 43), (.binOp .mul 3 (.tmp 40) (.tmp 42) 3), none⟩,
   ⟨(some 44), (.binOp .add 3 (.tmp 43) (.const (.int .i64 99)) 3), none⟩,
   ⟨(some 45), (.binOp .quo 3 (.tmp 44) (.const (.int .i64 100)) 3), none⟩,
   ⟨(some 46), (.indexAddr 25 (.tmp 37) (.tmp 38)), none⟩,
   ⟨(some 47), (.fieldAddr 56 (.tmp 46) 2), none⟩,
   ⟨none, (.store 3 (.tmp 47) (.tmp 45)), none⟩]) .skip))))
 (.reg [⟨(some 48), (.binOp .add 3 (.tmp 28) (.const (.int .i64 1)) 3), none⟩,
   ⟨(some 28), (.move (.tmp 48)), none⟩])))))))
 (.seq (.seq (.reg [⟨(some 49), (.move (.tmp 8)), none⟩,
   ⟨(some 50), (.call (.mk (.value (.func 51)) #[(.tmp 49)] #[25])), none⟩,
   ⟨(some 51), (.unOp .not 4 (.tmp 50)), none⟩])
 (.cond (.tmp 51) (.seq (.reg [⟨(some 6), (.assign (.const (.slice none 0 0))), none⟩,
   ⟨(some 7), (.assign (.const (.bool false))), none⟩])
 .ret) .skip))
 (.seq (.reg [⟨(some 52), (.move (.tmp 8)), none⟩,
   ⟨(some 6), (.assign (.tmp 52)), none⟩,
   ⟨(some 7), (.assign (.const (.bool true))), none⟩])
 .ret))))))
theorem x_impl_RaiseAll : Txt Try.prog 26 c_impl_RaiseAll [.tmp 6, .tmp 7] 3 := ⟨by kernel_rfl, by kernel_rfl, _, _, Try.func26, rfl, by kernel_rfl, by kernel_rfl, by kernel_rfl, rfl, by decide⟩
/-- loop.example/g01062/spec.GrowthIn -/
def c_spec_GrowthIn : Cd :=
 (.seq (.reg [⟨(some 8), (.assign (.const (.int .i64 0))), none⟩,
   ⟨(some 9), (.assign (.const (.int .i64 0))), none⟩,
   ⟨(some 10), (.assign (.const (.bool false))), none⟩])
 (.seq (.seq (.reg [⟨(some 15), (.move (.tmp 0)), none⟩,
   ⟨(some 16), (.call (.mk (.value (.func 49)) #[(.tmp 15)] #[25])), none⟩,
   ⟨(some 17), (.unOp .not 4 (.tmp 16)), none⟩,
   ⟨(some 18), (.move (.tmp 17)), none⟩,
   ⟨(some 19), (.move (.tmp 1)), (some (18, false))⟩,
   ⟨(some 20), (.call (.mk (.value (.func 53)) #[(.tmp 19)] #[3])), (some (18, false))⟩,
   ⟨(some 21), (.unOp .not 4 (.tmp 20)), (some (18, false))⟩,
   ⟨(some 22), (.pick (.tmp 18) (.const (.bool true)) (.tmp 21)), none⟩,
   ⟨(some 23), (.move (.tmp 22)), none⟩,
   ⟨(some 24), (.move (.tmp 2)), (some (23, false))⟩,
   ⟨(some 25), (.call (.mk (.value (.func 55)) #[(.tmp 24)] #[3])), (some (23, false))⟩,
   ⟨(some 26), (.unOp .not 4 (.tmp 25)), (some (23, false))⟩,
   ⟨(some 27), (.pick (.tmp 23) (.const (.bool true)) (.tmp 26)), none⟩,
   ⟨(some 28), (.move (.tmp 27)), none⟩,
   ⟨(some 29), (.move (.tmp 3)), (some (28, false))⟩,
   ⟨(some 30), (.call (.mk (.value (.func 55)) #[(.tmp 29)] #[3])), (some (28, false))⟩,
   ⟨(some 31), (.unOp .not 4 (.tmp 30)), (some (28, false))⟩,
   ⟨(some 32), (.pick (.tmp 28) (.const (.bool true)) (.tmp 31)), none⟩,
   ⟨(some 33), (.move (.tmp 32)), none⟩,
   ⟨(some 34), (.move (.tmp 2)), (some (33, false))⟩,
   ⟨(some 35), (.move (.tmp 3)), (some (33, false))⟩,
   ⟨(some 36), (.binOp .geq 3 (.tmp 34) (.tmp 35) 3), (some (33, false))⟩,
   ⟨(some 37), (.pick (.tmp 33) (.const (.bool true)) (.tmp 36)), none⟩])
 (.cond (.tmp 37) (.seq (.reg [⟨(some 8), (.assign (.const (.int .i64 0))), none⟩,
   ⟨(some 9), (.assign (.const (.int .i64 0))), none⟩,
   ⟨(some 10), (.assign (.const (.bool false))), none⟩])
 .ret) .skip))
 (.seq (.reg [⟨(some 38), (.move (.tmp 0)), none⟩,
   ⟨(some 39), (.move (.tmp 1)), none⟩,
   ⟨(some 40), (.move (.tmp 2)), none⟩,
   ⟨(some 41), (.call (.mk (.value (.func 56)) #[(.tmp 38), (.tmp 39), (.tmp 40)] #[25, 3, 3])), none⟩,
   ⟨(some 42), (.move (.tmp 0)), none⟩,
   ⟨(some 43), (.move (.tmp 1)), none⟩,
   ⟨(some 44), (.move (.tmp 3)), none⟩,
   ⟨(some 45), (.call (.mk (.value (.func 56)) #[(.tmp 42), (.tmp 43), (.tmp 44)] #[25, 3, 3])), none⟩,
   ⟨(some 11), (.assign (.tmp 41)), none⟩,
   ⟨(some 12), (.assign (.tmp 45)), none⟩])
 (.seq (.seq (.reg [⟨(some 46), (.move (.tmp 11)), none⟩,
   ⟨(some 47), (.binOp .eql 3 (.tmp 46) (.const (.int .i64 0)) 3), none⟩,
   ⟨(some 48), (.move (.tmp 47)), none⟩,
   ⟨(some 49), (.move (.tmp 12)), (some (48, false))⟩,
   ⟨(some 50), (.binOp .eql 3 (.tmp 49) (.const (.int .i64 0)) 3), (some (48, false))⟩,
   ⟨(some 51), (.pick (.tmp 48) (.const (.bool true)) (.tmp 50)), none⟩])
 (.cond (.tmp 51) (.seq (.reg [⟨(some 8), (.assign (.const (.int .i64 0))), none⟩,
   ⟨(some 9), (.assign (.const (.int .i64 0))), none⟩,
   ⟨(some 10), (.assign (.const (.bool false))), none⟩])
 .ret) .skip))
 (.seq (.reg [⟨(some 53), (.move (.tmp 12)), none⟩,
   ⟨(some 54), (.move (.tmp 11)), none⟩,
   ⟨(some 55), (.call (.mk (.value (.func 63)) #[(.tmp 53), (.tmp 54)] #[3, 3])), none⟩,
   ⟨(some 52), (.move (.tmp 55)), none⟩,
   ⟨(some 56), (.extract (.tmp 52) 0), none⟩,
   ⟨(some 57), (.extract (.tmp 52) 1), none⟩,
   ⟨(some 13), (.assign (.tmp 56)), none⟩,
   ⟨(some 14), (.assign (.tmp 57)), none⟩])
 (.seq (.reg [⟨(some 58), (.move (.tmp 13)), none⟩,
   ⟨(some 59), (.move (.tmp 14)), none⟩,
   ⟨(some 8), (.assign (.tmp 58)), none⟩,
   ⟨(some 9), (.assign (.tmp 59)), none⟩,
   ⟨(some 10), (.assign (.const (.bool true))), none⟩])
 .ret))))))
theorem x_spec_GrowthIn : Txt Try.prog 29 c_spec_GrowthIn [.tmp 8, .tmp 9, .tmp 10] 4 := ⟨by kernel_rfl, by kernel_rfl, _, _, Try.func29, rfl, by kernel_rfl, by kernel_rfl, by kernel_rfl, rfl, by decide⟩
/-- loop.example/g01062/impl.GrowthIn -/
def c_impl_GrowthIn : Cd :=
 (.seq (.reg [⟨(some 8), (.assign (.const (.int .i64 0))), none⟩,
   ⟨(some 9), (.assign (.const (.int .i64 0))), none⟩,
   ⟨(some 10), (.assign (.const (.bool false))), none⟩])
 (.seq (.seq (.reg [⟨(some 17), (.move (.tmp 0)), none⟩,
   ⟨(some 18), (.call (.mk (.value (.func 51)) #[(.tmp 17)] #[25])), none⟩,
   ⟨(some 19), (.unOp .not 4 (.tmp 18)), none⟩,
   ⟨(some 20), (.move (.tmp 19)), none⟩,
   ⟨(some 21), (.move (.tmp 1)), (some (20, false))⟩,
   ⟨(some 22), (.call (.mk (.value (.func 54)) #[(.tmp 21)] #[3])), (some (20, false))⟩,
   ⟨(some 23), (.unOp .not 4 (.tmp 22)), (some (20, false))⟩,
   ⟨(some 24), (.pick (.tmp 20) (.const (.bool true)) (.tmp 23)), none⟩,
   ⟨(some 25), (.move (.tmp 24)), none⟩,
   ⟨(some 26), (.move (.tmp 2)), (some (25, false))⟩,
   ⟨(some 27), (.call (.mk (.value (.func 57)) #[(.tmp 26)] #[3])), (some (25, false))⟩,
   ⟨(some 28), (.unOp .not 4 (.tmp 27)), (some (25, false))⟩,
   ⟨(some 29), (.pick (.tmp 25) (.const (.bool true)) (.tmp 28)), none⟩,
   ⟨(some 30), (.move (.tmp 29)), none⟩,
   ⟨(some 31), (.move (.tmp 3)), (some (30, false))⟩,
   ⟨(some 32), (.call (.mk (.value (.func 57)) #[(.tmp 31)] #[3])), (some (30, false))⟩,
   ⟨(some 33), (.unOp .not 4 (.tmp 32)), (some (30, false))⟩,
   ⟨(some 34), (.pick (.tmp 30) (.const (.bool true)) (.tmp 33)), none⟩,
   ⟨(some 35), (.move (.tmp 34)), none⟩,
   ⟨(some 36), (.move (.tmp 2)), (some (35, false))⟩,
   ⟨(some 37), (.move (.tmp 3)), (some (35, false))⟩,
   ⟨(some 38), (.binOp .geq 3 (.tmp 36) (.tmp 37) 3), (some (35, false))⟩,
   ⟨(some 39), (.pick (.tmp 35) (.const (.bool true)) (.tmp 38)), none⟩])
 (.cond (.tmp 39) (.seq (.reg [⟨(some 8), (.assign (.const (.int .i64 0))), none⟩,
   ⟨(some 9), (.assign (.const (.int .i64 0))), none⟩,
   ⟨(some 10), (.assign (.const (.bool false))), none⟩])
 .ret) .skip))
 (.seq (.reg [⟨(some 41), (.move (.tmp 0)), none⟩,
   ⟨(some 42), (.move (.tmp 1)), none⟩,
   ⟨(some 43), (.move (.tmp 2)), none⟩,
   ⟨(some 44), (.call (.mk (.value (.func 58)) #[(.tmp 41), (.tmp 42), (.tmp 43)] #[25, 3, 3])), none⟩,
   ⟨(some 40), (.move (.tmp 44)), none⟩,
   ⟨(some 45), (.extract (.tmp 40) 0), none⟩,
   ⟨(some 46), (.extract (.tmp 40) 1), none⟩,
   ⟨(some 11), (.assign (.tmp 45)), none⟩,
   ⟨(some 12), (.assign (.tmp 46)), none⟩])
 (.seq (.reg [⟨(some 48), (.move (.tmp 0)), none⟩,
   ⟨(some 49), (.move (.tmp 1)), none⟩,
   ⟨(some 50), (.move (.tmp 3)), none⟩,
   ⟨(some 51), (.call (.mk (.value (.func 58)) #[(.tmp 48), (.tmp 49), (.tmp 50)] #[25, 3, 3])), none⟩,
   ⟨(some 47), (.move (.tmp 51)), none⟩,
   ⟨(some 52), (.extract (.tmp 47) 0), none⟩,
   ⟨(some 53), (.extract (.tmp 47) 1), none⟩,
   ⟨(some 13), (.assign (.tmp 52)), none⟩,
   ⟨(some 14), (.assign (.tmp 53)), none⟩])
 (.seq (.seq (.reg [⟨(some 54), (.move (.tmp 12)), none⟩,
   ⟨(some 55), (.unOp .not 4 (.tmp 54)), none⟩,
   ⟨(some 56), (.move (.tmp 55)), none⟩,
   ⟨(some 57), (.move (.tmp 14)), (some (56, false))⟩,
   ⟨(some 58), (.unOp .not 4 (.tmp 57)), (some (56, false))⟩,
   ⟨(some 59), (.pick (.tmp 56) (.const (.bool true)) (.tmp 58)), none⟩])
 (.cond (.tmp 59) (.seq (.reg [⟨(some 8), (.assign (.const (.int .i64 0))), none⟩,
   ⟨(some 9), (.assign (.const (.int .i64 0))), none⟩,
   ⟨(some 10), (.assign (.const (.bool false))), none⟩])
 .ret) .skip))
 (.seq (.reg [⟨(some 61), (.move (.tmp 13)), none⟩,
   ⟨(some 62), (.move (.tmp 11)), none⟩,
   ⟨(some 63), (.call (.mk (.value (.func 64)) #[(.tmp 61), (.tmp 62)] #[3, 3])), none⟩,
   ⟨(some 60), (.move (.tmp 63)), none⟩,
   ⟨(some 64), (.extract (.tmp 60) 0), none⟩,
   ⟨(some 65), (.extract (.tmp 60) 1), none⟩,
   ⟨(some 15), (.assign (.tmp 64)), none⟩,
   ⟨(some 16), (.assign (.tmp 65)), none⟩])
 (.seq (.reg [⟨(some 66), (.move (.tmp 15)), none⟩,
   ⟨(some 67), (.move (.tmp 16)), none⟩,
   ⟨(some 8), (.assign (.tmp 66)), none⟩,
   ⟨(some 9), (.assign (.tmp 67)), none⟩,
   ⟨(some 10), (.assign (.const (.bool true))), none⟩])
 .ret)))))))
theorem x_impl_GrowthIn : Txt Try.prog 30 c_impl_GrowthIn [.tmp 8, .tmp 9, .tmp 10] 4 := ⟨by kernel_rfl, by kernel_rfl, _, _, Try.func30, rfl, by kernel_rfl, by kernel_rfl, by kernel_rfl, rfl, by decide⟩
/-- loop.example/g01062/spec.SetPrice -/
def c_spec_SetPrice : Cd :=
 (.seq (.reg [⟨(some 8), (.assign (.const (.slice none 0 0))), none⟩,
   ⟨(some 9), (.assign (.const (.bool false))), none⟩])
 (.seq (.seq (.reg [⟨(some 13), (.move (.tmp 0)), none⟩,
   ⟨(some 14), (.call (.mk (.value (.func 49)) #[(.tmp 13)] #[25])), none⟩,
   ⟨(some 15), (.unOp .not 4 (.tmp 14)), none⟩])
 (.cond (.tmp 15) (.seq (.reg [⟨(some 16), (.buildSlice 25 0 #[]), none⟩,
   ⟨(some 8), (.assign (.tmp 16)), none⟩,
   ⟨(some 9), (.assign (.const (.bool false))), none⟩])
 .ret) .skip))
 (.seq (.reg [⟨(some 17), (.buildSlice 25 0 #[]), none⟩,
   ⟨(some 10), (.assign (.tmp 17)), none⟩])
 (.seq (.seq (.reg [⟨(some 11), (.assign (.const (.int .i64 0))), none⟩])
 (.block 0 (.loop (.seq (.seq (.reg [⟨(some 18), (.move (.tmp 11)), none⟩,
   ⟨(some 19), (.move (.tmp 0)), none⟩,
   ⟨(some 20), (.call (.mk (.builtin .len) #[(.tmp 19)] #[25])), none⟩,
   ⟨(some 21), (.binOp .lss 3 (.tmp 18) (.tmp 20) 3), none⟩])
 (.cond (.tmp 21) .skip (.exit 0)))
 (.seq (.block 1 (.seq (.reg [⟨(some 24), (.move (.tmp 0)), none⟩,
   ⟨(some 25), (.move (.tmp 11)), none⟩,
   ⟨(some 26), (.indexAddr 25 (.tmp 24) (.tmp 25)), none⟩,
   ⟨(some 27), (.load 56 (.tmp 26)), none⟩,
   ⟨(some 28), (.move (.tmp 1)), none⟩,
   ⟨(some 29), (.move (.tmp 2)), none⟩,
   ⟨(some 30), (.call (.mk (.value (.func 69)) #[(.tmp 27), (.tmp 28), (.tmp 29)] #[56, 3, 3])), none⟩])
 (.cond (.tmp 30) (.reg [⟨(some 31), (.move (.tmp 10)), none⟩,
   ⟨(some 32), (.move (.tmp 0)), none⟩,
   ⟨(some 33), (.move (.tmp 11)), none⟩,
   ⟨(some 34), (.indexAddr 25 (.tmp 32) (.tmp 33)), none⟩,
   ⟨(some 35), (.load 56 (.tmp 34)), none⟩,
   ⟨(some 36), (.buildSlice 25 1 #[(0, (.tmp 35))]), none⟩,
   ⟨(some 37), (.call (.mk (.builtin .append) #[(.tmp 31), (.tmp 36)] #[25, 25])), none⟩,
   ⟨(some 10), (.assign (.tmp 37)), none⟩]) .skip)))
 (.reg [⟨(some 22), (.move (.tmp 11)), none⟩,
   ⟨(some 23), (.binOp .add 3 (.tmp 22) (.const (.int .i64 1)) 3), none⟩,
   ⟨(some 11), (.assign (.tmp 23)), none⟩]))))))
 (.seq (.reg [⟨(some 38), (.move (.tmp 10)), none⟩,
   ⟨(some 39), (.move (.tmp 1)), none⟩,
   ⟨(some 40), (.move (.tmp 2)), none⟩,
   ⟨(some 41), (.move (.tmp 3)), none⟩,
   ⟨(some 42), (.build 56 #[(0, (.tmp 39)), (1, (.tmp 40)), (2, (.tmp 41))]), none⟩,
   ⟨(some 43), (.buildSlice 25 1 #[(0, (.tmp 42))]), none⟩,
   ⟨(some 44), (.call (.mk (.builtin .append) #[(.tmp 38), (.tmp 43)] #[25, 25])), none⟩,
   ⟨(some 10), (.assign (.tmp 44)), none⟩])
 (.seq (.seq (.reg [⟨(some 12), (.assign (.const (.int .i64 0))), none⟩])
 (.block 2 (.loop (.seq (.seq (.reg [⟨(some 45), (.move (.tmp 12)), none⟩,
   ⟨(some 46), (.move (.tmp 0)), none⟩,
   ⟨(some 47), (.call (.mk (.builtin .len) #[(.tmp 46)] #[25])), none⟩,
   ⟨(some 48), (.binOp .lss 3 (.tmp 45) (.tmp 47) 3), none⟩])
 (.cond (.tmp 48) .skip (.exit 2)))
 (.seq (.block 3 (.seq (.reg [⟨(some 51), (.move (.tmp 0)), none⟩,
   ⟨(some 52), (.move (.tmp 12)), none⟩,
   ⟨(some 53), (.indexAddr 25 (.tmp 51) (.tmp 52)), none⟩,
   ⟨(some 54), (.load 56 (.tmp 53)), none⟩,
   ⟨(some 55), (.move (.tmp 1)), none⟩,
   ⟨(some 56), (.move (.tmp 2)), none⟩,
   ⟨(some 57), (.call (.mk (.value (.func 69)) #[(.tmp 54), (.tmp 55), (.tmp 56)] #[56, 3, 3])), none⟩,
   ⟨(some 58), (.unOp .not 4 (.tmp 57)), none⟩,
   ⟨(some 59), (.move (.tmp 58)), none⟩,
   ⟨(some 60), (.move (.tmp 0)), (some (59, true))⟩,
   ⟨(some 61), (.move (.tmp 12)), (some (59, true))⟩,
   ⟨(some 62), (.indexAddr 25 (.tmp 60) (.tmp 61)), (some (59, true))⟩,
   ⟨(some 63), (.fieldAddr 56 (.tmp 62) 0), (some (59, true))⟩,
   ⟨(some 64), (.load 3 (.tmp 63)), (some (59, true))⟩,
   ⟨(some 65), (.move (.tmp 1)), (some (59, true))⟩,
   ⟨(some 66), (.binOp .neq 3 (.tmp 64) (.tmp 65) 3), (some (59, true))⟩,
   ⟨(some 67), (.move (.tmp 66)), (some (59, true))⟩,
   ⟨(some 68), (.move (.tmp 0)), (some (67, false))⟩,
   ⟨(some 69), (.move (.tmp 12)), (some (67, false))⟩,
   ⟨(some 70), (.indexAddr 25 (.tmp 68) (.tmp 69)), (some (67, false))⟩,
   ⟨(some 71), (.fieldAddr 56 (.tmp 70) 1), (some (67, false))⟩,
   ⟨(some 72), (.load 3 (.tmp 71)), (some (67, false))⟩,
   ⟨(some 73), (.move (.tmp 2)), (some (67, false))⟩,
   ⟨(some 74), (.binOp .neq 3 (.tmp 72) (.tmp 73) 3), (some (67, false))⟩,
   ⟨(some 75), (.pick (.tmp 67) (.const (.bool true)) (.tmp 74)), (some (59, true))⟩,
   ⟨(some 76), (.pick (.tmp 59) (.tmp 75) (.const (.bool false))), none⟩])
 (.cond (.tmp 76) (.reg [⟨(some 77), (.move (.tmp 10)), none⟩,
   ⟨(some 78), (.move (.tmp 0)), none⟩,
   ⟨(some 79), (.move (.tmp 12)), none⟩,
   ⟨(some 80), (.indexAddr 25 (.tmp 78) (.tmp 79)), none⟩,
   ⟨(some 81), (.load 56 (.tmp 80)), none⟩,
   ⟨(some 82), (.buildSlice 25 1 #[(0, (.tmp 81))]), none⟩,
   ⟨(some 83), (.call (.mk (.builtin .append) #[(.tmp 77), (.tmp 82)] #[25, 25])), none⟩,
   ⟨(some 10), (.assign (.tmp 83)), none⟩]) .skip)))
 (.reg [⟨(some 49), (.move (.tmp 12)), none⟩,
   ⟨(some 50), (.binOp .add 3 (.tmp 49) (.const (.int .i64 1)) 3), none⟩,
   ⟨(some 12), (.assign (.tmp 50)), none⟩]))))))
 (.seq (.seq (.reg [⟨(some 84), (.move (.tmp 10)), none⟩,
   ⟨(some 85), (.call (.mk (.value (.func 49)) #[(.tmp 84)] #[25])), none⟩,
   ⟨(some 86), (.unOp .not 4 (.tmp 85)), none⟩])
 (.cond (.tmp 86) (.seq (.reg [⟨(some 87), (.buildSlice 25 0 #[]), none⟩,
   ⟨(some 8), (.assign (.tmp 87)), none⟩,
   ⟨(some 9), (.assign (.const (.bool false))), none⟩])
 .ret) .skip))
 (.seq (.reg [⟨(some 88), (.move (.tmp 10)), none⟩,
   ⟨(some 8), (.assign (.tmp 88)), none⟩,
   ⟨(some 9), (.assign (.const (.bool true))), none⟩])
 .ret))))))))
theorem x_spec_SetPrice : Txt Try.prog 41 c_spec_SetPrice [.tmp 8, .tmp 9] 4 := ⟨by kernel_rfl, by kernel_rfl, _, _, Try.func41, rfl, by kernel_rfl, by kernel_rfl, by kernel_rfl, rfl, by decide⟩
/-- loop.example/g01062/impl.SetPrice -/
def c_impl_SetPrice : Cd :=
 (.seq (.reg [⟨(some 8), (.assign (.const (.slice none 0 0))), none⟩,
   ⟨(some 9), (.assign (.const (.bool false))), none⟩])
 (.seq (.reg [⟨(some 14), (.move (.tmp 1)), none⟩,
   ⟨(some 15), (.move (.tmp 2)), none⟩,
   ⟨(some 16), (.move (.tmp 3)), none⟩,
   ⟨(some 17), (.build 56 #[(0, (.tmp 14)), (1, (.tmp 15)), (2, (.tmp 16))]), none⟩,
   ⟨(some 10), (.alloc 56), none⟩,
   ⟨none, (.store 56 (.tmp 10) (.tmp 17)), none⟩])
 (.seq (.seq (.reg [⟨(some 18), (.move (.tmp 0)), none⟩,
   ⟨(some 19), (.call (.mk (.value (.func 51)) #[(.tmp 18)] #[25])), none⟩,
   ⟨(some 20), (.unOp .not 4 (.tmp 19)), none⟩,
   ⟨(some 21), (.move (.tmp 20)), none⟩,
   ⟨(some 22), (.load 56 (.tmp 10)), (some (21, false))⟩,
   ⟨(some 23), (.call (.mk (.value (.func 70)) #[(.tmp 22)] #[56])), (some (21, false))⟩,
   ⟨(some 24), (.unOp .not 4 (.tmp 23)), (some (21, false))⟩,
   ⟨(some 25), (.pick (.tmp 21) (.const (.bool true)) (.tmp 24)), none⟩])
 (.cond (.tmp 25) (.seq (.reg [⟨(some 8), (.assign (.const (.slice none 0 0))), none⟩,
   ⟨(some 9), (.assign (.const (.bool false))), none⟩])
 .ret) .skip))
 (.seq (.reg [⟨(some 27), (.move (.tmp 0)), none⟩,
   ⟨(some 28), (.load 56 (.tmp 10)), none⟩,
   ⟨(some 29), (.call (.mk (.value (.func 71)) #[(.tmp 27), (.tmp 28), (.func 72)] #[25, 56, 72])), none⟩,
   ⟨(some 26), (.move (.tmp 29)), none⟩,
   ⟨(some 30), (.extract (.tmp 26) 0), none⟩,
   ⟨(some 31), (.extract (.tmp 26) 1), none⟩,
   ⟨(some 11), (.assign (.tmp 30)), none⟩,
   ⟨(some 12), (.assign (.tmp 31)), none⟩])
 (.seq (.reg [⟨(some 32), (.move (.tmp 0)), none⟩,
   ⟨(some 33), (.call (.mk (.value (.func 62)) #[(.tmp 32)] #[25])), none⟩,
   ⟨(some 13), (.assign (.tmp 33)), none⟩])
 (.seq (.seq (.reg [⟨(some 34), (.move (.tmp 12)), none⟩])
 (.cond (.tmp 34) (.reg [⟨(some 35), (.move (.tmp 13)), none⟩,
   ⟨(some 36), (.move (.tmp 11)), none⟩,
   ⟨(some 37), (.load 56 (.tmp 10)), none⟩,
   ⟨(some 38), (.indexAddr 25 (.tmp 35) (.tmp 36)), none⟩,
   ⟨none, (.store 56 (.tmp 38) (.tmp 37)), none⟩]) (.reg [⟨(some 39), (.move (.tmp 13)), none⟩,
   ⟨(some 40), (.move (.tmp 11)), none⟩,
   ⟨(some 41), (.load 56 (.tmp 10)), none⟩,
   ⟨(some 42), (.buildSlice 25 1 #[(0, (.tmp 41))]), none⟩,
   ⟨(some 43), (.call (.mk (.value (.func 73)) #[(.tmp 39), (.tmp 40), (.tmp 42)] #[25, 3, 25])), none⟩,
   ⟨(some 13), (.assign (.tmp 43)), none⟩])))
 (.seq (.seq (.reg [⟨(some 44), (.move (.tmp 13)), none⟩,
   ⟨(some 45), (.call (.mk (.value (.func 51)) #[(.tmp 44)] #[25])), none⟩,
   ⟨(some 46), (.unOp .not 4 (.tmp 45)), none⟩])
 (.cond (.tmp 46) (.seq (.reg [⟨(some 8), (.assign (.const (.slice none 0 0))), none⟩,
   ⟨(some 9), (.assign (.const (.bool false))), none⟩])
 .ret) .skip))
 (.seq (.reg [⟨(some 47), (.move (.tmp 13)), none⟩,
   ⟨(some 8), (.assign (.tmp 47)), none⟩,
   ⟨(some 9), (.assign (.const (.bool true))), none⟩])
 .ret))))))))
theorem x_impl_SetPrice : Txt Try.prog 42 c_impl_SetPrice [.tmp 8, .tmp 9] 4 := ⟨by kernel_rfl, by kernel_rfl, _, _, Try.func42, rfl, by kernel_rfl, by kernel_rfl, by kernel_rfl, rfl, by decide⟩
/-- loop.example/g01062/laws.rBig -/
def c_laws_rBig : Cd :=
 (.seq (.reg [⟨(some 2), (.assign (.const (.bool false))), none⟩])
 (.seq (.reg [⟨(some 3), (.move (.tmp 0)), none⟩,
   ⟨(some 4), (.call (.mk (.builtin .len) #[(.tmp 3)] #[49])), none⟩,
   ⟨(some 5), (.binOp .gtr 3 (.tmp 4) (.const (.int .i64 65536)) 3), none⟩,
   ⟨(some 2), (.assign (.tmp 5)), none⟩])
 .ret))
theorem x_laws_rBig : Txt Try.prog 43 c_laws_rBig [.tmp 2] 1 := ⟨by kernel_rfl, by kernel_rfl, _, _, Try.func43, rfl, by kernel_rfl, by kernel_rfl, by kernel_rfl, rfl, by decide⟩
/-- loop.example/g01062/spec.DrawSetPrice -/
def c_spec_DrawSetPrice : Cd :=
 (.seq (.reg [⟨(some 2), (.assign (.const (.slice none 0 0))), none⟩,
   ⟨(some 3), (.assign (.const (.int .i64 0))), none⟩,
   ⟨(some 4), (.assign (.const (.int .i64 0))), none⟩,
   ⟨(some 5), (.assign (.const (.int .i64 0))), none⟩])
 (.seq (.reg [⟨(some 8), (.move (.tmp 0)), none⟩,
   ⟨(some 9), (.build 77 #[(0, (.tmp 8))]), none⟩,
   ⟨(some 10), (.box 77 (.tmp 9)), none⟩,
   ⟨(some 6), (.assign (.tmp 10)), none⟩])
 (.seq (.reg [⟨(some 11), (.move (.tmp 6)), none⟩,
   ⟨(some 12), (.call (.mk (.value (.func 74)) #[(.tmp 11)] #[74])), none⟩,
   ⟨(some 7), (.assign (.tmp 12)), none⟩])
 (.seq (.reg [⟨(some 13), (.move (.tmp 7)), none⟩,
   ⟨(some 14), (.move (.tmp 6)), none⟩,
   ⟨(some 15), (.move (.tmp 7)), none⟩,
   ⟨(some 16), (.call (.mk (.value (.func 75)) #[(.tmp 14), (.tmp 15)] #[74, 25])), none⟩,
   ⟨(some 17), (.move (.tmp 6)), none⟩,
   ⟨(some 18), (.move (.tmp 7)), none⟩,
   ⟨(some 19), (.call (.mk (.value (.func 76)) #[(.tmp 17), (.tmp 18)] #[74, 25])), none⟩,
   ⟨(some 20), (.move (.tmp 6)), none⟩,
   ⟨(some 21), (.buildSlice 40 5 #[(0, (.const (.int .i64 1))), (1, (.const (.int .i64 77))), (2, (.const (.int .i64 10000000))), (3, (.const (.int .i64 0))), (4, (.const (.int .i64 10000001)))]), none⟩,
   ⟨(some 22), (.move (.tmp 6)), none⟩,
   ⟨(some 23), (.call (.mk (.value (.func 78)) #[(.tmp 22), (.const (.int .i64 24))] #[74, 3])), none⟩,
   ⟨(some 24), (.binOp .quo 3 (.tmp 23) (.const (.int .i64 11)) 3), none⟩,
   ⟨(some 25), (.binOp .add 3 (.const (.int .i64 3)) (.tmp 24) 3), none⟩,
   ⟨(some 26), (.slice 40 (.tmp 21) none (some (.tmp 25)) none), none⟩,
   ⟨(some 27), (.call (.mk (.value (.func 77)) #[(.tmp 20), (.tmp 26)] #[74, 40])), none⟩,
   ⟨(some 2), (.assign (.tmp 13)), none⟩,
   ⟨(some 3), (.assign (.tmp 16)), none⟩,
   ⟨(some 4), (.assign (.tmp 19)), none⟩,
   ⟨(some 5), (.assign (.tmp 27)), none⟩])
 .ret))))
theorem x_spec_DrawSetPrice : Txt Try.prog 44 c_spec_DrawSetPrice [.tmp 2, .tmp 3, .tmp 4, .tmp 5] 1 := ⟨by kernel_rfl, by kernel_rfl, _, _, Try.func44, rfl, by kernel_rfl, by kernel_rfl, by kernel_rfl, rfl, by decide⟩
/-- loop.example/g01062/laws.rPrices -/
def c_laws_rPrices : Cd :=
 (.seq (.reg [⟨(some 4), (.assign (.const (.bool false))), none⟩])
 (.seq (.seq (.reg [⟨(some 6), (.move (.tmp 0)), none⟩,
   ⟨(some 7), (.call (.mk (.builtin .len) #[(.tmp 6)] #[25])), none⟩,
   ⟨(some 8), (.move (.tmp 1)), none⟩,
   ⟨(some 9), (.call (.mk (.builtin .len) #[(.tmp 8)] #[25])), none⟩,
   ⟨(some 10), (.binOp .neq 3 (.tmp 7) (.tmp 9) 3), none⟩])
 (.cond (.tmp 10) (.seq (.reg [⟨(some 4), (.assign (.const (.bool false))), none⟩])
 .ret) .skip))
 (.seq (.seq (.reg [⟨(some 5), (.assign (.const (.int .i64 0))), none⟩])
 (.block 0 (.loop (.seq (.seq (.reg [⟨(some 11), (.move (.tmp 5)), none⟩,
   ⟨(some 12), (.move (.tmp 0)), none⟩,
   ⟨(some 13), (.call (.mk (.builtin .len) #[(.tmp 12)] #[25])), none⟩,
   ⟨(some 14), (.binOp .lss 3 (.tmp 11) (.tmp 13) 3), none⟩])
 (.cond (.tmp 14) .skip (.exit 0)))
 (.seq (.block 1 (.seq (.regq [⟨(some 17), (.move (.tmp 0)), none⟩,
   ⟨(some 18), (.move (.tmp 5)), none⟩,
   ⟨(some 19), (.indexAddr 25 (.tmp 17) (.tmp 18)), none⟩,
   ⟨(some 20), (.load 56 (.tmp 19)), none⟩,
   ⟨(some 21), (.move (.tmp 1)), none⟩,
   ⟨(some 22), (.move (.tmp 5)), none⟩,
   ⟨(some 23), (.indexAddr 25 (.tmp 21) (.tmp 22)), none⟩,
   ⟨(some 24), (.load 56 (.tmp 23)), none⟩,
   ⟨(some 25), (.binOp .neq 56 (.tmp 20) (.tmp 24) 56), none⟩])
 (.cond (.tmp 25) (.seq (.reg [⟨(some 4), (.assign (.const (.bool false))), none⟩])
 .ret) .skip)))
 (.reg [⟨(some 15), (.move (.tmp 5)), none⟩,
   ⟨(some 16), (.binOp .add 3 (.tmp 15) (.const (.int .i64 1)) 3), none⟩,
   ⟨(some 5), (.assign (.tmp 16)), none⟩]))))))
 (.seq (.reg [⟨(some 4), (.assign (.const (.bool true))), none⟩])
 .ret))))
theorem x_laws_rPrices : Txt Try.prog 45 c_laws_rPrices [.tmp 4] 2 := ⟨by kernel_rfl, by kernel_rfl, _, _, Try.func45, rfl, by kernel_rfl, by kernel_rfl, by kernel_rfl, rfl, by decide⟩
/-- loop.example/g01062/spec.DrawPriceIn -/
def c_spec_DrawPriceIn : Cd :=
 (.seq (.reg [⟨(some 2), (.assign (.const (.slice none 0 0))), none⟩,
   ⟨(some 3), (.assign (.const (.int .i64 0))), none⟩,
   ⟨(some 4), (.assign (.const (.int .i64 0))), none⟩])
 (.seq (.reg [⟨(some 7), (.move (.tmp 0)), none⟩,
   ⟨(some 8), (.build 77 #[(0, (.tmp 7))]), none⟩,
   ⟨(some 9), (.box 77 (.tmp 8)), none⟩,
   ⟨(some 5), (.assign (.tmp 9)), none⟩])
 (.seq (.reg [⟨(some 10), (.move (.tmp 5)), none⟩,
   ⟨(some 11), (.call (.mk (.value (.func 74)) #[(.tmp 10)] #[74])), none⟩,
   ⟨(some 6), (.assign (.tmp 11)), none⟩])
 (.seq (.reg [⟨(some 12), (.move (.tmp 6)), none⟩,
   ⟨(some 13), (.move (.tmp 5)), none⟩,
   ⟨(some 14), (.move (.tmp 6)), none⟩,
   ⟨(some 15), (.call (.mk (.value (.func 75)) #[(.tmp 13), (.tmp 14)] #[74, 25])), none⟩,
   ⟨(some 16), (.move (.tmp 5)), none⟩,
   ⟨(some 17), (.move (.tmp 6)), none⟩,
   ⟨(some 18), (.call (.mk (.value (.func 76)) #[(.tmp 16), (.tmp 17)] #[74, 25])), none⟩,
   ⟨(some 2), (.assign (.tmp 12)), none⟩,
   ⟨(some 3), (.assign (.tmp 15)), none⟩,
   ⟨(some 4), (.assign (.tmp 18)), none⟩])
 .ret))))
theorem x_spec_DrawPriceIn : Txt Try.prog 46 c_spec_DrawPriceIn [.tmp 2, .tmp 3, .tmp 4] 1 := ⟨by kernel_rfl, by kernel_rfl, _, _, Try.func46, rfl, by kernel_rfl, by kernel_rfl, by kernel_rfl, rfl, by decide⟩
/-- loop.example/g01062/spec.DrawFirstAbove -/
def c_spec_DrawFirstAbove : Cd :=
 (.seq (.reg [⟨(some 2), (.assign (.const (.slice none 0 0))), none⟩,
   ⟨(some 3), (.assign (.const (.int .i64 0))), none⟩,
   ⟨(some 4), (.assign (.const (.int .i64 0))), none⟩])
 (.seq (.reg [⟨(some 7), (.move (.tmp 0)), none⟩,
   ⟨(some 8), (.build 77 #[(0, (.tmp 7))]), none⟩,
   ⟨(some 9), (.box 77 (.tmp 8)), none⟩,
   ⟨(some 5), (.assign (.tmp 9)), none⟩])
 (.seq (.reg [⟨(some 10), (.move (.tmp 5)), none⟩,
   ⟨(some 11), (.call (.mk (.value (.func 74)) #[(.tmp 10)] #[74])), none⟩,
   ⟨(some 6), (.assign (.tmp 11)), none⟩])
 (.seq (.reg [⟨(some 12), (.move (.tmp 6)), none⟩,
   ⟨(some 13), (.move (.tmp 5)), none⟩,
   ⟨(some 14), (.move (.tmp 6)), none⟩,
   ⟨(some 15), (.call (.mk (.value (.func 75)) #[(.tmp 13), (.tmp 14)] #[74, 25])), none⟩,
   ⟨(some 16), (.move (.tmp 5)), none⟩,
   ⟨(some 17), (.buildSlice 40 8 #[(0, (.const (.int .i64 1))), (1, (.const (.int .i64 100))), (2, (.const (.int .i64 101))), (3, (.const (.int .i64 240))), (4, (.const (.int .i64 1000))), (5, (.const (.int .i64 10000000))), (6, (.const (.int .i64 0))), (7, (.const (.int .i64 10000001)))]), none⟩,
   ⟨(some 18), (.move (.tmp 5)), none⟩,
   ⟨(some 19), (.call (.mk (.value (.func 78)) #[(.tmp 18), (.const (.int .i64 24))] #[74, 3])), none⟩,
   ⟨(some 20), (.binOp .quo 3 (.tmp 19) (.const (.int .i64 11)) 3), none⟩,
   ⟨(some 21), (.binOp .add 3 (.const (.int .i64 6)) (.tmp 20) 3), none⟩,
   ⟨(some 22), (.slice 40 (.tmp 17) none (some (.tmp 21)) none), none⟩,
   ⟨(some 23), (.call (.mk (.value (.func 77)) #[(.tmp 16), (.tmp 22)] #[74, 40])), none⟩,
   ⟨(some 2), (.assign (.tmp 12)), none⟩,
   ⟨(some 3), (.assign (.tmp 15)), none⟩,
   ⟨(some 4), (.assign (.tmp 23)), none⟩])
 .ret))))
theorem x_spec_DrawFirstAbove : Txt Try.prog 47 c_spec_DrawFirstAbove [.tmp 2, .tmp 3, .tmp 4] 1 := ⟨by kernel_rfl, by kernel_rfl, _, _, Try.func47, rfl, by kernel_rfl, by kernel_rfl, by kernel_rfl, rfl, by decide⟩
/-- loop.example/g01062/spec.DrawGrowthIn -/
def c_spec_DrawGrowthIn : Cd :=
 (.seq (.reg [⟨(some 2), (.assign (.const (.slice none 0 0))), none⟩,
   ⟨(some 3), (.assign (.const (.int .i64 0))), none⟩,
   ⟨(some 4), (.assign (.const (.int .i64 0))), none⟩,
   ⟨(some 5), (.assign (.const (.int .i64 0))), none⟩])
 (.seq (.reg [⟨(some 8), (.move (.tmp 0)), none⟩,
   ⟨(some 9), (.build 77 #[(0, (.tmp 8))]), none⟩,
   ⟨(some 10), (.box 77 (.tmp 9)), none⟩,
   ⟨(some 6), (.assign (.tmp 10)), none⟩])
 (.seq (.reg [⟨(some 11), (.move (.tmp 6)), none⟩,
   ⟨(some 12), (.call (.mk (.value (.func 74)) #[(.tmp 11)] #[74])), none⟩,
   ⟨(some 7), (.assign (.tmp 12)), none⟩])
 (.seq (.reg [⟨(some 13), (.move (.tmp 7)), none⟩,
   ⟨(some 14), (.move (.tmp 6)), none⟩,
   ⟨(some 15), (.move (.tmp 7)), none⟩,
   ⟨(some 16), (.call (.mk (.value (.func 75)) #[(.tmp 14), (.tmp 15)] #[74, 25])), none⟩,
   ⟨(some 17), (.move (.tmp 6)), none⟩,
   ⟨(some 18), (.move (.tmp 7)), none⟩,
   ⟨(some 19), (.call (.mk (.value (.func 76)) #[(.tmp 17), (.tmp 18)] #[74, 25])), none⟩,
   ⟨(some 20), (.move (.tmp 6)), none⟩,
   ⟨(some 21), (.move (.tmp 7)), none⟩,
   ⟨(some 22), (.call (.mk (.value (.func 76)) #[(.tmp 20), (.tmp 21)] #[74, 25])), none⟩,
   ⟨(some 2), (.assign (.tmp 13)), none⟩,
   ⟨(some 3), (.assign (.tmp 16)), none⟩,
   ⟨(some 4), (.assign (.tmp 19)), none⟩,
   ⟨(some 5), (.assign (.tmp 22)), none⟩])
 .ret))))
theorem x_spec_DrawGrowthIn : Txt Try.prog 48 c_spec_DrawGrowthIn [.tmp 2, .tmp 3, .tmp 4, .tmp 5] 1 := ⟨by kernel_rfl, by kernel_rfl, _, _, Try.func48, rfl, by kernel_rfl, by kernel_rfl, by kernel_rfl, rfl, by decide⟩
/-- loop.example/g01062/spec.l24Good -/
def c_spec_l24Good : Cd :=
 (.seq (.reg [⟨(some 2), (.assign (.const (.bool false))), none⟩])
 (.seq (.seq (.reg [⟨(some 3), (.assign (.const (.int .i64 0))), none⟩])
 (.block 0 (.loop (.seq (.seq (.reg [⟨(some 4), (.move (.tmp 3)), none⟩,
   ⟨(some 5), (.move (.tmp 0)), none⟩,
   ⟨(some 6), (.call (.mk (.builtin .len) #[(.tmp 5)] #[25])), none⟩,
   ⟨(some 7), (.binOp .lss 3 (.tmp 4) (.tmp 6) 3), none⟩])
 (.cond (.tmp 7) .skip (.exit 0)))
 (.seq (.block 1 (.seq (.regq [⟨(some 10), (.move (.tmp 0)), none⟩,
   ⟨(some 11), (.move (.tmp 3)), none⟩,
   ⟨(some 12), (.indexAddr 25 (.tmp 10) (.tmp 11)), none⟩,
   ⟨(some 13), (.load 56 (.tmp 12)), none⟩,
   ⟨(some 14), (.call (.mk (.value (.func 79)) #[(.tmp 13)] #[56])), none⟩,
   ⟨(some 15), (.unOp .not 4 (.tmp 14)), none⟩,
   ⟨(some 16), (.move (.tmp 15)), none⟩,
   ⟨(some 17), (.move (.tmp 3)), (some (16, false))⟩,
   ⟨(some 18), (.binOp .gtr 3 (.tmp 17) (.const (.int .i64 0)) 3), (some (16, false))⟩,
   ⟨(some 19), (.move (.tmp 18)), (some (16, false))⟩,
   ⟨(some 20), (.move (.tmp 0)), (some (19, true))⟩,
   ⟨(some 21), (.move (.tmp 3)), (some (19, true))⟩,
   ⟨(some 22), (.binOp .sub 3 (.tmp 21) (.const (.int .i64 1)) 3), (some (19, true))⟩,
   ⟨(some 23), (.indexAddr 25 (.tmp 20) (.tmp 22)), (some (19, true))⟩,
   ⟨(some 24), (.load 56 (.tmp 23)), (some (19, true))⟩,
   ⟨(some 25), (.move (.tmp 0)), (some (19, true))⟩,
   ⟨(some 26), (.move (.tmp 3)), (some (19, true))⟩,
   ⟨(some 27), (.indexAddr 25 (.tmp 25) (.tmp 26)), (some (19, true))⟩,
   ⟨(some 28), (.fieldAddr 56 (.tmp 27) 0), (some (19, true))⟩,
   ⟨(some 29), (.load 3 (.tmp 28)), (some (19, true))⟩,
   ⟨(some 30), (.move (.tmp 0)), (some (19, true))⟩,
   ⟨(some 31), (.move (.tmp 3)), (some (19, true))⟩,
   ⟨(some 32), (.indexAddr 25 (.tmp 30) (.tmp 31)), (some (19, true))⟩,
   ⟨(some 33), (.fieldAddr 56 (.tmp 32) 1), (some (19, true))⟩,
   ⟨(some 34), (.load 3 (.tmp 33)), (some (19, true))⟩,
   ⟨(some 35), (.call (.mk (.value (.func 69)) #[(.tmp 24), (.tmp 29), (.tmp 34)] #[56, 3, 3])), (some (19, true))⟩,
   ⟨(some 36), (.unOp .not 4 (.tmp 35)), (some (19, true))⟩,
   ⟨(some 37), (.pick (.tmp 19) (.tmp 36) (.const (.bool false))), (some (16, false))⟩,
   ⟨(some 38), (.pick (.tmp 16) (.const (.bool true)) (.tmp 37)), none⟩])
 (.cond (.tmp 38) (.seq (.reg [⟨(some 2), (.assign (.const (.bool false))), none⟩])
 .ret) .skip)))
 (.reg [⟨(some 8), (.move (.tmp 3)), none⟩,
   ⟨(some 9), (.binOp .add 3 (.tmp 8) (.const (.int .i64 1)) 3), none⟩,
   ⟨(some 3), (.assign (.tmp 9)), none⟩]))))))
 (.seq (.reg [⟨(some 39), (.move (.tmp 0)), none⟩,
   ⟨(some 40), (.call (.mk (.builtin .len) #[(.tmp 39)] #[25])), none⟩,
   ⟨(some 41), (.binOp .leq 3 (.tmp 40) (.const (.int .i64 15)) 3), none⟩,
   ⟨(some 2), (.assign (.tmp 41)), none⟩])
 .ret)))
theorem x_spec_l24Good : Txt Try.prog 49 c_spec_l24Good [.tmp 2] 1 := ⟨by kernel_rfl, by kernel_rfl, _, _, Try.func49, rfl, by kernel_rfl, by kernel_rfl, by kernel_rfl, rfl, by decide⟩
/-- loop.example/g01062/impl.arePrices -/
def c_impl_arePrices : Cd :=
 (.seq (.reg [⟨(some 2), (.assign (.const (.bool false))), none⟩])
 (.seq (.seq (.reg [⟨(some 5), (.move (.tmp 0)), none⟩,
   ⟨(some 6), (.call (.mk (.builtin .len) #[(.tmp 5)] #[25])), none⟩,
   ⟨(some 7), (.move (.const (.int .i64 0))), none⟩])
 (.block 0 (.loop (.seq (.reg [⟨(some 8), (.binOp .lss 3 (.tmp 7) (.tmp 6) 3), none⟩])
 (.seq (.cond (.tmp 8) .skip (.exit 0))
 (.seq (.block 1 (.seq (.reg [⟨(some 9), (.move (.tmp 7)), none⟩,
   ⟨(some 10), (.indexAddr 25 (.tmp 5) (.tmp 7)), none⟩,
   ⟨(some 11), (.load 56 (.tmp 10)), none⟩,
   ⟨(some 4), (.alloc 56), none⟩,
   ⟨(some 3), (.assign (.tmp 9)), none⟩,
   ⟨none, (.store 56 (.tmp 4) (.tmp 11)), none⟩])
 (.seq (.regq [⟨(some 12), (.load 56 (.tmp 4)), none⟩,
   ⟨(some 13), (.call (.mk (.value (.func 70)) #[(.tmp 12)] #[56])), none⟩,
   ⟨(some 14), (.unOp .not 4 (.tmp 13)), none⟩,
   ⟨(some 15), (.move (.tmp 14)), none⟩,
   ⟨(some 16), (.move (.tmp 3)), (some (15, false))⟩,
   ⟨(some 17), (.binOp .gtr 3 (.tmp 16) (.const (.int .i64 0)) 3), (some (15, false))⟩,
   ⟨(some 18), (.move (.tmp 17)), (some (15, false))⟩,
   ⟨(some 19), (.move (.tmp 0)), (some (18, true))⟩,
   ⟨(some 20), (.move (.tmp 3)), (some (18, true))⟩,
   ⟨(some 21), (.binOp .sub 3 (.tmp 20) (.const (.int .i64 1)) 3), (some (18, true))⟩,
   ⟨(some 22), (.indexAddr 25 (.tmp 19) (.tmp 21)), (some (18, true))⟩,
   ⟨(some 23), (.load 56 (.tmp 22)), (some (18, true))⟩,
   ⟨(some 24), (.load 56 (.tmp 4)), (some (18, true))⟩,
   ⟨(some 25), (.call (.mk (.value (.func 72)) #[(.tmp 23), (.tmp 24)] #[56, 56])), (some (18, true))⟩,
   ⟨(some 26), (.binOp .geq 3 (.tmp 25) (.const (.int .i64 0)) 3), (some (18, true))⟩,
   ⟨(some 27), (.pick (.tmp 18) (.tmp 26) (.const (.bool false))), (some (15, false))⟩,
   ⟨(some 28), (.pick (.tmp 15) (.const (.bool true)) (.tmp 27)), none⟩])
 (.cond (.tmp 28) (.seq (.reg [⟨(some 2), (.assign (.const (.bool false))), none⟩])
 .ret) .skip))))
 (.reg [⟨(some 29), (.binOp .add 3 (.tmp 7) (.const (.int .i64 1)) 3), none⟩,
   ⟨(some 7), (.move (.tmp 29)), none⟩])))))))
 (.seq (.reg [⟨(some 30), (.move (.tmp 0)), none⟩,
   ⟨(some 31), (.call (.mk (.builtin .len) #[(.tmp 30)] #[25])), none⟩,
   ⟨(some 32), (.binOp .leq 3 (.tmp 31) (.const (.int .i64 15)) 3), none⟩,
   ⟨(some 2), (.assign (.tmp 32)), none⟩])
 .ret)))
theorem x_impl_arePrices : Txt Try.prog 51 c_impl_arePrices [.tmp 2] 1 := ⟨by kernel_rfl, by kernel_rfl, _, _, Try.func51, rfl, by kernel_rfl, by kernel_rfl, by kernel_rfl, rfl, by decide⟩
/-- loop.example/g01062/spec.l24Item -/
def c_spec_l24Item : Cd :=
 (.seq (.reg [⟨(some 2), (.assign (.const (.bool false))), none⟩])
 (.seq (.reg [⟨(some 3), (.move (.tmp 0)), none⟩,
   ⟨(some 4), (.call (.mk (.value (.func 61)) #[(.tmp 3), (.const (.int .i64 1)), (.const (.int .i64 999))] #[3, 3, 3])), none⟩,
   ⟨(some 2), (.assign (.tmp 4)), none⟩])
 .ret))
theorem x_spec_l24Item : Txt Try.prog 53 c_spec_l24Item [.tmp 2] 1 := ⟨by kernel_rfl, by kernel_rfl, _, _, Try.func53, rfl, by kernel_rfl, by kernel_rfl, by kernel_rfl, rfl, by decide⟩
/-- loop.example/g01062/impl.isItem -/
def c_impl_isItem : Cd :=
 (.seq (.reg [⟨(some 2), (.assign (.const (.bool false))), none⟩])
 (.seq (.reg [⟨(some 3), (.move (.tmp 0)), none⟩,
   ⟨(some 4), (.call (.mk (.value (.func 60)) #[(.tmp 3), (.const (.int .i64 1)), (.const (.int .i64 999))] #[3, 3, 3])), none⟩,
   ⟨(some 2), (.assign (.tmp 4)), none⟩])
 .ret))
theorem x_impl_isItem : Txt Try.prog 54 c_impl_isItem [.tmp 2] 1 := ⟨by kernel_rfl, by kernel_rfl, _, _, Try.func54, rfl, by kernel_rfl, by kernel_rfl, by kernel_rfl, rfl, by decide⟩
/-- loop.example/g01062/spec.l24Year -/
def c_spec_l24Year : Cd :=
 (.seq (.reg [⟨(some 2), (.assign (.const (.bool false))), none⟩])
 (.seq (.reg [⟨(some 3), (.move (.tmp 0)), none⟩,
   ⟨(some 4), (.call (.mk (.value (.func 61)) #[(.tmp 3), (.const (.int .i64 1840)), (.const (.int .i64 2100))] #[3, 3, 3])), none⟩,
   ⟨(some 2), (.assign (.tmp 4)), none⟩])
 .ret))
theorem x_spec_l24Year : Txt Try.prog 55 c_spec_l24Year [.tmp 2] 1 := ⟨by kernel_rfl, by kernel_rfl, _, _, Try.func55, rfl, by kernel_rfl, by kernel_rfl, by kernel_rfl, rfl, by decide⟩
/-- loop.example/g01062/spec.l24Price -/
def c_spec_l24Price : Cd :=
 (.seq (.reg [⟨(some 6), (.assign (.const (.int .i64 0))), none⟩])
 (.seq (.seq (.reg [⟨(some 7), (.assign (.const (.int .i64 0))), none⟩])
 (.block 0 (.loop (.seq (.seq (.reg [⟨(some 13), (.move (.tmp 7)), none⟩,
   ⟨(some 14), (.move (.tmp 0)), none⟩,
   ⟨(some 15), (.call (.mk (.builtin .len) #[(.tmp 14)] #[25])), none⟩,
   ⟨(some 16), (.binOp .lss 3 (.tmp 13) (.tmp 15) 3), none⟩])
 (.cond (.tmp 16) .skip (.exit 0)))
 (.seq (.block 1 (.seq (.reg [⟨(some 19), (.move (.tmp 0)), none⟩,
   ⟨(some 20), (.move (.tmp 7)), none⟩,
   ⟨(some 21), (.indexAddr 25 (.tmp 19) (.tmp 20)), none⟩,
   ⟨(some 22), (.load 56 (.tmp 21)), none⟩,
   ⟨(some 8), (.alloc 56), none⟩,
   ⟨none, (.store 56 (.tmp 8) (.tmp 22)), none⟩])
 (.seq (.seq (.reg [⟨(some 23), (.fieldAddr 56 (.tmp 8) 0), none⟩,
   ⟨(some 24), (.load 3 (.tmp 23)), none⟩,
   ⟨(some 25), (.move (.tmp 1)), none⟩,
   ⟨(some 26), (.binOp .neq 3 (.tmp 24) (.tmp 25) 3), none⟩,
   ⟨(some 27), (.move (.tmp 26)), none⟩,
   ⟨(some 28), (.fieldAddr 56 (.tmp 8) 1), (some (27, false))⟩,
   ⟨(some 29), (.load 3 (.tmp 28)), (some (27, false))⟩,
   ⟨(some 30), (.move (.tmp 2)), (some (27, false))⟩,
   ⟨(some 31), (.binOp .lss 3 (.tmp 29) (.tmp 30) 3), (some (27, false))⟩,
   ⟨(some 32), (.pick (.tmp 27) (.const (.bool true)) (.tmp 31)), none⟩])
 (.cond (.tmp 32) (.exit 1) .skip))
 (.seq (.seq (.reg [⟨(some 33), (.fieldAddr 56 (.tmp 8) 1), none⟩,
   ⟨(some 34), (.load 3 (.tmp 33)), none⟩,
   ⟨(some 35), (.move (.tmp 2)), none⟩,
   ⟨(some 36), (.binOp .eql 3 (.tmp 34) (.tmp 35) 3), none⟩])
 (.cond (.tmp 36) (.seq (.reg [⟨(some 37), (.fieldAddr 56 (.tmp 8) 2), none⟩,
   ⟨(some 38), (.load 3 (.tmp 37)), none⟩,
   ⟨(some 6), (.assign (.tmp 38)), none⟩])
 .ret) .skip))
 (.seq (.seq (.reg [⟨(some 39), (.move (.tmp 7)), none⟩,
   ⟨(some 40), (.binOp .eql 3 (.tmp 39) (.const (.int .i64 0)) 3), none⟩,
   ⟨(some 41), (.move (.tmp 40)), none⟩,
   ⟨(some 42), (.move (.tmp 0)), (some (41, false))⟩,
   ⟨(some 43), (.move (.tmp 7)), (some (41, false))⟩,
   ⟨(some 44), (.binOp .sub 3 (.tmp 43) (.const (.int .i64 1)) 3), (some (41, false))⟩,
   ⟨(some 45), (.indexAddr 25 (.tmp 42) (.tmp 44)), (some (41, false))⟩,
   ⟨(some 46), (.fieldAddr 56 (.tmp 45) 0), (some (41, false))⟩,
   ⟨(some 47), (.load 3 (.tmp 46)), (some (41, false))⟩,
   ⟨(some 48), (.move (.tmp 1)), (some (41, false))⟩,
   ⟨(some 49), (.binOp .neq 3 (.tmp 47) (.tmp 48) 3), (some (41, false))⟩,
   ⟨(some 50), (.pick (.tmp 41) (.const (.bool true)) (.tmp 49)), none⟩])
 (.cond (.tmp 50) (.seq (.reg [⟨(some 6), (.assign (.const (.int .i64 0))), none⟩])
 .ret) .skip))
 (.seq (.reg [⟨(some 51), (.move (.tmp 0)), none⟩,
   ⟨(some 52), (.move (.tmp 7)), none⟩,
   ⟨(some 53), (.binOp .sub 3 (.tmp 52) (.const (.int .i64 1)) 3), none⟩,
   ⟨(some 54), (.indexAddr 25 (.tmp 51) (.tmp 53)), none⟩,
   ⟨(some 55), (.load 56 (.tmp 54)), none⟩,
   ⟨(some 9), (.alloc 56), none⟩,
   ⟨none, (.store 56 (.tmp 9) (.tmp 55)), none⟩])
 (.seq (.regq [⟨(some 56), (.fieldAddr 56 (.tmp 8) 2), none⟩,
   ⟨(some 57), (.load 3 (.tmp 56)), none⟩,
   ⟨(some 58), (.fieldAddr 56 (.tmp 9) 2), none⟩,
   ⟨(some 59), (.load 3 (.tmp 58)), none⟩,
   ⟨(some 60), (.binOp .sub 3 (.tmp 57) (.tmp 59) 3), none⟩,
   ⟨(some 61), (.fieldAddr 56 (.tmp 8) 1), none⟩,
   ⟨(some 62), (.load 3 (.tmp 61)), none⟩,
   ⟨(some 63), (.fieldAddr 56 (.tmp 9) 1), none⟩,
   ⟨(some 64), (.load 3 (.tmp 63)), none⟩,
   ⟨(some 65), (.binOp .sub 3 (.tmp 62) (.tmp 64) 3), none⟩,
   ⟨(some 66), (.move (.tmp 2)), none⟩,
   ⟨(some 67), (.fieldAddr 56 (.tmp 9) 1), none⟩,
   ⟨(some 68), (.load 3 (.tmp 67)), none⟩,
   ⟨(some 69), (.binOp .sub 3 (.tmp 66) (.tmp 68) 3), none⟩,
   ⟨(some 10), (.assign (.tmp 60)), none⟩,
   ⟨(some 11), (.assign (.tmp 65)), none⟩,
   ⟨(some 12), (.assign (.tmp 69)), none⟩])
 (.seq (.seq (.reg [⟨(some 70), (.move (.tmp 10)), none⟩,
   ⟨(some 71), (.binOp .lss 3 (.tmp 70) (.const (.int .i64 0)) 3), none⟩])
 (.cond (.tmp 71) (.seq (.regq [⟨(some 72), (.fieldAddr 56 (.tmp 9) 2), none⟩,
   ⟨(some 73), (.load 3 (.tmp 72)), none⟩,
   ⟨(some 74), (.move (.tmp 10)), none⟩,
   ⟨(some 75), (.unOp .neg 3 (.tmp 74)), none⟩,
   ⟨(some 76), (.move (.tmp 12)), none⟩,
   ⟨(some 77), (.binOp .mul 3 (.tmp 75) (.tmp 76) 3), none⟩,
   ⟨(some 78), (.move (.tmp 11)), none⟩,
   ⟨(some 79), (.binOp .add 3 (.tmp 77) (.tmp 78) 3), none⟩,
   ⟨(some 80), (.binOp .sub 3 (.tmp 79) (.const (.int .i64 1)) 3), none⟩,
   ⟨(some 81), (.move (.tmp 11)), none⟩,
   ⟨(some 82), (.binOp .quo 3 (.tmp 80) (.tmp 81) 3), none⟩,
   ⟨(some 83), (.binOp .sub 3 (.tmp 73) (.tmp 82) 3), none⟩,
   ⟨(some 6), (.assign (.tmp 83)), none⟩])
 .ret) .skip))
 (.seq (.regq [⟨(some 84), (.fieldAddr 56 (.tmp 9) 2), none⟩,
   ⟨(some 85), (.load 3 (.tmp 84)), none⟩,
   ⟨(some 86), (.move (.tmp 10)), none⟩,
   ⟨(some 87), (.move (.tmp 12)), none⟩,
   ⟨(some 88), (.binOp .mul 3 (.tmp 86) (.tmp 87) 3), none⟩,
   ⟨(some 89), (.move (.tmp 11)), none⟩,
   ⟨(some 90), (.binOp .quo 3 (.tmp 88) (.tmp 89) 3), none⟩,
   ⟨(some 91), (.binOp .add 3 (.tmp 85) (.tmp 90) 3), none⟩,
   ⟨(some 6), (.assign (.tmp 91)), none⟩])
 .ret)))))))))
 (.reg [⟨(some 17), (.move (.tmp 7)), none⟩,
   ⟨(some 18), (.binOp .add 3 (.tmp 17) (.const (.int .i64 1)) 3), none⟩,
   ⟨(some 7), (.assign (.tmp 18)), none⟩]))))))
 (.seq (.reg [⟨(some 6), (.assign (.const (.int .i64 0))), none⟩])
 .ret)))
theorem x_spec_l24Price : Txt Try.prog 56 c_spec_l24Price [.tmp 6] 3 := ⟨by kernel_rfl, by kernel_rfl, _, _, Try.func56, rfl, by kernel_rfl, by kernel_rfl, by kernel_rfl, rfl, by decide⟩
/-- loop.example/g01062/impl.isYear -/
def c_impl_isYear : Cd :=
 (.seq (.reg [⟨(some 2), (.assign (.const (.bool false))), none⟩])
 (.seq (.reg [⟨(some 3), (.move (.tmp 0)), none⟩,
   ⟨(some 4), (.call (.mk (.value (.func 60)) #[(.tmp 3), (.const (.int .i64 1840)), (.const (.int .i64 2100))] #[3, 3, 3])), none⟩,
   ⟨(some 2), (.assign (.tmp 4)), none⟩])
 .ret))
theorem x_impl_isYear : Txt Try.prog 57 c_impl_isYear [.tmp 2] 1 := ⟨by kernel_rfl, by kernel_rfl, _, _, Try.func57, rfl, by kernel_rfl, by kernel_rfl, by kernel_rfl, rfl, by decide⟩
/-- loop.example/g01062/impl.priceIn -/
def c_impl_priceIn : Cd :=
 (.seq (.reg [⟨(some 6), (.assign (.const (.int .i64 0))), none⟩,
   ⟨(some 7), (.assign (.const (.bool false))), none⟩])
 (.seq (.seq (.reg [⟨(some 13), (.move (.tmp 0)), none⟩,
   ⟨(some 14), (.call (.mk (.builtin .len) #[(.tmp 13)] #[25])), none⟩,
   ⟨(some 15), (.move (.const (.int .i64 0))), none⟩])
 (.block 0 (.loop (.seq (.reg [⟨(some 16), (.binOp .lss 3 (.tmp 15) (.tmp 14) 3), none⟩])
 (.seq (.cond (.tmp 16) .skip (.exit 0))
 (.seq (.block 1 (.seq (.reg [⟨(some 17), (.move (.tmp 15)), none⟩,
   ⟨(some 18), (.indexAddr 25 (.tmp 13) (.tmp 15)), none⟩,
   ⟨(some 19), (.load 56 (.tmp 18)), none⟩,
   ⟨(some 9), (.alloc 56), none⟩,
   ⟨(some 8), (.assign (.tmp 17)), none⟩,
   ⟨none, (.store 56 (.tmp 9) (.tmp 19)), none⟩])
 (.seq (.seq (.reg [⟨(some 20), (.fieldAddr 56 (.tmp 9) 0), none⟩,
   ⟨(some 21), (.load 3 (.tmp 20)), none⟩,
   ⟨(some 22), (.move (.tmp 1)), none⟩,
   ⟨(some 23), (.binOp .neq 3 (.tmp 21) (.tmp 22) 3), none⟩])
 (.cond (.tmp 23) (.exit 1) .skip))
 (.seq (.seq (.reg [⟨(some 24), (.fieldAddr 56 (.tmp 9) 1), none⟩,
   ⟨(some 25), (.load 3 (.tmp 24)), none⟩,
   ⟨(some 26), (.move (.tmp 2)), none⟩,
   ⟨(some 27), (.binOp .eql 3 (.tmp 25) (.tmp 26) 3), none⟩])
 (.cond (.tmp 27) (.seq (.reg [⟨(some 28), (.fieldAddr 56 (.tmp 9) 2), none⟩,
   ⟨(some 29), (.load 3 (.tmp 28)), none⟩,
   ⟨(some 6), (.assign (.tmp 29)), none⟩,
   ⟨(some 7), (.assign (.const (.bool true))), none⟩])
 .ret) .skip))
 (.seq (.reg [⟨(some 30), (.move (.tmp 8)), none⟩,
   ⟨(some 31), (.binOp .add 3 (.tmp 30) (.const (.int .i64 1)) 3), none⟩,
   ⟨(some 32), (.move (.tmp 0)), none⟩,
   ⟨(some 33), (.call (.mk (.builtin .len) #[(.tmp 32)] #[25])), none⟩,
   ⟨(some 34), (.binOp .lss 3 (.tmp 31) (.tmp 33) 3), none⟩,
   ⟨(some 35), (.move (.tmp 34)), none⟩,
   ⟨(some 36), (.move (.tmp 0)), (some (35, true))⟩,
   ⟨(some 37), (.move (.tmp 8)), (some (35, true))⟩,
   ⟨(some 38), (.binOp .add 3 (.tmp 37) (.const (.int .i64 1)) 3), (some (35, true))⟩,
   ⟨(some 39), (.indexAddr 25 (.tmp 36) (.tmp 38)), (some (35, true))⟩,
   ⟨(some 40), (.fieldAddr 56 (.tmp 39) 0), (some (35, true))⟩,
   ⟨(some 41), (.load 3 (.tmp 40)), (some (35, true))⟩,
   ⟨(some 42), (.move (.tmp 1)), (some (35, true))⟩,
   ⟨(some 43), (.binOp .eql 3 (.tmp 41) (.tmp 42) 3), (some (35, true))⟩,
   ⟨(some 44), (.pick (.tmp 35) (.tmp 43) (.const (.bool false))), none⟩,
   ⟨(some 45), (.move (.tmp 44)), none⟩,
   ⟨(some 46), (.fieldAddr 56 (.tmp 9) 1), (some (45, true))⟩,
   ⟨(some 47), (.load 3 (.tmp 46)), (some (45, true))⟩,
   ⟨(some 48), (.move (.tmp 2)), (some (45, true))⟩,
   ⟨(some 49), (.binOp .lss 3 (.tmp 47) (.tmp 48) 3), (some (45, true))⟩,
   ⟨(some 50), (.pick (.tmp 45) (.tmp 49) (.const (.bool false))), none⟩,
   ⟨(some 51), (.move (.tmp 50)), none⟩,
   ⟨(some 52), (.move (.tmp 2)), (some (51, true))⟩,
   ⟨(some 53), (.move (.tmp 0)), (some (51, true))⟩,
   ⟨(some 54), (.move (.tmp 8)), (some (51, true))⟩,
   ⟨(some 55), (.binOp .add 3 (.tmp 54) (.const (.int .i64 1)) 3), (some (51, true))⟩,
   ⟨(some 56), (.indexAddr 25 (.tmp 53) (.tmp 55)), (some (51, true))⟩,
   ⟨(some 57), (.fieldAddr 56 (.tmp 56) 1), (some (51, true))⟩,
   ⟨(some 58), (.load 3 (.tmp 57)), (some (51, true))⟩,
   ⟨(some 59), (.binOp .lss 3 (.tmp 52) (.tmp 58) 3), (some (51, true))⟩,
   ⟨(some 60), (.pick (.tmp 51) (.tmp 59) (.const (.bool false))), none⟩])
 (.cond (.tmp 60) (.seq (.regq [⟨(some 61), (.move (.tmp 0)), none⟩,
   ⟨(some 62), (.move (.tmp 8)), none⟩,
   ⟨(some 63), (.binOp .add 3 (.tmp 62) (.const (.int .i64 1)) 3), none⟩,
   ⟨(some 64), (.indexAddr 25 (.tmp 61) (.tmp 63)), none⟩,
   ⟨(some 65), (.fieldAddr 56 (.tmp 64) 2), none⟩,
   ⟨(some 66), (.load 3 (.tmp 65)), none⟩,
   ⟨(some 67), (.fieldAddr 56 (.tmp 9) 2), none⟩,
   ⟨(some 68), (.load 3 (.tmp 67)), none⟩,
   ⟨(some 69), (.binOp .sub 3 (.tmp 66) (.tmp 68) 3), none⟩,
   ⟨(some 70), (.move (.tmp 2)), none⟩,
   ⟨(some 71), (.fieldAddr 56 (.tmp 9) 1), none⟩,
   ⟨(some 72), (.load 3 (.tmp 71)), none⟩,
   ⟨(some 73), (.binOp .sub 3 (.tmp 70) (.tmp 72) 3), none⟩,
   ⟨(some 74), (.binOp .mul 3 (.tmp 69) (.tmp 73) 3), none⟩,
   ⟨(some 75), (.move (.tmp 0)), none⟩,
   ⟨(some 76), (.move (.tmp 8)), none⟩,
   ⟨(some 77), (.binOp .add 3 (.tmp 76) (.const (.int .i64 1)) 3), none⟩,
   ⟨(some 78), (.indexAddr 25 (.tmp 75) (.tmp 77)), none⟩,
   ⟨(some 79), (.fieldAddr 56 (.tmp 78) 1), none⟩,
   ⟨(some 80), (.load 3 (.tmp 79)), none⟩,
   ⟨(some 81), (.fieldAddr 56 (.tmp 9) 1), none⟩,
   ⟨(some 82), (.load 3 (.tmp 81)), none⟩,
   ⟨(some 83), (.binOp .sub 3 (.tmp 80) (.tmp 82) 3), none⟩,
   ⟨(some 10), (.assign (.tmp 74)), none⟩,
   ⟨(some 11), (.assign (.tmp 83)), none⟩])
 (.seq (.reg [⟨(some 84), (.move (.tmp 10)), none⟩,
   ⟨(some 85), (.move (.tmp 11)), none⟩,
   ⟨(some 86), (.binOp .quo 3 (.tmp 84) (.tmp 85) 3), none⟩,
   ⟨(some 12), (.assign (.tmp 86)), none⟩])
 (.seq (.seq (.reg [⟨(some 87), (.move (.tmp 10)), none⟩,
   ⟨(some 88), (.move (.tmp 11)), none⟩,
   ⟨(some 89), (.binOp .rem 3 (.tmp 87) (.tmp 88) 3), none⟩,
   ⟨(some 90), (.binOp .lss 3 (.tmp 89) (.const (.int .i64 0)) 3), none⟩])
 (.cond (.tmp 90) (.reg [⟨(some 91), (.move (.tmp 12)), none⟩,
   ⟨(some 92), (.binOp .sub 3 (.tmp 91) (.const (.int .i64 1)) 3), none⟩,
   ⟨(some 12), (.assign (.tmp 92)), none⟩]) .skip))
 (.seq (.reg [⟨(some 93), (.fieldAddr 56 (.tmp 9) 2), none⟩,
   ⟨(some 94), (.load 3 (.tmp 93)), none⟩,
   ⟨(some 95), (.move (.tmp 12)), none⟩,
   ⟨(some 96), (.binOp .add 3 (.tmp 94) (.tmp 95) 3), none⟩,
   ⟨(some 6), (.assign (.tmp 96)), none⟩,
   ⟨(some 7), (.assign (.const (.bool true))), none⟩])
 .ret)))) .skip))))))
 (.reg [⟨(some 97), (.binOp .add 3 (.tmp 15) (.const (.int .i64 1)) 3), none⟩,
   ⟨(some 15), (.move (.tmp 97)), none⟩])))))))
 (.seq (.reg [⟨(some 6), (.assign (.const (.int .i64 0))), none⟩,
   ⟨(some 7), (.assign (.const (.bool false))), none⟩])
 .ret)))
theorem x_impl_priceIn : Txt Try.prog 58 c_impl_priceIn [.tmp 6, .tmp 7] 3 := ⟨by kernel_rfl, by kernel_rfl, _, _, Try.func58, rfl, by kernel_rfl, by kernel_rfl, by kernel_rfl, rfl, by decide⟩
/-- loop.example/g01062/spec.l24Cents -/
def c_spec_l24Cents : Cd :=
 (.seq (.reg [⟨(some 2), (.assign (.const (.bool false))), none⟩])
 (.seq (.reg [⟨(some 3), (.move (.tmp 0)), none⟩,
   ⟨(some 4), (.call (.mk (.value (.func 61)) #[(.tmp 3), (.const (.int .i64 1)), (.const (.int .i64 10000000))] #[3, 3, 3])), none⟩,
   ⟨(some 2), (.assign (.tmp 4)), none⟩])
 .ret))
theorem x_spec_l24Cents : Txt Try.prog 59 c_spec_l24Cents [.tmp 2] 1 := ⟨by kernel_rfl, by kernel_rfl, _, _, Try.func59, rfl, by kernel_rfl, by kernel_rfl, by kernel_rfl, rfl, by decide⟩
/-- loop.example/g01062/impl.inRange -/
def c_impl_inRange : Cd :=
 (.seq (.reg [⟨(some 6), (.assign (.const (.bool false))), none⟩])
 (.seq (.reg [⟨(some 7), (.move (.tmp 0)), none⟩,
   ⟨(some 8), (.move (.tmp 1)), none⟩,
   ⟨(some 9), (.binOp .geq 3 (.tmp 7) (.tmp 8) 3), none⟩,
   ⟨(some 10), (.move (.tmp 9)), none⟩,
   ⟨(some 11), (.move (.tmp 0)), (some (10, true))⟩,
   ⟨(some 12), (.move (.tmp 2)), (some (10, true))⟩,
   ⟨(some 13), (.binOp .leq 3 (.tmp 11) (.tmp 12) 3), (some (10, true))⟩,
   ⟨(some 14), (.pick (.tmp 10) (.tmp 13) (.const (.bool false))), none⟩,
   ⟨(some 6), (.assign (.tmp 14)), none⟩])
 .ret))
theorem x_impl_inRange : Txt Try.prog 60 c_impl_inRange [.tmp 6] 3 := ⟨by kernel_rfl, by kernel_rfl, _, _, Try.func60, rfl, by kernel_rfl, by kernel_rfl, by kernel_rfl, rfl, by decide⟩
/-- loop.example/g01062/spec.l1In -/
def c_spec_l1In : Cd :=
 (.seq (.reg [⟨(some 6), (.assign (.const (.bool false))), none⟩])
 (.seq (.reg [⟨(some 7), (.move (.tmp 0)), none⟩,
   ⟨(some 8), (.move (.tmp 1)), none⟩,
   ⟨(some 9), (.binOp .geq 3 (.tmp 7) (.tmp 8) 3), none⟩,
   ⟨(some 10), (.move (.tmp 9)), none⟩,
   ⟨(some 11), (.move (.tmp 0)), (some (10, true))⟩,
   ⟨(some 12), (.move (.tmp 2)), (some (10, true))⟩,
   ⟨(some 13), (.binOp .leq 3 (.tmp 11) (.tmp 12) 3), (some (10, true))⟩,
   ⟨(some 14), (.pick (.tmp 10) (.tmp 13) (.const (.bool false))), none⟩,
   ⟨(some 6), (.assign (.tmp 14)), none⟩])
 .ret))
theorem x_spec_l1In : Txt Try.prog 61 c_spec_l1In [.tmp 6] 3 := ⟨by kernel_rfl, by kernel_rfl, _, _, Try.func61, rfl, by kernel_rfl, by kernel_rfl, by kernel_rfl, rfl, by decide⟩
/-- slices.Clone[[]loop.example/g01062/impl.PriceRow,loop.example/g01062/impl.PriceRow] -/
def c_slices_Clone_PriceRow : Cd :=
 (.seq (.reg [⟨(some 2), (.assign (.const (.slice none 0 0))), none⟩])
 (.seq (.seq (.reg [⟨(some 3), (.move (.tmp 0)), none⟩,
   ⟨(some 4), (.binOp .eql 25 (.tmp 3) (.const (.slice none 0 0)) 25), none⟩])
 (.cond (.tmp 4) (.seq (.reg [⟨(some 2), (.assign (.const (.slice none 0 0))), none⟩])
 .ret) .skip))
 (.seq (.reg [⟨(some 5), (.buildSlice 25 0 #[]), none⟩,
   ⟨(some 6), (.move (.tmp 0)), none⟩,
   ⟨(some 7), (.call (.mk (.builtin .append) #[(.tmp 5), (.tmp 6)] #[25, 25])), none⟩,
   ⟨(some 2), (.assign (.tmp 7)), none⟩])
 .ret)))
theorem x_slices_Clone_PriceRow : Txt Try.prog 62 c_slices_Clone_PriceRow [.tmp 2] 1 := ⟨by kernel_rfl, by kernel_rfl, _, _, Try.func62, rfl, by kernel_rfl, by kernel_rfl, by kernel_rfl, rfl, by decide⟩
/-- loop.example/g01062/spec.l2Reduce -/
def c_spec_l2Reduce : Cd :=
 (.seq (.reg [⟨(some 4), (.assign (.const (.int .i64 0))), none⟩,
   ⟨(some 5), (.assign (.const (.int .i64 0))), none⟩])
 (.seq (.reg [⟨(some 9), (.move (.tmp 0)), none⟩,
   ⟨(some 10), (.move (.tmp 0)), none⟩,
   ⟨(some 11), (.unOp .neg 3 (.tmp 10)), none⟩,
   ⟨(some 12), (.call (.mk (.value (.func 80)) #[(.tmp 9), (.tmp 11)] #[3, 3])), none⟩,
   ⟨(some 13), (.move (.tmp 1)), none⟩,
   ⟨(some 6), (.assign (.tmp 12)), none⟩,
   ⟨(some 7), (.assign (.tmp 13)), none⟩])
 (.seq (.block 0 (.loop (.seq (.seq (.reg [⟨(some 14), (.move (.tmp 7)), none⟩,
   ⟨(some 15), (.binOp .neq 3 (.tmp 14) (.const (.int .i64 0)) 3), none⟩])
 (.cond (.tmp 15) .skip (.exit 0)))
 (.block 1 (.seq (.reg [⟨(some 16), (.move (.tmp 6)), none⟩,
   ⟨(some 17), (.move (.tmp 7)), none⟩,
   ⟨(some 18), (.binOp .rem 3 (.tmp 16) (.tmp 17) 3), none⟩,
   ⟨(some 8), (.assign (.tmp 18)), none⟩])
 (.seq (.reg [⟨(some 19), (.move (.tmp 7)), none⟩,
   ⟨(some 6), (.assign (.tmp 19)), none⟩])
 (.reg [⟨(some 20), (.move (.tmp 8)), none⟩,
   ⟨(some 7), (.assign (.tmp 20)), none⟩])))))))
 (.seq (.regq [⟨(some 21), (.move (.tmp 0)), none⟩,
   ⟨(some 22), (.move (.tmp 6)), none⟩,
   ⟨(some 23), (.binOp .quo 3 (.tmp 21) (.tmp 22) 3), none⟩,
   ⟨(some 24), (.move (.tmp 1)), none⟩,
   ⟨(some 25), (.move (.tmp 6)), none⟩,
   ⟨(some 26), (.binOp .quo 3 (.tmp 24) (.tmp 25) 3), none⟩,
   ⟨(some 4), (.assign (.tmp 23)), none⟩,
   ⟨(some 5), (.assign (.tmp 26)), none⟩])
 .ret))))
theorem x_spec_l2Reduce : Txt Try.prog 63 c_spec_l2Reduce [.tmp 4, .tmp 5] 2 := ⟨by kernel_rfl, by kernel_rfl, _, _, Try.func63, rfl, by kernel_rfl, by kernel_rfl, by kernel_rfl, rfl, by decide⟩
/-- loop.example/g01062/impl.fraction -/
def c_impl_fraction : Cd :=
 (.seq (.reg [⟨(some 4), (.assign (.const (.int .i64 0))), none⟩,
   ⟨(some 5), (.assign (.const (.int .i64 0))), none⟩])
 (.seq (.reg [⟨(some 7), (.move (.tmp 0)), none⟩,
   ⟨(some 8), (.move (.tmp 0)), none⟩,
   ⟨(some 9), (.unOp .neg 3 (.tmp 8)), none⟩,
   ⟨(some 10), (.call (.mk (.builtin .max) #[(.tmp 7), (.tmp 9)] #[3, 3])), none⟩,
   ⟨(some 11), (.move (.tmp 1)), none⟩,
   ⟨(some 12), (.call (.mk (.value (.func 81)) #[(.tmp 10), (.tmp 11)] #[3, 3])), none⟩,
   ⟨(some 6), (.assign (.tmp 12)), none⟩])
 (.seq (.regq [⟨(some 13), (.move (.tmp 0)), none⟩,
   ⟨(some 14), (.move (.tmp 6)), none⟩,
   ⟨(some 15), (.binOp .quo 3 (.tmp 13) (.tmp 14) 3), none⟩,
   ⟨(some 16), (.move (.tmp 1)), none⟩,
   ⟨(some 17), (.move (.tmp 6)), none⟩,
   ⟨(some 18), (.binOp .quo 3 (.tmp 16) (.tmp 17) 3), none⟩,
   ⟨(some 4), (.assign (.tmp 15)), none⟩,
   ⟨(some 5), (.assign (.tmp 18)), none⟩])
 .ret)))
theorem x_impl_fraction : Txt Try.prog 64 c_impl_fraction [.tmp 4, .tmp 5] 2 := ⟨by kernel_rfl, by kernel_rfl, _, _, Try.func64, rfl, by kernel_rfl, by kernel_rfl, by kernel_rfl, rfl, by decide⟩
/-- loop.example/g01062/spec.l24Before -/
def c_spec_l24Before : Cd :=
 (.seq (.reg [⟨(some 3), (.box 56 (.tmp 0)), none⟩,
   ⟨(some 6), (.assign (.const (.bool false))), none⟩])
 (.seq (.reg [⟨(some 7), (.fieldAddr 56 (.tmp 3) 0), none⟩,
   ⟨(some 8), (.load 3 (.tmp 7)), none⟩,
   ⟨(some 9), (.move (.tmp 1)), none⟩,
   ⟨(some 10), (.binOp .lss 3 (.tmp 8) (.tmp 9) 3), none⟩,
   ⟨(some 11), (.move (.tmp 10)), none⟩,
   ⟨(some 12), (.fieldAddr 56 (.tmp 3) 0), (some (11, false))⟩,
   ⟨(some 13), (.load 3 (.tmp 12)), (some (11, false))⟩,
   ⟨(some 14), (.move (.tmp 1)), (some (11, false))⟩,
   ⟨(some 15), (.binOp .eql 3 (.tmp 13) (.tmp 14) 3), (some (11, false))⟩,
   ⟨(some 16), (.move (.tmp 15)), (some (11, false))⟩,
   ⟨(some 17), (.fieldAddr 56 (.tmp 3) 1), (some (16, true))⟩,
   ⟨(some 18), (.load 3 (.tmp 17)), (some (16, true))⟩,
   ⟨(some 19), (.move (.tmp 2)), (some (16, true))⟩,
   ⟨(some 20), (.binOp .lss 3 (.tmp 18) (.tmp 19) 3), (some (16, true))⟩,
   ⟨(some 21), (.pick (.tmp 16) (.tmp 20) (.const (.bool false))), (some (11, false))⟩,
   ⟨(some 22), (.pick (.tmp 11) (.const (.bool true)) (.tmp 21)), none⟩,
   ⟨(some 6), (.assign (.tmp 22)), none⟩])
 .ret))
theorem x_spec_l24Before : Txt Try.prog 69 c_spec_l24Before [.tmp 6] 3 := ⟨by kernel_rfl, by kernel_rfl, _, _, Try.func69, rfl, by kernel_rfl, by kernel_rfl, by kernel_rfl, rfl, by decide⟩
/-- loop.example/g01062/impl.isPrice -/
def c_impl_isPrice : Cd :=
 (.seq (.reg [⟨(some 1), (.box 56 (.tmp 0)), none⟩,
   ⟨(some 2), (.assign (.const (.bool false))), none⟩])
 (.seq (.reg [⟨(some 3), (.fieldAddr 56 (.tmp 1) 0), none⟩,
   ⟨(some 4), (.load 3 (.tmp 3)), none⟩,
   ⟨(some 5), (.call (.mk (.value (.func 54)) #[(.tmp 4)] #[3])), none⟩,
   ⟨(some 6), (.move (.tmp 5)), none⟩,
   ⟨(some 7), (.fieldAddr 56 (.tmp 1) 1), (some (6, true))⟩,
   ⟨(some 8), (.load 3 (.tmp 7)), (some (6, true))⟩,
   ⟨(some 9), (.call (.mk (.value (.func 57)) #[(.tmp 8)] #[3])), (some (6, true))⟩,
   ⟨(some 10), (.pick (.tmp 6) (.tmp 9) (.const (.bool false))), none⟩,
   ⟨(some 11), (.move (.tmp 10)), none⟩,
   ⟨(some 12), (.fieldAddr 56 (.tmp 1) 2), (some (11, true))⟩,
   ⟨(some 13), (.load 3 (.tmp 12)), (some (11, true))⟩,
   ⟨(some 14), (.call (.mk (.value (.func 60)) #[(.tmp 13), (.const (.int .i64 1)), (.const (.int .i64 10000000))] #[3, 3, 3])), (some (11, true))⟩,
   ⟨(some 15), (.pick (.tmp 11) (.tmp 14) (.const (.bool false))), none⟩,
   ⟨(some 2), (.assign (.tmp 15)), none⟩])
 .ret))
theorem x_impl_isPrice : Txt Try.prog 70 c_impl_isPrice [.tmp 2] 1 := ⟨by kernel_rfl, by kernel_rfl, _, _, Try.func70, rfl, by kernel_rfl, by kernel_rfl, by kernel_rfl, rfl, by decide⟩
/-- slices.BinarySearchFunc[[]loop.example/g01062/impl.PriceRow,loop.example/g01062/impl.PriceRow,loop.example/g01062/impl.PriceRow] -/
def c_slices_BinarySearchFunc_PriceRow : Cd :=
 (.seq (.reg [⟨(some 4), (.box 56 (.tmp 1)), none⟩,
   ⟨(some 6), (.assign (.const (.int .i64 0))), none⟩,
   ⟨(some 7), (.assign (.const (.bool false))), none⟩])
 (.seq (.reg [⟨(some 12), (.move (.tmp 0)), none⟩,
   ⟨(some 13), (.call (.mk (.builtin .len) #[(.tmp 12)] #[25])), none⟩,
   ⟨(some 8), (.assign (.tmp 13)), none⟩])
 (.seq (.reg [⟨(some 14), (.move (.tmp 8)), none⟩,
   ⟨(some 9), (.assign (.const (.int .i64 0))), none⟩,
   ⟨(some 10), (.assign (.tmp 14)), none⟩])
 (.seq (.block 0 (.loop (.seq (.seq (.reg [⟨(some 15), (.move (.tmp 9)), none⟩,
   ⟨(some 16), (.move (.tmp 10)), none⟩,
   ⟨(some 17), (.binOp .lss 3 (.tmp 15) (.tmp 16) 3), none⟩])
 (.cond (.tmp 17) .skip (.exit 0)))
 (.block 1 (.seq (.reg [⟨(some 18), (.move (.tmp 9)), none⟩,
   ⟨(some 19), (.move (.tmp 10)), none⟩,
   ⟨(some 20), (.binOp .add 3 (.tmp 18) (.tmp 19) 3), none⟩,
   ⟨(some 21), (.convert 3 84 (.tmp 20)), none⟩,
   ⟨(some 22), (.binOp .shr 84 (.tmp 21) (.const (.int .u64 1)) 84), none⟩,
   ⟨(some 23), (.convert 84 3 (.tmp 22)), none⟩,
   ⟨(some 11), (.assign (.tmp 23)), none⟩])
 (.seq (.regq [⟨(some 24), (.move (.tmp 2)), none⟩,
   ⟨(some 25), (.move (.tmp 0)), none⟩,
   ⟨(some 26), (.move (.tmp 11)), none⟩,
   ⟨(some 27), (.indexAddr 25 (.tmp 25) (.tmp 26)), none⟩,
   ⟨(some 28), (.load 56 (.tmp 27)), none⟩,
   ⟨(some 29), (.load 56 (.tmp 4)), none⟩,
   ⟨(some 30), (.call (.mk (.value (.tmp 24)) #[(.tmp 28), (.tmp 29)] #[56, 56])), none⟩,
   ⟨(some 31), (.binOp .lss 3 (.tmp 30) (.const (.int .i64 0)) 3), none⟩])
 (.cond (.tmp 31) (.reg [⟨(some 32), (.move (.tmp 11)), none⟩,
   ⟨(some 33), (.binOp .add 3 (.tmp 32) (.const (.int .i64 1)) 3), none⟩,
   ⟨(some 9), (.assign (.tmp 33)), none⟩]) (.reg [⟨(some 34), (.move (.tmp 11)), none⟩,
   ⟨(some 10), (.assign (.tmp 34)), none⟩]))))))))
 (.seq (.regq [⟨(some 35), (.move (.tmp 9)), none⟩,
   ⟨(some 36), (.move (.tmp 9)), none⟩,
   ⟨(some 37), (.move (.tmp 8)), none⟩,
   ⟨(some 38), (.binOp .lss 3 (.tmp 36) (.tmp 37) 3), none⟩,
   ⟨(some 39), (.move (.tmp 38)), none⟩,
   ⟨(some 40), (.move (.tmp 2)), (some (39, true))⟩,
   ⟨(some 41), (.move (.tmp 0)), (some (39, true))⟩,
   ⟨(some 42), (.move (.tmp 9)), (some (39, true))⟩,
   ⟨(some 43), (.indexAddr 25 (.tmp 41) (.tmp 42)), (some (39, true))⟩,
   ⟨(some 44), (.load 56 (.tmp 43)), (some (39, true))⟩,
   ⟨(some 45), (.load 56 (.tmp 4)), (some (39, true))⟩,
   ⟨(some 46), (.call (.mk (.value (.tmp 40)) #[(.tmp 44), (.tmp 45)] #[56, 56])), (some (39, true))⟩,
   ⟨(some 47), (.binOp .eql 3 (.tmp 46) (.const (.int .i64 0)) 3), (some (39, true))⟩,
   ⟨(some 48), (.pick (.tmp 39) (.tmp 47) (.const (.bool false))), none⟩,
   ⟨(some 6), (.assign (.tmp 35)), none⟩,
   ⟨(some 7), (.assign (.tmp 48)), none⟩])
 .ret)))))
theorem x_slices_BinarySearchFunc_PriceRow : Txt Try.prog 71 c_slices_BinarySearchFunc_PriceRow [.tmp 6, .tmp 7] 3 := ⟨by kernel_rfl, by kernel_rfl, _, _, Try.func71, rfl, by kernel_rfl, by kernel_rfl, by kernel_rfl, rfl, by decide⟩
/-- loop.example/g01062/impl.comparePrices -/
def c_impl_comparePrices : Cd :=
 (.seq (.reg [⟨(some 2), (.box 56 (.tmp 0)), none⟩,
   ⟨(some 3), (.box 56 (.tmp 1)), none⟩,
   ⟨(some 4), (.assign (.const (.int .i64 0))), none⟩])
 (.seq (.regt [⟨(some 5), (.fieldAddr 56 (.tmp 2) 0), none⟩,
   ⟨(some 6), (.load 3 (.tmp 5)), none⟩,
   ⟨(some 7), (.fieldAddr 56 (.tmp 3) 0), none⟩,
   ⟨(some 8), (.load 3 (.tmp 7)), none⟩,
   ⟨(some 10), (.fieldAddr 56 (.tmp 2) 1), none⟩,
   ⟨(some 11), (.load 3 (.tmp 10)), none⟩,
   ⟨(some 12), (.fieldAddr 56 (.tmp 3) 1), none⟩,
   ⟨(some 13), (.load 3 (.tmp 12)), none⟩] (.one true ⟨(some 9), (.call (.mk (.value (.func 85)) #[(.tmp 6), (.tmp 8)] #[3, 3])), none⟩
   (.one false ⟨(some 14), (.call (.mk (.value (.func 85)) #[(.tmp 11), (.tmp 13)] #[3, 3])), none⟩
   (.one false ⟨(some 15), (.buildSlice 40 2 #[(0, (.tmp 9)), (1, (.tmp 14))]), none⟩
   (.one false ⟨(some 16), (.call (.mk (.value (.func 84)) #[(.tmp 15)] #[40])), none⟩
   (.one false ⟨(some 4), (.assign (.tmp 16)), none⟩
   .done))))) [])
 .ret))
theorem x_impl_comparePrices : Txt Try.prog 72 c_impl_comparePrices [.tmp 4] 2 := ⟨by kernel_rfl, by kernel_rfl, _, _, Try.func72, rfl, by kernel_rfl, by kernel_rfl, by kernel_rfl, rfl, by decide⟩
/-- slices.Insert[[]loop.example/g01062/impl.PriceRow,loop.example/g01062/impl.PriceRow] -/
def c_slices_Insert_PriceRow : Cd :=
 (.seq (.reg [⟨(some 6), (.assign (.const (.slice none 0 0))), none⟩])
 (.seq (.reg [⟨(some 10), (.move (.tmp 0)), none⟩,
   ⟨(some 11), (.move (.tmp 1)), none⟩,
   ⟨(some 12), (.slice 25 (.tmp 10) (some (.tmp 11)) none none), none⟩])
 (.seq (.reg [⟨(some 13), (.move (.tmp 2)), none⟩,
   ⟨(some 14), (.call (.mk (.builtin .len) #[(.tmp 13)] #[25])), none⟩,
   ⟨(some 7), (.assign (.tmp 14)), none⟩])
 (.seq (.seq (.reg [⟨(some 15), (.move (.tmp 7)), none⟩,
   ⟨(some 16), (.binOp .eql 3 (.tmp 15) (.const (.int .i64 0)) 3), none⟩])
 (.cond (.tmp 16) (.seq (.reg [⟨(some 17), (.move (.tmp 0)), none⟩,
   ⟨(some 6), (.assign (.tmp 17)), none⟩])
 .ret) .skip))
 (.seq (.reg [⟨(some 18), (.move (.tmp 0)), none⟩,
   ⟨(some 19), (.call (.mk (.builtin .len) #[(.tmp 18)] #[25])), none⟩,
   ⟨(some 8), (.assign (.tmp 19)), none⟩])
 (.seq (.seq (.reg [⟨(some 20), (.move (.tmp 1)), none⟩,
   ⟨(some 21), (.move (.tmp 8)), none⟩,
   ⟨(some 22), (.binOp .eql 3 (.tmp 20) (.tmp 21) 3), none⟩])
 (.cond (.tmp 22) (.seq (.reg [⟨(some 23), (.move (.tmp 0)), none⟩,
   ⟨(some 24), (.move (.tmp 2)), none⟩,
   ⟨(some 25), (.call (.mk (.builtin .append) #[(.tmp 23), (.tmp 24)] #[25, 25])), none⟩,
   ⟨(some 6), (.assign (.tmp 25)), none⟩])
 .ret) .skip))
 (.seq (.seq (.reg [⟨(some 26), (.move (.tmp 8)), none⟩,
   ⟨(some 27), (.move (.tmp 7)), none⟩,
   ⟨(some 28), (.binOp .add 3 (.tmp 26) (.tmp 27) 3), none⟩,
   ⟨(some 29), (.move (.tmp 0)), none⟩,
   ⟨(some 30), (.call (.mk (.builtin .cap) #[(.tmp 29)] #[25])), none⟩,
   ⟨(some 31), (.binOp .gtr 3 (.tmp 28) (.tmp 30) 3), none⟩])
 (.cond (.tmp 31) (.seq (.reg [⟨(some 32), (.move (.tmp 0)), none⟩,
   ⟨(some 33), (.move (.tmp 1)), none⟩,
   ⟨(some 34), (.slice 25 (.tmp 32) none (some (.tmp 33)) none), none⟩,
   ⟨(some 35), (.move (.tmp 8)), none⟩,
   ⟨(some 36), (.move (.tmp 7)), none⟩,
   ⟨(some 37), (.binOp .add 3 (.tmp 35) (.tmp 36) 3), none⟩,
   ⟨(some 38), (.move (.tmp 1)), none⟩,
   ⟨(some 39), (.binOp .sub 3 (.tmp 37) (.tmp 38) 3), none⟩,
   ⟨(some 40), (.call (.mk (.builtin .append) #[(.tmp 34), (.tmp 39)] #[25, 3])), none⟩,
   ⟨(some 9), (.assign (.tmp 40)), none⟩])
 (.seq (.reg [⟨(some 41), (.move (.tmp 9)), none⟩,
   ⟨(some 42), (.move (.tmp 1)), none⟩,
   ⟨(some 43), (.slice 25 (.tmp 41) (some (.tmp 42)) none none), none⟩,
   ⟨(some 44), (.move (.tmp 2)), none⟩,
   ⟨(some 45), (.call (.mk (.builtin .copy) #[(.tmp 43), (.tmp 44)] #[25, 25])), none⟩])
 (.seq (.regt [⟨(some 46), (.move (.tmp 9)), none⟩,
   ⟨(some 47), (.move (.tmp 1)), none⟩,
   ⟨(some 48), (.move (.tmp 7)), none⟩,
   ⟨(some 49), (.binOp .add 3 (.tmp 47) (.tmp 48) 3), none⟩,
   ⟨(some 50), (.slice 25 (.tmp 46) (some (.tmp 49)) none none), none⟩,
   ⟨(some 51), (.move (.tmp 0)), none⟩,
   ⟨(some 52), (.move (.tmp 1)), none⟩,
   ⟨(some 53), (.slice 25 (.tmp 51) (some (.tmp 52)) none none), none⟩] (.one false ⟨(some 54), (.call (.mk (.builtin .copy) #[(.tmp 50), (.tmp 53)] #[25, 25])), none⟩
   .done) [])
 (.seq (.reg [⟨(some 55), (.move (.tmp 9)), none⟩,
   ⟨(some 6), (.assign (.tmp 55)), none⟩])
 .ret)))) .skip))
 (.seq (.reg [⟨(some 56), (.move (.tmp 0)), none⟩,
   ⟨(some 57), (.move (.tmp 8)), none⟩,
   ⟨(some 58), (.move (.tmp 7)), none⟩,
   ⟨(some 59), (.binOp .add 3 (.tmp 57) (.tmp 58) 3), none⟩,
   ⟨(some 60), (.slice 25 (.tmp 56) none (some (.tmp 59)) none), none⟩,
   ⟨(some 0), (.assign (.tmp 60)), none⟩])
 (.seq (.seq (.reg [⟨(some 61), (.move (.tmp 2)), none⟩,
   ⟨(some 62), (.move (.tmp 0)), none⟩,
   ⟨(some 63), (.move (.tmp 1)), none⟩,
   ⟨(some 64), (.move (.tmp 7)), none⟩,
   ⟨(some 65), (.binOp .add 3 (.tmp 63) (.tmp 64) 3), none⟩,
   ⟨(some 66), (.slice 25 (.tmp 62) (some (.tmp 65)) none none), none⟩,
   ⟨(some 67), (.call (.mk (.value (.func 86)) #[(.tmp 61), (.tmp 66)] #[25, 25])), none⟩,
   ⟨(some 68), (.unOp .not 4 (.tmp 67)), none⟩])
 (.cond (.tmp 68) (.seq (.regt [⟨(some 69), (.move (.tmp 0)), none⟩,
   ⟨(some 70), (.move (.tmp 1)), none⟩,
   ⟨(some 71), (.move (.tmp 7)), none⟩,
   ⟨(some 72), (.binOp .add 3 (.tmp 70) (.tmp 71) 3), none⟩,
   ⟨(some 73), (.slice 25 (.tmp 69) (some (.tmp 72)) none none), none⟩,
   ⟨(some 74), (.move (.tmp 0)), none⟩,
   ⟨(some 75), (.move (.tmp 1)), none⟩,
   ⟨(some 76), (.slice 25 (.tmp 74) (some (.tmp 75)) none none), none⟩] (.one false ⟨(some 77), (.call (.mk (.builtin .copy) #[(.tmp 73), (.tmp 76)] #[25, 25])), none⟩
   .done) [])
 (.seq (.reg [⟨(some 78), (.move (.tmp 0)), none⟩,
   ⟨(some 79), (.move (.tmp 1)), none⟩,
   ⟨(some 80), (.slice 25 (.tmp 78) (some (.tmp 79)) none none), none⟩,
   ⟨(some 81), (.move (.tmp 2)), none⟩,
   ⟨(some 82), (.call (.mk (.builtin .copy) #[(.tmp 80), (.tmp 81)] #[25, 25])), none⟩])
 (.seq (.reg [⟨(some 83), (.move (.tmp 0)), none⟩,
   ⟨(some 6), (.assign (.tmp 83)), none⟩])
 .ret))) .skip))
 (.seq (.reg [⟨(some 84), (.move (.tmp 0)), none⟩,
   ⟨(some 85), (.move (.tmp 8)), none⟩,
   ⟨(some 86), (.slice 25 (.tmp 84) (some (.tmp 85)) none none), none⟩,
   ⟨(some 87), (.move (.tmp 2)), none⟩,
   ⟨(some 88), (.call (.mk (.builtin .copy) #[(.tmp 86), (.tmp 87)] #[25, 25])), none⟩])
 (.seq (.reg [⟨(some 89), (.move (.tmp 0)), none⟩,
   ⟨(some 90), (.move (.tmp 1)), none⟩,
   ⟨(some 91), (.slice 25 (.tmp 89) (some (.tmp 90)) none none), none⟩,
   ⟨(some 92), (.move (.tmp 7)), none⟩,
   ⟨(some 93), (.call (.mk (.value (.func 87)) #[(.tmp 91), (.tmp 92)] #[25, 3])), none⟩])
 (.seq (.reg [⟨(some 94), (.move (.tmp 0)), none⟩,
   ⟨(some 6), (.assign (.tmp 94)), none⟩])
 .ret))))))))))))
theorem x_slices_Insert_PriceRow : Txt Try.prog 73 c_slices_Insert_PriceRow [.tmp 6] 3 := ⟨by kernel_rfl, by kernel_rfl, _, _, Try.func73, rfl, by kernel_rfl, by kernel_rfl, by kernel_rfl, rfl, by decide⟩
/-- (*loop.example/g01062/spec.l1Cur).prices24 -/
def c_spec_l1Cur_prices24 : Cd :=
 (.seq (.reg [⟨(some 2), (.assign (.const (.slice none 0 0))), none⟩])
 (.seq (.reg [⟨(some 9), (.buildSlice 25 0 #[]), none⟩,
   ⟨(some 3), (.assign (.tmp 9)), none⟩])
 (.seq (.reg [⟨(some 4), (.assign (.const (.int .i64 0))), none⟩])
 (.seq (.seq (.reg [⟨(some 10), (.move (.tmp 0)), none⟩,
   ⟨(some 11), (.call (.mk (.value (.func 78)) #[(.tmp 10), (.const (.int .i64 5))] #[74, 3])), none⟩,
   ⟨(some 5), (.assign (.tmp 11)), none⟩])
 (.block 0 (.loop (.seq (.seq (.reg [⟨(some 12), (.move (.tmp 5)), none⟩,
   ⟨(some 13), (.binOp .gtr 3 (.tmp 12) (.const (.int .i64 0)) 3), none⟩])
 (.cond (.tmp 13) .skip (.exit 0)))
 (.seq (.block 1 (.seq (.reg [⟨(some 16), (.move (.tmp 4)), none⟩,
   ⟨(some 17), (.binOp .add 3 (.tmp 16) (.const (.int .i64 1)) 3), none⟩,
   ⟨(some 18), (.move (.tmp 0)), none⟩,
   ⟨(some 19), (.call (.mk (.value (.func 78)) #[(.tmp 18), (.const (.int .i64 2))] #[74, 3])), none⟩,
   ⟨(some 20), (.binOp .add 3 (.tmp 17) (.tmp 19) 3), none⟩,
   ⟨(some 21), (.move (.tmp 0)), none⟩,
   ⟨(some 22), (.call (.mk (.value (.func 78)) #[(.tmp 21), (.const (.int .i64 150))] #[74, 3])), none⟩,
   ⟨(some 23), (.binOp .quo 3 (.tmp 22) (.const (.int .i64 149)) 3), none⟩,
   ⟨(some 24), (.binOp .sub 3 (.tmp 20) (.tmp 23) 3), none⟩,
   ⟨(some 4), (.assign (.tmp 24)), none⟩])
 (.seq (.reg [⟨(some 25), (.move (.tmp 0)), none⟩,
   ⟨(some 26), (.buildSlice 40 5 #[(0, (.const (.int .i64 1840))), (1, (.const (.int .i64 1900))), (2, (.const (.int .i64 1950))), (3, (.const (.int .i64 1950))), (4, (.const (.int .i64 2090)))]), none⟩,
   ⟨(some 27), (.call (.mk (.value (.func 77)) #[(.tmp 25), (.tmp 26)] #[74, 40])), none⟩,
   ⟨(some 6), (.assign (.tmp 27)), none⟩])
 (.seq (.reg [⟨(some 28), (.move (.tmp 0)), none⟩,
   ⟨(some 29), (.call (.mk (.value (.func 78)) #[(.tmp 28), (.const (.int .i64 3))] #[74, 3])), none⟩,
   ⟨(some 30), (.binOp .add 3 (.const (.int .i64 1)) (.tmp 29) 3), none⟩,
   ⟨(some 7), (.assign (.tmp 30)), none⟩])
 (.block 2 (.loop (.seq (.seq (.reg [⟨(some 31), (.move (.tmp 7)), none⟩,
   ⟨(some 32), (.binOp .gtr 3 (.tmp 31) (.const (.int .i64 0)) 3), none⟩])
 (.cond (.tmp 32) .skip (.exit 2)))
 (.seq (.block 3 (.seq (.reg [⟨(some 35), (.move (.tmp 3)), none⟩,
   ⟨(some 36), (.move (.tmp 0)), none⟩,
   ⟨(some 37), (.move (.tmp 4)), none⟩,
   ⟨(some 38), (.move (.tmp 6)), none⟩,
   ⟨(some 39), (.call (.mk (.value (.func 88)) #[(.tmp 36), (.tmp 37), (.tmp 38)] #[74, 3, 3])), none⟩,
   ⟨(some 40), (.buildSlice 25 1 #[(0, (.tmp 39))]), none⟩,
   ⟨(some 41), (.call (.mk (.builtin .append) #[(.tmp 35), (.tmp 40)] #[25, 25])), none⟩,
   ⟨(some 3), (.assign (.tmp 41)), none⟩])
 (.reg [⟨(some 42), (.move (.tmp 6)), none⟩,
   ⟨(some 43), (.move (.tmp 0)), none⟩,
   ⟨(some 44), (.buildSlice 40 5 #[(0, (.const (.int .i64 1))), (1, (.const (.int .i64 2))), (2, (.const (.int .i64 3))), (3, (.const (.int .i64 10))), (4, (.const (.int .i64 50)))]), none⟩,
   ⟨(some 45), (.call (.mk (.value (.func 77)) #[(.tmp 43), (.tmp 44)] #[74, 40])), none⟩,
   ⟨(some 46), (.binOp .add 3 (.tmp 42) (.tmp 45) 3), none⟩,
   ⟨(some 47), (.call (.mk (.value (.func 89)) #[(.const (.int .i64 2100)), (.tmp 46)] #[3, 3])), none⟩,
   ⟨(some 6), (.assign (.tmp 47)), none⟩])))
 (.reg [⟨(some 33), (.move (.tmp 7)), none⟩,
   ⟨(some 34), (.binOp .sub 3 (.tmp 33) (.const (.int .i64 1)) 3), none⟩,
   ⟨(some 7), (.assign (.tmp 34)), none⟩])))))))))
 (.reg [⟨(some 14), (.move (.tmp 5)), none⟩,
   ⟨(some 15), (.binOp .sub 3 (.tmp 14) (.const (.int .i64 1)) 3), none⟩,
   ⟨(some 5), (.assign (.tmp 15)), none⟩]))))))
 (.seq (.seq (.reg [⟨(some 48), (.move (.tmp 0)), none⟩,
   ⟨(some 49), (.call (.mk (.value (.func 90)) #[(.tmp 48), (.const (.int .i64 24))] #[74, 3])), none⟩])
 (.cond (.tmp 49) (.seq (.reg [⟨(some 50), (.buildSlice 25 0 #[]), none⟩,
   ⟨(some 3), (.assign (.tmp 50)), none⟩])
 (.seq (.reg [⟨(some 8), (.assign (.const (.int .i64 0))), none⟩])
 (.block 4 (.loop (.seq (.seq (.reg [⟨(some 51), (.move (.tmp 8)), none⟩,
   ⟨(some 52), (.move (.tmp 0)), none⟩,
   ⟨(some 53), (.call (.mk (.value (.func 78)) #[(.tmp 52), (.const (.int .i64 2))] #[74, 3])), none⟩,
   ⟨(some 54), (.binOp .add 3 (.const (.int .i64 15)) (.tmp 53) 3), none⟩,
   ⟨(some 55), (.binOp .lss 3 (.tmp 51) (.tmp 54) 3), none⟩])
 (.cond (.tmp 55) .skip (.exit 4)))
 (.seq (.block 5 (.reg [⟨(some 58), (.move (.tmp 3)), none⟩,
   ⟨(some 59), (.move (.tmp 8)), none⟩,
   ⟨(some 60), (.binOp .quo 3 (.tmp 59) (.const (.int .i64 4)) 3), none⟩,
   ⟨(some 61), (.binOp .add 3 (.const (.int .i64 1)) (.tmp 60) 3), none⟩,
   ⟨(some 62), (.move (.tmp 8)), none⟩,
   ⟨(some 63), (.binOp .rem 3 (.tmp 62) (.const (.int .i64 4)) 3), none⟩,
   ⟨(some 64), (.binOp .mul 3 (.const (.int .i64 10)) (.tmp 63) 3), none⟩,
   ⟨(some 65), (.binOp .add 3 (.const (.int .i64 1900)) (.tmp 64) 3), none⟩,
   ⟨(some 66), (.move (.tmp 8)), none⟩,
   ⟨(some 67), (.binOp .rem 3 (.tmp 66) (.const (.int .i64 5)) 3), none⟩,
   ⟨(some 68), (.binOp .add 3 (.const (.int .i64 1)) (.tmp 67) 3), none⟩,
   ⟨(some 69), (.binOp .mul 3 (.const (.int .i64 100)) (.tmp 68) 3), none⟩,
   ⟨(some 70), (.build 56 #[(0, (.tmp 61)), (1, (.tmp 65)), (2, (.tmp 69))]), none⟩,
   ⟨(some 71), (.buildSlice 25 1 #[(0, (.tmp 70))]), none⟩,
   ⟨(some 72), (.call (.mk (.builtin .append) #[(.tmp 58), (.tmp 71)] #[25, 25])), none⟩,
   ⟨(some 3), (.assign (.tmp 72)), none⟩]))
 (.reg [⟨(some 56), (.move (.tmp 8)), none⟩,
   ⟨(some 57), (.binOp .add 3 (.tmp 56) (.const (.int .i64 1)) 3), none⟩,
   ⟨(some 8), (.assign (.tmp 57)), none⟩]))))))) .skip))
 (.seq (.reg [⟨(some 73), (.move (.tmp 3)), none⟩,
   ⟨(some 2), (.assign (.tmp 73)), none⟩])
 .ret))))))
theorem x_spec_l1Cur_prices24 : Txt Try.prog 74 c_spec_l1Cur_prices24 [.tmp 2] 1 := ⟨by kernel_rfl, by kernel_rfl, _, _, Try.func74, rfl, by kernel_rfl, by kernel_rfl, by kernel_rfl, rfl, by decide⟩
/-- (*loop.example/g01062/spec.l1Cur).item24 -/
def c_spec_l1Cur_item24 : Cd :=
 (.seq (.reg [⟨(some 4), (.assign (.const (.int .i64 0))), none⟩])
 (.seq (.seq (.reg [⟨(some 5), (.move (.tmp 1)), none⟩,
   ⟨(some 6), (.call (.mk (.builtin .len) #[(.tmp 5)] #[25])), none⟩,
   ⟨(some 7), (.binOp .eql 3 (.tmp 6) (.const (.int .i64 0)) 3), none⟩,
   ⟨(some 8), (.move (.tmp 7)), none⟩,
   ⟨(some 9), (.move (.tmp 0)), (some (8, false))⟩,
   ⟨(some 10), (.call (.mk (.value (.func 90)) #[(.tmp 9), (.const (.int .i64 8))] #[74, 3])), (some (8, false))⟩,
   ⟨(some 11), (.pick (.tmp 8) (.const (.bool true)) (.tmp 10)), none⟩])
 (.cond (.tmp 11) (.seq (.reg [⟨(some 12), (.move (.tmp 0)), none⟩,
   ⟨(some 13), (.buildSlice 40 5 #[(0, (.const (.int .i64 1))), (1, (.const (.int .i64 5))), (2, (.const (.int .i64 999))), (3, (.const (.int .i64 0))), (4, (.const (.int .i64 1000)))]), none⟩,
   ⟨(some 14), (.move (.tmp 0)), none⟩,
   ⟨(some 15), (.call (.mk (.value (.func 78)) #[(.tmp 14), (.const (.int .i64 24))] #[74, 3])), none⟩,
   ⟨(some 16), (.binOp .quo 3 (.tmp 15) (.const (.int .i64 11)) 3), none⟩,
   ⟨(some 17), (.binOp .add 3 (.const (.int .i64 3)) (.tmp 16) 3), none⟩,
   ⟨(some 18), (.slice 40 (.tmp 13) none (some (.tmp 17)) none), none⟩,
   ⟨(some 19), (.call (.mk (.value (.func 77)) #[(.tmp 12), (.tmp 18)] #[74, 40])), none⟩,
   ⟨(some 4), (.assign (.tmp 19)), none⟩])
 .ret) .skip))
 (.seq (.reg [⟨(some 20), (.move (.tmp 1)), none⟩,
   ⟨(some 21), (.move (.tmp 0)), none⟩,
   ⟨(some 22), (.move (.tmp 1)), none⟩,
   ⟨(some 23), (.call (.mk (.builtin .len) #[(.tmp 22)] #[25])), none⟩,
   ⟨(some 24), (.call (.mk (.value (.func 78)) #[(.tmp 21), (.tmp 23)] #[74, 3])), none⟩,
   ⟨(some 25), (.indexAddr 25 (.tmp 20) (.tmp 24)), none⟩,
   ⟨(some 26), (.fieldAddr 56 (.tmp 25) 0), none⟩,
   ⟨(some 27), (.load 3 (.tmp 26)), none⟩,
   ⟨(some 4), (.assign (.tmp 27)), none⟩])
 .ret)))
theorem x_spec_l1Cur_item24 : Txt Try.prog 75 c_spec_l1Cur_item24 [.tmp 4] 2 := ⟨by kernel_rfl, by kernel_rfl, _, _, Try.func75, rfl, by kernel_rfl, by kernel_rfl, by kernel_rfl, rfl, by decide⟩
def c_spec_l1Cur_year24_r0 : Cd :=
 (.regt [⟨(some 20), (.move (.tmp 1)), none⟩,
   ⟨(some 21), (.move (.tmp 0)), none⟩,
   ⟨(some 22), (.move (.tmp 1)), none⟩,
   ⟨(some 23), (.call (.mk (.builtin .len) #[(.tmp 22)] #[25])), none⟩,
   ⟨(some 28), (.move (.tmp 0)), none⟩] (.alt false ⟨(some 24), (.call (.mk (.value (.func 78)) #[(.tmp 21), (.tmp 23)] #[74, 3])), none⟩
   (.now ⟨(some 25), (.indexAddr 25 (.tmp 20) (.tmp 24)), none⟩
   (.now ⟨(some 26), (.fieldAddr 56 (.tmp 25) 1), none⟩
   (.alt false ⟨(some 27), (.load 3 (.tmp 26)), none⟩
   (.one true ⟨(some 29), (.buildSlice 40 6 #[(0, (.const (.int .i64 (-1)))), (1, (.const (.int .i64 0))), (2, (.const (.int .i64 0))), (3, (.const (.int .i64 1))), (4, (.const (.int .i64 2))), (5, (.const (.int .i64 5)))]), none⟩
   (.one false ⟨(some 30), (.call (.mk (.value (.func 77)) #[(.tmp 28), (.tmp 29)] #[74, 40])), none⟩
   (.one false ⟨(some 31), (.binOp .add 3 (.tmp 27) (.tmp 30) 3), none⟩
   (.one false ⟨(some 4), (.assign (.tmp 31)), none⟩
   .done))))
   (.one true ⟨(some 29), (.buildSlice 40 6 #[(0, (.const (.int .i64 (-1)))), (1, (.const (.int .i64 0))), (2, (.const (.int .i64 0))), (3, (.const (.int .i64 1))), (4, (.const (.int .i64 2))), (5, (.const (.int .i64 5)))]), none⟩
   (.alt false ⟨(some 27), (.load 3 (.tmp 26)), none⟩
   (.one false ⟨(some 30), (.call (.mk (.value (.func 77)) #[(.tmp 28), (.tmp 29)] #[74, 40])), none⟩
   (.one false ⟨(some 31), (.binOp .add 3 (.tmp 27) (.tmp 30) 3), none⟩
   (.one false ⟨(some 4), (.assign (.tmp 31)), none⟩
   .done)))
   (.one false ⟨(some 30), (.call (.mk (.value (.func 77)) #[(.tmp 28), (.tmp 29)] #[74, 40])), none⟩
   (.one false ⟨(some 27), (.load 3 (.tmp 26)), none⟩
   (.one false ⟨(some 31), (.binOp .add 3 (.tmp 27) (.tmp 30) 3), none⟩
   (.one false ⟨(some 4), (.assign (.tmp 31)), none⟩
   .done)))))))))
   (.one true ⟨(some 29), (.buildSlice 40 6 #[(0, (.const (.int .i64 (-1)))), (1, (.const (.int .i64 0))), (2, (.const (.int .i64 0))), (3, (.const (.int .i64 1))), (4, (.const (.int .i64 2))), (5, (.const (.int .i64 5)))]), none⟩
   (.one false ⟨(some 24), (.call (.mk (.value (.func 78)) #[(.tmp 21), (.tmp 23)] #[74, 3])), none⟩
   (.now ⟨(some 25), (.indexAddr 25 (.tmp 20) (.tmp 24)), none⟩
   (.now ⟨(some 26), (.fieldAddr 56 (.tmp 25) 1), none⟩
   (.alt false ⟨(some 27), (.load 3 (.tmp 26)), none⟩
   (.one false ⟨(some 30), (.call (.mk (.value (.func 77)) #[(.tmp 28), (.tmp 29)] #[74, 40])), none⟩
   (.one false ⟨(some 31), (.binOp .add 3 (.tmp 27) (.tmp 30) 3), none⟩
   (.one false ⟨(some 4), (.assign (.tmp 31)), none⟩
   .done)))
   (.one false ⟨(some 30), (.call (.mk (.value (.func 77)) #[(.tmp 28), (.tmp 29)] #[74, 40])), none⟩
   (.one false ⟨(some 27), (.load 3 (.tmp 26)), none⟩
   (.one false ⟨(some 31), (.binOp .add 3 (.tmp 27) (.tmp 30) 3), none⟩
   (.one false ⟨(some 4), (.assign (.tmp 31)), none⟩
   .done)))))))))) [])
/-- (*loop.example/g01062/spec.l1Cur).year24 -/
def c_spec_l1Cur_year24 : Cd :=
 (.seq (.reg [⟨(some 4), (.assign (.const (.int .i64 0))), none⟩])
 (.seq (.seq (.reg [⟨(some 5), (.move (.tmp 1)), none⟩,
   ⟨(some 6), (.call (.mk (.builtin .len) #[(.tmp 5)] #[25])), none⟩,
   ⟨(some 7), (.binOp .eql 3 (.tmp 6) (.const (.int .i64 0)) 3), none⟩,
   ⟨(some 8), (.move (.tmp 7)), none⟩,
   ⟨(some 9), (.move (.tmp 0)), (some (8, false))⟩,
   ⟨(some 10), (.call (.mk (.value (.func 90)) #[(.tmp 9), (.const (.int .i64 6))] #[74, 3])), (some (8, false))⟩,
   ⟨(some 11), (.pick (.tmp 8) (.const (.bool true)) (.tmp 10)), none⟩])
 (.cond (.tmp 11) (.seq (.reg [⟨(some 12), (.move (.tmp 0)), none⟩,
   ⟨(some 13), (.buildSlice 40 5 #[(0, (.const (.int .i64 1840))), (1, (.const (.int .i64 1925))), (2, (.const (.int .i64 2100))), (3, (.const (.int .i64 1839))), (4, (.const (.int .i64 2101)))]), none⟩,
   ⟨(some 14), (.move (.tmp 0)), none⟩,
   ⟨(some 15), (.call (.mk (.value (.func 78)) #[(.tmp 14), (.const (.int .i64 24))] #[74, 3])), none⟩,
   ⟨(some 16), (.binOp .quo 3 (.tmp 15) (.const (.int .i64 11)) 3), none⟩,
   ⟨(some 17), (.binOp .add 3 (.const (.int .i64 3)) (.tmp 16) 3), none⟩,
   ⟨(some 18), (.slice 40 (.tmp 13) none (some (.tmp 17)) none), none⟩,
   ⟨(some 19), (.call (.mk (.value (.func 77)) #[(.tmp 12), (.tmp 18)] #[74, 40])), none⟩,
   ⟨(some 4), (.assign (.tmp 19)), none⟩])
 .ret) .skip))
 (.seq c_spec_l1Cur_year24_r0
 .ret)))
theorem x_spec_l1Cur_year24 : Txt Try.prog 76 c_spec_l1Cur_year24 [.tmp 4] 2 := ⟨by kernel_rfl, by kernel_rfl, _, _, Try.func76, rfl, by kernel_rfl, by kernel_rfl, by kernel_rfl, rfl, by decide⟩
/-- (*loop.example/g01062/spec.l1Cur).among -/
def c_spec_l1Cur_among : Cd :=
 (.seq (.reg [⟨(some 4), (.assign (.const (.int .i64 0))), none⟩])
 (.seq (.reg [⟨(some 5), (.move (.tmp 1)), none⟩,
   ⟨(some 6), (.move (.tmp 0)), none⟩,
   ⟨(some 7), (.move (.tmp 1)), none⟩,
   ⟨(some 8), (.call (.mk (.builtin .len) #[(.tmp 7)] #[40])), none⟩,
   ⟨(some 9), (.call (.mk (.value (.func 78)) #[(.tmp 6), (.tmp 8)] #[74, 3])), none⟩,
   ⟨(some 10), (.indexAddr 40 (.tmp 5) (.tmp 9)), none⟩,
   ⟨(some 11), (.load 3 (.tmp 10)), none⟩,
   ⟨(some 4), (.assign (.tmp 11)), none⟩])
 .ret))
theorem x_spec_l1Cur_among : Txt Try.prog 77 c_spec_l1Cur_among [.tmp 4] 2 := ⟨by kernel_rfl, by kernel_rfl, _, _, Try.func77, rfl, by kernel_rfl, by kernel_rfl, by kernel_rfl, rfl, by decide⟩
/-- (*loop.example/g01062/spec.l1Cur).pick -/
def c_spec_l1Cur_pick : Cd :=
 (.seq (.reg [⟨(some 4), (.assign (.const (.int .i64 0))), none⟩])
 (.seq (.seq (.reg [⟨(some 6), (.move (.tmp 1)), none⟩,
   ⟨(some 7), (.binOp .leq 3 (.tmp 6) (.const (.int .i64 1)) 3), none⟩])
 (.cond (.tmp 7) (.seq (.reg [⟨(some 4), (.assign (.const (.int .i64 0))), none⟩])
 .ret) .skip))
 (.seq (.reg [⟨(some 8), (.move (.tmp 0)), none⟩,
   ⟨(some 9), (.call (.mk (.value (.func 91)) #[(.tmp 8)] #[74])), none⟩,
   ⟨(some 5), (.assign (.tmp 9)), none⟩])
 (.seq (.seq (.reg [⟨(some 10), (.move (.tmp 1)), none⟩,
   ⟨(some 11), (.binOp .gtr 3 (.tmp 10) (.const (.int .i64 200)) 3), none⟩])
 (.cond (.tmp 11) (.reg [⟨(some 12), (.move (.tmp 5)), none⟩,
   ⟨(some 13), (.binOp .mul 3 (.tmp 12) (.const (.int .i64 256)) 3), none⟩,
   ⟨(some 14), (.move (.tmp 0)), none⟩,
   ⟨(some 15), (.call (.mk (.value (.func 91)) #[(.tmp 14)] #[74])), none⟩,
   ⟨(some 16), (.binOp .add 3 (.tmp 13) (.tmp 15) 3), none⟩,
   ⟨(some 5), (.assign (.tmp 16)), none⟩]) .skip))
 (.seq (.reg [⟨(some 17), (.move (.tmp 5)), none⟩,
   ⟨(some 18), (.move (.tmp 1)), none⟩,
   ⟨(some 19), (.binOp .rem 3 (.tmp 17) (.tmp 18) 3), none⟩,
   ⟨(some 4), (.assign (.tmp 19)), none⟩])
 .ret)))))
theorem x_spec_l1Cur_pick : Txt Try.prog 78 c_spec_l1Cur_pick [.tmp 4] 2 := ⟨by kernel_rfl, by kernel_rfl, _, _, Try.func78, rfl, by kernel_rfl, by kernel_rfl, by kernel_rfl, rfl, by decide⟩
/-- loop.example/g01062/spec.l24One -/
def c_spec_l24One : Cd :=
 (.seq (.reg [⟨(some 1), (.box 56 (.tmp 0)), none⟩,
   ⟨(some 2), (.assign (.const (.bool false))), none⟩])
 (.seq (.reg [⟨(some 3), (.fieldAddr 56 (.tmp 1) 0), none⟩,
   ⟨(some 4), (.load 3 (.tmp 3)), none⟩,
   ⟨(some 5), (.call (.mk (.value (.func 53)) #[(.tmp 4)] #[3])), none⟩,
   ⟨(some 6), (.move (.tmp 5)), none⟩,
   ⟨(some 7), (.fieldAddr 56 (.tmp 1) 1), (some (6, true))⟩,
   ⟨(some 8), (.load 3 (.tmp 7)), (some (6, true))⟩,
   ⟨(some 9), (.call (.mk (.value (.func 55)) #[(.tmp 8)] #[3])), (some (6, true))⟩,
   ⟨(some 10), (.pick (.tmp 6) (.tmp 9) (.const (.bool false))), none⟩,
   ⟨(some 11), (.move (.tmp 10)), none⟩,
   ⟨(some 12), (.fieldAddr 56 (.tmp 1) 2), (some (11, true))⟩,
   ⟨(some 13), (.load 3 (.tmp 12)), (some (11, true))⟩,
   ⟨(some 14), (.call (.mk (.value (.func 59)) #[(.tmp 13)] #[3])), (some (11, true))⟩,
   ⟨(some 15), (.pick (.tmp 11) (.tmp 14) (.const (.bool false))), none⟩,
   ⟨(some 2), (.assign (.tmp 15)), none⟩])
 .ret))
theorem x_spec_l24One : Txt Try.prog 79 c_spec_l24One [.tmp 2] 1 := ⟨by kernel_rfl, by kernel_rfl, _, _, Try.func79, rfl, by kernel_rfl, by kernel_rfl, by kernel_rfl, rfl, by decide⟩
/-- loop.example/g01062/spec.l1Most -/
def c_spec_l1Most : Cd :=
 (.seq (.reg [⟨(some 4), (.assign (.const (.int .i64 0))), none⟩])
 (.seq (.seq (.reg [⟨(some 5), (.move (.tmp 0)), none⟩,
   ⟨(some 6), (.move (.tmp 1)), none⟩,
   ⟨(some 7), (.binOp .gtr 3 (.tmp 5) (.tmp 6) 3), none⟩])
 (.cond (.tmp 7) (.seq (.reg [⟨(some 8), (.move (.tmp 0)), none⟩,
   ⟨(some 4), (.assign (.tmp 8)), none⟩])
 .ret) .skip))
 (.seq (.reg [⟨(some 9), (.move (.tmp 1)), none⟩,
   ⟨(some 4), (.assign (.tmp 9)), none⟩])
 .ret)))
theorem x_spec_l1Most : Txt Try.prog 80 c_spec_l1Most [.tmp 4] 2 := ⟨by kernel_rfl, by kernel_rfl, _, _, Try.func80, rfl, by kernel_rfl, by kernel_rfl, by kernel_rfl, rfl, by decide⟩
/-- loop.example/g01062/impl.gcd -/
def c_impl_gcd : Cd :=
 (.seq (.reg [⟨(some 4), (.assign (.const (.int .i64 0))), none⟩])
 (.seq (.block 0 (.loop (.seq (.seq (.reg [⟨(some 5), (.move (.tmp 1)), none⟩,
   ⟨(some 6), (.binOp .neq 3 (.tmp 5) (.const (.int .i64 0)) 3), none⟩])
 (.cond (.tmp 6) .skip (.exit 0)))
 (.block 1 (.regq [⟨(some 7), (.move (.tmp 1)), none⟩,
   ⟨(some 8), (.move (.tmp 0)), none⟩,
   ⟨(some 9), (.move (.tmp 1)), none⟩,
   ⟨(some 10), (.binOp .rem 3 (.tmp 8) (.tmp 9) 3), none⟩,
   ⟨(some 0), (.assign (.tmp 7)), none⟩,
   ⟨(some 1), (.assign (.tmp 10)), none⟩])))))
 (.seq (.reg [⟨(some 11), (.move (.tmp 0)), none⟩,
   ⟨(some 4), (.assign (.tmp 11)), none⟩])
 .ret)))
theorem x_impl_gcd : Txt Try.prog 81 c_impl_gcd [.tmp 4] 2 := ⟨by kernel_rfl, by kernel_rfl, _, _, Try.func81, rfl, by kernel_rfl, by kernel_rfl, by kernel_rfl, rfl, by decide⟩
/-- cmp.Or[int] -/
def c_cmp_Or_int : Cd :=
 (.seq (.reg [⟨(some 2), (.assign (.const (.int .i64 0))), none⟩])
 (.seq (.reg [⟨(some 3), (.assign (.const (.int .i64 0))), none⟩])
 (.seq (.seq (.reg [⟨(some 6), (.move (.tmp 0)), none⟩,
   ⟨(some 7), (.call (.mk (.builtin .len) #[(.tmp 6)] #[40])), none⟩,
   ⟨(some 8), (.move (.const (.int .i64 0))), none⟩])
 (.block 0 (.loop (.seq (.reg [⟨(some 9), (.binOp .lss 3 (.tmp 8) (.tmp 7) 3), none⟩])
 (.seq (.cond (.tmp 9) .skip (.exit 0))
 (.seq (.block 1 (.seq (.reg [⟨(some 10), (.indexAddr 40 (.tmp 6) (.tmp 8)), none⟩,
   ⟨(some 11), (.load 3 (.tmp 10)), none⟩,
   ⟨(some 5), (.assign (.tmp 11)), none⟩])
 (.seq (.reg [⟨(some 12), (.move (.tmp 5)), none⟩,
   ⟨(some 13), (.move (.tmp 3)), none⟩,
   ⟨(some 14), (.binOp .neq 3 (.tmp 12) (.tmp 13) 3), none⟩])
 (.cond (.tmp 14) (.seq (.reg [⟨(some 15), (.move (.tmp 5)), none⟩,
   ⟨(some 2), (.assign (.tmp 15)), none⟩])
 .ret) .skip))))
 (.reg [⟨(some 16), (.binOp .add 3 (.tmp 8) (.const (.int .i64 1)) 3), none⟩,
   ⟨(some 8), (.move (.tmp 16)), none⟩])))))))
 (.seq (.reg [⟨(some 17), (.move (.tmp 3)), none⟩,
   ⟨(some 2), (.assign (.tmp 17)), none⟩])
 .ret))))
theorem x_cmp_Or_int : Txt Try.prog 84 c_cmp_Or_int [.tmp 2] 1 := ⟨by kernel_rfl, by kernel_rfl, _, _, Try.func84, rfl, by kernel_rfl, by kernel_rfl, by kernel_rfl, rfl, by decide⟩
/-- cmp.Compare[int] -/
def c_cmp_Compare_int : Cd :=
 (.seq (.reg [⟨(some 4), (.assign (.const (.int .i64 0))), none⟩])
 (.seq (.reg [⟨(some 7), (.move (.tmp 0)), none⟩,
   ⟨(some 8), (.call (.mk (.value (.func 92)) #[(.tmp 7)] #[3])), none⟩,
   ⟨(some 5), (.assign (.tmp 8)), none⟩])
 (.seq (.reg [⟨(some 9), (.move (.tmp 1)), none⟩,
   ⟨(some 10), (.call (.mk (.value (.func 92)) #[(.tmp 9)] #[3])), none⟩,
   ⟨(some 6), (.assign (.tmp 10)), none⟩])
 (.seq (.seq (.reg [⟨(some 11), (.move (.tmp 5)), none⟩])
 (.cond (.tmp 11) (.seq (.seq (.reg [⟨(some 12), (.move (.tmp 6)), none⟩])
 (.cond (.tmp 12) (.seq (.reg [⟨(some 4), (.assign (.const (.int .i64 0))), none⟩])
 .ret) .skip))
 (.seq (.reg [⟨(some 4), (.assign (.const (.int .i64 (-1)))), none⟩])
 .ret)) .skip))
 (.seq (.seq (.reg [⟨(some 13), (.move (.tmp 6)), none⟩])
 (.cond (.tmp 13) (.seq (.reg [⟨(some 4), (.assign (.const (.int .i64 1))), none⟩])
 .ret) .skip))
 (.seq (.seq (.reg [⟨(some 14), (.move (.tmp 0)), none⟩,
   ⟨(some 15), (.move (.tmp 1)), none⟩,
   ⟨(some 16), (.binOp .lss 3 (.tmp 14) (.tmp 15) 3), none⟩])
 (.cond (.tmp 16) (.seq (.reg [⟨(some 4), (.assign (.const (.int .i64 (-1)))), none⟩])
 .ret) .skip))
 (.seq (.seq (.reg [⟨(some 17), (.move (.tmp 0)), none⟩,
   ⟨(some 18), (.move (.tmp 1)), none⟩,
   ⟨(some 19), (.binOp .gtr 3 (.tmp 17) (.tmp 18) 3), none⟩])
 (.cond (.tmp 19) (.seq (.reg [⟨(some 4), (.assign (.const (.int .i64 1))), none⟩])
 .ret) .skip))
 (.seq (.reg [⟨(some 4), (.assign (.const (.int .i64 0))), none⟩])
 .ret))))))))
theorem x_cmp_Compare_int : Txt Try.prog 85 c_cmp_Compare_int [.tmp 4] 2 := ⟨by kernel_rfl, by kernel_rfl, _, _, Try.func85, rfl, by kernel_rfl, by kernel_rfl, by kernel_rfl, rfl, by decide⟩
/-- (*loop.example/g01062/spec.l1Cur).price24 -/
def c_spec_l1Cur_price24 : Cd :=
 (.seq (.reg [⟨(some 6), (.alloc 56), none⟩])
 (.seq (.reg [⟨(some 8), (.move (.tmp 1)), none⟩,
   ⟨(some 9), (.move (.tmp 2)), none⟩,
   ⟨(some 10), (.move (.tmp 0)), none⟩,
   ⟨(some 11), (.buildSlice 40 7 #[(0, (.const (.int .i64 1))), (1, (.const (.int .i64 5))), (2, (.const (.int .i64 100))), (3, (.const (.int .i64 100))), (4, (.const (.int .i64 250))), (5, (.const (.int .i64 1000))), (6, (.const (.int .i64 10000000)))]), none⟩,
   ⟨(some 12), (.call (.mk (.value (.func 77)) #[(.tmp 10), (.tmp 11)] #[74, 40])), none⟩,
   ⟨(some 13), (.build 56 #[(0, (.tmp 8)), (1, (.tmp 9)), (2, (.tmp 12))]), none⟩,
   ⟨(some 7), (.alloc 56), none⟩,
   ⟨none, (.store 56 (.tmp 7) (.tmp 13)), none⟩])
 (.seq (.seq (.reg [⟨(some 14), (.move (.tmp 0)), none⟩,
   ⟨(some 15), (.call (.mk (.value (.func 78)) #[(.tmp 14), (.const (.int .i64 120))] #[74, 3])), none⟩])
 (.block 0 (.seq (.reg [⟨(some 17), (.binOp .eql 3 (.tmp 15) (.const (.int .i64 0)) 3), none⟩,
   ⟨(some 16), (.assign (.tmp 17)), none⟩])
 (.cond (.tmp 16) (.reg [⟨(some 18), (.move (.tmp 0)), none⟩,
   ⟨(some 19), (.buildSlice 40 3 #[(0, (.const (.int .i64 0))), (1, (.const (.int .i64 999))), (2, (.const (.int .i64 1000)))]), none⟩,
   ⟨(some 20), (.call (.mk (.value (.func 77)) #[(.tmp 18), (.tmp 19)] #[74, 40])), none⟩,
   ⟨(some 21), (.fieldAddr 56 (.tmp 7) 0), none⟩,
   ⟨none, (.store 3 (.tmp 21) (.tmp 20)), none⟩]) (.seq (.reg [⟨(some 23), (.binOp .eql 3 (.tmp 15) (.const (.int .i64 1)) 3), none⟩,
   ⟨(some 22), (.assign (.tmp 23)), none⟩])
 (.cond (.tmp 22) (.reg [⟨(some 24), (.move (.tmp 0)), none⟩,
   ⟨(some 25), (.buildSlice 40 2 #[(0, (.const (.int .i64 1839))), (1, (.const (.int .i64 2101)))]), none⟩,
   ⟨(some 26), (.call (.mk (.value (.func 77)) #[(.tmp 24), (.tmp 25)] #[74, 40])), none⟩,
   ⟨(some 27), (.fieldAddr 56 (.tmp 7) 1), none⟩,
   ⟨none, (.store 3 (.tmp 27) (.tmp 26)), none⟩]) (.seq (.reg [⟨(some 29), (.binOp .eql 3 (.tmp 15) (.const (.int .i64 2)) 3), none⟩,
   ⟨(some 28), (.assign (.tmp 29)), none⟩])
 (.cond (.tmp 28) (.reg [⟨(some 30), (.move (.tmp 0)), none⟩,
   ⟨(some 31), (.buildSlice 40 2 #[(0, (.const (.int .i64 0))), (1, (.const (.int .i64 10000001)))]), none⟩,
   ⟨(some 32), (.call (.mk (.value (.func 77)) #[(.tmp 30), (.tmp 31)] #[74, 40])), none⟩,
   ⟨(some 33), (.fieldAddr 56 (.tmp 7) 2), none⟩,
   ⟨none, (.store 3 (.tmp 33) (.tmp 32)), none⟩]) .skip))))))))
 (.seq (.reg [⟨(some 34), (.load 56 (.tmp 7)), none⟩,
   ⟨none, (.store 56 (.tmp 6) (.tmp 34)), none⟩])
 .ret))))
theorem x_spec_l1Cur_price24 : Txt Try.prog 88 c_spec_l1Cur_price24 [.cell 6 56] 3 := ⟨by kernel_rfl, by kernel_rfl, _, _, Try.func88, rfl, by kernel_rfl, by kernel_rfl, by kernel_rfl, rfl, by decide⟩
/-- loop.example/g01062/spec.l1Least -/
def c_spec_l1Least : Cd :=
 (.seq (.reg [⟨(some 4), (.assign (.const (.int .i64 0))), none⟩])
 (.seq (.seq (.reg [⟨(some 5), (.move (.tmp 0)), none⟩,
   ⟨(some 6), (.move (.tmp 1)), none⟩,
   ⟨(some 7), (.binOp .lss 3 (.tmp 5) (.tmp 6) 3), none⟩])
 (.cond (.tmp 7) (.seq (.reg [⟨(some 8), (.move (.tmp 0)), none⟩,
   ⟨(some 4), (.assign (.tmp 8)), none⟩])
 .ret) .skip))
 (.seq (.reg [⟨(some 9), (.move (.tmp 1)), none⟩,
   ⟨(some 4), (.assign (.tmp 9)), none⟩])
 .ret)))
theorem x_spec_l1Least : Txt Try.prog 89 c_spec_l1Least [.tmp 4] 2 := ⟨by kernel_rfl, by kernel_rfl, _, _, Try.func89, rfl, by kernel_rfl, by kernel_rfl, by kernel_rfl, rfl, by decide⟩
/-- (*loop.example/g01062/spec.l1Cur).one -/
def c_spec_l1Cur_one : Cd :=
 (.seq (.reg [⟨(some 4), (.assign (.const (.bool false))), none⟩])
 (.seq (.reg [⟨(some 5), (.move (.tmp 0)), none⟩,
   ⟨(some 6), (.move (.tmp 1)), none⟩,
   ⟨(some 7), (.call (.mk (.value (.func 78)) #[(.tmp 5), (.tmp 6)] #[74, 3])), none⟩,
   ⟨(some 8), (.binOp .eql 3 (.tmp 7) (.const (.int .i64 0)) 3), none⟩,
   ⟨(some 4), (.assign (.tmp 8)), none⟩])
 .ret))
theorem x_spec_l1Cur_one : Txt Try.prog 90 c_spec_l1Cur_one [.tmp 4] 2 := ⟨by kernel_rfl, by kernel_rfl, _, _, Try.func90, rfl, by kernel_rfl, by kernel_rfl, by kernel_rfl, rfl, by decide⟩
/-- (*loop.example/g01062/spec.l1Cur).next -/
def c_spec_l1Cur_next : Cd :=
 (.seq (.reg [⟨(some 2), (.assign (.const (.int .i64 0))), none⟩])
 (.seq (.reg [⟨(some 3), (.assign (.const (.int .i64 0))), none⟩])
 (.seq (.seq (.regq [⟨(some 4), (.move (.tmp 0)), none⟩,
   ⟨(some 5), (.nilCheck (.tmp 4)), none⟩,
   ⟨(some 6), (.fieldAddr 77 (.tmp 5) 1), none⟩,
   ⟨(some 7), (.load 3 (.tmp 6)), none⟩,
   ⟨(some 8), (.move (.tmp 0)), none⟩,
   ⟨(some 9), (.nilCheck (.tmp 8)), none⟩,
   ⟨(some 10), (.fieldAddr 77 (.tmp 9) 0), none⟩,
   ⟨(some 11), (.load 49 (.tmp 10)), none⟩,
   ⟨(some 12), (.call (.mk (.builtin .len) #[(.tmp 11)] #[49])), none⟩,
   ⟨(some 13), (.binOp .lss 3 (.tmp 7) (.tmp 12) 3), none⟩])
 (.cond (.tmp 13) (.regq [⟨(some 14), (.move (.tmp 0)), none⟩,
   ⟨(some 15), (.nilCheck (.tmp 14)), none⟩,
   ⟨(some 16), (.fieldAddr 77 (.tmp 15) 0), none⟩,
   ⟨(some 17), (.load 49 (.tmp 16)), none⟩,
   ⟨(some 18), (.move (.tmp 0)), none⟩,
   ⟨(some 19), (.nilCheck (.tmp 18)), none⟩,
   ⟨(some 20), (.fieldAddr 77 (.tmp 19) 1), none⟩,
   ⟨(some 21), (.load 3 (.tmp 20)), none⟩,
   ⟨(some 22), (.indexAddr 49 (.tmp 17) (.tmp 21)), none⟩,
   ⟨(some 23), (.load 5 (.tmp 22)), none⟩,
   ⟨(some 24), (.convert 5 3 (.tmp 23)), none⟩,
   ⟨(some 3), (.assign (.tmp 24)), none⟩]) .skip))
 (.seq (.reg [⟨(some 25), (.move (.tmp 0)), none⟩,
   ⟨(some 26), (.nilCheck (.tmp 25)), none⟩,
   ⟨(some 27), (.fieldAddr 77 (.tmp 26) 1), none⟩,
   ⟨(some 28), (.load 3 (.tmp 27)), none⟩,
   ⟨(some 29), (.binOp .add 3 (.tmp 28) (.const (.int .i64 1)) 3), none⟩,
   ⟨(some 30), (.nilCheck (.tmp 25)), none⟩,
   ⟨(some 31), (.fieldAddr 77 (.tmp 30) 1), none⟩,
   ⟨none, (.store 3 (.tmp 31) (.tmp 29)), none⟩])
 (.seq (.reg [⟨(some 32), (.move (.tmp 0)), none⟩,
   ⟨(some 33), (.move (.tmp 0)), none⟩,
   ⟨(some 34), (.nilCheck (.tmp 33)), none⟩,
   ⟨(some 35), (.fieldAddr 77 (.tmp 34) 2), none⟩,
   ⟨(some 36), (.load 75 (.tmp 35)), none⟩,
   ⟨(some 37), (.binOp .mul 75 (.tmp 36) (.const (.int .u64 6364136223846793005)) 75), none⟩,
   ⟨(some 38), (.move (.tmp 3)), none⟩,
   ⟨(some 39), (.convert 3 75 (.tmp 38)), none⟩,
   ⟨(some 40), (.binOp .add 75 (.tmp 37) (.tmp 39) 75), none⟩,
   ⟨(some 41), (.binOp .add 75 (.tmp 40) (.const (.int .u64 381907)) 75), none⟩,
   ⟨(some 42), (.nilCheck (.tmp 32)), none⟩,
   ⟨(some 43), (.fieldAddr 77 (.tmp 42) 2), none⟩,
   ⟨none, (.store 75 (.tmp 43) (.tmp 41)), none⟩])
 (.seq (.seq (.regq [⟨(some 44), (.move (.tmp 0)), none⟩,
   ⟨(some 45), (.nilCheck (.tmp 44)), none⟩,
   ⟨(some 46), (.fieldAddr 77 (.tmp 45) 1), none⟩,
   ⟨(some 47), (.load 3 (.tmp 46)), none⟩,
   ⟨(some 48), (.move (.tmp 0)), none⟩,
   ⟨(some 49), (.nilCheck (.tmp 48)), none⟩,
   ⟨(some 50), (.fieldAddr 77 (.tmp 49) 0), none⟩,
   ⟨(some 51), (.load 49 (.tmp 50)), none⟩,
   ⟨(some 52), (.call (.mk (.builtin .len) #[(.tmp 51)] #[49])), none⟩,
   ⟨(some 53), (.binOp .leq 3 (.tmp 47) (.tmp 52) 3), none⟩])
 (.cond (.tmp 53) (.seq (.reg [⟨(some 54), (.move (.tmp 3)), none⟩,
   ⟨(some 2), (.assign (.tmp 54)), none⟩])
 .ret) .skip))
 (.seq (.reg [⟨(some 55), (.move (.tmp 0)), none⟩,
   ⟨(some 56), (.nilCheck (.tmp 55)), none⟩,
   ⟨(some 57), (.fieldAddr 77 (.tmp 56) 2), none⟩,
   ⟨(some 58), (.load 75 (.tmp 57)), none⟩,
   ⟨(some 59), (.binOp .shr 75 (.tmp 58) (.const (.int .u64 40)) 84), none⟩,
   ⟨(some 60), (.binOp .and 75 (.tmp 59) (.const (.int .u64 255)) 75), none⟩,
   ⟨(some 61), (.convert 75 3 (.tmp 60)), none⟩,
   ⟨(some 2), (.assign (.tmp 61)), none⟩])
 .ret)))))))
theorem x_spec_l1Cur_next : Txt Try.prog 91 c_spec_l1Cur_next [.tmp 2] 1 := ⟨by kernel_rfl, by kernel_rfl, _, _, Try.func91, rfl, by kernel_rfl, by kernel_rfl, by kernel_rfl, rfl, by decide⟩
/-- cmp.isNaN[int] -/
def c_cmp_isNaN_int : Cd :=
 (.seq (.reg [⟨(some 2), (.assign (.const (.bool false))), none⟩])
 (.seq (.reg [⟨(some 3), (.move (.tmp 0)), none⟩,
   ⟨(some 4), (.move (.tmp 0)), none⟩,
   ⟨(some 5), (.binOp .neq 3 (.tmp 3) (.tmp 4) 3), none⟩,
   ⟨(some 2), (.assign (.tmp 5)), none⟩])
 .ret))
theorem x_cmp_isNaN_int : Txt Try.prog 92 c_cmp_isNaN_int [.tmp 2] 1 := ⟨by kernel_rfl, by kernel_rfl, _, _, Try.func92, rfl, by kernel_rfl, by kernel_rfl, by kernel_rfl, rfl, by decide⟩
theorem qs3 : qSize Try.prog 3 = some 1 := by kernel_rfl
theorem qb3 : qBytes Try.prog 3 = some 8 := by kernel_rfl
theorem qa3 : qAgg Try.prog 3 = some false := by kernel_rfl
theorem qz3 : qZero Try.prog 3 = some (.int .i64 0) := by kernel_rfl
theorem qk3 : qKind Try.prog 3 = some .i64 := by kernel_rfl
theorem qui3 : (Try.prog.underlying 3).isSome = true := by kernel_rfl
theorem qs4 : qSize Try.prog 4 = some 1 := by kernel_rfl
theorem qb4 : qBytes Try.prog 4 = some 1 := by kernel_rfl
theorem qa4 : qAgg Try.prog 4 = some false := by kernel_rfl
theorem qz4 : qZero Try.prog 4 = some (.bool false) := by kernel_rfl
theorem qo4 : qBool Try.prog 4 = true := by kernel_rfl
theorem qs5 : qSize Try.prog 5 = some 1 := by kernel_rfl
theorem qb5 : qBytes Try.prog 5 = some 1 := by kernel_rfl
theorem qa5 : qAgg Try.prog 5 = some false := by kernel_rfl
theorem qz5 : qZero Try.prog 5 = some (.int .u8 0) := by kernel_rfl
theorem qk5 : qKind Try.prog 5 = some .u8 := by kernel_rfl
theorem qui5 : (Try.prog.underlying 5).isSome = true := by kernel_rfl
theorem qs22 : qSize Try.prog 22 = some 1 := by kernel_rfl
theorem qb22 : qBytes Try.prog 22 = some 24 := by kernel_rfl
theorem qa22 : qAgg Try.prog 22 = some false := by kernel_rfl
theorem qz22 : qZero Try.prog 22 = some (.slice none 0 0) := by kernel_rfl
theorem qe22 : qElem Try.prog 22 = some 58 := by kernel_rfl
theorem qs25 : qSize Try.prog 25 = some 1 := by kernel_rfl
theorem qb25 : qBytes Try.prog 25 = some 24 := by kernel_rfl
theorem qa25 : qAgg Try.prog 25 = some false := by kernel_rfl
theorem qz25 : qZero Try.prog 25 = some (.slice none 0 0) := by kernel_rfl
theorem qe25 : qElem Try.prog 25 = some 56 := by kernel_rfl
theorem qs40 : qSize Try.prog 40 = some 1 := by kernel_rfl
theorem qb40 : qBytes Try.prog 40 = some 24 := by kernel_rfl
theorem qa40 : qAgg Try.prog 40 = some false := by kernel_rfl
theorem qz40 : qZero Try.prog 40 = some (.slice none 0 0) := by kernel_rfl
theorem qe40 : qElem Try.prog 40 = some 3 := by kernel_rfl
theorem qs49 : qSize Try.prog 49 = some 1 := by kernel_rfl
theorem qb49 : qBytes Try.prog 49 = some 24 := by kernel_rfl
theorem qa49 : qAgg Try.prog 49 = some false := by kernel_rfl
theorem qz49 : qZero Try.prog 49 = some (.slice none 0 0) := by kernel_rfl
theorem qe49 : qElem Try.prog 49 = some 5 := by kernel_rfl
theorem qs56 : qSize Try.prog 56 = some 3 := by kernel_rfl
theorem qb56 : qBytes Try.prog 56 = some 24 := by kernel_rfl
theorem qa56 : qAgg Try.prog 56 = some true := by kernel_rfl
theorem qz56 : qZero Try.prog 56 = some (.agg #[.int .i64 0, .int .i64 0, .int .i64 0]) := by kernel_rfl
theorem qg56 : qFields Try.prog 56 = some [(0, 1), (1, 1), (2, 1)] := by kernel_rfl
theorem qi56 : qEqS Try.prog 56 3 = true := by kernel_rfl
theorem qf56_0 : qField Try.prog 56 0 = some (0, 3) := by kernel_rfl
theorem qf56_1 : qField Try.prog 56 1 = some (1, 3) := by kernel_rfl
theorem qf56_2 : qField Try.prog 56 2 = some (2, 3) := by kernel_rfl
theorem qs58 : qSize Try.prog 58 = some 3 := by kernel_rfl
theorem qb58 : qBytes Try.prog 58 = some 24 := by kernel_rfl
theorem qa58 : qAgg Try.prog 58 = some true := by kernel_rfl
theorem qz58 : qZero Try.prog 58 = some (.agg #[.int .i64 0, .int .i64 0, .int .i64 0]) := by kernel_rfl
theorem qg58 : qFields Try.prog 58 = some [(0, 1), (1, 1), (2, 1)] := by kernel_rfl
theorem qi58 : qEqS Try.prog 58 3 = true := by kernel_rfl
theorem qf58_0 : qField Try.prog 58 0 = some (0, 3) := by kernel_rfl
theorem qf58_1 : qField Try.prog 58 1 = some (1, 3) := by kernel_rfl
theorem qf58_2 : qField Try.prog 58 2 = some (2, 3) := by kernel_rfl
theorem qs74 : qSize Try.prog 74 = some 1 := by kernel_rfl
theorem qb74 : qBytes Try.prog 74 = some 8 := by kernel_rfl
theorem qa74 : qAgg Try.prog 74 = some false := by kernel_rfl
theorem qz74 : qZero Try.prog 74 = some (.pointer none) := by kernel_rfl
theorem qs75 : qSize Try.prog 75 = some 1 := by kernel_rfl
theorem qb75 : qBytes Try.prog 75 = some 8 := by kernel_rfl
theorem qa75 : qAgg Try.prog 75 = some false := by kernel_rfl
theorem qz75 : qZero Try.prog 75 = some (.int .u64 0) := by kernel_rfl
theorem qk75 : qKind Try.prog 75 = some .u64 := by kernel_rfl
theorem qui75 : (Try.prog.underlying 75).isSome = true := by kernel_rfl
theorem qs77 : qSize Try.prog 77 = some 3 := by kernel_rfl
theorem qb77 : qBytes Try.prog 77 = some 40 := by kernel_rfl
theorem qa77 : qAgg Try.prog 77 = some true := by kernel_rfl
theorem qz77 : qZero Try.prog 77 = some (.agg #[.slice none 0 0, .int .i64 0, .int .u64 0]) := by kernel_rfl
theorem qg77 : qFields Try.prog 77 = some [(0, 1), (1, 1), (2, 1)] := by kernel_rfl
theorem qf77_0 : qField Try.prog 77 0 = some (0, 49) := by kernel_rfl
theorem qf77_1 : qField Try.prog 77 1 = some (1, 3) := by kernel_rfl
theorem qf77_2 : qField Try.prog 77 2 = some (2, 75) := by kernel_rfl
theorem qs84 : qSize Try.prog 84 = some 1 := by kernel_rfl
theorem qb84 : qBytes Try.prog 84 = some 8 := by kernel_rfl
theorem qa84 : qAgg Try.prog 84 = some false := by kernel_rfl
theorem qz84 : qZero Try.prog 84 = some (.int .u64 0) := by kernel_rfl
theorem qk84 : qKind Try.prog 84 = some .u64 := by kernel_rfl
theorem qui84 : (Try.prog.underlying 84).isSome = true := by kernel_rfl
set_option linter.defProp false
/-- The facts, in one name. -/
def fcT := And.intro @qs3 <| And.intro @qb3 <| And.intro @qa3 <| And.intro @qz3 <| And.intro @qk3 <| And.intro @qui3 <| And.intro @qs4 <| And.intro @qb4 <| And.intro @qa4 <| And.intro @qz4 <| And.intro @qo4 <| And.intro @qs5 <| And.intro @qb5 <| And.intro @qa5 <| And.intro @qz5 <| And.intro @qk5 <| And.intro @qui5 <| And.intro @qs22 <| And.intro @qb22 <| And.intro @qa22 <| And.intro @qz22 <| And.intro @qe22 <| And.intro @qs25 <| And.intro @qb25 <| And.intro @qa25 <| And.intro @qz25 <| And.intro @qe25 <| And.intro @qs40 <| And.intro @qb40 <| And.intro @qa40 <| And.intro @qz40 <| And.intro @qe40 <| And.intro @qs49 <| And.intro @qb49 <| And.intro @qa49 <| And.intro @qz49 <| And.intro @qe49 <| And.intro @qs56 <| And.intro @qb56 <| And.intro @qa56 <| And.intro @qz56 <| And.intro @qg56 <| And.intro @qi56 <| And.intro @qf56_0 <| And.intro @qf56_1 <| And.intro @qf56_2 <| And.intro @qs58 <| And.intro @qb58 <| And.intro @qa58 <| And.intro @qz58 <| And.intro @qg58 <| And.intro @qi58 <| And.intro @qf58_0 <| And.intro @qf58_1 <| And.intro @qf58_2 <| And.intro @qs74 <| And.intro @qb74 <| And.intro @qa74 <| And.intro @qz74 <| And.intro @qs75 <| And.intro @qb75 <| And.intro @qa75 <| And.intro @qz75 <| And.intro @qk75 <| And.intro @qui75 <| And.intro @qs77 <| And.intro @qb77 <| And.intro @qa77 <| And.intro @qz77 <| And.intro @qg77 <| And.intro @qf77_0 <| And.intro @qf77_1 <| And.intro @qf77_2 <| And.intro @qs84 <| And.intro @qb84 <| And.intro @qa84 <| And.intro @qz84 <| And.intro @qk84 <| And.intro @qui84 <| True.intro
end Go.Proofs.Ytgjkjibllgpnjaa
